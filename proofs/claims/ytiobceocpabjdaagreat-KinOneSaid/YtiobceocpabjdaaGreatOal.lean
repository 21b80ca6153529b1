import Derived.Test.YtiobceocpabjdaaGreatOae
import Derived.Test.YtiobceocpabjdaaGreatOak
set_option linter.unusedSimpArgs false
set_option linter.unusedVariables false
namespace Go.Proofs.YtiobceocpabjdaaGreat
open Go Pm
theorem OC{x y:List Int}(cy:Cn y)(hy:0<y.length):∀(j:Nat),j≤x.length→exs y j (List.replicate j 0++x.drop j) (bR (aO (x.take j)) y)=some (x,[])
 | 0,_=>by
  have:bR (aO (x.take 0)) y = []:=Cn.ext (Cn.bR _ _) Cn.nil fun t=>by rw [dJ,c8];simp [V]
  rw [exs,this];rfl
 | j+1,h=>by
  have ih:=OC (x:=x) cy hy j (by omega)
  have hly:=dC cy hy
  have ht:=bF (l:=x) (i:=j) (by omega)
  have hdr:x.drop j=nth x j::x.drop (j+1):=by
   rw [List.drop_eq_getElem_cons (l:=x) (i:=j) (by omega),show nth x j=x[j]from bW (by omega)]
  rw [exs]
  by_cases hv:nth x j=0
  ·have hw:aO (x.take (j+1))=aO (x.take j):=by rw [ht,hv,j2]
   rw [hw]
   have h1:=r7 (x:=aO (x.take j)) hy
   have h2:=bV (x.take j)
   rw [List.length_take]at h2
   rw [if_pos (by omega),←ih]
   rw [hdr,hv,List.replicate_succ',List.append_assoc];rfl
  ·have hw:aO (x.take (j+1))=x.take j ++ [nth x j]:=by rw [ht];exact jL hv _
   have cw:Cn (x.take j ++ [nth x j]):=jL hv _
   have hwl:(x.take j ++ [nth x j]).length=j+1:=by simp;omega
   have hlw:lead (x.take j ++ [nth x j])=nth x j:=by
    rw [lead,hwl,Nat.add_sub_cancel,bW (by omega)]
    have:(x.take j).length=j:=by simp;omega
    simp [List.getElem_append_right,this]
   rw [hw]
   have hl:=j6 cw cy (by omega) hy
   have hd:=xX cw cy (by omega) hy
   rw [hwl]at hl
   rw [hlw]at hd
   rw [if_neg (by omega),hd,if_pos (Int.mul_emod_left _ _),Int.mul_ediv_cancel _ hly]
   have e1:fL (bR (x.take j ++ [nth x j]) y) (bR (rA j (nth x j)) y)=bR (aO (x.take j)) y:=Cn.ext (Cn.fL _ _) (Cn.bR _ _) fun t=>by
    rw [i7,dJ,dJ,dJ,c8,eB,n9,oC,show(x.take j).length=j by simp;omega]
    grind
   have e2:(List.replicate (j+1) 0++x.drop (j+1)).set j (nth x j)=List.replicate j 0++x.drop j:=by
    rw [hdr,List.replicate_succ',List.append_assoc,List.set_append_right _ _ (by simp)]
    simp
   rw [e1,e2]
   exact ih
theorem SZ{x y:List Int}(cx:Cn x)(cy:Cn y)(hy:0<y.length):exact (bR x y) y=some x:=by
 have hk:jU (bR x y) y=x.length:=by
  rcases Nat.eq_zero_or_pos x.length with h | h
  ·have:x = []:=List.eq_nil_of_length_eq_zero h
   have e:bR x y = []:=Cn.ext (Cn.bR _ _) Cn.nil fun t=>by rw [dJ,this];simp [V]
   rw [e,this];simp [jU];omega
  ·have:=j6 cx cy h hy
   unfold jU;omega
 have h1:=OC (x:=x) cy hy x.length (Nat.le_refl _)
 rw [List.take_length,show aO x=x from cx,List.drop_length,List.append_nil]at h1
 rw [exact,hk,h1,exF,show aO x=x from cx]
theorem JP{y h:List Int}(cy:Cn y)(hy:0<y.length)(e:∀t,V t y*V t h=0):aO h = []:=by
 by_cases hh:aO h = []
 ·exact hh
 ·exfalso
  have h1:bR y (aO h) = []:=Cn.ext (Cn.bR _ _) Cn.nil fun t=>by rw [dJ,c8,e];rfl
  have h2:=j6 cy (Cn.cut h) hy (List.length_pos_iff.2 hh)
  rw [h1]at h2
  have:=List.length_pos_iff.2 hh
  simp at h2;omega
theorem OD{a b:List Int}(h:aO (fL a b) = [])(t:Int):V t a=V t b:=by
 have h1:=i7 (t:=t) a b
 rw [←c8,h]at h1
 have:V t ([]:List Int)=0:=rfl
 omega
theorem Z7{D:Int}(h:D≠0)(x:List Int):qd (x.map (· * D)) D=qs x:=by
 have:=SU (D:=1) (l:=D) (by decide) h x
 rw [Int.one_mul,JK]at this
 exact this
theorem adT{x y q:List Int}(cx:Cn x)(cy:Cn y)(hy:0<y.length)(cq:Cn q)(h:∀t,V t x=V t q*V t y):qd (aO (dmd x y).Q) (dmd x y).D=qs q∧(dmd x y).r = []:=by
 obtain⟨hI,hr⟩:=ahV cx cy hy
 generalize dmd x y=σ at *
 have hv:=hI.v
 have e:∀t,V t σ.r=V t y*V t (fL (q.map (· * σ.D)) σ.Q):=fun t=>by
  have h1:=hv t
  rw [h]at h1
  rw [i7,eC]
  grind
 have h1:=GD hI.c cy hy e hr
 have h2:aO (fL (q.map (· * σ.D)) σ.Q) = []:=JP cy hy fun t=>by rw [←e,h1];rfl
 have e2:aO σ.Q=q.map (· * σ.D):=Cn.ext (Cn.cut _) (lS cq hI.d) fun t=>by rw [c8];exact(OD h2 t).symm
 rw [e2]
 exact⟨Z7 hI.d q,h1⟩
end Go.Proofs.YtiobceocpabjdaaGreat
namespace Pm
structure ZX where
 l:List Int
 c:Cn l
namespace ZX
theorem ext{x y:ZX}(h:∀t,V t x.l=V t y.l):x=y:=by
 obtain⟨x,hx⟩:=x
 obtain⟨y,hy⟩:=y
 have:=Cn.ext hx hy h
 subst this
 rfl
def of(x:List Int):ZX:=⟨aO x,Cn.cut x⟩
def K(c:Int):ZX:=of [c]
instance:Zero ZX:=⟨⟨[],Cn.nil⟩⟩
instance:One ZX:=⟨K 1⟩
instance:Add ZX:=⟨fun x y=>⟨iJ x.l y.l,Cn.iJ _ _⟩⟩
instance:Mul ZX:=⟨fun x y=>⟨bR x.l y.l,Cn.bR _ _⟩⟩
instance:Neg ZX:=⟨fun x=>⟨gV x.l,Cn.gV _⟩⟩
instance:Sub ZX:=⟨fun x y=>⟨fL x.l y.l,Cn.fL _ _⟩⟩
def pow(x:ZX):Nat→ZX
 | 0=>1
 | n+1=>pow x n*x
instance:HPow ZX Nat ZX:=⟨pow⟩
instance:NatCast ZX:=⟨fun n=>K n⟩
instance (n:Nat):OfNat ZX n:=⟨K n⟩
instance:IntCast ZX:=⟨fun n=>K n⟩
instance:SMul Nat ZX:=⟨fun n x=>K n*x⟩
instance:SMul Int ZX:=⟨fun n x=>K n*x⟩
variable {t:Int}
theorem Z8(x:List Int):V t (of x).l=V t x:=c8 x
theorem wV(c:Int):V t (K c).l=c:=by rw [K,Z8];simp [V]
theorem uZ:V t (0:ZX).l=0:=wV 0
theorem G1:V t (1:ZX).l=1:=wV 1
theorem mP(x y:ZX):V t (x+y).l=V t x.l+V t y.l:=r6 _ _
theorem eE(x y:ZX):V t (x*y).l=V t x.l*V t y.l:=dJ _ _
theorem G2(x:ZX):V t (-x).l = -V t x.l:=CQ _
theorem auR(x y:ZX):V t (x-y).l=V t x.l-V t y.l:=i7 _ _
theorem V3(x:ZX):∀n:Nat,V t (x^n).l=V t x.l^n
 | 0=>by show V t (1:ZX).l=_;rw [G1,Int.pow_zero]
 | n+1=>by show V t ((x^n)*x).l=_;rw [eE,V3 x n,Int.pow_succ]
theorem V4(n:Nat):V t (OfNat.ofNat n:ZX).l=n:=wV n
theorem akt(n:Int):V t (n:ZX).l=n:=wV n
theorem V5(n:Int)(x:ZX):V t (n • x).l=n*V t x.l:=by show V t (K n*x).l=_;rw [eE,wV]
instance:Lean.Grind.CommRing ZX where
 add_zero x:=ext fun t=>by rw [mP,uZ];omega
 add_comm x y:=ext fun t=>by rw [mP,mP];omega
 add_assoc x y z:=ext fun t=>by simp only [mP];omega
 mul_assoc x y z:=ext fun t=>by simp only [eE];grind
 mul_one x:=ext fun t=>by rw [eE,G1];omega
 one_mul x:=ext fun t=>by rw [eE,G1];omega
 left_distrib x y z:=ext fun t=>by simp only [eE,mP];grind
 right_distrib x y z:=ext fun t=>by simp only [eE,mP];grind
 zero_mul x:=ext fun t=>by rw [eE,uZ];omega
 mul_zero x:=ext fun t=>by rw [eE,uZ];omega
 pow_zero x:=ext fun t=>by rw [V3,G1,Int.pow_zero]
 pow_succ x n:=ext fun t=>by rw [eE,V3,V3,Int.pow_succ]
 ofNat_succ n:=ext fun t=>by rw [mP,V4,V4,G1];omega
 ofNat_eq_natCast n:=rfl
 nsmul_eq_natCast_mul n x:=rfl
 neg_add_cancel x:=ext fun t=>by rw [mP,G2,uZ];omega
 sub_eq_add_neg x y:=ext fun t=>by rw [auR,mP,G2];omega
 neg_zsmul n x:=ext fun t=>by rw [V5,G2,V5];grind
 zsmul_natCast_eq_nsmul n x:=rfl
 intCast_ofNat n:=rfl
 intCast_neg n:=ext fun t=>by rw [akt,G2,akt]
 mul_comm x y:=ext fun t=>by rw [eE,eE,Int.mul_comm]
def N(x:ZX):Nat:=x.l.length
theorem aF{x:ZX}:x≠0↔0<N x:=by
 constructor
 ·intro h
  rcases Nat.eq_zero_or_pos (N x)with h1 | h1
  ·exfalso
   apply h
   have:x.l = []:=List.eq_nil_of_length_eq_zero h1
   exact ext fun t=>by rw [this,uZ];rfl
  ·exact h1
 ·rintro h rfl
  have:N (0:ZX)=0:=by decide
  omega
theorem adr:N (0:ZX)=0:=by decide
theorem lI{x y:ZX}(hx:x≠0)(hy:y≠0):N (x*y)=N x+N y-1:=j6 x.c y.c (aF.1 hx) (aF.1 hy)
theorem oW{x y:ZX}(hx:x≠0)(hy:y≠0):x*y≠0:=by
 rw [aF,lI hx hy]
 have:=aF.1 hx
 have:=aF.1 hy
 omega
theorem sI{x y:ZX}(h:x*y=0):x=0∨y=0:=by
 by_cases hx:x=0
 ·exact .inl hx
 ·by_cases hy:y=0
  ·exact .inr hy
  ·exact absurd h (oW hx hy)
theorem Z9(x y:ZX):x*y=y*x:=by grind
theorem cancel{x y z:ZX}(hz:z≠0)(h:z*x=z*y):x=y:=by
 have h1:z*(x-y)=0:=by grind
 rcases sI h1 with h2 | h2
 ·exact absurd h2 hz
 ·grind
theorem pR{c:Int}(h:c≠0):K c≠0:=fun e=>h (by
 have:=wV (t:=0) c
 rw [e,uZ]at this;omega)
theorem N_K{c:Int}(h:c≠0):N (K c)=1:=by
 show(aO [c]).length=1
 rw [show aO [c] = [c]from jL h []];rfl
theorem pS(c d:Int):K c*K d=K (c*d):=ext fun t=>by rw [eE,wV,wV,wV]
theorem lJ{x:ZX}(h:N x=1):∃c,c≠0∧x=K c:=by
 obtain⟨l,hl⟩:=x
 match l,hl,h with
 | [c],hl,_ =>
  have hc:c≠0:=by
   have:=dC hl (by simp)
   simpa [lead,s7]using this
  exact⟨c,hc,ext fun t=>by rw [wV];simp [V]⟩
theorem mT{c:Int}{x y q:ZX}(hc:c≠0)(hx:x≠0)(h:K c*x=q*y):q≠0∧y≠0:=by
 have h1:=oW (pR hc) hx
 rw [h]at h1
 constructor
 ·rintro rfl;apply h1;grind
 ·rintro rfl;apply h1;grind
theorem yA:(1:ZX)≠0:=pR (by decide)
theorem G3:N (1:ZX)=1:=N_K (by decide)
def dv(y x:ZX):Prop:=∃c:Int,c≠0 ∧ ∃q,K c*x=q*y
theorem dv.refl(x:ZX):dv x x:=⟨1,by decide,K 1,rfl⟩
theorem dv.zero(x:ZX):dv x 0:=⟨1,by decide,0,by grind⟩
theorem dv.trans{x y z:ZX}(h1:dv x y)(h2:dv y z):dv x z:=by
 obtain⟨c,hc,q,h1⟩:=h1
 obtain⟨d,hd,r,h2⟩:=h2
 exact⟨c*d,Int.mul_ne_zero hc hd,q*r,by rw [←pS];grind⟩
theorem dv.mul_right{x y:ZX}(h:dv x y)(z:ZX):dv x (y*z):=by
 obtain⟨c,hc,q,h⟩:=h
 exact⟨c,hc,q*z,by grind⟩
theorem dv.mul_left{x y:ZX}(h:dv x y)(z:ZX):dv x (z*y):=by
 obtain⟨c,hc,q,h⟩:=h
 exact⟨c,hc,q*z,by grind⟩
theorem dv.mul{x y z w:ZX}(h1:dv x y)(h2:dv z w):dv (x*z) (y*w):=by
 obtain⟨c,hc,q,h1⟩:=h1
 obtain⟨d,hd,r,h2⟩:=h2
 exact⟨c*d,Int.mul_ne_zero hc hd,q*r,by rw [←pS];grind⟩
theorem dv.add{x y z:ZX}(h1:dv x y)(h2:dv x z):dv x (y+z):=by
 obtain⟨c,hc,q,h1⟩:=h1
 obtain⟨d,hd,r,h2⟩:=h2
 exact⟨c*d,Int.mul_ne_zero hc hd,K d*q+K c*r,by rw [←pS];grind⟩
theorem dv.FE{x y:ZX}{c:Int}(hc:c≠0)(h:dv x (K c*y)):dv x y:=by
 obtain⟨d,hd,q,h⟩:=h
 exact⟨d*c,Int.mul_ne_zero hd hc,q,by rw [←pS];grind⟩
theorem dv.nQ{x y:ZX}(h:dv x y)(hy:y≠0):N x≤N y:=by
 obtain⟨c,hc,q,h⟩:=h
 obtain⟨h1,h2⟩:=mT hc hy h
 have h3:N (K c*y)=N y:=by rw [lI (pR hc) hy,N_K hc];have:=aF.1 hy;omega
 rw [h,lI h1 h2]at h3
 have:=aF.1 h1
 omega
theorem dv.ne{x y:ZX}(h:dv x y)(hy:y≠0):x≠0:=by
 obtain⟨c,hc,q,h⟩:=h
 exact(mT hc hy h).2
theorem AZ{x:ZX}(h:dv 0 x):x=0:=by
 obtain⟨c,hc,q,h⟩:=h
 have h2:K c*x=0:=by grind
 exact(sI h2).resolve_left (pR hc)
theorem auS{c:Int}(hc:c≠0)(x:ZX):dv (K c) x:=⟨c,hc,x,by grind⟩
theorem ahX{x y:ZX}(h:dv x y)(hy:y≠0)(hN:N x=N y):dv y x:=by
 obtain⟨c,hc,q,h⟩:=h
 obtain⟨h1,h2⟩:=mT hc hy h
 have h3:N (K c*y)=N y:=by rw [lI (pR hc) hy,N_K hc];have:=aF.1 hy;omega
 rw [h,lI h1 h2]at h3
 have h4:=aF.1 h1
 have h5:=aF.1 h2
 obtain⟨d,hd,rfl⟩:=lJ (x:=q) (by omega)
 exact⟨d,hd,K c,by rw [h]⟩
theorem adU(a:ZX){b:ZX}(hb:b≠0):∃c:Int,c≠0 ∧ ∃q r,K c*a=q*b+r∧N r<N b:=by
 have h0:=aF.1 hb
 obtain⟨c1,c2⟩:=CU (b:=b.l) a.c
 refine⟨lead b.l^jU a.l b.l,Int.pow_ne_zero (dC b.c h0),⟨_,c1⟩,⟨_,c2⟩,ext fun t=>?_,?_⟩
 ·rw [eE,wV,mP,eE]
  exact(acN t a.l b.l).symm
 ·have:=I6 (a:=a.l) h0
  show(zF a.l b.l).2.length<b.l.length
  have:0<b.l.length:=h0
  omega
structure rF(g a b:ZX):Prop where
 l:dv g a
 r:dv g b
 uv:∃c:Int,c≠0 ∧ ∃u v,K c*g=u*a+v*b
theorem rF.least{g a b d:ZX}(h:rF g a b)(ha:dv d a)(hb:dv d b):dv d g:=by
 obtain⟨c,hc,u,v,e⟩:=h.uv
 refine dv.FE hc ?_
 rw [e]
 exact(ha.mul_left u).add (hb.mul_left v)
theorem rF.ne{g a b:ZX}(h:rF g a b)(ha:a≠0∨b≠0):g≠0:=by
 rintro rfl
 rcases ha with h1 | h1
 ·exact h1 (AZ h.l)
 ·exact h1 (AZ h.r)
theorem rF.zero(a:ZX):rF a a 0:=⟨dv.refl a,dv.zero a,1,by decide,1,0,by show(1:ZX)*a=_;grind⟩
theorem rF.symm{g a b:ZX}(h:rF g a b):rF g b a:=by
 obtain⟨c,hc,u,v,e⟩:=h.uv
 exact⟨h.r,h.l,c,hc,v,u,by grind⟩
theorem rF.step{g a b q r:ZX}{c:Int}(hc:c≠0)(e:K c*a=q*b+r)(h:rF g b r):rF g a b:=by
 obtain⟨d,hd,u,v,e2⟩:=h.uv
 refine⟨dv.FE hc ?_,h.l,d,hd,v*K c,u-v*q,by grind⟩
 rw [e]
 exact(h.l.mul_left q).add h.r
theorem jW:∀(n:Nat) (a b:ZX),N b≤n → ∃g,rF g a b
 | 0,a,b,h=>by
  have:b=0:=Classical.byContradiction fun hb=>by have:=aF.1 hb;omega
  subst this
  exact⟨a,rF.zero a⟩
 | n+1,a,b,h=>by
  by_cases hb:b=0
  ·subst hb;exact⟨a,rF.zero a⟩
  ·obtain⟨c,hc,q,r,e,hr⟩:=adU a hb
   obtain⟨g,hg⟩:=jW n b r (by omega)
   exact⟨g,hg.step hc e⟩
structure oX(p:ZX):Prop where
 deg:2≤N p
 irr:∀d,dv d p→N d=1∨N d=N p
theorem oX.ne{p:ZX}(h:oX p):p≠0:=aF.2 (by have:=h.deg;omega)
theorem oX.aku{p a b:ZX}(hp:oX p)(h:dv p (a*b)):dv p a∨dv p b:=by
 obtain⟨g,hg⟩:=jW _ p a (Nat.le_refl _)
 rcases hp.irr g hg.l with h1 | h1
 ·right
  obtain⟨k,hk,rfl⟩:=lJ h1
  obtain⟨c,hc,u,v,e⟩:=hg.uv
  refine dv.FE (c:=c*k) (Int.mul_ne_zero hc hk) ?_
  have e2:K (c*k)*b=(u*b)*p+v*(a*b):=by rw [←pS];grind
  rw [e2]
  exact((dv.refl p).mul_left _).add (h.mul_left v)
 ·left
  exact(ahX hg.l hp.ne h1).trans hg.r
theorem nR:∀(n:Nat) (a:ZX),N a≤n→2≤N a → ∃p,oX p∧dv p a
 | 0,a,h,h2=>by omega
 | n+1,a,h,h2=>by
  by_cases hi:∃d,dv d a∧N d≠1∧N d≠N a
  ·obtain⟨d,hd,h3,h4⟩:=hi
   have h5:=hd.nQ (aF.2 (by omega))
   have h6:=aF.1 (hd.ne (aF.2 (by omega)))
   obtain⟨p,hp,hpd⟩:=nR n d (by omega) (by omega)
   exact⟨p,hp,hpd.trans hd⟩
  ·refine⟨a,⟨h2,fun d hd=>?_⟩,dv.refl a⟩
   by_cases h3:N d=1
   ·exact .inl h3
   ·by_cases h4:N d=N a
    ·exact .inr h4
    ·exact absurd ⟨d,hd,h3,h4⟩ hi
theorem pow_succ'(p:ZX)(k:Nat):p^(k+1)=p^k*p:=rfl
theorem eM(p:ZX):p^0=1:=rfl
theorem pow_add'(p:ZX)(j:Nat):∀k,p^(j+k)=p^j*p^k
 | 0=>by rw [Nat.add_zero,eM];grind
 | k+1=>by rw [←Nat.add_assoc,pow_succ',pow_succ',pow_add' p j k];grind
theorem JQ{p:ZX}(hp:p≠0):∀k:Nat,p^k≠0
 | 0=>yA
 | k+1=>oW (JQ hp k) hp
theorem adV{p:ZX}(hp:oX p):∀k:Nat,k<N (p^k)
 | 0=>by rw [eM,G3];omega
 | k+1=>by
  rw [pow_succ',lI (JQ hp.ne k) hp.ne]
  have:=adV hp k
  have:=hp.deg
  omega
theorem adW{p:ZX}{j k:Nat}(h:j≤k):dv (p^j) (p^k):=by
 obtain⟨d,rfl⟩:=Nat.exists_eq_add_of_le h
 rw [pow_add']
 exact(dv.refl _).mul_right _
theorem aaa{p a:ZX}(hp:oX p)(ha:a≠0):∃k,dv (p^k) a∧¬dv (p^(k+1)) a:=by
 have key:∀n,(∃k,k≤n∧dv (p^k) a∧¬dv (p^(k+1)) a)∨dv (p^(n+1)) a:=by
  intro n
  induction n with
  | zero =>
   by_cases h:dv (p^1) a
   ·exact .inr h
   ·exact .inl ⟨0,Nat.le_refl _,auS (by decide) a,h⟩
  | succ n ih =>
   rcases ih with ⟨k,h1,h2⟩ | ih
   ·exact .inl ⟨k,by omega,h2⟩
   ·by_cases h:dv (p^(n+2)) a
    ·exact .inr h
    ·exact .inl ⟨n+1,Nat.le_refl _,ih,h⟩
 rcases key (N a)with ⟨k,_,h⟩ | h
 ·exact⟨k,h⟩
 ·have h1:=h.nQ ha
  have h2:=adV hp (N a+1)
  omega
open Classical in
noncomputable def mu(p a:ZX):Nat:=if h:∃k,dv (p^k) a∧¬dv (p^(k+1)) a then h.choose else 0
theorem V6{p a:ZX}(hp:oX p)(ha:a≠0):dv (p^mu p a) a∧¬dv (p^(mu p a+1)) a:=by
 have h:=aaa hp ha
 unfold mu
 rw [dif_pos h]
 exact h.choose_spec
theorem jF{p a:ZX}(hp:oX p)(ha:a≠0){k:Nat}:k≤mu p a↔dv (p^k) a:=by
 obtain⟨h1,h2⟩:=V6 hp ha
 constructor
 ·intro h;exact(adW h).trans h1
 ·intro h
  rcases Nat.lt_or_ge (mu p a) k with h3 | h3
  ·exact absurd ((adW h3).trans h) h2
  ·exact h3
theorem DP{p a:ZX}(hp:oX p)(ha:a≠0):∃c:Int,c≠0 ∧ ∃b,b≠0∧K c*a=b*p^mu p a∧¬dv p b:=by
 obtain⟨⟨c,hc,b,e⟩,h2⟩:=V6 hp ha
 refine⟨c,hc,b,(mT hc ha e).1,e,fun h=>h2 (dv.FE hc ?_)⟩
 rw [e,pow_succ']
 have:=h.mul (dv.refl (p^mu p a))
 rw [show p^mu p a*p=p*p^mu p a by grind]
 exact this
theorem yB{p a b:ZX}(hp:oX p)(ha:a≠0){c:Int}(hc:c≠0){k:Nat}(e:K c*a=b*p^k)(h:¬dv p b):mu p a=k:=by
 have h1:k≤mu p a:=(jF hp ha).2 ⟨c,hc,b,e⟩
 rcases Nat.lt_or_ge k (mu p a)with h2 | h2
 ·exfalso
  obtain⟨d,hd,r,e2⟩:=(jF hp ha).1 h2
  apply h
  refine⟨d,hd,K c*r,ZX.cancel (JQ hp.ne k) ?_⟩
  rw [pow_succ']at e2
  grind
 ·omega
theorem sJ{p a b:ZX}(hp:oX p)(ha:a≠0)(hb:b≠0):mu p (a*b)=mu p a+mu p b:=by
 obtain⟨c,hc,x,_,e1,h1⟩:=DP hp ha
 obtain⟨d,hd,y,_,e2,h2⟩:=DP hp hb
 refine yB (b:=x*y) hp (oW ha hb) (Int.mul_ne_zero hc hd) ?_ fun h=>?_
 ·rw [pow_add',←pS];grind
 ·rcases hp.aku h with h3 | h3
  ·exact h1 h3
  ·exact h2 h3
theorem aab{p:ZX}(hp:oX p){c:Int}(hc:c≠0):mu p (K c)=0:=by
 refine yB (b:=K c) (c:=1) hp (pR hc) (by decide) (by rw [eM];show(1:ZX)*K c=_;grind) fun h=>?_
 have:=h.nQ (pR hc)
 rw [N_K hc]at this
 have:=hp.deg
 omega
theorem V7{p a b:ZX}(hp:oX p)(hb:b≠0)(h:dv a b):mu p a≤mu p b:=(jF hp hb).2 (((jF hp (h.ne hb)).1 (Nat.le_refl _)).trans h)
theorem akv{p a b q:ZX}(hp:oX p){c:Int}(hc:c≠0)(ha:a≠0)(e:K c*a=q*b):mu p a=mu p q+mu p b:=by
 obtain⟨h1,h2⟩:=mT hc ha e
 rw [←sJ hp h1 h2,←e,sJ hp (pR hc) ha,aab hp hc];omega
theorem OE:∀(n:Nat) (a b:ZX),N a≤n→a≠0→b≠0→(∀p,oX p→mu p a≤mu p b)→dv a b
 | 0,a,b,hn,ha,_,_=>by have:=aF.1 ha;omega
 | n+1,a,b,hn,ha,hb,h=>by
  rcases Nat.lt_or_ge (N a) 2 with h1 | h1
  ·obtain⟨c,hc,rfl⟩:=lJ (x:=a) (by have:=aF.1 ha;omega)
   exact auS hc b
  ·obtain⟨p,hp,hpa⟩:=nR _ a (Nat.le_refl _) h1
   have h2:1≤mu p a:=(jF hp ha).2 (by rw [show p^1=p by rw [pow_succ',eM];grind];exact hpa)
   have h3:dv p b:=by
    have:=(jF hp hb).1 (Nat.le_trans h2 (h p hp))
    rwa [show p^1=p by rw [pow_succ',eM];grind]at this
   obtain⟨c,hc,a',ea⟩:=hpa
   obtain⟨d,hd,b',eb⟩:=h3
   obtain⟨K3,_⟩:=mT hc ha ea
   obtain⟨jX,_⟩:=mT hd hb eb
   have h4:N (K c*a)=N a:=by rw [lI (pR hc) ha,N_K hc];have:=aF.1 ha;omega
   have h5:dv a' b':=OE n a' b' (by
    rw [ea,lI K3 hp.ne]at h4
    have:=hp.deg
    omega) K3 jX fun r hr=>by
    have h6:=h r hr
    rw [akv hr hc ha ea,akv hr hd hb eb]at h6
    omega
   refine dv.FE hd ?_
   rw [eb]
   have h7:=h5.mul (dv.refl p)
   rw [←ea]at h7
   obtain⟨e,he,q,e3⟩:=h7
   exact⟨e,he,q*K c,by grind⟩
theorem j8{a b:ZX}(ha:a≠0)(hb:b≠0):dv a b ↔ ∀p,oX p→mu p a≤mu p b:=⟨fun h p hp=>V7 hp hb h,OE _ a b (Nat.le_refl _) ha hb⟩
theorem rF.mu{g a b p:ZX}(h:rF g a b)(ha:a≠0)(hb:b≠0)(hp:oX p):mu p g=min (ZX.mu p a) (ZX.mu p b):=by
 have hg:=h.ne (.inl ha)
 have h1:=V7 hp ha h.l
 have h2:=V7 hp hb h.r
 have h3:min (ZX.mu p a) (ZX.mu p b)≤ZX.mu p g:=(jF hp hg).2 (h.least ((jF hp ha).1 (Nat.min_le_left _ _)) ((jF hp hb).1 (Nat.min_le_right _ _)))
 omega
def yC(x:List Int):List Int:=(List.range (x.length-1)).map fun i=>nth x (i+1)*((i+1:Nat):Int)
def rD:Nat→List Int→List Int
 | _,[]=>[]
 | k,a::l=>a*(k:Int)::rD (k+1) l
def W(t:Int):List Int→Int
 | []=>0
 | _::l=>V t l+t*W t l
theorem V8:∀(l:List Int) (k:Nat),rD k l=(List.range l.length).map fun i=>nth l i*((k+i:Nat):Int)
 | [],k=>rfl
 | a::l,k=>by
  rw [rD,V8 l (k+1),List.length_cons,List.range_succ_eq_map,List.map_cons,List.map_map]
  congr 1
  refine List.map_congr_left fun i _=>?_
  simp only [Function.comp_apply,j7]
  rw [show k+1+i=k+(i+1)by omega]
theorem G4(a:Int)(l:List Int):yC (a::l)=rD 1 l:=by
 rw [V8,yC,List.length_cons,Nat.add_sub_cancel]
 refine List.map_congr_left fun i _=>?_
 rw [j7,show i+1=1+i by omega]
theorem zS(t:Int):∀(l:List Int) (k:Nat),V t (rD (k+1) l)=V t (rD k l)+V t l
 | [],k=>by simp [rD,V]
 | a::l,k=>by
  simp only [rD,V]
  rw [zS t l (k+1)]
  have:((k+1:Nat):Int)=(k:Int)+1:=by omega
  rw [this];grind
theorem DQ(t:Int):∀l:List Int,V t (rD 1 l)=V t l+t*W t l
 | []=>by simp [rD,V,W]
 | b::m=>by
  rw [rD]
  simp only [V,W]
  rw [zS,DQ t m]
  rw [show((1:Nat):Int)=1 from rfl]
  grind
theorem aoi(t:Int):∀x:List Int,V t (yC x)=W t x
 | []=>rfl
 | a::l=>by rw [G4,DQ];rfl
def bY(x:ZX):ZX:=of (yC x.l)
theorem OG(x:ZX):V t (bY x).l=W t x.l:=by rw [bY,Z8,aoi]
theorem JR(t h:Int):∀x:List Int,∃R:Int,V (t+h) x=V t x+h*W t x+h*h*R
 | []=>⟨0,by simp [V,W]⟩
 | a::l=>by
  obtain⟨R,hR⟩:=JR t h l
  refine⟨W t l+(t+h)*R,?_⟩
  simp only [V,W]
  rw [hR];grind
theorem S3{t A:Int}{z:List Int}(hA:∀h,∃R:Int,V (t+h) z=V t z+h*A+h*h*R):W t z=A:=by
 have key:∀h:Int,h≠0→h∣W t z-A:=fun h hh=>by
  obtain⟨R,hR⟩:=hA h
  obtain⟨S,hS⟩:=JR t h z
  refine⟨R-S,Int.eq_of_mul_eq_mul_left hh ?_⟩
  grind
 have h1:=key (((W t z-A).natAbs:Int)+1) (by omega)
 have h2:=Int.natAbs_dvd_natAbs.2 h1
 rcases Nat.eq_zero_or_pos (W t z-A).natAbs with h3 | h3
 ·omega
 ·have:=Nat.le_of_dvd h3 h2
  omega
theorem tB(x y:ZX):bY (x*y)=bY x*y+x*bY y:=ext fun t=>by
 rw [OG,mP,eE,eE,OG,OG]
 refine S3 fun h=>?_
 obtain⟨R,hR⟩:=JR t h x.l
 obtain⟨S,hS⟩:=JR t h y.l
 refine⟨V t x.l*S+R*V t y.l+W t x.l*W t y.l+h*(W t x.l*S+R*W t y.l)+h*h*R*S,?_⟩
 rw [eE,eE,hR,hS];grind
theorem akw(c:Int):bY (K c)=0:=ext fun t=>by
 rw [OG,uZ]
 refine S3 fun h=>⟨0,?_⟩
 rw [wV,wV];grind
theorem adX(c:Int)(x:ZX):bY (K c*x)=K c*bY x:=by rw [tB,akw];grind
theorem V9:bY (1:ZX)=0:=akw 1
theorem WA(p:ZX):∀m:Nat,bY (p^(m+1))=K ((m+1:Nat):Int)*p^m*bY p
 | 0=>by
  rw [pow_succ',tB,eM,V9]
  show _=(1:ZX)*1*bY p
  grind
 | m+1=>by
  rw [pow_succ',tB,WA p m]
  have:K ((m+1+1:Nat):Int)=K ((m+1:Nat):Int)+1:=ext fun t=>by rw [mP,wV,wV,G1];omega
  rw [this,pow_succ'];grind
theorem oG(a:ZX):N (bY a)≤N a-1:=Nat.le_trans (bV _) (by simp [yC,N])
theorem JS{a:ZX}(h:2≤N a):bY a≠0:=by
 have h1:a.l.length=N a:=rfl
 have hl:=dC a.c (by omega)
 intro h0
 have h2:nth (bY a).l (N a-2)=nth a.l (N a-1)*((N a-1:Nat):Int):=by
  show nth (aO (yC a.l)) _=_
  rw [jD,yC,bW (by simp;omega)]
  simp only [List.getElem_map,List.getElem_range]
  rw [show N a-2+1=N a-1 by omega]
 rw [h0]at h2
 have h3:nth (0:ZX).l (N a-2)=0:=iI (by show(0:ZX).l.length≤_;exact Nat.zero_le _)
 rw [h3]at h2
 have h4:nth a.l (N a-1)=lead a.l:=by rw [lead,h1]
 rw [h4]at h2
 exact Int.mul_ne_zero hl (by omega) h2.symm
theorem oX.S4{p:ZX}(hp:oX p):¬dv p (bY p):=fun h=>by
 have h1:=h.nQ (JS hp.deg)
 have h2:=oG p
 have:=hp.deg
 omega
theorem yD{p a:ZX}(hp:oX p)(ha:a≠0){m:Nat}(h:mu p a=m+1):bY a≠0∧mu p (bY a)=m:=by
 obtain⟨c,hc,b,hb,e,hn⟩:=DP hp ha
 rw [h]at e
 have e2:K c*bY a=(bY b*p+K ((m+1:Nat):Int)*(b*bY p))*p^m:=by
  rw [←adX,e,tB,WA,pow_succ'];grind
 have L5:¬dv p (bY b*p+K ((m+1:Nat):Int)*(b*bY p)):=fun h1=>by
  have h2:dv p (K ((m+1:Nat):Int)*(b*bY p)):=by
   have h3:=h1.add ((dv.refl p).mul_left (-bY b))
   rwa [show bY b*p+K ((m+1:Nat):Int)*(b*bY p) + -bY b*p=K ((m+1:Nat):Int)*(b*bY p)by grind]at h3
  have h4:=dv.FE (by omega) h2
  rcases hp.aku h4 with h5 | h5
  ·exact hn h5
  ·exact hp.S4 h5
 have h6:bY a≠0:=fun h0=>by
  rw [h0]at e2
  have h7:(bY b*p+K ((m+1:Nat):Int)*(b*bY p))*p^m=0:=by rw [←e2];grind
  rcases sI h7 with h8 | h8
  ·rw [h8]at L5;exact L5 (dv.zero p)
  ·exact JQ hp.ne m h8
 exact⟨h6,yB hp h6 hc e2 L5⟩
theorem rF.yD{g a p:ZX}(h:rF g a (bY a))(ha:a≠0)(hp:oX p):ZX.mu p g=ZX.mu p a-1:=by
 rcases Nat.eq_zero_or_pos (ZX.mu p a)with h1 | h1
 ·have:=V7 hp ha h.l
  omega
 ·obtain⟨m,hm⟩:∃m,ZX.mu p a=m+1:=⟨ZX.mu p a-1,by omega⟩
  obtain⟨h2,h3⟩:=ZX.yD hp ha hm
  rw [h.mu ha h2 hp,h3,hm];omega
theorem JT{p:ZX}(hp:oX p):mu p 1=0:=aab hp (by decide)
theorem rF.auT{g a b q r:ZX}{c k:Int}(hc:c≠0)(hk:k≠0)(e:K c*a=q*b+K k*r)(h:rF g b r):rF g a b:=by
 obtain⟨d,hd,u,v,e2⟩:=h.uv
 refine⟨dv.FE hc ?_,h.l,k*d,Int.mul_ne_zero hk hd,v*K c,K k*u-v*q,by rw [←pS];grind⟩
 rw [e]
 exact(h.l.mul_left q).add (h.r.mul_left _)
theorem rF.assoc{g g' a b:ZX}(h:rF g a b)(h':rF g' a b):dv g g'∧dv g' g:=⟨h'.least h.l h.r,h.least h'.l h'.r⟩
theorem rF.congr{g a b a' b':ZX}(h:rF g a b)(h1:dv a a')(h2:dv a' a)(h3:dv b b')(h4:dv b' b):rF g a' b':=by
 obtain⟨g',hg'⟩:=jW _ a' b' (Nat.le_refl _)
 obtain⟨c,hc,u,v,e⟩:=hg'.uv
 have h5:dv g g':=hg'.least (h.l.trans h1) (h.r.trans h3)
 have h6:dv g' g:=h.least (hg'.l.trans h2) (hg'.r.trans h4)
 obtain⟨d,hd,w,e2⟩:=h6
 refine⟨h.l.trans h1,h.r.trans h3,c*d,Int.mul_ne_zero hc hd,w*u,w*v,by rw [←pS];grind⟩
end ZX
theorem OH{H t:Nat}:∀ {x:List Int},(∀c∈x,c.natAbs≤H)→(V (t:Int) x).natAbs≤H*(1+t)^x.length
 | [],_=>by simp [V]
 | a::l,h=>by
  have h1:=OH (t:=t) (x:=l) fun c hc=>h c (by simp [hc])
  have h2:=h a (by simp)
  simp only [V]
  have h3:(a+(t:Int)*V t l).natAbs≤a.natAbs+t*(V (t:Int) l).natAbs:=by
   have:=Int.natAbs_add_le a ((t:Int)*V t l)
   rwa [Int.natAbs_mul,Int.natAbs_natCast]at this
  have h4:t*(V (t:Int) l).natAbs≤t*(H*(1+t)^l.length):=Nat.mul_le_mul_left _ h1
  have h5:H*1≤H*(1+t)^l.length:=Nat.mul_le_mul_left _ (Nat.one_le_pow _ _ (by omega))
  rw [List.length_cons,Nat.pow_succ]
  have h6:H*((1+t)^l.length*(1+t))=H*(1+t)^l.length+t*(H*(1+t)^l.length):=by grind
  omega
def sdv(s:Int):List Int→List Int
 | []=>[]
 | _::l=>V s l::sdv s l
theorem akx(s t:Int):∀x:List Int,V t x=V s x+(t-s)*V t (sdv s x)
 | []=>by simp [V,sdv]
 | a::l=>by
  have:=akx s t l
  simp only [V,sdv]
  have h2:t*V t l=t*(V s l+(t-s)*V t (sdv s l)):=by rw [←this]
  grind
theorem OI(s:Int):∀x:List Int,x ≠ [] → ∃y,sdv s x=y ++ [0]∧y.length=x.length-1
 | [],h=>absurd rfl h
 | [a],_=>⟨[],by simp [sdv,V],rfl⟩
 | a::b::l,_=>by
  obtain⟨y,h1,h2⟩:=OI s (b::l) (by simp)
  refine⟨V s (b::l)::y,by rw [sdv,h1];rfl,by simp at h2 ⊢;omega⟩
theorem DR{s:Nat}{M:Nat}:∀ {x:List Int},(V (s:Int) x).natAbs≤M→(∀c∈sdv s x,c.natAbs≤M) → ∀c∈x,c.natAbs≤M*(1+s)
 | [],_,_,c,hc=>by cases hc
 | a::l,h0,h,c,hc=>by
  have h1:(V (s:Int) l).natAbs≤M:=h _ (by simp [sdv])
  have h2:∀c∈sdv s l,c.natAbs≤M:=fun c hc=>h c (by simp [sdv,hc])
  rcases List.mem_cons.1 hc with rfl | hc
  ·simp only [V]at h0
   have h3:c.natAbs≤(c+(s:Int)*V s l).natAbs+s*(V (s:Int) l).natAbs:=by
    have h4:c=(c+(s:Int)*V s l)+(-((s:Int)*V s l)):=by omega
    have h5:=Int.natAbs_add_le (c+(s:Int)*V s l) (-((s:Int)*V s l))
    rw [←h4,Int.natAbs_neg,Int.natAbs_mul,Int.natAbs_natCast]at h5
    exact h5
   have h4:s*(V (s:Int) l).natAbs≤s*M:=Nat.mul_le_mul_left _ h1
   rw [Nat.mul_add,Nat.mul_one,Nat.mul_comm M s];omega
  ·exact DR h1 h2 c hc
theorem JU(K:Nat):∀(P:List Nat) (A:Nat) (x:List Int),P.Nodup→(∀p∈P,p≤K)→x.length≤P.length→(∀p∈P,(V (p:Int) x).natAbs≤A) → ∀c∈x,c.natAbs≤A*(2*(K+1))^P.length
 | [],A,x,_,_,hl,_,c,hc=>by
  have:x = []:=List.eq_nil_of_length_eq_zero (by simpa using hl)
  rw [this]at hc;cases hc
 | s::P,A,x,hd,hK,hl,hv,c,hc=>by
  have hx:x ≠ []:=fun h=>by rw [h]at hc;cases hc
  have h0:=hv s (List.mem_cons_self ..)
  obtain⟨hs,hd⟩:=List.nodup_cons.1 hd
  obtain⟨y,h1,h2⟩:=OI s x hx
  have hy:∀t:Int,V t (sdv s x)=V t y:=fun t=>by rw [h1,eB];simp [V]
  have h3:∀p∈P,(V (p:Int) y).natAbs≤2*A:=fun p hp=>by
   have h4:=akx s (p:Int) x
   rw [hy]at h4
   have h5:=hv p (List.mem_cons_of_mem _ hp)
   have mZ:p≠s:=fun h=>hs (h▸hp)
   have h6:(((p:Int)-s)*V (p:Int) y).natAbs≤2*A:=by
    have:((p:Int)-s)*V (p:Int) y=V (p:Int) x-V (s:Int) x:=by omega
    rw [this]
    omega
   rw [Int.natAbs_mul]at h6
   exact Nat.le_trans (Nat.le_mul_of_pos_left _ (by omega)) h6
  rw [List.length_cons]at hl ⊢
  have h4:=JU K P (2*A) y hd (fun p hp=>hK p (List.mem_cons_of_mem _ hp)) (by omega) h3
  have hP:1≤(2*(K+1))^P.length:=Nat.one_le_pow _ _ (by omega)
  have h5:=DR (s:=s) (M:=2*A*(2*(K+1))^P.length) (x:=x) (by
   have:A*1≤2*A*(2*(K+1))^P.length:=Nat.mul_le_mul (by omega) hP
   omega) (fun d hd=>by
   rw [h1]at hd
   rcases List.mem_append.1 hd with hd | hd
   ·exact h4 d hd
   ·simp at hd;subst hd;simp) c hc
  refine Nat.le_trans h5 ?_
  rw [Nat.pow_succ]
  have h6:A*((2*(K+1))^P.length*(2*(K+1)))=(2*A*(2*(K+1))^P.length)*(K+1):=by grind
  rw [h6]
  exact Nat.mul_le_mul_left _ (by have:=hK s (List.mem_cons_self ..);omega)
theorem DT{α:Type}(p:α→Bool):∀l:List α,(l.filter p).length+(l.filter fun x => !p x).length=l.length
 | []=>rfl
 | a::l=>by
  have:=DT p l
  cases h:p a<;>simp [h]<;>omega
theorem ahZ{x:List Int}(hx:aO x ≠ []){n:Nat}(hl:x.length≤n):∃P:List Nat,P.Nodup∧(∀p∈P,p≤2*n-1)∧P.length=n ∧ ∀p∈P,V (p:Int) x≠0:=by
 have h1:=DT (fun p:Nat=>decide (V (p:Int) x=0)) (List.range (2*n))
 have h2:((List.range (2*n)).filter fun p:Nat=>decide (V (p:Int) x=0)).length<n:=Nat.not_le.1 fun h=>hx (by
  have h3:=JU (2*n) ((List.range (2*n)).filter fun p:Nat=>decide (V (p:Int) x=0)) 0 x (List.nodup_range.filter _) (fun p hp=>by have:=List.mem_range.1 (List.mem_filter.1 hp).1;omega) (by omega) (fun p hp=>by have:=of_decide_eq_true (List.mem_filter.1 hp).2;rw [this];decide)
  have h4:∀l:List Int,(∀c∈l,c.natAbs≤0*(2*(2*n+1))^((List.range (2*n)).filter fun p:Nat=>decide (V (p:Int) x=0)).length)→aO l = []:=fun l=>by
   induction l with
   | nil=>intro _;rfl
   | cons a l ih =>
    intro h
    have h5:=h a (List.mem_cons_self ..)
    rw [Nat.zero_mul]at h5
    rw [aO,ih fun c hc=>h c (List.mem_cons_of_mem _ hc),if_pos ⟨rfl,by omega⟩]
  exact h4 x h3)
 rw [List.length_range]at h1
 have h3:n≤((List.range (2*n)).filter fun p:Nat => !decide (V (p:Int) x=0)).length:=by omega
 refine⟨((List.range (2*n)).filter fun p:Nat => !decide (V (p:Int) x=0)).take n,(List.take_sublist _ _).nodup (List.nodup_range.filter _),fun p hp=>?_,by rw [List.length_take];omega,fun p hp=>?_⟩
 ·have:=List.mem_range.1 (List.mem_filter.1 (List.mem_of_mem_take hp)).1;omega
 ·have:=(List.mem_filter.1 (List.mem_of_mem_take hp)).2
  simpa using this
namespace ZX
theorem adY{a w g:ZX}{h n l:Nat}(ha:a≠0)(e:a=w*g)(hH:∀d∈a.l,d.natAbs≤2^h)(hN:N a≤n)(hn:n≤2^l):∀c∈g.l,c.natAbs≤2^(h+n*(2*l+3)):=by
 intro c hc
 have hw:w≠0∧g≠0:=⟨fun h0=>ha (by rw [e,h0];grind),fun h0=>ha (by rw [e,h0];grind)⟩
 have hlen:g.l.length≤n:=by
  have h1:N a=N w+N g-1:=by rw [e,lI hw.1 hw.2]
  have h2:=aF.1 hw.1
  show N g≤n
  omega
 have hn0:1≤n:=by have:=aF.1 ha;omega
 obtain⟨P,p1,p2,p3,p4⟩:=ahZ (x:=a.l) (n:=n) (by
  rw [show aO a.l=a.l from a.c]
  have:=aF.1 ha
  intro h0
  have h3:N a=a.l.length:=rfl
  rw [h3,h0]at this;simp at this) hN
 have hv:∀p∈P,(V (p:Int) g.l).natAbs≤2^h*(2^(l+1))^n:=fun p hp=>by
  have h1:V (p:Int) a.l=V (p:Int) w.l*V (p:Int) g.l:=by
   conv=>lhs;rw [e]
   rw [eE]
  have h2:=p4 p hp
  have h3:(V (p:Int) g.l).natAbs≤(V (p:Int) a.l).natAbs:=by
   rw [h1,Int.natAbs_mul]
   have:V (p:Int) w.l≠0:=fun h0=>h2 (by rw [h1,h0,Int.zero_mul])
   exact Nat.le_mul_of_pos_left _ (by omega)
  refine Nat.le_trans h3 (Nat.le_trans (OH hH) (Nat.mul_le_mul_left _ ?_))
  have h4:1+p≤2^(l+1):=by have:=p2 p hp;rw [Nat.pow_succ];omega
  exact Nat.le_trans (Nat.pow_le_pow_left h4 _) (Nat.pow_le_pow_right (Nat.two_pow_pos _) hN)
 have h5:=JU (2*n-1) P _ g.l p1 p2 (by omega) hv c hc
 refine Nat.le_trans h5 ?_
 rw [p3]
 have h7:2*(2*n-1+1)≤2^(l+2):=by rw [Nat.pow_add];omega
 have h8:(2*(2*n-1+1))^n≤(2^(l+2))^n:=Nat.pow_le_pow_left h7 _
 refine Nat.le_trans (Nat.mul_le_mul_left _ h8) (Nat.le_of_eq ?_)
 rw [←Nat.pow_mul,←Nat.pow_mul,←Nat.pow_add,←Nat.pow_add]
 congr 1
 grind
theorem aoj{a w g:ZX}{h n:Nat}(ha:a≠0)(e:a=w*g)(hb:Bd 2 h n a.l)(hn:n+1≤2^h):Bd 2 (h+n*(2*h+5)+1) n g.l:=by
 have hw:w≠0∧g≠0:=⟨fun h0=>ha (by rw [e,h0];grind),fun h0=>ha (by rw [e,h0];grind)⟩
 refine⟨?_,fun c hc=>?_⟩
 ·have h1:N a=N w+N g-1:=by rw [e,lI hw.1 hw.2]
  have h2:=aF.1 hw.1
  have h3:N a≤n:=hb.len
  show N g≤n
  omega
 ·have h1:=adY (h:=h) (n:=n) (l:=h) ha e (fun d hd=>by
   have h1:=iZ (b:=2) (by decide) d
   have h2:=vZ (b:=2) (by decide) (hb.sz d hd)
   omega) hb.len (by omega) c hc
  refine dY (by decide) (Nat.lt_of_le_of_lt h1 (Nat.pow_lt_pow_right (by decide) ?_))
  have:n*(2*h+3)≤n*(2*h+5):=Nat.mul_le_mul_left _ (by omega)
  omega
end ZX
end Pm
namespace Go.Proofs.YtiobceocpabjdaaGreat
open Go Pm
open ZX hiding N W
structure Nf(a:ZX):Prop where
 ne:a≠0
 g:bO a.l=1
 l:0<lead a.l
theorem u0{a:ZX}(h:a≠0):a.l ≠ []:=fun e=>by
 have:=aF.1 h
 have h2:ZX.N a=a.l.length:=rfl
 rw [h2,e]at this;simp at this
theorem aok(x:List Int):Cn (sG x):=Cn.cut _
def nf(a:ZX):ZX:=⟨sG a.l,aok _⟩
theorem kY:nf 0=0:=ZX.ext fun t=>rfl
theorem OJ{a:ZX}(ha:a≠0):K (lU a.l)*nf a=a:=ZX.ext fun t=>by
 rw [eE,wV]
 conv=>rhs;rw [←Z2 a.c (u0 ha)]
 rw [cW,Int.mul_comm];rfl
theorem qM{a:ZX}(ha:a≠0):lU a.l≠0:=SX a.c (u0 ha)
theorem aky{a:ZX}(ha:a≠0):nf a≠0:=fun h=>ha (by rw [←OJ ha,h];grind)
theorem jG{a:ZX}(ha:a≠0):Nf (nf a):=⟨aky ha,ahP a.c (u0 ha),adH a.c (u0 ha)⟩
theorem Nf.nfe{a:ZX}(h:Nf a):nf a=a:=by
 have h1:lU a.l=1:=by
  unfold lU
  rw [if_neg (by have:=h.l;omega),h.g];rfl
 have:=OJ h.ne
 rw [h1]at this
 rw [←this]
 conv=>lhs;rw [this]
 show _=(1:ZX)*_
 grind
theorem adZ{c:Int}(hc:c≠0)(a:ZX):ZX.N (K c*a)=ZX.N a:=by
 by_cases ha:a=0
 ·rw [ha,show K c*(0:ZX)=0 by grind]
 ·rw [lI (pR hc) ha,N_K hc];have:=aF.1 ha;omega
theorem yE(a:ZX):ZX.N (nf a)=ZX.N a:=by
 by_cases ha:a=0
 ·rw [ha,kY]
 ·have:=adZ (qM ha) (nf a)
  rw [OJ ha]at this
  exact this.symm
theorem K_l{c:Int}(hc:c≠0)(a:ZX):(K c*a).l=a.l.map (· * c):=by
 refine Cn.ext (K c*a).c (lS a.c hc) fun t=>?_
 rw [eE,wV,eC,Int.mul_comm]
theorem ad1{c:Int}(hc:c≠0){a:ZX}(ha:a≠0):lead (K c*a).l=c*lead a.l:=by
 have h:(K c*a).l=bR (K c).l a.l:=rfl
 have hK:(K c).l = [c]:=by show aO [c] = [c];exact jL hc []
 rw [h,xX (K c).c a.c (by rw [hK];simp) (aF.1 ha),hK]
 rfl
theorem Nf.JV{a b:ZX}(ha:Nf a)(hb:Nf b){c d:Int}(hc:c≠0)(hd:d≠0)(e:K c*a=K d*b):a=b:=by
 have h1:c.natAbs=d.natAbs:=by
  have h2:bO (K c*a).l=bO (K d*b).l:=by rw [e]
  rw [K_l hc,K_l hd,lT,lT,ha.g,hb.g]at h2
  omega
 have h3:c*lead a.l=d*lead b.l:=by rw [←ad1 hc ha.ne,←ad1 hd hb.ne,e]
 have h4:c=d:=by
  rcases Int.natAbs_eq_natAbs_iff.1 h1 with h5 | h5
  ·exact h5
  ·exfalso
   subst h5
   have hl:=ha.l
   have LA:=hb.l
   rcases Int.lt_or_gt_of_ne hd with h6 | h6
   ·have:=Int.mul_pos (show 0 < -d by omega) hl
    have:=Int.mul_neg_of_neg_of_pos h6 LA
    omega
   ·have:=Int.mul_neg_of_neg_of_pos (show -d<0 by omega) hl
    have:=Int.mul_pos h6 LA
    omega
 subst h4
 exact ZX.cancel (pR hc) e
theorem ah0{a b:ZX}{c d:Int}(ha:a≠0)(hc:c≠0)(hd:d≠0)(e:K c*a=K d*b):nf a=nf b:=by
 have hb:b≠0:=fun h=>by
  rw [h,show K d*(0:ZX)=0 by grind]at e
  exact oW (pR hc) ha e
 refine Nf.JV (jG ha) (jG hb) (c:=c*lU a.l) (d:=d*lU b.l) (Int.mul_ne_zero hc (qM ha)) (Int.mul_ne_zero hd (qM hb)) ?_
 rw [←pS,←pS]
 have h1:=OJ ha
 have h2:=OJ hb
 grind
theorem OK(a:ZX):nf (nf a)=nf a:=by
 by_cases ha:a=0
 ·rw [ha,kY,kY]
 ·exact(jG ha).nfe
theorem G5(a:ZX):dv a (nf a)∧dv (nf a) a:=by
 by_cases ha:a=0
 ·rw [ha,kY];exact⟨dv.refl 0,dv.refl 0⟩
 ·have h:=OJ ha
  exact⟨⟨lU a.l,qM ha,1,by rw [h];grind⟩,⟨1,by decide,K (lU a.l),by rw [h];show(1:ZX)*a=a;grind⟩⟩
theorem sK{a b:ZX}(h1:dv a b)(h2:dv b a):nf a=nf b:=by
 by_cases ha:a=0
 ·subst ha;rw [AZ h1]
 ·obtain⟨c,hc,q,e⟩:=h2
  have h3:=h1.nQ (fun hb=>ha (by subst hb;exact AZ ⟨c,hc,q,e⟩))
  have h4:=dv.nQ ⟨c,hc,q,e⟩ ha
  obtain⟨hq,hb⟩:=mT hc ha e
  have h5:=adZ hc a
  rw [e,lI hq hb]at h5
  have:=aF.1 hq
  have:=aF.1 hb
  obtain⟨d,hd,rfl⟩:=lJ (x:=q) (by omega)
  exact ah0 ha hc hd e
theorem Nf.one:Nf 1:=⟨yA,by decide,by decide⟩
theorem Nf.mul{a b:ZX}(ha:Nf a)(hb:Nf b):Nf (a*b):=by
 refine⟨oW ha.ne hb.ne,?_,?_⟩
 ·show bO (bR a.l b.l)=1
  rw [adG a.c b.c (u0 ha.ne) (u0 hb.ne),ha.g,hb.g]
 ·show 0<lead (bR a.l b.l)
  rw [xX a.c b.c (aF.1 ha.ne) (aF.1 hb.ne)]
  exact Int.mul_pos ha.l hb.l
theorem WB{p a:ZX}(hp:oX p)(ha:a≠0):mu p (nf a)=mu p a:=by
 conv=>rhs;rw [←OJ ha]
 rw [sJ hp (pR (qM ha)) (aky ha),aab hp (qM ha)];omega
theorem Nf.sL{a b:ZX}(ha:Nf a)(hb:Nf b)(h:∀p,oX p→mu p a=mu p b):a=b:=by
 rw [←ha.nfe,←hb.nfe]
 exact sK ((j8 ha.ne hb.ne).2 fun p hp=>by have:=h p hp;omega) ((j8 hb.ne ha.ne).2 fun p hp=>by have:=h p hp;omega)
theorem Nf.quo{a b:ZX}(ha:Nf a)(hb:Nf b)(h:dv b a):∃w,Nf w∧a=w*b:=by
 obtain⟨c,hc,q,e⟩:=h
 obtain⟨hq,_⟩:=mT hc ha.ne e
 refine⟨nf q,jG hq,Nf.JV ha ((jG hq).mul hb) hc (qM hq) ?_⟩
 have:=OJ hq
 grind
theorem Nf.exact{a b w:ZX}(hb:Nf b)(e:a=w*b):exact a.l b.l=some w.l:=by
 subst e
 exact SZ w.c b.c (aF.1 hb.ne)
theorem Nf.N1{a:ZX}(ha:Nf a)(h:ZX.N a≤1):a=1:=by
 obtain⟨c,hc,rfl⟩:=lJ (x:=a) (by have:=aF.1 ha.ne;omega)
 exact Nf.JV ha Nf.one (show (1:Int)≠0 by decide) hc (by show(1:ZX)*_=K c*1;grind)
noncomputable def gz(a b:ZX):ZX:=nf (Classical.choose (jW _ a b (Nat.le_refl _)))
theorem tC(a b:ZX):∃g,rF g a b∧gz a b=nf g:=⟨_,Classical.choose_spec (jW _ a b (Nat.le_refl _)),rfl⟩
theorem WC{g a b:ZX}(h:rF g a b):gz a b=nf g:=by
 obtain⟨g',h',e⟩:=tC a b
 rw [e]
 obtain⟨h1,h2⟩:=h'.assoc h
 exact sK h1 h2
theorem rF.auU{g g' a b:ZX}(h:rF g a b)(h1:dv g g')(h2:dv g' g):rF g' a b:=by
 obtain⟨c,hc,u,v,e⟩:=h.uv
 obtain⟨d,hd,w,e2⟩:=h1
 exact⟨h2.trans h.l,h2.trans h.r,c*d,Int.mul_ne_zero hc hd,w*u,w*v,by rw [←pS];grind⟩
theorem fH(a b:ZX):rF (gz a b) a b:=by
 obtain⟨g,h,e⟩:=tC a b
 rw [e]
 obtain⟨h1,h2⟩:=G5 g
 exact rF.auU h h1 h2
theorem auV{a b:ZX}(h:a≠0∨b≠0):gz a b≠0:=(fH a b).ne h
theorem G6{a b:ZX}(h:a≠0∨b≠0):Nf (gz a b):=by
 have h0:=auV h
 obtain⟨g,h,e⟩:=tC a b
 rw [e]at h0 ⊢
 exact jG (fun hg=>h0 (by rw [hg,kY]))
theorem JW(a b:ZX):gz a b=gz b a:=by
 have h:=fH a b
 rw [WC h.symm]
 obtain⟨g,_,e⟩:=tC a b
 rw [e,OK]
theorem tD(a:ZX):gz a 0=nf a:=WC (rF.zero a)
theorem OL(a:ZX):gz 0 a=nf a:=by rw [JW,tD]
theorem DU{a b a' b':ZX}(h1:dv a a')(h2:dv a' a)(h3:dv b b')(h4:dv b' b):gz a b=gz a' b':=by
 obtain⟨g,hg,e⟩:=tC a b
 rw [e,WC (hg.congr h1 h2 h3 h4)]
theorem WD(a b:ZX):gz (nf a) b=gz a b:=DU (G5 a).2 (G5 a).1 (dv.refl b) (dv.refl b)
theorem S5(a b:ZX):gz a (nf b)=gz a b:=DU (dv.refl a) (dv.refl a) (G5 b).2 (G5 b).1
theorem JX{a b q r:ZX}{c k:Int}(hc:c≠0)(hk:k≠0)(e:K c*a=q*b+K k*r):gz a b=gz b r:=by
 obtain⟨g,hg,e2⟩:=tC b r
 rw [e2,WC (hg.auT hc hk e)]
end Go.Proofs.YtiobceocpabjdaaGreat
namespace Go.Proofs.YtiobceocpabjdaaGreat
open Go Pm
open ZX hiding N W
open Classical in
noncomputable def qz(a b:ZX):ZX:=if h:∃w,Nf w∧a=w*b then h.choose else 0
theorem oH{a b:ZX}(ha:Nf a)(hb:Nf b)(h:dv b a):Nf (qz a b)∧a=qz a b*b:=by
 have h:=ha.quo hb h
 unfold qz
 rw [dif_pos h]
 exact h.choose_spec
theorem akA{a b w:ZX}(hb:Nf b)(hw:Nf w)(e:a=w*b):qz a b=w:=by
 have ha:Nf a:=by rw [e];exact hw.mul hb
 obtain⟨h1,h2⟩:=oH ha hb ⟨1,by decide,w,by rw [e];show(1:ZX)*_=_;grind⟩
 refine ZX.cancel hb.ne ?_
 have:qz a b*b=w*b:=by rw [←h2,e]
 grind
theorem ad2{a b:ZX}(ha:Nf a)(hb:Nf b)(h:dv b a):exact a.l b.l=some (qz a b).l:=Nf.exact hb (oH ha hb h).2
theorem akB{a b p:ZX}(ha:Nf a)(hb:Nf b)(h:dv b a)(hp:oX p):mu p (qz a b)=mu p a-mu p b:=by
 obtain⟨h1,h2⟩:=oH ha hb h
 have h3:mu p a=mu p (qz a b)+mu p b:=by
  conv=>lhs;rw [h2]
  exact sJ hp h1.ne hb.ne
 omega
theorem Nf.self{a:ZX}(ha:Nf a):qz a a=1:=akA ha Nf.one (by grind)
theorem Nf.aAc{a:ZX}(ha:Nf a):qz a 1=a:=akA Nf.one ha (by grind)
noncomputable def gd(a:ZX):ZX:=gz a (bY a)
theorem WG{a:ZX}(ha:a≠0):Nf (gd a):=G6 (.inl ha)
theorem zT(a:ZX):dv (gd a) a:=(fH a (bY a)).l
theorem akC{a p:ZX}(ha:a≠0)(hp:oX p):mu p (gd a)=mu p a-1:=(fH a (bY a)).yD ha hp
theorem aAd{a:ZX}(h:2≤ZX.N a):ZX.N (gd a)<ZX.N a:=by
 have h1:=(fH a (bY a)).r.nQ (JS h)
 have h2:=oG a
 have:ZX.N (gd a)=ZX.N (gz a (bY a)):=rfl
 omega
theorem ad3:gd 1=1:=by
 unfold gd
 rw [V9,tD,Nf.one.nfe]
noncomputable def gs(a:ZX):Nat→ZX
 | 0=>a
 | k+1=>gd (gs a k)
theorem nS{a:ZX}(ha:Nf a):∀k,Nf (gs a k)
 | 0=>ha
 | k+1=>WG (nS ha k).ne
theorem G7(a:ZX):∀k,dv (gs a k) a
 | 0=>dv.refl a
 | k+1=>(zT _).trans (G7 a k)
theorem WH{a p:ZX}(ha:Nf a)(hp:oX p):∀k,mu p (gs a k)=mu p a-k
 | 0=>rfl
 | k+1=>by
  show mu p (gd (gs a k))=_
  rw [akC (nS ha k).ne hp,WH ha hp k];omega
theorem ah1{a:ZX}:∀k,ZX.N (gs a k)≤1∨ZX.N (gs a k)+k≤ZX.N a
 | 0 => .inr (Nat.le_refl _)
 | k+1=>by
  rcases ah1 (a:=a) k with h | h
  ·left
   show ZX.N (gz (gs a k) (bY (gs a k)))≤1
   by_cases h0:gs a k=0
   ·rw [h0,show bY (0:ZX)=0 from ZX.ext fun t=>rfl,tD,kY];decide
   ·exact Nat.le_trans ((fH _ _).l.nQ h0) h
  ·rcases Nat.lt_or_ge (ZX.N (gs a k)) 2 with h2 | h2
   ·left
    show ZX.N (gz (gs a k) (bY (gs a k)))≤1
    by_cases h0:gs a k=0
    ·rw [h0,show bY (0:ZX)=0 from ZX.ext fun t=>rfl,tD,kY];decide
    ·exact Nat.le_trans ((fH _ _).l.nQ h0) (by omega)
   ·right
    have:=aAd h2
    show ZX.N (gd (gs a k))+(k+1)≤_
    omega
open Classical in
noncomputable def nl(a:ZX):Nat:=if h:∃m,ZX.N (gs a m)≤1 ∧ ∀k,k<m→2≤ZX.N (gs a k)then h.choose else 0
theorem mU(a:ZX):ZX.N (gs a (nl a))≤1 ∧ ∀k,k<nl a→2≤ZX.N (gs a k):=by
 have h:∃m,ZX.N (gs a m)≤1 ∧ ∀k,k<m→2≤ZX.N (gs a k):=by
  have key:∀n,(∃m,m≤n∧ZX.N (gs a m)≤1 ∧ ∀k,k<m→2≤ZX.N (gs a k)) ∨ ∀k,k≤n→2≤ZX.N (gs a k):=by
   intro n
   induction n with
   | zero =>
    rcases Nat.lt_or_ge (ZX.N (gs a 0)) 2 with h | h
    ·exact .inl ⟨0,Nat.le_refl _,by omega,fun k hk=>by omega⟩
    ·exact .inr fun k hk=>by rw [show k=0 by omega];exact h
   | succ n ih =>
    rcases ih with ⟨m,h1,h2⟩ | ih
    ·exact .inl ⟨m,by omega,h2⟩
    ·rcases Nat.lt_or_ge (ZX.N (gs a (n+1))) 2 with h | h
     ·exact .inl ⟨n+1,Nat.le_refl _,by omega,fun k hk=>ih k (by omega)⟩
     ·refine .inr fun k hk=>?_
      rcases Nat.lt_or_ge k (n+1)with h3 | h3
      ·exact ih k (by omega)
      ·rw [show k=n+1 by omega];exact h
  rcases key (ZX.N a)with ⟨m,_,h⟩ | h
  ·exact⟨m,h⟩
  ·have h1:=h (ZX.N a) (Nat.le_refl _)
   rcases ah1 (a:=a) (ZX.N a)with h2 | h2<;>omega
 unfold nl
 rw [dif_pos h]
 exact h.choose_spec
theorem OM(a:ZX):nl a≤ZX.N a:=by
 rcases Nat.eq_zero_or_pos (nl a)with h | h
 ·omega
 ·have h1:=(mU a).2 (nl a-1) (by omega)
  rcases ah1 (a:=a) (nl a-1)with h2 | h2<;>omega
theorem ON{a:ZX}(ha:Nf a):∀j,gs a (nl a+j)=1
 | 0=>(nS ha _).N1 (mU a).1
 | j+1=>by
  show gd (gs a (nl a+j))=1
  rw [ON ha j,ad3]
noncomputable def wz(a:ZX)(k:Nat):ZX:=qz (gs a k) (gs a (k+1))
theorem gH{a:ZX}(ha:Nf a)(k:Nat):Nf (wz a k)∧gs a k=wz a k*gs a (k+1):=oH (nS ha k) (nS ha (k+1)) (zT _)
theorem OO{a p:ZX}(ha:Nf a)(hp:oX p)(k:Nat):mu p (wz a k)=if k<mu p a then 1 else 0:=by
 rw [wz,akB (nS ha k) (nS ha (k+1)) (zT _) hp,WH ha hp,WH ha hp]
 split<;>omega
theorem auW{a:ZX}(ha:Nf a)(j:Nat):wz a (nl a+j)=1:=by
 rw [wz,ON ha j,Nat.add_assoc,ON ha (j+1),Nf.one.self]
theorem OP{a:ZX}(ha:Nf a)(k:Nat):dv (wz a (k+1)) (wz a k):=(j8 (gH ha _).1.ne (gH ha _).1.ne).2 fun p hp=>by
 rw [OO ha hp,OO ha hp]
 split<;>split<;>omega
noncomputable def nX(a:ZX)(k:Nat):ZX:=qz (wz a k) (wz a (k+1))
theorem A3{a:ZX}(ha:Nf a)(k:Nat):Nf (nX a k)∧wz a k=nX a k*wz a (k+1):=oH (gH ha k).1 (gH ha (k+1)).1 (OP ha k)
theorem auX{a p:ZX}(ha:Nf a)(hp:oX p)(k:Nat):mu p (nX a k)=if mu p a=k+1 then 1 else 0:=by
 rw [nX,akB (gH ha k).1 (gH ha (k+1)).1 (OP ha k) hp,OO ha hp,OO ha hp]
 split<;>split<;>split<;>omega
theorem ah2{a:ZX}(ha:Nf a){k:Nat}(h:k+1=nl a):nX a k=wz a k:=by
 rw [nX,h,show nl a=nl a+0 from rfl,auW ha 0,(gH ha k).1.aAc]
noncomputable def fl(a:ZX):List ZX:=(List.range (nl a)).map (nX a)
theorem OQ{a p:ZX}(ha:Nf a)(hp:oX p):mu p a≤nl a:=by
 have h:=WH ha hp (nl a)
 have h1:=ON ha 0
 rw [Nat.add_zero]at h1
 rw [h1,JT hp]at h
 omega
noncomputable def pf(a:ZX)(c:Nat→Bool):Nat→ZX
 | 0=>1
 | k+1=>if c k then pf a c k*nX a k else pf a c k
theorem zU{a:ZX}(ha:Nf a)(c:Nat→Bool):∀k,Nf (pf a c k)
 | 0=>Nf.one
 | k+1=>by
  rw [pf]
  split
  ·exact(zU ha c k).mul (A3 ha k).1
  ·exact zU ha c k
theorem WI{a p:ZX}(ha:Nf a)(hp:oX p)(c:Nat→Bool):∀k,mu p (pf a c k)=if 1≤mu p a∧mu p a≤k∧c (mu p a-1)=true then 1 else 0
 | 0=>by
  rw [pf,JT hp,if_neg (by omega)]
 | k+1=>by
  have ih:=WI ha hp c k
  have hf:=auX ha hp k
  rw [pf]
  by_cases hc:c k=true
  ·rw [if_pos hc,sJ hp (zU ha c k).ne (A3 ha k).1.ne,ih,hf]
   by_cases h1:mu p a=k+1
   ·rw [if_pos h1,h1,Nat.add_sub_cancel,if_neg (by omega),if_pos ⟨by omega,Nat.le_refl _,hc⟩]
   ·rw [if_neg h1]
    by_cases h2:1≤mu p a∧mu p a≤k∧c (mu p a-1)=true
    ·rw [if_pos h2,if_pos ⟨h2.1,by omega,h2.2.2⟩]
    ·rw [if_neg h2,if_neg (fun h3=>h2 ⟨h3.1,by omega,h3.2.2⟩)]
  ·rw [if_neg hc,ih]
   by_cases h1:mu p a=k+1
   ·rw [h1,Nat.add_sub_cancel,if_neg (by omega),if_neg (fun h3=>hc h3.2.2)]
   ·by_cases h2:1≤mu p a∧mu p a≤k∧c (mu p a-1)=true
    ·rw [if_pos h2,if_pos ⟨h2.1,by omega,h2.2.2⟩]
    ·rw [if_neg h2,if_neg (fun h3=>h2 ⟨h3.1,by omega,h3.2.2⟩)]
noncomputable def oz(a:ZX):ZX:=pf a (fun k=>k%2==0) (nl a)
noncomputable def sz'(a:ZX):ZX:=wz a 0
theorem ad4{a:ZX}(ha:Nf a):Nf (oz a):=zU ha _ _
theorem ad5{a:ZX}(ha:Nf a):Nf (sz' a):=(gH ha 0).1
theorem akE{a p:ZX}(ha:Nf a)(hp:oX p):mu p (oz a)=mu p a%2:=by
 have h:=OQ ha hp
 rw [oz,WI ha hp]
 by_cases h1:1≤mu p a∧mu p a≤nl a∧((mu p a-1)%2==0)=true
 ·rw [if_pos h1]
  have:=h1.2.2
  simp only [beq_iff_eq]at this
  omega
 ·rw [if_neg h1]
  simp only [beq_iff_eq]at h1
  omega
theorem ad6{a p:ZX}(ha:Nf a)(hp:oX p):mu p (sz' a)=min (mu p a) 1:=by
 rw [sz',OO ha hp]
 split<;>omega
theorem aol{a:ZX}(ha:Nf a):pf a (fun _=>true) (nl a)=sz' a:=Nf.sL (zU ha _ _) (ad5 ha) fun p hp=>by
 have h:=OQ ha hp
 rw [WI ha hp,ad6 ha hp]
 by_cases h1:1≤mu p a
 ·rw [if_pos ⟨h1,h,rfl⟩];omega
 ·rw [if_neg (fun h2=>h1 h2.1)];omega
theorem OR{a:ZX}(h:ZX.N a≤1):nl a=0:=by
 rcases Nat.eq_zero_or_pos (nl a)with h1 | h1
 ·exact h1
 ·have:=(mU a).2 0 h1
  have:ZX.N (gs a 0)=ZX.N a:=rfl
  omega
def qb(h n:Nat):Nat:=h+n*(2*h+5)+1
theorem auY{a b:ZX}(ha:Nf a)(hb:Nf b)(hd:dv b a){h n:Nat}(hx:Bd 2 h n a.l)(hn:n+1≤2^h):Bd 2 (qb h n) n b.l:=by
 obtain⟨w,_,e⟩:=ha.quo hb hd
 exact aoj ha.ne e hx hn
theorem ad7{a b:ZX}(ha:Nf a)(hb:Nf b)(h:dv b a):dv (qz a b) a:=by
 obtain⟨_,h2⟩:=oH ha hb h
 exact⟨1,by decide,b,by rw [ZX.Z9 b,←h2];show(1:ZX)*_=_;grind⟩
theorem A4{a:ZX}(ha:Nf a)(k:Nat):dv (wz a k) a:=(ad7 (nS ha k) (nS ha (k+1)) (zT _)).trans (G7 a k)
theorem WJ{a:ZX}(ha:Nf a)(k:Nat):dv (nX a k) a:=(ad7 (gH ha k).1 (gH ha (k+1)).1 (OP ha k)).trans (A4 ha k)
theorem JY{a:ZX}(ha:Nf a)(c:Nat→Bool)(k:Nat):dv (pf a c k) a:=(j8 (zU ha c k).ne ha.ne).2 fun p hp=>by
 rw [WI ha hp]
 split<;>omega
end Go.Proofs.YtiobceocpabjdaaGreat
namespace Go.Proofs.YtiobceocpabjdaaGreat
open Go Pm
theorem DV(v:Int):sz LL v≤sz 2 v:=dY gF (Nat.lt_of_lt_of_le (iZ (b:=2) (by decide) v) (Nat.pow_le_pow_left (by decide) _))
theorem JZ{h n:Nat}{x:List Int}(hx:Bd 2 h n x):Bd LL h n x:=⟨hx.len,fun c hc=>Nat.le_trans (DV c) (hx.sz c hc)⟩
instance:Inhabited ZX:=⟨0⟩
abbrev BZ(h n:Nat)(a:ZX):Prop:=Bd 2 h n a.l
theorem BZ.pb{h n:Nat}{a:ZX}(b:BZ h n a)(hh:h<1099511627775)(hn:n<1099511627775):PB a.l:=PB.of (JZ b) hh hn
theorem BZ.DB{h n:Nat}{a:ZX}(b:BZ h n a)(hh:h<1099511627775)(hn:n<1099511627775):rB (a.l.map tN):=(b.pb hh hn).DB
theorem zV(a:ZX):m7 (a.l.map tN)=a.l:=by rw [ahN];exact a.c
theorem BZ.mono{h h' n n':Nat}{a:ZX}(b:BZ h n a)(hh:h≤h')(hn:n≤n'):BZ h' n' a:=Bd.mono b hh hn
theorem BZ.nf{h n:Nat}{a:ZX}(b:BZ h n a):BZ h n (nf a):=adS b
theorem BZ.N{h n:Nat}{a:ZX}(b:BZ h n a):ZX.N a≤n:=Bd.len b
theorem ad8{h n:Nat}{a:ZX}(b:BZ h n a)(hh:h<1099511627774)(hn:n<1099511627774)(k:Nat)(hk:k+1<a.l.length):aE env.P 164 [.int .i64 (k:Int), .rd [Po a.l]] (I (nth a.l (k+1)*((k+1:Nat):Int))):=by
 have hlen:=b.len
 have hz:=(JZ b).nth (k+1)
 have o1:=C4 ((k+1:Nat):Int) (by omega) (by omega)
 have hk1:Sz ((k+1:Nat):Int):=Nat.lt_of_le_of_lt (dY (k:=2) gF (by rw [Int.natAbs_natCast];show k+1<4294967296^2;omega)) (by decide)
 have m1:=wJ (x:=nth a.l (k+1)) (y:=((k+1:Nat):Int)) (by show Pm.sz LL _<_;omega) hk1
 have e:((k:Int)+1).toNat=k+1:=by omega
 rw [Int.natCast_add,Int.natCast_one]at o1 m1
 refine cD [(0, .int .i64 (k:Int)),(1, .rd [Po a.l])] Tryz.func164 ?_
 generalize a.l=x at *
 refine aA [0,1,3] ?_
 refine W.sd ?_
 simp (disch:=omega) [gw,e]
 refine cS o1 ?_
 refine cN [3] m1 ?_
 exact cC
theorem qN{h n:Nat}{a:ZX}(b:BZ h n a)(hh:h<1099511627774)(hn:n<1099511627774):aE env.P 85 [Po a.l] (Po (ZX.bY a).l):=by
 have hlen:=b.len
 have hc:=fun k hk=>ad8 b hh hn k hk
 have hE:=sB 164 rfl [.rd [Po a.l]] rfl (a.l.length-1) (by omega) (fun k=>nth a.l (k+1)*((k+1:Nat):Int)) (fun k hk=>hc k (by omega))
 have e0:aO ((List.range (a.l.length-1)).map fun k=>nth a.l (k+1)*((k+1:Nat):Int))=(ZX.bY a).l:=rfl
 rw [e0]at hE
 generalize (ZX.bY a).l=d at *
 generalize a.l=x at *
 have e1:(if (1:Int)<(x.length:Int)then(x.length:Int)-1 else 0)=((x.length-1:Nat):Int):=by split<;>omega
 refine cD [(0,Po x)] Tryz.func85 ?_
 refine aA [1] ?_
 refine W.sr ?_
 simp (disch:=omega) [gw,e1]
 refine cN [2] hE ?_
 exact cC
theorem S6{α:Type}{g:α→List PV}{l:List α}{c:Int}{d:List Int}(h1:aE env.P 137 [aJ g l] (.dU [I c,Po d])):aE env.P 140 [aJ g l] (Po d):=by
 refine cD [(0,aJ g l)] Tryz.func140 ?_
 refine aA [0] ?_
 refine aR [4] h1 ?_
 refine aA [2] ?_
 exact cC
theorem nB{h n:Nat}{a:ZX}(b:BZ h n a)(hh:h<1099511627774)(hn:n<1099511627774):aE env.P 140 [Po a.l] (Po (nf a).l):=by
 have h1:=uG (a.l.map tN) (b.DB (by omega) (by omega)) (s:=h) (n:=n) (by rw [b8];exact JZ b) hh hn
 rw [zV,←iL]at h1
 exact S6 h1
theorem WK{h h' n:Nat}{a c:ZX}(b:BZ h n a)(b':BZ h' n c)(ha:Nf a)(hc:Nf c)(hd:ZX.dv c a)(hB:h+n*(h'+n+1)+h'+n+n+10<1099511627774):aE env.P 141 [Po a.l,Po c.l] (Po (qz a c).l):=by
 have h0:¬c.l = []:=u0 hc.ne
 have h1:=Z1 (a.l.map tN) (c.l.map tN) (b.DB (by omega) (by omega)) (b'.DB (by omega) (by omega)) (s:=h) (s':=h') (N:=n) (by rw [b8];exact JZ b) (by rw [b8];exact JZ b') hB
 rw [zV,zV,if_neg h0,ad2 ha hc hd,←iL,←iL,exR]at h1
 generalize (qz a c).l=d at *
 generalize a.l=x at *
 generalize c.l=y at *
 refine cD [(0,Po x),(1,Po y)] Tryz.func141 ?_
 refine aA [0,1] ?_
 refine aR [5] h1 ?_
 refine aA [4] ?_
 exact cC
def rs(a c:ZX):ZX:=⟨N4 a.l c.l,aob _ _⟩
theorem DW{x:List Int}(cx:Cn x)(hx:x ≠ []):(kC x).map (· * (bO x:Int))=x:=by
 have hg:=cO cx hx
 have h1:=AY (g:=(bO x:Int)) (fun c hc=>iN x c hc)
 have h2:Cn (x.map (qL (bO x))):=by
  have h3:x.map (qL (bO x))=aO (x.map (qL (bO x))):=by
   refine(List.map_inj_right (f:=fun v:Int=>v*(bO x:Int)) (fun u v e=>Int.eq_of_mul_eq_mul_right (by omega) e)).1 ?_
   rw [h1]
   refine Cn.ext cx (lS (Cn.cut _) (by omega)) fun t=>?_
   rw [eC,c8,←eC,h1]
  exact h3.symm
 rw [kC,show aO (x.map (qL (bO x)))=_ from h2,h1]
theorem ah3{a c:ZX}(hc:c≠0):∃(m k:Int) (q:ZX),m≠0∧k≠0∧ZX.K m*a=q*c+ZX.K k*rs a c:=by
 have h0:=ZX.aF.1 hc
 obtain⟨c1,c2⟩:=CU (b:=c.l) a.c
 have hm:lead c.l^jU a.l c.l≠0:=Int.pow_ne_zero (dC c.c h0)
 have S7:=adC (lead c.l) (jU a.l c.l)
 have hr:=adD (b:=c.l) a.c
 have hV:=fun t=>acN t a.l c.l
 have hg:sg (lead c.l) (jU a.l c.l)≠0:=fun h=>by rw [h]at S7;simp at S7
 generalize sg (lead c.l) (jU a.l c.l)=g at *
 generalize lead c.l^jU a.l c.l=m at *
 have hl:(rs a c).l=kC (bB (zF a.l c.l).2 g):=hr
 generalize rs a c=R at *
 generalize (zF a.l c.l).1=q at *
 generalize (zF a.l c.l).2=r at *
 have K4:Cn (bB r g):=Cn.bB _ _
 by_cases hz:bB r g = []
 ·refine⟨m,1,⟨q,c1⟩,hm,by decide,ZX.ext fun t=>?_⟩
  rw [hz]at hl
  have h1:V t R.l=0:=by rw [hl];rfl
  have h2:V t r=0:=by
   have h3:V t (bB r g)=0:=by rw [hz];rfl
   rw [cW]at h3
   rcases Int.mul_eq_zero.1 h3 with h4 | h4
   ·exact h4
   ·exact absurd h4 hg
  rw [ZX.eE,ZX.wV,ZX.mP,ZX.eE,ZX.eE,ZX.wV,h1]
  have:=hV t
  rw [h2]at this
  show m*V t a.l=V t q*V t c.l+1*0
  omega
 ·have hgp:=cO K4 hz
  refine⟨m,g*(bO (bB r g):Int),⟨q,c1⟩,hm,Int.mul_ne_zero hg (by omega),ZX.ext fun t=>?_⟩
  have h1:=DW K4 hz
  have h2:V t (bB r g)=V t R.l*(bO (bB r g):Int):=by
   rw [hl,←eC,h1]
  rw [cW]at h2
  rw [ZX.eE,ZX.wV,ZX.mP,ZX.eE,ZX.eE,ZX.wV]
  have:=hV t
  show m*V t a.l=V t q*V t c.l+g*(bO (bB r g):Int)*V t R.l
  rw [←this]
  have h3:V t r=g*(V t r*g):=by
   have:g*(V t r*g)=V t r*(g*g):=by grind
   rw [this,S7];omega
  rw [h3,h2];grind
theorem auZ{a c:ZX}(hc:c≠0):ZX.N (rs a c)<ZX.N c:=ahO (ZX.aF.1 hc)
theorem jH{s n:Nat}{x:List Int}(hx:Bd 2 s n x):Bd 2 s n (kC x):=Bd.cut ⟨by simpa using hx.len,fun c hc=>by
 simp only [List.mem_map]at hc
 obtain⟨v,hv,rfl⟩:=hc
 refine Nat.le_trans (dP (by decide) ?_) (hx.sz v hv)
 unfold qL
 split
 ·exact Int.natAbs_ediv_le_natAbs _ _
 ·simp⟩
theorem au0{s s' n:Nat}{a c:ZX}(ha:BZ s n a)(hb:BZ s' n c)(hc:c≠0):BZ (s+(ZX.N a+1-ZX.N c)*(s'+n+1)) n (rs a c):=by
 have h0:=ZX.aF.1 hc
 have hl:=auZ (a:=a) hc
 have hk:jU a.l c.l≤n:=by
  have h1:=ha.N
  have h2:jU a.l c.l=ZX.N a+1-ZX.N c:=rfl
  omega
 obtain⟨_,h2⟩:=acM (B:=2) (by decide) hb (jU a.l c.l) s [] a.l hk ⟨by simp,fun c hc=>by cases hc⟩ (ha.mono (Nat.le_refl _) (by omega))
 have h3:Bd 2 (s+jU a.l c.l*(s'+n+1)) (n+n) (N4 a.l c.l):=by
  unfold N4
  split
  ·exact jH (Bd.gV h2)
  ·exact jH h2
 have h4:=hb.N
 have h5:ZX.N (rs a c)=(N4 a.l c.l).length:=rfl
 exact⟨by show(N4 a.l c.l).length≤n;omega,fun d hd=>h3.sz d hd⟩
theorem ad9{d:Nat}(h:1≤d):d+2≤4^d:=by
 obtain⟨k,rfl⟩:∃k,d=k+1:=⟨d-1,by omega⟩
 clear h
 induction k with
 | zero=>decide
 | succ k ih=>rw [Nat.pow_succ];omega
def AJ(C n s:Nat)(a c:ZX):Prop:=if ZX.N c<ZX.N a then(s+n+1)*4^ZX.N a≤C else(s+n+1)*2*4^ZX.N c≤C
theorem AJ.le{C n s:Nat}{a c:ZX}(h:AJ C n s a c):s+n+1≤C:=by
 unfold AJ at h
 split at h
 ·exact Nat.le_trans (Nat.le_mul_of_pos_right _ (Nat.pow_pos (by decide))) h
 ·refine Nat.le_trans ?_ h
  rw [Nat.mul_assoc]
  exact Nat.le_mul_of_pos_right _ (Nat.mul_pos (by decide) (Nat.pow_pos (by decide)))
theorem AJ.step{C n s:Nat}{a c r:ZX}(h:AJ C n s a c)(hr:ZX.N r<ZX.N c):AJ C n (s+(ZX.N a+1-ZX.N c)*(s+n+1)) c r:=by
 unfold AJ at h ⊢
 rw [if_pos hr]
 generalize hT:s+n+1=T at *
 have e:s+(ZX.N a+1-ZX.N c)*T+n+1=(ZX.N a+1-ZX.N c+1)*T:=by
  rw [Nat.add_mul,Nat.one_mul];omega
 rw [e]
 split at h
 ·rename_i h1
  obtain⟨d,hd⟩:∃d,ZX.N a=ZX.N c+d:=⟨ZX.N a-ZX.N c,by omega⟩
  have h2:=ad9 (d:=d) (by omega)
  rw [hd,Nat.pow_add]at h
  have h3:(ZX.N a+1-ZX.N c+1)*T≤4^d*T:=Nat.mul_le_mul_right _ (by omega)
  refine Nat.le_trans (Nat.mul_le_mul_right _ h3) ?_
  have:4^d*T*4^ZX.N c=T*(4^ZX.N c*4^d):=by grind
  omega
 ·rename_i h1
  refine Nat.le_trans (Nat.mul_le_mul_right _ (Nat.mul_le_mul_right T (show ZX.N a+1-ZX.N c+1≤2 by omega))) ?_
  rw [Nat.mul_comm 2 T];exact h
theorem aea{s n C:Nat}{a c:ZX}(b:BZ s n a)(b':BZ s n c)(hP:AJ C n s (nf a) (nf c))(hB:(n+1)*C≤99000000000):aE env.P 142 [Po a.l,Po c.l] (Po (gz a c).l):=by
 have hC:C≤99000000000:=Nat.le_trans (Nat.le_mul_of_pos_left C (by omega)) hB
 rw [Nat.succ_mul]at hB
 have hs:=hP.le
 have p1:=nB b (by omega) (by omega)
 have p2:=nB b' (by omega) (by omega)
 have b1:=b.nf
 have b2:=b'.nf
 have hg:gz (nf a) (nf c)=gz a c:=by rw [WD,S5]
 rw [←hg]
 generalize pM:nf a=x0 at *
 generalize SB:nf c=y0 at *
 generalize hG:gz x0 y0=G at *
 refine cD [(0,Po a.l),(1,Po c.l)] Tryz.func142 ?_
 generalize a.l=al at *
 generalize c.l=cl at *
 refine aA [0,1] ?_
 refine jC ?_
 refine cS p1 ?_
 refine cN [0,1] p2 ?_
 refine W.seq ?_
 refine W.block ?_
 refine W.bE (fun k σ=>∃(x y:ZX) (s:Nat) (rows:Pm.Rows) (clk:Nat),σ=⟨fa [(0,Po x.l),(1,Po y.l)],rows,clk⟩∧BZ s n x∧BZ s n y∧AJ C n s x y∧gz x y=G∧k=ZX.N y) (ZX.N y0) ?_ ?_
 ·exact⟨_, .refl,x0,y0,s,_,_,rfl,b1,b2,hP,hG,rfl⟩
 rintro k _ ⟨x,y,s,rows,clk,rfl,bx,tE,hp,hgz,rfl⟩
 have hs:=hp.le
 have hlx:=bx.len
 have hly:=tE.len
 refine aQ [0,1,13] ?_
 refine bJ ?_ ?_<;>intro h
 ·have hy:y≠0:=ZX.aF.2 (by show 0<y.l.length;simp at h;omega)
  obtain⟨m,k,q,hm,hk,e⟩:=ah3 (a:=x) hy
  have hR:=N7 (x.l.map tN) (y.l.map tN) (bx.DB (by omega) (by omega)) (tE.DB (by omega) (by omega)) (s:=s) (s':=s) (N:=n) (by rw [b8];exact JZ bx) (by rw [b8];exact JZ tE) (by
   have:n*(s+n+1)≤n*C:=Nat.mul_le_mul_left n hs
   omega)
  rw [zV,zV,if_neg (u0 hy),←iL,←iL,show N4 x.l y.l=(rs x y).l from rfl]at hR
  have br:=au0 bx tE hy
  have hN:=auZ (a:=x) hy
  have P4:=hp.step hN
  have qZ:=JX hm hk e
  refine W.skip ?_
  refine W.block ?_
  refine aR [1,5] hR ?_
  refine W.b7 (fun K hK=>?_)
  simp (disch:=omega) [gw]
  refine hK _ ⟨ZX.N (rs x y),_,aB _ [0,1],hN,y,rs x y,_,_,_,rfl,tE.mono (by omega) (Nat.le_refl _),br,P4,by rw [←qZ,hgz],rfl⟩
 ·have hy:y=0:=by
   refine Classical.byContradiction fun h0=>?_
   have h1:=ZX.aF.1 h0
   have h2:ZX.N y=y.l.length:=rfl
   simp at h;rw [h2,h]at h1;simp at h1
  subst hy
  rw [tD]at hgz
  have p3:=nB bx (by omega) (by omega)
  rw [hgz]at p3
  refine fA ?_
  refine aR [4] p3 ?_
  exact cC
theorem WL{s n C:Nat}{a c:ZX}(b:BZ s n a)(b':BZ s n c)(hP:AJ C n s (nf a) (nf c))(hn:n≤20)(hC:C≤4500000000):aE env.P 142 [Po a.l,Po c.l] (Po (gz a c).l):=
 aea b b' hP (Nat.le_trans (Nat.mul_le_mul (show n+1≤21 by omega) hC) (by decide))
def zp(a:ZX):List PV:=[Po a.l]
@[simp] theorem aAe{a:ZX}:zp a = [Po a.l]:=rfl
@[simp] theorem aq4{l:List ZX}:bG 1 (emap zp l)=True:=cB fun _=>rfl
@[simp] theorem aAf{l:List ZX}{a:ZX}:emap zp l ++ [[aJ ie a.l]]=emap zp (l ++ [a]):=by simp [emap]
@[simp] theorem aon{v e n:Nat}{l:List ZX}:cQ (some ⟨v,e,n,emap zp l⟩)=True:=bT fun _=>rfl
theorem BZ.bY{h n:Nat}{a:ZX}(b:BZ h n a)(hn:n≤31):BZ (h+5) n (ZX.bY a):=Bd.cut ⟨by have:=b.len;simp [ZX.yC];omega,fun c hc=>by
 simp only [ZX.yC,List.mem_map,List.mem_range]at hc
 obtain⟨i,hi,rfl⟩:=hc
 have:=b.len
 exact cG (by decide) (b.nth _) (dY (k:=5) (by decide) (by rw [Int.natAbs_natCast];show i+1<32;omega))⟩
theorem ah4{h n:Nat}{a:ZX}(b:BZ h n a)(hn:n<1099511627776):aE env.P 83 [Po a.l] (.int .i64 ((ZX.N a:Int)-1)):=kX a.l (by have:=b.len;omega)
structure rG(s n:Nat)(a:ZX):Prop where
 bz:BZ s n a
 hn:n≤20
 hs:n+1≤2^s
 hC:(qb s n+n+6)*4^n≤4500000000
theorem rG.sM{s n:Nat}{a:ZX}(h:rG s n a):qb s n+n+6≤4500000000:=Nat.le_trans (Nat.le_mul_of_pos_right _ (Nat.pow_pos (by decide))) h.hC
theorem rG.dv{s n:Nat}{a c:ZX}(h:rG s n a)(ha:Nf a)(hc:Nf c)(hd:ZX.dv c a):BZ (qb s n) n c:=auY ha hc hd h.bz h.hs
theorem rG.nfz{s n:Nat}{a:ZX}(h:rG s n a):rG s n (nf a):=⟨h.bz.nf,h.hn,h.hs,h.hC⟩
theorem rG.gdz{s n:Nat}{a c:ZX}(h:rG s n a)(ha:Nf a)(hc:Nf c)(hd:ZX.dv c a):aE env.P 142 [Po c.l,Po (ZX.bY c).l] (Po (gd c).l)∧aE env.P 85 [Po c.l] (Po (ZX.bY c).l)∧aE env.P 141 [Po c.l,Po (gd c).l] (Po (qz c (gd c)).l):=by
 have b:=h.dv ha hc hd
 have b2:=b.bY (by have:=h.hn;omega)
 have hq:=h.sM
 have hn:=h.hn
 have bg:=h.dv ha (WG hc.ne) ((zT c).trans hd)
 refine⟨WL (s:=qb s n+5) (b.mono (by omega) (Nat.le_refl _)) b2 ?_ h.hn (C:=4500000000) (Nat.le_refl _),qN b (by omega) (by omega),WK b bg hc (WG hc.ne) (zT c) (by
  have:n*(qb s n+n+1)≤20*4500000000:=Nat.mul_le_mul hn (by omega)
  omega)⟩
 have hN:=ZX.oG c
 have h1:ZX.N c≤n:=b.N
 have h2:=ZX.aF.1 hc.ne
 unfold AJ
 rw [yE,yE,if_pos (by omega)]
 refine Nat.le_trans (Nat.mul_le_mul (show qb s n+5+n+1≤qb s n+n+6 by omega) (Nat.pow_le_pow_right (by decide) h1)) h.hC
theorem S8{s n:Nat}{a:ZX}(h:rG s n a):aE env.P 276 [Po a.l] (aJ zp ((List.range (nl (nf a))).map (wz (nf a)))):=by
 have p1:=nB h.bz (by have:=h.sM;unfold qb at this;omega) (by have:=h.hn;omega)
 have hA:=h.nfz
 have hNf:2≤ZX.N (nf a)→Nf (nf a):=fun h2=>jG fun h0=>by rw [h0,kY]at h2;revert h2;decide
 have hle:=OM (nf a)
 have hbn:=hA.bz.N
 have hn:=h.hn
 generalize hAe:nf a=A at *
 refine cD [(0,Po a.l)] Tryz.func276 ?_
 refine aA [0] ?_
 refine aA [0,3] ?_
 refine W.seq ?_
 refine aR [3,4] p1 ?_
 refine W.nil 3 3 24 1 (by simp) (by decide) (fun K hK=>?_)
 refine W.lw [3,4] hK ?_;clear hK K;simp
 refine W.block ?_
 refine W.bE (fun k σ=>∃(i ver:Nat) (rows:Pm.Rows) (clk:Nat),σ=⟨fa [(3, .own 3 ver 0 i),(4,Po (gs A i).l)],rows,clk⟩∧rows 3=some ⟨ver,24,1,emap zp ((List.range i).map (wz A))⟩∧i+k=nl A) (nl A) ?_ ?_
 ·exact⟨_, .refl,0,_,_,_,rfl,by simp [emap],by omega⟩
 rintro k _ ⟨i,ver,rows,clk,rfl,hr,zH⟩
 have tO:(emap zp ((List.range i).map (wz A))).length=i:=by simp [emap]
 refine W.seq ?_
 have aoo:aE env.P 83 [Po (gs A i).l] (.int .i64 ((ZX.N (gs A i):Int)-1)):=kX (gs A i).l (by
  have h1:ZX.N (gs A i)=(gs A i).l.length:=rfl
  rcases ah1 (a:=A) i with h2 | h2<;>omega)
 refine aR [3,4,10] aoo ?_
 refine W.cond ⟨_,rfl,fun h3=>?_,fun h3=>?_⟩
 ·have h2:2≤ZX.N (gs A i):=by simp at h3;omega
  have hi:i<nl A:=by
   rcases Nat.lt_or_ge i (nl A)with h4 | h4
   ·exact h4
   ·have h5:=(mU A).1
    rw [show nl A=i by omega]at h5;omega
  have hA0:2≤ZX.N A:=by
   have:=(mU A).2 0 (by omega)
   exact this
  have nA:=hNf hA0
  have ng:=nS nA i
  obtain⟨t1,t2,t3⟩:=hA.gdz nA ng (G7 A i)
  have hw:qz (gs A i) (gd (gs A i))=wz A i:=rfl
  have hs:gd (gs A i)=gs A (i+1):=rfl
  rw [hw,hs]at t3
  rw [hs]at t1
  generalize hg:(gs A i).l=g at *
  generalize qZ:(gs A (i+1)).l=g2 at *
  refine W.skip ?_
  refine W.block ?_
  refine jC ?_
  refine cS t2 ?_
  refine cN [3,4,5] t1 ?_
  refine jC ?_
  refine aC t3 ?_
  simp (disch:=omega) [gw,hr,tO]
  refine bH [3,5] ?_
  refine W.b7 (fun K hK=>?_);simp (disch:=omega) [gw]
  subst qZ
  refine hK _ ⟨k-1,_,aB _ [3,4],by omega,i+1,_,_,_,rfl,?_,by omega⟩
  rw [List.range_succ,List.map_append]
  simp [emap,zp]
 ·have h2:ZX.N (gs A i)≤1:=by simp at h3;omega
  have hi:i=nl A:=by
   rcases Nat.lt_or_ge i (nl A)with h4 | h4
   ·have:=(mU A).2 i h4;omega
   ·omega
  rw [hi]at hr
  have xN:List.take (nl A) (List.map (wz A) (List.range (nl A)))=List.map (wz A) (List.range (nl A)):=List.take_of_length_le (by simp)
  refine fA ?_
  refine W.sr ?_
  rw [hi]
  simp (disch:=omega) [gw,hr,xN]
  refine bH [2] ?_
  refine W.ret ?_
  simp [go,hr,xN]
theorem OS{s n:Nat}{a:ZX}(hA:rG s n a)(na:Nf a)(k:Nat):BZ (qb s n) n (wz a k):=hA.dv na (gH na k).1 (A4 na k)
theorem fZ(f:Nat→ZX){m i:Nat}(h:i<m):nth ((List.range m).map f) i=f i:=by
 rw [bW (by simpa using h)];simp
theorem au1{a:ZX}(h:0<nl (nf a)):Nf (nf a):=by
 have h1:=(mU (nf a)).2 0 h
 exact jG fun h0=>by
  rw [h0,kY]at h1
  have h2:ZX.N (gs 0 0)=0:=by decide
  omega
theorem OT{s n:Nat}{a:ZX}(h:rG s n a):aE env.P 273 [Po a.l] (aJ zp (fl (nf a))):=by
 have hL:=S8 h
 have hA:=h.nfz
 have hNf:=au1 (a:=a)
 have hle:=OM (nf a)
 have hbn:=hA.bz.N
 have hn:=h.hn
 have hqb:=h.sM
 generalize hAe:nf a=A at *
 have EM:((List.range (nl A)).map (wz A)).length=nl A:=by simp
 have hq:∀i,i+1<nl A→aE env.P 141 [Po (nth ((List.range (nl A)).map (wz A)) i).l,Po (nth ((List.range (nl A)).map (wz A)) (i+1)).l] (Po (nX A i).l):=fun i hi=>by
  have nA:=hNf (by omega)
  rw [fZ _ (by omega),fZ _ hi]
  exact WK (OS hA nA i) (OS hA nA (i+1)) (gH nA i).1 (gH nA (i+1)).1 (OP nA i) (by
   have:n*(qb s n+n+1)≤20*4500000000:=Nat.mul_le_mul hn (by omega)
   omega)
 have uH:∀i,i+1=nl A→nth ((List.range (nl A)).map (wz A)) i=nX A i:=fun i hi=>by
  rw [fZ _ (by omega),ah2 (hNf (by omega)) hi]
 generalize hM:(List.range (nl A)).map (wz A)=M at *
 obtain⟨m,hm⟩:∃m,m=nl A:=⟨_,rfl⟩
 have hfl:(fl A)=(List.range m).map (nX A):=by rw [hm];rfl
 rw [hfl]
 rw [←hm]at EM hq uH hle
 refine cD [(0,Po a.l)] Tryz.func273 ?_
 refine aA [0] ?_
 refine aR [3] hL ?_
 refine W.sr ?_
 simp (disch:=omega) [gw,EM]
 refine bH [3,4] ?_
 refine W.seq ?_
 refine W.sr ?_
 simp (disch:=omega) [gw,EM]
 refine bH [3,4,12,13,14] ?_
 refine W.block ?_
 refine W.bE (fun k σ=>∃(i ver:Nat) (els:List (List PV)) (rows:Pm.Rows) (clk:Nat),σ=⟨fa [(3,aJ zp M),(4, .own 11 ver 0 m),(12,aJ zp M),(13, .int .i64 m),(14, .int .i64 i)],rows,clk⟩ ∧
  rows 11=some ⟨ver,24,1,els⟩∧els.length=m∧(∀e∈els,e.length=1)∧els.take i=emap zp ((List.range i).map (nX A))∧i+k=m) m ?_ ?_
 ·exact⟨_, .refl,0,_,List.replicate m [.nil],_,_,rfl,by simp,by simp,by simp,by simp [emap],by omega⟩
 rintro k _ ⟨i,ver,els,rows,clk,rfl,hr,mY,LR,rC,zH⟩
 refine bU [3,4,12,13,14,15] ?_
 refine W.cond ⟨_,rfl,fun h3=>?_,fun h3=>?_⟩
 ·have hi:i<m:=by simp at h3;omega
  clear h3
  have hiM:i<M.length:=by omega
  have tO:i<els.length:=by omega
  have hE:∀e:List (List PV),e.length=m→(∀x∈e,x.length=1)→uE e i 1=True:=fun e h1 h2=>by
   simp only [eq_iff_iff,iff_true]
   exact⟨e[i]'(by omega),List.getElem?_eq_getElem (by omega),by rw [h2 _ (List.getElem_mem _)];omega⟩
  have hS:∀(e:List (List PV)) (v:PV),e.length=m→(∀x∈e,x.length=1)→iA e i 0 [v]=e.set i [v]:=fun e v h1 h2=>by
   have h4:=h2 _ (List.getElem_mem (show i<e.length by omega))
   rw [iA,List.getElem?_eq_getElem (by omega)]
   simp [List.drop_of_length_le,h4]
  have h1E:=hE els mY LR
  have h1S:=hS els (Po (nth M i).l) mY LR
  have abh:(els.set i [Po (nth M i).l]).length=m:=by simpa using mY
  have J0:∀e∈els.set i [Po (nth M i).l],e.length=1:=fun e he=>by
   rcases List.mem_or_eq_of_mem_set he with h4 | h4
   ·exact LR e h4
   ·rw [h4];rfl
  have au2:(els.set i [Po (nth M i).l]).take i=emap zp ((List.range i).map (nX A)):=by rw [gP (Nat.le_refl i)];exact rC
  have h2E:=hE _ abh J0
  have h2S:=hS (els.set i [Po (nth M i).l]) (Po (nX A i).l) abh J0
  have fin:∀(e:List (List PV)),e.length=m→(∀x∈e,x.length=1)→e.take i=emap zp ((List.range i).map (nX A))→(e.set i [Po (nX A i).l]).take (i+1)=emap zp ((List.range (i+1)).map (nX A)):=fun e h1 h2 h4=>by
   rw [mG h4 (by omega),List.range_succ,List.map_append]
   simp [emap,zp]
  refine W.skip ?_
  refine W.dO (fun σ=>∃(els:List (List PV)) (rows:Pm.Rows) (clk:Nat),σ=⟨fa [(3,aJ zp M),(4, .own 11 ver 0 m),(12,aJ zp M),(13, .int .i64 m),(14, .int .i64 i)],rows,clk⟩ ∧
   rows 11=some ⟨ver,24,1,els⟩∧els.length=m∧(∀e∈els,e.length=1)∧els.take (i+1)=emap zp ((List.range (i+1)).map (nX A))) ?_ ?_
  ·refine aA [3,4,5,6,12,13,14] ?_
   refine W.sr ?_
   simp (disch:=omega) [gw,hr,h1E,h1S]
   refine bH [3,4,5,6,12,13,14] ?_
   refine W.sr ?_
   simp (disch:=omega) [gw,EM]
   refine bH [3,4,5,6,12,13,14,27] ?_
   refine W.cond ⟨_,rfl,fun h3=>?_,fun h3=>?_⟩
   ·have QG:i+1<m:=by simp at h3;omega
    have aAg:i+1<M.length:=by omega
    have e1:((i:Int)+1).toNat=i+1:=by omega
    refine W.b7 (fun K hK=>?_)
    simp (disch:=omega) [gw,e1,aAg]
    refine aC (hq i QG) ?_
    simp (disch:=omega) [gw,h2E,h2S]
    exact hK _ ⟨_,aB _ [3,4,12,13,14],_,_,_,rfl,by simp,by simpa using mY,fun e he=>by
     rcases List.mem_or_eq_of_mem_set he with h4 | h4
     ·exact J0 e h4
     ·rw [h4];rfl,fin _ abh J0 au2⟩
   ·have QG:i+1=m:=by simp at h3;omega
    refine W.skip ?_
    refine⟨_,aB _ [3,4,12,13,14],_,_,_,rfl,by simp,abh,J0,?_⟩
    have h4:=fin els mY LR rC
    rw [←uH i QG]at h4
    rw [h4]
  rintro _ ⟨els,rows,clk,rfl,hr,mY,LR,rC⟩
  refine W.b7 (fun K hK=>?_);simp (disch:=omega) [gw]
  refine hK _ ⟨k-1,_,aB _ [3,4,12,13,14],by omega,i+1,_,_,_,_,rfl,hr,mY,LR,rC,by omega⟩
 ·have hi:i=m:=by simp at h3;omega
  subst hi
  rw [bL mY]at rC
  subst rC
  have xN:List.take i (List.map (nX A) (List.range i))=List.map (nX A) (List.range i):=List.take_of_length_le (by simp)
  refine fA ?_
  refine W.sr ?_
  simp (disch:=omega) [gw,hr,xN]
  refine bH [2] ?_
  refine W.ret ?_
  simp [go,hr,xN]
noncomputable def DX(L:List ZX):ZX:=L.foldl gz 0
theorem ah5(L:List ZX)(hL:L.length<1099511627776)(h2:∀i,i<L.length→aE env.P 142 [Po (DX (L.take i)).l,Po (nth L i).l] (Po (DX (L.take (i+1))).l)):aE env.P 194 [aJ zp L] (Po (DX L).l):=by
 refine cD [(0,aJ zp L)] Tryz.func194 ?_
 refine aA [0] ?_
 refine aA [0,3] ?_
 refine W.R3 3 (Po (DX (L.take 0)).l) (by simp) rfl (fun K hK=>?_)
 refine W.lw [0,3] hK ?_;clear hK K;simp
 refine aQ [3,6,7,8] ?_
 refine W.block ?_
 refine W.bE (fun k σ=>∃(i:Nat) (rows:Pm.Rows) (clk:Nat),σ=⟨fa [(3,Po (DX (L.take i)).l),(6,aJ zp L),(7, .int .i64 L.length),(8, .int .i64 i)],rows,clk⟩∧i+k=L.length) L.length ?_ ?_
 ·exact⟨_, .refl,0,_,_,by simp;exact⟨rfl,rfl⟩,by omega⟩
 rintro k _ ⟨i,rows,clk,rfl,zH⟩
 refine bU [3,6,7,8,9] ?_
 refine bJ ?_ ?_<;>intro h
 ·have hi:i<L.length:=by simp at h;omega
  have ht:=h2 i hi
  generalize qZ:DX (L.take (i+1))=g2 at *
  generalize DX (L.take i)=g at *
  refine lF ?_
  refine aA [3,5,6,7,8] ?_
  refine W.b7 (fun K hK=>?_)
  simp (disch:=omega) [gw]
  refine cS ht ?_
  refine W.lw [3,6,7,8] hK ?_;clear hK K;simp
  refine W.b7 (fun K hK=>?_);simp (disch:=omega) [gw]
  subst qZ
  refine hK _ ⟨k-1,_,aB _ [3,6,7,8],by omega,i+1,_,_,rfl,by omega⟩
 ·have hi:i=L.length:=by simp at h;omega
  subst hi
  rw [List.take_length]
  refine fA ?_
  refine aA [2] ?_
  exact cC
theorem aeb:aE env.P 11 [.sl [[.int .i64 1]]] (Po (1:ZX).l):=by
 have:=VJ [1] (by decide) (by decide)
 exact this
noncomputable def sq(a:ZX):ZX:=if ZX.N a≤1 then nf a else sz' (nf a)
theorem OU{α:Type}{g:α→List PV}{l:List α}{s n:Nat}{a:ZX}(h:rG s n a)(p1:aE env.P 140 [aJ g l] (Po (nf a).l)):aE env.P 70 [aJ g l] (Po (sq a).l):=by
 have hqb:=h.sM
 have hn:=h.hn
 have hA:=h.nfz
 have aoo:=ah4 hA.bz (by omega)
 have hsq:sq a=if ZX.N (nf a)≤1 then nf a else sz' (nf a):=by rw [yE];rfl
 have nA:2≤ZX.N (nf a)→Nf (nf a):=fun h2=>jG fun h0=>by rw [h0,kY]at h2;revert h2;decide
 rw [hsq]
 generalize nf a=A at *
 refine cD [(0,aJ g l)] Tryz.func70 ?_
 refine aA [0] ?_
 refine aR [0] p1 ?_
 refine W.seq ?_
 refine aR [0,7] aoo ?_
 refine W.cond ⟨_,rfl,fun h3=>?_,fun h3=>?_⟩
 ·have h2:ZX.N A≤1:=by simp at h3;omega
  rw [if_pos h2]
  refine aA [2] ?_
  exact cC
 ·have h2:2≤ZX.N A:=by simp at h3;omega
  obtain⟨t1,t2,t3⟩:=hA.gdz (nA h2) (nA h2) (ZX.dv.refl A)
  rw [if_neg (by omega),show sz' A=qz A (gd A)from rfl]
  generalize (gd A).l=g1 at *
  refine W.skip ?_
  refine jC ?_
  refine cS t2 ?_
  refine cS t1 ?_
  refine cN [2] t3 ?_
  exact cC
theorem u3{s n:Nat}{a:ZX}(h:rG s n a):aE env.P 70 [Po a.l] (Po (sq a).l):=by
 have hqb:=h.sM
 have hn:=h.hn
 exact OU h (nB h.bz (by unfold qb at hqb;omega) (by omega))
theorem ah6{s n:Nat}{a:ZX}(h:rG s n a)(h0:a≠0):aE env.P 265 [Po a.l] (Po (oz (nf a)).l):=by
 have hqb:=h.sM
 have hn:=h.hn
 have wH:s<1099511627774:=by unfold qb at hqb;omega
 have p1:=nB h.bz wH (by omega)
 have hA:=h.nfz
 have nA:=jG h0
 have hF:=OT hA
 rw [OK]at hF
 have hle:=OM (nf a)
 have hNA:ZX.N (nf a)≤n:=hA.bz.N
 have mZ:(nf a).l.length≠0:=fun h1=>by have h2:=ZX.aF.1 nA.ne;have h3:ZX.N (nf a)=(nf a).l.length:=rfl;omega
 generalize nf a=A at *
 have hmul:∀i,aE env.P 15 [Po (pf A (fun k=>k%2==0) i).l,Po (nX A i).l] (Po (pf A (fun k=>k%2==0) i*nX A i).l):=fun i=>by
  have b1:=hA.dv nA (zU nA (fun k=>k%2==0) i) (JY nA _ i)
  have b2:=hA.dv nA (A3 nA i).1 (WJ nA i)
  exact s9 (JZ b1) (JZ b2) (by omega)
 obtain⟨m,hm⟩:∃m,m=nl A:=⟨_,rfl⟩
 have hoz:oz A=pf A (fun k=>k%2==0) m:=by rw [hm];rfl
 have hfl:fl A=(List.range m).map (nX A):=by rw [hm];rfl
 rw [hoz]
 rw [hfl]at hF
 have EM:((List.range m).map (nX A)).length=m:=by simp
 have yF:∀i,i<m→nth ((List.range m).map (nX A)) i=nX A i:=fun i hi=>fZ _ hi
 generalize (List.range m).map (nX A)=L at *
 have h1:=aeb
 rw [show(1:ZX)=pf A (fun k=>k%2==0) 0 from rfl]at h1
 generalize hg:pf A (fun k=>k%2==0) 0=g0 at *
 refine cD [(0,Po a.l)] Tryz.func265 ?_
 refine aA [0] ?_
 refine aR [0] p1 ?_
 refine aQ [0,10] ?_
 refine W.cond ⟨_,rfl,fun h3=>?_,fun h3=>?_⟩
 ·simp at h3;exact absurd (by rw [h3];rfl) mZ
 clear h3
 refine W.skip ?_
 refine aR [0,3] h1 ?_
 refine W.seq ?_
 refine jC ?_
 refine aC hF ?_
 simp (disch:=omega) [gw,EM]
 refine bH [3,14,15,16] ?_
 subst hg
 refine W.block ?_
 refine W.bE (fun k σ=>∃(i:Nat) (rows:Pm.Rows) (clk:Nat),σ=⟨fa [(3,Po (pf A (fun k=>k%2==0) i).l),(14,aJ zp L),(15, .int .i64 m),(16, .int .i64 i)],rows,clk⟩∧i+k=m) m ?_ ?_
 ·exact⟨_, .refl,0,_,_,rfl,by omega⟩
 rintro k _ ⟨i,rows,clk,rfl,zH⟩
 refine bU [3,14,15,16,17] ?_
 refine bJ ?_ ?_<;>intro h
 ·have hi:i<m:=by simp at h;omega
  have hiL:i<L.length:=by omega
  have ht:=hmul i
  have A5:=yF i hi
  have hpf:pf A (fun k=>k%2==0) (i+1)=if i%2==0 then pf A (fun k=>k%2==0) i*nX A i else pf A (fun k=>k%2==0) i:=rfl
  generalize qZ:pf A (fun k=>k%2==0) (i+1)=g2 at *
  generalize pf A (fun k=>k%2==0) i=g at *
  have e2:((i:Int)%2==0)=(i%2==0):=by rw [Bool.eq_iff_iff,beq_iff_eq,beq_iff_eq];omega
  refine W.skip ?_
  refine W.dO (fun σ=>∃(rows:Pm.Rows) (clk:Nat),σ=⟨fa [(3,Po g2.l),(14,aJ zp L),(15, .int .i64 m),(16, .int .i64 i)],rows,clk⟩) ?_ ?_
  ·refine W.sr ?_
   simp (disch:=omega) [gw,A5]
   refine bH [3,4,5,14,15,16] ?_
   refine W.sr ?_
   simp (disch:=omega) [gw,e2]
   refine bH [3,5,14,15,16,23] ?_
   refine bJ ?_ ?_<;>intro h
   ·rw [h,if_pos rfl]at hpf
    rw [hpf]
    refine W.b7 (fun K hK=>?_)
    simp (disch:=omega) [gw]
    refine cS ht ?_
    exact hK _ ⟨_,aB _ [3,14,15,16],_,_,rfl⟩
   ·rw [h,if_neg (by decide)]at hpf
    rw [hpf]
    refine W.skip ?_
    exact⟨_,aB _ [3,14,15,16],_,_,rfl⟩
  rintro _ ⟨rows,clk,rfl⟩
  subst qZ
  refine W.b7 (fun K hK=>?_);simp (disch:=omega) [gw]
  refine hK _ ⟨k-1,_,aB _ [3,14,15,16],by omega,i+1,_,_,rfl,by omega⟩
 ·have hi:i=m:=by simp at h;omega
  subst hi
  refine fA ?_
  refine aA [2] ?_
  exact cC
@[simp] theorem aad:([]:List Int).length=0:=rfl
theorem lV{h n:Nat}{a:ZX}(b:BZ h n a)(h1:1≤h)(hh:h≤YY)(hn:n<1099511627776):aE env.P 78 [PI a.l] (PI (nf a).l):=by
 have hP:=DO a.l b a.c h1 hh hn
 have e:sG a.l=(nf a).l:=rfl
 rw [e]at hP
 generalize lU a.l=c at *
 generalize (nf a).l=d at *
 generalize a.l=x at *
 refine cD [(0,PI x)] Tryz.func78 ?_
 refine aA [0] ?_
 refine aR [4] hP ?_
 refine aA [2] ?_
 exact cC
theorem wW{h n:Nat}{a:ZX}(b:BZ h n a)(hh:h≤YY)(hn:n≤1000):aE env.P 160 [PI a.l] (PI (ZX.bY a).l):=by
 have hlen:=b.len
 have e0:(ZX.bY a).l=aO ((List.range (a.l.length-1)).map fun k=>nth a.l (k+1)*((k:Int)+1)):=rfl
 rw [e0]
 have hz:=fun k=>b.nth k
 generalize a.l=x at *
 generalize hm:x.length-1=m at *
 refine cX (E:=env) (fun id=>if id=5 then 2 else 0) [(0,PI x)] Tryz.func160 rfl (by kernel_rfl) (by kernel_rfl) (show 1≤23 by decide) (by simp) ?_
 refine aA [0] ?_
 refine aA [0,3] ?_
 refine W.nil 3 3 31 4 (by simp) (by decide) (fun K hK=>?_)
 refine W.lw [0,3] hK ?_;clear hK K;simp
 refine aQ [0,3,4] ?_
 refine W.block ?_
 refine W.bE (fun k σ=>∃(i ver:Nat) (rows:Pm.Rows) (clk:Nat),σ=⟨fa [(0,PI x),(3, .own 3 ver 0 i),(4, .int .i64 ((i:Int)+1))],rows,clk⟩ ∧
  rows 3=some ⟨ver,31,4,emap ri ((List.range i).map fun k=>nth x (k+1)*((k:Int)+1))⟩∧i+k=m) m ?_ ?_
 ·exact⟨_, .refl,0,_,_,_,rfl,by simp [emap],by omega⟩
 rintro k _ ⟨i,ver,rows,clk,rfl,hr,zH⟩
 have tO:(emap ri ((List.range i).map fun k=>nth x (k+1)*((k:Int)+1))).length=i:=by simp [emap]
 refine aQ [0,3,4,8] ?_
 refine bJ ?_ ?_<;>intro h
 ·have hi:i+1<x.length:=by simp at h;omega
  have o1:=NM ((i:Int)+1) (by omega)
  have hzi:=hz (i+1)
  have m1:=GP (nth x (i+1)) ((i:Int)+1) (Nat.le_trans hzi hh) (Nat.le_trans (dY (k:=10) (by decide) (by show((i:Int)+1).natAbs<1024;omega)) (by decide))
  have e1:((i:Int)+1).toNat=i+1:=by omega
  have er:(List.range (i+1)).map (fun k=>nth x (k+1)*((k:Int)+1))=(List.range i).map (fun k=>nth x (k+1)*((k:Int)+1)) ++ [nth x (i+1)*((i:Int)+1)]:=by
   rw [List.range_succ,List.map_append];simp
  have aAh:((List.range i).map fun k=>nth x (k+1)*((k:Int)+1)).length=i:=by simp
  generalize (List.range i).map (fun k=>nth x (k+1)*((k:Int)+1))=acc at *
  generalize hq:nth x (i+1)*((i:Int)+1)=q at *
  refine lF ?_
  refine W.I2 (fun K hK=>?_)
  rw [if_pos rfl,fR]
  simp (disch:=omega) [gw,e1]
  refine cS o1 ?_
  refine aC m1 ?_
  simp (disch:=omega) [gw,hr,aAh]
  refine W.lw [0,3,4] hK ?_;clear hK K;simp
  refine W.b7 (fun K hK=>?_);simp (disch:=omega) [gw]
  refine hK _ ⟨k-1,_,aB _ [0,3,4],by omega,i+1,_,_,_,by rw [Int.natCast_add];rfl,by rw [er];simp,by omega⟩
 ·have hi:i=m:=by simp at h;omega
  subst hi
  have gB:((List.range i).map fun k=>nth x (k+1)*((k:Int)+1)).length=i:=by simp
  generalize (List.range i).map (fun k=>nth x (k+1)*((k:Int)+1))=acc at *
  have ez:=bL gB
  refine fA ?_
  refine W.sr ?_
  simp (disch:=omega) [gw,hr,ez]
  refine aC (pQ acc (by omega)) ?_
  simp (disch:=omega) [gw]
  refine bH [2] ?_
  exact cC
theorem OV:aE env.P 97 [.sl [[.int .i64 1]]] (PI (1:ZX).l):=VO [1] (by decide) (by decide)
end Go.Proofs.YtiobceocpabjdaaGreat
