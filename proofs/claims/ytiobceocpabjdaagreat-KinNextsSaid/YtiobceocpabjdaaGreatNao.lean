import Derived.Test.YtiobceocpabjdaaGreatNal
import Derived.Test.YtiobceocpabjdaaGreatNan
set_option linter.unusedSimpArgs false
set_option linter.unusedVariables false
namespace Go.Proofs.YtiobceocpabjdaaGreat
open Go Pm
open ZX hiding N W
variable {n z s r m β k s' u J:Nat}{l:List (ZX × Rat × Rat)}{t lo hi ε:Rat}{v:Rat->Nat}{g w q:ZX}{p:Rat × Rat}{U:Rat->Prop}{c:List ZX}
theorem aju{a b:ZX}(na:Nf a)(nb:Nf b)(hd:dv b a){h l:Nat}(hH:∀d∈a.l,d.natAbs<=2^h)(hN:ZX.N a<=n)(hn:n<=2^l):∀c∈b.l,c.natAbs<=2^(h+n*(2*l+3)):=by
 obtain⟨w,_,e⟩:=na.quo nb hd
 exact aid na.ne e hH hN hn
theorem Q7{f:ZX}(nf:Nf f)(bz:BZ z n f):Ab (jE f.l) (2^(z+1)):=by
 have f0:=x7 nf.ne
 have h1:=DQ f.c f0
 have hl:=dO f.c (List.length_pos_iff.2 f0)
 have hL:(1:Rat)<=(((lead f.l).natAbs:Int):Rat):=fU aA
 have h2:=Rat.div_mul_cancel (a:=((oI f.l (f.l.length-1):Int):Rat)) (b:=(((lead f.l).natAbs:Int):Rat)) aT
 have h3:(1:Rat)<=jE f.l:=(pR f.c f0 (t:=jE f.l) (.inr Rat.le_refl)).2
 have h4:((oI f.l (f.l.length-1):Int):Rat)<=2^z:=by
  have h5:=kB (b:=2) aF (oI f.l (f.l.length-1))
  have h6:=Nat.pow_le_pow_right (show 0<2 by decide) (zZ bz (f.l.length-1))
  exact(NC (s:=z) aA).2
 have h7:=uF z
 rw [Rat.pow_succ]
 generalize (2:Rat)^z=T at *
 generalize ((oI f.l (f.l.length-1):Int):Rat)=m at *
 have hw:m/(((lead f.l).natAbs:Int):Rat)<=T:=by
  refine Rat.not_lt.1 fun h=>?_
  have h8:=Rat.mul_le_mul_of_nonneg_left hL (show 0<=m/(((lead f.l).natAbs:Int):Rat)by grind)
  grind
 exact⟨aT,aT⟩
section
variable {f:ZX} {v:Rat->Nat} {lo hi:Rat} (nf:Nf f) (A:mV f v lo hi)
include nf A
theorem Q8:(iU v lo hi t -> -jE f.l<t)∧(¬iU v lo hi t->t<jE f.l):=by
 have f0:=x7 nf.ne
 have apH:∀ {a b:Rat},a<b->b <= -jE f.l->v a=v b:=fun gU hb=>A.S.bg ⟨1,aF,fun x _ h2=>(pR f.c f0 (.inl aT)).1⟩ gU
 have apI:∀ {a b:Rat},a<b->jE f.l<=a->v a=v b:=fun gU hb=>A.S.bg ⟨1,aF,fun x h1 _=>(pR f.c f0 (.inr aT)).1⟩ gU
 have pt:e lo f=0->¬mU (jE f.l) lo:=fun h0 hb=>by
  have h1:=(pR f.c f0 hb).1
  rw [show qv lo f.l=e lo f from rfl,h0]at h1
  rcases h1 with h1 | h1<;>exact absurd h1 aF
 constructor
 ·refine fun h=>Rat.not_le.1 fun ht=>?_
  rcases A.k with ⟨h1,h2⟩ | ⟨h1,h2⟩
  ·refine pt h2 (.inl ?_)
   rcases h with h | ⟨h,h3⟩
   ·grind
   ·grind
  ·rcases h with h | ⟨h,h3⟩
   ·have:=apH h1 aT;omega
   ·have:=apH h ht;omega
 ·refine fun h=>Rat.not_le.1 fun ht=>?_
  have h0:t<hi:=Rat.not_le.1 fun h1=>h (.inl h1)
  rcases A.k with ⟨h1,h2⟩ | ⟨h1,h2⟩
  ·exact pt h2 (.inr aT)
  ·by_cases h3:t<=lo
   ·have:=apI h1 aT;omega
   ·have h4:v lo<=v t:=Nat.not_lt.1 fun h4=>h (.inr ⟨aT,h4⟩)
    have:=apI h0 ht
    omega
theorem acv:2<=ZX.N f:=Nat.not_lt.1 fun h=>by
 have:=ZX.aH.1 nf.ne
 obtain⟨c,hc,rfl⟩:=ZX.nO (x:=f) aA
 have hcq:(c:Rat)≠0:=fun h0=>hc (Rat.intCast_eq_zero_iff.1 h0)
 rcases A.k with ⟨_,h2⟩ | ⟨h1,h2⟩
 ·rw [CV]at h2;exact hcq h2
 ·have:=A.S.const h1 (σ:=cP (c:Rat)) (.inr (by rw [CV])) (fun x _ _=>by rw [CV])
  omega
end
theorem dE{f:ZX}(A:mV f v lo hi):Num (iU v lo hi):=⟨fun _ _ h h'=>A.up h h',⟨lo-1,A.jB (.inl aT)⟩,⟨hi,fM⟩⟩
def se(s r n m β:Nat):Nat:=6*(n+m)+(s+n*9)*m+r*n+(n+m)*(β+2)+2
theorem aao{f h:ZX}(S:pD f h g w)(nf:Nf f)(nh:Nf h)(ch:wO h (cD h))(hA:∀c∈f.l,c.natAbs<=2^s)(hB:∀c∈h.l,c.natAbs<=2^r)(hn:ZX.N f<=n)(hm:ZX.N h<=m)(n8:n<=8)(m8:m<=8)
  {a b:Rat} (ha:Ab a (2^β)) (hb:Ab b (2^β)) (gU:a<b) (hd:(b-a)*2^se s r n m β<=1):vt (aO w) a=vt (aO w) b∨vt (aO h) a=vt (aO h) b:=by
 have n1:=S.N
 have Sw:=wT S.nw.ne S.sw aA
 have Sh:=wT nh.ne ch aA
 refine acp Sw Sh S.wh (s:=s+n*9) (r:=r) (l:=4) (β:=β) (aju nf S.nw (by rw [S.eq];exact(dv.refl w).mul_right _) hA hn (show n<=2^3 by omega)) hB aA ha hb gU (JG hd ?_)
 unfold se sx
 have h1:(s+n*9)*ZX.N h<=(s+n*9)*m:=Nat.mul_le_mul_left _ hm
 have h2:r*ZX.N w<=r*n:=Nat.mul_le_mul_left _ aA
 have h3:(ZX.N w+ZX.N h)*(β+2)<=(n+m)*(β+2):=Nat.mul_le_mul_right _ aA
 omega
theorem am2{f h:ZX}{q:Rat × Rat}(nf:Nf f)(nh:Nf h)(cf:wO f (cD f))(ch:wO h (cD h))(A:mV f (vt (aO f)) p.1 p.2)(B:mV h (vt (aO h)) q.1 q.2){K:Nat}(hA:∀c∈f.l,c.natAbs<=2^s)(hB:∀c∈h.l,c.natAbs<=2^r)(hn:ZX.N f<=n)(hm:ZX.N h<=m)(n8:n<=8)(m8:m<=8)
  (k1:se s r n m β<=K) (k2:se r s m n β<=K) (k3:lk s n 3 β<=K∨lk r m 3 β<=K) {S E:Rat} (hS:Ab S (2^β)) (hE:Ab E (2^β)) (a1:¬bN f p S) (a2:bN f p E) (b1:¬bN h q S) (b2:bN h q E) (hd:(E-S)*2^K<=1):∀x,bN f p x↔bN h q x:=by
 have FR:=(dE A).lt a1 a2
 obtain⟨w1,S1⟩:=nU (h:=h) nf cf
 obtain⟨w2,S2⟩:=nU (h:=f) nh ch
 rw [<-tW]at S2
 have n1:=S1.N
 have n2:=S2.N
 have hg:=wT S1.ng.ne S1.sg aA
 have CS:=wT S1.nw.ne S1.sw aA
 have hw2:=wT S2.nw.ne S2.sw aA
 have o1:=lB A a1 a2 FR
 have o2:=lB B b1 b2 FR
 have c1:=S1.JO A.S hg CS (Rat.le_of_lt FR)
 have c2:=S2.JO B.S hg hw2 (Rat.le_of_lt FR)
 have e1:=(aao S1 nf nh ch hA hB hn hm n8 m8 hS hE FR (JG hd k1)).resolve_right aA
 have e2:=(aao S2 nh nf cf hB hA hm hn m8 n8 hS hE FR (JG hd k2)).resolve_right aA
 have tK:∀ {x:ZX} {s n:Nat},uG x (vt (aO x))->(∀c∈x.l,c.natAbs<=2^s)->ZX.N x<=n->n<=8->lk s n 3 β<=K->vt (aO x) S<=vt (aO x) E+1:=fun {x s n} hx hA hN h8 hk=>by
  obtain⟨L,G,e⟩:=hx.g
  obtain⟨g1,_⟩:=xS G (s:=s) (n:=n) (l:=3) (β:=β) hx.ne hA hN aA hx.ND (δ:=E-S) (JG hd hk)
  have:=g1.turns S E hS hE FR Rat.le_refl
  rw [e]
  rcases QW x S E with h5 | h5<;>omega
 have m0:=hg.bU (Rat.le_of_lt FR)
 have hv:vt (aO f) S<=vt (aO f) E+1∧vt (aO h) S<=vt (aO h) E+1:=by
  rcases k3 with k3 | k3
  ·have:=tK A.S hA hn n8 k3;omega
  ·have:=tK B.S hB hm m8 k3;omega
 exact CA A B S1 S2 hg CS hw2 FR a1 a2 b1 b2 hv.1 hv.2 aA
theorem NJ(n2:2<=n)(m2:2<=m)(n8:n<=8)(m8:m<=8)(hs:z<=s)(hr:z<=r):2*se s r n m (z+2)+2*(s+r)+9<=64+4*(n+m)*(s+r+(n+m)+8):=by
 have e1:4*(n+m)*(s+r+(n+m)+8)=4*(n*s)+4*(n*r)+4*(m*s)+4*(m*r)+4*(n*n)+8*(n*m)+4*(m*m)+32*n+32*m:=aT
 have e2:se s r n m (z+2)=6*(n+m)+m*s+9*(n*m)+n*r+n*z+m*z+4*n+4*m+2:=by unfold se;grind
 have h1:n*z<=n*s:=Nat.mul_le_mul_left _ hs
 have h2:m*z<=m*r:=Nat.mul_le_mul_left _ hr
 have h3:n*m<=8*m:=Nat.mul_le_mul_right _ n8
 have h4:2*(n*m)<=n*n+m*m:=by
  rcases Nat.le_total n m with h | h
  ·obtain⟨d,rfl⟩:=Nat.exists_eq_add_of_le h;grind
  ·obtain⟨d,rfl⟩:=Nat.exists_eq_add_of_le h;grind
 have h5:2*s<=n*s:=Nat.mul_le_mul_right _ n2
 have h6:2*r<=m*r:=Nat.mul_le_mul_right _ m2
 omega
theorem lk3(s n:Nat):lk s n 3 (s+2)=5*(n*s)+30*n+s+6:=by unfold lk sk;grind
theorem NK(n2:2<=n)(m2:2<=m)(n8:n<=8)(hsr:s<=r)(hm:3<=m∨n<=2):2*lk s n 3 (s+2)+2*(s+r)+9<=64+4*(n+m)*(s+r+(n+m)+8):=by
 have e1:4*(n+m)*(s+r+(n+m)+8)=4*(n*s)+4*(n*r)+4*(m*s)+4*(m*r)+4*(n*n)+8*(n*m)+4*(m*m)+32*n+32*m:=aT
 obtain⟨d,rfl⟩:=Nat.exists_eq_add_of_le hsr
 rw [e1,lk3,Nat.mul_add n,Nat.mul_add m]
 have h1:n*s<=8*s:=Nat.mul_le_mul_right _ n8
 have h5:2*s<=m*s:=Nat.mul_le_mul_right _ m2
 have h6:2*d<=m*d:=Nat.mul_le_mul_right _ m2
 have h7:2*n<=n*n:=Nat.mul_le_mul_right _ n2
 have h8:2*n<=n*m:=by rw [Nat.mul_comm n];exact Nat.mul_le_mul_right _ m2
 rcases hm with hm | hm
 ·have h9:3*s<=m*s:=Nat.mul_le_mul_right _ hm
  have h10:3*n<=n*m:=by rw [Nat.mul_comm n];exact Nat.mul_le_mul_right _ hm
  omega
 ·have h9:n*s<=2*s:=Nat.mul_le_mul_right _ hm
  omega
theorem NL(n2:2<=n)(n8:n<=8)(hsr:s<=r)(hm:m=2):2*lk r m 3 (s+2)+2*(s+r)+9<=64+4*(n+m)*(s+r+(n+m)+8):=by
 subst hm
 have e1:4*(n+2)*(s+r+(n+2)+8)=4*(n*s)+4*(n*r)+8*s+8*r+4*(n*n)+48*n+80:=aT
 have e2:lk r 2 3 (s+2)=5*r+6*s+66:=by unfold lk sk;omega
 have h5:2*s<=n*s:=Nat.mul_le_mul_right _ n2
 have h6:2*r<=n*r:=Nat.mul_le_mul_right _ n2
 have h7:2*n<=n*n:=Nat.mul_le_mul_right _ n2
 omega
theorem ajv(n2:2<=n)(m1:1<=m)(n8:n<=8)(m8:m<=8):se s (r+m*9) n m (s+1)+s+2<=64+4*(n+m)*(s+r+(n+m)+8):=by
 have e1:4*(n+m)*(s+r+(n+m)+8)=4*(n*s)+4*(n*r)+4*(m*s)+4*(m*r)+4*(n*n)+8*(n*m)+4*(m*m)+32*n+32*m:=aT
 have e2:se s (r+m*9) n m (s+1)=6*(n+m)+m*s+18*(n*m)+n*r+n*s+m*s+3*n+3*m+2:=by unfold se;grind
 have h3:n*m<=8*m:=Nat.mul_le_mul_right _ n8
 have h4:2*(n*m)<=n*n+m*m:=by
  rcases Nat.le_total n m with h | h
  ·obtain⟨d,rfl⟩:=Nat.exists_eq_add_of_le h;grind
  ·obtain⟨d,rfl⟩:=Nat.exists_eq_add_of_le h;grind
 have h5:2*s<=n*s:=Nat.mul_le_mul_right _ n2
 omega
theorem acw(q:ZX)(x0:Rat)(hε:0<ε):∃r:Rat,0<r ∧ ∀x,x0-r<=x->x<=x0+r->Ab (e x q-e x0 q) ε:=by
 obtain⟨B,hB,ha,hb⟩:=k9 (x0-1) (x0+1)
 obtain⟨Q,hQ,hl⟩:=lip q B hB
 have e1:ε/Q*Q=ε:=Rat.div_mul_cancel (Rat.ne_of_gt hQ)
 obtain⟨r,hr,h1,h2⟩:=min2 (show (0:Rat)<1 by decide) ((Rat.lt_div_iff hQ).2 (show 0*Q<ε by grind))
 have hrQ:r*Q<=ε:=by have:=Rat.mul_le_mul_of_nonneg_right h2 (Rat.le_of_lt hQ);grind
 have sB:Ab x0 B:=cH ha hb aT aT
 refine⟨r,hr,fun x h3 h4=>?_⟩
 have hx:Ab x B:=cH ha hb aT aT
 by_cases h:x0<=x
 ·have h5:=hl x0 x sB hx h
  refine h5.mono ?_
  have:=Rat.mul_le_mul_of_nonneg_right (show x-x0<=r by grind) (Rat.le_of_lt hQ)
  grind
 ·have h5:=(hl x x0 hx sB aT).mono (show (x0-x)*Q<=ε by
   have:=Rat.mul_le_mul_of_nonneg_right (show x0-x<=r by grind) (Rat.le_of_lt hQ)
   grind)
  obtain⟨p1,p2⟩:=h5
  exact⟨aT,aT⟩
theorem ato{x y:Rat}(hε:0<ε)(h:mU (ε+ε) x)(w7:Ab (y-x) ε):cP y=cP x∧mU ε y:=by
 obtain⟨p1,p2⟩:=w7
 rcases h with h | h
 ·exact⟨by rw [i0 (show x<0 by grind),i0 aT], .inl aT⟩
 ·exact⟨by rw [fZ (show 0<x by grind),fZ aT], .inr aT⟩
theorem JR{x0:Rat}(hU:∀t,U t↔x0<=t)(q:ZX):WR U q (cP (e x0 q)):=by
 have lo:∀ {r:Rat},0<r->¬U (x0-r):=fun hr h=>by have:=(hU _).1 h;grind
 have hi:∀ {r:Rat},0<r->U (x0+r):=fun hr=>(hU _).2 aT
 by_cases h0:e x0 q=0
 ·refine .inl ⟨by rw [h0,kI],fun ε hε=>?_⟩
  obtain⟨r,hr,h⟩:=acw q x0 hε
  refine⟨x0-r,x0+r,lo hr,hi hr,fun x h1 h2=>?_⟩
  have:=h x h1 h2
  rwa [h0,show e x q-0=e x q by grind]at this
 ·have hs:cP (e x0 q)=1∨cP (e x0 q) = -1:=by
   rcases dC (e x0 q)with ⟨_,h⟩ | ⟨h,_⟩ | ⟨_,h⟩
   ·exact .inr h
   ·exact absurd h h0
   ·exact .inl h
  obtain⟨ε,hε,hb⟩:∃ε:Rat,0<ε∧mU (ε+ε) (e x0 q):=by
   by_cases h:0<=e x0 q
   ·exact⟨e x0 q/2,aT, .inr aT⟩
   ·exact⟨-(e x0 q)/2,aT, .inl aT⟩
  obtain⟨r,hr,h⟩:=acw q x0 hε
  exact .inr ⟨hs,ε,x0-r,x0+r,hε,lo hr,hi hr,fun x h1 h2=>ato hε hb (h x (Rat.le_of_lt h1) h2)⟩
theorem az0{r:ZX}(hr:sF r)(q0:q≠0)(h:dv r q):dv r (sq q):=by
 obtain⟨nf,hf⟩:=nT q0
 have p1:r^1=r:=by rw [pow_succ',fH];grind
 have h1:=(lP hr q0 (k:=1)).2 (by rw [p1];exact h)
 have h2:=(lP hr nf.ne (k:=1)).1 (by rw [hf r hr];omega)
 rwa [p1]at h2
theorem wO.az1(q0:q≠0)(h:wO w (sq q)):wO w q:=fun d h1 h2=>Nat.not_lt.1 fun hd=>by
 obtain⟨r,hr,hrd⟩:=qN _ d (Nat.le_refl _) aA
 have:=h r (hrd.trans h1) (az0 hr q0 (hrd.trans h2))
 have:=hr.deg
 omega
theorem ajw{f:ZX}(nf:Nf f)(hf:sq f=f)(q0:q≠0):gz f (sq q)=gz q f:=by
 obtain⟨nq,hq⟩:=nT q0
 refine Nf.wK (EZ (.inl nf.ne)) (EZ (.inl q0)) fun p hp=>?_
 rw [(fS f (sq q)).mu nf.ne nq.ne hp,(fS q f).mu q0 nf.ne hp,hq p hp]
 have:=(nT nf.ne).2 p hp
 rw [hf]at this
 omega
section
variable {f h g w:ZX} {v γ φ:Rat->Nat} {lo hi:Rat} (A:mV f v lo hi) (S:pD f h g w) (Sg:uG g γ) (Sw:uG w φ)
include A S Sg Sw
theorem az2(c8:lo<hi)(hγ:γ hi<γ lo):Sml (iU v lo hi) g:=by
 have hv:v lo=v hi+1:=by
  rcases A.k with ⟨h,_⟩ | ⟨_,h⟩
  ·rw [h]at c8;exact absurd c8 Rat.lt_irrefl
  ·exact h
 refine VW (dE A) Sg (A.jB (.inr ⟨rfl,c8⟩)) fM fun s t h1 h2 h3 h4=>?_
 have j2:=(dE A).lt h3 h4
 have c0:=S.JO A.S Sg Sw (Rat.le_of_lt c8)
 have c1:=S.JO A.S Sg Sw (Rat.le_of_lt j2)
 have o:=lB A h3 h4 j2
 have m1:=Sw.bU h1
 have m2:=Sw.bU (Rat.le_of_lt j2)
 have m3:=Sw.bU h2
 have m4:=Sg.bU h1
 have m5:=Sg.bU (Rat.le_of_lt j2)
 have m6:=Sg.bU h2
 omega
theorem aFj(c8:lo<hi)(hγ:γ lo=γ hi):Sml (iU v lo hi) w:=by
 refine VW (dE A) Sw (A.jB (.inr ⟨rfl,c8⟩)) fM fun s t h1 h2 h3 h4=>?_
 have j2:=(dE A).lt h3 h4
 have c1:=S.JO A.S Sg Sw (Rat.le_of_lt j2)
 have o:=lB A h3 h4 j2
 have m4:=Sg.bU h1
 have m5:=Sg.bU (Rat.le_of_lt j2)
 have m6:=Sg.bU h2
 omega
theorem aap(c8:lo<hi)(hγ:γ lo=γ hi)(q0:q≠0)(hh:h=sq q)(hN:ZX.N (sq q)<=20)(Sq:uG (sq q) (vt (aO (sq q))))(hη:vt (aO (sq q)) lo=vt (aO (sq q)) hi):WR (iU v lo hi) q (cP (e hi q)):=by
 obtain⟨nf,hf⟩:=nT q0
 have hw:wO w q:=wO.az1 q0 (hh▸S.wh)
 have k:=Q5 nf Sq.ND Sq hN c8 hη _ q (Nat.le_refl _) q0 (fun r hr=>by rw [hf r hr];exact Nat.le_refl _)
 obtain⟨B,hB,ha,hb⟩:=k9 lo hi
 obtain⟨ε,hε,hs⟩:=azH S.nw.ne q0 hw B
 obtain⟨s,t,h1,h2,h3⟩:=aFj A S Sg Sw c8 hγ (ε/2) aT
 obtain⟨a,b,k1,k2,k3,k4,k5,k6,k7⟩:=(dE A).inter h1 h2 (A.jB (.inr ⟨rfl,c8⟩)) (fM (v:=v) (lo:=lo) (hi:=hi))
 have hs3:cP (e hi q)=1∨cP (e hi q) = -1:=by
  have h4:=(k hi c8 Rat.le_refl).1
  rcases dC (e hi q)with ⟨_,h⟩ | ⟨h,_⟩ | ⟨_,h⟩
  ·exact .inr h
  ·exact absurd h h4
  ·exact .inl h
 refine .inr ⟨hs3,ε,a,b,hε,k1,k2,fun x hx hy=>⟨(k x aT aT).2,?_⟩⟩
 refine(hs x (cH ha hb aT aT)).resolve_left fun h4=>?_
 obtain⟨p1,p2⟩:=h3 x aT aT
 rcases h4 with h4 | h4<;>grind
end
theorem am3{f:ZX}{γ φ:Rat->Nat}(A:mV f (vt (aO f)) p.1 p.2)(S:pD f (sq q) g w)(Sg:uG g γ)(Sw:uG w φ)(Sq:uG (sq q) (vt (aO (sq q))))(c8:p.1<p.2)(hγ:γ p.1=γ p.2):∃a b,p.1<=a∧a<b∧b<=p.2∧mV f (vt (aO f)) a b∧iU (vt (aO f)) a b=bN f p∧vt (aO (sq q)) a=vt (aO (sq q)) b:=by
 obtain⟨B,hB,ha,hb⟩:=k9 p.1 p.2
 obtain⟨δ,hδ,LS⟩:=Q3 Sw Sq S.wh B
 obtain⟨a,b,g1,g2,g3,g4,g5,g6⟩:=GJ (U:=bN f p) hδ c8 (A.jB (.inr ⟨rfl,c8⟩)) fM
 have o:=lB A g5 g6 g2
 have c1:=S.JO A.S Sg Sw (Rat.le_of_lt g2)
 have m1:=Sg.bU g1
 have m2:=Sg.bU g3
 have m3:=Sg.bU (Rat.le_of_lt g2)
 have hη:=(LS a b (cH ha hb g1 aT) (cH ha hb aT g3) g2 g4).resolve_left aA
 have v1:=A.S.bU g1
 have v2:=A.S.bU g3
 have hv:vt (aO f) p.1=vt (aO f) p.2+1:=by
  rcases A.k with ⟨h,_⟩ | ⟨_,h⟩
  ·grind
  ·exact h
 refine⟨a,b,g1,g2,g3,⟨A.S, .inr ⟨g2,aA⟩⟩,funext fun t=>propext ⟨fun h=>?_,fun h=>?_⟩,hη⟩
 ·rcases h with h | ⟨h,h3⟩
  ·exact A.up g6 h
  ·by_cases h4:p.1<t
   ·exact .inr ⟨h4,aA⟩
   ·exact absurd (A.S.bU (show t<=p.1 by grind)) aA
 ·by_cases h4:b<=t
  ·exact .inl h4
  ·refine .inr ⟨(dE A).lt g5 h,?_⟩
   rcases h with h | ⟨h,h3⟩
   ·have:=A.S.bU h;omega
   ·omega
theorem acx(q0:q≠0):wO (sq q) (cD (sq q)):=fun d h1 h2=>by
 have h3:=(fS (sq q) (cD (sq q))).least h1 h2
 rw [ace q0]at h3
 have:=h3.nP ZX.qM
 rwa [ZX.wH]at this
theorem acy{f:ZX}(nf:Nf f)(hf:sq f=f)(cf:wO f (cD f))(hN:ZX.N f<=20)(A:mV f (vt (aO f)) p.1 p.2)(hq:ZX.N q<=20)(q0:q≠0)(c8:p.1<p.2):∃σ,WR (bN f p) q σ∧(σ=0↔vt (aO (gz q f)) p.2<vt (aO (gz q f)) p.1):=by
 obtain⟨nq,hmu⟩:=nT q0
 have hNq:ZX.N (sq q)<=20:=Nat.le_trans ((uE q0).nP q0) hq
 have Sq:=wT nq.ne (acx q0) hNq
 obtain⟨w,S⟩:=nU (h:=sq q) nf cf
 rw [ajw nf hf q0]at S
 have n1:=S.N
 have Sg:=wT S.ng.ne S.sg aA
 have Sw:=wT S.nw.ne S.sw aA
 have m:=Sg.bU (Rat.le_of_lt c8)
 by_cases hγ:vt (aO (gz q f)) p.2<vt (aO (gz q f)) p.1
 ·exact⟨0, .inl ⟨rfl,(az2 A S Sg Sw c8 hγ).dv (dE A) (fS q f).l⟩,⟨fun _=>hγ,fun _=>rfl⟩⟩
 ·obtain⟨a,b,g1,g2,g3,A2,e1,hη⟩:=am3 A S Sg Sw Sq c8 aA
  have m1:=Sg.bU g1
  have m2:=Sg.bU g3
  have m3:=Sg.bU (Rat.le_of_lt g2)
  have k:=aap A2 S Sg Sw g2 aA q0 rfl hNq Sq hη
  rw [e1]at k
  refine⟨_,k,⟨fun h=>?_,fun h=>absurd h hγ⟩⟩
  exact absurd (fT.1 h) (Q5 nq Sq.ND Sq hNq g2 hη _ q (Nat.le_refl _) q0 (fun r hr=>by rw [hmu r hr];exact Nat.le_refl _) b g2 Rat.le_refl).1
theorem NM(h:n<2^k):0<=bl (aV LL n)∧bl (aV LL n)<=k∧n<2^(bl (aV LL n)).toNat:=by
 have hV:=nD iT n
 have hL:=gZ iT n
 have hc:=mI iT n
 generalize aV LL n=l at *
 unfold bl
 by_cases h0:l = []
 ·subst h0
  simp [V]at hV
  rw [if_pos rfl]
  exact⟨aA,aA,by simp;omega⟩
 ·rw [if_neg h0]
  have hl:=List.length_pos_iff.2 h0
  obtain⟨j,hj⟩:∃j,l.length=j+1:=⟨l.length-1,aA⟩
  rw [hj,show j+1-1=j by omega]
  have e:=bQ (l:=l) (i:=j) aA
  rw [List.take_of_length_le aA]at e
  have ht:=hL.nth (i:=j) aA
  have hVt:=sU (b:=(LL:Int)) aF (hL.take j)
  have YH:V (LL:Int) l=V (LL:Int) (l.take j)+(LL:Int)^j*nth l j:=by
   conv=>lhs;rw [e]
   rw [eZ,show(l.take j).length=j by rw [List.length_take];omega]
   simp [V]
  have hge:=n9 (b:=(LL:Int)) aF hL hc h0
  rw [hj,show j+1-1=j by omega]at hge
  rw [show(l.take j).length=j by rw [List.length_take];omega]at hVt
  have eP:((LL:Int)^j)=((2^(32*j):Nat):Int):=by
   rw [Nat.pow_mul,Int.natCast_pow]
  rw [eP]at hVt YH hge
  have hnl:=rL (n:=(nth l j).toNat) (k:=nb (nth l j).toNat)
  have hnk:=rL (n:=(nth l j).toNat) (k:=k-32*j)
  have hT:=hnl.1 (Nat.le_refl _)
  have e3:(32*(((j+1:Nat):Int)-1)+((nb (nth l j).toNat:Nat):Int)).toNat=32*j+nb (nth l j).toNat:=aA
  have hP:=Nat.two_pow_pos (32*j)
  have hkj:32*j<k:=Nat.not_le.1 fun hh=>by
   have:=Nat.pow_le_pow_right (show 0<2 by decide) hh
   omega
  have e4:2^(32*j)*2^(k-32*j)=2^k:=by rw [<-Nat.pow_add,show 32*j+(k-32*j)=k by omega]
  have hV0:0<=V (LL:Int) (l.take j):=bV aF (hL.take j)
  refine⟨aA,?_,?_⟩
  ·have:(nth l j).toNat<2^(k-32*j):=Nat.not_le.1 fun hh=>by
    have h2:=Nat.mul_le_mul_left (2^(32*j)) hh
    have h3:((2^(32*j):Nat):Int)*nth l j=((2^(32*j)*(nth l j).toNat:Nat):Int):=by rw [Int.natCast_mul];congr 1;omega
    omega
   have:=hnk.2 this
   omega
  ·rw [e3,Nat.pow_add]
   have h2:2^(32*j)*((nth l j).toNat+1)<=2^(32*j)*2^nb (nth l j).toNat:=Nat.mul_le_mul_left _ hT
   have h3:((2^(32*j):Nat):Int)*nth l j=((2^(32*j)*(nth l j).toNat:Nat):Int):=by rw [Int.natCast_mul];congr 1;omega
   rw [Nat.mul_add,Nat.mul_one]at h2
   omega
theorem wX{x:Int}(h:x.natAbs<2^k)(hk:k<=1000000000):aC 257 [us (aV LL x.natAbs)] (aB (bl (aV LL x.natAbs))):=by
 have h1:=TU (aV LL x.natAbs) ⟨gZ iT _,by
  have h2:x.natAbs<LL^k:=Nat.lt_of_lt_of_le h (Nat.pow_le_pow_left aF k)
  have:=FV iT h2
  omega⟩
 rwa [mI iT]at h1
def zs(f:ZX):Nat:=(RZ f.l f.l.length).toNat
theorem CD{x:List Int}{k:Nat}(h:∀c∈x,c.natAbs<2^k):∀i,i<=x.length->0<=RZ x i∧RZ x i<=k ∧ ∀j,j<i->(nth x j).natAbs<2^(RZ x i).toNat
 | 0,_=>⟨Int.le_refl _,by show(0:Int)<=k;omega,fun j hj=>absurd hj (Nat.not_lt_zero _)⟩
 | i+1,hi=>by
  obtain⟨h1,h2,h3⟩:=CD h i aA
  obtain⟨g1,g2,g3⟩:=NM (h (nth x i) (bO aA))
  rw [RZ]
  have key:∀ {a:Nat} {y z:Int},y<=z->a<2^y.toNat->a<2^z.toNat:=fun hyz ha=>Nat.lt_of_lt_of_le ha (Nat.pow_le_pow_right aF aA)
  split
  ·refine⟨g1,g2,fun j hj=>?_⟩
   rcases Nat.lt_or_ge j i with hh | hh
   ·exact key aA (h3 j hh)
   ·rw [show j=i by omega];exact g3
  ·refine⟨h1,h2,fun j hj=>?_⟩
   rcases Nat.lt_or_ge j i with hh | hh
   ·exact h3 j hh
   ·rw [show j=i by omega];exact key aA g3
section
variable {s n:Nat} {f:ZX} (b:BZ s n f)
include b
theorem BZ.lt:∀c∈f.l,c.natAbs<2^s:=fun c hc=>Nat.lt_of_lt_of_le (kB aF c) (Nat.pow_le_pow_right aF (b.sz c hc))
theorem E9:zs f<=s:=by
 have:=(CD b.lt _ (Nat.le_refl _)).2.1
 unfold zs;omega
theorem az3:∀c∈f.l,c.natAbs<2^zs f:=fun c hc=>by
 obtain⟨i,hi,rfl⟩:=List.getElem_of_mem hc
 rw [<-bZ hi]
 exact(CD b.lt _ (Nat.le_refl _)).2.2 i hi
theorem VX:BZ (zs f) n f:=⟨b.N,fun c hc=>dZ aF (az3 b c hc)⟩
theorem VY(hs:s<=1000000000)(hn:n<=50):aC 264 [Po f.l] (aB ((zs f:Nat):Int)):=by
 have h1:=CD b.lt _ (Nat.le_refl _)
 have:=aeQ (x:=f.l) (by have:=b.N;show ZX.N f<_;omega) fun i hi=>by
  have h2:=b.lt _ (bO hi)
  obtain⟨g1,g2,_⟩:=NM h2
  exact⟨wX h2 hs,g1,aA⟩
 rw [show((zs f:Nat):Int)=RZ f.l f.l.length by unfold zs;omega]
 exact this
end
theorem NO{k':Nat}{f h:ZX}(bf:BZ s k f)(bh:BZ s' k' h)(hs:s<=1000000000)(CO:s'<=1000000000)(hk:k<=50)(CN:k'<=50){an ad bn bd cn cd dn dd:Int}(h1:an.natAbs<2^u)(h2:bn.natAbs<2^u)(h3:cn.natAbs<2^u)(h4:dn.natAbs<2^u)(hu:u<=1000000000) :
  ∃N:Nat,aC 252 [.ag (G9 f.l an ad bn bd), .ag (G9 h.l cn cd dn dd)] (aB N)∧64+4*(ZX.N f+ZX.N h)*(zs f+zs h+(ZX.N f+ZX.N h)+8)<=N∧N<=64+8*u+4*(ZX.N f+ZX.N h)*(zs f+zs h+(ZX.N f+ZX.N h)+8):=by
 obtain⟨a1,a2,_⟩:=NM h1
 obtain⟨b1,b2,_⟩:=NM h2
 obtain⟨c1,c2,_⟩:=NM h3
 obtain⟨d1,d2,_⟩:=NM h4
 have z1:=E9 bf
 have z2:=E9 bh
 have n1:=bf.N
 have n2:=bh.N
 have R:=aak (ad:=ad) (bd:=bd) (cd:=cd) (dd:=dd) (show f.l.length<=50 by show ZX.N f<=_;omega) (show h.l.length<=50 by show ZX.N h<=_;omega) (wX h1 hu) (wX h2 hu) (wX h3 hu) (wX h4 hu) ⟨a1,aA⟩ ⟨b1,aA⟩ ⟨c1,aA⟩ ⟨d1,aA⟩ (VY bf hs hk) (VY bh CO CN) ⟨aA,aA⟩ ⟨aA,aA⟩
 have e1:4*((f.l.length:Int)+h.l.length)*((zs f:Int)+zs h+((f.l.length:Int)+h.l.length)+8)=((4*(ZX.N f+ZX.N h)*(zs f+zs h+(ZX.N f+ZX.N h)+8):Nat):Int):=by
  show 4*((ZX.N f:Int)+(ZX.N h:Nat))*_=_
  simp only [Int.natCast_mul,Int.natCast_add]
  rfl
 rw [e1]at R
 generalize 4*(ZX.N f+ZX.N h)*(zs f+zs h+(ZX.N f+ZX.N h)+8)=M at *
 generalize bl (aV LL an.natAbs)=x1 at *
 generalize bl (aV LL bn.natAbs)=x2 at *
 generalize bl (aV LL cn.natAbs)=x3 at *
 generalize bl (aV LL dn.natAbs)=x4 at *
 refine⟨64+2*(x1+x2+x3+x4).toNat+M,?_,aA,aA⟩
 have e2:(((64+2*(x1+x2+x3+x4).toNat+M:Nat)):Int)=64+2*(x1+x2+x3+x4)+(M:Int):=aA
 rw [e2]
 exact R
theorem oJ(P:Nat->Prop):∀N,∃J,J<=N∧(∀j,j<J->¬P j)∧(J<N->P J)
 | 0=>⟨0,Nat.le_refl _,fun j h=>absurd h (Nat.not_lt_zero _),fun h=>absurd h (Nat.lt_irrefl _)⟩
 | N+1=>by
  obtain⟨J,h1,h2,h3⟩:=oJ P N
  by_cases hJ:J<N
  ·exact⟨J,aA,h2,fun _=>h3 hJ⟩
  ·have:J=N:=by omega
   subst this
   by_cases hP:P J
   ·exact⟨J,aA,h2,fun _=>hP⟩
   ·exact⟨J+1,aA,fun j hj=>by
     rcases Nat.lt_or_ge j J with h | h
     ·exact h2 j h
     ·rw [show j=J by omega];exact hP,fun h=>by omega⟩
theorem mR{x:List Int}(q1:SQ u p.1)(q2:SQ u p.2)(hu:u<=1000000000):aC 193 [.ag (G9 x p.1.num p.1.den p.2.num p.2.den)] (.bool (decide (p.2<=p.1))):=by
 have z0:=dM q1.nL q1.dL q2.nL q2.dL aA (bI p.1) (bI p.2) ⟨q1.nL,q1.dL⟩ ⟨q2.nL,q2.dL⟩
 have hp:=z7 (x:=x) z0
 have e:decide (0<=eA (p.1.num*(p.2.den:Int)) (p.2.num*(p.1.den:Int)))=decide (p.2<=p.1):=decide_eq_decide.2 (by
  have:=jC (p:=p.1) (q:=p.2)
  rw [<-Rat.not_lt,<-this]
  omega)
 rwa [e]at hp
theorem DW(q:SQ u t)(hu:u<=1000000000):aC 90 [RT t, .sl []] (RT t):=by
 obtain⟨l1,l2⟩:=q.LLt (show u<1099511627770 by omega)
 have:=B4 l1 l2
 rwa [bI]at this
theorem wY{f:ZX}(b:BZ s n f)(hs:s<=1000000000)(hn:n<=50)(q1:SQ u p.1)(q2:SQ u p.2)(hu:u<=1000000000):aC 192 [GA f p] (GA f p):=by
 have N1:=fG (x:=f.l) (b.pb aA aA)
 rw [f.c]at N1
 exact aeO N1 (DW q1 hu) (DW q2 hu)
theorem aeR{x:List Int}{an ad bn bd:Int}(hq:aC 64 [Po []] (Po []))(hN:aC 192 [.ag (G9 x an ad bn bd)] (.ag (G9 x an ad bn bd))):aC 246 [Po [], .ag (G9 x an ad bn bd)] (aB 0):=by
 simp only [G9]at *
 apply cG [(0,Po []),(1, .ag (G9 x an ad bn bd))] Tryz.func246
 apply kR [0,3]
 apply fV hq hN
 (try (refine aY (of_decide_eq_true cT) ?_));(try simp (maxSteps:=4000000) (disch:=omega) [gw]);(repeat rw [if_pos cT]);(try simp (maxSteps:=4000000) (disch:=omega) [gw])
 (try (refine aY (of_decide_eq_true cT) ?_));(try simp (maxSteps:=4000000) (disch:=omega) [gw]);(repeat rw [if_pos cT]);(try simp (maxSteps:=4000000) (disch:=omega) [gw])
 apply cO [0,3]
 apply cQ [0,3,14]
 refine W.cond ⟨_,rfl,fun h=>?_,fun h=>?_⟩
 ·exact eY [4]
 ·simp at h
structure AN(s n u:Nat)(f:ZX)(p:Rat × Rat):Prop where
 I:nX s n f
 hs:s<=100000
 A:mV f (vt (aO f)) p.1 p.2
 q1:SQ u p.1
 q2:SQ u p.2
 hu:u<=30000000
 n8:ZX.N f<=8
 b1:p.1<p.2->Ab p.1 (2^(zs f+1))
 b2:p.1<p.2->Ab p.2 (2^(zs f+1))
structure SgC(s' k:Nat)(f q:ZX):Prop where
 bq:BZ s' k q
 hs:s'<=100000
 hk:k<=31
 q8:ZX.N q<=8
 hG:aC 194 [.sl [[Po q.l],[Po f.l]]] (Po (gz q f).l)
 IG:2<=ZX.N (gz q f) -> ∃sg ng,nX sg ng (gz q f)∧sg<=1000000
 hC:q≠0 -> ∃sc nc,Ch sc nc (sq q)
 aFk:q≠0->aC 69 [Po q.l] (.dK [CH (aO (sq q)),aB 0])
theorem AN.stop{N:Nat}{f:ZX}{r:Rat × Rat}(a:AN s n u f p)(bq:BZ s' k q)(m8:ZX.N q<=8)(q0:q≠0)(S:pD f (sq q) g w)(c8:p.1<p.2)(hγ:vt (aO g) p.1=vt (aO g) p.2)(A':mV f (vt (aO f)) r.1 r.2)(k3:p.1<=r.1)(k4:r.2<=p.2)(k5:(r.2-r.1)*2^N<=p.2-p.1)
  (hN1:64+4*(ZX.N f+ZX.N q)*(zs f+zs q+(ZX.N f+ZX.N q)+8)<=N):r.1=r.2∨vt (aO (sq q)) r.1=vt (aO (sq q)) r.2:=by
 have I:=a.I
 have n8:=a.n8
 obtain⟨nq,_⟩:=nT q0
 have hNq:ZX.N (sq q)<=ZX.N q:=(uE q0).nP q0
 have n1:=S.N
 have Sg:=wT S.ng.ne S.sg aA
 have Sw:=wT S.nw.ne S.sw aA
 refine Classical.byContradiction fun FQ=>?_
 obtain⟨AE,hc2⟩:=not_or.1 FQ
 have Q9:r.1<r.2:=by have:=A'.le;grind
 have a1:=cH (a.b1 c8) (a.b2 c8) (x:=r.1) k3 aT
 have a2:=cH (a.b1 c8) (a.b2 c8) (x:=r.2) aT k4
 have hvJ:vt (aO f) r.1=vt (aO f) r.2+1:=by
  rcases A'.k with ⟨h,_⟩ | ⟨_,h⟩
  ·exact absurd h AE
  ·exact h
 have m1:=Sg.bU k3
 have m2:=Sg.bU k4
 have m3:=Sg.bU (Rat.le_of_lt Q9)
 have cJ:=S.JO A'.S Sg Sw (Rat.le_of_lt Q9)
 have fz:=VX I.ch.bz
 have qz:=(VX bq).nf
 have N2f:=acv I.nf a.A
 have q1':=ZX.aH.1 q0
 have aFl:∀x∈(sq q).l,x.natAbs<=2^(zs q+ZX.N q*9):=aju (l:=3) (kG q0) nq (E7 q0).2 (fun d hd=>Nat.le_of_lt (BZ.lt qz d hd)) (by rw [BU];exact Nat.le_refl _) aA
 have hs0:=ajv (s:=zs f) (r:=zs q) N2f (show 1<=ZX.N q by omega) n8 m8
 have hw:=aao S I.nf nq (acx q0) (s:=zs f) (r:=zs q+ZX.N q*9) (n:=ZX.N f) (m:=ZX.N q) (β:=zs f+1) (fun d hd=>Nat.le_of_lt (BZ.lt fz d hd)) aFl (Nat.le_refl _) hNq n8 m8 a1 a2 Q9 ?_
 ·rcases hw with hw | hw
  ·omega
  ·exact hc2 hw
 ·have w0:p.2-p.1<=2^(zs f+2):=by
   obtain⟨x1,x2⟩:=a.b1 c8
   obtain⟨x3,x4⟩:=a.b2 c8
   rw [show zs f+2=zs f+1+1 by omega,Rat.pow_succ];grind
  have w1:=Rat.le_trans k5 w0
  have hP:=gD (zs f+2)
  have w2:(r.2-r.1)*2^se (zs f) (zs q+ZX.N q*9) (ZX.N f) (ZX.N q) (zs f+1)*2^(zs f+2)<=1*2^(zs f+2):=by
   rw [Rat.one_mul,Rat.mul_assoc,<-sH]
   refine Rat.le_trans (Rat.mul_le_mul_of_nonneg_left (JF ?_) aT) w1
   omega
  exact Rat.le_of_mul_le_mul_right w2 hP
theorem AN.sg{s n u s' k:Nat}{f q:ZX}{p:Rat × Rat}(a:AN s n u f p)(c:SgC s' k f q):aC 246 [Po q.l,GA f p] (aB (sgU (bN f p) q)):=by
 have I:=a.I
 have A:=a.A
 have hs:=a.hs
 have hu:=a.hu
 have hfn:=I.ch.hn
 have CO:=c.hs
 have hk:=c.hk
 have n8:=a.n8
 have m8:=c.q8
 have N1:=wY I.ch.bz aA aA a.q1 a.q2 aA
 have Nq:=fG (x:=q.l) (c.bq.pb aA aA)
 rw [q.c]at Nq
 by_cases q0:q=0
 ·subst q0
  rw [(show WR (bN f p) 0 0 from .inl ⟨rfl,CC (dE A)⟩).eq (dE A)]
  exact aeR Nq N1
 have hl:0<q.l.length:=by have:=ZX.aH.1 q0;exact Nat.pos_of_ne_zero fun h=>by(have:ZX.N q=q.l.length:=rfl);omega
 have J9:q.l.length<1000000:=by show ZX.N q<_;omega
 by_cases KE:p.1=p.2
 ·have hS:=wW q c.bq aA aA a.q1 aA
  have hz:=dM a.q1.nL a.q1.dL a.q1.nL a.q1.dL aA (bI p.1) (bI p.1) ⟨a.q1.nL,a.q1.dL⟩ ⟨a.q1.nL,a.q1.dL⟩
  have e0:eA (p.1.num*(p.1.den:Int)) (p.1.num*(p.1.den:Int))=0:=lS.2 rfl
  rw [e0]at hz
  have Nf:=fG (x:=f.l) (I.ch.bz.pb aA aA)
  rw [f.c]at Nf
  have:=ajn (q:=q.l) (x:=f.l) J9 (fun h=>by omega) Nq Nf (DW a.q1 aA) hz hS
  rw [(JR (lZ KE) q).eq (dE A)]
  rw [show GA f p = .ag (G9 f.l p.1.num p.1.den p.1.num p.1.den)by rw [show p=(p.1,p.1)from Prod.ext rfl KE.symm];rfl]
  exact this
 have c8:p.1<p.2:=by have:=A.le;grind
 obtain⟨nq,hmu⟩:=nT q0
 have hNq:ZX.N (sq q)<=ZX.N q:=(uE q0).nP q0
 have cq:=acx q0
 have Sq:=wT nq.ne cq aA
 obtain⟨w,S⟩:=nU (h:=sq q) I.nf I.ND
 rw [ajw I.nf I.sq q0]at S
 have n1:=S.N
 have Sg:=wT S.ng.ne S.sg aA
 have Sw:=wT S.nw.ne S.sw aA
 have mγ:=Sg.bU (Rat.le_of_lt c8)
 have mφ:=Sw.bU (Rat.le_of_lt c8)
 have hv:vt (aO f) p.1=vt (aO f) p.2+1:=by
  rcases A.k with ⟨h,_⟩ | ⟨_,h⟩
  ·exact absurd h KE
  ·exact h
 have c0:=S.JO A.S Sg Sw (Rat.le_of_lt c8)
 have P0:=mR (x:=f.l) a.q1 a.q2 aA
 rw [decide_eq_false (Rat.not_le.2 c8)]at P0
 have hD:aC 83 [Po (gz q f).l] (aB ((ZX.N (gz q f):Int)-1)):=nM (gz q f).l (by show ZX.N (gz q f)<_;omega)
 have az4:2<=ZX.N (gz q f)->aC 195 [Po (gz q f).l,RT p.1,RT p.2] (.bool (decide (vt (aO (gz q f)) p.2<vt (aO (gz q f)) p.1))):=fun h2=>by
  obtain⟨sg,ng,IG,U6⟩:=c.IG h2
  exact acr IG U6 c8 aA a.q1 a.q2 aA
 by_cases hz:vt (aO (gz q f)) p.2<vt (aO (gz q f)) p.1
 ·have h2:2<=ZX.N (gz q f):=Nat.not_lt.1 fun h2=>by
   obtain⟨d,hd,e⟩:=ZX.nO (x:=gz q f) (by have:=ZX.aH.1 S.ng.ne;omega)
   rw [e]at hz Sg
   have:=Sg.const c8 (σ:=cP (d:Rat)) (.inr (by rw [CV])) (fun x _ _=>by rw [CV])
   omega
  have hH:=az4 h2
  rw [decide_eq_true hz]at hH
  have:=aal hl J9 Nq N1 P0 c.hG hD aA hH
  rw [(show WR (bN f p) q 0 from .inl ⟨rfl,(az2 A S Sg Sw c8 hz).dv (dE A) (fS q f).l⟩).eq (dE A)]
  exact this
 obtain⟨sc,nc,C⟩:=c.hC q0
 obtain⟨cb,cl⟩:=C.all
 obtain⟨D,WQ,AG,g1,g2⟩:=E8 a.q1 a.q2
 have key:=JQ A g1 g2
 obtain⟨N,R,hN1,K5⟩:=NO (u:=u) (ad:=p.1.den) (bd:=p.2.den) (cn:=0) (cd:=0) (dn:=0) (dd:=0) I.ch.bz c.bq aA aA aA aA (Nat.lt_of_lt_of_le (kB (b:=2) aF p.1.num) (Nat.pow_le_pow_right aF a.q1.n2)) (Nat.lt_of_lt_of_le (kB (b:=2) aF p.2.num) (Nat.pow_le_pow_right aF a.q2.n2)) (Nat.two_pow_pos _) (Nat.two_pow_pos _) aA
 have hzf:=E9 I.ch.bz
 have hzq:=E9 c.bq
 have hM:4*(ZX.N f+ZX.N q)*(zs f+zs q+(ZX.N f+ZX.N q)+8)<=4*16*(100000+100000+16+8):=Nat.mul_le_mul aA aA
 obtain⟨J,hJ,hj,j2⟩:=oJ (fun j=>(jG f p j).1=(jG f p j).2∨vt (aO (sq q)) (jG f p j).1=vt (aO (sq q)) (jG f p j).2) N
 have uR:(jG f p J).1=(jG f p J).2∨vt (aO (sq q)) (jG f p J).1=vt (aO (sq q)) (jG f p J).2:=by
  by_cases hJN:J<N
  ·exact j2 hJN
  have hJE:J=N:=aA
  obtain⟨k1,k2,k3,k4,k5,_⟩:=key J
  exact a.stop c.bq m8 q0 S c8 aA k1 k3 k4 k5 (hJE▸hN1)
 have sqJ:∀j,j<=N->SQ (3*u+N+2) (jG f p j).1∧SQ (3*u+N+2) (jG f p j).2∧SQ (3*u+N+2) (((jG f p j).1+(jG f p j).2)/2):=fun j hj=>by
  obtain⟨_,_,_,_,_,k6,k7⟩:=key j
  exact⟨(k6.sq WQ AG).mono aA,(k7.sq WQ AG).mono aA,((k6.IC k7).sq WQ AG).mono aA⟩
 have hV:3*u+N+2<=1000000000:=aA
 have btw:∀j,j<=N->aC 88 [CH (aO (sq q)),RT (jG f p j).1,RT (jG f p j).2] (aB ((vt (aO (sq q)) (jG f p j).1:Int)-vt (aO (sq q)) (jG f p j).2)):=fun j hj=>by
  obtain⟨s1,s2,_⟩:=sqJ j hj
  have:=ai3 cb C.hn cl s1 s2 hV
  rwa [if_neg (Rat.not_lt.2 (key j).1.le)]at this
 obtain⟨sJ1,sJ2,_⟩:=sqJ J hJ
 have R1:=ajr (gc:=zp) (C:=aO (sq q)) (an:=fun j=>(jG f p j).1.num) (ad:=fun j=>(jG f p j).1.den) (bn:=fun j=>(jG f p j).2.num) (bd:=fun j=>(jG f p j).2.den) (J:=J) (N:=N) (r:=cP (e (jG f p J).2 q)) hl J9 Nq N1 P0 c.hG hD (fun h0=>by
   have hH:=az4 aA
   rwa [decide_eq_false hz]at hH) (c.aFk q0) R aA (fun j hj'=>by
   obtain⟨s1,s2,s3⟩:=sqJ j aA
   have LS:=not_or.1 (hj j hj')
   have atq:(jG f p j).1<(jG f p j).2:=by have:=(key j).1.le;grind
   have Pj:=mR (x:=f.l) s1 s2 hV
   rw [decide_eq_false (Rat.not_le.2 atq)]at Pj
   refine⟨Pj,⟨_,btw j aA,?_⟩,JP I aA (key j).1 s1 s2 s3 hV⟩
   have:=LS.2
   simp only [beq_eq_false_iff_ne,ne_eq]
   omega) hJ (fun hJN=>by
   have Pj:=mR (x:=f.l) sJ1 sJ2 hV
   by_cases hp:(jG f p J).2<=(jG f p J).1
   ·rw [decide_eq_true hp]at Pj;exact .inl Pj
   ·rw [decide_eq_false hp]at Pj
    refine .inr ⟨Pj,?_⟩
    have h3:=btw J hJ
    rw [uR.resolve_left aT,Int.sub_self]at h3
    exact h3) (wW q c.bq aA aA sJ2 hV)
 have hU:sgU (bN f p) q=cP (e (jG f p J).2 q):=by
  obtain⟨k1,k2,k3,k4,_⟩:=key J
  have e1:bN f p=bN f (jG f p J):=funext fun t=>propext (k2 t).symm
  rw [e1]
  by_cases hp:(jG f p J).1=(jG f p J).2
  ·rw [<-hp];exact(JR (lZ hp) q).eq (dE k1)
  ·have Q9:(jG f p J).1<(jG f p J).2:=by have:=k1.le;grind
   have m1:=Sg.bU k3
   have m2:=Sg.bU k4
   have m3:=Sg.bU (Rat.le_of_lt Q9)
   exact(aap k1 S Sg Sw Q9 aA q0 rfl aA Sq (uR.resolve_left hp)).eq (dE k1)
 rw [hU]
 exact R1
theorem VZ{y x:List Int}{an ad bn bd:Int}(hz:aC 116 [PI y, .ag (eT x c an ad bn bd)] (.bool true)):aC 202 [PI y, .ag (eT x c an ad bn bd)] (aB 0):=by
 simp only [eT]at *
 apply cG [(0,PI y),(1, .ag (eT x c an ad bn bd))] Tryz.func202
 apply cN [0,3]
 apply cK hz [0,3,8]
 refine W.cond ⟨_,rfl,fun h=>?_,fun h=>?_⟩
 ·exact eY [4]
 ·simp at h
theorem aeS{y x:List Int}{an ad bn bd r:Int}{pt:Bool}(hy:y.length<1000000)(hz:aC 116 [PI y, .ag (eT x c an ad bn bd)] (.bool false))(hp:aC 75 [.ag (eT x c an ad bn bd)] (.bool pt))(h1:pt=true∨y.length=1)(hs:aC 77 [PI y,R2 an ad] (aB r)) :
  aC 202 [PI y, .ag (eT x c an ad bn bd)] (aB r):=by
 simp only [eT]at *
 apply cG [(0,PI y),(1, .ag (eT x c an ad bn bd))] Tryz.func202
 apply cN [0,3]
 apply cK hz [0,3,8]
 refine W.cond ⟨_,rfl,fun h=>?_,fun h=>?_⟩
 ·simp at h
 apply (pK)
 refine W.fI (fun σ=>∃(v3:Nat),bF σ [(0,PI y),(3, .ptr 3 v3 0 0),(15, .bool true)] fun rows clk=>rows 3=some ⟨v3,49,10,[eT x c an ad bn bd]⟩) (fun K hK=>?_) ?_
 ·cases pt with
  | true =>
   apply o9 hp
   exact hK _ _ (aD _ [0,3,15]) ⟨_,_,_,rfl,aG⟩
  | false =>
   have h1:y.length=1:=h1.resolve_left aF
   apply kZ hp
   apply eV h1
   exact hK _ _ (aD _ [0,3,15]) ⟨_,_,_,rfl,aG⟩
 rintro _ ⟨v3,rows,clk,rfl,bK⟩
 simp only [eT]at bK
 refine W.cond ⟨_,rfl,fun h=>?_,fun h=>?_⟩
 ·apply oQ bK hs
  exact gI [4]
 ·simp at h
theorem aeT{y x:List Int}{cg:List ZX}{an ad bn bd:Nat->Int}{r:Int}(hy:y.length<1000000)(hy1:¬y.length=1)(hz:aC 116 [PI y, .ag (eT x c (an 0) (ad 0) (bn 0) (bd 0))] (.bool false))(hp:aC 75 [.ag (eT x c (an 0) (ad 0) (bn 0) (bd 0))] (.bool false))(hC:aC 81 [PI y] (aJ zq cg))
  (hb:∀j,j<J->aC 75 [.ag (eT x c (an j) (ad j) (bn j) (bd j))] (.bool false)∧(∃z:Int,aC 76 [aJ zq cg,R2 (an j) (ad j),R2 (bn j) (bd j)] (aB z)∧0<z)∧aC 117 [.ag (eT x c (an j) (ad j) (bn j) (bd j))] (.ag (eT x c (an (j+1)) (ad (j+1)) (bn (j+1)) (bd (j+1)))))
  (j2:aC 75 [.ag (eT x c (an J) (ad J) (bn J) (bd J))] (.bool true)∨aC 75 [.ag (eT x c (an J) (ad J) (bn J) (bd J))] (.bool false)∧aC 76 [aJ zq cg,R2 (an J) (ad J),R2 (bn J) (bd J)] (aB 0)) (hr:aC 77 [PI y,R2 (bn J) (bd J)] (aB r)) :
  aC 202 [PI y, .ag (eT x c (an 0) (ad 0) (bn 0) (bd 0))] (aB r):=by
 have aFn:((y.length:Int)==1)=false:=by
  have:¬(y.length:Int)=1:=aA
  simpa using this
 simp only [eT]at *
 apply cG [(0,PI y),(1, .ag (eT x c (an 0) (ad 0) (bn 0) (bd 0)))] Tryz.func202
 apply cN [0,3]
 apply cK hz [0,3,8]
 refine W.cond ⟨_,rfl,fun h=>?_,fun h=>?_⟩
 ·simp at h
 apply (pK)
 apply nB hp
 apply sS aFn [0,3,15]
 refine W.cond ⟨_,rfl,fun h=>?_,fun h=>?_⟩
 ·first | (simp at h;omega) | simp at h
 apply W.skip
 apply cK hC [0,3,5]
 apply (nC)
 refine W.bB (fun k σ=>∃(j v3:Nat),bF σ [(0,PI y),(3, .ptr 3 v3 0 0),(5,aJ zq cg)] fun rows clk=>rows 3=some ⟨v3,49,10,[eT x c (an j) (ad j) (bn j) (bd j)]⟩∧j+k=J) J ?_ ?_
 ·exact⟨_, .refl,0,_,_,_,rfl,aG,aA⟩
 rintro k _ ⟨j,v3,rows,clk,rfl,bK,hjk⟩
 simp only [eT]at bK
 apply W.seq
 by_cases hjJ:j<J
 ·obtain⟨g1,⟨z,g2,g3⟩,g4⟩:=hb j hjJ
  apply oQ bK g1
  apply j0 bK g2
  simp (disch:=omega) [gw,g3]
  apply cO [0,3,5,33]
  refine W.cond ⟨_,rfl,fun h=>?_,fun h=>?_⟩
  ·apply (uV)
   refine W.bY fun K hK=>?_
   apply j0 bK g4
   apply eV bK
   refine hK _ ⟨k-1,_,aD _ [0,3,5],aA,j+1,v3,_,_,rfl,aG,aA⟩
  ·simp at h
 ·have hjE:j=J:=by omega
  subst hjE
  refine W.fI (fun σ=>∃(v3:Nat),bF σ [(0,PI y),(3, .ptr 3 v3 0 0),(5,aJ zq cg),(33, .bool false)] fun rows clk=>rows 3=some ⟨v3,49,10,[eT x c (an j) (ad j) (bn j) (bd j)]⟩) (fun K hK=>?_) ?_
  ·rcases j2 with g1 | ⟨g1,g2⟩
   ·apply O1 bK g1
    exact hK _ _ (aD _ [0,3,5,33]) ⟨_,_,_,rfl,by simp [bK]⟩
   ·apply j0 bK g1
    apply O1 bK g2
    exact hK _ _ (aD _ [0,3,5,33]) ⟨_,_,_,rfl,by simp [bK]⟩
  rintro _ ⟨v3,rows,clk,rfl,bK⟩
  simp only [eT]at bK
  refine W.cond ⟨_,rfl,fun h=>?_,fun h=>?_⟩
  ·simp at h
  apply (jV)
  apply j0 bK hr
  exact gI [4]
theorem aaq{p:ZX}{x:List Int}{an ad bn bd:Int}(sg:ZX->Int)(h00:sg 0=0)(hp:BZ s k p)(hk:k<=31)(hs:s<=1000000)(U6:∀(q:ZX) (s':Nat),s'<=s+5*k->BZ s' k q->aC 202 [PI q.l, .ag (eT x c an ad bn bd)] (aB (sg q))) :
  aC 115 [PI p.l, .ag (eT x c an ad bn bd)] (aB (RY sg (ZX.N p) p)):=by
 simp only [eT]at *
 apply cG [(0,PI p.l),(1, .ag (eT x c an ad bn bd))] Tryz.func115
 apply aQ [0,3]
 apply (nC)
 obtain⟨v,hv⟩:∃v,RY sg (ZX.N p) p=v:=⟨_,rfl⟩
 rw [hv]
 refine W.bB (fun m σ=>∃(q:ZX) (i:Nat) (v3:Nat),bF σ [(0,PI q.l),(3, .ptr 3 v3 0 0)] fun rows clk=>rows 3=some ⟨v3,49,10,[eT x c an ad bn bd]⟩∧BZ (s+5*i) k q∧i+ZX.N q<=k∧RY sg (ZX.N q) q=v∧m=ZX.N q) (ZX.N p) ?_ ?_
 ·exact⟨_, .refl,p,0,_,_,_,rfl,aG,hp,by have:=hp.N;omega,hv,rfl⟩
 rintro m _ ⟨q,i,v3,rows,clk,rfl,bK,bq,tM,hg,rfl⟩
 simp only [eT]at bK
 have hql:q.l.length=ZX.N q:=rfl
 apply cQ [0,3,8]
 refine W.cond ⟨_,rfl,fun h=>?_,fun h=>?_⟩
 ·have h0:0<ZX.N q:=by simp at h;omega
  obtain⟨j,hj⟩:∃j,ZX.N q=j+1:=⟨ZX.N q-1,aA⟩
  have S1:=U6 q (s+5*i) aA bq
  have D1:=tZ bq (by show _<=137438953472;omega) aA
  have hNd:=qO q
  rw [hj,RY]at hg
  apply (uV)
  apply W.seq
  apply oQ bK S1
  apply bT [0,3,5]
  apply aQ [0,3,5,13]
  refine W.cond ⟨_,rfl,fun h=>?_,fun h=>?_⟩
  ·have h:¬sg q=0:=by simpa using h
   rw [if_neg h]at hg
   rw [hg]
   exact eY [4]
  ·have h:sg q=0:=by simpa using h
   rw [if_pos h]at hg
   apply W.skip
   refine W.bY fun K hK=>?_
   apply o9 D1
   refine hK _ ⟨ZX.N (cD q),_,aD _ [0,3],aA,cD q,i+1,v3,_,_,rfl,by simp [bK],bq.cD aA,aA,?_,rfl⟩
   rw [<-hg]
   exact aaf h00 (Nat.le_refl _) aA
 ·have h0:ZX.N q=0:=by
   simp at h
   first | omega | (show q.l.length=0;rw [h];rfl)
  have hv0:v=0:=by rw [<-hg,h0];rfl
  subst hv0
  exact uW [4]
def Ex(f:ZX)(p:Rat × Rat):Prop:=e p.2 f=0->p.1=p.2
theorem apK(f:ZX)(p:Rat × Rat):Ex f (ex f p):=by
 unfold Ex ex
 split
 ·intro _;rfl
 ·intro h;contradiction
theorem ajx{f:ZX}(A:mV f (vt (aO f)) p.1 p.2)(h:Ex f p):hv f p=x8 f p∧Ex f (x8 f p):=by
 unfold hv x8
 by_cases hp:p.1=p.2
 ·rw [if_pos hp,if_neg (by rw [hp];exact Rat.lt_irrefl)];exact⟨rfl,h⟩
 ·have c8:p.1<p.2:=by have:=A.le;grind
  have o7:e p.2 f≠0:=fun h0=>hp (h h0)
  rw [if_neg hp,if_pos c8]
  obtain⟨m1,m2⟩:=sJ c8
  generalize (p.1+p.2)/2=m at *
  by_cases h0:e m f=0
  ·have hv:vt (aO f) p.1=vt (aO f) p.2+1:=by
    rcases A.k with ⟨h,_⟩ | ⟨_,h⟩
    ·exact absurd h hp
    ·exact h
   have h5:vt (aO f) m<vt (aO f) p.1:=A.S.root m1 h0
   rw [if_pos h5,if_pos h0]
   exact⟨if_pos h0,fun _=>rfl⟩
  ·rw [if_neg h0]
   by_cases h5:vt (aO f) m<vt (aO f) p.1
   ·rw [if_pos h5]
    exact⟨if_neg h0,fun h=>absurd h h0⟩
   ·rw [if_neg h5]
    exact⟨if_neg o7,fun h=>absurd h o7⟩
theorem ajy{f:ZX}{p:Rat × Rat}(h:Ex f p)(hA:∀j,mV f (vt (aO f)) (jG f p j).1 (jG f p j).2):∀j,Ex f (jG f p j)
 | 0=>h
 | j+1=>(ajx (hA j) (ajy h hA j)).2
theorem xV{f:ZX}(b:BZ s n f)(hs:s<=5000000)(hn:n<=31)(q:SQ u t)(hu:u<=1000000000):aC 77 [PI f.l,RR t] (aB (cP (e t f))):=by
 have hmul:n*(u+1)<=31*(u+1):=Nat.mul_le_mul_right _ hn
 have s1:=xP b q.n2 q.d2 q.hu aA (by show _<137438953472;omega)
 rw [B6]at s1
 rw [cU]
 exact s1
structure QgC(s' k:Nat)(f q:ZX):Prop where
 bq:BZ s' k q
 hs:s'<=100000
 hk:k<=31
 q8:ZX.N q<=8
 hG:aC 203 [PI q.l,PI f.l] (PI (gz q f).l)
 IG:2<=ZX.N (gz q f) -> ∃sg ng,nX sg ng (gz q f)
 hC:q≠0 -> ∃sc nc,Ch sc nc (sq q)
 hCh:q≠0->aC 81 [PI q.l] (aJ zq (aO (sq q)))
theorem AN.az7{f:ZX}(a:AN s n u f p)(c:QgC s' k f q):aC 116 [PI q.l,QA f (aO f) p] (.bool (decide (sgU (bN f p) q=0))):=by
 have I:=a.I
 have A:=a.A
 have hu:=a.hu
 have n8:=a.n8
 have m8:=c.q8
 have CO:=c.hs
 have e1:=pC (f:=f) (c:=aO f) a.q1 a.q2 aA
 have hgN:ZX.N (gz q f)<=ZX.N f:=(fS q f).r.nP I.nf.ne
 have AF:(q.l.length=0)↔q=0:=by
  rw [show q.l.length=ZX.N q from rfl]
  exact⟨fun h=>Classical.byContradiction fun h0=>by have:=ZX.aH.1 h0;omega,fun h=>by rw [h];rfl⟩
 by_cases q0:q=0
 ·have hU:sgU (bN f p) q=0:=by rw [q0];exact(show WR (bN f p) 0 0 from .inl ⟨rfl,CC (dE A)⟩).eq (dE A)
  rw [decide_eq_true hU]
  by_cases h2:2<=ZX.N (gz q f)
  ·obtain⟨sg,ng,IGG⟩:=c.IG h2
   have k4:=IGG.qT a.q1 a.q2 aA
   rw [cU,cU]at k4
   exact mQ (by show ZX.N q<_;omega) (by show ZX.N (gz q f)<_;omega) e1 (fun _=>xV c.bq aA c.hk a.q1 aA) c.hG (fun _=>IGG.z6) (fun _=>k4) (by rw [if_pos (AF.2 q0)])
  ·exact mQ (by show ZX.N q<_;omega) (by show ZX.N (gz q f)<_;omega) e1 (fun _=>xV c.bq aA c.hk a.q1 aA) c.hG (fun hh=>absurd hh h2) (fun hh=>absurd hh h2) (b:=0) (cg:=[]) (by rw [if_pos (AF.2 q0)])
 have hl1:¬q.l.length=0:=fun h=>q0 (AF.1 h)
 by_cases KE:p.1=p.2
 ·rw [decide_eq_true KE]at e1
  have hU:=(JR (lZ KE) q).eq (dE A)
  rw [hU]
  have hz:decide (cP (e p.1 q)=0)=if q.l.length=0 then true else if true=true then cP (e p.1 q)==0 else if (gz q f).l.length<2 then false else decide ((0:Int)<0):=by
   rw [if_neg hl1,if_pos rfl];rfl
  by_cases h2:2<=ZX.N (gz q f)
  ·obtain⟨sg,ng,IGG⟩:=c.IG h2
   have k4:=IGG.qT a.q1 a.q2 aA
   rw [cU,cU]at k4
   exact mQ (by show ZX.N q<_;omega) (by show ZX.N (gz q f)<_;omega) e1 (fun _=>xV c.bq aA c.hk a.q1 aA) c.hG (fun _=>IGG.z6) (fun _=>k4) (by rw [if_neg hl1,if_pos rfl];rfl)
  ·exact mQ (by show ZX.N q<_;omega) (by show ZX.N (gz q f)<_;omega) e1 (fun _=>xV c.bq aA c.hk a.q1 aA) c.hG (fun hh=>absurd hh h2) (fun hh=>absurd hh h2) (b:=0) (cg:=[]) hz
 have c8:p.1<p.2:=by have:=A.le;grind
 rw [decide_eq_false KE]at e1
 obtain⟨σ,hσ,az8⟩:=acy I.nf I.sq I.ND aA A aA q0 c8
 rw [hσ.eq (dE A)]
 by_cases h2:2<=ZX.N (gz q f)
 ·obtain⟨sg,ng,IGG⟩:=c.IG h2
  have k4:=IGG.qT a.q1 a.q2 aA
  rw [if_neg (Rat.not_lt.2 (Rat.le_of_lt c8)),cU,cU]at k4
  refine mQ (by show ZX.N q<_;omega) (by show ZX.N (gz q f)<_;omega) e1 (fun hh=>by cases hh) c.hG (fun _=>IGG.z6) (fun _=>k4) (σ:=0) ?_
  rw [if_neg hl1,if_neg aF,if_neg (by show ¬ZX.N (gz q f)<2;omega)]
  exact decide_eq_decide.2 aA
 ·refine mQ (by show ZX.N q<_;omega) (by show ZX.N (gz q f)<_;omega) e1 (fun hh=>by cases hh) c.hG (fun hh=>absurd hh h2) (fun hh=>absurd hh h2) (σ:=0) (b:=0) (cg:=[]) ?_
  rw [if_neg hl1,if_neg aF,if_pos (by show ZX.N (gz q f)<2;omega)]
  refine decide_eq_false fun hh=>?_
  have hz:=az8.1 hh
  have:gz q f=1:=(EZ (.inr I.nf.ne)).N1 aA
  rw [this]at hz
  have hS1:=wT ZX.qM (fun d h1 h2=>by have:=h1.nP ZX.qM;rwa [ZX.wH]at this) (by rw [ZX.wH];omega)
  have:=hS1.const c8 (σ:=1) (.inr (by rw [ab4];decide)) (fun x _ _=>by rw [ab4];decide)
  omega
theorem AN.qsg{f:ZX}(a:AN s n u f p)(hx:Ex f p)(c:QgC s' k f q):aC 202 [PI q.l,QA f (aO f) p] (aB (sgU (bN f p) q)):=by
 have I:=a.I
 have A:=a.A
 have hu:=a.hu
 have hs:=a.hs
 have CO:=c.hs
 have hk:=c.hk
 have n8:=a.n8
 have m8:=c.q8
 have Z:=a.az7 c
 by_cases hz:sgU (bN f p) q=0
 ·rw [hz]
  rw [decide_eq_true hz]at Z
  exact VZ Z
 rw [decide_eq_false hz]at Z
 have q0:q≠0:=fun h=>hz (by rw [h];exact(show WR (bN f p) 0 0 from .inl ⟨rfl,CC (dE A)⟩).eq (dE A))
 have P0:=pC (f:=f) (c:=aO f) a.q1 a.q2 aA
 have J9:q.l.length<1000000:=by show ZX.N q<_;omega
 by_cases KE:p.1=p.2∨ZX.N q=1
 ·have sX:=xV c.bq aA hk a.q1 (show u<=1000000000 by omega)
  have hv:sgU (bN f p) q=cP (e p.1 q):=by
   by_cases h1:p.1=p.2
   ·exact(JR (lZ h1) q).eq (dE A)
   ·obtain⟨d,hd,rfl⟩:=ZX.nO (KE.resolve_left h1)
    rw [CV]
    have hdq:(d:Rat)≠0:=fun h0=>hd (Rat.intCast_eq_zero_iff.1 h0)
    refine WR.eq (dE A) (.inr ⟨?_,1,p.1-1,p.2,aF,A.jB (.inl aT),fM,fun x _ _=>by rw [CV];exact⟨rfl,xR hd⟩⟩)
    rcases dC (d:Rat)with ⟨_,h⟩ | ⟨h,_⟩ | ⟨_,h⟩
    ·exact .inr h
    ·exact absurd h hdq
    ·exact .inl h
  rw [hv]
  exact aeS J9 Z P0 (by
   rcases KE with h | h
   ·exact .inl (decide_eq_true h)
   ·exact .inr h) sX
 obtain⟨h1,h2⟩:=not_or.1 KE
 have c8:p.1<p.2:=by have:=A.le;grind
 rw [decide_eq_false h1]at P0
 obtain⟨σ,hσ,az8⟩:=acy I.nf I.sq I.ND aA A aA q0 c8
 rw [hσ.eq (dE A)]at hz
 obtain⟨nq,hmu⟩:=nT q0
 have hNq:ZX.N (sq q)<=ZX.N q:=(uE q0).nP q0
 have Sq:=wT nq.ne (acx q0) aA
 obtain⟨w,S⟩:=nU (h:=sq q) I.nf I.ND
 rw [ajw I.nf I.sq q0]at S
 have n1:=S.N
 have Sg:=wT S.ng.ne S.sg aA
 have Sw:=wT S.nw.ne S.sw aA
 have mγ:=Sg.bU (Rat.le_of_lt c8)
 obtain⟨sc,nc,C⟩:=c.hC q0
 obtain⟨cb,cl⟩:=C.all
 obtain⟨D,WQ,AG,g1,g2⟩:=E8 a.q1 a.q2
 have key:=JQ A g1 g2
 have hE:=ajy hx fun j=>(key j).1
 obtain⟨N,hN⟩:∃N,N=64+4*(ZX.N f+ZX.N q)*(zs f+zs q+(ZX.N f+ZX.N q)+8):=⟨_,rfl⟩
 have hzf:=E9 I.ch.bz
 have hzq:=E9 c.bq
 have hM:4*(ZX.N f+ZX.N q)*(zs f+zs q+(ZX.N f+ZX.N q)+8)<=4*16*(100000+100000+16+8):=Nat.mul_le_mul aA aA
 obtain⟨J,hJ,hj,j2⟩:=oJ (fun j=>(jG f p j).1=(jG f p j).2∨vt (aO (sq q)) (jG f p j).1=vt (aO (sq q)) (jG f p j).2) N
 have uR:(jG f p J).1=(jG f p J).2∨vt (aO (sq q)) (jG f p J).1=vt (aO (sq q)) (jG f p J).2:=by
  by_cases hJN:J<N
  ·exact j2 hJN
  have hJE:J=N:=aA
  obtain⟨k1,k2,k3,k4,k5,_⟩:=key J
  exact a.stop c.bq m8 q0 S c8 aA k1 k3 k4 k5 aA
 have hV:3*u+N+3<=1000000000:=aA
 have sqJ:∀j,j<=N->SQ (3*u+N+3) (jG f p j).1∧SQ (3*u+N+3) (jG f p j).2∧SQ (3*u+N+3) (((jG f p j).1+(jG f p j).2)/2)∧SQ (3*u+N+3) ((jG f p j).1+(jG f p j).2):=fun j hj=>by
  obtain⟨_,_,_,_,_,k6,k7⟩:=key j
  exact⟨(k6.sq WQ AG).mono aA,(k7.sq WQ AG).mono aA,((k6.IC k7).sq WQ AG).mono aA,((k6.add k7).sq WQ AG).mono aA⟩
 have btw:∀j,j<=N->aC 76 [aJ zq (aO (sq q)),RR (jG f p j).1,RR (jG f p j).2] (aB ((vt (aO (sq q)) (jG f p j).1:Int)-vt (aO (sq q)) (jG f p j).2)):=fun j hj=>by
  obtain⟨s1,s2,_⟩:=sqJ j hj
  have:=Z6 cb C.hn cl s1 s2 hV
  rwa [if_neg (Rat.not_lt.2 (key j).1.le)]at this
 obtain⟨sJ1,sJ2,_⟩:=sqJ J hJ
 have R1:=aeT (c:=aO f) (cg:=aO (sq q)) (an:=fun j=>(jG f p j).1.num) (ad:=fun j=>(jG f p j).1.den) (bn:=fun j=>(jG f p j).2.num) (bd:=fun j=>(jG f p j).2.den) (J:=J) (r:=cP (e (jG f p J).2 q)) J9 h2 Z P0 (c.hCh q0) (fun j hj'=>by
   obtain⟨s1,s2,s3,s4⟩:=sqJ j aA
   have LS:=not_or.1 (hj j hj')
   have atq:(jG f p j).1<(jG f p j).2:=by have:=(key j).1.le;grind
   have Pj:=pC (f:=f) (c:=aO f) s1 s2 hV
   rw [decide_eq_false LS.1]at Pj
   have m:=Sq.bU (Rat.le_of_lt atq)
   have H:=I.aje (key j).1.le s1 s2 s3 s4 hV
   rw [(ajx (key j).1 (hE j)).1]at H
   exact⟨Pj,⟨_,btw j aA,by have:=LS.2;omega⟩,H⟩) (by
   have Pj:=pC (f:=f) (c:=aO f) sJ1 sJ2 hV
   by_cases hp:(jG f p J).1=(jG f p J).2
   ·rw [decide_eq_true hp]at Pj;exact .inl Pj
   ·rw [decide_eq_false hp]at Pj
    refine .inr ⟨Pj,?_⟩
    have h3:=btw J hJ
    rw [uR.resolve_left hp,Int.sub_self]at h3
    exact h3) (xV c.bq aA hk sJ2 hV)
 have hU:sgU (bN f p) q=cP (e (jG f p J).2 q):=by
  obtain⟨k1,k2,k3,k4,_⟩:=key J
  have e1:bN f p=bN f (jG f p J):=funext fun t=>propext (k2 t).symm
  rw [e1]
  by_cases hp:(jG f p J).1=(jG f p J).2
  ·rw [<-hp];exact(JR (lZ hp) q).eq (dE k1)
  ·have Q9:(jG f p J).1<(jG f p J).2:=by have:=k1.le;grind
   have m1:=Sg.bU k3
   have m2:=Sg.bU k4
   have m3:=Sg.bU (Rat.le_of_lt Q9)
   exact(aap k1 S Sg Sw Q9 aA q0 rfl aA Sq (uR.resolve_left hp)).eq (dE k1)
 rw [hU]
 exact R1
theorem aar{pn pd qn qd z rn rd:Int}(n1:aC 147 [T2 pn pd] (T2 pn pd))(n2:aC 147 [T2 qn qd] (T2 qn qd))(zc:aC 86 [T2 qn qd,T2 pn pd] (aB z))(hr:if 0<z then rn=qn∧rd=qd else rn=pn∧rd=pd) :
  aC 90 [T2 pn pd, .sl [[.bool (decide (qn<0)),us (aV LL qn.natAbs), .bool (decide (qd<0)),us (aV LL qd.natAbs)]]] (T2 rn rd):=by
 apply cG [(0,T2 pn pd),(1, .sl [[.bool (decide (qn<0)),us (aV LL qn.natAbs), .bool (decide (qd<0)),us (aV LL qd.natAbs)]])] Tryz.func90
 apply gJ [1,2,4] n1 [1,4,5]
 apply eE [4,5,10,11,12]
 refine W.bB (fun k σ=>∃(i:Nat) (mn md:Int),bF σ [(4, .ptr 4 1 0 0),(5, .ptr 5 2 0 0),(10, .sl [[.bool (decide (qn<0)),us (aV LL qn.natAbs), .bool (decide (qd<0)),us (aV LL qd.natAbs)]]),(11,aB 1),(12,aB i)] fun rows clk=>rows 4=some ⟨1,52,4,[[.bool false, .nil, .bool false, .nil]]⟩∧rows 5=some ⟨2,52,4,[[.bool (decide (mn<0)),us (aV LL mn.natAbs), .bool (decide (md<0)),us (aV LL md.natAbs)]]⟩ ∧
  ((i=0∧mn=pn∧md=pd)∨(i=1∧mn=rn∧md=rd))∧i+k=1) 1 ?_ ?_
 ·exact⟨_,aD _ [4,5,10,11,12],0,pn,pd,_,_,rfl,aG,aG, .inl ⟨rfl,rfl,rfl⟩,aA⟩
 rintro k _ ⟨i,mn,md,rows,clk,rfl,dW,dX,hI,tM⟩
 rcases hI with ⟨rfl,rfl,rfl⟩ | ⟨rfl,rfl,rfl⟩
 ·apply cN [4,5,10,11,12,13]
  refine W.cond ⟨_,rfl,fun h=>?_,fun h=>?_⟩
  ·apply W.skip
   refine W.dS (fun σ=>bF σ [(4, .ptr 4 1 0 0),(5, .ptr 5 2 0 0),(10, .sl [[.bool (decide (qn<0)),us (aV LL qn.natAbs), .bool (decide (qd<0)),us (aV LL qd.natAbs)]]),(11,aB 1),(12,aB 0)] fun rows clk=>rows 4=some ⟨1,52,4,[[.bool false, .nil, .bool false, .nil]]⟩∧rows 5=some ⟨2,52,4,[[.bool (decide (rn<0)),us (aV LL rn.natAbs), .bool (decide (rd<0)),us (aV LL rd.natAbs)]]⟩) ?_ ?_
   ·apply aQ [4,5,7,10,11,12]
    apply oQ dX zc
    apply bT [4,5,7,10,11,12,19]
    refine W.cond ⟨_,rfl,fun h=>?_,fun h=>?_⟩
    ·have h:0<z:=by simpa using h
     rw [if_pos h]at hr
     obtain⟨rfl,rfl⟩:=hr
     refine W.bY fun K hK=>?_
     apply j0 dX n2
     apply eV dX
     exact hK _ ⟨_,aD _ [4,5,10,11,12],_,_,rfl,by simp [dW],by simp [dX]⟩
    ·have h:¬0<z:=by simpa using h
     rw [if_neg h]at hr
     obtain⟨rfl,rfl⟩:=hr
     apply W.skip
     exact⟨_,aD _ [4,5,10,11,12],_,_,rfl,by simp [dW],by simp [dX]⟩
   rintro _ ⟨rows,clk,rfl,dW,dX⟩
   refine W.bY (fun K hK=>?_);simp (disch:=omega) [gw]
   refine hK _ ⟨0,_,aD _ [4,5,10,11,12],aA,1,rn,rd,_,_,rfl,dW,dX, .inr ⟨rfl,rfl,rfl⟩,rfl⟩
  ·simp at h
 ·apply cN [4,5,10,11,12,13]
  refine W.cond ⟨_,rfl,fun h=>?_,fun h=>?_⟩
  ·simp at h
  ·apply (jV)
   exact FL dW dX [4]
theorem aeU{p q:Rat}(hp:SQ u p)(hq:SQ u q)(hu:u<=1000000000):aC 90 [RT p, .sl [tc q]] (RT (if p<q then q else p)):=by
 obtain⟨l1,l2⟩:=hp.LLt (show u<1099511627770 by omega)
 obtain⟨l3,l4⟩:=hq.LLt (show u<1099511627770 by omega)
 have n1:=pZ l1 l2
 have n2:=pZ l3 l4
 rw [bI]at n1 n2
 have z:=dM hq.nL hq.dL hp.nL hp.dL aA (bI q) (bI p) ⟨hq.nL,hq.dL⟩ ⟨hp.nL,hp.dL⟩
 refine aar n1 n2 z ?_
 by_cases h:p<q
 ·rw [if_pos (iF.2 h),if_pos h];exact⟨rfl,rfl⟩
 ·rw [if_neg (fun h2=>h (iF.1 h2)),if_neg h];exact⟨rfl,rfl⟩
theorem az9{x y:Int}(hx:Sz x)(hy:Sz y):aC 248 [I x,I y] (I (x-y)):=by
 have:=TR (decide (x<0)) (decide (y<0)) (aV LL x.natAbs) (aV LL y.natAbs) hx.lok hy.lok
 rwa [DE,DE]at this
theorem am4(p q:Rat):eH (p.num*q.den-q.num*p.den) (p.den*q.den)=p-q:=by
 have h1:((p.den:Int)*q.den)≠0:=by
  have:=p.den_nz;have:=q.den_nz
  refine Int.mul_ne_zero ?_ ?_<;>omega
 refine QP h1 ?_
 rw [Rat.intCast_sub,Rat.intCast_mul,Rat.intCast_mul,Rat.intCast_mul,B7 p,B7 q]
 grind
theorem NP{p q:Rat}(hp:sz LL p.num<=k∧sz LL (p.den:Int)<=k)(hq:sz LL q.num<=k∧sz LL (q.den:Int)<=k)(hk:k<=300000000000):aC 253 [RT p,RT q] (RT (p-q)):=by
 have c1:=DO hp.1 hp.2 hq.1 hq.2 aA (bI p) (bI q) hp hq
 have g1:=cW (b:=LL) iT hp.1 hq.2
 have g2:=cW (b:=LL) iT hq.1 hp.2
 have g3:=cW (b:=LL) iT hp.2 hq.2
 have g5:=qH (b:=LL) iT (Nat.le_trans g1 (show k+k<=k+k from Nat.le_refl _)) (Nat.le_trans (Nat.le_of_eq (r9 _)) (Nat.le_trans g2 (show k+k<=k+k from Nat.le_refl _)))
 rw [<-Int.sub_eq_add_neg]at g5
 have a1:=az9 (x:=p.num*q.den) (y:=q.num*p.den) (by show _<_;omega) (by show _<_;omega)
 have h1:((p.den:Int)*q.den)≠0:=by
  have:=p.den_nz;have:=q.den_nz
  refine Int.mul_ne_zero ?_ ?_<;>omega
 have l1:=uC (n:=p.num*q.den-q.num*p.den) (d:=p.den*q.den) aA aA h1
 rw [am4]at l1
 show aC _ [T2 p.num p.den,T2 q.num q.den] (T2 (p-q).num (p-q).den)
 replace l1:aC 169 [I (p.num*q.den-q.num*p.den),I (p.den*q.den)] (T2 (p-q).num (p-q).den):=l1
 clear g1 g2 g3 g5 h1 hp hq
 generalize (p-q).num=rn at *
 generalize ((p-q).den:Int)=rd at *
 generalize p.num*(q.den:Int)-q.num*p.den=x4 at *
 generalize p.num*(q.den:Int)=x1 at *
 generalize q.num*(p.den:Int)=x2 at *
 generalize (p.den:Int)*(q.den:Int)=x3 at *
 generalize p.num=pn at *
 generalize (p.den:Int)=pd at *
 generalize q.num=qn at *
 generalize (q.den:Int)=qd at *
 apply cG [(0,T2 pn pd),(1,T2 qn qd)] Tryz.func253
 apply gJ [2,3,4] c1 [4,5,6,7]
 apply W.sd
 simp (maxSteps:=4000000) (disch:=omega) [gw]
 apply j9 a1
 simp (maxSteps:=4000000) (disch:=omega) [gw]
 apply j9 l1
 simp (maxSteps:=4000000) (disch:=omega) [gw]
 (try (refine aY (of_decide_eq_true cT) ?_));(try simp (maxSteps:=4000000) (disch:=omega) [gw]);(repeat rw [if_pos cT]);(try simp (maxSteps:=4000000) (disch:=omega) [gw])
 exact pJ [4]
set_option maxHeartbeats 4000000 in
theorem aas{x y:List Int}{an ad bn bd cn cd dn dd:Nat->Int}{N:Nat}{c:Int}(hs:aC 252 [.ag (G9 x (an 0) (ad 0) (bn 0) (bd 0)), .ag (G9 y (cn 0) (cd 0) (dn 0) (dd 0))] (aB N))(hN:N<1000000000000000)
  (hb:∀j,j<J->(∃z1,aC 86 [T2 (bn j) (bd j),T2 (cn j) (cd j)] (aB z1)∧0<z1)∧(∃z2,aC 86 [T2 (dn j) (dd j),T2 (an j) (ad j)] (aB z2)∧0<z2) ∧
   ∃wn wd vn vd z3,aC 253 [T2 (bn j) (bd j),T2 (an j) (ad j)] (T2 wn wd)∧aC 253 [T2 (dn j) (dd j),T2 (cn j) (cd j)] (T2 vn vd)∧aC 86 [T2 wn wd,T2 vn vd] (aB z3) ∧
   (if 0<=z3 then aC 254 [.ag (G9 x (an j) (ad j) (bn j) (bd j))] (.ag (G9 x (an (j+1)) (ad (j+1)) (bn (j+1)) (bd (j+1))))∧G9 y (cn (j+1)) (cd (j+1)) (dn (j+1)) (dd (j+1))=G9 y (cn j) (cd j) (dn j) (dd j)
    else aC 254 [.ag (G9 y (cn j) (cd j) (dn j) (dd j))] (.ag (G9 y (cn (j+1)) (cd (j+1)) (dn (j+1)) (dd (j+1))))∧G9 x (an (j+1)) (ad (j+1)) (bn (j+1)) (bd (j+1))=G9 x (an j) (ad j) (bn j) (bd j))) (hJ:J<N) {z1 z2:Int} {pa pb:Bool}
  (k1:aC 86 [T2 (bn J) (bd J),T2 (cn J) (cd J)] (aB z1)) (k2:aC 86 [T2 (dn J) (dd J),T2 (an J) (ad J)] (aB z2)) (p1:aC 193 [.ag (G9 x (an J) (ad J) (bn J) (bd J))] (.bool pa)) (p2:aC 193 [.ag (G9 y (cn J) (cd J) (dn J) (dd J))] (.bool pb))
  (hp:¬(pa=true∧pb=true∧z1=0)) (WO:¬(pa=true∧pb=true∧z2=0)) (hc:(z1<=0∧c = -1)∨(0<z1∧z2<=0∧c=1)) :
  aC 196 [.ag (G9 x (an 0) (ad 0) (bn 0) (bd 0)), .ag (G9 y (cn 0) (cd 0) (dn 0) (dd 0))] (.dK [.ag (G9 x (an J) (ad J) (bn J) (bd J)), .ag (G9 y (cn J) (cd J) (dn J) (dd J)),aB c]):=by
 simp only [G9]at *
 apply cG [(0, .ag (G9 x (an 0) (ad 0) (bn 0) (bd 0))),(1, .ag (G9 y (cn 0) (cd 0) (dn 0) (dd 0)))] Tryz.func196
 apply cN [2,3,4,5]
 apply cK hs [2,3,4,5,9,10]
 apply W.block
 refine W.bB (fun k σ=>∃(j:Nat),bF σ [(2, .ptr 2 0 0 0),(3, .ptr 3 1 0 0),(4, .ptr 4 2 0 0),(5, .ptr 5 3 0 0),(9,aB N),(10,aB j)] fun rows clk=>rows 2=some ⟨0,54,9,[G9 x (an j) (ad j) (bn j) (bd j)]⟩∧rows 3=some ⟨1,54,9,[G9 y (cn j) (cd j) (dn j) (dd j)]⟩∧rows 4=some ⟨2,54,9,[[.nil, .bool false, .nil, .bool false, .nil, .bool false, .nil, .bool false, .nil]]⟩∧rows 5=some ⟨3,54,9,[[.nil, .bool false, .nil, .bool false, .nil, .bool false, .nil, .bool false, .nil]]⟩∧j+k=J) J ?_ ?_
 ·exact⟨_, .refl,0,_,_,rfl,aG,aG,aG,aG,aA⟩
 rintro k _ ⟨j,rows,clk,rfl,bS,bK,dW,dX,hjk⟩
 simp only [G9]at bS bK
 apply cN [2,3,4,5,9,10,11]
 refine W.cond ⟨_,rfl,fun h=>?_,fun h=>?_⟩
 ·apply W.skip
  by_cases hjJ:j<J
  ·obtain⟨⟨u1,m1,o1⟩,⟨u2,m2,o2⟩,wn,wd,vn,vd,z3,s1,s2,s3,hh⟩:=hb j hjJ
   have o1':¬u1<=0:=aA
   have o2':¬u2<=0:=aA
   refine W.dS (fun σ=>bF σ [(2, .ptr 2 0 0 0),(3, .ptr 3 1 0 0),(4, .ptr 4 2 0 0),(5, .ptr 5 3 0 0),(9,aB N),(10,aB j)] fun rows clk=>rows 2=some ⟨0,54,9,[G9 x (an (j+1)) (ad (j+1)) (bn (j+1)) (bd (j+1))]⟩∧rows 3=some ⟨1,54,9,[G9 y (cn (j+1)) (cd (j+1)) (dn (j+1)) (dd (j+1))]⟩∧rows 4=some ⟨2,54,9,[[.nil, .bool false, .nil, .bool false, .nil, .bool false, .nil, .bool false, .nil]]⟩∧rows 5=some ⟨3,54,9,[[.nil, .bool false, .nil, .bool false, .nil, .bool false, .nil, .bool false, .nil]]⟩) ?_ ?_
   ·apply (nC)
    apply qE bS bK m1
    simp (disch:=omega) [gw,o1']
    apply cO [2,3,4,5,9,10,12]
    refine W.cond ⟨_,rfl,fun h=>?_,fun h=>?_⟩
    ·simp at h
    apply qE bS bK m2
    simp (disch:=omega) [gw,o2']
    apply cO [2,3,4,5,9,10,38]
    refine W.cond ⟨_,rfl,fun h=>?_,fun h=>?_⟩
    ·simp at h
    apply (HT)
    apply j7 bS bK s1
    apply j7 bS bK s2
    apply kZ s3
    apply bT [2,3,4,5,9,10,75]
    refine W.cond ⟨_,rfl,fun h=>?_,fun h=>?_⟩
    ·have h3:0<=z3:=by simpa using h
     rw [if_pos h3]at hh
     obtain⟨h1,h2⟩:=hh
     refine W.bY fun K hK=>?_
     apply j0 bS h1
     apply eV bS
     exact hK _ ⟨_,aD _ [2,3,4,5,9,10],_,_,rfl,aG,by simp only [G9];rw [h2];simp [bK],by simp [dW],by simp [dX]⟩
    ·have h3:¬0<=z3:=by simpa using h
     rw [if_neg h3]at hh
     obtain⟨h1,h2⟩:=hh
     refine W.bY fun K hK=>?_
     apply j0 bK h1
     apply eV bK
     exact hK _ ⟨_,aD _ [2,3,4,5,9,10],_,_,rfl,by simp only [G9];rw [h2];simp [bS],aG,by simp [dW],by simp [dX]⟩
   rintro _ ⟨rows,clk,rfl,bS,bK,dW,dX⟩
   refine W.bY (fun K hK=>?_);simp (disch:=omega) [gw]
   refine hK _ ⟨k-1,_,aD _ [2,3,4,5,9,10],aA,j+1,_,_,rfl,bS,bK,dW,dX,aA⟩
  ·have hjE:j=J:=by omega
   subst hjE
   apply (nC)
   apply (nC)
   rcases hc with ⟨hz,rfl⟩ | ⟨hz1,hz,rfl⟩
   ·refine W.fI (fun σ=>bF σ [(2, .ptr 2 0 0 0),(3, .ptr 3 1 0 0),(4, .ptr 4 2 0 0),(5, .ptr 5 3 0 0),(9,aB N),(10,aB j),(12, .bool true)] fun rows clk=>rows 2=some ⟨0,54,9,[G9 x (an j) (ad j) (bn j) (bd j)]⟩∧rows 3=some ⟨1,54,9,[G9 y (cn j) (cd j) (dn j) (dd j)]⟩∧rows 4=some ⟨2,54,9,[[.nil, .bool false, .nil, .bool false, .nil, .bool false, .nil, .bool false, .nil]]⟩∧rows 5=some ⟨3,54,9,[[.nil, .bool false, .nil, .bool false, .nil, .bool false, .nil, .bool false, .nil]]⟩) (fun K hK=>?_) ?_
    ·cases pa with
     | false =>
      apply j7 bS bK k1
      apply C6 hz bS bK p1
      apply j1 bS bK
      exact hK _ _ (aD _ [2,3,4,5,9,10,12]) ⟨_,_,rfl,by simp [bS],by simp [bK],by simp [dW],by simp [dX]⟩
     | true =>
      cases pb with
      | false =>
       apply j7 bS bK k1
       apply C6 hz bS bK p1
       apply j7 bS bK p2
       apply j1 bS bK
       exact hK _ _ (aD _ [2,3,4,5,9,10,12]) ⟨_,_,rfl,by simp [bS],by simp [bK],by simp [dW],by simp [dX]⟩
      | true =>
       have oY:(z1==0)=false:=by
        have:¬z1=0:=fun h=>hp ⟨rfl,rfl,h⟩
        simpa using this
       apply j7 bS bK k1
       apply C6 hz bS bK p1
       apply j7 bS bK p2
       apply j7 bS bK k1
       apply eV oY
       exact hK _ _ (aD _ [2,3,4,5,9,10,12]) ⟨_,_,rfl,by simp [bS],by simp [bK],by simp [dW],by simp [dX]⟩
    rintro _ ⟨rows,clk,rfl,bS,bK,dW,dX⟩
    simp only [G9]at bS bK
    refine W.cond ⟨_,rfl,fun h=>?_,fun h=>?_⟩
    ·apply W.sd
     simp (disch:=omega) [gw,bS,bK,dW,dX]
     (try (refine aY (of_decide_eq_true cT) ?_));(try simp (maxSteps:=4000000) (disch:=omega) [gw,dW,dX]);(repeat rw [if_pos cT]);(try simp (maxSteps:=4000000) (disch:=omega) [gw,dW,dX])
     (try (refine aY (of_decide_eq_true cT) ?_));(try simp (maxSteps:=4000000) (disch:=omega) [gw,dW,dX]);(repeat rw [if_pos cT]);(try simp (maxSteps:=4000000) (disch:=omega) [gw,dW,dX])
     exact pJ [4,5,6]
    ·simp at h
   ·have aFp:¬z1<=0:=by omega
    apply qE bS bK k1
    apply sS aFp [2,3,4,5,9,10,12]
    refine W.cond ⟨_,rfl,fun h=>?_,fun h=>?_⟩
    ·simp at h
    refine W.fI (fun σ=>bF σ [(2, .ptr 2 0 0 0),(3, .ptr 3 1 0 0),(4, .ptr 4 2 0 0),(5, .ptr 5 3 0 0),(9,aB N),(10,aB j),(38, .bool true)] fun rows clk=>rows 2=some ⟨0,54,9,[G9 x (an j) (ad j) (bn j) (bd j)]⟩∧rows 3=some ⟨1,54,9,[G9 y (cn j) (cd j) (dn j) (dd j)]⟩∧rows 4=some ⟨2,54,9,[[.nil, .bool false, .nil, .bool false, .nil, .bool false, .nil, .bool false, .nil]]⟩∧rows 5=some ⟨3,54,9,[[.nil, .bool false, .nil, .bool false, .nil, .bool false, .nil, .bool false, .nil]]⟩) (fun K hK=>?_) ?_
    ·cases pa with
     | false =>
      apply j7 bS bK k2
      apply C6 hz bS bK p1
      apply j1 bS bK
      exact hK _ _ (aD _ [2,3,4,5,9,10,38]) ⟨_,_,rfl,by simp [bS],by simp [bK],by simp [dW],by simp [dX]⟩
     | true =>
      cases pb with
      | false =>
       apply j7 bS bK k2
       apply C6 hz bS bK p1
       apply j7 bS bK p2
       apply j1 bS bK
       exact hK _ _ (aD _ [2,3,4,5,9,10,38]) ⟨_,_,rfl,by simp [bS],by simp [bK],by simp [dW],by simp [dX]⟩
      | true =>
       have oY:(z2==0)=false:=by
        have:¬z2=0:=fun h=>WO ⟨rfl,rfl,h⟩
        simpa using this
       apply j7 bS bK k2
       apply C6 hz bS bK p1
       apply j7 bS bK p2
       apply j7 bS bK k2
       apply eV oY
       exact hK _ _ (aD _ [2,3,4,5,9,10,38]) ⟨_,_,rfl,by simp [bS],by simp [bK],by simp [dW],by simp [dX]⟩
    rintro _ ⟨rows,clk,rfl,bS,bK,dW,dX⟩
    simp only [G9]at bS bK
    refine W.cond ⟨_,rfl,fun h=>?_,fun h=>?_⟩
    ·apply W.sd
     simp (disch:=omega) [gw,bS,bK,dW,dX]
     (try (refine aY (of_decide_eq_true cT) ?_));(try simp (maxSteps:=4000000) (disch:=omega) [gw,dW,dX]);(repeat rw [if_pos cT]);(try simp (maxSteps:=4000000) (disch:=omega) [gw,dW,dX])
     (try (refine aY (of_decide_eq_true cT) ?_));(try simp (maxSteps:=4000000) (disch:=omega) [gw,dW,dX]);(repeat rw [if_pos cT]);(try simp (maxSteps:=4000000) (disch:=omega) [gw,dW,dX])
     exact pJ [4,5,6]
    ·simp at h
 ·exfalso
  simp at h;omega
section
variable {x y:List Int} {an ad bn bd cn cd dn dd:Int} (nx:aC 192 [.ag (G9 x an ad bn bd)] (.ag (G9 x an ad bn bd))) (ny:aC 192 [.ag (G9 y cn cd dn dd)] (.ag (G9 y cn cd dn dd)))
include nx ny
theorem atr{r:Int}(hr:r = -1∨r=0∨r=1)(p1:aC 193 [.ag (G9 x an ad bn bd)] (.bool true))(k:aC 111 [.ag (G9 y cn cd dn dd),T2 an ad] (aB r)):aC 110 [.ag (G9 x an ad bn bd), .ag (G9 y cn cd dn dd)] (aB (-r)):=by
 have hw:IntKind.wrap .i64 (-r) = -r:=wrap_i64 aA aA
 simp only [G9]at *
 apply cG [(0, .ag (G9 x an ad bn bd)),(1, .ag (G9 y cn cd dn dd))] Tryz.func110
 apply kR [2,3]
 apply fV nx ny
 apply (cV)
 (try (refine aY (of_decide_eq_true cT) ?_));(try simp (maxSteps:=4000000) (disch:=omega) [gw]);(repeat rw [if_pos cT]);(try simp (maxSteps:=4000000) (disch:=omega) [gw])
 (try (refine aY (of_decide_eq_true cT) ?_));(try simp (maxSteps:=4000000) (disch:=omega) [gw]);(repeat rw [if_pos cT]);(try simp (maxSteps:=4000000) (disch:=omega) [gw])
 apply cO [2,3]
 apply (nC)
 apply cK p1 [2,3,15]
 refine W.cond ⟨_,rfl,fun h=>?_,fun h=>?_⟩
 ·apply nB k
  exact FM hw [4]
 ·simp at h
theorem att{r:Int}(p1:aC 193 [.ag (G9 x an ad bn bd)] (.bool false))(p2:aC 193 [.ag (G9 y cn cd dn dd)] (.bool true))(k:aC 111 [.ag (G9 x an ad bn bd),T2 cn cd] (aB r)):aC 110 [.ag (G9 x an ad bn bd), .ag (G9 y cn cd dn dd)] (aB r):=by
 simp only [G9]at *
 apply cG [(0, .ag (G9 x an ad bn bd)),(1, .ag (G9 y cn cd dn dd))] Tryz.func110
 apply kR [2,3]
 apply fV nx ny
 apply (cV)
 (try (refine aY (of_decide_eq_true cT) ?_));(try simp (maxSteps:=4000000) (disch:=omega) [gw]);(repeat rw [if_pos cT]);(try simp (maxSteps:=4000000) (disch:=omega) [gw])
 (try (refine aY (of_decide_eq_true cT) ?_));(try simp (maxSteps:=4000000) (disch:=omega) [gw]);(repeat rw [if_pos cT]);(try simp (maxSteps:=4000000) (disch:=omega) [gw])
 apply cO [2,3]
 apply (nC)
 apply cK p1 [2,3,15]
 refine W.cond ⟨_,rfl,fun h=>?_,fun h=>?_⟩
 ·simp at h
 apply cK p2 [2,3,23]
 refine W.cond ⟨_,rfl,fun h=>?_,fun h=>?_⟩
 ·exact C7 k [4]
 ·simp at h
set_option maxHeartbeats 4000000 in
theorem acz{g:List Int}{ln ld hn hd zd zl dg r:Int}{v w:PV}{hs:Bool}(p1:aC 193 [.ag (G9 x an ad bn bd)] (.bool false))(p2:aC 193 [.ag (G9 y cn cd dn dd)] (.bool false))
  (kM:aC 90 [T2 an ad, .sl [[.bool (decide (cn<0)),us (aV LL cn.natAbs), .bool (decide (cd<0)),us (aV LL cd.natAbs)]]] (T2 ln ld)) (kD:aC 86 [T2 dn dd,T2 bn bd] (aB zd)) (hh:if zd<0 then hn=dn∧hd=dd else hn=bn∧hd=bd) (kL:aC 86 [T2 ln ld,T2 hn hd] (aB zl))
  (hG:zl<0->aC 194 [.sl [[Po x],[Po y]]] (Po g)) (hD:zl<0->aC 83 [Po g] (aB dg)) (hH:zl<0->0<dg->aC 195 [Po g,T2 ln ld,T2 hn hd] (.bool hs)) (hr:zl<0∧0<dg∧hs=true->r=0)
  (hA:¬(zl<0∧0<dg∧hs=true)->aC 196 [.ag (G9 x an ad bn bd), .ag (G9 y cn cd dn dd)] (.dK [v,w,aB r])) (hv:∃a b c d,v = .ag (G9 x a b c d)) (hw:∃a b c d,w = .ag (G9 y a b c d)) :
  aC 110 [.ag (G9 x an ad bn bd), .ag (G9 y cn cd dn dd)] (aB r):=by
 obtain⟨va,vb,vc,vd,rfl⟩:=hv
 obtain⟨wa,wb,wc,wd,rfl⟩:=hw
 simp only [G9]at *
 apply cG [(0, .ag (G9 x an ad bn bd)),(1, .ag (G9 y cn cd dn dd))] Tryz.func110
 apply kR [2,3]
 apply fV nx ny
 apply (cV)
 (try (refine aY (of_decide_eq_true cT) ?_));(try simp (maxSteps:=4000000) (disch:=omega) [gw]);(repeat rw [if_pos cT]);(try simp (maxSteps:=4000000) (disch:=omega) [gw])
 (try (refine aY (of_decide_eq_true cT) ?_));(try simp (maxSteps:=4000000) (disch:=omega) [gw]);(repeat rw [if_pos cT]);(try simp (maxSteps:=4000000) (disch:=omega) [gw])
 apply cO [2,3]
 apply (nC)
 apply cK p1 [2,3,15]
 refine W.cond ⟨_,rfl,fun h=>?_,fun h=>?_⟩
 ·simp at h
 apply cK p2 [2,3,23]
 refine W.cond ⟨_,rfl,fun h=>?_,fun h=>?_⟩
 ·simp at h
 apply (HT)
 apply kZ kM
 simp (maxSteps:=4000000) (disch:=omega) [gw]
 (try (refine aY (of_decide_eq_true cT) ?_));(try simp (maxSteps:=4000000) (disch:=omega) [gw]);(repeat rw [if_pos cT]);(try simp (maxSteps:=4000000) (disch:=omega) [gw])
 (try (refine aY (of_decide_eq_true cT) ?_));(try simp (maxSteps:=4000000) (disch:=omega) [gw]);(repeat rw [if_pos cT]);(try simp (maxSteps:=4000000) (disch:=omega) [gw])
 apply cO [2,3,5,6]
 refine W.iS (fun σ=>∃(v5 v6:Nat),bF σ [(2, .ptr 2 0 0 0),(3, .ptr 3 1 0 0),(5, .ptr 5 v5 0 0),(6, .ptr 6 v6 0 0)] fun rows clk=>rows 2=some ⟨0,54,9,[G9 x an ad bn bd]⟩∧rows 3=some ⟨1,54,9,[G9 y cn cd dn dd]⟩∧rows 5=some ⟨v5,52,4,[[.bool (decide (ln<0)),us (aV LL ln.natAbs), .bool (decide (ld<0)),us (aV LL ld.natAbs)]]⟩∧rows 6=some ⟨v6,52,4,[[.bool (decide (hn<0)),us (aV LL hn.natAbs), .bool (decide (hd<0)),us (aV LL hd.natAbs)]]⟩) ?_ ?_
 ·apply cK kD [2,3,5,6,42]
  refine W.cond ⟨_,rfl,fun h=>?_,fun h=>?_⟩
  ·have h:zd<0:=by simpa using h
   rw [if_pos h]at hh
   obtain⟨rfl,rfl⟩:=hh
   refine W.bY (fun K hK=>?_);simp (disch:=omega) [gw]
   exact hK _ ⟨_,aD _ [2,3,5,6],_,_,_,_,rfl,aG,aG,aG,aG⟩
  ·have h:¬zd<0:=by simpa using h
   rw [if_neg h]at hh
   obtain⟨rfl,rfl⟩:=hh
   apply W.skip
   exact⟨_,aD _ [2,3,5,6],_,_,_,_,rfl,aG,aG,aG,aG⟩
 rintro _ ⟨v5,v6,rows,clk,rfl,bS,bK,dX,mT⟩
 simp only [G9]at bS bK
 by_cases hz:zl<0∧0<dg∧hs=true
 ·have J6:=hG hz.1
  have hD':=hD hz.1
  have hH':=hH hz.1 hz.2.1
  obtain⟨z1,z2,rfl⟩:=hz
  rw [hr ⟨z1,z2,rfl⟩]
  apply W.seq
  apply qE dX mT kL
  apply bT [2,3,5,6,48]
  refine W.cond ⟨_,rfl,fun h=>?_,fun h=>?_⟩
  ·apply qE bS bK J6
   apply bT [2,3,5,6,7]
   apply nB hD'
   simp (disch:=omega) [gw,z2,dX,mT]
   apply jW hH'
   apply cO [2,3,63]
   refine W.cond ⟨_,rfl,fun h=>?_,fun h=>?_⟩
   ·exact eY [4]
   ·simp at h
  ·exfalso;simp at h;omega
 ·have hA':=hA hz
  refine W.iS (fun σ=>bF σ [(2, .ptr 2 0 0 0),(3, .ptr 3 1 0 0)] fun rows clk=>rows 2=some ⟨0,54,9,[G9 x an ad bn bd]⟩∧rows 3=some ⟨1,54,9,[G9 y cn cd dn dd]⟩) ?_ ?_
  ·apply qE dX mT kL
   apply bT [2,3,5,6,48]
   refine W.cond ⟨_,rfl,fun h=>?_,fun h=>?_⟩
   ·have h:zl<0:=by simpa using h
    have J6:=hG h
    have hD':=hD h
    have hH':=hH h
    apply qE bS bK J6
    apply bT [2,3,5,6,7]
    refine W.fI (fun σ=>bF σ [(2, .ptr 2 0 0 0),(3, .ptr 3 1 0 0),(63, .bool false)] fun rows clk=>rows 2=some ⟨0,54,9,[G9 x an ad bn bd]⟩∧rows 3=some ⟨1,54,9,[G9 y cn cd dn dd]⟩) (fun K hK=>?_) ?_
    ·by_cases h2:0<dg
     ·have hH2:=hH' h2
      have hf:hs=false:=by
       cases hs with
       | false=>rfl
       | true=>exact absurd ⟨h,h2,rfl⟩ hz
      subst hf
      apply kZ hD'
      apply C6 h2 dX mT hH2
      apply (cV)
      refine hK _ _ (aD _ [2,3,63]) ⟨_,_,rfl,by simp [bS],by simp [bK]⟩
     ·apply kZ hD'
      apply eV h2
      refine hK _ _ (aD _ [2,3,63]) ⟨_,_,rfl,by simp [bS],by simp [bK]⟩
    rintro _ ⟨rows,clk,rfl,bS,bK⟩
    refine W.cond ⟨_,rfl,fun h=>?_,fun h=>?_⟩
    ·simp at h
    apply W.skip
    exact⟨_,aD _ [2,3],_,_,rfl,bS,bK⟩
   ·apply W.skip
    exact⟨_,aD _ [2,3],_,_,rfl,by simp [bS],by simp [bK]⟩
  rintro _ ⟨rows,clk,rfl,bS,bK⟩
  simp only [G9]at bS bK
  apply qE bS bK hA'
  apply bT [10]
  exact eY [4]
end
theorem AN.wR{f:ZX}(a:AN s n u f p){v:Nat}(qt:SQ v t)(huv:u<=v)(hv:v<=1000000000):aC 111 [GA f p,RT t] (aB (cr (bN f p) t)):=by
 have I:=a.I
 have q1:=a.q1.mono huv
 have q2:=a.q2.mono huv
 have hp:=mR (x:=f.l) q1 q2 hv
 have hc:=a.A.azI t
 by_cases KE:p.1=p.2
 ·rw [decide_eq_true (by rw [KE];exact Rat.le_refl)]at hp
  have z:=dM q1.nL q1.dL qt.nL qt.dL aA (bI p.1) (bI t) ⟨q1.nL,q1.dL⟩ ⟨qt.nL,qt.dL⟩
  have:=aaj hp z
  have e1:cr (bN f p) t=eA (p.1.num*(t.den:Int)) (t.num*(p.1.den:Int)):=by
   rw [hc,if_pos KE]
   by_cases h2:p.1<t
   ·rw [if_pos h2,pL (qF.1 (jC.2 h2))]
   ·rw [if_neg h2]
    by_cases h3:t<p.1
    ·rw [if_pos h3,pM (qG.1 (iF.2 h3))]
    ·rw [if_neg h3,lS.2 aT]
  rw [e1]
  exact this
 ·have c8:p.1<p.2:=by have:=a.A.le;grind
  rw [decide_eq_false (Rat.not_le.2 c8)]at hp
  rw [hc,if_neg KE]
  by_cases h1:t<=p.1
  ·rw [if_pos h1]
   have z1:=dM qt.nL qt.dL q1.nL q1.dL aA (bI t) (bI p.1) ⟨qt.nL,qt.dL⟩ ⟨q1.nL,q1.dL⟩
   have z2:=dM qt.nL qt.dL q2.nL q2.dL aA (bI t) (bI p.2) ⟨qt.nL,qt.dL⟩ ⟨q2.nL,q2.dL⟩
   refine wV hp z1 z2 (wW f I.ch.bz (by have:=a.hs;omega) (by have:=I.ch.hn;omega) qt hv) (GK I (by have:=a.hs;omega) q1 hv) ?_
   rw [if_pos (lT.2 h1)]
  ·rw [if_neg h1]
   by_cases h2:p.2<t
   ·rw [if_pos h2]
    have z1:=dM qt.nL qt.dL q1.nL q1.dL aA (bI t) (bI p.1) ⟨qt.nL,qt.dL⟩ ⟨q1.nL,q1.dL⟩
    have z2:=dM qt.nL qt.dL q2.nL q2.dL aA (bI t) (bI p.2) ⟨qt.nL,qt.dL⟩ ⟨q2.nL,q2.dL⟩
    refine wV hp z1 z2 (wW f I.ch.bz (by have:=a.hs;omega) (by have:=I.ch.hn;omega) qt hv) (GK I (by have:=a.hs;omega) q1 hv) ?_
    rw [if_neg (fun h=>h1 (lT.1 h)),if_pos (iF.2 h2)]
   ·rw [if_neg h2]
    have k:=ajs I (by have:=a.hs;omega) a.A (m:=t) aT aT q1 q2 qt hv
    have b1:=I.S.bU (show p.1<=t by grind)
    have e1:(if e t f=0 then 0 else if vt (aO f) t<vt (aO f) p.1 then -1 else 1:Int)=if vt (aO f) p.1=vt (aO f) t then 1 else if e t f=0 then 0 else -1:=by
     by_cases h3:e t f=0
     ·have:=I.S.root (show p.1<t by grind) h3
      rw [if_pos h3,if_neg aA,if_pos h3]
     ·rw [if_neg h3]
      by_cases h4:vt (aO f) t<vt (aO f) p.1
      ·rw [if_pos h4,if_neg aA,if_neg h3]
      ·rw [if_neg h4,if_pos aA]
    rw [<-e1]
    exact k
noncomputable def st(f h:ZX)(p q:Rat × Rat):Nat->(Rat × Rat) × (Rat × Rat)
 | 0=>(p,q)
 | j+1=>if (st f h p q j).2.2-(st f h p q j).2.1<=(st f h p q j).1.2-(st f h p q j).1.1 then(x8 f (st f h p q j).1,(st f h p q j).2)else((st f h p q j).1,x8 h (st f h p q j).2)
section
variable {f h:ZX} {p q:Rat × Rat} (A:mV f (vt (aO f)) p.1 p.2) (B:mV h (vt (aO h)) q.1 q.2) {D D':Nat} {b:Rat} (g1:Gr D b 0 p.1) (g2:Gr D b 0 p.2) (g3:Gr D' b 0 q.1) (g4:Gr D' b 0 q.2)
include A B g1 g2 g3 g4
theorem CF:∀j,mV f (vt (aO f)) (st f h p q j).1.1 (st f h p q j).1.2∧mV h (vt (aO h)) (st f h p q j).2.1 (st f h p q j).2.2∧(∀t,bN f (st f h p q j).1 t↔bN f p t)∧(∀t,bN h (st f h p q j).2 t↔bN h q t)∧Gr D b j (st f h p q j).1.1∧Gr D b j (st f h p q j).1.2∧Gr D' b j (st f h p q j).2.1∧Gr D' b j (st f h p q j).2.2
 | 0=>⟨A,B,fun _=>Iff.rfl,fun _=>Iff.rfl,g1,g2,g3,g4⟩
 | j+1=>by
  obtain⟨a1,a2,a3,a4,a5,a6,a7,a8⟩:=CF j
  rw [st]
  split
  ·obtain⟨b1,b2,_⟩:=nV a1
   obtain⟨c1,c2⟩:=aam (f:=f) a5 a6
   exact⟨b1,a2,fun t=>(b2 t).trans (a3 t),a4,c1,c2,a7.mono aA,a8.mono aA⟩
  ·obtain⟨b1,b2,_⟩:=nV a2
   obtain⟨c1,c2⟩:=aam (f:=h) a7 a8
   exact⟨a1,b1,a3,fun t=>(b2 t).trans (a4 t),a5.mono aA,a6.mono aA,c1,c2⟩
theorem ajz{W:Rat}(w1:p.2-p.1<=W)(w2:q.2-q.1<=W):∀i,((st f h p q (2*i)).1.2-(st f h p q (2*i)).1.1)*2^i<=W∧((st f h p q (2*i)).2.2-(st f h p q (2*i)).2.1)*2^i<=W
 | 0=>by rw [Rat.pow_zero,Rat.mul_one,Rat.mul_one];exact⟨w1,w2⟩
 | i+1=>by
  obtain⟨h1,h2⟩:=ajz w1 w2 i
  have s0:=CF A B g1 g2 g3 g4 (2*i)
  have s1:=CF A B g1 g2 g3 g4 (2*i+1)
  have key:∀M:Rat,(st f h p q (2*i)).1.2-(st f h p q (2*i)).1.1<=M->(st f h p q (2*i)).2.2-(st f h p q (2*i)).2.1<=M->((st f h p q (2*i+2)).1.2-(st f h p q (2*i+2)).1.1)*2<=M∧((st f h p q (2*i+2)).2.2-(st f h p q (2*i+2)).2.1)*2<=M:=fun M m1 m2=>by
   have a1:=(nV s0.1).2.2.2.2
   have a2:=(nV s0.2.1).2.2.2.2
   have b1:=(nV s1.1).2.2.2.2
   have b2:=(nV s1.2.1).2.2.2.2
   have l1:=s1.1.le
   have l2:=s1.2.1.le
   have l3:=(nV s1.1).1.le
   have l4:=(nV s1.2.1).1.le
   have e2:st f h p q (2*i+2)=if (st f h p q (2*i+1)).2.2-(st f h p q (2*i+1)).2.1<=(st f h p q (2*i+1)).1.2-(st f h p q (2*i+1)).1.1 then(x8 f (st f h p q (2*i+1)).1,(st f h p q (2*i+1)).2)else((st f h p q (2*i+1)).1,x8 h (st f h p q (2*i+1)).2):=rfl
   have e1:st f h p q (2*i+1)=if (st f h p q (2*i)).2.2-(st f h p q (2*i)).2.1<=(st f h p q (2*i)).1.2-(st f h p q (2*i)).1.1 then(x8 f (st f h p q (2*i)).1,(st f h p q (2*i)).2)else((st f h p q (2*i)).1,x8 h (st f h p q (2*i)).2):=rfl
   rw [e2]
   generalize st f h p q (2*i+1)=t at *
   generalize st f h p q (2*i)=s at *
   clear e2 s0 s1 h1 h2
   split
   ·rename_i c
    show((x8 f t.1).2-(x8 f t.1).1)*2<=M∧(t.2.2-t.2.1)*2<=M
    split at e1
    ·subst e1;dsimp only at *;exact⟨aT,aT⟩
    ·subst e1;dsimp only at *;exact⟨aT,aT⟩
   ·rename_i c
    show(t.1.2-t.1.1)*2<=M∧((x8 h t.2).2-(x8 h t.2).1)*2<=M
    split at e1
    ·subst e1;dsimp only at *;exact⟨aT,aT⟩
    ·subst e1;dsimp only at *;exact⟨aT,aT⟩
  have hP:=gD i
  have e3:W/2^i*2^i=W:=Rat.div_mul_cancel (Rat.ne_of_gt hP)
  have hle:∀x:Rat,x*2^i<=W->x<=W/2^i:=fun x hx=>Rat.le_of_mul_le_mul_right (by rw [e3];exact hx) hP
  obtain⟨k1,k2⟩:=key (W/2^i) (hle _ h1) (hle _ h2)
  rw [show 2*(i+1)=2*i+2 by omega,Rat.pow_succ]
  have m1:=Rat.mul_le_mul_of_nonneg_right k1 (Rat.le_of_lt hP)
  have m2:=Rat.mul_le_mul_of_nonneg_right k2 (Rat.le_of_lt hP)
  rw [e3]at m1 m2
  exact⟨aT,aT⟩
end
theorem am5{V:Rat->Prop}{x y:Rat}(hU:∀s t,U s->s<=t->U t)(hx:U x)(hy:∀t,V t->y<=t)(w7:x<=y)(o7:¬ ∀t,U t↔V t):cu U V = -1:=by
 unfold cu
 refine if_pos (Classical.byContradiction fun FQ=>o7 fun t=>⟨fun h=>Classical.byContradiction fun h2=>FQ ⟨t,h,h2⟩,fun h=>hU x t hx ?_⟩)
 have:=hy t h
 grind
theorem am6{V:Rat->Prop}{x y:Rat}(hV:∀s t,V s->s<=t->V t)(hx:V x)(hy:∀t,U t->y<=t)(w7:x<=y)(o7:¬ ∀t,U t↔V t):cu U V=1:=by
 have h1:∀t,U t->V t:=fun t h=>hV x t hx (by have:=hy t h;grind)
 unfold cu
 rw [if_neg (fun ⟨t,h2,h3⟩=>h3 (h1 t h2))]
 exact if_pos (Classical.byContradiction fun FQ=>o7 fun t=>⟨h1 t,fun h=>Classical.byContradiction fun h2=>FQ ⟨t,h,h2⟩⟩)
theorem lo_le{f:ZX}(A:mV f v lo hi)(h:iU v lo hi t):lo<=t:=Rat.not_lt.1 fun h2=>A.jB (.inl h2) h
theorem ajA{n' u':Nat}{f h:ZX}{q:Rat × Rat}(a:AN s n u f p)(b:AN s' n' u' h q)(o7:¬ ∀x,bN f p x↔bN h q x)(hp:p.1<p.2)(hq:q.1<q.2){M:Nat}(hM:64+4*(ZX.N f+ZX.N h)*(zs f+zs h+(ZX.N f+ZX.N h)+8)<=M) :
  ∃J,J<M∧((st f h p q J).1.2<=(st f h p q J).2.1∨(st f h p q J).2.2<=(st f h p q J).1.1) ∧ ∀j,j<J->¬((st f h p q j).1.2<=(st f h p q j).2.1∨(st f h p q j).2.2<=(st f h p q j).1.1):=by
 have I:=a.I
 have I':=b.I
 have A:=a.A
 have B:=b.A
 have n8:=a.n8
 have m8:=b.n8
 have n2:=acv I.nf A
 have m2:=acv I'.nf B
 have fz:=VX I.ch.bz
 have hz:=VX I'.ch.bz
 have bf:=Q7 I.nf fz
 have bh:=Q7 I'.nf hz
 have hA:∀c∈f.l,c.natAbs<=2^zs f:=fun c hc=>Nat.le_of_lt (BZ.lt fz c hc)
 have hB:∀c∈h.l,c.natAbs<=2^zs h:=fun c hc=>Nat.le_of_lt (BZ.lt hz c hc)
 obtain⟨D,_,_,g1,g2⟩:=E8 (a.q1.mono (show u<=u+u' by omega)) (a.q2.mono (show u<=u+u' by omega))
 obtain⟨D',_,_,g3,g4⟩:=E8 (b.q1.mono (show u'<=u+u' by omega)) (b.q2.mono (show u'<=u+u' by omega))
 obtain⟨z,hz1,xF,hz3⟩:∃z,z<=zs f∧z<=zs h∧(z=zs f∨z=zs h):=by
  rcases Nat.le_total (zs f) (zs h)with h1 | h1
  ·exact⟨zs f,Nat.le_refl _,h1, .inl rfl⟩
  ·exact⟨zs h,h1,Nat.le_refl _, .inr rfl⟩
 have e1:=NJ n2 m2 n8 m8 hz1 xF
 have e2:=NJ m2 n2 m8 n8 xF hz1
 have e3:(2*lk (zs f) (ZX.N f) 3 (z+2)+2*(zs f+zs h)+9<=64+4*(ZX.N f+ZX.N h)*(zs f+zs h+(ZX.N f+ZX.N h)+8))∨(2*lk (zs h) (ZX.N h) 3 (z+2)+2*(zs f+zs h)+9<=64+4*(ZX.N f+ZX.N h)*(zs f+zs h+(ZX.N f+ZX.N h)+8)):=by
  have sw:4*(ZX.N h+ZX.N f)*(zs h+zs f+(ZX.N h+ZX.N f)+8)=4*(ZX.N f+ZX.N h)*(zs f+zs h+(ZX.N f+ZX.N h)+8):=by rw [Nat.add_comm (ZX.N h),Nat.add_comm (zs h)]
  rcases Nat.le_total (zs f) (zs h)with h1 | h1
  ·have hz':z=zs f:=by omega
   subst hz'
   rcases Nat.lt_or_ge 2 (ZX.N h)with h2 | h2
   ·exact .inl (NK n2 m2 n8 h1 (.inl h2))
   ·exact .inr (NL n2 n8 h1 aA)
  ·have hz':z=zs h:=by omega
   subst hz'
   rcases Nat.lt_or_ge 2 (ZX.N f)with h2 | h2
   ·have:=NK m2 n2 m8 h1 (.inl h2)
    rw [sw,Nat.add_comm (zs h) (zs f)]at this
    exact .inr this
   ·have:=NL (m:=ZX.N f) m2 m8 h1 aA
    rw [sw,Nat.add_comm (zs h) (zs f)]at this
    exact .inl this
 have sw:4*(ZX.N h+ZX.N f)*(zs h+zs f+(ZX.N h+ZX.N f)+8)=4*(ZX.N f+ZX.N h)*(zs f+zs h+(ZX.N f+ZX.N h)+8):=by rw [Nat.add_comm (ZX.N h),Nat.add_comm (zs h)]
 rw [sw]at e2
 generalize 64+4*(ZX.N f+ZX.N h)*(zs f+zs h+(ZX.N f+ZX.N h)+8)=T at *
 obtain⟨K,hK⟩:∃K,K=(T-1)/2-(zs f+zs h+3):=⟨_,rfl⟩
 have hi:2*(K+1+(zs f+zs h+2))<T:=aA
 have k1:se (zs f) (zs h) (ZX.N f) (ZX.N h) (z+2)<=K:=aA
 have k2:se (zs h) (zs f) (ZX.N h) (ZX.N f) (z+2)<=K:=aA
 have k3:lk (zs f) (ZX.N f) 3 (z+2)<=K∨lk (zs h) (ZX.N h) 3 (z+2)<=K:=aA
 generalize hie:K+1+(zs f+zs h+2)=i at *
 have uR:(st f h p q (2*i)).1.2<=(st f h p q (2*i)).2.1∨(st f h p q (2*i)).2.2<=(st f h p q (2*i)).1.1:=by
  refine Classical.byContradiction fun FQ=>o7 ?_
  obtain⟨c1,c2⟩:=not_or.1 FQ
  have w0:∀ {r:Rat × Rat} {y:Nat},Ab r.1 (2^(y+1))->Ab r.2 (2^(y+1))->y<=zs f+zs h->r.2-r.1<=2^(zs f+zs h+2):=fun {r y} ⟨x1,x2⟩ ⟨x3,x4⟩ hy=>by
   refine Rat.le_trans ?_ (JF (show y+1+1<=zs f+zs h+2 by omega))
   rw [Rat.pow_succ];grind
  obtain⟨w1,w2⟩:=ajz A B g1 g2 g3 g4 (w0 (a.b1 hp) (a.b2 hp) aA) (w0 (b.b1 hq) (b.b2 hq) aA) i
  obtain⟨s1,s2,s3,s4,_⟩:=CF A B g1 g2 g3 g4 (2*i)
  generalize st f h p q (2*i)=t at *
  have l1:=s1.le
  have l2:=s2.le
  obtain⟨S,hS,hS1,hS2⟩:∃S,(S=t.1.1∨S=t.2.1)∧S<=t.1.1∧S<=t.2.1:=by
   by_cases hh:t.1.1<=t.2.1
   ·exact⟨_, .inl rfl,Rat.le_refl,hh⟩
   ·exact⟨_, .inr rfl,aT,Rat.le_refl⟩
  obtain⟨E,hE,hE1,hE2⟩:∃E,(E=t.1.2∨E=t.2.2)∧t.1.2<=E∧t.2.2<=E:=by
   by_cases hh:t.1.2<=t.2.2
   ·exact⟨_, .inr rfl,hh,Rat.le_refl⟩
   ·exact⟨_, .inl rfl,Rat.le_refl,aT⟩
  have hP:=gD (zs f+zs h+2)
  have nar:∀x:Rat,x*2^i<=2^(zs f+zs h+2)->x*2^(K+1)<=1:=fun x hx=>by
   rw [<-hie,sH (K+1),<-Rat.mul_assoc]at hx
   refine Rat.le_of_mul_le_mul_right ?_ hP
   rw [Rat.one_mul];exact hx
  have hd:(E-S)*2^K<=1:=by
   have n1:=nar _ w1
   have n2:=nar _ w2
   have hPK:=gD K
   rw [Rat.pow_succ]at n1 n2
   have:E-S<=(t.1.2-t.1.1)+(t.2.2-t.2.1):=by rcases hS with rfl | rfl<;>rcases hE with rfl | rfl<;>grind
   have:=Rat.mul_le_mul_of_nonneg_right this (Rat.le_of_lt hPK)
   grind
  have a1:¬bN f p S:=fun hh2=>s1.jB aT ((s3 S).2 hh2)
  have b1:¬bN h q S:=fun hh2=>s2.jB aT ((s4 S).2 hh2)
  have a2:bN f p E:=(s3 E).1 (s1.up fM hE1)
  have b2:bN h q E:=(s4 E).1 (s2.up fM hE2)
  have FR:=(dE A).lt a1 a2
  have h1:E-S<=1:=by
   have:=Rat.mul_le_mul_of_nonneg_left (uF K) (show 0<=E-S by grind)
   grind
  have bd:Ab S (2^(z+2))∧Ab E (2^(z+2)):=by
   have main:∀b:Rat,Ab b (2^(z+1))->S<b -> -b<E->Ab S (2^(z+2))∧Ab E (2^(z+2)):=fun b ⟨y1,y2⟩ y3 y4=>by
    have y5:=uF (z+1)
    rw [show z+2=z+1+1 by omega,Rat.pow_succ]
    generalize (2:Rat)^(z+1)=T at *
    exact⟨⟨aT,aT⟩,⟨aT,aT⟩⟩
   rcases hz3 with rfl | rfl
   ·exact main _ bf ((Q8 I.nf A).2 a1) ((Q8 I.nf A).1 a2)
   ·exact main _ bh ((Q8 I'.nf B).2 b1) ((Q8 I'.nf B).1 b2)
  exact am2 I.nf I'.nf I.ND I'.ND A B hA hB (Nat.le_refl _) (Nat.le_refl _) n8 m8 k1 k2 k3 bd.1 bd.2 a1 a2 b1 b2 hd
 obtain⟨J,hJ,hj,j2⟩:=oJ (fun j=>(st f h p q j).1.2<=(st f h p q j).2.1∨(st f h p q j).2.2<=(st f h p q j).1.1) (2*i+1)
 have hJ2:J<2*i+1:=Nat.not_le.1 fun hh=>hj (2*i) aA uR
 exact⟨J,aA,j2 hJ2,hj⟩
def gg(x:ZX × Rat × Rat):List PV:=Po x.1.l::(tc x.2.1++tc x.2.2)
@[simp] theorem aFr{x:ZX × Rat × Rat}:gg x=Po x.1.l::(tc x.2.1++tc x.2.2):=rfl
@[simp] theorem avQ:bP 9 (emap gg l)=True:=cS fun _=>rfl
@[simp] theorem atu{v e:Nat}:dG (some ⟨v,e,n,emap gg l⟩)=True:=cM fun _=>rfl
abbrev ajB:PV:=.ag [.sl [], .bool false, .sl [], .bool false, .sl [], .bool false, .sl [], .bool false, .sl []]
theorem aeV{f:ZX}(S:uG f (vt (aO f)))(h:vt (aO f) p.1=vt (aO f) p.2+1)(t:Rat):bN f p t↔vt (aO f) t<=vt (aO f) p.2:=by
 refine⟨fun hh=>?_,fun hh=>?_⟩
 ·rcases hh with hh | ⟨_,hh⟩
  ·exact S.bU hh
  ·omega
 ·refine .inr ⟨?_,aA⟩
  refine Rat.not_le.1 fun h2=>?_
  have:=S.bU h2
  omega
theorem DX{v:Rat->Nat}{D:Nat}{B δ:Rat}(C:Cut v B δ):∀(k j:Nat) (lo hi:Rat),Gr D B j lo->Gr D B j hi->lo<hi->hi-lo<=δ*2^k -> ∀i,i<(KC v k lo hi).length->v (nth (KC v k lo hi) i).2+i+1=v lo
 | 0,j,lo,hi,g1,g2,h,hd,i,jF=>by
  rw [KC]at jF |-
  split at jF
  ·cases jF
  ·rename_i he
   rw [if_neg he]
   have:=C.leaf g1.b g2.b h (by rw [Rat.pow_zero,Rat.mul_one]at hd;exact hd) he
   simp at jF;subst jF
   show v hi+0+1=v lo
   omega
 | k+1,j,lo,hi,g1,g2,h,hd,i,jF=>by
  rw [KC]at jF |-
  by_cases he:v lo=v hi
  ·rw [if_pos he]at jF;cases jF
  ·rw [if_neg he]at jF |-
   by_cases I7:v lo=v hi+1
   ·rw [if_pos I7]at jF |-
    simp at jF;subst jF
    show v hi+0+1=v lo
    omega
   ·rw [if_neg I7]at jF |-
    obtain⟨m1,m2⟩:=sJ h
    obtain⟨d1,d2⟩:=wP hd
    have gm:=g1.IC g2
    have a:=DX C k (j+1) lo ((lo+hi)/2) (g1.mono aA) gm m1 d1
    have b:=DX C k (j+1) ((lo+hi)/2) hi gm (g2.mono aA) m2 d2
    obtain⟨_,l1,_⟩:=rW C k (j+1) lo ((lo+hi)/2) (g1.mono aA) gm m1 d1
    have n1:=C.bU lo ((lo+hi)/2) (Rat.le_of_lt m1)
    generalize (lo+hi)/2=m at *
    rw [List.length_append]at jF
    rcases Nat.lt_or_ge i (KC v k lo m).length with h3 | h3
    ·have h4:=a i h3
     rw [bZ (by rw [List.length_append];omega),List.getElem_append_left h3,<-bZ h3]
     exact h4
    ·have h4:=b (i-(KC v k lo m).length) aA
     rw [bZ (by rw [List.length_append];omega),List.getElem_append_right h3,<-bZ]
     omega
namespace nX
variable {s n:Nat} {f:ZX} (I:nX s n f)
include I
theorem aeW(i:Nat)(hi:i<(GI s n f).length):vt (aO f) (nth (GI s n f) i).2+i+1=vt (aO f) (-jE f.l):=by
 obtain⟨δ,h1,h2,C⟩:=I.cut (s+1)
 exact DX C (lvl s n) 0 _ _ I.GH I.DV I.VQ (I.width h2) i hi
theorem apL(x:Rat):vt (aO f) x<=vt (aO f) (-jE f.l):=by
 by_cases h:x < -jE f.l
 ·exact Nat.le_of_eq (I.S.bg (a:=x) (b := -jE f.l) ⟨1,aF,fun y _ h2=>(pR f.c I.f0 (.inl h2)).1⟩ h)
 ·exact I.S.bU (Rat.not_lt.1 h)
theorem aAb(x:Rat):vt (aO f) (jE f.l)<=vt (aO f) x:=by
 by_cases h:jE f.l<x
 ·exact Nat.le_of_eq (I.S.bg (a:=jE f.l) (b:=x) ⟨1,aF,fun y h2 _=>(pR f.c I.f0 (.inr h2)).1⟩ h)
 ·exact I.S.bU (Rat.not_lt.1 h)
theorem aat(i:Nat)(hi:i<(GI s n f).length)(t:Rat):bN f (nth ((GI s n f).map (ex f)) i) t↔vt (aO f) t+i+1<=vt (aO f) (-jE f.l):=by
 obtain⟨a1,a2,a3,a4,a5,a6⟩:=I.ivs.mem _ (bO hi)
 have hl:=I.aeW i hi
 rw [qU hi]
 refine((xU ⟨I.S, .inr ⟨a4,a6⟩⟩).2 t).trans ?_
 rw [aeV I.S a6]
 omega
end nX
end Go.Proofs.YtiobceocpabjdaaGreat
namespace Go.Proofs.YtiobceocpabjdaaGreat
open Go Pm
open ZX hiding N W
variable {s n u u' D j:Nat}{f h:ZX}{p q:Rat × Rat}{r r':Rat}
theorem RA(I:nX s n f)(h:ZX)(hC:(qb (qb s n) n+n+6)*4^n<=4500000000)(hq:qb s n<=5000000):nX (qb s n) n (gz h f):=by
 have nd:Nf (gz h f):=EZ (.inr I.nf.ne)
 have hd:dv (gz h f) f:=(fS h f).r
 obtain⟨w,nw,e⟩:=I.nf.quo nd hd
 have hD:cD f=cD w*gz h f+w*cD (gz h f):=by
  have h1:=congrArg cD e
  rwa [xJ]at h1
 refine⟨⟨I.lay.dv I.nf nd hd,I.lay.hn,Nat.le_trans I.lay.hs (Nat.pow_le_pow_right aF (by unfold qb;omega)),hC⟩,I.rB,nd,Q4 nd fun d h1 h2=>I.ND d (h1.trans hd) (by rw [hD];exact(h1.mul_left _).add (h2.mul_left _)),hq⟩
section
variable {s n s' n' S N:Nat} {f h:ZX} (I:nX s n f) (I':nX s' n' h) (sX:s<=S) (hs2:s'<=S) (rB:n<=N) (hn2:n'<=N) (hN:N<=20)
include I I' sX hs2 rB hn2 hN
theorem aFs(hNS:N+1<=2^S):Two S N f h:=⟨I.nf,I'.nf,I.ND,I'.ND,fun c hc=>Nat.le_trans (I.szf c hc) (Nat.pow_le_pow_right aF sX),fun c hc=>Nat.le_trans (I'.szf c hc) (Nat.pow_le_pow_right aF hs2),
 Nat.le_trans I.ch.bz.N rB,Nat.le_trans I'.ch.bz.N hn2,hN,hNS⟩
theorem atv(hC:(S+N+1)*2*4^N<=4500000000):aC 203 [PI h.l,PI f.l] (PI (gz h f).l):=by
 refine DL (C:=4500000000) (I'.ch.bz.mono hs2 hn2) (I.ch.bz.mono sX rB) ?_ hN aF (Nat.le_trans I.s1 sX)
 rw [I.nf.nfe,I'.nf.nfe]
 have h1:(4:Nat)^ZX.N h<=4^N:=Nat.pow_le_pow_right aF (Nat.le_trans I'.ch.bz.N hn2)
 have h2:(4:Nat)^ZX.N f<=4^N:=Nat.pow_le_pow_right aF (Nat.le_trans I.ch.bz.N rB)
 unfold E2
 split
 ·exact Nat.le_trans (Nat.mul_le_mul aA h1) hC
 ·exact Nat.le_trans (Nat.mul_le_mul (Nat.le_refl _) h2) hC
theorem aFu(hNS:N+1<=2^S)(hS:S<=20000)(hC:(S+N+1)*2*4^N<=4500000000)(hC2:(qb (qb s n) n+n+6)*4^n<=4500000000)(hq:qb s n<=5000000)(A:mV f (vt (aO f)) p.1 p.2)(B:mV h (vt (aO h)) q.1 q.2)(p1:SQ u p.1)(p2:SQ u p.2)(q1:SQ u q.1)(q2:SQ u q.2)(hu:u<=2200000) :
  aC 48 [QA f (aO f) p,QA h (aO h) q] (aB (cu (bN f p) (bN h q))):=
 ajh I I' (aFs I I' sX hs2 rB hn2 hN hNS) hS (atv I I' sX hs2 rB hn2 hN hC) (fun _=>⟨_,_,RA I h hC2 hq⟩) A B p1 p2 q1 q2 hu
end
theorem nX.root(I:nX s n f)(hp:p∈GI s n f):SQ (uu s) p.1∧SQ (uu s) p.2∧mV f (vt (aO f)) (ex f p).1 (ex f p).2∧SQ (uu s) (ex f p).1∧SQ (uu s) (ex f p).2:=by
 obtain⟨a1,a2,a3,a4,a5,a6⟩:=I.ivs.mem _ hp
 refine⟨a1,a2,(xU ⟨I.S, .inr ⟨a4,a6⟩⟩).1,?_,?_⟩<;>(unfold ex;split<;>assumption)
def pk(l:List Int)(i:Nat):Int:=IntKind.wrap .i64 (nth l i+6)%13-6
theorem apM(l:List Int)(i:Nat) : -6<=pk l i∧pk l i<=6:=by
 unfold pk
 have h1:=Int.emod_nonneg (IntKind.wrap .i64 (nth l i+6)) (show (13:Int)≠0 by decide)
 have h2:=Int.emod_lt_of_pos (IntKind.wrap .i64 (nth l i+6)) (show (0:Int)<13 by decide)
 omega
def pks(l:List Int)(n:Nat):List Int:=(List.range n).map (pk l)
theorem ajC(l:List Int)(n:Nat):pks l (n+1)=pks l n ++ [pk l n]:=by
 simp [pks,List.range_succ]
theorem RB(l:List Int)(n:Nat):(pks l n).length=n:=by simp [pks]
theorem ajD(l:List Int)(n:Nat):List.take n (pks l n)=pks l n:=List.take_of_length_le (by rw [RB];exact Nat.le_refl _)
theorem ajE(v:Int) : -9223372036854775808<=IntKind.wrap .i64 v∧IntKind.wrap .i64 v<9223372036854775808:=by
 simp only [IntKind.wrap,IntKind.bits,IntKind.signed]
 have h1:=Int.emod_nonneg v (show (2^64:Int)≠0 by decide)
 have h2:=Int.emod_lt_of_pos v (show (0:Int)<2^64 by decide)
 simp
 split<;>omega
theorem DY{l al:List Int}{k:Int}{L:List (Rat × Rat)}{x C:List Int}{cc:List ZX}{n d:Int}{r:PV}(hl:l.length<9223372036854775808)(hk : -9223372036854775808<=k∧k<9223372036854775808)(hOf:aC 97 [aJ aI (pks l (min l.length 5))] (PI al))(ha:al.length<1000000)(hL:L.length<1000000)
  (hS:aC 25 [aB k,aB l.length] (R2 n d)) (hR:aC 41 [R2 n d] (.ag (eT x cc n d n d))) (hRo:2<=al.length->aC 101 [PI al] (aJ (qa f (aO f)) L))
  (hr:r=if al.length<2∨L = []then .ag (eT x cc n d n d)else QA f (aO f) (nth L (k%L.length).toNat)):aC 30 [aJ aI l,aB k] r:=by
 simp only [eT]at *
 apply cG [(0,aJ aI l),(1,aB k)] Tryz.func30
 apply fK [0,1,4] [0,1,4,5]
 refine W.nil 5 5 3 1 aG aF fun K hK=>?_
 refine W.lw [0,1,4,5] hK ?_;clear hK K;simp
 apply eE [0,1,4,5,6]
 refine W.bB (fun m σ=>∃(i v4 ver:Nat),bF σ [(0,aJ aI l),(1,aB k),(4, .ptr 4 v4 0 0),(5, .own 5 ver 0 i),(6,aB i)] fun rows clk=>rows 4=some ⟨v4,49,10,[[.nil, .nil, .nil, .bool false, .nil, .bool false, .nil, .bool false, .nil, .bool false]]⟩∧rows 5=some ⟨ver,3,1,emap aI (pks l i)⟩∧i+m=min l.length 5) (min l.length 5) ?_ ?_
 ·exact⟨_, .refl,0,_,_,_,_,rfl,aG,by simp [pks,emap],aA⟩
 rintro m _ ⟨i,v4,ver,rows,clk,rfl,dW,dX,him⟩
 apply W.seq
 have R4:=RB l i
 by_cases hi:i<min l.length 5
 ·have WZ:i<l.length:=by omega
  have hi5:(i:Int)<5:=aA
  have aLf:(i:Int)<l.length:=aA
  have hw:=ajE (nth l i+6)
  have hW:=mC (IntKind.wrap .i64 (nth l i+6)) 13 hw aF aF
  have hp:=apM l i
  have e1:IntKind.wrap .i64 (IntKind.wrap .i64 (nth l i+6)%13-6)=pk l i:=wrap_i64 (by show -9223372036854775808<=pk l i;omega) (by show pk l i<9223372036854775808;omega)
  apply qY WZ hi5 [0,1,4,5,6,16]
  refine W.cond ⟨_,rfl,fun h=>?_,fun h=>?_⟩
  ·apply (iE)
   refine W.bY fun K hK=>?_
   apply j0 WZ hW
   simp (disch:=omega) [gw,dX,R4,e1]
   refine W.lw [0,1,4,5,6] hK ?_;clear hK K;simp
   refine W.bY (fun K hK=>?_);simp (disch:=omega) [gw]
   refine hK _ ⟨m-1,_,aD _ [0,1,4,5,6],aA,i+1,_,_,_,_,rfl,by simp [dW],?_,aA⟩
   rw [ajC]
   simp
  ·simp at h
 ·have jF:i=min l.length 5:=by omega
  subst jF
  refine W.fI (fun σ=>bF σ [(0,aJ aI l),(1,aB k),(4, .ptr 4 v4 0 0),(5, .own 5 ver 0 (min l.length 5)),(6,aB ((min l.length 5:Nat):Int)),(16, .bool false)] fun rows clk=>rows 4=some ⟨v4,49,10,[[.nil, .nil, .nil, .bool false, .nil, .bool false, .nil, .bool false, .nil, .bool false]]⟩∧rows 5=some ⟨ver,3,1,emap aI (pks l (min l.length 5))⟩) (fun K hK=>?_) ?_
  ·obtain⟨q,hq⟩:∃q:Nat,min l.length 5=q:=⟨_,rfl⟩
   rw [hq]at hi him dX R4 hK |-
   by_cases h1:q<l.length
   ·have h5:¬(q:Int)<5:=by omega
    have NZ:(q:Int)<l.length:=aA
    apply zD h1 NZ h5
    exact hK _ _ (aD _ [0,1,4,5,6,16]) ⟨_,_,rfl,dW,dX⟩
   ·have NZ:¬(q:Int)<l.length:=by omega
    apply j1 h1 NZ
    exact hK _ _ (aD _ [0,1,4,5,6,16]) ⟨_,_,rfl,dW,dX⟩
  rintro _ ⟨rows,clk,rfl,dW,dX⟩
  refine W.cond ⟨_,rfl,fun h=>?_,fun h=>?_⟩
  ·simp at h
  apply (jV)
  simp (disch:=omega) [gw,dX,ajD]
  apply jW hOf
  apply cO [0,1,4,7]
  apply W.seq
  by_cases h2:al.length<2
  ·rw [if_pos (.inl h2)]at hr
   subst hr
   apply aQ [0,1,4,7,33]
   refine W.cond ⟨_,rfl,fun h=>?_,fun h=>?_⟩
   ·apply n7 hS hR
    exact FM dW [4]
   ·exfalso;simp at h;omega
  ·have aFv:=hRo aA
   apply aQ [0,1,4,7,33]
   refine W.cond ⟨_,rfl,fun h=>?_,fun h=>?_⟩
   ·exfalso;simp at h;omega
   apply W.skip
   apply cK aFv [0,1,4,8]
   apply W.seq
   by_cases h3:L = []
   ·rw [if_pos (.inr h3)]at hr
    subst hr h3
    apply aQ [0,1,4,8,43]
    refine W.cond ⟨_,rfl,fun h=>?_,fun h=>?_⟩
    ·apply n7 hS hR
     exact FM dW [4]
    ·simp at h
   ·rw [if_neg (by simp [h2,h3])]at hr
    subst hr
    have hLp:=List.length_pos_iff.2 h3
    have hW:=mC k (L.length:Int) hk aA aA
    have MG:=Int.emod_nonneg k (show (L.length:Int)≠0 by omega)
    have hm2:=Int.emod_lt_of_pos k (show (0:Int)<L.length by omega)
    obtain⟨j,hj⟩:∃j:Nat,k%(L.length:Int)=j:=⟨(k%(L.length:Int)).toNat,aA⟩
    have hjL:j<L.length:=aA
    rw [hj]at hW |-
    rw [Int.toNat_natCast]
    apply aQ [0,1,4,8,43]
    refine W.cond ⟨_,rfl,fun h=>?_,fun h=>?_⟩
    ·exfalso;simp at h;exact h3 h
    apply W.skip
    apply nB hW
    exact FL hjL dW [4]
theorem common(nf:Nf f)(nh:Nf h)(cf:wO f (cD f))(ch:wO h (cD h))(n8:ZX.N f<=20)(m8:ZX.N h<=20)(A:mV f (vt (aO f)) p.1 p.2)(B:mV h (vt (aO h)) q.1 q.2)(hp:p.1<p.2)(hq:q.1<q.2){lo hi:Rat}(l1:lo=p.1∨lo=q.1)(l2:p.1<=lo)(l3:q.1<=lo)(r1:hi=p.2∨hi=q.2)(r2:hi<=p.2)(r3:hi<=q.2) :
  (lo<hi∧vt (aO (gz f h)) hi<vt (aO (gz f h)) lo) ↔ ∀x,bN f p x↔bN h q x:=by
 obtain⟨w1,S1⟩:=nU (h:=h) nf cf
 obtain⟨w2,S2⟩:=nU (h:=f) nh ch
 rw [<-tW]at S2
 have n1:=S1.N
 have n2:=S2.N
 have hg:=wT S1.ng.ne S1.sg aA
 have CS:=wT S1.nw.ne S1.sw aA
 have hw2:=wT S2.nw.ne S2.sw aA
 have hv:vt (aO f) p.1=vt (aO f) p.2+1:=by
  rcases A.k with ⟨h,_⟩ | ⟨_,h⟩
  ·grind
  ·exact h
 have XC:vt (aO h) q.1=vt (aO h) q.2+1:=by
  rcases B.k with ⟨h,_⟩ | ⟨_,h⟩
  ·grind
  ·exact h
 constructor
 ·rintro⟨c8,hγ⟩
  have c1:=S1.JO A.S hg CS (Rat.le_of_lt c8)
  have c2:=S2.JO B.S hg hw2 (Rat.le_of_lt c8)
  have m1:=CS.bU (Rat.le_of_lt c8)
  have m2:=hw2.bU (Rat.le_of_lt c8)
  have v1:=A.S.bU l2
  have v2:=A.S.bU r2
  have u1:=B.S.bU l3
  have u2:=B.S.bU r3
  have a1:¬bN f p lo:=by
   rintro(h | ⟨_,h⟩)
   ·grind
   ·omega
  have b1:¬bN h q lo:=by
   rintro(h | ⟨_,h⟩)
   ·grind
   ·omega
  have a2:bN f p hi:=.inr ⟨aT,aA⟩
  have b2:bN h q hi:=.inr ⟨aT,aA⟩
  exact CA A B S1 S2 hg CS hw2 c8 a1 a2 b1 b2 aA aA hγ
 ·intro hx
  have a1:¬bN f p lo:=by
   rcases l1 with h | h
   ·rw [h];exact A.jB (.inr ⟨rfl,hp⟩)
   ·rw [h];exact fun h2=>B.jB (.inr ⟨rfl,hq⟩) ((hx _).1 h2)
  have a2:bN f p hi:=by
   rcases r1 with h | h
   ·rw [h];exact fM
   ·rw [h];exact(hx _).2 fM
  have c8:=(dE A).lt a1 a2
  refine⟨c8,Nat.not_le.1 fun hγ=>?_⟩
  obtain⟨B0,hB0,ab1,ab2⟩:=k9 lo hi
  obtain⟨δ,hδ,LS⟩:=Q3 CS B.S S1.wh B0
  obtain⟨a,b,g1,g2,g3,g4,g5,g6⟩:=GJ (U:=bN f p) hδ c8 a1 a2
  have o1:=lB A g5 g6 g2
  have o2:=lB B (fun hh=>g5 ((hx _).2 hh)) ((hx _).1 g6) g2
  have k1:=S1.JO A.S hg CS (Rat.le_of_lt g2)
  have x1:=hg.bU g1
  have x2:=hg.bU g3
  have x3:=hg.bU (Rat.le_of_lt g2)
  rcases LS a b (cH ab1 ab2 g1 aT) (cH ab1 ab2 aT g3) g2 g4 with hh | hh<;>omega
theorem apN{M:Nat}(h1:1<=D)(h2:D<=2^(2*(u+u')))(g:Gr D (2^(u+u')) j r)(g':Gr D (2^(u+u')) j r')(hj:j<=M):SQ (3*(u+u')+M+2) r∧SQ (3*(u+u')+M+2) r'∧SQ (3*(u+u')+M+2) ((r+r')/2):=
 ⟨((g.mono hj).sq h1 h2).mono aA,((g'.mono hj).sq h1 h2).mono aA,((((g.mono hj).IC (g'.mono hj))).sq h1 h2).mono aA⟩
theorem ajF{β d:Nat}(h1:1<=D)(h2:D<=2^d)(g:Gr D (2^β) j r)(g':Gr D (2^β) j r'):SQ (β+1+d+j+1) (r'-r):=by
 obtain⟨⟨y,hy⟩,b1,b2⟩:=g
 obtain⟨⟨z,hz⟩,b3,b4⟩:=g'
 have:Gr D (2^(β+1)) j (r'-r):=⟨⟨z-y,by rw [Rat.intCast_sub,<-hz,<-hy];grind⟩,by rw [Rat.pow_succ];exact⟨aT,aT⟩⟩
 exact this.sq h1 h2
theorem AN.cmp{s' n':Nat}(a:AN s n u f p)(b:AN s' n' u' h q)(hG:aC 194 [.sl [[Po f.l],[Po h.l]]] (Po (gz f h).l))(IG:2<=ZX.N (gz f h) -> ∃sg ng,nX sg ng (gz f h)∧sg<=1000000) :
  aC 110 [GA f p,GA h q] (aB (cu (bN f p) (bN h q))):=by
 have I:=a.I
 have I':=b.I
 have A:=a.A
 have B:=b.A
 have hsa:=a.hs
 have hsb:=b.hs
 have hua:=a.hu
 have hub:=b.hu
 have hn:=I.ch.hn
 have FE:=I'.ch.hn
 have n8:=a.n8
 have m8:=b.n8
 have Nx:=wY I.ch.bz aA aA a.q1 a.q2 aA
 have Ny:=wY I'.ch.bz aA aA b.q1 b.q2 aA
 have P1:=mR (x:=f.l) a.q1 a.q2 aA
 have P2:=mR (x:=h.l) b.q1 b.q2 aA
 by_cases h1:p.1=p.2
 ·rw [decide_eq_true (by rw [h1];exact Rat.le_refl)]at P1
  have k:=b.wR (v:=u+u') (a.q1.mono aA) aA aA
  rw [lU (lZ h1) (fun _=>Iff.rfl),VU fun s t=>B.up]
  exact atr Nx Ny (CB _ _) P1 k
 have c8:p.1<p.2:=by have:=A.le;grind
 rw [decide_eq_false (Rat.not_le.2 c8)]at P1
 by_cases h2:q.1=q.2
 ·rw [decide_eq_true (by rw [h2];exact Rat.le_refl)]at P2
  have k:=a.wR (v:=u+u') (b.q1.mono aA) aA aA
  rw [lU (fun _=>Iff.rfl) (lZ h2),NI fun s t=>A.up]
  exact att Nx Ny P1 P2 k
 have hlq:q.1<q.2:=by have:=B.le;grind
 rw [decide_eq_false (Rat.not_le.2 hlq)]at P2
 have a1:=a.q1.mono (show u<=u+u' by omega)
 have a2:=a.q2.mono (show u<=u+u' by omega)
 have b1:=b.q1.mono (show u'<=u+u' by omega)
 have b2:=b.q2.mono (show u'<=u+u' by omega)
 have hU:u+u'<=1000000000:=aA
 have kM:=aeU a1 b1 hU
 have kD:=dM b2.nL b2.dL a2.nL a2.dL aA (bI q.2) (bI p.2) ⟨b2.nL,b2.dL⟩ ⟨a2.nL,a2.dL⟩
 obtain⟨lo,GW,l1,l2,l3,ql⟩:∃lo,lo=(if p.1<q.1 then q.1 else p.1)∧(lo=p.1∨lo=q.1)∧p.1<=lo∧q.1<=lo∧SQ (u+u') lo:=by
  refine⟨_,rfl,?_⟩
  split
  ·exact⟨.inr rfl,aT,Rat.le_refl,b1⟩
  ·exact⟨.inl rfl,Rat.le_refl,aT,a1⟩
 obtain⟨hi,WG,r1,r2,r3,qh⟩:∃hi,hi=(if q.2<p.2 then q.2 else p.2)∧(hi=p.2∨hi=q.2)∧hi<=p.2∧hi<=q.2∧SQ (u+u') hi:=by
  refine⟨_,rfl,?_⟩
  split
  ·exact⟨.inr rfl,aT,Rat.le_refl,b2⟩
  ·exact⟨.inl rfl,Rat.le_refl,aT,a2⟩
 rw [<-GW]at kM
 have uK:if eA (q.2.num*(p.2.den:Int)) (p.2.num*(q.2.den:Int))<0 then hi.num=q.2.num∧(hi.den:Int)=q.2.den else hi.num=p.2.num∧(hi.den:Int)=p.2.den:=by
  by_cases hh:q.2<p.2
  ·rw [if_pos (jC.2 hh),WG,if_pos hh];exact⟨rfl,rfl⟩
  ·rw [if_neg (fun h3=>hh (jC.1 h3)),WG,if_neg hh];exact⟨rfl,rfl⟩
 have kL:=dM ql.nL ql.dL qh.nL qh.dL aA (bI lo) (bI hi) ⟨ql.nL,ql.dL⟩ ⟨qh.nL,qh.dL⟩
 have zl:eA (lo.num*(hi.den:Int)) (hi.num*(lo.den:Int))<0↔lo<hi:=jC
 have hgN:ZX.N (gz f h)<=ZX.N f:=(fS f h).l.nP I.nf.ne
 have hD:aC 83 [Po (gz f h).l] (aB ((ZX.N (gz f h):Int)-1)):=nM (gz f h).l (by show ZX.N (gz f h)<_;omega)
 have key:=common I.nf I'.nf I.ND I'.ND aA aA A B c8 hlq l1 l2 l3 r1 r2 r3
 obtain⟨w1,S1⟩:=nU (h:=h) I.nf I.ND
 have sn:=S1.N
 have hg:=wT S1.ng.ne S1.sg aA
 have CS:=wT S1.nw.ne S1.sw aA
 have hv:vt (aO f) p.1=vt (aO f) p.2+1:=by
  rcases A.k with ⟨h,_⟩ | ⟨_,h⟩
  ·exact absurd h h1
  ·exact h
 have hH:eA (lo.num*(hi.den:Int)) (hi.num*(lo.den:Int))<0->(0:Int)<(ZX.N (gz f h):Int)-1->aC 195 [Po (gz f h).l,RT lo,RT hi] (.bool (decide (vt (aO (gz f h)) hi<vt (aO (gz f h)) lo))):=fun z1 z2=>by
  obtain⟨sg,ng,IGG,U6⟩:=IG aA
  have hlh:=zl.1 z1
  have c1:=S1.JO A.S hg CS (Rat.le_of_lt hlh)
  have m1:=CS.bU (Rat.le_of_lt hlh)
  have v1:=A.S.bU l2
  have v2:=A.S.bU r2
  exact acr IGG U6 hlh aA ql qh hU
 have hgc:vt (aO (gz f h)) hi<vt (aO (gz f h)) lo->lo<hi->2<=ZX.N (gz f h):=fun hz hlh=>Nat.not_lt.1 fun h2=>by
  obtain⟨d,hd,e⟩:=ZX.nO (x:=gz f h) (by have:=ZX.aH.1 S1.ng.ne;omega)
  rw [e]at hz hg
  have:=hg.const hlh (σ:=cP (d:Rat)) (.inr (by rw [CV])) (fun x _ _=>by rw [CV])
  omega
 by_cases pH:∀x,bN f p x↔bN h q x
 ·obtain⟨c1,c2⟩:=key.2 pH
  rw [acj.2 pH]
  have c3:=hgc c2 c1
  refine acz (v:=GA f p) (w:=GA h q) (hn:=hi.num) (hd:=(hi.den:Int)) Nx Ny P1 P2 kM kD uK kL (fun _=>hG) (fun _=>hD) hH (fun _=>rfl) (fun LS=>?_) ⟨_,_,_,_,rfl⟩ ⟨_,_,_,_,rfl⟩
  exact absurd ⟨zl.2 c1,aA,decide_eq_true c2⟩ LS
 ·have LS:¬(eA (lo.num*(hi.den:Int)) (hi.num*(lo.den:Int))<0∧(0:Int)<(ZX.N (gz f h):Int)-1∧decide (vt (aO (gz f h)) hi<vt (aO (gz f h)) lo)=true):=fun⟨z1,_,z3⟩=>pH (key.1 ⟨zl.1 z1,of_decide_eq_true z3⟩)
  obtain⟨M,R,hM1,hM2⟩:=NO (u:=u+u') (ad:=p.1.den) (bd:=p.2.den) (cd:=q.1.den) (dd:=q.2.den) I.ch.bz I'.ch.bz aA aA aA aA (Nat.lt_of_lt_of_le (kB (b:=2) aF p.1.num) (Nat.pow_le_pow_right aF a1.n2)) (Nat.lt_of_lt_of_le (kB (b:=2) aF p.2.num) (Nat.pow_le_pow_right aF a2.n2)) (Nat.lt_of_lt_of_le (kB (b:=2) aF q.1.num) (Nat.pow_le_pow_right aF b1.n2)) (Nat.lt_of_lt_of_le (kB (b:=2) aF q.2.num) (Nat.pow_le_pow_right aF b2.n2)) aA
  have zf:=E9 I.ch.bz
  have zh:=E9 I'.ch.bz
  have hMb:4*(ZX.N f+ZX.N h)*(zs f+zs h+(ZX.N f+ZX.N h)+8)<=4*16*(100000+100000+16+8):=Nat.mul_le_mul aA aA
  obtain⟨J,hJ,j2,hj⟩:=ajA a b pH c8 hlq hM1
  obtain⟨D,WQ,AG,g1,g2⟩:=E8 a1 a2
  obtain⟨D',aad,aae,g3,g4⟩:=E8 b1 b2
  have spec:=CF A B g1 g2 g3 g4
  have hV:3*(u+u')+M+2<=1000000000:=aA
  have sqj:=fun j (hjM:j<=M)=>apN (M:=M) WQ AG (spec j).2.2.2.2.1 (spec j).2.2.2.2.2.1 hjM
  have aAc:=fun j (hjM:j<=M)=>apN (M:=M) aad aae (spec j).2.2.2.2.2.2.1 (spec j).2.2.2.2.2.2.2 hjM
  obtain⟨J1,J2,_⟩:=sqj J aA
  obtain⟨J3,J4,_⟩:=aAc J aA
  have c1:=dM J2.nL J2.dL J3.nL J3.dL aA (bI (st f h p q J).1.2) (bI (st f h p q J).2.1) ⟨J2.nL,J2.dL⟩ ⟨J3.nL,J3.dL⟩
  have c2:=dM J4.nL J4.dL J1.nL J1.dL aA (bI (st f h p q J).2.2) (bI (st f h p q J).1.1) ⟨J4.nL,J4.dL⟩ ⟨J1.nL,J1.dL⟩
  have PJ:=mR (x:=f.l) J1 J2 hV
  have PJ':=mR (x:=h.l) J3 J4 hV
  obtain⟨s1,s2,s3,s4,_⟩:=spec J
  have hsJ:¬ ∀x,bN f (st f h p q J).1 x↔bN h (st f h p q J).2 x:=fun hh=>pH fun x=>((s3 x).symm.trans (hh x)).trans (s4 x)
  have both:∀ {z:Rat},(st f h p q J).1.2<=(st f h p q J).1.1->(st f h p q J).2.2<=(st f h p q J).2.1->(st f h p q J).1.1=z->(st f h p q J).2.1=z->False:=fun {z} e1 e2 e3 e4=>hsJ fun x=>by
   have i1:=s1.le
   have i2:=s2.le
   rw [lZ aT x,lZ aT x,e3,e4]
  have hc:(eA ((st f h p q J).1.2.num*((st f h p q J).2.1.den:Int)) ((st f h p q J).2.1.num*((st f h p q J).1.2.den:Int))<=0∧cu (bN f p) (bN h q) = -1)∨(0<eA ((st f h p q J).1.2.num*((st f h p q J).2.1.den:Int)) ((st f h p q J).2.1.num*((st f h p q J).1.2.den:Int))∧eA ((st f h p q J).2.2.num*((st f h p q J).1.1.den:Int)) ((st f h p q J).1.1.num*((st f h p q J).2.2.den:Int))<=0∧cu (bN f p) (bN h q)=1):=by
   rw [<-lU s3 s4]
   by_cases h3:(st f h p q J).1.2<=(st f h p q J).2.1
   ·exact .inl ⟨lT.2 h3,am5 (fun s t=>s1.up) fM (fun t=>lo_le s2) h3 hsJ⟩
   ·exact .inr ⟨iF.2 (Rat.not_le.1 h3),lT.2 (j2.resolve_left h3),am6 (fun s t=>s2.up) fM (fun t=>lo_le s1) (j2.resolve_left h3) hsJ⟩
  have W:=aas (an:=fun j=>(st f h p q j).1.1.num) (ad:=fun j=>(st f h p q j).1.1.den) (bn:=fun j=>(st f h p q j).1.2.num) (bd:=fun j=>(st f h p q j).1.2.den) (cn:=fun j=>(st f h p q j).2.1.num) (cd:=fun j=>(st f h p q j).2.1.den) (dn:=fun j=>(st f h p q j).2.2.num) (dd:=fun j=>(st f h p q j).2.2.den) R aA (fun j hjJ=>by
   obtain⟨J1,J2,J12⟩:=sqj j aA
   obtain⟨J3,J4,J34⟩:=aAc j aA
   obtain⟨m1,m2⟩:=not_or.1 (hj j hjJ)
   have c1:=dM J2.nL J2.dL J3.nL J3.dL aA (bI (st f h p q j).1.2) (bI (st f h p q j).2.1) ⟨J2.nL,J2.dL⟩ ⟨J3.nL,J3.dL⟩
   have c2:=dM J4.nL J4.dL J1.nL J1.dL aA (bI (st f h p q j).2.2) (bI (st f h p q j).1.1) ⟨J4.nL,J4.dL⟩ ⟨J1.nL,J1.dL⟩
   have d1:=NP (J2.LLs (Nat.le_refl _)) (J1.LLs (Nat.le_refl _)) aA
   have d2:=NP (J4.LLs (Nat.le_refl _)) (J3.LLs (Nat.le_refl _)) aA
   have w1:=(ajF WQ AG (spec j).2.2.2.2.1 (spec j).2.2.2.2.2.1).mono (show u+u'+1+2*(u+u')+j+1<=3*(u+u')+M+2 by omega)
   have w2:=(ajF aad aae (spec j).2.2.2.2.2.2.1 (spec j).2.2.2.2.2.2.2).mono (show u+u'+1+2*(u+u')+j+1<=3*(u+u')+M+2 by omega)
   have c3:=dM w1.nL w1.dL w2.nL w2.dL aA (bI ((st f h p q j).1.2-(st f h p q j).1.1)) (bI ((st f h p q j).2.2-(st f h p q j).2.1)) ⟨w1.nL,w1.dL⟩ ⟨w2.nL,w2.dL⟩
   have H1:=JP I aA (spec j).1 J1 J2 J12 hV
   have H2:=JP I' aA (spec j).2.1 J3 J4 J34 hV
   refine⟨⟨_,c1,iF.2 (Rat.not_le.1 m1)⟩,⟨_,c2,iF.2 (Rat.not_le.1 m2)⟩,_,_,_,_,_,d1,d2,c3,?_⟩
   have e1:st f h p q (j+1)=if (st f h p q j).2.2-(st f h p q j).2.1<=(st f h p q j).1.2-(st f h p q j).1.1 then(x8 f (st f h p q j).1,(st f h p q j).2)else((st f h p q j).1,x8 h (st f h p q j).2):=rfl
   by_cases hw:(st f h p q j).2.2-(st f h p q j).2.1<=(st f h p q j).1.2-(st f h p q j).1.1
   ·rw [if_pos hw]at e1
    rw [if_pos (Int.not_lt.1 fun hh=>absurd (jC.1 hh) (Rat.not_lt.2 hw)),e1]
    exact⟨H1,rfl⟩
   ·rw [if_neg hw]at e1
    rw [if_neg (Int.not_le.2 (jC.2 (Rat.not_le.1 hw))),e1]
    exact⟨H2,rfl⟩) hJ c1 c2 PJ PJ' (fun ⟨e1,e2,e3⟩=>both (of_decide_eq_true e1) (of_decide_eq_true e2) (z:=(st f h p q J).2.1) (by
   have i1:=s1.le
   have i4:=of_decide_eq_true e1
   have:=lS.1 e3
   grind) rfl) (fun ⟨e1,e2,e3⟩=>both (of_decide_eq_true e1) (of_decide_eq_true e2) (z:=(st f h p q J).1.1) rfl (by
   have i2:=s2.le
   have i4:=of_decide_eq_true e2
   have:=lS.1 e3
   grind)) hc
  refine acz (hn:=hi.num) (hd:=(hi.den:Int)) Nx Ny P1 P2 kM kD uK kL (fun _=>hG) (fun _=>hD) hH (fun hh=>absurd hh LS) (fun _=>W) ⟨_,_,_,_,rfl⟩ ⟨_,_,_,_,rfl⟩
end Go.Proofs.YtiobceocpabjdaaGreat
namespace Go.Proofs.YtiobceocpabjdaaGreat
open Go Pm
variable {n s:Nat}{a c:ZX}
theorem apO(a b:ZX):I8 [a,b]=gz a b:=by
 show gz (gz 0 a) b=_
 rw [U0,abQ]
theorem aAd(a:ZX):I8 [a]=nf a:=by
 show gz 0 a=_
 rw [U0]
theorem ajG{C:Nat}(ha:ZX.N a<=n)(hc:ZX.N c<=n)(h:(s+n+1)*2*4^n<=C):E2 C n s (nf a) (nf c):=by
 unfold E2
 rw [BU,BU]
 have h1:∀k,k<=n->(s+n+1)*2*4^k<=C:=fun k hk=>Nat.le_trans (Nat.mul_le_mul_left _ (Nat.pow_le_pow_right aF hk)) h
 split
 ·refine Nat.le_trans (Nat.mul_le_mul_right _ ?_) (h1 _ ha)
  omega
 ·exact h1 _ hc
structure Eu(s n:Nat):Prop where
 hn:n<=20
 hs:1<=s
 hC:(s+n+1)*2*4^n<=4500000000
theorem Eu.two(h:Eu s n)(ba:BZ s n a)(bc:BZ s n c):aC 142 [Po a.l,Po c.l] (Po (gz a c).l):=abV ba bc (ajG ba.N bc.N h.hC) h.hn (Nat.le_refl _)
theorem Eu.qg(h:Eu s n)(ba:BZ s n a)(bc:BZ s n c):aC 203 [PI a.l,PI c.l] (PI (gz a c).l):=DL ba bc (ajG ba.N bc.N h.hC) h.hn (Nat.le_refl _) h.hs
theorem am7(s n:Nat):BZ s n 0:=⟨Nat.zero_le _,fun c hc=>by cases hc⟩
theorem Eu.amI(h:Eu s n)(ba:BZ s n a)(bc:BZ s n c):aC 194 [.sl [[Po a.l],[Po c.l]]] (Po (gz a c).l):=by
 have:=amx [a,c] aG (fun i hi=>by
  match i,hi with
  | 0,_=>exact h.two (am7 s n) ba
  | 1,_ =>
   have e:I8 ([a,c].take 1)=nf a:=aAd a
   rw [e]
   have:=h.two ba.nf bc
   rw [show I8 ([a,c].take (1+1))=gz (nf a) c from by rw [abQ];exact apO a c]
   exact this)
 rw [apO]at this
 exact this
end Go.Proofs.YtiobceocpabjdaaGreat
namespace Go.Proofs.YtiobceocpabjdaaGreat
open Go Pm
open ZX hiding N W
variable {s n u k S:Nat}{f q:ZX}{p:Rat × Rat}{t:Rat}
theorem CG(I:nX s n f)(hs:s<=100000)(n8:ZX.N f<=8)(hp:p∈GI s n f):AN s n (uu s) f p∧AN s n (uu s) f (ex f p):=by
 obtain⟨a1,a2,a3,a4,a5,a6⟩:=I.ivs.mem _ hp
 obtain⟨_,_,b1,b2,b3⟩:=I.root hp
 have hb:=Q7 I.nf (VX I.ch.bz)
 have h1:Ab p.1 (2^(zs f+1)):=by obtain⟨x,y⟩:=hb;exact⟨aT,aT⟩
 have h2:Ab p.2 (2^(zs f+1)):=by obtain⟨x,y⟩:=hb;exact⟨aT,aT⟩
 have hu:uu s<=30000000:=by unfold uu;omega
 refine⟨⟨I,hs,⟨I.S, .inr ⟨a4,a6⟩⟩,a1,a2,hu,n8,fun _=>h1,fun _=>h2⟩,⟨I,hs,b1,b2,b3,hu,n8,fun _=>?_,fun _=>?_⟩⟩
 ·unfold ex
  split
  ·exact h2
  ·exact h1
 ·unfold ex
  split<;>exact h2
theorem acA(t:Rat):Nf (eG t):=by
 have hd:=t.den_pos
 refine⟨ZX.aH.2 (by rw [lA];decide),?_,?_⟩
 ·rw [uH]
  unfold bX
  simp only [List.foldl_cons,List.foldl_nil,Nat.gcd_zero_left,Int.natAbs_neg,Int.natAbs_natCast]
  exact t.reduced
 ·rw [uH]
  show 0<nth [-t.num,(t.den:Int)] 1
  show(0:Int)<(t.den:Int)
  omega
theorem ajH(t:Rat):wO (eG t) (cD (eG t)):=fun d _ h2=>by
 rw [ajm]at h2
 have hd:=t.den_pos
 have:=h2.nP (ZX.sE (show (t.den:Int)≠0 by omega))
 rwa [ZX.N_K (show (t.den:Int)≠0 by omega)]at this
theorem JS(sb:t.num.natAbs<=30∧((t.den:Int)).natAbs<=6)(hs:5<=s)(hn:2<=n)(h1:n<=20)(h2:n+1<=2^s)(h3:(qb s n+n+6)*4^n<=4500000000)(h4:s<=5000000):nX s n (eG t):=by
 have bz:BZ s n (eG t):=⟨by show ZX.N (eG t)<=_;rw [lA];exact hn,fun c hc=>by
  rw [uH]at hc
  simp only [List.mem_cons,List.not_mem_nil,or_false]at hc
  refine Nat.le_trans (oX (k:=5) ?_) hs
  rcases hc with rfl | rfl<;>omega⟩
 exact⟨⟨bz,h1,h2,h3⟩,aA,acA t,Q4 (acA t) (ajH t),h4⟩
theorem apP(I:nX s n f)(hs:s<=100000)(n8:ZX.N f<=8)(h0:e t f=0)(q:SQ u t)(hu:u<=30000000):AN s n u f (t,t)∧Ex f (t,t):=
 ⟨⟨I,hs,⟨I.S, .inl ⟨rfl,h0⟩⟩,q,q,hu,n8,fun h=>absurd h Rat.lt_irrefl,fun h=>absurd h Rat.lt_irrefl⟩,fun _=>rfl⟩
theorem wZ(t:Rat):e t (eG t)=0:=by rw [QN];grind
theorem ajI{l:List Int}{k:Int}(hl:l.length<9223372036854775808)(hk : -9223372036854775808<=k∧k<9223372036854775808):∃(f:ZX) (p:Rat × Rat),aC 30 [aJ aI l,aB k] (QA f (aO f) p)∧AN 59 5 7000 f p∧Ex f p∧ZX.N f<=5∧BZ 49 5 f:=by
 obtain⟨c,hc⟩:∃c,c=pks l (min l.length 5):=⟨_,rfl⟩
 have gS:c.length<=5:=by rw [hc,RB];omega
 have hcb:∀x∈c, -6<=x∧x<=6:=fun x hx=>by
  rw [hc]at hx
  simp only [pks,List.mem_map]at hx
  obtain⟨i,_,rfl⟩:=hx
  exact apM l i
 have hOf:=xH c aA (fun x hx=>by have:=hcb x hx;omega)
 rw [show aZ c=(ZX.of c).l from rfl,hc]at hOf
 have ba:BZ 3 5 (ZX.of c):=aiL (Nat.le_trans (cL c) gS) fun x hx=>by have:=hcb x (qI _ _ hx);omega
 have bx:∀y∈(ZX.of c).l,y.natAbs<=2^3:=fun y hy=>by have:=hcb y (qI _ _ hy);omega
 rw [<-hc]at hOf
 generalize ZX.of c=a at *
 have hS:=aeu k l.length hk aA
 have q5:=as8 k l.length
 have sb:=aiQ k l.length
 generalize sml k l.length=t at *
 rw [cU]at hS
 have It:=JS (s:=59) (n:=5) sb aF aF aF aF aF aF
 have hR:=yS (n:=t.num) (d:=t.den) aA aA (by have:=t.den_pos;omega) (uH t)
 rw [It.sq]at hR
 have aew:aC 41 [R2 t.num t.den] (.ag (eT (eG t).l (aO (eG t)) t.num t.den t.num t.den)):=by rw [uH];exact hR
 obtain⟨At,Et⟩:=apP (u:=7000) It aF (by rw [lA];decide) (wZ t) (q5.mono aF) aF
 have bt:BZ 49 5 (eG t):=⟨by show ZX.N (eG t)<=_;rw [lA];decide,fun c hc=>by
  rw [uH]at hc
  simp only [List.mem_cons,List.not_mem_nil,or_false]at hc
  refine Nat.le_trans (oX (k:=5) ?_) aF
  rcases hc with rfl | rfl<;>omega⟩
 have fin:∀ {r:PV},r = .ag (eT (eG t).l (aO (eG t)) t.num t.den t.num t.den)->aC 30 [aJ aI l,aB k] r -> ∃(f:ZX) (p:Rat × Rat),aC 30 [aJ aI l,aB k] (QA f (aO f) p)∧AN 59 5 7000 f p∧Ex f p∧ZX.N f<=5∧BZ 49 5 f:=fun {r} hr h=>⟨eG t,(t,t),by rw [hr]at h;exact h,At,Et,by rw [lA];decide,bt⟩
 have hNl:a.l.length=ZX.N a:=rfl
 have hal:a.l.length<=5:=ba.N
 by_cases h2:a.l.length<2
 ·refine fin rfl (DY (f:=eG t) (L:=[]) (C:=[]) hl hk (hc▸hOf) aA aF hS aew (fun h=>absurd h aA) ?_)
  rw [if_pos (.inl h2)]
 ·have h0:a≠0:=ZX.aH.2 aA
  have La:=aex ba
  have I:=ajj La h0 aF aF aF
  have hRo:=JN (uB La aF) (uD La h0 aF aF) I I.s1
  have nN:ZX.N (sq a)<=5:=I.ch.bz.N
  have bs:BZ 49 5 (sq a):=⟨nN,fun x hx=>by
   have:=aju (l:=3) (n:=5) (kG h0) I.nf (E7 h0).2 (h:=3) (fun d hd=>by
    have b1:=(La.bz.nf).lt d hd
    omega) (by rw [BU];exact ba.N) aF x hx
   exact dZ aF (Nat.lt_of_le_of_lt this aF)⟩
  have hlen:=xT I
  generalize iT:GI (qb 3 5) 5 (sq a)=L0 at *
  by_cases h3:L0 = []
  ·refine fin rfl (DY (f:=sq a) (L:=L0.map (ex (sq a))) (C:=[]) hl hk (hc▸hOf) aA (by rw [List.length_map];omega) hS aew (fun _=>hRo) ?_)
   rw [if_pos (.inr (by rw [h3];rfl))]
  ·have hW:=DY (f:=sq a) (L:=L0.map (ex (sq a))) (C:=[]) hl hk (hc▸hOf) aA (by rw [List.length_map];omega) hS aew (fun _=>hRo) rfl
   rw [if_neg (by rw [not_or];exact⟨h2,by simp [h3]⟩)]at hW
   have hLp:=List.length_pos_iff.2 h3
   have MG:=Int.emod_nonneg k (show (L0.length:Int)≠0 by omega)
   have hm2:=Int.emod_lt_of_pos k (show (0:Int)<L0.length by omega)
   have hj:(k%((L0.map (ex (sq a))).length:Int)).toNat<L0.length:=by rw [List.length_map];omega
   generalize (k%((L0.map (ex (sq a))).length:Int)).toNat=j at *
   have hn:nth (L0.map (ex (sq a))) j=ex (sq a) (nth L0 j):=by rw [bZ (by rw [List.length_map];exact hj),List.getElem_map,bZ hj]
   rw [hn]at hW
   have A:=(CG I aF aA (p:=nth L0 j) (by rw [iT];exact bO hj)).2
   exact⟨sq a,ex (sq a) (nth L0 j),hW,⟨A.I,A.hs,A.A,A.q1.mono aF,A.q2.mono aF,aF,A.n8,A.b1,A.b2⟩,apK _ _,nN,bs⟩
structure SzC(s n S k:Nat):Prop where
 h1:(qb (qb s n) n+n+6)*4^n<=4500000000
 h2:qb s n<=1000000
 hE:(max s (S+5*k)+max n k+1)*2*4^max n k<=4500000000
 hL:(qb (S+5*k) k+k+6)*4^k<=4500000000
 hk:1<=k
 h8:k<=8
 hS:k+1<=2^(S+5*k)
 hS2:S+5*k<=100000
theorem SzC.lay(z:SzC s n S k)(bq:BZ (S+5*k) k q):tY (S+5*k) k q:=⟨bq,by have:=z.h8;omega,z.hS,z.hL⟩
theorem SzC.s1(z:SzC s n S k):1<=S+5*k:=by have:=z.hk;omega
theorem SzC.eu(z:SzC s n S k)(hn:n<=20):Eu (max s (S+5*k)) (max n k):=⟨by have:=z.h8;omega,by have:=z.s1;omega,z.hE⟩
section
variable {s n u S k:Nat} {f:ZX} {p:Rat × Rat} (a:AN s n u f p) (z:SzC s n S k)
include a z
theorem AN.sgC(bq:BZ (S+5*k) k q):SgC (S+5*k) k f q:=by
 have I:=a.I
 have L:=z.lay bq
 have E:=z.eu I.ch.hn
 refine⟨bq,z.hS2,by have:=z.h8;omega,by have:=bq.N;have:=z.h8;omega,E.amI (bq.mono aA aA) (I.ch.bz.mono aA aA),fun _=>⟨_,_,RA I q z.h1 (by have:=z.h2;omega),z.h2⟩,fun h0=>⟨_,_,L.ch h0 z.hk⟩,fun h0=>QJ (zN L) (L.ch h0 z.hk) (E7 h0).1⟩
theorem AN.qgC(bq:BZ (S+5*k) k q):QgC (S+5*k) k f q:=by
 have I:=a.I
 have L:=z.lay bq
 have E:=z.eu I.ch.hn
 refine⟨bq,z.hS2,by have:=z.h8;omega,by have:=bq.N;have:=z.h8;omega,E.qg (bq.mono aA aA) (I.ch.bz.mono aA aA),fun _=>⟨_,_,RA I q z.h1 (by have:=z.h2;omega)⟩,fun h0=>⟨_,_,L.ch h0 z.hk⟩,fun h0=>uD L h0 z.hk z.s1⟩
end
theorem AN.sg0(a:AN s n u f p):sgU (bN f p) 0=0:=(show WR (bN f p) 0 0 from .inl ⟨rfl,CC (dE a.A)⟩).eq (dE a.A)
noncomputable def afU(U:Rat->Prop)(q:ZX):Int:=RY (sgU U) (ZX.N q) q
section
variable {s n u S k:Nat} {f:ZX} {p:Rat × Rat} (a:AN s n u f p) (z:SzC s n S k) {q:ZX} (bq:BZ S k q)
include a z bq
theorem AN.at:aC 185 [Po q.l,GA f p] (aB (afU (bN f p) q)):=
 am1 (sgU (bN f p)) a.sg0 bq (by have:=z.h8;omega) (by have:=z.hS2;omega) fun r s' CO br=>a.sg (a.sgC z (br.mono CO (Nat.le_refl _)))
theorem AN.atw(hx:Ex f p):aC 115 [PI q.l,QA f (aO f) p] (aB (afU (bN f p) q)):=
 aaq (sgU (bN f p)) a.sg0 bq (by have:=z.h8;omega) (by have:=z.hS2;omega) fun r s' CO br=>a.qsg hx (a.qgC z (br.mono CO (Nat.le_refl _)))
end
theorem ajJ{x:List Int}{c:List ZX}{an ad bn bd:Int}(hT:aC 100 [PI x] (Po x))(h1:aC 23 [R2 an ad] (T2 an ad))(h2:aC 23 [R2 bn bd] (T2 bn bd)):aC 29 [.ag (eT x c an ad bn bd)] (.ag (G9 x an ad bn bd)):=by
 simp only [eT,G9]
 apply cG [(0, .ag (eT x c an ad bn bd))] Tryz.func29
 apply kR [1,2]
 apply kZ hT
 apply fV h1 h2
 (try (refine aY (of_decide_eq_true cT) ?_));(try simp (maxSteps:=4000000) (disch:=omega) [gw]);(repeat rw [if_pos cT]);(try simp (maxSteps:=4000000) (disch:=omega) [gw])
 exact pJ [2]
theorem AN.toA(a:AN s n u f p):aC 29 [QA f (aO f) p] (GA f p):=by
 have hu:=a.hu
 have h1:=a.q1.tor (show u<=137438953472 by omega)
 have h2:=a.q2.tor (show u<=137438953472 by omega)
 rw [cU]at h1 h2
 exact ajJ (GG a.I.ch.bz (by have:=a.hs;omega) (by have:=a.I.ch.hn;omega)) h1 h2
end Go.Proofs.YtiobceocpabjdaaGreat
