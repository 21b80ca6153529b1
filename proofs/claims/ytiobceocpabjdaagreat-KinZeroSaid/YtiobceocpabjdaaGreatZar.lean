import Derived.Test.YtiobceocpabjdaaGreatZaq
set_option linter.unusedSimpArgs false
set_option linter.unusedVariables false
namespace Go.Proofs.YtiobceocpabjdaaGreat
open Go Pm
open ZX hiding N W
theorem ako{a b:ZX}(na:Nf a)(nb:Nf b)(hd:dv b a){h n l:Nat}(hH:∀d∈a.l,d.natAbs≤2^h)(hN:ZX.N a≤n)(hn:n≤2^l):∀c∈b.l,c.natAbs≤2^(h+n*(2*l+3)):=by
 obtain⟨w,_,e⟩:=na.quo nb hd
 exact adl na.ne e hH hN hn
theorem J6{z n:Nat}{f:ZX}(nf:Nf f)(bz:BZ z n f):Ab (g9 f.l) (2^(z+1)):=by
 have f0:=uI nf.ne
 have h1:=JQ f.c f0
 have hl:=dA f.c (List.length_pos_iff.2 f0)
 have hL:(1:Rat)≤(((lead f.l).natAbs:Int):Rat):=eH (by omega)
 have h2:=Rat.div_mul_cancel (a:=((pI f.l (f.l.length-1):Int):Rat)) (b:=(((lead f.l).natAbs:Int):Rat)) (by grind)
 have h3:(1:Rat)≤g9 f.l:=(mQ f.c f0 (t:=g9 f.l) (.inr Rat.le_refl)).2
 have h4:((pI f.l (f.l.length-1):Int):Rat)≤2^z:=by
  have h5:=iS (b:=2) (by decide) (pI f.l (f.l.length-1))
  have h6:=Nat.pow_le_pow_right (show 0<2 by decide) (DO bz (f.l.length-1))
  exact(G0 (s:=z) (by omega)).2
 have h7:=p7 z
 rw [Rat.pow_succ]
 generalize (2:Rat)^z=T at *
 generalize ((pI f.l (f.l.length-1):Int):Rat)=m at *
 have hw:m/(((lead f.l).natAbs:Int):Rat)≤T:=by
  refine Rat.not_lt.1 fun h=>?_
  have h8:=Rat.mul_le_mul_of_nonneg_left hL (show 0≤m/(((lead f.l).natAbs:Int):Rat)by grind)
  grind
 exact⟨by grind,by grind⟩
section
variable {f:ZX} {v:Rat→Nat} {lo hi:Rat} (nf:Nf f) (A:s8 f v lo hi)
include nf A
theorem J7{t:Rat}:(jE v lo hi t → -g9 f.l<t)∧(¬jE v lo hi t→t<g9 f.l):=by
 have f0:=uI nf.ne
 have akp:∀ {a b:Rat},a<b→b ≤ -g9 f.l→v a=v b:=fun fK hb=>A.S.bg ⟨1,by decide,fun x _ h2=>(mQ f.c f0 (.inl (by grind))).1⟩ fK
 have akq:∀ {a b:Rat},a<b→g9 f.l≤a→v a=v b:=fun fK hb=>A.S.bg ⟨1,by decide,fun x h1 _=>(mQ f.c f0 (.inr (by grind))).1⟩ fK
 have pt:e lo f=0→¬j7 (g9 f.l) lo:=fun h0 hb=>by
  have h1:=(mQ f.c f0 hb).1
  rw [show qv lo f.l=e lo f from rfl,h0]at h1
  rcases h1 with h1 | h1<;>exact absurd h1 (by decide)
 constructor
 ·refine fun h=>Rat.not_le.1 fun ht=>?_
  rcases A.k with ⟨h1,h2⟩ | ⟨h1,h2⟩
  ·refine pt h2 (.inl ?_)
   rcases h with h | ⟨h,h3⟩
   ·grind
   ·grind
  ·rcases h with h | ⟨h,h3⟩
   ·have:=akp h1 (by grind);omega
   ·have:=akp h ht;omega
 ·refine fun h=>Rat.not_le.1 fun ht=>?_
  have h0:t<hi:=Rat.not_le.1 fun h1=>h (.inl h1)
  rcases A.k with ⟨h1,h2⟩ | ⟨h1,h2⟩
  ·exact pt h2 (.inr (by grind))
  ·by_cases h3:t≤lo
   ·have:=akq h1 (by grind);omega
   ·have h4:v lo≤v t:=Nat.not_lt.1 fun h4=>h (.inr ⟨by grind,h4⟩)
    have:=akq h0 ht
    omega
theorem aet:2≤ZX.N f:=Nat.not_lt.1 fun h=>by
 have:=ZX.aE.1 nf.ne
 obtain⟨c,hc,rfl⟩:=ZX.lA (x:=f) (by omega)
 have hcq:(c:Rat)≠0:=fun h0=>hc (Rat.intCast_eq_zero_iff.1 h0)
 rcases A.k with ⟨_,h2⟩ | ⟨h1,h2⟩
 ·rw [zV]at h2;exact hcq h2
 ·have:=A.S.const h1 (σ:=bZ (c:Rat)) (.inr (by rw [zV])) (fun x _ _=>by rw [zV])
  omega
end
theorem fT{f:ZX}{v:Rat→Nat}{lo hi:Rat}(A:s8 f v lo hi):Num (jE v lo hi):=⟨fun _ _ h h'=>A.up h h',⟨lo-1,A.oN (.inl (by grind))⟩,⟨hi,kU⟩⟩
def se(s r n m β:Nat):Nat:=6*(n+m)+(s+n*9)*m+r*n+(n+m)*(β+2)+2
theorem TE{f h g w:ZX}(S:oO f h g w)(nf:Nf f)(nh:Nf h)(ch:wN h (bT h)){s r n m β:Nat}(hA:∀c∈f.l,c.natAbs≤2^s)(hB:∀c∈h.l,c.natAbs≤2^r)(hn:ZX.N f≤n)(hm:ZX.N h≤m)(n8:n≤8)(m8:m≤8)
  {a b:Rat} (ha:Ab a (2^β)) (hb:Ab b (2^β)) (fK:a<b) (hd:(b-a)*2^se s r n m β≤1):vt (bK w) a=vt (bK w) b∨vt (bK h) a=vt (bK h) b:=by
 have n1:=S.N
 have Sw:=ON S.nw.ne S.sw (by omega)
 have Sh:=ON nh.ne ch (by omega)
 refine WB Sw Sh S.wh (s:=s+n*9) (r:=r) (l:=4) (β:=β) (ako nf S.nw (by rw [S.eq];exact(dv.refl w).mul_right _) hA hn (show n≤2^3 by omega)) hB (by omega) ha hb fK (DP hd ?_)
 unfold se sx
 have h1:(s+n*9)*ZX.N h≤(s+n*9)*m:=Nat.mul_le_mul_left _ hm
 have h2:r*ZX.N w≤r*n:=Nat.mul_le_mul_left _ (by omega)
 have h3:(ZX.N w+ZX.N h)*(β+2)≤(n+m)*(β+2):=Nat.mul_le_mul_right _ (by omega)
 omega
theorem ah0{f h:ZX}{p q:Rat × Rat}(nf:Nf f)(nh:Nf h)(cf:wN f (bT f))(ch:wN h (bT h))(A:s8 f (vt (bK f)) p.1 p.2)(B:s8 h (vt (bK h)) q.1 q.2){s r n m β K:Nat}(hA:∀c∈f.l,c.natAbs≤2^s)(hB:∀c∈h.l,c.natAbs≤2^r)(hn:ZX.N f≤n)(hm:ZX.N h≤m)(n8:n≤8)(m8:m≤8)
  (k1:se s r n m β≤K) (k2:se r s m n β≤K) (k3:lk s n 3 β≤K∨lk r m 3 β≤K) {S E:Rat} (hS:Ab S (2^β)) (hE:Ab E (2^β)) (a1:¬dI f p S) (a2:dI f p E) (b1:¬dI h q S) (b2:dI h q E) (hd:(E-S)*2^K≤1):∀x,dI f p x↔dI h q x:=by
 have hSE:=(fT A).lt a1 a2
 obtain⟨w1,S1⟩:=uR (h:=h) nf cf
 obtain⟨w2,S2⟩:=uR (h:=f) nh ch
 rw [←I9]at S2
 have n1:=S1.N
 have n2:=S2.N
 have hg:=ON S1.ng.ne S1.sg (by omega)
 have X4:=ON S1.nw.ne S1.sw (by omega)
 have hw2:=ON S2.nw.ne S2.sw (by omega)
 have o1:=oP A a1 a2 hSE
 have o2:=oP B b1 b2 hSE
 have c1:=S1.O5 A.S hg X4 (Rat.le_of_lt hSE)
 have c2:=S2.O5 B.S hg hw2 (Rat.le_of_lt hSE)
 have e1:=(TE S1 nf nh ch hA hB hn hm n8 m8 hS hE hSE (DP hd k1)).resolve_right (by omega)
 have e2:=(TE S2 nh nf cf hB hA hm hn m8 n8 hS hE hSE (DP hd k2)).resolve_right (by omega)
 have sZ:∀ {x:ZX} {s n:Nat},s7 x (vt (bK x))→(∀c∈x.l,c.natAbs≤2^s)→ZX.N x≤n→n≤8→lk s n 3 β≤K→vt (bK x) S≤vt (bK x) E+1:=fun {x s n} hx hA hN h8 hk=>by
  obtain⟨L,G,e⟩:=hx.g
  obtain⟨g1,_⟩:=xZ G (s:=s) (n:=n) (l:=3) (β:=β) hx.ne hA hN (by omega) hx.Z4 (δ:=E-S) (DP hd hk)
  have:=g1.turns S E hS hE hSE Rat.le_refl
  rw [e]
  rcases SZ x S E with h5 | h5<;>omega
 have m0:=hg.cR (Rat.le_of_lt hSE)
 have hv:vt (bK f) S≤vt (bK f) E+1∧vt (bK h) S≤vt (bK h) E+1:=by
  rcases k3 with k3 | k3
  ·have:=sZ A.S hA hn n8 k3;omega
  ·have:=sZ B.S hB hm m8 k3;omega
 exact OO A B S1 S2 hg X4 hw2 hSE a1 a2 b1 b2 hv.1 hv.2 (by omega)
theorem G2{s r n m z:Nat}(n2:2≤n)(m2:2≤m)(n8:n≤8)(m8:m≤8)(hs:z≤s)(hr:z≤r):2*se s r n m (z+2)+2*(s+r)+9≤64+4*(n+m)*(s+r+(n+m)+8):=by
 have e1:4*(n+m)*(s+r+(n+m)+8)=4*(n*s)+4*(n*r)+4*(m*s)+4*(m*r)+4*(n*n)+8*(n*m)+4*(m*m)+32*n+32*m:=by grind
 have e2:se s r n m (z+2)=6*(n+m)+m*s+9*(n*m)+n*r+n*z+m*z+4*n+4*m+2:=by unfold se;grind
 have h1:n*z≤n*s:=Nat.mul_le_mul_left _ hs
 have h2:m*z≤m*r:=Nat.mul_le_mul_left _ hr
 have h3:n*m≤8*m:=Nat.mul_le_mul_right _ n8
 have h4:2*(n*m)≤n*n+m*m:=by
  rcases Nat.le_total n m with h | h
  ·obtain⟨d,rfl⟩:=Nat.exists_eq_add_of_le h;grind
  ·obtain⟨d,rfl⟩:=Nat.exists_eq_add_of_le h;grind
 have h5:2*s≤n*s:=Nat.mul_le_mul_right _ n2
 have h6:2*r≤m*r:=Nat.mul_le_mul_right _ m2
 omega
theorem lk3(s n:Nat):lk s n 3 (s+2)=5*(n*s)+30*n+s+6:=by unfold lk sk;grind
theorem G3{s r n m:Nat}(n2:2≤n)(m2:2≤m)(n8:n≤8)(hsr:s≤r)(hm:3≤m∨n≤2):2*lk s n 3 (s+2)+2*(s+r)+9≤64+4*(n+m)*(s+r+(n+m)+8):=by
 have e1:4*(n+m)*(s+r+(n+m)+8)=4*(n*s)+4*(n*r)+4*(m*s)+4*(m*r)+4*(n*n)+8*(n*m)+4*(m*m)+32*n+32*m:=by grind
 obtain⟨d,rfl⟩:=Nat.exists_eq_add_of_le hsr
 rw [e1,lk3,Nat.mul_add n,Nat.mul_add m]
 have h1:n*s≤8*s:=Nat.mul_le_mul_right _ n8
 have h5:2*s≤m*s:=Nat.mul_le_mul_right _ m2
 have h6:2*d≤m*d:=Nat.mul_le_mul_right _ m2
 have h7:2*n≤n*n:=Nat.mul_le_mul_right _ n2
 have h8:2*n≤n*m:=by rw [Nat.mul_comm n];exact Nat.mul_le_mul_right _ m2
 rcases hm with hm | hm
 ·have h9:3*s≤m*s:=Nat.mul_le_mul_right _ hm
  have h10:3*n≤n*m:=by rw [Nat.mul_comm n];exact Nat.mul_le_mul_right _ hm
  omega
 ·have h9:n*s≤2*s:=Nat.mul_le_mul_right _ hm
  omega
theorem G4{s r n m:Nat}(n2:2≤n)(n8:n≤8)(hsr:s≤r)(hm:m=2):2*lk r m 3 (s+2)+2*(s+r)+9≤64+4*(n+m)*(s+r+(n+m)+8):=by
 subst hm
 have e1:4*(n+2)*(s+r+(n+2)+8)=4*(n*s)+4*(n*r)+8*s+8*r+4*(n*n)+48*n+80:=by grind
 have e2:lk r 2 3 (s+2)=5*r+6*s+66:=by unfold lk sk;omega
 have h5:2*s≤n*s:=Nat.mul_le_mul_right _ n2
 have h6:2*r≤n*r:=Nat.mul_le_mul_right _ n2
 have h7:2*n≤n*n:=Nat.mul_le_mul_right _ n2
 omega
theorem aeu{s r n m:Nat}(n2:2≤n)(m1:1≤m)(n8:n≤8)(m8:m≤8):se s (r+m*9) n m (s+1)+s+2≤64+4*(n+m)*(s+r+(n+m)+8):=by
 have e1:4*(n+m)*(s+r+(n+m)+8)=4*(n*s)+4*(n*r)+4*(m*s)+4*(m*r)+4*(n*n)+8*(n*m)+4*(m*m)+32*n+32*m:=by grind
 have e2:se s (r+m*9) n m (s+1)=6*(n+m)+m*s+18*(n*m)+n*r+n*s+m*s+3*n+3*m+2:=by unfold se;grind
 have h3:n*m≤8*m:=Nat.mul_le_mul_right _ n8
 have h4:2*(n*m)≤n*n+m*m:=by
  rcases Nat.le_total n m with h | h
  ·obtain⟨d,rfl⟩:=Nat.exists_eq_add_of_le h;grind
  ·obtain⟨d,rfl⟩:=Nat.exists_eq_add_of_le h;grind
 have h5:2*s≤n*s:=Nat.mul_le_mul_right _ n2
 omega
theorem WK(q:ZX)(x0:Rat){ε:Rat}(hε:0<ε):∃r:Rat,0<r ∧ ∀x,x0-r≤x→x≤x0+r→Ab (e x q-e x0 q) ε:=by
 obtain⟨B,hB,ha,hb⟩:=kT (x0-1) (x0+1)
 obtain⟨Q,hQ,hl⟩:=lip q B hB
 have e1:ε/Q*Q=ε:=Rat.div_mul_cancel (Rat.ne_of_gt hQ)
 obtain⟨r,hr,h1,h2⟩:=min2 (show (0:Rat)<1 by decide) ((Rat.lt_div_iff hQ).2 (show 0*Q<ε by grind))
 have hrQ:r*Q≤ε:=by have:=Rat.mul_le_mul_of_nonneg_right h2 (Rat.le_of_lt hQ);grind
 have o7:Ab x0 B:=cK ha hb (by grind) (by grind)
 refine⟨r,hr,fun x h3 h4=>?_⟩
 have hx:Ab x B:=cK ha hb (by grind) (by grind)
 by_cases h:x0≤x
 ·have h5:=hl x0 x o7 hx h
  refine h5.mono ?_
  have:=Rat.mul_le_mul_of_nonneg_right (show x-x0≤r by grind) (Rat.le_of_lt hQ)
  grind
 ·have h5:=(hl x x0 hx o7 (by grind)).mono (show (x0-x)*Q≤ε by
   have:=Rat.mul_le_mul_of_nonneg_right (show x0-x≤r by grind) (Rat.le_of_lt hQ)
   grind)
  obtain⟨p1,p2⟩:=h5
  exact⟨by grind,by grind⟩
theorem aok{x y ε:Rat}(hε:0<ε)(h:j7 (ε+ε) x)(r8:Ab (y-x) ε):bZ y=bZ x∧j7 ε y:=by
 obtain⟨p1,p2⟩:=r8
 rcases h with h | h
 ·exact⟨by rw [gI (show x<0 by grind),gI (by grind)], .inl (by grind)⟩
 ·exact⟨by rw [eM (show 0<x by grind),eM (by grind)], .inr (by grind)⟩
theorem aev{U:Rat→Prop}{x0:Rat}(hU:∀t,U t↔x0≤t)(q:ZX):SgU U q (bZ (e x0 q)):=by
 have lo:∀ {r:Rat},0<r→¬U (x0-r):=fun hr h=>by have:=(hU _).1 h;grind
 have hi:∀ {r:Rat},0<r→U (x0+r):=fun hr=>(hU _).2 (by grind)
 by_cases h0:e x0 q=0
 ·refine .inl ⟨by rw [h0,jD],fun ε hε=>?_⟩
  obtain⟨r,hr,h⟩:=WK q x0 hε
  refine⟨x0-r,x0+r,lo hr,hi hr,fun x h1 h2=>?_⟩
  have:=h x h1 h2
  rwa [h0,show e x q-0=e x q by grind]at this
 ·have hs:bZ (e x0 q)=1∨bZ (e x0 q) = -1:=by
   rcases cY (e x0 q)with ⟨_,h⟩ | ⟨h,_⟩ | ⟨_,h⟩
   ·exact .inr h
   ·exact absurd h h0
   ·exact .inl h
  obtain⟨ε,hε,hb⟩:∃ε:Rat,0<ε∧j7 (ε+ε) (e x0 q):=by
   by_cases h:0≤e x0 q
   ·exact⟨e x0 q/2,by grind, .inr (by grind)⟩
   ·exact⟨-(e x0 q)/2,by grind, .inl (by grind)⟩
  obtain⟨r,hr,h⟩:=WK q x0 hε
  exact .inr ⟨hs,ε,x0-r,x0+r,hε,lo hr,hi hr,fun x h1 h2=>aok hε hb (h x (Rat.le_of_lt h1) h2)⟩
theorem auQ{r q:ZX}(hr:oL r)(q0:q≠0)(h:dv r q):dv r (sq q):=by
 obtain⟨nf,hf⟩:=mC q0
 have p1:r^1=r:=by rw [pow_succ',eK];grind
 have h1:=(jA hr q0 (k:=1)).2 (by rw [p1];exact h)
 have h2:=(jA hr nf.ne (k:=1)).1 (by rw [hf r hr];omega)
 rwa [p1]at h2
theorem wN.auR{w q:ZX}(q0:q≠0)(h:wN w (sq q)):wN w q:=fun d h1 h2=>Nat.not_lt.1 fun hd=>by
 obtain⟨r,hr,hrd⟩:=nE _ d (Nat.le_refl _) (by omega)
 have:=h r (hrd.trans h1) (auQ hr q0 (hrd.trans h2))
 have:=hr.deg
 omega
theorem auS{f q:ZX}(nf:Nf f)(hf:sq f=f)(q0:q≠0):gz f (sq q)=gz q f:=by
 obtain⟨nq,hq⟩:=mC q0
 refine Nf.rV (GN (.inl nf.ne)) (GN (.inl q0)) fun p hp=>?_
 rw [(fG f (sq q)).mu nf.ne nq.ne hp,(fG q f).mu q0 nf.ne hp,hq p hp]
 have:=(mC nf.ne).2 p hp
 rw [hf]at this
 omega
section
variable {f h g w:ZX} {v γ φ:Rat→Nat} {lo hi:Rat} (A:s8 f v lo hi) (S:oO f h g w) (Sg:s7 g γ) (Sw:s7 w φ)
include A S Sg Sw
theorem azE(dN:lo<hi)(hγ:γ hi<γ lo):TD (jE v lo hi) g:=by
 have hv:v lo=v hi+1:=by
  rcases A.k with ⟨h,_⟩ | ⟨_,h⟩
  ·rw [h]at dN;exact absurd dN Rat.lt_irrefl
  ·exact h
 refine OS (fT A) Sg (A.oN (.inr ⟨rfl,dN⟩)) kU fun s t h1 h2 h3 h4=>?_
 have iQ:=(fT A).lt h3 h4
 have c0:=S.O5 A.S Sg Sw (Rat.le_of_lt dN)
 have c1:=S.O5 A.S Sg Sw (Rat.le_of_lt iQ)
 have o:=oP A h3 h4 iQ
 have m1:=Sw.cR h1
 have m2:=Sw.cR (Rat.le_of_lt iQ)
 have m3:=Sw.cR h2
 have m4:=Sg.cR h1
 have m5:=Sg.cR (Rat.le_of_lt iQ)
 have m6:=Sg.cR h2
 omega
theorem azF(dN:lo<hi)(hγ:γ lo=γ hi):TD (jE v lo hi) w:=by
 refine OS (fT A) Sw (A.oN (.inr ⟨rfl,dN⟩)) kU fun s t h1 h2 h3 h4=>?_
 have iQ:=(fT A).lt h3 h4
 have c1:=S.O5 A.S Sg Sw (Rat.le_of_lt iQ)
 have o:=oP A h3 h4 iQ
 have m4:=Sg.cR h1
 have m5:=Sg.cR (Rat.le_of_lt iQ)
 have m6:=Sg.cR h2
 omega
theorem aol{q:ZX}(dN:lo<hi)(hγ:γ lo=γ hi)(q0:q≠0)(hh:h=sq q)(hN:ZX.N (sq q)≤20)(Sq:s7 (sq q) (vt (bK (sq q))))(hη:vt (bK (sq q)) lo=vt (bK (sq q)) hi):SgU (jE v lo hi) q (bZ (e hi q)):=by
 obtain⟨nf,hf⟩:=mC q0
 have hw:wN w q:=wN.auR q0 (hh▸S.wh)
 have k:=WH nf Sq.Z4 Sq hN dN hη _ q (Nat.le_refl _) q0 (fun r hr=>by rw [hf r hr];exact Nat.le_refl _)
 obtain⟨B,hB,ha,hb⟩:=kT lo hi
 obtain⟨ε,hε,hs⟩:=auB S.nw.ne q0 hw B
 obtain⟨s,t,h1,h2,h3⟩:=azF A S Sg Sw dN hγ (ε/2) (by grind)
 obtain⟨a,b,k1,k2,k3,k4,k5,k6,k7⟩:=(fT A).inter h1 h2 (A.oN (.inr ⟨rfl,dN⟩)) (kU (v:=v) (lo:=lo) (hi:=hi))
 have hs3:bZ (e hi q)=1∨bZ (e hi q) = -1:=by
  have h4:=(k hi dN Rat.le_refl).1
  rcases cY (e hi q)with ⟨_,h⟩ | ⟨h,_⟩ | ⟨_,h⟩
  ·exact .inr h
  ·exact absurd h h4
  ·exact .inl h
 refine .inr ⟨hs3,ε,a,b,hε,k1,k2,fun x hx hy=>⟨(k x (by grind) (by grind)).2,?_⟩⟩
 refine(hs x (cK ha hb (by grind) (by grind))).resolve_left fun h4=>?_
 obtain⟨p1,p2⟩:=h3 x (by grind) (by grind)
 rcases h4 with h4 | h4<;>grind
end
theorem akr{q:ZX}(q0:q≠0):wN (sq q) (bT (sq q)):=fun d h1 h2=>by
 have h3:=(fG (sq q) (bT (sq q))).least h1 h2
 rw [V4 q0]at h3
 have:=h3.nD ZX.xP
 rwa [ZX.GK]at this
theorem G5{n k:Nat}(h:n<2^k):0≤bl (aU LL n)∧bl (aU LL n)≤k∧n<2^(bl (aU LL n)).toNat:=by
 have hV:=kH gF n
 have hL:=fI gF n
 have hc:=jX gF n
 generalize aU LL n=l at *
 unfold bl
 by_cases h0:l = []
 ·subst h0
  simp [V]at hV
  rw [if_pos rfl]
  exact⟨by omega,by omega,by simp;omega⟩
 ·rw [if_neg h0]
  have hl:=List.length_pos_iff.2 h0
  obtain⟨j,hj⟩:∃j,l.length=j+1:=⟨l.length-1,by omega⟩
  rw [hj,show j+1-1=j by omega]
  have e:=bF (l:=l) (i:=j) (by omega)
  rw [List.take_of_length_le (by omega)]at e
  have ht:=hL.nth (i:=j) (by omega)
  have hVt:=oY (b:=(LL:Int)) (by decide) (hL.take j)
  have Q8:V (LL:Int) l=V (LL:Int) (l.take j)+(LL:Int)^j*nth l j:=by
   conv=>lhs;rw [e]
   rw [dZ,show(l.take j).length=j by rw [List.length_take];omega]
   simp [V]
  have WT:=lG (b:=(LL:Int)) (by decide) hL hc h0
  rw [hj,show j+1-1=j by omega]at WT
  rw [show(l.take j).length=j by rw [List.length_take];omega]at hVt
  have eP:((LL:Int)^j)=((2^(32*j):Nat):Int):=by
   rw [Nat.pow_mul,Int.natCast_pow]
  rw [eP]at hVt Q8 WT
  have hnl:=nX (n:=(nth l j).toNat) (k:=nb (nth l j).toNat)
  have hnk:=nX (n:=(nth l j).toNat) (k:=k-32*j)
  have hT:=hnl.1 (Nat.le_refl _)
  have e3:(32*(((j+1:Nat):Int)-1)+((nb (nth l j).toNat:Nat):Int)).toNat=32*j+nb (nth l j).toNat:=by omega
  have hP:=Nat.two_pow_pos (32*j)
  have hkj:32*j<k:=Nat.not_le.1 fun hh=>by
   have:=Nat.pow_le_pow_right (show 0<2 by decide) hh
   omega
  have e4:2^(32*j)*2^(k-32*j)=2^k:=by rw [←Nat.pow_add,show 32*j+(k-32*j)=k by omega]
  have hV0:0≤V (LL:Int) (l.take j):=bL (by decide) (hL.take j)
  refine⟨by omega,?_,?_⟩
  ·have:(nth l j).toNat<2^(k-32*j):=Nat.not_le.1 fun hh=>by
    have h2:=Nat.mul_le_mul_left (2^(32*j)) hh
    have h3:((2^(32*j):Nat):Int)*nth l j=((2^(32*j)*(nth l j).toNat:Nat):Int):=by rw [Int.natCast_mul];congr 1;omega
    omega
   have:=hnk.2 this
   omega
  ·rw [e3,Nat.pow_add]
   have h2:2^(32*j)*((nth l j).toNat+1)≤2^(32*j)*2^nb (nth l j).toNat:=Nat.mul_le_mul_left _ hT
   have h3:((2^(32*j):Nat):Int)*nth l j=((2^(32*j)*(nth l j).toNat:Nat):Int):=by rw [Int.natCast_mul];congr 1;omega
   rw [Nat.mul_add,Nat.mul_one]at h2
   omega
theorem r6{x:Int}{k:Nat}(h:x.natAbs<2^k)(hk:k≤1000000000):aF env.P 257 [us (aU LL x.natAbs)] (.int .i64 (bl (aU LL x.natAbs))):=by
 have h1:=MF (aU LL x.natAbs) ⟨fI gF _,by
  have h2:x.natAbs<LL^k:=Nat.lt_of_lt_of_le h (Nat.pow_le_pow_left (by decide) k)
  have:=z5 gF h2
  omega⟩
 rwa [jX gF]at h1
def zs(f:ZX):Nat:=(KM f.l f.l.length).toNat
theorem wS{x:List Int}{k:Nat}(h:∀c∈x,c.natAbs<2^k):∀i,i≤x.length→0≤KM x i∧KM x i≤k ∧ ∀j,j<i→(nth x j).natAbs<2^(KM x i).toNat
 | 0,_=>⟨Int.le_refl _,by show(0:Int)≤k;omega,fun j hj=>absurd hj (Nat.not_lt_zero _)⟩
 | i+1,hi=>by
  obtain⟨h1,h2,h3⟩:=wS h i (by omega)
  obtain⟨g1,g2,g3⟩:=G5 (h (nth x i) (b7 (by omega)))
  rw [KM]
  have key:∀ {a:Nat} {y z:Int},y≤z→a<2^y.toNat→a<2^z.toNat:=fun hyz ha=>Nat.lt_of_lt_of_le ha (Nat.pow_le_pow_right (by decide) (by omega))
  split
  ·refine⟨g1,g2,fun j hj=>?_⟩
   rcases Nat.lt_or_ge j i with hh | hh
   ·exact key (by omega) (h3 j hh)
   ·rw [show j=i by omega];exact g3
  ·refine⟨h1,h2,fun j hj=>?_⟩
   rcases Nat.lt_or_ge j i with hh | hh
   ·exact h3 j hh
   ·rw [show j=i by omega];exact key (by omega) g3
section
variable {s n:Nat} {f:ZX} (b:BZ s n f)
include b
theorem BZ.lt:∀c∈f.l,c.natAbs<2^s:=fun c hc=>Nat.lt_of_lt_of_le (iS (by decide) c) (Nat.pow_le_pow_right (by decide) (b.sz c hc))
theorem G6:zs f≤s:=by
 have:=(wS b.lt _ (Nat.le_refl _)).2.1
 unfold zs;omega
theorem auT:∀c∈f.l,c.natAbs<2^zs f:=fun c hc=>by
 obtain⟨i,hi,rfl⟩:=List.getElem_of_mem hc
 rw [←cB hi]
 exact(wS b.lt _ (Nat.le_refl _)).2.2 i hi
theorem OT:BZ (zs f) n f:=⟨b.N,fun c hc=>dW (by decide) (auT b c hc)⟩
theorem OU(hs:s≤1000000000)(hn:n≤50):aF env.P 264 [Po f.l] (.int .i64 ((zs f:Nat):Int)):=by
 have h1:=wS b.lt _ (Nat.le_refl _)
 have:=aab (x:=f.l) (by have:=b.N;show ZX.N f<_;omega) fun i hi=>by
  have h2:=b.lt _ (b7 hi)
  obtain⟨g1,g2,_⟩:=G5 h2
  exact⟨r6 h2 hs,g1,by omega⟩
 rw [show((zs f:Nat):Int)=KM f.l f.l.length by unfold zs;omega]
 exact this
end
theorem G7{s k s' k' u:Nat}{f h:ZX}(bf:BZ s k f)(bh:BZ s' k' h)(hs:s≤1000000000)(zZ:s'≤1000000000)(hk:k≤50)(wX:k'≤50){an ad bn bd cn cd dn dd:Int}(h1:an.natAbs<2^u)(h2:bn.natAbs<2^u)(h3:cn.natAbs<2^u)(h4:dn.natAbs<2^u)(hu:u≤1000000000) :
  ∃N:Nat,aF env.P 252 [.ag (G9 f.l an ad bn bd), .ag (G9 h.l cn cd dn dd)] (.int .i64 N)∧64+4*(ZX.N f+ZX.N h)*(zs f+zs h+(ZX.N f+ZX.N h)+8)≤N∧N≤64+8*u+4*(ZX.N f+ZX.N h)*(zs f+zs h+(ZX.N f+ZX.N h)+8):=by
 obtain⟨a1,a2,_⟩:=G5 h1
 obtain⟨b1,b2,_⟩:=G5 h2
 obtain⟨c1,c2,_⟩:=G5 h3
 obtain⟨d1,d2,_⟩:=G5 h4
 have z1:=G6 bf
 have z2:=G6 bh
 have n1:=bf.N
 have n2:=bh.N
 have R:=TA (ad:=ad) (bd:=bd) (cd:=cd) (dd:=dd) (show f.l.length≤50 by show ZX.N f≤_;omega) (show h.l.length≤50 by show ZX.N h≤_;omega) (r6 h1 hu) (r6 h2 hu) (r6 h3 hu) (r6 h4 hu) ⟨a1,by omega⟩ ⟨b1,by omega⟩ ⟨c1,by omega⟩ ⟨d1,by omega⟩ (OU bf hs hk) (OU bh zZ wX) ⟨by omega,by omega⟩ ⟨by omega,by omega⟩
 have e1:4*((f.l.length:Int)+h.l.length)*((zs f:Int)+zs h+((f.l.length:Int)+h.l.length)+8)=((4*(ZX.N f+ZX.N h)*(zs f+zs h+(ZX.N f+ZX.N h)+8):Nat):Int):=by
  show 4*((ZX.N f:Int)+(ZX.N h:Nat))*_=_
  simp only [Int.natCast_mul,Int.natCast_add]
  rfl
 rw [e1]at R
 generalize 4*(ZX.N f+ZX.N h)*(zs f+zs h+(ZX.N f+ZX.N h)+8)=M at *
 generalize bl (aU LL an.natAbs)=x1 at *
 generalize bl (aU LL bn.natAbs)=x2 at *
 generalize bl (aU LL cn.natAbs)=x3 at *
 generalize bl (aU LL dn.natAbs)=x4 at *
 refine⟨64+2*(x1+x2+x3+x4).toNat+M,?_,by omega,by omega⟩
 have e2:(((64+2*(x1+x2+x3+x4).toNat+M:Nat)):Int)=64+2*(x1+x2+x3+x4)+(M:Int):=by omega
 rw [e2]
 exact R
theorem uU(P:Nat→Prop):∀N,∃J,J≤N∧(∀j,j<J→¬P j)∧(J<N→P J)
 | 0=>⟨0,Nat.le_refl _,fun j h=>absurd h (Nat.not_lt_zero _),fun h=>absurd h (Nat.lt_irrefl _)⟩
 | N+1=>by
  obtain⟨J,h1,h2,h3⟩:=uU P N
  by_cases hJ:J<N
  ·exact⟨J,by omega,h2,fun _=>h3 hJ⟩
  ·have:J=N:=by omega
   subst this
   by_cases hP:P J
   ·exact⟨J,by omega,h2,fun _=>hP⟩
   ·exact⟨J+1,by omega,fun j hj=>by
     rcases Nat.lt_or_ge j J with h | h
     ·exact h2 j h
     ·rw [show j=J by omega];exact hP,fun h=>by omega⟩
theorem j4{x:List Int}{u:Nat}{p:Rat × Rat}(q1:SQ u p.1)(q2:SQ u p.2)(hu:u≤1000000000):aF env.P 193 [.ag (G9 x p.1.num p.1.den p.2.num p.2.den)] (.bool (decide (p.2≤p.1))):=by
 have z0:=c7 q1.nL q1.dL q2.nL q2.dL (by omega) (aY p.1) (aY p.2) ⟨q1.nL,q1.dL⟩ ⟨q2.nL,q2.dL⟩
 have hp:=uT (x:=x) z0
 have e:decide (0≤dH (p.1.num*(p.2.den:Int)) (p.2.num*(p.1.den:Int)))=decide (p.2≤p.1):=decide_eq_decide.2 (by
  have:=gN (p:=p.1) (q:=p.2)
  rw [←Rat.not_lt,←this]
  omega)
 rwa [e]at hp
theorem sW{u:Nat}{t:Rat}(q:SQ u t)(hu:u≤1000000000):aF env.P 90 [RT t, .sl []] (RT t):=by
 obtain⟨l1,l2⟩:=q.LLt (show u<1099511627770 by omega)
 have:=wJ l1 l2
 rwa [aY]at this
theorem wT{s n u:Nat}{f:ZX}{p:Rat × Rat}(b:BZ s n f)(hs:s≤1000000000)(hn:n≤50)(q1:SQ u p.1)(q2:SQ u p.2)(hu:u≤1000000000):aF env.P 192 [GA f p] (GA f p):=by
 have N1:=fE (x:=f.l) (b.pb (by omega) (by omega))
 rw [f.c]at N1
 exact Z9 N1 (sW q1 hu) (sW q2 hu)
theorem aac{x:List Int}{an ad bn bd:Int}(hq:aF env.P 64 [Po []] (Po []))(hN:aF env.P 192 [.ag (G9 x an ad bn bd)] (.ag (G9 x an ad bn bd))):aF env.P 246 [Po [], .ag (G9 x an ad bn bd)] (.int .i64 0):=by
 simp only [G9]at *
 refine cD [(0,Po []),(1, .ag (G9 x an ad bn bd))] Tryz.func246 ?_
 refine aA [0,3] ?_
 refine nK ?_
 refine cU hq ?_
 refine aC hN ?_
 (try (refine bC (of_decide_eq_true (by kernel_rfl)) ?_));(try simp (maxSteps:=4000000) (disch:=omega) [gw]);(repeat rw [if_pos (by kernel_rfl)]);(try simp (maxSteps:=4000000) (disch:=omega) [gw])
 (try (refine bC (of_decide_eq_true (by kernel_rfl)) ?_));(try simp (maxSteps:=4000000) (disch:=omega) [gw]);(repeat rw [if_pos (by kernel_rfl)]);(try simp (maxSteps:=4000000) (disch:=omega) [gw])
 refine bG [0,3] ?_
 refine aP [0,3,14] ?_
 refine bJ ?_ ?_<;>intro h
 ·refine aA [4] ?_
  exact cC
 ·simp at h
structure AN(s n u:Nat)(f:ZX)(p:Rat × Rat):Prop where
 I:pD s n f
 hs:s≤100000
 A:s8 f (vt (bK f)) p.1 p.2
 q1:SQ u p.1
 q2:SQ u p.2
 hu:u≤30000000
 n8:ZX.N f≤8
 b1:p.1<p.2→Ab p.1 (2^(zs f+1))
 b2:p.1<p.2→Ab p.2 (2^(zs f+1))
structure SgC(s' k:Nat)(f q:ZX):Prop where
 bq:BZ s' k q
 hs:s'≤100000
 hk:k≤31
 q8:ZX.N q≤8
 hG:aF env.P 194 [.sl [[Po q.l],[Po f.l]]] (Po (gz q f).l)
 IG:2≤ZX.N (gz q f) → ∃sg ng,pD sg ng (gz q f)∧sg≤1000000
 hC:q≠0 → ∃sc nc,Ch sc nc (sq q)
 azG:q≠0→aF env.P 69 [Po q.l] (.dU [CH (bK (sq q)), .int .i64 0])
theorem AN.stop{s n u s' k N:Nat}{f q g w:ZX}{p r:Rat × Rat}(a:AN s n u f p)(bq:BZ s' k q)(m8:ZX.N q≤8)(q0:q≠0)(S:oO f (sq q) g w)(dN:p.1<p.2)(hγ:vt (bK g) p.1=vt (bK g) p.2)(A':s8 f (vt (bK f)) r.1 r.2)(k3:p.1≤r.1)(k4:r.2≤p.2)(k5:(r.2-r.1)*2^N≤p.2-p.1)
  (RV:64+4*(ZX.N f+ZX.N q)*(zs f+zs q+(ZX.N f+ZX.N q)+8)≤N):r.1=r.2∨vt (bK (sq q)) r.1=vt (bK (sq q)) r.2:=by
 have I:=a.I
 have n8:=a.n8
 obtain⟨nq,_⟩:=mC q0
 have hNq:ZX.N (sq q)≤ZX.N q:=(wK q0).nD q0
 have n1:=S.N
 have Sg:=ON S.ng.ne S.sg (by omega)
 have Sw:=ON S.nw.ne S.sw (by omega)
 refine Classical.byContradiction fun zY=>?_
 obtain⟨uW,hc2⟩:=not_or.1 zY
 have aad:r.1<r.2:=by have:=A'.le;grind
 have a1:=cK (a.b1 dN) (a.b2 dN) (x:=r.1) k3 (by grind)
 have a2:=cK (a.b1 dN) (a.b2 dN) (x:=r.2) (by grind) k4
 have hvJ:vt (bK f) r.1=vt (bK f) r.2+1:=by
  rcases A'.k with ⟨h,_⟩ | ⟨_,h⟩
  ·exact absurd h uW
  ·exact h
 have m1:=Sg.cR k3
 have m2:=Sg.cR k4
 have m3:=Sg.cR (Rat.le_of_lt aad)
 have cJ:=S.O5 A'.S Sg Sw (Rat.le_of_lt aad)
 have fz:=OT I.ch.bz
 have qz:=(OT bq).nf
 have N2f:=aet I.nf a.A
 have q1':=ZX.aE.1 q0
 have azH:∀x∈(sq q).l,x.natAbs≤2^(zs q+ZX.N q*9):=ako (l:=3) (jB q0) nq (DL q0).2 (fun d hd=>Nat.le_of_lt (BZ.lt qz d hd)) (by rw [xT];exact Nat.le_refl _) (by omega)
 have UL:=aeu (s:=zs f) (r:=zs q) N2f (show 1≤ZX.N q by omega) n8 m8
 have hw:=TE S I.nf nq (akr q0) (s:=zs f) (r:=zs q+ZX.N q*9) (n:=ZX.N f) (m:=ZX.N q) (β:=zs f+1) (fun d hd=>Nat.le_of_lt (BZ.lt fz d hd)) azH (Nat.le_refl _) hNq n8 m8 a1 a2 aad ?_
 ·rcases hw with hw | hw
  ·omega
  ·exact hc2 hw
 ·have w0:p.2-p.1≤2^(zs f+2):=by
   obtain⟨x1,x2⟩:=a.b1 dN
   obtain⟨x3,x4⟩:=a.b2 dN
   rw [show zs f+2=zs f+1+1 by omega,Rat.pow_succ];grind
  have w1:=Rat.le_trans k5 w0
  have hP:=gL (zs f+2)
  have w2:(r.2-r.1)*2^se (zs f) (zs q+ZX.N q*9) (ZX.N f) (ZX.N q) (zs f+1)*2^(zs f+2)≤1*2^(zs f+2):=by
   rw [Rat.one_mul,Rat.mul_assoc,←p0]
   refine Rat.le_trans (Rat.mul_le_mul_of_nonneg_left (GZ ?_) (by grind)) w1
   omega
  exact Rat.le_of_mul_le_mul_right w2 hP
theorem AN.sg{s n u s' k:Nat}{f q:ZX}{p:Rat × Rat}(a:AN s n u f p)(c:SgC s' k f q):aF env.P 246 [Po q.l,GA f p] (.int .i64 (sgU (dI f p) q)):=by
 have I:=a.I
 have A:=a.A
 have hs:=a.hs
 have hu:=a.hu
 have hfn:=I.ch.hn
 have zZ:=c.hs
 have hk:=c.hk
 have n8:=a.n8
 have m8:=c.q8
 have N1:=wT I.ch.bz (by omega) (by omega) a.q1 a.q2 (by omega)
 have Nq:=fE (x:=q.l) (c.bq.pb (by omega) (by omega))
 rw [q.c]at Nq
 by_cases q0:q=0
 ·subst q0
  rw [(show SgU (dI f p) 0 0 from .inl ⟨rfl,OR (fT A)⟩).eq (fT A)]
  exact aac Nq N1
 have hl:0<q.l.length:=by have:=ZX.aE.1 q0;exact Nat.pos_of_ne_zero fun h=>by(have:ZX.N q=q.l.length:=rfl);omega
 have KH:q.l.length<1000000:=by show ZX.N q<_;omega
 by_cases hpt:p.1=p.2
 ·have hS:=r5 q c.bq (by omega) (by omega) a.q1 (by omega)
  have hz:=c7 a.q1.nL a.q1.dL a.q1.nL a.q1.dL (by omega) (aY p.1) (aY p.1) ⟨a.q1.nL,a.q1.dL⟩ ⟨a.q1.nL,a.q1.dL⟩
  have e0:dH (p.1.num*(p.1.den:Int)) (p.1.num*(p.1.den:Int))=0:=l8.2 rfl
  rw [e0]at hz
  have Nf:=fE (x:=f.l) (I.ch.bz.pb (by omega) (by omega))
  rw [f.c]at Nf
  have:=aem (q:=q.l) (x:=f.l) KH (fun h=>by omega) Nq Nf (sW a.q1 (by omega)) hz hS
  rw [(aev (p8 hpt) q).eq (fT A)]
  rw [show GA f p = .ag (G9 f.l p.1.num p.1.den p.1.num p.1.den)by rw [show p=(p.1,p.1)from Prod.ext rfl hpt.symm];rfl]
  exact this
 have dN:p.1<p.2:=by have:=A.le;grind
 obtain⟨nq,hmu⟩:=mC q0
 have hNq:ZX.N (sq q)≤ZX.N q:=(wK q0).nD q0
 have cq:=akr q0
 have Sq:=ON nq.ne cq (by omega)
 obtain⟨w,S⟩:=uR (h:=sq q) I.nf I.Z4
 rw [auS I.nf I.sq q0]at S
 have n1:=S.N
 have Sg:=ON S.ng.ne S.sg (by omega)
 have Sw:=ON S.nw.ne S.sw (by omega)
 have mγ:=Sg.cR (Rat.le_of_lt dN)
 have mφ:=Sw.cR (Rat.le_of_lt dN)
 have hv:vt (bK f) p.1=vt (bK f) p.2+1:=by
  rcases A.k with ⟨h,_⟩ | ⟨_,h⟩
  ·exact absurd h hpt
  ·exact h
 have c0:=S.O5 A.S Sg Sw (Rat.le_of_lt dN)
 have P0:=j4 (x:=f.l) a.q1 a.q2 (by omega)
 rw [decide_eq_false (Rat.not_le.2 dN)]at P0
 have hD:aF env.P 83 [Po (gz q f).l] (.int .i64 ((ZX.N (gz q f):Int)-1)):=kQ (gz q f).l (by show ZX.N (gz q f)<_;omega)
 have auU:2≤ZX.N (gz q f)→aF env.P 195 [Po (gz q f).l,RT p.1,RT p.2] (.bool (decide (vt (bK (gz q f)) p.2<vt (bK (gz q f)) p.1))):=fun h2=>by
  obtain⟨sg,ng,IG,SC⟩:=c.IG h2
  exact WI IG SC dN (by omega) a.q1 a.q2 (by omega)
 by_cases hz:vt (bK (gz q f)) p.2<vt (bK (gz q f)) p.1
 ·have h2:2≤ZX.N (gz q f):=Nat.not_lt.1 fun h2=>by
   obtain⟨d,hd,e⟩:=ZX.lA (x:=gz q f) (by have:=ZX.aE.1 S.ng.ne;omega)
   rw [e]at hz Sg
   have:=Sg.const dN (σ:=bZ (d:Rat)) (.inr (by rw [zV])) (fun x _ _=>by rw [zV])
   omega
  have hH:=auU h2
  rw [decide_eq_true hz]at hH
  have:=TB hl KH Nq N1 P0 c.hG hD (by omega) hH
  rw [(show SgU (dI f p) q 0 from .inl ⟨rfl,(azE A S Sg Sw dN hz).dv (fT A) (fG q f).l⟩).eq (fT A)]
  exact this
 obtain⟨sc,nc,C⟩:=c.hC q0
 obtain⟨cb,cl⟩:=C.all
 obtain⟨D,hD1,GG,g1,g2⟩:=OP a.q1 a.q2
 have key:=OQ A g1 g2
 obtain⟨N,R,RV,D5⟩:=G7 (u:=u) (ad:=p.1.den) (bd:=p.2.den) (cn:=0) (cd:=0) (dn:=0) (dd:=0) I.ch.bz c.bq (by omega) (by omega) (by omega) (by omega) (Nat.lt_of_lt_of_le (iS (b:=2) (by decide) p.1.num) (Nat.pow_le_pow_right (by decide) a.q1.n2)) (Nat.lt_of_lt_of_le (iS (b:=2) (by decide) p.2.num) (Nat.pow_le_pow_right (by decide) a.q2.n2)) (Nat.two_pow_pos _) (Nat.two_pow_pos _) (by omega)
 have hzf:=G6 I.ch.bz
 have hzq:=G6 c.bq
 have hM:4*(ZX.N f+ZX.N q)*(zs f+zs q+(ZX.N f+ZX.N q)+8)≤4*16*(100000+100000+16+8):=Nat.mul_le_mul (by omega) (by omega)
 obtain⟨J,hJ,hj,iQ⟩:=uU (fun j=>(nQ f p j).1=(nQ f p j).2∨vt (bK (sq q)) (nQ f p j).1=vt (bK (sq q)) (nQ f p j).2) N
 have DF:(nQ f p J).1=(nQ f p J).2∨vt (bK (sq q)) (nQ f p J).1=vt (bK (sq q)) (nQ f p J).2:=by
  by_cases hJN:J<N
  ·exact iQ hJN
  have hJE:J=N:=by omega
  obtain⟨k1,k2,k3,k4,k5,_⟩:=key J
  exact a.stop c.bq m8 q0 S dN (by omega) k1 k3 k4 k5 (hJE▸RV)
 have sqJ:∀j,j≤N→SQ (3*u+N+2) (nQ f p j).1∧SQ (3*u+N+2) (nQ f p j).2∧SQ (3*u+N+2) (((nQ f p j).1+(nQ f p j).2)/2):=fun j hj=>by
  obtain⟨_,_,_,_,_,k6,k7⟩:=key j
  exact⟨(k6.sq hD1 GG).mono (by omega),(k7.sq hD1 GG).mono (by omega),((k6.KI k7).sq hD1 GG).mono (by omega)⟩
 have hV:3*u+N+2≤1000000000:=by omega
 have btw:∀j,j≤N→aF env.P 88 [CH (bK (sq q)),RT (nQ f p j).1,RT (nQ f p j).2] (.int .i64 ((vt (bK (sq q)) (nQ f p j).1:Int)-vt (bK (sq q)) (nQ f p j).2)):=fun j hj=>by
  obtain⟨s1,s2,_⟩:=sqJ j hj
  have:=ad4 cb C.hn cl s1 s2 hV
  rwa [if_neg (Rat.not_lt.2 (key j).1.le)]at this
 obtain⟨sJ1,sJ2,_⟩:=sqJ J hJ
 have R1:=aeq (gc:=zp) (C:=bK (sq q)) (an:=fun j=>(nQ f p j).1.num) (ad:=fun j=>(nQ f p j).1.den) (bn:=fun j=>(nQ f p j).2.num) (bd:=fun j=>(nQ f p j).2.den) (J:=J) (N:=N) (r:=bZ (e (nQ f p J).2 q)) hl KH Nq N1 P0 c.hG hD (fun h0=>by
   have hH:=auU (by omega)
   rwa [decide_eq_false hz]at hH) (c.azG q0) R (by omega) (fun j hj'=>by
   obtain⟨s1,s2,s3⟩:=sqJ j (by omega)
   have hno:=not_or.1 (hj j hj')
   have azJ:(nQ f p j).1<(nQ f p j).2:=by have:=(key j).1.le;grind
   have Pj:=j4 (x:=f.l) s1 s2 hV
   rw [decide_eq_false (Rat.not_le.2 azJ)]at Pj
   refine⟨Pj,⟨_,btw j (by omega),?_⟩,D0 I (by omega) (key j).1 s1 s2 s3 hV⟩
   have:=hno.2
   simp only [beq_eq_false_iff_ne,ne_eq]
   omega) hJ (fun hJN=>by
   have Pj:=j4 (x:=f.l) sJ1 sJ2 hV
   by_cases hp:(nQ f p J).2≤(nQ f p J).1
   ·rw [decide_eq_true hp]at Pj;exact .inl Pj
   ·rw [decide_eq_false hp]at Pj
    refine .inr ⟨Pj,?_⟩
    have h3:=btw J hJ
    rw [DF.resolve_left (by grind),Int.sub_self]at h3
    exact h3) (r5 q c.bq (by omega) (by omega) sJ2 hV)
 have hU:sgU (dI f p) q=bZ (e (nQ f p J).2 q):=by
  obtain⟨k1,k2,k3,k4,_⟩:=key J
  have e1:dI f p=dI f (nQ f p J):=funext fun t=>propext (k2 t).symm
  rw [e1]
  by_cases hp:(nQ f p J).1=(nQ f p J).2
  ·rw [←hp];exact(aev (p8 hp) q).eq (fT k1)
  ·have aad:(nQ f p J).1<(nQ f p J).2:=by have:=k1.le;grind
   have m1:=Sg.cR k3
   have m2:=Sg.cR k4
   have m3:=Sg.cR (Rat.le_of_lt aad)
   exact(aol k1 S Sg Sw aad (by omega) q0 rfl (by omega) Sq (DF.resolve_left hp)).eq (fT k1)
 rw [hU]
 exact R1
def Ex(f:ZX)(p:Rat × Rat):Prop:=e p.2 f=0→p.1=p.2
theorem TF{pn pd qn qd z rn rd:Int}(n1:aF env.P 147 [T2 pn pd] (T2 pn pd))(n2:aF env.P 147 [T2 qn qd] (T2 qn qd))(zc:aF env.P 86 [T2 qn qd,T2 pn pd] (.int .i64 z))(hr:if 0<z then rn=qn∧rd=qd else rn=pn∧rd=pd) :
  aF env.P 90 [T2 pn pd, .sl [[.bool (decide (qn<0)),us (aU LL qn.natAbs), .bool (decide (qd<0)),us (aU LL qd.natAbs)]]] (T2 rn rd):=by
 refine cD [(0,T2 pn pd),(1, .sl [[.bool (decide (qn<0)),us (aU LL qn.natAbs), .bool (decide (qd<0)),us (aU LL qd.natAbs)]])] Tryz.func90 ?_
 refine aA [1,2,4] ?_
 refine aR [1,4,5] n1 ?_
 refine aP [4,5,10,11,12] ?_
 refine W.block ?_
 refine W.bE (fun k σ=>∃(i:Nat) (mn md:Int) (rows:Pm.Rows) (clk:Nat),σ=⟨fa [(4, .ptr 4 1 0 0),(5, .ptr 5 2 0 0),(10, .sl [[.bool (decide (qn<0)),us (aU LL qn.natAbs), .bool (decide (qd<0)),us (aU LL qd.natAbs)]]),(11, .int .i64 1),(12, .int .i64 i)],rows,clk⟩∧rows 4=some ⟨1,52,4,[[.bool false, .nil, .bool false, .nil]]⟩∧rows 5=some ⟨2,52,4,[[.bool (decide (mn<0)),us (aU LL mn.natAbs), .bool (decide (md<0)),us (aU LL md.natAbs)]]⟩ ∧
  ((i=0∧mn=pn∧md=pd)∨(i=1∧mn=rn∧md=rd))∧i+k=1) 1 ?_ ?_
 ·exact⟨_,aB _ [4,5,10,11,12],0,pn,pd,_,_,rfl,by simp,by simp, .inl ⟨rfl,rfl,rfl⟩,by omega⟩
 rintro k _ ⟨i,mn,md,rows,clk,rfl,dS,eB,hI,zT⟩
 rcases hI with ⟨rfl,rfl,rfl⟩ | ⟨rfl,rfl,rfl⟩
 ·refine bV [4,5,10,11,12,13] ?_
  refine bJ ?_ ?_<;>intro h
  ·refine W.skip ?_
   refine W.eN (fun σ=>∃(rows:Pm.Rows) (clk:Nat),σ=⟨fa [(4, .ptr 4 1 0 0),(5, .ptr 5 2 0 0),(10, .sl [[.bool (decide (qn<0)),us (aU LL qn.natAbs), .bool (decide (qd<0)),us (aU LL qd.natAbs)]]),(11, .int .i64 1),(12, .int .i64 0)],rows,clk⟩∧rows 4=some ⟨1,52,4,[[.bool false, .nil, .bool false, .nil]]⟩∧rows 5=some ⟨2,52,4,[[.bool (decide (rn<0)),us (aU LL rn.natAbs), .bool (decide (rd<0)),us (aU LL rd.natAbs)]]⟩) ?_ ?_
   ·refine aA [4,5,7,10,11,12] ?_
    refine W.sr ?_
    simp (disch:=omega) [gw,eB]
    refine cQ [4,5,7,10,11,12,19] zc ?_
    refine bJ ?_ ?_<;>intro h
    ·have h:0<z:=by simpa using h
     rw [if_pos h]at hr
     obtain⟨rfl,rfl⟩:=hr
     refine W.cA (fun K hK=>?_)
     simp (disch:=omega) [gw,eB]
     refine aC n2 ?_
     simp (disch:=omega) [gw,eB]
     exact hK _ ⟨_,aB _ [4,5,10,11,12],_,_,rfl,by simp [dS],by simp [eB]⟩
    ·have h:¬0<z:=by simpa using h
     rw [if_neg h]at hr
     obtain⟨rfl,rfl⟩:=hr
     refine W.skip ?_
     exact⟨_,aB _ [4,5,10,11,12],_,_,rfl,by simp [dS],by simp [eB]⟩
   rintro _ ⟨rows,clk,rfl,dS,eB⟩
   refine W.cA (fun K hK=>?_);simp (disch:=omega) [gw]
   refine hK _ ⟨0,_,aB _ [4,5,10,11,12],by omega,1,rn,rd,_,_,rfl,dS,eB, .inr ⟨rfl,rfl,rfl⟩,rfl⟩
  ·simp at h
 ·refine bV [4,5,10,11,12,13] ?_
  refine bJ ?_ ?_<;>intro h
  ·simp at h
  ·refine fH ?_
   refine W.sr ?_
   simp (disch:=omega) [gw,dS,eB]
   refine bG [4] ?_
   exact cC
theorem aae{u:Nat}{p q:Rat}(hp:SQ u p)(hq:SQ u q)(hu:u≤1000000000):aF env.P 90 [RT p, .sl [tc q]] (RT (if p<q then q else p)):=by
 obtain⟨l1,l2⟩:=hp.LLt (show u<1099511627770 by omega)
 obtain⟨l3,l4⟩:=hq.LLt (show u<1099511627770 by omega)
 have n1:=mV l1 l2
 have n2:=mV l3 l4
 rw [aY]at n1 n2
 have z:=c7 hq.nL hq.dL hp.nL hp.dL (by omega) (aY q) (aY p) ⟨hq.nL,hq.dL⟩ ⟨hp.nL,hp.dL⟩
 refine TF n1 n2 z ?_
 by_cases h:p<q
 ·rw [if_pos (gM.2 h),if_pos h];exact⟨rfl,rfl⟩
 ·rw [if_neg (fun h2=>h (gM.1 h2)),if_neg h];exact⟨rfl,rfl⟩
theorem auV{x y:Int}(hx:Sz x)(hy:Sz y):aF env.P 248 [I x,I y] (I (x-y)):=by
 have:=MB (decide (x<0)) (decide (y<0)) (aU LL x.natAbs) (aU LL y.natAbs) hx.UM hy.UM
 rwa [xM,xM]at this
theorem ah1(p q:Rat):dM (p.num*q.den-q.num*p.den) (p.den*q.den)=p-q:=by
 have h1:((p.den:Int)*q.den)≠0:=by
  have:=p.den_nz;have:=q.den_nz
  refine Int.mul_ne_zero ?_ ?_<;>omega
 refine JP h1 ?_
 rw [Rat.intCast_sub,Rat.intCast_mul,Rat.intCast_mul,Rat.intCast_mul,wL p,wL q]
 grind
theorem G8{p q:Rat}{k:Nat}(hp:sz LL p.num≤k∧sz LL (p.den:Int)≤k)(hq:sz LL q.num≤k∧sz LL (q.den:Int)≤k)(hk:k≤300000000000):aF env.P 253 [RT p,RT q] (RT (p-q)):=by
 have c1:=xX hp.1 hp.2 hq.1 hq.2 (by omega) (aY p) (aY q) hp hq
 have g1:=cG (b:=LL) gF hp.1 hq.2
 have g2:=cG (b:=LL) gF hq.1 hp.2
 have g3:=cG (b:=LL) gF hp.2 hq.2
 have g5:=m7 (b:=LL) gF (Nat.le_trans g1 (show k+k≤k+k from Nat.le_refl _)) (Nat.le_trans (Nat.le_of_eq (oI _)) (Nat.le_trans g2 (show k+k≤k+k from Nat.le_refl _)))
 rw [←Int.sub_eq_add_neg]at g5
 have a1:=auV (x:=p.num*q.den) (y:=q.num*p.den) (by show _<_;omega) (by show _<_;omega)
 have h1:((p.den:Int)*q.den)≠0:=by
  have:=p.den_nz;have:=q.den_nz
  refine Int.mul_ne_zero ?_ ?_<;>omega
 have l1:=pZ (n:=p.num*q.den-q.num*p.den) (d:=p.den*q.den) (by omega) (by omega) h1
 rw [ah1]at l1
 show aF env.P _ [T2 p.num p.den,T2 q.num q.den] (T2 (p-q).num (p-q).den)
 replace l1:aF env.P 169 [I (p.num*q.den-q.num*p.den),I (p.den*q.den)] (T2 (p-q).num (p-q).den):=l1
 clear g1 g2 g3 g5 h1 hp hq
 generalize (p-q).num=rn at *
 generalize ((p-q).den:Int)=rd at *
 generalize p.num*(q.den:Int)-q.num*p.den=x4 at *
 generalize p.num*(q.den:Int)=x1 at *
 generalize q.num*(p.den:Int)=x2 at *
 generalize (p.den:Int)*(q.den:Int)=x3 at *
 generalize p.num=pn at *
 generalize (p.den:Int)=pd at *
 generalize q.num=qn at *
 generalize (q.den:Int)=qd at *
 refine cD [(0,T2 pn pd),(1,T2 qn qd)] Tryz.func253 ?_
 refine aA [2,3,4] ?_
 refine aR [4,5,6,7] c1 ?_
 refine W.sd ?_
 simp (maxSteps:=4000000) (disch:=omega) [gw]
 refine aC a1 ?_
 simp (maxSteps:=4000000) (disch:=omega) [gw]
 refine aC l1 ?_
 simp (maxSteps:=4000000) (disch:=omega) [gw]
 (try (refine bC (of_decide_eq_true (by kernel_rfl)) ?_));(try simp (maxSteps:=4000000) (disch:=omega) [gw]);(repeat rw [if_pos (by kernel_rfl)]);(try simp (maxSteps:=4000000) (disch:=omega) [gw])
 refine bG [4] ?_
 exact cC
set_option maxHeartbeats 4000000 in
theorem TG{x y:List Int}{an ad bn bd cn cd dn dd:Nat→Int}{N J:Nat}{c:Int}(hs:aF env.P 252 [.ag (G9 x (an 0) (ad 0) (bn 0) (bd 0)), .ag (G9 y (cn 0) (cd 0) (dn 0) (dd 0))] (.int .i64 N))(hN:N<1000000000000000)
  (hb:∀j,j<J→(∃z1,aF env.P 86 [T2 (bn j) (bd j),T2 (cn j) (cd j)] (.int .i64 z1)∧0<z1)∧(∃z2,aF env.P 86 [T2 (dn j) (dd j),T2 (an j) (ad j)] (.int .i64 z2)∧0<z2) ∧
   ∃wn wd vn vd z3,aF env.P 253 [T2 (bn j) (bd j),T2 (an j) (ad j)] (T2 wn wd)∧aF env.P 253 [T2 (dn j) (dd j),T2 (cn j) (cd j)] (T2 vn vd)∧aF env.P 86 [T2 wn wd,T2 vn vd] (.int .i64 z3) ∧
   (if 0≤z3 then aF env.P 254 [.ag (G9 x (an j) (ad j) (bn j) (bd j))] (.ag (G9 x (an (j+1)) (ad (j+1)) (bn (j+1)) (bd (j+1))))∧G9 y (cn (j+1)) (cd (j+1)) (dn (j+1)) (dd (j+1))=G9 y (cn j) (cd j) (dn j) (dd j)
    else aF env.P 254 [.ag (G9 y (cn j) (cd j) (dn j) (dd j))] (.ag (G9 y (cn (j+1)) (cd (j+1)) (dn (j+1)) (dd (j+1))))∧G9 x (an (j+1)) (ad (j+1)) (bn (j+1)) (bd (j+1))=G9 x (an j) (ad j) (bn j) (bd j))) (hJ:J<N) {z1 z2:Int} {pa pb:Bool}
  (k1:aF env.P 86 [T2 (bn J) (bd J),T2 (cn J) (cd J)] (.int .i64 z1)) (k2:aF env.P 86 [T2 (dn J) (dd J),T2 (an J) (ad J)] (.int .i64 z2)) (p1:aF env.P 193 [.ag (G9 x (an J) (ad J) (bn J) (bd J))] (.bool pa)) (p2:aF env.P 193 [.ag (G9 y (cn J) (cd J) (dn J) (dd J))] (.bool pb))
  (hp:¬(pa=true∧pb=true∧z1=0)) (D6:¬(pa=true∧pb=true∧z2=0)) (hc:(z1≤0∧c = -1)∨(0<z1∧z2≤0∧c=1)) :
  aF env.P 196 [.ag (G9 x (an 0) (ad 0) (bn 0) (bd 0)), .ag (G9 y (cn 0) (cd 0) (dn 0) (dd 0))] (.dU [.ag (G9 x (an J) (ad J) (bn J) (bd J)), .ag (G9 y (cn J) (cd J) (dn J) (dd J)), .int .i64 c]):=by
 simp only [G9]at *
 refine cD [(0, .ag (G9 x (an 0) (ad 0) (bn 0) (bd 0))),(1, .ag (G9 y (cn 0) (cd 0) (dn 0) (dd 0)))] Tryz.func196 ?_
 refine aA [2,3,4,5] ?_
 refine W.seq ?_
 refine aR [2,3,4,5,9,10] hs ?_
 refine W.block ?_
 refine W.bE (fun k σ=>∃(j:Nat) (rows:Pm.Rows) (clk:Nat),σ=⟨fa [(2, .ptr 2 0 0 0),(3, .ptr 3 1 0 0),(4, .ptr 4 2 0 0),(5, .ptr 5 3 0 0),(9, .int .i64 N),(10, .int .i64 j)],rows,clk⟩∧rows 2=some ⟨0,54,9,[G9 x (an j) (ad j) (bn j) (bd j)]⟩∧rows 3=some ⟨1,54,9,[G9 y (cn j) (cd j) (dn j) (dd j)]⟩∧rows 4=some ⟨2,54,9,[[.nil, .bool false, .nil, .bool false, .nil, .bool false, .nil, .bool false, .nil]]⟩∧rows 5=some ⟨3,54,9,[[.nil, .bool false, .nil, .bool false, .nil, .bool false, .nil, .bool false, .nil]]⟩∧j+k=J) J ?_ ?_
 ·exact⟨_, .refl,0,_,_,rfl,by simp,by simp,by simp,by simp,by omega⟩
 rintro k _ ⟨j,rows,clk,rfl,bS,b8,dS,eB,hjk⟩
 simp only [G9]at bS b8
 refine bV [2,3,4,5,9,10,11] ?_
 refine bJ ?_ ?_<;>intro h
 ·refine W.skip ?_
  by_cases hjJ:j<J
  ·obtain⟨⟨u1,m1,o1⟩,⟨u2,m2,o2⟩,wn,wd,vn,vd,z3,s1,s2,s3,hh⟩:=hb j hjJ
   have o1':¬u1≤0:=by omega
   have o2':¬u2≤0:=by omega
   refine W.eN (fun σ=>∃(rows:Pm.Rows) (clk:Nat),σ=⟨fa [(2, .ptr 2 0 0 0),(3, .ptr 3 1 0 0),(4, .ptr 4 2 0 0),(5, .ptr 5 3 0 0),(9, .int .i64 N),(10, .int .i64 j)],rows,clk⟩∧rows 2=some ⟨0,54,9,[G9 x (an (j+1)) (ad (j+1)) (bn (j+1)) (bd (j+1))]⟩∧rows 3=some ⟨1,54,9,[G9 y (cn (j+1)) (cd (j+1)) (dn (j+1)) (dd (j+1))]⟩∧rows 4=some ⟨2,54,9,[[.nil, .bool false, .nil, .bool false, .nil, .bool false, .nil, .bool false, .nil]]⟩∧rows 5=some ⟨3,54,9,[[.nil, .bool false, .nil, .bool false, .nil, .bool false, .nil, .bool false, .nil]]⟩) ?_ ?_
   ·refine W.seq ?_
    refine W.block ?_
    refine W.sr ?_
    simp (disch:=omega) [gw,bS,b8]
    refine aC m1 ?_
    simp (disch:=omega) [gw,o1']
    refine bG [2,3,4,5,9,10,12] ?_
    refine bJ ?_ ?_<;>intro h
    ·simp at h
    refine W.sr ?_
    simp (disch:=omega) [gw,bS,b8]
    refine aC m2 ?_
    simp (disch:=omega) [gw,o2']
    refine bG [2,3,4,5,9,10,38] ?_
    refine bJ ?_ ?_<;>intro h
    ·simp at h
    refine W.skip ?_
    refine W.sd ?_
    simp (disch:=omega) [gw,bS,b8]
    refine aC s1 ?_
    simp (disch:=omega) [gw,bS,b8]
    refine cU s2 ?_
    refine cQ [2,3,4,5,9,10,75] s3 ?_
    refine bJ ?_ ?_<;>intro h
    ·have h3:0≤z3:=by simpa using h
     rw [if_pos h3]at hh
     obtain⟨h1,h2⟩:=hh
     refine W.cA (fun K hK=>?_)
     simp (disch:=omega) [gw,bS]
     refine aC h1 ?_
     simp (disch:=omega) [gw,bS]
     exact hK _ ⟨_,aB _ [2,3,4,5,9,10],_,_,rfl,by simp,by simp only [G9];rw [h2];simp [b8],by simp [dS],by simp [eB]⟩
    ·have h3:¬0≤z3:=by simpa using h
     rw [if_neg h3]at hh
     obtain⟨h1,h2⟩:=hh
     refine W.cA (fun K hK=>?_)
     simp (disch:=omega) [gw,b8]
     refine aC h1 ?_
     simp (disch:=omega) [gw,b8]
     exact hK _ ⟨_,aB _ [2,3,4,5,9,10],_,_,rfl,by simp only [G9];rw [h2];simp [bS],by simp,by simp [dS],by simp [eB]⟩
   rintro _ ⟨rows,clk,rfl,bS,b8,dS,eB⟩
   refine W.cA (fun K hK=>?_);simp (disch:=omega) [gw]
   refine hK _ ⟨k-1,_,aB _ [2,3,4,5,9,10],by omega,j+1,_,_,rfl,bS,b8,dS,eB,by omega⟩
  ·have hjE:j=J:=by omega
   subst hjE
   refine W.seq ?_
   refine W.block ?_
   refine W.seq ?_
   refine W.block ?_
   rcases hc with ⟨hz,rfl⟩ | ⟨hz1,hz,rfl⟩
   ·refine W.fA (fun σ=>∃(rows:Pm.Rows) (clk:Nat),σ=⟨fa [(2, .ptr 2 0 0 0),(3, .ptr 3 1 0 0),(4, .ptr 4 2 0 0),(5, .ptr 5 3 0 0),(9, .int .i64 N),(10, .int .i64 j),(12, .bool true)],rows,clk⟩∧rows 2=some ⟨0,54,9,[G9 x (an j) (ad j) (bn j) (bd j)]⟩∧rows 3=some ⟨1,54,9,[G9 y (cn j) (cd j) (dn j) (dd j)]⟩∧rows 4=some ⟨2,54,9,[[.nil, .bool false, .nil, .bool false, .nil, .bool false, .nil, .bool false, .nil]]⟩∧rows 5=some ⟨3,54,9,[[.nil, .bool false, .nil, .bool false, .nil, .bool false, .nil, .bool false, .nil]]⟩) (fun K hK=>?_) ?_
    ·cases pa with
     | false =>
      simp (disch:=omega) [gw,bS,b8]
      refine aC k1 ?_
      simp (disch:=omega) [gw,hz,bS,b8]
      refine aC p1 ?_
      simp (disch:=omega) [gw,bS,b8]
      exact hK _ _ (aB _ [2,3,4,5,9,10,12]) ⟨_,_,rfl,by simp [bS],by simp [b8],by simp [dS],by simp [eB]⟩
     | true =>
      cases pb with
      | false =>
       simp (disch:=omega) [gw,bS,b8]
       refine aC k1 ?_
       simp (disch:=omega) [gw,hz,bS,b8]
       refine aC p1 ?_
       simp (disch:=omega) [gw,bS,b8]
       refine aC p2 ?_
       simp (disch:=omega) [gw,bS,b8]
       exact hK _ _ (aB _ [2,3,4,5,9,10,12]) ⟨_,_,rfl,by simp [bS],by simp [b8],by simp [dS],by simp [eB]⟩
      | true =>
       have nT:(z1==0)=false:=by
        have:¬z1=0:=fun h=>hp ⟨rfl,rfl,h⟩
        simpa using this
       simp (disch:=omega) [gw,bS,b8]
       refine aC k1 ?_
       simp (disch:=omega) [gw,hz,bS,b8]
       refine aC p1 ?_
       simp (disch:=omega) [gw,bS,b8]
       refine aC p2 ?_
       simp (disch:=omega) [gw,bS,b8]
       refine aC k1 ?_
       simp (disch:=omega) [gw,nT]
       exact hK _ _ (aB _ [2,3,4,5,9,10,12]) ⟨_,_,rfl,by simp [bS],by simp [b8],by simp [dS],by simp [eB]⟩
    rintro _ ⟨rows,clk,rfl,bS,b8,dS,eB⟩
    simp only [G9]at bS b8
    refine bJ ?_ ?_<;>intro h
    ·refine W.sd ?_
     simp (disch:=omega) [gw,bS,b8,dS,eB]
     (try (refine bC (of_decide_eq_true (by kernel_rfl)) ?_));(try simp (maxSteps:=4000000) (disch:=omega) [gw,dS,eB]);(repeat rw [if_pos (by kernel_rfl)]);(try simp (maxSteps:=4000000) (disch:=omega) [gw,dS,eB])
     (try (refine bC (of_decide_eq_true (by kernel_rfl)) ?_));(try simp (maxSteps:=4000000) (disch:=omega) [gw,dS,eB]);(repeat rw [if_pos (by kernel_rfl)]);(try simp (maxSteps:=4000000) (disch:=omega) [gw,dS,eB])
     refine bG [4,5,6] ?_
     exact cC
    ·simp at h
   ·have azL:¬z1≤0:=by omega
    refine W.sr ?_
    simp (disch:=omega) [gw,bS,b8]
    refine aC k1 ?_
    simp (disch:=omega) [gw,azL]
    refine bG [2,3,4,5,9,10,12] ?_
    refine bJ ?_ ?_<;>intro h
    ·simp at h
    refine W.fA (fun σ=>∃(rows:Pm.Rows) (clk:Nat),σ=⟨fa [(2, .ptr 2 0 0 0),(3, .ptr 3 1 0 0),(4, .ptr 4 2 0 0),(5, .ptr 5 3 0 0),(9, .int .i64 N),(10, .int .i64 j),(38, .bool true)],rows,clk⟩∧rows 2=some ⟨0,54,9,[G9 x (an j) (ad j) (bn j) (bd j)]⟩∧rows 3=some ⟨1,54,9,[G9 y (cn j) (cd j) (dn j) (dd j)]⟩∧rows 4=some ⟨2,54,9,[[.nil, .bool false, .nil, .bool false, .nil, .bool false, .nil, .bool false, .nil]]⟩∧rows 5=some ⟨3,54,9,[[.nil, .bool false, .nil, .bool false, .nil, .bool false, .nil, .bool false, .nil]]⟩) (fun K hK=>?_) ?_
    ·cases pa with
     | false =>
      simp (disch:=omega) [gw,bS,b8]
      refine aC k2 ?_
      simp (disch:=omega) [gw,hz,bS,b8]
      refine aC p1 ?_
      simp (disch:=omega) [gw,bS,b8]
      exact hK _ _ (aB _ [2,3,4,5,9,10,38]) ⟨_,_,rfl,by simp [bS],by simp [b8],by simp [dS],by simp [eB]⟩
     | true =>
      cases pb with
      | false =>
       simp (disch:=omega) [gw,bS,b8]
       refine aC k2 ?_
       simp (disch:=omega) [gw,hz,bS,b8]
       refine aC p1 ?_
       simp (disch:=omega) [gw,bS,b8]
       refine aC p2 ?_
       simp (disch:=omega) [gw,bS,b8]
       exact hK _ _ (aB _ [2,3,4,5,9,10,38]) ⟨_,_,rfl,by simp [bS],by simp [b8],by simp [dS],by simp [eB]⟩
      | true =>
       have nT:(z2==0)=false:=by
        have:¬z2=0:=fun h=>D6 ⟨rfl,rfl,h⟩
        simpa using this
       simp (disch:=omega) [gw,bS,b8]
       refine aC k2 ?_
       simp (disch:=omega) [gw,hz,bS,b8]
       refine aC p1 ?_
       simp (disch:=omega) [gw,bS,b8]
       refine aC p2 ?_
       simp (disch:=omega) [gw,bS,b8]
       refine aC k2 ?_
       simp (disch:=omega) [gw,nT]
       exact hK _ _ (aB _ [2,3,4,5,9,10,38]) ⟨_,_,rfl,by simp [bS],by simp [b8],by simp [dS],by simp [eB]⟩
    rintro _ ⟨rows,clk,rfl,bS,b8,dS,eB⟩
    simp only [G9]at bS b8
    refine bJ ?_ ?_<;>intro h
    ·refine W.sd ?_
     simp (disch:=omega) [gw,bS,b8,dS,eB]
     (try (refine bC (of_decide_eq_true (by kernel_rfl)) ?_));(try simp (maxSteps:=4000000) (disch:=omega) [gw,dS,eB]);(repeat rw [if_pos (by kernel_rfl)]);(try simp (maxSteps:=4000000) (disch:=omega) [gw,dS,eB])
     (try (refine bC (of_decide_eq_true (by kernel_rfl)) ?_));(try simp (maxSteps:=4000000) (disch:=omega) [gw,dS,eB]);(repeat rw [if_pos (by kernel_rfl)]);(try simp (maxSteps:=4000000) (disch:=omega) [gw,dS,eB])
     refine bG [4,5,6] ?_
     exact cC
    ·simp at h
 ·exfalso
  simp at h;omega
section
variable {x y:List Int} {an ad bn bd cn cd dn dd:Int} (nx:aF env.P 192 [.ag (G9 x an ad bn bd)] (.ag (G9 x an ad bn bd))) (ny:aF env.P 192 [.ag (G9 y cn cd dn dd)] (.ag (G9 y cn cd dn dd)))
include nx ny
theorem aon{r:Int}(hr:r = -1∨r=0∨r=1)(p1:aF env.P 193 [.ag (G9 x an ad bn bd)] (.bool true))(k:aF env.P 111 [.ag (G9 y cn cd dn dd),T2 an ad] (.int .i64 r)):aF env.P 110 [.ag (G9 x an ad bn bd), .ag (G9 y cn cd dn dd)] (.int .i64 (-r)):=by
 have hw:IntKind.wrap .i64 (-r) = -r:=wrap_i64 (by omega) (by omega)
 simp only [G9]at *
 refine cD [(0, .ag (G9 x an ad bn bd)),(1, .ag (G9 y cn cd dn dd))] Tryz.func110 ?_
 refine aA [2,3] ?_
 refine nK ?_
 refine cU nx ?_
 refine cU ny ?_
 (try (refine bC (of_decide_eq_true (by kernel_rfl)) ?_));(try simp (maxSteps:=4000000) (disch:=omega) [gw]);(repeat rw [if_pos (by kernel_rfl)]);(try simp (maxSteps:=4000000) (disch:=omega) [gw])
 (try (refine bC (of_decide_eq_true (by kernel_rfl)) ?_));(try simp (maxSteps:=4000000) (disch:=omega) [gw]);(repeat rw [if_pos (by kernel_rfl)]);(try simp (maxSteps:=4000000) (disch:=omega) [gw])
 refine bG [2,3] ?_
 refine W.seq ?_
 refine W.block ?_
 refine aR [2,3,15] p1 ?_
 refine bJ ?_ ?_<;>intro h
 ·refine jG ?_
  refine aC k ?_
  simp (disch:=omega) [gw,hw]
  refine bG [4] ?_
  exact cC
 ·simp at h
theorem aoo{r:Int}(p1:aF env.P 193 [.ag (G9 x an ad bn bd)] (.bool false))(p2:aF env.P 193 [.ag (G9 y cn cd dn dd)] (.bool true))(k:aF env.P 111 [.ag (G9 x an ad bn bd),T2 cn cd] (.int .i64 r)):aF env.P 110 [.ag (G9 x an ad bn bd), .ag (G9 y cn cd dn dd)] (.int .i64 r):=by
 simp only [G9]at *
 refine cD [(0, .ag (G9 x an ad bn bd)),(1, .ag (G9 y cn cd dn dd))] Tryz.func110 ?_
 refine aA [2,3] ?_
 refine nK ?_
 refine cU nx ?_
 refine cU ny ?_
 (try (refine bC (of_decide_eq_true (by kernel_rfl)) ?_));(try simp (maxSteps:=4000000) (disch:=omega) [gw]);(repeat rw [if_pos (by kernel_rfl)]);(try simp (maxSteps:=4000000) (disch:=omega) [gw])
 (try (refine bC (of_decide_eq_true (by kernel_rfl)) ?_));(try simp (maxSteps:=4000000) (disch:=omega) [gw]);(repeat rw [if_pos (by kernel_rfl)]);(try simp (maxSteps:=4000000) (disch:=omega) [gw])
 refine bG [2,3] ?_
 refine W.seq ?_
 refine W.block ?_
 refine aR [2,3,15] p1 ?_
 refine bJ ?_ ?_<;>intro h
 ·simp at h
 refine aR [2,3,23] p2 ?_
 refine bJ ?_ ?_<;>intro h
 ·refine aR [4] k ?_
  exact cC
 ·simp at h
set_option maxHeartbeats 4000000 in
theorem WL{g:List Int}{ln ld hn hd zd zl dg r:Int}{v w:PV}{hs:Bool}(p1:aF env.P 193 [.ag (G9 x an ad bn bd)] (.bool false))(p2:aF env.P 193 [.ag (G9 y cn cd dn dd)] (.bool false))
  (kM:aF env.P 90 [T2 an ad, .sl [[.bool (decide (cn<0)),us (aU LL cn.natAbs), .bool (decide (cd<0)),us (aU LL cd.natAbs)]]] (T2 ln ld)) (kD:aF env.P 86 [T2 dn dd,T2 bn bd] (.int .i64 zd)) (hh:if zd<0 then hn=dn∧hd=dd else hn=bn∧hd=bd) (kL:aF env.P 86 [T2 ln ld,T2 hn hd] (.int .i64 zl))
  (hG:zl<0→aF env.P 194 [.sl [[Po x],[Po y]]] (Po g)) (hD:zl<0→aF env.P 83 [Po g] (.int .i64 dg)) (hH:zl<0→0<dg→aF env.P 195 [Po g,T2 ln ld,T2 hn hd] (.bool hs)) (hr:zl<0∧0<dg∧hs=true→r=0)
  (hA:¬(zl<0∧0<dg∧hs=true)→aF env.P 196 [.ag (G9 x an ad bn bd), .ag (G9 y cn cd dn dd)] (.dU [v,w, .int .i64 r])) (hv:∃a b c d,v = .ag (G9 x a b c d)) (hw:∃a b c d,w = .ag (G9 y a b c d)) :
  aF env.P 110 [.ag (G9 x an ad bn bd), .ag (G9 y cn cd dn dd)] (.int .i64 r):=by
 obtain⟨va,vb,vc,vd,rfl⟩:=hv
 obtain⟨wa,wb,wc,wd,rfl⟩:=hw
 simp only [G9]at *
 refine cD [(0, .ag (G9 x an ad bn bd)),(1, .ag (G9 y cn cd dn dd))] Tryz.func110 ?_
 refine aA [2,3] ?_
 refine nK ?_
 refine cU nx ?_
 refine cU ny ?_
 (try (refine bC (of_decide_eq_true (by kernel_rfl)) ?_));(try simp (maxSteps:=4000000) (disch:=omega) [gw]);(repeat rw [if_pos (by kernel_rfl)]);(try simp (maxSteps:=4000000) (disch:=omega) [gw])
 (try (refine bC (of_decide_eq_true (by kernel_rfl)) ?_));(try simp (maxSteps:=4000000) (disch:=omega) [gw]);(repeat rw [if_pos (by kernel_rfl)]);(try simp (maxSteps:=4000000) (disch:=omega) [gw])
 refine bG [2,3] ?_
 refine W.seq ?_
 refine W.block ?_
 refine aR [2,3,15] p1 ?_
 refine bJ ?_ ?_<;>intro h
 ·simp at h
 refine aR [2,3,23] p2 ?_
 refine bJ ?_ ?_<;>intro h
 ·simp at h
 refine W.skip ?_
 refine nK ?_
 refine aC kM ?_
 simp (maxSteps:=4000000) (disch:=omega) [gw]
 (try (refine bC (of_decide_eq_true (by kernel_rfl)) ?_));(try simp (maxSteps:=4000000) (disch:=omega) [gw]);(repeat rw [if_pos (by kernel_rfl)]);(try simp (maxSteps:=4000000) (disch:=omega) [gw])
 (try (refine bC (of_decide_eq_true (by kernel_rfl)) ?_));(try simp (maxSteps:=4000000) (disch:=omega) [gw]);(repeat rw [if_pos (by kernel_rfl)]);(try simp (maxSteps:=4000000) (disch:=omega) [gw])
 refine bG [2,3,5,6] ?_
 refine W.iE (fun σ=>∃(v5 v6:Nat) (rows:Pm.Rows) (clk:Nat),σ=⟨fa [(2, .ptr 2 0 0 0),(3, .ptr 3 1 0 0),(5, .ptr 5 v5 0 0),(6, .ptr 6 v6 0 0)],rows,clk⟩∧rows 2=some ⟨0,54,9,[G9 x an ad bn bd]⟩∧rows 3=some ⟨1,54,9,[G9 y cn cd dn dd]⟩∧rows 5=some ⟨v5,52,4,[[.bool (decide (ln<0)),us (aU LL ln.natAbs), .bool (decide (ld<0)),us (aU LL ld.natAbs)]]⟩∧rows 6=some ⟨v6,52,4,[[.bool (decide (hn<0)),us (aU LL hn.natAbs), .bool (decide (hd<0)),us (aU LL hd.natAbs)]]⟩) ?_ ?_
 ·refine aR [2,3,5,6,42] kD ?_
  refine bJ ?_ ?_<;>intro h
  ·have h:zd<0:=by simpa using h
   rw [if_pos h]at hh
   obtain⟨rfl,rfl⟩:=hh
   refine W.cA (fun K hK=>?_);simp (disch:=omega) [gw]
   exact hK _ ⟨_,aB _ [2,3,5,6],_,_,_,_,rfl,by simp,by simp,by simp,by simp⟩
  ·have h:¬zd<0:=by simpa using h
   rw [if_neg h]at hh
   obtain⟨rfl,rfl⟩:=hh
   refine W.skip ?_
   exact⟨_,aB _ [2,3,5,6],_,_,_,_,rfl,by simp,by simp,by simp,by simp⟩
 rintro _ ⟨v5,v6,rows,clk,rfl,bS,b8,eB,pH⟩
 simp only [G9]at bS b8
 by_cases hz:zl<0∧0<dg∧hs=true
 ·have hG':=hG hz.1
  have hD':=hD hz.1
  have hH':=hH hz.1 hz.2.1
  obtain⟨z1,z2,rfl⟩:=hz
  rw [hr ⟨z1,z2,rfl⟩]
  refine W.seq ?_
  refine W.sr ?_
  simp (disch:=omega) [gw,eB,pH]
  refine cQ [2,3,5,6,48] kL ?_
  refine bJ ?_ ?_<;>intro h
  ·refine W.sr ?_
   simp (disch:=omega) [gw,bS,b8]
   refine cQ [2,3,5,6,7] hG' ?_
   refine jG ?_
   refine aC hD' ?_
   simp (disch:=omega) [gw,z2,eB,pH]
   refine cQ [2,3,63] hH' ?_
   refine bJ ?_ ?_<;>intro h
   ·refine aA [4] ?_
    exact cC
   ·simp at h
  ·exfalso;simp at h;omega
 ·have hA':=hA hz
  refine W.iE (fun σ=>∃(rows:Pm.Rows) (clk:Nat),σ=⟨fa [(2, .ptr 2 0 0 0),(3, .ptr 3 1 0 0)],rows,clk⟩∧rows 2=some ⟨0,54,9,[G9 x an ad bn bd]⟩∧rows 3=some ⟨1,54,9,[G9 y cn cd dn dd]⟩) ?_ ?_
  ·refine W.sr ?_
   simp (disch:=omega) [gw,eB,pH]
   refine cQ [2,3,5,6,48] kL ?_
   refine bJ ?_ ?_<;>intro h
   ·have h:zl<0:=by simpa using h
    have hG':=hG h
    have hD':=hD h
    have hH':=hH h
    refine W.sr ?_
    simp (disch:=omega) [gw,bS,b8]
    refine cQ [2,3,5,6,7] hG' ?_
    refine W.fA (fun σ=>∃(rows:Pm.Rows) (clk:Nat),σ=⟨fa [(2, .ptr 2 0 0 0),(3, .ptr 3 1 0 0),(63, .bool false)],rows,clk⟩∧rows 2=some ⟨0,54,9,[G9 x an ad bn bd]⟩∧rows 3=some ⟨1,54,9,[G9 y cn cd dn dd]⟩) (fun K hK=>?_) ?_
    ·by_cases h2:0<dg
     ·have hH2:=hH' h2
      have hf:hs=false:=by
       cases hs with
       | false=>rfl
       | true=>exact absurd ⟨h,h2,rfl⟩ hz
      subst hf
      simp (disch:=omega) [gw]
      refine aC hD' ?_
      simp (disch:=omega) [gw,h2,eB,pH]
      refine cU hH2 ?_
      refine hK _ _ (aB _ [2,3,63]) ⟨_,_,rfl,by simp [bS],by simp [b8]⟩
     ·simp (disch:=omega) [gw]
      refine aC hD' ?_
      simp (disch:=omega) [gw,h2]
      refine hK _ _ (aB _ [2,3,63]) ⟨_,_,rfl,by simp [bS],by simp [b8]⟩
    rintro _ ⟨rows,clk,rfl,bS,b8⟩
    refine bJ ?_ ?_<;>intro h
    ·simp at h
    refine W.skip ?_
    exact⟨_,aB _ [2,3],_,_,rfl,bS,b8⟩
   ·refine W.skip ?_
    exact⟨_,aB _ [2,3],_,_,rfl,by simp [bS],by simp [b8]⟩
  rintro _ ⟨rows,clk,rfl,bS,b8⟩
  simp only [G9]at bS b8
  refine W.sr ?_
  simp (disch:=omega) [gw,bS,b8]
  refine cQ [10] hA' ?_
  refine aA [4] ?_
  exact cC
end
theorem AN.DX{s n u:Nat}{f:ZX}{p:Rat × Rat}(a:AN s n u f p){t:Rat}{v:Nat}(qt:SQ v t)(huv:u≤v)(hv:v≤1000000000):aF env.P 111 [GA f p,RT t] (.int .i64 (cr (dI f p) t)):=by
 have I:=a.I
 have q1:=a.q1.mono huv
 have q2:=a.q2.mono huv
 have hp:=j4 (x:=f.l) q1 q2 hv
 have hc:=a.A.auC t
 by_cases hpt:p.1=p.2
 ·rw [decide_eq_true (by rw [hpt];exact Rat.le_refl)]at hp
  have z:=c7 q1.nL q1.dL qt.nL qt.dL (by omega) (aY p.1) (aY t) ⟨q1.nL,q1.dL⟩ ⟨qt.nL,qt.dL⟩
  have:=S9 hp z
  have e1:cr (dI f p) t=dH (p.1.num*(t.den:Int)) (t.num*(p.1.den:Int)):=by
   rw [hc,if_pos hpt]
   by_cases h2:p.1<t
   ·rw [if_pos h2,mJ (mZ.1 (gN.2 h2))]
   ·rw [if_neg h2]
    by_cases h3:t<p.1
    ·rw [if_pos h3,mK (rF.1 (gM.2 h3))]
    ·rw [if_neg h3,l8.2 (by grind)]
  rw [e1]
  exact this
 ·have dN:p.1<p.2:=by have:=a.A.le;grind
  rw [decide_eq_false (Rat.not_le.2 dN)]at hp
  rw [hc,if_neg hpt]
  by_cases h1:t≤p.1
  ·rw [if_pos h1]
   have z1:=c7 qt.nL qt.dL q1.nL q1.dL (by omega) (aY t) (aY p.1) ⟨qt.nL,qt.dL⟩ ⟨q1.nL,q1.dL⟩
   have z2:=c7 qt.nL qt.dL q2.nL q2.dL (by omega) (aY t) (aY p.2) ⟨qt.nL,qt.dL⟩ ⟨q2.nL,q2.dL⟩
   refine rZ hp z1 z2 (r5 f I.ch.bz (by have:=a.hs;omega) (by have:=I.ch.hn;omega) qt hv) (AS I (by have:=a.hs;omega) q1 hv) ?_
   rw [if_pos (pE.2 h1)]
  ·rw [if_neg h1]
   by_cases h2:p.2<t
   ·rw [if_pos h2]
    have z1:=c7 qt.nL qt.dL q1.nL q1.dL (by omega) (aY t) (aY p.1) ⟨qt.nL,qt.dL⟩ ⟨q1.nL,q1.dL⟩
    have z2:=c7 qt.nL qt.dL q2.nL q2.dL (by omega) (aY t) (aY p.2) ⟨qt.nL,qt.dL⟩ ⟨q2.nL,q2.dL⟩
    refine rZ hp z1 z2 (r5 f I.ch.bz (by have:=a.hs;omega) (by have:=I.ch.hn;omega) qt hv) (AS I (by have:=a.hs;omega) q1 hv) ?_
    rw [if_neg (fun h=>h1 (pE.1 h)),if_pos (gM.2 h2)]
   ·rw [if_neg h2]
    have k:=aer I (by have:=a.hs;omega) a.A (m:=t) (by grind) (by grind) q1 q2 qt hv
    have b1:=I.S.cR (show p.1≤t by grind)
    have e1:(if e t f=0 then 0 else if vt (bK f) t<vt (bK f) p.1 then -1 else 1:Int)=if vt (bK f) p.1=vt (bK f) t then 1 else if e t f=0 then 0 else -1:=by
     by_cases h3:e t f=0
     ·have:=I.S.root (show p.1<t by grind) h3
      rw [if_pos h3,if_neg (by omega),if_pos h3]
     ·rw [if_neg h3]
      by_cases h4:vt (bK f) t<vt (bK f) p.1
      ·rw [if_pos h4,if_neg (by omega),if_neg h3]
      ·rw [if_neg h4,if_pos (by omega)]
    rw [←e1]
    exact k
noncomputable def st(f h:ZX)(p q:Rat × Rat):Nat→(Rat × Rat) × (Rat × Rat)
 | 0=>(p,q)
 | j+1=>if (st f h p q j).2.2-(st f h p q j).2.1≤(st f h p q j).1.2-(st f h p q j).1.1 then(uX f (st f h p q j).1,(st f h p q j).2)else((st f h p q j).1,uX h (st f h p q j).2)
section
variable {f h:ZX} {p q:Rat × Rat} (A:s8 f (vt (bK f)) p.1 p.2) (B:s8 h (vt (bK h)) q.1 q.2) {D D':Nat} {b:Rat} (g1:Gr D b 0 p.1) (g2:Gr D b 0 p.2) (g3:Gr D' b 0 q.1) (g4:Gr D' b 0 q.2)
include A B g1 g2 g3 g4
theorem wU:∀j,s8 f (vt (bK f)) (st f h p q j).1.1 (st f h p q j).1.2∧s8 h (vt (bK h)) (st f h p q j).2.1 (st f h p q j).2.2∧(∀t,dI f (st f h p q j).1 t↔dI f p t)∧(∀t,dI h (st f h p q j).2 t↔dI h q t)∧Gr D b j (st f h p q j).1.1∧Gr D b j (st f h p q j).1.2∧Gr D' b j (st f h p q j).2.1∧Gr D' b j (st f h p q j).2.2
 | 0=>⟨A,B,fun _=>Iff.rfl,fun _=>Iff.rfl,g1,g2,g3,g4⟩
 | j+1=>by
  obtain⟨a1,a2,a3,a4,a5,a6,a7,a8⟩:=wU j
  rw [st]
  split
  ·obtain⟨b1,b2,_⟩:=kV a1
   obtain⟨c1,c2⟩:=TC (f:=f) a5 a6
   exact⟨b1,a2,fun t=>(b2 t).trans (a3 t),a4,c1,c2,a7.mono (by omega),a8.mono (by omega)⟩
  ·obtain⟨b1,b2,_⟩:=kV a2
   obtain⟨c1,c2⟩:=TC (f:=h) a7 a8
   exact⟨a1,b1,a3,fun t=>(b2 t).trans (a4 t),a5.mono (by omega),a6.mono (by omega),c1,c2⟩
theorem aew{W:Rat}(w1:p.2-p.1≤W)(w2:q.2-q.1≤W):∀i,((st f h p q (2*i)).1.2-(st f h p q (2*i)).1.1)*2^i≤W∧((st f h p q (2*i)).2.2-(st f h p q (2*i)).2.1)*2^i≤W
 | 0=>by rw [Rat.pow_zero,Rat.mul_one,Rat.mul_one];exact⟨w1,w2⟩
 | i+1=>by
  obtain⟨h1,h2⟩:=aew w1 w2 i
  have s0:=wU A B g1 g2 g3 g4 (2*i)
  have s1:=wU A B g1 g2 g3 g4 (2*i+1)
  have key:∀M:Rat,(st f h p q (2*i)).1.2-(st f h p q (2*i)).1.1≤M→(st f h p q (2*i)).2.2-(st f h p q (2*i)).2.1≤M→((st f h p q (2*i+2)).1.2-(st f h p q (2*i+2)).1.1)*2≤M∧((st f h p q (2*i+2)).2.2-(st f h p q (2*i+2)).2.1)*2≤M:=fun M m1 m2=>by
   have a1:=(kV s0.1).2.2.2.2
   have a2:=(kV s0.2.1).2.2.2.2
   have b1:=(kV s1.1).2.2.2.2
   have b2:=(kV s1.2.1).2.2.2.2
   have l1:=s1.1.le
   have l2:=s1.2.1.le
   have l3:=(kV s1.1).1.le
   have l4:=(kV s1.2.1).1.le
   have e2:st f h p q (2*i+2)=if (st f h p q (2*i+1)).2.2-(st f h p q (2*i+1)).2.1≤(st f h p q (2*i+1)).1.2-(st f h p q (2*i+1)).1.1 then(uX f (st f h p q (2*i+1)).1,(st f h p q (2*i+1)).2)else((st f h p q (2*i+1)).1,uX h (st f h p q (2*i+1)).2):=rfl
   have e1:st f h p q (2*i+1)=if (st f h p q (2*i)).2.2-(st f h p q (2*i)).2.1≤(st f h p q (2*i)).1.2-(st f h p q (2*i)).1.1 then(uX f (st f h p q (2*i)).1,(st f h p q (2*i)).2)else((st f h p q (2*i)).1,uX h (st f h p q (2*i)).2):=rfl
   rw [e2]
   generalize st f h p q (2*i+1)=t at *
   generalize st f h p q (2*i)=s at *
   clear e2 s0 s1 h1 h2
   split
   ·rename_i c
    show((uX f t.1).2-(uX f t.1).1)*2≤M∧(t.2.2-t.2.1)*2≤M
    split at e1
    ·subst e1;dsimp only at *;exact⟨by grind,by grind⟩
    ·subst e1;dsimp only at *;exact⟨by grind,by grind⟩
   ·rename_i c
    show(t.1.2-t.1.1)*2≤M∧((uX h t.2).2-(uX h t.2).1)*2≤M
    split at e1
    ·subst e1;dsimp only at *;exact⟨by grind,by grind⟩
    ·subst e1;dsimp only at *;exact⟨by grind,by grind⟩
  have hP:=gL i
  have e3:W/2^i*2^i=W:=Rat.div_mul_cancel (Rat.ne_of_gt hP)
  have hle:∀x:Rat,x*2^i≤W→x≤W/2^i:=fun x hx=>Rat.le_of_mul_le_mul_right (by rw [e3];exact hx) hP
  obtain⟨k1,k2⟩:=key (W/2^i) (hle _ h1) (hle _ h2)
  rw [show 2*(i+1)=2*i+2 by omega,Rat.pow_succ]
  have m1:=Rat.mul_le_mul_of_nonneg_right k1 (Rat.le_of_lt hP)
  have m2:=Rat.mul_le_mul_of_nonneg_right k2 (Rat.le_of_lt hP)
  rw [e3]at m1 m2
  exact⟨by grind,by grind⟩
end
theorem ah2{U V:Rat→Prop}{x y:Rat}(hU:∀s t,U s→s≤t→U t)(hx:U x)(hy:∀t,V t→y≤t)(r8:x≤y)(nJ:¬ ∀t,U t↔V t):cu U V = -1:=by
 unfold cu
 refine if_pos (Classical.byContradiction fun zY=>nJ fun t=>⟨fun h=>Classical.byContradiction fun h2=>zY ⟨t,h,h2⟩,fun h=>hU x t hx ?_⟩)
 have:=hy t h
 grind
theorem ah3{U V:Rat→Prop}{x y:Rat}(hV:∀s t,V s→s≤t→V t)(hx:V x)(hy:∀t,U t→y≤t)(r8:x≤y)(nJ:¬ ∀t,U t↔V t):cu U V=1:=by
 have h1:∀t,U t→V t:=fun t h=>hV x t hx (by have:=hy t h;grind)
 unfold cu
 rw [if_neg (fun ⟨t,h2,h3⟩=>h3 (h1 t h2))]
 exact if_pos (Classical.byContradiction fun zY=>nJ fun t=>⟨h1 t,fun h=>Classical.byContradiction fun h2=>zY ⟨t,h,h2⟩⟩)
theorem lo_le{f:ZX}{v:Rat→Nat}{lo hi:Rat}(A:s8 f v lo hi){t:Rat}(h:jE v lo hi t):lo≤t:=Rat.not_lt.1 fun h2=>A.oN (.inl h2) h
theorem aex{s n u s' n' u':Nat}{f h:ZX}{p q:Rat × Rat}(a:AN s n u f p)(b:AN s' n' u' h q)(nJ:¬ ∀x,dI f p x↔dI h q x)(hp:p.1<p.2)(hq:q.1<q.2){M:Nat}(hM:64+4*(ZX.N f+ZX.N h)*(zs f+zs h+(ZX.N f+ZX.N h)+8)≤M) :
  ∃J,J<M∧((st f h p q J).1.2≤(st f h p q J).2.1∨(st f h p q J).2.2≤(st f h p q J).1.1) ∧ ∀j,j<J→¬((st f h p q j).1.2≤(st f h p q j).2.1∨(st f h p q j).2.2≤(st f h p q j).1.1):=by
 have I:=a.I
 have I':=b.I
 have A:=a.A
 have B:=b.A
 have n8:=a.n8
 have m8:=b.n8
 have n2:=aet I.nf A
 have m2:=aet I'.nf B
 have fz:=OT I.ch.bz
 have hz:=OT I'.ch.bz
 have bf:=J6 I.nf fz
 have bh:=J6 I'.nf hz
 have hA:∀c∈f.l,c.natAbs≤2^zs f:=fun c hc=>Nat.le_of_lt (BZ.lt fz c hc)
 have hB:∀c∈h.l,c.natAbs≤2^zs h:=fun c hc=>Nat.le_of_lt (BZ.lt hz c hc)
 obtain⟨D,_,_,g1,g2⟩:=OP (a.q1.mono (show u≤u+u' by omega)) (a.q2.mono (show u≤u+u' by omega))
 obtain⟨D',_,_,g3,g4⟩:=OP (b.q1.mono (show u'≤u+u' by omega)) (b.q2.mono (show u'≤u+u' by omega))
 obtain⟨z,hz1,tZ,hz3⟩:∃z,z≤zs f∧z≤zs h∧(z=zs f∨z=zs h):=by
  rcases Nat.le_total (zs f) (zs h)with h1 | h1
  ·exact⟨zs f,Nat.le_refl _,h1, .inl rfl⟩
  ·exact⟨zs h,h1,Nat.le_refl _, .inr rfl⟩
 have e1:=G2 n2 m2 n8 m8 hz1 tZ
 have e2:=G2 m2 n2 m8 n8 tZ hz1
 have e3:(2*lk (zs f) (ZX.N f) 3 (z+2)+2*(zs f+zs h)+9≤64+4*(ZX.N f+ZX.N h)*(zs f+zs h+(ZX.N f+ZX.N h)+8))∨(2*lk (zs h) (ZX.N h) 3 (z+2)+2*(zs f+zs h)+9≤64+4*(ZX.N f+ZX.N h)*(zs f+zs h+(ZX.N f+ZX.N h)+8)):=by
  have sw:4*(ZX.N h+ZX.N f)*(zs h+zs f+(ZX.N h+ZX.N f)+8)=4*(ZX.N f+ZX.N h)*(zs f+zs h+(ZX.N f+ZX.N h)+8):=by rw [Nat.add_comm (ZX.N h),Nat.add_comm (zs h)]
  rcases Nat.le_total (zs f) (zs h)with h1 | h1
  ·have hz':z=zs f:=by omega
   subst hz'
   rcases Nat.lt_or_ge 2 (ZX.N h)with h2 | h2
   ·exact .inl (G3 n2 m2 n8 h1 (.inl h2))
   ·exact .inr (G4 n2 n8 h1 (by omega))
  ·have hz':z=zs h:=by omega
   subst hz'
   rcases Nat.lt_or_ge 2 (ZX.N f)with h2 | h2
   ·have:=G3 m2 n2 m8 h1 (.inl h2)
    rw [sw,Nat.add_comm (zs h) (zs f)]at this
    exact .inr this
   ·have:=G4 (m:=ZX.N f) m2 m8 h1 (by omega)
    rw [sw,Nat.add_comm (zs h) (zs f)]at this
    exact .inl this
 have sw:4*(ZX.N h+ZX.N f)*(zs h+zs f+(ZX.N h+ZX.N f)+8)=4*(ZX.N f+ZX.N h)*(zs f+zs h+(ZX.N f+ZX.N h)+8):=by rw [Nat.add_comm (ZX.N h),Nat.add_comm (zs h)]
 rw [sw]at e2
 generalize 64+4*(ZX.N f+ZX.N h)*(zs f+zs h+(ZX.N f+ZX.N h)+8)=T at *
 obtain⟨K,hK⟩:∃K,K=(T-1)/2-(zs f+zs h+3):=⟨_,rfl⟩
 have hi:2*(K+1+(zs f+zs h+2))<T:=by omega
 have k1:se (zs f) (zs h) (ZX.N f) (ZX.N h) (z+2)≤K:=by omega
 have k2:se (zs h) (zs f) (ZX.N h) (ZX.N f) (z+2)≤K:=by omega
 have k3:lk (zs f) (ZX.N f) 3 (z+2)≤K∨lk (zs h) (ZX.N h) 3 (z+2)≤K:=by omega
 generalize hie:K+1+(zs f+zs h+2)=i at *
 have DF:(st f h p q (2*i)).1.2≤(st f h p q (2*i)).2.1∨(st f h p q (2*i)).2.2≤(st f h p q (2*i)).1.1:=by
  refine Classical.byContradiction fun zY=>nJ ?_
  obtain⟨c1,c2⟩:=not_or.1 zY
  have w0:∀ {r:Rat × Rat} {y:Nat},Ab r.1 (2^(y+1))→Ab r.2 (2^(y+1))→y≤zs f+zs h→r.2-r.1≤2^(zs f+zs h+2):=fun {r y} ⟨x1,x2⟩ ⟨x3,x4⟩ hy=>by
   refine Rat.le_trans ?_ (GZ (show y+1+1≤zs f+zs h+2 by omega))
   rw [Rat.pow_succ];grind
  obtain⟨w1,w2⟩:=aew A B g1 g2 g3 g4 (w0 (a.b1 hp) (a.b2 hp) (by omega)) (w0 (b.b1 hq) (b.b2 hq) (by omega)) i
  obtain⟨s1,s2,s3,s4,_⟩:=wU A B g1 g2 g3 g4 (2*i)
  generalize st f h p q (2*i)=t at *
  have l1:=s1.le
  have l2:=s2.le
  obtain⟨S,hS,hS1,hS2⟩:∃S,(S=t.1.1∨S=t.2.1)∧S≤t.1.1∧S≤t.2.1:=by
   by_cases hh:t.1.1≤t.2.1
   ·exact⟨_, .inl rfl,Rat.le_refl,hh⟩
   ·exact⟨_, .inr rfl,by grind,Rat.le_refl⟩
  obtain⟨E,hE,hE1,hE2⟩:∃E,(E=t.1.2∨E=t.2.2)∧t.1.2≤E∧t.2.2≤E:=by
   by_cases hh:t.1.2≤t.2.2
   ·exact⟨_, .inr rfl,hh,Rat.le_refl⟩
   ·exact⟨_, .inl rfl,Rat.le_refl,by grind⟩
  have hP:=gL (zs f+zs h+2)
  have nar:∀x:Rat,x*2^i≤2^(zs f+zs h+2)→x*2^(K+1)≤1:=fun x hx=>by
   rw [←hie,p0 (K+1),←Rat.mul_assoc]at hx
   refine Rat.le_of_mul_le_mul_right ?_ hP
   rw [Rat.one_mul];exact hx
  have hd:(E-S)*2^K≤1:=by
   have n1:=nar _ w1
   have n2:=nar _ w2
   have hPK:=gL K
   rw [Rat.pow_succ]at n1 n2
   have:E-S≤(t.1.2-t.1.1)+(t.2.2-t.2.1):=by rcases hS with rfl | rfl<;>rcases hE with rfl | rfl<;>grind
   have:=Rat.mul_le_mul_of_nonneg_right this (Rat.le_of_lt hPK)
   grind
  have a1:¬dI f p S:=fun hh2=>s1.oN (by grind) ((s3 S).2 hh2)
  have b1:¬dI h q S:=fun hh2=>s2.oN (by grind) ((s4 S).2 hh2)
  have a2:dI f p E:=(s3 E).1 (s1.up kU hE1)
  have b2:dI h q E:=(s4 E).1 (s2.up kU hE2)
  have hSE:=(fT A).lt a1 a2
  have h1:E-S≤1:=by
   have:=Rat.mul_le_mul_of_nonneg_left (p7 K) (show 0≤E-S by grind)
   grind
  have bd:Ab S (2^(z+2))∧Ab E (2^(z+2)):=by
   have main:∀b:Rat,Ab b (2^(z+1))→S<b → -b<E→Ab S (2^(z+2))∧Ab E (2^(z+2)):=fun b ⟨y1,y2⟩ y3 y4=>by
    have y5:=p7 (z+1)
    rw [show z+2=z+1+1 by omega,Rat.pow_succ]
    generalize (2:Rat)^(z+1)=T at *
    exact⟨⟨by grind,by grind⟩,⟨by grind,by grind⟩⟩
   rcases hz3 with rfl | rfl
   ·exact main _ bf ((J7 I.nf A).2 a1) ((J7 I.nf A).1 a2)
   ·exact main _ bh ((J7 I'.nf B).2 b1) ((J7 I'.nf B).1 b2)
  exact ah0 I.nf I'.nf I.Z4 I'.Z4 A B hA hB (Nat.le_refl _) (Nat.le_refl _) n8 m8 k1 k2 k3 bd.1 bd.2 a1 a2 b1 b2 hd
 obtain⟨J,hJ,hj,iQ⟩:=uU (fun j=>(st f h p q j).1.2≤(st f h p q j).2.1∨(st f h p q j).2.2≤(st f h p q j).1.1) (2*i+1)
 have hJ2:J<2*i+1:=Nat.not_le.1 fun hh=>hj (2*i) (by omega) DF
 exact⟨J,by omega,iQ hJ2,hj⟩
def gg(x:ZX × Rat × Rat):List PV:=Po x.1.l::(tc x.2.1++tc x.2.2)
@[simp] theorem azO{x:ZX × Rat × Rat}:gg x=Po x.1.l::(tc x.2.1++tc x.2.2):=rfl
@[simp] theorem aqp{l:List (ZX × Rat × Rat)}:bH 9 (emap gg l)=True:=cH fun _=>rfl
@[simp] theorem aop{v e n:Nat}{l:List (ZX × Rat × Rat)}:cW (some ⟨v,e,n,emap gg l⟩)=True:=bU fun _=>rfl
abbrev aey:PV:=.ag [.sl [], .bool false, .sl [], .bool false, .sl [], .bool false, .sl [], .bool false, .sl []]
theorem aaf{f:ZX}{p:Rat × Rat}(S:s7 f (vt (bK f)))(h:vt (bK f) p.1=vt (bK f) p.2+1)(t:Rat):dI f p t↔vt (bK f) t≤vt (bK f) p.2:=by
 refine⟨fun hh=>?_,fun hh=>?_⟩
 ·rcases hh with hh | ⟨_,hh⟩
  ·exact S.cR hh
  ·omega
 ·refine .inr ⟨?_,by omega⟩
  refine Rat.not_le.1 fun h2=>?_
  have:=S.cR h2
  omega
theorem yB{v:Rat→Nat}{D:Nat}{B δ:Rat}(C:Cut v B δ):∀(k j:Nat) (lo hi:Rat),Gr D B j lo→Gr D B j hi→lo<hi→hi-lo≤δ*2^k → ∀i,i<(KL v k lo hi).length→v (nth (KL v k lo hi) i).2+i+1=v lo
 | 0,j,lo,hi,g1,g2,h,hd,i,lV=>by
  rw [KL]at lV ⊢
  split at lV
  ·cases lV
  ·rename_i he
   rw [if_neg he]
   have:=C.leaf g1.b g2.b h (by rw [Rat.pow_zero,Rat.mul_one]at hd;exact hd) he
   simp at lV;subst lV
   show v hi+0+1=v lo
   omega
 | k+1,j,lo,hi,g1,g2,h,hd,i,lV=>by
  rw [KL]at lV ⊢
  by_cases he:v lo=v hi
  ·rw [if_pos he]at lV;cases lV
  ·rw [if_neg he]at lV ⊢
   by_cases JC:v lo=v hi+1
   ·rw [if_pos JC]at lV ⊢
    simp at lV;subst lV
    show v hi+0+1=v lo
    omega
   ·rw [if_neg JC]at lV ⊢
    obtain⟨m1,m2⟩:=x9 h
    obtain⟨d1,d2⟩:=wP hd
    have gm:=g1.KI g2
    have a:=yB C k (j+1) lo ((lo+hi)/2) (g1.mono (by omega)) gm m1 d1
    have b:=yB C k (j+1) ((lo+hi)/2) hi gm (g2.mono (by omega)) m2 d2
    obtain⟨_,l1,_⟩:=sV C k (j+1) lo ((lo+hi)/2) (g1.mono (by omega)) gm m1 d1
    have n1:=C.cR lo ((lo+hi)/2) (Rat.le_of_lt m1)
    generalize (lo+hi)/2=m at *
    rw [List.length_append]at lV
    rcases Nat.lt_or_ge i (KL v k lo m).length with h3 | h3
    ·have h4:=a i h3
     rw [cB (by rw [List.length_append];omega),List.getElem_append_left h3,←cB h3]
     exact h4
    ·have h4:=b (i-(KL v k lo m).length) (by omega)
     rw [cB (by rw [List.length_append];omega),List.getElem_append_right h3,←cB]
     omega
namespace pD
variable {s n:Nat} {f:ZX} (I:pD s n f)
include I
theorem aag(i:Nat)(hi:i<(JZ s n f).length):vt (bK f) (nth (JZ s n f) i).2+i+1=vt (bK f) (-g9 f.l):=by
 obtain⟨δ,h1,h2,C⟩:=I.cut (s+1)
 exact yB C (lvl s n) 0 _ _ I.JY I.DW I.WA (I.width h2) i hi
theorem aks(x:Rat):vt (bK f) x≤vt (bK f) (-g9 f.l):=by
 by_cases h:x < -g9 f.l
 ·exact Nat.le_of_eq (I.S.bg (a:=x) (b := -g9 f.l) ⟨1,by decide,fun y _ h2=>(mQ f.c I.f0 (.inl h2)).1⟩ h)
 ·exact I.S.cR (Rat.not_lt.1 h)
theorem auW(x:Rat):vt (bK f) (g9 f.l)≤vt (bK f) x:=by
 by_cases h:g9 f.l<x
 ·exact Nat.le_of_eq (I.S.bg (a:=g9 f.l) (b:=x) ⟨1,by decide,fun y h2 _=>(mQ f.c I.f0 (.inr h2)).1⟩ h)
 ·exact I.S.cR (Rat.not_lt.1 h)
theorem TH(i:Nat)(hi:i<(JZ s n f).length)(t:Rat):dI f (nth ((JZ s n f).map (ex f)) i) t↔vt (bK f) t+i+1≤vt (bK f) (-g9 f.l):=by
 obtain⟨a1,a2,a3,a4,a5,a6⟩:=I.ivs.mem _ (b7 hi)
 have hl:=I.aag i hi
 rw [DZ hi]
 refine((AR ⟨I.S, .inr ⟨a4,a6⟩⟩).2 t).trans ?_
 rw [aaf I.S a6]
 omega
end pD
end Go.Proofs.YtiobceocpabjdaaGreat
namespace Go.Proofs.YtiobceocpabjdaaGreat
open Go Pm
open ZX hiding N W
theorem aez{s n:Nat}{f:ZX}(I:pD s n f)(h:ZX)(hC:(qb (qb s n) n+n+6)*4^n≤4500000000)(hq:qb s n≤5000000):pD (qb s n) n (gz h f):=by
 have nd:Nf (gz h f):=GN (.inr I.nf.ne)
 have hd:dv (gz h f) f:=(fG h f).r
 obtain⟨w,nw,e⟩:=I.nf.quo nd hd
 have hD:bT f=bT w*gz h f+w*bT (gz h f):=by
  have h1:=congrArg bT e
  rwa [sM]at h1
 refine⟨⟨I.lay.dv I.nf nd hd,I.lay.hn,Nat.le_trans I.lay.hs (Nat.pow_le_pow_right (by decide) (by unfold qb;omega)),hC⟩,I.AG,nd,J0 nd fun d h1 h2=>I.Z4 d (h1.trans hd) (by rw [hD];exact(h1.mul_left _).add (h2.mul_left _)),hq⟩
theorem pD.root{s n:Nat}{f:ZX}(I:pD s n f){p:Rat × Rat}(hp:p∈JZ s n f):SQ (uu s) p.1∧SQ (uu s) p.2∧s8 f (vt (bK f)) (ex f p).1 (ex f p).2∧SQ (uu s) (ex f p).1∧SQ (uu s) (ex f p).2:=by
 obtain⟨a1,a2,a3,a4,a5,a6⟩:=I.ivs.mem _ hp
 refine⟨a1,a2,(AR ⟨I.S, .inr ⟨a4,a6⟩⟩).1,?_,?_⟩<;>(unfold ex;split<;>assumption)
end Go.Proofs.YtiobceocpabjdaaGreat
