import Derived.Test.YtelhfbikiccfkaaGreatCap
import Derived.Test.YtelhfbikiccfkaaGreatCas
set_option linter.unusedSimpArgs false
set_option linter.unusedVariables false
namespace Go.Proofs.YtelhfbikiccfkaaGreat
open Go Pm
open ZX hiding N W
theorem HU{n k:Nat}(h:n<2^k):0≤bl (aN LL n)∧bl (aN LL n)≤k∧n<2^(bl (aN LL n)).toNat:=by
 have hV:=kG fV n
 have hL:=fD fV n
 have hc:=jW fV n
 generalize aN LL n=l at *
 unfold bl
 by_cases h0:l = []
 ·subst h0
  simp [V]at hV
  rw [if_pos rfl]
  exact⟨by omega,by omega,by simp;omega⟩
 ·rw [if_neg h0]
  have hl:=List.length_pos_iff.2 h0
  obtain⟨j,hj⟩:∃j,l.length=j+1:=⟨l.length-1,by omega⟩
  rw [hj,show j+1-1=j by omega]
  have e:=bI (l:=l) (i:=j) (by omega)
  rw [List.take_of_length_le (by omega)]at e
  have ht:=hL.nth (i:=j) (by omega)
  have hVt:=o8 (b:=(LL:Int)) (by decide) (hL.take j)
  have R7:V (LL:Int) l=V (LL:Int) (l.take j)+(LL:Int)^j*nth l j:=by
   conv=>lhs;rw [e]
   rw [dZ,show(l.take j).length=j by rw [List.length_take];omega]
   simp [V]
  have XR:=lG (b:=(LL:Int)) (by decide) hL hc h0
  rw [hj,show j+1-1=j by omega]at XR
  rw [show(l.take j).length=j by rw [List.length_take];omega]at hVt
  have eP:((LL:Int)^j)=((2^(32*j):Nat):Int):=by
   rw [Nat.pow_mul,Int.natCast_pow]
  rw [eP]at hVt R7 XR
  have hnl:=n9 (n:=(nth l j).toNat) (k:=nb (nth l j).toNat)
  have hnk:=n9 (n:=(nth l j).toNat) (k:=k-32*j)
  have hT:=hnl.1 (Nat.le_refl _)
  have e3:(32*(((j+1:Nat):Int)-1)+((nb (nth l j).toNat:Nat):Int)).toNat=32*j+nb (nth l j).toNat:=by omega
  have hP:=Nat.two_pow_pos (32*j)
  have hkj:32*j<k:=Nat.not_le.1 fun hh=>by
   have:=Nat.pow_le_pow_right (show 0<2 by decide) hh
   omega
  have e4:2^(32*j)*2^(k-32*j)=2^k:=by rw [←Nat.pow_add,show 32*j+(k-32*j)=k by omega]
  have hV0:0≤V (LL:Int) (l.take j):=bN (by decide) (hL.take j)
  refine⟨by omega,?_,?_⟩
  ·have:(nth l j).toNat<2^(k-32*j):=Nat.not_le.1 fun hh=>by
    have h2:=Nat.mul_le_mul_left (2^(32*j)) hh
    have h3:((2^(32*j):Nat):Int)*nth l j=((2^(32*j)*(nth l j).toNat:Nat):Int):=by rw [Int.natCast_mul];congr 1;omega
    omega
   have:=hnk.2 this
   omega
  ·rw [e3,Nat.pow_add]
   have h2:2^(32*j)*((nth l j).toNat+1)≤2^(32*j)*2^nb (nth l j).toNat:=Nat.mul_le_mul_left _ hT
   have h3:((2^(32*j):Nat):Int)*nth l j=((2^(32*j)*(nth l j).toNat:Nat):Int):=by rw [Int.natCast_mul];congr 1;omega
   rw [Nat.mul_add,Nat.mul_one]at h2
   omega
theorem sS{x:Int}{k:Nat}(h:x.natAbs<2^k)(hk:k≤1000000000):aD env.P 237 [us (aN LL x.natAbs)] (.int .i64 (bl (aN LL x.natAbs))):=by
 have h1:=MY (aN LL x.natAbs) ⟨fD fV _,by
  have h2:x.natAbs<LL^k:=Nat.lt_of_lt_of_le h (Nat.pow_le_pow_left (by decide) k)
  have:=AY fV h2
  omega⟩
 rwa [jW fV]at h1
def zs(f:ZX):Nat:=(LH f.l f.l.length).toNat
theorem xG{x:List Int}{k:Nat}(h:∀c∈x,c.natAbs<2^k):∀i,i≤x.length→0≤LH x i∧LH x i≤k ∧ ∀j,j<i→(nth x j).natAbs<2^(LH x i).toNat
 | 0,_=>⟨Int.le_refl _,by show(0:Int)≤k;omega,fun j hj=>absurd hj (Nat.not_lt_zero _)⟩
 | i+1,hi=>by
  obtain⟨h1,h2,h3⟩:=xG h i (by omega)
  obtain⟨g1,g2,g3⟩:=HU (h (nth x i) (bP (by omega)))
  rw [LH]
  have key:∀ {a:Nat} {y z:Int},y≤z→a<2^y.toNat→a<2^z.toNat:=fun hyz ha=>Nat.lt_of_lt_of_le ha (Nat.pow_le_pow_right (by decide) (by omega))
  split
  ·refine⟨g1,g2,fun j hj=>?_⟩
   rcases Nat.lt_or_ge j i with hh | hh
   ·exact key (by omega) (h3 j hh)
   ·rw [show j=i by omega];exact g3
  ·refine⟨h1,h2,fun j hj=>?_⟩
   rcases Nat.lt_or_ge j i with hh | hh
   ·exact h3 j hh
   ·rw [show j=i by omega];exact key (by omega) g3
section
variable {s n:Nat} {f:ZX} (b:BZ s n f)
include b
theorem BZ.lt:∀c∈f.l,c.natAbs<2^s:=fun c hc=>Nat.lt_of_lt_of_le (iH (by decide) c) (Nat.pow_le_pow_right (by decide) (b.sz c hc))
theorem HV:zs f≤s:=by
 have:=(xG b.lt _ (Nat.le_refl _)).2.1
 unfold zs;omega
theorem auG:∀c∈f.l,c.natAbs<2^zs f:=fun c hc=>by
 obtain⟨i,hi,rfl⟩:=List.getElem_of_mem hc
 rw [←dD hi]
 exact(xG b.lt _ (Nat.le_refl _)).2.2 i hi
theorem PL:BZ (zs f) n f:=⟨b.N,fun c hc=>dE (by decide) (auG b c hc)⟩
theorem PM(hs:s≤1000000000)(hn:n≤50):aD env.P 238 [Po f.l] (.int .i64 ((zs f:Nat):Int)):=by
 have h1:=xG b.lt _ (Nat.le_refl _)
 have:=aav (x:=f.l) (by have:=b.N;show ZX.N f<_;omega) fun i hi=>by
  have h2:=b.lt _ (bP hi)
  obtain⟨g1,g2,_⟩:=HU h2
  exact⟨sS h2 hs,g1,by omega⟩
 rw [show((zs f:Nat):Int)=LH f.l f.l.length by unfold zs;omega]
 exact this
end
theorem HW{s k s' k' u:Nat}{f h:ZX}(bf:BZ s k f)(bh:BZ s' k' h)(hs:s≤1000000000)(AD:s'≤1000000000)(hk:k≤50)(vH:k'≤50){an ad bn bd cn cd dn dd:Int}(h1:an.natAbs<2^u)(h2:bn.natAbs<2^u)(h3:cn.natAbs<2^u)(h4:dn.natAbs<2^u)(hu:u≤1000000000) :
  ∃N:Nat,aD env.P 186 [.ag (G9 f.l an ad bn bd), .ag (G9 h.l cn cd dn dd)] (.int .i64 N)∧64+4*(ZX.N f+ZX.N h)*(zs f+zs h+(ZX.N f+ZX.N h)+8)≤N∧N≤64+8*u+4*(ZX.N f+ZX.N h)*(zs f+zs h+(ZX.N f+ZX.N h)+8):=by
 obtain⟨a1,a2,_⟩:=HU h1
 obtain⟨b1,b2,_⟩:=HU h2
 obtain⟨c1,c2,_⟩:=HU h3
 obtain⟨d1,d2,_⟩:=HU h4
 have z1:=HV bf
 have z2:=HV bh
 have n1:=bf.N
 have n2:=bh.N
 have R:=UF (ad:=ad) (bd:=bd) (cd:=cd) (dd:=dd) (show f.l.length≤50 by show ZX.N f≤_;omega) (show h.l.length≤50 by show ZX.N h≤_;omega) (sS h1 hu) (sS h2 hu) (sS h3 hu) (sS h4 hu) ⟨a1,by omega⟩ ⟨b1,by omega⟩ ⟨c1,by omega⟩ ⟨d1,by omega⟩ (PM bf hs hk) (PM bh AD vH) ⟨by omega,by omega⟩ ⟨by omega,by omega⟩
 have e1:4*((f.l.length:Int)+h.l.length)*((zs f:Int)+zs h+((f.l.length:Int)+h.l.length)+8)=((4*(ZX.N f+ZX.N h)*(zs f+zs h+(ZX.N f+ZX.N h)+8):Nat):Int):=by
  show 4*((ZX.N f:Int)+(ZX.N h:Nat))*_=_
  simp only [Int.natCast_mul,Int.natCast_add]
  rfl
 rw [e1]at R
 generalize 4*(ZX.N f+ZX.N h)*(zs f+zs h+(ZX.N f+ZX.N h)+8)=M at *
 generalize bl (aN LL an.natAbs)=x1 at *
 generalize bl (aN LL bn.natAbs)=x2 at *
 generalize bl (aN LL cn.natAbs)=x3 at *
 generalize bl (aN LL dn.natAbs)=x4 at *
 refine⟨64+2*(x1+x2+x3+x4).toNat+M,?_,by omega,by omega⟩
 have e2:(((64+2*(x1+x2+x3+x4).toNat+M:Nat)):Int)=64+2*(x1+x2+x3+x4)+(M:Int):=by omega
 rw [e2]
 exact R
theorem qP(P:Nat→Prop):∀N,∃J,J≤N∧(∀j,j<J→¬P j)∧(J<N→P J)
 | 0=>⟨0,Nat.le_refl _,fun j h=>absurd h (Nat.not_lt_zero _),fun h=>absurd h (Nat.lt_irrefl _)⟩
 | N+1=>by
  obtain⟨J,h1,h2,h3⟩:=qP P N
  by_cases hJ:J<N
  ·exact⟨J,by omega,h2,fun _=>h3 hJ⟩
  ·have:J=N:=by omega
   subst this
   by_cases hP:P J
   ·exact⟨J,by omega,h2,fun _=>hP⟩
   ·exact⟨J+1,by omega,fun j hj=>by
     rcases Nat.lt_or_ge j J with h | h
     ·exact h2 j h
     ·rw [show j=J by omega];exact hP,fun h=>by omega⟩
theorem j4{x:List Int}{u:Nat}{p:Rat × Rat}(q1:SQ u p.1)(q2:SQ u p.2)(hu:u≤1000000000):aD env.P 183 [.ag (G9 x p.1.num p.1.den p.2.num p.2.den)] (.bool (decide (p.2≤p.1))):=by
 have z0:=cZ q1.nL q1.dL q2.nL q2.dL (by omega) (bA p.1) (bA p.2) ⟨q1.nL,q1.dL⟩ ⟨q2.nL,q2.dL⟩
 have hp:=vE (x:=x) z0
 have e:decide (0≤dF (p.1.num*(p.2.den:Int)) (p.2.num*(p.1.den:Int)))=decide (p.2≤p.1):=decide_eq_decide.2 (by
  have:=gH (p:=p.1) (q:=p.2)
  rw [←Rat.not_lt,←this]
  omega)
 rwa [e]at hp
theorem yS{u:Nat}{t:Rat}(q:SQ u t)(hu:u≤1000000000):aD env.P 94 [RT t, .sl []] (RT t):=by
 obtain⟨l1,l2⟩:=q.LLt (show u<1099511627770 by omega)
 have:=w6 l1 l2
 rwa [bA]at this
theorem sU{s n u:Nat}{f:ZX}{p:Rat × Rat}(b:BZ s n f)(hs:s≤1000000000)(hn:n≤50)(q1:SQ u p.1)(q2:SQ u p.2)(hu:u≤1000000000):aD env.P 182 [GA f p] (GA f p):=by
 have N1:=fU (x:=f.l) (b.pb (by omega) (by omega))
 rw [f.c]at N1
 exact aat N1 (yS q1 hu) (yS q2 hu)
theorem aaw{x:List Int}{an ad bn bd:Int}(hq:aD env.P 68 [Po []] (Po []))(hN:aD env.P 182 [.ag (G9 x an ad bn bd)] (.ag (G9 x an ad bn bd))):aD env.P 105 [Po [], .ag (G9 x an ad bn bd)] (.int .i64 0):=by
 simp only [G9]at *
 refine bY [(0,Po []),(1, .ag (G9 x an ad bn bd))] Tryz.func105 ?_
 refine aA [0,3] ?_
 refine mP ?_
 refine cB hq ?_
 refine aB hN ?_
 (try (refine a9 (of_decide_eq_true (by kernel_rfl)) ?_));(try simp (maxSteps:=4000000) (disch:=omega) [gw]);(repeat rw [if_pos (by kernel_rfl)]);(try simp (maxSteps:=4000000) (disch:=omega) [gw])
 (try (refine a9 (of_decide_eq_true (by kernel_rfl)) ?_));(try simp (maxSteps:=4000000) (disch:=omega) [gw]);(repeat rw [if_pos (by kernel_rfl)]);(try simp (maxSteps:=4000000) (disch:=omega) [gw])
 refine bL [0,3] ?_
 refine aL [0,3,14] ?_
 refine bC ?_ ?_<;>intro h
 ·refine aA [4] ?_
  exact bV
 ·simp at h
structure AN(s n u:Nat)(f:ZX)(p:Rat × Rat):Prop where
 I:kR s n f
 hs:s≤100000
 A:j7 f (vt (aT f)) p.1 p.2
 q1:SQ u p.1
 q2:SQ u p.2
 hu:u≤30000000
 n8:ZX.N f≤8
 b1:p.1<p.2→Ab p.1 (2^(zs f+1))
 b2:p.1<p.2→Ab p.2 (2^(zs f+1))
structure SgC(s' k:Nat)(f q:ZX):Prop where
 bq:BZ s' k q
 hs:s'≤100000
 hk:k≤31
 q8:ZX.N q≤8
 hG:aD env.P 184 [.sl [[Po q.l],[Po f.l]]] (Po (gz q f).l)
 IG:2≤ZX.N (gz q f) → ∃sg ng,kR sg ng (gz q f)∧sg≤1000000
 hC:q≠0 → ∃sc nc,Ch sc nc (sq q)
 azH:q≠0→aD env.P 73 [Po q.l] (.eB [CH (aT (sq q)), .int .i64 0])
theorem AN.stop{s n u s' k N:Nat}{f q g w:ZX}{p r:Rat × Rat}(a:AN s n u f p)(bq:BZ s' k q)(m8:ZX.N q≤8)(q0:q≠0)(S:nS f (sq q) g w)(dA:p.1<p.2)(hγ:vt (aT g) p.1=vt (aT g) p.2)(A':j7 f (vt (aT f)) r.1 r.2)(k3:p.1≤r.1)(k4:r.2≤p.2)(k5:(r.2-r.1)*2^N≤p.2-p.1)
  (hN1:64+4*(ZX.N f+ZX.N q)*(zs f+zs q+(ZX.N f+ZX.N q)+8)≤N):r.1=r.2∨vt (aT (sq q)) r.1=vt (aT (sq q)) r.2:=by
 have I:=a.I
 have n8:=a.n8
 obtain⟨nq,_⟩:=sI q0
 have hNq:ZX.N (sq q)≤ZX.N q:=(KL q0).nW q0
 have n1:=S.N
 have Sg:=xQ S.ng.ne S.sg (by omega)
 have Sw:=xQ S.nw.ne S.sw (by omega)
 refine Classical.byContradiction fun AU=>?_
 obtain⟨vI,XU⟩:=not_or.1 AU
 have aax:r.1<r.2:=by have:=A'.le;grind
 have a1:=cH (a.b1 dA) (a.b2 dA) (x:=r.1) k3 (by grind)
 have a2:=cH (a.b1 dA) (a.b2 dA) (x:=r.2) (by grind) k4
 have hvJ:vt (aT f) r.1=vt (aT f) r.2+1:=by
  rcases A'.k with ⟨h,_⟩ | ⟨_,h⟩
  ·exact absurd h vI
  ·exact h
 have m1:=Sg.cA k3
 have m2:=Sg.cA k4
 have m3:=Sg.cA (Rat.le_of_lt aax)
 have cJ:=S.EM A'.S Sg Sw (Rat.le_of_lt aax)
 have fz:=PL I.ch.bz
 have qz:=(PL bq).nf
 have N2f:=XI I.nf a.A
 have q1':=ZX.aH.1 q0
 have azI:∀x∈(sq q).l,x.natAbs≤2^(zs q+ZX.N q*9):=aeQ (l:=3) (gW q0) nq (z8 q0).2 (fun d hd=>Nat.le_of_lt (BZ.lt qz d hd)) (by rw [wT];exact Nat.le_refl _) (by omega)
 have VI:=aeR (s:=zs f) (r:=zs q) N2f (show 1≤ZX.N q by omega) n8 m8
 have hw:=UJ S I.nf nq (akG q0) (s:=zs f) (r:=zs q+ZX.N q*9) (n:=ZX.N f) (m:=ZX.N q) (β:=zs f+1) (fun d hd=>Nat.le_of_lt (BZ.lt fz d hd)) azI (Nat.le_refl _) hNq n8 m8 a1 a2 aax ?_
 ·rcases hw with hw | hw
  ·omega
  ·exact XU hw
 ·have w0:p.2-p.1≤2^(zs f+2):=by
   obtain⟨x1,x2⟩:=a.b1 dA
   obtain⟨x3,x4⟩:=a.b2 dA
   rw [show zs f+2=zs f+1+1 by omega,Rat.pow_succ];grind
  have w1:=Rat.le_trans k5 w0
  have hP:=eK (zs f+2)
  have w2:(r.2-r.1)*2^se (zs f) (zs q+ZX.N q*9) (ZX.N f) (ZX.N q) (zs f+1)*2^(zs f+2)≤1*2^(zs f+2):=by
   rw [Rat.one_mul,Rat.mul_assoc,←oX]
   refine Rat.le_trans (Rat.mul_le_mul_of_nonneg_left (DY ?_) (by grind)) w1
   omega
  exact Rat.le_of_mul_le_mul_right w2 hP
theorem AN.sg{s n u s' k:Nat}{f q:ZX}{p:Rat × Rat}(a:AN s n u f p)(c:SgC s' k f q):aD env.P 105 [Po q.l,GA f p] (.int .i64 (sgU (aY f p) q)):=by
 have I:=a.I
 have A:=a.A
 have hs:=a.hs
 have hu:=a.hu
 have hfn:=I.ch.hn
 have AD:=c.hs
 have hk:=c.hk
 have n8:=a.n8
 have m8:=c.q8
 have N1:=sU I.ch.bz (by omega) (by omega) a.q1 a.q2 (by omega)
 have Nq:=fU (x:=q.l) (c.bq.pb (by omega) (by omega))
 rw [q.c]at Nq
 by_cases q0:q=0
 ·subst q0
  rw [(show SgU (aY f p) 0 0 from .inl ⟨rfl,PH (fL A)⟩).eq (fL A)]
  exact aaw Nq N1
 have hl:0<q.l.length:=by have:=ZX.aH.1 q0;exact Nat.pos_of_ne_zero fun h=>by(have:ZX.N q=q.l.length:=rfl);omega
 have MZ:q.l.length<1000000:=by show ZX.N q<_;omega
 by_cases XC:p.1=p.2
 ·have hS:=sR q c.bq (by omega) (by omega) a.q1 (by omega)
  have hz:=cZ a.q1.nL a.q1.dL a.q1.nL a.q1.dL (by omega) (bA p.1) (bA p.1) ⟨a.q1.nL,a.q1.dL⟩ ⟨a.q1.nL,a.q1.dL⟩
  have e0:dF (p.1.num*(p.1.den:Int)) (p.1.num*(p.1.den:Int))=0:=jB.2 rfl
  rw [e0]at hz
  have Nf:=fU (x:=f.l) (I.ch.bz.pb (by omega) (by omega))
  rw [f.c]at Nf
  have:=aeJ (q:=q.l) (x:=f.l) MZ (fun h=>by omega) Nq Nf (yS a.q1 (by omega)) hz hS
  rw [(aeS (oK XC) q).eq (fL A)]
  rw [show GA f p = .ag (G9 f.l p.1.num p.1.den p.1.num p.1.den)by rw [show p=(p.1,p.1)from Prod.ext rfl XC.symm];rfl]
  exact this
 have dA:p.1<p.2:=by have:=A.le;grind
 obtain⟨nq,hmu⟩:=sI q0
 have hNq:ZX.N (sq q)≤ZX.N q:=(KL q0).nW q0
 have cq:=akG q0
 have Sq:=xQ nq.ne cq (by omega)
 obtain⟨w,S⟩:=mI (h:=sq q) I.nf I.LG
 rw [auF I.nf I.sq q0]at S
 have n1:=S.N
 have Sg:=xQ S.ng.ne S.sg (by omega)
 have Sw:=xQ S.nw.ne S.sw (by omega)
 have mγ:=Sg.cA (Rat.le_of_lt dA)
 have mφ:=Sw.cA (Rat.le_of_lt dA)
 have hv:vt (aT f) p.1=vt (aT f) p.2+1:=by
  rcases A.k with ⟨h,_⟩ | ⟨_,h⟩
  ·exact absurd h XC
  ·exact h
 have c0:=S.EM A.S Sg Sw (Rat.le_of_lt dA)
 have P0:=j4 (x:=f.l) a.q1 a.q2 (by omega)
 rw [decide_eq_false (Rat.not_le.2 dA)]at P0
 have hD:aD env.P 87 [Po (gz q f).l] (.int .i64 ((ZX.N (gz q f):Int)-1)):=kO (gz q f).l (by show ZX.N (gz q f)<_;omega)
 have auH:2≤ZX.N (gz q f)→aD env.P 185 [Po (gz q f).l,RT p.1,RT p.2] (.bool (decide (vt (aT (gz q f)) p.2<vt (aT (gz q f)) p.1))):=fun h2=>by
  obtain⟨sg,ng,IG,OL⟩:=c.IG h2
  exact XG IG OL dA (by omega) a.q1 a.q2 (by omega)
 by_cases hz:vt (aT (gz q f)) p.2<vt (aT (gz q f)) p.1
 ·have h2:2≤ZX.N (gz q f):=Nat.not_lt.1 fun h2=>by
   obtain⟨d,hd,e⟩:=ZX.mA (x:=gz q f) (by have:=ZX.aH.1 S.ng.ne;omega)
   rw [e]at hz Sg
   have:=Sg.const dA (σ:=b8 (d:Rat)) (.inr (by rw [EK])) (fun x _ _=>by rw [EK])
   omega
  have hH:=auH h2
  rw [decide_eq_true hz]at hH
  have:=UG hl MZ Nq N1 P0 c.hG hD (by omega) hH
  rw [(show SgU (aY f p) q 0 from .inl ⟨rfl,(azF A S Sg Sw dA hz).dv (fL A) (eT q f).l⟩).eq (fL A)]
  exact this
 obtain⟨sc,nc,C⟩:=c.hC q0
 obtain⟨cb,cl⟩:=C.all
 obtain⟨D,hD1,AL,g1,g2⟩:=D9 a.q1 a.q2
 have key:=PG A g1 g2
 obtain⟨N,R,hN1,JO⟩:=HW (u:=u) (ad:=p.1.den) (bd:=p.2.den) (cn:=0) (cd:=0) (dn:=0) (dd:=0) I.ch.bz c.bq (by omega) (by omega) (by omega) (by omega) (Nat.lt_of_lt_of_le (iH (b:=2) (by decide) p.1.num) (Nat.pow_le_pow_right (by decide) a.q1.n2)) (Nat.lt_of_lt_of_le (iH (b:=2) (by decide) p.2.num) (Nat.pow_le_pow_right (by decide) a.q2.n2)) (Nat.two_pow_pos _) (Nat.two_pow_pos _) (by omega)
 have hzf:=HV I.ch.bz
 have hzq:=HV c.bq
 have hM:4*(ZX.N f+ZX.N q)*(zs f+zs q+(ZX.N f+ZX.N q)+8)≤4*16*(100000+100000+16+8):=Nat.mul_le_mul (by omega) (by omega)
 obtain⟨J,hJ,hj,jD⟩:=qP (fun j=>(nY f p j).1=(nY f p j).2∨vt (aT (sq q)) (nY f p j).1=vt (aT (sq q)) (nY f p j).2) N
 have wW:(nY f p J).1=(nY f p J).2∨vt (aT (sq q)) (nY f p J).1=vt (aT (sq q)) (nY f p J).2:=by
  by_cases hJN:J<N
  ·exact jD hJN
  have hJE:J=N:=by omega
  obtain⟨k1,k2,k3,k4,k5,_⟩:=key J
  exact a.stop c.bq m8 q0 S dA (by omega) k1 k3 k4 k5 (hJE▸hN1)
 have sqJ:∀j,j≤N→SQ (3*u+N+2) (nY f p j).1∧SQ (3*u+N+2) (nY f p j).2∧SQ (3*u+N+2) (((nY f p j).1+(nY f p j).2)/2):=fun j hj=>by
  obtain⟨_,_,_,_,_,k6,k7⟩:=key j
  exact⟨(k6.sq hD1 AL).mono (by omega),(k7.sq hD1 AL).mono (by omega),((k6.FD k7).sq hD1 AL).mono (by omega)⟩
 have hV:3*u+N+2≤1000000000:=by omega
 have btw:∀j,j≤N→aD env.P 92 [CH (aT (sq q)),RT (nY f p j).1,RT (nY f p j).2] (.int .i64 ((vt (aT (sq q)) (nY f p j).1:Int)-vt (aT (sq q)) (nY f p j).2)):=fun j hj=>by
  obtain⟨s1,s2,_⟩:=sqJ j hj
  have:=aen cb C.hn cl s1 s2 hV
  rwa [if_neg (Rat.not_lt.2 (key j).1.le)]at this
 obtain⟨sJ1,sJ2,_⟩:=sqJ J hJ
 have R1:=aeN (gc:=zp) (C:=aT (sq q)) (an:=fun j=>(nY f p j).1.num) (ad:=fun j=>(nY f p j).1.den) (bn:=fun j=>(nY f p j).2.num) (bd:=fun j=>(nY f p j).2.den) (J:=J) (N:=N) (r:=b8 (e (nY f p J).2 q)) hl MZ Nq N1 P0 c.hG hD (fun h0=>by
   have hH:=auH (by omega)
   rwa [decide_eq_false hz]at hH) (c.azH q0) R (by omega) (fun j hj'=>by
   obtain⟨s1,s2,s3⟩:=sqJ j (by omega)
   have Q3:=not_or.1 (hj j hj')
   have azK:(nY f p j).1<(nY f p j).2:=by have:=(key j).1.le;grind
   have Pj:=j4 (x:=f.l) s1 s2 hV
   rw [decide_eq_false (Rat.not_le.2 azK)]at Pj
   refine⟨Pj,⟨_,btw j (by omega),?_⟩,ED I (by omega) (key j).1 s1 s2 s3 hV⟩
   have:=Q3.2
   simp only [beq_eq_false_iff_ne,ne_eq]
   omega) hJ (fun hJN=>by
   have Pj:=j4 (x:=f.l) sJ1 sJ2 hV
   by_cases hp:(nY f p J).2≤(nY f p J).1
   ·rw [decide_eq_true hp]at Pj;exact .inl Pj
   ·rw [decide_eq_false hp]at Pj
    refine .inr ⟨Pj,?_⟩
    have h3:=btw J hJ
    rw [wW.resolve_left (by grind),Int.sub_self]at h3
    exact h3) (sR q c.bq (by omega) (by omega) sJ2 hV)
 have hU:sgU (aY f p) q=b8 (e (nY f p J).2 q):=by
  obtain⟨k1,k2,k3,k4,_⟩:=key J
  have e1:aY f p=aY f (nY f p J):=funext fun t=>propext (k2 t).symm
  rw [e1]
  by_cases hp:(nY f p J).1=(nY f p J).2
  ·rw [←hp];exact(aeS (oK hp) q).eq (fL k1)
  ·have aax:(nY f p J).1<(nY f p J).2:=by have:=k1.le;grind
   have m1:=Sg.cA k3
   have m2:=Sg.cA k4
   have m3:=Sg.cA (Rat.le_of_lt aax)
   exact(aoe k1 S Sg Sw aax (by omega) q0 rfl (by omega) Sq (wW.resolve_left hp)).eq (fL k1)
 rw [hU]
 exact R1
def Ex(f:ZX)(p:Rat × Rat):Prop:=e p.2 f=0→p.1=p.2
theorem auI(f:ZX)(p:Rat × Rat):Ex f (ex f p):=by
 unfold Ex ex
 split
 ·intro _;rfl
 ·intro h;contradiction
theorem UK{pn pd qn qd z rn rd:Int}(n1:aD env.P 161 [T2 pn pd] (T2 pn pd))(n2:aD env.P 161 [T2 qn qd] (T2 qn qd))(zc:aD env.P 90 [T2 qn qd,T2 pn pd] (.int .i64 z))(hr:if 0<z then rn=qn∧rd=qd else rn=pn∧rd=pd) :
  aD env.P 94 [T2 pn pd, .sl [[.bool (decide (qn<0)),us (aN LL qn.natAbs), .bool (decide (qd<0)),us (aN LL qd.natAbs)]]] (T2 rn rd):=by
 refine bY [(0,T2 pn pd),(1, .sl [[.bool (decide (qn<0)),us (aN LL qn.natAbs), .bool (decide (qd<0)),us (aN LL qd.natAbs)]])] Tryz.func94 ?_
 refine aA [1,2,4] ?_
 refine aJ [1,4,5] n1 ?_
 refine aL [4,5,10,11,12] ?_
 refine W.block ?_
 refine W.bG (fun k σ=>∃(i:Nat) (mn md:Int) (rows:Pm.Rows) (clk:Nat),σ=⟨fa [(4, .ptr 4 1 0 0),(5, .ptr 5 2 0 0),(10, .sl [[.bool (decide (qn<0)),us (aN LL qn.natAbs), .bool (decide (qd<0)),us (aN LL qd.natAbs)]]),(11, .int .i64 1),(12, .int .i64 i)],rows,clk⟩∧rows 4=some ⟨1,52,4,[[.bool false, .nil, .bool false, .nil]]⟩∧rows 5=some ⟨2,52,4,[[.bool (decide (mn<0)),us (aN LL mn.natAbs), .bool (decide (md<0)),us (aN LL md.natAbs)]]⟩ ∧
  ((i=0∧mn=pn∧md=pd)∨(i=1∧mn=rn∧md=rd))∧i+k=1) 1 ?_ ?_
 ·exact⟨_,aC _ [4,5,10,11,12],0,pn,pd,_,_,rfl,by simp,by simp, .inl ⟨rfl,rfl,rfl⟩,by omega⟩
 rintro k _ ⟨i,mn,md,rows,clk,rfl,dS,fM,hI,AM⟩
 rcases hI with ⟨rfl,rfl,rfl⟩ | ⟨rfl,rfl,rfl⟩
 ·refine b9 [4,5,10,11,12,13] ?_
  refine bC ?_ ?_<;>intro h
  ·refine W.skip ?_
   refine W.dK (fun σ=>∃(rows:Pm.Rows) (clk:Nat),σ=⟨fa [(4, .ptr 4 1 0 0),(5, .ptr 5 2 0 0),(10, .sl [[.bool (decide (qn<0)),us (aN LL qn.natAbs), .bool (decide (qd<0)),us (aN LL qd.natAbs)]]),(11, .int .i64 1),(12, .int .i64 0)],rows,clk⟩∧rows 4=some ⟨1,52,4,[[.bool false, .nil, .bool false, .nil]]⟩∧rows 5=some ⟨2,52,4,[[.bool (decide (rn<0)),us (aN LL rn.natAbs), .bool (decide (rd<0)),us (aN LL rd.natAbs)]]⟩) ?_ ?_
   ·refine aA [4,5,7,10,11,12] ?_
    refine W.sr ?_
    simp (disch:=omega) [gw,fM]
    refine bS [4,5,7,10,11,12,19] zc ?_
    refine bC ?_ ?_<;>intro h
    ·have h:0<z:=by simpa using h
     rw [if_pos h]at hr
     obtain⟨rfl,rfl⟩:=hr
     refine W.cC (fun K hK=>?_)
     simp (disch:=omega) [gw,fM]
     refine aB n2 ?_
     simp (disch:=omega) [gw,fM]
     exact hK _ ⟨_,aC _ [4,5,10,11,12],_,_,rfl,by simp [dS],by simp [fM]⟩
    ·have h:¬0<z:=by simpa using h
     rw [if_neg h]at hr
     obtain⟨rfl,rfl⟩:=hr
     refine W.skip ?_
     exact⟨_,aC _ [4,5,10,11,12],_,_,rfl,by simp [dS],by simp [fM]⟩
   rintro _ ⟨rows,clk,rfl,dS,fM⟩
   refine W.cC (fun K hK=>?_);simp (disch:=omega) [gw]
   refine hK _ ⟨0,_,aC _ [4,5,10,11,12],by omega,1,rn,rd,_,_,rfl,dS,fM, .inr ⟨rfl,rfl,rfl⟩,rfl⟩
  ·simp at h
 ·refine b9 [4,5,10,11,12,13] ?_
  refine bC ?_ ?_<;>intro h
  ·simp at h
  ·refine eV ?_
   refine W.sr ?_
   simp (disch:=omega) [gw,dS,fM]
   refine bL [4] ?_
   exact bV
theorem aay{u:Nat}{p q:Rat}(hp:SQ u p)(hq:SQ u q)(hu:u≤1000000000):aD env.P 94 [RT p, .sl [tc q]] (RT (if p<q then q else p)):=by
 obtain⟨l1,l2⟩:=hp.LLt (show u<1099511627770 by omega)
 obtain⟨l3,l4⟩:=hq.LLt (show u<1099511627770 by omega)
 have n1:=mZ l1 l2
 have n2:=mZ l3 l4
 rw [bA]at n1 n2
 have z:=cZ hq.nL hq.dL hp.nL hp.dL (by omega) (bA q) (bA p) ⟨hq.nL,hq.dL⟩ ⟨hp.nL,hp.dL⟩
 refine UK n1 n2 z ?_
 by_cases h:p<q
 ·rw [if_pos (fI.2 h),if_pos h];exact⟨rfl,rfl⟩
 ·rw [if_neg (fun h2=>h (fI.1 h2)),if_neg h];exact⟨rfl,rfl⟩
theorem auJ{x y:Int}(hx:Sz x)(hy:Sz y):aD env.P 252 [I x,I y] (I (x-y)):=by
 have:=MV (decide (x<0)) (decide (y<0)) (aN LL x.natAbs) (aN LL y.natAbs) hx.VJ hy.VJ
 rwa [yA,yA]at this
theorem aiv(p q:Rat):dM (p.num*q.den-q.num*p.den) (p.den*q.den)=p-q:=by
 have h1:((p.den:Int)*q.den)≠0:=by
  have:=p.den_nz;have:=q.den_nz
  refine Int.mul_ne_zero ?_ ?_<;>omega
 refine KM h1 ?_
 rw [Rat.intCast_sub,Rat.intCast_mul,Rat.intCast_mul,Rat.intCast_mul,w9 p,w9 q]
 grind
theorem HX{p q:Rat}{k:Nat}(hp:sz LL p.num≤k∧sz LL (p.den:Int)≤k)(hq:sz LL q.num≤k∧sz LL (q.den:Int)≤k)(hk:k≤300000000000):aD env.P 253 [RT p,RT q] (RT (p-q)):=by
 have c1:=yL hp.1 hp.2 hq.1 hq.2 (by omega) (bA p) (bA q) hp hq
 have g1:=cD (b:=LL) fV hp.1 hq.2
 have g2:=cD (b:=LL) fV hq.1 hp.2
 have g3:=cD (b:=LL) fV hp.2 hq.2
 have g5:=nE (b:=LL) fV (Nat.le_trans g1 (show k+k≤k+k from Nat.le_refl _)) (Nat.le_trans (Nat.le_of_eq (oR _)) (Nat.le_trans g2 (show k+k≤k+k from Nat.le_refl _)))
 rw [←Int.sub_eq_add_neg]at g5
 have a1:=auJ (x:=p.num*q.den) (y:=q.num*p.den) (by show _<_;omega) (by show _<_;omega)
 have h1:((p.den:Int)*q.den)≠0:=by
  have:=p.den_nz;have:=q.den_nz
  refine Int.mul_ne_zero ?_ ?_<;>omega
 have l1:=qJ (n:=p.num*q.den-q.num*p.den) (d:=p.den*q.den) (by omega) (by omega) h1
 rw [aiv]at l1
 show aD env.P _ [T2 p.num p.den,T2 q.num q.den] (T2 (p-q).num (p-q).den)
 replace l1:aD env.P 179 [I (p.num*q.den-q.num*p.den),I (p.den*q.den)] (T2 (p-q).num (p-q).den):=l1
 clear g1 g2 g3 g5 h1 hp hq
 generalize (p-q).num=rn at *
 generalize ((p-q).den:Int)=rd at *
 generalize p.num*(q.den:Int)-q.num*p.den=x4 at *
 generalize p.num*(q.den:Int)=x1 at *
 generalize q.num*(p.den:Int)=x2 at *
 generalize (p.den:Int)*(q.den:Int)=x3 at *
 generalize p.num=pn at *
 generalize (p.den:Int)=pd at *
 generalize q.num=qn at *
 generalize (q.den:Int)=qd at *
 refine bY [(0,T2 pn pd),(1,T2 qn qd)] Tryz.func253 ?_
 refine aA [2,3,4] ?_
 refine aJ [4,5,6,7] c1 ?_
 refine W.sd ?_
 simp (maxSteps:=4000000) (disch:=omega) [gw]
 refine aB a1 ?_
 simp (maxSteps:=4000000) (disch:=omega) [gw]
 refine aB l1 ?_
 simp (maxSteps:=4000000) (disch:=omega) [gw]
 (try (refine a9 (of_decide_eq_true (by kernel_rfl)) ?_));(try simp (maxSteps:=4000000) (disch:=omega) [gw]);(repeat rw [if_pos (by kernel_rfl)]);(try simp (maxSteps:=4000000) (disch:=omega) [gw])
 refine bL [4] ?_
 exact bV
set_option maxHeartbeats 4000000 in
theorem UL{x y:List Int}{an ad bn bd cn cd dn dd:Nat→Int}{N J:Nat}{c:Int}(hs:aD env.P 186 [.ag (G9 x (an 0) (ad 0) (bn 0) (bd 0)), .ag (G9 y (cn 0) (cd 0) (dn 0) (dd 0))] (.int .i64 N))(hN:N<1000000000000000)
  (hb:∀j,j<J→(∃z1,aD env.P 90 [T2 (bn j) (bd j),T2 (cn j) (cd j)] (.int .i64 z1)∧0<z1)∧(∃z2,aD env.P 90 [T2 (dn j) (dd j),T2 (an j) (ad j)] (.int .i64 z2)∧0<z2) ∧
   ∃wn wd vn vd z3,aD env.P 253 [T2 (bn j) (bd j),T2 (an j) (ad j)] (T2 wn wd)∧aD env.P 253 [T2 (dn j) (dd j),T2 (cn j) (cd j)] (T2 vn vd)∧aD env.P 90 [T2 wn wd,T2 vn vd] (.int .i64 z3) ∧
   (if 0≤z3 then aD env.P 187 [.ag (G9 x (an j) (ad j) (bn j) (bd j))] (.ag (G9 x (an (j+1)) (ad (j+1)) (bn (j+1)) (bd (j+1))))∧G9 y (cn (j+1)) (cd (j+1)) (dn (j+1)) (dd (j+1))=G9 y (cn j) (cd j) (dn j) (dd j)
    else aD env.P 187 [.ag (G9 y (cn j) (cd j) (dn j) (dd j))] (.ag (G9 y (cn (j+1)) (cd (j+1)) (dn (j+1)) (dd (j+1))))∧G9 x (an (j+1)) (ad (j+1)) (bn (j+1)) (bd (j+1))=G9 x (an j) (ad j) (bn j) (bd j))) (hJ:J<N) {z1 z2:Int} {pa pb:Bool}
  (k1:aD env.P 90 [T2 (bn J) (bd J),T2 (cn J) (cd J)] (.int .i64 z1)) (k2:aD env.P 90 [T2 (dn J) (dd J),T2 (an J) (ad J)] (.int .i64 z2)) (p1:aD env.P 183 [.ag (G9 x (an J) (ad J) (bn J) (bd J))] (.bool pa)) (p2:aD env.P 183 [.ag (G9 y (cn J) (cd J) (dn J) (dd J))] (.bool pb))
  (hp:¬(pa=true∧pb=true∧z1=0)) (hp2:¬(pa=true∧pb=true∧z2=0)) (hc:(z1≤0∧c = -1)∨(0<z1∧z2≤0∧c=1)) :
  aD env.P 206 [.ag (G9 x (an 0) (ad 0) (bn 0) (bd 0)), .ag (G9 y (cn 0) (cd 0) (dn 0) (dd 0))] (.eB [.ag (G9 x (an J) (ad J) (bn J) (bd J)), .ag (G9 y (cn J) (cd J) (dn J) (dd J)), .int .i64 c]):=by
 simp only [G9]at *
 refine bY [(0, .ag (G9 x (an 0) (ad 0) (bn 0) (bd 0))),(1, .ag (G9 y (cn 0) (cd 0) (dn 0) (dd 0)))] Tryz.func206 ?_
 refine aA [2,3,4,5] ?_
 refine W.seq ?_
 refine aJ [2,3,4,5,9,10] hs ?_
 refine W.block ?_
 refine W.bG (fun k σ=>∃(j:Nat) (rows:Pm.Rows) (clk:Nat),σ=⟨fa [(2, .ptr 2 0 0 0),(3, .ptr 3 1 0 0),(4, .ptr 4 2 0 0),(5, .ptr 5 3 0 0),(9, .int .i64 N),(10, .int .i64 j)],rows,clk⟩∧rows 2=some ⟨0,54,9,[G9 x (an j) (ad j) (bn j) (bd j)]⟩∧rows 3=some ⟨1,54,9,[G9 y (cn j) (cd j) (dn j) (dd j)]⟩∧rows 4=some ⟨2,54,9,[[.nil, .bool false, .nil, .bool false, .nil, .bool false, .nil, .bool false, .nil]]⟩∧rows 5=some ⟨3,54,9,[[.nil, .bool false, .nil, .bool false, .nil, .bool false, .nil, .bool false, .nil]]⟩∧j+k=J) J ?_ ?_
 ·exact⟨_, .refl,0,_,_,rfl,by simp,by simp,by simp,by simp,by omega⟩
 rintro k _ ⟨j,rows,clk,rfl,bR,cO,dS,fM,hjk⟩
 simp only [G9]at bR cO
 refine b9 [2,3,4,5,9,10,11] ?_
 refine bC ?_ ?_<;>intro h
 ·refine W.skip ?_
  by_cases hjJ:j<J
  ·obtain⟨⟨u1,m1,o1⟩,⟨u2,m2,o2⟩,wn,wd,vn,vd,z3,s1,s2,s3,hh⟩:=hb j hjJ
   have o1':¬u1≤0:=by omega
   have o2':¬u2≤0:=by omega
   refine W.dK (fun σ=>∃(rows:Pm.Rows) (clk:Nat),σ=⟨fa [(2, .ptr 2 0 0 0),(3, .ptr 3 1 0 0),(4, .ptr 4 2 0 0),(5, .ptr 5 3 0 0),(9, .int .i64 N),(10, .int .i64 j)],rows,clk⟩∧rows 2=some ⟨0,54,9,[G9 x (an (j+1)) (ad (j+1)) (bn (j+1)) (bd (j+1))]⟩∧rows 3=some ⟨1,54,9,[G9 y (cn (j+1)) (cd (j+1)) (dn (j+1)) (dd (j+1))]⟩∧rows 4=some ⟨2,54,9,[[.nil, .bool false, .nil, .bool false, .nil, .bool false, .nil, .bool false, .nil]]⟩∧rows 5=some ⟨3,54,9,[[.nil, .bool false, .nil, .bool false, .nil, .bool false, .nil, .bool false, .nil]]⟩) ?_ ?_
   ·refine W.seq ?_
    refine W.block ?_
    refine W.sr ?_
    simp (disch:=omega) [gw,bR,cO]
    refine aB m1 ?_
    simp (disch:=omega) [gw,o1']
    refine bL [2,3,4,5,9,10,12] ?_
    refine bC ?_ ?_<;>intro h
    ·simp at h
    refine W.sr ?_
    simp (disch:=omega) [gw,bR,cO]
    refine aB m2 ?_
    simp (disch:=omega) [gw,o2']
    refine bL [2,3,4,5,9,10,38] ?_
    refine bC ?_ ?_<;>intro h
    ·simp at h
    refine W.skip ?_
    refine W.sd ?_
    simp (disch:=omega) [gw,bR,cO]
    refine aB s1 ?_
    simp (disch:=omega) [gw,bR,cO]
    refine cB s2 ?_
    refine bS [2,3,4,5,9,10,75] s3 ?_
    refine bC ?_ ?_<;>intro h
    ·have h3:0≤z3:=by simpa using h
     rw [if_pos h3]at hh
     obtain⟨h1,h2⟩:=hh
     refine W.cC (fun K hK=>?_)
     simp (disch:=omega) [gw,bR]
     refine aB h1 ?_
     simp (disch:=omega) [gw,bR]
     exact hK _ ⟨_,aC _ [2,3,4,5,9,10],_,_,rfl,by simp,by simp only [G9];rw [h2];simp [cO],by simp [dS],by simp [fM]⟩
    ·have h3:¬0≤z3:=by simpa using h
     rw [if_neg h3]at hh
     obtain⟨h1,h2⟩:=hh
     refine W.cC (fun K hK=>?_)
     simp (disch:=omega) [gw,cO]
     refine aB h1 ?_
     simp (disch:=omega) [gw,cO]
     exact hK _ ⟨_,aC _ [2,3,4,5,9,10],_,_,rfl,by simp only [G9];rw [h2];simp [bR],by simp,by simp [dS],by simp [fM]⟩
   rintro _ ⟨rows,clk,rfl,bR,cO,dS,fM⟩
   refine W.cC (fun K hK=>?_);simp (disch:=omega) [gw]
   refine hK _ ⟨k-1,_,aC _ [2,3,4,5,9,10],by omega,j+1,_,_,rfl,bR,cO,dS,fM,by omega⟩
  ·have hjE:j=J:=by omega
   subst hjE
   refine W.seq ?_
   refine W.block ?_
   refine W.seq ?_
   refine W.block ?_
   rcases hc with ⟨hz,rfl⟩ | ⟨hz1,hz,rfl⟩
   ·refine W.fG (fun σ=>∃(rows:Pm.Rows) (clk:Nat),σ=⟨fa [(2, .ptr 2 0 0 0),(3, .ptr 3 1 0 0),(4, .ptr 4 2 0 0),(5, .ptr 5 3 0 0),(9, .int .i64 N),(10, .int .i64 j),(12, .bool true)],rows,clk⟩∧rows 2=some ⟨0,54,9,[G9 x (an j) (ad j) (bn j) (bd j)]⟩∧rows 3=some ⟨1,54,9,[G9 y (cn j) (cd j) (dn j) (dd j)]⟩∧rows 4=some ⟨2,54,9,[[.nil, .bool false, .nil, .bool false, .nil, .bool false, .nil, .bool false, .nil]]⟩∧rows 5=some ⟨3,54,9,[[.nil, .bool false, .nil, .bool false, .nil, .bool false, .nil, .bool false, .nil]]⟩) (fun K hK=>?_) ?_
    ·cases pa with
     | false =>
      simp (disch:=omega) [gw,bR,cO]
      refine aB k1 ?_
      simp (disch:=omega) [gw,hz,bR,cO]
      refine aB p1 ?_
      simp (disch:=omega) [gw,bR,cO]
      exact hK _ _ (aC _ [2,3,4,5,9,10,12]) ⟨_,_,rfl,by simp [bR],by simp [cO],by simp [dS],by simp [fM]⟩
     | true =>
      cases pb with
      | false =>
       simp (disch:=omega) [gw,bR,cO]
       refine aB k1 ?_
       simp (disch:=omega) [gw,hz,bR,cO]
       refine aB p1 ?_
       simp (disch:=omega) [gw,bR,cO]
       refine aB p2 ?_
       simp (disch:=omega) [gw,bR,cO]
       exact hK _ _ (aC _ [2,3,4,5,9,10,12]) ⟨_,_,rfl,by simp [bR],by simp [cO],by simp [dS],by simp [fM]⟩
      | true =>
       have mJ:(z1==0)=false:=by
        have:¬z1=0:=fun h=>hp ⟨rfl,rfl,h⟩
        simpa using this
       simp (disch:=omega) [gw,bR,cO]
       refine aB k1 ?_
       simp (disch:=omega) [gw,hz,bR,cO]
       refine aB p1 ?_
       simp (disch:=omega) [gw,bR,cO]
       refine aB p2 ?_
       simp (disch:=omega) [gw,bR,cO]
       refine aB k1 ?_
       simp (disch:=omega) [gw,mJ]
       exact hK _ _ (aC _ [2,3,4,5,9,10,12]) ⟨_,_,rfl,by simp [bR],by simp [cO],by simp [dS],by simp [fM]⟩
    rintro _ ⟨rows,clk,rfl,bR,cO,dS,fM⟩
    simp only [G9]at bR cO
    refine bC ?_ ?_<;>intro h
    ·refine W.sd ?_
     simp (disch:=omega) [gw,bR,cO,dS,fM]
     (try (refine a9 (of_decide_eq_true (by kernel_rfl)) ?_));(try simp (maxSteps:=4000000) (disch:=omega) [gw,dS,fM]);(repeat rw [if_pos (by kernel_rfl)]);(try simp (maxSteps:=4000000) (disch:=omega) [gw,dS,fM])
     (try (refine a9 (of_decide_eq_true (by kernel_rfl)) ?_));(try simp (maxSteps:=4000000) (disch:=omega) [gw,dS,fM]);(repeat rw [if_pos (by kernel_rfl)]);(try simp (maxSteps:=4000000) (disch:=omega) [gw,dS,fM])
     refine bL [4,5,6] ?_
     exact bV
    ·simp at h
   ·have azL:¬z1≤0:=by omega
    refine W.sr ?_
    simp (disch:=omega) [gw,bR,cO]
    refine aB k1 ?_
    simp (disch:=omega) [gw,azL]
    refine bL [2,3,4,5,9,10,12] ?_
    refine bC ?_ ?_<;>intro h
    ·simp at h
    refine W.fG (fun σ=>∃(rows:Pm.Rows) (clk:Nat),σ=⟨fa [(2, .ptr 2 0 0 0),(3, .ptr 3 1 0 0),(4, .ptr 4 2 0 0),(5, .ptr 5 3 0 0),(9, .int .i64 N),(10, .int .i64 j),(38, .bool true)],rows,clk⟩∧rows 2=some ⟨0,54,9,[G9 x (an j) (ad j) (bn j) (bd j)]⟩∧rows 3=some ⟨1,54,9,[G9 y (cn j) (cd j) (dn j) (dd j)]⟩∧rows 4=some ⟨2,54,9,[[.nil, .bool false, .nil, .bool false, .nil, .bool false, .nil, .bool false, .nil]]⟩∧rows 5=some ⟨3,54,9,[[.nil, .bool false, .nil, .bool false, .nil, .bool false, .nil, .bool false, .nil]]⟩) (fun K hK=>?_) ?_
    ·cases pa with
     | false =>
      simp (disch:=omega) [gw,bR,cO]
      refine aB k2 ?_
      simp (disch:=omega) [gw,hz,bR,cO]
      refine aB p1 ?_
      simp (disch:=omega) [gw,bR,cO]
      exact hK _ _ (aC _ [2,3,4,5,9,10,38]) ⟨_,_,rfl,by simp [bR],by simp [cO],by simp [dS],by simp [fM]⟩
     | true =>
      cases pb with
      | false =>
       simp (disch:=omega) [gw,bR,cO]
       refine aB k2 ?_
       simp (disch:=omega) [gw,hz,bR,cO]
       refine aB p1 ?_
       simp (disch:=omega) [gw,bR,cO]
       refine aB p2 ?_
       simp (disch:=omega) [gw,bR,cO]
       exact hK _ _ (aC _ [2,3,4,5,9,10,38]) ⟨_,_,rfl,by simp [bR],by simp [cO],by simp [dS],by simp [fM]⟩
      | true =>
       have mJ:(z2==0)=false:=by
        have:¬z2=0:=fun h=>hp2 ⟨rfl,rfl,h⟩
        simpa using this
       simp (disch:=omega) [gw,bR,cO]
       refine aB k2 ?_
       simp (disch:=omega) [gw,hz,bR,cO]
       refine aB p1 ?_
       simp (disch:=omega) [gw,bR,cO]
       refine aB p2 ?_
       simp (disch:=omega) [gw,bR,cO]
       refine aB k2 ?_
       simp (disch:=omega) [gw,mJ]
       exact hK _ _ (aC _ [2,3,4,5,9,10,38]) ⟨_,_,rfl,by simp [bR],by simp [cO],by simp [dS],by simp [fM]⟩
    rintro _ ⟨rows,clk,rfl,bR,cO,dS,fM⟩
    simp only [G9]at bR cO
    refine bC ?_ ?_<;>intro h
    ·refine W.sd ?_
     simp (disch:=omega) [gw,bR,cO,dS,fM]
     (try (refine a9 (of_decide_eq_true (by kernel_rfl)) ?_));(try simp (maxSteps:=4000000) (disch:=omega) [gw,dS,fM]);(repeat rw [if_pos (by kernel_rfl)]);(try simp (maxSteps:=4000000) (disch:=omega) [gw,dS,fM])
     (try (refine a9 (of_decide_eq_true (by kernel_rfl)) ?_));(try simp (maxSteps:=4000000) (disch:=omega) [gw,dS,fM]);(repeat rw [if_pos (by kernel_rfl)]);(try simp (maxSteps:=4000000) (disch:=omega) [gw,dS,fM])
     refine bL [4,5,6] ?_
     exact bV
    ·simp at h
 ·exfalso
  simp at h;omega
section
variable {x y:List Int} {an ad bn bd cn cd dn dd:Int} (nx:aD env.P 182 [.ag (G9 x an ad bn bd)] (.ag (G9 x an ad bn bd))) (ny:aD env.P 182 [.ag (G9 y cn cd dn dd)] (.ag (G9 y cn cd dn dd)))
include nx ny
theorem aof{r:Int}(hr:r = -1∨r=0∨r=1)(p1:aD env.P 183 [.ag (G9 x an ad bn bd)] (.bool true))(k:aD env.P 205 [.ag (G9 y cn cd dn dd),T2 an ad] (.int .i64 r)):aD env.P 130 [.ag (G9 x an ad bn bd), .ag (G9 y cn cd dn dd)] (.int .i64 (-r)):=by
 have hw:IntKind.wrap .i64 (-r) = -r:=wrap_i64 (by omega) (by omega)
 simp only [G9]at *
 refine bY [(0, .ag (G9 x an ad bn bd)),(1, .ag (G9 y cn cd dn dd))] Tryz.func130 ?_
 refine aA [2,3] ?_
 refine mP ?_
 refine cB nx ?_
 refine cB ny ?_
 (try (refine a9 (of_decide_eq_true (by kernel_rfl)) ?_));(try simp (maxSteps:=4000000) (disch:=omega) [gw]);(repeat rw [if_pos (by kernel_rfl)]);(try simp (maxSteps:=4000000) (disch:=omega) [gw])
 (try (refine a9 (of_decide_eq_true (by kernel_rfl)) ?_));(try simp (maxSteps:=4000000) (disch:=omega) [gw]);(repeat rw [if_pos (by kernel_rfl)]);(try simp (maxSteps:=4000000) (disch:=omega) [gw])
 refine bL [2,3] ?_
 refine W.seq ?_
 refine W.block ?_
 refine aJ [2,3,15] p1 ?_
 refine bC ?_ ?_<;>intro h
 ·refine iB ?_
  refine aB k ?_
  simp (disch:=omega) [gw,hw]
  refine bL [4] ?_
  exact bV
 ·simp at h
theorem aog{r:Int}(p1:aD env.P 183 [.ag (G9 x an ad bn bd)] (.bool false))(p2:aD env.P 183 [.ag (G9 y cn cd dn dd)] (.bool true))(k:aD env.P 205 [.ag (G9 x an ad bn bd),T2 cn cd] (.int .i64 r)):aD env.P 130 [.ag (G9 x an ad bn bd), .ag (G9 y cn cd dn dd)] (.int .i64 r):=by
 simp only [G9]at *
 refine bY [(0, .ag (G9 x an ad bn bd)),(1, .ag (G9 y cn cd dn dd))] Tryz.func130 ?_
 refine aA [2,3] ?_
 refine mP ?_
 refine cB nx ?_
 refine cB ny ?_
 (try (refine a9 (of_decide_eq_true (by kernel_rfl)) ?_));(try simp (maxSteps:=4000000) (disch:=omega) [gw]);(repeat rw [if_pos (by kernel_rfl)]);(try simp (maxSteps:=4000000) (disch:=omega) [gw])
 (try (refine a9 (of_decide_eq_true (by kernel_rfl)) ?_));(try simp (maxSteps:=4000000) (disch:=omega) [gw]);(repeat rw [if_pos (by kernel_rfl)]);(try simp (maxSteps:=4000000) (disch:=omega) [gw])
 refine bL [2,3] ?_
 refine W.seq ?_
 refine W.block ?_
 refine aJ [2,3,15] p1 ?_
 refine bC ?_ ?_<;>intro h
 ·simp at h
 refine aJ [2,3,23] p2 ?_
 refine bC ?_ ?_<;>intro h
 ·refine aJ [4] k ?_
  exact bV
 ·simp at h
set_option maxHeartbeats 4000000 in
theorem XK{g:List Int}{ln ld hn hd zd zl dg r:Int}{v w:PV}{hs:Bool}(p1:aD env.P 183 [.ag (G9 x an ad bn bd)] (.bool false))(p2:aD env.P 183 [.ag (G9 y cn cd dn dd)] (.bool false))
  (kM:aD env.P 94 [T2 an ad, .sl [[.bool (decide (cn<0)),us (aN LL cn.natAbs), .bool (decide (cd<0)),us (aN LL cd.natAbs)]]] (T2 ln ld)) (kD:aD env.P 90 [T2 dn dd,T2 bn bd] (.int .i64 zd)) (hh:if zd<0 then hn=dn∧hd=dd else hn=bn∧hd=bd) (kL:aD env.P 90 [T2 ln ld,T2 hn hd] (.int .i64 zl))
  (hG:zl<0→aD env.P 184 [.sl [[Po x],[Po y]]] (Po g)) (hD:zl<0→aD env.P 87 [Po g] (.int .i64 dg)) (hH:zl<0→0<dg→aD env.P 185 [Po g,T2 ln ld,T2 hn hd] (.bool hs)) (hr:zl<0∧0<dg∧hs=true→r=0)
  (hA:¬(zl<0∧0<dg∧hs=true)→aD env.P 206 [.ag (G9 x an ad bn bd), .ag (G9 y cn cd dn dd)] (.eB [v,w, .int .i64 r])) (hv:∃a b c d,v = .ag (G9 x a b c d)) (hw:∃a b c d,w = .ag (G9 y a b c d)) :
  aD env.P 130 [.ag (G9 x an ad bn bd), .ag (G9 y cn cd dn dd)] (.int .i64 r):=by
 obtain⟨va,vb,vc,vd,rfl⟩:=hv
 obtain⟨wa,wb,wc,wd,rfl⟩:=hw
 simp only [G9]at *
 refine bY [(0, .ag (G9 x an ad bn bd)),(1, .ag (G9 y cn cd dn dd))] Tryz.func130 ?_
 refine aA [2,3] ?_
 refine mP ?_
 refine cB nx ?_
 refine cB ny ?_
 (try (refine a9 (of_decide_eq_true (by kernel_rfl)) ?_));(try simp (maxSteps:=4000000) (disch:=omega) [gw]);(repeat rw [if_pos (by kernel_rfl)]);(try simp (maxSteps:=4000000) (disch:=omega) [gw])
 (try (refine a9 (of_decide_eq_true (by kernel_rfl)) ?_));(try simp (maxSteps:=4000000) (disch:=omega) [gw]);(repeat rw [if_pos (by kernel_rfl)]);(try simp (maxSteps:=4000000) (disch:=omega) [gw])
 refine bL [2,3] ?_
 refine W.seq ?_
 refine W.block ?_
 refine aJ [2,3,15] p1 ?_
 refine bC ?_ ?_<;>intro h
 ·simp at h
 refine aJ [2,3,23] p2 ?_
 refine bC ?_ ?_<;>intro h
 ·simp at h
 refine W.skip ?_
 refine mP ?_
 refine aB kM ?_
 simp (maxSteps:=4000000) (disch:=omega) [gw]
 (try (refine a9 (of_decide_eq_true (by kernel_rfl)) ?_));(try simp (maxSteps:=4000000) (disch:=omega) [gw]);(repeat rw [if_pos (by kernel_rfl)]);(try simp (maxSteps:=4000000) (disch:=omega) [gw])
 (try (refine a9 (of_decide_eq_true (by kernel_rfl)) ?_));(try simp (maxSteps:=4000000) (disch:=omega) [gw]);(repeat rw [if_pos (by kernel_rfl)]);(try simp (maxSteps:=4000000) (disch:=omega) [gw])
 refine bL [2,3,5,6] ?_
 refine W.gD (fun σ=>∃(v5 v6:Nat) (rows:Pm.Rows) (clk:Nat),σ=⟨fa [(2, .ptr 2 0 0 0),(3, .ptr 3 1 0 0),(5, .ptr 5 v5 0 0),(6, .ptr 6 v6 0 0)],rows,clk⟩∧rows 2=some ⟨0,54,9,[G9 x an ad bn bd]⟩∧rows 3=some ⟨1,54,9,[G9 y cn cd dn dd]⟩∧rows 5=some ⟨v5,52,4,[[.bool (decide (ln<0)),us (aN LL ln.natAbs), .bool (decide (ld<0)),us (aN LL ld.natAbs)]]⟩∧rows 6=some ⟨v6,52,4,[[.bool (decide (hn<0)),us (aN LL hn.natAbs), .bool (decide (hd<0)),us (aN LL hd.natAbs)]]⟩) ?_ ?_
 ·refine aJ [2,3,5,6,42] kD ?_
  refine bC ?_ ?_<;>intro h
  ·have h:zd<0:=by simpa using h
   rw [if_pos h]at hh
   obtain⟨rfl,rfl⟩:=hh
   refine W.cC (fun K hK=>?_);simp (disch:=omega) [gw]
   exact hK _ ⟨_,aC _ [2,3,5,6],_,_,_,_,rfl,by simp,by simp,by simp,by simp⟩
  ·have h:¬zd<0:=by simpa using h
   rw [if_neg h]at hh
   obtain⟨rfl,rfl⟩:=hh
   refine W.skip ?_
   exact⟨_,aC _ [2,3,5,6],_,_,_,_,rfl,by simp,by simp,by simp,by simp⟩
 rintro _ ⟨v5,v6,rows,clk,rfl,bR,cO,fM,pG⟩
 simp only [G9]at bR cO
 by_cases hz:zl<0∧0<dg∧hs=true
 ·have hG':=hG hz.1
  have hD':=hD hz.1
  have hH':=hH hz.1 hz.2.1
  obtain⟨z1,z2,rfl⟩:=hz
  rw [hr ⟨z1,z2,rfl⟩]
  refine W.seq ?_
  refine W.sr ?_
  simp (disch:=omega) [gw,fM,pG]
  refine bS [2,3,5,6,48] kL ?_
  refine bC ?_ ?_<;>intro h
  ·refine W.sr ?_
   simp (disch:=omega) [gw,bR,cO]
   refine bS [2,3,5,6,7] hG' ?_
   refine iB ?_
   refine aB hD' ?_
   simp (disch:=omega) [gw,z2,fM,pG]
   refine bS [2,3,63] hH' ?_
   refine bC ?_ ?_<;>intro h
   ·refine aA [4] ?_
    exact bV
   ·simp at h
  ·exfalso;simp at h;omega
 ·have hA':=hA hz
  refine W.gD (fun σ=>∃(rows:Pm.Rows) (clk:Nat),σ=⟨fa [(2, .ptr 2 0 0 0),(3, .ptr 3 1 0 0)],rows,clk⟩∧rows 2=some ⟨0,54,9,[G9 x an ad bn bd]⟩∧rows 3=some ⟨1,54,9,[G9 y cn cd dn dd]⟩) ?_ ?_
  ·refine W.sr ?_
   simp (disch:=omega) [gw,fM,pG]
   refine bS [2,3,5,6,48] kL ?_
   refine bC ?_ ?_<;>intro h
   ·have h:zl<0:=by simpa using h
    have hG':=hG h
    have hD':=hD h
    have hH':=hH h
    refine W.sr ?_
    simp (disch:=omega) [gw,bR,cO]
    refine bS [2,3,5,6,7] hG' ?_
    refine W.fG (fun σ=>∃(rows:Pm.Rows) (clk:Nat),σ=⟨fa [(2, .ptr 2 0 0 0),(3, .ptr 3 1 0 0),(63, .bool false)],rows,clk⟩∧rows 2=some ⟨0,54,9,[G9 x an ad bn bd]⟩∧rows 3=some ⟨1,54,9,[G9 y cn cd dn dd]⟩) (fun K hK=>?_) ?_
    ·by_cases h2:0<dg
     ·have hH2:=hH' h2
      have hf:hs=false:=by
       cases hs with
       | false=>rfl
       | true=>exact absurd ⟨h,h2,rfl⟩ hz
      subst hf
      simp (disch:=omega) [gw]
      refine aB hD' ?_
      simp (disch:=omega) [gw,h2,fM,pG]
      refine cB hH2 ?_
      refine hK _ _ (aC _ [2,3,63]) ⟨_,_,rfl,by simp [bR],by simp [cO]⟩
     ·simp (disch:=omega) [gw]
      refine aB hD' ?_
      simp (disch:=omega) [gw,h2]
      refine hK _ _ (aC _ [2,3,63]) ⟨_,_,rfl,by simp [bR],by simp [cO]⟩
    rintro _ ⟨rows,clk,rfl,bR,cO⟩
    refine bC ?_ ?_<;>intro h
    ·simp at h
    refine W.skip ?_
    exact⟨_,aC _ [2,3],_,_,rfl,bR,cO⟩
   ·refine W.skip ?_
    exact⟨_,aC _ [2,3],_,_,rfl,by simp [bR],by simp [cO]⟩
  rintro _ ⟨rows,clk,rfl,bR,cO⟩
  simp only [G9]at bR cO
  refine W.sr ?_
  simp (disch:=omega) [gw,bR,cO]
  refine bS [10] hA' ?_
  refine aA [4] ?_
  exact bV
end
theorem AN.vD{s n u:Nat}{f:ZX}{p:Rat × Rat}(a:AN s n u f p){t:Rat}{v:Nat}(qt:SQ v t)(huv:u≤v)(hv:v≤1000000000):aD env.P 205 [GA f p,RT t] (.int .i64 (cr (aY f p) t)):=by
 have I:=a.I
 have q1:=a.q1.mono huv
 have q2:=a.q2.mono huv
 have hp:=j4 (x:=f.l) q1 q2 hv
 have hc:=a.A.aue t
 by_cases XC:p.1=p.2
 ·rw [decide_eq_true (by rw [XC];exact Rat.le_refl)]at hp
  have z:=cZ q1.nL q1.dL qt.nL qt.dL (by omega) (bA p.1) (bA t) ⟨q1.nL,q1.dL⟩ ⟨qt.nL,qt.dL⟩
  have:=UE hp z
  have e1:cr (aY f p) t=dF (p.1.num*(t.den:Int)) (t.num*(p.1.den:Int)):=by
   rw [hc,if_pos XC]
   by_cases h2:p.1<t
   ·rw [if_pos h2,mQ (nC.1 (gH.2 h2))]
   ·rw [if_neg h2]
    by_cases h3:t<p.1
    ·rw [if_pos h3,mR (nD.1 (fI.2 h3))]
    ·rw [if_neg h3,jB.2 (by grind)]
  rw [e1]
  exact this
 ·have dA:p.1<p.2:=by have:=a.A.le;grind
  rw [decide_eq_false (Rat.not_le.2 dA)]at hp
  rw [hc,if_neg XC]
  by_cases h1:t≤p.1
  ·rw [if_pos h1]
   have z1:=cZ qt.nL qt.dL q1.nL q1.dL (by omega) (bA t) (bA p.1) ⟨qt.nL,qt.dL⟩ ⟨q1.nL,q1.dL⟩
   have z2:=cZ qt.nL qt.dL q2.nL q2.dL (by omega) (bA t) (bA p.2) ⟨qt.nL,qt.dL⟩ ⟨q2.nL,q2.dL⟩
   refine sP hp z1 z2 (sR f I.ch.bz (by have:=a.hs;omega) (by have:=I.ch.hn;omega) qt hv) (BK I (by have:=a.hs;omega) q1 hv) ?_
   rw [if_pos (jC.2 h1)]
  ·rw [if_neg h1]
   by_cases h2:p.2<t
   ·rw [if_pos h2]
    have z1:=cZ qt.nL qt.dL q1.nL q1.dL (by omega) (bA t) (bA p.1) ⟨qt.nL,qt.dL⟩ ⟨q1.nL,q1.dL⟩
    have z2:=cZ qt.nL qt.dL q2.nL q2.dL (by omega) (bA t) (bA p.2) ⟨qt.nL,qt.dL⟩ ⟨q2.nL,q2.dL⟩
    refine sP hp z1 z2 (sR f I.ch.bz (by have:=a.hs;omega) (by have:=I.ch.hn;omega) qt hv) (BK I (by have:=a.hs;omega) q1 hv) ?_
    rw [if_neg (fun h=>h1 (jC.1 h)),if_pos (fI.2 h2)]
   ·rw [if_neg h2]
    have k:=aeO I (by have:=a.hs;omega) a.A (m:=t) (by grind) (by grind) q1 q2 qt hv
    have b1:=I.S.cA (show p.1≤t by grind)
    have e1:(if e t f=0 then 0 else if vt (aT f) t<vt (aT f) p.1 then -1 else 1:Int)=if vt (aT f) p.1=vt (aT f) t then 1 else if e t f=0 then 0 else -1:=by
     by_cases h3:e t f=0
     ·have:=I.S.root (show p.1<t by grind) h3
      rw [if_pos h3,if_neg (by omega),if_pos h3]
     ·rw [if_neg h3]
      by_cases h4:vt (aT f) t<vt (aT f) p.1
      ·rw [if_pos h4,if_neg (by omega),if_neg h3]
      ·rw [if_neg h4,if_pos (by omega)]
    rw [←e1]
    exact k
noncomputable def st(f h:ZX)(p q:Rat × Rat):Nat→(Rat × Rat) × (Rat × Rat)
 | 0=>(p,q)
 | j+1=>if (st f h p q j).2.2-(st f h p q j).2.1≤(st f h p q j).1.2-(st f h p q j).1.1 then(vK f (st f h p q j).1,(st f h p q j).2)else((st f h p q j).1,vK h (st f h p q j).2)
section
variable {f h:ZX} {p q:Rat × Rat} (A:j7 f (vt (aT f)) p.1 p.2) (B:j7 h (vt (aT h)) q.1 q.2) {D D':Nat} {b:Rat} (g1:Gr D b 0 p.1) (g2:Gr D b 0 p.2) (g3:Gr D' b 0 q.1) (g4:Gr D' b 0 q.2)
include A B g1 g2 g3 g4
theorem xH:∀j,j7 f (vt (aT f)) (st f h p q j).1.1 (st f h p q j).1.2∧j7 h (vt (aT h)) (st f h p q j).2.1 (st f h p q j).2.2∧(∀t,aY f (st f h p q j).1 t↔aY f p t)∧(∀t,aY h (st f h p q j).2 t↔aY h q t)∧Gr D b j (st f h p q j).1.1∧Gr D b j (st f h p q j).1.2∧Gr D' b j (st f h p q j).2.1∧Gr D' b j (st f h p q j).2.2
 | 0=>⟨A,B,fun _=>Iff.rfl,fun _=>Iff.rfl,g1,g2,g3,g4⟩
 | j+1=>by
  obtain⟨a1,a2,a3,a4,a5,a6,a7,a8⟩:=xH j
  rw [st]
  split
  ·obtain⟨b1,b2,_⟩:=kS a1
   obtain⟨c1,c2⟩:=UH (f:=f) a5 a6
   exact⟨b1,a2,fun t=>(b2 t).trans (a3 t),a4,c1,c2,a7.mono (by omega),a8.mono (by omega)⟩
  ·obtain⟨b1,b2,_⟩:=kS a2
   obtain⟨c1,c2⟩:=UH (f:=h) a7 a8
   exact⟨a1,b1,a3,fun t=>(b2 t).trans (a4 t),a5.mono (by omega),a6.mono (by omega),c1,c2⟩
theorem aeT{W:Rat}(w1:p.2-p.1≤W)(w2:q.2-q.1≤W):∀i,((st f h p q (2*i)).1.2-(st f h p q (2*i)).1.1)*2^i≤W∧((st f h p q (2*i)).2.2-(st f h p q (2*i)).2.1)*2^i≤W
 | 0=>by rw [Rat.pow_zero,Rat.mul_one,Rat.mul_one];exact⟨w1,w2⟩
 | i+1=>by
  obtain⟨h1,h2⟩:=aeT w1 w2 i
  have s0:=xH A B g1 g2 g3 g4 (2*i)
  have s1:=xH A B g1 g2 g3 g4 (2*i+1)
  have key:∀M:Rat,(st f h p q (2*i)).1.2-(st f h p q (2*i)).1.1≤M→(st f h p q (2*i)).2.2-(st f h p q (2*i)).2.1≤M→((st f h p q (2*i+2)).1.2-(st f h p q (2*i+2)).1.1)*2≤M∧((st f h p q (2*i+2)).2.2-(st f h p q (2*i+2)).2.1)*2≤M:=fun M m1 m2=>by
   have a1:=(kS s0.1).2.2.2.2
   have a2:=(kS s0.2.1).2.2.2.2
   have b1:=(kS s1.1).2.2.2.2
   have b2:=(kS s1.2.1).2.2.2.2
   have l1:=s1.1.le
   have l2:=s1.2.1.le
   have l3:=(kS s1.1).1.le
   have l4:=(kS s1.2.1).1.le
   have e2:st f h p q (2*i+2)=if (st f h p q (2*i+1)).2.2-(st f h p q (2*i+1)).2.1≤(st f h p q (2*i+1)).1.2-(st f h p q (2*i+1)).1.1 then(vK f (st f h p q (2*i+1)).1,(st f h p q (2*i+1)).2)else((st f h p q (2*i+1)).1,vK h (st f h p q (2*i+1)).2):=rfl
   have e1:st f h p q (2*i+1)=if (st f h p q (2*i)).2.2-(st f h p q (2*i)).2.1≤(st f h p q (2*i)).1.2-(st f h p q (2*i)).1.1 then(vK f (st f h p q (2*i)).1,(st f h p q (2*i)).2)else((st f h p q (2*i)).1,vK h (st f h p q (2*i)).2):=rfl
   rw [e2]
   generalize st f h p q (2*i+1)=t at *
   generalize st f h p q (2*i)=s at *
   clear e2 s0 s1 h1 h2
   split
   ·rename_i c
    show((vK f t.1).2-(vK f t.1).1)*2≤M∧(t.2.2-t.2.1)*2≤M
    split at e1
    ·subst e1;dsimp only at *;exact⟨by grind,by grind⟩
    ·subst e1;dsimp only at *;exact⟨by grind,by grind⟩
   ·rename_i c
    show(t.1.2-t.1.1)*2≤M∧((vK h t.2).2-(vK h t.2).1)*2≤M
    split at e1
    ·subst e1;dsimp only at *;exact⟨by grind,by grind⟩
    ·subst e1;dsimp only at *;exact⟨by grind,by grind⟩
  have hP:=eK i
  have e3:W/2^i*2^i=W:=Rat.div_mul_cancel (Rat.ne_of_gt hP)
  have hle:∀x:Rat,x*2^i≤W→x≤W/2^i:=fun x hx=>Rat.le_of_mul_le_mul_right (by rw [e3];exact hx) hP
  obtain⟨k1,k2⟩:=key (W/2^i) (hle _ h1) (hle _ h2)
  rw [show 2*(i+1)=2*i+2 by omega,Rat.pow_succ]
  have m1:=Rat.mul_le_mul_of_nonneg_right k1 (Rat.le_of_lt hP)
  have m2:=Rat.mul_le_mul_of_nonneg_right k2 (Rat.le_of_lt hP)
  rw [e3]at m1 m2
  exact⟨by grind,by grind⟩
end
theorem aiw{U V:Rat→Prop}{x y:Rat}(hU:∀s t,U s→s≤t→U t)(hx:U x)(hy:∀t,V t→y≤t)(tW:x≤y)(nT:¬ ∀t,U t↔V t):cu U V = -1:=by
 unfold cu
 refine if_pos (Classical.byContradiction fun AU=>nT fun t=>⟨fun h=>Classical.byContradiction fun h2=>AU ⟨t,h,h2⟩,fun h=>hU x t hx ?_⟩)
 have:=hy t h
 grind
theorem aix{U V:Rat→Prop}{x y:Rat}(hV:∀s t,V s→s≤t→V t)(hx:V x)(hy:∀t,U t→y≤t)(tW:x≤y)(nT:¬ ∀t,U t↔V t):cu U V=1:=by
 have h1:∀t,U t→V t:=fun t h=>hV x t hx (by have:=hy t h;grind)
 unfold cu
 rw [if_neg (fun ⟨t,h2,h3⟩=>h3 (h1 t h2))]
 exact if_pos (Classical.byContradiction fun AU=>nT fun t=>⟨h1 t,fun h=>Classical.byContradiction fun h2=>AU ⟨t,h,h2⟩⟩)
theorem lo_le{f:ZX}{v:Rat→Nat}{lo hi:Rat}(A:j7 f v lo hi){t:Rat}(h:gG v lo hi t):lo≤t:=Rat.not_lt.1 fun h2=>A.g9 (.inl h2) h
theorem aeU{s n u s' n' u':Nat}{f h:ZX}{p q:Rat × Rat}(a:AN s n u f p)(b:AN s' n' u' h q)(nT:¬ ∀x,aY f p x↔aY h q x)(hp:p.1<p.2)(hq:q.1<q.2){M:Nat}(hM:64+4*(ZX.N f+ZX.N h)*(zs f+zs h+(ZX.N f+ZX.N h)+8)≤M) :
  ∃J,J<M∧((st f h p q J).1.2≤(st f h p q J).2.1∨(st f h p q J).2.2≤(st f h p q J).1.1) ∧ ∀j,j<J→¬((st f h p q j).1.2≤(st f h p q j).2.1∨(st f h p q j).2.2≤(st f h p q j).1.1):=by
 have I:=a.I
 have I':=b.I
 have A:=a.A
 have B:=b.A
 have n8:=a.n8
 have m8:=b.n8
 have n2:=XI I.nf A
 have m2:=XI I'.nf B
 have fz:=PL I.ch.bz
 have hz:=PL I'.ch.bz
 have bf:=K4 I.nf fz
 have bh:=K4 I'.nf hz
 have hA:∀c∈f.l,c.natAbs≤2^zs f:=fun c hc=>Nat.le_of_lt (BZ.lt fz c hc)
 have hB:∀c∈h.l,c.natAbs≤2^zs h:=fun c hc=>Nat.le_of_lt (BZ.lt hz c hc)
 obtain⟨D,_,_,g1,g2⟩:=D9 (a.q1.mono (show u≤u+u' by omega)) (a.q2.mono (show u≤u+u' by omega))
 obtain⟨D',_,_,g3,g4⟩:=D9 (b.q1.mono (show u'≤u+u' by omega)) (b.q2.mono (show u'≤u+u' by omega))
 obtain⟨z,hz1,uQ,hz3⟩:∃z,z≤zs f∧z≤zs h∧(z=zs f∨z=zs h):=by
  rcases Nat.le_total (zs f) (zs h)with h1 | h1
  ·exact⟨zs f,Nat.le_refl _,h1, .inl rfl⟩
  ·exact⟨zs h,h1,Nat.le_refl _, .inr rfl⟩
 have e1:=HR n2 m2 n8 m8 hz1 uQ
 have e2:=HR m2 n2 m8 n8 uQ hz1
 have e3:(2*lk (zs f) (ZX.N f) 3 (z+2)+2*(zs f+zs h)+9≤64+4*(ZX.N f+ZX.N h)*(zs f+zs h+(ZX.N f+ZX.N h)+8))∨(2*lk (zs h) (ZX.N h) 3 (z+2)+2*(zs f+zs h)+9≤64+4*(ZX.N f+ZX.N h)*(zs f+zs h+(ZX.N f+ZX.N h)+8)):=by
  have sw:4*(ZX.N h+ZX.N f)*(zs h+zs f+(ZX.N h+ZX.N f)+8)=4*(ZX.N f+ZX.N h)*(zs f+zs h+(ZX.N f+ZX.N h)+8):=by rw [Nat.add_comm (ZX.N h),Nat.add_comm (zs h)]
  rcases Nat.le_total (zs f) (zs h)with h1 | h1
  ·have hz':z=zs f:=by omega
   subst hz'
   rcases Nat.lt_or_ge 2 (ZX.N h)with h2 | h2
   ·exact .inl (HS n2 m2 n8 h1 (.inl h2))
   ·exact .inr (HT n2 n8 h1 (by omega))
  ·have hz':z=zs h:=by omega
   subst hz'
   rcases Nat.lt_or_ge 2 (ZX.N f)with h2 | h2
   ·have:=HS m2 n2 m8 h1 (.inl h2)
    rw [sw,Nat.add_comm (zs h) (zs f)]at this
    exact .inr this
   ·have:=HT (m:=ZX.N f) m2 m8 h1 (by omega)
    rw [sw,Nat.add_comm (zs h) (zs f)]at this
    exact .inl this
 have sw:4*(ZX.N h+ZX.N f)*(zs h+zs f+(ZX.N h+ZX.N f)+8)=4*(ZX.N f+ZX.N h)*(zs f+zs h+(ZX.N f+ZX.N h)+8):=by rw [Nat.add_comm (ZX.N h),Nat.add_comm (zs h)]
 rw [sw]at e2
 generalize 64+4*(ZX.N f+ZX.N h)*(zs f+zs h+(ZX.N f+ZX.N h)+8)=T at *
 obtain⟨K,hK⟩:∃K,K=(T-1)/2-(zs f+zs h+3):=⟨_,rfl⟩
 have hi:2*(K+1+(zs f+zs h+2))<T:=by omega
 have k1:se (zs f) (zs h) (ZX.N f) (ZX.N h) (z+2)≤K:=by omega
 have k2:se (zs h) (zs f) (ZX.N h) (ZX.N f) (z+2)≤K:=by omega
 have k3:lk (zs f) (ZX.N f) 3 (z+2)≤K∨lk (zs h) (ZX.N h) 3 (z+2)≤K:=by omega
 generalize hie:K+1+(zs f+zs h+2)=i at *
 have wW:(st f h p q (2*i)).1.2≤(st f h p q (2*i)).2.1∨(st f h p q (2*i)).2.2≤(st f h p q (2*i)).1.1:=by
  refine Classical.byContradiction fun AU=>nT ?_
  obtain⟨c1,c2⟩:=not_or.1 AU
  have w0:∀ {r:Rat × Rat} {y:Nat},Ab r.1 (2^(y+1))→Ab r.2 (2^(y+1))→y≤zs f+zs h→r.2-r.1≤2^(zs f+zs h+2):=fun {r y} ⟨x1,x2⟩ ⟨x3,x4⟩ hy=>by
   refine Rat.le_trans ?_ (DY (show y+1+1≤zs f+zs h+2 by omega))
   rw [Rat.pow_succ];grind
  obtain⟨w1,w2⟩:=aeT A B g1 g2 g3 g4 (w0 (a.b1 hp) (a.b2 hp) (by omega)) (w0 (b.b1 hq) (b.b2 hq) (by omega)) i
  obtain⟨s1,s2,s3,s4,_⟩:=xH A B g1 g2 g3 g4 (2*i)
  generalize st f h p q (2*i)=t at *
  have l1:=s1.le
  have l2:=s2.le
  obtain⟨S,hS,hS1,hS2⟩:∃S,(S=t.1.1∨S=t.2.1)∧S≤t.1.1∧S≤t.2.1:=by
   by_cases hh:t.1.1≤t.2.1
   ·exact⟨_, .inl rfl,Rat.le_refl,hh⟩
   ·exact⟨_, .inr rfl,by grind,Rat.le_refl⟩
  obtain⟨E,hE,hE1,hE2⟩:∃E,(E=t.1.2∨E=t.2.2)∧t.1.2≤E∧t.2.2≤E:=by
   by_cases hh:t.1.2≤t.2.2
   ·exact⟨_, .inr rfl,hh,Rat.le_refl⟩
   ·exact⟨_, .inl rfl,Rat.le_refl,by grind⟩
  have hP:=eK (zs f+zs h+2)
  have nar:∀x:Rat,x*2^i≤2^(zs f+zs h+2)→x*2^(K+1)≤1:=fun x hx=>by
   rw [←hie,oX (K+1),←Rat.mul_assoc]at hx
   refine Rat.le_of_mul_le_mul_right ?_ hP
   rw [Rat.one_mul];exact hx
  have hd:(E-S)*2^K≤1:=by
   have n1:=nar _ w1
   have n2:=nar _ w2
   have hPK:=eK K
   rw [Rat.pow_succ]at n1 n2
   have:E-S≤(t.1.2-t.1.1)+(t.2.2-t.2.1):=by rcases hS with rfl | rfl<;>rcases hE with rfl | rfl<;>grind
   have:=Rat.mul_le_mul_of_nonneg_right this (Rat.le_of_lt hPK)
   grind
  have a1:¬aY f p S:=fun hh2=>s1.g9 (by grind) ((s3 S).2 hh2)
  have b1:¬aY h q S:=fun hh2=>s2.g9 (by grind) ((s4 S).2 hh2)
  have a2:aY f p E:=(s3 E).1 (s1.up eU hE1)
  have b2:aY h q E:=(s4 E).1 (s2.up eU hE2)
  have AV:=(fL A).lt a1 a2
  have h1:E-S≤1:=by
   have:=Rat.mul_le_mul_of_nonneg_left (qK K) (show 0≤E-S by grind)
   grind
  have bd:Ab S (2^(z+2))∧Ab E (2^(z+2)):=by
   have main:∀b:Rat,Ab b (2^(z+1))→S<b → -b<E→Ab S (2^(z+2))∧Ab E (2^(z+2)):=fun b ⟨y1,y2⟩ y3 y4=>by
    have y5:=qK (z+1)
    rw [show z+2=z+1+1 by omega,Rat.pow_succ]
    generalize (2:Rat)^(z+1)=T at *
    exact⟨⟨by grind,by grind⟩,⟨by grind,by grind⟩⟩
   rcases hz3 with rfl | rfl
   ·exact main _ bf ((K5 I.nf A).2 a1) ((K5 I.nf A).1 a2)
   ·exact main _ bh ((K5 I'.nf B).2 b1) ((K5 I'.nf B).1 b2)
  exact aiu I.nf I'.nf I.LG I'.LG A B hA hB (Nat.le_refl _) (Nat.le_refl _) n8 m8 k1 k2 k3 bd.1 bd.2 a1 a2 b1 b2 hd
 obtain⟨J,hJ,hj,jD⟩:=qP (fun j=>(st f h p q j).1.2≤(st f h p q j).2.1∨(st f h p q j).2.2≤(st f h p q j).1.1) (2*i+1)
 have hJ2:J<2*i+1:=Nat.not_le.1 fun hh=>hj (2*i) (by omega) wW
 exact⟨J,by omega,jD hJ2,hj⟩
def gg(x:ZX × Rat × Rat):List PV:=Po x.1.l::(tc x.2.1++tc x.2.2)
@[simp] theorem azN{x:ZX × Rat × Rat}:gg x=Po x.1.l::(tc x.2.1++tc x.2.2):=rfl
@[simp] theorem aqj{l:List (ZX × Rat × Rat)}:bM 9 (emap gg l)=True:=dO fun _=>rfl
@[simp] theorem aoh{v e n:Nat}{l:List (ZX × Rat × Rat)}:dJ (some ⟨v,e,n,emap gg l⟩)=True:=dC fun _=>rfl
abbrev QB(x:ZX × Rat × Rat):PV:=QA x.1 (aT x.1) (ex x.1 x.2)
abbrev XL:PV:=.ag [.sl [], .bool false, .sl [], .bool false, .sl [], .bool false, .sl [], .bool false, .sl []]
theorem UM{s n:Nat}{f:ZX}(I:kR s n f)(h:ZX)(hC:(qb (qb s n) n+n+6)*4^n≤4500000000)(hq:qb s n≤5000000):kR (qb s n) n (gz h f):=by
 have nd:Nf (gz h f):=DL (.inr I.nf.ne)
 have hd:dv (gz h f) f:=(eT h f).r
 obtain⟨w,nw,e⟩:=I.nf.quo nd hd
 have hD:bX f=bX w*gz h f+w*bX (gz h f):=by
  have h1:=congrArg bX e
  rwa [tA]at h1
 refine⟨⟨I.lay.dv I.nf nd hd,I.lay.hn,Nat.le_trans I.lay.hs (Nat.pow_le_pow_right (by decide) (by unfold qb;omega)),hC⟩,I.qF,nd,K2 nd fun d h1 h2=>I.LG d (h1.trans hd) (by rw [hD];exact(h1.mul_left _).add (h2.mul_left _)),hq⟩
section
variable {s n s' n' S N:Nat} {f h:ZX} (I:kR s n f) (I':kR s' n' h) (pY:s≤S) (VN:s'≤S) (qF:n≤N) (hn2:n'≤N) (hN:N≤20)
include I I' pY VN qF hn2 hN
theorem azO(hNS:N+1≤2^S):Two S N f h:=⟨I.nf,I'.nf,I.LG,I'.LG,fun c hc=>Nat.le_trans (I.szf c hc) (Nat.pow_le_pow_right (by decide) pY),fun c hc=>Nat.le_trans (I'.szf c hc) (Nat.pow_le_pow_right (by decide) VN),
 Nat.le_trans I.ch.bz.N qF,Nat.le_trans I'.ch.bz.N hn2,hN,hNS⟩
theorem aoi(hC:(S+N+1)*2*4^N≤4500000000):aD env.P 208 [PI h.l,PI f.l] (PI (gz h f).l):=by
 refine yH (C:=4500000000) (I'.ch.bz.mono VN hn2) (I.ch.bz.mono pY qF) ?_ hN (by decide) (Nat.le_trans I.s1 pY)
 rw [I.nf.ZU,I'.nf.ZU]
 have h1:(4:Nat)^ZX.N h≤4^N:=Nat.pow_le_pow_right (by decide) (Nat.le_trans I'.ch.bz.N hn2)
 have h2:(4:Nat)^ZX.N f≤4^N:=Nat.pow_le_pow_right (by decide) (Nat.le_trans I.ch.bz.N qF)
 unfold yG
 split
 ·exact Nat.le_trans (Nat.mul_le_mul (by omega) h1) hC
 ·exact Nat.le_trans (Nat.mul_le_mul (Nat.le_refl _) h2) hC
theorem azQ(hNS:N+1≤2^S)(hS:S≤20000)(hC:(S+N+1)*2*4^N≤4500000000)(hC2:(qb (qb s n) n+n+6)*4^n≤4500000000)(hq:qb s n≤5000000){u:Nat}{p q:Rat × Rat}(A:j7 f (vt (aT f)) p.1 p.2)(B:j7 h (vt (aT h)) q.1 q.2)(p1:SQ u p.1)(p2:SQ u p.2)(q1:SQ u q.1)(q2:SQ u q.2)(hu:u≤2200000) :
  aD env.P 54 [QA f (aT f) p,QA h (aT h) q] (.int .i64 (cu (aY f p) (aY h q))):=
 PC I I' (azO I I' pY VN qF hn2 hN hNS) hS (aoi I I' pY VN qF hn2 hN hC) (fun _=>⟨_,_,UM I h hC2 hq⟩) A B p1 p2 q1 q2 hu
end
theorem kR.root{s n:Nat}{f:ZX}(I:kR s n f){p:Rat × Rat}(hp:p∈lS s n f):SQ (uu s) p.1∧SQ (uu s) p.2∧j7 f (vt (aT f)) (ex f p).1 (ex f p).2∧SQ (uu s) (ex f p).1∧SQ (uu s) (ex f p).2:=by
 obtain⟨a1,a2,a3,a4,a5,a6⟩:=I.ivs.mem _ hp
 refine⟨a1,a2,(qO ⟨I.S, .inr ⟨a4,a6⟩⟩).1,?_,?_⟩<;>(unfold ex;split<;>assumption)
def pk(l:List Int)(i:Nat):Int:=IntKind.wrap .i64 (nth l i+6)%13-6
theorem akI(l:List Int)(i:Nat) : -6≤pk l i∧pk l i≤6:=by
 unfold pk
 have h1:=Int.emod_nonneg (IntKind.wrap .i64 (nth l i+6)) (show (13:Int)≠0 by decide)
 have h2:=Int.emod_lt_of_pos (IntKind.wrap .i64 (nth l i+6)) (show (0:Int)<13 by decide)
 omega
def pks(l:List Int)(n:Nat):List Int:=(List.range n).map (pk l)
theorem aeV(l:List Int)(n:Nat):pks l (n+1)=pks l n ++ [pk l n]:=by
 simp [pks,List.range_succ]
theorem K6(l:List Int)(n:Nat):(pks l n).length=n:=by simp [pks]
theorem aeW(l:List Int)(n:Nat):List.take n (pks l n)=pks l n:=List.take_of_length_le (by rw [K6];exact Nat.le_refl _)
theorem aeX(v:Int) : -9223372036854775808≤IntKind.wrap .i64 v∧IntKind.wrap .i64 v<9223372036854775808:=by
 simp only [IntKind.wrap,IntKind.bits,IntKind.signed]
 have h1:=Int.emod_nonneg v (show (2^64:Int)≠0 by decide)
 have h2:=Int.emod_lt_of_pos v (show (0:Int)<2^64 by decide)
 simp
 split<;>omega
theorem yT{l al:List Int}{k:Int}{f:ZX}{L:List (Rat × Rat)}{x C:List Int}{cc:List ZX}{n d:Int}{r:PV}(hl:l.length<9223372036854775808)(hk : -9223372036854775808≤k∧k<9223372036854775808)(hOf:aD env.P 96 [aI aG (pks l (min l.length 5))] (PI al))(ha:al.length<1000000)(hL:L.length<1000000)
  (hS:aD env.P 26 [.int .i64 k, .int .i64 l.length] (R2 n d)) (hR:aD env.P 45 [R2 n d] (.ag (gS x cc n d n d))) (hRo:2≤al.length→aD env.P 97 [PI al] (aI (qa f (aT f)) L))
  (hr:r=if al.length<2∨L = []then .ag (gS x cc n d n d)else QA f (aT f) (nth L (k%L.length).toNat)):aD env.P 28 [aI aG l, .int .i64 k] r:=by
 simp only [gS]at *
 refine bY [(0,aI aG l),(1, .int .i64 k)] Tryz.func28 ?_
 refine aA [0,1,4] ?_
 refine aA [0,1,4,5] ?_
 refine W.nil 5 5 3 1 (by simp) (by decide) (fun K hK=>?_)
 refine W.lw [0,1,4,5] hK ?_;clear hK K;simp
 refine aL [0,1,4,5,6] ?_
 refine W.block ?_
 refine W.bG (fun m σ=>∃(i v4 ver:Nat) (rows:Pm.Rows) (clk:Nat),σ=⟨fa [(0,aI aG l),(1, .int .i64 k),(4, .ptr 4 v4 0 0),(5, .own 5 ver 0 i),(6, .int .i64 i)],rows,clk⟩∧rows 4=some ⟨v4,49,10,[[.nil, .nil, .nil, .bool false, .nil, .bool false, .nil, .bool false, .nil, .bool false]]⟩∧rows 5=some ⟨ver,3,1,emap aG (pks l i)⟩∧i+m=min l.length 5) (min l.length 5) ?_ ?_
 ·exact⟨_, .refl,0,_,_,_,_,rfl,by simp,by simp [pks,emap],by omega⟩
 rintro m _ ⟨i,v4,ver,rows,clk,rfl,dS,fM,him⟩
 refine W.seq ?_
 have ET:=K6 l i
 by_cases hi:i<min l.length 5
 ·have hi1:i<l.length:=by omega
  have hi5:(i:Int)<5:=by omega
  have aFr:(i:Int)<l.length:=by omega
  have hw:=aeX (nth l i+6)
  have hW:=jM (IntKind.wrap .i64 (nth l i+6)) 13 hw (by decide) (by decide)
  have hp:=akI l i
  have e1:IntKind.wrap .i64 (IntKind.wrap .i64 (nth l i+6)%13-6)=pk l i:=wrap_i64 (by show -9223372036854775808≤pk l i;omega) (by show pk l i<9223372036854775808;omega)
  refine W.sr ?_
  simp (disch:=omega) [gw,hi1,hi5]
  refine bL [0,1,4,5,6,16] ?_
  refine bC ?_ ?_<;>intro h
  ·refine kW ?_
   refine W.cC (fun K hK=>?_)
   simp (disch:=omega) [gw,hi1]
   refine aB hW ?_
   simp (disch:=omega) [gw,fM,ET,e1]
   refine W.lw [0,1,4,5,6] hK ?_;clear hK K;simp
   refine W.cC (fun K hK=>?_);simp (disch:=omega) [gw]
   refine hK _ ⟨m-1,_,aC _ [0,1,4,5,6],by omega,i+1,_,_,_,_,rfl,by simp [dS],?_,by omega⟩
   rw [aeV]
   simp
  ·simp at h
 ·have lT:i=min l.length 5:=by omega
  subst lT
  refine W.fG (fun σ=>∃(rows:Pm.Rows) (clk:Nat),σ=⟨fa [(0,aI aG l),(1, .int .i64 k),(4, .ptr 4 v4 0 0),(5, .own 5 ver 0 (min l.length 5)),(6, .int .i64 ((min l.length 5:Nat):Int)),(16, .bool false)],rows,clk⟩∧rows 4=some ⟨v4,49,10,[[.nil, .nil, .nil, .bool false, .nil, .bool false, .nil, .bool false, .nil, .bool false]]⟩∧rows 5=some ⟨ver,3,1,emap aG (pks l (min l.length 5))⟩) (fun K hK=>?_) ?_
  ·obtain⟨q,hq⟩:∃q:Nat,min l.length 5=q:=⟨_,rfl⟩
   rw [hq]at hi him fM ET hK ⊢
   by_cases h1:q<l.length
   ·have h5:¬(q:Int)<5:=by omega
    have h1':(q:Int)<l.length:=by omega
    simp (disch:=omega) [gw,h1,h1',h5]
    exact hK _ _ (aC _ [0,1,4,5,6,16]) ⟨_,_,rfl,dS,fM⟩
   ·have h1':¬(q:Int)<l.length:=by omega
    simp (disch:=omega) [gw,h1,h1']
    exact hK _ _ (aC _ [0,1,4,5,6,16]) ⟨_,_,rfl,dS,fM⟩
  rintro _ ⟨rows,clk,rfl,dS,fM⟩
  refine bC ?_ ?_<;>intro h
  ·simp at h
  refine eV ?_
  refine W.sr ?_
  simp (disch:=omega) [gw,fM,aeW]
  refine bS [0,1,4,7] hOf ?_
  refine W.seq ?_
  by_cases h2:al.length<2
  ·rw [if_pos (.inl h2)]at hr
   subst hr
   refine aA [0,1,4,7,33] ?_
   refine bC ?_ ?_<;>intro h
   ·refine iB ?_
    refine cB hS ?_
    refine aB hR ?_
    simp (disch:=omega) [gw,dS]
    refine bL [4] ?_
    exact bV
   ·exfalso;simp at h;omega
  ·have azR:=hRo (by omega)
   refine aA [0,1,4,7,33] ?_
   refine bC ?_ ?_<;>intro h
   ·exfalso;simp at h;omega
   refine W.skip ?_
   refine aJ [0,1,4,8] azR ?_
   refine W.seq ?_
   by_cases h3:L = []
   ·rw [if_pos (.inr h3)]at hr
    subst hr h3
    refine aA [0,1,4,8,43] ?_
    refine bC ?_ ?_<;>intro h
    ·refine iB ?_
     refine cB hS ?_
     refine aB hR ?_
     simp (disch:=omega) [gw,dS]
     refine bL [4] ?_
     exact bV
    ·simp at h
   ·rw [if_neg (by simp [h2,h3])]at hr
    subst hr
    have hLp:=List.length_pos_iff.2 h3
    have hW:=jM k (L.length:Int) hk (by omega) (by omega)
    have GN:=Int.emod_nonneg k (show (L.length:Int)≠0 by omega)
    have hm2:=Int.emod_lt_of_pos k (show (0:Int)<L.length by omega)
    obtain⟨j,hj⟩:∃j:Nat,k%(L.length:Int)=j:=⟨(k%(L.length:Int)).toNat,by omega⟩
    have hjL:j<L.length:=by omega
    rw [hj]at hW ⊢
    rw [Int.toNat_natCast]
    refine aA [0,1,4,8,43] ?_
    refine bC ?_ ?_<;>intro h
    ·exfalso;simp at h;exact h3 h
    refine W.skip ?_
    refine iB ?_
    refine aB hW ?_
    simp (disch:=omega) [gw,hjL,dS]
    refine bL [4] ?_
    exact bV
theorem common{f h:ZX}{p q:Rat × Rat}(nf:Nf f)(nh:Nf h)(cf:tJ f (bX f))(ch:tJ h (bX h))(n8:ZX.N f≤20)(m8:ZX.N h≤20)(A:j7 f (vt (aT f)) p.1 p.2)(B:j7 h (vt (aT h)) q.1 q.2)(hp:p.1<p.2)(hq:q.1<q.2){lo hi:Rat}(l1:lo=p.1∨lo=q.1)(l2:p.1≤lo)(l3:q.1≤lo)(r1:hi=p.2∨hi=q.2)(r2:hi≤p.2)(r3:hi≤q.2) :
  (lo<hi∧vt (aT (gz f h)) hi<vt (aT (gz f h)) lo) ↔ ∀x,aY f p x↔aY h q x:=by
 obtain⟨w1,S1⟩:=mI (h:=h) nf cf
 obtain⟨w2,S2⟩:=mI (h:=f) nh ch
 rw [←qC]at S2
 have n1:=S1.N
 have n2:=S2.N
 have hg:=xQ S1.ng.ne S1.sg (by omega)
 have xN:=xQ S1.nw.ne S1.sw (by omega)
 have VL:=xQ S2.nw.ne S2.sw (by omega)
 have hv:vt (aT f) p.1=vt (aT f) p.2+1:=by
  rcases A.k with ⟨h,_⟩ | ⟨_,h⟩
  ·grind
  ·exact h
 have hv':vt (aT h) q.1=vt (aT h) q.2+1:=by
  rcases B.k with ⟨h,_⟩ | ⟨_,h⟩
  ·grind
  ·exact h
 constructor
 ·rintro⟨dA,hγ⟩
  have c1:=S1.EM A.S hg xN (Rat.le_of_lt dA)
  have c2:=S2.EM B.S hg VL (Rat.le_of_lt dA)
  have m1:=xN.cA (Rat.le_of_lt dA)
  have m2:=VL.cA (Rat.le_of_lt dA)
  have v1:=A.S.cA l2
  have v2:=A.S.cA r2
  have u1:=B.S.cA l3
  have u2:=B.S.cA r3
  have a1:¬aY f p lo:=by
   rintro(h | ⟨_,h⟩)
   ·grind
   ·omega
  have b1:¬aY h q lo:=by
   rintro(h | ⟨_,h⟩)
   ·grind
   ·omega
  have a2:aY f p hi:=.inr ⟨by grind,by omega⟩
  have b2:aY h q hi:=.inr ⟨by grind,by omega⟩
  exact xD A B S1 S2 hg xN VL dA a1 a2 b1 b2 (by omega) (by omega) hγ
 ·intro hx
  have a1:¬aY f p lo:=by
   rcases l1 with h | h
   ·rw [h];exact A.g9 (.inr ⟨rfl,hp⟩)
   ·rw [h];exact fun h2=>B.g9 (.inr ⟨rfl,hq⟩) ((hx _).1 h2)
  have a2:aY f p hi:=by
   rcases r1 with h | h
   ·rw [h];exact eU
   ·rw [h];exact(hx _).2 eU
  have dA:=(fL A).lt a1 a2
  refine⟨dA,Nat.not_le.1 fun hγ=>?_⟩
  obtain⟨B0,hB0,ab1,ab2⟩:=lO lo hi
  obtain⟨δ,hδ,Q3⟩:=XA xN B.S S1.wh B0
  obtain⟨a,b,g1,g2,g3,g4,g5,g6⟩:=K1 (U:=aY f p) hδ dA a1 a2
  have o1:=jQ A g5 g6 g2
  have o2:=jQ B (fun hh=>g5 ((hx _).2 hh)) ((hx _).1 g6) g2
  have k1:=S1.EM A.S hg xN (Rat.le_of_lt g2)
  have x1:=hg.cA g1
  have x2:=hg.cA g3
  have x3:=hg.cA (Rat.le_of_lt g2)
  rcases Q3 a b (cH ab1 ab2 g1 (by grind)) (cH ab1 ab2 (by grind) g3) g2 g4 with hh | hh<;>omega
theorem akJ{u u':Nat}{D j M:Nat}{r r':Rat}(h1:1≤D)(h2:D≤2^(2*(u+u')))(g:Gr D (2^(u+u')) j r)(g':Gr D (2^(u+u')) j r')(hj:j≤M):SQ (3*(u+u')+M+2) r∧SQ (3*(u+u')+M+2) r'∧SQ (3*(u+u')+M+2) ((r+r')/2):=
 ⟨((g.mono hj).sq h1 h2).mono (by omega),((g'.mono hj).sq h1 h2).mono (by omega),((((g.mono hj).FD (g'.mono hj))).sq h1 h2).mono (by omega)⟩
theorem aeY{D j β d:Nat}{r r':Rat}(h1:1≤D)(h2:D≤2^d)(g:Gr D (2^β) j r)(g':Gr D (2^β) j r'):SQ (β+1+d+j+1) (r'-r):=by
 obtain⟨⟨y,hy⟩,b1,b2⟩:=g
 obtain⟨⟨z,hz⟩,b3,b4⟩:=g'
 have:Gr D (2^(β+1)) j (r'-r):=⟨⟨z-y,by rw [Rat.intCast_sub,←hz,←hy];grind⟩,by rw [Rat.pow_succ];exact⟨by grind,by grind⟩⟩
 exact this.sq h1 h2
theorem AN.cmp{s n u s' n' u':Nat}{f h:ZX}{p q:Rat × Rat}(a:AN s n u f p)(b:AN s' n' u' h q)(hG:aD env.P 184 [.sl [[Po f.l],[Po h.l]]] (Po (gz f h).l))(IG:2≤ZX.N (gz f h) → ∃sg ng,kR sg ng (gz f h)∧sg≤1000000) :
  aD env.P 130 [GA f p,GA h q] (.int .i64 (cu (aY f p) (aY h q))):=by
 have I:=a.I
 have I':=b.I
 have A:=a.A
 have B:=b.A
 have hsa:=a.hs
 have hsb:=b.hs
 have hua:=a.hu
 have hub:=b.hu
 have hn:=I.ch.hn
 have xW:=I'.ch.hn
 have n8:=a.n8
 have m8:=b.n8
 have Nx:=sU I.ch.bz (by omega) (by omega) a.q1 a.q2 (by omega)
 have Ny:=sU I'.ch.bz (by omega) (by omega) b.q1 b.q2 (by omega)
 have P1:=j4 (x:=f.l) a.q1 a.q2 (by omega)
 have P2:=j4 (x:=h.l) b.q1 b.q2 (by omega)
 by_cases h1:p.1=p.2
 ·rw [decide_eq_true (by rw [h1];exact Rat.le_refl)]at P1
  have k:=b.vD (v:=u+u') (a.q1.mono (by omega)) (by omega) (by omega)
  rw [gY (oK h1) (fun _=>Iff.rfl),PA fun s t=>B.up]
  exact aof Nx Ny (xE _ _) P1 k
 have dA:p.1<p.2:=by have:=A.le;grind
 rw [decide_eq_false (Rat.not_le.2 dA)]at P1
 by_cases h2:q.1=q.2
 ·rw [decide_eq_true (by rw [h2];exact Rat.le_refl)]at P2
  have k:=a.vD (v:=u+u') (b.q1.mono (by omega)) (by omega) (by omega)
  rw [gY (fun _=>Iff.rfl) (oK h2),HP fun s t=>A.up]
  exact aog Nx Ny P1 P2 k
 have hlq:q.1<q.2:=by have:=B.le;grind
 rw [decide_eq_false (Rat.not_le.2 hlq)]at P2
 have a1:=a.q1.mono (show u≤u+u' by omega)
 have a2:=a.q2.mono (show u≤u+u' by omega)
 have b1:=b.q1.mono (show u'≤u+u' by omega)
 have b2:=b.q2.mono (show u'≤u+u' by omega)
 have hU:u+u'≤1000000000:=by omega
 have kM:=aay a1 b1 hU
 have kD:=cZ b2.nL b2.dL a2.nL a2.dL (by omega) (bA q.2) (bA p.2) ⟨b2.nL,b2.dL⟩ ⟨a2.nL,a2.dL⟩
 obtain⟨lo,ES,l1,l2,l3,ql⟩:∃lo,lo=(if p.1<q.1 then q.1 else p.1)∧(lo=p.1∨lo=q.1)∧p.1≤lo∧q.1≤lo∧SQ (u+u') lo:=by
  refine⟨_,rfl,?_⟩
  split
  ·exact⟨.inr rfl,by grind,Rat.le_refl,b1⟩
  ·exact⟨.inl rfl,Rat.le_refl,by grind,a1⟩
 obtain⟨hi,PU,r1,r2,r3,qh⟩:∃hi,hi=(if q.2<p.2 then q.2 else p.2)∧(hi=p.2∨hi=q.2)∧hi≤p.2∧hi≤q.2∧SQ (u+u') hi:=by
  refine⟨_,rfl,?_⟩
  split
  ·exact⟨.inr rfl,by grind,Rat.le_refl,b2⟩
  ·exact⟨.inl rfl,Rat.le_refl,by grind,a2⟩
 rw [←ES]at kM
 have vO:if dF (q.2.num*(p.2.den:Int)) (p.2.num*(q.2.den:Int))<0 then hi.num=q.2.num∧(hi.den:Int)=q.2.den else hi.num=p.2.num∧(hi.den:Int)=p.2.den:=by
  by_cases hh:q.2<p.2
  ·rw [if_pos (gH.2 hh),PU,if_pos hh];exact⟨rfl,rfl⟩
  ·rw [if_neg (fun h3=>hh (gH.1 h3)),PU,if_neg hh];exact⟨rfl,rfl⟩
 have kL:=cZ ql.nL ql.dL qh.nL qh.dL (by omega) (bA lo) (bA hi) ⟨ql.nL,ql.dL⟩ ⟨qh.nL,qh.dL⟩
 have zl:dF (lo.num*(hi.den:Int)) (hi.num*(lo.den:Int))<0↔lo<hi:=gH
 have hgN:ZX.N (gz f h)≤ZX.N f:=(eT f h).l.nW I.nf.ne
 have hD:aD env.P 87 [Po (gz f h).l] (.int .i64 ((ZX.N (gz f h):Int)-1)):=kO (gz f h).l (by show ZX.N (gz f h)<_;omega)
 have key:=common I.nf I'.nf I.LG I'.LG (by omega) (by omega) A B dA hlq l1 l2 l3 r1 r2 r3
 obtain⟨w1,S1⟩:=mI (h:=h) I.nf I.LG
 have sn:=S1.N
 have hg:=xQ S1.ng.ne S1.sg (by omega)
 have xN:=xQ S1.nw.ne S1.sw (by omega)
 have hv:vt (aT f) p.1=vt (aT f) p.2+1:=by
  rcases A.k with ⟨h,_⟩ | ⟨_,h⟩
  ·exact absurd h h1
  ·exact h
 have hH:dF (lo.num*(hi.den:Int)) (hi.num*(lo.den:Int))<0→(0:Int)<(ZX.N (gz f h):Int)-1→aD env.P 185 [Po (gz f h).l,RT lo,RT hi] (.bool (decide (vt (aT (gz f h)) hi<vt (aT (gz f h)) lo))):=fun z1 z2=>by
  obtain⟨sg,ng,IGG,OL⟩:=IG (by omega)
  have hlh:=zl.1 z1
  have c1:=S1.EM A.S hg xN (Rat.le_of_lt hlh)
  have m1:=xN.cA (Rat.le_of_lt hlh)
  have v1:=A.S.cA l2
  have v2:=A.S.cA r2
  exact XG IGG OL hlh (by omega) ql qh hU
 have hgc:vt (aT (gz f h)) hi<vt (aT (gz f h)) lo→lo<hi→2≤ZX.N (gz f h):=fun hz hlh=>Nat.not_lt.1 fun h2=>by
  obtain⟨d,hd,e⟩:=ZX.mA (x:=gz f h) (by have:=ZX.aH.1 S1.ng.ne;omega)
  rw [e]at hz hg
  have:=hg.const hlh (σ:=b8 (d:Rat)) (.inr (by rw [EK])) (fun x _ _=>by rw [EK])
  omega
 by_cases pJ:∀x,aY f p x↔aY h q x
 ·obtain⟨c1,c2⟩:=key.2 pJ
  rw [W3.2 pJ]
  have c3:=hgc c2 c1
  refine XK (v:=GA f p) (w:=GA h q) (hn:=hi.num) (hd:=(hi.den:Int)) Nx Ny P1 P2 kM kD vO kL (fun _=>hG) (fun _=>hD) hH (fun _=>rfl) (fun Q3=>?_) ⟨_,_,_,_,rfl⟩ ⟨_,_,_,_,rfl⟩
  exact absurd ⟨zl.2 c1,by omega,decide_eq_true c2⟩ Q3
 ·have Q3:¬(dF (lo.num*(hi.den:Int)) (hi.num*(lo.den:Int))<0∧(0:Int)<(ZX.N (gz f h):Int)-1∧decide (vt (aT (gz f h)) hi<vt (aT (gz f h)) lo)=true):=fun⟨z1,_,z3⟩=>pJ (key.1 ⟨zl.1 z1,of_decide_eq_true z3⟩)
  obtain⟨M,R,hM1,hM2⟩:=HW (u:=u+u') (ad:=p.1.den) (bd:=p.2.den) (cd:=q.1.den) (dd:=q.2.den) I.ch.bz I'.ch.bz (by omega) (by omega) (by omega) (by omega) (Nat.lt_of_lt_of_le (iH (b:=2) (by decide) p.1.num) (Nat.pow_le_pow_right (by decide) a1.n2)) (Nat.lt_of_lt_of_le (iH (b:=2) (by decide) p.2.num) (Nat.pow_le_pow_right (by decide) a2.n2)) (Nat.lt_of_lt_of_le (iH (b:=2) (by decide) q.1.num) (Nat.pow_le_pow_right (by decide) b1.n2)) (Nat.lt_of_lt_of_le (iH (b:=2) (by decide) q.2.num) (Nat.pow_le_pow_right (by decide) b2.n2)) (by omega)
  have zf:=HV I.ch.bz
  have zh:=HV I'.ch.bz
  have hMb:4*(ZX.N f+ZX.N h)*(zs f+zs h+(ZX.N f+ZX.N h)+8)≤4*16*(100000+100000+16+8):=Nat.mul_le_mul (by omega) (by omega)
  obtain⟨J,hJ,jD,hj⟩:=aeU a b pJ dA hlq hM1
  obtain⟨D,hD1,AL,g1,g2⟩:=D9 a1 a2
  obtain⟨D',T7,T8,g3,g4⟩:=D9 b1 b2
  have spec:=xH A B g1 g2 g3 g4
  have hV:3*(u+u')+M+2≤1000000000:=by omega
  have sqj:=fun j (hjM:j≤M)=>akJ (M:=M) hD1 AL (spec j).2.2.2.2.1 (spec j).2.2.2.2.2.1 hjM
  have auK:=fun j (hjM:j≤M)=>akJ (M:=M) T7 T8 (spec j).2.2.2.2.2.2.1 (spec j).2.2.2.2.2.2.2 hjM
  obtain⟨J1,J2,_⟩:=sqj J (by omega)
  obtain⟨J3,J4,_⟩:=auK J (by omega)
  have c1:=cZ J2.nL J2.dL J3.nL J3.dL (by omega) (bA (st f h p q J).1.2) (bA (st f h p q J).2.1) ⟨J2.nL,J2.dL⟩ ⟨J3.nL,J3.dL⟩
  have c2:=cZ J4.nL J4.dL J1.nL J1.dL (by omega) (bA (st f h p q J).2.2) (bA (st f h p q J).1.1) ⟨J4.nL,J4.dL⟩ ⟨J1.nL,J1.dL⟩
  have PJ:=j4 (x:=f.l) J1 J2 hV
  have PJ':=j4 (x:=h.l) J3 J4 hV
  obtain⟨s1,s2,s3,s4,_⟩:=spec J
  have hsJ:¬ ∀x,aY f (st f h p q J).1 x↔aY h (st f h p q J).2 x:=fun hh=>pJ fun x=>((s3 x).symm.trans (hh x)).trans (s4 x)
  have both:∀ {z:Rat},(st f h p q J).1.2≤(st f h p q J).1.1→(st f h p q J).2.2≤(st f h p q J).2.1→(st f h p q J).1.1=z→(st f h p q J).2.1=z→False:=fun {z} e1 e2 e3 e4=>hsJ fun x=>by
   have i1:=s1.le
   have i2:=s2.le
   rw [oK (by grind) x,oK (by grind) x,e3,e4]
  have hc:(dF ((st f h p q J).1.2.num*((st f h p q J).2.1.den:Int)) ((st f h p q J).2.1.num*((st f h p q J).1.2.den:Int))≤0∧cu (aY f p) (aY h q) = -1)∨(0<dF ((st f h p q J).1.2.num*((st f h p q J).2.1.den:Int)) ((st f h p q J).2.1.num*((st f h p q J).1.2.den:Int))∧dF ((st f h p q J).2.2.num*((st f h p q J).1.1.den:Int)) ((st f h p q J).1.1.num*((st f h p q J).2.2.den:Int))≤0∧cu (aY f p) (aY h q)=1):=by
   rw [←gY s3 s4]
   by_cases h3:(st f h p q J).1.2≤(st f h p q J).2.1
   ·exact .inl ⟨jC.2 h3,aiw (fun s t=>s1.up) eU (fun t=>lo_le s2) h3 hsJ⟩
   ·exact .inr ⟨fI.2 (Rat.not_le.1 h3),jC.2 (jD.resolve_left h3),aix (fun s t=>s2.up) eU (fun t=>lo_le s1) (jD.resolve_left h3) hsJ⟩
  have W:=UL (an:=fun j=>(st f h p q j).1.1.num) (ad:=fun j=>(st f h p q j).1.1.den) (bn:=fun j=>(st f h p q j).1.2.num) (bd:=fun j=>(st f h p q j).1.2.den) (cn:=fun j=>(st f h p q j).2.1.num) (cd:=fun j=>(st f h p q j).2.1.den) (dn:=fun j=>(st f h p q j).2.2.num) (dd:=fun j=>(st f h p q j).2.2.den) R (by omega) (fun j hjJ=>by
   obtain⟨J1,J2,J12⟩:=sqj j (by omega)
   obtain⟨J3,J4,J34⟩:=auK j (by omega)
   obtain⟨m1,m2⟩:=not_or.1 (hj j hjJ)
   have c1:=cZ J2.nL J2.dL J3.nL J3.dL (by omega) (bA (st f h p q j).1.2) (bA (st f h p q j).2.1) ⟨J2.nL,J2.dL⟩ ⟨J3.nL,J3.dL⟩
   have c2:=cZ J4.nL J4.dL J1.nL J1.dL (by omega) (bA (st f h p q j).2.2) (bA (st f h p q j).1.1) ⟨J4.nL,J4.dL⟩ ⟨J1.nL,J1.dL⟩
   have d1:=HX (J2.LLs (Nat.le_refl _)) (J1.LLs (Nat.le_refl _)) (by omega)
   have d2:=HX (J4.LLs (Nat.le_refl _)) (J3.LLs (Nat.le_refl _)) (by omega)
   have w1:=(aeY hD1 AL (spec j).2.2.2.2.1 (spec j).2.2.2.2.2.1).mono (show u+u'+1+2*(u+u')+j+1≤3*(u+u')+M+2 by omega)
   have w2:=(aeY T7 T8 (spec j).2.2.2.2.2.2.1 (spec j).2.2.2.2.2.2.2).mono (show u+u'+1+2*(u+u')+j+1≤3*(u+u')+M+2 by omega)
   have c3:=cZ w1.nL w1.dL w2.nL w2.dL (by omega) (bA ((st f h p q j).1.2-(st f h p q j).1.1)) (bA ((st f h p q j).2.2-(st f h p q j).2.1)) ⟨w1.nL,w1.dL⟩ ⟨w2.nL,w2.dL⟩
   have H1:=ED I (by omega) (spec j).1 J1 J2 J12 hV
   have H2:=ED I' (by omega) (spec j).2.1 J3 J4 J34 hV
   refine⟨⟨_,c1,fI.2 (Rat.not_le.1 m1)⟩,⟨_,c2,fI.2 (Rat.not_le.1 m2)⟩,_,_,_,_,_,d1,d2,c3,?_⟩
   have e1:st f h p q (j+1)=if (st f h p q j).2.2-(st f h p q j).2.1≤(st f h p q j).1.2-(st f h p q j).1.1 then(vK f (st f h p q j).1,(st f h p q j).2)else((st f h p q j).1,vK h (st f h p q j).2):=rfl
   by_cases hw:(st f h p q j).2.2-(st f h p q j).2.1≤(st f h p q j).1.2-(st f h p q j).1.1
   ·rw [if_pos hw]at e1
    rw [if_pos (Int.not_lt.1 fun hh=>absurd (gH.1 hh) (Rat.not_lt.2 hw)),e1]
    exact⟨H1,rfl⟩
   ·rw [if_neg hw]at e1
    rw [if_neg (Int.not_le.2 (gH.2 (Rat.not_le.1 hw))),e1]
    exact⟨H2,rfl⟩) hJ c1 c2 PJ PJ' (fun ⟨e1,e2,e3⟩=>both (of_decide_eq_true e1) (of_decide_eq_true e2) (z:=(st f h p q J).2.1) (by
   have i1:=s1.le
   have i4:=of_decide_eq_true e1
   have:=jB.1 e3
   grind) rfl) (fun ⟨e1,e2,e3⟩=>both (of_decide_eq_true e1) (of_decide_eq_true e2) (z:=(st f h p q J).1.1) rfl (by
   have i2:=s2.le
   have i4:=of_decide_eq_true e2
   have:=jB.1 e3
   grind)) hc
  refine XK (hn:=hi.num) (hd:=(hi.den:Int)) Nx Ny P1 P2 kM kD vO kL (fun _=>hG) (fun _=>hD) hH (fun hh=>absurd hh Q3) (fun _=>W) ⟨_,_,_,_,rfl⟩ ⟨_,_,_,_,rfl⟩
end Go.Proofs.YtelhfbikiccfkaaGreat
namespace Go.Proofs.YtelhfbikiccfkaaGreat
open Go Pm
theorem akK(a b:ZX):DP [a,b]=gz a b:=by
 show gz (gz 0 a) b=_
 rw [OE,V9]
theorem auL(a:ZX):DP [a]=nf a:=by
 show gz 0 a=_
 rw [OE]
theorem aoj{C n s:Nat}{a c:ZX}(ha:ZX.N a≤n)(hc:ZX.N c≤n)(h:(s+n+1)*2*4^n≤C):yG C n s (nf a) (nf c):=by
 unfold yG
 rw [wT,wT]
 have h1:∀k,k≤n→(s+n+1)*2*4^k≤C:=fun k hk=>Nat.le_trans (Nat.mul_le_mul_left _ (Nat.pow_le_pow_right (by decide) hk)) h
 split
 ·refine Nat.le_trans (Nat.mul_le_mul_right _ ?_) (h1 _ ha)
  omega
 ·exact h1 _ hc
structure Eu(s n:Nat):Prop where
 hn:n≤20
 hs:1≤s
 hC:(s+n+1)*2*4^n≤4500000000
theorem Eu.two{s n:Nat}(h:Eu s n){a c:ZX}(ba:BZ s n a)(bc:BZ s n c):aD env.P 157 [Po a.l,Po c.l] (Po (gz a c).l):=WG ba bc (aoj ba.N bc.N h.hC) h.hn (Nat.le_refl _)
theorem aiz(s n:Nat):BZ s n 0:=⟨Nat.zero_le _,fun c hc=>by cases hc⟩
theorem Eu.ahZ{s n:Nat}(h:Eu s n){a c:ZX}(ba:BZ s n a)(bc:BZ s n c):aD env.P 184 [.sl [[Po a.l],[Po c.l]]] (Po (gz a c).l):=by
 have:=ahP [a,c] (by simp) (fun i hi=>by
  match i,hi with
  | 0,_=>exact h.two (aiz s n) ba
  | 1,_ =>
   have e:DP ([a,c].take 1)=nf a:=auL a
   rw [e]
   have:=h.two ba.nf bc
   rw [show DP ([a,c].take (1+1))=gz (nf a) c from by rw [V9];exact akK a c]
   exact this)
 rw [akK]at this
 exact this
end Go.Proofs.YtelhfbikiccfkaaGreat
