import Derived.Test.YtiobceocpabjdaaGreatKai
import Derived.Test.YtiobceocpabjdaaGreatKam
import Derived.Test.YtiobceocpabjdaaGreatKan
set_option linter.unusedSimpArgs false
set_option linter.unusedVariables false
namespace Go.Proofs.YtiobceocpabjdaaGreat
open Go Pm
open ZX hiding N W
theorem JK{n k:Nat}(h:n<2^k):0≤bl (aR LL n)∧bl (aR LL n)≤k∧n<2^(bl (aR LL n)).toNat:=by
 have hV:=lE gO n
 have hL:=fN gO n
 have hc:=kK gO n
 generalize aR LL n=l at *
 unfold bl
 by_cases h0:l = []
 ·subst h0
  simp [V]at hV
  rw [if_pos rfl]
  exact⟨by omega,by omega,by simp;omega⟩
 ·rw [if_neg h0]
  have hl:=List.length_pos_iff.2 h0
  obtain⟨j,hj⟩:∃j,l.length=j+1:=⟨l.length-1,by omega⟩
  rw [hj,show j+1-1=j by omega]
  have e:=bG (l:=l) (i:=j) (by omega)
  rw [List.take_of_length_le (by omega)]at e
  have ht:=hL.nth (i:=j) (by omega)
  have hVt:=pJ (b:=(LL:Int)) (by decide) (hL.take j)
  have UO:V (LL:Int) l=V (LL:Int) (l.take j)+(LL:Int)^j*nth l j:=by
   conv=>lhs;rw [e]
   rw [eJ,show(l.take j).length=j by rw [List.length_take];omega]
   simp [V]
  have hge:=l9 (b:=(LL:Int)) (by decide) hL hc h0
  rw [hj,show j+1-1=j by omega]at hge
  rw [show(l.take j).length=j by rw [List.length_take];omega]at hVt
  have eP:((LL:Int)^j)=((2^(32*j):Nat):Int):=by
   rw [Nat.pow_mul,Int.natCast_pow]
  rw [eP]at hVt UO hge
  have hnl:=oX (n:=(nth l j).toNat) (k:=nb (nth l j).toNat)
  have hnk:=oX (n:=(nth l j).toNat) (k:=k-32*j)
  have hT:=hnl.1 (Nat.le_refl _)
  have e3:(32*(((j+1:Nat):Int)-1)+((nb (nth l j).toNat:Nat):Int)).toNat=32*j+nb (nth l j).toNat:=by omega
  have hP:=Nat.two_pow_pos (32*j)
  have hkj:32*j<k:=Nat.not_le.1 fun hh=>by
   have:=Nat.pow_le_pow_right (show 0<2 by decide) hh
   omega
  have e4:2^(32*j)*2^(k-32*j)=2^k:=by rw [←Nat.pow_add,show 32*j+(k-32*j)=k by omega]
  have hV0:0≤V (LL:Int) (l.take j):=bN (by decide) (hL.take j)
  refine⟨by omega,?_,?_⟩
  ·have:(nth l j).toNat<2^(k-32*j):=Nat.not_le.1 fun hh=>by
    have h2:=Nat.mul_le_mul_left (2^(32*j)) hh
    have h3:((2^(32*j):Nat):Int)*nth l j=((2^(32*j)*(nth l j).toNat:Nat):Int):=by rw [Int.natCast_mul];congr 1;omega
    omega
   have:=hnk.2 this
   omega
  ·rw [e3,Nat.pow_add]
   have h2:2^(32*j)*((nth l j).toNat+1)≤2^(32*j)*2^nb (nth l j).toNat:=Nat.mul_le_mul_left _ hT
   have h3:((2^(32*j):Nat):Int)*nth l j=((2^(32*j)*(nth l j).toNat:Nat):Int):=by rw [Int.natCast_mul];congr 1;omega
   rw [Nat.mul_add,Nat.mul_one]at h2
   omega
theorem tN{x:Int}{k:Nat}(h:x.natAbs<2^k)(hk:k≤1000000000):aE env.P 257 [us (aR LL x.natAbs)] (.int .i64 (bl (aR LL x.natAbs))):=by
 have h1:=PM (aR LL x.natAbs) ⟨fN gO _,by
  have h2:x.natAbs<LL^k:=Nat.lt_of_lt_of_le h (Nat.pow_le_pow_left (by decide) k)
  have:=B6 gO h2
  omega⟩
 rwa [kK gO]at h1
def zs(f:ZX):Nat:=(NM f.l f.l.length).toNat
theorem yM{x:List Int}{k:Nat}(h:∀c∈x,c.natAbs<2^k):∀i,i≤x.length→0≤NM x i∧NM x i≤k ∧ ∀j,j<i→(nth x j).natAbs<2^(NM x i).toNat
 | 0,_=>⟨Int.le_refl _,by show(0:Int)≤k;omega,fun j hj=>absurd hj (Nat.not_lt_zero _)⟩
 | i+1,hi=>by
  obtain⟨h1,h2,h3⟩:=yM h i (by omega)
  obtain⟨g1,g2,g3⟩:=JK (h (nth x i) (bJ (by omega)))
  rw [NM]
  have key:∀ {a:Nat} {y z:Int},y≤z→a<2^y.toNat→a<2^z.toNat:=fun hyz ha=>Nat.lt_of_lt_of_le ha (Nat.pow_le_pow_right (by decide) (by omega))
  split
  ·refine⟨g1,g2,fun j hj=>?_⟩
   rcases Nat.lt_or_ge j i with hh | hh
   ·exact key (by omega) (h3 j hh)
   ·rw [show j=i by omega];exact g3
  ·refine⟨h1,h2,fun j hj=>?_⟩
   rcases Nat.lt_or_ge j i with hh | hh
   ·exact h3 j hh
   ·rw [show j=i by omega];exact key (by omega) g3
section
variable {s n:Nat} {f:ZX} (b:BZ s n f)
include b
theorem BZ.lt:∀c∈f.l,c.natAbs<2^s:=fun c hc=>Nat.lt_of_lt_of_le (jH (by decide) c) (Nat.pow_le_pow_right (by decide) (b.sz c hc))
theorem BK:zs f≤s:=by
 have:=(yM b.lt _ (Nat.le_refl _)).2.1
 unfold zs;omega
theorem axO:∀c∈f.l,c.natAbs<2^zs f:=fun c hc=>by
 obtain⟨i,hi,rfl⟩:=List.getElem_of_mem hc
 rw [←cE hi]
 exact(yM b.lt _ (Nat.le_refl _)).2.2 i hi
theorem R5:BZ (zs f) n f:=⟨b.N,fun c hc=>dV (by decide) (axO b c hc)⟩
theorem R6(hs:s≤1000000000)(hn:n≤50):aE env.P 264 [Po f.l] (.int .i64 ((zs f:Nat):Int)):=by
 have h1:=yM b.lt _ (Nat.le_refl _)
 have:=ab8 (x:=f.l) (by have:=b.N;show ZX.N f<_;omega) fun i hi=>by
  have h2:=b.lt _ (bJ hi)
  obtain⟨g1,g2,_⟩:=JK h2
  exact⟨tN h2 hs,g1,by omega⟩
 rw [show((zs f:Nat):Int)=NM f.l f.l.length by unfold zs;omega]
 exact this
end
theorem JL{s k s' k' u:Nat}{f h:ZX}(bf:BZ s k f)(bh:BZ s' k' h)(hs:s≤1000000000)(yU:s'≤1000000000)(hk:k≤50)(yS:k'≤50){an ad bn bd cn cd dn dd:Int}(h1:an.natAbs<2^u)(h2:bn.natAbs<2^u)(h3:cn.natAbs<2^u)(h4:dn.natAbs<2^u)(hu:u≤1000000000) :
  ∃N:Nat,aE env.P 252 [.ag (G9 f.l an ad bn bd), .ag (G9 h.l cn cd dn dd)] (.int .i64 N)∧64+4*(ZX.N f+ZX.N h)*(zs f+zs h+(ZX.N f+ZX.N h)+8)≤N∧N≤64+8*u+4*(ZX.N f+ZX.N h)*(zs f+zs h+(ZX.N f+ZX.N h)+8):=by
 obtain⟨a1,a2,_⟩:=JK h1
 obtain⟨b1,b2,_⟩:=JK h2
 obtain⟨c1,c2,_⟩:=JK h3
 obtain⟨d1,d2,_⟩:=JK h4
 have z1:=BK bf
 have z2:=BK bh
 have n1:=bf.N
 have n2:=bh.N
 have R:=WC (ad:=ad) (bd:=bd) (cd:=cd) (dd:=dd) (show f.l.length≤50 by show ZX.N f≤_;omega) (show h.l.length≤50 by show ZX.N h≤_;omega) (tN h1 hu) (tN h2 hu) (tN h3 hu) (tN h4 hu) ⟨a1,by omega⟩ ⟨b1,by omega⟩ ⟨c1,by omega⟩ ⟨d1,by omega⟩ (R6 bf hs hk) (R6 bh yU yS) ⟨by omega,by omega⟩ ⟨by omega,by omega⟩
 have e1:4*((f.l.length:Int)+h.l.length)*((zs f:Int)+zs h+((f.l.length:Int)+h.l.length)+8)=((4*(ZX.N f+ZX.N h)*(zs f+zs h+(ZX.N f+ZX.N h)+8):Nat):Int):=by
  show 4*((ZX.N f:Int)+(ZX.N h:Nat))*_=_
  simp only [Int.natCast_mul,Int.natCast_add]
  rfl
 rw [e1]at R
 generalize 4*(ZX.N f+ZX.N h)*(zs f+zs h+(ZX.N f+ZX.N h)+8)=M at *
 generalize bl (aR LL an.natAbs)=x1 at *
 generalize bl (aR LL bn.natAbs)=x2 at *
 generalize bl (aR LL cn.natAbs)=x3 at *
 generalize bl (aR LL dn.natAbs)=x4 at *
 refine⟨64+2*(x1+x2+x3+x4).toNat+M,?_,by omega,by omega⟩
 have e2:(((64+2*(x1+x2+x3+x4).toNat+M:Nat)):Int)=64+2*(x1+x2+x3+x4)+(M:Int):=by omega
 rw [e2]
 exact R
theorem kC(P:Nat→Prop):∀N,∃J,J≤N∧(∀j,j<J→¬P j)∧(J<N→P J)
 | 0=>⟨0,Nat.le_refl _,fun j h=>absurd h (Nat.not_lt_zero _),fun h=>absurd h (Nat.lt_irrefl _)⟩
 | N+1=>by
  obtain⟨J,h1,h2,h3⟩:=kC P N
  by_cases hJ:J<N
  ·exact⟨J,by omega,h2,fun _=>h3 hJ⟩
  ·have:J=N:=by omega
   subst this
   by_cases hP:P J
   ·exact⟨J,by omega,h2,fun _=>hP⟩
   ·exact⟨J+1,by omega,fun j hj=>by
     rcases Nat.lt_or_ge j J with h | h
     ·exact h2 j h
     ·rw [show j=J by omega];exact hP,fun h=>by omega⟩
theorem kU{x:List Int}{u:Nat}{p:Rat × Rat}(q1:SQ u p.1)(q2:SQ u p.2)(hu:u≤1000000000):aE env.P 193 [.ag (G9 x p.1.num p.1.den p.2.num p.2.den)] (.bool (decide (p.2≤p.1))):=by
 have z0:=dB q1.nL q1.dL q2.nL q2.dL (by omega) (aZ p.1) (aZ p.2) ⟨q1.nL,q1.dL⟩ ⟨q2.nL,q2.dL⟩
 have hp:=wO (x:=x) z0
 have e:decide (0≤dP (p.1.num*(p.2.den:Int)) (p.2.num*(p.1.den:Int)))=decide (p.2≤p.1):=decide_eq_decide.2 (by
  have:=fW (p:=p.1) (q:=p.2)
  rw [←Rat.not_lt,←this]
  omega)
 rwa [e]at hp
theorem uQ{u:Nat}{t:Rat}(q:SQ u t)(hu:u≤1000000000):aE env.P 90 [RT t, .sl []] (RT t):=by
 obtain⟨l1,l2⟩:=q.LLt (show u<1099511627770 by omega)
 have:=yD l1 l2
 rwa [aZ]at this
theorem tP{s n u:Nat}{f:ZX}{p:Rat × Rat}(b:BZ s n f)(hs:s≤1000000000)(hn:n≤50)(q1:SQ u p.1)(q2:SQ u p.2)(hu:u≤1000000000):aE env.P 192 [GA f p] (GA f p):=by
 have N1:=eO (x:=f.l) (b.pb (by omega) (by omega))
 rw [f.c]at N1
 exact ab6 N1 (uQ q1 hu) (uQ q2 hu)
theorem ab9{x:List Int}{an ad bn bd:Int}(hq:aE env.P 64 [Po []] (Po []))(hN:aE env.P 192 [.ag (G9 x an ad bn bd)] (.ag (G9 x an ad bn bd))):aE env.P 246 [Po [], .ag (G9 x an ad bn bd)] (.int .i64 0):=by
 simp only [G9]at *
 refine cB [(0,Po []),(1, .ag (G9 x an ad bn bd))] Tryz.func246 ?_
 refine aA [0,3] ?_
 refine nH ?_
 refine cM hq ?_
 refine aC hN ?_
 (try (refine bE (of_decide_eq_true (by kernel_rfl)) ?_));(try simp (maxSteps:=4000000) (disch:=omega) [gw]);(repeat rw [if_pos (by kernel_rfl)]);(try simp (maxSteps:=4000000) (disch:=omega) [gw])
 (try (refine bE (of_decide_eq_true (by kernel_rfl)) ?_));(try simp (maxSteps:=4000000) (disch:=omega) [gw]);(repeat rw [if_pos (by kernel_rfl)]);(try simp (maxSteps:=4000000) (disch:=omega) [gw])
 refine bI [0,3] ?_
 refine aK [0,3,14] ?_
 refine bH ?_ ?_<;>intro h
 ·refine aA [4] ?_
  exact bZ
 ·simp at h
structure AN(s n u:Nat)(f:ZX)(p:Rat × Rat):Prop where
 I:oQ s n f
 hs:s≤100000
 A:rT f (vt (bA f)) p.1 p.2
 q1:SQ u p.1
 q2:SQ u p.2
 hu:u≤30000000
 n8:ZX.N f≤8
 b1:p.1<p.2→Ab p.1 (2^(zs f+1))
 b2:p.1<p.2→Ab p.2 (2^(zs f+1))
structure SgC(s' k:Nat)(f q:ZX):Prop where
 bq:BZ s' k q
 hs:s'≤100000
 hk:k≤31
 q8:ZX.N q≤8
 hG:aE env.P 194 [.sl [[Po q.l],[Po f.l]]] (Po (gz q f).l)
 IG:2≤ZX.N (gz q f) → ∃sg ng,oQ sg ng (gz q f)∧sg≤1000000
 hC:q≠0 → ∃sc nc,Ch sc nc (sq q)
 aC4:q≠0→aE env.P 69 [Po q.l] (.dX [CH (bA (sq q)), .int .i64 0])
theorem AN.stop{s n u s' k N:Nat}{f q g w:ZX}{p r:Rat × Rat}(a:AN s n u f p)(bq:BZ s' k q)(m8:ZX.N q≤8)(q0:q≠0)(S:oJ f (sq q) g w)(dC:p.1<p.2)(hγ:vt (bA g) p.1=vt (bA g) p.2)(A':rT f (vt (bA f)) r.1 r.2)(k3:p.1≤r.1)(k4:r.2≤p.2)(k5:(r.2-r.1)*2^N≤p.2-p.1)
  (hN1:64+4*(ZX.N f+ZX.N q)*(zs f+zs q+(ZX.N f+ZX.N q)+8)≤N):r.1=r.2∨vt (bA (sq q)) r.1=vt (bA (sq q)) r.2:=by
 have I:=a.I
 have n8:=a.n8
 obtain⟨nq,_⟩:=lP q0
 have hNq:ZX.N (sq q)≤ZX.N q:=(rF q0).mF q0
 have n1:=S.N
 have Sg:=CR S.ng.ne S.sg (by omega)
 have Sw:=CR S.nw.ne S.sw (by omega)
 refine Classical.byContradiction fun B5=>?_
 obtain⟨u9,hc2⟩:=not_or.1 B5
 have MY:r.1<r.2:=by have:=A'.le;grind
 have a1:=cH (a.b1 dC) (a.b2 dC) (x:=r.1) k3 (by grind)
 have a2:=cH (a.b1 dC) (a.b2 dC) (x:=r.2) (by grind) k4
 have hvJ:vt (bA f) r.1=vt (bA f) r.2+1:=by
  rcases A'.k with ⟨h,_⟩ | ⟨_,h⟩
  ·exact absurd h u9
  ·exact h
 have m1:=Sg.b6 k3
 have m2:=Sg.b6 k4
 have m3:=Sg.b6 (Rat.le_of_lt MY)
 have cJ:=S.RX A'.S Sg Sw (Rat.le_of_lt MY)
 have fz:=R5 I.ch.bz
 have qz:=(R5 bq).nf
 have N2f:=agx I.nf a.A
 have q1':=ZX.aF.1 q0
 have aC5:∀x∈(sq q).l,x.natAbs≤2^(zs q+ZX.N q*9):=am9 (l:=3) (jV q0) nq (FJ q0).2 (fun d hd=>Nat.le_of_lt (BZ.lt qz d hd)) (by rw [zS];exact Nat.le_refl _) (by omega)
 have XY:=agy (s:=zs f) (r:=zs q) N2f (show 1≤ZX.N q by omega) n8 m8
 have hw:=WI S I.nf nq (ZZ q0) (s:=zs f) (r:=zs q+ZX.N q*9) (n:=ZX.N f) (m:=ZX.N q) (β:=zs f+1) (fun d hd=>Nat.le_of_lt (BZ.lt fz d hd)) aC5 (Nat.le_refl _) hNq n8 m8 a1 a2 MY ?_
 ·rcases hw with hw | hw
  ·omega
  ·exact hc2 hw
 ·have w0:p.2-p.1≤2^(zs f+2):=by
   obtain⟨x1,x2⟩:=a.b1 dC
   obtain⟨x3,x4⟩:=a.b2 dC
   rw [show zs f+2=zs f+1+1 by omega,Rat.pow_succ];grind
  have w1:=Rat.le_trans k5 w0
  have hP:=gW (zs f+2)
  have w2:(r.2-r.1)*2^se (zs f) (zs q+ZX.N q*9) (ZX.N f) (ZX.N q) (zs f+1)*2^(zs f+2)≤1*2^(zs f+2):=by
   rw [Rat.one_mul,Rat.mul_assoc,←rG]
   refine Rat.le_trans (Rat.mul_le_mul_of_nonneg_left (JC ?_) (by grind)) w1
   omega
  exact Rat.le_of_mul_le_mul_right w2 hP
theorem AN.sg{s n u s' k:Nat}{f q:ZX}{p:Rat × Rat}(a:AN s n u f p)(c:SgC s' k f q):aE env.P 246 [Po q.l,GA f p] (.int .i64 (ZW (cO f p) q)):=by
 have I:=a.I
 have A:=a.A
 have hs:=a.hs
 have hu:=a.hu
 have hfn:=I.ch.hn
 have yU:=c.hs
 have hk:=c.hk
 have n8:=a.n8
 have m8:=c.q8
 have N1:=tP I.ch.bz (by omega) (by omega) a.q1 a.q2 (by omega)
 have Nq:=eO (x:=q.l) (c.bq.pb (by omega) (by omega))
 rw [q.c]at Nq
 by_cases q0:q=0
 ·subst q0
  rw [(show SR (cO f p) 0 0 from .inl ⟨rfl,yL (cY A)⟩).eq (cY A)]
  exact ab9 Nq N1
 have hl:0<q.l.length:=by have:=ZX.aF.1 q0;exact Nat.pos_of_ne_zero fun h=>by(have:ZX.N q=q.l.length:=rfl);omega
 have G2:q.l.length<1000000:=by show ZX.N q<_;omega
 by_cases WK:p.1=p.2
 ·have hS:=tM q c.bq (by omega) (by omega) a.q1 (by omega)
  have hz:=dB a.q1.nL a.q1.dL a.q1.nL a.q1.dL (by omega) (aZ p.1) (aZ p.1) ⟨a.q1.nL,a.q1.dL⟩ ⟨a.q1.nL,a.q1.dL⟩
  have e0:dP (p.1.num*(p.1.den:Int)) (p.1.num*(p.1.den:Int))=0:=lS.2 rfl
  rw [e0]at hz
  have Nf:=eO (x:=f.l) (I.ch.bz.pb (by omega) (by omega))
  rw [f.c]at Nf
  have:=agq (q:=q.l) (x:=f.l) G2 (fun h=>by omega) Nq Nf (uQ a.q1 (by omega)) hz hS
  rw [(FZ (lT WK) q).eq (cY A)]
  rw [show GA f p = .ag (G9 f.l p.1.num p.1.den p.1.num p.1.den)by rw [show p=(p.1,p.1)from Prod.ext rfl WK.symm];rfl]
  exact this
 have dC:p.1<p.2:=by have:=A.le;grind
 obtain⟨nq,hmu⟩:=lP q0
 have hNq:ZX.N (sq q)≤ZX.N q:=(rF q0).mF q0
 have cq:=ZZ q0
 have Sq:=CR nq.ne cq (by omega)
 obtain⟨w,S⟩:=rI (h:=sq q) I.nf I.RO
 rw [agz I.nf I.sq q0]at S
 have n1:=S.N
 have Sg:=CR S.ng.ne S.sg (by omega)
 have Sw:=CR S.nw.ne S.sw (by omega)
 have mγ:=Sg.b6 (Rat.le_of_lt dC)
 have mφ:=Sw.b6 (Rat.le_of_lt dC)
 have hv:vt (bA f) p.1=vt (bA f) p.2+1:=by
  rcases A.k with ⟨h,_⟩ | ⟨_,h⟩
  ·exact absurd h WK
  ·exact h
 have c0:=S.RX A.S Sg Sw (Rat.le_of_lt dC)
 have P0:=kU (x:=f.l) a.q1 a.q2 (by omega)
 rw [decide_eq_false (Rat.not_le.2 dC)]at P0
 have hD:aE env.P 83 [Po (gz q f).l] (.int .i64 ((ZX.N (gz q f):Int)-1)):=lK (gz q f).l (by show ZX.N (gz q f)<_;omega)
 have axP:2≤ZX.N (gz q f)→aE env.P 195 [Po (gz q f).l,RT p.1,RT p.2] (.bool (decide (vt (bA (gz q f)) p.2<vt (bA (gz q f)) p.1))):=fun h2=>by
  obtain⟨sg,ng,IG,Q5⟩:=c.IG h2
  exact ZU IG Q5 dC (by omega) a.q1 a.q2 (by omega)
 by_cases hz:vt (bA (gz q f)) p.2<vt (bA (gz q f)) p.1
 ·have h2:2≤ZX.N (gz q f):=Nat.not_lt.1 fun h2=>by
   obtain⟨d,hd,e⟩:=ZX.lL (x:=gz q f) (by have:=ZX.aF.1 S.ng.ne;omega)
   rw [e]at hz Sg
   have:=Sg.const dC (σ:=cD (d:Rat)) (.inr (by rw [yY])) (fun x _ _=>by rw [yY])
   omega
  have hH:=axP h2
  rw [decide_eq_true hz]at hH
  have:=WD hl G2 Nq N1 P0 c.hG hD (by omega) hH
  rw [(show SR (cO f p) q 0 from .inl ⟨rfl,(axN A S Sg Sw dC hz).dv (cY A) (fA q f).l⟩).eq (cY A)]
  exact this
 obtain⟨sc,nc,C⟩:=c.hC q0
 obtain⟨cb,cl⟩:=C.all
 obtain⟨D,hD1,B2,g1,g2⟩:=JG a.q1 a.q2
 have key:=FY A g1 g2
 obtain⟨N,R,hN1,IP⟩:=JL (u:=u) (ad:=p.1.den) (bd:=p.2.den) (cn:=0) (cd:=0) (dn:=0) (dd:=0) I.ch.bz c.bq (by omega) (by omega) (by omega) (by omega) (Nat.lt_of_lt_of_le (jH (b:=2) (by decide) p.1.num) (Nat.pow_le_pow_right (by decide) a.q1.n2)) (Nat.lt_of_lt_of_le (jH (b:=2) (by decide) p.2.num) (Nat.pow_le_pow_right (by decide) a.q2.n2)) (Nat.two_pow_pos _) (Nat.two_pow_pos _) (by omega)
 have hzf:=BK I.ch.bz
 have hzq:=BK c.bq
 have hM:4*(ZX.N f+ZX.N q)*(zs f+zs q+(ZX.N f+ZX.N q)+8)≤4*16*(100000+100000+16+8):=Nat.mul_le_mul (by omega) (by omega)
 obtain⟨J,hJ,hj,iR⟩:=kC (fun j=>(gY f p j).1=(gY f p j).2∨vt (bA (sq q)) (gY f p j).1=vt (bA (sq q)) (gY f p j).2) N
 have rR:(gY f p J).1=(gY f p J).2∨vt (bA (sq q)) (gY f p J).1=vt (bA (sq q)) (gY f p J).2:=by
  by_cases hJN:J<N
  ·exact iR hJN
  have hJE:J=N:=by omega
  obtain⟨k1,k2,k3,k4,k5,_⟩:=key J
  exact a.stop c.bq m8 q0 S dC (by omega) k1 k3 k4 k5 (hJE▸hN1)
 have sqJ:∀j,j≤N→SQ (3*u+N+2) (gY f p j).1∧SQ (3*u+N+2) (gY f p j).2∧SQ (3*u+N+2) (((gY f p j).1+(gY f p j).2)/2):=fun j hj=>by
  obtain⟨_,_,_,_,_,k6,k7⟩:=key j
  exact⟨(k6.sq hD1 B2).mono (by omega),(k7.sq hD1 B2).mono (by omega),((k6.K4 k7).sq hD1 B2).mono (by omega)⟩
 have hV:3*u+N+2≤1000000000:=by omega
 have btw:∀j,j≤N→aE env.P 88 [CH (bA (sq q)),RT (gY f p j).1,RT (gY f p j).2] (.int .i64 ((vt (bA (sq q)) (gY f p j).1:Int)-vt (bA (sq q)) (gY f p j).2)):=fun j hj=>by
  obtain⟨s1,s2,_⟩:=sqJ j hj
  have:=af9 cb C.hn cl s1 s2 hV
  rwa [if_neg (Rat.not_lt.2 (key j).1.le)]at this
 obtain⟨sJ1,sJ2,_⟩:=sqJ J hJ
 have R1:=agu (gc:=zp) (C:=bA (sq q)) (an:=fun j=>(gY f p j).1.num) (ad:=fun j=>(gY f p j).1.den) (bn:=fun j=>(gY f p j).2.num) (bd:=fun j=>(gY f p j).2.den) (J:=J) (N:=N) (r:=cD (e (gY f p J).2 q)) hl G2 Nq N1 P0 c.hG hD (fun h0=>by
   have hH:=axP (by omega)
   rwa [decide_eq_false hz]at hH) (c.aC4 q0) R (by omega) (fun j hj'=>by
   obtain⟨s1,s2,s3⟩:=sqJ j (by omega)
   have XG:=not_or.1 (hj j hj')
   have aq9:(gY f p j).1<(gY f p j).2:=by have:=(key j).1.le;grind
   have Pj:=kU (x:=f.l) s1 s2 hV
   rw [decide_eq_false (Rat.not_le.2 aq9)]at Pj
   refine⟨Pj,⟨_,btw j (by omega),?_⟩,FX I (by omega) (key j).1 s1 s2 s3 hV⟩
   have:=XG.2
   simp only [beq_eq_false_iff_ne,ne_eq]
   omega) hJ (fun hJN=>by
   have Pj:=kU (x:=f.l) sJ1 sJ2 hV
   by_cases hp:(gY f p J).2≤(gY f p J).1
   ·rw [decide_eq_true hp]at Pj;exact .inl Pj
   ·rw [decide_eq_false hp]at Pj
    refine .inr ⟨Pj,?_⟩
    have h3:=btw J hJ
    rw [rR.resolve_left (by grind),Int.sub_self]at h3
    exact h3) (tM q c.bq (by omega) (by omega) sJ2 hV)
 have hU:ZW (cO f p) q=cD (e (gY f p J).2 q):=by
  obtain⟨k1,k2,k3,k4,_⟩:=key J
  have e1:cO f p=cO f (gY f p J):=funext fun t=>propext (k2 t).symm
  rw [e1]
  by_cases hp:(gY f p J).1=(gY f p J).2
  ·rw [←hp];exact(FZ (lT hp) q).eq (cY k1)
  ·have MY:(gY f p J).1<(gY f p J).2:=by have:=k1.le;grind
   have m1:=Sg.b6 k3
   have m2:=Sg.b6 k4
   have m3:=Sg.b6 (Rat.le_of_lt MY)
   exact(WJ k1 S Sg Sw MY (by omega) q0 rfl (by omega) Sq (rR.resolve_left hp)).eq (cY k1)
 rw [hU]
 exact R1
theorem R7{y x:List Int}{c:List ZX}{an ad bn bd:Int}(hz:aE env.P 116 [PI y, .ag (nD x c an ad bn bd)] (.bool true)):aE env.P 202 [PI y, .ag (nD x c an ad bn bd)] (.int .i64 0):=by
 simp only [nD]at *
 refine cB [(0,PI y),(1, .ag (nD x c an ad bn bd))] Tryz.func202 ?_
 refine aA [0,3] ?_
 refine W.seq ?_
 refine aL [0,3,8] hz ?_
 refine bH ?_ ?_<;>intro h
 ·refine aA [4] ?_
  exact bZ
 ·simp at h
theorem aca{y x:List Int}{c:List ZX}{an ad bn bd r:Int}{pt:Bool}(hy:y.length<1000000)(hz:aE env.P 116 [PI y, .ag (nD x c an ad bn bd)] (.bool false))(hp:aE env.P 75 [.ag (nD x c an ad bn bd)] (.bool pt))(h1:pt=true∨y.length=1)(hs:aE env.P 77 [PI y,R2 an ad] (.int .i64 r)) :
  aE env.P 202 [PI y, .ag (nD x c an ad bn bd)] (.int .i64 r):=by
 simp only [nD]at *
 refine cB [(0,PI y),(1, .ag (nD x c an ad bn bd))] Tryz.func202 ?_
 refine aA [0,3] ?_
 refine W.seq ?_
 refine aL [0,3,8] hz ?_
 refine bH ?_ ?_<;>intro h
 ·simp at h
 refine W.skip ?_
 refine W.seq ?_
 refine W.eD (fun σ=>∃(v3:Nat) (rows:Pm.Rows) (clk:Nat),σ=⟨fa [(0,PI y),(3, .ptr 3 v3 0 0),(15, .bool true)],rows,clk⟩∧rows 3=some ⟨v3,49,10,[nD x c an ad bn bd]⟩) (fun K hK=>?_) ?_
 ·cases pt with
  | true =>
   simp (disch:=omega) [gw]
   refine cM hp ?_
   exact hK _ _ (aB _ [0,3,15]) ⟨_,_,_,rfl,by simp⟩
  | false =>
   have h1:y.length=1:=h1.resolve_left (by decide)
   simp (disch:=omega) [gw]
   refine aC hp ?_
   simp (disch:=omega) [gw,h1]
   exact hK _ _ (aB _ [0,3,15]) ⟨_,_,_,rfl,by simp⟩
 rintro _ ⟨v3,rows,clk,rfl,bQ⟩
 simp only [nD]at bQ
 refine bH ?_ ?_<;>intro h
 ·refine W.sr ?_
  simp (disch:=omega) [gw,bQ]
  refine cN [4] hs ?_
  exact bZ
 ·simp at h
theorem acb{y x:List Int}{c cg:List ZX}{an ad bn bd:Nat→Int}{r:Int}{J:Nat}(hy:y.length<1000000)(hy1:¬y.length=1)(hz:aE env.P 116 [PI y, .ag (nD x c (an 0) (ad 0) (bn 0) (bd 0))] (.bool false))(hp:aE env.P 75 [.ag (nD x c (an 0) (ad 0) (bn 0) (bd 0))] (.bool false))(hC:aE env.P 81 [PI y] (aH zq cg))
  (hb:∀j,j<J→aE env.P 75 [.ag (nD x c (an j) (ad j) (bn j) (bd j))] (.bool false)∧(∃z:Int,aE env.P 76 [aH zq cg,R2 (an j) (ad j),R2 (bn j) (bd j)] (.int .i64 z)∧0<z)∧aE env.P 117 [.ag (nD x c (an j) (ad j) (bn j) (bd j))] (.ag (nD x c (an (j+1)) (ad (j+1)) (bn (j+1)) (bd (j+1)))))
  (iR:aE env.P 75 [.ag (nD x c (an J) (ad J) (bn J) (bd J))] (.bool true)∨aE env.P 75 [.ag (nD x c (an J) (ad J) (bn J) (bd J))] (.bool false)∧aE env.P 76 [aH zq cg,R2 (an J) (ad J),R2 (bn J) (bd J)] (.int .i64 0)) (hr:aE env.P 77 [PI y,R2 (bn J) (bd J)] (.int .i64 r)) :
  aE env.P 202 [PI y, .ag (nD x c (an 0) (ad 0) (bn 0) (bd 0))] (.int .i64 r):=by
 have aC7:((y.length:Int)==1)=false:=by
  have:¬(y.length:Int)=1:=by omega
  simpa using this
 simp only [nD]at *
 refine cB [(0,PI y),(1, .ag (nD x c (an 0) (ad 0) (bn 0) (bd 0)))] Tryz.func202 ?_
 refine aA [0,3] ?_
 refine W.seq ?_
 refine aL [0,3,8] hz ?_
 refine bH ?_ ?_<;>intro h
 ·simp at h
 refine W.skip ?_
 refine W.seq ?_
 refine jG ?_
 refine aC hp ?_
 simp (disch:=omega) [gw,aC7]
 refine bI [0,3,15] ?_
 refine bH ?_ ?_<;>intro h
 ·first | (simp at h;omega) | simp at h
 refine W.skip ?_
 refine aL [0,3,5] hC ?_
 refine W.seq ?_
 refine W.block ?_
 refine W.aY (fun k σ=>∃(j v3:Nat) (rows:Pm.Rows) (clk:Nat),σ=⟨fa [(0,PI y),(3, .ptr 3 v3 0 0),(5,aH zq cg)],rows,clk⟩∧rows 3=some ⟨v3,49,10,[nD x c (an j) (ad j) (bn j) (bd j)]⟩∧j+k=J) J ?_ ?_
 ·exact⟨_, .refl,0,_,_,_,rfl,by simp,by omega⟩
 rintro k _ ⟨j,v3,rows,clk,rfl,bQ,hjk⟩
 simp only [nD]at bQ
 refine W.seq ?_
 by_cases hjJ:j<J
 ·obtain⟨g1,⟨z,g2,g3⟩,g4⟩:=hb j hjJ
  refine W.sr ?_
  simp (disch:=omega) [gw,bQ]
  refine aC g1 ?_
  simp (disch:=omega) [gw,bQ]
  refine aC g2 ?_
  simp (disch:=omega) [gw,g3]
  refine bI [0,3,5,33] ?_
  refine bH ?_ ?_<;>intro h
  ·refine W.skip ?_
   refine W.block ?_
   refine W.bY (fun K hK=>?_)
   simp (disch:=omega) [gw,bQ]
   refine aC g4 ?_
   simp (disch:=omega) [gw,bQ]
   refine hK _ ⟨k-1,_,aB _ [0,3,5],by omega,j+1,v3,_,_,rfl,by simp,by omega⟩
  ·simp at h
 ·have hjE:j=J:=by omega
  subst hjE
  refine W.eD (fun σ=>∃(v3:Nat) (rows:Pm.Rows) (clk:Nat),σ=⟨fa [(0,PI y),(3, .ptr 3 v3 0 0),(5,aH zq cg),(33, .bool false)],rows,clk⟩∧rows 3=some ⟨v3,49,10,[nD x c (an j) (ad j) (bn j) (bd j)]⟩) (fun K hK=>?_) ?_
  ·rcases iR with g1 | ⟨g1,g2⟩
   ·simp (disch:=omega) [gw,bQ]
    refine cM g1 ?_
    exact hK _ _ (aB _ [0,3,5,33]) ⟨_,_,_,rfl,by simp [bQ]⟩
   ·simp (disch:=omega) [gw,bQ]
    refine aC g1 ?_
    simp (disch:=omega) [gw,bQ]
    refine cM g2 ?_
    exact hK _ _ (aB _ [0,3,5,33]) ⟨_,_,_,rfl,by simp [bQ]⟩
  rintro _ ⟨v3,rows,clk,rfl,bQ⟩
  simp only [nD]at bQ
  refine bH ?_ ?_<;>intro h
  ·simp at h
  refine eW ?_
  refine W.sr ?_
  simp (disch:=omega) [gw,bQ]
  refine cN [4] hr ?_
  exact bZ
theorem WL{s k:Nat}{p:ZX}{x:List Int}{c:List ZX}{an ad bn bd:Int}(sg:ZX→Int)(h00:sg 0=0)(hp:BZ s k p)(hk:k≤31)(hs:s≤1000000)(Q5:∀(q:ZX) (s':Nat),s'≤s+5*k→BZ s' k q→aE env.P 202 [PI q.l, .ag (nD x c an ad bn bd)] (.int .i64 (sg q))) :
  aE env.P 115 [PI p.l, .ag (nD x c an ad bn bd)] (.int .i64 (NL sg (ZX.N p) p)):=by
 simp only [nD]at *
 refine cB [(0,PI p.l),(1, .ag (nD x c an ad bn bd))] Tryz.func115 ?_
 refine bT [0,3] ?_
 refine W.block ?_
 obtain⟨v,hv⟩:∃v,NL sg (ZX.N p) p=v:=⟨_,rfl⟩
 rw [hv]
 refine W.aY (fun m σ=>∃(q:ZX) (i:Nat) (v3:Nat) (rows:Pm.Rows) (clk:Nat),σ=⟨fa [(0,PI q.l),(3, .ptr 3 v3 0 0)],rows,clk⟩∧rows 3=some ⟨v3,49,10,[nD x c an ad bn bd]⟩∧BZ (s+5*i) k q∧i+ZX.N q≤k∧NL sg (ZX.N q) q=v∧m=ZX.N q) (ZX.N p) ?_ ?_
 ·exact⟨_, .refl,p,0,_,_,_,rfl,by simp,hp,by have:=hp.N;omega,hv,rfl⟩
 rintro m _ ⟨q,i,v3,rows,clk,rfl,bQ,bq,uA,hg,rfl⟩
 simp only [nD]at bQ
 have hql:q.l.length=ZX.N q:=rfl
 refine aK [0,3,8] ?_
 refine bH ?_ ?_<;>intro h
 ·have h0:0<ZX.N q:=by simp at h;omega
  obtain⟨j,hj⟩:∃j,ZX.N q=j+1:=⟨ZX.N q-1,by omega⟩
  have S1:=Q5 q (s+5*i) (by omega) bq
  have D1:=rD bq (by show _≤137438953472;omega) (by omega)
  have hNd:=oE q
  rw [hj,NL]at hg
  refine W.skip ?_
  refine W.block ?_
  refine W.seq ?_
  refine W.sr ?_
  simp (disch:=omega) [gw,bQ]
  refine cN [0,3,5] S1 ?_
  refine aA [0,3,5,13] ?_
  refine bH ?_ ?_<;>intro h
  ·have h:¬sg q=0:=by simpa using h
   rw [if_neg h]at hg
   rw [hg]
   refine aA [4] ?_
   exact bZ
  ·have h:sg q=0:=by simpa using h
   rw [if_pos h]at hg
   refine W.skip ?_
   refine W.bY (fun K hK=>?_)
   simp (disch:=omega) [gw]
   refine cM D1 ?_
   refine hK _ ⟨ZX.N (bX q),_,aB _ [0,3],by omega,bX q,i+1,v3,_,_,rfl,by simp [bQ],bq.bX (by omega),by omega,?_,rfl⟩
   rw [←hg]
   exact V8 h00 (Nat.le_refl _) (by omega)
 ·have h0:ZX.N q=0:=by
   simp at h
   first | omega | (show q.l.length=0;rw [h];rfl)
  have hv0:v=0:=by rw [←hg,h0];rfl
  subst hv0
  refine eW ?_
  refine aA [4] ?_
  exact bZ
def Ex(f:ZX)(p:Rat × Rat):Prop:=e p.2 f=0→p.1=p.2
theorem axS(f:ZX)(p:Rat × Rat):Ex f (ex f p):=by
 unfold Ex ex
 split
 ·intro _;rfl
 ·intro h;contradiction
theorem agB{f:ZX}{p:Rat × Rat}(A:rT f (vt (bA f)) p.1 p.2)(h:Ex f p):hv f p=uY f p∧Ex f (uY f p):=by
 unfold hv uY
 by_cases hp:p.1=p.2
 ·rw [if_pos hp,if_neg (by rw [hp];exact Rat.lt_irrefl)];exact⟨rfl,h⟩
 ·have dC:p.1<p.2:=by have:=A.le;grind
  have m7:e p.2 f≠0:=fun h0=>hp (h h0)
  rw [if_neg hp,if_pos dC]
  obtain⟨m1,m2⟩:=tJ dC
  generalize (p.1+p.2)/2=m at *
  by_cases h0:e m f=0
  ·have hv:vt (bA f) p.1=vt (bA f) p.2+1:=by
    rcases A.k with ⟨h,_⟩ | ⟨_,h⟩
    ·exact absurd h hp
    ·exact h
   have h5:vt (bA f) m<vt (bA f) p.1:=A.S.root m1 h0
   rw [if_pos h5,if_pos h0]
   exact⟨if_pos h0,fun _=>rfl⟩
  ·rw [if_neg h0]
   by_cases h5:vt (bA f) m<vt (bA f) p.1
   ·rw [if_pos h5]
    exact⟨if_neg h0,fun h=>absurd h h0⟩
   ·rw [if_neg h5]
    exact⟨if_neg m7,fun h=>absurd h m7⟩
theorem agC{f:ZX}{p:Rat × Rat}(h:Ex f p)(hA:∀j,rT f (vt (bA f)) (gY f p j).1 (gY f p j).2):∀j,Ex f (gY f p j)
 | 0=>h
 | j+1=>(agB (hA j) (agC h hA j)).2
theorem uR{s n u:Nat}{f:ZX}(b:BZ s n f)(hs:s≤5000000)(hn:n≤31){t:Rat}(q:SQ u t)(hu:u≤1000000000):aE env.P 77 [PI f.l,RR t] (.int .i64 (cD (e t f))):=by
 have hmul:n*(u+1)≤31*(u+1):=Nat.mul_le_mul_right _ hn
 have s1:=uM b q.n2 q.d2 q.hu (by omega) (by show _<137438953472;omega)
 rw [yF]at s1
 rw [dJ]
 exact s1
structure QgC(s' k:Nat)(f q:ZX):Prop where
 bq:BZ s' k q
 hs:s'≤100000
 hk:k≤31
 q8:ZX.N q≤8
 hG:aE env.P 203 [PI q.l,PI f.l] (PI (gz q f).l)
 IG:2≤ZX.N (gz q f) → ∃sg ng,oQ sg ng (gz q f)
 hC:q≠0 → ∃sc nc,Ch sc nc (sq q)
 hCh:q≠0→aE env.P 81 [PI q.l] (aH zq (bA (sq q)))
theorem AN.axT{s n u s' k:Nat}{f q:ZX}{p:Rat × Rat}(a:AN s n u f p)(c:QgC s' k f q):aE env.P 116 [PI q.l,QA f (bA f) p] (.bool (decide (ZW (cO f p) q=0))):=by
 have I:=a.I
 have A:=a.A
 have hu:=a.hu
 have n8:=a.n8
 have m8:=c.q8
 have yU:=c.hs
 have e1:=z7 (f:=f) (c:=bA f) a.q1 a.q2 (by omega)
 have hgN:ZX.N (gz q f)≤ZX.N f:=(fA q f).r.mF I.nf.ne
 have AJ:(q.l.length=0)↔q=0:=by
  rw [show q.l.length=ZX.N q from rfl]
  exact⟨fun h=>Classical.byContradiction fun h0=>by have:=ZX.aF.1 h0;omega,fun h=>by rw [h];rfl⟩
 by_cases q0:q=0
 ·have hU:ZW (cO f p) q=0:=by rw [q0];exact(show SR (cO f p) 0 0 from .inl ⟨rfl,yL (cY A)⟩).eq (cY A)
  rw [decide_eq_true hU]
  by_cases h2:2≤ZX.N (gz q f)
  ·obtain⟨sg,ng,IGG⟩:=c.IG h2
   have k4:=IGG.tK a.q1 a.q2 (by omega)
   rw [dJ,dJ]at k4
   exact nX (by show ZX.N q<_;omega) (by show ZX.N (gz q f)<_;omega) e1 (fun _=>uR c.bq (by omega) c.hk a.q1 (by omega)) c.hG (fun _=>IGG.MR) (fun _=>k4) (by rw [if_pos (AJ.2 q0)])
  ·exact nX (by show ZX.N q<_;omega) (by show ZX.N (gz q f)<_;omega) e1 (fun _=>uR c.bq (by omega) c.hk a.q1 (by omega)) c.hG (fun hh=>absurd hh h2) (fun hh=>absurd hh h2) (b:=0) (cg:=[]) (by rw [if_pos (AJ.2 q0)])
 have W5:¬q.l.length=0:=fun h=>q0 (AJ.1 h)
 by_cases WK:p.1=p.2
 ·rw [decide_eq_true WK]at e1
  have hU:=(FZ (lT WK) q).eq (cY A)
  rw [hU]
  have hz:decide (cD (e p.1 q)=0)=if q.l.length=0 then true else if true=true then cD (e p.1 q)==0 else if (gz q f).l.length<2 then false else decide ((0:Int)<0):=by
   rw [if_neg W5,if_pos rfl];rfl
  by_cases h2:2≤ZX.N (gz q f)
  ·obtain⟨sg,ng,IGG⟩:=c.IG h2
   have k4:=IGG.tK a.q1 a.q2 (by omega)
   rw [dJ,dJ]at k4
   exact nX (by show ZX.N q<_;omega) (by show ZX.N (gz q f)<_;omega) e1 (fun _=>uR c.bq (by omega) c.hk a.q1 (by omega)) c.hG (fun _=>IGG.MR) (fun _=>k4) (by rw [if_neg W5,if_pos rfl];rfl)
  ·exact nX (by show ZX.N q<_;omega) (by show ZX.N (gz q f)<_;omega) e1 (fun _=>uR c.bq (by omega) c.hk a.q1 (by omega)) c.hG (fun hh=>absurd hh h2) (fun hh=>absurd hh h2) (b:=0) (cg:=[]) hz
 have dC:p.1<p.2:=by have:=A.le;grind
 rw [decide_eq_false WK]at e1
 obtain⟨σ,hσ,axU⟩:=Z0 I.nf I.sq I.RO (by omega) A (by omega) q0 dC
 rw [hσ.eq (cY A)]
 by_cases h2:2≤ZX.N (gz q f)
 ·obtain⟨sg,ng,IGG⟩:=c.IG h2
  have k4:=IGG.tK a.q1 a.q2 (by omega)
  rw [if_neg (Rat.not_lt.2 (Rat.le_of_lt dC)),dJ,dJ]at k4
  refine nX (by show ZX.N q<_;omega) (by show ZX.N (gz q f)<_;omega) e1 (fun hh=>by cases hh) c.hG (fun _=>IGG.MR) (fun _=>k4) (σ:=0) ?_
  rw [if_neg W5,if_neg (by decide),if_neg (by show ¬ZX.N (gz q f)<2;omega)]
  exact decide_eq_decide.2 (by omega)
 ·refine nX (by show ZX.N q<_;omega) (by show ZX.N (gz q f)<_;omega) e1 (fun hh=>by cases hh) c.hG (fun hh=>absurd hh h2) (fun hh=>absurd hh h2) (σ:=0) (b:=0) (cg:=[]) ?_
  rw [if_neg W5,if_neg (by decide),if_pos (by show ZX.N (gz q f)<2;omega)]
  refine decide_eq_false fun hh=>?_
  have hz:=axU.1 hh
  have:gz q f=1:=(FA (.inr I.nf.ne)).N1 (by omega)
  rw [this]at hz
  have hS1:=CR ZX.q9 (fun d h1 h2=>by have:=h1.mF ZX.q9;rwa [ZX.BB]at this) (by rw [ZX.BB];omega)
  have:=hS1.const dC (σ:=1) (.inr (by rw [amT];decide)) (fun x _ _=>by rw [amT];decide)
  omega
theorem AN.qsg{s n u s' k:Nat}{f q:ZX}{p:Rat × Rat}(a:AN s n u f p)(hx:Ex f p)(c:QgC s' k f q):aE env.P 202 [PI q.l,QA f (bA f) p] (.int .i64 (ZW (cO f p) q)):=by
 have I:=a.I
 have A:=a.A
 have hu:=a.hu
 have hs:=a.hs
 have yU:=c.hs
 have hk:=c.hk
 have n8:=a.n8
 have m8:=c.q8
 have Z:=a.axT c
 by_cases hz:ZW (cO f p) q=0
 ·rw [hz]
  rw [decide_eq_true hz]at Z
  exact R7 Z
 rw [decide_eq_false hz]at Z
 have q0:q≠0:=fun h=>hz (by rw [h];exact(show SR (cO f p) 0 0 from .inl ⟨rfl,yL (cY A)⟩).eq (cY A))
 have P0:=z7 (f:=f) (c:=bA f) a.q1 a.q2 (by omega)
 have G2:q.l.length<1000000:=by show ZX.N q<_;omega
 by_cases WK:p.1=p.2∨ZX.N q=1
 ·have vT:=uR c.bq (by omega) hk a.q1 (show u≤1000000000 by omega)
  have hv:ZW (cO f p) q=cD (e p.1 q):=by
   by_cases h1:p.1=p.2
   ·exact(FZ (lT h1) q).eq (cY A)
   ·obtain⟨d,hd,rfl⟩:=ZX.lL (WK.resolve_left h1)
    rw [yY]
    have hdq:(d:Rat)≠0:=fun h0=>hd (Rat.intCast_eq_zero_iff.1 h0)
    refine SR.eq (cY A) (.inr ⟨?_,1,p.1-1,p.2,by decide,A.nC (.inl (by grind)),jE,fun x _ _=>by rw [yY];exact⟨rfl,uO hd⟩⟩)
    rcases cW (d:Rat)with ⟨_,h⟩ | ⟨h,_⟩ | ⟨_,h⟩
    ·exact .inr h
    ·exact absurd h hdq
    ·exact .inl h
  rw [hv]
  exact aca G2 Z P0 (by
   rcases WK with h | h
   ·exact .inl (decide_eq_true h)
   ·exact .inr h) vT
 obtain⟨h1,h2⟩:=not_or.1 WK
 have dC:p.1<p.2:=by have:=A.le;grind
 rw [decide_eq_false h1]at P0
 obtain⟨σ,hσ,axU⟩:=Z0 I.nf I.sq I.RO (by omega) A (by omega) q0 dC
 rw [hσ.eq (cY A)]at hz
 obtain⟨nq,hmu⟩:=lP q0
 have hNq:ZX.N (sq q)≤ZX.N q:=(rF q0).mF q0
 have Sq:=CR nq.ne (ZZ q0) (by omega)
 obtain⟨w,S⟩:=rI (h:=sq q) I.nf I.RO
 rw [agz I.nf I.sq q0]at S
 have n1:=S.N
 have Sg:=CR S.ng.ne S.sg (by omega)
 have Sw:=CR S.nw.ne S.sw (by omega)
 have mγ:=Sg.b6 (Rat.le_of_lt dC)
 obtain⟨sc,nc,C⟩:=c.hC q0
 obtain⟨cb,cl⟩:=C.all
 obtain⟨D,hD1,B2,g1,g2⟩:=JG a.q1 a.q2
 have key:=FY A g1 g2
 have hE:=agC hx fun j=>(key j).1
 obtain⟨N,hN⟩:∃N,N=64+4*(ZX.N f+ZX.N q)*(zs f+zs q+(ZX.N f+ZX.N q)+8):=⟨_,rfl⟩
 have hzf:=BK I.ch.bz
 have hzq:=BK c.bq
 have hM:4*(ZX.N f+ZX.N q)*(zs f+zs q+(ZX.N f+ZX.N q)+8)≤4*16*(100000+100000+16+8):=Nat.mul_le_mul (by omega) (by omega)
 obtain⟨J,hJ,hj,iR⟩:=kC (fun j=>(gY f p j).1=(gY f p j).2∨vt (bA (sq q)) (gY f p j).1=vt (bA (sq q)) (gY f p j).2) N
 have rR:(gY f p J).1=(gY f p J).2∨vt (bA (sq q)) (gY f p J).1=vt (bA (sq q)) (gY f p J).2:=by
  by_cases hJN:J<N
  ·exact iR hJN
  have hJE:J=N:=by omega
  obtain⟨k1,k2,k3,k4,k5,_⟩:=key J
  exact a.stop c.bq m8 q0 S dC (by omega) k1 k3 k4 k5 (by omega)
 have hV:3*u+N+3≤1000000000:=by omega
 have sqJ:∀j,j≤N→SQ (3*u+N+3) (gY f p j).1∧SQ (3*u+N+3) (gY f p j).2∧SQ (3*u+N+3) (((gY f p j).1+(gY f p j).2)/2)∧SQ (3*u+N+3) ((gY f p j).1+(gY f p j).2):=fun j hj=>by
  obtain⟨_,_,_,_,_,k6,k7⟩:=key j
  exact⟨(k6.sq hD1 B2).mono (by omega),(k7.sq hD1 B2).mono (by omega),((k6.K4 k7).sq hD1 B2).mono (by omega),((k6.add k7).sq hD1 B2).mono (by omega)⟩
 have btw:∀j,j≤N→aE env.P 76 [aH zq (bA (sq q)),RR (gY f p j).1,RR (gY f p j).2] (.int .i64 ((vt (bA (sq q)) (gY f p j).1:Int)-vt (bA (sq q)) (gY f p j).2)):=fun j hj=>by
  obtain⟨s1,s2,_⟩:=sqJ j hj
  have:=aga cb C.hn cl s1 s2 hV
  rwa [if_neg (Rat.not_lt.2 (key j).1.le)]at this
 obtain⟨sJ1,sJ2,_⟩:=sqJ J hJ
 have R1:=acb (c:=bA f) (cg:=bA (sq q)) (an:=fun j=>(gY f p j).1.num) (ad:=fun j=>(gY f p j).1.den) (bn:=fun j=>(gY f p j).2.num) (bd:=fun j=>(gY f p j).2.den) (J:=J) (r:=cD (e (gY f p J).2 q)) G2 h2 Z P0 (c.hCh q0) (fun j hj'=>by
   obtain⟨s1,s2,s3,s4⟩:=sqJ j (by omega)
   have XG:=not_or.1 (hj j hj')
   have aq9:(gY f p j).1<(gY f p j).2:=by have:=(key j).1.le;grind
   have Pj:=z7 (f:=f) (c:=bA f) s1 s2 hV
   rw [decide_eq_false XG.1]at Pj
   have m:=Sq.b6 (Rat.le_of_lt aq9)
   have H:=I.axK (key j).1.le s1 s2 s3 s4 hV
   rw [(agB (key j).1 (hE j)).1]at H
   exact⟨Pj,⟨_,btw j (by omega),by have:=XG.2;omega⟩,H⟩) (by
   have Pj:=z7 (f:=f) (c:=bA f) sJ1 sJ2 hV
   by_cases hp:(gY f p J).1=(gY f p J).2
   ·rw [decide_eq_true hp]at Pj;exact .inl Pj
   ·rw [decide_eq_false hp]at Pj
    refine .inr ⟨Pj,?_⟩
    have h3:=btw J hJ
    rw [rR.resolve_left hp,Int.sub_self]at h3
    exact h3) (uR c.bq (by omega) hk sJ2 hV)
 have hU:ZW (cO f p) q=cD (e (gY f p J).2 q):=by
  obtain⟨k1,k2,k3,k4,_⟩:=key J
  have e1:cO f p=cO f (gY f p J):=funext fun t=>propext (k2 t).symm
  rw [e1]
  by_cases hp:(gY f p J).1=(gY f p J).2
  ·rw [←hp];exact(FZ (lT hp) q).eq (cY k1)
  ·have MY:(gY f p J).1<(gY f p J).2:=by have:=k1.le;grind
   have m1:=Sg.b6 k3
   have m2:=Sg.b6 k4
   have m3:=Sg.b6 (Rat.le_of_lt MY)
   exact(WJ k1 S Sg Sw MY (by omega) q0 rfl (by omega) Sq (rR.resolve_left hp)).eq (cY k1)
 rw [hU]
 exact R1
theorem WM{pn pd qn qd z rn rd:Int}(n1:aE env.P 147 [T2 pn pd] (T2 pn pd))(n2:aE env.P 147 [T2 qn qd] (T2 qn qd))(zc:aE env.P 86 [T2 qn qd,T2 pn pd] (.int .i64 z))(hr:if 0<z then rn=qn∧rd=qd else rn=pn∧rd=pd) :
  aE env.P 90 [T2 pn pd, .sl [[.bool (decide (qn<0)),us (aR LL qn.natAbs), .bool (decide (qd<0)),us (aR LL qd.natAbs)]]] (T2 rn rd):=by
 refine cB [(0,T2 pn pd),(1, .sl [[.bool (decide (qn<0)),us (aR LL qn.natAbs), .bool (decide (qd<0)),us (aR LL qd.natAbs)]])] Tryz.func90 ?_
 refine aA [1,2,4] ?_
 refine aL [1,4,5] n1 ?_
 refine aK [4,5,10,11,12] ?_
 refine W.block ?_
 refine W.aY (fun k σ=>∃(i:Nat) (mn md:Int) (rows:Pm.Rows) (clk:Nat),σ=⟨fa [(4, .ptr 4 1 0 0),(5, .ptr 5 2 0 0),(10, .sl [[.bool (decide (qn<0)),us (aR LL qn.natAbs), .bool (decide (qd<0)),us (aR LL qd.natAbs)]]),(11, .int .i64 1),(12, .int .i64 i)],rows,clk⟩∧rows 4=some ⟨1,52,4,[[.bool false, .nil, .bool false, .nil]]⟩∧rows 5=some ⟨2,52,4,[[.bool (decide (mn<0)),us (aR LL mn.natAbs), .bool (decide (md<0)),us (aR LL md.natAbs)]]⟩ ∧
  ((i=0∧mn=pn∧md=pd)∨(i=1∧mn=rn∧md=rd))∧i+k=1) 1 ?_ ?_
 ·exact⟨_,aB _ [4,5,10,11,12],0,pn,pd,_,_,rfl,by simp,by simp, .inl ⟨rfl,rfl,rfl⟩,by omega⟩
 rintro k _ ⟨i,mn,md,rows,clk,rfl,dF,dM,hI,uA⟩
 rcases hI with ⟨rfl,rfl,rfl⟩ | ⟨rfl,rfl,rfl⟩
 ·refine bT [4,5,10,11,12,13] ?_
  refine bH ?_ ?_<;>intro h
  ·refine W.skip ?_
   refine W.dW (fun σ=>∃(rows:Pm.Rows) (clk:Nat),σ=⟨fa [(4, .ptr 4 1 0 0),(5, .ptr 5 2 0 0),(10, .sl [[.bool (decide (qn<0)),us (aR LL qn.natAbs), .bool (decide (qd<0)),us (aR LL qd.natAbs)]]),(11, .int .i64 1),(12, .int .i64 0)],rows,clk⟩∧rows 4=some ⟨1,52,4,[[.bool false, .nil, .bool false, .nil]]⟩∧rows 5=some ⟨2,52,4,[[.bool (decide (rn<0)),us (aR LL rn.natAbs), .bool (decide (rd<0)),us (aR LL rd.natAbs)]]⟩) ?_ ?_
   ·refine aA [4,5,7,10,11,12] ?_
    refine W.sr ?_
    simp (disch:=omega) [gw,dM]
    refine cN [4,5,7,10,11,12,19] zc ?_
    refine bH ?_ ?_<;>intro h
    ·have h:0<z:=by simpa using h
     rw [if_pos h]at hr
     obtain⟨rfl,rfl⟩:=hr
     refine W.bY (fun K hK=>?_)
     simp (disch:=omega) [gw,dM]
     refine aC n2 ?_
     simp (disch:=omega) [gw,dM]
     exact hK _ ⟨_,aB _ [4,5,10,11,12],_,_,rfl,by simp [dF],by simp [dM]⟩
    ·have h:¬0<z:=by simpa using h
     rw [if_neg h]at hr
     obtain⟨rfl,rfl⟩:=hr
     refine W.skip ?_
     exact⟨_,aB _ [4,5,10,11,12],_,_,rfl,by simp [dF],by simp [dM]⟩
   rintro _ ⟨rows,clk,rfl,dF,dM⟩
   refine W.bY (fun K hK=>?_);simp (disch:=omega) [gw]
   refine hK _ ⟨0,_,aB _ [4,5,10,11,12],by omega,1,rn,rd,_,_,rfl,dF,dM, .inr ⟨rfl,rfl,rfl⟩,rfl⟩
  ·simp at h
 ·refine bT [4,5,10,11,12,13] ?_
  refine bH ?_ ?_<;>intro h
  ·simp at h
  ·refine eW ?_
   refine W.sr ?_
   simp (disch:=omega) [gw,dF,dM]
   refine bI [4] ?_
   exact bZ
theorem acd{u:Nat}{p q:Rat}(hp:SQ u p)(hq:SQ u q)(hu:u≤1000000000):aE env.P 90 [RT p, .sl [tc q]] (RT (if p<q then q else p)):=by
 obtain⟨l1,l2⟩:=hp.LLt (show u<1099511627770 by omega)
 obtain⟨l3,l4⟩:=hq.LLt (show u<1099511627770 by omega)
 have n1:=nW l1 l2
 have n2:=nW l3 l4
 rw [aZ]at n1 n2
 have z:=dB hq.nL hq.dL hp.nL hp.dL (by omega) (aZ q) (aZ p) ⟨hq.nL,hq.dL⟩ ⟨hp.nL,hp.dL⟩
 refine WM n1 n2 z ?_
 by_cases h:p<q
 ·rw [if_pos (fV.2 h),if_pos h];exact⟨rfl,rfl⟩
 ·rw [if_neg (fun h2=>h (fV.1 h2)),if_neg h];exact⟨rfl,rfl⟩
theorem axV{x y:Int}(hx:Sz x)(hy:Sz y):aE env.P 248 [I x,I y] (I (x-y)):=by
 have:=PF (decide (x<0)) (decide (y<0)) (aR LL x.natAbs) (aR LL y.natAbs) hx.XZ hy.XZ
 rwa [zJ,zJ]at this
theorem aks(p q:Rat):dU (p.num*q.den-q.num*p.den) (p.den*q.den)=p-q:=by
 have h1:((p.den:Int)*q.den)≠0:=by
  have:=p.den_nz;have:=q.den_nz
  refine Int.mul_ne_zero ?_ ?_<;>omega
 refine MC h1 ?_
 rw [Rat.intCast_sub,Rat.intCast_mul,Rat.intCast_mul,Rat.intCast_mul,yG p,yG q]
 grind
theorem JM{p q:Rat}{k:Nat}(hp:sz LL p.num≤k∧sz LL (p.den:Int)≤k)(hq:sz LL q.num≤k∧sz LL (q.den:Int)≤k)(hk:k≤300000000000):aE env.P 253 [RT p,RT q] (RT (p-q)):=by
 have c1:=zV hp.1 hp.2 hq.1 hq.2 (by omega) (aZ p) (aZ q) hp hq
 have g1:=cP (b:=LL) gO hp.1 hq.2
 have g2:=cP (b:=LL) gO hq.1 hp.2
 have g3:=cP (b:=LL) gO hp.2 hq.2
 have g5:=n6 (b:=LL) gO (Nat.le_trans g1 (show k+k≤k+k from Nat.le_refl _)) (Nat.le_trans (Nat.le_of_eq (pK _)) (Nat.le_trans g2 (show k+k≤k+k from Nat.le_refl _)))
 rw [←Int.sub_eq_add_neg]at g5
 have a1:=axV (x:=p.num*q.den) (y:=q.num*p.den) (by show _<_;omega) (by show _<_;omega)
 have h1:((p.den:Int)*q.den)≠0:=by
  have:=p.den_nz;have:=q.den_nz
  refine Int.mul_ne_zero ?_ ?_<;>omega
 have l1:=rE (n:=p.num*q.den-q.num*p.den) (d:=p.den*q.den) (by omega) (by omega) h1
 rw [aks]at l1
 show aE env.P _ [T2 p.num p.den,T2 q.num q.den] (T2 (p-q).num (p-q).den)
 replace l1:aE env.P 169 [I (p.num*q.den-q.num*p.den),I (p.den*q.den)] (T2 (p-q).num (p-q).den):=l1
 clear g1 g2 g3 g5 h1 hp hq
 generalize (p-q).num=rn at *
 generalize ((p-q).den:Int)=rd at *
 generalize p.num*(q.den:Int)-q.num*p.den=x4 at *
 generalize p.num*(q.den:Int)=x1 at *
 generalize q.num*(p.den:Int)=x2 at *
 generalize (p.den:Int)*(q.den:Int)=x3 at *
 generalize p.num=pn at *
 generalize (p.den:Int)=pd at *
 generalize q.num=qn at *
 generalize (q.den:Int)=qd at *
 refine cB [(0,T2 pn pd),(1,T2 qn qd)] Tryz.func253 ?_
 refine aA [2,3,4] ?_
 refine aL [4,5,6,7] c1 ?_
 refine W.sd ?_
 simp (maxSteps:=4000000) (disch:=omega) [gw]
 refine aC a1 ?_
 simp (maxSteps:=4000000) (disch:=omega) [gw]
 refine aC l1 ?_
 simp (maxSteps:=4000000) (disch:=omega) [gw]
 (try (refine bE (of_decide_eq_true (by kernel_rfl)) ?_));(try simp (maxSteps:=4000000) (disch:=omega) [gw]);(repeat rw [if_pos (by kernel_rfl)]);(try simp (maxSteps:=4000000) (disch:=omega) [gw])
 refine bI [4] ?_
 exact bZ
set_option maxHeartbeats 4000000 in
theorem WN{x y:List Int}{an ad bn bd cn cd dn dd:Nat→Int}{N J:Nat}{c:Int}(hs:aE env.P 252 [.ag (G9 x (an 0) (ad 0) (bn 0) (bd 0)), .ag (G9 y (cn 0) (cd 0) (dn 0) (dd 0))] (.int .i64 N))(hN:N<1000000000000000)
  (hb:∀j,j<J→(∃z1,aE env.P 86 [T2 (bn j) (bd j),T2 (cn j) (cd j)] (.int .i64 z1)∧0<z1)∧(∃z2,aE env.P 86 [T2 (dn j) (dd j),T2 (an j) (ad j)] (.int .i64 z2)∧0<z2) ∧
   ∃wn wd vn vd z3,aE env.P 253 [T2 (bn j) (bd j),T2 (an j) (ad j)] (T2 wn wd)∧aE env.P 253 [T2 (dn j) (dd j),T2 (cn j) (cd j)] (T2 vn vd)∧aE env.P 86 [T2 wn wd,T2 vn vd] (.int .i64 z3) ∧
   (if 0≤z3 then aE env.P 254 [.ag (G9 x (an j) (ad j) (bn j) (bd j))] (.ag (G9 x (an (j+1)) (ad (j+1)) (bn (j+1)) (bd (j+1))))∧G9 y (cn (j+1)) (cd (j+1)) (dn (j+1)) (dd (j+1))=G9 y (cn j) (cd j) (dn j) (dd j)
    else aE env.P 254 [.ag (G9 y (cn j) (cd j) (dn j) (dd j))] (.ag (G9 y (cn (j+1)) (cd (j+1)) (dn (j+1)) (dd (j+1))))∧G9 x (an (j+1)) (ad (j+1)) (bn (j+1)) (bd (j+1))=G9 x (an j) (ad j) (bn j) (bd j))) (hJ:J<N) {z1 z2:Int} {pa pb:Bool}
  (k1:aE env.P 86 [T2 (bn J) (bd J),T2 (cn J) (cd J)] (.int .i64 z1)) (k2:aE env.P 86 [T2 (dn J) (dd J),T2 (an J) (ad J)] (.int .i64 z2)) (p1:aE env.P 193 [.ag (G9 x (an J) (ad J) (bn J) (bd J))] (.bool pa)) (p2:aE env.P 193 [.ag (G9 y (cn J) (cd J) (dn J) (dd J))] (.bool pb))
  (hp:¬(pa=true∧pb=true∧z1=0)) (SP:¬(pa=true∧pb=true∧z2=0)) (hc:(z1≤0∧c = -1)∨(0<z1∧z2≤0∧c=1)) :
  aE env.P 196 [.ag (G9 x (an 0) (ad 0) (bn 0) (bd 0)), .ag (G9 y (cn 0) (cd 0) (dn 0) (dd 0))] (.dX [.ag (G9 x (an J) (ad J) (bn J) (bd J)), .ag (G9 y (cn J) (cd J) (dn J) (dd J)), .int .i64 c]):=by
 simp only [G9]at *
 refine cB [(0, .ag (G9 x (an 0) (ad 0) (bn 0) (bd 0))),(1, .ag (G9 y (cn 0) (cd 0) (dn 0) (dd 0)))] Tryz.func196 ?_
 refine aA [2,3,4,5] ?_
 refine W.seq ?_
 refine aL [2,3,4,5,9,10] hs ?_
 refine W.block ?_
 refine W.aY (fun k σ=>∃(j:Nat) (rows:Pm.Rows) (clk:Nat),σ=⟨fa [(2, .ptr 2 0 0 0),(3, .ptr 3 1 0 0),(4, .ptr 4 2 0 0),(5, .ptr 5 3 0 0),(9, .int .i64 N),(10, .int .i64 j)],rows,clk⟩∧rows 2=some ⟨0,54,9,[G9 x (an j) (ad j) (bn j) (bd j)]⟩∧rows 3=some ⟨1,54,9,[G9 y (cn j) (cd j) (dn j) (dd j)]⟩∧rows 4=some ⟨2,54,9,[[.nil, .bool false, .nil, .bool false, .nil, .bool false, .nil, .bool false, .nil]]⟩∧rows 5=some ⟨3,54,9,[[.nil, .bool false, .nil, .bool false, .nil, .bool false, .nil, .bool false, .nil]]⟩∧j+k=J) J ?_ ?_
 ·exact⟨_, .refl,0,_,_,rfl,by simp,by simp,by simp,by simp,by omega⟩
 rintro k _ ⟨j,rows,clk,rfl,bU,bQ,dF,dM,hjk⟩
 simp only [G9]at bU bQ
 refine bT [2,3,4,5,9,10,11] ?_
 refine bH ?_ ?_<;>intro h
 ·refine W.skip ?_
  by_cases hjJ:j<J
  ·obtain⟨⟨u1,m1,o1⟩,⟨u2,m2,o2⟩,wn,wd,vn,vd,z3,s1,s2,s3,hh⟩:=hb j hjJ
   have o1':¬u1≤0:=by omega
   have o2':¬u2≤0:=by omega
   refine W.dW (fun σ=>∃(rows:Pm.Rows) (clk:Nat),σ=⟨fa [(2, .ptr 2 0 0 0),(3, .ptr 3 1 0 0),(4, .ptr 4 2 0 0),(5, .ptr 5 3 0 0),(9, .int .i64 N),(10, .int .i64 j)],rows,clk⟩∧rows 2=some ⟨0,54,9,[G9 x (an (j+1)) (ad (j+1)) (bn (j+1)) (bd (j+1))]⟩∧rows 3=some ⟨1,54,9,[G9 y (cn (j+1)) (cd (j+1)) (dn (j+1)) (dd (j+1))]⟩∧rows 4=some ⟨2,54,9,[[.nil, .bool false, .nil, .bool false, .nil, .bool false, .nil, .bool false, .nil]]⟩∧rows 5=some ⟨3,54,9,[[.nil, .bool false, .nil, .bool false, .nil, .bool false, .nil, .bool false, .nil]]⟩) ?_ ?_
   ·refine W.seq ?_
    refine W.block ?_
    refine W.sr ?_
    simp (disch:=omega) [gw,bU,bQ]
    refine aC m1 ?_
    simp (disch:=omega) [gw,o1']
    refine bI [2,3,4,5,9,10,12] ?_
    refine bH ?_ ?_<;>intro h
    ·simp at h
    refine W.sr ?_
    simp (disch:=omega) [gw,bU,bQ]
    refine aC m2 ?_
    simp (disch:=omega) [gw,o2']
    refine bI [2,3,4,5,9,10,38] ?_
    refine bH ?_ ?_<;>intro h
    ·simp at h
    refine W.skip ?_
    refine W.sd ?_
    simp (disch:=omega) [gw,bU,bQ]
    refine aC s1 ?_
    simp (disch:=omega) [gw,bU,bQ]
    refine cM s2 ?_
    refine cN [2,3,4,5,9,10,75] s3 ?_
    refine bH ?_ ?_<;>intro h
    ·have h3:0≤z3:=by simpa using h
     rw [if_pos h3]at hh
     obtain⟨h1,h2⟩:=hh
     refine W.bY (fun K hK=>?_)
     simp (disch:=omega) [gw,bU]
     refine aC h1 ?_
     simp (disch:=omega) [gw,bU]
     exact hK _ ⟨_,aB _ [2,3,4,5,9,10],_,_,rfl,by simp,by simp only [G9];rw [h2];simp [bQ],by simp [dF],by simp [dM]⟩
    ·have h3:¬0≤z3:=by simpa using h
     rw [if_neg h3]at hh
     obtain⟨h1,h2⟩:=hh
     refine W.bY (fun K hK=>?_)
     simp (disch:=omega) [gw,bQ]
     refine aC h1 ?_
     simp (disch:=omega) [gw,bQ]
     exact hK _ ⟨_,aB _ [2,3,4,5,9,10],_,_,rfl,by simp only [G9];rw [h2];simp [bU],by simp,by simp [dF],by simp [dM]⟩
   rintro _ ⟨rows,clk,rfl,bU,bQ,dF,dM⟩
   refine W.bY (fun K hK=>?_);simp (disch:=omega) [gw]
   refine hK _ ⟨k-1,_,aB _ [2,3,4,5,9,10],by omega,j+1,_,_,rfl,bU,bQ,dF,dM,by omega⟩
  ·have hjE:j=J:=by omega
   subst hjE
   refine W.seq ?_
   refine W.block ?_
   refine W.seq ?_
   refine W.block ?_
   rcases hc with ⟨hz,rfl⟩ | ⟨hz1,hz,rfl⟩
   ·refine W.eD (fun σ=>∃(rows:Pm.Rows) (clk:Nat),σ=⟨fa [(2, .ptr 2 0 0 0),(3, .ptr 3 1 0 0),(4, .ptr 4 2 0 0),(5, .ptr 5 3 0 0),(9, .int .i64 N),(10, .int .i64 j),(12, .bool true)],rows,clk⟩∧rows 2=some ⟨0,54,9,[G9 x (an j) (ad j) (bn j) (bd j)]⟩∧rows 3=some ⟨1,54,9,[G9 y (cn j) (cd j) (dn j) (dd j)]⟩∧rows 4=some ⟨2,54,9,[[.nil, .bool false, .nil, .bool false, .nil, .bool false, .nil, .bool false, .nil]]⟩∧rows 5=some ⟨3,54,9,[[.nil, .bool false, .nil, .bool false, .nil, .bool false, .nil, .bool false, .nil]]⟩) (fun K hK=>?_) ?_
    ·cases pa with
     | false =>
      simp (disch:=omega) [gw,bU,bQ]
      refine aC k1 ?_
      simp (disch:=omega) [gw,hz,bU,bQ]
      refine aC p1 ?_
      simp (disch:=omega) [gw,bU,bQ]
      exact hK _ _ (aB _ [2,3,4,5,9,10,12]) ⟨_,_,rfl,by simp [bU],by simp [bQ],by simp [dF],by simp [dM]⟩
     | true =>
      cases pb with
      | false =>
       simp (disch:=omega) [gw,bU,bQ]
       refine aC k1 ?_
       simp (disch:=omega) [gw,hz,bU,bQ]
       refine aC p1 ?_
       simp (disch:=omega) [gw,bU,bQ]
       refine aC p2 ?_
       simp (disch:=omega) [gw,bU,bQ]
       exact hK _ _ (aB _ [2,3,4,5,9,10,12]) ⟨_,_,rfl,by simp [bU],by simp [bQ],by simp [dF],by simp [dM]⟩
      | true =>
       have oT:(z1==0)=false:=by
        have:¬z1=0:=fun h=>hp ⟨rfl,rfl,h⟩
        simpa using this
       simp (disch:=omega) [gw,bU,bQ]
       refine aC k1 ?_
       simp (disch:=omega) [gw,hz,bU,bQ]
       refine aC p1 ?_
       simp (disch:=omega) [gw,bU,bQ]
       refine aC p2 ?_
       simp (disch:=omega) [gw,bU,bQ]
       refine aC k1 ?_
       simp (disch:=omega) [gw,oT]
       exact hK _ _ (aB _ [2,3,4,5,9,10,12]) ⟨_,_,rfl,by simp [bU],by simp [bQ],by simp [dF],by simp [dM]⟩
    rintro _ ⟨rows,clk,rfl,bU,bQ,dF,dM⟩
    simp only [G9]at bU bQ
    refine bH ?_ ?_<;>intro h
    ·refine W.sd ?_
     simp (disch:=omega) [gw,bU,bQ,dF,dM]
     (try (refine bE (of_decide_eq_true (by kernel_rfl)) ?_));(try simp (maxSteps:=4000000) (disch:=omega) [gw,dF,dM]);(repeat rw [if_pos (by kernel_rfl)]);(try simp (maxSteps:=4000000) (disch:=omega) [gw,dF,dM])
     (try (refine bE (of_decide_eq_true (by kernel_rfl)) ?_));(try simp (maxSteps:=4000000) (disch:=omega) [gw,dF,dM]);(repeat rw [if_pos (by kernel_rfl)]);(try simp (maxSteps:=4000000) (disch:=omega) [gw,dF,dM])
     refine bI [4,5,6] ?_
     exact bZ
    ·simp at h
   ·have aC9:¬z1≤0:=by omega
    refine W.sr ?_
    simp (disch:=omega) [gw,bU,bQ]
    refine aC k1 ?_
    simp (disch:=omega) [gw,aC9]
    refine bI [2,3,4,5,9,10,12] ?_
    refine bH ?_ ?_<;>intro h
    ·simp at h
    refine W.eD (fun σ=>∃(rows:Pm.Rows) (clk:Nat),σ=⟨fa [(2, .ptr 2 0 0 0),(3, .ptr 3 1 0 0),(4, .ptr 4 2 0 0),(5, .ptr 5 3 0 0),(9, .int .i64 N),(10, .int .i64 j),(38, .bool true)],rows,clk⟩∧rows 2=some ⟨0,54,9,[G9 x (an j) (ad j) (bn j) (bd j)]⟩∧rows 3=some ⟨1,54,9,[G9 y (cn j) (cd j) (dn j) (dd j)]⟩∧rows 4=some ⟨2,54,9,[[.nil, .bool false, .nil, .bool false, .nil, .bool false, .nil, .bool false, .nil]]⟩∧rows 5=some ⟨3,54,9,[[.nil, .bool false, .nil, .bool false, .nil, .bool false, .nil, .bool false, .nil]]⟩) (fun K hK=>?_) ?_
    ·cases pa with
     | false =>
      simp (disch:=omega) [gw,bU,bQ]
      refine aC k2 ?_
      simp (disch:=omega) [gw,hz,bU,bQ]
      refine aC p1 ?_
      simp (disch:=omega) [gw,bU,bQ]
      exact hK _ _ (aB _ [2,3,4,5,9,10,38]) ⟨_,_,rfl,by simp [bU],by simp [bQ],by simp [dF],by simp [dM]⟩
     | true =>
      cases pb with
      | false =>
       simp (disch:=omega) [gw,bU,bQ]
       refine aC k2 ?_
       simp (disch:=omega) [gw,hz,bU,bQ]
       refine aC p1 ?_
       simp (disch:=omega) [gw,bU,bQ]
       refine aC p2 ?_
       simp (disch:=omega) [gw,bU,bQ]
       exact hK _ _ (aB _ [2,3,4,5,9,10,38]) ⟨_,_,rfl,by simp [bU],by simp [bQ],by simp [dF],by simp [dM]⟩
      | true =>
       have oT:(z2==0)=false:=by
        have:¬z2=0:=fun h=>SP ⟨rfl,rfl,h⟩
        simpa using this
       simp (disch:=omega) [gw,bU,bQ]
       refine aC k2 ?_
       simp (disch:=omega) [gw,hz,bU,bQ]
       refine aC p1 ?_
       simp (disch:=omega) [gw,bU,bQ]
       refine aC p2 ?_
       simp (disch:=omega) [gw,bU,bQ]
       refine aC k2 ?_
       simp (disch:=omega) [gw,oT]
       exact hK _ _ (aB _ [2,3,4,5,9,10,38]) ⟨_,_,rfl,by simp [bU],by simp [bQ],by simp [dF],by simp [dM]⟩
    rintro _ ⟨rows,clk,rfl,bU,bQ,dF,dM⟩
    simp only [G9]at bU bQ
    refine bH ?_ ?_<;>intro h
    ·refine W.sd ?_
     simp (disch:=omega) [gw,bU,bQ,dF,dM]
     (try (refine bE (of_decide_eq_true (by kernel_rfl)) ?_));(try simp (maxSteps:=4000000) (disch:=omega) [gw,dF,dM]);(repeat rw [if_pos (by kernel_rfl)]);(try simp (maxSteps:=4000000) (disch:=omega) [gw,dF,dM])
     (try (refine bE (of_decide_eq_true (by kernel_rfl)) ?_));(try simp (maxSteps:=4000000) (disch:=omega) [gw,dF,dM]);(repeat rw [if_pos (by kernel_rfl)]);(try simp (maxSteps:=4000000) (disch:=omega) [gw,dF,dM])
     refine bI [4,5,6] ?_
     exact bZ
    ·simp at h
 ·exfalso
  simp at h;omega
section
variable {x y:List Int} {an ad bn bd cn cd dn dd:Int} (nx:aE env.P 192 [.ag (G9 x an ad bn bd)] (.ag (G9 x an ad bn bd))) (ny:aE env.P 192 [.ag (G9 y cn cd dn dd)] (.ag (G9 y cn cd dn dd)))
include nx ny
theorem ara{r:Int}(hr:r = -1∨r=0∨r=1)(p1:aE env.P 193 [.ag (G9 x an ad bn bd)] (.bool true))(k:aE env.P 111 [.ag (G9 y cn cd dn dd),T2 an ad] (.int .i64 r)):aE env.P 110 [.ag (G9 x an ad bn bd), .ag (G9 y cn cd dn dd)] (.int .i64 (-r)):=by
 have hw:IntKind.wrap .i64 (-r) = -r:=wrap_i64 (by omega) (by omega)
 simp only [G9]at *
 refine cB [(0, .ag (G9 x an ad bn bd)),(1, .ag (G9 y cn cd dn dd))] Tryz.func110 ?_
 refine aA [2,3] ?_
 refine nH ?_
 refine cM nx ?_
 refine cM ny ?_
 (try (refine bE (of_decide_eq_true (by kernel_rfl)) ?_));(try simp (maxSteps:=4000000) (disch:=omega) [gw]);(repeat rw [if_pos (by kernel_rfl)]);(try simp (maxSteps:=4000000) (disch:=omega) [gw])
 (try (refine bE (of_decide_eq_true (by kernel_rfl)) ?_));(try simp (maxSteps:=4000000) (disch:=omega) [gw]);(repeat rw [if_pos (by kernel_rfl)]);(try simp (maxSteps:=4000000) (disch:=omega) [gw])
 refine bI [2,3] ?_
 refine W.seq ?_
 refine W.block ?_
 refine aL [2,3,15] p1 ?_
 refine bH ?_ ?_<;>intro h
 ·refine jG ?_
  refine aC k ?_
  simp (disch:=omega) [gw,hw]
  refine bI [4] ?_
  exact bZ
 ·simp at h
theorem arb{r:Int}(p1:aE env.P 193 [.ag (G9 x an ad bn bd)] (.bool false))(p2:aE env.P 193 [.ag (G9 y cn cd dn dd)] (.bool true))(k:aE env.P 111 [.ag (G9 x an ad bn bd),T2 cn cd] (.int .i64 r)):aE env.P 110 [.ag (G9 x an ad bn bd), .ag (G9 y cn cd dn dd)] (.int .i64 r):=by
 simp only [G9]at *
 refine cB [(0, .ag (G9 x an ad bn bd)),(1, .ag (G9 y cn cd dn dd))] Tryz.func110 ?_
 refine aA [2,3] ?_
 refine nH ?_
 refine cM nx ?_
 refine cM ny ?_
 (try (refine bE (of_decide_eq_true (by kernel_rfl)) ?_));(try simp (maxSteps:=4000000) (disch:=omega) [gw]);(repeat rw [if_pos (by kernel_rfl)]);(try simp (maxSteps:=4000000) (disch:=omega) [gw])
 (try (refine bE (of_decide_eq_true (by kernel_rfl)) ?_));(try simp (maxSteps:=4000000) (disch:=omega) [gw]);(repeat rw [if_pos (by kernel_rfl)]);(try simp (maxSteps:=4000000) (disch:=omega) [gw])
 refine bI [2,3] ?_
 refine W.seq ?_
 refine W.block ?_
 refine aL [2,3,15] p1 ?_
 refine bH ?_ ?_<;>intro h
 ·simp at h
 refine aL [2,3,23] p2 ?_
 refine bH ?_ ?_<;>intro h
 ·refine aL [4] k ?_
  exact bZ
 ·simp at h
set_option maxHeartbeats 4000000 in
theorem Z1{g:List Int}{ln ld hn hd zd zl dg r:Int}{v w:PV}{hs:Bool}(p1:aE env.P 193 [.ag (G9 x an ad bn bd)] (.bool false))(p2:aE env.P 193 [.ag (G9 y cn cd dn dd)] (.bool false))
  (kM:aE env.P 90 [T2 an ad, .sl [[.bool (decide (cn<0)),us (aR LL cn.natAbs), .bool (decide (cd<0)),us (aR LL cd.natAbs)]]] (T2 ln ld)) (kD:aE env.P 86 [T2 dn dd,T2 bn bd] (.int .i64 zd)) (hh:if zd<0 then hn=dn∧hd=dd else hn=bn∧hd=bd) (kL:aE env.P 86 [T2 ln ld,T2 hn hd] (.int .i64 zl))
  (hG:zl<0→aE env.P 194 [.sl [[Po x],[Po y]]] (Po g)) (hD:zl<0→aE env.P 83 [Po g] (.int .i64 dg)) (hH:zl<0→0<dg→aE env.P 195 [Po g,T2 ln ld,T2 hn hd] (.bool hs)) (hr:zl<0∧0<dg∧hs=true→r=0)
  (hA:¬(zl<0∧0<dg∧hs=true)→aE env.P 196 [.ag (G9 x an ad bn bd), .ag (G9 y cn cd dn dd)] (.dX [v,w, .int .i64 r])) (hv:∃a b c d,v = .ag (G9 x a b c d)) (hw:∃a b c d,w = .ag (G9 y a b c d)) :
  aE env.P 110 [.ag (G9 x an ad bn bd), .ag (G9 y cn cd dn dd)] (.int .i64 r):=by
 obtain⟨va,vb,vc,vd,rfl⟩:=hv
 obtain⟨wa,wb,wc,wd,rfl⟩:=hw
 simp only [G9]at *
 refine cB [(0, .ag (G9 x an ad bn bd)),(1, .ag (G9 y cn cd dn dd))] Tryz.func110 ?_
 refine aA [2,3] ?_
 refine nH ?_
 refine cM nx ?_
 refine cM ny ?_
 (try (refine bE (of_decide_eq_true (by kernel_rfl)) ?_));(try simp (maxSteps:=4000000) (disch:=omega) [gw]);(repeat rw [if_pos (by kernel_rfl)]);(try simp (maxSteps:=4000000) (disch:=omega) [gw])
 (try (refine bE (of_decide_eq_true (by kernel_rfl)) ?_));(try simp (maxSteps:=4000000) (disch:=omega) [gw]);(repeat rw [if_pos (by kernel_rfl)]);(try simp (maxSteps:=4000000) (disch:=omega) [gw])
 refine bI [2,3] ?_
 refine W.seq ?_
 refine W.block ?_
 refine aL [2,3,15] p1 ?_
 refine bH ?_ ?_<;>intro h
 ·simp at h
 refine aL [2,3,23] p2 ?_
 refine bH ?_ ?_<;>intro h
 ·simp at h
 refine W.skip ?_
 refine nH ?_
 refine aC kM ?_
 simp (maxSteps:=4000000) (disch:=omega) [gw]
 (try (refine bE (of_decide_eq_true (by kernel_rfl)) ?_));(try simp (maxSteps:=4000000) (disch:=omega) [gw]);(repeat rw [if_pos (by kernel_rfl)]);(try simp (maxSteps:=4000000) (disch:=omega) [gw])
 (try (refine bE (of_decide_eq_true (by kernel_rfl)) ?_));(try simp (maxSteps:=4000000) (disch:=omega) [gw]);(repeat rw [if_pos (by kernel_rfl)]);(try simp (maxSteps:=4000000) (disch:=omega) [gw])
 refine bI [2,3,5,6] ?_
 refine W.iB (fun σ=>∃(v5 v6:Nat) (rows:Pm.Rows) (clk:Nat),σ=⟨fa [(2, .ptr 2 0 0 0),(3, .ptr 3 1 0 0),(5, .ptr 5 v5 0 0),(6, .ptr 6 v6 0 0)],rows,clk⟩∧rows 2=some ⟨0,54,9,[G9 x an ad bn bd]⟩∧rows 3=some ⟨1,54,9,[G9 y cn cd dn dd]⟩∧rows 5=some ⟨v5,52,4,[[.bool (decide (ln<0)),us (aR LL ln.natAbs), .bool (decide (ld<0)),us (aR LL ld.natAbs)]]⟩∧rows 6=some ⟨v6,52,4,[[.bool (decide (hn<0)),us (aR LL hn.natAbs), .bool (decide (hd<0)),us (aR LL hd.natAbs)]]⟩) ?_ ?_
 ·refine aL [2,3,5,6,42] kD ?_
  refine bH ?_ ?_<;>intro h
  ·have h:zd<0:=by simpa using h
   rw [if_pos h]at hh
   obtain⟨rfl,rfl⟩:=hh
   refine W.bY (fun K hK=>?_);simp (disch:=omega) [gw]
   exact hK _ ⟨_,aB _ [2,3,5,6],_,_,_,_,rfl,by simp,by simp,by simp,by simp⟩
  ·have h:¬zd<0:=by simpa using h
   rw [if_neg h]at hh
   obtain⟨rfl,rfl⟩:=hh
   refine W.skip ?_
   exact⟨_,aB _ [2,3,5,6],_,_,_,_,rfl,by simp,by simp,by simp,by simp⟩
 rintro _ ⟨v5,v6,rows,clk,rfl,bU,bQ,dM,i9⟩
 simp only [G9]at bU bQ
 by_cases hz:zl<0∧0<dg∧hs=true
 ·have W1:=hG hz.1
  have hD':=hD hz.1
  have hH':=hH hz.1 hz.2.1
  obtain⟨z1,z2,rfl⟩:=hz
  rw [hr ⟨z1,z2,rfl⟩]
  refine W.seq ?_
  refine W.sr ?_
  simp (disch:=omega) [gw,dM,i9]
  refine cN [2,3,5,6,48] kL ?_
  refine bH ?_ ?_<;>intro h
  ·refine W.sr ?_
   simp (disch:=omega) [gw,bU,bQ]
   refine cN [2,3,5,6,7] W1 ?_
   refine jG ?_
   refine aC hD' ?_
   simp (disch:=omega) [gw,z2,dM,i9]
   refine cN [2,3,63] hH' ?_
   refine bH ?_ ?_<;>intro h
   ·refine aA [4] ?_
    exact bZ
   ·simp at h
  ·exfalso;simp at h;omega
 ·have hA':=hA hz
  refine W.iB (fun σ=>∃(rows:Pm.Rows) (clk:Nat),σ=⟨fa [(2, .ptr 2 0 0 0),(3, .ptr 3 1 0 0)],rows,clk⟩∧rows 2=some ⟨0,54,9,[G9 x an ad bn bd]⟩∧rows 3=some ⟨1,54,9,[G9 y cn cd dn dd]⟩) ?_ ?_
  ·refine W.sr ?_
   simp (disch:=omega) [gw,dM,i9]
   refine cN [2,3,5,6,48] kL ?_
   refine bH ?_ ?_<;>intro h
   ·have h:zl<0:=by simpa using h
    have W1:=hG h
    have hD':=hD h
    have hH':=hH h
    refine W.sr ?_
    simp (disch:=omega) [gw,bU,bQ]
    refine cN [2,3,5,6,7] W1 ?_
    refine W.eD (fun σ=>∃(rows:Pm.Rows) (clk:Nat),σ=⟨fa [(2, .ptr 2 0 0 0),(3, .ptr 3 1 0 0),(63, .bool false)],rows,clk⟩∧rows 2=some ⟨0,54,9,[G9 x an ad bn bd]⟩∧rows 3=some ⟨1,54,9,[G9 y cn cd dn dd]⟩) (fun K hK=>?_) ?_
    ·by_cases h2:0<dg
     ·have hH2:=hH' h2
      have hf:hs=false:=by
       cases hs with
       | false=>rfl
       | true=>exact absurd ⟨h,h2,rfl⟩ hz
      subst hf
      simp (disch:=omega) [gw]
      refine aC hD' ?_
      simp (disch:=omega) [gw,h2,dM,i9]
      refine cM hH2 ?_
      refine hK _ _ (aB _ [2,3,63]) ⟨_,_,rfl,by simp [bU],by simp [bQ]⟩
     ·simp (disch:=omega) [gw]
      refine aC hD' ?_
      simp (disch:=omega) [gw,h2]
      refine hK _ _ (aB _ [2,3,63]) ⟨_,_,rfl,by simp [bU],by simp [bQ]⟩
    rintro _ ⟨rows,clk,rfl,bU,bQ⟩
    refine bH ?_ ?_<;>intro h
    ·simp at h
    refine W.skip ?_
    exact⟨_,aB _ [2,3],_,_,rfl,bU,bQ⟩
   ·refine W.skip ?_
    exact⟨_,aB _ [2,3],_,_,rfl,by simp [bU],by simp [bQ]⟩
  rintro _ ⟨rows,clk,rfl,bU,bQ⟩
  simp only [G9]at bU bQ
  refine W.sr ?_
  simp (disch:=omega) [gw,bU,bQ]
  refine cN [10] hA' ?_
  refine aA [4] ?_
  exact bZ
end
theorem AN.FU{s n u:Nat}{f:ZX}{p:Rat × Rat}(a:AN s n u f p){t:Rat}{v:Nat}(qt:SQ v t)(huv:u≤v)(hv:v≤1000000000):aE env.P 111 [GA f p,RT t] (.int .i64 (cr (cO f p) t)):=by
 have I:=a.I
 have q1:=a.q1.mono huv
 have q2:=a.q2.mono huv
 have hp:=kU (x:=f.l) q1 q2 hv
 have hc:=a.A.axA t
 by_cases WK:p.1=p.2
 ·rw [decide_eq_true (by rw [WK];exact Rat.le_refl)]at hp
  have z:=dB q1.nL q1.dL qt.nL qt.dL (by omega) (aZ p.1) (aZ t) ⟨q1.nL,q1.dL⟩ ⟨qt.nL,qt.dL⟩
  have:=WB hp z
  have e1:cr (cO f p) t=dP (p.1.num*(t.den:Int)) (t.num*(p.1.den:Int)):=by
   rw [hc,if_pos WK]
   by_cases h2:p.1<t
   ·rw [if_pos h2,mK (mV.1 (fW.2 h2))]
   ·rw [if_neg h2]
    by_cases h3:t<p.1
    ·rw [if_pos h3,mL (p7.1 (fV.2 h3))]
    ·rw [if_neg h3,lS.2 (by grind)]
  rw [e1]
  exact this
 ·have dC:p.1<p.2:=by have:=a.A.le;grind
  rw [decide_eq_false (Rat.not_le.2 dC)]at hp
  rw [hc,if_neg WK]
  by_cases h1:t≤p.1
  ·rw [if_pos h1]
   have z1:=dB qt.nL qt.dL q1.nL q1.dL (by omega) (aZ t) (aZ p.1) ⟨qt.nL,qt.dL⟩ ⟨q1.nL,q1.dL⟩
   have z2:=dB qt.nL qt.dL q2.nL q2.dL (by omega) (aZ t) (aZ p.2) ⟨qt.nL,qt.dL⟩ ⟨q2.nL,q2.dL⟩
   refine tL hp z1 z2 (tM f I.ch.bz (by have:=a.hs;omega) (by have:=I.ch.hn;omega) qt hv) (CT I (by have:=a.hs;omega) q1 hv) ?_
   rw [if_pos (qI.2 h1)]
  ·rw [if_neg h1]
   by_cases h2:p.2<t
   ·rw [if_pos h2]
    have z1:=dB qt.nL qt.dL q1.nL q1.dL (by omega) (aZ t) (aZ p.1) ⟨qt.nL,qt.dL⟩ ⟨q1.nL,q1.dL⟩
    have z2:=dB qt.nL qt.dL q2.nL q2.dL (by omega) (aZ t) (aZ p.2) ⟨qt.nL,qt.dL⟩ ⟨q2.nL,q2.dL⟩
    refine tL hp z1 z2 (tM f I.ch.bz (by have:=a.hs;omega) (by have:=I.ch.hn;omega) qt hv) (CT I (by have:=a.hs;omega) q1 hv) ?_
    rw [if_neg (fun h=>h1 (qI.1 h)),if_pos (fV.2 h2)]
   ·rw [if_neg h2]
    have k:=agv I (by have:=a.hs;omega) a.A (m:=t) (by grind) (by grind) q1 q2 qt hv
    have b1:=I.S.b6 (show p.1≤t by grind)
    have e1:(if e t f=0 then 0 else if vt (bA f) t<vt (bA f) p.1 then -1 else 1:Int)=if vt (bA f) p.1=vt (bA f) t then 1 else if e t f=0 then 0 else -1:=by
     by_cases h3:e t f=0
     ·have:=I.S.root (show p.1<t by grind) h3
      rw [if_pos h3,if_neg (by omega),if_pos h3]
     ·rw [if_neg h3]
      by_cases h4:vt (bA f) t<vt (bA f) p.1
      ·rw [if_pos h4,if_neg (by omega),if_neg h3]
      ·rw [if_neg h4,if_pos (by omega)]
    rw [←e1]
    exact k
noncomputable def st(f h:ZX)(p q:Rat × Rat):Nat→(Rat × Rat) × (Rat × Rat)
 | 0=>(p,q)
 | j+1=>if (st f h p q j).2.2-(st f h p q j).2.1≤(st f h p q j).1.2-(st f h p q j).1.1 then(uY f (st f h p q j).1,(st f h p q j).2)else((st f h p q j).1,uY h (st f h p q j).2)
section
variable {f h:ZX} {p q:Rat × Rat} (A:rT f (vt (bA f)) p.1 p.2) (B:rT h (vt (bA h)) q.1 q.2) {D D':Nat} {b:Rat} (g1:Gr D b 0 p.1) (g2:Gr D b 0 p.2) (g3:Gr D' b 0 q.1) (g4:Gr D' b 0 q.2)
include A B g1 g2 g3 g4
theorem yN:∀j,rT f (vt (bA f)) (st f h p q j).1.1 (st f h p q j).1.2∧rT h (vt (bA h)) (st f h p q j).2.1 (st f h p q j).2.2∧(∀t,cO f (st f h p q j).1 t↔cO f p t)∧(∀t,cO h (st f h p q j).2 t↔cO h q t)∧Gr D b j (st f h p q j).1.1∧Gr D b j (st f h p q j).1.2∧Gr D' b j (st f h p q j).2.1∧Gr D' b j (st f h p q j).2.2
 | 0=>⟨A,B,fun _=>Iff.rfl,fun _=>Iff.rfl,g1,g2,g3,g4⟩
 | j+1=>by
  obtain⟨a1,a2,a3,a4,a5,a6,a7,a8⟩:=yN j
  rw [st]
  split
  ·obtain⟨b1,b2,_⟩:=lU a1
   obtain⟨c1,c2⟩:=WG (f:=f) a5 a6
   exact⟨b1,a2,fun t=>(b2 t).trans (a3 t),a4,c1,c2,a7.mono (by omega),a8.mono (by omega)⟩
  ·obtain⟨b1,b2,_⟩:=lU a2
   obtain⟨c1,c2⟩:=WG (f:=h) a7 a8
   exact⟨a1,b1,a3,fun t=>(b2 t).trans (a4 t),a5.mono (by omega),a6.mono (by omega),c1,c2⟩
theorem agD{W:Rat}(w1:p.2-p.1≤W)(w2:q.2-q.1≤W):∀i,((st f h p q (2*i)).1.2-(st f h p q (2*i)).1.1)*2^i≤W∧((st f h p q (2*i)).2.2-(st f h p q (2*i)).2.1)*2^i≤W
 | 0=>by rw [Rat.pow_zero,Rat.mul_one,Rat.mul_one];exact⟨w1,w2⟩
 | i+1=>by
  obtain⟨h1,h2⟩:=agD w1 w2 i
  have s0:=yN A B g1 g2 g3 g4 (2*i)
  have s1:=yN A B g1 g2 g3 g4 (2*i+1)
  have key:∀M:Rat,(st f h p q (2*i)).1.2-(st f h p q (2*i)).1.1≤M→(st f h p q (2*i)).2.2-(st f h p q (2*i)).2.1≤M→((st f h p q (2*i+2)).1.2-(st f h p q (2*i+2)).1.1)*2≤M∧((st f h p q (2*i+2)).2.2-(st f h p q (2*i+2)).2.1)*2≤M:=fun M m1 m2=>by
   have a1:=(lU s0.1).2.2.2.2
   have a2:=(lU s0.2.1).2.2.2.2
   have b1:=(lU s1.1).2.2.2.2
   have b2:=(lU s1.2.1).2.2.2.2
   have l1:=s1.1.le
   have l2:=s1.2.1.le
   have l3:=(lU s1.1).1.le
   have l4:=(lU s1.2.1).1.le
   have e2:st f h p q (2*i+2)=if (st f h p q (2*i+1)).2.2-(st f h p q (2*i+1)).2.1≤(st f h p q (2*i+1)).1.2-(st f h p q (2*i+1)).1.1 then(uY f (st f h p q (2*i+1)).1,(st f h p q (2*i+1)).2)else((st f h p q (2*i+1)).1,uY h (st f h p q (2*i+1)).2):=rfl
   have e1:st f h p q (2*i+1)=if (st f h p q (2*i)).2.2-(st f h p q (2*i)).2.1≤(st f h p q (2*i)).1.2-(st f h p q (2*i)).1.1 then(uY f (st f h p q (2*i)).1,(st f h p q (2*i)).2)else((st f h p q (2*i)).1,uY h (st f h p q (2*i)).2):=rfl
   rw [e2]
   generalize st f h p q (2*i+1)=t at *
   generalize st f h p q (2*i)=s at *
   clear e2 s0 s1 h1 h2
   split
   ·rename_i c
    show((uY f t.1).2-(uY f t.1).1)*2≤M∧(t.2.2-t.2.1)*2≤M
    split at e1
    ·subst e1;dsimp only at *;exact⟨by grind,by grind⟩
    ·subst e1;dsimp only at *;exact⟨by grind,by grind⟩
   ·rename_i c
    show(t.1.2-t.1.1)*2≤M∧((uY h t.2).2-(uY h t.2).1)*2≤M
    split at e1
    ·subst e1;dsimp only at *;exact⟨by grind,by grind⟩
    ·subst e1;dsimp only at *;exact⟨by grind,by grind⟩
  have hP:=gW i
  have e3:W/2^i*2^i=W:=Rat.div_mul_cancel (Rat.ne_of_gt hP)
  have hle:∀x:Rat,x*2^i≤W→x≤W/2^i:=fun x hx=>Rat.le_of_mul_le_mul_right (by rw [e3];exact hx) hP
  obtain⟨k1,k2⟩:=key (W/2^i) (hle _ h1) (hle _ h2)
  rw [show 2*(i+1)=2*i+2 by omega,Rat.pow_succ]
  have m1:=Rat.mul_le_mul_of_nonneg_right k1 (Rat.le_of_lt hP)
  have m2:=Rat.mul_le_mul_of_nonneg_right k2 (Rat.le_of_lt hP)
  rw [e3]at m1 m2
  exact⟨by grind,by grind⟩
end
theorem akt{U V:Rat→Prop}{x y:Rat}(hU:∀s t,U s→s≤t→U t)(hx:U x)(hy:∀t,V t→y≤t)(rL:x≤y)(m7:¬ ∀t,U t↔V t):cu U V = -1:=by
 unfold cu
 refine if_pos (Classical.byContradiction fun B5=>m7 fun t=>⟨fun h=>Classical.byContradiction fun h2=>B5 ⟨t,h,h2⟩,fun h=>hU x t hx ?_⟩)
 have:=hy t h
 grind
theorem aku{U V:Rat→Prop}{x y:Rat}(hV:∀s t,V s→s≤t→V t)(hx:V x)(hy:∀t,U t→y≤t)(rL:x≤y)(m7:¬ ∀t,U t↔V t):cu U V=1:=by
 have h1:∀t,U t→V t:=fun t h=>hV x t hx (by have:=hy t h;grind)
 unfold cu
 rw [if_neg (fun ⟨t,h2,h3⟩=>h3 (h1 t h2))]
 exact if_pos (Classical.byContradiction fun B5=>m7 fun t=>⟨h1 t,fun h=>Classical.byContradiction fun h2=>B5 ⟨t,h,h2⟩⟩)
theorem lo_le{f:ZX}{v:Rat→Nat}{lo hi:Rat}(A:rT f v lo hi){t:Rat}(h:jN v lo hi t):lo≤t:=Rat.not_lt.1 fun h2=>A.nC (.inl h2) h
theorem agE{s n u s' n' u':Nat}{f h:ZX}{p q:Rat × Rat}(a:AN s n u f p)(b:AN s' n' u' h q)(m7:¬ ∀x,cO f p x↔cO h q x)(hp:p.1<p.2)(hq:q.1<q.2){M:Nat}(hM:64+4*(ZX.N f+ZX.N h)*(zs f+zs h+(ZX.N f+ZX.N h)+8)≤M) :
  ∃J,J<M∧((st f h p q J).1.2≤(st f h p q J).2.1∨(st f h p q J).2.2≤(st f h p q J).1.1) ∧ ∀j,j<J→¬((st f h p q j).1.2≤(st f h p q j).2.1∨(st f h p q j).2.2≤(st f h p q j).1.1):=by
 have I:=a.I
 have I':=b.I
 have A:=a.A
 have B:=b.A
 have n8:=a.n8
 have m8:=b.n8
 have n2:=agx I.nf A
 have m2:=agx I'.nf B
 have fz:=R5 I.ch.bz
 have hz:=R5 I'.ch.bz
 have bf:=MW I.nf fz
 have bh:=MW I'.nf hz
 have hA:∀c∈f.l,c.natAbs≤2^zs f:=fun c hc=>Nat.le_of_lt (BZ.lt fz c hc)
 have hB:∀c∈h.l,c.natAbs≤2^zs h:=fun c hc=>Nat.le_of_lt (BZ.lt hz c hc)
 obtain⟨D,_,_,g1,g2⟩:=JG (a.q1.mono (show u≤u+u' by omega)) (a.q2.mono (show u≤u+u' by omega))
 obtain⟨D',_,_,g3,g4⟩:=JG (b.q1.mono (show u'≤u+u' by omega)) (b.q2.mono (show u'≤u+u' by omega))
 obtain⟨z,hz1,vU,hz3⟩:∃z,z≤zs f∧z≤zs h∧(z=zs f∨z=zs h):=by
  rcases Nat.le_total (zs f) (zs h)with h1 | h1
  ·exact⟨zs f,Nat.le_refl _,h1, .inl rfl⟩
  ·exact⟨zs h,h1,Nat.le_refl _, .inr rfl⟩
 have e1:=JH n2 m2 n8 m8 hz1 vU
 have e2:=JH m2 n2 m8 n8 vU hz1
 have e3:(2*lk (zs f) (ZX.N f) 3 (z+2)+2*(zs f+zs h)+9≤64+4*(ZX.N f+ZX.N h)*(zs f+zs h+(ZX.N f+ZX.N h)+8))∨(2*lk (zs h) (ZX.N h) 3 (z+2)+2*(zs f+zs h)+9≤64+4*(ZX.N f+ZX.N h)*(zs f+zs h+(ZX.N f+ZX.N h)+8)):=by
  have sw:4*(ZX.N h+ZX.N f)*(zs h+zs f+(ZX.N h+ZX.N f)+8)=4*(ZX.N f+ZX.N h)*(zs f+zs h+(ZX.N f+ZX.N h)+8):=by rw [Nat.add_comm (ZX.N h),Nat.add_comm (zs h)]
  rcases Nat.le_total (zs f) (zs h)with h1 | h1
  ·have hz':z=zs f:=by omega
   subst hz'
   rcases Nat.lt_or_ge 2 (ZX.N h)with h2 | h2
   ·exact .inl (JI n2 m2 n8 h1 (.inl h2))
   ·exact .inr (JJ n2 n8 h1 (by omega))
  ·have hz':z=zs h:=by omega
   subst hz'
   rcases Nat.lt_or_ge 2 (ZX.N f)with h2 | h2
   ·have:=JI m2 n2 m8 h1 (.inl h2)
    rw [sw,Nat.add_comm (zs h) (zs f)]at this
    exact .inr this
   ·have:=JJ (m:=ZX.N f) m2 m8 h1 (by omega)
    rw [sw,Nat.add_comm (zs h) (zs f)]at this
    exact .inl this
 have sw:4*(ZX.N h+ZX.N f)*(zs h+zs f+(ZX.N h+ZX.N f)+8)=4*(ZX.N f+ZX.N h)*(zs f+zs h+(ZX.N f+ZX.N h)+8):=by rw [Nat.add_comm (ZX.N h),Nat.add_comm (zs h)]
 rw [sw]at e2
 generalize 64+4*(ZX.N f+ZX.N h)*(zs f+zs h+(ZX.N f+ZX.N h)+8)=T at *
 obtain⟨K,hK⟩:∃K,K=(T-1)/2-(zs f+zs h+3):=⟨_,rfl⟩
 have hi:2*(K+1+(zs f+zs h+2))<T:=by omega
 have k1:se (zs f) (zs h) (ZX.N f) (ZX.N h) (z+2)≤K:=by omega
 have k2:se (zs h) (zs f) (ZX.N h) (ZX.N f) (z+2)≤K:=by omega
 have k3:lk (zs f) (ZX.N f) 3 (z+2)≤K∨lk (zs h) (ZX.N h) 3 (z+2)≤K:=by omega
 generalize hie:K+1+(zs f+zs h+2)=i at *
 have rR:(st f h p q (2*i)).1.2≤(st f h p q (2*i)).2.1∨(st f h p q (2*i)).2.2≤(st f h p q (2*i)).1.1:=by
  refine Classical.byContradiction fun B5=>m7 ?_
  obtain⟨c1,c2⟩:=not_or.1 B5
  have w0:∀ {r:Rat × Rat} {y:Nat},Ab r.1 (2^(y+1))→Ab r.2 (2^(y+1))→y≤zs f+zs h→r.2-r.1≤2^(zs f+zs h+2):=fun {r y} ⟨x1,x2⟩ ⟨x3,x4⟩ hy=>by
   refine Rat.le_trans ?_ (JC (show y+1+1≤zs f+zs h+2 by omega))
   rw [Rat.pow_succ];grind
  obtain⟨w1,w2⟩:=agD A B g1 g2 g3 g4 (w0 (a.b1 hp) (a.b2 hp) (by omega)) (w0 (b.b1 hq) (b.b2 hq) (by omega)) i
  obtain⟨s1,s2,s3,s4,_⟩:=yN A B g1 g2 g3 g4 (2*i)
  generalize st f h p q (2*i)=t at *
  have l1:=s1.le
  have l2:=s2.le
  obtain⟨S,hS,hS1,hS2⟩:∃S,(S=t.1.1∨S=t.2.1)∧S≤t.1.1∧S≤t.2.1:=by
   by_cases hh:t.1.1≤t.2.1
   ·exact⟨_, .inl rfl,Rat.le_refl,hh⟩
   ·exact⟨_, .inr rfl,by grind,Rat.le_refl⟩
  obtain⟨E,hE,hE1,hE2⟩:∃E,(E=t.1.2∨E=t.2.2)∧t.1.2≤E∧t.2.2≤E:=by
   by_cases hh:t.1.2≤t.2.2
   ·exact⟨_, .inr rfl,hh,Rat.le_refl⟩
   ·exact⟨_, .inl rfl,Rat.le_refl,by grind⟩
  have hP:=gW (zs f+zs h+2)
  have nar:∀x:Rat,x*2^i≤2^(zs f+zs h+2)→x*2^(K+1)≤1:=fun x hx=>by
   rw [←hie,rG (K+1),←Rat.mul_assoc]at hx
   refine Rat.le_of_mul_le_mul_right ?_ hP
   rw [Rat.one_mul];exact hx
  have hd:(E-S)*2^K≤1:=by
   have n1:=nar _ w1
   have n2:=nar _ w2
   have hPK:=gW K
   rw [Rat.pow_succ]at n1 n2
   have:E-S≤(t.1.2-t.1.1)+(t.2.2-t.2.1):=by rcases hS with rfl | rfl<;>rcases hE with rfl | rfl<;>grind
   have:=Rat.mul_le_mul_of_nonneg_right this (Rat.le_of_lt hPK)
   grind
  have a1:¬cO f p S:=fun hh2=>s1.nC (by grind) ((s3 S).2 hh2)
  have b1:¬cO h q S:=fun hh2=>s2.nC (by grind) ((s4 S).2 hh2)
  have a2:cO f p E:=(s3 E).1 (s1.up jE hE1)
  have b2:cO h q E:=(s4 E).1 (s2.up jE hE2)
  have hSE:=(cY A).lt a1 a2
  have h1:E-S≤1:=by
   have:=Rat.mul_le_mul_of_nonneg_left (rH K) (show 0≤E-S by grind)
   grind
  have bd:Ab S (2^(z+2))∧Ab E (2^(z+2)):=by
   have main:∀b:Rat,Ab b (2^(z+1))→S<b → -b<E→Ab S (2^(z+2))∧Ab E (2^(z+2)):=fun b ⟨y1,y2⟩ y3 y4=>by
    have y5:=rH (z+1)
    rw [show z+2=z+1+1 by omega,Rat.pow_succ]
    generalize (2:Rat)^(z+1)=T at *
    exact⟨⟨by grind,by grind⟩,⟨by grind,by grind⟩⟩
   rcases hz3 with rfl | rfl
   ·exact main _ bf ((MX I.nf A).2 a1) ((MX I.nf A).1 a2)
   ·exact main _ bh ((MX I'.nf B).2 b1) ((MX I'.nf B).1 b2)
  exact akq I.nf I'.nf I.RO I'.RO A B hA hB (Nat.le_refl _) (Nat.le_refl _) n8 m8 k1 k2 k3 bd.1 bd.2 a1 a2 b1 b2 hd
 obtain⟨J,hJ,hj,iR⟩:=kC (fun j=>(st f h p q j).1.2≤(st f h p q j).2.1∨(st f h p q j).2.2≤(st f h p q j).1.1) (2*i+1)
 have hJ2:J<2*i+1:=Nat.not_le.1 fun hh=>hj (2*i) (by omega) rR
 exact⟨J,by omega,iR hJ2,hj⟩
def gg(x:ZX × Rat × Rat):List PV:=Po x.1.l::(tc x.2.1++tc x.2.2)
@[simp] theorem aDb{x:ZX × Rat × Rat}:gg x=Po x.1.l::(tc x.2.1++tc x.2.2):=rfl
@[simp] theorem atw{l:List (ZX × Rat × Rat)}:bK 9 (emap gg l)=True:=cL fun _=>rfl
@[simp] theorem arc{v e n:Nat}{l:List (ZX × Rat × Rat)}:c9 (some ⟨v,e,n,emap gg l⟩)=True:=b8 fun _=>rfl
abbrev agF:PV:=.ag [.sl [], .bool false, .sl [], .bool false, .sl [], .bool false, .sl [], .bool false, .sl []]
theorem ace{f:ZX}{p:Rat × Rat}(S:r7 f (vt (bA f)))(h:vt (bA f) p.1=vt (bA f) p.2+1)(t:Rat):cO f p t↔vt (bA f) t≤vt (bA f) p.2:=by
 refine⟨fun hh=>?_,fun hh=>?_⟩
 ·rcases hh with hh | ⟨_,hh⟩
  ·exact S.b6 hh
  ·omega
 ·refine .inr ⟨?_,by omega⟩
  refine Rat.not_le.1 fun h2=>?_
  have:=S.b6 h2
  omega
theorem z8{v:Rat→Nat}{D:Nat}{B δ:Rat}(C:Cut v B δ):∀(k j:Nat) (lo hi:Rat),Gr D B j lo→Gr D B j hi→lo<hi→hi-lo≤δ*2^k → ∀i,i<(NK v k lo hi).length→v (nth (NK v k lo hi) i).2+i+1=v lo
 | 0,j,lo,hi,g1,g2,h,hd,i,lW=>by
  rw [NK]at lW ⊢
  split at lW
  ·cases lW
  ·rename_i he
   rw [if_neg he]
   have:=C.leaf g1.b g2.b h (by rw [Rat.pow_zero,Rat.mul_one]at hd;exact hd) he
   simp at lW;subst lW
   show v hi+0+1=v lo
   omega
 | k+1,j,lo,hi,g1,g2,h,hd,i,lW=>by
  rw [NK]at lW ⊢
  by_cases he:v lo=v hi
  ·rw [if_pos he]at lW;cases lW
  ·rw [if_neg he]at lW ⊢
   by_cases LV:v lo=v hi+1
   ·rw [if_pos LV]at lW ⊢
    simp at lW;subst lW
    show v hi+0+1=v lo
    omega
   ·rw [if_neg LV]at lW ⊢
    obtain⟨m1,m2⟩:=tJ h
    obtain⟨d1,d2⟩:=yJ hd
    have gm:=g1.K4 g2
    have a:=z8 C k (j+1) lo ((lo+hi)/2) (g1.mono (by omega)) gm m1 d1
    have b:=z8 C k (j+1) ((lo+hi)/2) hi gm (g2.mono (by omega)) m2 d2
    obtain⟨_,l1,_⟩:=uP C k (j+1) lo ((lo+hi)/2) (g1.mono (by omega)) gm m1 d1
    have n1:=C.b6 lo ((lo+hi)/2) (Rat.le_of_lt m1)
    generalize (lo+hi)/2=m at *
    rw [List.length_append]at lW
    rcases Nat.lt_or_ge i (NK v k lo m).length with h3 | h3
    ·have h4:=a i h3
     rw [cE (by rw [List.length_append];omega),List.getElem_append_left h3,←cE h3]
     exact h4
    ·have h4:=b (i-(NK v k lo m).length) (by omega)
     rw [cE (by rw [List.length_append];omega),List.getElem_append_right h3,←cE]
     omega
namespace oQ
variable {s n:Nat} {f:ZX} (I:oQ s n f)
include I
theorem acf(i:Nat)(hi:i<(JF s n f).length):vt (bA f) (nth (JF s n f) i).2+i+1=vt (bA f) (-iS f.l):=by
 obtain⟨δ,h1,h2,C⟩:=I.cut (s+1)
 exact z8 C (lvl s n) 0 _ _ I.MP I.FT I.ZP (I.width h2) i hi
theorem anc(x:Rat):vt (bA f) x≤vt (bA f) (-iS f.l):=by
 by_cases h:x < -iS f.l
 ·exact Nat.le_of_eq (I.S.bg (a:=x) (b := -iS f.l) ⟨1,by decide,fun y _ h2=>(nR f.c I.f0 (.inl h2)).1⟩ h)
 ·exact I.S.b6 (Rat.not_lt.1 h)
theorem axY(x:Rat):vt (bA f) (iS f.l)≤vt (bA f) x:=by
 by_cases h:iS f.l<x
 ·exact Nat.le_of_eq (I.S.bg (a:=iS f.l) (b:=x) ⟨1,by decide,fun y h2 _=>(nR f.c I.f0 (.inr h2)).1⟩ h)
 ·exact I.S.b6 (Rat.not_lt.1 h)
theorem WO(i:Nat)(hi:i<(JF s n f).length)(t:Rat):cO f (nth ((JF s n f).map (ex f)) i) t↔vt (bA f) t+i+1≤vt (bA f) (-iS f.l):=by
 obtain⟨a1,a2,a3,a4,a5,a6⟩:=I.ivs.mem _ (bJ hi)
 have hl:=I.acf i hi
 rw [FW hi]
 refine((CQ ⟨I.S, .inr ⟨a4,a6⟩⟩).2 t).trans ?_
 rw [ace I.S a6]
 omega
end oQ
end Go.Proofs.YtiobceocpabjdaaGreat
namespace Go.Proofs.YtiobceocpabjdaaGreat
open Go Pm
open ZX hiding N W
theorem WQ{s n:Nat}{f:ZX}(I:oQ s n f)(h:ZX)(hC:(qb (qb s n) n+n+6)*4^n≤4500000000)(hq:qb s n≤5000000):oQ (qb s n) n (gz h f):=by
 have nd:Nf (gz h f):=FA (.inr I.nf.ne)
 have hd:dv (gz h f) f:=(fA h f).r
 obtain⟨w,nw,e⟩:=I.nf.quo nd hd
 have hD:bX f=bX w*gz h f+w*bX (gz h f):=by
  have h1:=congrArg bX e
  rwa [uG]at h1
 refine⟨⟨I.lay.dv I.nf nd hd,I.lay.hn,Nat.le_trans I.lay.hs (Nat.pow_le_pow_right (by decide) (by unfold qb;omega)),hC⟩,I.CI,nd,MT nd fun d h1 h2=>I.RO d (h1.trans hd) (by rw [hD];exact(h1.mul_left _).add (h2.mul_left _)),hq⟩
theorem oQ.root{s n:Nat}{f:ZX}(I:oQ s n f){p:Rat × Rat}(hp:p∈JF s n f):SQ (uu s) p.1∧SQ (uu s) p.2∧rT f (vt (bA f)) (ex f p).1 (ex f p).2∧SQ (uu s) (ex f p).1∧SQ (uu s) (ex f p).2:=by
 obtain⟨a1,a2,a3,a4,a5,a6⟩:=I.ivs.mem _ hp
 refine⟨a1,a2,(CQ ⟨I.S, .inr ⟨a4,a6⟩⟩).1,?_,?_⟩<;>(unfold ex;split<;>assumption)
theorem common{f h:ZX}{p q:Rat × Rat}(nf:Nf f)(nh:Nf h)(cf:uX f (bX f))(ch:uX h (bX h))(n8:ZX.N f≤20)(m8:ZX.N h≤20)(A:rT f (vt (bA f)) p.1 p.2)(B:rT h (vt (bA h)) q.1 q.2)(hp:p.1<p.2)(hq:q.1<q.2){lo hi:Rat}(l1:lo=p.1∨lo=q.1)(l2:p.1≤lo)(l3:q.1≤lo)(r1:hi=p.2∨hi=q.2)(r2:hi≤p.2)(r3:hi≤q.2) :
  (lo<hi∧vt (bA (gz f h)) hi<vt (bA (gz f h)) lo) ↔ ∀x,cO f p x↔cO h q x:=by
 obtain⟨w1,S1⟩:=rI (h:=h) nf cf
 obtain⟨w2,S2⟩:=rI (h:=f) nh ch
 rw [←LR]at S2
 have n1:=S1.N
 have n2:=S2.N
 have hg:=CR S1.ng.ne S1.sg (by omega)
 have hw1:=CR S1.nw.ne S1.sw (by omega)
 have hw2:=CR S2.nw.ne S2.sw (by omega)
 have hv:vt (bA f) p.1=vt (bA f) p.2+1:=by
  rcases A.k with ⟨h,_⟩ | ⟨_,h⟩
  ·grind
  ·exact h
 have hv':vt (bA h) q.1=vt (bA h) q.2+1:=by
  rcases B.k with ⟨h,_⟩ | ⟨_,h⟩
  ·grind
  ·exact h
 constructor
 ·rintro⟨dC,hγ⟩
  have c1:=S1.RX A.S hg hw1 (Rat.le_of_lt dC)
  have c2:=S2.RX B.S hg hw2 (Rat.le_of_lt dC)
  have m1:=hw1.b6 (Rat.le_of_lt dC)
  have m2:=hw2.b6 (Rat.le_of_lt dC)
  have v1:=A.S.b6 l2
  have v2:=A.S.b6 r2
  have u1:=B.S.b6 l3
  have u2:=B.S.b6 r3
  have a1:¬cO f p lo:=by
   rintro(h | ⟨_,h⟩)
   ·grind
   ·omega
  have b1:¬cO h q lo:=by
   rintro(h | ⟨_,h⟩)
   ·grind
   ·omega
  have a2:cO f p hi:=.inr ⟨by grind,by omega⟩
  have b2:cO h q hi:=.inr ⟨by grind,by omega⟩
  exact RY A B S1 S2 hg hw1 hw2 dC a1 a2 b1 b2 (by omega) (by omega) hγ
 ·intro hx
  have a1:¬cO f p lo:=by
   rcases l1 with h | h
   ·rw [h];exact A.nC (.inr ⟨rfl,hp⟩)
   ·rw [h];exact fun h2=>B.nC (.inr ⟨rfl,hq⟩) ((hx _).1 h2)
  have a2:cO f p hi:=by
   rcases r1 with h | h
   ·rw [h];exact jE
   ·rw [h];exact(hx _).2 jE
  have dC:=(cY A).lt a1 a2
  refine⟨dC,Nat.not_le.1 fun hγ=>?_⟩
  obtain⟨B0,hB0,ab1,ab2⟩:=kB lo hi
  obtain⟨δ,hδ,XG⟩:=ZS hw1 B.S S1.wh B0
  obtain⟨a,b,g1,g2,g3,g4,g5,g6⟩:=MS (U:=cO f p) hδ dC a1 a2
  have o1:=oK A g5 g6 g2
  have o2:=oK B (fun hh=>g5 ((hx _).2 hh)) ((hx _).1 g6) g2
  have k1:=S1.RX A.S hg hw1 (Rat.le_of_lt g2)
  have x1:=hg.b6 g1
  have x2:=hg.b6 g3
  have x3:=hg.b6 (Rat.le_of_lt g2)
  rcases XG a b (cH ab1 ab2 g1 (by grind)) (cH ab1 ab2 (by grind) g3) g2 g4 with hh | hh<;>omega
theorem ane{u u':Nat}{D j M:Nat}{r r':Rat}(h1:1≤D)(h2:D≤2^(2*(u+u')))(g:Gr D (2^(u+u')) j r)(g':Gr D (2^(u+u')) j r')(hj:j≤M):SQ (3*(u+u')+M+2) r∧SQ (3*(u+u')+M+2) r'∧SQ (3*(u+u')+M+2) ((r+r')/2):=
 ⟨((g.mono hj).sq h1 h2).mono (by omega),((g'.mono hj).sq h1 h2).mono (by omega),((((g.mono hj).K4 (g'.mono hj))).sq h1 h2).mono (by omega)⟩
theorem agG{D j β d:Nat}{r r':Rat}(h1:1≤D)(h2:D≤2^d)(g:Gr D (2^β) j r)(g':Gr D (2^β) j r'):SQ (β+1+d+j+1) (r'-r):=by
 obtain⟨⟨y,hy⟩,b1,b2⟩:=g
 obtain⟨⟨z,hz⟩,b3,b4⟩:=g'
 have:Gr D (2^(β+1)) j (r'-r):=⟨⟨z-y,by rw [Rat.intCast_sub,←hz,←hy];grind⟩,by rw [Rat.pow_succ];exact⟨by grind,by grind⟩⟩
 exact this.sq h1 h2
theorem AN.cmp{s n u s' n' u':Nat}{f h:ZX}{p q:Rat × Rat}(a:AN s n u f p)(b:AN s' n' u' h q)(hG:aE env.P 194 [.sl [[Po f.l],[Po h.l]]] (Po (gz f h).l))(IG:2≤ZX.N (gz f h) → ∃sg ng,oQ sg ng (gz f h)∧sg≤1000000) :
  aE env.P 110 [GA f p,GA h q] (.int .i64 (cu (cO f p) (cO h q))):=by
 have I:=a.I
 have I':=b.I
 have A:=a.A
 have B:=b.A
 have hsa:=a.hs
 have hsb:=b.hs
 have hua:=a.hu
 have hub:=b.hu
 have hn:=I.ch.hn
 have BR:=I'.ch.hn
 have n8:=a.n8
 have m8:=b.n8
 have Nx:=tP I.ch.bz (by omega) (by omega) a.q1 a.q2 (by omega)
 have Ny:=tP I'.ch.bz (by omega) (by omega) b.q1 b.q2 (by omega)
 have P1:=kU (x:=f.l) a.q1 a.q2 (by omega)
 have P2:=kU (x:=h.l) b.q1 b.q2 (by omega)
 by_cases h1:p.1=p.2
 ·rw [decide_eq_true (by rw [h1];exact Rat.le_refl)]at P1
  have k:=b.FU (v:=u+u') (a.q1.mono (by omega)) (by omega) (by omega)
  rw [FV (lT h1) (fun _=>Iff.rfl),agm fun s t=>B.up]
  exact ara Nx Ny (RZ _ _) P1 k
 have dC:p.1<p.2:=by have:=A.le;grind
 rw [decide_eq_false (Rat.not_le.2 dC)]at P1
 by_cases h2:q.1=q.2
 ·rw [decide_eq_true (by rw [h2];exact Rat.le_refl)]at P2
  have k:=a.FU (v:=u+u') (b.q1.mono (by omega)) (by omega) (by omega)
  rw [FV (fun _=>Iff.rfl) (lT h2),ab4 fun s t=>A.up]
  exact arb Nx Ny P1 P2 k
 have hlq:q.1<q.2:=by have:=B.le;grind
 rw [decide_eq_false (Rat.not_le.2 hlq)]at P2
 have a1:=a.q1.mono (show u≤u+u' by omega)
 have a2:=a.q2.mono (show u≤u+u' by omega)
 have b1:=b.q1.mono (show u'≤u+u' by omega)
 have b2:=b.q2.mono (show u'≤u+u' by omega)
 have hU:u+u'≤1000000000:=by omega
 have kM:=acd a1 b1 hU
 have kD:=dB b2.nL b2.dL a2.nL a2.dL (by omega) (aZ q.2) (aZ p.2) ⟨b2.nL,b2.dL⟩ ⟨a2.nL,a2.dL⟩
 obtain⟨lo,y6,l1,l2,l3,ql⟩:∃lo,lo=(if p.1<q.1 then q.1 else p.1)∧(lo=p.1∨lo=q.1)∧p.1≤lo∧q.1≤lo∧SQ (u+u') lo:=by
  refine⟨_,rfl,?_⟩
  split
  ·exact⟨.inr rfl,by grind,Rat.le_refl,b1⟩
  ·exact⟨.inl rfl,Rat.le_refl,by grind,a1⟩
 obtain⟨hi,SK,r1,r2,r3,qh⟩:∃hi,hi=(if q.2<p.2 then q.2 else p.2)∧(hi=p.2∨hi=q.2)∧hi≤p.2∧hi≤q.2∧SQ (u+u') hi:=by
  refine⟨_,rfl,?_⟩
  split
  ·exact⟨.inr rfl,by grind,Rat.le_refl,b2⟩
  ·exact⟨.inl rfl,Rat.le_refl,by grind,a2⟩
 rw [←y6]at kM
 have C8:if dP (q.2.num*(p.2.den:Int)) (p.2.num*(q.2.den:Int))<0 then hi.num=q.2.num∧(hi.den:Int)=q.2.den else hi.num=p.2.num∧(hi.den:Int)=p.2.den:=by
  by_cases hh:q.2<p.2
  ·rw [if_pos (fW.2 hh),SK,if_pos hh];exact⟨rfl,rfl⟩
  ·rw [if_neg (fun h3=>hh (fW.1 h3)),SK,if_neg hh];exact⟨rfl,rfl⟩
 have kL:=dB ql.nL ql.dL qh.nL qh.dL (by omega) (aZ lo) (aZ hi) ⟨ql.nL,ql.dL⟩ ⟨qh.nL,qh.dL⟩
 have zl:dP (lo.num*(hi.den:Int)) (hi.num*(lo.den:Int))<0↔lo<hi:=fW
 have hgN:ZX.N (gz f h)≤ZX.N f:=(fA f h).l.mF I.nf.ne
 have hD:aE env.P 83 [Po (gz f h).l] (.int .i64 ((ZX.N (gz f h):Int)-1)):=lK (gz f h).l (by show ZX.N (gz f h)<_;omega)
 have key:=common I.nf I'.nf I.RO I'.RO (by omega) (by omega) A B dC hlq l1 l2 l3 r1 r2 r3
 obtain⟨w1,S1⟩:=rI (h:=h) I.nf I.RO
 have sn:=S1.N
 have hg:=CR S1.ng.ne S1.sg (by omega)
 have hw1:=CR S1.nw.ne S1.sw (by omega)
 have hv:vt (bA f) p.1=vt (bA f) p.2+1:=by
  rcases A.k with ⟨h,_⟩ | ⟨_,h⟩
  ·exact absurd h h1
  ·exact h
 have hH:dP (lo.num*(hi.den:Int)) (hi.num*(lo.den:Int))<0→(0:Int)<(ZX.N (gz f h):Int)-1→aE env.P 195 [Po (gz f h).l,RT lo,RT hi] (.bool (decide (vt (bA (gz f h)) hi<vt (bA (gz f h)) lo))):=fun z1 z2=>by
  obtain⟨sg,ng,IGG,Q5⟩:=IG (by omega)
  have hlh:=zl.1 z1
  have c1:=S1.RX A.S hg hw1 (Rat.le_of_lt hlh)
  have m1:=hw1.b6 (Rat.le_of_lt hlh)
  have v1:=A.S.b6 l2
  have v2:=A.S.b6 r2
  exact ZU IGG Q5 hlh (by omega) ql qh hU
 have hgc:vt (bA (gz f h)) hi<vt (bA (gz f h)) lo→lo<hi→2≤ZX.N (gz f h):=fun hz hlh=>Nat.not_lt.1 fun h2=>by
  obtain⟨d,hd,e⟩:=ZX.lL (x:=gz f h) (by have:=ZX.aF.1 S1.ng.ne;omega)
  rw [e]at hz hg
  have:=hg.const hlh (σ:=cD (d:Rat)) (.inr (by rw [yY])) (fun x _ _=>by rw [yY])
  omega
 by_cases R8:∀x,cO f p x↔cO h q x
 ·obtain⟨c1,c2⟩:=key.2 R8
  rw [akh.2 R8]
  have c3:=hgc c2 c1
  refine Z1 (v:=GA f p) (w:=GA h q) (hn:=hi.num) (hd:=(hi.den:Int)) Nx Ny P1 P2 kM kD C8 kL (fun _=>hG) (fun _=>hD) hH (fun _=>rfl) (fun XG=>?_) ⟨_,_,_,_,rfl⟩ ⟨_,_,_,_,rfl⟩
  exact absurd ⟨zl.2 c1,by omega,decide_eq_true c2⟩ XG
 ·have XG:¬(dP (lo.num*(hi.den:Int)) (hi.num*(lo.den:Int))<0∧(0:Int)<(ZX.N (gz f h):Int)-1∧decide (vt (bA (gz f h)) hi<vt (bA (gz f h)) lo)=true):=fun⟨z1,_,z3⟩=>R8 (key.1 ⟨zl.1 z1,of_decide_eq_true z3⟩)
  obtain⟨M,R,hM1,hM2⟩:=JL (u:=u+u') (ad:=p.1.den) (bd:=p.2.den) (cd:=q.1.den) (dd:=q.2.den) I.ch.bz I'.ch.bz (by omega) (by omega) (by omega) (by omega) (Nat.lt_of_lt_of_le (jH (b:=2) (by decide) p.1.num) (Nat.pow_le_pow_right (by decide) a1.n2)) (Nat.lt_of_lt_of_le (jH (b:=2) (by decide) p.2.num) (Nat.pow_le_pow_right (by decide) a2.n2)) (Nat.lt_of_lt_of_le (jH (b:=2) (by decide) q.1.num) (Nat.pow_le_pow_right (by decide) b1.n2)) (Nat.lt_of_lt_of_le (jH (b:=2) (by decide) q.2.num) (Nat.pow_le_pow_right (by decide) b2.n2)) (by omega)
  have zf:=BK I.ch.bz
  have zh:=BK I'.ch.bz
  have hMb:4*(ZX.N f+ZX.N h)*(zs f+zs h+(ZX.N f+ZX.N h)+8)≤4*16*(100000+100000+16+8):=Nat.mul_le_mul (by omega) (by omega)
  obtain⟨J,hJ,iR,hj⟩:=agE a b R8 dC hlq hM1
  obtain⟨D,hD1,B2,g1,g2⟩:=JG a1 a2
  obtain⟨D',axZ,ax0,g3,g4⟩:=JG b1 b2
  have spec:=yN A B g1 g2 g3 g4
  have hV:3*(u+u')+M+2≤1000000000:=by omega
  have sqj:=fun j (hjM:j≤M)=>ane (M:=M) hD1 B2 (spec j).2.2.2.2.1 (spec j).2.2.2.2.2.1 hjM
  have ax1:=fun j (hjM:j≤M)=>ane (M:=M) axZ ax0 (spec j).2.2.2.2.2.2.1 (spec j).2.2.2.2.2.2.2 hjM
  obtain⟨J1,J2,_⟩:=sqj J (by omega)
  obtain⟨J3,J4,_⟩:=ax1 J (by omega)
  have c1:=dB J2.nL J2.dL J3.nL J3.dL (by omega) (aZ (st f h p q J).1.2) (aZ (st f h p q J).2.1) ⟨J2.nL,J2.dL⟩ ⟨J3.nL,J3.dL⟩
  have c2:=dB J4.nL J4.dL J1.nL J1.dL (by omega) (aZ (st f h p q J).2.2) (aZ (st f h p q J).1.1) ⟨J4.nL,J4.dL⟩ ⟨J1.nL,J1.dL⟩
  have PJ:=kU (x:=f.l) J1 J2 hV
  have PJ':=kU (x:=h.l) J3 J4 hV
  obtain⟨s1,s2,s3,s4,_⟩:=spec J
  have hsJ:¬ ∀x,cO f (st f h p q J).1 x↔cO h (st f h p q J).2 x:=fun hh=>R8 fun x=>((s3 x).symm.trans (hh x)).trans (s4 x)
  have both:∀ {z:Rat},(st f h p q J).1.2≤(st f h p q J).1.1→(st f h p q J).2.2≤(st f h p q J).2.1→(st f h p q J).1.1=z→(st f h p q J).2.1=z→False:=fun {z} e1 e2 e3 e4=>hsJ fun x=>by
   have i1:=s1.le
   have i2:=s2.le
   rw [lT (by grind) x,lT (by grind) x,e3,e4]
  have hc:(dP ((st f h p q J).1.2.num*((st f h p q J).2.1.den:Int)) ((st f h p q J).2.1.num*((st f h p q J).1.2.den:Int))≤0∧cu (cO f p) (cO h q) = -1)∨(0<dP ((st f h p q J).1.2.num*((st f h p q J).2.1.den:Int)) ((st f h p q J).2.1.num*((st f h p q J).1.2.den:Int))∧dP ((st f h p q J).2.2.num*((st f h p q J).1.1.den:Int)) ((st f h p q J).1.1.num*((st f h p q J).2.2.den:Int))≤0∧cu (cO f p) (cO h q)=1):=by
   rw [←FV s3 s4]
   by_cases h3:(st f h p q J).1.2≤(st f h p q J).2.1
   ·exact .inl ⟨qI.2 h3,akt (fun s t=>s1.up) jE (fun t=>lo_le s2) h3 hsJ⟩
   ·exact .inr ⟨fV.2 (Rat.not_le.1 h3),qI.2 (iR.resolve_left h3),aku (fun s t=>s2.up) jE (fun t=>lo_le s1) (iR.resolve_left h3) hsJ⟩
  have W:=WN (an:=fun j=>(st f h p q j).1.1.num) (ad:=fun j=>(st f h p q j).1.1.den) (bn:=fun j=>(st f h p q j).1.2.num) (bd:=fun j=>(st f h p q j).1.2.den) (cn:=fun j=>(st f h p q j).2.1.num) (cd:=fun j=>(st f h p q j).2.1.den) (dn:=fun j=>(st f h p q j).2.2.num) (dd:=fun j=>(st f h p q j).2.2.den) R (by omega) (fun j hjJ=>by
   obtain⟨J1,J2,J12⟩:=sqj j (by omega)
   obtain⟨J3,J4,J34⟩:=ax1 j (by omega)
   obtain⟨m1,m2⟩:=not_or.1 (hj j hjJ)
   have c1:=dB J2.nL J2.dL J3.nL J3.dL (by omega) (aZ (st f h p q j).1.2) (aZ (st f h p q j).2.1) ⟨J2.nL,J2.dL⟩ ⟨J3.nL,J3.dL⟩
   have c2:=dB J4.nL J4.dL J1.nL J1.dL (by omega) (aZ (st f h p q j).2.2) (aZ (st f h p q j).1.1) ⟨J4.nL,J4.dL⟩ ⟨J1.nL,J1.dL⟩
   have d1:=JM (J2.LLs (Nat.le_refl _)) (J1.LLs (Nat.le_refl _)) (by omega)
   have d2:=JM (J4.LLs (Nat.le_refl _)) (J3.LLs (Nat.le_refl _)) (by omega)
   have w1:=(agG hD1 B2 (spec j).2.2.2.2.1 (spec j).2.2.2.2.2.1).mono (show u+u'+1+2*(u+u')+j+1≤3*(u+u')+M+2 by omega)
   have w2:=(agG axZ ax0 (spec j).2.2.2.2.2.2.1 (spec j).2.2.2.2.2.2.2).mono (show u+u'+1+2*(u+u')+j+1≤3*(u+u')+M+2 by omega)
   have c3:=dB w1.nL w1.dL w2.nL w2.dL (by omega) (aZ ((st f h p q j).1.2-(st f h p q j).1.1)) (aZ ((st f h p q j).2.2-(st f h p q j).2.1)) ⟨w1.nL,w1.dL⟩ ⟨w2.nL,w2.dL⟩
   have H1:=FX I (by omega) (spec j).1 J1 J2 J12 hV
   have H2:=FX I' (by omega) (spec j).2.1 J3 J4 J34 hV
   refine⟨⟨_,c1,fV.2 (Rat.not_le.1 m1)⟩,⟨_,c2,fV.2 (Rat.not_le.1 m2)⟩,_,_,_,_,_,d1,d2,c3,?_⟩
   have e1:st f h p q (j+1)=if (st f h p q j).2.2-(st f h p q j).2.1≤(st f h p q j).1.2-(st f h p q j).1.1 then(uY f (st f h p q j).1,(st f h p q j).2)else((st f h p q j).1,uY h (st f h p q j).2):=rfl
   by_cases hw:(st f h p q j).2.2-(st f h p q j).2.1≤(st f h p q j).1.2-(st f h p q j).1.1
   ·rw [if_pos hw]at e1
    rw [if_pos (Int.not_lt.1 fun hh=>absurd (fW.1 hh) (Rat.not_lt.2 hw)),e1]
    exact⟨H1,rfl⟩
   ·rw [if_neg hw]at e1
    rw [if_neg (Int.not_le.2 (fW.2 (Rat.not_le.1 hw))),e1]
    exact⟨H2,rfl⟩) hJ c1 c2 PJ PJ' (fun ⟨e1,e2,e3⟩=>both (of_decide_eq_true e1) (of_decide_eq_true e2) (z:=(st f h p q J).2.1) (by
   have i1:=s1.le
   have i4:=of_decide_eq_true e1
   have:=lS.1 e3
   grind) rfl) (fun ⟨e1,e2,e3⟩=>both (of_decide_eq_true e1) (of_decide_eq_true e2) (z:=(st f h p q J).1.1) rfl (by
   have i2:=s2.le
   have i4:=of_decide_eq_true e2
   have:=lS.1 e3
   grind)) hc
  refine Z1 (hn:=hi.num) (hd:=(hi.den:Int)) Nx Ny P1 P2 kM kD C8 kL (fun _=>hG) (fun _=>hD) hH (fun hh=>absurd hh XG) (fun _=>W) ⟨_,_,_,_,rfl⟩ ⟨_,_,_,_,rfl⟩
end Go.Proofs.YtiobceocpabjdaaGreat
namespace Go.Proofs.YtiobceocpabjdaaGreat
open Go Pm
theorem anf(a b:ZX):FE [a,b]=gz a b:=by
 show gz (gz 0 a) b=_
 rw [QW,YW]
theorem ax2(a:ZX):FE [a]=nf a:=by
 show gz 0 a=_
 rw [QW]
theorem agH{C n s:Nat}{a c:ZX}(ha:ZX.N a≤n)(hc:ZX.N c≤n)(h:(s+n+1)*2*4^n≤C):B3 C n s (nf a) (nf c):=by
 unfold B3
 rw [zS,zS]
 have h1:∀k,k≤n→(s+n+1)*2*4^k≤C:=fun k hk=>Nat.le_trans (Nat.mul_le_mul_left _ (Nat.pow_le_pow_right (by decide) hk)) h
 split
 ·refine Nat.le_trans (Nat.mul_le_mul_right _ ?_) (h1 _ ha)
  omega
 ·exact h1 _ hc
structure Eu(s n:Nat):Prop where
 hn:n≤20
 hs:1≤s
 hC:(s+n+1)*2*4^n≤4500000000
theorem Eu.two{s n:Nat}(h:Eu s n){a c:ZX}(ba:BZ s n a)(bc:BZ s n c):aE env.P 142 [Po a.l,Po c.l] (Po (gz a c).l):=Y4 ba bc (agH ba.N bc.N h.hC) h.hn (Nat.le_refl _)
theorem Eu.qg{s n:Nat}(h:Eu s n){a c:ZX}(ba:BZ s n a)(bc:BZ s n c):aE env.P 203 [PI a.l,PI c.l] (PI (gz a c).l):=I3 ba bc (agH ba.N bc.N h.hC) h.hn (Nat.le_refl _) h.hs
theorem akv(s n:Nat):BZ s n 0:=⟨Nat.zero_le _,fun c hc=>by cases hc⟩
theorem Eu.aj2{s n:Nat}(h:Eu s n){a c:ZX}(ba:BZ s n a)(bc:BZ s n c):aE env.P 194 [.sl [[Po a.l],[Po c.l]]] (Po (gz a c).l):=by
 have:=ajQ [a,c] (by simp) (fun i hi=>by
  match i,hi with
  | 0,_=>exact h.two (akv s n) ba
  | 1,_ =>
   have e:FE ([a,c].take 1)=nf a:=ax2 a
   rw [e]
   have:=h.two ba.nf bc
   rw [show FE ([a,c].take (1+1))=gz (nf a) c from by rw [YW];exact anf a c]
   exact this)
 rw [anf]at this
 exact this
end Go.Proofs.YtiobceocpabjdaaGreat
namespace Go.Proofs.YtiobceocpabjdaaGreat
open Go Pm
open ZX hiding N W
theorem CU{s n:Nat}{f:ZX}{p:Rat × Rat}(I:oQ s n f)(hs:s≤100000)(n8:ZX.N f≤8)(hp:p∈JF s n f):AN s n (uu s) f p∧AN s n (uu s) f (ex f p):=by
 obtain⟨a1,a2,a3,a4,a5,a6⟩:=I.ivs.mem _ hp
 obtain⟨_,_,b1,b2,b3⟩:=I.root hp
 have hb:=MW I.nf (R5 I.ch.bz)
 have h1:Ab p.1 (2^(zs f+1)):=by obtain⟨x,y⟩:=hb;exact⟨by grind,by grind⟩
 have h2:Ab p.2 (2^(zs f+1)):=by obtain⟨x,y⟩:=hb;exact⟨by grind,by grind⟩
 have hu:uu s≤30000000:=by unfold uu;omega
 refine⟨⟨I,hs,⟨I.S, .inr ⟨a4,a6⟩⟩,a1,a2,hu,n8,fun _=>h1,fun _=>h2⟩,⟨I,hs,b1,b2,b3,hu,n8,fun _=>?_,fun _=>?_⟩⟩
 ·unfold ex
  split
  ·exact h2
  ·exact h1
 ·unfold ex
  split<;>exact h2
theorem Z2(t:Rat):Nf (dR t):=by
 have hd:=t.den_pos
 refine⟨ZX.aF.2 (by rw [lR];decide),?_,?_⟩
 ·rw [wN]
  unfold bO
  simp only [List.foldl_cons,List.foldl_nil,Nat.gcd_zero_left,Int.natAbs_neg,Int.natAbs_natCast]
  exact t.reduced
 ·rw [wN]
  show 0<nth [-t.num,(t.den:Int)] 1
  show(0:Int)<(t.den:Int)
  omega
theorem agI(t:Rat):uX (dR t) (bX (dR t)):=fun d _ h2=>by
 rw [agp]at h2
 have hd:=t.den_pos
 have:=h2.mF (ZX.pM (show (t.den:Int)≠0 by omega))
 rwa [ZX.N_K (show (t.den:Int)≠0 by omega)]at this
theorem F0{t:Rat}{s n:Nat}(sb:t.num.natAbs≤30∧((t.den:Int)).natAbs≤6)(hs:5≤s)(hn:2≤n)(h1:n≤20)(h2:n+1≤2^s)(h3:(qb s n+n+6)*4^n≤4500000000)(h4:s≤5000000):oQ s n (dR t):=by
 have bz:BZ s n (dR t):=⟨by show ZX.N (dR t)≤_;rw [lR];exact hn,fun c hc=>by
  rw [wN]at hc
  simp only [List.mem_cons,List.not_mem_nil,or_false]at hc
  refine Nat.le_trans (oH (k:=5) ?_) hs
  rcases hc with rfl | rfl<;>omega⟩
 exact⟨⟨bz,h1,h2,h3⟩,by omega,Z2 t,MT (Z2 t) (agI t),h4⟩
theorem ang{s n:Nat}{f:ZX}{t:Rat}(I:oQ s n f)(hs:s≤100000)(n8:ZX.N f≤8)(h0:e t f=0){u:Nat}(q:SQ u t)(hu:u≤30000000):AN s n u f (t,t)∧Ex f (t,t):=
 ⟨⟨I,hs,⟨I.S, .inl ⟨rfl,h0⟩⟩,q,q,hu,n8,fun h=>absurd h Rat.lt_irrefl,fun h=>absurd h Rat.lt_irrefl⟩,fun _=>rfl⟩
theorem tQ(t:Rat):e t (dR t)=0:=by rw [MA];grind
structure SzC(s n S k:Nat):Prop where
 h1:(qb (qb s n) n+n+6)*4^n≤4500000000
 h2:qb s n≤1000000
 hE:(max s (S+5*k)+max n k+1)*2*4^max n k≤4500000000
 hL:(qb (S+5*k) k+k+6)*4^k≤4500000000
 hk:1≤k
 h8:k≤8
 hS:k+1≤2^(S+5*k)
 hS2:S+5*k≤100000
theorem SzC.lay{s n S k:Nat}(z:SzC s n S k){q:ZX}(bq:BZ (S+5*k) k q):rZ (S+5*k) k q:=⟨bq,by have:=z.h8;omega,z.hS,z.hL⟩
theorem SzC.s1{s n S k:Nat}(z:SzC s n S k):1≤S+5*k:=by have:=z.hk;omega
theorem SzC.eu{s n S k:Nat}(z:SzC s n S k)(hn:n≤20):Eu (max s (S+5*k)) (max n k):=⟨by have:=z.h8;omega,by have:=z.s1;omega,z.hE⟩
section
variable {s n u S k:Nat} {f:ZX} {p:Rat × Rat} (a:AN s n u f p) (z:SzC s n S k)
include a z
theorem AN.sgC{q:ZX}(bq:BZ (S+5*k) k q):SgC (S+5*k) k f q:=by
 have I:=a.I
 have L:=z.lay bq
 have E:=z.eu I.ch.hn
 refine⟨bq,z.hS2,by have:=z.h8;omega,by have:=bq.N;have:=z.h8;omega,E.aj2 (bq.mono (by omega) (by omega)) (I.ch.bz.mono (by omega) (by omega)),fun _=>⟨_,_,WQ I q z.h1 (by have:=z.h2;omega),z.h2⟩,fun h0=>⟨_,_,L.ch h0 z.hk⟩,fun h0=>L5 (wE L) (L.ch h0 z.hk) (FJ h0).1⟩
theorem AN.qgC{q:ZX}(bq:BZ (S+5*k) k q):QgC (S+5*k) k f q:=by
 have I:=a.I
 have L:=z.lay bq
 have E:=z.eu I.ch.hn
 refine⟨bq,z.hS2,by have:=z.h8;omega,by have:=bq.N;have:=z.h8;omega,E.qg (bq.mono (by omega) (by omega)) (I.ch.bz.mono (by omega) (by omega)),fun _=>⟨_,_,WQ I q z.h1 (by have:=z.h2;omega)⟩,fun h0=>⟨_,_,L.ch h0 z.hk⟩,fun h0=>wL L h0 z.hk z.s1⟩
end
theorem AN.sg0{s n u:Nat}{f:ZX}{p:Rat × Rat}(a:AN s n u f p):ZW (cO f p) 0=0:=(show SR (cO f p) 0 0 from .inl ⟨rfl,yL (cY a.A)⟩).eq (cY a.A)
noncomputable def afU(U:Rat→Prop)(q:ZX):Int:=NL (ZW U) (ZX.N q) q
section
variable {s n u S k:Nat} {f:ZX} {p:Rat × Rat} (a:AN s n u f p) (z:SzC s n S k) {q:ZX} (bq:BZ S k q)
include a z bq
theorem AN.at:aE env.P 185 [Po q.l,GA f p] (.int .i64 (afU (cO f p) q)):=
 akp (ZW (cO f p)) a.sg0 bq (by have:=z.h8;omega) (by have:=z.hS2;omega) fun r s' yU br=>a.sg (a.sgC z (br.mono yU (Nat.le_refl _)))
theorem AN.ard(hx:Ex f p):aE env.P 115 [PI q.l,QA f (bA f) p] (.int .i64 (afU (cO f p) q)):=
 WL (ZW (cO f p)) a.sg0 bq (by have:=z.h8;omega) (by have:=z.hS2;omega) fun r s' yU br=>a.qsg hx (a.qgC z (br.mono yU (Nat.le_refl _)))
end
theorem agJ{x:List Int}{c:List ZX}{an ad bn bd:Int}(hT:aE env.P 100 [PI x] (Po x))(h1:aE env.P 23 [R2 an ad] (T2 an ad))(h2:aE env.P 23 [R2 bn bd] (T2 bn bd)):aE env.P 29 [.ag (nD x c an ad bn bd)] (.ag (G9 x an ad bn bd)):=by
 simp only [nD,G9]
 refine cB [(0, .ag (nD x c an ad bn bd))] Tryz.func29 ?_
 refine aA [1,2] ?_
 refine nH ?_
 refine cM hT ?_
 refine cM h1 ?_
 refine aC h2 ?_
 (try (refine bE (of_decide_eq_true (by kernel_rfl)) ?_));(try simp (maxSteps:=4000000) (disch:=omega) [gw]);(repeat rw [if_pos (by kernel_rfl)]);(try simp (maxSteps:=4000000) (disch:=omega) [gw])
 refine bI [2] ?_
 exact bZ
theorem AN.toA{s n u:Nat}{f:ZX}{p:Rat × Rat}(a:AN s n u f p):aE env.P 29 [QA f (bA f) p] (GA f p):=by
 have hu:=a.hu
 have h1:=a.q1.tor (show u≤137438953472 by omega)
 have h2:=a.q2.tor (show u≤137438953472 by omega)
 rw [dJ]at h1 h2
 exact agJ (L4 a.I.ch.bz (by have:=a.hs;omega) (by have:=a.I.ch.hn;omega)) h1 h2
theorem JN{x:List Int}{an ad bn bd:Int}(h:aE env.P 192 [.ag (G9 x an ad bn bd)] (.ag (G9 x an ad bn bd))):aE env.P 198 [.ag (G9 x an ad bn bd)] (.ag (G9 x an ad bn bd)):=by
 simp only [G9]at *
 refine cB [(0, .ag (G9 x an ad bn bd))] Tryz.func198 ?_
 refine aA [1,2] ?_
 refine aL [2] h ?_
 exact bZ
theorem acg:aE env.P 112 [.sl []] (.dX [agF, .bool false]):=by
 refine cB [(0, .sl [])] Tryz.func112 ?_
 refine aA [0,2] ?_
 refine aK [0,2,9] ?_
 refine bH ?_ ?_<;>intro h
 ·refine aA [2,3] ?_
  exact bZ
 ·simp at h
theorem F2{x y:List Int}{f:ZX}{L:List (Rat × Rat)}{an ad bn bd:Int}{k:Nat}(hT:aE env.P 255 [Po x] (aH (ga f) L))(hl:L.length<1000000)(hk:k≤L.length)(hb:∀i,i<k → ∃z:Int,aE env.P 110 [GA f (nth L i), .ag (G9 y an ad bn bd)] (.int .i64 z)∧¬0<z)(hc:k<L.length → ∃z:Int,aE env.P 110 [GA f (nth L k), .ag (G9 y an ad bn bd)] (.int .i64 z)∧0<z) :
  aE env.P 206 [Po x, .ag (G9 y an ad bn bd)] (.dX [if k<L.length then GA f (nth L k)else agF, .bool (decide (k<L.length))]):=by
 simp only [G9]at *
 refine cB [(0,Po x),(1, .ag (G9 y an ad bn bd))] Tryz.func206 ?_
 refine aA [0,3,4] ?_
 refine W.seq ?_
 refine aL [3,4,9,10,11] hT ?_
 refine W.block ?_
 refine W.aY (fun m σ=>∃(i v3 v4:Nat) (rows:Pm.Rows) (clk:Nat),σ=⟨fa [(3, .ptr 3 v3 0 0),(4, .ptr 4 v4 0 0),(9,aH (ga f) L),(10, .int .i64 L.length),(11, .int .i64 i)],rows,clk⟩∧rows 3=some ⟨v3,54,9,[G9 y an ad bn bd]⟩∧rows 4=some ⟨v4,54,9,[[.nil, .bool false, .nil, .bool false, .nil, .bool false, .nil, .bool false, .nil]]⟩∧i+m=k) k ?_ ?_
 ·exact⟨_, .refl,0,_,_,_,_,rfl,by simp,by simp,by omega⟩
 rintro m _ ⟨i,v3,v4,rows,clk,rfl,bQ,dF,him⟩
 simp only [G9]at bQ
 refine bT [3,4,9,10,11,12] ?_
 refine bH ?_ ?_<;>intro h
 ·have hi:i<L.length:=by simp at h;omega
  refine j7 ?_
  refine W.sr ?_
  simp (disch:=omega) [gw,hi]
  refine bI [3,4,7,9,10,11] ?_
  by_cases uA:i<k
  ·obtain⟨z,hz,oT⟩:=hb i uA
   simp only [GA,ga,List.cons_append,List.nil_append]at hz
   refine W.sr ?_
   simp (disch:=omega) [gw,bQ]
   refine cN [3,4,7,9,10,11,18] hz ?_
   refine bH ?_ ?_<;>intro h
   ·exfalso;simp at h;exact oT h
   refine W.skip ?_
   refine W.bY (fun K hK=>?_);simp (disch:=omega) [gw]
   refine hK _ ⟨m-1,_,aB _ [3,4,9,10,11],by omega,i+1,_,_,_,_,rfl,by simp [bQ],by simp [dF],by omega⟩
  ·have aDf:i=k:=by omega
   subst aDf
   obtain⟨z,hz,oT⟩:=hc hi
   simp only [GA,ga,List.cons_append,List.nil_append]at hz
   rw [if_pos hi,decide_eq_true hi]
   refine W.sr ?_
   simp (disch:=omega) [gw,bQ]
   refine cN [3,4,7,9,10,11,18] hz ?_
   refine bH ?_ ?_<;>intro h
   ·refine W.sr ?_
    simp (disch:=omega) [gw,dF]
    refine bI [4,5] ?_
    exact bZ
   ·exfalso;simp at h;omega
 ·have hi:i=L.length:=by simp at h;omega
  have hkL:k=L.length:=by omega
  rw [if_neg (by omega),decide_eq_false (by omega)]
  refine eW ?_
  refine W.sr ?_
  simp (disch:=omega) [gw,dF]
  refine bI [4,5] ?_
  exact bZ
def nxo:Option (ZX × Rat × Rat)→PV
 | none => .dX [agF, .bool false]
 | some e => .dX [.ag (gg e), .bool true]
structure CpC(s n s' n':Nat):Prop where
 hE:(max s s'+max n n'+1)*2*4^max n n'≤4500000000
 h1:(qb (qb s n) n+n+6)*4^n≤4500000000
 h2:qb s n≤1000000
 h3:(qb (qb s' n') n'+n'+6)*4^n'≤4500000000
 h4:qb s' n'≤1000000
 hS:max s s'≤20000
 h20:max n n'≤20
section
variable {s n u s' n' u':Nat} {f h:ZX} {p q:Rat × Rat} (a:AN s n u f p) (b:AN s' n' u' h q) (c:CpC s n s' n')
include a b c
theorem AN.arf:aE env.P 110 [GA f p,GA h q] (.int .i64 (cu (cO f p) (cO h q))):=
 have E:Eu (max s s') (max n n'):=⟨c.h20,by have:=a.I.s1;omega,c.hE⟩
 a.cmp b (E.aj2 (a.I.ch.bz.mono (by omega) (by omega)) (b.I.ch.bz.mono (by omega) (by omega))) fun _=>⟨_,_,WQ b.I f c.h3 (by have:=c.h4;omega),c.h4⟩
end
def nxt(f:ZX)(L:List (Rat × Rat))(k:Nat):Option (ZX × Rat × Rat):=if k<L.length then some (f,nth L k)else none
theorem cp2:CpC (qb 18 6) 6 (qb 18 6) 6:=⟨by decide,by decide,by decide,by decide,by decide,by decide,by decide⟩
section
variable {U V:Rat→Prop} (hU:∀s t,U s→s≤t→U t) (hV:∀s t,V s→s≤t→V t)
include hU hV
theorem WR:0<cu U V ↔ ∃t,V t∧¬U t:=by
 unfold cu
 split
 ·rename_i h
  obtain⟨t1,h1,h2⟩:=h
  refine⟨fun h=>absurd h (by decide),fun⟨t2,h3,h4⟩=>?_⟩
  by_cases h5:t1≤t2
  ·exact absurd (hU _ _ h1 h5) h4
  ·exact absurd (hV _ _ h3 (by grind)) h2
 ·split
  ·rename_i h;exact⟨fun _=>h,fun _=>by decide⟩
  ·rename_i h;exact⟨fun h1=>absurd h1 (by decide),fun h1=>absurd h1 h⟩
end
structure Idx(f:ZX)(L:List (Rat × Rat))(U:Rat→Prop)(k:Nat):Prop where
 le:k≤L.length
 lt:∀i,i<k→¬0<cu (cO f (nth L i)) U
 gt:k<L.length→0<cu (cO f (nth L k)) U
theorem Idx.mono{f:ZX}{L:List (Rat × Rat)}{U U':Rat→Prop}{k k':Nat}(hf:∀i,i<L.length → ∀s t,cO f (nth L i) s→s≤t→cO f (nth L i) t)(hU:∀s t,U s→s≤t→U t)(hU':∀s t,U' s→s≤t→U' t)(h:Idx f L U k)(h':Idx f L U' k')(hs:∀t,U' t→U t):k≤k':=Nat.not_lt.1 fun hk=>by
 have hl:k'<L.length:=by have:=h.le;omega
 obtain⟨t,h1,h2⟩:=(WR (hf _ hl) hU').1 (h'.gt hl)
 exact h.lt k' hk ((WR (hf _ hl) hU).2 ⟨t,hs t h1,h2⟩)
theorem akx{n d:Int}(hM:aE env.P 90 [T2 n d, .sl []] (T2 n d))(hg:aE env.P 148 [I n] (I (-n))):aE env.P 113 [T2 n d] (.ag (G9 [-n,d] n d n d)):=by
 simp only [G9]
 refine cB [(0,T2 n d)] Tryz.func113 ?_
 refine aA [1,2] ?_
 refine aL [1,2] hM ?_
 refine nH ?_
 refine cM hg ?_
 refine cN [2] hM ?_
 refine W.ret ?_
 simp [go]
 rw [show Po [-n,d] = .sl [ie (-n),ie d]from rfl]
 simp [ie]
def unx:PV→PV
 | .jA l => .sl l
 | p=>p
theorem aky{c:Cx}{p:PV}{v:Value}(h:aI c p v):aI c (unx p) v:=by
 cases p with
 | jA l=>exact XS h
 | _=>exact h
theorem fY.jA{P:Program}{g:FuncId}{args:List PV}{e:TypeId}{n:Nat}{core eI:List PV}{r:PV}(h:fY P g (args.map unx) e n core eI r):fY P g args e n core eI r:=by
 intro id ver rows clk h1 h2 h3
 obtain⟨h4,h5⟩:=h id ver rows clk h1 h2 h3
 refine⟨h4,fun w0 S0 c vs G hI hr gE fU hG=>h5 w0 S0 c vs G hI hr gE ?_ hG⟩
 refine bF.cZ (by simpa using fU.length) fun i a b ha hb=>?_
 cases i with
 | zero =>
  simp at ha
  subst ha
  obtain⟨b',kY,uU⟩:=fU.get (k:=0) (a:=.ptr id ver 0 0) (by simp)
  rw [hb]at kY;cases kY
  exact uU
 | succ i =>
  simp only [List.getElem?_cons_succ,List.getElem?_map,Option.map_eq_some_iff]at ha
  obtain⟨a',HE,rfl⟩:=ha
  obtain⟨b',kY,uU⟩:=fU.get (k:=i+1) (a:=a') (by simpa using HE)
  rw [hb]at kY;cases kY
  exact aky uU
theorem z9:([.bool false, .nil, .bool false, .nil, .bool false, .nil, .bool false, .nil, .bool false, .nil, .nil, .int .i64 0]:List PV)=co false A9.no true [] 0:=rfl
theorem MZ{n1 d1 n2 d2 an ad bn bd:Int}{x y:List Int}{C1 C2:List ZX}{t r:A9}{L:List WE}
  (h1:aE env.P 12 [.int .i64 0, .int .i64 1] (R2 n1 d1)) (h2:aE env.P 41 [R2 n1 d1] (AP x C1 n1 d1)) (h3:aE env.P 29 [AP x C1 n1 d1] (.ag (b9 t)))
  (h4:aE env.P 97 [.sl [[.int .i64 (-1)],[.int .i64 1]]] (PI [-1,1])) (h5:aE env.P 100 [PI [-1,1]] (Po [-1,1]))
  (hB:fY env.P 42 [.ag (b9 t),aH gP [⟨⟨0,0,0,0,0⟩,false,[-1,1], -1⟩]] 95 12 (co false A9.no true [] 0) (co true t false L 0) (.dX []))
  {M:List WE} (hX:fY env.P 51 [] 95 12 (co true t false L 0) (co true t false M 0) (.dX [.ag (b9 r), .bool true]))
  (h6:aE env.P 20 [.ag (b9 r)] (.ag (nD y C2 an ad bn bd))) (h7:aE env.P 12 [.int .i64 1, .int .i64 1] (R2 n2 d2)) (h8:aE env.P 19 [.ag (nD y C2 an ad bn bd),R2 n2 d2] (.int .i64 0)) :
  aE env.P 45 [] (.bool true):=by
 have hp0:=iP false A9.no true [] 0
 have hp1:=iP true t false L 0
 have SP:=iP true t false M 0
 have hE:fY env.P 44 [] 95 12 (co true t false M 0) (co true t false M 0) (.int .i64 0):=EW
 have hq:aH gP [⟨⟨0,0,0,0,0⟩,false,[-1,1], -1⟩] = .sl [[.int .i64 0, .int .i64 0, .int .i64 0, .int .i64 0, .int .i64 0,Po [-1,1], .int .i64 (-1)]]:=rfl
 rw [hq]at hB
 simp only [fM,nD,A9.no]at *
 refine cB [] Tryz.func45 ?_
 refine aA [] ?_
 refine aA [1] ?_
 refine jG ?_
 refine cM h1 ?_
 refine cM h2 ?_
 refine cM h3 ?_
 refine cM h4 ?_
 refine cM h5 ?_
 refine bE (fun p hp=>by rcases hp with (h|h)|h<;>subst h<;>simp) ?_
 simp (disch:=omega) [gw]
 refine iZ (fY.jA (args:=[.ag [.sl t.y, .bool t.s, .sl t.d, .bool t.s', .sl t.d', .bool t.u, .sl t.e, .bool t.u', .sl t.e'], .jA [[.int .i64 0, .int .i64 0, .int .i64 0, .int .i64 0, .int .i64 0,Po [-1,1], .int .i64 (-1)]]]) hB) rfl rfl hp0 hp1 (by simp [z9,A9.no]) ?_
 simp (disch:=omega) [gw]
 refine bI [1] ?_
 refine jG ?_
 refine iZ hX rfl rfl hp1 SP (by simp) ?_
 simp (disch:=omega) [gw]
 refine bI [1,2,3] ?_
 refine jG ?_
 refine cM h6 ?_
 refine cM h7 ?_
 refine cM h8 ?_
 refine iZ hE rfl rfl SP SP (by simp) ?_
 simp (disch:=omega) [gw]
 refine bI [0] ?_
 exact bZ
theorem ach{q:Rat}{n:Nat}(h:q.num.natAbs≤n):Ab q (n:Rat):=by
 have hd:(1:Rat)≤((q.den:Int):Rat):=eV (by have:=q.den_pos;omega)
 have hq:((q.num:Int):Rat)=q*((q.den:Int):Rat):=by
  have h1:q=(q.num:Rat)/((q.den:Int):Rat):=by
   rw [←Rat.divInt_eq_div,Rat.num_divInt_den]
  have h2:=Rat.div_mul_cancel (a:=(q.num:Rat)) (b:=((q.den:Int):Rat)) (by grind)
  rw [←h1]at h2
  exact h2.symm
 have h3:((q.num:Int):Rat)≤(((n:Int):Int):Rat):=Rat.intCast_le_intCast.2 (by omega)
 have h4:(((-(n:Int)):Int):Rat)≤((q.num:Int):Rat):=Rat.intCast_le_intCast.2 (by omega)
 rw [Rat.intCast_neg]at h4
 have h5:(((n:Int):Int):Rat)=(n:Rat):=Rat.intCast_natCast n
 rw [h5]at h3 h4
 have h6:(0:Rat)≤(n:Rat):=Rat.natCast_nonneg
 generalize ((q.num:Int):Rat)=u at *
 generalize ((q.den:Int):Rat)=v at *
 generalize (n:Rat)=m at *
 have h7:=Rat.mul_le_mul_of_nonneg_left hd h6
 constructor
 ·refine Rat.not_lt.1 fun h=>?_
  have:=Rat.mul_le_mul_of_nonneg_left hd (show 0 ≤ -m-q by grind)
  grind
 ·refine Rat.not_lt.1 fun h=>?_
  have:=Rat.mul_le_mul_of_nonneg_left hd (show 0≤q-m by grind)
  grind
theorem CV(t:Rat):dR t≠0:=(RK t).ne
theorem Bg.dR{a b r:Rat}(fQ:a≤b)(h:r<a∨b<r):Bg a b (Go.Proofs.YtiobceocpabjdaaGreat.dR r):=by
 have e1:=fun s=>MA s r
 unfold Go.Proofs.YtiobceocpabjdaaGreat.dR at e1 ⊢
 have hd:(0:Rat)<((r.den:Int):Rat):=Rat.intCast_pos.2 (by have:=r.den_pos;omega)
 simp only [I8]at e1
 refine Bg.lin ?_
 rw [e1 a,e1 b]
 rcases h with h | h
 ·exact .inl ⟨Rat.mul_pos hd (by grind),Rat.mul_pos hd (by grind)⟩
 ·right
  have:=Rat.mul_pos hd (show 0<r-a by grind)
  have:=Rat.mul_pos hd (show 0<r-b by grind)
  exact⟨by grind,by grind⟩
structure Kz(T:List Rat)(p:ZX):Prop where
 NG:T.Pairwise (· < ·)
 ne:p≠0
 hN:ZX.N p=T.length+1
 hn:n1 p≤24^T.length
 rt:∀r∈T,e r p=0
 bg:∀a b,a≤b→(∀r∈T,r<a∨b<r)→Bg a b p
 rng:∀r∈T,r.num.natAbs≤20∧r.den≤3
 mu1:∀q,pN q→mu q p≤1
theorem Kz.nil:Kz [] (of [1]) where
 NG:=.nil
 ne:=ZX.aF.2 (by decide)
 hN:=by decide
 hn:=by decide
 rt:=fun _ h=>by cases h
 bg:=fun _ _ _ _=>Bg.K (c:=1) (by decide)
 rng:=fun _ h=>by cases h
 mu1:=fun q hq=>by
  show mu q (1:ZX)≤1
  rw [LO hq];decide
theorem aci{r:Rat}(h:r.num.natAbs≤20∧r.den≤3):n1 (dR r)≤24:=by
 unfold n1
 rw [wN]
 simp only [l1,List.map_cons,List.map_nil,List.sum_cons,List.sum_nil]
 omega
theorem akz{q:ZX}(hq:pN q)(r:Rat):mu q (dR r)≤1 ∧ ∀p:ZX,p≠0→e r p≠0→1≤mu q (dR r)→mu q p=0:=by
 have l0:=CV r
 refine⟨Nat.not_lt.1 fun h=>?_,fun p hp he h1=>?_⟩
 ·have h1:=(jU hq l0).1 (show 2≤mu q (dR r)by omega)
  have h2:=h1.mF l0
  have h3:=afm hq 2
  rw [lR]at h2
  omega
 ·refine Nat.eq_zero_of_not_pos fun h2=>he ?_
  have e1:q^1=q:=by rw [pow_succ',eQ];grind
  have d1:=(jU hq l0).1 h1
  have d2:=(jU hq hp).1 h2
  rw [e1]at d1 d2
  have hN:ZX.N q=2:=by
   have:=d1.mF l0
   rw [lR]at this
   have:=hq.deg
   omega
  obtain⟨c,hc,s,hs⟩:=d1
  have s0:s≠0:=fun h=>by
   rw [h]at hs
   exact ZX.mE (ZX.pM hc) l0 (by rw [hs];grind)
  have hNs:ZX.N s=1:=by
   have:=congrArg ZX.N hs
   rw [ZX.jT (ZX.pM hc) l0,ZX.jT s0 hq.ne,hN,lR,ZX.N_K hc]at this
   omega
  have h3:e r s≠0:=fun h=>by
   have:=(MB.1 h).mF s0
   rw [lR]at this
   omega
  have h4:e r q=0:=by
   have:=congrArg (e r) hs
   rw [i7,i7,tQ,Rat.mul_zero]at this
   rcases Rat.mul_eq_zero.1 this.symm with h | h
   ·exact absurd h h3
   ·exact h
  obtain⟨c',GI,u,hu⟩:=d2
  have:=congrArg (e r) hu
  rw [i7,i7,h4,Rat.mul_zero,yY]at this
  rcases Rat.mul_eq_zero.1 this with h | h
  ·exact absurd (by exact_mod_cast h) GI
  ·exact h
theorem Kz.ins{T:List Rat}{p:ZX}(K:Kz T p){r:Rat}(hr:r.num.natAbs≤20∧r.den≤3){k:Nat}(h1:∀x∈T.take k,x<r)(h2:∀x∈T.drop k,r<x):Kz (T.take k++r::T.drop k) (p*dR r):=by
 have pY:∀x,x∈T.take k++r::T.drop k↔x=r∨x∈T:=fun x=>by
  simp only [List.mem_append,List.mem_cons]
  constructor
  ·rintro(h | h | h)
   ·exact .inr (List.mem_of_mem_take h)
   ·exact .inl h
   ·exact .inr (List.mem_of_mem_drop h)
  ·rintro(h | h)
   ·exact .inr (.inl h)
   ·rw [←List.take_append_drop k T]at h
    rcases List.mem_append.1 h with h | h
    ·exact .inl h
    ·exact .inr (.inr h)
 have hlen:(T.take k++r::T.drop k).length=T.length+1:=by
  have:=congrArg List.length (List.take_append_drop k T)
  simp only [List.length_append,List.length_cons]at this ⊢
  omega
 refine⟨?_,ZX.mE K.ne (CV r),?_,?_,fun x hx=>?_,fun a b fQ h=>?_,fun x hx=>?_,fun q hq=>?_⟩
 ·have hs:=K.NG
  rw [←List.take_append_drop k T,List.pairwise_append]at hs
  obtain⟨s1,s2,s3⟩:=hs
  rw [List.pairwise_append]
  refine⟨s1,List.pairwise_cons.2 ⟨h2,s2⟩,fun a ha b hb=>?_⟩
  rcases List.mem_cons.1 hb with rfl | hb
  ·exact h1 a ha
  ·exact s3 a ha b hb
 ·rw [ZX.jT K.ne (CV r),K.hN,lR,hlen]
  omega
 ·rw [hlen,Nat.pow_succ]
  exact Nat.le_trans (MO _ _) (Nat.mul_le_mul K.hn (aci hr))
 ·rw [i7]
  rcases(pY x).1 hx with rfl | hx
  ·rw [MA];grind
  ·rw [K.rt x hx,Rat.zero_mul]
 ·exact(K.bg a b fQ fun x hx=>h x ((pY x).2 (.inr hx))).mul (Bg.dR fQ (h r ((pY r).2 (.inl rfl))))
 ·rcases(pY x).1 hx with rfl | hx
  ·exact hr
  ·exact K.rng x hx
 ·obtain⟨m1,m2⟩:=akz hq r
  rw [tC hq K.ne (CV r)]
  have h3:=K.mu1 q hq
  have he:e r p≠0:=fun h0=>by
   obtain⟨η,h4,h5⟩:=K.bg r r Rat.le_refl fun x hx=>by
    rw [←List.take_append_drop k T]at hx
    rcases List.mem_append.1 hx with hx | hx
    ·exact .inl (h1 x hx)
    ·exact .inr (h2 x hx)
   have:=h5 r Rat.le_refl Rat.le_refl
   rw [h0]at this
   unfold kX at this
   rcases this with h | h<;>grind
  rcases Nat.eq_zero_or_pos (mu q (dR r))with h4 | h4
  ·omega
  ·have:=m2 p K.ne he h4
   omega
theorem Kz.oz{T:List Rat}{p:ZX}(K:Kz T p):Go.Proofs.YtiobceocpabjdaaGreat.oz (nf p)=Go.Proofs.YtiobceocpabjdaaGreat.sq p:=by
 refine ago (afu (jV K.ne)) (lP K.ne).1 fun q hq=>?_
 rw [amL (jV K.ne) hq,YU hq K.ne,(lP K.ne).2 q hq]
 have:=K.mu1 q hq
 omega
theorem p24{k:Nat}(h:k≤4):24^k≤331776:=by
 have:=Nat.pow_le_pow_right (show 0<24 by decide) h
 exact Nat.le_trans this (by decide)
theorem Kz.lay{T:List Rat}{p:ZX}(K:Kz T p)(h:T.length≤4):rZ 19 5 p:=by
 have h1:=K.hn
 have h2:=p24 h
 have h3:=K.hN
 have e19:(2:Nat)^19=524288:=by decide
 exact⟨BZ.am3 (by omega) (by omega),by decide,by decide,by decide⟩
theorem Kz.iso{T:List Rat}{p:ZX}(K:Kz T p)(h:T.length≤4):oQ (qb 19 5) 5 (sq p):=aq4 (K.lay h) K.ne (by decide) (by decide) (by decide)
theorem Kz.count{T:List Rat}{p:ZX}(K:Kz T p)(h:T.length≤4){a b:Rat}(fQ:a<b):vt (bA (sq p)) a=vt (bA (sq p)) b+(T.countP fun r=>decide (a<r∧r≤b)):=by
 have h0:=K.ne
 have hG:=(K.lay h).L9 h0 (by decide)
 refine hG.count (K.NG.imp fun h=>Rat.ne_of_lt h) (fun r hr=>(ZK h0).2 (K.rt r hr)) (fun a b fQ hr=>?_) fQ
 have key:∀a,a<b→(∀r∈T,r<a∨b<r)→vt (bA (sq p)) a=vt (bA (sq p)) b:=fun a fQ h=>hG.bg ((K.bg a b (Rat.le_of_lt fQ) h).dv (rF h0)) fQ
 by_cases h1:e a (sq p)=0
 ·obtain⟨a',q1,q2,q3⟩:=hG.abL fQ h1
  rw [q3]
  rcases Rat.le_iff_lt_or_eq.1 q2 with h2 | rfl
  ·exact key a' h2 fun r uU=>by
    by_cases h3:a<r
    ·exact .inr (hr r uU h3)
    ·left;grind
  ·rfl
 ·refine key a fQ fun r uU=>?_
  by_cases h3:a<r
  ·exact .inr (hr r uU h3)
  ·left
   refine Rat.lt_of_le_of_ne (Rat.not_lt.1 h3) fun h4=>h1 ?_
   rw [←h4]
   exact(ZK h0).2 (K.rt r uU)
theorem Kz.range{T:List Rat}{p:ZX}(K:Kz T p):∀r∈T, -20≤r∧r≤20:=fun r hr=>ach (K.rng r hr).1
def M0(T:List Rat)(t:Rat):Nat:=T.countP fun r=>decide (r≤t)
theorem arh{T:List Rat}{t:Rat}:M0 T t≤T.length:=List.countP_le_length
theorem Kz.level{T:List Rat}{p:ZX}(K:Kz T p)(h:T.length≤4):(∀t,vt (bA (sq p)) t+M0 T t=vt (bA (sq p)) (-iS (sq p).l))∧vt (bA (sq p)) (iS (sq p).l)+T.length=vt (bA (sq p)) (-iS (sq p).l):=by
 have I:=K.iso h
 have hr:=K.range
 have c1:∀t:Rat, -100<t→vt (bA (sq p)) (-100)=vt (bA (sq p)) t+M0 T t:=fun t ht=>by
  rw [K.count h ht]
  congr 1
  refine List.countP_congr fun r uU=>?_
  have:=hr r uU
  simp only [decide_eq_true_eq]
  exact⟨fun q=>q.2,fun q=>⟨by grind,q⟩⟩
 have c2:=c1 100 (by decide)
 have e2:M0 T 100=T.length:=by
  unfold M0
  rw [List.countP_eq_length]
  intro r uU
  have:=hr r uU
  simp only [decide_eq_true_eq]
  grind
 have c3:=K.count h I.ZP
 have c4:(T.countP fun r=>decide (-iS (sq p).l<r∧r≤iS (sq p).l))≤T.length:=List.countP_le_length
 have t1:=I.anc (-100)
 have t2:=I.axY 100
 have e3:vt (bA (sq p)) (-100)=vt (bA (sq p)) (-iS (sq p).l):=by omega
 refine⟨fun t=>?_,by omega⟩
 by_cases ht : -100<t
 ·rw [←e3,c1 t ht]
 ·have a1:=I.S.b6 (show t ≤ -100 by grind)
  have a2:=I.anc t
  have a3:M0 T t=0:=by
   unfold M0
   rw [List.countP_eq_zero]
   intro r uU
   have:=hr r uU
   simp only [decide_eq_true_eq]
   grind
  omega
theorem CW{t:Rat}:∀ {T:List Rat} {i:Nat},T.Pairwise (· < ·)→i<T.length→(i+1≤M0 T t↔nth T i≤t)
 | [],i,_,h=>by simp at h
 | r::T,i,hs,hi=>by
  obtain⟨s1,s2⟩:=List.pairwise_cons.1 hs
  unfold M0
  rw [List.countP_cons]
  by_cases hr:r≤t
  ·rw [if_pos (by simpa using hr)]
   cases i with
   | zero=>exact⟨fun _=>hr,fun _=>by omega⟩
   | succ i =>
    have:=CW (t:=t) s2 (show i<T.length by simpa using hi)
    unfold M0 at this
    rw [show nth (r::T) (i+1)=nth T i by simp [nth],←this]
    omega
  ·rw [if_neg (by simpa using hr)]
   have h0:(T.countP fun r=>decide (r≤t))=0:=by
    rw [List.countP_eq_zero]
    intro x hx
    have:=s1 x hx
    simp only [decide_eq_true_eq]
    grind
   rw [h0]
   refine⟨fun h=>by omega,fun h=>absurd h ?_⟩
   have hm:=bJ hi
   rcases List.mem_cons.1 hm with hm | hm
   ·rw [hm];exact hr
   ·have:=s1 _ hm;grind
theorem Kz.len{T:List Rat}{p:ZX}(K:Kz T p)(h:T.length≤4):(JF (qb 19 5) 5 (sq p)).length=T.length:=by
 have h1:=(K.iso h).ivs.len
 have h2:=(K.level h).2
 omega
theorem Kz.agK{T:List Rat}{p:ZX}(K:Kz T p)(h:T.length≤4){i:Nat}(hi:i<T.length)(t:Rat):cO (sq p) (nth ((JF (qb 19 5) 5 (sq p)).map (ex (sq p))) i) t↔nth T i≤t:=by
 have I:=K.iso h
 rw [I.WO i (by rw [K.len h];exact hi),←CW K.NG hi]
 have:=(K.level h).1 t
 omega
end Go.Proofs.YtiobceocpabjdaaGreat
