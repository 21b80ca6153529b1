import Derived.Test.YtiobceocpabjdaaGreatZam
import Derived.Test.YtiobceocpabjdaaGreatZan
import Derived.Test.YtiobceocpabjdaaGreatZao
set_option linter.unusedSimpArgs false
set_option linter.unusedVariables false
namespace Go.Proofs.YtiobceocpabjdaaGreat
open Go Pm
open ZX hiding N W
theorem adU{n d:Int}(h:d≠0):dM n d=(n:Rat)/d:=by rw [dM,if_neg h,Rat.divInt_eq_div]
theorem JP{n d:Int}(h:d≠0){q:Rat}(e:(n:Rat)=q*d):dM n d=q:=by
 have hd:(d:Rat)≠0:=fun h0=>h (Rat.intCast_eq_zero_iff.1 h0)
 rw [adU h,e,Rat.mul_div_cancel hd]
theorem wL(q:Rat):((q.num:Int):Rat)=q*((q.den:Int):Rat):=by
 have hd:(0:Rat)<((q.den:Int):Rat):=Rat.intCast_pos.2 (by have:=q.den_pos;omega)
 have h1:q=(q.num:Rat)/((q.den:Int):Rat):=by
  rw [←Rat.divInt_eq_div,Rat.num_divInt_den]
 have h2:=Rat.div_mul_cancel (a:=(q.num:Rat)) (Rat.ne_of_gt hd)
 rw [←h1]at h2
 exact h2.symm
theorem ahM{n d:Int}(hn:sz LL n<1099511627770)(hd:sz LL d<1099511627770)(h0:d≠0):aF env.P 146 [I n,I d] (.dU [RT (dM n d), .int .i64 0]):=by
 have n1:=CL (x:=d) (by show _<_;omega)
 have n2:=CL (x:=n) (by show _<_;omega)
 have z1:=GW d
 have l1:=pZ hn hd h0
 rw [show decide (d=0)=false from decide_eq_false h0]at z1
 show aF env.P _ _ (.dU [T2 (dM n d).num (dM n d).den,_])
 replace l1:aF env.P 169 [I n,I d] (T2 (dM n d).num (dM n d).den):=l1
 generalize (dM n d).num=rn at *
 generalize ((dM n d).den:Int)=rd at *
 refine cD [(0,I n),(1,I d)] Tryz.func146 ?_
 refine aA [2,3,4] ?_
 refine W.seq ?_
 refine aR [2,3,4] n1 ?_
 refine aR [2,3,4,9] z1 ?_
 refine bJ ?_ ?_<;>intro h
 ·simp at h
 refine W.skip ?_
 refine W.sd ?_
 simp (maxSteps:=4000000) (disch:=omega) [gw]
 refine aC n2 ?_
 simp (maxSteps:=4000000) (disch:=omega) [gw]
 refine aC l1 ?_
 simp (maxSteps:=4000000) (disch:=omega) [gw]
 (try (refine bC (of_decide_eq_true (by kernel_rfl)) ?_));(try simp (maxSteps:=4000000) (disch:=omega) [gw]);(repeat rw [if_pos (by kernel_rfl)]);(try simp (maxSteps:=4000000) (disch:=omega) [gw])
 refine bG [4,5] ?_
 exact cC
theorem an1(p q:Rat):dM (p.num*q.den+q.num*p.den) (p.den*q.den*2)=(p+q)/2:=by
 have h1:((p.den:Int)*q.den*2)≠0:=by
  have:=p.den_nz;have:=q.den_nz
  refine Int.mul_ne_zero (Int.mul_ne_zero ?_ ?_) (by decide)<;>omega
 refine JP h1 ?_
 rw [Rat.intCast_add,Rat.intCast_mul,Rat.intCast_mul,Rat.intCast_mul,Rat.intCast_mul,wL p,wL q]
 have h2:(p+q)/2*2=p+q:=Rat.div_mul_cancel (by decide)
 show _=(p+q)/2*(((p.den:Int):Rat)*((q.den:Int):Rat)*2)
 generalize (p+q)/2=m at *
 grind
theorem OJ{p q:Rat}{k:Nat}(hp:sz LL p.num≤k∧sz LL (p.den:Int)≤k)(hq:sz LL q.num≤k∧sz LL (q.den:Int)≤k)(hk:k≤300000000000):aF env.P 91 [RT p,RT q] (RT ((p+q)/2)):=by
 have c1:=xX hp.1 hp.2 hq.1 hq.2 (by omega) (aY p) (aY q) hp hq
 have g1:=cG (b:=LL) gF hp.1 hq.2
 have g2:=cG (b:=LL) gF hq.1 hp.2
 have g3:=cG (b:=LL) gF hp.2 hq.2
 have s2:sz LL 2≤1:=dW (k:=1) gF (by decide)
 have g4:=cG (b:=LL) gF g3 s2
 have g5:=m7 (b:=LL) gF (Nat.le_trans g1 (show k+k≤k+k from Nat.le_refl _)) (Nat.le_trans g2 (show k+k≤k+k from Nat.le_refl _))
 have a1:=UN (x:=p.num*q.den) (y:=q.num*p.den) (by show _<_;omega) (by show _<_;omega)
 have o1:=xL 2 (by decide) (by decide)
 have m1:=vQ (x:=(p.den:Int)*q.den) (y:=2) (by show _<_;omega) (by show _<_;omega)
 have h1:((p.den:Int)*q.den*2)≠0:=by
  have:=p.den_nz;have:=q.den_nz
  refine Int.mul_ne_zero (Int.mul_ne_zero ?_ ?_) (by decide)<;>omega
 have l1:=pZ (n:=p.num*q.den+q.num*p.den) (d:=p.den*q.den*2) (by omega) (by omega) h1
 rw [an1]at l1
 show aF env.P _ [T2 p.num p.den,T2 q.num q.den] (T2 ((p+q)/2).num ((p+q)/2).den)
 replace l1:aF env.P 169 [I (p.num*q.den+q.num*p.den),I (p.den*q.den*2)] (T2 ((p+q)/2).num ((p+q)/2).den):=l1
 clear g1 g2 g3 g4 g5 h1 hp hq
 generalize ((p+q)/2).num=rn at *
 generalize (((p+q)/2).den:Int)=rd at *
 generalize p.num*(q.den:Int)+q.num*p.den=x4 at *
 generalize (p.den:Int)*q.den*2=x5 at *
 generalize p.num*(q.den:Int)=x1 at *
 generalize q.num*(p.den:Int)=x2 at *
 generalize (p.den:Int)*(q.den:Int)=x3 at *
 generalize p.num=pn at *
 generalize (p.den:Int)=pd at *
 generalize q.num=qn at *
 generalize (q.den:Int)=qd at *
 refine cD [(0,T2 pn pd),(1,T2 qn qd)] Tryz.func91 ?_
 refine aA [2,3,4] ?_
 refine aR [4,5,6,7] c1 ?_
 refine W.sd ?_
 simp (maxSteps:=4000000) (disch:=omega) [gw]
 refine aC a1 ?_
 simp (maxSteps:=4000000) (disch:=omega) [gw]
 refine aC o1 ?_
 simp (maxSteps:=4000000) (disch:=omega) [gw]
 refine aC m1 ?_
 simp (maxSteps:=4000000) (disch:=omega) [gw]
 refine aC l1 ?_
 simp (maxSteps:=4000000) (disch:=omega) [gw]
 (try (refine bC (of_decide_eq_true (by kernel_rfl)) ?_));(try simp (maxSteps:=4000000) (disch:=omega) [gw]);(repeat rw [if_pos (by kernel_rfl)]);(try simp (maxSteps:=4000000) (disch:=omega) [gw])
 refine bG [4] ?_
 exact cC
theorem Z2{p:Rat}(hp:sz LL p.num<1099511627770∧sz LL (p.den:Int)<1099511627770):aF env.P 73 [RT p] (RT (-p)):=by
 have n1:=mV hp.1 hp.2
 rw [aY]at n1
 have n2:=ach (x:=p.num) (by show _<_;omega)
 replace n1:aF env.P 147 [T2 p.num p.den] (T2 p.num p.den):=n1
 show aF env.P _ [T2 p.num p.den] (T2 (-p).num (-p).den)
 rw [Rat.neg_num,Rat.neg_den]
 generalize -p.num=rn at *
 generalize p.num=pn at *
 generalize (p.den:Int)=pd at *
 refine cD [(0,T2 pn pd)] Tryz.func73 ?_
 refine aA [1,2] ?_
 refine aR [1,2] n1 ?_
 refine aR [1,2] n2 ?_
 refine aA [2] ?_
 exact cC
theorem adV{d:Int}(h:sz LL d<4294967296):aF env.P 156 [I d] (RI d):=by
 have h1:=F2 (decide (d<0)) (aU LL d.natAbs) (by have:sz LL d=(aU LL d.natAbs).length:=rfl;omega) (fI gF _)
 rw [show iv (decide (d<0)) (aU LL d.natAbs)=d from MD d]at h1
 exact h1
theorem Z3{p:Rat}(hp:sz LL p.num<4294967296∧sz LL (p.den:Int)<4294967296)(hY:Y p.num∧Y (p.den:Int)):aF env.P 82 [RT p] (RR p):=by
 have f1:=adV hp.1
 have f2:=adV hp.2
 have m1:=kN p.num p.den hY.1 hY.2
 rw [aY,gR]at m1
 rw [gR]
 show aF env.P _ [T2 p.num p.den] _
 replace f1:aF env.P 156 [I p.num] (RI p.num):=f1
 replace f2:aF env.P 156 [I (p.den:Int)] (RI (p.den:Int)):=f2
 generalize p.num=pn at *
 generalize (p.den:Int)=pd at *
 refine cD [(0,T2 pn pd)] Tryz.func82 ?_
 refine aA [1,2] ?_
 refine W.sd ?_
 simp (maxSteps:=4000000) (disch:=omega) [gw]
 refine aC f1 ?_
 simp (maxSteps:=4000000) (disch:=omega) [gw]
 refine aC f2 ?_
 simp (maxSteps:=4000000) (disch:=omega) [gw]
 refine aC m1 ?_
 simp (maxSteps:=4000000) (disch:=omega) [gw]
 (try (refine bC (of_decide_eq_true (by kernel_rfl)) ?_));(try simp (maxSteps:=4000000) (disch:=omega) [gw]);(repeat rw [if_pos (by kernel_rfl)]);(try simp (maxSteps:=4000000) (disch:=omega) [gw])
 refine bG [2] ?_
 exact cC
theorem aki{x:Int}(hx:Sz x):aF env.P 143 [I x] (I (x.natAbs:Int)):=by
 have h1:=acR (decide (x<0)) (aU LL x.natAbs) hx.UM
 rw [show V 4294967296 (aU LL x.natAbs)=(x.natAbs:Int)from kH gF _]at h1
 exact h1
def pI(x:List Int):Nat→Int
 | 0=>0
 | i+1=>if pI x i<((nth x i).natAbs:Int)then((nth x i).natAbs:Int)else pI x i
theorem adW(x:List Int):∀i,0≤pI x i
 | 0=>Int.le_refl _
 | i+1=>by
  have:=adW x i
  rw [pI];split<;>omega
theorem adX(x:List Int):∀i k,k<i→((nth x k).natAbs:Int)≤pI x i
 | 0,k,h=>by omega
 | i+1,k,h=>by
  rw [pI]
  by_cases hk:k=i
  ·subst hk;split<;>omega
  ·have:=adX x i k (by omega)
   split<;>omega
theorem DO{b s n:Nat}{x:List Int}(h:Bd b s n x):∀i,Pm.sz b (pI x i)≤s
 | 0=>by show Pm.sz b 0≤s;rw [kJ];omega
 | i+1=>by
  have ih:=DO h i
  have h1:=h.nth i
  have h2:Pm.sz b ((nth x i).natAbs:Int)=Pm.sz b (nth x i):=by unfold Pm.sz;rw [Int.natAbs_natCast]
  rw [pI];split
  ·rw [h2];exact h1
  ·exact ih
def g9(x:List Int):Rat:=dM (((lead x).natAbs:Int)+pI x (x.length-1)) ((lead x).natAbs:Int)
theorem SV{α:Type}{g:α→List PV}{l:List α}{s n:Nat}{x:List Int}(hN:aF env.P 64 [aN g l] (Po x))(cx:Cn x)(hx:x ≠ [])(b:Bd LL s n x)(hs:s<500000000000)(hn:n<500000000000):aF env.P 71 [aN g l] (.dU [RT (g9 x), .int .i64 0]):=by
 have o7:0<x.length:=List.length_pos_iff.2 hx
 have hlen:=b.len
 have KU:=dA cx o7
 have L1:=lI (PB.of b (by omega) (by omega)) cx
 have hld:=gU b
 have A1:=aki (x:=lead x) (Nat.lt_of_le_of_lt hld (by omega))
 have an2:sz LL ((lead x).natAbs:Int)≤s:=Nat.le_trans (dJ gF (by simp)) hld
 have hm:=DO b (x.length-1)
 have S1:=UN (x:=((lead x).natAbs:Int)) (y:=pI x (x.length-1)) (Nat.lt_of_le_of_lt an2 (by omega)) (Nat.lt_of_le_of_lt hm (by omega))
 have azn:=m7 (b:=LL) gF an2 hm
 have M1:=ahM (n:=((lead x).natAbs:Int)+pI x (x.length-1)) (d:=((lead x).natAbs:Int)) (by omega) (by omega) (by omega)
 replace M1:aF env.P 146 [I (((lead x).natAbs:Int)+pI x (x.length-1)),I ((lead x).natAbs:Int)] (.dU [T2 (g9 x).num (g9 x).den, .int .i64 0]):=M1
 show aF env.P _ _ (.dU [T2 (g9 x).num (g9 x).den,_])
 have C1:∀i,i<x.length→aF env.P 143 [I (nth x i)] (I ((nth x i).natAbs:Int))∧aF env.P 144 [I ((nth x i).natAbs:Int),I (pI x i)] (.int .i64 (dH ((nth x i).natAbs:Int) (pI x i))):=fun i hi=>by
  have h1:=b.nth i
  have h2:sz LL ((nth x i).natAbs:Int)≤s:=Nat.le_trans (dJ gF (by simp)) h1
  exact⟨aki (Nat.lt_of_le_of_lt h1 (by omega)),acu (Nat.lt_of_le_of_lt h2 (by omega)) (Nat.lt_of_le_of_lt (DO b i) (by omega))⟩
 have hmx:∀i,pI x (i+1)=if 0<dH ((nth x i).natAbs:Int) (pI x i)then((nth x i).natAbs:Int)else pI x i:=fun i=>by
  rw [pI]
  by_cases h:pI x i<((nth x i).natAbs:Int)
  ·rw [if_pos h,if_pos (rF.2 h)]
  ·rw [if_neg h,if_neg (fun q=>h (rF.1 q))]
 have h0:pI x 0=0:=rfl
 clear hm azn an2 hld
 generalize (g9 x).num=rn at *
 generalize ((g9 x).den:Int)=rd at *
 generalize ((lead x).natAbs:Int)+pI x (x.length-1)=sm at *
 generalize ((lead x).natAbs:Int)=la at *
 generalize pI x=mf at *
 have e1:((x.length:Int)-1).toNat=x.length-1:=by omega
 have e2:(x.length:Int)-1=((x.length-1:Nat):Int):=by omega
 refine cD [(0,aN g l)] Tryz.func71 ?_
 refine aA [0,2] ?_
 refine aR [0,2] hN ?_
 refine aP [0,2,13] ?_
 refine bJ ?_ ?_<;>intro h
 ·simp at h;exact absurd h hx
 refine W.skip ?_
 refine aA [0,2,4] ?_
 refine W.row (id:=4) (els:=[[.bool false, .nil]]) [[.bool (decide ((0:Int)<0)),us (aU LL (0:Int).natAbs)]] (by simp;first | exact⟨rfl,rfl,rfl⟩ | exact⟨rfl,rfl⟩ | rfl) ⟨⟨.inl rfl, .inr ⟨rfl,rfl⟩,trivial⟩,trivial⟩ ?_
 refine W.seq ?_
 refine W.sr ?_
 simp (disch:=omega) [gw,e1,e2]
 refine bG [0,2,4,19,20,21] ?_
 refine W.block ?_
 refine W.bE (fun k σ=>∃(v2 e2 v4 e4 i:Nat) (rows:Pm.Rows) (clk:Nat),σ=⟨fa [(0,Po x),(2, .ptr 2 v2 0 0),(4, .ptr 4 v4 0 0),(19,aN ie (x.take (x.length-1))),(20, .int .i64 ((x.length-1:Nat):Int)),(21, .int .i64 i)],rows,clk⟩∧i+k=x.length-1 ∧
  rows 2=some ⟨v2,e2,4,[[.bool false, .nil, .bool false, .nil]]⟩∧rows 4=some ⟨v4,e4,2,[[.bool (decide (mf i<0)),us (aU LL (mf i).natAbs)]]⟩) (x.length-1) ?_ ?_
 ·exact⟨_, .refl,_,_,_,_,0,_,_,rfl,by omega,by simp;(first | exact⟨rfl,rfl⟩ | rfl),by rw [h0];simp;(first | exact⟨rfl,rfl⟩ | rfl)⟩
 rintro k _ ⟨v2,e2,v4,e4,i,rows,clk,rfl,zT,bS,dS⟩
 refine bV [0,2,4,19,20,21,22] ?_
 refine bJ ?_ ?_<;>intro h
 ·have hi:i<x.length-1:=by simp at h;omega
  have hi2:i<x.length:=by omega
  have wZ:nth (x.take (x.length-1)) i=nth x i:=by unfold nth;rw [List.getElem?_take_of_lt hi]
  obtain⟨c1,c2⟩:=C1 i hi2
  have hm:=hmx i
  generalize dH ((nth x i).natAbs:Int) (mf i)=cv at *
  generalize ((nth x i).natAbs:Int)=ab at *
  generalize nth x i=xi at *
  refine W.skip ?_
  refine W.eN (fun σ=>∃(v2 e2 v4 e4:Nat) (rows:Pm.Rows) (clk:Nat),σ=⟨fa [(0,Po x),(2, .ptr 2 v2 0 0),(4, .ptr 4 v4 0 0),(19,aN ie (x.take (x.length-1))),(20, .int .i64 ((x.length-1:Nat):Int)),(21, .int .i64 i)],rows,clk⟩ ∧
   rows 2=some ⟨v2,e2,4,[[.bool false, .nil, .bool false, .nil]]⟩∧rows 4=some ⟨v4,e4,2,[[.bool (decide (mf (i+1)<0)),us (aU LL (mf (i+1)).natAbs)]]⟩) ?_ ?_
  ·refine W.sr ?_
   simp (disch:=omega) [gw,hi,wZ]
   refine bG [0,2,4,6,19,20,21] ?_
   refine aR [0,2,4,7,19,20,21] c1 ?_
   refine W.sr ?_
   simp (disch:=omega) [gw,dS]
   refine cQ [0,2,4,7,19,20,21,30] c2 ?_
   refine bJ ?_ ?_<;>intro h
   ·have h:0<cv:=by simpa using h
    rw [if_pos h]at hm
    refine W.cA (fun K hK=>?_);simp (disch:=omega) [gw,dS]
    exact hK _ ⟨_,aB _ [0,2,4,19,20,21],_,_,_,_,_,_,rfl,by simp [bS];exact rfl,by simp [hm];exact rfl⟩
   ·have h:¬0<cv:=by simpa using h
    rw [if_neg h]at hm
    refine W.skip ?_
    exact⟨_,aB _ [0,2,4,19,20,21],_,_,_,_,_,_,rfl,by simp [bS];exact rfl,by simp [hm,dS];exact rfl⟩
  rintro _ ⟨v2,e2,v4,e4,rows,clk,rfl,bS,dS⟩
  refine W.cA (fun K hK=>?_);simp (disch:=omega) [gw]
  refine hK _ ⟨k-1,_,aB _ [0,2,4,19,20,21],by omega,_,_,_,_,i+1,_,_,rfl,by omega,bS,dS⟩
 ·have hi:i=x.length-1:=by simp at h;omega
  subst hi
  refine fH ?_
  refine jG ?_
  refine cU L1 ?_
  refine cQ [2,4,8] A1 ?_
  refine W.sd ?_
  simp (disch:=omega) [gw,dS]
  refine aC S1 ?_
  simp (maxSteps:=4000000) (disch:=omega) [gw]
  refine aC M1 ?_
  simp (disch:=omega) [gw,bS]
  (try (refine bC (of_decide_eq_true (by kernel_rfl)) ?_));(try simp (maxSteps:=4000000) (disch:=omega) [gw,bS]);(repeat rw [if_pos (by kernel_rfl)]);(try simp (maxSteps:=4000000) (disch:=omega) [gw,bS])
  refine bG [2,3] ?_
  exact cC
theorem JQ{x:List Int}(cx:Cn x)(hx:x ≠ []):g9 x=1+((pI x (x.length-1):Int):Rat)/(((lead x).natAbs:Int):Rat):=by
 have KU:=dA cx (List.length_pos_iff.2 hx)
 have h1:((lead x).natAbs:Int)≠0:=by omega
 have h2:(((lead x).natAbs:Int):Rat)≠0:=fun h=>h1 (Rat.intCast_eq_zero_iff.1 h)
 refine JP h1 ?_
 rw [Rat.intCast_add]
 have h3:=Rat.div_mul_cancel (a:=((pI x (x.length-1):Int):Rat)) h2
 generalize ((pI x (x.length-1):Int):Rat)/(((lead x).natAbs:Int):Rat)=w at *
 grind
end Go.Proofs.YtiobceocpabjdaaGreat
namespace Pm
theorem adY:∀(n:Nat) (f:Nat→Nat),(∀k,k≤n→f k<n) → ∃i j,i<j∧j≤n∧f i=f j
 | 0,f,h=>absurd (h 0 (Nat.le_refl _)) (by omega)
 | n+1,f,h=>by
  by_cases hx:∃i,i≤n∧f i=f (n+1)
  ·obtain⟨i,hi,e⟩:=hx
   exact⟨i,n+1,by omega,Nat.le_refl _,e⟩
  ·have nJ:∀i,i≤n→f i≠f (n+1):=fun i hi e=>hx ⟨i,hi,e⟩
   have hm:=h (n+1) (Nat.le_refl _)
   obtain⟨i,j,hij,hj,e⟩:=adY n (fun k=>if f k=n then f (n+1)else f k) (fun k hk=>by
    have h1:=h k (by omega)
    have h2:=nJ k hk
    show(if f k=n then f (n+1)else f k)<n
    split<;>omega)
   refine⟨i,j,hij,by omega,?_⟩
   have h1:=nJ i (by omega)
   have h2:=nJ j hj
   have e':(if f i=n then f (n+1)else f i)=(if f j=n then f (n+1)else f j):=e
   split at e'<;>split at e'<;>omega
def D8(b:Nat):Nat→Nat→List Int
 | 0,_=>[]
 | n+1,k=>((k%b:Nat):Int)::D8 b n (k/b)
theorem wM(b:Nat):∀n k,(D8 b n k).length=n
 | 0,_=>rfl
 | n+1,k=>by rw [D8,List.length_cons,wM b n]
theorem JR{b:Nat}(hb:0<b):∀n k,∀c∈D8 b n k,0≤c∧c<b
 | 0,_,c,h=>by cases h
 | n+1,k,c,h=>by
  rcases List.mem_cons.1 h with rfl | h
  ·have:=Nat.mod_lt k hb;omega
  ·exact JR hb n _ c h
theorem JS{b:Nat}(hb:0<b):∀n k m,k<b^n→m<b^n→D8 b n k=D8 b n m→k=m
 | 0,k,m,h1,h2,_=>by simp at h1 h2;omega
 | n+1,k,m,h1,h2,h=>by
  rw [D8,D8]at h
  injection h with h3 h4
  rw [Nat.pow_succ]at h1 h2
  have h5:=JS hb n (k/b) (m/b) ((Nat.div_lt_iff_lt_mul hb).2 h1) ((Nat.div_lt_iff_lt_mul hb).2 h2) h4
  have h6:=Nat.div_add_mod k b
  have h7:=Nat.div_add_mod m b
  rw [h5]at h6
  omega
def SW(R:Nat):List Nat→Nat
 | []=>0
 | x::l=>x+R*SW R l
theorem adZ{R:Nat}:∀l:List Nat,(∀x∈l,x<R)→SW R l<R^l.length
 | [],_=>by simp [SW]
 | x::l,h=>by
  have h1:=adZ l fun y hy=>h y (List.mem_cons_of_mem _ hy)
  have h2:=h x (List.mem_cons_self ..)
  rw [SW,List.length_cons,Nat.pow_succ]
  have h3:R*(SW R l+1)≤R*R^l.length:=Nat.mul_le_mul_left _ h1
  rw [Nat.mul_add]at h3
  rw [Nat.mul_comm (R^_)]
  omega
theorem V6{R:Nat}:∀l m:List Nat,l.length=m.length→(∀x∈l,x<R)→(∀x∈m,x<R)→SW R l=SW R m→l=m
 | [],[],_,_,_,_=>rfl
 | [],_::_,h,_,_,_=>by simp at h
 | _::_,[],h,_,_,_=>by simp at h
 | x::l,y::m,hl,h1,h2,e=>by
  rw [SW,SW]at e
  have hx:=h1 x (List.mem_cons_self ..)
  have hy:=h2 y (List.mem_cons_self ..)
  have e1:(x+R*SW R l)%R=(y+R*SW R m)%R:=by rw [e]
  rw [Nat.add_mul_mod_self_left,Nat.add_mul_mod_self_left,Nat.mod_eq_of_lt hx,Nat.mod_eq_of_lt hy]at e1
  subst e1
  have e2:R*SW R l=R*SW R m:=by omega
  have e3:=Nat.eq_of_mul_eq_mul_left (by omega) e2
  rw [V6 l m (by simpa using hl) (fun z hz=>h1 z (List.mem_cons_of_mem _ hz)) (fun z hz=>h2 z (List.mem_cons_of_mem _ hz)) e3]
theorem rY{X Y:Nat}:∀(x y:List Int),(∀c∈x,c.natAbs≤X)→(∀i,(nth y i).natAbs≤Y) → ∀i,(nth (bQ x y) i).natAbs≤x.length*(X*Y)
 | [],y,_,_,i=>by
  rw [show bQ [] y = []from rfl,o6];simp
 | k::x,y,hx,hy,i=>by
  have hk:=hx k (List.mem_cons_self ..)
  have ih:=rY x y (fun c hc=>hx c (List.mem_cons_of_mem _ hc)) hy
  have h1:∀j,(nth y j*k).natAbs≤X*Y:=fun j=>by
   rw [Int.natAbs_mul,Nat.mul_comm]
   exact Nat.mul_le_mul hk (hy j)
  rw [List.length_cons,Nat.add_mul,Nat.one_mul]
  cases i with
  | zero =>
   rw [rJ]
   have:=h1 0;omega
  | succ i =>
   rw [m9]
   have h2:=h1 (i+1)
   have h3:=ih i
   have h4:=Int.natAbs_add_le (nth y (i+1)*k) (nth (bQ x y) i)
   omega
theorem SX{A:Nat}{y:List Int}(h:∀c∈y,c.natAbs≤A)(i:Nat):(nth y i).natAbs≤A:=by
 rcases Nat.lt_or_ge i y.length with h1 | h1
 ·exact h _ (b7 h1)
 ·rw [iF h1];exact Nat.zero_le _
namespace ZX
theorem JT(x y:ZX)(i:Nat):nth (x-y).l i=nth x.l i-nth y.l i:=by
 have h:x=(x-y)+y:=by grind
 have h2:nth x.l i=nth ((x-y)+y).l i:=by rw [←h]
 rw [show((x-y)+y).l=iG (x-y).l y.l from rfl,vK]at h2
 omega
theorem ahN{a b v:ZX}(ha:a≠0)(hc:∀d,dv d a→dv d b→N d≤1)(h:dv a (v*b)):dv a v:=by
 obtain⟨g,hg⟩:=jR _ a b (Nat.le_refl _)
 have h0:=hg.ne (.inl ha)
 have h1:=hc g hg.l hg.r
 have h2:=ZX.aE.1 h0
 obtain⟨k,hk,rfl⟩:=lA (show N g=1 by omega)
 obtain⟨c,xI,u',v',e⟩:=hg.uv
 rw [pC]at e
 refine dv.EX (Int.mul_ne_zero xI hk) ?_
 rw [e,show(u'*a+v'*b)*v=(u'*v)*a+v'*(v*b)by grind]
 exact((dv.refl a).mul_left _).add (h.mul_left _)
theorem V7{l:List Int}{n:Nat}(h:l.length≤n):N (of l)≤n:=Nat.le_trans (bX l) h
theorem JU{x:ZX}{n:Nat}(hN:N x≤n+1)(h:∀i,i<n→nth x.l (i+1)=0):∃c:Int,x=K c:=by
 rcases Nat.lt_or_ge (N x) 2 with h1 | h1
 ·rcases Nat.eq_zero_or_pos (N x)with h2 | h2
  ·refine⟨0,?_⟩
   have:x=0:=Classical.byContradiction fun h0=>by have:=ZX.aE.1 h0;omega
   rw [this];rfl
  ·obtain⟨c,_,e⟩:=lA (show N x=1 by omega)
   exact⟨c,e⟩
 ·exfalso
  have h2:lead x.l≠0:=dA x.c (show 0<N x by omega)
  refine h2 ?_
  have h3:=h (N x-2) (by omega)
  rw [show N x-2+1=x.l.length-1 from by show N x-2+1=N x-1;omega]at h3
  exact h3
theorem JV(l:List Int)(i:Nat):nth (of l).l i=nth l i:=i6 l i
theorem an3{a b:ZX}{s r l X:Nat}(ha:a≠0)(hb:b≠0)(hA:∀c∈a.l,c.natAbs≤2^s)(hB:∀c∈b.l,c.natAbs≤2^r)(hl:N a+N b≤2^l)(hc:∀d,dv d a→dv d b→N d≤1)(hX:(l+2)*(N a+N b)+s*N b+r*N a≤X) :
  ∃(u v:ZX) (c:Int),c≠0∧u*a+v*b=K c∧N u≤N b∧N v≤N a∧(∀c∈u.l,c.natAbs≤2^(X-s)) ∧ ∀c∈v.l,c.natAbs≤2^(X-r):=by
 have na:=ZX.aE.1 ha
 have nb:=ZX.aE.1 hb
 obtain⟨p,hp⟩:∃p,N a=p+1:=⟨N a-1,by omega⟩
 obtain⟨q,hq⟩:∃q,N b=q+1:=⟨N b-1,by omega⟩
 have hsX:s≤X:=by rw [hq,Nat.mul_add s]at hX;omega
 have hrX:r≤X:=by rw [hp,Nat.mul_add r]at hX;omega
 rcases Nat.lt_or_ge 2 (N a+N b)with hm | hm
 ·obtain⟨m,hmm⟩:∃m,p+q=m+1:=⟨p+q-1,by omega⟩
  obtain⟨U,hU⟩:∃U,U=2^(X-s):=⟨_,rfl⟩
  obtain⟨V,hV⟩:∃V,V=2^(X-r):=⟨_,rfl⟩
  have hUA:U*2^s=2^X:=by rw [hU,←Nat.pow_add];congr 1;omega
  have hVB:V*2^r=2^X:=by rw [hV,←Nat.pow_add];congr 1;omega
  rw [←hU,←hV]
  let P:=(U+1)^q
  have hPp:0<P:=Nat.pow_pos (Nat.succ_pos _)
  have hQp:0<(V+1)^p:=Nat.pow_pos (Nat.succ_pos _)
  let W:=(m+1)*2^X
  let uu:=fun k:Nat=>of (D8 (U+1) q (k%P))
  let vv:=fun k:Nat=>of (D8 (V+1) p (k/P))
  let L:=fun k:Nat=>uu k*a+vv k*b
  have ag5:∀B n k,∀c∈D8 (B+1) n k,c.natAbs≤B:=fun B n k c hc=>by
   have:=JR (Nat.succ_pos B) _ _ c hc
   omega
  have hu:∀k,∀c∈(uu k).l,c.natAbs≤U:=fun k c hc=>ag5 _ _ _ c (rH _ _ hc)
  have hv:∀k,∀c∈(vv k).l,c.natAbs≤V:=fun k c hc=>ag5 _ _ _ c (rH _ _ hc)
  have hNu:∀k,N (uu k)≤q:=fun k=>V7 (by rw [wM];exact Nat.le_refl _)
  have hNv:∀k,N (vv k)≤p:=fun k=>V7 (by rw [wM];exact Nat.le_refl _)
  have hW:∀k i,(nth (L k).l i).natAbs≤W:=fun k i=>by
   have e:(L k).l=iG (bQ (uu k).l a.l) (bQ (vv k).l b.l):=rfl
   rw [e,vK]
   have h1:=rY (uu k).l a.l (hu k) (SX hA) i
   have h2:=rY (vv k).l b.l (hv k) (SX hB) i
   rw [hUA]at h1
   rw [hVB]at h2
   have h4:=Int.natAbs_add_le (nth (bQ (uu k).l a.l) i) (nth (bQ (vv k).l b.l) i)
   have h5:(uu k).l.length*2^X+(vv k).l.length*2^X≤W:=by
    rw [←Nat.add_mul]
    refine Nat.mul_le_mul_right _ ?_
    have h4:N (uu k)≤q:=hNu k
    have h5:N (vv k)≤p:=hNv k
    show N (uu k)+N (vv k)≤m+1
    omega
   omega
  let im:=fun k:Nat=>(List.range m).map fun i=>(nth (L k).l (i+1)+W).toNat
  have him:∀k,∀x∈im k,x<2*W+1:=fun k x hx=>by
   simp only [im,List.mem_map]at hx
   obtain⟨i,_,rfl⟩:=hx
   have:=hW k (i+1)
   omega
  have azo:(2*W+1)^m<P*(V+1)^p:=by
   have h1:2*W+1≤2^(X+l+2):=by
    have h2:(m+1)*2^X≤2^l*2^X:=Nat.mul_le_mul_right _ (by omega)
    have h3:2^(X+l+2)=2^l*2^X*4:=by rw [Nat.pow_add,Nat.pow_add,Nat.mul_comm (2^X)]
    have h4:1≤2^l*2^X:=Nat.mul_pos (Nat.two_pow_pos _) (Nat.two_pow_pos _)
    simp only [W]
    omega
   have h2:=Nat.pow_le_pow_left h1 m
   rw [←Nat.pow_mul]at h2
   have h3:2^((X-s)*q+(X-r)*p)≤P*(V+1)^p:=by
    rw [Nat.pow_add,Nat.pow_mul,Nat.pow_mul,←hU,←hV]
    exact Nat.mul_le_mul (Nat.pow_le_pow_left (Nat.le_succ _) _) (Nat.pow_le_pow_left (Nat.le_succ _) _)
   refine Nat.lt_of_le_of_lt h2 (Nat.lt_of_lt_of_le (Nat.pow_lt_pow_right (by decide) ?_) h3)
   rw [hp,hq]at hX
   rw [Nat.sub_mul,Nat.sub_mul]
   have e1:X*q+X*p=X*m+X:=by rw [←Nat.mul_add,show q+p=m+1 by omega,Nat.mul_add,Nat.mul_one]
   have e2:s*q≤X*q:=Nat.mul_le_mul_right _ hsX
   have e3:r*p≤X*p:=Nat.mul_le_mul_right _ hrX
   have e4:(X+l+2)*m=X*m+(l+2)*m:=by rw [Nat.add_assoc,Nat.add_mul]
   have e5:(l+2)*(p+1+(q+1))=(l+2)*m+(l+2)*3:=by rw [←Nat.mul_add];congr 1;omega
   have e6:s*(q+1)=s*q+s:=Nat.mul_succ _ _
   have e7:r*(p+1)=r*p+r:=Nat.mul_succ _ _
   omega
  obtain⟨n,hn⟩:∃n,P*(V+1)^p=n+1:=⟨P*(V+1)^p-1,by have:=Nat.mul_pos hPp hQp;omega⟩
  obtain⟨i,j,hij,hj,e⟩:=adY n (fun k=>SW (2*W+1) (im k)) (fun k hk=>by
   have h1:=adZ (im k) (him k)
   rw [show(im k).length=m by simp [im]]at h1
   show SW (2*W+1) (im k)<n
   omega)
  have e2:=V6 (im i) (im j) (by simp [im]) (him i) (him j) e
  have e3:∀s,s<m→nth (L i).l (s+1)=nth (L j).l (s+1):=fun s hs=>by
   have h1:(im i)[s]? = (im j)[s]? := by rw [e2]
   simp only [im,List.getElem?_map,List.getElem?_range hs,Option.map_some]at h1
   injection h1 with h1
   have:=hW i (s+1)
   have:=hW j (s+1)
   omega
  have hNL:∀x y:ZX,N x≤q→N y≤p→N (x*a+y*b)≤m+1:=fun x y hx hy=>by
   have h1:N (x*a+y*b)≤max (N (x*a)) (N (y*b)):=CC _ _
   have h2:N (x*a)≤N x+N a-1:=rI (x:=x.l) (y:=a.l) na
   have h3:N (y*b)≤N y+N b-1:=rI (x:=y.l) (y:=b.l) nb
   omega
  have WS:N (uu i-uu j)≤q:=by
   have h1:N (uu i-uu j)≤max (N (uu i)) (N (uu j)):=vI _ _
   have:=hNu i;have:=hNu j;omega
  have hv':N (vv i-vv j)≤p:=by
   have h1:N (vv i-vv j)≤max (N (vv i)) (N (vv j)):=vI _ _
   have:=hNv i;have:=hNv j;omega
  have eL:(uu i-uu j)*a+(vv i-vv j)*b=L i-L j:=by simp only [L];grind
  obtain⟨c,hcc⟩:=JU (x:=(uu i-uu j)*a+(vv i-vv j)*b) (n:=m) (hNL _ _ WS hv') (fun s hs=>by
   rw [eL,JT,e3 s hs];omega)
  have pG:∀(B n k k':Nat),∀c∈(of (D8 (B+1) n k)-of (D8 (B+1) n k')).l,c.natAbs≤B:=fun B n k k' c hc=>by
   obtain⟨s,hs,rfl⟩:=List.getElem_of_mem hc
   rw [←cB hs,JT,JV,JV]
   have h3:∀k,0≤nth (D8 (B+1) n k) s∧nth (D8 (B+1) n k) s<((B+1:Nat):Int):=fun k=>by
    rcases Nat.lt_or_ge s (D8 (B+1) n k).length with h4 | h4
    ·exact JR (Nat.succ_pos B) _ _ _ (b7 h4)
    ·rw [iF h4];exact⟨by decide,by show(0:Int)<_;omega⟩
   have:=h3 k
   have:=h3 k'
   omega
  refine⟨uu i-uu j,vv i-vv j,c,fun h0=>?_,hcc,by omega,by omega,pG _ _ _ _,pG _ _ _ _⟩
  rw [h0,show K 0=(0:ZX)from rfl]at hcc
  have hvz:vv i-vv j=0:=Classical.byContradiction fun nJ=>by
   have h1:dv a (vv i-vv j):=ahN ha hc (b:=b) ⟨1,by decide, -(uu i-uu j),by
    show(1:ZX)*_=_
    have:(vv i-vv j)*b = -((uu i-uu j)*a):=by grind
    rw [this];grind⟩
   have:=h1.nD nJ
   omega
  have huz:uu i-uu j=0:=Classical.byContradiction fun nJ=>by
   have h1:(uu i-uu j)*a=0:=by rw [hvz]at hcc;grind
   exact oK nJ ha h1
  have hd:∀(B n k k':Nat),of (D8 (B+1) n k)-of (D8 (B+1) n k')=0→D8 (B+1) n k=D8 (B+1) n k':=fun B n k k' h0=>by
   refine List.ext_getElem (by rw [wM,wM]) fun s hs zZ=>?_
   have h3:=JT (of (D8 (B+1) n k)) (of (D8 (B+1) n k')) s
   rw [h0,show nth (0:ZX).l s=0 from o6 s,JV,JV]at h3
   rw [←cB hs,←cB zZ]
   omega
  have lt2:∀k,k≤n→k/P<(V+1)^p:=fun k hk=>(Nat.div_lt_iff_lt_mul hPp).2 (by rw [Nat.mul_comm];omega)
  have d1:i%P=j%P:=JS (Nat.succ_pos U) q _ _ (Nat.mod_lt i hPp) (Nat.mod_lt j hPp) (hd _ _ _ _ huz)
  have d2:i/P=j/P:=JS (Nat.succ_pos V) p _ _ (lt2 i (by omega)) (lt2 j hj) (hd _ _ _ _ hvz)
  have h6:=Nat.div_add_mod i P
  have h7:=Nat.div_add_mod j P
  rw [d1,d2]at h6
  omega
 ·obtain⟨c,xI,rfl⟩:=lA (show N a=1 by omega)
  refine⟨1,0,c,xI,by grind,by rw [GK];omega,by rw [acO];omega,fun x hx=>?_,fun x hx=>by cases hx⟩
  have h1:(1:ZX).l = [1]:=rfl
  rw [h1]at hx
  simp at hx;subst hx;exact Nat.two_pow_pos _
end ZX
end Pm
namespace Pm
theorem p0(a b:Nat):(2:Rat)^(a+b)=2^a*2^b:=by
 induction b with
 | zero=>rw [Nat.add_zero,Rat.pow_zero,Rat.mul_one]
 | succ b ih=>rw [←Nat.add_assoc,Rat.pow_succ,Rat.pow_succ,ih];grind
theorem gL(a:Nat):(0:Rat)<2^a:=Rat.pow_pos (by decide)
theorem p7:∀a:Nat,(1:Rat)≤2^a
 | 0=>by simp
 | a+1=>by
  have:=p7 a
  rw [Rat.pow_succ];grind
theorem GZ{a b:Nat}(h:a≤b):(2:Rat)^a≤2^b:=by
 obtain⟨c,rfl⟩:∃c,b=a+c:=⟨b-a,by omega⟩
 rw [p0]
 have h1:=p7 c
 have h2:=gL a
 have h3:=Rat.mul_le_mul_of_nonneg_left h1 (Rat.le_of_lt h2)
 grind
theorem JW:∀a:Nat,(((2^a:Nat):Int):Rat)=2^a
 | 0=>by simp
 | a+1=>by
  rw [Nat.pow_succ,Rat.pow_succ,←JW a,Int.natCast_mul,Rat.intCast_mul];rfl
theorem G0{c:Int}{s:Nat}(h:c.natAbs≤2^s):Ab (c:Rat) (2^s):=by
 have h1:=JW s
 have h2:c≤((2^s:Nat):Int):=by omega
 have h3 : -((2^s:Nat):Int)≤c:=by omega
 have h4:=Rat.intCast_le_intCast.2 h2
 have h5:=Rat.intCast_le_intCast.2 h3
 rw [Rat.intCast_neg]at h5
 rw [h1]at h4 h5
 exact⟨h5,h4⟩
theorem SY(s β:Nat):∀k,D7 (2^s) (2^β) k=2^(s+k*(β+2))
 | 0=>by simp [D7]
 | k+1=>by
  rw [D7,SY s β k,show s+(k+1)*(β+2)=s+k*(β+2)+β+1+1 by rw [Nat.add_mul];omega,Rat.pow_succ,Rat.pow_succ,p0 _ β]
  grind
namespace ZX
theorem auw{a:ZX}{s n β:Nat}(h:∀c∈a.l,c.natAbs≤2^s)(hN:N a≤n){t:Rat}(ht:Ab t (2^β)):Ab (e t a) (2^(s+n*(β+2))):=by
 have h1:=N9 (S:=2^s) (B:=2^β) (t:=t) (Rat.le_of_lt (gL s)) (p7 β) ht a.l fun c hc=>G0 (h c hc)
 rw [SY]at h1
 refine h1.mono (GZ ?_)
 have:a.l.length*(β+2)≤n*(β+2):=Nat.mul_le_mul_right _ hN
 omega
theorem ad1{a:ZX}{s n β:Nat}(h:∀c∈a.l,c.natAbs≤2^s)(hN:N a≤n){r t:Rat}(hr:Ab r (2^β))(ht:Ab t (2^β)):Ab (dd r t a.l) (2^(s+n*(β+2)))∧Ab (cc r t a.l) (2^(s+n*(β+2))):=by
 have h1:=GR (S:=2^s) (B:=2^β) (s:=r) (t:=t) (Rat.le_of_lt (gL s)) (p7 β) hr ht a.l fun c hc=>G0 (h c hc)
 have h2:=adG (S:=2^s) (B:=2^β) (s:=r) (t:=t) (Rat.le_of_lt (gL s)) (p7 β) hr ht a.l fun c hc=>G0 (h c hc)
 rw [SY]at h1 h2
 have h3:a.l.length*(β+2)≤n*(β+2):=Nat.mul_le_mul_right _ hN
 exact⟨h1.mono (GZ (by omega)),h2.mono (GZ (by omega))⟩
def sk(s n l β:Nat):Nat:=n*(s+2+l)+n*(β+2)+1
def sx(a b:ZX)(s r l:Nat):Nat:=(l+2)*(N a+N b)+s*N b+r*N a
theorem auy{a b:ZX}{s r l β:Nat}(ha:a≠0)(hb:b≠0)(hA:∀c∈a.l,c.natAbs≤2^s)(hB:∀c∈b.l,c.natAbs≤2^r)(hl:N a+N b≤2^l)(hc:∀d,dv d a→dv d b→N d≤1)
  {t ε η:Rat} (ht:Ab t (2^β)) (hε:ε*2^(sx a b s r l-s+N b*(β+2)+1)≤1) (hη:η*2^(sx a b s r l-r+N a*(β+2)+1)≤1):j7 ε (e t a)∨j7 η (e t b):=by
 obtain⟨u,v,c,xI,he,hNu,hNv,hu,hv⟩:=an3 ha hb hA hB hl hc (Nat.le_refl _)
 have h1:=auw (β:=β) hu hNu ht
 have h2:=auw (β:=β) hv hNv ht
 have h3:e t u*e t a+e t v*e t b=(c:Rat):=by rw [←iJ,←iJ,←akb,he,zV]
 have h4:=wH xI
 rw [show(l+2)*(N a+N b)+s*N b+r*N a=sx a b s r l from rfl]at h1 h2
 rw [p0 _ 1]at hε hη
 have hM:=gL (sx a b s r l-s+N b*(β+2))
 have hM2:=gL (sx a b s r l-r+N a*(β+2))
 generalize (2:Rat)^(sx a b s r l-s+N b*(β+2))=M at *
 generalize (2:Rat)^(sx a b s r l-r+N a*(β+2))=M2 at *
 refine Classical.byContradiction fun zY=>?_
 have e1:(2:Rat)^1=2:=by rw [Rat.pow_succ,Rat.pow_zero];grind
 rw [e1]at hε hη
 have key:∀x y E M:Rat,0<M→Ab y M→E*(M*2)≤1→¬j7 E x → ∃δ:Rat,δ<1/2∧Ab (y*x) δ:=fun x y E M hM hy hE hx=>by
  have g1:=AH hx
  obtain⟨m,g2,g3,g4⟩:∃m:Rat,m<E∧x≤m ∧ -x≤m:=by
   by_cases h:x ≤ -x
   ·exact⟨-x,by grind,h,Rat.le_refl⟩
   ·exact⟨x,by grind,Rat.le_refl,by grind⟩
  have g5:=hy.mul (show Ab x m from⟨by grind,g3⟩)
  refine⟨_,?_,g5⟩
  have g6:=Rat.mul_lt_mul_of_pos_left g2 hM
  grind
 obtain⟨d1,p1,p2,p3⟩:=key _ _ _ _ hM h1 hε fun h=>zY (.inl h)
 obtain⟨d2,p4,p5,p6⟩:=key _ _ _ _ hM2 h2 hη fun h=>zY (.inr h)
 rcases h4 with h4 | h4<;>grind
theorem ad2{a b:ZX}{s n l β m:Nat}(hn:N a+N b≤n)(hm:m≤n):sx a b s s l-s+m*(β+2)+1≤sk s n l β:=by
 unfold sx sk
 have h1:(l+2)*(N a+N b)+s*N b+s*N a=(s+2+l)*(N a+N b):=by grind
 have h2:(s+2+l)*(N a+N b)≤(s+2+l)*n:=Nat.mul_le_mul_left _ hn
 have h3:m*(β+2)≤n*(β+2):=Nat.mul_le_mul_right _ hm
 rw [h1,Nat.mul_comm n]
 omega
theorem DP{ε:Rat}{i j:Nat}(h:ε*2^j≤1)(hij:i≤j):ε*2^i≤1:=by
 have h1:=GZ hij
 have h2:=gL i
 by_cases h0:0≤ε
 ·have:=Rat.mul_le_mul_of_nonneg_left h1 h0;grind
 ·have:=Rat.mul_lt_mul_of_pos_right (show ε<0 by grind) h2;grind
theorem sep{a b:ZX}{s n l β:Nat}(ha:a≠0)(hb:b≠0)(hA:∀c∈a.l,c.natAbs≤2^s)(hB:∀c∈b.l,c.natAbs≤2^s)(hn:N a+N b≤n)(hl:n≤2^l)(hc:∀d,dv d a→dv d b→N d≤1)
  {t ε:Rat} (ht:Ab t (2^β)) (hε:ε*2^sk s n l β≤1):j7 ε (e t a)∨j7 ε (e t b):=
 auy (l:=l) ha hb hA hB (by omega) hc ht (DP hε (ad2 hn (by omega))) (DP hε (ad2 hn (by omega)))
theorem an4{f:ZX}{s n l:Nat}(h:∀c∈f.l,c.natAbs≤2^s)(hN:N f≤n)(hl:n≤2^l):∀c∈(bT f).l,c.natAbs≤2^(s+l):=fun c hc=>by
 have h1:=rH _ _ hc
 simp only [xR,List.mem_map,List.mem_range]at h1
 obtain⟨i,hi,rfl⟩:=h1
 rw [Int.natAbs_mul,Nat.pow_add]
 have h2:=SX h (i+1)
 have h3:N f=f.l.length:=rfl
 exact Nat.mul_le_mul h2 (by rw [Int.natAbs_natCast];omega)
theorem ahO{x y z:Rat}(h:(x<y∧y<z)∨(y<x∧z<y)):(if x≠0∧bZ z≠bZ x then 1 else 0:Nat)=(if x≠0∧bZ y≠bZ x then 1 else 0)+(if y≠0∧bZ z≠bZ y then 1 else 0):=by
 rcases cY x with ⟨h1,h2⟩ | ⟨h1,h2⟩ | ⟨h1,h2⟩<;>rcases cY y with ⟨h3,h4⟩ | ⟨h3,h4⟩ | ⟨h3,h4⟩<;>rcases cY z with ⟨h5,h6⟩ | ⟨h5,h6⟩ | ⟨h5,h6⟩ <;>
  rw [h2,h4,h6]<;>first
   | (exfalso;rcases h with ⟨h7,h8⟩ | ⟨h7,h8⟩<;>grind)
   | (have n1:(x≠0)=True:=eq_true (by grind)
      have n2:(y≠0)=True:=eq_true (by grind)
      simp only [n1,n2];decide)
   | (have n1:(x≠0)=False:=eq_false (by grind)
      have n2:(y≠0)=True:=eq_true (by grind)
      simp only [n1,n2];decide)
   | (have n1:(x≠0)=True:=eq_true (by grind)
      have n2:(y≠0)=False:=eq_false (by grind)
      simp only [n1,n2];decide)
def DQ(f:ZX)(t:Rat):Int:=if e t f=0 then bZ (e t (bT f))else bZ (e t f)
theorem ad3{x y:Rat}{σ:Int}(h:(σ=1∧x<y)∨(σ = -1∧y<x)):(if y=0 then σ else bZ y)=(if (if x≠0∧bZ y≠bZ x then 1 else 0:Nat)=0 then 1 else -1)*(if x=0 then σ else bZ x):=by
 rcases cY x with ⟨h1,h2⟩ | ⟨h1,h2⟩ | ⟨h1,h2⟩<;>rcases cY y with ⟨h3,h4⟩ | ⟨h3,h4⟩ | ⟨h3,h4⟩<;>rw [h2,h4]<;>first
   | (exfalso;rcases h with ⟨h7,h8⟩ | ⟨h7,h8⟩<;>grind)
   | (have n1:(x=0)=False:=eq_false (by grind)
      have n2:(y=0)=False:=eq_false (by grind)
      simp only [n1,n2,ne_eq,not_false_eq_true,true_and,if_false];decide)
   | (have n1:(x=0)=True:=eq_true (by grind)
      have n2:(y=0)=False:=eq_false (by grind)
      have:σ=1∨σ = -1:=by omega
      rcases this with rfl | rfl<;>first
        | (simp only [n1,n2,ne_eq,not_true_eq_false,false_and,if_false,if_true];decide)
        | (exfalso;rcases h with ⟨h7,h8⟩ | ⟨h7,h8⟩<;>grind))
   | (have n1:(x=0)=False:=eq_false (by grind)
      have n2:(y=0)=True:=eq_true (by grind)
      have:σ=1∨σ = -1:=by omega
      rcases this with rfl | rfl<;>first
        | (simp only [n1,n2,ne_eq,not_false_eq_true,true_and,if_false,if_true];decide)
        | (exfalso;rcases h with ⟨h7,h8⟩ | ⟨h7,h8⟩<;>grind))
structure azp(f:ZX)(B δ:Rat):Prop where
 par:∀s t,Ab s B→Ab t B→s<t→t-s≤δ→DQ f t=(if ind f s t=0 then 1 else -1)*DQ f s
def lk(s n l β:Nat):Nat:=sk (s+l) (n+n) (l+1) β+(s+l+n*(β+2))+2
theorem xZ{L:List ZX}{f:ZX}(G:wI L f){s n l β:Nat}(hf:f≠0)(hA:∀c∈f.l,c.natAbs≤2^s)(hn:N f≤n)(hl:n≤2^l)(hc:∀d,dv d f→dv d (bT f)→N d≤1){δ:Rat}(hδ:δ*2^lk s n l β≤1):Lcl L f (2^β) δ∧azp f (2^β) δ:=by
 have hA':∀c∈f.l,c.natAbs≤2^(s+l):=fun c hc=>Nat.le_trans (hA c hc) (Nat.pow_le_pow_right (by decide) (by omega))
 have hD:=an4 hA hn hl
 have hND:=n5 f
 have main:∀lo hi,Ab lo (2^β)→Ab hi (2^β)→lo<hi→hi-lo≤δ→vt L lo=vt L hi+ind f lo hi∧(e lo f=0→e hi f≠0)∧DQ f hi=(if ind f lo hi=0 then 1 else -1)*DQ f lo:=fun lo hi alo ahi hlh hw=>by
  have hδ0:0<δ:=by grind
  rw [lk,p0,p0]at hδ
  have hQ:=gL (s+l+n*(β+2))
  have hK:=gL (sk (s+l) (n+n) (l+1) β)
  generalize hQe:(2:Rat)^(s+l+n*(β+2))=Q at *
  generalize hKe:(2:Rat)^sk (s+l) (n+n) (l+1) β=κ at *
  have h22:(2:Rat)^2=4:=by rw [Rat.pow_succ,Rat.pow_succ,Rat.pow_zero];grind
  rw [h22]at hδ
  have hε:(1/κ)*κ=1:=Rat.div_mul_cancel (Rat.ne_of_gt hK)
  have hε0:0<1/κ:=(Rat.lt_div_iff hK).2 (by grind)
  generalize 1/κ=ε at *
  have hδQ:4*(δ*Q)≤ε:=by
   have h1:δ*(κ*Q*4)=(4*(δ*Q))*κ:=by grind
   rw [h1,←hε]at hδ
   exact Rat.le_of_mul_le_mul_right hδ hK
  have hin:∀x,lo≤x→x≤hi→Ab x (2^β):=fun x h1 h2=>cK alo ahi h1 h2
  by_cases hd0:bT f=0
  ·-- a constant
   have RV:N f=1:=by
    have h0:=ZX.aE.1 hf
    rcases Nat.lt_or_ge (N f) 2 with h1 | h1
    ·omega
    ·exact absurd hd0 (I5 h1)
   obtain⟨c,xI,rfl⟩:=lA RV
   have hcv:∀x,bZ (e x (K c))=bZ (c:Rat):=fun x=>by rw [zV]
   have h1:=G.const hlh (σ:=bZ (c:Rat)) (.inr (hcv lo)) (fun x _ _=>hcv x)
   have h2:ind (K c) lo hi=0:=if_neg fun h=>h.2 (by rw [hcv,hcv])
   have auA:(c:Rat)≠0:=fun h=>xI (by exact_mod_cast h)
   have hz:∀x,e x (K c)≠0:=fun x=>by rw [zV];exact auA
   exact⟨by rw [h1,h2];omega,fun h=>by rw [zV]at h;exact absurd h auA,by rw [h2,if_pos rfl,Int.one_mul,DQ,DQ,if_neg (hz _),if_neg (hz _),hcv,hcv]⟩
  have hb:=sep hf hd0 hA' hD (show N f+N (bT f)≤n+n by omega) (show n+n≤2^(l+1)by rw [Nat.pow_succ];omega) hc alo (ε:=ε) (by rw [hKe,hε];exact Rat.le_refl)
  have dsz:∀x y,lo≤x→x≤hi→lo≤y→y≤hi→Ab (dd x y f.l) Q∧Ab (cc x y f.l) Q∧Ab (dd x y (bT f).l) Q:=fun x y h1 h2 h3 h4=>by
   have g1:=ad1 hA' hn (hin x h1 h2) (hin y h3 h4)
   have g2:=ad1 hD (show N (bT f)≤n by omega) (hin x h1 h2) (hin y h3 h4)
   rw [hQe]at g1 g2
   exact⟨g1.1,g1.2,g2.1⟩
  have aCA:0≤δ*Q:=Rat.mul_nonneg (Rat.le_of_lt hδ0) (Rat.le_of_lt hQ)
  have small:∀h x,0≤h→h≤δ→Ab x Q→Ab (h*x) (δ*Q):=fun h x h1 h2 h3=>Ab.mul ⟨by grind,h2⟩ h3
  rcases hb with hb | hb
  ·-- one sign
   have w6:∀x,lo≤x→x≤hi→bZ (e x f)=bZ (e lo f)∧bZ (e lo f)≠0:=fun x h1 h2=>by
    refine fS hb hε0 fun h=>?_
    have h3:=nH lo x f.l
    have h4:=small (x-lo) _ (by grind) (by grind) (dsz lo x Rat.le_refl (by grind) h1 h2).1
    rw [←h3]at h4
    obtain⟨p1,p2⟩:=h4
    have h5:e x f-e lo f=qv x f.l-qv lo f.l:=rfl
    rw [h5]at h
    rcases h with h | h<;>grind
   have h1:=G.const hlh (σ:=bZ (e lo f)) (.inr rfl) (fun x h1 h2=>(w6 x (by grind) h2).1)
   have h2:ind f lo hi=0:=if_neg fun h=>h.2 (w6 hi (by grind) Rat.le_refl).1
   have hz:∀x,lo≤x→x≤hi→e x f≠0:=fun x h1 h2 h=>by
    obtain⟨g1,g2⟩:=w6 x h1 h2
    rw [h,jD]at g1
    exact g2 g1.symm
   exact⟨by rw [h1,h2];omega,fun h=>absurd h (hz lo Rat.le_refl (by grind)),by rw [h2,if_pos rfl,Int.one_mul,DQ,DQ,if_neg (hz _ (by grind) Rat.le_refl),if_neg (hz _ Rat.le_refl (by grind)),(w6 hi (by grind) Rat.le_refl).1]⟩
  ·-- rising or awv
   have mono:∀x y,lo≤x→x<y→y≤hi→bZ (e y f-e x f)=bZ (e lo (bT f))∧bZ (e lo (bT f))≠0:=fun x y h1 h2 h3=>by
    have g1:=nH x y f.l
    have g2:=SI x y f.l
    have g3:dd x x f.l=e x (bT f):=(akc x f).symm
    have g4:=nH lo x (bT f).l
    have b1:=small (y-x) _ (by grind) (by grind) (dsz x y h1 (by grind) (by grind) h3).2.1
    have b2:=small (x-lo) _ (by grind) (by grind) (dsz lo x Rat.le_refl (by grind) h1 (by grind)).2.2
    rw [←g2]at b1
    rw [←g4]at b2
    have h5:e x (bT f)-e lo (bT f)=qv x (bT f).l-qv lo (bT f).l:=rfl
    have h6:=fS (y:=dd x y f.l) hb hε0 fun h=>by
     obtain⟨p1,p2⟩:=b1
     obtain⟨p3,p4⟩:=b2
     rcases h with h | h<;>grind
    have h7:e y f-e x f=qv y f.l-qv x f.l:=rfl
    rw [h7,g1,sU,eM (show 0<y-x by grind),Int.one_mul]
    exact h6
   have V8:∀x y,lo≤x→x<y→y≤hi→(bZ (e lo (bT f))=1∧e x f<e y f)∨(bZ (e lo (bT f)) = -1∧e y f<e x f):=fun x y h1 h2 h3=>by
    obtain⟨g1,g2⟩:=mono x y h1 h2 h3
    rcases cY (e y f-e x f)with ⟨g3,g4⟩ | ⟨g3,g4⟩ | ⟨g3,g4⟩
    ·exact .inr ⟨by omega,by grind⟩
    ·omega
    ·exact .inl ⟨by omega,by grind⟩
   have dsg:∀x,lo≤x→x≤hi→bZ (e x (bT f))=bZ (e lo (bT f)):=fun x h1 h2=>by
    have g4:=nH lo x (bT f).l
    have b2:=small (x-lo) _ (by grind) (by grind) (dsz lo x Rat.le_refl (by grind) h1 h2).2.2
    rw [←g4]at b2
    have h5:e x (bT f)-e lo (bT f)=qv x (bT f).l-qv lo (bT f).l:=rfl
    exact(fS hb hε0 fun h=>by
     obtain⟨p3,p4⟩:=b2
     rcases h with h | h<;>grind).1
   refine⟨?_,fun h=>?_,?_⟩
   ·refine G.adJ (P:=fun x y=>lo≤x→y≤hi→vt L x=vt L y+ind f x y) (fun x y z r8 hyz p1 p2 hx hz=>?_) (fun B δ' hL x y hx hy r8 hd h1 h2=>hL.turns x y hx hy r8 hd) hlh Rat.le_refl Rat.le_refl
    rw [p1 hx (by grind),p2 (by grind) hz]
    have h1:=V8 x y hx r8 (by grind)
    have h2:=V8 y z (by grind) hyz hz
    have h3:=ahO (x:=e x f) (y:=e y f) (z:=e z f) (by
     rcases h1 with ⟨q1,q2⟩ | ⟨q1,q2⟩<;>rcases h2 with ⟨q3,q4⟩ | ⟨q3,q4⟩
     ·exact .inl ⟨q2,q4⟩
     ·omega
     ·omega
     ·exact .inr ⟨q2,q4⟩)
    have h4:ind f x z=ind f x y+ind f y z:=h3
    omega
   ·rcases V8 lo hi Rat.le_refl hlh Rat.le_refl with ⟨q1,q2⟩ | ⟨q1,q2⟩<;>grind
   ·have h1:=ad3 (V8 lo hi Rat.le_refl hlh Rat.le_refl)
    unfold DQ ind
    rw [dsg hi (by grind) Rat.le_refl]
    exact h1
 exact⟨⟨fun x y hx hy r8 hd=>(main x y hx hy r8 hd).1,fun x y hx hy r8 hd=>(main x y hx hy r8 hd).2.1⟩,⟨fun x y hx hy r8 hd=>(main x y hx hy r8 hd).2.2⟩⟩
end ZX
end Pm
namespace Pm
namespace ZX
theorem DR:∀l:List Int,∃s:Nat,∀c∈l,c.natAbs≤2^s
 | []=>⟨0,fun c hc=>by cases hc⟩
 | a::l=>by
  obtain⟨s,h⟩:=DR l
  refine⟨s+a.natAbs,fun c hc=>?_⟩
  rcases List.mem_cons.1 hc with rfl | hc
  ·have h1:c.natAbs<2^c.natAbs:=Nat.lt_two_pow_self
   exact Nat.le_trans (Nat.le_of_lt h1) (Nat.pow_le_pow_right (by decide) (by omega))
  ·exact Nat.le_trans (h c hc) (Nat.pow_le_pow_right (by decide) (by omega))
theorem OK(B:Rat):∃β:Nat,B≤2^β:=by
 have h1:=Rat.lt_floor_add_one B
 refine⟨(B.floor+1).toNat,Rat.le_trans (Rat.le_of_lt h1) ?_⟩
 have h2:((2^(B.floor+1).toNat:Int):Rat)=2^(B.floor+1).toNat:=by rw [Rat.intCast_pow];rfl
 rw [←h2]
 refine Rat.intCast_le_intCast.2 ?_
 have h3:(B.floor+1).toNat<2^(B.floor+1).toNat:=Nat.lt_two_pow_self
 have h4:((2^(B.floor+1).toNat:Nat):Int)=2^(B.floor+1).toNat:=by rw [Int.natCast_pow];rfl
 omega
theorem DT(k:Nat):∃δ:Rat,0<δ∧δ*2^k=1:=by
 have h:=gL k
 have h1:(1/2^k)*(2:Rat)^k=1:=Rat.div_mul_cancel (Rat.ne_of_gt h)
 exact⟨1/2^k,(Rat.lt_div_iff h).2 (by grind),h1⟩
theorem min2{a b:Rat}(ha:0<a)(hb:0<b):∃c:Rat,0<c∧c≤a∧c≤b:=by
 by_cases h:a≤b
 ·exact⟨a,ha,Rat.le_refl,h⟩
 ·exact⟨b,hb,by grind,Rat.le_refl⟩
theorem akj{P:Rat→Rat→Prop}(ht:∀a b c,a<b→b<c→P a b→P b c→P a c)(hs:∀B:Rat,1≤B → ∃δ:Rat,0<δ ∧ ∀a b,Ab a B→Ab b B→a<b→b-a≤δ→P a b){a b:Rat}(fK:a<b):P a b:=by
 obtain⟨B,hB,ha,hb⟩:=kT a b
 obtain⟨δ,hδ,h⟩:=hs B hB
 exact anS hδ ht h ha hb fK
theorem lip(p:ZX)(B:Rat)(hB:1≤B):∃Q:Rat,0<Q ∧ ∀a b,Ab a B→Ab b B→a≤b→Ab (e b p-e a p) ((b-a)*Q):=by
 obtain⟨S,hS,hc⟩:=AL p.l
 obtain⟨h3,_⟩:=oA hS hB p.l.length
 refine⟨D7 S B p.l.length+1,by grind,fun a b ha hb fK=>?_⟩
 have h1:=(GR hS hB ha hb p.l hc).mono (show D7 S B p.l.length≤D7 S B p.l.length+1 by grind)
 have h2:=nH a b p.l
 have h4:e b p-e a p=qv b p.l-qv a p.l:=rfl
 rw [h4,h2]
 exact Ab.mul ⟨by grind,Rat.le_refl⟩ h1
def wN(a b:ZX):Prop:=∀d,dv d a→dv d b→N d≤1
theorem auB{a b:ZX}(ha:a≠0)(hb:b≠0)(hc:wN a b)(B:Rat):∃ε:Rat,0<ε ∧ ∀t,Ab t B→j7 ε (e t a)∨j7 ε (e t b):=by
 obtain⟨s1,h1⟩:=DR a.l
 obtain⟨s2,h2⟩:=DR b.l
 obtain⟨β,hβ⟩:=OK B
 obtain⟨ε,h3,h4⟩:=DT (sk (s1+s2) (N a+N b) (N a+N b) β)
 exact⟨ε,h3,fun t ht=>sep (s:=s1+s2) (l:=N a+N b) (β:=β) ha hb (fun c hc=>Nat.le_trans (h1 c hc) (Nat.pow_le_pow_right (by decide) (by omega))) (fun c hc=>Nat.le_trans (h2 c hc) (Nat.pow_le_pow_right (by decide) (by omega))) (Nat.le_refl _) (Nat.le_of_lt Nat.lt_two_pow_self) hc (ht.mono hβ) (by rw [h4];exact Rat.le_refl)⟩
structure s7(f:ZX)(v:Rat→Nat):Prop where
 ne:f≠0
 Z4:wN f (bT f)
 g:∃L,wI L f∧v=vt L
structure azq(f:ZX)(v:Rat→Nat)(B δ:Rat):Prop where
 turns:∀s t,Ab s B→Ab t B→s<t→t-s≤δ→v s=v t+ind f s t
 simple:∀s t,Ab s B→Ab t B→s<t→t-s≤δ→e s f=0→e t f≠0
 par:∀s t,Ab s B→Ab t B→s<t→t-s≤δ→DQ f t=(if ind f s t=0 then 1 else -1)*DQ f s
def sg1(n:Nat):Int:=if n%2=0 then 1 else -1
theorem ahP(a b:Nat):sg1 (a+b)=sg1 a*sg1 b:=by
 unfold sg1
 split<;>split<;>split<;>omega
theorem SZ(f:ZX)(s t:Rat):ind f s t=0∨ind f s t=1:=by unfold ind;split<;>simp
namespace s7
variable {f:ZX} {v:Rat→Nat} (S:s7 f v)
include S
theorem sZ(B:Rat):∃δ:Rat,0<δ∧azq f v B δ:=by
 obtain⟨L,G,rfl⟩:=S.g
 obtain⟨s,h1⟩:=DR f.l
 obtain⟨β,hβ⟩:=OK B
 obtain⟨δ,h3,h4⟩:=DT (lk s (N f) (N f) β)
 obtain⟨h5,h6⟩:=xZ G S.ne h1 (Nat.le_refl _) (Nat.le_of_lt Nat.lt_two_pow_self) S.Z4 (δ:=δ) (by rw [h4];exact Rat.le_refl)
 exact⟨δ,h3,fun s t hs ht=>h5.turns s t (hs.mono hβ) (ht.mono hβ),fun s t hs ht=>h5.simple s t (hs.mono hβ) (ht.mono hβ),fun s t hs ht=>h6.par s t (hs.mono hβ) (ht.mono hβ)⟩
theorem cR{a b:Rat}(fK:a≤b):v b≤v a:=by
 obtain⟨L,G,rfl⟩:=S.g
 exact G.cR fK
theorem const{a b:Rat}(fK:a<b){σ:Int}(h0:e a f=0∨bZ (e a f)=σ)(h1:∀x,a<x→x≤b→bZ (e x f)=σ):v a=v b:=by
 obtain⟨L,G,rfl⟩:=S.g
 exact G.const fK h0 h1
theorem flat{a b:Rat}(fK:a<b)(he:v a=v b):e b f≠0∧(e a f≠0→bZ (e b f)=bZ (e a f)):=by
 obtain⟨L,G,rfl⟩:=S.g
 exact G.flat fK he
theorem root{s t:Rat}(iQ:s<t)(h0:e t f=0):v t<v s:=by
 obtain⟨L,G,rfl⟩:=S.g
 exact G.root iQ h0
theorem bg{a b:Rat}(hb:Bg a b f)(fK:a<b):v a=v b:=by
 obtain⟨L,G,rfl⟩:=S.g
 exact G.bg hb fK
theorem par{s t:Rat}(h:s≤t):DQ f t=sg1 (v s-v t)*DQ f s:=by
 rcases Rat.le_iff_lt_or_eq.1 h with h1 | rfl
 ·refine akj (P:=fun a b=>DQ f b=sg1 (v a-v b)*DQ f a) (fun a b c h1 h2 p1 p2=>?_) (fun B hB=>?_) h1
  ·have:=S.cR (Rat.le_of_lt h1)
   have:=S.cR (Rat.le_of_lt h2)
   rw [p2,p1,show v a-v c=(v a-v b)+(v b-v c)by omega,ahP];grind
  ·obtain⟨δ,hδ,hN⟩:=S.sZ B
   refine⟨δ,hδ,fun a b ha hb fK hd=>?_⟩
   have h1:=hN.turns a b ha hb fK hd
   have h2:=hN.par a b ha hb fK hd
   rw [h2,show v a-v b=ind f a b by omega]
   rcases SZ f a b with h3 | h3<;>rw [h3]<;>rfl
 ·rw [Nat.sub_self];show _=1*_;omega
end s7
theorem ahQ{f:ZX}{t:Rat}(h:e t f≠0):∃r:Rat,0<r ∧ ∀x,t-r≤x→x≤t+r→bZ (e x f)=bZ (e t f):=by
 obtain⟨B,hB,ha,hb⟩:=kT (t-1) (t+1)
 obtain⟨Q,hQ,hl⟩:=lip f B hB
 have hε:∃ε:Rat,0<ε∧j7 ε (e t f):=by
  by_cases h0:0≤e t f
  ·exact⟨e t f,by grind, .inr Rat.le_refl⟩
  ·exact⟨-e t f,by grind, .inl (by grind)⟩
 obtain⟨ε,hε,KX⟩:=hε
 have h1:ε/(2*Q)*(2*Q)=ε:=Rat.div_mul_cancel (by grind)
 have h2:0<ε/(2*Q):=(Rat.lt_div_iff (by grind)).2 (by grind)
 generalize ε/(2*Q)=η at *
 obtain⟨r,hr,B6,bS⟩:=min2 (show (0:Rat)<1 by decide) h2
 refine⟨r,hr,fun x hx hy=>?_⟩
 have FA:Ab x B:=cK ha hb (by grind) (by grind)
 have ht':Ab t B:=cK ha hb (by grind) (by grind)
 have hrQ:r*Q≤η*Q:=Rat.mul_le_mul_of_nonneg_right bS (Rat.le_of_lt hQ)
 refine(fS KX hε fun hn=>?_).1
 by_cases hxt:t≤x
 ·have h3:=hl t x ht' FA hxt
  have h4:(x-t)*Q≤r*Q:=Rat.mul_le_mul_of_nonneg_right (by grind) (Rat.le_of_lt hQ)
  obtain⟨p1,p2⟩:=h3
  rcases hn with hn | hn<;>grind
 ·have h3:=hl x t FA ht' (by grind)
  have h4:(t-x)*Q≤r*Q:=Rat.mul_le_mul_of_nonneg_right (by grind) (Rat.le_of_lt hQ)
  obtain⟨p1,p2⟩:=h3
  rcases hn with hn | hn<;>grind
namespace s7
variable {f:ZX} {v:Rat→Nat} (S:s7 f v)
include S
theorem lft{t:Rat}(h:e t f≠0){a:Rat}(hat:a<t):∃s,a≤s∧s<t∧v s=v t∧bZ (e s f)=bZ (e t f):=by
 obtain⟨B,hB,ha,hb⟩:=kT a t
 obtain⟨δ,hδ,hN⟩:=S.sZ B
 obtain⟨r1,B6,hc⟩:=ahQ h
 obtain⟨r2,bS,h1,h2⟩:=min2 hδ (show 0<t-a by grind)
 obtain⟨r,hr,h3,h4⟩:=min2 B6 bS
 have hs:Ab (t-r) B:=cK ha hb (by grind) (by grind)
 have g1:=hN.turns (t-r) t hs hb (by grind) (by grind)
 have g5:=hc (t-r) (by grind) (by grind)
 have g4:ind f (t-r) t=0:=if_neg fun hh=>hh.2 g5.symm
 exact⟨t-r,by grind,by grind,by omega,g5⟩
theorem small{s t Q:Rat}(iQ:s<t)(hv:v s≠v t)(hQ:0<Q)(hl:∀a b,s≤a→a≤b→b≤t→Ab (e b f-e a f) ((b-a)*Q)){x:Rat}(hx:s≤x)(hy:x≤t):Ab (e x f) ((t-s)*Q):=by
 refine Classical.byContradiction fun hn=>hv ?_
 have key:∀y,s≤y→y≤t→bZ (e y f)=bZ (e x f):=fun y h1 h2=>by
  have h3:Ab (e y f-e x f) ((t-s)*Q):=by
   by_cases r8:x≤y
   ·exact(hl x y hx r8 h2).mono (Rat.mul_le_mul_of_nonneg_right (by grind) (Rat.le_of_lt hQ))
   ·have h4:=(hl y x h1 (by grind) hy).mono (Rat.mul_le_mul_of_nonneg_right (show x-y≤t-s by grind) (Rat.le_of_lt hQ))
    obtain⟨p1,p2⟩:=h4
    exact⟨by grind,by grind⟩
  obtain⟨p1,p2⟩:=h3
  have h0:0≤(t-s)*Q:=Rat.mul_nonneg (by grind) (Rat.le_of_lt hQ)
  generalize (t-s)*Q=M at *
  rcases cY (e x f)with ⟨h5,h6⟩ | ⟨h5,h6⟩ | ⟨h5,h6⟩
  ·rw [h6]
   refine gI ?_
   have:e x f < -M:=Rat.not_le.1 fun h=>hn ⟨h,by grind⟩
   grind
  ·exact absurd ⟨by grind,by grind⟩ hn
  ·rw [h6]
   refine eM ?_
   have:M<e x f:=Rat.not_le.1 fun h=>hn ⟨by grind,h⟩
   grind
 exact S.const iQ (σ:=bZ (e x f)) (.inr (key s Rat.le_refl (Rat.le_of_lt iQ))) fun y h1 h2=>key y (Rat.le_of_lt h1) h2
end s7
theorem G1{p q:Prop}[Decidable p][Decidable q](h:p↔q):(if p then 1 else 0:Nat)=if q then 1 else 0:=by
 by_cases hp:p
 ·rw [if_pos hp,if_pos (h.1 hp)]
 ·rw [if_neg hp,if_neg (fun hq=>hp (h.2 hq))]
theorem x6{c x y z:Rat}(hc:c≠0)(h:c*x=y*z):bZ x=bZ c*(bZ y*bZ z):=by
 have h1:bZ c*bZ x=bZ y*bZ z:=by rw [←sU,←sU,h]
 rw [←h1]
 rcases cY c with ⟨h2,h3⟩ | ⟨h2,h3⟩ | ⟨h2,h3⟩
 ·rw [h3];omega
 ·exact absurd h2 hc
 ·rw [h3];omega
theorem s7.mul{f g h:ZX}{v w u:Rat→Nat}(Sf:s7 f v)(Sg:s7 g w)(Sh:s7 h u){c:Int}(hc:c≠0)(he:K c*f=g*h)(azr:wN g h){s t:Rat}(iQ:s≤t):v s+w t+u t=v t+w s+u s:=by
 rcases Rat.le_iff_lt_or_eq.1 iQ with h1 | rfl
 ·refine akj (P:=fun s t=>v s+w t+u t=v t+w s+u s) (fun a b c h1 h2 p1 p2=>by omega) (fun B hB=>?_) h1
  obtain⟨δ1,hδ1,N1⟩:=Sf.sZ B
  obtain⟨δ2,hδ2,N2⟩:=Sg.sZ B
  obtain⟨δ3,hδ3,N3⟩:=Sh.sZ B
  obtain⟨ε,hε,azv⟩:=auB Sg.ne Sh.ne azr B
  obtain⟨Q1,hQ1,l1⟩:=lip g B hB
  obtain⟨Q2,hQ2,l2⟩:=lip h B hB
  have hQ:0<Q1+Q2:=by grind
  have e1:ε/(2*(Q1+Q2))*(2*(Q1+Q2))=ε:=Rat.div_mul_cancel (by grind)
  have e2:0<ε/(2*(Q1+Q2)):=(Rat.lt_div_iff (by grind)).2 (by grind)
  generalize ε/(2*(Q1+Q2))=δ4 at *
  obtain⟨m1,KG,a1,a2⟩:=min2 hδ1 hδ2
  obtain⟨m2,hm2,a3,a4⟩:=min2 hδ3 e2
  obtain⟨δ,hδ,a5,a6⟩:=min2 KG hm2
  refine⟨δ,hδ,fun s t hs ht dN hd=>?_⟩
  have t1:=N1.turns s t hs ht dN (by grind)
  have t2:=N2.turns s t hs ht dN (by grind)
  have t3:=N3.turns s t hs ht dN (by grind)
  have hcq:(c:Rat)≠0:=fun h0=>hc (Rat.intCast_eq_zero_iff.1 h0)
  have sgm:∀x,bZ (e x f)=bZ (c:Rat)*(bZ (e x g)*bZ (e x h)):=fun x=>by
   refine x6 hcq ?_
   rw [←iJ,←he,iJ,zV]
  have dl:∀Q,0<Q→Q≤Q1+Q2→(t-s)*Q<ε:=fun Q h0 h1=>by
   have h2:(t-s)*Q≤δ4*(Q1+Q2):=by
    have h3:=Rat.mul_le_mul_of_nonneg_right (show t-s≤δ4 by grind) (Rat.le_of_lt h0)
    have h4:=Rat.mul_le_mul_of_nonneg_left h1 (Rat.le_of_lt e2)
    grind
   have h5:δ4*(Q1+Q2)*2=ε:=by rw [←e1];grind
   grind
  have sc:=cY (c:Rat)
  have ED:bZ (c:Rat)=1∨bZ (c:Rat) = -1:=by
   rcases sc with ⟨_,h⟩ | ⟨h,_⟩ | ⟨_,h⟩
   ·exact .inr h
   ·exact absurd h hcq
   ·exact .inl h
  have ez:∀(p:ZX) x,(e x p≠0)=(bZ (e x p)≠0):=fun p x=>propext ⟨fun h h0=>h (eX.1 h0),fun h h0=>h (by rw [h0];exact jD)⟩
  rcases azv s hs with hb | hb
  ·have hs2:=fS (y:=e t g) hb hε fun hn=>by
    obtain⟨p1,p2⟩:=l1 s t hs ht (Rat.le_of_lt dN)
    have:=dl Q1 hQ1 (by grind)
    rcases hn with hn | hn<;>grind
   have i1:ind g s t=0:=if_neg fun hh=>hh.2 hs2.1
   have i2:ind f s t=ind h s t:=by
    refine G1 ?_
    rw [ez f s,ez h s,sgm s,sgm t,hs2.1]
    have:=n9 (e s g)
    have h7:bZ (c:Rat)*bZ (e s g)=1∨bZ (c:Rat)*bZ (e s g) = -1:=by
     rcases ED with h | h<;>rw [h]<;>omega
    rw [←Int.mul_assoc,←Int.mul_assoc]
    rcases h7 with h | h<;>rw [h]
    ·simp only [Int.one_mul]
    ·simp only [Int.neg_mul,Int.one_mul,ne_eq,Int.neg_eq_zero,Int.neg_inj]
   omega
  ·have hs2:=fS (y:=e t h) hb hε fun hn=>by
    obtain⟨p1,p2⟩:=l2 s t hs ht (Rat.le_of_lt dN)
    have:=dl Q2 hQ2 (by grind)
    rcases hn with hn | hn<;>grind
   have i1:ind h s t=0:=if_neg fun hh=>hh.2 hs2.1
   have i2:ind f s t=ind g s t:=by
    refine G1 ?_
    rw [ez f s,ez g s,sgm s,sgm t,hs2.1]
    have:=n9 (e s h)
    have h7:bZ (c:Rat)*bZ (e s h)=1∨bZ (c:Rat)*bZ (e s h) = -1:=by
     rcases ED with h | h<;>rw [h]<;>omega
    have cm:∀y:Int,bZ (c:Rat)*(y*bZ (e s h))=bZ (c:Rat)*bZ (e s h)*y:=fun y=>by grind
    rw [cm,cm]
    rcases h7 with h | h<;>rw [h]
    ·simp only [Int.one_mul]
    ·simp only [Int.neg_mul,Int.one_mul,ne_eq,Int.neg_eq_zero,Int.neg_inj]
   omega
 ·omega
structure s8(f:ZX)(v:Rat→Nat)(lo hi:Rat):Prop where
 S:s7 f v
 k:(lo=hi∧e lo f=0)∨(lo<hi∧v lo=v hi+1)
def jE(v:Rat→Nat)(lo hi t:Rat):Prop:=hi≤t∨(lo<t∧v t<v lo)
noncomputable def cr(U:Rat→Prop)(t:Rat):Int:=open Classical in if U t then(if ∃s,s<t∧U s then -1 else 0)else 1
theorem x7{U:Rat→Prop}{t:Rat}:cr U t=1↔¬U t:=by
 unfold cr
 split
 ·rename_i h
  split<;>simp [h]
 ·rename_i h
  simp [h]
theorem x8{U:Rat→Prop}(hU:∀s t,U s→s≤t→U t){t:Rat}:cr U t = -1 ↔ ∃s,s<t∧U s:=by
 unfold cr
 split
 ·split
  ·rename_i h;simp [h]
  ·rename_i h;simp [h]
 ·rename_i h
  refine⟨fun h1=>absurd h1 (by decide),fun⟨s,h1,h2⟩=>absurd (hU s t h2 (Rat.le_of_lt h1)) h⟩
theorem wO{U:Rat→Prop}{t:Rat}:cr U t=0↔U t ∧ ∀s,s<t→¬U s:=by
 unfold cr
 split
 ·rename_i h
  split
  ·rename_i h2
   refine⟨fun h1=>absurd h1 (by decide),fun⟨_,h3⟩=>?_⟩
   obtain⟨s,h4,h5⟩:=h2
   exact absurd h5 (h3 s h4)
  ·rename_i h2
   exact⟨fun _=>⟨h,fun s h3 h4=>h2 ⟨s,h3,h4⟩⟩,fun _=>rfl⟩
 ·rename_i h
  exact⟨fun h1=>absurd h1 (by decide),fun h1=>absurd h1.1 h⟩
noncomputable def cu(U V:Rat→Prop):Int:=open Classical in if ∃t,U t∧¬V t then -1 else if ∃t,V t∧¬U t then 1 else 0
theorem ahR{U V:Rat→Prop}:cu U V=0 ↔ ∀t,U t↔V t:=by
 unfold cu
 split
 ·rename_i h
  refine⟨fun h1=>absurd h1 (by decide),fun h1=>?_⟩
  obtain⟨t,h2,h3⟩:=h
  exact absurd ((h1 t).1 h2) h3
 ·rename_i h
  split
  ·rename_i h'
   refine⟨fun h1=>absurd h1 (by decide),fun h1=>?_⟩
   obtain⟨t,h2,h3⟩:=h'
   exact absurd ((h1 t).2 h2) h3
  ·rename_i h'
   exact⟨fun _ t=>⟨fun h1=>Classical.byContradiction fun h2=>h ⟨t,h1,h2⟩,fun h1=>Classical.byContradiction fun h2=>h' ⟨t,h1,h2⟩⟩,fun _=>rfl⟩
theorem kU{v:Rat→Nat}{lo hi:Rat}:jE v lo hi hi:=.inl Rat.le_refl
namespace s8
variable {f:ZX} {v:Rat→Nat} {lo hi:Rat} (A:s8 f v lo hi)
include A
theorem le:lo≤hi:=by
 rcases A.k with ⟨h,_⟩ | ⟨h,_⟩
 ·rw [h];exact Rat.le_refl
 ·exact Rat.le_of_lt h
theorem up{s t:Rat}(h:jE v lo hi s)(iQ:s≤t):jE v lo hi t:=by
 rcases h with h | ⟨h1,h2⟩
 ·exact .inl (by grind)
 ·have:=A.S.cR iQ
  exact .inr ⟨by grind,by omega⟩
theorem oN{t:Rat}(h:t<lo∨(t=lo∧lo<hi)):¬jE v lo hi t:=by
 have:=A.le
 rintro(h1 | ⟨h1,_⟩)<;>grind
theorem auC(t:Rat):cr (jE v lo hi) t=if lo=hi then(if lo<t then -1 else if t<lo then 1 else 0)else if t≤lo then 1 else if hi<t then -1 else if v lo=v t then 1 else if e t f=0 then 0 else -1:=by
 have hup:=fun s t (h:jE v lo hi s) (h':s≤t)=>A.up h h'
 have hle:=A.le
 split
 ·rename_i h
  subst h
  have hU:∀t,jE v lo lo t↔lo≤t:=fun t=>⟨fun h=>by rcases h with h | h<;>grind,fun h => .inl h⟩
  split
  ·exact(x8 hup).2 ⟨lo,by assumption, .inl Rat.le_refl⟩
  ·split
   ·exact x7.2 (fun h=>by have:=(hU t).1 h;grind)
   ·exact wO.2 ⟨.inl (by grind),fun s h1 h2=>by have:=(hU s).1 h2;grind⟩
 ·rename_i nJ
  have dN:lo<hi:=by grind
  have hk:v lo=v hi+1:=by
   rcases A.k with ⟨h,_⟩ | ⟨_,h⟩
   ·exact absurd h nJ
   ·exact h
  split
  ·rename_i h
   exact x7.2 (A.oN (by grind))
  ·rename_i h1
   split
   ·rename_i h2
    exact(x8 hup).2 ⟨hi,h2,kU⟩
   ·rename_i h2
    have b1:=A.S.cR (show lo≤t by grind)
    have b2:=A.S.cR (show t≤hi by grind)
    split
    ·rename_i h3
     refine x7.2 ?_
     rintro(h4 | ⟨_,h4⟩)
     ·have:t=hi:=by grind
      subst this;omega
     ·omega
    ·rename_i h3
     split
     ·rename_i h4
      refine wO.2 ⟨.inr ⟨by grind,by omega⟩,fun s h5 h6=>?_⟩
      have h7:=A.S.root h5 h4
      rcases h6 with h6 | ⟨h6,h8⟩
      ·grind
      ·omega
     ·rename_i h4
      obtain⟨s,h5,h6,h7,_⟩:=A.S.lft h4 (show lo<t by grind)
      refine(x8 hup).2 ⟨s,h6, .inr ⟨?_,by omega⟩⟩
      rcases Rat.le_iff_lt_or_eq.1 h5 with h8 | rfl
      ·exact h8
      ·omega
theorem half{m:Rat}(h1:lo<m)(h2:m<hi):(v m<v lo→s8 f v lo m ∧ ∀t,jE v lo m t↔jE v lo hi t)∧(¬v m<v lo→s8 f v m hi ∧ ∀t,jE v m hi t↔jE v lo hi t):=by
 have hk:v lo=v hi+1:=by
  rcases A.k with ⟨h,_⟩ | ⟨_,h⟩
  ·grind
  ·exact h
 have b1:=A.S.cR (Rat.le_of_lt h1)
 have b2:=A.S.cR (Rat.le_of_lt h2)
 refine⟨fun h=>⟨⟨A.S, .inr ⟨h1,by omega⟩⟩,fun t=>⟨?_,?_⟩⟩,fun h=>⟨⟨A.S, .inr ⟨h2,by omega⟩⟩,fun t=>⟨?_,?_⟩⟩⟩
 ·rintro(h3 | h3)
  ·have:=A.S.cR h3
   exact .inr ⟨by grind,by omega⟩
  ·exact .inr h3
 ·rintro(h3 | h3)
  ·exact .inl (by grind)
  ·exact .inr h3
 ·rintro(h3 | ⟨h3,h4⟩)
  ·exact .inl h3
  ·exact .inr ⟨by grind,by omega⟩
 ·rintro(h3 | ⟨h3,h4⟩)
  ·exact .inl h3
  ·refine .inr ⟨?_,by omega⟩
   refine Rat.not_le.1 fun h5=>?_
   have:=A.S.cR h5
   omega
theorem exact(h:e hi f=0):s8 f v hi hi ∧ ∀t,jE v hi hi t↔jE v lo hi t:=by
 refine⟨⟨A.S, .inl ⟨rfl,h⟩⟩,fun t=>⟨?_,?_⟩⟩
 ·rintro(h3 | ⟨h3,_⟩)
  ·exact .inl h3
  ·exact .inl (by grind)
 ·rintro(h3 | ⟨h3,h4⟩)
  ·exact .inl h3
  ·refine .inl (Rat.not_lt.1 fun h5=>?_)
   have h6:=A.S.root h5 h
   rcases A.k with ⟨h7,_⟩ | ⟨_,h7⟩
   ·grind
   ·omega
end s8
end ZX
end Pm
namespace Pm
open Go Go.RowKit
section
variable {E:Env} {m:Nat} {G:Gs} {w0:World} {S0:dX}
def mx3(p q r:PV)(K:PV→Prop):Prop:=∃k a b c,p = .int k a∧q = .int k b∧r = .int k c∧K (.int k (max (max a b) c))
@[simp] theorem awx{k:IntKind}{a b c:Int}{K:PV→Prop}:mx3 (.int k a) (.int k b) (.int k c) K=K (.int k (max (max a b) c)):=by
 apply propext
 constructor
 ·rintro⟨k',a',b',c',h1,h2,h3,h⟩
  cases h1;cases h2;cases h3;exact h
 ·exact fun h=>⟨k,a,b,c,rfl,rfl,rfl,h⟩
def auD(o:Oper)(K:PS→Prop)(σ:PS):Prop:=
 match o.op with
 | .call { callee:=.builtin .max,args:=⟨[x,y,z]⟩,argTypes:=_ }=>mx3 (aO σ.f x) (aO σ.f y) (aO σ.f z) fun v=>K (σ.put o.dst v)
 | _=>False
end
@[simp] theorem auE{K:PS→Prop}{f:Nat→PV}{rows:Rows}{clk:Nat}{d:Option Tmp}{ty:TypeId}{pos:String}{af:Array Edge}{ts:Array TypeId}{x y z:Operand} :
  auD ⟨d, .call { callee:=.builtin .max,args:=⟨[x,y,z]⟩,argTypes:=ts },ty,pos,af,none⟩ K ⟨f,rows,clk⟩=mx3 (aO f x) (aO f y) (aO f z) fun v=>K ⟨put f d v,rows,clk⟩:=rfl
section
variable {E:Env} {w0:World} {S0:dX} {n:Nat} {G:Gs}
theorem E4{id tl:Nat}{ops:Array Oper}{T:PS→Prop}{Q:Exit→Act→World→Prop}(gO:qW E n tl ops true=true)(htl:tl≠0){σ:PS}{a:Act}{w:World}
  (h:aM E ops.toList σ.clock 0 (ops.toList.take (ops.size-tl)) T ⟨σ.f,σ.rows,fun _ _=>False,fun _ _=>False⟩) (hR:Rel w0 S0 n G σ a w)
  (hT:∀σ' a' w',T σ'→Rel w0 S0 n G σ' a' w'→wpList E.P ops Q (ops.toList.drop (ops.size-tl)) a' w'):(Code.region id ops true).wp E.P Q a w:=by
 simp only [qW,Bool.and_eq_true,Bool.not_true,Bool.false_or]at gO
 obtain⟨akZ,tK,gO⟩:=gO
 have hd:∀o,o∈ops → ∀t,o.dst=some t→t<n:=by
  intro o ho t ht
  have:=Array.all_eq_true_iff_forall_mem.1 akZ o ho
  simpa [ht]using this
 refine wp_region_any E.mixed ?_
 have HT:=hR.drew
 have hU0:∀k (l:Array Bool),oT w0 S0 n G (Ul E ops σ.clock k l) σ.f σ.rows a { w with drawn:=w.drawn+1 }:=fun k l=>HT.mono fun v hv => .inl hv
 have afw:∀(l:List Oper),tU E l=true → ∀(i:Nat) (oi:Oper),l[i]? = some oi→dO E oi.op=true→oi.dst.isSome=true:=fun l h i oi hi hn=>by
  have:=List.all_eq_true.1 h oi (List.mem_of_getElem? hi)
  rw [hn]at this;simp at this;exact Option.isSome_iff_exists.2 (by obtain⟨x,hx⟩:=Option.isSome_iff_exists.1 this.1;exact⟨x,hx⟩)
 rw [if_neg htl]at gO tK
 have pK:∀i oi,i<ops.size-tl→ops[i]? = some oi→dO E oi.op=true→oi.dst.isSome=true:=fun i oi h1 hi=>afw _ tK i oi (by rw [List.getElem?_take,if_pos h1];simpa using hi)
 simp only [Bool.and_eq_true,decide_eq_true_eq]at gO
 obtain⟨hle,hB⟩:=gO
 simp only [Region.lexTailB,Bool.and_eq_true,decide_eq_true_eq]at hB
 obtain⟨⟨⟨⟨axf,BL⟩,hs⟩,hc⟩,ak0⟩:=hB
 have hl:=oX (c0:=σ.clock) (ops.toList.take (ops.size-tl)) 0 _ _ (fun j hj=>by
  have hj':j<ops.size-tl:=by simpa using hj
  simp [hj']) tK (by simp [rk]) h
 have aa5:HeadInv .any ops (ops.size-tl) (Array.replicate ops.size false):=
  ⟨by simp,fun j oj _ hl=>(by rw [getD_replicate_false]at hl;cases hl),fun t _ ht=>getD_in (by simpa using ht) (getD_replicate_false _ _)⟩
 have wZ:(ops.toList.take (ops.size-tl)).length=ops.size-tl:=by simp
 have hdl:(ops.toList.drop (ops.size-tl)).length=ops.size-(ops.size-tl):=by simp
 have H:=r9 (E:=E) (md:=.any) (n:=ops.size-tl) (g:=ops.size-(ops.size-tl)) pK (fun aZ inv i hi T3 t ht=>tail_waits hs hc BL inv _ i rfl hi T3 t ht) (ops.toList.take (ops.size-tl)) 0 _ _ (fun j hj=>by
  rw [wZ]at hj
  simp [hj]) (by rw [wZ];simp) aa5 (by rw [wZ];exact ak0) hl
 have:=lP (E:=E) (md:=.any) (g:=ops.size-(ops.size-tl)) (Q:=Q) (m:=n) hd (fun aZ st a' w' hL k8=>by
  obtain⟨h1,h2⟩:=hL
  have h3:=hT _ a' w' h2 (k8.mono fun v hv=>by have:=P9 hv;simpa using this)
  have h4:=wpAny_of_seq (md:=.any) (Q':=Q) (ops.toList.drop (ops.size-tl)) (ops.size-tl) aZ a' w' (fun j=>by simp [List.getElem?_drop]) (by rw [hdl];exact h1) h3
  rwa [hdl]at h4) _ _ _ _ _ (by simp) H (hU0 _ _)
 rw [wZ,show ops.size-tl+(ops.size-(ops.size-tl))=ops.size by omega]at this
 exact this
end
theorem W.auF{E:Env}{n:Nat}{tl:Nat→Nat}{Q:PX→PS→Prop}{f:Nat→PV}{rows:Rows}{clk:Nat}{id:Nat}{ops:List Oper}{y:Code}(m:Nat){o:Oper}{r:List Oper}(hm:tl id=m+1)(ho:ops.drop (ops.length-(m+1))=o::r)(hg:o.guard=none)
  (h:∀K:PS→Prop,(∀σ,W E n tl y Q σ→K σ)→go (aM E ops clk 0 (ops.take (ops.length-(m+1))) (fun σ=>EY E o (aL E ops r K) σ) ⟨f,rows,fun _ _=>False,fun _ _=>False⟩)):W E n tl (.seq (.region id ops.toArray true) y) Q ⟨f,rows,clk⟩:=by
 refine W.seq ?_
 intro gO w0 S0 G a w Q' hR hQ
 have an6:qW E n (tl id) ops.toArray true=true:=by simpa [eV]using gO
 have hd:∀o∈ops,∀t,o.dst=some t→t<n:=fun o ho t ht=>by
  simp only [qW,Bool.and_eq_true]at an6
  have:=Array.all_eq_true_iff_forall_mem.1 an6.1 o (by simpa using ho)
  simpa [ht]using this
 have h1:=h (fun σ=>W E n tl y Q σ) fun _ h=>h
 have oW:∀x∈o::r,x∈ops:=fun x hx=>by rw [←ho]at hx;exact List.mem_of_mem_drop hx
 refine E4 (T:=fun σ=>EY E o (aL E ops r (fun σ=>W E n tl y Q σ)) σ) an6 (by omega) (by rw [hm];exact h1) hR fun σ' a' w' hT k8=>?_
 rw [hm]
 have e:ops.toArray.toList.drop (ops.toArray.size-(m+1))=o::r:=by simpa using ho
 rw [e]
 unfold wpList
 rw [if_pos (by simp [Region.wanted,hg])]
 refine .inl (uK hT k8 (hd o (oW o (by simp))) fun σ2 a2 w2 hk hR2=>?_)
 exact iC (E:=E) (ops:=ops.toArray) (fun σ3 a3 w3 hk3 hR3=>hQ .normal σ3 a3 w3 hk3 hR3) _ σ2 a2 w2 (fun o ho=>hd o (oW o (by simp [ho]))) hk hR2
end Pm
namespace Go.Proofs.YtiobceocpabjdaaGreat
open Go Pm
open ZX hiding N W
theorem V9{α β:Type}{c:Prop}[Decidable c](f g:α→β)(x:α):(if c then f else g) x=if c then f x else g x:=by split<;>rfl
def KL(v:Rat→Nat):Nat→Rat→Rat→List (Rat × Rat)
 | 0,lo,hi=>if v lo=v hi then []else [(lo,hi)]
 | k+1,lo,hi=>if v lo=v hi then []else if v lo=v hi+1 then [(lo,hi)]else KL v k lo ((lo+hi)/2)++KL v k ((lo+hi)/2) hi
theorem x9{lo hi:Rat}(h:lo<hi):lo<(lo+hi)/2∧(lo+hi)/2<hi:=by
 have h1:(lo+hi)/2*2=lo+hi:=Rat.div_mul_cancel (by decide)
 exact⟨by grind,by grind⟩
theorem wP{lo hi δ:Rat}{k:Nat}(h:hi-lo≤δ*2^(k+1)):(lo+hi)/2-lo≤δ*2^k∧hi-(lo+hi)/2≤δ*2^k:=by
 have h1:(lo+hi)/2*2=lo+hi:=Rat.div_mul_cancel (by decide)
 rw [Rat.pow_succ]at h
 generalize (2:Rat)^k=p at *
 exact⟨by grind,by grind⟩
structure Gr(D:Nat)(B:Rat)(j:Nat)(q:Rat):Prop where
 z:∃z:Int,q*((D*2^j:Nat):Int)=(z:Rat)
 b:Ab q B
theorem Gr.mono{D:Nat}{B q:Rat}{i j:Nat}(h:Gr D B i q)(hij:i≤j):Gr D B j q:=by
 obtain⟨⟨z,hz⟩,hb⟩:=h
 obtain⟨k,rfl⟩:∃k,j=i+k:=⟨j-i,by omega⟩
 refine⟨⟨z*(2^k:Nat),?_⟩,hb⟩
 rw [Rat.intCast_mul,←hz,Nat.pow_add,←Nat.mul_assoc,Int.natCast_mul (D*2^i),Rat.intCast_mul]
 grind
theorem Gr.KI{D:Nat}{B p q:Rat}{j:Nat}(hp:Gr D B j p)(hq:Gr D B j q):Gr D B (j+1) ((p+q)/2):=by
 obtain⟨⟨y,hy⟩,b1,b2⟩:=hp
 obtain⟨⟨z,hz⟩,b3,b4⟩:=hq
 have h1:(p+q)/2*2=p+q:=Rat.div_mul_cancel (by decide)
 refine⟨⟨y+z,?_⟩,by grind,by grind⟩
 rw [Rat.intCast_add,←hy,←hz,Nat.pow_succ,←Nat.mul_assoc,Int.natCast_mul (D*2^j),Rat.intCast_mul]
 have h2:(((2:Nat):Int):Rat)=2:=rfl
 rw [h2]
 generalize (((D*2^j:Nat):Int):Rat)=M at *
 grind
theorem Gr.sq{D d β j:Nat}{q:Rat}(h:Gr D (2^β) j q)(h0:1≤D)(hD:D≤2^d):SQ (β+d+j+1) q:=by
 obtain⟨⟨z,hz⟩,hb⟩:=h
 have hM:1≤D*2^j:=Nat.mul_pos h0 (Nat.two_pow_pos _)
 have hM2:D*2^j≤2^(d+j):=by rw [Nat.pow_add];exact Nat.mul_le_mul_right _ hD
 have hMq:(0:Rat)<(((D*2^j:Nat):Int):Rat):=Rat.intCast_pos.2 (by omega)
 have hzb:z.natAbs≤2^(β+d+j):=by
  have h1:Ab (z:Rat) (((2^β*(D*2^j):Nat):Int):Rat):=by
   rw [←hz,Int.natCast_mul (2^β),Rat.intCast_mul,JW]
   exact hb.mul ⟨by grind,Rat.le_refl⟩
  obtain⟨h2,h3⟩:=h1
  rw [←Rat.intCast_neg]at h2
  have h4:=Rat.intCast_le_intCast.1 h2
  have h5:=Rat.intCast_le_intCast.1 h3
  have h6:2^β*(D*2^j)≤2^(β+d+j):=by
   rw [Nat.add_assoc,Nat.pow_add];exact Nat.mul_le_mul_left _ hM2
  omega
 have e:=JP (n:=z) (d:=((D*2^j:Nat):Int)) (by omega) hz.symm
 have nJ:((D*2^j:Nat):Int)≠0:=by omega
 have hnn:=sI z ((D*2^j:Nat):Int) nJ
 have K8:=sJ z ((D*2^j:Nat):Int) nJ
 rw [if_neg (by omega)]at hnn K8
 rw [e]at hnn K8
 have b1:q.num.natAbs≤z.natAbs:=by rw [hnn];exact Int.natAbs_ediv_le_natAbs _ _
 have b2:((q.den:Int)).natAbs≤D*2^j:=by rw [K8];exact Nat.le_trans (Int.natAbs_ediv_le_natAbs _ _) (by omega)
 have hp:∀i,2^i<2^(i+1):=fun i=>Nat.pow_lt_pow_right (by decide) (by omega)
 refine⟨dW (by decide) (Nat.lt_of_le_of_lt (Nat.le_trans b1 hzb) (hp _)),dW (by decide) (Nat.lt_of_le_of_lt (Nat.le_trans b2 hM2) ?_),by omega⟩
 exact Nat.pow_lt_pow_right (by decide) (by omega)
structure Cut(v:Rat→Nat)(B δ:Rat):Prop where
 cR:∀a b,a≤b→v b≤v a
 sZ:∀a b,Ab a B→Ab b B→a<b→b-a≤δ→v a≤v b+1
theorem Cut.leaf{v:Rat→Nat}{B δ:Rat}(C:Cut v B δ){lo hi:Rat}(EB:Ab lo B)(O0:Ab hi B)(h:lo<hi)(hd:hi-lo≤δ)(nJ:v lo≠v hi):v lo=v hi+1:=by
 have:=C.sZ lo hi EB O0 h hd
 have:=C.cR lo hi (Rat.le_of_lt h)
 omega
theorem sV{v:Rat→Nat}{D:Nat}{B δ:Rat}(C:Cut v B δ):∀(k j:Nat) (lo hi:Rat),Gr D B j lo→Gr D B j hi→lo<hi→hi-lo≤δ*2^k →
  (∀p∈KL v k lo hi,Gr D B (j+k) p.1∧Gr D B (j+k) p.2∧lo≤p.1∧p.1<p.2∧p.2≤hi∧v p.1=v p.2+1)∧(KL v k lo hi).length=v lo-v hi∧(KL v k lo hi).Pairwise fun p q=>p.2≤q.1
 | 0,j,lo,hi,g1,g2,h,hd=>by
  rw [KL]
  split
  ·rename_i he
   exact⟨fun p hp=>absurd hp List.not_mem_nil,by rw [he];simp,List.Pairwise.nil⟩
  ·rename_i he
   have:=C.leaf g1.b g2.b h (by rw [Rat.pow_zero,Rat.mul_one]at hd;exact hd) he
   refine⟨fun p hp=>?_,by simp;omega,List.pairwise_singleton _ _⟩
   rw [List.mem_singleton]at hp;subst hp
   exact⟨g1,g2,Rat.le_refl,h,Rat.le_refl,this⟩
 | k+1,j,lo,hi,g1,g2,h,hd=>by
  rw [KL]
  split
  ·rename_i he
   exact⟨fun p hp=>absurd hp List.not_mem_nil,by rw [he];simp,List.Pairwise.nil⟩
  ·rename_i he
   split
   ·rename_i JC
    refine⟨fun p hp=>?_,by simp;omega,List.pairwise_singleton _ _⟩
    rw [List.mem_singleton]at hp;subst hp
    exact⟨g1.mono (by omega),g2.mono (by omega),Rat.le_refl,h,Rat.le_refl,JC⟩
   ·obtain⟨m1,m2⟩:=x9 h
    obtain⟨d1,d2⟩:=wP hd
    have gm:=g1.KI g2
    obtain⟨a1,a2,a3⟩:=sV C k (j+1) lo ((lo+hi)/2) (g1.mono (by omega)) gm m1 d1
    obtain⟨b1,b2,b3⟩:=sV C k (j+1) ((lo+hi)/2) hi gm (g2.mono (by omega)) m2 d2
    have n1:=C.cR lo ((lo+hi)/2) (Rat.le_of_lt m1)
    have n2:=C.cR ((lo+hi)/2) hi (Rat.le_of_lt m2)
    rw [show j+1+k=j+(k+1)by omega]at a1 b1
    generalize (lo+hi)/2=m at *
    refine⟨fun p hp=>?_,by rw [List.length_append,a2,b2];omega,List.pairwise_append.2 ⟨a3,b3,fun p hp q hq=>?_⟩⟩
    ·rcases List.mem_append.1 hp with hp | hp
     ·obtain⟨c1,c2,c3,c4,c5,c6⟩:=a1 p hp
      exact⟨c1,c2,c3,c4,by grind,c6⟩
     ·obtain⟨c1,c2,c3,c4,c5,c6⟩:=b1 p hp
      exact⟨c1,c2,by grind,c4,c5,c6⟩
    ·obtain⟨c1,c2,c3,c4,c5,c6⟩:=a1 p hp
     obtain⟨d1,d2,d3,d4,d5,d6⟩:=b1 q hq
     grind
theorem SQ.mono{u w:Nat}{q:Rat}(h:SQ u q)(hu:u≤w):SQ w q:=⟨Nat.le_trans h.n2 hu,Nat.le_trans h.d2 hu,Nat.le_trans h.hu hu⟩
theorem SQ.LLs{u:Nat}{q:Rat}(h:SQ u q){k:Nat}(hu:u≤k):sz LL q.num≤k∧sz LL (q.den:Int)≤k:=⟨Nat.le_trans h.nL hu,Nat.le_trans h.dL hu⟩
theorem SQ.LLt{u:Nat}{q:Rat}(h:SQ u q){k:Nat}(hu:u<k):sz LL q.num<k∧sz LL (q.den:Int)<k:=⟨Nat.lt_of_le_of_lt h.nL hu,Nat.lt_of_le_of_lt h.dL hu⟩
structure pD(s n:Nat)(f:ZX):Prop where
 lay:qL s n f
 AG:1≤n
 nf:Nf f
 sq:Go.Proofs.YtiobceocpabjdaaGreat.sq f=f
 hs:s≤5000000
namespace pD
variable {s n:Nat} {f:ZX} (I:pD s n f)
include I
theorem ch:Ch s n f:=⟨I.lay.bz,I.lay.hn,I.AG,Nat.le_trans (Nat.mul_le_mul_right _ (by unfold qb;omega)) I.lay.hC⟩
theorem s1:1≤s:=by
 have h1:=I.lay.hs
 have h2:=I.AG
 rcases Nat.eq_zero_or_pos s with h | h
 ·rw [h]at h1;simp at h1;omega
 ·exact h
theorem hb:∀p∈bK f,BZ 4500000000 n p:=I.ch.all.1
theorem hl:(bK f).length≤21:=I.ch.all.2
theorem gz1:gz f (bT f)=1:=by
 have:=V4 I.nf.ne
 rwa [I.sq]at this
theorem Z4:wN f (bT f):=fun d h1 h2=>by
 have h3:=(fG f (bT f)).least h1 h2
 rw [I.gz1]at h3
 have:=h3.nD ZX.xP
 rwa [ZX.GK]at this
theorem JM:wI (bK f) f:=I.ch.JM I.nf.ne I.gz1
theorem S:s7 f (vt (bK f)):=⟨I.nf.ne,I.Z4,_,I.JM,rfl⟩
theorem szf:∀c∈f.l,c.natAbs≤2^s:=fun c hc=>by
 have h1:=iS (b:=2) (by decide) c
 have h2:=Nat.pow_le_pow_right (show 0<2 by decide) (I.ch.bz.sz c hc)
 omega
theorem cut(β:Nat):∃δ:Rat,0<δ∧δ*2^lk s n 5 β=1∧Cut (vt (bK f)) (2^β) δ:=by
 obtain⟨δ,h1,h2⟩:=DT (lk s n 5 β)
 have hn:=I.ch.hn
 obtain⟨h3,_⟩:=xZ I.JM (s:=s) (n:=n) (l:=5) (β:=β) I.nf.ne I.szf I.ch.bz.N (by omega) I.Z4 (by rw [h2];exact Rat.le_refl)
 refine⟨δ,h1,h2,fun a b fK=>I.JM.cR fK,fun a b ha hb fK hd=>?_⟩
 have:=h3.turns a b ha hb fK hd
 rcases SZ f a b with h4 | h4<;>omega
end pD
section
variable {c:List ZX} {n u:Nat} {p q:Rat} (hb:∀p∈c,BZ 4500000000 n p) (hn:n≤20) (hl:c.length≤21) (hp:SQ u p) (hq:SQ u q) (hu:u≤1000000000)
include hb hn hl hp hq hu
theorem ad4:aF env.P 88 [CH c,RT p,RT q] (.int .i64 (if q<p then 0 else(vt c p:Int)-vt c q)):=by
 have z1:=c7 hq.nL hq.dL hp.nL hp.dL (by omega) (aY q) (aY p) ⟨hq.nL,hq.dL⟩ ⟨hp.nL,hp.dL⟩
 have b1:=JI (by omega) z1 (adS hb hn hl hp hu) (adS hb hn hl hq hu)
 rw [DN,DN]at b1
 simp only [j3]at b1
 exact b1
theorem an8:aF env.P 76 [aN zq c,RR p,RR q] (.int .i64 (if q<p then 0 else(vt c p:Int)-vt c q)):=by
 have yy:∀ {v:Int},sz 2 v≤u→sz 2 v≤YY:=fun h=>by simp only [YY];omega
 have b1:=OC (yy hp.n2) (yy hp.d2) (yy hq.n2) (yy hq.d2) (by omega) (adR hb hn hl hp hu) (adR hb hn hl hq hu)
 have hcm:(q.num*(p.den:Int)<p.num*(q.den:Int))=(q<p):=propext (by rw [←j3];exact mZ.symm)
 rw [DN,DN]at b1
 simp only [hcm]at b1
 rw [gR,gR]
 exact b1
end
abbrev tc(q:Rat):List PV:=[.bool (decide (q.num<0)),us (aU LL q.num.natAbs), .bool (decide ((q.den:Int)<0)),us (aU LL (q.den:Int).natAbs)]
def ga(f:ZX)(p:Rat × Rat):List PV:=Po f.l::(tc p.1++tc p.2)
@[simp] theorem azy{f:ZX}{p:Rat × Rat}:ga f p=Po f.l::(tc p.1++tc p.2):=rfl
@[simp] theorem yA{f:ZX}{l:List (Rat × Rat)}:bH 9 (emap (ga f) l)=True:=cH fun _=>rfl
@[simp] theorem an9{v e n:Nat}{f:ZX}{l:List (Rat × Rat)}:cW (some ⟨v,e,n,emap (ga f) l⟩)=True:=bU fun _=>rfl
theorem JX{f:ZX}{l:List (Rat × Rat)}:∀x∈emap (ga f) l,∀p∈x,bI p=true:=fun x hx p hp=>by
 simp only [emap,List.mem_map]at hx
 obtain⟨r,_,rfl⟩:=hx
 simp at hp
 rcases hp with rfl | rfl | rfl | rfl | rfl | rfl | rfl | rfl | rfl<;>rfl
theorem ad5{f:ZX}{c:List ZX}{lo hi:Rat}:lY env.P 72 [Po f.l,CH c,RT lo,RT hi, .int .i64 0] 54 9 []:=by
 show lY env.P _ [Po f.l, .rd [aN zp c],T2 lo.num lo.den,T2 hi.num hi.den, .int .i64 0] _ _ _
 generalize lo.num=ln at *
 generalize (lo.den:Int)=ld at *
 generalize hi.num=hn at *
 generalize (hi.den:Int)=hd at *
 generalize aN zp c=X at *
 refine pS (E:=env) (fun id=>if id=5 then 2 else if id=8 then 2 else 0) (t:=10) [(0,Po f.l),(1, .rd [X]),(2,T2 ln ld),(3,T2 hn hd),(4, .int .i64 0)] Tryz.func72 rfl (by kernel_rfl) (by kernel_rfl) (show 5≤48 by decide) rfl (by simp) ?_
 refine aA [0,1,4,7,8] ?_
 refine aP [0,1,4,7,8,13] ?_
 refine W.block ?_
 refine aA [0,1,4,7,8,13,14] ?_
 refine bJ ?_ ?_<;>intro h
 ·refine aA [10] ?_
  refine W.nil 10 10 54 9 (by simp) (by decide) (fun K hK=>?_)
  simp
  refine hK _ ?_
  refine W.ret ?_
  exact⟨10,_,by simp;exact rfl,by simp,fun x hx=>by cases hx⟩
 ·simp at h
theorem ahS{s n:Nat}{f:ZX}(I:pD s n f){c:List ZX}{lo hi:Rat}{u:Nat}(q1:SQ u lo)(q2:SQ u hi)(hu:u≤1000000000):lY env.P 72 [Po f.l,CH c,RT lo,RT hi, .int .i64 1] 54 9 (emap (ga f) [(lo,hi)]):=by
 have N1:=fE (x:=f.l) (I.ch.bz.pb (by have:=I.hs;omega) (by have:=I.ch.hn;omega))
 rw [f.c]at N1
 obtain⟨l1,l2⟩:=q1.LLt (show u<1099511627770 by omega)
 obtain⟨l3,l4⟩:=q2.LLt (show u<1099511627770 by omega)
 have M1:=wJ l1 l2
 have M2:=wJ l3 l4
 rw [aY]at M1 M2
 rw [show emap (ga f) [(lo,hi)] = [Po f.l::(tc lo++tc hi)]from rfl]
 show lY env.P _ [Po f.l, .rd [aN zp c],T2 lo.num lo.den,T2 hi.num hi.den, .int .i64 1] _ _ _
 replace M1:aF env.P 90 [T2 lo.num lo.den, .sl []] (T2 lo.num lo.den):=M1
 replace M2:aF env.P 90 [T2 hi.num hi.den, .sl []] (T2 hi.num hi.den):=M2
 clear l1 l2 l3 l4 q1 q2
 simp only [tc]
 generalize lo.num=ln at *
 generalize (lo.den:Int)=ld at *
 generalize hi.num=hn at *
 generalize (hi.den:Int)=hd at *
 generalize aN zp c=X at *
 refine pS (E:=env) (fun id=>if id=5 then 2 else if id=8 then 2 else 0) (t:=10) [(0,Po f.l),(1, .rd [X]),(2,T2 ln ld),(3,T2 hn hd),(4, .int .i64 1)] Tryz.func72 rfl (by kernel_rfl) (by kernel_rfl) (show 5≤48 by decide) rfl (by simp) ?_
 refine aA [0,1,4,7,8] ?_
 refine aP [0,1,4,7,8,13] ?_
 refine W.block ?_
 refine aA [0,1,4,7,8,13,14] ?_
 refine bJ ?_ ?_<;>intro h
 ·simp at h
 ·refine aA [0,1,4,7,8,16] ?_
  refine bJ ?_ ?_<;>intro h
  ·refine W.auF 1 rfl rfl rfl (fun K hK=>?_)
   simp (disch:=omega) [gw]
   refine cU N1 ?_
   refine cU M1 ?_
   refine cU M2 ?_
   refine W.lw [10] hK ?_;clear hK K;simp
   refine W.ret ?_
   exact⟨25,_,by simp;exact rfl,by simp,fun x hx p hp=>by
    simp at hx;subst hx
    simp at hp
    rcases hp with rfl | rfl | rfl | rfl | rfl | rfl | rfl | rfl | rfl<;>rfl⟩
  ·simp at h
theorem ad6{f:ZX}{c:List ZX}{lo hi:Rat}{n k:Int}{la lb:List (Rat × Rat)}(hn:2≤n∧n≤21)(hk:0≤k∧k≤n)(X6:la.length≤21)(hlb:lb.length≤21)
  (M:aF env.P 91 [RT lo,RT hi] (RT ((lo+hi)/2))) (B:aF env.P 88 [CH c,RT lo,RT ((lo+hi)/2)] (.int .i64 k))
  (h1:lY env.P 72 [Po f.l,CH c,RT lo,RT ((lo+hi)/2), .int .i64 k] 54 9 (emap (ga f) la)) (h2:lY env.P 72 [Po f.l,CH c,RT ((lo+hi)/2),RT hi, .int .i64 (n-k)] 54 9 (emap (ga f) lb)) :
  lY env.P 72 [Po f.l,CH c,RT lo,RT hi, .int .i64 n] 54 9 (emap (ga f) (la++lb)):=by
 rw [←MC]
 have el1:(emap (ga f) la).length≤21:=by simpa [emap]using X6
 have el2:(emap (ga f) lb).length≤21:=by simpa [emap]using hlb
 have p1:=JX (f:=f) (l:=la)
 have p2:=JX (f:=f) (l:=lb)
 have a1:bH 9 (emap (ga f) la)=True:=yA
 have a2:bH 9 (emap (ga f) lb)=True:=yA
 show lY env.P _ [Po f.l, .rd [aN zp c],T2 lo.num lo.den,T2 hi.num hi.den, .int .i64 n] _ _ _
 replace M:aF env.P 91 [T2 lo.num lo.den,T2 hi.num hi.den] (T2 ((lo+hi)/2).num ((lo+hi)/2).den):=M
 replace B:aF env.P 88 [.rd [aN zp c],T2 lo.num lo.den,T2 ((lo+hi)/2).num ((lo+hi)/2).den] (.int .i64 k):=B
 replace h1:lY env.P 72 [Po f.l, .rd [aN zp c],T2 lo.num lo.den,T2 ((lo+hi)/2).num ((lo+hi)/2).den, .int .i64 k] 54 9 (emap (ga f) la):=h1
 replace h2:lY env.P 72 [Po f.l, .rd [aN zp c],T2 ((lo+hi)/2).num ((lo+hi)/2).den,T2 hi.num hi.den, .int .i64 (n-k)] 54 9 (emap (ga f) lb):=h2
 generalize ((lo+hi)/2).num=mn at *
 generalize (((lo+hi)/2).den:Int)=md at *
 generalize lo.num=ln at *
 generalize (lo.den:Int)=ld at *
 generalize hi.num=BL at *
 generalize (hi.den:Int)=hd at *
 generalize aN zp c=X at *
 generalize emap (ga f) la=ea at *
 generalize emap (ga f) lb=eb at *
 have w1:IntKind.wrap .i64 (n-k)=n-k:=wrap_i64 (by omega) (by omega)
 refine pS (E:=env) (fun id=>if id=5 then 2 else if id=8 then 2 else 0) (t:=10) [(0,Po f.l),(1, .rd [X]),(2,T2 ln ld),(3,T2 BL hd),(4, .int .i64 n)] Tryz.func72 rfl (by kernel_rfl) (by kernel_rfl) (show 5≤48 by decide) rfl (by simp) ?_
 refine aA [0,1,4,7,8] ?_
 refine aP [0,1,4,7,8,13] ?_
 refine W.block ?_
 refine aA [0,1,4,7,8,13,14] ?_
 refine bJ ?_ ?_<;>intro h
 ·simp at h;omega
 ·refine aA [0,1,4,7,8,16] ?_
  refine bJ ?_ ?_<;>intro h
  ·simp at h;omega
  ·refine W.skip ?_
   refine aR [0,1,4,7,8,11] M ?_
   refine aR [0,1,4,7,8,11,12] B ?_
   refine W.sd ?_
   rw [show(if 8=5 then 2 else if 8=8 then 2 else 0)=1+1 from rfl,fR]
   simp (disch:=omega) [gw]
   refine abS h1 rfl trivial ?_
   simp (disch:=omega) [gw,w1,V9]
   refine abS h2 rfl trivial ?_
   simp (disch:=omega) [gw,a1,a2,V9]
   refine bG [10] ?_
   refine W.ret ?_
   exact⟨38,5,by simp,by simp,fun x hx=>by
    rcases List.mem_append.1 hx with hx | hx
    ·exact p1 x hx
    ·exact p2 x hx⟩
theorem ad7{s n:Nat}{f:ZX}(I:pD s n f){D d β J:Nat}{δ:Rat}(GH:1≤D)(hD:D≤2^d)(C:Cut (vt (bK f)) (2^β) δ)(hu:β+d+J+1≤1000000000):∀(k j:Nat) (lo hi:Rat),j+k≤J→Gr D (2^β) j lo→Gr D (2^β) j hi→lo<hi→hi-lo≤δ*2^k →
  lY env.P 72 [Po f.l,CH (bK f),RT lo,RT hi, .int .i64 ((vt (bK f) lo:Int)-vt (bK f) hi)] 54 9 (emap (ga f) (KL (vt (bK f)) k lo hi)):=by
 have leaf:∀(j:Nat) (lo hi:Rat),j≤J→Gr D (2^β) j lo→Gr D (2^β) j hi→vt (bK f) lo=vt (bK f) hi+1→lY env.P 72 [Po f.l,CH (bK f),RT lo,RT hi, .int .i64 ((vt (bK f) lo:Int)-vt (bK f) hi)] 54 9 (emap (ga f) [(lo,hi)]):=fun j lo hi hj g1 g2 he=>by
  rw [show(vt (bK f) lo:Int)-vt (bK f) hi=1 by omega]
  exact ahS I ((g1.mono hj).sq GH hD) ((g2.mono hj).sq GH hD) hu
 have akl:∀(lo hi:Rat),vt (bK f) lo=vt (bK f) hi→lY env.P 72 [Po f.l,CH (bK f),RT lo,RT hi, .int .i64 ((vt (bK f) lo:Int)-vt (bK f) hi)] 54 9 (emap (ga f) []):=fun lo hi he=>by
  rw [show(vt (bK f) lo:Int)-vt (bK f) hi=0 by omega]
  exact ad5
 intro k
 induction k with
 | zero =>
  intro j lo hi hj g1 g2 dN hd
  rw [KL]
  by_cases he:vt (bK f) lo=vt (bK f) hi
  ·rw [if_pos he];exact akl lo hi he
  ·rw [if_neg he];exact leaf j lo hi (by omega) g1 g2 (C.leaf g1.b g2.b dN (by rw [Rat.pow_zero,Rat.mul_one]at hd;exact hd) he)
 | succ k ih =>
  intro j lo hi hj g1 g2 dN hd
  rw [KL]
  by_cases he:vt (bK f) lo=vt (bK f) hi
  ·rw [if_pos he];exact akl lo hi he
  ·rw [if_neg he]
   by_cases JC:vt (bK f) lo=vt (bK f) hi+1
   ·rw [if_pos JC];exact leaf j lo hi (by omega) g1 g2 JC
   ·rw [if_neg JC]
    obtain⟨m1,m2⟩:=x9 dN
    obtain⟨d1,d2⟩:=wP hd
    have gm:=g1.KI g2
    have n1:=C.cR lo ((lo+hi)/2) (Rat.le_of_lt m1)
    have n2:=C.cR ((lo+hi)/2) hi (Rat.le_of_lt m2)
    have hv1:=Nat.le_trans (akh (bK f) lo) I.hl
    obtain⟨_,a2,_⟩:=sV C k (j+1) lo ((lo+hi)/2) (g1.mono (by omega)) gm m1 d1
    obtain⟨_,b2,_⟩:=sV C k (j+1) ((lo+hi)/2) hi gm (g2.mono (by omega)) m2 d2
    have r1:=ih (j+1) lo ((lo+hi)/2) (by omega) (g1.mono (by omega)) gm m1 d1
    have r2:=ih (j+1) ((lo+hi)/2) hi (by omega) gm (g2.mono (by omega)) m2 d2
    have q1:SQ (β+d+J+1) lo:=(g1.mono (by omega)).sq GH hD
    have q2:SQ (β+d+J+1) hi:=(g2.mono (by omega)).sq GH hD
    have q3:SQ (β+d+J+1) ((lo+hi)/2):=(gm.mono (by omega)).sq GH hD
    have hM:=OJ (q1.LLs (Nat.le_refl _)) (q2.LLs (Nat.le_refl _)) (by omega)
    have hB:=ad4 I.hb I.ch.hn I.hl q1 q3 hu
    rw [if_neg (Rat.not_lt.2 (Rat.le_of_lt m1))]at hB
    refine ad6 (n:=(vt (bK f) lo:Int)-vt (bK f) hi) (k:=(vt (bK f) lo:Int)-vt (bK f) ((lo+hi)/2)) (by omega) (by omega) (by omega) (by omega) hM hB r1 ?_
    rw [show(vt (bK f) lo:Int)-vt (bK f) hi-((vt (bK f) lo:Int)-vt (bK f) ((lo+hi)/2))=(vt (bK f) ((lo+hi)/2):Int)-vt (bK f) hi by omega]
    exact r2
end Go.Proofs.YtiobceocpabjdaaGreat
