import Derived.Test.YtiobceocpabjdaaGreatEaq
set_option linter.unusedSimpArgs false
set_option linter.unusedVariables false
namespace Go.Proofs.YtiobceocpabjdaaGreat
open Go Pm
open ZX hiding N W
theorem asU{u:Nat}{p q:Rat}(hp:SQ u p)(hq:SQ u q):∃D,1≤D∧D≤2^(2*u)∧Gr D (2^u) 0 p∧Gr D (2^u) 0 q:=by
 have key:∀r:Rat,SQ u r→1≤r.den∧r.den≤2^u∧Ab r (2^u)∧r*((r.den:Int):Rat)=(r.num:Rat):=fun r hr=>by
  have h1:=r.den_pos
  have h2:=kC (b:=2) (by decide) (r.den:Int)
  have h3:=Nat.pow_le_pow_right (show 0<2 by decide) hr.d2
  have h4:=kC (b:=2) (by decide) r.num
  have h5:=Nat.pow_le_pow_right (show 0<2 by decide) hr.n2
  have h6:=II r
  have h7:Ab (r.num:Rat) (2^u):=FR (by omega)
  have h8:(1:Rat)≤((r.den:Int):Rat):=fZ (by omega)
  refine⟨h1,by omega,?_,h6.symm⟩
  rw [h6]at h7
  obtain⟨g1,g2⟩:=h7
  have hT:=gZ u
  generalize (2:Rat)^u=T at *
  constructor
  ·refine Rat.not_lt.1 fun hh=>?_
   have:=Rat.mul_le_mul_of_nonneg_left h8 (show 0 ≤ -r by grind)
   grind
  ·refine Rat.not_lt.1 fun hh=>?_
   have:=Rat.mul_le_mul_of_nonneg_left h8 (show 0≤r by grind)
   grind
 obtain⟨a1,a2,a3,a4⟩:=key p hp
 obtain⟨b1,b2,b3,b4⟩:=key q hq
 refine⟨p.den*q.den,Nat.mul_pos a1 b1,?_,⟨⟨p.num*(q.den:Int),?_⟩,a3⟩,⟨⟨q.num*(p.den:Int),?_⟩,b3⟩⟩
 ·rw [Nat.two_mul,Nat.pow_add];exact Nat.mul_le_mul a2 b2
 ·rw [Nat.pow_zero,Nat.mul_one,Rat.intCast_mul,←a4,Int.natCast_mul p.den,Rat.intCast_mul];grind
 ·rw [Nat.pow_zero,Nat.mul_one,Rat.intCast_mul,←b4,Int.natCast_mul p.den,Rat.intCast_mul];grind
theorem amK{s n:Nat}{a:ZX}(h:wR s n a)(h0:a≠0)(n3:1≤n)(hC:(qb (qb s n) n+n+6)*4^n≤4500000000)(hs:qb s n≤5000000):zA (qb s n) n (sq a):=by
 have h1:=(y9 h0).1
 refine⟨⟨h.sqb h0,h.hn,?_,hC⟩,n3,h1,RD h1 fun d d1 d2=>?_,hs⟩
 ·exact Nat.le_trans h.hs (Nat.pow_le_pow_right (by decide) (by unfold qb;omega))
 ·have h3:=(eS (sq a) (bS (sq a))).least d1 d2
  rw [UQ h0]at h3
  have:=h3.nS ZX.tX
  rwa [ZX.CI]at this
abbrev G9(x:List Int)(an ad bn bd:Int):List PV:=[Po x, .bool (decide (an<0)),us (aU LL an.natAbs), .bool (decide (ad<0)),us (aU LL ad.natAbs), .bool (decide (bn<0)),us (aU LL bn.natAbs), .bool (decide (bd<0)),us (aU LL bd.natAbs)]
def NK(sg:ZX→Int):Nat→ZX→Int
 | 0,_=>0
 | k+1,p=>if sg p=0 then NK sg k (bS p)else sg p
theorem k9{sg:ZX→Int}(h0:sg 0=0):∀k,NK sg k 0=0
 | 0=>rfl
 | k+1=>by
  have h1:bS 0=0:=rfl
  rw [NK,if_pos h0,h1,k9 h0 k]
theorem ac8{sg:ZX→Int}(h0:sg 0=0):∀ {k j:Nat} {p:ZX},ZX.N p≤k→ZX.N p≤j→NK sg k p=NK sg j p
 | 0,j,p,h,_=>by
  have:p=0:=Classical.byContradiction fun h0=>by have:=ZX.aE.1 h0;omega
  rw [this,k9 h0,k9 h0]
 | k+1,0,p,_,h=>by
  have:p=0:=Classical.byContradiction fun h0=>by have:=ZX.aE.1 h0;omega
  rw [this,k9 h0,k9 h0]
 | k+1,j+1,p,h1,h2=>by
  rw [NK,NK]
  have:=mG p
  rw [ac8 h0 (k:=k) (j:=j) (p:=bS p) (by omega) (by omega)]
theorem RE(g:FuncId)(hw:G3 g=false)(cL:List PV)(hc:cL.all fV=true)(sg:ZX→Int)(h0:sg 0=0){s k:Nat}{p:ZX}(hp:BZ s k p)(hk:k≤31)(hs:s≤1000000)(hg:∀(q:ZX) (s':Nat),s'≤s+5*k→BZ s' k q→aH env.P g (Po q.l::cL) (.int .i64 (sg q))) :
  aH env.P 244 [Po p.l, .fn g cL] (.int .i64 (NK sg (ZX.N p) p)):=by
 have hN:=hp.N
 have N1:=gY (x:=p.l) (hp.pb (by omega) (by omega))
 rw [p.c]at N1
 obtain⟨r,hr⟩:∃r,r=NK sg (ZX.N p) p:=⟨_,rfl⟩
 rw [←hr]
 refine cA [(0,Po p.l),(1, .fn g cL)] Tryz.func244 ?_
 refine aA [0,1] ?_
 refine W.seq ?_
 refine aY [0,1] N1 ?_
 refine W.block ?_
 refine W.a8 (fun m σ=>∃(q:ZX) (s':Nat) (rows:Pm.Rows) (clk:Nat),σ=⟨fa [(0,Po q.l),(1, .fn g cL)],rows,clk⟩∧m=ZX.N q∧BZ s' k q∧s'+5*ZX.N q≤s+5*k∧NK sg (ZX.N q) q=r) (ZX.N p) ?_ ?_
 ·exact⟨_, .refl,p,s,_,_,rfl,rfl,hp,by omega,hr.symm⟩
 rintro m _ ⟨q,s',rows,clk,rfl,rfl,bq,hsq,hq⟩
 have hNq:=bq.N
 have hNl:ZX.N q=q.l.length:=rfl
 refine aM [0,1,10] ?_
 refine bP ?_ ?_<;>intro h
 ·have NH:q≠0:=ZX.aE.2 (by show 0<q.l.length;simp at h;omega)
  have hgq:=hg q s' (by omega) bq
  have hD:=pN bq (by omega) (by omega)
  have ax2:ZX.N (bS q)<ZX.N q:=by have:=mG q;have:=ZX.aE.1 NH;omega
  have bd:=bq.bS hk
  obtain⟨j,hj⟩:∃j,ZX.N q=j+1:=⟨ZX.N q-1,by have:=ZX.aE.1 NH;omega⟩
  rw [hj,NK]at hq
  generalize hv:sg q=w at *
  refine iT ?_
  refine W.sr ?_
  simp only [G3]at hw
  simp (disch:=omega) [gw,hw,hc]
  refine cI [0,1,5] hgq ?_
  refine aA [0,1,5,17] ?_
  refine bP ?_ ?_<;>intro h
  ·have hw:w≠0:=by simpa using h
   rw [if_neg hw]at hq
   subst hq
   refine aA [4] ?_
   exact cP
  ·have hw:w=0:=by simpa using h
   rw [if_pos hw]at hq
   refine W.skip ?_
   refine W.b9 (fun K hK=>?_)
   simp (disch:=omega) [gw]
   refine b8 hD ?_
   refine hK _ ⟨ZX.N (bS q),_,aC _ [0,1],ax2,bS q,s'+5,_,_,rfl,rfl,bd,by omega,?_⟩
   rw [←hq]
   exact ac8 h0 (Nat.le_refl _) (by omega)
 ·have NH:q=0:=by
   refine Classical.byContradiction fun h0=>?_
   have h1:=ZX.aE.1 h0
   simp at h;rw [hNl,h]at h1;simp at h1
  subst NH
  rw [k9 h0]at hq
  subst hq
  refine eJ ?_
  refine aA [4] ?_
  exact cP
theorem ac9(q:Rat):bS (nW q)=K (q.den:Int):=ext fun t=>by
 rw [L3,vV]
 refine QI fun h=>⟨0,?_⟩
 rw [nW,XO,XO]
 simp only [V]
 grind
theorem AE{F:ZX}{v:Rat→Nat}(nF:Nf F)(cF:uL F (bS F))(SF:uF F v)(hF:ZX.N F≤20){t hi:Rat}(h:t<hi)(hv:v t=v hi):∀(m:Nat) (p:ZX),ZX.N p≤m→p≠0→(∀q,pZ q→min (mu q p) 1≤mu q F) → ∀s,t<s→s≤hi→e s p≠0∧bT (e s p)=bT (e hi p)
 | 0,p,hm,h0,_,_,_,_=>absurd hm (by have:=ZX.aE.1 h0;omega)
 | m+1,p,hm,h0,hmu,s,h1,h2=>by
  have hN:=ZX.aE.1 h0
  by_cases hN1:ZX.N p≤1
  ·obtain⟨c,hc,rfl⟩:=ZX.k8 (x:=p) (by omega)
   rw [z9,z9]
   exact⟨fun h=>hc (Rat.intCast_eq_zero_iff.1 h),rfl⟩
  obtain⟨nf,hf⟩:=nV h0
  have hd:dv (sq p) F:=(lV nf.ne nF.ne).2 fun q hq=>by rw [hf q hq];exact hmu q hq
  obtain⟨w,S⟩:=Q9 (h:=sq p) nF cF
  have hg:gz F (sq p)=sq p:=Nf.rM S.ng nf fun q hq=>by
   rw [(eS F (sq p)).mu nF.ne nf.ne hq]
   have:=(lV nf.ne nF.ne).1 hd q hq
   omega
  rw [hg]at S
  have hSN:=S.N
  have Sw:=YH S.nw.ne S.sw (by omega)
  have Sf:=YH S.ng.ne S.sg (by omega)
  have c1:=S.cnt SF Sf Sw (Rat.le_of_lt h)
  have m1:=Sf.dK (Rat.le_of_lt h)
  have m2:=Sw.dK (Rat.le_of_lt h)
  have m3:=Sf.dK (Rat.le_of_lt h1)
  have m4:=Sf.dK h2
  obtain⟨f1,f2⟩:=Sf.flat h1 (by omega)
  have f3:bT (e hi (sq p))=bT (e s (sq p)):=by
   rcases Rat.le_iff_lt_or_eq.1 h2 with h3 | h3
   ·exact(Sf.flat h3 (by omega)).2 f1
   ·rw [h3]
  obtain⟨c,hc,q,hq⟩:=wG h0
  have NH:q≠0:=fun h=>by
   rw [h]at hq
   exact ZX.rK (ZX.p9 hc) h0 (by rw [hq];grind)
  have D5:=congrArg ZX.N hq
  rw [ZX.mF (ZX.p9 hc) h0,ZX.N_K hc,ZX.mF NH nf.ne]at D5
  have hfN:2≤ZX.N (sq p):=Nat.not_lt.1 fun h3=>by
   obtain⟨d,HE,I3⟩:=pL _ p (Nat.le_refl _) (by omega)
   have h5:=hf d HE
   have h6:=(m7 HE h0 (k:=1)).2 (by rw [pow_succ',gO,show(1:ZX)*d=d by grind];exact I3)
   rw [nf.N1 (by omega),QK HE]at h5
   omega
  have hqm:∀r,pZ r→min (mu r q) 1≤mu r F:=fun r hr=>by
   have h3:=hmu r hr
   have h4:=congrArg (mu r) hq
   rw [tY hr (ZX.p9 hc) h0,tY hr NH nf.ne,XR hr hc]at h4
   omega
  obtain⟨q1,q2⟩:=AE nF cF SF hF h hv m q (by omega) NH hqm s h1 h2
  have hcr:(c:Rat)≠0:=fun h=>hc (Rat.intCast_eq_zero_iff.1 h)
  have g:∀x,(c:Rat)*e x p=e x q*e x (sq p):=fun x=>by rw [←z9 (t:=x) c,←lI,hq,lI]
  refine⟨fun h3=>?_,?_⟩
  ·have h4:=g s
   rw [h3,Rat.mul_zero]at h4
   rcases Rat.mul_eq_zero.1 h4.symm with h5 | h5
   ·exact q1 h5
   ·exact f1 h5
  ·rw [xT hcr (g s),xT hcr (g hi),q2,f3]
theorem xV(t:Rat):(nW t).l = [-t.num,(t.den:Int)]:=iE (x:=(t.den:Int)) (by have:=t.den_nz;omega) [-t.num]
theorem agG{x:List Int}{n d:Int}(hN:aH env.P 64 [Po x] (Po x))(hM:aH env.P 90 [T2 n d, .sl []] (T2 n d)):aH env.P 192 [.ag (G9 x n d n d)] (.ag (G9 x n d n d)):=by
 simp only [G9]
 refine cA [(0, .ag (G9 x n d n d))] Tryz.func192 ?_
 refine aA [1,2] ?_
 refine kB ?_
 refine b8 hN ?_
 refine b8 hM ?_
 refine aD hM ?_
 (try (refine bF (of_decide_eq_true (by kernel_rfl)) ?_));(try simp (maxSteps:=4000000) (disch:=omega) [gw]);(repeat rw [if_pos (by kernel_rfl)]);(try simp (maxSteps:=4000000) (disch:=omega) [gw])
 refine bO [2] ?_
 exact cP
theorem YI{x:List Int}{n d:Int}(hc:aH env.P 86 [T2 n d,T2 n d] (.int .i64 0)):aH env.P 193 [.ag (G9 x n d n d)] (.bool true):=by
 simp only [G9]
 refine cA [(0, .ag (G9 x n d n d))] Tryz.func193 ?_
 refine aA [1] ?_
 refine aY [2] hc ?_
 exact cP
theorem ada{q x:List Int}{n d r:Int}(hl:q.length<1000000)(hr:q.length=0→r=0)(hq:aH env.P 64 [Po q] (Po q))(hN:aH env.P 64 [Po x] (Po x))(hM:aH env.P 90 [T2 n d, .sl []] (T2 n d))(hc:aH env.P 86 [T2 n d,T2 n d] (.int .i64 0))(hs:aH env.P 87 [Po q,T2 n d] (.int .i64 r)) :
  aH env.P 246 [Po q, .ag (G9 x n d n d)] (.int .i64 r):=by
 have k1:=agG hN hM
 have k2:=YI (x:=x) hc
 simp only [G9]at k1 k2 ⊢
 refine cA [(0,Po q),(1, .ag (G9 x n d n d))] Tryz.func246 ?_
 refine aA [0,3] ?_
 refine kB ?_
 refine b8 hq ?_
 refine aD k1 ?_
 (try (refine bF (of_decide_eq_true (by kernel_rfl)) ?_));(try simp (maxSteps:=4000000) (disch:=omega) [gw]);(repeat rw [if_pos (by kernel_rfl)]);(try simp (maxSteps:=4000000) (disch:=omega) [gw])
 (try (refine bF (of_decide_eq_true (by kernel_rfl)) ?_));(try simp (maxSteps:=4000000) (disch:=omega) [gw]);(repeat rw [if_pos (by kernel_rfl)]);(try simp (maxSteps:=4000000) (disch:=omega) [gw])
 refine bO [0,3] ?_
 refine W.seq ?_
 by_cases h0:q.length=0
 ·rw [hr h0]
  refine aA [0,3,14] ?_
  refine bP ?_ ?_<;>intro h
  ·refine aA [4] ?_
   exact cP
  ·simp at h;exact absurd (List.eq_nil_of_length_eq_zero h0) h
 ·refine aA [0,3,14] ?_
  refine bP ?_ ?_<;>intro h
  ·simp at h;rw [h]at h0;exact absurd rfl h0
  refine W.skip ?_
  refine W.seq ?_
  refine aY [0,3,16] k2 ?_
  refine bP ?_ ?_<;>intro h
  ·refine aY [4] hs ?_
   exact cP
  ·simp at h
theorem YJ{x:List Int}{an ad bn bd:Int}(hN:aH env.P 64 [Po x] (Po x))(h1:aH env.P 90 [T2 an ad, .sl []] (T2 an ad))(h2:aH env.P 90 [T2 bn bd, .sl []] (T2 bn bd)):aH env.P 192 [.ag (G9 x an ad bn bd)] (.ag (G9 x an ad bn bd)):=by
 simp only [G9]
 refine cA [(0, .ag (G9 x an ad bn bd))] Tryz.func192 ?_
 refine aA [1,2] ?_
 refine kB ?_
 refine b8 hN ?_
 refine b8 h1 ?_
 refine aD h2 ?_
 (try (refine bF (of_decide_eq_true (by kernel_rfl)) ?_));(try simp (maxSteps:=4000000) (disch:=omega) [gw]);(repeat rw [if_pos (by kernel_rfl)]);(try simp (maxSteps:=4000000) (disch:=omega) [gw])
 refine bO [2] ?_
 exact cP
theorem uG{x:List Int}{an ad bn bd z:Int}(hc:aH env.P 86 [T2 an ad,T2 bn bd] (.int .i64 z)):aH env.P 193 [.ag (G9 x an ad bn bd)] (.bool (decide (0≤z))):=by
 simp only [G9]
 refine cA [(0, .ag (G9 x an ad bn bd))] Tryz.func193 ?_
 refine aA [1] ?_
 refine aY [2] hc ?_
 exact cP
theorem adb{q q':List Int}{n d s s':Int}(h1:aH env.P 87 [Po q,T2 n d] (.int .i64 s))(h2:aH env.P 85 [Po q] (Po q'))(h3:aH env.P 87 [Po q',T2 n d] (.int .i64 s')):aH env.P 197 [Po q,T2 n d] (.int .i64 (if s=0 then s' else s)):=by
 refine cA [(0,Po q),(1,T2 n d)] Tryz.func197 ?_
 refine aA [0,3] ?_
 refine W.seq ?_
 refine aY [0,3,5] h1 ?_
 by_cases h0:s=0
 ·rw [if_pos h0]
  refine aA [0,3,5,10] ?_
  refine bP ?_ ?_<;>intro h
  ·simp at h;exact absurd h0 h
  refine W.skip ?_
  refine kB ?_
  refine b8 h2 ?_
  refine cI [4] h3 ?_
  exact cP
 ·rw [if_neg h0]
  refine aA [0,3,5,10] ?_
  refine bP ?_ ?_<;>intro h
  ·refine aA [4] ?_
   exact cP
  ·simp at h;exact absurd h h0
theorem ade{q:List Int}{an ad bn bd s w:Int}(h1:aH env.P 87 [Po q,T2 bn bd] (.int .i64 s))(h2:aH env.P 197 [Po q,T2 an ad] (.int .i64 w)):aH env.P 195 [Po q,T2 an ad,T2 bn bd] (.bool (decide (s=0∨s≠w))):=by
 refine cA [(0,Po q),(1,T2 an ad),(2,T2 bn bd)] Tryz.func195 ?_
 refine aA [0,4,5] ?_
 refine aY [0,4,7] h1 ?_
 by_cases h0:s=0
 ·subst h0
  refine aA [6] ?_
  exact cP
 ·have hb:(s==0)=false:=by simpa using h0
  refine W.sr ?_
  simp (disch:=omega) [gw,hb]
  refine aD h2 ?_
  simp (disch:=omega) [gw,hb]
  refine bO [6] ?_
  refine W.ret ?_
  simp [go,h0]
  by_cases hsw:s=w<;>simp [hsw]
theorem MT{x:List Int}{an ad bn bd tn td z1 z2 s w r:Int}(hp:aH env.P 193 [.ag (G9 x an ad bn bd)] (.bool false))(h1:aH env.P 86 [T2 tn td,T2 an ad] (.int .i64 z1))(h2:aH env.P 86 [T2 tn td,T2 bn bd] (.int .i64 z2))(h3:aH env.P 87 [Po x,T2 tn td] (.int .i64 s))(h4:aH env.P 197 [Po x,T2 an ad] (.int .i64 w))
  (hr:r=if z1≤0 then 1 else if 0<z2 then -1 else if s=0 then 0 else if s=w then 1 else -1):aH env.P 111 [.ag (G9 x an ad bn bd),T2 tn td] (.int .i64 r):=by
 simp only [G9]at *
 refine cA [(0, .ag (G9 x an ad bn bd)),(1,T2 tn td)] Tryz.func111 ?_
 refine cC [2,3] ?_
 refine W.block ?_
 refine aY [2,3,6] hp ?_
 refine bP ?_ ?_<;>intro h
 ·simp at h
 refine aY [2,3,13] h1 ?_
 refine bP ?_ ?_<;>intro h
 ·have h0:z1≤0:=by simpa using h
  rw [if_pos h0]at hr;subst hr
  refine aA [4] ?_
  exact cP
 have h0:¬z1≤0:=by simpa using h
 rw [if_neg h0]at hr
 refine aY [2,3,19] h2 ?_
 refine bP ?_ ?_<;>intro h
 ·have h0:0<z2:=by simpa using h
  rw [if_pos h0]at hr;subst hr
  refine aA [4] ?_
  exact cP
 have h0:¬0<z2:=by simpa using h
 rw [if_neg h0]at hr
 refine W.skip ?_
 refine aY [2,5] h3 ?_
 refine W.seq ?_
 refine W.block ?_
 refine aA [2,5,29] ?_
 refine bP ?_ ?_<;>intro h
 ·have h0:s=0:=by simpa using h
  rw [if_pos h0]at hr;subst hr
  refine aA [4] ?_
  exact cP
 have h0:¬s=0:=by simpa using h
 rw [if_neg h0]at hr
 refine aY [32] h4 ?_
 refine bP ?_ ?_<;>intro h
 ·have h0:s=w:=by simpa using h
  rw [if_pos h0]at hr;subst hr
  refine aA [4] ?_
  exact cP
 ·have h0:¬s=w:=by simpa using h
  rw [if_neg h0]at hr;subst hr
  refine W.skip ?_
  refine aA [4] ?_
  exact cP
theorem adf{x:List Int}{an ad bn bd:Int}(hp:aH env.P 193 [.ag (G9 x an ad bn bd)] (.bool true)):aH env.P 254 [.ag (G9 x an ad bn bd)] (.ag (G9 x an ad bn bd)):=by
 simp only [G9]at *
 refine cA [(0, .ag (G9 x an ad bn bd))] Tryz.func254 ?_
 refine aA [1,2] ?_
 refine W.seq ?_
 refine aY [1,2,5] hp ?_
 refine bP ?_ ?_<;>intro h
 ·refine aA [2] ?_
  exact cP
 ·simp at h
theorem YK{x:List Int}{an ad bn bd mn md c:Int}(hp:aH env.P 193 [.ag (G9 x an ad bn bd)] (.bool false))(hm:aH env.P 91 [T2 an ad,T2 bn bd] (T2 mn md))(hc:aH env.P 111 [.ag (G9 x an ad bn bd),T2 mn md] (.int .i64 c)) :
  aH env.P 254 [.ag (G9 x an ad bn bd)] (.ag (if c=0 then G9 x mn md mn md else if c = -1 then G9 x an ad mn md else G9 x mn md bn bd)):=by
 simp only [G9]at *
 refine cA [(0, .ag (G9 x an ad bn bd))] Tryz.func254 ?_
 refine aA [1,2] ?_
 refine W.seq ?_
 refine aY [1,2,5] hp ?_
 refine bP ?_ ?_<;>intro h
 ·simp at h
 refine W.skip ?_
 refine aY [1,2,3] hm ?_
 refine W.gD (fun σ=>∃(v1 v2:Nat) (rows:Pm.Rows) (clk:Nat),σ=⟨fa [(1, .ptr 1 v1 0 0),(2, .ptr 2 v2 0 0)],rows,clk⟩∧rows 1=some ⟨v1,54,9,[if c=0 then G9 x mn md mn md else if c = -1 then G9 x an ad mn md else G9 x mn md bn bd]⟩∧rows 2=some ⟨v2,54,9,[[.nil, .bool false, .nil, .bool false, .nil, .bool false, .nil, .bool false, .nil]]⟩) ?_ ?_
 ·refine aY [1,2,3,14] hc ?_
  refine W.block ?_
  refine aA [1,2,3,14,17] ?_
  refine bP ?_ ?_<;>intro h
  ·have h0:c=0:=by simpa using h
   rw [if_pos h0]
   refine W.BI (fun K hK=>?_)
   simp (disch:=omega) [gw]
   (try (refine bF (of_decide_eq_true (by kernel_rfl)) ?_));(try simp (maxSteps:=4000000) (disch:=omega) [gw]);(repeat rw [if_pos (by kernel_rfl)]);(try simp (maxSteps:=4000000) (disch:=omega) [gw])
   (try (refine bF (of_decide_eq_true (by kernel_rfl)) ?_));(try simp (maxSteps:=4000000) (disch:=omega) [gw]);(repeat rw [if_pos (by kernel_rfl)]);(try simp (maxSteps:=4000000) (disch:=omega) [gw])
   (try (refine bF (of_decide_eq_true (by kernel_rfl)) ?_));(try simp (maxSteps:=4000000) (disch:=omega) [gw]);(repeat rw [if_pos (by kernel_rfl)]);(try simp (maxSteps:=4000000) (disch:=omega) [gw])
   exact hK _ ⟨_,aC _ [1,2],_,_,_,_,rfl,by simp,by simp⟩
  have h0:¬c=0:=by simpa using h
  rw [if_neg h0]
  refine aA [1,2,3,23] ?_
  refine bP ?_ ?_<;>intro h
  ·have h0:c = -1:=by simpa using h
   rw [if_pos h0]
   refine W.b9 (fun K hK=>?_);simp (disch:=omega) [gw]
   exact hK _ ⟨_,aC _ [1,2],_,_,_,_,rfl,by simp,by simp⟩
  ·have h0:¬c = -1:=by simpa using h
   rw [if_neg h0]
   refine W.b9 (fun K hK=>?_);simp (disch:=omega) [gw]
   exact hK _ ⟨_,aC _ [1,2],_,_,_,_,rfl,by simp,by simp⟩
 rintro _ ⟨v1,v2,rows,clk,rfl,yN,cR⟩
 by_cases h0:c=0
 ·rw [if_pos h0]at yN ⊢
  refine W.sr ?_
  simp (disch:=omega) [gw,yN,cR]
  refine bO [2] ?_
  exact cP
 ·rw [if_neg h0]at yN ⊢
  by_cases h1:c = -1
  ·rw [if_pos h1]at yN ⊢
   refine W.sr ?_
   simp (disch:=omega) [gw,yN,cR]
   refine bO [2] ?_
   exact cP
  ·rw [if_neg h1]at yN ⊢
   refine W.sr ?_
   simp (disch:=omega) [gw,yN,cR]
   refine bO [2] ?_
   exact cP
def I7(x:List Int):Nat→Int
 | 0=>0
 | i+1=>if I7 x i<bl (aU LL (nth x i).natAbs)then bl (aU LL (nth x i).natAbs)else I7 x i
theorem YL{x:List Int}(hl:x.length<1000000)(hB:∀i,i<x.length→aH env.P 257 [us (aU LL (nth x i).natAbs)] (.int .i64 (bl (aU LL (nth x i).natAbs)))∧0≤bl (aU LL (nth x i).natAbs)∧bl (aU LL (nth x i).natAbs)<1000000000000):aH env.P 264 [Po x] (.int .i64 (I7 x x.length)):=by
 refine cA [(0,Po x)] Tryz.func264 ?_
 refine aA [0] ?_
 refine aA [0,3] ?_
 refine aM [3,6,7,8] ?_
 refine W.block ?_
 refine W.a8 (fun k σ=>∃(i:Nat) (rows:Pm.Rows) (clk:Nat),σ=⟨fa [(3, .int .i64 (I7 x i)),(6,Po x),(7, .int .i64 x.length),(8, .int .i64 i)],rows,clk⟩∧(0≤I7 x i∧I7 x i<1000000000000)∧i+k=x.length) x.length ?_ ?_
 ·exact⟨_, .refl,0,_,_,rfl,⟨by show(0:Int)≤0;decide,by show(0:Int)<_;decide⟩,by omega⟩
 rintro k _ ⟨i,rows,clk,rfl,hb,KX⟩
 refine cC [3,6,7,8,9] ?_
 refine bP ?_ ?_<;>intro h
 ·have hi:i<x.length:=by simp at h;omega
  obtain⟨h1,h0,h2⟩:=hB i hi
  refine iT ?_
  refine W.sr ?_
  simp (disch:=omega) [gw,hi]
  refine bO [3,5,6,7,8] ?_
  refine W.b9 (fun K hK=>?_)
  simp (disch:=omega) [gw]
  refine b8 h1 ?_
  rw [show(if I7 x i<bl (aU LL (nth x i).natAbs)then bl (aU LL (nth x i).natAbs)else I7 x i)=I7 x (i+1)from rfl]
  have GF:0≤I7 x (i+1)∧I7 x (i+1)<1000000000000:=by rw [I7];split<;>omega
  refine W.lw [3,6,7,8] hK ?_;clear hK K;simp
  refine W.b9 (fun K hK=>?_);simp (disch:=omega) [gw]
  refine hK _ ⟨k-1,_,aC _ [3,6,7,8],by omega,i+1,_,_,rfl,GF,by omega⟩
 ·have hi:i=x.length:=by simp at h;omega
  subst hi
  refine eJ ?_
  refine aA [2] ?_
  exact cP
theorem RF{x y:List Int}{an ad bn bd cn cd dn dd b1 b2 b3 b4 zx zy:Int}(hx:x.length≤50)(hy:y.length≤50)(k1:aH env.P 257 [us (aU LL an.natAbs)] (.int .i64 b1))(k2:aH env.P 257 [us (aU LL bn.natAbs)] (.int .i64 b2))(k3:aH env.P 257 [us (aU LL cn.natAbs)] (.int .i64 b3))(k4:aH env.P 257 [us (aU LL dn.natAbs)] (.int .i64 b4))
  (l1:0≤b1∧b1<1000000000000) (l2:0≤b2∧b2<1000000000000) (l3:0≤b3∧b3<1000000000000) (l4:0≤b4∧b4<1000000000000) (sx:aH env.P 264 [Po x] (.int .i64 zx)) (sy:aH env.P 264 [Po y] (.int .i64 zy)) (m1:0≤zx∧zx<1000000000000) (m2:0≤zy∧zy<1000000000000) :
  aH env.P 252 [.ag (G9 x an ad bn bd), .ag (G9 y cn cd dn dd)] (.int .i64 (64+2*(b1+b2+b3+b4)+4*((x.length:Int)+y.length)*(zx+zy+((x.length:Int)+y.length)+8))):=by
 have p1:0≤4*((x.length:Int)+y.length)*(zx+zy+((x.length:Int)+y.length)+8):=Int.mul_nonneg (by omega) (by omega)
 have p2:4*((x.length:Int)+y.length)*(zx+zy+((x.length:Int)+y.length)+8)≤400*3000000000000:=Int.mul_le_mul (by omega) (by omega) (by omega) (by decide)
 simp only [G9]at *
 refine cA [(0, .ag (G9 x an ad bn bd)),(1, .ag (G9 y cn cd dn dd))] Tryz.func252 ?_
 refine aA [2,3] ?_
 refine aA [2,3,5] ?_
 refine kB ?_
 refine b8 k1 ?_
 refine b8 k2 ?_
 refine b8 k3 ?_
 refine cI [2,3,5,6] k4 ?_
 refine kB ?_
 refine b8 sx ?_
 refine cI [4] sy ?_
 exact cP
theorem RG{q x g:List Int}{an ad bn bd dg:Int}(hl:0<q.length)(NG:q.length<1000000)(hq:aH env.P 64 [Po q] (Po q))(hN:aH env.P 192 [.ag (G9 x an ad bn bd)] (.ag (G9 x an ad bn bd)))(hp:aH env.P 193 [.ag (G9 x an ad bn bd)] (.bool false))(hG:aH env.P 194 [.sl [[Po q],[Po x]]] (Po g))(hD:aH env.P 83 [Po g] (.int .i64 dg))(h0:0<dg)
  (hh:aH env.P 195 [Po g,T2 an ad,T2 bn bd] (.bool true)):aH env.P 246 [Po q, .ag (G9 x an ad bn bd)] (.int .i64 0):=by
 have pS:q ≠ []:=fun h=>by rw [h]at hl;simp at hl
 simp only [G9]at *
 refine cA [(0,Po q),(1, .ag (G9 x an ad bn bd))] Tryz.func246 ?_
 refine aA [0,3] ?_
 refine kB ?_
 refine b8 hq ?_
 refine aD hN ?_
 (try (refine bF (of_decide_eq_true (by kernel_rfl)) ?_));(try simp (maxSteps:=4000000) (disch:=omega) [gw]);(repeat rw [if_pos (by kernel_rfl)]);(try simp (maxSteps:=4000000) (disch:=omega) [gw])
 (try (refine bF (of_decide_eq_true (by kernel_rfl)) ?_));(try simp (maxSteps:=4000000) (disch:=omega) [gw]);(repeat rw [if_pos (by kernel_rfl)]);(try simp (maxSteps:=4000000) (disch:=omega) [gw])
 refine bO [0,3] ?_
 refine aM [0,3,14] ?_
 refine bP ?_ ?_<;>intro h
 ·simp at h;exact absurd h pS
 refine W.skip ?_
 refine W.seq ?_
 refine aY [0,3,16] hp ?_
 refine bP ?_ ?_<;>intro h
 ·simp at h
 refine W.skip ?_
 refine W.seq ?_
 refine aY [0,3,5] hG ?_
 refine j4 ?_
 refine aD hD ?_
 simp (disch:=omega) [gw,h0]
 refine cI [0,3,36] hh ?_
 refine bP ?_ ?_<;>intro h
 ·refine aA [4] ?_
  exact cP
 ·simp at h
theorem adg{α:Type}{gc:α→List PV}{q x g:List Int}{C:List α}{an ad bn bd:Nat→Int}{dg r:Int}{N J:Nat}(hl:0<q.length)(NG:q.length<1000000)(hq:aH env.P 64 [Po q] (Po q))(hN:aH env.P 192 [.ag (G9 x (an 0) (ad 0) (bn 0) (bd 0))] (.ag (G9 x (an 0) (ad 0) (bn 0) (bd 0))))(hp:aH env.P 193 [.ag (G9 x (an 0) (ad 0) (bn 0) (bd 0))] (.bool false))(hG:aH env.P 194 [.sl [[Po q],[Po x]]] (Po g))
  (hD:aH env.P 83 [Po g] (.int .i64 dg)) (hh:0<dg→aH env.P 195 [Po g,T2 (an 0) (ad 0),T2 (bn 0) (bd 0)] (.bool false)) (hC:aH env.P 69 [Po q] (.fG [.rd [aJ gc C], .int .i64 0])) (hs:aH env.P 252 [.ag (G9 x (an 0) (ad 0) (bn 0) (bd 0)), .ag (G9 q 0 0 0 0)] (.int .i64 N)) (D5:N<1000000000000000)
  (hb:∀j,j<J→aH env.P 193 [.ag (G9 x (an j) (ad j) (bn j) (bd j))] (.bool false)∧(∃z:Int,aH env.P 88 [.rd [aJ gc C],T2 (an j) (ad j),T2 (bn j) (bd j)] (.int .i64 z)∧(z==0)=false)∧aH env.P 254 [.ag (G9 x (an j) (ad j) (bn j) (bd j))] (.ag (G9 x (an (j+1)) (ad (j+1)) (bn (j+1)) (bd (j+1)))))
  (hJ:J≤N) (j3:J<N→aH env.P 193 [.ag (G9 x (an J) (ad J) (bn J) (bd J))] (.bool true)∨aH env.P 193 [.ag (G9 x (an J) (ad J) (bn J) (bd J))] (.bool false)∧aH env.P 88 [.rd [aJ gc C],T2 (an J) (ad J),T2 (bn J) (bd J)] (.int .i64 0)) (hr:aH env.P 87 [Po q,T2 (bn J) (bd J)] (.int .i64 r)) :
  aH env.P 246 [Po q, .ag (G9 x (an 0) (ad 0) (bn 0) (bd 0))] (.int .i64 r):=by
 have pS:q ≠ []:=fun h=>by rw [h]at hl;simp at hl
 replace hs:aH env.P 252 [.ag (G9 x (an 0) (ad 0) (bn 0) (bd 0)), .ag [Po q, .bool false, .sl [], .bool false, .sl [], .bool false, .sl [], .bool false, .sl []]] (.int .i64 N):=hs
 simp only [G9]at *
 refine cA [(0,Po q),(1, .ag (G9 x (an 0) (ad 0) (bn 0) (bd 0)))] Tryz.func246 ?_
 refine aA [0,3] ?_
 refine kB ?_
 refine b8 hq ?_
 refine aD hN ?_
 (try (refine bF (of_decide_eq_true (by kernel_rfl)) ?_));(try simp (maxSteps:=4000000) (disch:=omega) [gw]);(repeat rw [if_pos (by kernel_rfl)]);(try simp (maxSteps:=4000000) (disch:=omega) [gw])
 (try (refine bF (of_decide_eq_true (by kernel_rfl)) ?_));(try simp (maxSteps:=4000000) (disch:=omega) [gw]);(repeat rw [if_pos (by kernel_rfl)]);(try simp (maxSteps:=4000000) (disch:=omega) [gw])
 refine bO [0,3] ?_
 refine aM [0,3,14] ?_
 refine bP ?_ ?_<;>intro h
 ·simp at h;exact absurd h pS
 refine W.skip ?_
 refine W.seq ?_
 refine aY [0,3,16] hp ?_
 refine bP ?_ ?_<;>intro h
 ·simp at h
 refine W.skip ?_
 refine W.seq ?_
 refine aY [0,3,5] hG ?_
 refine W.gK (fun σ=>∃(v3:Nat) (rows:Pm.Rows) (clk:Nat),σ=⟨fa [(0,Po q),(3, .ptr 3 v3 0 0),(36, .bool false)],rows,clk⟩∧rows 3=some ⟨v3,54,9,[G9 x (an 0) (ad 0) (bn 0) (bd 0)]⟩) (fun K hK=>?_) ?_
 ·by_cases h0:0<dg
  ·have hh':=hh h0
   simp (disch:=omega) [gw]
   refine aD hD ?_
   simp (disch:=omega) [gw,h0]
   refine b8 hh' ?_
   refine hK _ _ (aC _ [0,3,36]) ⟨_,_,_,rfl,by simp⟩
  ·simp (disch:=omega) [gw]
   refine aD hD ?_
   simp (disch:=omega) [gw,h0]
   refine hK _ _ (aC _ [0,3,36]) ⟨_,_,_,rfl,by simp⟩
 rintro _ ⟨v3,rows,clk,rfl,fU⟩
 simp only [G9]at fU
 refine bP ?_ ?_<;>intro h
 ·simp at h
 refine W.skip ?_
 refine aY [0,3,6] hC ?_
 refine W.gD (fun σ=>∃(v3:Nat) (rows:Pm.Rows) (clk:Nat),σ=⟨fa [(0,Po q),(3, .ptr 3 v3 0 0)],rows,clk⟩∧rows 3=some ⟨v3,54,9,[G9 x (an J) (ad J) (bn J) (bd J)]⟩) ?_ ?_
 ·refine W.sr ?_
  simp (disch:=omega) [gw,fU]
  refine cI [0,3,6,45,46] hs ?_
  refine W.block ?_
  refine W.a8 (fun k σ=>∃(j v3:Nat) (rows:Pm.Rows) (clk:Nat),σ=⟨fa [(0,Po q),(3, .ptr 3 v3 0 0),(6, .rd [aJ gc C]),(45, .int .i64 N),(46, .int .i64 j)],rows,clk⟩∧rows 3=some ⟨v3,54,9,[G9 x (an j) (ad j) (bn j) (bd j)]⟩∧j+k=J) J ?_ ?_
  ·exact⟨_, .refl,0,_,_,_,rfl,by simp [fU],by omega⟩
  rintro k _ ⟨j,v3,rows,clk,rfl,fU,hjk⟩
  simp only [G9]at fU
  refine cC [0,3,6,45,46,47] ?_
  refine bP ?_ ?_<;>intro h
  ·have hjN:j<N:=by simp at h;omega
   refine iT ?_
   refine W.seq ?_
   by_cases hjJ:j<J
   ·obtain⟨g1,⟨z,g2,g3⟩,g4⟩:=hb j hjJ
    refine W.sr ?_
    simp (disch:=omega) [gw,fU]
    refine aD g1 ?_
    simp (disch:=omega) [gw,fU]
    refine aD g2 ?_
    simp (disch:=omega) [gw,g3]
    refine bO [0,3,6,45,46,58] ?_
    refine bP ?_ ?_<;>intro h
    ·simp at h
    refine W.skip ?_
    refine W.b9 (fun K hK=>?_)
    simp (disch:=omega) [gw,fU]
    refine aD g4 ?_
    simp (disch:=omega) [gw,fU]
    refine W.lw [0,3,6,45,46] hK ?_;clear hK K;simp
    refine W.b9 (fun K hK=>?_);simp (disch:=omega) [gw]
    refine hK _ ⟨k-1,_,aC _ [0,3,6,45,46],by omega,j+1,v3,_,_,rfl,by simp,by omega⟩
   ·have hjE:j=J:=by omega
    subst hjE
    rcases j3 hjN with g1 | ⟨g1,g2⟩
    ·refine W.sr ?_
     simp (disch:=omega) [gw,fU]
     refine cI [0,3,6,45,46,58] g1 ?_
     refine bP ?_ ?_<;>intro h
     ·refine eJ ?_
      exact⟨_,aC _ [0,3],_,_,_,rfl,fU⟩
     ·simp at h
    ·refine W.sr ?_
     simp (disch:=omega) [gw,fU]
     refine aD g1 ?_
     simp (disch:=omega) [gw,fU]
     refine cI [0,3,6,45,46,58] g2 ?_
     refine bP ?_ ?_<;>intro h
     ·refine eJ ?_
      exact⟨_,aC _ [0,3],_,_,_,rfl,fU⟩
     ·simp at h
  ·have hjE:j=J:=by simp at h;omega
   subst hjE
   refine eJ ?_
   exact⟨_,aC _ [0,3],_,_,_,rfl,fU⟩
 rintro _ ⟨v3,rows,clk,rfl,fU⟩
 simp only [G9]at fU
 refine W.sr ?_
 simp (disch:=omega) [gw,fU]
 refine cI [4] hr ?_
 exact cP
theorem agH{s k:Nat}{p:ZX}{x:List Int}{an ad bn bd:Int}(sg:ZX→Int)(h0:sg 0=0)(hp:BZ s k p)(hk:k≤31)(hs:s≤1000000)(XU:∀(q:ZX) (s':Nat),s'≤s+5*k→BZ s' k q→aH env.P 246 [Po q.l, .ag (G9 x an ad bn bd)] (.int .i64 (sg q))) :
  aH env.P 185 [Po p.l, .ag (G9 x an ad bn bd)] (.int .i64 (NK sg (ZX.N p) p)):=by
 have h1:∀(q:ZX) (s':Nat),s'≤s+5*k→BZ s' k q→aH env.P 245 [Po q.l, .rd (G9 x an ad bn bd)] (.int .i64 (sg q)):=fun q s' zU bq=>by
  have k6:=XU q s' zU bq
  simp only [G9]at k6 ⊢
  generalize sg q=r at *
  refine cA [(0,Po q.l),(1, .rd (G9 x an ad bn bd))] Tryz.func245 ?_
  refine aA [0,1] ?_
  refine aY [3] k6 ?_
  exact cP
 have F1:=RE 245 rfl [.rd (G9 x an ad bn bd)] rfl sg h0 hp hk hs h1
 simp only [G9]at F1 ⊢
 generalize NK sg (ZX.N p) p=r at *
 refine cA [(0,Po p.l),(1, .ag (G9 x an ad bn bd))] Tryz.func185 ?_
 refine aA [0,3] ?_
 refine aY [4] F1 ?_
 exact cP
theorem xW{u:Nat}(q:ZX){s' k:Nat}(bq:BZ s' k q)(hs:s'≤1000000000)(hk:k≤100){t:Rat}(qt:SQ u t)(hu:u≤1000000000):aH env.P 87 [Po q.l,RT t] (.int .i64 (bT (e t q))):=by
 have hm:k*(u+1)≤100*(u+1):=Nat.mul_le_mul_right _ hk
 have k2:=FQ (XT bq) q.c qt.nL qt.dL qt.hu (by omega) (by omega) (by omega) (dQ t) ⟨qt.nL,qt.dL⟩
 rwa [IH]at k2
section
variable {s n u:Nat} {f:ZX} (I:zA s n f)
include I
theorem U3(hs:s≤1000000){t:Rat}(qt:SQ u t)(hu:u≤1000000000):aH env.P 197 [Po f.l,RT t] (.int .i64 (C7 f t)):=by
 have hn:=I.ch.hn
 have h1:=xW f I.ch.bz (by omega) (by omega) qt hu
 have h2:=pN I.ch.bz (by omega) (by omega)
 have h3:=xW (bS f) (I.ch.bz.bS (by omega)) (by omega) (by omega) qt hu
 have:=adb (n:=t.num) (d:=t.den) h1 h2 h3
 have e1:(if bT (e t f)=0 then bT (e t (bS f))else bT (e t f))=C7 f t:=by
  unfold C7
  by_cases h:e t f=0
  ·rw [if_pos h,if_pos (by rw [h,fS])]
  ·rw [if_neg h,if_neg (fun h0=>h (eU.1 h0))]
 rw [e1]at this
 exact this
theorem amM(hs:s≤1000000){p:Rat × Rat}(A:zS f (vt (cH f)) p.1 p.2){m:Rat}(h1:p.1<m)(h2:m≤p.2)(q1:SQ u p.1)(q2:SQ u p.2)(qm:SQ u m)(hu:u≤1000000000) :
  aH env.P 111 [GA f p,RT m] (.int .i64 (if e m f=0 then 0 else if vt (cH f) m<vt (cH f) p.1 then -1 else 1)):=by
 have dM:p.1<p.2:=by grind
 have z0:=kM q1.nL q1.dL q2.nL q2.dL (by omega) (dQ p.1) (dQ p.2) ⟨q1.nL,q1.dL⟩ ⟨q2.nL,q2.dL⟩
 have z1:=kM qm.nL qm.dL q1.nL q1.dL (by omega) (dQ m) (dQ p.1) ⟨qm.nL,qm.dL⟩ ⟨q1.nL,q1.dL⟩
 have z2:=kM qm.nL qm.dL q2.nL q2.dL (by omega) (dQ m) (dQ p.2) ⟨qm.nL,qm.dL⟩ ⟨q2.nL,q2.dL⟩
 have hp:=uG (x:=f.l) z0
 have oS:¬0≤eD (p.1.num*(p.2.den:Int)) (p.2.num*(p.1.den:Int)):=by have:=(sM (p:=p.1) (q:=p.2)).2 dM;omega
 rw [decide_eq_false oS]at hp
 have XU:=xW f I.ch.bz (by omega) (by have:=I.ch.hn;omega) qm hu
 have hlw:=U3 I hs q1 hu
 refine MT hp z1 z2 XU hlw ?_
 have g1:¬eD (m.num*(p.1.den:Int)) (p.1.num*(m.den:Int))≤0:=fun h=>absurd (ac7.1 h) (Rat.not_le.2 h1)
 have g2:¬0<eD (m.num*(p.2.den:Int)) (p.2.num*(m.den:Int)):=fun h=>absurd (FX.1 h) (Rat.not_lt.2 h2)
 have IW:=I.S.par (Rat.le_of_lt h1)
 have hv:vt (cH f) p.1=vt (cH f) p.2+1:=by
  rcases A.k with ⟨h,_⟩ | ⟨_,h⟩
  ·rw [h]at dM;exact absurd dM Rat.lt_irrefl
  ·exact h
 have m1:=I.S.dK (Rat.le_of_lt h1)
 have m2:=I.S.dK h2
 rw [if_neg g1,if_neg g2]
 by_cases h0:e m f=0
 ·rw [if_pos h0,if_pos (by rw [h0,fS])]
 ·have h3:¬bT (e m f)=0:=fun h=>h0 (eU.1 h)
  rw [if_neg h0,if_neg h3]
  have h4:C7 f m=bT (e m f):=by unfold C7;rw [if_neg h0]
  rw [h4]at IW
  by_cases h5:vt (cH f) m<vt (cH f) p.1
  ·rw [if_pos h5,if_neg]
   intro h6
   rw [show vt (cH f) p.1-vt (cH f) m=1 by omega,show sg1 1 = -1 from rfl]at IW
   omega
  ·rw [if_neg h5,if_pos]
   rw [show vt (cH f) p.1-vt (cH f) m=0 by omega,show sg1 0=1 from rfl,Int.one_mul]at IW
   exact IW
end
def I8(f:ZX)(p:Rat × Rat):Rat × Rat:=if p.1<p.2 then(if e ((p.1+p.2)/2) f=0 then((p.1+p.2)/2,(p.1+p.2)/2)else if vt (cH f) ((p.1+p.2)/2)<vt (cH f) p.1 then(p.1,(p.1+p.2)/2)else((p.1+p.2)/2,p.2))else p
theorem adh{s n u:Nat}{f:ZX}(I:zA s n f)(hs:s≤1000000){p:Rat × Rat}(A:zS f (vt (cH f)) p.1 p.2)(q1:SQ u p.1)(q2:SQ u p.2)(qm:SQ u ((p.1+p.2)/2))(hu:u≤1000000000):aH env.P 254 [GA f p] (GA f (I8 f p)):=by
 have z0:=kM q1.nL q1.dL q2.nL q2.dL (by omega) (dQ p.1) (dQ p.2) ⟨q1.nL,q1.dL⟩ ⟨q2.nL,q2.dL⟩
 have hp:=uG (x:=f.l) z0
 unfold I8
 by_cases dM:p.1<p.2
 ·rw [if_pos dM]
  have oS:¬0≤eD (p.1.num*(p.2.den:Int)) (p.2.num*(p.1.den:Int)):=by have:=(sM (p:=p.1) (q:=p.2)).2 dM;omega
  rw [decide_eq_false oS]at hp
  obtain⟨m1,m2⟩:=xU dM
  have hm:=acS (q1.LLs (Nat.le_refl _)) (q2.LLs (Nat.le_refl _)) (by omega)
  have hc:=amM I hs A m1 (Rat.le_of_lt m2) q1 q2 qm hu
  generalize (p.1+p.2)/2=m at *
  have k:=YK hp hm hc
  by_cases h0:e m f=0
  ·rw [if_pos h0,if_pos rfl]at k
   rw [if_pos h0];exact k
  ·rw [if_neg h0]at k
   rw [if_neg h0]
   by_cases h5:vt (cH f) m<vt (cH f) p.1
   ·rw [if_pos h5,if_neg (by decide),if_pos rfl]at k
    rw [if_pos h5];exact k
   ·rw [if_neg h5,if_neg (by decide),if_neg (by decide)]at k
    rw [if_neg h5];exact k
 ·rw [if_neg dM]
  have oS:0≤eD (p.1.num*(p.2.den:Int)) (p.2.num*(p.1.den:Int)):=by
   have:=mt (sM (p:=p.1) (q:=p.2)).1 dM;omega
  rw [decide_eq_true oS]at hp
  exact adf hp
theorem adi{f:ZX}{p:Rat × Rat}(A:zS f (vt (cH f)) p.1 p.2):zS f (vt (cH f)) (I8 f p).1 (I8 f p).2∧(∀t,iG f (I8 f p) t↔iG f p t)∧p.1≤(I8 f p).1∧(I8 f p).2≤p.2∧((I8 f p).2-(I8 f p).1)*2≤p.2-p.1:=by
 unfold I8
 by_cases dM:p.1<p.2
 ·rw [if_pos dM]
  obtain⟨m1,m2⟩:=xU dM
  obtain⟨d1,d2⟩:=A.half m1 m2
  have e2:(p.1+p.2)/2*2=p.1+p.2:=Rat.div_mul_cancel (by decide)
  have hr:=fun h0=>A.S.root m2 (t:=p.2) (s:=(p.1+p.2)/2) h0
  generalize (p.1+p.2)/2=m at *
  by_cases h0:e m f=0
  ·rw [if_pos h0]
   have h5:vt (cH f) m<vt (cH f) p.1:=by
    have hv:vt (cH f) p.1=vt (cH f) p.2+1:=by
     rcases A.k with ⟨h,_⟩ | ⟨_,h⟩
     ·rw [h]at dM;exact absurd dM Rat.lt_irrefl
     ·exact h
    refine Nat.not_le.1 fun h6=>?_
    have h7:=A.S.dK (Rat.le_of_lt m1)
    exact(A.S.flat m1 (by omega)).1 h0
   obtain⟨a1,a2⟩:=d1 h5
   obtain⟨b1,b2⟩:=a1.exact h0
   exact⟨b1,fun t=>(b2 t).trans (a2 t),Rat.le_of_lt m1,Rat.le_of_lt m2,by show(m-m)*2≤_;grind⟩
  ·rw [if_neg h0]
   by_cases h5:vt (cH f) m<vt (cH f) p.1
   ·rw [if_pos h5]
    obtain⟨a1,a2⟩:=d1 h5
    exact⟨a1,a2,Rat.le_refl,Rat.le_of_lt m2,by show(m-p.1)*2≤_;grind⟩
   ·rw [if_neg h5]
    obtain⟨a1,a2⟩:=d2 h5
    exact⟨a1,a2,Rat.le_of_lt m1,Rat.le_refl,by show(p.2-m)*2≤_;grind⟩
 ·rw [if_neg dM]
  have:=A.le
  exact⟨A,fun t=>Iff.rfl,Rat.le_refl,Rat.le_refl,by grind⟩
theorem agI{s n u:Nat}{g:ZX}(I:zA s n g)(hs:s≤1000000){lo hi:Rat}(h:lo<hi)(hv:vt (cH g) lo≤vt (cH g) hi+1)(q1:SQ u lo)(q2:SQ u hi)(hu:u≤1000000000):aH env.P 195 [Po g.l,RT lo,RT hi] (.bool (decide (vt (cH g) hi<vt (cH g) lo))):=by
 have h1:=xW g I.ch.bz (by omega) (by have:=I.ch.hn;omega) q2 hu
 have h2:=U3 I hs q1 hu
 have k:=ade (an:=lo.num) (ad:=lo.den) (bn:=hi.num) (bd:=hi.den) h1 h2
 have m1:=I.S.dK (Rat.le_of_lt h)
 have e1:decide (bT (e hi g)=0∨bT (e hi g)≠C7 g lo)=decide (vt (cH g) hi<vt (cH g) lo):=by
  refine decide_eq_decide.2 ?_
  by_cases h0:e hi g=0
  ·refine⟨fun _=>Nat.not_le.1 fun h5=>(I.S.flat h (by omega)).1 h0,fun _ => .inl (by rw [h0,fS])⟩
  ·have h3:bT (e hi g)≠0:=fun h=>h0 (eU.1 h)
   have IW:=I.S.par (Rat.le_of_lt h)
   have h4:C7 g hi=bT (e hi g):=by unfold C7;rw [if_neg h0]
   rw [h4]at IW
   by_cases h5:vt (cH g) hi<vt (cH g) lo
   ·rw [show vt (cH g) lo-vt (cH g) hi=1 by omega,show sg1 1 = -1 from rfl]at IW
    exact⟨fun _=>h5,fun _ => .inr fun h6=>by omega⟩
   ·rw [show vt (cH g) lo-vt (cH g) hi=0 by omega,show sg1 0=1 from rfl,Int.one_mul]at IW
    exact⟨fun h6=>(h6.elim (fun h7=>h3 h7) (fun h7=>h7 IW)).elim,fun h6=>absurd h6 h5⟩
 rw [e1]at k
 exact k
def mN(f:ZX)(p:Rat × Rat):Nat→Rat × Rat
 | 0=>p
 | j+1=>I8 f (mN f p j)
theorem amN{f:ZX}{p:Rat × Rat}{D j:Nat}{B:Rat}(h1:Gr D B j p.1)(h2:Gr D B j p.2):Gr D B (j+1) (I8 f p).1∧Gr D B (j+1) (I8 f p).2:=by
 have hm:=h1.NJ h2
 unfold I8
 split
 ·split
  ·exact⟨hm,hm⟩
  ·split
   ·exact⟨h1.mono (by omega),hm⟩
   ·exact⟨hm,h2.mono (by omega)⟩
 ·exact⟨h1.mono (by omega),h2.mono (by omega)⟩
theorem MU{f:ZX}{p:Rat × Rat}(A:zS f (vt (cH f)) p.1 p.2){D:Nat}{B:Rat}(h1:Gr D B 0 p.1)(h2:Gr D B 0 p.2):∀j,zS f (vt (cH f)) (mN f p j).1 (mN f p j).2∧(∀t,iG f (mN f p j) t↔iG f p t)∧p.1≤(mN f p j).1∧(mN f p j).2≤p.2∧((mN f p j).2-(mN f p j).1)*2^j≤p.2-p.1∧Gr D B j (mN f p j).1∧Gr D B j (mN f p j).2
 | 0=>⟨A,fun _=>Iff.rfl,Rat.le_refl,Rat.le_refl,by rw [Rat.pow_zero,Rat.mul_one];exact Rat.le_refl,h1,h2⟩
 | j+1=>by
  obtain⟨a1,a2,a3,a4,a5,a6,a7⟩:=MU A h1 h2 j
  obtain⟨b1,b2,b3,b4,b5⟩:=adi a1
  obtain⟨c1,c2⟩:=amN (f:=f) a6 a7
  refine⟨b1,fun t=>(b2 t).trans (a2 t),by show _≤(I8 f (mN f p j)).1;grind,by show(I8 f (mN f p j)).2≤_;grind,?_,c1,c2⟩
  show((I8 f (mN f p j)).2-(I8 f (mN f p j)).1)*2^(j+1)≤_
  have hP:=gZ j
  have g3:=Rat.mul_le_mul_of_nonneg_right b5 (Rat.le_of_lt hP)
  rw [Rat.pow_succ]
  grind
structure RH(U:Rat→Prop):Prop where
 up:∀s t,U s→s≤t→U t
 lo:∃s,¬U s
 hi:∃t,U t
namespace RH
variable {U:Rat→Prop} (H:RH U)
include H
theorem lt{s t:Rat}(h1:¬U s)(h2:U t):s<t:=Rat.not_le.1 fun h=>h1 (H.up t s h2 h)
theorem inter{s t s' t':Rat}(h1:¬U s)(h2:U t)(h3:¬U s')(h4:U t'):∃a b,¬U a∧U b∧s≤a∧s'≤a∧b≤t∧b≤t'∧a<b:=by
 obtain⟨a,a1,a2,a3⟩:∃a,¬U a∧s≤a∧s'≤a:=by
  by_cases h:s≤s'
  ·exact⟨s',h3,h,Rat.le_refl⟩
  ·exact⟨s,h1,Rat.le_refl,by grind⟩
 obtain⟨b,b1,b2,b3⟩:∃b,U b∧b≤t∧b≤t':=by
  by_cases h:t≤t'
  ·exact⟨t,h2,Rat.le_refl,h⟩
  ·exact⟨t',h4,by grind,Rat.le_refl⟩
 exact⟨a,b,a1,b1,a2,a3,b2,b3,H.lt a1 b1⟩
end RH
def Up(U:Rat→Prop)(x:Rat):Prop:=∃s,s<x∧U s
def Sn(U:Rat→Prop)(q:ZX)(σ:Int):Prop:=∃ε s t:Rat,0<ε∧¬U s∧U t ∧ ∀x,s<x→x≤t→bT (e x q)=σ∧kD ε (e x q)
def MV(U:Rat→Prop)(q:ZX):Prop:=∀ε:Rat,0<ε → ∃s t,¬U s∧U t ∧ ∀x,s≤x→x≤t→Ab (e x q) ε
def NL(U:Rat→Prop)(q:ZX)(σ:Int):Prop:=(σ=0∧MV U q)∨((σ=1∨σ = -1)∧Sn U q σ)
theorem Sn.U4{U:Rat→Prop}(H:RH U){q:ZX}{σ:Int}(h:Sn U q σ):¬MV U q:=fun h2=>by
 obtain⟨ε,s,t,h0,h1,h2',h3⟩:=h
 obtain⟨s',t',h4,h5,h6⟩:=h2 (ε/2) (by grind)
 obtain⟨a,b,g1,g2,g3,g4,g5,g6,g7⟩:=H.inter h1 h2' h4 h5
 have k1:=(h3 b (by grind) g5).2
 obtain⟨k2,k3⟩:=h6 b (by grind) g6
 rcases k1 with k1 | k1<;>grind
theorem NL.uniq{U:Rat→Prop}(H:RH U){q:ZX}{σ τ:Int}(h:NL U q σ)(h':NL U q τ):σ=τ:=by
 rcases h with ⟨rfl,h⟩ | ⟨h1,h⟩
 ·rcases h' with ⟨rfl,h'⟩ | ⟨_,h'⟩
  ·rfl
  ·exact absurd h (h'.U4 H)
 ·rcases h' with ⟨_,h'⟩ | ⟨_,h'⟩
  ·exact absurd h' (h.U4 H)
  ·obtain⟨ε,s,t,_,h2,h3,h4⟩:=h
   obtain⟨ε',s',t',_,h5,h6,h7⟩:=h'
   obtain⟨a,b,g1,g2,g3,g4,g5,g6,g7⟩:=H.inter h2 h3 h5 h6
   rw [←(h4 b (by grind) g5).1,←(h7 b (by grind) g6).1]
noncomputable def sgU(U:Rat→Prop)(q:ZX):Int:=open Classical in if h:∃σ,NL U q σ then h.choose else 0
theorem NL.eq{U:Rat→Prop}(H:RH U){q:ZX}{σ:Int}(h:NL U q σ):sgU U q=σ:=by
 have h1:∃σ,NL U q σ:=⟨σ,h⟩
 unfold sgU
 rw [dif_pos h1]
 exact h1.choose_spec.uniq H h
theorem DF{U:Rat→Prop}(H:RH U):MV U 0:=fun ε hε=>by
 obtain⟨s,hs⟩:=H.lo
 obtain⟨t,ht⟩:=H.hi
 refine⟨s,t,hs,ht,fun x _ _=>?_⟩
 have:e x 0=0:=rfl
 rw [this]
 exact⟨by grind,by grind⟩
theorem MV.mul{U:Rat→Prop}(H:RH U){g:ZX}(h:MV U g)(k:ZX):MV U (k*g):=fun ε hε=>by
 obtain⟨s0,hs⟩:=H.lo
 obtain⟨t0,ht⟩:=H.hi
 obtain⟨B,hB,ha,hb⟩:=mJ s0 t0
 obtain⟨Q,hQ,hl⟩:=lip k B hB
 obtain⟨M,hM,hm,_⟩:=mJ (e s0 k) 0
 have j3:=H.lt hs ht
 have hC:0<M+(t0-s0)*Q:=by
  have:=Rat.mul_pos (show 0<t0-s0 by grind) hQ;grind
 have hk:∀x,s0≤x→x≤t0→Ab (e x k) (M+(t0-s0)*Q):=fun x h1 h2=>by
  have h3:=hl s0 x ha (dE ha hb h1 h2) h1
  have h4:(x-s0)*Q≤(t0-s0)*Q:=Rat.mul_le_mul_of_nonneg_right (by grind) (Rat.le_of_lt hQ)
  obtain⟨p1,p2⟩:=h3
  obtain⟨p3,p4⟩:=hm
  exact⟨by grind,by grind⟩
 generalize M+(t0-s0)*Q=C at *
 have e1:ε/C*C=ε:=Rat.div_mul_cancel (Rat.ne_of_gt hC)
 obtain⟨s,t,g1,g2,g3⟩:=h (ε/C) ((Rat.lt_div_iff hC).2 (by grind))
 obtain⟨a,b,k1,k2,k3,k4,k5,k6,k7⟩:=H.inter hs ht g1 g2
 refine⟨a,b,k1,k2,fun x h1 h2=>?_⟩
 have h3:=(hk x (by grind) (by grind)).mul (g3 x (by grind) (by grind))
 rw [lI]
 refine h3.mono ?_
 grind
theorem MV.D7{U:Rat→Prop}{c:Int}(hc:c≠0){q:ZX}(h:MV U (K c*q)):MV U q:=fun ε hε=>by
 obtain⟨s,t,h1,h2,h3⟩:=h ε hε
 refine⟨s,t,h1,h2,fun x h4 h5=>?_⟩
 have h6:=h3 x h4 h5
 rw [lI,z9]at h6
 have h7:=wF hc
 obtain⟨p1,p2⟩:=h6
 generalize (c:Rat)=C at *
 generalize e x q=y at *
 have key:∀C y:Rat,1≤C→C*y≤ε → -ε≤C*y→Ab y ε:=fun C y h1 h2 h3=>by
  refine⟨Rat.not_lt.1 fun h=>?_,Rat.not_lt.1 fun h=>?_⟩
  ·have:=Rat.mul_le_mul_of_nonneg_right h1 (show 0 ≤ -y by grind);grind
  ·have:=Rat.mul_le_mul_of_nonneg_right h1 (show 0≤y by grind);grind
 rcases h7 with h7 | h7
 ·have:=key (-C) (-y) (by grind) (by grind) (by grind)
  obtain⟨q1,q2⟩:=this
  exact⟨by grind,by grind⟩
 ·exact key C y h7 p2 p1
theorem MV.dv{U:Rat→Prop}(H:RH U){g q:ZX}(h:MV U g)(hd:dv g q):MV U q:=by
 obtain⟨c,hc,k,hk⟩:=hd
 have h1:=h.mul H k
 rw [←hk]at h1
 exact h1.D7 hc
theorem MW{U:Rat→Prop}(H:RH U){w:ZX}{φ:Rat→Nat}(S:uF w φ){s0 t0:Rat}(h1:¬U s0)(h2:U t0)(ht:∀s t,s0≤s→t≤t0→¬U s→U t→φ s≠φ t):MV U w:=fun ε hε=>by
 obtain⟨B,hB,ha,hb⟩:=mJ s0 t0
 obtain⟨Q,hQ,hl⟩:=lip w B hB
 have e1:ε/Q*Q=ε:=Rat.div_mul_cancel (Rat.ne_of_gt hQ)
 have e2:0<ε/Q:=(Rat.lt_div_iff hQ).2 (by grind)
 obtain⟨s,t,g1,g2,g3,g4,g5,g6⟩:=U2 (U:=U) e2 (H.lt h1 h2) h1 h2
 refine⟨s,t,g5,g6,fun x hx hy=>?_⟩
 have h3:=S.small g2 (ht s t g1 g3 g5 g6) hQ (fun a b q1 q2 q3=>hl a b (dE ha hb (by grind) (by grind)) (dE ha hb (by grind) (by grind)) q2) hx hy
 refine h3.mono ?_
 have h4:=Rat.mul_le_mul_of_nonneg_right g4 (Rat.le_of_lt hQ)
 grind
theorem YM(p:ZX){c a b:Rat}(iJ:a<b)(h:∀x,a<x→x≤b→0≤c*e x (bS p)):c*e a p≤c*e b p:=by
 refine Rat.not_lt.1 fun Q3=>?_
 obtain⟨M,hM,hc,_⟩:=mJ c 0
 have key:∀η:Rat,0<η → -(η*(b-a))≤c*e b p-c*e a p:=fun η hη=>by
  have:=ac1 (P:=fun x y=>a≤x→y≤b → -(η*(y-x))≤c*e y p-c*e x p) (fun x y z h1 h2 p1 p2 h3 h4=>by
   have:=p1 h3 (by grind)
   have:=p2 (by grind) h4
   grind) (fun B hB=>by
   obtain⟨S,hS,hcS⟩:=UH p.l
   obtain⟨h3,_⟩:=pP hS hB p.l.length
   have hQ:0<M*(xP S B p.l.length+1):=Rat.mul_pos (by grind) (by grind)
   have e1:η/(M*(xP S B p.l.length+1))*(M*(xP S B p.l.length+1))=η:=Rat.div_mul_cancel (Rat.ne_of_gt hQ)
   refine⟨η/(M*(xP S B p.l.length+1)),(Rat.lt_div_iff hQ).2 (by grind),fun x y hx hy sO hd h4 h5=>?_⟩
   have g1:=mI y x p.l
   have g2:=H8 y x p.l
   have g3:dd y y p.l=e y (bS p):=(acF y p).symm
   have g4:=hc.mul ((UE hS hB hy hx p.l hcS).mono (show xP S B p.l.length≤xP S B p.l.length+1 by grind))
   have g5:=h y (by grind) h5
   have g6:e y p=qv y p.l:=rfl
   have g7:e x p=qv x p.l:=rfl
   rw [g6,g7]
   rw [g3]at g2
   generalize M*(xP S B p.l.length+1)=Q at *
   have g8:c*qv y p.l-c*qv x p.l=(y-x)*(c*e y (bS p))-(y-x)*((y-x)*(c*cc y x p.l)):=by grind
   rw [g8]
   have g9:=Rat.mul_nonneg (show 0≤y-x by grind) g5
   have g10:(y-x)*(c*cc y x p.l)≤η:=by
    have q1:=Rat.mul_le_mul_of_nonneg_left g4.2 (show 0≤y-x by grind)
    have q2:=Rat.mul_le_mul_of_nonneg_right hd (Rat.le_of_lt hQ)
    grind
   have g11:=Rat.mul_le_mul_of_nonneg_left g10 (show 0≤y-x by grind)
   grind) iJ Rat.le_refl Rat.le_refl
  exact this
 have h2:0<b-a:=by grind
 have e2:(c*e a p-c*e b p)/(2*(b-a))*(2*(b-a))=c*e a p-c*e b p:=Rat.div_mul_cancel (by grind)
 have h3:=key _ ((Rat.lt_div_iff (show 0<2*(b-a)by grind)).2 (show 0*(2*(b-a))<c*e a p-c*e b p by grind))
 generalize (c*e a p-c*e b p)/(2*(b-a))=η at *
 grind
theorem DG{α:Type}{P:α→Prop}{f:α→Nat}:∀n,(∀x,P x→f x≤n)→(∃x,P x) → ∃x,P x ∧ ∀y,P y→f y≤f x
 | 0,h,⟨x,hx⟩=>⟨x,hx,fun y hy=>by have:=h y hy;omega⟩
 | n+1,h,hx=>by
  by_cases h1:∃x,P x∧f x=n+1
  ·obtain⟨x,h2,h3⟩:=h1
   exact⟨x,h2,fun y hy=>by have:=h y hy;omega⟩
  ·exact DG n (fun y hy=>by
    have h2:=h y hy
    have h3:f y≠n+1:=fun h3=>h1 ⟨y,hy,h3⟩
    omega) hx
theorem adj{U:Rat→Prop}(H:RH U){p:ZX}(h0:p≠0)(hN:ZX.N p≤20){t:Rat}(ht:Up U t):∃t1,Up U t1∧t1≤t ∧ ∀x,Up U x→x≤t1→e x p≠0:=by
 obtain⟨nf,hf⟩:=nV h0
 have Y9:uL (sq p) (bS (sq p)):=fun d h1 h2=>by
  have h3:=(eS (sq p) (bS (sq p))).least h1 h2
  rw [UQ h0]at h3
  have:=h3.nS ZX.tX
  rwa [ZX.CI]at this
 have D5:ZX.N (sq p)≤20:=by
  have h1:=(wG h0).nS h0
  omega
 have S:=YH nf.ne Y9 D5
 obtain⟨s0,NF⟩:=H.lo
 obtain⟨t1,⟨h1,h2⟩,h3⟩:=DG (P:=fun x=>Up U x∧x≤t) (f:=vt (cH (sq p))) (vt (cH (sq p)) s0) (fun x hx=>by
  obtain⟨⟨s,h1,h2⟩,_⟩:=hx
  have:=H.lt NF h2
  exact S.dK (by grind)) ⟨t,ht,Rat.le_refl⟩
 refine⟨t1,h1,h2,fun x hx hxt=>?_⟩
 obtain⟨s,h4,h5⟩:=hx
 obtain⟨m1,m2⟩:=xU h4
 generalize (s+x)/2=y at *
 have h6:=h3 y ⟨⟨s,m1,h5⟩,by grind⟩
 have h7:=S.dK hxt
 have h8:=S.dK (Rat.le_of_lt m2)
 exact(AE nf Y9 S D5 m2 (by omega) _ p (Nat.le_refl _) h0 (fun q hq=>by rw [hf q hq];exact Nat.le_refl _) x m2 Rat.le_refl).1
def Af(U:Rat→Prop)(q:ZX)(σ:Int):Prop:=σ≠0 ∧ ∃t,Up U t ∧ ∀x,Up U x→x≤t→bT (e x q)=σ
theorem Up.min{U:Rat→Prop}{s t:Rat}(hs:Up U s)(ht:Up U t):∃x,Up U x∧x≤s∧x≤t:=by
 by_cases h:s≤t
 ·exact⟨s,hs,Rat.le_refl,h⟩
 ·exact⟨t,ht,by grind,Rat.le_refl⟩
theorem Af.abs{U:Rat→Prop}{q:ZX}{σ:Int}(h:Af U q σ):σ=1∨σ = -1:=by
 obtain⟨n1,s,h1,h2⟩:=h
 have:=lS (e s q)
 rw [h2 s h1 Rat.le_refl]at this
 omega
theorem Sn.Af{U:Rat→Prop}(H:RH U){q:ZX}{σ:Int}(h0:σ≠0)(h:Sn U q σ):Af U q σ:=by
 obtain⟨ε,s,t,_,h1,h2,h3⟩:=h
 by_cases h4:Up U t
 ·exact⟨h0,t,h4,fun x ⟨y,hy1,hy2⟩ hx2=>(h3 x (by have:=H.lt h1 hy2;grind) hx2).1⟩
 ·have h5:=(h3 t (H.lt h1 h2) Rat.le_refl).1
  obtain⟨r,hr,hc⟩:=agD (f:=q) (t:=t) fun h=>by rw [h,fS]at h5;exact h0 h5.symm
  refine⟨h0,t+r,⟨t,by grind,h2⟩,fun x hx hx2=>?_⟩
  have h6:t<x:=Rat.not_le.1 fun h6=>h4 (by
   obtain⟨y,hy1,hy2⟩:=hx
   exact⟨y,by grind,hy2⟩)
  rw [hc x (by grind) hx2,h5]
theorem MV.Af{U:Rat→Prop}(H:RH U){p:ZX}(hp:p≠0)(hN:ZX.N p≤20){σ:Int}(h:MV U p)(hd:Af U (bS p) σ):Af U p σ:=by
 have ha:=hd.abs
 obtain⟨h0,t,h1,h2⟩:=hd
 obtain⟨t1,g1,g2,g3⟩:=adj H hp hN h1
 refine⟨h0,t1,g1,fun x hx hxt=>?_⟩
 have main:∀c:Rat,(∀y,Up U y→y≤t→0≤c*e y (bS p))→(c=1∨c = -1)→0≤c*e x p:=fun c hc uP=>Rat.not_lt.1 fun KV=>by
  obtain⟨s,t',k1,k2,k3⟩:=h (-(c*e x p)/2) (by grind)
  obtain⟨y,hy1,hy2⟩:=hx
  obtain⟨z,z1,z2,z3,z4⟩:∃z,U z∧z≤t'∧z<x∧s≤z:=by
   by_cases q:y≤t'
   ·exact⟨y,hy2,q,hy1,Rat.le_of_lt (H.lt k1 hy2)⟩
   ·exact⟨t',k2,Rat.le_refl,by grind,Rat.le_of_lt (H.lt k1 k2)⟩
  have q1:=k3 z z4 z2
  have q2:=YM p (c:=c) z3 fun v hv1 hv2=>hc v ⟨z,hv1,z1⟩ (by grind)
  obtain⟨q3,q4⟩:=q1
  rcases uP with rfl | rfl<;>grind
 have pS:=g3 x hx hxt
 have sx:=bZ (e x p)
 rcases ha with rfl | rfl
 ·have:=main 1 (fun y hy hyt=>by have:=C0.1 (h2 y hy hyt);grind) (.inl rfl)
  exact eZ (by grind)
 ·have:=main (-1) (fun y hy hyt=>by have:=CZ.1 (h2 y hy hyt);grind) (.inr rfl)
  exact gS (by grind)
theorem adk{U:Rat→Prop}(H:RH U){sg:ZX→Int}(hs:∀q:ZX,ZX.N q≤20→NL U q (sg q)):∀(k:Nat) (p:ZX),ZX.N p≤k→ZX.N p≤20→p≠0→Af U p (NK sg k p)
 | 0,p,hk,_,h0=>absurd hk (by have:=ZX.aE.1 h0;omega)
 | k+1,p,hk,hN,h0=>by
  rw [NK]
  rcases hs p hN with ⟨h1,h2⟩ | ⟨h1,h2⟩
  ·rw [if_pos h1]
   have hd:bS p≠0:=fun hd=>by
    have hN1:ZX.N p=1:=by
     have:=ZX.aE.1 h0
     rcases Nat.lt_or_ge (ZX.N p) 2 with h3 | h3
     ·omega
     ·exact absurd hd (CL h3)
    obtain⟨c,hc,rfl⟩:=ZX.k8 hN1
    obtain⟨s,t,g1,g2,g3⟩:=h2 (1/2) (by grind)
    have g4:=g3 t (Rat.le_of_lt (H.lt g1 g2)) Rat.le_refl
    rw [z9]at g4
    have g5:=wF hc
    obtain⟨p1,p2⟩:=g4
    rcases g5 with g5 | g5<;>grind
   have hNd:=mG p
   exact h2.Af H h0 hN (adk H hs k (bS p) (by omega) (by omega) hd)
  ·rw [if_neg (by omega)]
   exact h2.Af H (by omega)
end Go.Proofs.YtiobceocpabjdaaGreat
namespace Go.Proofs.YtiobceocpabjdaaGreat
open Go Pm
open ZX hiding N W
theorem adl{a b:ZX}(na:Nf a)(nb:Nf b)(hd:dv b a){h n l:Nat}(hH:∀d∈a.l,d.natAbs≤2^h)(hN:ZX.N a≤n)(hn:n≤2^l):∀c∈b.l,c.natAbs≤2^(h+n*(2*l+3)):=by
 obtain⟨w,_,e⟩:=na.quo nb hd
 exact acg na.ne e hH hN hn
theorem agJ{z n:Nat}{f:ZX}(nf:Nf f)(bz:BZ z n f):Ab (tA f.l) (2^(z+1)):=by
 have f0:=vW nf.ne
 have h1:=xS f.c f0
 have hl:=dB f.c (List.length_pos_iff.2 f0)
 have hL:(1:Rat)≤(((lead f.l).natAbs:Int):Rat):=fZ (by omega)
 have h2:=Rat.div_mul_cancel (a:=((n4 f.l (f.l.length-1):Int):Rat)) (b:=(((lead f.l).natAbs:Int):Rat)) (by grind)
 have h3:(1:Rat)≤tA f.l:=(UX f.c f0 (t:=tA f.l) (.inr Rat.le_refl)).2
 have h4:((n4 f.l (f.l.length-1):Int):Rat)≤2^z:=by
  have h5:=kC (b:=2) (by decide) (n4 f.l (f.l.length-1))
  have h6:=Nat.pow_le_pow_right (show 0<2 by decide) (C6 bz (f.l.length-1))
  exact(FR (s:=z) (by omega)).2
 have h7:=uE z
 rw [Rat.pow_succ]
 generalize (2:Rat)^z=T at *
 generalize ((n4 f.l (f.l.length-1):Int):Rat)=m at *
 have hw:m/(((lead f.l).natAbs:Int):Rat)≤T:=by
  refine Rat.not_lt.1 fun h=>?_
  have h8:=Rat.mul_le_mul_of_nonneg_left hL (show 0≤m/(((lead f.l).natAbs:Int):Rat)by grind)
  grind
 exact⟨by grind,by grind⟩
section
variable {f:ZX} {v:Rat→Nat} {lo hi:Rat} (nf:Nf f) (A:zS f v lo hi)
include nf A
theorem asW:2≤ZX.N f:=Nat.not_lt.1 fun h=>by
 have:=ZX.aE.1 nf.ne
 obtain⟨c,hc,rfl⟩:=ZX.k8 (x:=f) (by omega)
 have hcq:(c:Rat)≠0:=fun h0=>hc (Rat.intCast_eq_zero_iff.1 h0)
 rcases A.k with ⟨_,h2⟩ | ⟨h1,h2⟩
 ·rw [z9]at h2;exact hcq h2
 ·have:=A.S.const h1 (σ:=bT (c:Rat)) (.inr (by rw [z9])) (fun x _ _=>by rw [z9])
  omega
end
theorem eH{f:ZX}{v:Rat→Nat}{lo hi:Rat}(A:zS f v lo hi):RH (qB v lo hi):=⟨fun _ _ h h'=>A.up h h',⟨lo-1,A.DA (.inl (by grind))⟩,⟨hi,wI⟩⟩
def se(s r n m β:Nat):Nat:=6*(n+m)+(s+n*9)*m+r*n+(n+m)*(β+2)+2
theorem amO{f h g w:ZX}(S:pQ f h g w)(nf:Nf f)(nh:Nf h)(ch:uL h (bS h)){s r n m β:Nat}(hA:∀c∈f.l,c.natAbs≤2^s)(hB:∀c∈h.l,c.natAbs≤2^r)(hn:ZX.N f≤n)(hm:ZX.N h≤m)(n8:n≤8)(m8:m≤8)
  {a b:Rat} (ha:Ab a (2^β)) (hb:Ab b (2^β)) (iJ:a<b) (hd:(b-a)*2^se s r n m β≤1):vt (cH w) a=vt (cH w) b∨vt (cH h) a=vt (cH h) b:=by
 have n1:=S.N
 have Sw:=YH S.nw.ne S.sw (by omega)
 have Sh:=YH nh.ne ch (by omega)
 refine U1 Sw Sh S.wh (s:=s+n*9) (r:=r) (l:=4) (β:=β) (adl nf S.nw (by rw [S.eq];exact(dv.refl w).mul_right _) hA hn (show n≤2^3 by omega)) hB (by omega) ha hb iJ (UT hd ?_)
 unfold se sx
 have h1:(s+n*9)*ZX.N h≤(s+n*9)*m:=Nat.mul_le_mul_left _ hm
 have h2:r*ZX.N w≤r*n:=Nat.mul_le_mul_left _ (by omega)
 have h3:(ZX.N w+ZX.N h)*(β+2)≤(n+m)*(β+2):=Nat.mul_le_mul_right _ (by omega)
 omega
theorem adm{s r n m:Nat}(n2:2≤n)(m1:1≤m)(n8:n≤8)(m8:m≤8):se s (r+m*9) n m (s+1)+s+2≤64+4*(n+m)*(s+r+(n+m)+8):=by
 have e1:4*(n+m)*(s+r+(n+m)+8)=4*(n*s)+4*(n*r)+4*(m*s)+4*(m*r)+4*(n*n)+8*(n*m)+4*(m*m)+32*n+32*m:=by grind
 have e2:se s (r+m*9) n m (s+1)=6*(n+m)+m*s+18*(n*m)+n*r+n*s+m*s+3*n+3*m+2:=by unfold se;grind
 have h3:n*m≤8*m:=Nat.mul_le_mul_right _ n8
 have h4:2*(n*m)≤n*n+m*m:=by
  rcases Nat.le_total n m with h | h
  ·obtain⟨d,rfl⟩:=Nat.exists_eq_add_of_le h;grind
  ·obtain⟨d,rfl⟩:=Nat.exists_eq_add_of_le h;grind
 have h5:2*s≤n*s:=Nat.mul_le_mul_right _ n2
 omega
theorem U5(q:ZX)(x0:Rat){ε:Rat}(hε:0<ε):∃r:Rat,0<r ∧ ∀x,x0-r≤x→x≤x0+r→Ab (e x q-e x0 q) ε:=by
 obtain⟨B,hB,ha,hb⟩:=mJ (x0-1) (x0+1)
 obtain⟨Q,hQ,hl⟩:=lip q B hB
 have e1:ε/Q*Q=ε:=Rat.div_mul_cancel (Rat.ne_of_gt hQ)
 obtain⟨r,hr,h1,h2⟩:=min2 (show (0:Rat)<1 by decide) ((Rat.lt_div_iff hQ).2 (show 0*Q<ε by grind))
 have hrQ:r*Q≤ε:=by have:=Rat.mul_le_mul_of_nonneg_right h2 (Rat.le_of_lt hQ);grind
 have oF:Ab x0 B:=dE ha hb (by grind) (by grind)
 refine⟨r,hr,fun x h3 h4=>?_⟩
 have hx:Ab x B:=dE ha hb (by grind) (by grind)
 by_cases h:x0≤x
 ·have h5:=hl x0 x oF hx h
  refine h5.mono ?_
  have:=Rat.mul_le_mul_of_nonneg_right (show x-x0≤r by grind) (Rat.le_of_lt hQ)
  grind
 ·have h5:=(hl x x0 hx oF (by grind)).mono (show (x0-x)*Q≤ε by
   have:=Rat.mul_le_mul_of_nonneg_right (show x0-x≤r by grind) (Rat.le_of_lt hQ)
   grind)
  obtain⟨p1,p2⟩:=h5
  exact⟨by grind,by grind⟩
theorem amP{x y ε:Rat}(hε:0<ε)(h:kD (ε+ε) x)(sO:Ab (y-x) ε):bT y=bT x∧kD ε y:=by
 obtain⟨p1,p2⟩:=sO
 rcases h with h | h
 ·exact⟨by rw [gS (show x<0 by grind),gS (by grind)], .inl (by grind)⟩
 ·exact⟨by rw [eZ (show 0<x by grind),eZ (by grind)], .inr (by grind)⟩
theorem RJ{U:Rat→Prop}{x0:Rat}(hU:∀t,U t↔x0≤t)(q:ZX):NL U q (bT (e x0 q)):=by
 have lo:∀ {r:Rat},0<r→¬U (x0-r):=fun hr h=>by have:=(hU _).1 h;grind
 have hi:∀ {r:Rat},0<r→U (x0+r):=fun hr=>(hU _).2 (by grind)
 by_cases h0:e x0 q=0
 ·refine .inl ⟨by rw [h0,fS],fun ε hε=>?_⟩
  obtain⟨r,hr,h⟩:=U5 q x0 hε
  refine⟨x0-r,x0+r,lo hr,hi hr,fun x h1 h2=>?_⟩
  have:=h x h1 h2
  rwa [h0,show e x q-0=e x q by grind]at this
 ·have hs:bT (e x0 q)=1∨bT (e x0 q) = -1:=by
   rcases bZ (e x0 q)with ⟨_,h⟩ | ⟨h,_⟩ | ⟨_,h⟩
   ·exact .inr h
   ·exact absurd h h0
   ·exact .inl h
  obtain⟨ε,hε,hb⟩:∃ε:Rat,0<ε∧kD (ε+ε) (e x0 q):=by
   by_cases h:0≤e x0 q
   ·exact⟨e x0 q/2,by grind, .inr (by grind)⟩
   ·exact⟨-(e x0 q)/2,by grind, .inl (by grind)⟩
  obtain⟨r,hr,h⟩:=U5 q x0 hε
  exact .inr ⟨hs,ε,x0-r,x0+r,hε,lo hr,hi hr,fun x h1 h2=>amP hε hb (h x (Rat.le_of_lt h1) h2)⟩
theorem asX{r q:ZX}(hr:pZ r)(q0:q≠0)(h:dv r q):dv r (sq q):=by
 obtain⟨nf,hf⟩:=nV q0
 have p1:r^1=r:=by rw [pow_succ',gO];grind
 have h1:=(m7 hr q0 (k:=1)).2 (by rw [p1];exact h)
 have h2:=(m7 hr nf.ne (k:=1)).1 (by rw [hf r hr];omega)
 rwa [p1]at h2
theorem uL.asY{w q:ZX}(q0:q≠0)(h:uL w (sq q)):uL w q:=fun d h1 h2=>Nat.not_lt.1 fun hd=>by
 obtain⟨r,hr,hrd⟩:=pL _ d (Nat.le_refl _) (by omega)
 have:=h r (hrd.trans h1) (asX hr q0 (hrd.trans h2))
 have:=hr.deg
 omega
theorem ai1{f q:ZX}(nf:Nf f)(hf:sq f=f)(q0:q≠0):gz f (sq q)=gz q f:=by
 obtain⟨nq,hq⟩:=nV q0
 refine Nf.rM (FL (.inl nf.ne)) (FL (.inl q0)) fun p hp=>?_
 rw [(eS f (sq q)).mu nf.ne nq.ne hp,(eS q f).mu q0 nf.ne hp,hq p hp]
 have:=(nV nf.ne).2 p hp
 rw [hf]at this
 omega
section
variable {f h g w:ZX} {v γ φ:Rat→Nat} {lo hi:Rat} (A:zS f v lo hi) (S:pQ f h g w) (Sg:uF g γ) (Sw:uF w φ)
include A S Sg Sw
theorem asZ(dM:lo<hi)(hγ:γ hi<γ lo):MV (qB v lo hi) g:=by
 have hv:v lo=v hi+1:=by
  rcases A.k with ⟨h,_⟩ | ⟨_,h⟩
  ·rw [h]at dM;exact absurd dM Rat.lt_irrefl
  ·exact h
 refine MW (eH A) Sg (A.DA (.inr ⟨rfl,dM⟩)) wI fun s t h1 h2 h3 h4=>?_
 have j3:=(eH A).lt h3 h4
 have c0:=S.cnt A.S Sg Sw (Rat.le_of_lt dM)
 have c1:=S.cnt A.S Sg Sw (Rat.le_of_lt j3)
 have o:=RA A h3 h4 j3
 have m1:=Sw.dK h1
 have m2:=Sw.dK (Rat.le_of_lt j3)
 have m3:=Sw.dK h2
 have m4:=Sg.dK h1
 have m5:=Sg.dK (Rat.le_of_lt j3)
 have m6:=Sg.dK h2
 omega
theorem ax5(dM:lo<hi)(hγ:γ lo=γ hi):MV (qB v lo hi) w:=by
 refine MW (eH A) Sw (A.DA (.inr ⟨rfl,dM⟩)) wI fun s t h1 h2 h3 h4=>?_
 have j3:=(eH A).lt h3 h4
 have c1:=S.cnt A.S Sg Sw (Rat.le_of_lt j3)
 have o:=RA A h3 h4 j3
 have m4:=Sg.dK h1
 have m5:=Sg.dK (Rat.le_of_lt j3)
 have m6:=Sg.dK h2
 omega
theorem adn{q:ZX}(dM:lo<hi)(hγ:γ lo=γ hi)(q0:q≠0)(hh:h=sq q)(hN:ZX.N (sq q)≤20)(Sq:uF (sq q) (vt (cH (sq q))))(hη:vt (cH (sq q)) lo=vt (cH (sq q)) hi):NL (qB v lo hi) q (bT (e hi q)):=by
 obtain⟨nf,hf⟩:=nV q0
 have hw:uL w q:=uL.asY q0 (hh▸S.wh)
 have k:=AE nf Sq.Y9 Sq hN dM hη _ q (Nat.le_refl _) q0 (fun r hr=>by rw [hf r hr];exact Nat.le_refl _)
 obtain⟨B,hB,ha,hb⟩:=mJ lo hi
 obtain⟨ε,hε,hs⟩:=asP S.nw.ne q0 hw B
 obtain⟨s,t,h1,h2,h3⟩:=ax5 A S Sg Sw dM hγ (ε/2) (by grind)
 obtain⟨a,b,k1,k2,k3,k4,k5,k6,k7⟩:=(eH A).inter h1 h2 (A.DA (.inr ⟨rfl,dM⟩)) (wI (v:=v) (lo:=lo) (hi:=hi))
 have hs3:bT (e hi q)=1∨bT (e hi q) = -1:=by
  have h4:=(k hi dM Rat.le_refl).1
  rcases bZ (e hi q)with ⟨_,h⟩ | ⟨h,_⟩ | ⟨_,h⟩
  ·exact .inr h
  ·exact absurd h h4
  ·exact .inl h
 refine .inr ⟨hs3,ε,a,b,hε,k1,k2,fun x hx hy=>⟨(k x (by grind) (by grind)).2,?_⟩⟩
 refine(hs x (dE ha hb (by grind) (by grind))).resolve_left fun h4=>?_
 obtain⟨p1,p2⟩:=h3 x (by grind) (by grind)
 rcases h4 with h4 | h4<;>grind
end
theorem agK{f g w q:ZX}{γ φ:Rat→Nat}{p:Rat × Rat}(A:zS f (vt (cH f)) p.1 p.2)(S:pQ f (sq q) g w)(Sg:uF g γ)(Sw:uF w φ)(Sq:uF (sq q) (vt (cH (sq q))))(dM:p.1<p.2)(hγ:γ p.1=γ p.2):∃a b,p.1≤a∧a<b∧b≤p.2∧zS f (vt (cH f)) a b∧qB (vt (cH f)) a b=iG f p∧vt (cH (sq q)) a=vt (cH (sq q)) b:=by
 obtain⟨B,hB,ha,hb⟩:=mJ p.1 p.2
 obtain⟨δ,hδ,hno⟩:=agF Sw Sq S.wh B
 obtain⟨a,b,g1,g2,g3,g4,g5,g6⟩:=U2 (U:=iG f p) hδ dM (A.DA (.inr ⟨rfl,dM⟩)) wI
 have o:=RA A g5 g6 g2
 have c1:=S.cnt A.S Sg Sw (Rat.le_of_lt g2)
 have m1:=Sg.dK g1
 have m2:=Sg.dK g3
 have m3:=Sg.dK (Rat.le_of_lt g2)
 have hη:=(hno a b (dE ha hb g1 (by grind)) (dE ha hb (by grind) g3) g2 g4).resolve_left (by omega)
 have v1:=A.S.dK g1
 have v2:=A.S.dK g3
 have hv:vt (cH f) p.1=vt (cH f) p.2+1:=by
  rcases A.k with ⟨h,_⟩ | ⟨_,h⟩
  ·grind
  ·exact h
 refine⟨a,b,g1,g2,g3,⟨A.S, .inr ⟨g2,by omega⟩⟩,funext fun t=>propext ⟨fun h=>?_,fun h=>?_⟩,hη⟩
 ·rcases h with h | ⟨h,h3⟩
  ·exact A.up g6 h
  ·by_cases h4:p.1<t
   ·exact .inr ⟨h4,by omega⟩
   ·exact absurd (A.S.dK (show t≤p.1 by grind)) (by omega)
 ·by_cases h4:b≤t
  ·exact .inl h4
  ·refine .inr ⟨(eH A).lt g5 h,?_⟩
   rcases h with h | ⟨h,h3⟩
   ·have:=A.S.dK h;omega
   ·omega
theorem ado{q:ZX}(q0:q≠0):uL (sq q) (bS (sq q)):=fun d h1 h2=>by
 have h3:=(eS (sq q) (bS (sq q))).least h1 h2
 rw [UQ q0]at h3
 have:=h3.nS ZX.tX
 rwa [ZX.CI]at this
theorem agL{f:ZX}{p:Rat × Rat}(nf:Nf f)(hf:sq f=f)(cf:uL f (bS f))(hN:ZX.N f≤20)(A:zS f (vt (cH f)) p.1 p.2){q:ZX}(hq:ZX.N q≤20)(q0:q≠0)(dM:p.1<p.2):∃σ,NL (iG f p) q σ∧(σ=0↔vt (cH (gz q f)) p.2<vt (cH (gz q f)) p.1):=by
 obtain⟨nq,hmu⟩:=nV q0
 have hNq:ZX.N (sq q)≤20:=Nat.le_trans ((wG q0).nS q0) hq
 have Sq:=YH nq.ne (ado q0) hNq
 obtain⟨w,S⟩:=Q9 (h:=sq q) nf cf
 rw [ai1 nf hf q0]at S
 have n1:=S.N
 have Sg:=YH S.ng.ne S.sg (by omega)
 have Sw:=YH S.nw.ne S.sw (by omega)
 have m:=Sg.dK (Rat.le_of_lt dM)
 by_cases hγ:vt (cH (gz q f)) p.2<vt (cH (gz q f)) p.1
 ·exact⟨0, .inl ⟨rfl,(asZ A S Sg Sw dM hγ).dv (eH A) (eS q f).l⟩,⟨fun _=>hγ,fun _=>rfl⟩⟩
 ·obtain⟨a,b,g1,g2,g3,A2,e1,hη⟩:=agK A S Sg Sw Sq dM (by omega)
  have m1:=Sg.dK g1
  have m2:=Sg.dK g3
  have m3:=Sg.dK (Rat.le_of_lt g2)
  have k:=adn A2 S Sg Sw g2 (by omega) q0 rfl hNq Sq hη
  rw [e1]at k
  refine⟨_,k,⟨fun h=>?_,fun h=>absurd h hγ⟩⟩
  exact absurd (eU.1 h) (AE nq Sq.Y9 Sq hNq g2 hη _ q (Nat.le_refl _) q0 (fun r hr=>by rw [hmu r hr];exact Nat.le_refl _) b g2 Rat.le_refl).1
theorem amQ{f:ZX}{p:Rat × Rat}(nf:Nf f)(hf:sq f=f)(cf:uL f (bS f))(hN:ZX.N f≤20)(A:zS f (vt (cH f)) p.1 p.2)(q:ZX)(hq:ZX.N q≤20):NL (iG f p) q (sgU (iG f p) q):=by
 have main:∃σ,NL (iG f p) q σ:=by
  by_cases q0:q=0
  ·exact⟨0, .inl ⟨rfl,q0▸DF (eH A)⟩⟩
  by_cases hpt:p.1=p.2
  ·exact⟨_,RJ (IU hpt) q⟩
  obtain⟨σ,h,_⟩:=agL nf hf cf hN A hq q0 (by have:=A.le;grind)
  exact⟨σ,h⟩
 obtain⟨σ,h⟩:=main
 rwa [h.eq (eH A)]
theorem FY{n k:Nat}(h:n<2^k):0≤bl (aU LL n)∧bl (aU LL n)≤k∧n<2^(bl (aU LL n)).toNat:=by
 have hV:=jX eB n
 have hL:=eQ eB n
 have hc:=jI eB n
 generalize aU LL n=l at *
 unfold bl
 by_cases h0:l = []
 ·subst h0
  simp [V]at hV
  rw [if_pos rfl]
  exact⟨by omega,by omega,by simp;omega⟩
 ·rw [if_neg h0]
  have hl:=List.length_pos_iff.2 h0
  obtain⟨j,hj⟩:∃j,l.length=j+1:=⟨l.length-1,by omega⟩
  rw [hj,show j+1-1=j by omega]
  have e:=aT (l:=l) (i:=j) (by omega)
  rw [List.take_of_length_le (by omega)]at e
  have ht:=hL.nth (i:=j) (by omega)
  have hVt:=nO (b:=(LL:Int)) (by decide) (hL.take j)
  have PF:V (LL:Int) l=V (LL:Int) (l.take j)+(LL:Int)^j*nth l j:=by
   conv=>lhs;rw [e]
   rw [dU,show(l.take j).length=j by rw [List.length_take];omega]
   simp [V]
  have VH:=kJ (b:=(LL:Int)) (by decide) hL hc h0
  rw [hj,show j+1-1=j by omega]at VH
  rw [show(l.take j).length=j by rw [List.length_take];omega]at hVt
  have eP:((LL:Int)^j)=((2^(32*j):Nat):Int):=by
   rw [Nat.pow_mul,Int.natCast_pow]
  rw [eP]at hVt PF VH
  have hnl:=mU (n:=(nth l j).toNat) (k:=nb (nth l j).toNat)
  have hnk:=mU (n:=(nth l j).toNat) (k:=k-32*j)
  have hT:=hnl.1 (Nat.le_refl _)
  have e3:(32*(((j+1:Nat):Int)-1)+((nb (nth l j).toNat:Nat):Int)).toNat=32*j+nb (nth l j).toNat:=by omega
  have hP:=Nat.two_pow_pos (32*j)
  have hkj:32*j<k:=Nat.not_le.1 fun hh=>by
   have:=Nat.pow_le_pow_right (show 0<2 by decide) hh
   omega
  have e4:2^(32*j)*2^(k-32*j)=2^k:=by rw [←Nat.pow_add,show 32*j+(k-32*j)=k by omega]
  have hV0:0≤V (LL:Int) (l.take j):=bN (by decide) (hL.take j)
  refine⟨by omega,?_,?_⟩
  ·have:(nth l j).toNat<2^(k-32*j):=Nat.not_le.1 fun hh=>by
    have h2:=Nat.mul_le_mul_left (2^(32*j)) hh
    have h3:((2^(32*j):Nat):Int)*nth l j=((2^(32*j)*(nth l j).toNat:Nat):Int):=by rw [Int.natCast_mul];congr 1;omega
    omega
   have:=hnk.2 this
   omega
  ·rw [e3,Nat.pow_add]
   have h2:2^(32*j)*((nth l j).toNat+1)≤2^(32*j)*2^nb (nth l j).toNat:=Nat.mul_le_mul_left _ hT
   have h3:((2^(32*j):Nat):Int)*nth l j=((2^(32*j)*(nth l j).toNat:Nat):Int):=by rw [Int.natCast_mul];congr 1;omega
   rw [Nat.mul_add,Nat.mul_one]at h2
   omega
theorem rP{x:Int}{k:Nat}(h:x.natAbs<2^k)(hk:k≤1000000000):aH env.P 257 [us (aU LL x.natAbs)] (.int .i64 (bl (aU LL x.natAbs))):=by
 have h1:=KK (aU LL x.natAbs) ⟨eQ eB _,by
  have h2:x.natAbs<LL^k:=Nat.lt_of_lt_of_le h (Nat.pow_le_pow_left (by decide) k)
  have:=uZ eB h2
  omega⟩
 rwa [jI eB]at h1
def zs(f:ZX):Nat:=(I7 f.l f.l.length).toNat
theorem wL{x:List Int}{k:Nat}(h:∀c∈x,c.natAbs<2^k):∀i,i≤x.length→0≤I7 x i∧I7 x i≤k ∧ ∀j,j<i→(nth x j).natAbs<2^(I7 x i).toNat
 | 0,_=>⟨Int.le_refl _,by show(0:Int)≤k;omega,fun j hj=>absurd hj (Nat.not_lt_zero _)⟩
 | i+1,hi=>by
  obtain⟨h1,h2,h3⟩:=wL h i (by omega)
  obtain⟨g1,g2,g3⟩:=FY (h (nth x i) (bI (by omega)))
  rw [I7]
  have key:∀ {a:Nat} {y z:Int},y≤z→a<2^y.toNat→a<2^z.toNat:=fun hyz ha=>Nat.lt_of_lt_of_le ha (Nat.pow_le_pow_right (by decide) (by omega))
  split
  ·refine⟨g1,g2,fun j hj=>?_⟩
   rcases Nat.lt_or_ge j i with hh | hh
   ·exact key (by omega) (h3 j hh)
   ·rw [show j=i by omega];exact g3
  ·refine⟨h1,h2,fun j hj=>?_⟩
   rcases Nat.lt_or_ge j i with hh | hh
   ·exact h3 j hh
   ·rw [show j=i by omega];exact key (by omega) g3
section
variable {s n:Nat} {f:ZX} (b:BZ s n f)
include b
theorem BZ.lt:∀c∈f.l,c.natAbs<2^s:=fun c hc=>Nat.lt_of_lt_of_le (kC (by decide) c) (Nat.pow_le_pow_right (by decide) (b.sz c hc))
theorem U6:zs f≤s:=by
 have:=(wL b.lt _ (Nat.le_refl _)).2.1
 unfold zs;omega
theorem as1:∀c∈f.l,c.natAbs<2^zs f:=fun c hc=>by
 obtain⟨i,hi,rfl⟩:=List.getElem_of_mem hc
 rw [←c9 hi]
 exact(wL b.lt _ (Nat.le_refl _)).2.2 i hi
theorem adp:BZ (zs f) n f:=⟨b.N,fun c hc=>cK (by decide) (as1 b c hc)⟩
theorem MX(hs:s≤1000000000)(hn:n≤50):aH env.P 264 [Po f.l] (.int .i64 ((zs f:Nat):Int)):=by
 have h1:=wL b.lt _ (Nat.le_refl _)
 have:=YL (x:=f.l) (by have:=b.N;show ZX.N f<_;omega) fun i hi=>by
  have h2:=b.lt _ (bI hi)
  obtain⟨g1,g2,_⟩:=FY h2
  exact⟨rP h2 hs,g1,by omega⟩
 rw [show((zs f:Nat):Int)=I7 f.l f.l.length by unfold zs;omega]
 exact this
end
theorem YN{s k s' k' u:Nat}{f h:ZX}(bf:BZ s k f)(bh:BZ s' k' h)(hs:s≤1000000000)(zU:s'≤1000000000)(hk:k≤50)(wM:k'≤50){an ad bn bd cn cd dn dd:Int}(h1:an.natAbs<2^u)(h2:bn.natAbs<2^u)(h3:cn.natAbs<2^u)(h4:dn.natAbs<2^u)(hu:u≤1000000000) :
  ∃N:Nat,aH env.P 252 [.ag (G9 f.l an ad bn bd), .ag (G9 h.l cn cd dn dd)] (.int .i64 N)∧64+4*(ZX.N f+ZX.N h)*(zs f+zs h+(ZX.N f+ZX.N h)+8)≤N∧N≤64+8*u+4*(ZX.N f+ZX.N h)*(zs f+zs h+(ZX.N f+ZX.N h)+8):=by
 obtain⟨a1,a2,_⟩:=FY h1
 obtain⟨b1,b2,_⟩:=FY h2
 obtain⟨c1,c2,_⟩:=FY h3
 obtain⟨d1,d2,_⟩:=FY h4
 have z1:=U6 bf
 have z2:=U6 bh
 have n1:=bf.N
 have n2:=bh.N
 have R:=RF (ad:=ad) (bd:=bd) (cd:=cd) (dd:=dd) (show f.l.length≤50 by show ZX.N f≤_;omega) (show h.l.length≤50 by show ZX.N h≤_;omega) (rP h1 hu) (rP h2 hu) (rP h3 hu) (rP h4 hu) ⟨a1,by omega⟩ ⟨b1,by omega⟩ ⟨c1,by omega⟩ ⟨d1,by omega⟩ (MX bf hs hk) (MX bh zU wM) ⟨by omega,by omega⟩ ⟨by omega,by omega⟩
 have e1:4*((f.l.length:Int)+h.l.length)*((zs f:Int)+zs h+((f.l.length:Int)+h.l.length)+8)=((4*(ZX.N f+ZX.N h)*(zs f+zs h+(ZX.N f+ZX.N h)+8):Nat):Int):=by
  show 4*((ZX.N f:Int)+(ZX.N h:Nat))*_=_
  simp only [Int.natCast_mul,Int.natCast_add]
  rfl
 rw [e1]at R
 generalize 4*(ZX.N f+ZX.N h)*(zs f+zs h+(ZX.N f+ZX.N h)+8)=M at *
 generalize bl (aU LL an.natAbs)=x1 at *
 generalize bl (aU LL bn.natAbs)=x2 at *
 generalize bl (aU LL cn.natAbs)=x3 at *
 generalize bl (aU LL dn.natAbs)=x4 at *
 refine⟨64+2*(x1+x2+x3+x4).toNat+M,?_,by omega,by omega⟩
 have e2:(((64+2*(x1+x2+x3+x4).toNat+M:Nat)):Int)=64+2*(x1+x2+x3+x4)+(M:Int):=by omega
 rw [e2]
 exact R
theorem DH(P:Nat→Prop):∀N,∃J,J≤N∧(∀j,j<J→¬P j)∧(J<N→P J)
 | 0=>⟨0,Nat.le_refl _,fun j h=>absurd h (Nat.not_lt_zero _),fun h=>absurd h (Nat.lt_irrefl _)⟩
 | N+1=>by
  obtain⟨J,h1,h2,h3⟩:=DH P N
  by_cases hJ:J<N
  ·exact⟨J,by omega,h2,fun _=>h3 hJ⟩
  ·have:J=N:=by omega
   subst this
   by_cases hP:P J
   ·exact⟨J,by omega,h2,fun _=>hP⟩
   ·exact⟨J+1,by omega,fun j hj=>by
     rcases Nat.lt_or_ge j J with h | h
     ·exact h2 j h
     ·rw [show j=J by omega];exact hP,fun h=>by omega⟩
theorem xX{x:List Int}{u:Nat}{p:Rat × Rat}(q1:SQ u p.1)(q2:SQ u p.2)(hu:u≤1000000000):aH env.P 193 [.ag (G9 x p.1.num p.1.den p.2.num p.2.den)] (.bool (decide (p.2≤p.1))):=by
 have z0:=kM q1.nL q1.dL q2.nL q2.dL (by omega) (dQ p.1) (dQ p.2) ⟨q1.nL,q1.dL⟩ ⟨q2.nL,q2.dL⟩
 have hp:=uG (x:=x) z0
 have e:decide (0≤eD (p.1.num*(p.2.den:Int)) (p.2.num*(p.1.den:Int)))=decide (p.2≤p.1):=decide_eq_decide.2 (by
  have:=sM (p:=p.1) (q:=p.2)
  rw [←Rat.not_lt,←this]
  omega)
 rwa [e]at hp
theorem xY{u:Nat}{t:Rat}(q:SQ u t)(hu:u≤1000000000):aH env.P 90 [RT t, .sl []] (RT t):=by
 obtain⟨l1,l2⟩:=q.LLt (show u<1099511627770 by omega)
 have:=MI l1 l2
 rwa [dQ]at this
theorem adq{s n u:Nat}{f:ZX}{p:Rat × Rat}(b:BZ s n f)(hs:s≤1000000000)(hn:n≤50)(q1:SQ u p.1)(q2:SQ u p.2)(hu:u≤1000000000):aH env.P 192 [GA f p] (GA f p):=by
 have N1:=gY (x:=f.l) (b.pb (by omega) (by omega))
 rw [f.c]at N1
 exact YJ N1 (xY q1 hu) (xY q2 hu)
theorem YO{x:List Int}{an ad bn bd:Int}(hq:aH env.P 64 [Po []] (Po []))(hN:aH env.P 192 [.ag (G9 x an ad bn bd)] (.ag (G9 x an ad bn bd))):aH env.P 246 [Po [], .ag (G9 x an ad bn bd)] (.int .i64 0):=by
 simp only [G9]at *
 refine cA [(0,Po []),(1, .ag (G9 x an ad bn bd))] Tryz.func246 ?_
 refine aA [0,3] ?_
 refine kB ?_
 refine b8 hq ?_
 refine aD hN ?_
 (try (refine bF (of_decide_eq_true (by kernel_rfl)) ?_));(try simp (maxSteps:=4000000) (disch:=omega) [gw]);(repeat rw [if_pos (by kernel_rfl)]);(try simp (maxSteps:=4000000) (disch:=omega) [gw])
 (try (refine bF (of_decide_eq_true (by kernel_rfl)) ?_));(try simp (maxSteps:=4000000) (disch:=omega) [gw]);(repeat rw [if_pos (by kernel_rfl)]);(try simp (maxSteps:=4000000) (disch:=omega) [gw])
 refine bO [0,3] ?_
 refine aM [0,3,14] ?_
 refine bP ?_ ?_<;>intro h
 ·refine aA [4] ?_
  exact cP
 ·simp at h
structure AN(s n u:Nat)(f:ZX)(p:Rat × Rat):Prop where
 I:zA s n f
 hs:s≤100000
 A:zS f (vt (cH f)) p.1 p.2
 q1:SQ u p.1
 q2:SQ u p.2
 hu:u≤30000000
 n8:ZX.N f≤8
 b1:p.1<p.2→Ab p.1 (2^(zs f+1))
 b2:p.1<p.2→Ab p.2 (2^(zs f+1))
structure SgC(s' k:Nat)(f q:ZX):Prop where
 bq:BZ s' k q
 hs:s'≤100000
 hk:k≤31
 q8:ZX.N q≤8
 hG:aH env.P 194 [.sl [[Po q.l],[Po f.l]]] (Po (gz q f).l)
 IG:2≤ZX.N (gz q f) → ∃sg ng,zA sg ng (gz q f)∧sg≤1000000
 hC:q≠0 → ∃sc nc,Ch sc nc (sq q)
 ax6:q≠0→aH env.P 69 [Po q.l] (.fG [CH (cH (sq q)), .int .i64 0])
theorem AN.stop{s n u s' k N:Nat}{f q g w:ZX}{p r:Rat × Rat}(a:AN s n u f p)(bq:BZ s' k q)(m8:ZX.N q≤8)(q0:q≠0)(S:pQ f (sq q) g w)(dM:p.1<p.2)(hγ:vt (cH g) p.1=vt (cH g) p.2)(A':zS f (vt (cH f)) r.1 r.2)(k3:p.1≤r.1)(k4:r.2≤p.2)(k5:(r.2-r.1)*2^N≤p.2-p.1)
  (hN1:64+4*(ZX.N f+ZX.N q)*(zs f+zs q+(ZX.N f+ZX.N q)+8)≤N):r.1=r.2∨vt (cH (sq q)) r.1=vt (cH (sq q)) r.2:=by
 have I:=a.I
 have n8:=a.n8
 obtain⟨nq,_⟩:=nV q0
 have hNq:ZX.N (sq q)≤ZX.N q:=(wG q0).nS q0
 have n1:=S.N
 have Sg:=YH S.ng.ne S.sg (by omega)
 have Sw:=YH S.nw.ne S.sw (by omega)
 refine Classical.byContradiction fun Q3=>?_
 obtain⟨uP,hc2⟩:=not_or.1 Q3
 have YP:r.1<r.2:=by have:=A'.le;grind
 have a1:=dE (a.b1 dM) (a.b2 dM) (x:=r.1) k3 (by grind)
 have a2:=dE (a.b1 dM) (a.b2 dM) (x:=r.2) (by grind) k4
 have hvJ:vt (cH f) r.1=vt (cH f) r.2+1:=by
  rcases A'.k with ⟨h,_⟩ | ⟨_,h⟩
  ·exact absurd h uP
  ·exact h
 have m1:=Sg.dK k3
 have m2:=Sg.dK k4
 have m3:=Sg.dK (Rat.le_of_lt YP)
 have cJ:=S.cnt A'.S Sg Sw (Rat.le_of_lt YP)
 have fz:=adp I.ch.bz
 have qz:=(adp bq).nf
 have N2f:=asW I.nf a.A
 have q1':=ZX.aE.1 q0
 have ax7:∀x∈(sq q).l,x.natAbs≤2^(zs q+ZX.N q*9):=adl (l:=3) (lH q0) nq (y9 q0).2 (fun d hd=>Nat.le_of_lt (BZ.lt qz d hd)) (by rw [vX];exact Nat.le_refl _) (by omega)
 have NF:=adm (s:=zs f) (r:=zs q) N2f (show 1≤ZX.N q by omega) n8 m8
 have hw:=amO S I.nf nq (ado q0) (s:=zs f) (r:=zs q+ZX.N q*9) (n:=ZX.N f) (m:=ZX.N q) (β:=zs f+1) (fun d hd=>Nat.le_of_lt (BZ.lt fz d hd)) ax7 (Nat.le_refl _) hNq n8 m8 a1 a2 YP ?_
 ·rcases hw with hw | hw
  ·omega
  ·exact hc2 hw
 ·have w0:p.2-p.1≤2^(zs f+2):=by
   obtain⟨x1,x2⟩:=a.b1 dM
   obtain⟨x3,x4⟩:=a.b2 dM
   rw [show zs f+2=zs f+1+1 by omega,Rat.pow_succ];grind
  have w1:=Rat.le_trans k5 w0
  have hP:=gZ (zs f+2)
  have w2:(r.2-r.1)*2^se (zs f) (zs q+ZX.N q*9) (ZX.N f) (ZX.N q) (zs f+1)*2^(zs f+2)≤1*2^(zs f+2):=by
   rw [Rat.one_mul,Rat.mul_assoc,←rO]
   refine Rat.le_trans (Rat.mul_le_mul_of_nonneg_left (MR ?_) (by grind)) w1
   omega
  exact Rat.le_of_mul_le_mul_right w2 hP
theorem AN.sg{s n u s' k:Nat}{f q:ZX}{p:Rat × Rat}(a:AN s n u f p)(c:SgC s' k f q):aH env.P 246 [Po q.l,GA f p] (.int .i64 (sgU (iG f p) q)):=by
 have I:=a.I
 have A:=a.A
 have hs:=a.hs
 have hu:=a.hu
 have hfn:=I.ch.hn
 have zU:=c.hs
 have hk:=c.hk
 have n8:=a.n8
 have m8:=c.q8
 have N1:=adq I.ch.bz (by omega) (by omega) a.q1 a.q2 (by omega)
 have Nq:=gY (x:=q.l) (c.bq.pb (by omega) (by omega))
 rw [q.c]at Nq
 by_cases q0:q=0
 ·subst q0
  rw [(show NL (iG f p) 0 0 from .inl ⟨rfl,DF (eH A)⟩).eq (eH A)]
  exact YO Nq N1
 have hl:0<q.l.length:=by have:=ZX.aE.1 q0;exact Nat.pos_of_ne_zero fun h=>by(have:ZX.N q=q.l.length:=rfl);omega
 have NG:q.l.length<1000000:=by show ZX.N q<_;omega
 by_cases hpt:p.1=p.2
 ·have hS:=xW q c.bq (by omega) (by omega) a.q1 (by omega)
  have hz:=kM a.q1.nL a.q1.dL a.q1.nL a.q1.dL (by omega) (dQ p.1) (dQ p.1) ⟨a.q1.nL,a.q1.dL⟩ ⟨a.q1.nL,a.q1.dL⟩
  have e0:eD (p.1.num*(p.1.den:Int)) (p.1.num*(p.1.den:Int))=0:=DE.2 rfl
  rw [e0]at hz
  have Nf:=gY (x:=f.l) (I.ch.bz.pb (by omega) (by omega))
  rw [f.c]at Nf
  have:=ada (q:=q.l) (x:=f.l) NG (fun h=>by omega) Nq Nf (xY a.q1 (by omega)) hz hS
  rw [(RJ (IU hpt) q).eq (eH A)]
  rw [show GA f p = .ag (G9 f.l p.1.num p.1.den p.1.num p.1.den)by rw [show p=(p.1,p.1)from Prod.ext rfl hpt.symm];rfl]
  exact this
 have dM:p.1<p.2:=by have:=A.le;grind
 obtain⟨nq,hmu⟩:=nV q0
 have hNq:ZX.N (sq q)≤ZX.N q:=(wG q0).nS q0
 have cq:=ado q0
 have Sq:=YH nq.ne cq (by omega)
 obtain⟨w,S⟩:=Q9 (h:=sq q) I.nf I.Y9
 rw [ai1 I.nf I.sq q0]at S
 have n1:=S.N
 have Sg:=YH S.ng.ne S.sg (by omega)
 have Sw:=YH S.nw.ne S.sw (by omega)
 have mγ:=Sg.dK (Rat.le_of_lt dM)
 have mφ:=Sw.dK (Rat.le_of_lt dM)
 have hv:vt (cH f) p.1=vt (cH f) p.2+1:=by
  rcases A.k with ⟨h,_⟩ | ⟨_,h⟩
  ·exact absurd h hpt
  ·exact h
 have c0:=S.cnt A.S Sg Sw (Rat.le_of_lt dM)
 have P0:=xX (x:=f.l) a.q1 a.q2 (by omega)
 rw [decide_eq_false (Rat.not_le.2 dM)]at P0
 have hD:aH env.P 83 [Po (gz q f).l] (.int .i64 ((ZX.N (gz q f):Int)-1)):=mC (gz q f).l (by show ZX.N (gz q f)<_;omega)
 have as2:2≤ZX.N (gz q f)→aH env.P 195 [Po (gz q f).l,RT p.1,RT p.2] (.bool (decide (vt (cH (gz q f)) p.2<vt (cH (gz q f)) p.1))):=fun h2=>by
  obtain⟨sg,ng,IG,XU⟩:=c.IG h2
  exact agI IG XU dM (by omega) a.q1 a.q2 (by omega)
 by_cases hz:vt (cH (gz q f)) p.2<vt (cH (gz q f)) p.1
 ·have h2:2≤ZX.N (gz q f):=Nat.not_lt.1 fun h2=>by
   obtain⟨d,hd,e⟩:=ZX.k8 (x:=gz q f) (by have:=ZX.aE.1 S.ng.ne;omega)
   rw [e]at hz Sg
   have:=Sg.const dM (σ:=bT (d:Rat)) (.inr (by rw [z9])) (fun x _ _=>by rw [z9])
   omega
  have hH:=as2 h2
  rw [decide_eq_true hz]at hH
  have:=RG hl NG Nq N1 P0 c.hG hD (by omega) hH
  rw [(show NL (iG f p) q 0 from .inl ⟨rfl,(asZ A S Sg Sw dM hz).dv (eH A) (eS q f).l⟩).eq (eH A)]
  exact this
 obtain⟨sc,nc,C⟩:=c.hC q0
 obtain⟨cb,cl⟩:=C.all
 obtain⟨D,hD1,KU,g1,g2⟩:=asU a.q1 a.q2
 have key:=MU A g1 g2
 obtain⟨N,R,hN1,D5⟩:=YN (u:=u) (ad:=p.1.den) (bd:=p.2.den) (cn:=0) (cd:=0) (dn:=0) (dd:=0) I.ch.bz c.bq (by omega) (by omega) (by omega) (by omega) (Nat.lt_of_lt_of_le (kC (b:=2) (by decide) p.1.num) (Nat.pow_le_pow_right (by decide) a.q1.n2)) (Nat.lt_of_lt_of_le (kC (b:=2) (by decide) p.2.num) (Nat.pow_le_pow_right (by decide) a.q2.n2)) (Nat.two_pow_pos _) (Nat.two_pow_pos _) (by omega)
 have hzf:=U6 I.ch.bz
 have hzq:=U6 c.bq
 have hM:4*(ZX.N f+ZX.N q)*(zs f+zs q+(ZX.N f+ZX.N q)+8)≤4*16*(100000+100000+16+8):=Nat.mul_le_mul (by omega) (by omega)
 obtain⟨J,hJ,hj,j3⟩:=DH (fun j=>(mN f p j).1=(mN f p j).2∨vt (cH (sq q)) (mN f p j).1=vt (cH (sq q)) (mN f p j).2) N
 have ai2:(mN f p J).1=(mN f p J).2∨vt (cH (sq q)) (mN f p J).1=vt (cH (sq q)) (mN f p J).2:=by
  by_cases hJN:J<N
  ·exact j3 hJN
  have hJE:J=N:=by omega
  obtain⟨k1,k2,k3,k4,k5,_⟩:=key J
  exact a.stop c.bq m8 q0 S dM (by omega) k1 k3 k4 k5 (hJE▸hN1)
 have sqJ:∀j,j≤N→SQ (3*u+N+2) (mN f p j).1∧SQ (3*u+N+2) (mN f p j).2∧SQ (3*u+N+2) (((mN f p j).1+(mN f p j).2)/2):=fun j hj=>by
  obtain⟨_,_,_,_,_,k6,k7⟩:=key j
  exact⟨(k6.sq hD1 KU).mono (by omega),(k7.sq hD1 KU).mono (by omega),((k6.NJ k7).sq hD1 KU).mono (by omega)⟩
 have hV:3*u+N+2≤1000000000:=by omega
 have btw:∀j,j≤N→aH env.P 88 [CH (cH (sq q)),RT (mN f p j).1,RT (mN f p j).2] (.int .i64 ((vt (cH (sq q)) (mN f p j).1:Int)-vt (cH (sq q)) (mN f p j).2)):=fun j hj=>by
  obtain⟨s1,s2,_⟩:=sqJ j hj
  have:=amE cb C.hn cl s1 s2 hV
  rwa [if_neg (Rat.not_lt.2 (key j).1.le)]at this
 obtain⟨sJ1,sJ2,_⟩:=sqJ J hJ
 have R1:=adg (gc:=zp) (C:=cH (sq q)) (an:=fun j=>(mN f p j).1.num) (ad:=fun j=>(mN f p j).1.den) (bn:=fun j=>(mN f p j).2.num) (bd:=fun j=>(mN f p j).2.den) (J:=J) (N:=N) (r:=bT (e (mN f p J).2 q)) hl NG Nq N1 P0 c.hG hD (fun h0=>by
   have hH:=as2 (by omega)
   rwa [decide_eq_false hz]at hH) (c.ax6 q0) R (by omega) (fun j hj'=>by
   obtain⟨s1,s2,s3⟩:=sqJ j (by omega)
   have hno:=not_or.1 (hj j hj')
   have ax9:(mN f p j).1<(mN f p j).2:=by have:=(key j).1.le;grind
   have Pj:=xX (x:=f.l) s1 s2 hV
   rw [decide_eq_false (Rat.not_le.2 ax9)]at Pj
   refine⟨Pj,⟨_,btw j (by omega),?_⟩,adh I (by omega) (key j).1 s1 s2 s3 hV⟩
   have:=hno.2
   simp only [beq_eq_false_iff_ne,ne_eq]
   omega) hJ (fun hJN=>by
   have Pj:=xX (x:=f.l) sJ1 sJ2 hV
   by_cases hp:(mN f p J).2≤(mN f p J).1
   ·rw [decide_eq_true hp]at Pj;exact .inl Pj
   ·rw [decide_eq_false hp]at Pj
    refine .inr ⟨Pj,?_⟩
    have h3:=btw J hJ
    rw [ai2.resolve_left (by grind),Int.sub_self]at h3
    exact h3) (xW q c.bq (by omega) (by omega) sJ2 hV)
 have hU:sgU (iG f p) q=bT (e (mN f p J).2 q):=by
  obtain⟨k1,k2,k3,k4,_⟩:=key J
  have e1:iG f p=iG f (mN f p J):=funext fun t=>propext (k2 t).symm
  rw [e1]
  by_cases hp:(mN f p J).1=(mN f p J).2
  ·rw [←hp];exact(RJ (IU hp) q).eq (eH k1)
  ·have YP:(mN f p J).1<(mN f p J).2:=by have:=k1.le;grind
   have m1:=Sg.dK k3
   have m2:=Sg.dK k4
   have m3:=Sg.dK (Rat.le_of_lt YP)
   exact(adn k1 S Sg Sw YP (by omega) q0 rfl (by omega) Sq (ai2.resolve_left hp)).eq (eH k1)
 rw [hU]
 exact R1
def Ex(f:ZX)(p:Rat × Rat):Prop:=e p.2 f=0→p.1=p.2
theorem as3(f:ZX)(p:Rat × Rat):Ex f (ex f p):=by
 unfold Ex ex
 split
 ·intro _;rfl
 ·intro h;contradiction
def gg(x:ZX × Rat × Rat):List PV:=Po x.1.l::(tc x.2.1++tc x.2.2)
@[simp] theorem aya{x:ZX × Rat × Rat}:gg x=Po x.1.l::(tc x.2.1++tc x.2.2):=rfl
@[simp] theorem aoR{l:List (ZX × Rat × Rat)}:bM 9 (emap gg l)=True:=cN fun _=>rfl
@[simp] theorem amR{v e n:Nat}{l:List (ZX × Rat × Rat)}:cX (some ⟨v,e,n,emap gg l⟩)=True:=b7 fun _=>rfl
theorem amS{s n:Nat}{f:ZX}(I:zA s n f)(h:ZX)(hC:(qb (qb s n) n+n+6)*4^n≤4500000000)(hq:qb s n≤5000000):zA (qb s n) n (gz h f):=by
 have nd:Nf (gz h f):=FL (.inr I.nf.ne)
 have hd:dv (gz h f) f:=(eS h f).r
 obtain⟨w,nw,e⟩:=I.nf.quo nd hd
 have hD:bS f=bS w*gz h f+w*bS (gz h f):=by
  have h1:=congrArg bS e
  rwa [sF]at h1
 refine⟨⟨I.lay.dv I.nf nd hd,I.lay.hn,Nat.le_trans I.lay.hs (Nat.pow_le_pow_right (by decide) (by unfold qb;omega)),hC⟩,I.n3,nd,RD nd fun d h1 h2=>I.Y9 d (h1.trans hd) (by rw [hD];exact(h1.mul_left _).add (h2.mul_left _)),hq⟩
theorem zA.root{s n:Nat}{f:ZX}(I:zA s n f){p:Rat × Rat}(hp:p∈rtl s n f):SQ (uu s) p.1∧SQ (uu s) p.2∧zS f (vt (cH f)) (ex f p).1 (ex f p).2∧SQ (uu s) (ex f p).1∧SQ (uu s) (ex f p).2:=by
 obtain⟨a1,a2,a3,a4,a5,a6⟩:=I.ivs.mem _ hp
 refine⟨a1,a2,(agE ⟨I.S, .inr ⟨a4,a6⟩⟩).1,?_,?_⟩<;>(unfold ex;split<;>assumption)
end Go.Proofs.YtiobceocpabjdaaGreat
