import Derived.Test.YtiobceocpabjdaaGreatOap
set_option linter.unusedSimpArgs false
set_option linter.unusedVariables false
namespace Go.Proofs.YtiobceocpabjdaaGreat
open Go Pm
open ZX hiding N W
def XE(sg:ZX→Int):Nat→ZX→Int
 | 0,_=>0
 | k+1,p=>if sg p=0 then XE sg k (bY p)else sg p
theorem pW{sg:ZX→Int}(h0:sg 0=0):∀k,XE sg k 0=0
 | 0=>rfl
 | k+1=>by
  have h1:bY 0=0:=rfl
  rw [XE,if_pos h0,h1,pW h0 k]
theorem aeS{sg:ZX→Int}(h0:sg 0=0):∀ {k j:Nat} {p:ZX},ZX.N p≤k→ZX.N p≤j→XE sg k p=XE sg j p
 | 0,j,p,h,_=>by
  have:p=0:=Classical.byContradiction fun h0=>by have:=ZX.aF.1 h0;omega
  rw [this,pW h0,pW h0]
 | k+1,0,p,_,h=>by
  have:p=0:=Classical.byContradiction fun h0=>by have:=ZX.aF.1 h0;omega
  rw [this,pW h0,pW h0]
 | k+1,j+1,p,h1,h2=>by
  rw [XE,XE]
  have:=oG p
  rw [aeS h0 (k:=k) (j:=j) (p:=bY p) (by omega) (by omega)]
theorem TX(g:FuncId)(hw:I7 g=false)(caps:List PV)(hc:caps.all dA=true)(sg:ZX→Int)(h0:sg 0=0){s k:Nat}{p:ZX}(hp:BZ s k p)(hk:k≤31)(hs:s≤1000000)(hg:∀(q:ZX) (s':Nat),s'≤s+5*k→BZ s' k q→aE env.P g (Po q.l::caps) (.int .i64 (sg q)))(hm:wF g=false:=by rfl) :
  aE env.P 244 [Po p.l, .fn g caps] (.int .i64 (XE sg (ZX.N p) p)):=by
 have hN:=hp.N
 have N1:=eQ (x:=p.l) (hp.pb (by omega) (by omega))
 rw [p.c]at N1
 obtain⟨r,hr⟩:∃r,r=XE sg (ZX.N p) p:=⟨_,rfl⟩
 rw [←hr]
 refine cD [(0,Po p.l),(1, .fn g caps)] Tryz.func244 ?_
 refine aA [0,1] ?_
 refine W.seq ?_
 refine aR [0,1] N1 ?_
 refine W.block ?_
 refine W.bE (fun m σ=>∃(q:ZX) (s':Nat) (rows:Pm.Rows) (clk:Nat),σ=⟨fa [(0,Po q.l),(1, .fn g caps)],rows,clk⟩∧m=ZX.N q∧BZ s' k q∧s'+5*ZX.N q≤s+5*k∧XE sg (ZX.N q) q=r) (ZX.N p) ?_ ?_
 ·exact⟨_, .refl,p,s,_,_,rfl,rfl,hp,by omega,hr.symm⟩
 rintro m _ ⟨q,s',rows,clk,rfl,rfl,bq,hsq,hq⟩
 have hNq:=bq.N
 have hNl:ZX.N q=q.l.length:=rfl
 refine aQ [0,1,10] ?_
 refine bJ ?_ ?_<;>intro h
 ·have PZ:q≠0:=ZX.aF.2 (by show 0<q.l.length;simp at h;omega)
  have hgq:=hg q s' (by omega) bq
  have hD:=qN bq (by omega) (by omega)
  have aAH:ZX.N (bY q)<ZX.N q:=by have:=oG q;have:=ZX.aF.1 PZ;omega
  have bd:=bq.bY hk
  obtain⟨j,hj⟩:∃j,ZX.N q=j+1:=⟨ZX.N q-1,by have:=ZX.aF.1 PZ;omega⟩
  rw [hj,XE]at hq
  generalize hv:sg q=w at *
  refine lF ?_
  refine W.sr ?_
  simp (disch:=omega) [gw, -I7,hw, -wF,hm,hc]
  refine cN [0,1,5] hgq ?_
  refine aA [0,1,5,17] ?_
  refine bJ ?_ ?_<;>intro h
  ·have hw:w≠0:=by simpa using h
   rw [if_neg hw]at hq
   subst hq
   refine aA [4] ?_
   exact cC
  ·have hw:w=0:=by simpa using h
   rw [if_pos hw]at hq
   refine W.skip ?_
   refine W.b7 (fun K hK=>?_)
   simp (disch:=omega) [gw]
   refine cS hD ?_
   refine hK _ ⟨ZX.N (bY q),_,aB _ [0,1],aAH,bY q,s'+5,_,_,rfl,rfl,bd,by omega,?_⟩
   rw [←hq]
   exact aeS h0 (Nat.le_refl _) (by omega)
 ·have PZ:q=0:=by
   refine Classical.byContradiction fun h0=>?_
   have h1:=ZX.aF.1 h0
   simp at h;rw [hNl,h]at h1;simp at h1
  subst PZ
  rw [pW h0]at hq
  subst hq
  refine fA ?_
  refine aA [4] ?_
  exact cC
theorem TY{α:Type}{g:α→List PV}{l:List α}{m:Nat}{f:ZX}{L:List (Rat × Rat)}(hO:aE env.P 265 [aJ g l] (Po f.l))(hR:aE env.P 18 [Po f.l] (.dU [aJ (ga f) L, .int .i64 0]))(hm:m=0):aE env.P 255 [aJ g l] (aJ (ga f) L):=by
 refine cD [(0,aJ g l)] Tryz.func255 ?_
 refine aA [0] ?_
 refine jC ?_
 refine cS hO ?_
 refine cN [3,4] hR ?_
 refine aQ [3,12] ?_
 refine bJ ?_ ?_<;>intro h
 ·simp at h
 refine W.skip ?_
 refine aA [2] ?_
 exact cC
theorem aoV{a:ZX}(na:Nf a):uI (oz a) (bY (oz a)):=fun d h1 h2=>by
 refine Classical.byContradiction fun h3=>?_
 have ho:=ad4 na
 have hd0:=h1.ne ho.ne
 obtain⟨p,hp,hpd⟩:=nR _ d (Nat.le_refl _) (by omega)
 have hmu:=akE na hp
 have hpo:dv p (oz a):=hpd.trans h1
 have h4:1≤mu p (oz a):=(jF hp ho.ne).2 (by rw [show p^1=p by rw [pow_succ',eM];grind];exact hpo)
 have h5:mu p (oz a)=0+1:=by
  rw [hmu]at h4 ⊢
  omega
 obtain⟨h6,h7⟩:=yD hp ho.ne h5
 have h8:1≤mu p (bY (oz a)):=(jF hp h6).2 (by rw [show p^1=p by rw [pow_succ',eM];grind];exact hpd.trans h2)
 omega
theorem aoW{s n:Nat}{a:ZX}(h:rG s n a)(h0:a≠0)(A5:1≤n)(hC:(qb (qb s n) n+n+6)*4^n≤4500000000)(hs:qb s n≤5000000):pU (qb s n) n (oz (nf a)):=by
 have na:=jG h0
 have no:=ad4 na
 have hb:BZ (qb s n) n (oz (nf a)):=h.nfz.dv na no (JY na _ _)
 exact⟨⟨hb,h.hn,Nat.le_trans h.hs (Nat.pow_le_pow_right (by decide) (by unfold qb;omega)),hC⟩,A5,no,KV no (aoV na),hs⟩
theorem aeT{s n:Nat}{a:ZX}(h:rG s n a)(h0:a≠0)(A5:1≤n)(hC:(qb (qb s n) n+n+6)*4^n≤4500000000)(hs:qb s n≤20000):aE env.P 255 [Po a.l] (aJ (ga (oz (nf a))) (KU (qb s n) n (oz (nf a)))):=
 have I:=aoW h h0 A5 hC (by omega)
 TY (ah6 h h0) (TV I.aiy I) rfl
theorem aeU{a b:ZX}(na:Nf a)(nb:Nf b)(h:∀p,oX p→mu p a=mu p b):a=b:=by
 have h1:=(j8 na.ne nb.ne).2 fun p hp=>Nat.le_of_eq (h p hp)
 have h2:=(j8 nb.ne na.ne).2 fun p hp=>Nat.le_of_eq (h p hp).symm
 have:=sK h1 h2
 rwa [na.nfe,nb.nfe]at this
theorem aeV(q:Rat):bY (dD q)=K (q.den:Int):=ext fun t=>by
 rw [OG,wV]
 refine S3 fun h=>⟨0,?_⟩
 rw [dD,Z8,Z8]
 simp only [V]
 grind
theorem XF{F:ZX}{v:Rat→Nat}(nF:Nf F)(cF:uI F (bY F))(SF:tP F v)(hF:ZX.N F≤20){t hi:Rat}(h:t<hi)(hv:v t=v hi):∀(m:Nat) (p:ZX),ZX.N p≤m→p≠0→(∀q,oX q→min (mu q p) 1≤mu q F) → ∀s,t<s→s≤hi→e s p≠0∧b6 (e s p)=b6 (e hi p)
 | 0,p,hm,h0,_,_,_,_=>absurd hm (by have:=ZX.aF.1 h0;omega)
 | m+1,p,hm,h0,hmu,s,h1,h2=>by
  have hN:=ZX.aF.1 h0
  by_cases hN1:ZX.N p≤1
  ·obtain⟨c,hc,rfl⟩:=ZX.lJ (x:=p) (by omega)
   rw [AK,AK]
   exact⟨fun h=>hc (Rat.intCast_eq_zero_iff.1 h),rfl⟩
  obtain⟨nf,hf⟩:=mM h0
  have hd:dv (sq p) F:=(j8 nf.ne nF.ne).2 fun q hq=>by rw [hf q hq];exact hmu q hq
  obtain⟨w,S⟩:=vC (h:=sq p) nF cF
  have hg:gz F (sq p)=sq p:=Nf.sL S.ng nf fun q hq=>by
   rw [(fH F (sq p)).mu nF.ne nf.ne hq]
   have:=(j8 nf.ne nF.ne).1 hd q hq
   omega
  rw [hg]at S
  have hSN:=S.N
  have Sw:=PA S.nw.ne S.sw (by omega)
  have Sf:=PA S.ng.ne S.sg (by omega)
  have c1:=S.P5 SF Sf Sw (Rat.le_of_lt h)
  have m1:=Sf.cR (Rat.le_of_lt h)
  have m2:=Sw.cR (Rat.le_of_lt h)
  have m3:=Sf.cR (Rat.le_of_lt h1)
  have m4:=Sf.cR h2
  obtain⟨f1,f2⟩:=Sf.flat h1 (by omega)
  have f3:b6 (e hi (sq p))=b6 (e s (sq p)):=by
   rcases Rat.le_iff_lt_or_eq.1 h2 with h3 | h3
   ·exact(Sf.flat h3 (by omega)).2 f1
   ·rw [h3]
  obtain⟨c,hc,q,hq⟩:=xA h0
  have PZ:q≠0:=fun h=>by
   rw [h]at hq
   exact ZX.oW (ZX.pR hc) h0 (by rw [hq];grind)
  have GX:=congrArg ZX.N hq
  rw [ZX.lI (ZX.pR hc) h0,ZX.N_K hc,ZX.lI PZ nf.ne]at GX
  have hfN:2≤ZX.N (sq p):=Nat.not_lt.1 fun h3=>by
   obtain⟨d,VM,Q4⟩:=nR _ p (Nat.le_refl _) (by omega)
   have h5:=hf d VM
   have h6:=(jF VM h0 (k:=1)).2 (by rw [pow_succ',eM,show(1:ZX)*d=d by grind];exact Q4)
   rw [nf.N1 (by omega),JT VM]at h5
   omega
  have hqm:∀r,oX r→min (mu r q) 1≤mu r F:=fun r hr=>by
   have h3:=hmu r hr
   have h4:=congrArg (mu r) hq
   rw [sJ hr (ZX.pR hc) h0,sJ hr PZ nf.ne,aab hr hc]at h4
   omega
  obtain⟨q1,q2⟩:=XF nF cF SF hF h hv m q (by omega) PZ hqm s h1 h2
  have hcr:(c:Rat)≠0:=fun h=>hc (Rat.intCast_eq_zero_iff.1 h)
  have g:∀x,(c:Rat)*e x p=e x q*e x (sq p):=fun x=>by rw [←AK (t:=x) c,←iO,hq,iO]
  refine⟨fun h3=>?_,?_⟩
  ·have h4:=g s
   rw [h3,Rat.mul_zero]at h4
   rcases Rat.mul_eq_zero.1 h4.symm with h5 | h5
   ·exact q1 h5
   ·exact f1 h5
  ·rw [yM hcr (g s),yM hcr (g hi),q2,f3]
theorem sO(t:Rat):(dD t).l = [-t.num,(t.den:Int)]:=jL (x:=(t.den:Int)) (by have:=t.den_nz;omega) [-t.num]
theorem aiA{x:List Int}{n d:Int}(hN:aE env.P 64 [Po x] (Po x))(hM:aE env.P 90 [T2 n d, .sl []] (T2 n d)):aE env.P 192 [.ag (G9 x n d n d)] (.ag (G9 x n d n d)):=by
 simp only [G9]
 refine cD [(0, .ag (G9 x n d n d))] Tryz.func192 ?_
 refine aA [1,2] ?_
 refine nU ?_
 refine cS hN ?_
 refine cS hM ?_
 refine aC hM ?_
 (try (refine bA (of_decide_eq_true (by kernel_rfl)) ?_));(try simp (maxSteps:=4000000) (disch:=omega) [gw]);(repeat rw [if_pos (by kernel_rfl)]);(try simp (maxSteps:=4000000) (disch:=omega) [gw])
 refine bH [2] ?_
 exact cC
theorem aaC{x:List Int}{n d:Int}(hc:aE env.P 86 [T2 n d,T2 n d] (.int .i64 0)):aE env.P 193 [.ag (G9 x n d n d)] (.bool true):=by
 simp only [G9]
 refine cD [(0, .ag (G9 x n d n d))] Tryz.func193 ?_
 refine aA [1] ?_
 refine aR [2] hc ?_
 exact cC
theorem aeW{q x:List Int}{n d r:Int}(hl:q.length<1000000)(hr:q.length=0→r=0)(hq:aE env.P 64 [Po q] (Po q))(hN:aE env.P 64 [Po x] (Po x))(hM:aE env.P 90 [T2 n d, .sl []] (T2 n d))(hc:aE env.P 86 [T2 n d,T2 n d] (.int .i64 0))(hs:aE env.P 87 [Po q,T2 n d] (.int .i64 r)) :
  aE env.P 246 [Po q, .ag (G9 x n d n d)] (.int .i64 r):=by
 have k1:=aiA hN hM
 have k2:=aaC (x:=x) hc
 simp only [G9]at k1 k2 ⊢
 refine cD [(0,Po q),(1, .ag (G9 x n d n d))] Tryz.func246 ?_
 refine aA [0,3] ?_
 refine nU ?_
 refine cS hq ?_
 refine aC k1 ?_
 (try (refine bA (of_decide_eq_true (by kernel_rfl)) ?_));(try simp (maxSteps:=4000000) (disch:=omega) [gw]);(repeat rw [if_pos (by kernel_rfl)]);(try simp (maxSteps:=4000000) (disch:=omega) [gw])
 (try (refine bA (of_decide_eq_true (by kernel_rfl)) ?_));(try simp (maxSteps:=4000000) (disch:=omega) [gw]);(repeat rw [if_pos (by kernel_rfl)]);(try simp (maxSteps:=4000000) (disch:=omega) [gw])
 refine bH [0,3] ?_
 refine W.seq ?_
 by_cases h0:q.length=0
 ·rw [hr h0]
  refine aA [0,3,14] ?_
  refine bJ ?_ ?_<;>intro h
  ·refine aA [4] ?_
   exact cC
  ·simp at h;exact absurd (List.eq_nil_of_length_eq_zero h0) h
 ·refine aA [0,3,14] ?_
  refine bJ ?_ ?_<;>intro h
  ·simp at h;rw [h]at h0;exact absurd rfl h0
  refine W.skip ?_
  refine W.seq ?_
  refine aR [0,3,16] k2 ?_
  refine bJ ?_ ?_<;>intro h
  ·refine aR [4] hs ?_
   exact cC
  ·simp at h
theorem aaD{x:List Int}{an ad bn bd:Int}(hN:aE env.P 64 [Po x] (Po x))(h1:aE env.P 90 [T2 an ad, .sl []] (T2 an ad))(h2:aE env.P 90 [T2 bn bd, .sl []] (T2 bn bd)):aE env.P 192 [.ag (G9 x an ad bn bd)] (.ag (G9 x an ad bn bd)):=by
 simp only [G9]
 refine cD [(0, .ag (G9 x an ad bn bd))] Tryz.func192 ?_
 refine aA [1,2] ?_
 refine nU ?_
 refine cS hN ?_
 refine cS h1 ?_
 refine aC h2 ?_
 (try (refine bA (of_decide_eq_true (by kernel_rfl)) ?_));(try simp (maxSteps:=4000000) (disch:=omega) [gw]);(repeat rw [if_pos (by kernel_rfl)]);(try simp (maxSteps:=4000000) (disch:=omega) [gw])
 refine bH [2] ?_
 exact cC
theorem vD{x:List Int}{an ad bn bd z:Int}(hc:aE env.P 86 [T2 an ad,T2 bn bd] (.int .i64 z)):aE env.P 193 [.ag (G9 x an ad bn bd)] (.bool (decide (0≤z))):=by
 simp only [G9]
 refine cD [(0, .ag (G9 x an ad bn bd))] Tryz.func193 ?_
 refine aA [1] ?_
 refine aR [2] hc ?_
 exact cC
theorem aeX{q q':List Int}{n d s s':Int}(h1:aE env.P 87 [Po q,T2 n d] (.int .i64 s))(h2:aE env.P 85 [Po q] (Po q'))(h3:aE env.P 87 [Po q',T2 n d] (.int .i64 s')):aE env.P 197 [Po q,T2 n d] (.int .i64 (if s=0 then s' else s)):=by
 refine cD [(0,Po q),(1,T2 n d)] Tryz.func197 ?_
 refine aA [0,3] ?_
 refine W.seq ?_
 refine aR [0,3,5] h1 ?_
 by_cases h0:s=0
 ·rw [if_pos h0]
  refine aA [0,3,5,10] ?_
  refine bJ ?_ ?_<;>intro h
  ·simp at h;exact absurd h0 h
  refine W.skip ?_
  refine nU ?_
  refine cS h2 ?_
  refine cN [4] h3 ?_
  exact cC
 ·rw [if_neg h0]
  refine aA [0,3,5,10] ?_
  refine bJ ?_ ?_<;>intro h
  ·refine aA [4] ?_
   exact cC
  ·simp at h;exact absurd h h0
theorem aeY{q:List Int}{an ad bn bd s w:Int}(h1:aE env.P 87 [Po q,T2 bn bd] (.int .i64 s))(h2:aE env.P 197 [Po q,T2 an ad] (.int .i64 w)):aE env.P 195 [Po q,T2 an ad,T2 bn bd] (.bool (decide (s=0∨s≠w))):=by
 refine cD [(0,Po q),(1,T2 an ad),(2,T2 bn bd)] Tryz.func195 ?_
 refine aA [0,4,5] ?_
 refine aR [0,4,7] h1 ?_
 by_cases h0:s=0
 ·subst h0
  refine aA [6] ?_
  exact cC
 ·have hb:(s==0)=false:=by simpa using h0
  refine W.sr ?_
  simp (disch:=omega) [gw,hb]
  refine aC h2 ?_
  simp (disch:=omega) [gw,hb]
  refine bH [6] ?_
  refine W.ret ?_
  simp [go,h0]
  by_cases hsw:s=w<;>simp [hsw]
theorem TZ{x:List Int}{an ad bn bd tn td r:Int}(hp:aE env.P 193 [.ag (G9 x an ad bn bd)] (.bool true))(hc:aE env.P 86 [T2 an ad,T2 tn td] (.int .i64 r)):aE env.P 111 [.ag (G9 x an ad bn bd),T2 tn td] (.int .i64 r):=by
 simp only [G9]at *
 refine cD [(0, .ag (G9 x an ad bn bd)),(1,T2 tn td)] Tryz.func111 ?_
 refine bU [2,3] ?_
 refine W.block ?_
 refine aR [2,3,6] hp ?_
 refine bJ ?_ ?_<;>intro h
 ·refine aR [4] hc ?_
  exact cC
 ·simp at h
theorem sP{x:List Int}{an ad bn bd tn td z1 z2 s w r:Int}(hp:aE env.P 193 [.ag (G9 x an ad bn bd)] (.bool false))(h1:aE env.P 86 [T2 tn td,T2 an ad] (.int .i64 z1))(h2:aE env.P 86 [T2 tn td,T2 bn bd] (.int .i64 z2))(h3:aE env.P 87 [Po x,T2 tn td] (.int .i64 s))(h4:aE env.P 197 [Po x,T2 an ad] (.int .i64 w))
  (hr:r=if z1≤0 then 1 else if 0<z2 then -1 else if s=0 then 0 else if s=w then 1 else -1):aE env.P 111 [.ag (G9 x an ad bn bd),T2 tn td] (.int .i64 r):=by
 simp only [G9]at *
 refine cD [(0, .ag (G9 x an ad bn bd)),(1,T2 tn td)] Tryz.func111 ?_
 refine bU [2,3] ?_
 refine W.block ?_
 refine aR [2,3,6] hp ?_
 refine bJ ?_ ?_<;>intro h
 ·simp at h
 refine aR [2,3,13] h1 ?_
 refine bJ ?_ ?_<;>intro h
 ·have h0:z1≤0:=by simpa using h
  rw [if_pos h0]at hr;subst hr
  refine aA [4] ?_
  exact cC
 have h0:¬z1≤0:=by simpa using h
 rw [if_neg h0]at hr
 refine aR [2,3,19] h2 ?_
 refine bJ ?_ ?_<;>intro h
 ·have h0:0<z2:=by simpa using h
  rw [if_pos h0]at hr;subst hr
  refine aA [4] ?_
  exact cC
 have h0:¬0<z2:=by simpa using h
 rw [if_neg h0]at hr
 refine W.skip ?_
 refine aR [2,5] h3 ?_
 refine W.seq ?_
 refine W.block ?_
 refine aA [2,5,29] ?_
 refine bJ ?_ ?_<;>intro h
 ·have h0:s=0:=by simpa using h
  rw [if_pos h0]at hr;subst hr
  refine aA [4] ?_
  exact cC
 have h0:¬s=0:=by simpa using h
 rw [if_neg h0]at hr
 refine aR [32] h4 ?_
 refine bJ ?_ ?_<;>intro h
 ·have h0:s=w:=by simpa using h
  rw [if_pos h0]at hr;subst hr
  refine aA [4] ?_
  exact cC
 ·have h0:¬s=w:=by simpa using h
  rw [if_neg h0]at hr;subst hr
  refine W.skip ?_
  refine aA [4] ?_
  exact cC
theorem aeZ{x:List Int}{an ad bn bd:Int}(hp:aE env.P 193 [.ag (G9 x an ad bn bd)] (.bool true)):aE env.P 254 [.ag (G9 x an ad bn bd)] (.ag (G9 x an ad bn bd)):=by
 simp only [G9]at *
 refine cD [(0, .ag (G9 x an ad bn bd))] Tryz.func254 ?_
 refine aA [1,2] ?_
 refine W.seq ?_
 refine aR [1,2,5] hp ?_
 refine bJ ?_ ?_<;>intro h
 ·refine aA [2] ?_
  exact cC
 ·simp at h
theorem aaE{x:List Int}{an ad bn bd mn md c:Int}(hp:aE env.P 193 [.ag (G9 x an ad bn bd)] (.bool false))(hm:aE env.P 91 [T2 an ad,T2 bn bd] (T2 mn md))(hc:aE env.P 111 [.ag (G9 x an ad bn bd),T2 mn md] (.int .i64 c)) :
  aE env.P 254 [.ag (G9 x an ad bn bd)] (.ag (if c=0 then G9 x mn md mn md else if c = -1 then G9 x an ad mn md else G9 x mn md bn bd)):=by
 simp only [G9]at *
 refine cD [(0, .ag (G9 x an ad bn bd))] Tryz.func254 ?_
 refine aA [1,2] ?_
 refine W.seq ?_
 refine aR [1,2,5] hp ?_
 refine bJ ?_ ?_<;>intro h
 ·simp at h
 refine W.skip ?_
 refine aR [1,2,3] hm ?_
 refine W.iB (fun σ=>∃(v1 v2:Nat) (rows:Pm.Rows) (clk:Nat),σ=⟨fa [(1, .ptr 1 v1 0 0),(2, .ptr 2 v2 0 0)],rows,clk⟩∧rows 1=some ⟨v1,54,9,[if c=0 then G9 x mn md mn md else if c = -1 then G9 x an ad mn md else G9 x mn md bn bd]⟩∧rows 2=some ⟨v2,54,9,[[.nil, .bool false, .nil, .bool false, .nil, .bool false, .nil, .bool false, .nil]]⟩) ?_ ?_
 ·refine aR [1,2,3,14] hc ?_
  refine W.block ?_
  refine aA [1,2,3,14,17] ?_
  refine bJ ?_ ?_<;>intro h
  ·have h0:c=0:=by simpa using h
   rw [if_pos h0]
   refine W.I2 (fun K hK=>?_)
   simp (disch:=omega) [gw]
   (try (refine bA (of_decide_eq_true (by kernel_rfl)) ?_));(try simp (maxSteps:=4000000) (disch:=omega) [gw]);(repeat rw [if_pos (by kernel_rfl)]);(try simp (maxSteps:=4000000) (disch:=omega) [gw])
   (try (refine bA (of_decide_eq_true (by kernel_rfl)) ?_));(try simp (maxSteps:=4000000) (disch:=omega) [gw]);(repeat rw [if_pos (by kernel_rfl)]);(try simp (maxSteps:=4000000) (disch:=omega) [gw])
   (try (refine bA (of_decide_eq_true (by kernel_rfl)) ?_));(try simp (maxSteps:=4000000) (disch:=omega) [gw]);(repeat rw [if_pos (by kernel_rfl)]);(try simp (maxSteps:=4000000) (disch:=omega) [gw])
   exact hK _ ⟨_,aB _ [1,2],_,_,_,_,rfl,by simp,by simp⟩
  have h0:¬c=0:=by simpa using h
  rw [if_neg h0]
  refine aA [1,2,3,23] ?_
  refine bJ ?_ ?_<;>intro h
  ·have h0:c = -1:=by simpa using h
   rw [if_pos h0]
   refine W.b7 (fun K hK=>?_);simp (disch:=omega) [gw]
   exact hK _ ⟨_,aB _ [1,2],_,_,_,_,rfl,by simp,by simp⟩
  ·have h0:¬c = -1:=by simpa using h
   rw [if_neg h0]
   refine W.b7 (fun K hK=>?_);simp (disch:=omega) [gw]
   exact hK _ ⟨_,aB _ [1,2],_,_,_,_,rfl,by simp,by simp⟩
 rintro _ ⟨v1,v2,rows,clk,rfl,CO,bX⟩
 by_cases h0:c=0
 ·rw [if_pos h0]at CO ⊢
  refine W.sr ?_
  simp (disch:=omega) [gw,CO,bX]
  refine bH [2] ?_
  exact cC
 ·rw [if_neg h0]at CO ⊢
  by_cases h1:c = -1
  ·rw [if_pos h1]at CO ⊢
   refine W.sr ?_
   simp (disch:=omega) [gw,CO,bX]
   refine bH [2] ?_
   exact cC
  ·rw [if_neg h1]at CO ⊢
   refine W.sr ?_
   simp (disch:=omega) [gw,CO,bX]
   refine bH [2] ?_
   exact cC
def LH(x:List Int):Nat→Int
 | 0=>0
 | i+1=>if LH x i<bl (aS LL (nth x i).natAbs)then bl (aS LL (nth x i).natAbs)else LH x i
theorem aaF{x:List Int}(hl:x.length<1000000)(hB:∀i,i<x.length→aE env.P 257 [us (aS LL (nth x i).natAbs)] (.int .i64 (bl (aS LL (nth x i).natAbs)))∧0≤bl (aS LL (nth x i).natAbs)∧bl (aS LL (nth x i).natAbs)<1000000000000):aE env.P 264 [Po x] (.int .i64 (LH x x.length)):=by
 refine cD [(0,Po x)] Tryz.func264 ?_
 refine aA [0] ?_
 refine aA [0,3] ?_
 refine aQ [3,6,7,8] ?_
 refine W.block ?_
 refine W.bE (fun k σ=>∃(i:Nat) (rows:Pm.Rows) (clk:Nat),σ=⟨fa [(3, .int .i64 (LH x i)),(6,Po x),(7, .int .i64 x.length),(8, .int .i64 i)],rows,clk⟩∧(0≤LH x i∧LH x i<1000000000000)∧i+k=x.length) x.length ?_ ?_
 ·exact⟨_, .refl,0,_,_,rfl,⟨by show(0:Int)≤0;decide,by show(0:Int)<_;decide⟩,by omega⟩
 rintro k _ ⟨i,rows,clk,rfl,hb,zH⟩
 refine bU [3,6,7,8,9] ?_
 refine bJ ?_ ?_<;>intro h
 ·have hi:i<x.length:=by simp at h;omega
  obtain⟨h1,h0,h2⟩:=hB i hi
  refine lF ?_
  refine W.sr ?_
  simp (disch:=omega) [gw,hi]
  refine bH [3,5,6,7,8] ?_
  refine W.b7 (fun K hK=>?_)
  simp (disch:=omega) [gw]
  refine cS h1 ?_
  rw [show(if LH x i<bl (aS LL (nth x i).natAbs)then bl (aS LL (nth x i).natAbs)else LH x i)=LH x (i+1)from rfl]
  have B4:0≤LH x (i+1)∧LH x (i+1)<1000000000000:=by rw [LH];split<;>omega
  refine W.lw [3,6,7,8] hK ?_;clear hK K;simp
  refine W.b7 (fun K hK=>?_);simp (disch:=omega) [gw]
  refine hK _ ⟨k-1,_,aB _ [3,6,7,8],by omega,i+1,_,_,rfl,B4,by omega⟩
 ·have hi:i=x.length:=by simp at h;omega
  subst hi
  refine fA ?_
  refine aA [2] ?_
  exact cC
theorem T0{x y:List Int}{an ad bn bd cn cd dn dd b1 b2 b3 b4 zx zy:Int}(hx:x.length≤50)(hy:y.length≤50)(k1:aE env.P 257 [us (aS LL an.natAbs)] (.int .i64 b1))(k2:aE env.P 257 [us (aS LL bn.natAbs)] (.int .i64 b2))(k3:aE env.P 257 [us (aS LL cn.natAbs)] (.int .i64 b3))(k4:aE env.P 257 [us (aS LL dn.natAbs)] (.int .i64 b4))
  (l1:0≤b1∧b1<1000000000000) (l2:0≤b2∧b2<1000000000000) (l3:0≤b3∧b3<1000000000000) (l4:0≤b4∧b4<1000000000000) (sx:aE env.P 264 [Po x] (.int .i64 zx)) (sy:aE env.P 264 [Po y] (.int .i64 zy)) (m1:0≤zx∧zx<1000000000000) (m2:0≤zy∧zy<1000000000000) :
  aE env.P 252 [.ag (G9 x an ad bn bd), .ag (G9 y cn cd dn dd)] (.int .i64 (64+2*(b1+b2+b3+b4)+4*((x.length:Int)+y.length)*(zx+zy+((x.length:Int)+y.length)+8))):=by
 have p1:0≤4*((x.length:Int)+y.length)*(zx+zy+((x.length:Int)+y.length)+8):=Int.mul_nonneg (by omega) (by omega)
 have p2:4*((x.length:Int)+y.length)*(zx+zy+((x.length:Int)+y.length)+8)≤400*3000000000000:=Int.mul_le_mul (by omega) (by omega) (by omega) (by decide)
 simp only [G9]at *
 refine cD [(0, .ag (G9 x an ad bn bd)),(1, .ag (G9 y cn cd dn dd))] Tryz.func252 ?_
 refine aA [2,3] ?_
 refine aA [2,3,5] ?_
 refine nU ?_
 refine cS k1 ?_
 refine cS k2 ?_
 refine cS k3 ?_
 refine cN [2,3,5,6] k4 ?_
 refine nU ?_
 refine cS sx ?_
 refine cN [4] sy ?_
 exact cC
theorem T1{q x g:List Int}{an ad bn bd dg:Int}(hl:0<q.length)(LA:q.length<1000000)(hq:aE env.P 64 [Po q] (Po q))(hN:aE env.P 192 [.ag (G9 x an ad bn bd)] (.ag (G9 x an ad bn bd)))(hp:aE env.P 193 [.ag (G9 x an ad bn bd)] (.bool false))(hG:aE env.P 194 [.sl [[Po q],[Po x]]] (Po g))(hD:aE env.P 83 [Po g] (.int .i64 dg))(h0:0<dg)
  (hh:aE env.P 195 [Po g,T2 an ad,T2 bn bd] (.bool true)):aE env.P 246 [Po q, .ag (G9 x an ad bn bd)] (.int .i64 0):=by
 have mZ:q ≠ []:=fun h=>by rw [h]at hl;simp at hl
 simp only [G9]at *
 refine cD [(0,Po q),(1, .ag (G9 x an ad bn bd))] Tryz.func246 ?_
 refine aA [0,3] ?_
 refine nU ?_
 refine cS hq ?_
 refine aC hN ?_
 (try (refine bA (of_decide_eq_true (by kernel_rfl)) ?_));(try simp (maxSteps:=4000000) (disch:=omega) [gw]);(repeat rw [if_pos (by kernel_rfl)]);(try simp (maxSteps:=4000000) (disch:=omega) [gw])
 (try (refine bA (of_decide_eq_true (by kernel_rfl)) ?_));(try simp (maxSteps:=4000000) (disch:=omega) [gw]);(repeat rw [if_pos (by kernel_rfl)]);(try simp (maxSteps:=4000000) (disch:=omega) [gw])
 refine bH [0,3] ?_
 refine aQ [0,3,14] ?_
 refine bJ ?_ ?_<;>intro h
 ·simp at h;exact absurd h mZ
 refine W.skip ?_
 refine W.seq ?_
 refine aR [0,3,16] hp ?_
 refine bJ ?_ ?_<;>intro h
 ·simp at h
 refine W.skip ?_
 refine W.seq ?_
 refine aR [0,3,5] hG ?_
 refine jC ?_
 refine aC hD ?_
 simp (disch:=omega) [gw,h0]
 refine cN [0,3,36] hh ?_
 refine bJ ?_ ?_<;>intro h
 ·refine aA [4] ?_
  exact cC
 ·simp at h
theorem ae0{α:Type}{gc:α→List PV}{q x g:List Int}{C:List α}{an ad bn bd:Nat→Int}{dg r:Int}{N J:Nat}(hl:0<q.length)(LA:q.length<1000000)(hq:aE env.P 64 [Po q] (Po q))(hN:aE env.P 192 [.ag (G9 x (an 0) (ad 0) (bn 0) (bd 0))] (.ag (G9 x (an 0) (ad 0) (bn 0) (bd 0))))(hp:aE env.P 193 [.ag (G9 x (an 0) (ad 0) (bn 0) (bd 0))] (.bool false))(hG:aE env.P 194 [.sl [[Po q],[Po x]]] (Po g))
  (hD:aE env.P 83 [Po g] (.int .i64 dg)) (hh:0<dg→aE env.P 195 [Po g,T2 (an 0) (ad 0),T2 (bn 0) (bd 0)] (.bool false)) (hC:aE env.P 69 [Po q] (.dU [.rd [aJ gc C], .int .i64 0])) (hs:aE env.P 252 [.ag (G9 x (an 0) (ad 0) (bn 0) (bd 0)), .ag (G9 q 0 0 0 0)] (.int .i64 N)) (GX:N<1000000000000000)
  (hb:∀j,j<J→aE env.P 193 [.ag (G9 x (an j) (ad j) (bn j) (bd j))] (.bool false)∧(∃z:Int,aE env.P 88 [.rd [aJ gc C],T2 (an j) (ad j),T2 (bn j) (bd j)] (.int .i64 z)∧(z==0)=false)∧aE env.P 254 [.ag (G9 x (an j) (ad j) (bn j) (bd j))] (.ag (G9 x (an (j+1)) (ad (j+1)) (bn (j+1)) (bd (j+1)))))
  (hJ:J≤N) (iX:J<N→aE env.P 193 [.ag (G9 x (an J) (ad J) (bn J) (bd J))] (.bool true)∨aE env.P 193 [.ag (G9 x (an J) (ad J) (bn J) (bd J))] (.bool false)∧aE env.P 88 [.rd [aJ gc C],T2 (an J) (ad J),T2 (bn J) (bd J)] (.int .i64 0)) (hr:aE env.P 87 [Po q,T2 (bn J) (bd J)] (.int .i64 r)) :
  aE env.P 246 [Po q, .ag (G9 x (an 0) (ad 0) (bn 0) (bd 0))] (.int .i64 r):=by
 have mZ:q ≠ []:=fun h=>by rw [h]at hl;simp at hl
 replace hs:aE env.P 252 [.ag (G9 x (an 0) (ad 0) (bn 0) (bd 0)), .ag [Po q, .bool false, .sl [], .bool false, .sl [], .bool false, .sl [], .bool false, .sl []]] (.int .i64 N):=hs
 simp only [G9]at *
 refine cD [(0,Po q),(1, .ag (G9 x (an 0) (ad 0) (bn 0) (bd 0)))] Tryz.func246 ?_
 refine aA [0,3] ?_
 refine nU ?_
 refine cS hq ?_
 refine aC hN ?_
 (try (refine bA (of_decide_eq_true (by kernel_rfl)) ?_));(try simp (maxSteps:=4000000) (disch:=omega) [gw]);(repeat rw [if_pos (by kernel_rfl)]);(try simp (maxSteps:=4000000) (disch:=omega) [gw])
 (try (refine bA (of_decide_eq_true (by kernel_rfl)) ?_));(try simp (maxSteps:=4000000) (disch:=omega) [gw]);(repeat rw [if_pos (by kernel_rfl)]);(try simp (maxSteps:=4000000) (disch:=omega) [gw])
 refine bH [0,3] ?_
 refine aQ [0,3,14] ?_
 refine bJ ?_ ?_<;>intro h
 ·simp at h;exact absurd h mZ
 refine W.skip ?_
 refine W.seq ?_
 refine aR [0,3,16] hp ?_
 refine bJ ?_ ?_<;>intro h
 ·simp at h
 refine W.skip ?_
 refine W.seq ?_
 refine aR [0,3,5] hG ?_
 refine W.eJ (fun σ=>∃(v3:Nat) (rows:Pm.Rows) (clk:Nat),σ=⟨fa [(0,Po q),(3, .ptr 3 v3 0 0),(36, .bool false)],rows,clk⟩∧rows 3=some ⟨v3,54,9,[G9 x (an 0) (ad 0) (bn 0) (bd 0)]⟩) (fun K hK=>?_) ?_
 ·by_cases h0:0<dg
  ·have hh':=hh h0
   simp (disch:=omega) [gw]
   refine aC hD ?_
   simp (disch:=omega) [gw,h0]
   refine cS hh' ?_
   refine hK _ _ (aB _ [0,3,36]) ⟨_,_,_,rfl,by simp⟩
  ·simp (disch:=omega) [gw]
   refine aC hD ?_
   simp (disch:=omega) [gw,h0]
   refine hK _ _ (aB _ [0,3,36]) ⟨_,_,_,rfl,by simp⟩
 rintro _ ⟨v3,rows,clk,rfl,cH⟩
 simp only [G9]at cH
 refine bJ ?_ ?_<;>intro h
 ·simp at h
 refine W.skip ?_
 refine aR [0,3,6] hC ?_
 refine W.iB (fun σ=>∃(v3:Nat) (rows:Pm.Rows) (clk:Nat),σ=⟨fa [(0,Po q),(3, .ptr 3 v3 0 0)],rows,clk⟩∧rows 3=some ⟨v3,54,9,[G9 x (an J) (ad J) (bn J) (bd J)]⟩) ?_ ?_
 ·refine W.sr ?_
  simp (disch:=omega) [gw,cH]
  refine cN [0,3,6,45,46] hs ?_
  refine W.block ?_
  refine W.bE (fun k σ=>∃(j v3:Nat) (rows:Pm.Rows) (clk:Nat),σ=⟨fa [(0,Po q),(3, .ptr 3 v3 0 0),(6, .rd [aJ gc C]),(45, .int .i64 N),(46, .int .i64 j)],rows,clk⟩∧rows 3=some ⟨v3,54,9,[G9 x (an j) (ad j) (bn j) (bd j)]⟩∧j+k=J) J ?_ ?_
  ·exact⟨_, .refl,0,_,_,_,rfl,by simp [cH],by omega⟩
  rintro k _ ⟨j,v3,rows,clk,rfl,cH,hjk⟩
  simp only [G9]at cH
  refine bU [0,3,6,45,46,47] ?_
  refine bJ ?_ ?_<;>intro h
  ·have hjN:j<N:=by simp at h;omega
   refine lF ?_
   refine W.seq ?_
   by_cases hjJ:j<J
   ·obtain⟨g1,⟨z,g2,g3⟩,g4⟩:=hb j hjJ
    refine W.sr ?_
    simp (disch:=omega) [gw,cH]
    refine aC g1 ?_
    simp (disch:=omega) [gw,cH]
    refine aC g2 ?_
    simp (disch:=omega) [gw,g3]
    refine bH [0,3,6,45,46,58] ?_
    refine bJ ?_ ?_<;>intro h
    ·simp at h
    refine W.skip ?_
    refine W.b7 (fun K hK=>?_)
    simp (disch:=omega) [gw,cH]
    refine aC g4 ?_
    simp (disch:=omega) [gw,cH]
    refine W.lw [0,3,6,45,46] hK ?_;clear hK K;simp
    refine W.b7 (fun K hK=>?_);simp (disch:=omega) [gw]
    refine hK _ ⟨k-1,_,aB _ [0,3,6,45,46],by omega,j+1,v3,_,_,rfl,by simp,by omega⟩
   ·have hjE:j=J:=by omega
    subst hjE
    rcases iX hjN with g1 | ⟨g1,g2⟩
    ·refine W.sr ?_
     simp (disch:=omega) [gw,cH]
     refine cN [0,3,6,45,46,58] g1 ?_
     refine bJ ?_ ?_<;>intro h
     ·refine fA ?_
      exact⟨_,aB _ [0,3],_,_,_,rfl,cH⟩
     ·simp at h
    ·refine W.sr ?_
     simp (disch:=omega) [gw,cH]
     refine aC g1 ?_
     simp (disch:=omega) [gw,cH]
     refine cN [0,3,6,45,46,58] g2 ?_
     refine bJ ?_ ?_<;>intro h
     ·refine fA ?_
      exact⟨_,aB _ [0,3],_,_,_,rfl,cH⟩
     ·simp at h
  ·have hjE:j=J:=by simp at h;omega
   subst hjE
   refine fA ?_
   exact⟨_,aB _ [0,3],_,_,_,rfl,cH⟩
 rintro _ ⟨v3,rows,clk,rfl,cH⟩
 simp only [G9]at cH
 refine W.sr ?_
 simp (disch:=omega) [gw,cH]
 refine cN [4] hr ?_
 exact cC
theorem aiB{s k:Nat}{p:ZX}{x:List Int}{an ad bn bd:Int}(sg:ZX→Int)(h0:sg 0=0)(hp:BZ s k p)(hk:k≤31)(hs:s≤1000000)(S7:∀(q:ZX) (s':Nat),s'≤s+5*k→BZ s' k q→aE env.P 246 [Po q.l, .ag (G9 x an ad bn bd)] (.int .i64 (sg q))) :
  aE env.P 185 [Po p.l, .ag (G9 x an ad bn bd)] (.int .i64 (XE sg (ZX.N p) p)):=by
 have h1:∀(q:ZX) (s':Nat),s'≤s+5*k→BZ s' k q→aE env.P 245 [Po q.l, .rd (G9 x an ad bn bd)] (.int .i64 (sg q)):=fun q s' AQ bq=>by
  have k6:=S7 q s' AQ bq
  simp only [G9]at k6 ⊢
  generalize sg q=r at *
  refine cD [(0,Po q.l),(1, .rd (G9 x an ad bn bd))] Tryz.func245 ?_
  refine aA [0,1] ?_
  refine aR [3] k6 ?_
  exact cC
 have F1:=TX 245 rfl [.rd (G9 x an ad bn bd)] rfl sg h0 hp hk hs h1
 simp only [G9]at F1 ⊢
 generalize XE sg (ZX.N p) p=r at *
 refine cD [(0,Po p.l),(1, .ag (G9 x an ad bn bd))] Tryz.func185 ?_
 refine aA [0,3] ?_
 refine aR [4] F1 ?_
 exact cC
theorem sR{u:Nat}(q:ZX){s' k:Nat}(bq:BZ s' k q)(hs:s'≤1000000000)(hk:k≤100){t:Rat}(qt:SQ u t)(hu:u≤1000000000):aE env.P 87 [Po q.l,RT t] (.int .i64 (b6 (e t q))):=by
 have hm:k*(u+1)≤100*(u+1):=Nat.mul_le_mul_right _ hk
 have k2:=HG (JZ bq) q.c qt.nL qt.dL qt.hu (by omega) (by omega) (by omega) (aY t) ⟨qt.nL,qt.dL⟩
 rwa [BD]at k2
section
variable {s n u:Nat} {f:ZX} (I:pU s n f)
include I
theorem BF(hs:s≤1000000){t:Rat}(qt:SQ u t)(hu:u≤1000000000):aE env.P 197 [Po f.l,RT t] (.int .i64 (D8 f t)):=by
 have hn:=I.ch.hn
 have h1:=sR f I.ch.bz (by omega) (by omega) qt hu
 have h2:=qN I.ch.bz (by omega) (by omega)
 have h3:=sR (bY f) (I.ch.bz.bY (by omega)) (by omega) (by omega) qt hu
 have:=aeX (n:=t.num) (d:=t.den) h1 h2 h3
 have e1:(if b6 (e t f)=0 then b6 (e t (bY f))else b6 (e t f))=D8 f t:=by
  unfold D8
  by_cases h:e t f=0
  ·rw [if_pos h,if_pos (by rw [h,jI])]
  ·rw [if_neg h,if_neg (fun h0=>h (fB.1 h0))]
 rw [e1]at this
 exact this
theorem ae1(hs:s≤1000000){p:Rat × Rat}(A:tQ f (vt (bK f)) p.1 p.2){m:Rat}(h1:p.1<m)(h2:m≤p.2)(q1:SQ u p.1)(q2:SQ u p.2)(qm:SQ u m)(hu:u≤1000000000) :
  aE env.P 111 [GA f p,RT m] (.int .i64 (if e m f=0 then 0 else if vt (bK f) m<vt (bK f) p.1 then -1 else 1)):=by
 have dK:p.1<p.2:=by grind
 have z0:=cZ q1.nL q1.dL q2.nL q2.dL (by omega) (aY p.1) (aY p.2) ⟨q1.nL,q1.dL⟩ ⟨q2.nL,q2.dL⟩
 have z1:=cZ qm.nL qm.dL q1.nL q1.dL (by omega) (aY m) (aY p.1) ⟨qm.nL,qm.dL⟩ ⟨q1.nL,q1.dL⟩
 have z2:=cZ qm.nL qm.dL q2.nL q2.dL (by omega) (aY m) (aY p.2) ⟨qm.nL,qm.dL⟩ ⟨q2.nL,q2.dL⟩
 have hp:=vD (x:=f.l) z0
 have n6:¬0≤dI (p.1.num*(p.2.den:Int)) (p.2.num*(p.1.den:Int)):=by have:=(fO (p:=p.1) (q:=p.2)).2 dK;omega
 rw [decide_eq_false n6]at hp
 have S7:=sR f I.ch.bz (by omega) (by have:=I.ch.hn;omega) qm hu
 have hlw:=BF I hs q1 hu
 refine sP hp z1 z2 S7 hlw ?_
 have g1:¬dI (m.num*(p.1.den:Int)) (p.1.num*(m.den:Int))≤0:=fun h=>absurd (pV.1 h) (Rat.not_le.2 h1)
 have g2:¬0<dI (m.num*(p.2.den:Int)) (p.2.num*(m.den:Int)):=fun h=>absurd (fN.1 h) (Rat.not_lt.2 h2)
 have KW:=I.S.par (Rat.le_of_lt h1)
 have hv:vt (bK f) p.1=vt (bK f) p.2+1:=by
  rcases A.k with ⟨h,_⟩ | ⟨_,h⟩
  ·rw [h]at dK;exact absurd dK Rat.lt_irrefl
  ·exact h
 have m1:=I.S.cR (Rat.le_of_lt h1)
 have m2:=I.S.cR h2
 rw [if_neg g1,if_neg g2]
 by_cases h0:e m f=0
 ·rw [if_pos h0,if_pos (by rw [h0,jI])]
 ·have h3:¬b6 (e m f)=0:=fun h=>h0 (fB.1 h)
  rw [if_neg h0,if_neg h3]
  have h4:D8 f m=b6 (e m f):=by unfold D8;rw [if_neg h0]
  rw [h4]at KW
  by_cases h5:vt (bK f) m<vt (bK f) p.1
  ·rw [if_pos h5,if_neg]
   intro h6
   rw [show vt (bK f) p.1-vt (bK f) m=1 by omega,show sg1 1 = -1 from rfl]at KW
   omega
  ·rw [if_neg h5,if_pos]
   rw [show vt (bK f) p.1-vt (bK f) m=0 by omega,show sg1 0=1 from rfl,Int.one_mul]at KW
   exact KW
end
def vG(f:ZX)(p:Rat × Rat):Rat × Rat:=if p.1<p.2 then(if e ((p.1+p.2)/2) f=0 then((p.1+p.2)/2,(p.1+p.2)/2)else if vt (bK f) ((p.1+p.2)/2)<vt (bK f) p.1 then(p.1,(p.1+p.2)/2)else((p.1+p.2)/2,p.2))else p
theorem EH{s n u:Nat}{f:ZX}(I:pU s n f)(hs:s≤1000000){p:Rat × Rat}(A:tQ f (vt (bK f)) p.1 p.2)(q1:SQ u p.1)(q2:SQ u p.2)(qm:SQ u ((p.1+p.2)/2))(hu:u≤1000000000):aE env.P 254 [GA f p] (GA f (vG f p)):=by
 have z0:=cZ q1.nL q1.dL q2.nL q2.dL (by omega) (aY p.1) (aY p.2) ⟨q1.nL,q1.dL⟩ ⟨q2.nL,q2.dL⟩
 have hp:=vD (x:=f.l) z0
 unfold vG
 by_cases dK:p.1<p.2
 ·rw [if_pos dK]
  have n6:¬0≤dI (p.1.num*(p.2.den:Int)) (p.2.num*(p.1.den:Int)):=by have:=(fO (p:=p.1) (q:=p.2)).2 dK;omega
  rw [decide_eq_false n6]at hp
  obtain⟨m1,m2⟩:=yP dK
  have hm:=O6 (q1.LLs (Nat.le_refl _)) (q2.LLs (Nat.le_refl _)) (by omega)
  have hc:=ae1 I hs A m1 (Rat.le_of_lt m2) q1 q2 qm hu
  generalize (p.1+p.2)/2=m at *
  have k:=aaE hp hm hc
  by_cases h0:e m f=0
  ·rw [if_pos h0,if_pos rfl]at k
   rw [if_pos h0];exact k
  ·rw [if_neg h0]at k
   rw [if_neg h0]
   by_cases h5:vt (bK f) m<vt (bK f) p.1
   ·rw [if_pos h5,if_neg (by decide),if_pos rfl]at k
    rw [if_pos h5];exact k
   ·rw [if_neg h5,if_neg (by decide),if_neg (by decide)]at k
    rw [if_neg h5];exact k
 ·rw [if_neg dK]
  have n6:0≤dI (p.1.num*(p.2.den:Int)) (p.2.num*(p.1.den:Int)):=by
   have:=mt (fO (p:=p.1) (q:=p.2)).1 dK;omega
  rw [decide_eq_true n6]at hp
  exact aeZ hp
theorem lC{f:ZX}{p:Rat × Rat}(A:tQ f (vt (bK f)) p.1 p.2):tQ f (vt (bK f)) (vG f p).1 (vG f p).2∧(∀t,dF f (vG f p) t↔dF f p t)∧p.1≤(vG f p).1∧(vG f p).2≤p.2∧((vG f p).2-(vG f p).1)*2≤p.2-p.1:=by
 unfold vG
 by_cases dK:p.1<p.2
 ·rw [if_pos dK]
  obtain⟨m1,m2⟩:=yP dK
  obtain⟨d1,d2⟩:=A.half m1 m2
  have e2:(p.1+p.2)/2*2=p.1+p.2:=Rat.div_mul_cancel (by decide)
  have hr:=fun h0=>A.S.root m2 (t:=p.2) (s:=(p.1+p.2)/2) h0
  generalize (p.1+p.2)/2=m at *
  by_cases h0:e m f=0
  ·rw [if_pos h0]
   have h5:vt (bK f) m<vt (bK f) p.1:=by
    have hv:vt (bK f) p.1=vt (bK f) p.2+1:=by
     rcases A.k with ⟨h,_⟩ | ⟨_,h⟩
     ·rw [h]at dK;exact absurd dK Rat.lt_irrefl
     ·exact h
    refine Nat.not_le.1 fun h6=>?_
    have h7:=A.S.cR (Rat.le_of_lt m1)
    exact(A.S.flat m1 (by omega)).1 h0
   obtain⟨a1,a2⟩:=d1 h5
   obtain⟨b1,b2⟩:=a1.exact h0
   exact⟨b1,fun t=>(b2 t).trans (a2 t),Rat.le_of_lt m1,Rat.le_of_lt m2,by show(m-m)*2≤_;grind⟩
  ·rw [if_neg h0]
   by_cases h5:vt (bK f) m<vt (bK f) p.1
   ·rw [if_pos h5]
    obtain⟨a1,a2⟩:=d1 h5
    exact⟨a1,a2,Rat.le_refl,Rat.le_of_lt m2,by show(m-p.1)*2≤_;grind⟩
   ·rw [if_neg h5]
    obtain⟨a1,a2⟩:=d2 h5
    exact⟨a1,a2,Rat.le_of_lt m1,Rat.le_refl,by show(p.2-m)*2≤_;grind⟩
 ·rw [if_neg dK]
  have:=A.le
  exact⟨A,fun t=>Iff.rfl,Rat.le_refl,Rat.le_refl,by grind⟩
theorem XG{s n u:Nat}{g:ZX}(I:pU s n g)(hs:s≤1000000){lo hi:Rat}(h:lo<hi)(hv:vt (bK g) lo≤vt (bK g) hi+1)(q1:SQ u lo)(q2:SQ u hi)(hu:u≤1000000000):aE env.P 195 [Po g.l,RT lo,RT hi] (.bool (decide (vt (bK g) hi<vt (bK g) lo))):=by
 have h1:=sR g I.ch.bz (by omega) (by have:=I.ch.hn;omega) q2 hu
 have h2:=BF I hs q1 hu
 have k:=aeY (an:=lo.num) (ad:=lo.den) (bn:=hi.num) (bd:=hi.den) h1 h2
 have m1:=I.S.cR (Rat.le_of_lt h)
 have e1:decide (b6 (e hi g)=0∨b6 (e hi g)≠D8 g lo)=decide (vt (bK g) hi<vt (bK g) lo):=by
  refine decide_eq_decide.2 ?_
  by_cases h0:e hi g=0
  ·refine⟨fun _=>Nat.not_le.1 fun h5=>(I.S.flat h (by omega)).1 h0,fun _ => .inl (by rw [h0,jI])⟩
  ·have h3:b6 (e hi g)≠0:=fun h=>h0 (fB.1 h)
   have KW:=I.S.par (Rat.le_of_lt h)
   have h4:D8 g hi=b6 (e hi g):=by unfold D8;rw [if_neg h0]
   rw [h4]at KW
   by_cases h5:vt (bK g) hi<vt (bK g) lo
   ·rw [show vt (bK g) lo-vt (bK g) hi=1 by omega,show sg1 1 = -1 from rfl]at KW
    exact⟨fun _=>h5,fun _ => .inr fun h6=>by omega⟩
   ·rw [show vt (bK g) lo-vt (bK g) hi=0 by omega,show sg1 0=1 from rfl,Int.one_mul]at KW
    exact⟨fun h6=>(h6.elim (fun h7=>h3 h7) (fun h7=>h7 KW)).elim,fun h6=>absurd h6 h5⟩
 rw [e1]at k
 exact k
def nY(f:ZX)(p:Rat × Rat):Nat→Rat × Rat
 | 0=>p
 | j+1=>vG f (nY f p j)
theorem T3{f:ZX}{p:Rat × Rat}{D j:Nat}{B:Rat}(h1:Gr D B j p.1)(h2:Gr D B j p.2):Gr D B (j+1) (vG f p).1∧Gr D B (j+1) (vG f p).2:=by
 have hm:=h1.LB h2
 unfold vG
 split
 ·split
  ·exact⟨hm,hm⟩
  ·split
   ·exact⟨h1.mono (by omega),hm⟩
   ·exact⟨hm,h2.mono (by omega)⟩
 ·exact⟨h1.mono (by omega),h2.mono (by omega)⟩
theorem PF{f:ZX}{p:Rat × Rat}(A:tQ f (vt (bK f)) p.1 p.2){D:Nat}{B:Rat}(h1:Gr D B 0 p.1)(h2:Gr D B 0 p.2):∀j,tQ f (vt (bK f)) (nY f p j).1 (nY f p j).2∧(∀t,dF f (nY f p j) t↔dF f p t)∧p.1≤(nY f p j).1∧(nY f p j).2≤p.2∧((nY f p j).2-(nY f p j).1)*2^j≤p.2-p.1∧Gr D B j (nY f p j).1∧Gr D B j (nY f p j).2
 | 0=>⟨A,fun _=>Iff.rfl,Rat.le_refl,Rat.le_refl,by rw [Rat.pow_zero,Rat.mul_one];exact Rat.le_refl,h1,h2⟩
 | j+1=>by
  obtain⟨a1,a2,a3,a4,a5,a6,a7⟩:=PF A h1 h2 j
  obtain⟨b1,b2,b3,b4,b5⟩:=lC a1
  obtain⟨c1,c2⟩:=T3 (f:=f) a6 a7
  refine⟨b1,fun t=>(b2 t).trans (a2 t),by show _≤(vG f (nY f p j)).1;grind,by show(vG f (nY f p j)).2≤_;grind,?_,c1,c2⟩
  show((vG f (nY f p j)).2-(vG f (nY f p j)).1)*2^(j+1)≤_
  have hP:=gN j
  have g3:=Rat.mul_le_mul_of_nonneg_right b5 (Rat.le_of_lt hP)
  rw [Rat.pow_succ]
  grind
structure Num(U:Rat→Prop):Prop where
 up:∀s t,U s→s≤t→U t
 lo:∃s,¬U s
 hi:∃t,U t
namespace Num
variable {U:Rat→Prop} (H:Num U)
include H
theorem lt{s t:Rat}(h1:¬U s)(h2:U t):s<t:=Rat.not_le.1 fun h=>h1 (H.up t s h2 h)
theorem inter{s t s' t':Rat}(h1:¬U s)(h2:U t)(h3:¬U s')(h4:U t'):∃a b,¬U a∧U b∧s≤a∧s'≤a∧b≤t∧b≤t'∧a<b:=by
 obtain⟨a,a1,a2,a3⟩:∃a,¬U a∧s≤a∧s'≤a:=by
  by_cases h:s≤s'
  ·exact⟨s',h3,h,Rat.le_refl⟩
  ·exact⟨s,h1,Rat.le_refl,by grind⟩
 obtain⟨b,b1,b2,b3⟩:∃b,U b∧b≤t∧b≤t':=by
  by_cases h:t≤t'
  ·exact⟨t,h2,Rat.le_refl,h⟩
  ·exact⟨t',h4,by grind,Rat.le_refl⟩
 exact⟨a,b,a1,b1,a2,a3,b2,b3,H.lt a1 b1⟩
end Num
def Up(U:Rat→Prop)(x:Rat):Prop:=∃s,s<x∧U s
def Sn(U:Rat→Prop)(q:ZX)(σ:Int):Prop:=∃ε s t:Rat,0<ε∧¬U s∧U t ∧ ∀x,s<x→x≤t→b6 (e x q)=σ∧kE ε (e x q)
def T4(U:Rat→Prop)(q:ZX):Prop:=∀ε:Rat,0<ε → ∃s t,¬U s∧U t ∧ ∀x,s≤x→x≤t→Ab (e x q) ε
def SgU(U:Rat→Prop)(q:ZX)(σ:Int):Prop:=(σ=0∧T4 U q)∨((σ=1∨σ = -1)∧Sn U q σ)
theorem Sn.XH{U:Rat→Prop}(H:Num U){q:ZX}{σ:Int}(h:Sn U q σ):¬T4 U q:=fun h2=>by
 obtain⟨ε,s,t,h0,h1,h2',h3⟩:=h
 obtain⟨s',t',h4,h5,h6⟩:=h2 (ε/2) (by grind)
 obtain⟨a,b,g1,g2,g3,g4,g5,g6,g7⟩:=H.inter h1 h2' h4 h5
 have k1:=(h3 b (by grind) g5).2
 obtain⟨k2,k3⟩:=h6 b (by grind) g6
 rcases k1 with k1 | k1<;>grind
theorem SgU.uniq{U:Rat→Prop}(H:Num U){q:ZX}{σ τ:Int}(h:SgU U q σ)(h':SgU U q τ):σ=τ:=by
 rcases h with ⟨rfl,h⟩ | ⟨h1,h⟩
 ·rcases h' with ⟨rfl,h'⟩ | ⟨_,h'⟩
  ·rfl
  ·exact absurd h (h'.XH H)
 ·rcases h' with ⟨_,h'⟩ | ⟨_,h'⟩
  ·exact absurd h' (h.XH H)
  ·obtain⟨ε,s,t,_,h2,h3,h4⟩:=h
   obtain⟨ε',s',t',_,h5,h6,h7⟩:=h'
   obtain⟨a,b,g1,g2,g3,g4,g5,g6,g7⟩:=H.inter h2 h3 h5 h6
   rw [←(h4 b (by grind) g5).1,←(h7 b (by grind) g6).1]
noncomputable def sgU(U:Rat→Prop)(q:ZX):Int:=open Classical in if h:∃σ,SgU U q σ then h.choose else 0
theorem SgU.eq{U:Rat→Prop}(H:Num U){q:ZX}{σ:Int}(h:SgU U q σ):sgU U q=σ:=by
 have h1:∃σ,SgU U q σ:=⟨σ,h⟩
 unfold sgU
 rw [dif_pos h1]
 exact h1.choose_spec.uniq H h
theorem PG{U:Rat→Prop}(H:Num U):T4 U 0:=fun ε hε=>by
 obtain⟨s,hs⟩:=H.lo
 obtain⟨t,ht⟩:=H.hi
 refine⟨s,t,hs,ht,fun x _ _=>?_⟩
 have:e x 0=0:=rfl
 rw [this]
 exact⟨by grind,by grind⟩
theorem T4.mul{U:Rat→Prop}(H:Num U){g:ZX}(h:T4 U g)(k:ZX):T4 U (k*g):=fun ε hε=>by
 obtain⟨s0,hs⟩:=H.lo
 obtain⟨t0,ht⟩:=H.hi
 obtain⟨B,hB,ha,hb⟩:=k8 s0 t0
 obtain⟨Q,hQ,hl⟩:=lip k B hB
 obtain⟨M,hM,hm,_⟩:=k8 (e s0 k) 0
 have iX:=H.lt hs ht
 have hC:0<M+(t0-s0)*Q:=by
  have:=Rat.mul_pos (show 0<t0-s0 by grind) hQ;grind
 have hk:∀x,s0≤x→x≤t0→Ab (e x k) (M+(t0-s0)*Q):=fun x h1 h2=>by
  have h3:=hl s0 x ha (cI ha hb h1 h2) h1
  have h4:(x-s0)*Q≤(t0-s0)*Q:=Rat.mul_le_mul_of_nonneg_right (by grind) (Rat.le_of_lt hQ)
  obtain⟨p1,p2⟩:=h3
  obtain⟨p3,p4⟩:=hm
  exact⟨by grind,by grind⟩
 generalize M+(t0-s0)*Q=C at *
 have e1:ε/C*C=ε:=Rat.div_mul_cancel (Rat.ne_of_gt hC)
 obtain⟨s,t,g1,g2,g3⟩:=h (ε/C) ((Rat.lt_div_iff hC).2 (by grind))
 obtain⟨a,b,k1,k2,k3,k4,k5,k6,k7⟩:=H.inter hs ht g1 g2
 refine⟨a,b,k1,k2,fun x h1 h2=>?_⟩
 have h3:=(hk x (by grind) (by grind)).mul (g3 x (by grind) (by grind))
 rw [iO]
 refine h3.mono ?_
 grind
theorem T4.FE{U:Rat→Prop}{c:Int}(hc:c≠0){q:ZX}(h:T4 U (K c*q)):T4 U q:=fun ε hε=>by
 obtain⟨s,t,h1,h2,h3⟩:=h ε hε
 refine⟨s,t,h1,h2,fun x h4 h5=>?_⟩
 have h6:=h3 x h4 h5
 rw [iO,AK]at h6
 have h7:=w6 hc
 obtain⟨p1,p2⟩:=h6
 generalize (c:Rat)=C at *
 generalize e x q=y at *
 have key:∀C y:Rat,1≤C→C*y≤ε → -ε≤C*y→Ab y ε:=fun C y h1 h2 h3=>by
  refine⟨Rat.not_lt.1 fun h=>?_,Rat.not_lt.1 fun h=>?_⟩
  ·have:=Rat.mul_le_mul_of_nonneg_right h1 (show 0 ≤ -y by grind);grind
  ·have:=Rat.mul_le_mul_of_nonneg_right h1 (show 0≤y by grind);grind
 rcases h7 with h7 | h7
 ·have:=key (-C) (-y) (by grind) (by grind) (by grind)
  obtain⟨q1,q2⟩:=this
  exact⟨by grind,by grind⟩
 ·exact key C y h7 p2 p1
theorem T4.dv{U:Rat→Prop}(H:Num U){g q:ZX}(h:T4 U g)(hd:dv g q):T4 U q:=by
 obtain⟨c,hc,k,hk⟩:=hd
 have h1:=h.mul H k
 rw [←hk]at h1
 exact h1.FE hc
theorem PH{U:Rat→Prop}(H:Num U){w:ZX}{φ:Rat→Nat}(S:tP w φ){s0 t0:Rat}(h1:¬U s0)(h2:U t0)(ht:∀s t,s0≤s→t≤t0→¬U s→U t→φ s≠φ t):T4 U w:=fun ε hε=>by
 obtain⟨B,hB,ha,hb⟩:=k8 s0 t0
 obtain⟨Q,hQ,hl⟩:=lip w B hB
 have e1:ε/Q*Q=ε:=Rat.div_mul_cancel (Rat.ne_of_gt hQ)
 have e2:0<ε/Q:=(Rat.lt_div_iff hQ).2 (by grind)
 obtain⟨s,t,g1,g2,g3,g4,g5,g6⟩:=XD (U:=U) e2 (H.lt h1 h2) h1 h2
 refine⟨s,t,g5,g6,fun x hx hy=>?_⟩
 have h3:=S.small g2 (ht s t g1 g3 g5 g6) hQ (fun a b q1 q2 q3=>hl a b (cI ha hb (by grind) (by grind)) (cI ha hb (by grind) (by grind)) q2) hx hy
 refine h3.mono ?_
 have h4:=Rat.mul_le_mul_of_nonneg_right g4 (Rat.le_of_lt hQ)
 grind
theorem Up.min{U:Rat→Prop}{s t:Rat}(hs:Up U s)(ht:Up U t):∃x,Up U x∧x≤s∧x≤t:=by
 by_cases h:s≤t
 ·exact⟨s,hs,Rat.le_refl,h⟩
 ·exact⟨t,ht,by grind,Rat.le_refl⟩
end Go.Proofs.YtiobceocpabjdaaGreat
namespace Go.Proofs.YtiobceocpabjdaaGreat
open Go Pm
open ZX hiding N W
theorem akY{a b:ZX}(na:Nf a)(nb:Nf b)(hd:dv b a){h n l:Nat}(hH:∀d∈a.l,d.natAbs≤2^h)(hN:ZX.N a≤n)(hn:n≤2^l):∀c∈b.l,c.natAbs≤2^(h+n*(2*l+3)):=by
 obtain⟨w,_,e⟩:=na.quo nb hd
 exact adY na.ne e hH hN hn
theorem KX{z n:Nat}{f:ZX}(nf:Nf f)(bz:BZ z n f):Ab (iC f.l) (2^(z+1)):=by
 have f0:=u0 nf.ne
 have h1:=KJ f.c f0
 have hl:=dC f.c (List.length_pos_iff.2 f0)
 have hL:(1:Rat)≤(((lead f.l).natAbs:Int):Rat):=eH (by omega)
 have h2:=Rat.div_mul_cancel (a:=((pY f.l (f.l.length-1):Int):Rat)) (b:=(((lead f.l).natAbs:Int):Rat)) (by grind)
 have h3:(1:Rat)≤iC f.l:=(mW f.c f0 (t:=iC f.l) (.inr Rat.le_refl)).2
 have h4:((pY f.l (f.l.length-1):Int):Rat)≤2^z:=by
  have h5:=iZ (b:=2) (by decide) (pY f.l (f.l.length-1))
  have h6:=Nat.pow_le_pow_right (show 0<2 by decide) (D6 bz (f.l.length-1))
  exact(HK (s:=z) (by omega)).2
 have h7:=qQ z
 rw [Rat.pow_succ]
 generalize (2:Rat)^z=T at *
 generalize ((pY f.l (f.l.length-1):Int):Rat)=m at *
 have hw:m/(((lead f.l).natAbs:Int):Rat)≤T:=by
  refine Rat.not_lt.1 fun h=>?_
  have h8:=Rat.mul_le_mul_of_nonneg_left hL (show 0≤m/(((lead f.l).natAbs:Int):Rat)by grind)
  grind
 exact⟨by grind,by grind⟩
section
variable {f:ZX} {v:Rat→Nat} {lo hi:Rat} (nf:Nf f) (A:tQ f v lo hi)
include nf A
theorem KY{t:Rat}:(jJ v lo hi t → -iC f.l<t)∧(¬jJ v lo hi t→t<iC f.l):=by
 have f0:=u0 nf.ne
 have akZ:∀ {a b:Rat},a<b→b ≤ -iC f.l→v a=v b:=fun eW hb=>A.S.bg ⟨1,by decide,fun x _ h2=>(mW f.c f0 (.inl (by grind))).1⟩ eW
 have ak0:∀ {a b:Rat},a<b→iC f.l≤a→v a=v b:=fun eW hb=>A.S.bg ⟨1,by decide,fun x h1 _=>(mW f.c f0 (.inr (by grind))).1⟩ eW
 have pt:e lo f=0→¬kE (iC f.l) lo:=fun h0 hb=>by
  have h1:=(mW f.c f0 hb).1
  rw [show qv lo f.l=e lo f from rfl,h0]at h1
  rcases h1 with h1 | h1<;>exact absurd h1 (by decide)
 constructor
 ·refine fun h=>Rat.not_le.1 fun ht=>?_
  rcases A.k with ⟨h1,h2⟩ | ⟨h1,h2⟩
  ·refine pt h2 (.inl ?_)
   rcases h with h | ⟨h,h3⟩
   ·grind
   ·grind
  ·rcases h with h | ⟨h,h3⟩
   ·have:=akZ h1 (by grind);omega
   ·have:=akZ h ht;omega
 ·refine fun h=>Rat.not_le.1 fun ht=>?_
  have h0:t<hi:=Rat.not_le.1 fun h1=>h (.inl h1)
  rcases A.k with ⟨h1,h2⟩ | ⟨h1,h2⟩
  ·exact pt h2 (.inr (by grind))
  ·by_cases h3:t≤lo
   ·have:=ak0 h1 (by grind);omega
   ·have h4:v lo≤v t:=Nat.not_lt.1 fun h4=>h (.inr ⟨by grind,h4⟩)
    have:=ak0 h0 ht
    omega
theorem ae3:2≤ZX.N f:=Nat.not_lt.1 fun h=>by
 have:=ZX.aF.1 nf.ne
 obtain⟨c,hc,rfl⟩:=ZX.lJ (x:=f) (by omega)
 have hcq:(c:Rat)≠0:=fun h0=>hc (Rat.intCast_eq_zero_iff.1 h0)
 rcases A.k with ⟨_,h2⟩ | ⟨h1,h2⟩
 ·rw [AK]at h2;exact hcq h2
 ·have:=A.S.const h1 (σ:=b6 (c:Rat)) (.inr (by rw [AK])) (fun x _ _=>by rw [AK])
  omega
end
theorem fT{f:ZX}{v:Rat→Nat}{lo hi:Rat}(A:tQ f v lo hi):Num (jJ v lo hi):=⟨fun _ _ h h'=>A.up h h',⟨lo-1,A.oZ (.inl (by grind))⟩,⟨hi,lA⟩⟩
def se(s r n m β:Nat):Nat:=6*(n+m)+(s+n*9)*m+r*n+(n+m)*(β+2)+2
theorem T5{f h g w:ZX}(S:o6 f h g w)(nf:Nf f)(nh:Nf h)(ch:uI h (bY h)){s r n m β:Nat}(hA:∀c∈f.l,c.natAbs≤2^s)(hB:∀c∈h.l,c.natAbs≤2^r)(hn:ZX.N f≤n)(hm:ZX.N h≤m)(n8:n≤8)(m8:m≤8)
  {a b:Rat} (ha:Ab a (2^β)) (hb:Ab b (2^β)) (eW:a<b) (hd:(b-a)*2^se s r n m β≤1):vt (bK w) a=vt (bK w) b∨vt (bK h) a=vt (bK h) b:=by
 have n1:=S.N
 have Sw:=PA S.nw.ne S.sw (by omega)
 have Sh:=PA nh.ne ch (by omega)
 refine XB Sw Sh S.wh (s:=s+n*9) (r:=r) (l:=4) (β:=β) (akY nf S.nw (by rw [S.eq];exact(dv.refl w).mul_right _) hA hn (show n≤2^3 by omega)) hB (by omega) ha hb eW (D7 hd ?_)
 unfold se sx
 have h1:(s+n*9)*ZX.N h≤(s+n*9)*m:=Nat.mul_le_mul_left _ hm
 have h2:r*ZX.N w≤r*n:=Nat.mul_le_mul_left _ (by omega)
 have h3:(ZX.N w+ZX.N h)*(β+2)≤(n+m)*(β+2):=Nat.mul_le_mul_right _ (by omega)
 omega
theorem aiC{f h:ZX}{p q:Rat × Rat}(nf:Nf f)(nh:Nf h)(cf:uI f (bY f))(ch:uI h (bY h))(A:tQ f (vt (bK f)) p.1 p.2)(B:tQ h (vt (bK h)) q.1 q.2){s r n m β K:Nat}(hA:∀c∈f.l,c.natAbs≤2^s)(hB:∀c∈h.l,c.natAbs≤2^r)(hn:ZX.N f≤n)(hm:ZX.N h≤m)(n8:n≤8)(m8:m≤8)
  (k1:se s r n m β≤K) (k2:se r s m n β≤K) (k3:lk s n 3 β≤K∨lk r m 3 β≤K) {S E:Rat} (hS:Ab S (2^β)) (hE:Ab E (2^β)) (a1:¬dF f p S) (a2:dF f p E) (b1:¬dF h q S) (b2:dF h q E) (hd:(E-S)*2^K≤1):∀x,dF f p x↔dF h q x:=by
 have hSE:=(fT A).lt a1 a2
 obtain⟨w1,S1⟩:=vC (h:=h) nf cf
 obtain⟨w2,S2⟩:=vC (h:=f) nh ch
 rw [←JW]at S2
 have n1:=S1.N
 have n2:=S2.N
 have hg:=PA S1.ng.ne S1.sg (by omega)
 have Y7:=PA S1.nw.ne S1.sw (by omega)
 have hw2:=PA S2.nw.ne S2.sw (by omega)
 have o1:=o7 A a1 a2 hSE
 have o2:=o7 B b1 b2 hSE
 have c1:=S1.P5 A.S hg Y7 (Rat.le_of_lt hSE)
 have c2:=S2.P5 B.S hg hw2 (Rat.le_of_lt hSE)
 have e1:=(T5 S1 nf nh ch hA hB hn hm n8 m8 hS hE hSE (D7 hd k1)).resolve_right (by omega)
 have e2:=(T5 S2 nh nf cf hB hA hm hn m8 n8 hS hE hSE (D7 hd k2)).resolve_right (by omega)
 have tM:∀ {x:ZX} {s n:Nat},tP x (vt (bK x))→(∀c∈x.l,c.natAbs≤2^s)→ZX.N x≤n→n≤8→lk s n 3 β≤K→vt (bK x) S≤vt (bK x) E+1:=fun {x s n} hx hA hN h8 hk=>by
  obtain⟨L,G,e⟩:=hx.g
  obtain⟨g1,_⟩:=yL G (s:=s) (n:=n) (l:=3) (β:=β) hx.ne hA hN (by omega) hx.cop (δ:=E-S) (D7 hd hk)
  have:=g1.turns S E hS hE hSE Rat.le_refl
  rw [e]
  rcases TS x S E with h5 | h5<;>omega
 have m0:=hg.cR (Rat.le_of_lt hSE)
 have hv:vt (bK f) S≤vt (bK f) E+1∧vt (bK h) S≤vt (bK h) E+1:=by
  rcases k3 with k3 | k3
  ·have:=tM A.S hA hn n8 k3;omega
  ·have:=tM B.S hB hm m8 k3;omega
 exact PC A B S1 S2 hg Y7 hw2 hSE a1 a2 b1 b2 hv.1 hv.2 (by omega)
theorem HM{s r n m z:Nat}(n2:2≤n)(m2:2≤m)(n8:n≤8)(m8:m≤8)(hs:z≤s)(hr:z≤r):2*se s r n m (z+2)+2*(s+r)+9≤64+4*(n+m)*(s+r+(n+m)+8):=by
 have e1:4*(n+m)*(s+r+(n+m)+8)=4*(n*s)+4*(n*r)+4*(m*s)+4*(m*r)+4*(n*n)+8*(n*m)+4*(m*m)+32*n+32*m:=by grind
 have e2:se s r n m (z+2)=6*(n+m)+m*s+9*(n*m)+n*r+n*z+m*z+4*n+4*m+2:=by unfold se;grind
 have h1:n*z≤n*s:=Nat.mul_le_mul_left _ hs
 have h2:m*z≤m*r:=Nat.mul_le_mul_left _ hr
 have h3:n*m≤8*m:=Nat.mul_le_mul_right _ n8
 have h4:2*(n*m)≤n*n+m*m:=by
  rcases Nat.le_total n m with h | h
  ·obtain⟨d,rfl⟩:=Nat.exists_eq_add_of_le h;grind
  ·obtain⟨d,rfl⟩:=Nat.exists_eq_add_of_le h;grind
 have h5:2*s≤n*s:=Nat.mul_le_mul_right _ n2
 have h6:2*r≤m*r:=Nat.mul_le_mul_right _ m2
 omega
theorem lk3(s n:Nat):lk s n 3 (s+2)=5*(n*s)+30*n+s+6:=by unfold lk sk;grind
theorem HN{s r n m:Nat}(n2:2≤n)(m2:2≤m)(n8:n≤8)(hsr:s≤r)(hm:3≤m∨n≤2):2*lk s n 3 (s+2)+2*(s+r)+9≤64+4*(n+m)*(s+r+(n+m)+8):=by
 have e1:4*(n+m)*(s+r+(n+m)+8)=4*(n*s)+4*(n*r)+4*(m*s)+4*(m*r)+4*(n*n)+8*(n*m)+4*(m*m)+32*n+32*m:=by grind
 obtain⟨d,rfl⟩:=Nat.exists_eq_add_of_le hsr
 rw [e1,lk3,Nat.mul_add n,Nat.mul_add m]
 have h1:n*s≤8*s:=Nat.mul_le_mul_right _ n8
 have h5:2*s≤m*s:=Nat.mul_le_mul_right _ m2
 have h6:2*d≤m*d:=Nat.mul_le_mul_right _ m2
 have h7:2*n≤n*n:=Nat.mul_le_mul_right _ n2
 have h8:2*n≤n*m:=by rw [Nat.mul_comm n];exact Nat.mul_le_mul_right _ m2
 rcases hm with hm | hm
 ·have h9:3*s≤m*s:=Nat.mul_le_mul_right _ hm
  have h10:3*n≤n*m:=by rw [Nat.mul_comm n];exact Nat.mul_le_mul_right _ hm
  omega
 ·have h9:n*s≤2*s:=Nat.mul_le_mul_right _ hm
  omega
theorem HO{s r n m:Nat}(n2:2≤n)(n8:n≤8)(hsr:s≤r)(hm:m=2):2*lk r m 3 (s+2)+2*(s+r)+9≤64+4*(n+m)*(s+r+(n+m)+8):=by
 subst hm
 have e1:4*(n+2)*(s+r+(n+2)+8)=4*(n*s)+4*(n*r)+8*s+8*r+4*(n*n)+48*n+80:=by grind
 have e2:lk r 2 3 (s+2)=5*r+6*s+66:=by unfold lk sk;omega
 have h5:2*s≤n*s:=Nat.mul_le_mul_right _ n2
 have h6:2*r≤n*r:=Nat.mul_le_mul_right _ n2
 have h7:2*n≤n*n:=Nat.mul_le_mul_right _ n2
 omega
theorem ae4{s r n m:Nat}(n2:2≤n)(m1:1≤m)(n8:n≤8)(m8:m≤8):se s (r+m*9) n m (s+1)+s+2≤64+4*(n+m)*(s+r+(n+m)+8):=by
 have e1:4*(n+m)*(s+r+(n+m)+8)=4*(n*s)+4*(n*r)+4*(m*s)+4*(m*r)+4*(n*n)+8*(n*m)+4*(m*m)+32*n+32*m:=by grind
 have e2:se s (r+m*9) n m (s+1)=6*(n+m)+m*s+18*(n*m)+n*r+n*s+m*s+3*n+3*m+2:=by unfold se;grind
 have h3:n*m≤8*m:=Nat.mul_le_mul_right _ n8
 have h4:2*(n*m)≤n*n+m*m:=by
  rcases Nat.le_total n m with h | h
  ·obtain⟨d,rfl⟩:=Nat.exists_eq_add_of_le h;grind
  ·obtain⟨d,rfl⟩:=Nat.exists_eq_add_of_le h;grind
 have h5:2*s≤n*s:=Nat.mul_le_mul_right _ n2
 omega
theorem XI(q:ZX)(x0:Rat){ε:Rat}(hε:0<ε):∃r:Rat,0<r ∧ ∀x,x0-r≤x→x≤x0+r→Ab (e x q-e x0 q) ε:=by
 obtain⟨B,hB,ha,hb⟩:=k8 (x0-1) (x0+1)
 obtain⟨Q,hQ,hl⟩:=lip q B hB
 have e1:ε/Q*Q=ε:=Rat.div_mul_cancel (Rat.ne_of_gt hQ)
 obtain⟨r,hr,h1,h2⟩:=min2 (show (0:Rat)<1 by decide) ((Rat.lt_div_iff hQ).2 (show 0*Q<ε by grind))
 have hrQ:r*Q≤ε:=by have:=Rat.mul_le_mul_of_nonneg_right h2 (Rat.le_of_lt hQ);grind
 have pM:Ab x0 B:=cI ha hb (by grind) (by grind)
 refine⟨r,hr,fun x h3 h4=>?_⟩
 have hx:Ab x B:=cI ha hb (by grind) (by grind)
 by_cases h:x0≤x
 ·have h5:=hl x0 x pM hx h
  refine h5.mono ?_
  have:=Rat.mul_le_mul_of_nonneg_right (show x-x0≤r by grind) (Rat.le_of_lt hQ)
  grind
 ·have h5:=(hl x x0 hx pM (by grind)).mono (show (x0-x)*Q≤ε by
   have:=Rat.mul_le_mul_of_nonneg_right (show x0-x≤r by grind) (Rat.le_of_lt hQ)
   grind)
  obtain⟨p1,p2⟩:=h5
  exact⟨by grind,by grind⟩
theorem aoY{x y ε:Rat}(hε:0<ε)(h:kE (ε+ε) x)(qT:Ab (y-x) ε):b6 y=b6 x∧kE ε y:=by
 obtain⟨p1,p2⟩:=qT
 rcases h with h | h
 ·exact⟨by rw [gI (show x<0 by grind),gI (by grind)], .inl (by grind)⟩
 ·exact⟨by rw [eN (show 0<x by grind),eN (by grind)], .inr (by grind)⟩
theorem ae5{U:Rat→Prop}{x0:Rat}(hU:∀t,U t↔x0≤t)(q:ZX):SgU U q (b6 (e x0 q)):=by
 have lo:∀ {r:Rat},0<r→¬U (x0-r):=fun hr h=>by have:=(hU _).1 h;grind
 have hi:∀ {r:Rat},0<r→U (x0+r):=fun hr=>(hU _).2 (by grind)
 by_cases h0:e x0 q=0
 ·refine .inl ⟨by rw [h0,jI],fun ε hε=>?_⟩
  obtain⟨r,hr,h⟩:=XI q x0 hε
  refine⟨x0-r,x0+r,lo hr,hi hr,fun x h1 h2=>?_⟩
  have:=h x h1 h2
  rwa [h0,show e x q-0=e x q by grind]at this
 ·have hs:b6 (e x0 q)=1∨b6 (e x0 q) = -1:=by
   rcases cY (e x0 q)with ⟨_,h⟩ | ⟨h,_⟩ | ⟨_,h⟩
   ·exact .inr h
   ·exact absurd h h0
   ·exact .inl h
  obtain⟨ε,hε,hb⟩:∃ε:Rat,0<ε∧kE (ε+ε) (e x0 q):=by
   by_cases h:0≤e x0 q
   ·exact⟨e x0 q/2,by grind, .inr (by grind)⟩
   ·exact⟨-(e x0 q)/2,by grind, .inl (by grind)⟩
  obtain⟨r,hr,h⟩:=XI q x0 hε
  exact .inr ⟨hs,ε,x0-r,x0+r,hε,lo hr,hi hr,fun x h1 h2=>aoY hε hb (h x (Rat.le_of_lt h1) h2)⟩
theorem avD{r q:ZX}(hr:oX r)(q0:q≠0)(h:dv r q):dv r (sq q):=by
 obtain⟨nf,hf⟩:=mM q0
 have p1:r^1=r:=by rw [pow_succ',eM];grind
 have h1:=(jF hr q0 (k:=1)).2 (by rw [p1];exact h)
 have h2:=(jF hr nf.ne (k:=1)).1 (by rw [hf r hr];omega)
 rwa [p1]at h2
theorem uI.avE{w q:ZX}(q0:q≠0)(h:uI w (sq q)):uI w q:=fun d h1 h2=>Nat.not_lt.1 fun hd=>by
 obtain⟨r,hr,hrd⟩:=nR _ d (Nat.le_refl _) (by omega)
 have:=h r (hrd.trans h1) (avD hr q0 (hrd.trans h2))
 have:=hr.deg
 omega
theorem avF{f q:ZX}(nf:Nf f)(hf:sq f=f)(q0:q≠0):gz f (sq q)=gz q f:=by
 obtain⟨nq,hq⟩:=mM q0
 refine Nf.sL (G6 (.inl nf.ne)) (G6 (.inl q0)) fun p hp=>?_
 rw [(fH f (sq q)).mu nf.ne nq.ne hp,(fH q f).mu q0 nf.ne hp,hq p hp]
 have:=(mM nf.ne).2 p hp
 rw [hf]at this
 omega
section
variable {f h g w:ZX} {v γ φ:Rat→Nat} {lo hi:Rat} (A:tQ f v lo hi) (S:o6 f h g w) (Sg:tP g γ) (Sw:tP w φ)
include A S Sg Sw
theorem aAI(dK:lo<hi)(hγ:γ hi<γ lo):T4 (jJ v lo hi) g:=by
 have hv:v lo=v hi+1:=by
  rcases A.k with ⟨h,_⟩ | ⟨_,h⟩
  ·rw [h]at dK;exact absurd dK Rat.lt_irrefl
  ·exact h
 refine PH (fT A) Sg (A.oZ (.inr ⟨rfl,dK⟩)) lA fun s t h1 h2 h3 h4=>?_
 have iX:=(fT A).lt h3 h4
 have c0:=S.P5 A.S Sg Sw (Rat.le_of_lt dK)
 have c1:=S.P5 A.S Sg Sw (Rat.le_of_lt iX)
 have o:=o7 A h3 h4 iX
 have m1:=Sw.cR h1
 have m2:=Sw.cR (Rat.le_of_lt iX)
 have m3:=Sw.cR h2
 have m4:=Sg.cR h1
 have m5:=Sg.cR (Rat.le_of_lt iX)
 have m6:=Sg.cR h2
 omega
theorem aAJ(dK:lo<hi)(hγ:γ lo=γ hi):T4 (jJ v lo hi) w:=by
 refine PH (fT A) Sw (A.oZ (.inr ⟨rfl,dK⟩)) lA fun s t h1 h2 h3 h4=>?_
 have iX:=(fT A).lt h3 h4
 have c1:=S.P5 A.S Sg Sw (Rat.le_of_lt iX)
 have o:=o7 A h3 h4 iX
 have m4:=Sg.cR h1
 have m5:=Sg.cR (Rat.le_of_lt iX)
 have m6:=Sg.cR h2
 omega
theorem aoZ{q:ZX}(dK:lo<hi)(hγ:γ lo=γ hi)(q0:q≠0)(hh:h=sq q)(hN:ZX.N (sq q)≤20)(Sq:tP (sq q) (vt (bK (sq q))))(hη:vt (bK (sq q)) lo=vt (bK (sq q)) hi):SgU (jJ v lo hi) q (b6 (e hi q)):=by
 obtain⟨nf,hf⟩:=mM q0
 have hw:uI w q:=uI.avE q0 (hh▸S.wh)
 have k:=XF nf Sq.cop Sq hN dK hη _ q (Nat.le_refl _) q0 (fun r hr=>by rw [hf r hr];exact Nat.le_refl _)
 obtain⟨B,hB,ha,hb⟩:=k8 lo hi
 obtain⟨ε,hε,hs⟩:=avp S.nw.ne q0 hw B
 obtain⟨s,t,h1,h2,h3⟩:=aAJ A S Sg Sw dK hγ (ε/2) (by grind)
 obtain⟨a,b,k1,k2,k3,k4,k5,k6,k7⟩:=(fT A).inter h1 h2 (A.oZ (.inr ⟨rfl,dK⟩)) (lA (v:=v) (lo:=lo) (hi:=hi))
 have hs3:b6 (e hi q)=1∨b6 (e hi q) = -1:=by
  have h4:=(k hi dK Rat.le_refl).1
  rcases cY (e hi q)with ⟨_,h⟩ | ⟨h,_⟩ | ⟨_,h⟩
  ·exact .inr h
  ·exact absurd h h4
  ·exact .inl h
 refine .inr ⟨hs3,ε,a,b,hε,k1,k2,fun x hx hy=>⟨(k x (by grind) (by grind)).2,?_⟩⟩
 refine(hs x (cI ha hb (by grind) (by grind))).resolve_left fun h4=>?_
 obtain⟨p1,p2⟩:=h3 x (by grind) (by grind)
 rcases h4 with h4 | h4<;>grind
end
theorem ak1{q:ZX}(q0:q≠0):uI (sq q) (bY (sq q)):=fun d h1 h2=>by
 have h3:=(fH (sq q) (bY (sq q))).least h1 h2
 rw [W4 q0]at h3
 have:=h3.nQ ZX.yA
 rwa [ZX.G3]at this
theorem HP{n k:Nat}(h:n<2^k):0≤bl (aS LL n)∧bl (aS LL n)≤k∧n<2^(bl (aS LL n)).toNat:=by
 have hV:=kP gF n
 have hL:=fI gF n
 have hc:=j3 gF n
 generalize aS LL n=l at *
 unfold bl
 by_cases h0:l = []
 ·subst h0
  simp [V]at hV
  rw [if_pos rfl]
  exact⟨by omega,by omega,by simp;omega⟩
 ·rw [if_neg h0]
  have hl:=List.length_pos_iff.2 h0
  obtain⟨j,hj⟩:∃j,l.length=j+1:=⟨l.length-1,by omega⟩
  rw [hj,show j+1-1=j by omega]
  have e:=bF (l:=l) (i:=j) (by omega)
  rw [List.take_of_length_le (by omega)]at e
  have ht:=hL.nth (i:=j) (by omega)
  have hVt:=oS (b:=(LL:Int)) (by decide) (hL.take j)
  have R8:V (LL:Int) l=V (LL:Int) (l.take j)+(LL:Int)^j*nth l j:=by
   conv=>lhs;rw [e]
   rw [eB,show(l.take j).length=j by rw [List.length_take];omega]
   simp [V]
  have XT:=lO (b:=(LL:Int)) (by decide) hL hc h0
  rw [hj,show j+1-1=j by omega]at XT
  rw [show(l.take j).length=j by rw [List.length_take];omega]at hVt
  have eP:((LL:Int)^j)=((2^(32*j):Nat):Int):=by
   rw [Nat.pow_mul,Int.natCast_pow]
  rw [eP]at hVt R8 XT
  have hnl:=oB (n:=(nth l j).toNat) (k:=nb (nth l j).toNat)
  have hnk:=oB (n:=(nth l j).toNat) (k:=k-32*j)
  have hT:=hnl.1 (Nat.le_refl _)
  have e3:(32*(((j+1:Nat):Int)-1)+((nb (nth l j).toNat:Nat):Int)).toNat=32*j+nb (nth l j).toNat:=by omega
  have hP:=Nat.two_pow_pos (32*j)
  have hkj:32*j<k:=Nat.not_le.1 fun hh=>by
   have:=Nat.pow_le_pow_right (show 0<2 by decide) hh
   omega
  have e4:2^(32*j)*2^(k-32*j)=2^k:=by rw [←Nat.pow_add,show 32*j+(k-32*j)=k by omega]
  have hV0:0≤V (LL:Int) (l.take j):=bM (by decide) (hL.take j)
  refine⟨by omega,?_,?_⟩
  ·have:(nth l j).toNat<2^(k-32*j):=Nat.not_le.1 fun hh=>by
    have h2:=Nat.mul_le_mul_left (2^(32*j)) hh
    have h3:((2^(32*j):Nat):Int)*nth l j=((2^(32*j)*(nth l j).toNat:Nat):Int):=by rw [Int.natCast_mul];congr 1;omega
    omega
   have:=hnk.2 this
   omega
  ·rw [e3,Nat.pow_add]
   have h2:2^(32*j)*((nth l j).toNat+1)≤2^(32*j)*2^nb (nth l j).toNat:=Nat.mul_le_mul_left _ hT
   have h3:((2^(32*j):Nat):Int)*nth l j=((2^(32*j)*(nth l j).toNat:Nat):Int):=by rw [Int.natCast_mul];congr 1;omega
   rw [Nat.mul_add,Nat.mul_one]at h2
   omega
theorem sS{x:Int}{k:Nat}(h:x.natAbs<2^k)(hk:k≤1000000000):aE env.P 257 [us (aS LL x.natAbs)] (.int .i64 (bl (aS LL x.natAbs))):=by
 have h1:=M9 (aS LL x.natAbs) ⟨fI gF _,by
  have h2:x.natAbs<LL^k:=Nat.lt_of_lt_of_le h (Nat.pow_le_pow_left (by decide) k)
  have:=AR gF h2
  omega⟩
 rwa [j3 gF]at h1
def zs(f:ZX):Nat:=(LH f.l f.l.length).toNat
theorem xH{x:List Int}{k:Nat}(h:∀c∈x,c.natAbs<2^k):∀i,i≤x.length→0≤LH x i∧LH x i≤k ∧ ∀j,j<i→(nth x j).natAbs<2^(LH x i).toNat
 | 0,_=>⟨Int.le_refl _,by show(0:Int)≤k;omega,fun j hj=>absurd hj (Nat.not_lt_zero _)⟩
 | i+1,hi=>by
  obtain⟨h1,h2,h3⟩:=xH h i (by omega)
  obtain⟨g1,g2,g3⟩:=HP (h (nth x i) (bN (by omega)))
  rw [LH]
  have key:∀ {a:Nat} {y z:Int},y≤z→a<2^y.toNat→a<2^z.toNat:=fun hyz ha=>Nat.lt_of_lt_of_le ha (Nat.pow_le_pow_right (by decide) (by omega))
  split
  ·refine⟨g1,g2,fun j hj=>?_⟩
   rcases Nat.lt_or_ge j i with hh | hh
   ·exact key (by omega) (h3 j hh)
   ·rw [show j=i by omega];exact g3
  ·refine⟨h1,h2,fun j hj=>?_⟩
   rcases Nat.lt_or_ge j i with hh | hh
   ·exact h3 j hh
   ·rw [show j=i by omega];exact key (by omega) g3
section
variable {s n:Nat} {f:ZX} (b:BZ s n f)
include b
theorem BZ.lt:∀c∈f.l,c.natAbs<2^s:=fun c hc=>Nat.lt_of_lt_of_le (iZ (by decide) c) (Nat.pow_le_pow_right (by decide) (b.sz c hc))
theorem HQ:zs f≤s:=by
 have:=(xH b.lt _ (Nat.le_refl _)).2.1
 unfold zs;omega
theorem avG:∀c∈f.l,c.natAbs<2^zs f:=fun c hc=>by
 obtain⟨i,hi,rfl⟩:=List.getElem_of_mem hc
 rw [←bW hi]
 exact(xH b.lt _ (Nat.le_refl _)).2.2 i hi
theorem PK:BZ (zs f) n f:=⟨b.N,fun c hc=>dY (by decide) (avG b c hc)⟩
theorem PL(hs:s≤1000000000)(hn:n≤50):aE env.P 264 [Po f.l] (.int .i64 ((zs f:Nat):Int)):=by
 have h1:=xH b.lt _ (Nat.le_refl _)
 have:=aaF (x:=f.l) (by have:=b.N;show ZX.N f<_;omega) fun i hi=>by
  have h2:=b.lt _ (bN hi)
  obtain⟨g1,g2,_⟩:=HP h2
  exact⟨sS h2 hs,g1,by omega⟩
 rw [show((zs f:Nat):Int)=LH f.l f.l.length by unfold zs;omega]
 exact this
end
theorem HR{s k s' k' u:Nat}{f h:ZX}(bf:BZ s k f)(bh:BZ s' k' h)(hs:s≤1000000000)(AQ:s'≤1000000000)(hk:k≤50)(xL:k'≤50){an ad bn bd cn cd dn dd:Int}(h1:an.natAbs<2^u)(h2:bn.natAbs<2^u)(h3:cn.natAbs<2^u)(h4:dn.natAbs<2^u)(hu:u≤1000000000) :
  ∃N:Nat,aE env.P 252 [.ag (G9 f.l an ad bn bd), .ag (G9 h.l cn cd dn dd)] (.int .i64 N)∧64+4*(ZX.N f+ZX.N h)*(zs f+zs h+(ZX.N f+ZX.N h)+8)≤N∧N≤64+8*u+4*(ZX.N f+ZX.N h)*(zs f+zs h+(ZX.N f+ZX.N h)+8):=by
 obtain⟨a1,a2,_⟩:=HP h1
 obtain⟨b1,b2,_⟩:=HP h2
 obtain⟨c1,c2,_⟩:=HP h3
 obtain⟨d1,d2,_⟩:=HP h4
 have z1:=HQ bf
 have z2:=HQ bh
 have n1:=bf.N
 have n2:=bh.N
 have R:=T0 (ad:=ad) (bd:=bd) (cd:=cd) (dd:=dd) (show f.l.length≤50 by show ZX.N f≤_;omega) (show h.l.length≤50 by show ZX.N h≤_;omega) (sS h1 hu) (sS h2 hu) (sS h3 hu) (sS h4 hu) ⟨a1,by omega⟩ ⟨b1,by omega⟩ ⟨c1,by omega⟩ ⟨d1,by omega⟩ (PL bf hs hk) (PL bh AQ xL) ⟨by omega,by omega⟩ ⟨by omega,by omega⟩
 have e1:4*((f.l.length:Int)+h.l.length)*((zs f:Int)+zs h+((f.l.length:Int)+h.l.length)+8)=((4*(ZX.N f+ZX.N h)*(zs f+zs h+(ZX.N f+ZX.N h)+8):Nat):Int):=by
  show 4*((ZX.N f:Int)+(ZX.N h:Nat))*_=_
  simp only [Int.natCast_mul,Int.natCast_add]
  rfl
 rw [e1]at R
 generalize 4*(ZX.N f+ZX.N h)*(zs f+zs h+(ZX.N f+ZX.N h)+8)=M at *
 generalize bl (aS LL an.natAbs)=x1 at *
 generalize bl (aS LL bn.natAbs)=x2 at *
 generalize bl (aS LL cn.natAbs)=x3 at *
 generalize bl (aS LL dn.natAbs)=x4 at *
 refine⟨64+2*(x1+x2+x3+x4).toNat+M,?_,by omega,by omega⟩
 have e2:(((64+2*(x1+x2+x3+x4).toNat+M:Nat)):Int)=64+2*(x1+x2+x3+x4)+(M:Int):=by omega
 rw [e2]
 exact R
theorem vE(P:Nat→Prop):∀N,∃J,J≤N∧(∀j,j<J→¬P j)∧(J<N→P J)
 | 0=>⟨0,Nat.le_refl _,fun j h=>absurd h (Nat.not_lt_zero _),fun h=>absurd h (Nat.lt_irrefl _)⟩
 | N+1=>by
  obtain⟨J,h1,h2,h3⟩:=vE P N
  by_cases hJ:J<N
  ·exact⟨J,by omega,h2,fun _=>h3 hJ⟩
  ·have:J=N:=by omega
   subst this
   by_cases hP:P J
   ·exact⟨J,by omega,h2,fun _=>hP⟩
   ·exact⟨J+1,by omega,fun j hj=>by
     rcases Nat.lt_or_ge j J with h | h
     ·exact h2 j h
     ·rw [show j=J by omega];exact hP,fun h=>by omega⟩
theorem kA{x:List Int}{u:Nat}{p:Rat × Rat}(q1:SQ u p.1)(q2:SQ u p.2)(hu:u≤1000000000):aE env.P 193 [.ag (G9 x p.1.num p.1.den p.2.num p.2.den)] (.bool (decide (p.2≤p.1))):=by
 have z0:=cZ q1.nL q1.dL q2.nL q2.dL (by omega) (aY p.1) (aY p.2) ⟨q1.nL,q1.dL⟩ ⟨q2.nL,q2.dL⟩
 have hp:=vD (x:=x) z0
 have e:decide (0≤dI (p.1.num*(p.2.den:Int)) (p.2.num*(p.1.den:Int)))=decide (p.2≤p.1):=decide_eq_decide.2 (by
  have:=fO (p:=p.1) (q:=p.2)
  rw [←Rat.not_lt,←this]
  omega)
 rwa [e]at hp
theorem tJ{u:Nat}{t:Rat}(q:SQ u t)(hu:u≤1000000000):aE env.P 90 [RT t, .sl []] (RT t):=by
 obtain⟨l1,l2⟩:=q.LLt (show u<1099511627770 by omega)
 have:=w8 l1 l2
 rwa [aY]at this
theorem xI{s n u:Nat}{f:ZX}{p:Rat × Rat}(b:BZ s n f)(hs:s≤1000000000)(hn:n≤50)(q1:SQ u p.1)(q2:SQ u p.2)(hu:u≤1000000000):aE env.P 192 [GA f p] (GA f p):=by
 have N1:=eQ (x:=f.l) (b.pb (by omega) (by omega))
 rw [f.c]at N1
 exact aaD N1 (tJ q1 hu) (tJ q2 hu)
theorem aaG{x:List Int}{an ad bn bd:Int}(hq:aE env.P 64 [Po []] (Po []))(hN:aE env.P 192 [.ag (G9 x an ad bn bd)] (.ag (G9 x an ad bn bd))):aE env.P 246 [Po [], .ag (G9 x an ad bn bd)] (.int .i64 0):=by
 simp only [G9]at *
 refine cD [(0,Po []),(1, .ag (G9 x an ad bn bd))] Tryz.func246 ?_
 refine aA [0,3] ?_
 refine nU ?_
 refine cS hq ?_
 refine aC hN ?_
 (try (refine bA (of_decide_eq_true (by kernel_rfl)) ?_));(try simp (maxSteps:=4000000) (disch:=omega) [gw]);(repeat rw [if_pos (by kernel_rfl)]);(try simp (maxSteps:=4000000) (disch:=omega) [gw])
 (try (refine bA (of_decide_eq_true (by kernel_rfl)) ?_));(try simp (maxSteps:=4000000) (disch:=omega) [gw]);(repeat rw [if_pos (by kernel_rfl)]);(try simp (maxSteps:=4000000) (disch:=omega) [gw])
 refine bH [0,3] ?_
 refine aQ [0,3,14] ?_
 refine bJ ?_ ?_<;>intro h
 ·refine aA [4] ?_
  exact cC
 ·simp at h
structure AN(s n u:Nat)(f:ZX)(p:Rat × Rat):Prop where
 I:pU s n f
 hs:s≤100000
 A:tQ f (vt (bK f)) p.1 p.2
 q1:SQ u p.1
 q2:SQ u p.2
 hu:u≤30000000
 n8:ZX.N f≤8
 b1:p.1<p.2→Ab p.1 (2^(zs f+1))
 b2:p.1<p.2→Ab p.2 (2^(zs f+1))
structure SgC(s' k:Nat)(f q:ZX):Prop where
 bq:BZ s' k q
 hs:s'≤100000
 hk:k≤31
 q8:ZX.N q≤8
 hG:aE env.P 194 [.sl [[Po q.l],[Po f.l]]] (Po (gz q f).l)
 IG:2≤ZX.N (gz q f) → ∃sg ng,pU sg ng (gz q f)∧sg≤1000000
 hC:q≠0 → ∃sc nc,Ch sc nc (sq q)
 aAK:q≠0→aE env.P 69 [Po q.l] (.dU [CH (bK (sq q)), .int .i64 0])
theorem AN.stop{s n u s' k N:Nat}{f q g w:ZX}{p r:Rat × Rat}(a:AN s n u f p)(bq:BZ s' k q)(m8:ZX.N q≤8)(q0:q≠0)(S:o6 f (sq q) g w)(dK:p.1<p.2)(hγ:vt (bK g) p.1=vt (bK g) p.2)(A':tQ f (vt (bK f)) r.1 r.2)(k3:p.1≤r.1)(k4:r.2≤p.2)(k5:(r.2-r.1)*2^N≤p.2-p.1)
  (hN1:64+4*(ZX.N f+ZX.N q)*(zs f+zs q+(ZX.N f+ZX.N q)+8)≤N):r.1=r.2∨vt (bK (sq q)) r.1=vt (bK (sq q)) r.2:=by
 have I:=a.I
 have n8:=a.n8
 obtain⟨nq,_⟩:=mM q0
 have hNq:ZX.N (sq q)≤ZX.N q:=(xA q0).nQ q0
 have n1:=S.N
 have Sg:=PA S.ng.ne S.sg (by omega)
 have Sw:=PA S.nw.ne S.sw (by omega)
 refine Classical.byContradiction fun AM=>?_
 obtain⟨vP,hc2⟩:=not_or.1 AM
 have aaH:r.1<r.2:=by have:=A'.le;grind
 have a1:=cI (a.b1 dK) (a.b2 dK) (x:=r.1) k3 (by grind)
 have a2:=cI (a.b1 dK) (a.b2 dK) (x:=r.2) (by grind) k4
 have hvJ:vt (bK f) r.1=vt (bK f) r.2+1:=by
  rcases A'.k with ⟨h,_⟩ | ⟨_,h⟩
  ·exact absurd h vP
  ·exact h
 have m1:=Sg.cR k3
 have m2:=Sg.cR k4
 have m3:=Sg.cR (Rat.le_of_lt aaH)
 have cJ:=S.P5 A'.S Sg Sw (Rat.le_of_lt aaH)
 have fz:=PK I.ch.bz
 have qz:=(PK bq).nf
 have N2f:=ae3 I.nf a.A
 have q1':=ZX.aF.1 q0
 have aAL:∀x∈(sq q).l,x.natAbs≤2^(zs q+ZX.N q*9):=akY (l:=3) (jG q0) nq (D2 q0).2 (fun d hd=>Nat.le_of_lt (BZ.lt qz d hd)) (by rw [yE];exact Nat.le_refl _) (by omega)
 have VF:=ae4 (s:=zs f) (r:=zs q) N2f (show 1≤ZX.N q by omega) n8 m8
 have hw:=T5 S I.nf nq (ak1 q0) (s:=zs f) (r:=zs q+ZX.N q*9) (n:=ZX.N f) (m:=ZX.N q) (β:=zs f+1) (fun d hd=>Nat.le_of_lt (BZ.lt fz d hd)) aAL (Nat.le_refl _) hNq n8 m8 a1 a2 aaH ?_
 ·rcases hw with hw | hw
  ·omega
  ·exact hc2 hw
 ·have w0:p.2-p.1≤2^(zs f+2):=by
   obtain⟨x1,x2⟩:=a.b1 dK
   obtain⟨x3,x4⟩:=a.b2 dK
   rw [show zs f+2=zs f+1+1 by omega,Rat.pow_succ];grind
  have w1:=Rat.le_trans k5 w0
  have hP:=gN (zs f+2)
  have w2:(r.2-r.1)*2^se (zs f) (zs q+ZX.N q*9) (ZX.N f) (ZX.N q) (zs f+1)*2^(zs f+2)≤1*2^(zs f+2):=by
   rw [Rat.one_mul,Rat.mul_assoc,←qP]
   refine Rat.le_trans (Rat.mul_le_mul_of_nonneg_left (HJ ?_) (by grind)) w1
   omega
  exact Rat.le_of_mul_le_mul_right w2 hP
theorem AN.sg{s n u s' k:Nat}{f q:ZX}{p:Rat × Rat}(a:AN s n u f p)(c:SgC s' k f q):aE env.P 246 [Po q.l,GA f p] (.int .i64 (sgU (dF f p) q)):=by
 have I:=a.I
 have A:=a.A
 have hs:=a.hs
 have hu:=a.hu
 have hfn:=I.ch.hn
 have AQ:=c.hs
 have hk:=c.hk
 have n8:=a.n8
 have m8:=c.q8
 have N1:=xI I.ch.bz (by omega) (by omega) a.q1 a.q2 (by omega)
 have Nq:=eQ (x:=q.l) (c.bq.pb (by omega) (by omega))
 rw [q.c]at Nq
 by_cases q0:q=0
 ·subst q0
  rw [(show SgU (dF f p) 0 0 from .inl ⟨rfl,PG (fT A)⟩).eq (fT A)]
  exact aaG Nq N1
 have hl:0<q.l.length:=by have:=ZX.aF.1 q0;exact Nat.pos_of_ne_zero fun h=>by(have:ZX.N q=q.l.length:=rfl);omega
 have LA:q.l.length<1000000:=by show ZX.N q<_;omega
 by_cases hpt:p.1=p.2
 ·have hS:=sR q c.bq (by omega) (by omega) a.q1 (by omega)
  have hz:=cZ a.q1.nL a.q1.dL a.q1.nL a.q1.dL (by omega) (aY p.1) (aY p.1) ⟨a.q1.nL,a.q1.dL⟩ ⟨a.q1.nL,a.q1.dL⟩
  have e0:dI (p.1.num*(p.1.den:Int)) (p.1.num*(p.1.den:Int))=0:=lB.2 rfl
  rw [e0]at hz
  have Nf:=eQ (x:=f.l) (I.ch.bz.pb (by omega) (by omega))
  rw [f.c]at Nf
  have:=aeW (q:=q.l) (x:=f.l) LA (fun h=>by omega) Nq Nf (tJ a.q1 (by omega)) hz hS
  rw [(ae5 (qR hpt) q).eq (fT A)]
  rw [show GA f p = .ag (G9 f.l p.1.num p.1.den p.1.num p.1.den)by rw [show p=(p.1,p.1)from Prod.ext rfl hpt.symm];rfl]
  exact this
 have dK:p.1<p.2:=by have:=A.le;grind
 obtain⟨nq,hmu⟩:=mM q0
 have hNq:ZX.N (sq q)≤ZX.N q:=(xA q0).nQ q0
 have cq:=ak1 q0
 have Sq:=PA nq.ne cq (by omega)
 obtain⟨w,S⟩:=vC (h:=sq q) I.nf I.cop
 rw [avF I.nf I.sq q0]at S
 have n1:=S.N
 have Sg:=PA S.ng.ne S.sg (by omega)
 have Sw:=PA S.nw.ne S.sw (by omega)
 have mγ:=Sg.cR (Rat.le_of_lt dK)
 have mφ:=Sw.cR (Rat.le_of_lt dK)
 have hv:vt (bK f) p.1=vt (bK f) p.2+1:=by
  rcases A.k with ⟨h,_⟩ | ⟨_,h⟩
  ·exact absurd h hpt
  ·exact h
 have c0:=S.P5 A.S Sg Sw (Rat.le_of_lt dK)
 have P0:=kA (x:=f.l) a.q1 a.q2 (by omega)
 rw [decide_eq_false (Rat.not_le.2 dK)]at P0
 have hD:aE env.P 83 [Po (gz q f).l] (.int .i64 ((ZX.N (gz q f):Int)-1)):=kX (gz q f).l (by show ZX.N (gz q f)<_;omega)
 have avH:2≤ZX.N (gz q f)→aE env.P 195 [Po (gz q f).l,RT p.1,RT p.2] (.bool (decide (vt (bK (gz q f)) p.2<vt (bK (gz q f)) p.1))):=fun h2=>by
  obtain⟨sg,ng,IG,S7⟩:=c.IG h2
  exact XG IG S7 dK (by omega) a.q1 a.q2 (by omega)
 by_cases hz:vt (bK (gz q f)) p.2<vt (bK (gz q f)) p.1
 ·have h2:2≤ZX.N (gz q f):=Nat.not_lt.1 fun h2=>by
   obtain⟨d,hd,e⟩:=ZX.lJ (x:=gz q f) (by have:=ZX.aF.1 S.ng.ne;omega)
   rw [e]at hz Sg
   have:=Sg.const dK (σ:=b6 (d:Rat)) (.inr (by rw [AK])) (fun x _ _=>by rw [AK])
   omega
  have hH:=avH h2
  rw [decide_eq_true hz]at hH
  have:=T1 hl LA Nq N1 P0 c.hG hD (by omega) hH
  rw [(show SgU (dF f p) q 0 from .inl ⟨rfl,(aAI A S Sg Sw dK hz).dv (fT A) (fH q f).l⟩).eq (fT A)]
  exact this
 obtain⟨sc,nc,C⟩:=c.hC q0
 obtain⟨cb,cl⟩:=C.all
 obtain⟨D,hD1,GZ,g1,g2⟩:=PE a.q1 a.q2
 have key:=PF A g1 g2
 obtain⟨N,R,hN1,GX⟩:=HR (u:=u) (ad:=p.1.den) (bd:=p.2.den) (cn:=0) (cd:=0) (dn:=0) (dd:=0) I.ch.bz c.bq (by omega) (by omega) (by omega) (by omega) (Nat.lt_of_lt_of_le (iZ (b:=2) (by decide) p.1.num) (Nat.pow_le_pow_right (by decide) a.q1.n2)) (Nat.lt_of_lt_of_le (iZ (b:=2) (by decide) p.2.num) (Nat.pow_le_pow_right (by decide) a.q2.n2)) (Nat.two_pow_pos _) (Nat.two_pow_pos _) (by omega)
 have hzf:=HQ I.ch.bz
 have hzq:=HQ c.bq
 have hM:4*(ZX.N f+ZX.N q)*(zs f+zs q+(ZX.N f+ZX.N q)+8)≤4*16*(100000+100000+16+8):=Nat.mul_le_mul (by omega) (by omega)
 obtain⟨J,hJ,hj,iX⟩:=vE (fun j=>(nY f p j).1=(nY f p j).2∨vt (bK (sq q)) (nY f p j).1=vt (bK (sq q)) (nY f p j).2) N
 have uH:(nY f p J).1=(nY f p J).2∨vt (bK (sq q)) (nY f p J).1=vt (bK (sq q)) (nY f p J).2:=by
  by_cases hJN:J<N
  ·exact iX hJN
  have hJE:J=N:=by omega
  obtain⟨k1,k2,k3,k4,k5,_⟩:=key J
  exact a.stop c.bq m8 q0 S dK (by omega) k1 k3 k4 k5 (hJE▸hN1)
 have sqJ:∀j,j≤N→SQ (3*u+N+2) (nY f p j).1∧SQ (3*u+N+2) (nY f p j).2∧SQ (3*u+N+2) (((nY f p j).1+(nY f p j).2)/2):=fun j hj=>by
  obtain⟨_,_,_,_,_,k6,k7⟩:=key j
  exact⟨(k6.sq hD1 GZ).mono (by omega),(k7.sq hD1 GZ).mono (by omega),((k6.LB k7).sq hD1 GZ).mono (by omega)⟩
 have hV:3*u+N+2≤1000000000:=by omega
 have btw:∀j,j≤N→aE env.P 88 [CH (bK (sq q)),RT (nY f p j).1,RT (nY f p j).2] (.int .i64 ((vt (bK (sq q)) (nY f p j).1:Int)-vt (bK (sq q)) (nY f p j).2)):=fun j hj=>by
  obtain⟨s1,s2,_⟩:=sqJ j hj
  have:=aeF cb C.hn cl s1 s2 hV
  rwa [if_neg (Rat.not_lt.2 (key j).1.le)]at this
 obtain⟨sJ1,sJ2,_⟩:=sqJ J hJ
 have R1:=ae0 (gc:=zp) (C:=bK (sq q)) (an:=fun j=>(nY f p j).1.num) (ad:=fun j=>(nY f p j).1.den) (bn:=fun j=>(nY f p j).2.num) (bd:=fun j=>(nY f p j).2.den) (J:=J) (N:=N) (r:=b6 (e (nY f p J).2 q)) hl LA Nq N1 P0 c.hG hD (fun h0=>by
   have hH:=avH (by omega)
   rwa [decide_eq_false hz]at hH) (c.aAK q0) R (by omega) (fun j hj'=>by
   obtain⟨s1,s2,s3⟩:=sqJ j (by omega)
   have hno:=not_or.1 (hj j hj')
   have aAN:(nY f p j).1<(nY f p j).2:=by have:=(key j).1.le;grind
   have Pj:=kA (x:=f.l) s1 s2 hV
   rw [decide_eq_false (Rat.not_le.2 aAN)]at Pj
   refine⟨Pj,⟨_,btw j (by omega),?_⟩,EH I (by omega) (key j).1 s1 s2 s3 hV⟩
   have:=hno.2
   simp only [beq_eq_false_iff_ne,ne_eq]
   omega) hJ (fun hJN=>by
   have Pj:=kA (x:=f.l) sJ1 sJ2 hV
   by_cases hp:(nY f p J).2≤(nY f p J).1
   ·rw [decide_eq_true hp]at Pj;exact .inl Pj
   ·rw [decide_eq_false hp]at Pj
    refine .inr ⟨Pj,?_⟩
    have h3:=btw J hJ
    rw [uH.resolve_left (by grind),Int.sub_self]at h3
    exact h3) (sR q c.bq (by omega) (by omega) sJ2 hV)
 have hU:sgU (dF f p) q=b6 (e (nY f p J).2 q):=by
  obtain⟨k1,k2,k3,k4,_⟩:=key J
  have e1:dF f p=dF f (nY f p J):=funext fun t=>propext (k2 t).symm
  rw [e1]
  by_cases hp:(nY f p J).1=(nY f p J).2
  ·rw [←hp];exact(ae5 (qR hp) q).eq (fT k1)
  ·have aaH:(nY f p J).1<(nY f p J).2:=by have:=k1.le;grind
   have m1:=Sg.cR k3
   have m2:=Sg.cR k4
   have m3:=Sg.cR (Rat.le_of_lt aaH)
   exact(aoZ k1 S Sg Sw aaH (by omega) q0 rfl (by omega) Sq (uH.resolve_left hp)).eq (fT k1)
 rw [hU]
 exact R1
def Ex(f:ZX)(p:Rat × Rat):Prop:=e p.2 f=0→p.1=p.2
end Go.Proofs.YtiobceocpabjdaaGreat
