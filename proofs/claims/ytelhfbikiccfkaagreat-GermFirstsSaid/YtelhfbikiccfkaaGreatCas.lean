import Derived.Test.YtelhfbikiccfkaaGreatCaq
import Derived.Test.YtelhfbikiccfkaaGreatCar
set_option linter.unusedSimpArgs false
set_option linter.unusedVariables false
namespace Go.Proofs.YtelhfbikiccfkaaGreat
open Go Pm
open ZX hiding N W
theorem aiq{f:ZX}(nf:Nf f):gz f f=f:=by
 have h:rB f f f:=⟨dv.refl f,dv.refl f,⟨1,by decide,1,0,by show(1:ZX)*f=_;grind⟩⟩
 rw [OD h,nf.ZU]
namespace kR
variable {s n:Nat} {f:ZX} (I:kR s n f)
include I
theorem two:Two s n f f:=⟨I.nf,I.nf,I.LG,I.LG,I.szf,I.szf,I.ch.bz.N,I.ch.bz.N,I.ch.hn,I.lay.hs⟩
theorem air:aD env.P 208 [PI f.l,PI f.l] (PI (gz f f).l):=by
 have hC:=I.lay.hC
 have hn:=I.ch.hn
 have hq:s+n+1≤qb s n:=by
  unfold qb
  have:=I.qF
  have:1*(2*s+5)≤n*(2*s+5):=Nat.mul_le_mul_right _ I.qF
  have hh:=I.lay.hs
  have h2:n<2^s:=by omega
  have h3:n≤n*(2*s+5):=Nat.le_mul_of_pos_right _ (by omega)
  have h4:n*(2*s+5)=n*(2*s)+n*5:=Nat.mul_add _ _ _
  omega
 refine yH (C:=4500000000) I.ch.bz I.ch.bz ?_ hn (by decide) I.s1
 rw [I.nf.ZU]
 unfold yG
 rw [if_neg (by omega)]
 have h4:(4:Nat)^ZX.N f≤4^n:=Nat.pow_le_pow_right (by decide) I.ch.bz.N
 refine Nat.le_trans (Nat.mul_le_mul (show (s+n+1)*2≤qb s n+n+6 by unfold qb at *;have:=I.lay.hs;have h5:1*(2*s+5)≤n*(2*s+5):=Nat.mul_le_mul_right _ I.qF;have h3:n*5≤n*(2*s+5):=Nat.mul_le_mul_left _ (by omega);omega) h4) hC
theorem cmp(hs:s≤20000){u:Nat}{p q:Rat × Rat}(A:j7 f (vt (aT f)) p.1 p.2)(B:j7 f (vt (aT f)) q.1 q.2)(p1:SQ u p.1)(p2:SQ u p.2)(q1:SQ u q.1)(q2:SQ u q.2)(hu:u≤2200000):aD env.P 54 [QA f (aT f) p,QA f (aT f) q] (.int .i64 (cu (aY f p) (aY f q))):=
 PC I I I.two hs I.air (fun _=>⟨s,n,by rw [aiq I.nf];exact I⟩) A B p1 p2 q1 q2 hu
end kR
theorem aoa{s n:Nat}{a:ZX}(h:nX s n a)(h0:a≠0)(qF:1≤n)(hC:(qb (qb s n) n+n+6)*4^n≤4500000000)(hs:qb s n≤5000000):kR (qb s n) n (sq a):=by
 have h1:=(z8 h0).1
 refine⟨⟨h.sqb h0,h.hn,?_,hC⟩,qF,h1,K2 h1 fun d d1 d2=>?_,hs⟩
 ·exact Nat.le_trans h.hs (Nat.pow_le_pow_right (by decide) (by unfold qb;omega))
 ·have h3:=(eT (sq a) (bX (sq a))).least d1 d2
  rw [aed h0]at h3
  have:=h3.nW ZX.qA
  rwa [ZX.wS]at this
theorem T9{f:ZX}{c:List ZX}{l m:List (Rat × Rat)}(hl:l.length=m.length)(MZ:l.length<1000000)(hv:∀i,i<l.length→aD env.P 131 [GA f (nth l i)] (.bool true)∧aD env.P 21 [GA f (nth l i)] (QA f c (ex f (nth l i)))∧aD env.P 54 [QA f c (ex f (nth l i)),QA f c (nth m i)] (.int .i64 0)) :
  aD env.P 52 [aI (ga f) l,aI (qa f c) m] (.bool true):=by
 refine bY [(0,aI (ga f) l),(1,aI (qa f c) m)] Tryz.func52 ?_
 refine b9 [0,1] ?_
 have e1:((l.length:Int) != (m.length:Int))=false:=by rw [hl];simp
 refine W.sr ?_
 simp (disch:=omega) [gw,e1]
 refine bL [0,1,10] ?_
 refine bC ?_ ?_<;>intro h
 ·simp at h
 refine W.skip ?_
 refine aL [0,1,12,13] ?_
 refine W.block ?_
 refine W.bG (fun k σ=>∃(i:Nat) (rows:Pm.Rows) (clk:Nat),σ=⟨fa [(0,aI (ga f) l),(1,aI (qa f c) m),(12, .int .i64 l.length),(13, .int .i64 i)],rows,clk⟩∧i+k=l.length) l.length ?_ ?_
 ·exact⟨_, .refl,0,_,_,rfl,by omega⟩
 rintro k _ ⟨i,rows,clk,rfl,AM⟩
 refine b9 [0,1,12,13,14] ?_
 refine bC ?_ ?_<;>intro h
 ·have hi:i<l.length:=by simp at h;omega
  have EH:i<m.length:=by omega
  obtain⟨v1,v2,v3⟩:=hv i hi
  simp only [GA,QA,qa,ga,List.cons_append,List.nil_append]at v1 v2 v3
  refine kW ?_
  refine aA [0,1,5,12,13] ?_
  refine W.sd ?_
  simp (disch:=omega) [gw,hi,EH]
  refine aB v1 ?_
  simp (disch:=omega) [gw,hi,EH]
  refine aB v2 ?_
  simp (disch:=omega) [gw,hi,EH]
  refine aB v3 ?_
  simp (disch:=omega) [gw,hi,EH]
  refine bL [0,1,12,13,34] ?_
  refine bC ?_ ?_<;>intro h
  ·simp at h
  ·refine W.skip ?_
   refine W.cC (fun K hK=>?_);simp (disch:=omega) [gw]
   refine hK _ ⟨k-1,_,aC _ [0,1,12,13],by omega,i+1,_,_,rfl,by omega⟩
 ·refine eV ?_
  refine aA [4] ?_
  exact bV
theorem kR.right{s n:Nat}{f:ZX}(I:kR s n f)(hs:s≤20000)(hN:2≤ZX.N f){l m:List (Rat × Rat)}(hl:l.length=m.length){u:Nat}(hu:u≤2200000)(h1:∀p∈l,j7 f (vt (aT f)) p.1 p.2∧SQ u p.1∧SQ u p.2)(h2:∀p∈m,j7 f (vt (aT f)) p.1 p.2∧SQ u p.1∧SQ u p.2)
  (h3:∀i,i<l.length → ∀t,aY f (nth l i) t↔aY f (nth m i) t) (MZ:l.length<1000000):aD env.P 52 [aI (ga f) l,aI (qa f (aT f)) m] (.bool true):=by
 refine T9 hl MZ fun i hi=>?_
 obtain⟨a1,a2,a3⟩:=h1 _ (bP hi)
 obtain⟨b1,b2,b3⟩:=h2 _ (bP (show i<m.length by omega))
 obtain⟨c1,c2⟩:=qO a1
 have c3:SQ u (ex f (nth l i)).1∧SQ u (ex f (nth l i)).2:=by
  unfold ex;split
  ·exact⟨a3,a3⟩
  ·exact⟨a2,a3⟩
 refine⟨I.valid a1 hN a2 a3 (by omega),I.aey a2 a3 (by omega),?_⟩
 have:=I.cmp hs c1 b1 c3.1 c3.2 b2 b3 hu
 rwa [gY (fun t=>(c2 t).trans (h3 i hi t)) (fun _=>Iff.rfl),tK]at this
theorem UA{α β:Type}[Inhabited α][Inhabited β]{g:α→β}{l:List α}{i:Nat}(h:i<l.length):nth (l.map g) i=g (nth l i):=by
 rw [dD (by simpa using h),dD h,List.getElem_map]
theorem aaq{s n:Nat}{f:ZX}(I:kR s n f)(hN:ZX.N f≤1):lS s n f = []:=by
 have V:=I.ivs.len
 have h1:f=1:=I.nf.N1 hN
 have h2:=I.S.const I.W6 (σ:=1) (.inr (by rw [h1,WN];decide)) (fun x _ _=>by rw [h1,WN];decide)
 rw [h2,Nat.sub_self]at V
 exact List.eq_nil_of_length_eq_zero V
end Go.Proofs.YtelhfbikiccfkaaGreat
namespace Go.Proofs.YtelhfbikiccfkaaGreat
open Go Pm
open ZX hiding N W
abbrev G9(x:List Int)(an ad bn bd:Int):List PV:=[Po x, .bool (decide (an<0)),us (aN LL an.natAbs), .bool (decide (ad<0)),us (aN LL ad.natAbs), .bool (decide (bn<0)),us (aN LL bn.natAbs), .bool (decide (bd<0)),us (aN LL bd.natAbs)]
theorem PE{α:Type}{g:α→List PV}{l:List α}(hN:aD env.P 73 [aI g l] (.eB [.jF, .int .i64 2])):aD env.P 19 [aI g l] (.eB [.sl [], .int .i64 2]):=by
 refine bY [(0,aI g l)] Tryz.func19 ?_
 refine aA [0] ?_
 refine aJ [0,4,5] hN ?_
 refine aL [0,4,5,15] ?_
 refine bC ?_ ?_<;>intro h
 ·refine aA [2,3] ?_
  exact bV
 ·simp at h
def QC(sg:ZX→Int):Nat→ZX→Int
 | 0,_=>0
 | k+1,p=>if sg p=0 then QC sg k (bX p)else sg p
theorem pK{sg:ZX→Int}(h0:sg 0=0):∀k,QC sg k 0=0
 | 0=>rfl
 | k+1=>by
  have h1:bX 0=0:=rfl
  rw [QC,if_pos h0,h1,pK h0 k]
theorem aeD{sg:ZX→Int}(h0:sg 0=0):∀ {k j:Nat} {p:ZX},ZX.N p≤k→ZX.N p≤j→QC sg k p=QC sg j p
 | 0,j,p,h,_=>by
  have:p=0:=Classical.byContradiction fun h0=>by have:=ZX.aH.1 h0;omega
  rw [this,pK h0,pK h0]
 | k+1,0,p,_,h=>by
  have:p=0:=Classical.byContradiction fun h0=>by have:=ZX.aH.1 h0;omega
  rw [this,pK h0,pK h0]
 | k+1,j+1,p,h1,h2=>by
  rw [QC,QC]
  have:=oD p
  rw [aeD h0 (k:=k) (j:=j) (p:=bX p) (by omega) (by omega)]
theorem EA(g:FuncId)(hw:JA g=false)(cI:List PV)(hc:cI.all gI=true)(sg:ZX→Int)(h0:sg 0=0){s k:Nat}{p:ZX}(hp:BZ s k p)(hk:k≤31)(hs:s≤1000000)(hg:∀(q:ZX) (s':Nat),s'≤s+5*k→BZ s' k q→aD env.P g (Po q.l::cI) (.int .i64 (sg q))) :
  aD env.P 103 [Po p.l, .fn g cI] (.int .i64 (QC sg (ZX.N p) p)):=by
 have hN:=hp.N
 have N1:=fU (x:=p.l) (hp.pb (by omega) (by omega))
 rw [p.c]at N1
 obtain⟨r,hr⟩:∃r,r=QC sg (ZX.N p) p:=⟨_,rfl⟩
 rw [←hr]
 refine bY [(0,Po p.l),(1, .fn g cI)] Tryz.func103 ?_
 refine aA [0,1] ?_
 refine W.seq ?_
 refine aJ [0,1] N1 ?_
 refine W.block ?_
 refine W.bG (fun m σ=>∃(q:ZX) (s':Nat) (rows:Pm.Rows) (clk:Nat),σ=⟨fa [(0,Po q.l),(1, .fn g cI)],rows,clk⟩∧m=ZX.N q∧BZ s' k q∧s'+5*ZX.N q≤s+5*k∧QC sg (ZX.N q) q=r) (ZX.N p) ?_ ?_
 ·exact⟨_, .refl,p,s,_,_,rfl,rfl,hp,by omega,hr.symm⟩
 rintro m _ ⟨q,s',rows,clk,rfl,rfl,bq,hsq,hq⟩
 have hNq:=bq.N
 have hNl:ZX.N q=q.l.length:=rfl
 refine aL [0,1,10] ?_
 refine bC ?_ ?_<;>intro h
 ·have P7:q≠0:=ZX.aH.2 (by show 0<q.l.length;simp at h;omega)
  have hgq:=hg q s' (by omega) bq
  have hD:=qD bq (by omega) (by omega)
  have azD:ZX.N (bX q)<ZX.N q:=by have:=oD q;have:=ZX.aH.1 P7;omega
  have bd:=bq.bX hk
  obtain⟨j,hj⟩:∃j,ZX.N q=j+1:=⟨ZX.N q-1,by have:=ZX.aH.1 P7;omega⟩
  rw [hj,QC]at hq
  generalize hv:sg q=w at *
  refine kW ?_
  refine W.sr ?_
  simp only [JA]at hw
  simp (disch:=omega) [gw,hw,hc]
  refine bS [0,1,5] hgq ?_
  refine aA [0,1,5,17] ?_
  refine bC ?_ ?_<;>intro h
  ·have hw:w≠0:=by simpa using h
   rw [if_neg hw]at hq
   subst hq
   refine aA [4] ?_
   exact bV
  ·have hw:w=0:=by simpa using h
   rw [if_pos hw]at hq
   refine W.skip ?_
   refine W.cC (fun K hK=>?_)
   simp (disch:=omega) [gw]
   refine cB hD ?_
   refine hK _ ⟨ZX.N (bX q),_,aC _ [0,1],azD,bX q,s'+5,_,_,rfl,rfl,bd,by omega,?_⟩
   rw [←hq]
   exact aeD h0 (Nat.le_refl _) (by omega)
 ·have P7:q=0:=by
   refine Classical.byContradiction fun h0=>?_
   have h1:=ZX.aH.1 h0
   simp at h;rw [hNl,h]at h1;simp at h1
  subst P7
  rw [pK h0]at hq
  subst hq
  refine eV ?_
  refine aA [4] ?_
  exact bV
theorem XD(n d:Int):∀(k:Nat) (p:ZX),QC (fun q=>AQ q.l n d) k p=ah1 n d k p
 | 0,_=>rfl
 | k+1,p=>by rw [QC,ah1,XD n d k (bX p)]
theorem UB{s k u:Nat}{p:ZX}{n d:Int}{t:Rat}(hp:BZ s k p)(hk:k≤31)(hs:s≤1000000)(ht:dM n d=t)(hn:sz LL n≤u)(hd:sz LL d≤u)(hu1:1≤u)(qt:sz LL t.num≤u∧sz LL (t.den:Int)≤u)(hu:u≤1000000000):aD env.P 40 [Po p.l,T2 n d] (.int .i64 (aft t.num t.den p)):=by
 have OL:∀(q:ZX) (s':Nat),s'≤s+5*k→BZ s' k q→aD env.P 112 [Po q.l, .rd [.bool (decide (n<0)),us (aN LL n.natAbs), .bool (decide (d<0)),us (aN LL d.natAbs)]] (.int .i64 (AQ q.l t.num t.den)):=fun q s' AD bq=>by
  have hmul:k*(u+1)≤31*(u+1):=Nat.mul_le_mul_right _ hk
  have k6:=yN (LD bq) q.c hn hd hu1 (by omega) (by omega) (by omega) ht qt
  generalize AQ q.l t.num t.den=r at *
  refine bY [(0,Po q.l),(1, .rd [.bool (decide (n<0)),us (aN LL n.natAbs), .bool (decide (d<0)),us (aN LL d.natAbs)])] Tryz.func112 ?_
  refine aA [0,1] ?_
  refine aJ [3] k6 ?_
  exact bV
 have F1:=EA 112 rfl [.rd [.bool (decide (n<0)),us (aN LL n.natAbs), .bool (decide (d<0)),us (aN LL d.natAbs)]] rfl (fun q=>AQ q.l t.num t.den) rfl hp hk hs OL
 rw [XD]at F1
 replace F1:aD env.P 103 [Po p.l, .fn 112 [.rd [.bool (decide (n<0)),us (aN LL n.natAbs), .bool (decide (d<0)),us (aN LL d.natAbs)]]] (.int .i64 (aft t.num t.den p)):=F1
 generalize aft t.num t.den p=r at *
 refine bY [(0,Po p.l),(1,T2 n d)] Tryz.func40 ?_
 refine aA [0,3] ?_
 refine aJ [4] F1 ?_
 exact bV
theorem UC{α:Type}{g:α→List PV}{l:List α}{m:Nat}{f:ZX}{L:List (Rat × Rat)}(hO:aD env.P 108 [aI g l] (Po f.l))(hR:aD env.P 19 [Po f.l] (.eB [aI (ga f) L, .int .i64 0]))(hm:m=0):aD env.P 37 [aI g l] (aI (ga f) L):=by
 refine bY [(0,aI g l)] Tryz.func37 ?_
 refine aA [0] ?_
 refine iB ?_
 refine cB hO ?_
 refine bS [3,4] hR ?_
 refine aL [3,12] ?_
 refine bC ?_ ?_<;>intro h
 ·simp at h
 refine W.skip ?_
 refine aA [2] ?_
 exact bV
theorem aeE:aD env.P 108 [.sl []] (.sl []):=by
 have P1:=lM (a:=(0:ZX)) (h:=1) (n:=1) ⟨by decide,fun c hc=>by cases hc⟩ (by decide) (by decide)
 rw [iP]at P1
 replace P1:aD env.P 155 [.sl []] (.sl []):=P1
 refine bY [(0, .sl [])] Tryz.func108 ?_
 refine aA [0] ?_
 refine aJ [0] P1 ?_
 refine aL [0,10] ?_
 refine bC ?_ ?_<;>intro h
 ·refine aA [2] ?_
  exact bV
 ·simp at h
theorem UD:aD env.P 37 [.sl []] (.sl []):=by
 have hO:=aeE
 have hN:=PE (g:=ie) (l:=[]) aia
 replace hN:aD env.P 19 [.sl []] (.eB [.sl [], .int .i64 2]):=hN
 refine bY [(0, .sl [])] Tryz.func37 ?_
 refine aA [0] ?_
 refine iB ?_
 refine cB hO ?_
 refine bS [3,4] hN ?_
 refine aL [3,12] ?_
 refine bC ?_ ?_<;>intro h
 ·refine aA [2] ?_
  exact bV
 ·simp at h
theorem EB{x:List Int}{m:List Int}{f:ZX}{c:List ZX}{L:List (Rat × Rat)}(hx:x ≠ [])(hO:aD env.P 109 [PI x] (PI f.l))(hR:aD env.P 97 [PI f.l] (aI (qa f c) L)):aD env.P 38 [PI x] (aI (qa f c) L):=by
 refine bY [(0,PI x)] Tryz.func38 ?_
 refine aA [0] ?_
 refine aL [0,5] ?_
 refine bC ?_ ?_<;>intro h
 ·simp at h;exact absurd h hx
 refine W.skip ?_
 refine iB ?_
 refine cB hO ?_
 refine bS [2] hR ?_
 exact bV
theorem aob{a:ZX}(na:Nf a):tJ (oz a) (bX (oz a)):=fun d h1 h2=>by
 refine Classical.byContradiction fun h3=>?_
 have ho:=WD na
 have hd0:=h1.ne ho.ne
 obtain⟨p,hp,hpd⟩:=lL _ d (Nat.le_refl _) (by omega)
 have hmu:=adG na hp
 have hpo:dv p (oz a):=hpd.trans h1
 have h4:1≤mu p (oz a):=(kZ hp ho.ne).2 (by rw [show p^1=p by rw [pow_succ',eH];grind];exact hpo)
 have h5:mu p (oz a)=0+1:=by
  rw [hmu]at h4 ⊢
  omega
 obtain⟨h6,h7⟩:=yF hp ho.ne h5
 have h8:1≤mu p (bX (oz a)):=(kZ hp h6).2 (by rw [show p^1=p by rw [pow_succ',eH];grind];exact hpd.trans h2)
 omega
theorem EC{s n:Nat}{a:ZX}(h:nX s n a)(h0:a≠0)(qF:1≤n)(hC:(qb (qb s n) n+n+6)*4^n≤4500000000)(hs:qb s n≤5000000):kR (qb s n) n (oz (nf a)):=by
 have na:=gW h0
 have no:=WD na
 have hb:BZ (qb s n) n (oz (nf a)):=h.nfz.dv na no (BA na _ _)
 exact⟨⟨hb,h.hn,Nat.le_trans h.hs (Nat.pow_le_pow_right (by decide) (by unfold qb;omega)),hC⟩,qF,no,K2 no (aob na),hs⟩
theorem xF{s n:Nat}{a:ZX}(h:nX s n a)(h0:a≠0)(qF:1≤n)(hC:(qb (qb s n) n+n+6)*4^n≤4500000000)(hs:qb s n≤20000):aD env.P 37 [Po a.l] (aI (ga (oz (nf a))) (lS (qb s n) n (oz (nf a)))):=
 have I:=EC h h0 qF hC (by omega)
 UC (ahQ h h0) (T5 I.aio I) rfl
theorem aeF{a:ZX}(h0:a≠0)(h:∀p,oY p→mu p a=0):ZX.N a≤1:=by
 refine Classical.byContradiction fun h1=>?_
 obtain⟨p,hp,hd⟩:=lL _ a (Nat.le_refl _) (by omega)
 have h2:1≤mu p a:=(kZ hp h0).2 (by rw [show p^1=p by rw [pow_succ',eH];grind];exact hd)
 have:=h p hp
 omega
theorem aeG{a b:ZX}(na:Nf a)(nb:Nf b)(h:∀p,oY p→mu p a=mu p b):a=b:=by
 have h1:=(j2 na.ne nb.ne).2 fun p hp=>Nat.le_of_eq (h p hp)
 have h2:=(j2 nb.ne na.ne).2 fun p hp=>Nat.le_of_eq (h p hp).symm
 have:=sE h1 h2
 rwa [na.ZU,nb.ZU]at this
theorem aar{a:ZX}(h0:a≠0):ZX.N (oz (nf (a*a)))≤1:=by
 have h1:=ZX.jO h0 h0
 refine aeF (WD (gW h1)).ne fun p hp=>?_
 rw [adG (gW h1) hp,OC hp h1,oV hp h0 h0]
 omega
def xX:ZX:=ZX.of [0,1]
theorem PF:Nf xX:=⟨ZX.aH.2 (by decide),by decide,by decide⟩
theorem auz{p:ZX}(hp:oY p):mu p xX≤1:=by
 refine Nat.not_lt.1 fun h=>?_
 have h1:=(kZ hp PF.ne).1 (show 2≤mu p xX by omega)
 have h2:=h1.nW PF.ne
 have h3:=adw hp 2
 have h4:ZX.N xX=2:=by decide
 omega
theorem auA:xX*xX=ZX.of [0,0,1]:=ZX.ext fun t=>by
 rw [xX,ZX.dR,ZX.FF,ZX.FF];simp only [V];grind
theorem auB:xX*(xX*xX)=ZX.of [0,0,0,1]:=ZX.ext fun t=>by
 rw [xX,ZX.dR,ZX.dR,ZX.FF,ZX.FF];simp only [V];grind
theorem XE:oz (nf (ZX.of [0,0,0,1]))=xX:=by
 have h0:=PF.ne
 have h1:xX*(xX*xX)≠0:=ZX.jO h0 (ZX.jO h0 h0)
 rw [←auB]
 refine aeG (WD (gW h1)) PF fun p hp=>?_
 rw [adG (gW h1) hp,OC hp h1,oV hp h0 (ZX.jO h0 h0),oV hp h0 h0]
 have:=auz hp
 omega
theorem aeH:vr (WR (aT xX))=1∧vr (WS (aT xX))=0:=⟨by kernel_rfl,by kernel_rfl⟩
theorem z9:aD env.P 36 [] (.bool true):=by
 have o1:aD env.P 12 [.sl [[.int .i64 0],[.int .i64 0],[.int .i64 1]]] (Po [0,0,1]):=JI [0,0,1] (by decide) (by decide)
 have o2:aD env.P 12 [.sl [[.int .i64 0],[.int .i64 0],[.int .i64 0],[.int .i64 1]]] (Po [0,0,0,1]):=JI [0,0,0,1] (by decide) (by decide)
 have L1:nX 3 4 (ZX.of [0,0,1]):=⟨DV (by decide) (by decide),by decide,by decide,by decide⟩
 have L2:nX 3 4 (ZX.of [0,0,0,1]):=⟨DV (by decide) (by decide),by decide,by decide,by decide⟩
 have n1:ZX.of [0,0,1]≠0:=ZX.aH.2 (by decide)
 have n2:ZX.of [0,0,0,1]≠0:=ZX.aH.2 (by decide)
 have T1:=xF L1 n1 (by decide) (by decide) (by decide)
 have T2':=xF L2 n2 (by decide) (by decide) (by decide)
 have I1:=EC L1 n1 (by decide) (by decide) (by decide)
 have I2:=EC L2 n2 (by decide) (by decide) (by decide)
 have e1:lS (qb 3 4) 4 (oz (nf (ZX.of [0,0,1]))) = []:=aaq I1 (by rw [←auA];exact aar PF.ne)
 rw [e1]at T1
 have hlen:(lS (qb 3 4) 4 (oz (nf (ZX.of [0,0,0,1])))).length=1:=by
  have h1:=I2.ivs.len
  have h2:=I2.count
  rw [XE]at h1 h2
  obtain⟨f1,f2⟩:=aeH
  rw [f1,f2]at h2
  rw [XE]
  omega
 have A1:=UB (n:=0) (d:=0) (u:=5) L1.bz (by decide) (by decide) (t:=0) (by decide) (by decide) (by decide) (by decide) (by decide) (by decide)
 rw [show aft (0:Rat).num (0:Rat).den (ZX.of [0,0,1])=1 by kernel_rfl,←aib]at A1
 replace A1:aD env.P 40 [Po [0,0,1], .ag [.bool false, .sl [], .bool false, .sl []]] (.int .i64 1):=A1
 replace T1:aD env.P 37 [Po [0,0,1]] (aI (ga (oz (nf (ZX.of [0,0,1])))) []):=T1
 replace T2':aD env.P 37 [Po [0,0,0,1]] (aI (ga (oz (nf (ZX.of [0,0,0,1])))) (lS (qb 3 4) 4 (oz (nf (ZX.of [0,0,0,1]))))):=T2'
 generalize lS (qb 3 4) 4 (oz (nf (ZX.of [0,0,0,1])))=L at *
 generalize oz (nf (ZX.of [0,0,0,1]))=f2 at *
 generalize oz (nf (ZX.of [0,0,1]))=f1 at *
 have e2:((L.length:Int)==1)=true:=by rw [hlen];rfl
 refine bY [] Tryz.func36 ?_
 refine aA [] ?_
 refine iB ?_
 refine cB o1 ?_
 refine cB A1 ?_
 refine cB o1 ?_
 refine cB T1 ?_
 refine cB o2 ?_
 refine aB T2' ?_
 simp (disch:=omega) [gw,e2]
 refine bL [0] ?_
 exact bV
theorem aeI(q:Rat):bX (mH q)=K (q.den:Int):=ext fun t=>by
 rw [N7,vJ]
 refine S4 fun h=>⟨0,?_⟩
 rw [mH,FF,FF]
 simp only [V]
 grind
theorem XF{F:ZX}{v:Rat→Nat}(nF:Nf F)(cF:tJ F (bX F))(SF:sK F v)(hF:ZX.N F≤20){t hi:Rat}(h:t<hi)(hv:v t=v hi):∀(m:Nat) (p:ZX),ZX.N p≤m→p≠0→(∀q,oY q→min (mu q p) 1≤mu q F) → ∀s,t<s→s≤hi→e s p≠0∧b8 (e s p)=b8 (e hi p)
 | 0,p,hm,h0,_,_,_,_=>absurd hm (by have:=ZX.aH.1 h0;omega)
 | m+1,p,hm,h0,hmu,s,h1,h2=>by
  have hN:=ZX.aH.1 h0
  by_cases hN1:ZX.N p≤1
  ·obtain⟨c,hc,rfl⟩:=ZX.mA (x:=p) (by omega)
   rw [EK,EK]
   exact⟨fun h=>hc (Rat.intCast_eq_zero_iff.1 h),rfl⟩
  obtain⟨nf,hf⟩:=sI h0
  have hd:dv (sq p) F:=(j2 nf.ne nF.ne).2 fun q hq=>by rw [hf q hq];exact hmu q hq
  obtain⟨w,S⟩:=mI (h:=sq p) nF cF
  have hg:gz F (sq p)=sq p:=Nf.sF S.ng nf fun q hq=>by
   rw [(eT F (sq p)).mu nF.ne nf.ne hq]
   have:=(j2 nf.ne nF.ne).1 hd q hq
   omega
  rw [hg]at S
  have hSN:=S.N
  have Sw:=xQ S.nw.ne S.sw (by omega)
  have Sf:=xQ S.ng.ne S.sg (by omega)
  have c1:=S.EM SF Sf Sw (Rat.le_of_lt h)
  have m1:=Sf.cA (Rat.le_of_lt h)
  have m2:=Sw.cA (Rat.le_of_lt h)
  have m3:=Sf.cA (Rat.le_of_lt h1)
  have m4:=Sf.cA h2
  obtain⟨f1,f2⟩:=Sf.flat h1 (by omega)
  have f3:b8 (e hi (sq p))=b8 (e s (sq p)):=by
   rcases Rat.le_iff_lt_or_eq.1 h2 with h3 | h3
   ·exact(Sf.flat h3 (by omega)).2 f1
   ·rw [h3]
  obtain⟨c,hc,q,hq⟩:=KL h0
  have P7:q≠0:=fun h=>by
   rw [h]at hq
   exact ZX.jO (ZX.pH hc) h0 (by rw [hq];grind)
  have JO:=congrArg ZX.N hq
  rw [ZX.j1 (ZX.pH hc) h0,ZX.N_K hc,ZX.j1 P7 nf.ne]at JO
  have hfN:2≤ZX.N (sq p):=Nat.not_lt.1 fun h3=>by
   obtain⟨d,JK,Q6⟩:=lL _ p (Nat.le_refl _) (by omega)
   have h5:=hf d JK
   have h6:=(kZ JK h0 (k:=1)).2 (by rw [pow_succ',eH,show(1:ZX)*d=d by grind];exact Q6)
   rw [nf.N1 (by omega),S6 JK]at h5
   omega
  have hqm:∀r,oY r→min (mu r q) 1≤mu r F:=fun r hr=>by
   have h3:=hmu r hr
   have h4:=congrArg (mu r) hq
   rw [oV hr (ZX.pH hc) h0,oV hr P7 nf.ne,ZS hr hc]at h4
   omega
  obtain⟨q1,q2⟩:=XF nF cF SF hF h hv m q (by omega) P7 hqm s h1 h2
  have hcr:(c:Rat)≠0:=fun h=>hc (Rat.intCast_eq_zero_iff.1 h)
  have g:∀x,(c:Rat)*e x p=e x q*e x (sq p):=fun x=>by rw [←EK (t:=x) c,←qY,hq,qY]
  refine⟨fun h3=>?_,?_⟩
  ·have h4:=g s
   rw [h3,Rat.mul_zero]at h4
   rcases Rat.mul_eq_zero.1 h4.symm with h5 | h5
   ·exact q1 h5
   ·exact f1 h5
  ·rw [yQ hcr (g s),yQ hcr (g hi),q2,f3]
theorem sO(t:Rat):(mH t).l = [-t.num,(t.den:Int)]:=iA (x:=(t.den:Int)) (by have:=t.den_nz;omega) [-t.num]
theorem ais{x:List Int}{n d:Int}(hN:aD env.P 68 [Po x] (Po x))(hM:aD env.P 94 [T2 n d, .sl []] (T2 n d)):aD env.P 182 [.ag (G9 x n d n d)] (.ag (G9 x n d n d)):=by
 simp only [G9]
 refine bY [(0, .ag (G9 x n d n d))] Tryz.func182 ?_
 refine aA [1,2] ?_
 refine mP ?_
 refine cB hN ?_
 refine cB hM ?_
 refine aB hM ?_
 (try (refine a9 (of_decide_eq_true (by kernel_rfl)) ?_));(try simp (maxSteps:=4000000) (disch:=omega) [gw]);(repeat rw [if_pos (by kernel_rfl)]);(try simp (maxSteps:=4000000) (disch:=omega) [gw])
 refine bL [2] ?_
 exact bV
theorem aas{x:List Int}{n d:Int}(hc:aD env.P 90 [T2 n d,T2 n d] (.int .i64 0)):aD env.P 183 [.ag (G9 x n d n d)] (.bool true):=by
 simp only [G9]
 refine bY [(0, .ag (G9 x n d n d))] Tryz.func183 ?_
 refine aA [1] ?_
 refine aJ [2] hc ?_
 exact bV
theorem aeJ{q x:List Int}{n d r:Int}(hl:q.length<1000000)(hr:q.length=0→r=0)(hq:aD env.P 68 [Po q] (Po q))(hN:aD env.P 68 [Po x] (Po x))(hM:aD env.P 94 [T2 n d, .sl []] (T2 n d))(hc:aD env.P 90 [T2 n d,T2 n d] (.int .i64 0))(hs:aD env.P 91 [Po q,T2 n d] (.int .i64 r)) :
  aD env.P 105 [Po q, .ag (G9 x n d n d)] (.int .i64 r):=by
 have k1:=ais hN hM
 have k2:=aas (x:=x) hc
 simp only [G9]at k1 k2 ⊢
 refine bY [(0,Po q),(1, .ag (G9 x n d n d))] Tryz.func105 ?_
 refine aA [0,3] ?_
 refine mP ?_
 refine cB hq ?_
 refine aB k1 ?_
 (try (refine a9 (of_decide_eq_true (by kernel_rfl)) ?_));(try simp (maxSteps:=4000000) (disch:=omega) [gw]);(repeat rw [if_pos (by kernel_rfl)]);(try simp (maxSteps:=4000000) (disch:=omega) [gw])
 (try (refine a9 (of_decide_eq_true (by kernel_rfl)) ?_));(try simp (maxSteps:=4000000) (disch:=omega) [gw]);(repeat rw [if_pos (by kernel_rfl)]);(try simp (maxSteps:=4000000) (disch:=omega) [gw])
 refine bL [0,3] ?_
 refine W.seq ?_
 by_cases h0:q.length=0
 ·rw [hr h0]
  refine aA [0,3,14] ?_
  refine bC ?_ ?_<;>intro h
  ·refine aA [4] ?_
   exact bV
  ·simp at h;exact absurd (List.eq_nil_of_length_eq_zero h0) h
 ·refine aA [0,3,14] ?_
  refine bC ?_ ?_<;>intro h
  ·simp at h;rw [h]at h0;exact absurd rfl h0
  refine W.skip ?_
  refine W.seq ?_
  refine aJ [0,3,16] k2 ?_
  refine bC ?_ ?_<;>intro h
  ·refine aJ [4] hs ?_
   exact bV
  ·simp at h
theorem aat{x:List Int}{an ad bn bd:Int}(hN:aD env.P 68 [Po x] (Po x))(h1:aD env.P 94 [T2 an ad, .sl []] (T2 an ad))(h2:aD env.P 94 [T2 bn bd, .sl []] (T2 bn bd)):aD env.P 182 [.ag (G9 x an ad bn bd)] (.ag (G9 x an ad bn bd)):=by
 simp only [G9]
 refine bY [(0, .ag (G9 x an ad bn bd))] Tryz.func182 ?_
 refine aA [1,2] ?_
 refine mP ?_
 refine cB hN ?_
 refine cB h1 ?_
 refine aB h2 ?_
 (try (refine a9 (of_decide_eq_true (by kernel_rfl)) ?_));(try simp (maxSteps:=4000000) (disch:=omega) [gw]);(repeat rw [if_pos (by kernel_rfl)]);(try simp (maxSteps:=4000000) (disch:=omega) [gw])
 refine bL [2] ?_
 exact bV
theorem vE{x:List Int}{an ad bn bd z:Int}(hc:aD env.P 90 [T2 an ad,T2 bn bd] (.int .i64 z)):aD env.P 183 [.ag (G9 x an ad bn bd)] (.bool (decide (0≤z))):=by
 simp only [G9]
 refine bY [(0, .ag (G9 x an ad bn bd))] Tryz.func183 ?_
 refine aA [1] ?_
 refine aJ [2] hc ?_
 exact bV
theorem aeK{q q':List Int}{n d s s':Int}(h1:aD env.P 91 [Po q,T2 n d] (.int .i64 s))(h2:aD env.P 89 [Po q] (Po q'))(h3:aD env.P 91 [Po q',T2 n d] (.int .i64 s')):aD env.P 236 [Po q,T2 n d] (.int .i64 (if s=0 then s' else s)):=by
 refine bY [(0,Po q),(1,T2 n d)] Tryz.func236 ?_
 refine aA [0,3] ?_
 refine W.seq ?_
 refine aJ [0,3,5] h1 ?_
 by_cases h0:s=0
 ·rw [if_pos h0]
  refine aA [0,3,5,10] ?_
  refine bC ?_ ?_<;>intro h
  ·simp at h;exact absurd h0 h
  refine W.skip ?_
  refine mP ?_
  refine cB h2 ?_
  refine bS [4] h3 ?_
  exact bV
 ·rw [if_neg h0]
  refine aA [0,3,5,10] ?_
  refine bC ?_ ?_<;>intro h
  ·refine aA [4] ?_
   exact bV
  ·simp at h;exact absurd h h0
theorem aeL{q:List Int}{an ad bn bd s w:Int}(h1:aD env.P 91 [Po q,T2 bn bd] (.int .i64 s))(h2:aD env.P 236 [Po q,T2 an ad] (.int .i64 w)):aD env.P 185 [Po q,T2 an ad,T2 bn bd] (.bool (decide (s=0∨s≠w))):=by
 refine bY [(0,Po q),(1,T2 an ad),(2,T2 bn bd)] Tryz.func185 ?_
 refine aA [0,4,5] ?_
 refine aJ [0,4,7] h1 ?_
 by_cases h0:s=0
 ·subst h0
  refine aA [6] ?_
  exact bV
 ·have hb:(s==0)=false:=by simpa using h0
  refine W.sr ?_
  simp (disch:=omega) [gw,hb]
  refine aB h2 ?_
  simp (disch:=omega) [gw,hb]
  refine bL [6] ?_
  refine W.ret ?_
  simp [go,h0]
  by_cases hsw:s=w<;>simp [hsw]
theorem UE{x:List Int}{an ad bn bd tn td r:Int}(hp:aD env.P 183 [.ag (G9 x an ad bn bd)] (.bool true))(hc:aD env.P 90 [T2 an ad,T2 tn td] (.int .i64 r)):aD env.P 205 [.ag (G9 x an ad bn bd),T2 tn td] (.int .i64 r):=by
 simp only [G9]at *
 refine bY [(0, .ag (G9 x an ad bn bd)),(1,T2 tn td)] Tryz.func205 ?_
 refine b9 [2,3] ?_
 refine W.block ?_
 refine aJ [2,3,6] hp ?_
 refine bC ?_ ?_<;>intro h
 ·refine aJ [4] hc ?_
  exact bV
 ·simp at h
theorem sP{x:List Int}{an ad bn bd tn td z1 z2 s w r:Int}(hp:aD env.P 183 [.ag (G9 x an ad bn bd)] (.bool false))(h1:aD env.P 90 [T2 tn td,T2 an ad] (.int .i64 z1))(h2:aD env.P 90 [T2 tn td,T2 bn bd] (.int .i64 z2))(h3:aD env.P 91 [Po x,T2 tn td] (.int .i64 s))(h4:aD env.P 236 [Po x,T2 an ad] (.int .i64 w))
  (hr:r=if z1≤0 then 1 else if 0<z2 then -1 else if s=0 then 0 else if s=w then 1 else -1):aD env.P 205 [.ag (G9 x an ad bn bd),T2 tn td] (.int .i64 r):=by
 simp only [G9]at *
 refine bY [(0, .ag (G9 x an ad bn bd)),(1,T2 tn td)] Tryz.func205 ?_
 refine b9 [2,3] ?_
 refine W.block ?_
 refine aJ [2,3,6] hp ?_
 refine bC ?_ ?_<;>intro h
 ·simp at h
 refine aJ [2,3,13] h1 ?_
 refine bC ?_ ?_<;>intro h
 ·have h0:z1≤0:=by simpa using h
  rw [if_pos h0]at hr;subst hr
  refine aA [4] ?_
  exact bV
 have h0:¬z1≤0:=by simpa using h
 rw [if_neg h0]at hr
 refine aJ [2,3,19] h2 ?_
 refine bC ?_ ?_<;>intro h
 ·have h0:0<z2:=by simpa using h
  rw [if_pos h0]at hr;subst hr
  refine aA [4] ?_
  exact bV
 have h0:¬0<z2:=by simpa using h
 rw [if_neg h0]at hr
 refine W.skip ?_
 refine aJ [2,5] h3 ?_
 refine W.seq ?_
 refine W.block ?_
 refine aA [2,5,29] ?_
 refine bC ?_ ?_<;>intro h
 ·have h0:s=0:=by simpa using h
  rw [if_pos h0]at hr;subst hr
  refine aA [4] ?_
  exact bV
 have h0:¬s=0:=by simpa using h
 rw [if_neg h0]at hr
 refine aJ [32] h4 ?_
 refine bC ?_ ?_<;>intro h
 ·have h0:s=w:=by simpa using h
  rw [if_pos h0]at hr;subst hr
  refine aA [4] ?_
  exact bV
 ·have h0:¬s=w:=by simpa using h
  rw [if_neg h0]at hr;subst hr
  refine W.skip ?_
  refine aA [4] ?_
  exact bV
theorem aeM{x:List Int}{an ad bn bd:Int}(hp:aD env.P 183 [.ag (G9 x an ad bn bd)] (.bool true)):aD env.P 187 [.ag (G9 x an ad bn bd)] (.ag (G9 x an ad bn bd)):=by
 simp only [G9]at *
 refine bY [(0, .ag (G9 x an ad bn bd))] Tryz.func187 ?_
 refine aA [1,2] ?_
 refine W.seq ?_
 refine aJ [1,2,5] hp ?_
 refine bC ?_ ?_<;>intro h
 ·refine aA [2] ?_
  exact bV
 ·simp at h
theorem aau{x:List Int}{an ad bn bd mn md c:Int}(hp:aD env.P 183 [.ag (G9 x an ad bn bd)] (.bool false))(hm:aD env.P 95 [T2 an ad,T2 bn bd] (T2 mn md))(hc:aD env.P 205 [.ag (G9 x an ad bn bd),T2 mn md] (.int .i64 c)) :
  aD env.P 187 [.ag (G9 x an ad bn bd)] (.ag (if c=0 then G9 x mn md mn md else if c = -1 then G9 x an ad mn md else G9 x mn md bn bd)):=by
 simp only [G9]at *
 refine bY [(0, .ag (G9 x an ad bn bd))] Tryz.func187 ?_
 refine aA [1,2] ?_
 refine W.seq ?_
 refine aJ [1,2,5] hp ?_
 refine bC ?_ ?_<;>intro h
 ·simp at h
 refine W.skip ?_
 refine aJ [1,2,3] hm ?_
 refine W.gD (fun σ=>∃(v1 v2:Nat) (rows:Pm.Rows) (clk:Nat),σ=⟨fa [(1, .ptr 1 v1 0 0),(2, .ptr 2 v2 0 0)],rows,clk⟩∧rows 1=some ⟨v1,54,9,[if c=0 then G9 x mn md mn md else if c = -1 then G9 x an ad mn md else G9 x mn md bn bd]⟩∧rows 2=some ⟨v2,54,9,[[.nil, .bool false, .nil, .bool false, .nil, .bool false, .nil, .bool false, .nil]]⟩) ?_ ?_
 ·refine aJ [1,2,3,14] hc ?_
  refine W.block ?_
  refine aA [1,2,3,14,17] ?_
  refine bC ?_ ?_<;>intro h
  ·have h0:c=0:=by simpa using h
   rw [if_pos h0]
   refine W.P5 (fun K hK=>?_)
   simp (disch:=omega) [gw]
   (try (refine a9 (of_decide_eq_true (by kernel_rfl)) ?_));(try simp (maxSteps:=4000000) (disch:=omega) [gw]);(repeat rw [if_pos (by kernel_rfl)]);(try simp (maxSteps:=4000000) (disch:=omega) [gw])
   (try (refine a9 (of_decide_eq_true (by kernel_rfl)) ?_));(try simp (maxSteps:=4000000) (disch:=omega) [gw]);(repeat rw [if_pos (by kernel_rfl)]);(try simp (maxSteps:=4000000) (disch:=omega) [gw])
   (try (refine a9 (of_decide_eq_true (by kernel_rfl)) ?_));(try simp (maxSteps:=4000000) (disch:=omega) [gw]);(repeat rw [if_pos (by kernel_rfl)]);(try simp (maxSteps:=4000000) (disch:=omega) [gw])
   exact hK _ ⟨_,aC _ [1,2],_,_,_,_,rfl,by simp,by simp⟩
  have h0:¬c=0:=by simpa using h
  rw [if_neg h0]
  refine aA [1,2,3,23] ?_
  refine bC ?_ ?_<;>intro h
  ·have h0:c = -1:=by simpa using h
   rw [if_pos h0]
   refine W.cC (fun K hK=>?_);simp (disch:=omega) [gw]
   exact hK _ ⟨_,aC _ [1,2],_,_,_,_,rfl,by simp,by simp⟩
  ·have h0:¬c = -1:=by simpa using h
   rw [if_neg h0]
   refine W.cC (fun K hK=>?_);simp (disch:=omega) [gw]
   exact hK _ ⟨_,aC _ [1,2],_,_,_,_,rfl,by simp,by simp⟩
 rintro _ ⟨v1,v2,rows,clk,rfl,vX,bR⟩
 by_cases h0:c=0
 ·rw [if_pos h0]at vX ⊢
  refine W.sr ?_
  simp (disch:=omega) [gw,vX,bR]
  refine bL [2] ?_
  exact bV
 ·rw [if_neg h0]at vX ⊢
  by_cases h1:c = -1
  ·rw [if_pos h1]at vX ⊢
   refine W.sr ?_
   simp (disch:=omega) [gw,vX,bR]
   refine bL [2] ?_
   exact bV
  ·rw [if_neg h1]at vX ⊢
   refine W.sr ?_
   simp (disch:=omega) [gw,vX,bR]
   refine bL [2] ?_
   exact bV
def LH(x:List Int):Nat→Int
 | 0=>0
 | i+1=>if LH x i<bl (aN LL (nth x i).natAbs)then bl (aN LL (nth x i).natAbs)else LH x i
theorem aav{x:List Int}(hl:x.length<1000000)(hB:∀i,i<x.length→aD env.P 237 [us (aN LL (nth x i).natAbs)] (.int .i64 (bl (aN LL (nth x i).natAbs)))∧0≤bl (aN LL (nth x i).natAbs)∧bl (aN LL (nth x i).natAbs)<1000000000000):aD env.P 238 [Po x] (.int .i64 (LH x x.length)):=by
 refine bY [(0,Po x)] Tryz.func238 ?_
 refine aA [0] ?_
 refine aA [0,3] ?_
 refine aL [3,6,7,8] ?_
 refine W.block ?_
 refine W.bG (fun k σ=>∃(i:Nat) (rows:Pm.Rows) (clk:Nat),σ=⟨fa [(3, .int .i64 (LH x i)),(6,Po x),(7, .int .i64 x.length),(8, .int .i64 i)],rows,clk⟩∧(0≤LH x i∧LH x i<1000000000000)∧i+k=x.length) x.length ?_ ?_
 ·exact⟨_, .refl,0,_,_,rfl,⟨by show(0:Int)≤0;decide,by show(0:Int)<_;decide⟩,by omega⟩
 rintro k _ ⟨i,rows,clk,rfl,hb,AM⟩
 refine b9 [3,6,7,8,9] ?_
 refine bC ?_ ?_<;>intro h
 ·have hi:i<x.length:=by simp at h;omega
  obtain⟨h1,h0,h2⟩:=hB i hi
  refine kW ?_
  refine W.sr ?_
  simp (disch:=omega) [gw,hi]
  refine bL [3,5,6,7,8] ?_
  refine W.cC (fun K hK=>?_)
  simp (disch:=omega) [gw]
  refine cB h1 ?_
  rw [show(if LH x i<bl (aN LL (nth x i).natAbs)then bl (aN LL (nth x i).natAbs)else LH x i)=LH x (i+1)from rfl]
  have xV:0≤LH x (i+1)∧LH x (i+1)<1000000000000:=by rw [LH];split<;>omega
  refine W.lw [3,6,7,8] hK ?_;clear hK K;simp
  refine W.cC (fun K hK=>?_);simp (disch:=omega) [gw]
  refine hK _ ⟨k-1,_,aC _ [3,6,7,8],by omega,i+1,_,_,rfl,xV,by omega⟩
 ·have hi:i=x.length:=by simp at h;omega
  subst hi
  refine eV ?_
  refine aA [2] ?_
  exact bV
theorem UF{x y:List Int}{an ad bn bd cn cd dn dd b1 b2 b3 b4 zx zy:Int}(hx:x.length≤50)(hy:y.length≤50)(k1:aD env.P 237 [us (aN LL an.natAbs)] (.int .i64 b1))(k2:aD env.P 237 [us (aN LL bn.natAbs)] (.int .i64 b2))(k3:aD env.P 237 [us (aN LL cn.natAbs)] (.int .i64 b3))(k4:aD env.P 237 [us (aN LL dn.natAbs)] (.int .i64 b4))
  (l1:0≤b1∧b1<1000000000000) (l2:0≤b2∧b2<1000000000000) (l3:0≤b3∧b3<1000000000000) (l4:0≤b4∧b4<1000000000000) (sx:aD env.P 238 [Po x] (.int .i64 zx)) (sy:aD env.P 238 [Po y] (.int .i64 zy)) (m1:0≤zx∧zx<1000000000000) (m2:0≤zy∧zy<1000000000000) :
  aD env.P 186 [.ag (G9 x an ad bn bd), .ag (G9 y cn cd dn dd)] (.int .i64 (64+2*(b1+b2+b3+b4)+4*((x.length:Int)+y.length)*(zx+zy+((x.length:Int)+y.length)+8))):=by
 have p1:0≤4*((x.length:Int)+y.length)*(zx+zy+((x.length:Int)+y.length)+8):=Int.mul_nonneg (by omega) (by omega)
 have p2:4*((x.length:Int)+y.length)*(zx+zy+((x.length:Int)+y.length)+8)≤400*3000000000000:=Int.mul_le_mul (by omega) (by omega) (by omega) (by decide)
 simp only [G9]at *
 refine bY [(0, .ag (G9 x an ad bn bd)),(1, .ag (G9 y cn cd dn dd))] Tryz.func186 ?_
 refine aA [2,3] ?_
 refine aA [2,3,5] ?_
 refine mP ?_
 refine cB k1 ?_
 refine cB k2 ?_
 refine cB k3 ?_
 refine bS [2,3,5,6] k4 ?_
 refine mP ?_
 refine cB sx ?_
 refine bS [4] sy ?_
 exact bV
theorem UG{q x g:List Int}{an ad bn bd dg:Int}(hl:0<q.length)(MZ:q.length<1000000)(hq:aD env.P 68 [Po q] (Po q))(hN:aD env.P 182 [.ag (G9 x an ad bn bd)] (.ag (G9 x an ad bn bd)))(hp:aD env.P 183 [.ag (G9 x an ad bn bd)] (.bool false))(hG:aD env.P 184 [.sl [[Po q],[Po x]]] (Po g))(hD:aD env.P 87 [Po g] (.int .i64 dg))(h0:0<dg)
  (hh:aD env.P 185 [Po g,T2 an ad,T2 bn bd] (.bool true)):aD env.P 105 [Po q, .ag (G9 x an ad bn bd)] (.int .i64 0):=by
 have nT:q ≠ []:=fun h=>by rw [h]at hl;simp at hl
 simp only [G9]at *
 refine bY [(0,Po q),(1, .ag (G9 x an ad bn bd))] Tryz.func105 ?_
 refine aA [0,3] ?_
 refine mP ?_
 refine cB hq ?_
 refine aB hN ?_
 (try (refine a9 (of_decide_eq_true (by kernel_rfl)) ?_));(try simp (maxSteps:=4000000) (disch:=omega) [gw]);(repeat rw [if_pos (by kernel_rfl)]);(try simp (maxSteps:=4000000) (disch:=omega) [gw])
 (try (refine a9 (of_decide_eq_true (by kernel_rfl)) ?_));(try simp (maxSteps:=4000000) (disch:=omega) [gw]);(repeat rw [if_pos (by kernel_rfl)]);(try simp (maxSteps:=4000000) (disch:=omega) [gw])
 refine bL [0,3] ?_
 refine aL [0,3,14] ?_
 refine bC ?_ ?_<;>intro h
 ·simp at h;exact absurd h nT
 refine W.skip ?_
 refine W.seq ?_
 refine aJ [0,3,16] hp ?_
 refine bC ?_ ?_<;>intro h
 ·simp at h
 refine W.skip ?_
 refine W.seq ?_
 refine aJ [0,3,5] hG ?_
 refine iB ?_
 refine aB hD ?_
 simp (disch:=omega) [gw,h0]
 refine bS [0,3,36] hh ?_
 refine bC ?_ ?_<;>intro h
 ·refine aA [4] ?_
  exact bV
 ·simp at h
theorem aeN{α:Type}{gc:α→List PV}{q x g:List Int}{C:List α}{an ad bn bd:Nat→Int}{dg r:Int}{N J:Nat}(hl:0<q.length)(MZ:q.length<1000000)(hq:aD env.P 68 [Po q] (Po q))(hN:aD env.P 182 [.ag (G9 x (an 0) (ad 0) (bn 0) (bd 0))] (.ag (G9 x (an 0) (ad 0) (bn 0) (bd 0))))(hp:aD env.P 183 [.ag (G9 x (an 0) (ad 0) (bn 0) (bd 0))] (.bool false))(hG:aD env.P 184 [.sl [[Po q],[Po x]]] (Po g))
  (hD:aD env.P 87 [Po g] (.int .i64 dg)) (hh:0<dg→aD env.P 185 [Po g,T2 (an 0) (ad 0),T2 (bn 0) (bd 0)] (.bool false)) (hC:aD env.P 73 [Po q] (.eB [.rd [aI gc C], .int .i64 0])) (hs:aD env.P 186 [.ag (G9 x (an 0) (ad 0) (bn 0) (bd 0)), .ag (G9 q 0 0 0 0)] (.int .i64 N)) (JO:N<1000000000000000)
  (hb:∀j,j<J→aD env.P 183 [.ag (G9 x (an j) (ad j) (bn j) (bd j))] (.bool false)∧(∃z:Int,aD env.P 92 [.rd [aI gc C],T2 (an j) (ad j),T2 (bn j) (bd j)] (.int .i64 z)∧(z==0)=false)∧aD env.P 187 [.ag (G9 x (an j) (ad j) (bn j) (bd j))] (.ag (G9 x (an (j+1)) (ad (j+1)) (bn (j+1)) (bd (j+1)))))
  (hJ:J≤N) (jD:J<N→aD env.P 183 [.ag (G9 x (an J) (ad J) (bn J) (bd J))] (.bool true)∨aD env.P 183 [.ag (G9 x (an J) (ad J) (bn J) (bd J))] (.bool false)∧aD env.P 92 [.rd [aI gc C],T2 (an J) (ad J),T2 (bn J) (bd J)] (.int .i64 0)) (hr:aD env.P 91 [Po q,T2 (bn J) (bd J)] (.int .i64 r)) :
  aD env.P 105 [Po q, .ag (G9 x (an 0) (ad 0) (bn 0) (bd 0))] (.int .i64 r):=by
 have nT:q ≠ []:=fun h=>by rw [h]at hl;simp at hl
 replace hs:aD env.P 186 [.ag (G9 x (an 0) (ad 0) (bn 0) (bd 0)), .ag [Po q, .bool false, .sl [], .bool false, .sl [], .bool false, .sl [], .bool false, .sl []]] (.int .i64 N):=hs
 simp only [G9]at *
 refine bY [(0,Po q),(1, .ag (G9 x (an 0) (ad 0) (bn 0) (bd 0)))] Tryz.func105 ?_
 refine aA [0,3] ?_
 refine mP ?_
 refine cB hq ?_
 refine aB hN ?_
 (try (refine a9 (of_decide_eq_true (by kernel_rfl)) ?_));(try simp (maxSteps:=4000000) (disch:=omega) [gw]);(repeat rw [if_pos (by kernel_rfl)]);(try simp (maxSteps:=4000000) (disch:=omega) [gw])
 (try (refine a9 (of_decide_eq_true (by kernel_rfl)) ?_));(try simp (maxSteps:=4000000) (disch:=omega) [gw]);(repeat rw [if_pos (by kernel_rfl)]);(try simp (maxSteps:=4000000) (disch:=omega) [gw])
 refine bL [0,3] ?_
 refine aL [0,3,14] ?_
 refine bC ?_ ?_<;>intro h
 ·simp at h;exact absurd h nT
 refine W.skip ?_
 refine W.seq ?_
 refine aJ [0,3,16] hp ?_
 refine bC ?_ ?_<;>intro h
 ·simp at h
 refine W.skip ?_
 refine W.seq ?_
 refine aJ [0,3,5] hG ?_
 refine W.fG (fun σ=>∃(v3:Nat) (rows:Pm.Rows) (clk:Nat),σ=⟨fa [(0,Po q),(3, .ptr 3 v3 0 0),(36, .bool false)],rows,clk⟩∧rows 3=some ⟨v3,54,9,[G9 x (an 0) (ad 0) (bn 0) (bd 0)]⟩) (fun K hK=>?_) ?_
 ·by_cases h0:0<dg
  ·have hh':=hh h0
   simp (disch:=omega) [gw]
   refine aB hD ?_
   simp (disch:=omega) [gw,h0]
   refine cB hh' ?_
   refine hK _ _ (aC _ [0,3,36]) ⟨_,_,_,rfl,by simp⟩
  ·simp (disch:=omega) [gw]
   refine aB hD ?_
   simp (disch:=omega) [gw,h0]
   refine hK _ _ (aC _ [0,3,36]) ⟨_,_,_,rfl,by simp⟩
 rintro _ ⟨v3,rows,clk,rfl,cO⟩
 simp only [G9]at cO
 refine bC ?_ ?_<;>intro h
 ·simp at h
 refine W.skip ?_
 refine aJ [0,3,6] hC ?_
 refine W.gD (fun σ=>∃(v3:Nat) (rows:Pm.Rows) (clk:Nat),σ=⟨fa [(0,Po q),(3, .ptr 3 v3 0 0)],rows,clk⟩∧rows 3=some ⟨v3,54,9,[G9 x (an J) (ad J) (bn J) (bd J)]⟩) ?_ ?_
 ·refine W.sr ?_
  simp (disch:=omega) [gw,cO]
  refine bS [0,3,6,45,46] hs ?_
  refine W.block ?_
  refine W.bG (fun k σ=>∃(j v3:Nat) (rows:Pm.Rows) (clk:Nat),σ=⟨fa [(0,Po q),(3, .ptr 3 v3 0 0),(6, .rd [aI gc C]),(45, .int .i64 N),(46, .int .i64 j)],rows,clk⟩∧rows 3=some ⟨v3,54,9,[G9 x (an j) (ad j) (bn j) (bd j)]⟩∧j+k=J) J ?_ ?_
  ·exact⟨_, .refl,0,_,_,_,rfl,by simp [cO],by omega⟩
  rintro k _ ⟨j,v3,rows,clk,rfl,cO,hjk⟩
  simp only [G9]at cO
  refine b9 [0,3,6,45,46,47] ?_
  refine bC ?_ ?_<;>intro h
  ·have hjN:j<N:=by simp at h;omega
   refine kW ?_
   refine W.seq ?_
   by_cases hjJ:j<J
   ·obtain⟨g1,⟨z,g2,g3⟩,g4⟩:=hb j hjJ
    refine W.sr ?_
    simp (disch:=omega) [gw,cO]
    refine aB g1 ?_
    simp (disch:=omega) [gw,cO]
    refine aB g2 ?_
    simp (disch:=omega) [gw,g3]
    refine bL [0,3,6,45,46,58] ?_
    refine bC ?_ ?_<;>intro h
    ·simp at h
    refine W.skip ?_
    refine W.cC (fun K hK=>?_)
    simp (disch:=omega) [gw,cO]
    refine aB g4 ?_
    simp (disch:=omega) [gw,cO]
    refine W.lw [0,3,6,45,46] hK ?_;clear hK K;simp
    refine W.cC (fun K hK=>?_);simp (disch:=omega) [gw]
    refine hK _ ⟨k-1,_,aC _ [0,3,6,45,46],by omega,j+1,v3,_,_,rfl,by simp,by omega⟩
   ·have hjE:j=J:=by omega
    subst hjE
    rcases jD hjN with g1 | ⟨g1,g2⟩
    ·refine W.sr ?_
     simp (disch:=omega) [gw,cO]
     refine bS [0,3,6,45,46,58] g1 ?_
     refine bC ?_ ?_<;>intro h
     ·refine eV ?_
      exact⟨_,aC _ [0,3],_,_,_,rfl,cO⟩
     ·simp at h
    ·refine W.sr ?_
     simp (disch:=omega) [gw,cO]
     refine aB g1 ?_
     simp (disch:=omega) [gw,cO]
     refine bS [0,3,6,45,46,58] g2 ?_
     refine bC ?_ ?_<;>intro h
     ·refine eV ?_
      exact⟨_,aC _ [0,3],_,_,_,rfl,cO⟩
     ·simp at h
  ·have hjE:j=J:=by simp at h;omega
   subst hjE
   refine eV ?_
   exact⟨_,aC _ [0,3],_,_,_,rfl,cO⟩
 rintro _ ⟨v3,rows,clk,rfl,cO⟩
 simp only [G9]at cO
 refine W.sr ?_
 simp (disch:=omega) [gw,cO]
 refine bS [4] hr ?_
 exact bV
theorem ait{s k:Nat}{p:ZX}{x:List Int}{an ad bn bd:Int}(sg:ZX→Int)(h0:sg 0=0)(hp:BZ s k p)(hk:k≤31)(hs:s≤1000000)(OL:∀(q:ZX) (s':Nat),s'≤s+5*k→BZ s' k q→aD env.P 105 [Po q.l, .ag (G9 x an ad bn bd)] (.int .i64 (sg q))) :
  aD env.P 32 [Po p.l, .ag (G9 x an ad bn bd)] (.int .i64 (QC sg (ZX.N p) p)):=by
 have h1:∀(q:ZX) (s':Nat),s'≤s+5*k→BZ s' k q→aD env.P 104 [Po q.l, .rd (G9 x an ad bn bd)] (.int .i64 (sg q)):=fun q s' AD bq=>by
  have k6:=OL q s' AD bq
  simp only [G9]at k6 ⊢
  generalize sg q=r at *
  refine bY [(0,Po q.l),(1, .rd (G9 x an ad bn bd))] Tryz.func104 ?_
  refine aA [0,1] ?_
  refine aJ [3] k6 ?_
  exact bV
 have F1:=EA 104 rfl [.rd (G9 x an ad bn bd)] rfl sg h0 hp hk hs h1
 simp only [G9]at F1 ⊢
 generalize QC sg (ZX.N p) p=r at *
 refine bY [(0,Po p.l),(1, .ag (G9 x an ad bn bd))] Tryz.func32 ?_
 refine aA [0,3] ?_
 refine aJ [4] F1 ?_
 exact bV
theorem sR{u:Nat}(q:ZX){s' k:Nat}(bq:BZ s' k q)(hs:s'≤1000000000)(hk:k≤100){t:Rat}(qt:SQ u t)(hu:u≤1000000000):aD env.P 91 [Po q.l,RT t] (.int .i64 (b8 (e t q))):=by
 have hm:k*(u+1)≤100*(u+1):=Nat.mul_le_mul_right _ hk
 have k2:=yN (LD bq) q.c qt.nL qt.dL qt.hu (by omega) (by omega) (by omega) (bA t) ⟨qt.nL,qt.dL⟩
 rwa [BI]at k2
section
variable {s n u:Nat} {f:ZX} (I:kR s n f)
include I
theorem BK(hs:s≤1000000){t:Rat}(qt:SQ u t)(hu:u≤1000000000):aD env.P 236 [Po f.l,RT t] (.int .i64 (D0 f t)):=by
 have hn:=I.ch.hn
 have h1:=sR f I.ch.bz (by omega) (by omega) qt hu
 have h2:=qD I.ch.bz (by omega) (by omega)
 have h3:=sR (bX f) (I.ch.bz.bX (by omega)) (by omega) (by omega) qt hu
 have:=aeK (n:=t.num) (d:=t.den) h1 h2 h3
 have e1:(if b8 (e t f)=0 then b8 (e t (bX f))else b8 (e t f))=D0 f t:=by
  unfold D0
  by_cases h:e t f=0
  ·rw [if_pos h,if_pos (by rw [h,iK])]
  ·rw [if_neg h,if_neg (fun h0=>h (eX.1 h0))]
 rw [e1]at this
 exact this
theorem aeO(hs:s≤1000000){p:Rat × Rat}(A:j7 f (vt (aT f)) p.1 p.2){m:Rat}(h1:p.1<m)(h2:m≤p.2)(q1:SQ u p.1)(q2:SQ u p.2)(qm:SQ u m)(hu:u≤1000000000) :
  aD env.P 205 [GA f p,RT m] (.int .i64 (if e m f=0 then 0 else if vt (aT f) m<vt (aT f) p.1 then -1 else 1)):=by
 have dA:p.1<p.2:=by grind
 have z0:=cZ q1.nL q1.dL q2.nL q2.dL (by omega) (bA p.1) (bA p.2) ⟨q1.nL,q1.dL⟩ ⟨q2.nL,q2.dL⟩
 have z1:=cZ qm.nL qm.dL q1.nL q1.dL (by omega) (bA m) (bA p.1) ⟨qm.nL,qm.dL⟩ ⟨q1.nL,q1.dL⟩
 have z2:=cZ qm.nL qm.dL q2.nL q2.dL (by omega) (bA m) (bA p.2) ⟨qm.nL,qm.dL⟩ ⟨q2.nL,q2.dL⟩
 have hp:=vE (x:=f.l) z0
 have mJ:¬0≤dF (p.1.num*(p.2.den:Int)) (p.2.num*(p.1.den:Int)):=by have:=(gH (p:=p.1) (q:=p.2)).2 dA;omega
 rw [decide_eq_false mJ]at hp
 have OL:=sR f I.ch.bz (by omega) (by have:=I.ch.hn;omega) qm hu
 have hlw:=BK I hs q1 hu
 refine sP hp z1 z2 OL hlw ?_
 have g1:¬dF (m.num*(p.1.den:Int)) (p.1.num*(m.den:Int))≤0:=fun h=>absurd (jC.1 h) (Rat.not_le.2 h1)
 have g2:¬0<dF (m.num*(p.2.den:Int)) (p.2.num*(m.den:Int)):=fun h=>absurd (fI.1 h) (Rat.not_lt.2 h2)
 have K3:=I.S.par (Rat.le_of_lt h1)
 have hv:vt (aT f) p.1=vt (aT f) p.2+1:=by
  rcases A.k with ⟨h,_⟩ | ⟨_,h⟩
  ·rw [h]at dA;exact absurd dA Rat.lt_irrefl
  ·exact h
 have m1:=I.S.cA (Rat.le_of_lt h1)
 have m2:=I.S.cA h2
 rw [if_neg g1,if_neg g2]
 by_cases h0:e m f=0
 ·rw [if_pos h0,if_pos (by rw [h0,iK])]
 ·have h3:¬b8 (e m f)=0:=fun h=>h0 (eX.1 h)
  rw [if_neg h0,if_neg h3]
  have h4:D0 f m=b8 (e m f):=by unfold D0;rw [if_neg h0]
  rw [h4]at K3
  by_cases h5:vt (aT f) m<vt (aT f) p.1
  ·rw [if_pos h5,if_neg]
   intro h6
   rw [show vt (aT f) p.1-vt (aT f) m=1 by omega,show sg1 1 = -1 from rfl]at K3
   omega
  ·rw [if_neg h5,if_pos]
   rw [show vt (aT f) p.1-vt (aT f) m=0 by omega,show sg1 0=1 from rfl,Int.one_mul]at K3
   exact K3
end
def vK(f:ZX)(p:Rat × Rat):Rat × Rat:=if p.1<p.2 then(if e ((p.1+p.2)/2) f=0 then((p.1+p.2)/2,(p.1+p.2)/2)else if vt (aT f) ((p.1+p.2)/2)<vt (aT f) p.1 then(p.1,(p.1+p.2)/2)else((p.1+p.2)/2,p.2))else p
theorem ED{s n u:Nat}{f:ZX}(I:kR s n f)(hs:s≤1000000){p:Rat × Rat}(A:j7 f (vt (aT f)) p.1 p.2)(q1:SQ u p.1)(q2:SQ u p.2)(qm:SQ u ((p.1+p.2)/2))(hu:u≤1000000000):aD env.P 187 [GA f p] (GA f (vK f p)):=by
 have z0:=cZ q1.nL q1.dL q2.nL q2.dL (by omega) (bA p.1) (bA p.2) ⟨q1.nL,q1.dL⟩ ⟨q2.nL,q2.dL⟩
 have hp:=vE (x:=f.l) z0
 unfold vK
 by_cases dA:p.1<p.2
 ·rw [if_pos dA]
  have mJ:¬0≤dF (p.1.num*(p.2.den:Int)) (p.2.num*(p.1.den:Int)):=by have:=(gH (p:=p.1) (q:=p.2)).2 dA;omega
  rw [decide_eq_false mJ]at hp
  obtain⟨m1,m2⟩:=sL dA
  have hm:=OZ (q1.LLs (Nat.le_refl _)) (q2.LLs (Nat.le_refl _)) (by omega)
  have hc:=aeO I hs A m1 (Rat.le_of_lt m2) q1 q2 qm hu
  generalize (p.1+p.2)/2=m at *
  have k:=aau hp hm hc
  by_cases h0:e m f=0
  ·rw [if_pos h0,if_pos rfl]at k
   rw [if_pos h0];exact k
  ·rw [if_neg h0]at k
   rw [if_neg h0]
   by_cases h5:vt (aT f) m<vt (aT f) p.1
   ·rw [if_pos h5,if_neg (by decide),if_pos rfl]at k
    rw [if_pos h5];exact k
   ·rw [if_neg h5,if_neg (by decide),if_neg (by decide)]at k
    rw [if_neg h5];exact k
 ·rw [if_neg dA]
  have mJ:0≤dF (p.1.num*(p.2.den:Int)) (p.2.num*(p.1.den:Int)):=by
   have:=mt (gH (p:=p.1) (q:=p.2)).1 dA;omega
  rw [decide_eq_true mJ]at hp
  exact aeM hp
theorem kS{f:ZX}{p:Rat × Rat}(A:j7 f (vt (aT f)) p.1 p.2):j7 f (vt (aT f)) (vK f p).1 (vK f p).2∧(∀t,aY f (vK f p) t↔aY f p t)∧p.1≤(vK f p).1∧(vK f p).2≤p.2∧((vK f p).2-(vK f p).1)*2≤p.2-p.1:=by
 unfold vK
 by_cases dA:p.1<p.2
 ·rw [if_pos dA]
  obtain⟨m1,m2⟩:=sL dA
  obtain⟨d1,d2⟩:=A.half m1 m2
  have e2:(p.1+p.2)/2*2=p.1+p.2:=Rat.div_mul_cancel (by decide)
  have hr:=fun h0=>A.S.root m2 (t:=p.2) (s:=(p.1+p.2)/2) h0
  generalize (p.1+p.2)/2=m at *
  by_cases h0:e m f=0
  ·rw [if_pos h0]
   have h5:vt (aT f) m<vt (aT f) p.1:=by
    have hv:vt (aT f) p.1=vt (aT f) p.2+1:=by
     rcases A.k with ⟨h,_⟩ | ⟨_,h⟩
     ·rw [h]at dA;exact absurd dA Rat.lt_irrefl
     ·exact h
    refine Nat.not_le.1 fun h6=>?_
    have h7:=A.S.cA (Rat.le_of_lt m1)
    exact(A.S.flat m1 (by omega)).1 h0
   obtain⟨a1,a2⟩:=d1 h5
   obtain⟨b1,b2⟩:=a1.exact h0
   exact⟨b1,fun t=>(b2 t).trans (a2 t),Rat.le_of_lt m1,Rat.le_of_lt m2,by show(m-m)*2≤_;grind⟩
  ·rw [if_neg h0]
   by_cases h5:vt (aT f) m<vt (aT f) p.1
   ·rw [if_pos h5]
    obtain⟨a1,a2⟩:=d1 h5
    exact⟨a1,a2,Rat.le_refl,Rat.le_of_lt m2,by show(m-p.1)*2≤_;grind⟩
   ·rw [if_neg h5]
    obtain⟨a1,a2⟩:=d2 h5
    exact⟨a1,a2,Rat.le_of_lt m1,Rat.le_refl,by show(p.2-m)*2≤_;grind⟩
 ·rw [if_neg dA]
  have:=A.le
  exact⟨A,fun t=>Iff.rfl,Rat.le_refl,Rat.le_refl,by grind⟩
theorem XG{s n u:Nat}{g:ZX}(I:kR s n g)(hs:s≤1000000){lo hi:Rat}(h:lo<hi)(hv:vt (aT g) lo≤vt (aT g) hi+1)(q1:SQ u lo)(q2:SQ u hi)(hu:u≤1000000000):aD env.P 185 [Po g.l,RT lo,RT hi] (.bool (decide (vt (aT g) hi<vt (aT g) lo))):=by
 have h1:=sR g I.ch.bz (by omega) (by have:=I.ch.hn;omega) q2 hu
 have h2:=BK I hs q1 hu
 have k:=aeL (an:=lo.num) (ad:=lo.den) (bn:=hi.num) (bd:=hi.den) h1 h2
 have m1:=I.S.cA (Rat.le_of_lt h)
 have e1:decide (b8 (e hi g)=0∨b8 (e hi g)≠D0 g lo)=decide (vt (aT g) hi<vt (aT g) lo):=by
  refine decide_eq_decide.2 ?_
  by_cases h0:e hi g=0
  ·refine⟨fun _=>Nat.not_le.1 fun h5=>(I.S.flat h (by omega)).1 h0,fun _ => .inl (by rw [h0,iK])⟩
  ·have h3:b8 (e hi g)≠0:=fun h=>h0 (eX.1 h)
   have K3:=I.S.par (Rat.le_of_lt h)
   have h4:D0 g hi=b8 (e hi g):=by unfold D0;rw [if_neg h0]
   rw [h4]at K3
   by_cases h5:vt (aT g) hi<vt (aT g) lo
   ·rw [show vt (aT g) lo-vt (aT g) hi=1 by omega,show sg1 1 = -1 from rfl]at K3
    exact⟨fun _=>h5,fun _ => .inr fun h6=>by omega⟩
   ·rw [show vt (aT g) lo-vt (aT g) hi=0 by omega,show sg1 0=1 from rfl,Int.one_mul]at K3
    exact⟨fun h6=>(h6.elim (fun h7=>h3 h7) (fun h7=>h7 K3)).elim,fun h6=>absurd h6 h5⟩
 rw [e1]at k
 exact k
def nY(f:ZX)(p:Rat × Rat):Nat→Rat × Rat
 | 0=>p
 | j+1=>vK f (nY f p j)
theorem UH{f:ZX}{p:Rat × Rat}{D j:Nat}{B:Rat}(h1:Gr D B j p.1)(h2:Gr D B j p.2):Gr D B (j+1) (vK f p).1∧Gr D B (j+1) (vK f p).2:=by
 have hm:=h1.FD h2
 unfold vK
 split
 ·split
  ·exact⟨hm,hm⟩
  ·split
   ·exact⟨h1.mono (by omega),hm⟩
   ·exact⟨hm,h2.mono (by omega)⟩
 ·exact⟨h1.mono (by omega),h2.mono (by omega)⟩
theorem PG{f:ZX}{p:Rat × Rat}(A:j7 f (vt (aT f)) p.1 p.2){D:Nat}{B:Rat}(h1:Gr D B 0 p.1)(h2:Gr D B 0 p.2):∀j,j7 f (vt (aT f)) (nY f p j).1 (nY f p j).2∧(∀t,aY f (nY f p j) t↔aY f p t)∧p.1≤(nY f p j).1∧(nY f p j).2≤p.2∧((nY f p j).2-(nY f p j).1)*2^j≤p.2-p.1∧Gr D B j (nY f p j).1∧Gr D B j (nY f p j).2
 | 0=>⟨A,fun _=>Iff.rfl,Rat.le_refl,Rat.le_refl,by rw [Rat.pow_zero,Rat.mul_one];exact Rat.le_refl,h1,h2⟩
 | j+1=>by
  obtain⟨a1,a2,a3,a4,a5,a6,a7⟩:=PG A h1 h2 j
  obtain⟨b1,b2,b3,b4,b5⟩:=kS a1
  obtain⟨c1,c2⟩:=UH (f:=f) a6 a7
  refine⟨b1,fun t=>(b2 t).trans (a2 t),by show _≤(vK f (nY f p j)).1;grind,by show(vK f (nY f p j)).2≤_;grind,?_,c1,c2⟩
  show((vK f (nY f p j)).2-(vK f (nY f p j)).1)*2^(j+1)≤_
  have hP:=eK j
  have g3:=Rat.mul_le_mul_of_nonneg_right b5 (Rat.le_of_lt hP)
  rw [Rat.pow_succ]
  grind
structure Num(U:Rat→Prop):Prop where
 up:∀s t,U s→s≤t→U t
 lo:∃s,¬U s
 hi:∃t,U t
namespace Num
variable {U:Rat→Prop} (H:Num U)
include H
theorem lt{s t:Rat}(h1:¬U s)(h2:U t):s<t:=Rat.not_le.1 fun h=>h1 (H.up t s h2 h)
theorem inter{s t s' t':Rat}(h1:¬U s)(h2:U t)(h3:¬U s')(h4:U t'):∃a b,¬U a∧U b∧s≤a∧s'≤a∧b≤t∧b≤t'∧a<b:=by
 obtain⟨a,a1,a2,a3⟩:∃a,¬U a∧s≤a∧s'≤a:=by
  by_cases h:s≤s'
  ·exact⟨s',h3,h,Rat.le_refl⟩
  ·exact⟨s,h1,Rat.le_refl,by grind⟩
 obtain⟨b,b1,b2,b3⟩:∃b,U b∧b≤t∧b≤t':=by
  by_cases h:t≤t'
  ·exact⟨t,h2,Rat.le_refl,h⟩
  ·exact⟨t',h4,by grind,Rat.le_refl⟩
 exact⟨a,b,a1,b1,a2,a3,b2,b3,H.lt a1 b1⟩
end Num
def Up(U:Rat→Prop)(x:Rat):Prop:=∃s,s<x∧U s
def Sn(U:Rat→Prop)(q:ZX)(σ:Int):Prop:=∃ε s t:Rat,0<ε∧¬U s∧U t ∧ ∀x,s<x→x≤t→b8 (e x q)=σ∧kU ε (e x q)
def UI(U:Rat→Prop)(q:ZX):Prop:=∀ε:Rat,0<ε → ∃s t,¬U s∧U t ∧ ∀x,s≤x→x≤t→Ab (e x q) ε
def SgU(U:Rat→Prop)(q:ZX)(σ:Int):Prop:=(σ=0∧UI U q)∨((σ=1∨σ = -1)∧Sn U q σ)
theorem Sn.XH{U:Rat→Prop}(H:Num U){q:ZX}{σ:Int}(h:Sn U q σ):¬UI U q:=fun h2=>by
 obtain⟨ε,s,t,h0,h1,h2',h3⟩:=h
 obtain⟨s',t',h4,h5,h6⟩:=h2 (ε/2) (by grind)
 obtain⟨a,b,g1,g2,g3,g4,g5,g6,g7⟩:=H.inter h1 h2' h4 h5
 have k1:=(h3 b (by grind) g5).2
 obtain⟨k2,k3⟩:=h6 b (by grind) g6
 rcases k1 with k1 | k1<;>grind
theorem SgU.uniq{U:Rat→Prop}(H:Num U){q:ZX}{σ τ:Int}(h:SgU U q σ)(h':SgU U q τ):σ=τ:=by
 rcases h with ⟨rfl,h⟩ | ⟨h1,h⟩
 ·rcases h' with ⟨rfl,h'⟩ | ⟨_,h'⟩
  ·rfl
  ·exact absurd h (h'.XH H)
 ·rcases h' with ⟨_,h'⟩ | ⟨_,h'⟩
  ·exact absurd h' (h.XH H)
  ·obtain⟨ε,s,t,_,h2,h3,h4⟩:=h
   obtain⟨ε',s',t',_,h5,h6,h7⟩:=h'
   obtain⟨a,b,g1,g2,g3,g4,g5,g6,g7⟩:=H.inter h2 h3 h5 h6
   rw [←(h4 b (by grind) g5).1,←(h7 b (by grind) g6).1]
noncomputable def sgU(U:Rat→Prop)(q:ZX):Int:=open Classical in if h:∃σ,SgU U q σ then h.choose else 0
theorem SgU.eq{U:Rat→Prop}(H:Num U){q:ZX}{σ:Int}(h:SgU U q σ):sgU U q=σ:=by
 have h1:∃σ,SgU U q σ:=⟨σ,h⟩
 unfold sgU
 rw [dif_pos h1]
 exact h1.choose_spec.uniq H h
theorem PH{U:Rat→Prop}(H:Num U):UI U 0:=fun ε hε=>by
 obtain⟨s,hs⟩:=H.lo
 obtain⟨t,ht⟩:=H.hi
 refine⟨s,t,hs,ht,fun x _ _=>?_⟩
 have:e x 0=0:=rfl
 rw [this]
 exact⟨by grind,by grind⟩
theorem UI.mul{U:Rat→Prop}(H:Num U){g:ZX}(h:UI U g)(k:ZX):UI U (k*g):=fun ε hε=>by
 obtain⟨s0,hs⟩:=H.lo
 obtain⟨t0,ht⟩:=H.hi
 obtain⟨B,hB,ha,hb⟩:=lO s0 t0
 obtain⟨Q,hQ,hl⟩:=lip k B hB
 obtain⟨M,hM,hm,_⟩:=lO (e s0 k) 0
 have jD:=H.lt hs ht
 have hC:0<M+(t0-s0)*Q:=by
  have:=Rat.mul_pos (show 0<t0-s0 by grind) hQ;grind
 have hk:∀x,s0≤x→x≤t0→Ab (e x k) (M+(t0-s0)*Q):=fun x h1 h2=>by
  have h3:=hl s0 x ha (cH ha hb h1 h2) h1
  have h4:(x-s0)*Q≤(t0-s0)*Q:=Rat.mul_le_mul_of_nonneg_right (by grind) (Rat.le_of_lt hQ)
  obtain⟨p1,p2⟩:=h3
  obtain⟨p3,p4⟩:=hm
  exact⟨by grind,by grind⟩
 generalize M+(t0-s0)*Q=C at *
 have e1:ε/C*C=ε:=Rat.div_mul_cancel (Rat.ne_of_gt hC)
 obtain⟨s,t,g1,g2,g3⟩:=h (ε/C) ((Rat.lt_div_iff hC).2 (by grind))
 obtain⟨a,b,k1,k2,k3,k4,k5,k6,k7⟩:=H.inter hs ht g1 g2
 refine⟨a,b,k1,k2,fun x h1 h2=>?_⟩
 have h3:=(hk x (by grind) (by grind)).mul (g3 x (by grind) (by grind))
 rw [qY]
 refine h3.mono ?_
 grind
theorem UI.FG{U:Rat→Prop}{c:Int}(hc:c≠0){q:ZX}(h:UI U (K c*q)):UI U q:=fun ε hε=>by
 obtain⟨s,t,h1,h2,h3⟩:=h ε hε
 refine⟨s,t,h1,h2,fun x h4 h5=>?_⟩
 have h6:=h3 x h4 h5
 rw [qY,EK]at h6
 have h7:=BC hc
 obtain⟨p1,p2⟩:=h6
 generalize (c:Rat)=C at *
 generalize e x q=y at *
 have key:∀C y:Rat,1≤C→C*y≤ε → -ε≤C*y→Ab y ε:=fun C y h1 h2 h3=>by
  refine⟨Rat.not_lt.1 fun h=>?_,Rat.not_lt.1 fun h=>?_⟩
  ·have:=Rat.mul_le_mul_of_nonneg_right h1 (show 0 ≤ -y by grind);grind
  ·have:=Rat.mul_le_mul_of_nonneg_right h1 (show 0≤y by grind);grind
 rcases h7 with h7 | h7
 ·have:=key (-C) (-y) (by grind) (by grind) (by grind)
  obtain⟨q1,q2⟩:=this
  exact⟨by grind,by grind⟩
 ·exact key C y h7 p2 p1
theorem UI.dv{U:Rat→Prop}(H:Num U){g q:ZX}(h:UI U g)(hd:dv g q):UI U q:=by
 obtain⟨c,hc,k,hk⟩:=hd
 have h1:=h.mul H k
 rw [←hk]at h1
 exact h1.FG hc
theorem PK{U:Rat→Prop}(H:Num U){w:ZX}{φ:Rat→Nat}(S:sK w φ){s0 t0:Rat}(h1:¬U s0)(h2:U t0)(ht:∀s t,s0≤s→t≤t0→¬U s→U t→φ s≠φ t):UI U w:=fun ε hε=>by
 obtain⟨B,hB,ha,hb⟩:=lO s0 t0
 obtain⟨Q,hQ,hl⟩:=lip w B hB
 have e1:ε/Q*Q=ε:=Rat.div_mul_cancel (Rat.ne_of_gt hQ)
 have e2:0<ε/Q:=(Rat.lt_div_iff hQ).2 (by grind)
 obtain⟨s,t,g1,g2,g3,g4,g5,g6⟩:=K1 (U:=U) e2 (H.lt h1 h2) h1 h2
 refine⟨s,t,g5,g6,fun x hx hy=>?_⟩
 have h3:=S.small g2 (ht s t g1 g3 g5 g6) hQ (fun a b q1 q2 q3=>hl a b (cH ha hb (by grind) (by grind)) (cH ha hb (by grind) (by grind)) q2) hx hy
 refine h3.mono ?_
 have h4:=Rat.mul_le_mul_of_nonneg_right g4 (Rat.le_of_lt hQ)
 grind
theorem Up.min{U:Rat→Prop}{s t:Rat}(hs:Up U s)(ht:Up U t):∃x,Up U x∧x≤s∧x≤t:=by
 by_cases h:s≤t
 ·exact⟨s,hs,Rat.le_refl,h⟩
 ·exact⟨t,ht,by grind,Rat.le_refl⟩
end Go.Proofs.YtelhfbikiccfkaaGreat
namespace Go.Proofs.YtelhfbikiccfkaaGreat
open Go Pm
open ZX hiding N W
theorem aeQ{a b:ZX}(na:Nf a)(nb:Nf b)(hd:dv b a){h n l:Nat}(hH:∀d∈a.l,d.natAbs≤2^h)(hN:ZX.N a≤n)(hn:n≤2^l):∀c∈b.l,c.natAbs≤2^(h+n*(2*l+3)):=by
 obtain⟨w,_,e⟩:=na.quo nb hd
 exact adz na.ne e hH hN hn
theorem K4{z n:Nat}{f:ZX}(nf:Nf f)(bz:BZ z n f):Ab (iU f.l) (2^(z+1)):=by
 have f0:=sC nf.ne
 have h1:=yP f.c f0
 have hl:=cX f.c (List.length_pos_iff.2 f0)
 have hL:(1:Rat)≤(((lead f.l).natAbs:Int):Rat):=eY (by omega)
 have h2:=Rat.div_mul_cancel (a:=((lR f.l (f.l.length-1):Int):Rat)) (b:=(((lead f.l).natAbs:Int):Rat)) (by grind)
 have h3:(1:Rat)≤iU f.l:=(qN f.c f0 (t:=iU f.l) (.inr Rat.le_refl)).2
 have h4:((lR f.l (f.l.length-1):Int):Rat)≤2^z:=by
  have h5:=iH (b:=2) (by decide) (lR f.l (f.l.length-1))
  have h6:=Nat.pow_le_pow_right (show 0<2 by decide) (vA bz (f.l.length-1))
  exact(HL (s:=z) (by omega)).2
 have h7:=qK z
 rw [Rat.pow_succ]
 generalize (2:Rat)^z=T at *
 generalize ((lR f.l (f.l.length-1):Int):Rat)=m at *
 have hw:m/(((lead f.l).natAbs:Int):Rat)≤T:=by
  refine Rat.not_lt.1 fun h=>?_
  have h8:=Rat.mul_le_mul_of_nonneg_left hL (show 0≤m/(((lead f.l).natAbs:Int):Rat)by grind)
  grind
 exact⟨by grind,by grind⟩
section
variable {f:ZX} {v:Rat→Nat} {lo hi:Rat} (nf:Nf f) (A:j7 f v lo hi)
include nf A
theorem K5{t:Rat}:(gG v lo hi t → -iU f.l<t)∧(¬gG v lo hi t→t<iU f.l):=by
 have f0:=sC nf.ne
 have akE:∀ {a b:Rat},a<b→b ≤ -iU f.l→v a=v b:=fun gJ hb=>A.S.bg ⟨1,by decide,fun x _ h2=>(qN f.c f0 (.inl (by grind))).1⟩ gJ
 have akF:∀ {a b:Rat},a<b→iU f.l≤a→v a=v b:=fun gJ hb=>A.S.bg ⟨1,by decide,fun x h1 _=>(qN f.c f0 (.inr (by grind))).1⟩ gJ
 have pt:e lo f=0→¬kU (iU f.l) lo:=fun h0 hb=>by
  have h1:=(qN f.c f0 hb).1
  rw [show qv lo f.l=e lo f from rfl,h0]at h1
  rcases h1 with h1 | h1<;>exact absurd h1 (by decide)
 constructor
 ·refine fun h=>Rat.not_le.1 fun ht=>?_
  rcases A.k with ⟨h1,h2⟩ | ⟨h1,h2⟩
  ·refine pt h2 (.inl ?_)
   rcases h with h | ⟨h,h3⟩
   ·grind
   ·grind
  ·rcases h with h | ⟨h,h3⟩
   ·have:=akE h1 (by grind);omega
   ·have:=akE h ht;omega
 ·refine fun h=>Rat.not_le.1 fun ht=>?_
  have h0:t<hi:=Rat.not_le.1 fun h1=>h (.inl h1)
  rcases A.k with ⟨h1,h2⟩ | ⟨h1,h2⟩
  ·exact pt h2 (.inr (by grind))
  ·by_cases h3:t≤lo
   ·have:=akF h1 (by grind);omega
   ·have h4:v lo≤v t:=Nat.not_lt.1 fun h4=>h (.inr ⟨by grind,h4⟩)
    have:=akF h0 ht
    omega
theorem XI:2≤ZX.N f:=Nat.not_lt.1 fun h=>by
 have:=ZX.aH.1 nf.ne
 obtain⟨c,hc,rfl⟩:=ZX.mA (x:=f) (by omega)
 have SZ:(c:Rat)≠0:=fun h0=>hc (Rat.intCast_eq_zero_iff.1 h0)
 rcases A.k with ⟨_,h2⟩ | ⟨h1,h2⟩
 ·rw [EK]at h2;exact SZ h2
 ·have:=A.S.const h1 (σ:=b8 (c:Rat)) (.inr (by rw [EK])) (fun x _ _=>by rw [EK])
  omega
end
theorem fL{f:ZX}{v:Rat→Nat}{lo hi:Rat}(A:j7 f v lo hi):Num (gG v lo hi):=⟨fun _ _ h h'=>A.up h h',⟨lo-1,A.g9 (.inl (by grind))⟩,⟨hi,eU⟩⟩
def se(s r n m β:Nat):Nat:=6*(n+m)+(s+n*9)*m+r*n+(n+m)*(β+2)+2
theorem UJ{f h g w:ZX}(S:nS f h g w)(nf:Nf f)(nh:Nf h)(ch:tJ h (bX h)){s r n m β:Nat}(hA:∀c∈f.l,c.natAbs≤2^s)(hB:∀c∈h.l,c.natAbs≤2^r)(hn:ZX.N f≤n)(hm:ZX.N h≤m)(n8:n≤8)(m8:m≤8)
  {a b:Rat} (ha:Ab a (2^β)) (hb:Ab b (2^β)) (gJ:a<b) (hd:(b-a)*2^se s r n m β≤1):vt (aT w) a=vt (aT w) b∨vt (aT h) a=vt (aT h) b:=by
 have n1:=S.N
 have Sw:=xQ S.nw.ne S.sw (by omega)
 have Sh:=xQ nh.ne ch (by omega)
 refine W9 Sw Sh S.wh (s:=s+n*9) (r:=r) (l:=4) (β:=β) (aeQ nf S.nw (by rw [S.eq];exact(dv.refl w).mul_right _) hA hn (show n≤2^3 by omega)) hB (by omega) ha hb gJ (DZ hd ?_)
 unfold se sx
 have h1:(s+n*9)*ZX.N h≤(s+n*9)*m:=Nat.mul_le_mul_left _ hm
 have h2:r*ZX.N w≤r*n:=Nat.mul_le_mul_left _ (by omega)
 have h3:(ZX.N w+ZX.N h)*(β+2)≤(n+m)*(β+2):=Nat.mul_le_mul_right _ (by omega)
 omega
theorem aiu{f h:ZX}{p q:Rat × Rat}(nf:Nf f)(nh:Nf h)(cf:tJ f (bX f))(ch:tJ h (bX h))(A:j7 f (vt (aT f)) p.1 p.2)(B:j7 h (vt (aT h)) q.1 q.2){s r n m β K:Nat}(hA:∀c∈f.l,c.natAbs≤2^s)(hB:∀c∈h.l,c.natAbs≤2^r)(hn:ZX.N f≤n)(hm:ZX.N h≤m)(n8:n≤8)(m8:m≤8)
  (k1:se s r n m β≤K) (k2:se r s m n β≤K) (k3:lk s n 3 β≤K∨lk r m 3 β≤K) {S E:Rat} (hS:Ab S (2^β)) (hE:Ab E (2^β)) (a1:¬aY f p S) (a2:aY f p E) (b1:¬aY h q S) (b2:aY h q E) (hd:(E-S)*2^K≤1):∀x,aY f p x↔aY h q x:=by
 have AV:=(fL A).lt a1 a2
 obtain⟨w1,S1⟩:=mI (h:=h) nf cf
 obtain⟨w2,S2⟩:=mI (h:=f) nh ch
 rw [←qC]at S2
 have n1:=S1.N
 have n2:=S2.N
 have hg:=xQ S1.ng.ne S1.sg (by omega)
 have xN:=xQ S1.nw.ne S1.sw (by omega)
 have VL:=xQ S2.nw.ne S2.sw (by omega)
 have o1:=jQ A a1 a2 AV
 have o2:=jQ B b1 b2 AV
 have c1:=S1.EM A.S hg xN (Rat.le_of_lt AV)
 have c2:=S2.EM B.S hg VL (Rat.le_of_lt AV)
 have e1:=(UJ S1 nf nh ch hA hB hn hm n8 m8 hS hE AV (DZ hd k1)).resolve_right (by omega)
 have e2:=(UJ S2 nh nf cf hB hA hm hn m8 n8 hS hE AV (DZ hd k2)).resolve_right (by omega)
 have pV:∀ {x:ZX} {s n:Nat},sK x (vt (aT x))→(∀c∈x.l,c.natAbs≤2^s)→ZX.N x≤n→n≤8→lk s n 3 β≤K→vt (aT x) S≤vt (aT x) E+1:=fun {x s n} hx hA hN h8 hk=>by
  obtain⟨L,G,e⟩:=hx.g
  obtain⟨g1,_⟩:=tI G (s:=s) (n:=n) (l:=3) (β:=β) hx.ne hA hN (by omega) hx.LG (δ:=E-S) (DZ hd hk)
  have:=g1.turns S E hS hE AV Rat.le_refl
  rw [e]
  rcases KT x S E with h5 | h5<;>omega
 have m0:=hg.cA (Rat.le_of_lt AV)
 have hv:vt (aT f) S≤vt (aT f) E+1∧vt (aT h) S≤vt (aT h) E+1:=by
  rcases k3 with k3 | k3
  ·have:=pV A.S hA hn n8 k3;omega
  ·have:=pV B.S hB hm m8 k3;omega
 exact xD A B S1 S2 hg xN VL AV a1 a2 b1 b2 hv.1 hv.2 (by omega)
theorem HR{s r n m z:Nat}(n2:2≤n)(m2:2≤m)(n8:n≤8)(m8:m≤8)(hs:z≤s)(hr:z≤r):2*se s r n m (z+2)+2*(s+r)+9≤64+4*(n+m)*(s+r+(n+m)+8):=by
 have e1:4*(n+m)*(s+r+(n+m)+8)=4*(n*s)+4*(n*r)+4*(m*s)+4*(m*r)+4*(n*n)+8*(n*m)+4*(m*m)+32*n+32*m:=by grind
 have e2:se s r n m (z+2)=6*(n+m)+m*s+9*(n*m)+n*r+n*z+m*z+4*n+4*m+2:=by unfold se;grind
 have h1:n*z≤n*s:=Nat.mul_le_mul_left _ hs
 have h2:m*z≤m*r:=Nat.mul_le_mul_left _ hr
 have h3:n*m≤8*m:=Nat.mul_le_mul_right _ n8
 have h4:2*(n*m)≤n*n+m*m:=by
  rcases Nat.le_total n m with h | h
  ·obtain⟨d,rfl⟩:=Nat.exists_eq_add_of_le h;grind
  ·obtain⟨d,rfl⟩:=Nat.exists_eq_add_of_le h;grind
 have h5:2*s≤n*s:=Nat.mul_le_mul_right _ n2
 have h6:2*r≤m*r:=Nat.mul_le_mul_right _ m2
 omega
theorem lk3(s n:Nat):lk s n 3 (s+2)=5*(n*s)+30*n+s+6:=by unfold lk sk;grind
theorem HS{s r n m:Nat}(n2:2≤n)(m2:2≤m)(n8:n≤8)(hsr:s≤r)(hm:3≤m∨n≤2):2*lk s n 3 (s+2)+2*(s+r)+9≤64+4*(n+m)*(s+r+(n+m)+8):=by
 have e1:4*(n+m)*(s+r+(n+m)+8)=4*(n*s)+4*(n*r)+4*(m*s)+4*(m*r)+4*(n*n)+8*(n*m)+4*(m*m)+32*n+32*m:=by grind
 obtain⟨d,rfl⟩:=Nat.exists_eq_add_of_le hsr
 rw [e1,lk3,Nat.mul_add n,Nat.mul_add m]
 have h1:n*s≤8*s:=Nat.mul_le_mul_right _ n8
 have h5:2*s≤m*s:=Nat.mul_le_mul_right _ m2
 have h6:2*d≤m*d:=Nat.mul_le_mul_right _ m2
 have h7:2*n≤n*n:=Nat.mul_le_mul_right _ n2
 have h8:2*n≤n*m:=by rw [Nat.mul_comm n];exact Nat.mul_le_mul_right _ m2
 rcases hm with hm | hm
 ·have h9:3*s≤m*s:=Nat.mul_le_mul_right _ hm
  have h10:3*n≤n*m:=by rw [Nat.mul_comm n];exact Nat.mul_le_mul_right _ hm
  omega
 ·have h9:n*s≤2*s:=Nat.mul_le_mul_right _ hm
  omega
theorem HT{s r n m:Nat}(n2:2≤n)(n8:n≤8)(hsr:s≤r)(hm:m=2):2*lk r m 3 (s+2)+2*(s+r)+9≤64+4*(n+m)*(s+r+(n+m)+8):=by
 subst hm
 have e1:4*(n+2)*(s+r+(n+2)+8)=4*(n*s)+4*(n*r)+8*s+8*r+4*(n*n)+48*n+80:=by grind
 have e2:lk r 2 3 (s+2)=5*r+6*s+66:=by unfold lk sk;omega
 have h5:2*s≤n*s:=Nat.mul_le_mul_right _ n2
 have h6:2*r≤n*r:=Nat.mul_le_mul_right _ n2
 have h7:2*n≤n*n:=Nat.mul_le_mul_right _ n2
 omega
theorem aeR{s r n m:Nat}(n2:2≤n)(m1:1≤m)(n8:n≤8)(m8:m≤8):se s (r+m*9) n m (s+1)+s+2≤64+4*(n+m)*(s+r+(n+m)+8):=by
 have e1:4*(n+m)*(s+r+(n+m)+8)=4*(n*s)+4*(n*r)+4*(m*s)+4*(m*r)+4*(n*n)+8*(n*m)+4*(m*m)+32*n+32*m:=by grind
 have e2:se s (r+m*9) n m (s+1)=6*(n+m)+m*s+18*(n*m)+n*r+n*s+m*s+3*n+3*m+2:=by unfold se;grind
 have h3:n*m≤8*m:=Nat.mul_le_mul_right _ n8
 have h4:2*(n*m)≤n*n+m*m:=by
  rcases Nat.le_total n m with h | h
  ·obtain⟨d,rfl⟩:=Nat.exists_eq_add_of_le h;grind
  ·obtain⟨d,rfl⟩:=Nat.exists_eq_add_of_le h;grind
 have h5:2*s≤n*s:=Nat.mul_le_mul_right _ n2
 omega
theorem XJ(q:ZX)(x0:Rat){ε:Rat}(hε:0<ε):∃r:Rat,0<r ∧ ∀x,x0-r≤x→x≤x0+r→Ab (e x q-e x0 q) ε:=by
 obtain⟨B,hB,ha,hb⟩:=lO (x0-1) (x0+1)
 obtain⟨Q,hQ,hl⟩:=lip q B hB
 have e1:ε/Q*Q=ε:=Rat.div_mul_cancel (Rat.ne_of_gt hQ)
 obtain⟨r,hr,h1,h2⟩:=min2 (show (0:Rat)<1 by decide) ((Rat.lt_div_iff hQ).2 (show 0*Q<ε by grind))
 have hrQ:r*Q≤ε:=by have:=Rat.mul_le_mul_of_nonneg_right h2 (Rat.le_of_lt hQ);grind
 have oT:Ab x0 B:=cH ha hb (by grind) (by grind)
 refine⟨r,hr,fun x h3 h4=>?_⟩
 have hx:Ab x B:=cH ha hb (by grind) (by grind)
 by_cases h:x0≤x
 ·have h5:=hl x0 x oT hx h
  refine h5.mono ?_
  have:=Rat.mul_le_mul_of_nonneg_right (show x-x0≤r by grind) (Rat.le_of_lt hQ)
  grind
 ·have h5:=(hl x x0 hx oT (by grind)).mono (show (x0-x)*Q≤ε by
   have:=Rat.mul_le_mul_of_nonneg_right (show x0-x≤r by grind) (Rat.le_of_lt hQ)
   grind)
  obtain⟨p1,p2⟩:=h5
  exact⟨by grind,by grind⟩
theorem aod{x y ε:Rat}(hε:0<ε)(h:kU (ε+ε) x)(tW:Ab (y-x) ε):b8 y=b8 x∧kU ε y:=by
 obtain⟨p1,p2⟩:=tW
 rcases h with h | h
 ·exact⟨by rw [fZ (show x<0 by grind),fZ (by grind)], .inl (by grind)⟩
 ·exact⟨by rw [eI (show 0<x by grind),eI (by grind)], .inr (by grind)⟩
theorem aeS{U:Rat→Prop}{x0:Rat}(hU:∀t,U t↔x0≤t)(q:ZX):SgU U q (b8 (e x0 q)):=by
 have lo:∀ {r:Rat},0<r→¬U (x0-r):=fun hr h=>by have:=(hU _).1 h;grind
 have hi:∀ {r:Rat},0<r→U (x0+r):=fun hr=>(hU _).2 (by grind)
 by_cases h0:e x0 q=0
 ·refine .inl ⟨by rw [h0,iK],fun ε hε=>?_⟩
  obtain⟨r,hr,h⟩:=XJ q x0 hε
  refine⟨x0-r,x0+r,lo hr,hi hr,fun x h1 h2=>?_⟩
  have:=h x h1 h2
  rwa [h0,show e x q-0=e x q by grind]at this
 ·have hs:b8 (e x0 q)=1∨b8 (e x0 q) = -1:=by
   rcases cV (e x0 q)with ⟨_,h⟩ | ⟨h,_⟩ | ⟨_,h⟩
   ·exact .inr h
   ·exact absurd h h0
   ·exact .inl h
  obtain⟨ε,hε,hb⟩:∃ε:Rat,0<ε∧kU (ε+ε) (e x0 q):=by
   by_cases h:0≤e x0 q
   ·exact⟨e x0 q/2,by grind, .inr (by grind)⟩
   ·exact⟨-(e x0 q)/2,by grind, .inl (by grind)⟩
  obtain⟨r,hr,h⟩:=XJ q x0 hε
  exact .inr ⟨hs,ε,x0-r,x0+r,hε,lo hr,hi hr,fun x h1 h2=>aod hε hb (h x (Rat.le_of_lt h1) h2)⟩
theorem auD{r q:ZX}(hr:oY r)(q0:q≠0)(h:dv r q):dv r (sq q):=by
 obtain⟨nf,hf⟩:=sI q0
 have p1:r^1=r:=by rw [pow_succ',eH];grind
 have h1:=(kZ hr q0 (k:=1)).2 (by rw [p1];exact h)
 have h2:=(kZ hr nf.ne (k:=1)).1 (by rw [hf r hr];omega)
 rwa [p1]at h2
theorem tJ.auE{w q:ZX}(q0:q≠0)(h:tJ w (sq q)):tJ w q:=fun d h1 h2=>Nat.not_lt.1 fun hd=>by
 obtain⟨r,hr,hrd⟩:=lL _ d (Nat.le_refl _) (by omega)
 have:=h r (hrd.trans h1) (auD hr q0 (hrd.trans h2))
 have:=hr.deg
 omega
theorem auF{f q:ZX}(nf:Nf f)(hf:sq f=f)(q0:q≠0):gz f (sq q)=gz q f:=by
 obtain⟨nq,hq⟩:=sI q0
 refine Nf.sF (DL (.inl nf.ne)) (DL (.inl q0)) fun p hp=>?_
 rw [(eT f (sq q)).mu nf.ne nq.ne hp,(eT q f).mu q0 nf.ne hp,hq p hp]
 have:=(sI nf.ne).2 p hp
 rw [hf]at this
 omega
section
variable {f h g w:ZX} {v γ φ:Rat→Nat} {lo hi:Rat} (A:j7 f v lo hi) (S:nS f h g w) (Sg:sK g γ) (Sw:sK w φ)
include A S Sg Sw
theorem azF(dA:lo<hi)(hγ:γ hi<γ lo):UI (gG v lo hi) g:=by
 have hv:v lo=v hi+1:=by
  rcases A.k with ⟨h,_⟩ | ⟨_,h⟩
  ·rw [h]at dA;exact absurd dA Rat.lt_irrefl
  ·exact h
 refine PK (fL A) Sg (A.g9 (.inr ⟨rfl,dA⟩)) eU fun s t h1 h2 h3 h4=>?_
 have jD:=(fL A).lt h3 h4
 have c0:=S.EM A.S Sg Sw (Rat.le_of_lt dA)
 have c1:=S.EM A.S Sg Sw (Rat.le_of_lt jD)
 have o:=jQ A h3 h4 jD
 have m1:=Sw.cA h1
 have m2:=Sw.cA (Rat.le_of_lt jD)
 have m3:=Sw.cA h2
 have m4:=Sg.cA h1
 have m5:=Sg.cA (Rat.le_of_lt jD)
 have m6:=Sg.cA h2
 omega
theorem azG(dA:lo<hi)(hγ:γ lo=γ hi):UI (gG v lo hi) w:=by
 refine PK (fL A) Sw (A.g9 (.inr ⟨rfl,dA⟩)) eU fun s t h1 h2 h3 h4=>?_
 have jD:=(fL A).lt h3 h4
 have c1:=S.EM A.S Sg Sw (Rat.le_of_lt jD)
 have o:=jQ A h3 h4 jD
 have m4:=Sg.cA h1
 have m5:=Sg.cA (Rat.le_of_lt jD)
 have m6:=Sg.cA h2
 omega
theorem aoe{q:ZX}(dA:lo<hi)(hγ:γ lo=γ hi)(q0:q≠0)(hh:h=sq q)(hN:ZX.N (sq q)≤20)(Sq:sK (sq q) (vt (aT (sq q))))(hη:vt (aT (sq q)) lo=vt (aT (sq q)) hi):SgU (gG v lo hi) q (b8 (e hi q)):=by
 obtain⟨nf,hf⟩:=sI q0
 have hw:tJ w q:=tJ.auE q0 (hh▸S.wh)
 have k:=XF nf Sq.LG Sq hN dA hη _ q (Nat.le_refl _) q0 (fun r hr=>by rw [hf r hr];exact Nat.le_refl _)
 obtain⟨B,hB,ha,hb⟩:=lO lo hi
 obtain⟨ε,hε,hs⟩:=aud S.nw.ne q0 hw B
 obtain⟨s,t,h1,h2,h3⟩:=azG A S Sg Sw dA hγ (ε/2) (by grind)
 obtain⟨a,b,k1,k2,k3,k4,k5,k6,k7⟩:=(fL A).inter h1 h2 (A.g9 (.inr ⟨rfl,dA⟩)) (eU (v:=v) (lo:=lo) (hi:=hi))
 have hs3:b8 (e hi q)=1∨b8 (e hi q) = -1:=by
  have h4:=(k hi dA Rat.le_refl).1
  rcases cV (e hi q)with ⟨_,h⟩ | ⟨h,_⟩ | ⟨_,h⟩
  ·exact .inr h
  ·exact absurd h h4
  ·exact .inl h
 refine .inr ⟨hs3,ε,a,b,hε,k1,k2,fun x hx hy=>⟨(k x (by grind) (by grind)).2,?_⟩⟩
 refine(hs x (cH ha hb (by grind) (by grind))).resolve_left fun h4=>?_
 obtain⟨p1,p2⟩:=h3 x (by grind) (by grind)
 rcases h4 with h4 | h4<;>grind
end
theorem akG{q:ZX}(q0:q≠0):tJ (sq q) (bX (sq q)):=fun d h1 h2=>by
 have h3:=(eT (sq q) (bX (sq q))).least h1 h2
 rw [aed q0]at h3
 have:=h3.nW ZX.qA
 rwa [ZX.wS]at this
end Go.Proofs.YtelhfbikiccfkaaGreat
