import Derived.Test.YtiobceocpabjdaaGreatEak
import Derived.Test.YtiobceocpabjdaaGreatEal
set_option linter.unusedSimpArgs false
set_option linter.unusedVariables false
namespace Go.Proofs.YtiobceocpabjdaaGreat
open Go Pm
def CV.doc(c:CV):List PV:=PP (qd c.x c.d)::PP (qd c.y c.d)::c.cells
@[simp] theorem CV.HQ{c:CV}:c.doc = [PP (qd c.x c.d),PP (qd c.y c.d),Po c.x,Po c.y, .bool (decide (c.d<0)),aJ u32 (aU LL c.d.natAbs)]:=rfl
theorem QD{D:Int}(h:D≠0){x:List Int}(cx:Cn x):fR (qd x D) (D:Rat)=qs x:=by
 have h0:=fP h
 have:(qd x D).map (fun q=>q*(D:Rat))=qs x:=by
  simp only [qd,qs,List.map_map]
  congr 1
  funext v
  simp only [Function.comp_apply]
  rw [eR h]
  exact Rat.div_mul_cancel h0
 rw [fR,this,←tS,sC (by decide),show aI x=x from cx]
theorem yX{x:List Int}{D:Int}{k n:Nat}(hD:D≠0)(cx:Cn x)(hx:Bd 2 k n x)(hd:sz 2 D≤k)(hk:k≤YY)(S3:1≤k)(hn:n<1099511627776):aH env.P 261 [PP (qd x D),RI D] (PI x):=by
 have o1:=iF 1 (by decide) (by decide)
 have m1:=xD D (by show sz 2 D<549755813888;have:YY=137438953472:=rfl;omega)
 have s1:=kK (qd x D) (D:Rat) (xH hD hx hd hk hn) (nQ (Nat.le_trans hd hk) (by decide))
 rw [QD hD cx,RR,fN,oI]at s1
 generalize qd x D=q at *
 refine cA [(0,PP q),(1,RI D)] Tryz.func261 ?_
 refine aA [0,3,4] ?_
 refine kB ?_
 refine b8 o1 ?_
 refine b8 m1 ?_
 refine cI [4] s1 ?_
 exact cP
theorem ab7{D:Nat}(hD:0<D)(x:List Int)(i:Nat):zN ((qd x D).take i)=(D/LO D (x.take i):Nat):=by
 rw [←xI hD,qd,←List.map_take]
set_option maxHeartbeats 2000000 in
theorem HR{x y:List Int}{D:Nat}{k n:Nat}(hD:0<D)(cx:Cn x)(cy:Cn y)(hg:LO D (x++y)=1)(hx:Bd 2 k n x)(hy:Bd 2 k n y)(hd:sz 2 (D:Int)≤k)(hk:k≤10000000000)(S3:1≤k)(hn:n<500000000000) :
  aH env.P 236 [PP (qd x D),PP (qd y D)] (.ag (CV.doc ⟨x,y,(D:Int)⟩)):=by
 have hY:YY=137438953472:=rfl
 have xJ:(D:Int)≠0:=by omega
 have w1:=yX xJ cx hx hd (by omega) S3 (by omega)
 have w2:=yX xJ cy hy hd (by omega) S3 (by omega)
 have t1:=HM x (fun c hc=>Nat.lt_of_le_of_lt (hx.sz c hc) (by omega)) (Nat.lt_of_le_of_lt hx.len (by omega))
 have t2:=HM y (fun c hc=>Nat.lt_of_le_of_lt (hy.sz c hc) (by omega)) (Nat.lt_of_le_of_lt hy.len (by omega))
 have t3:=vH (D:Int) (Nat.lt_of_le_of_lt hd (by omega))
 have lx:=hx.len
 have ly:=hy.len
 have e0:qd x D++qd y D=qd (x++y) D:=by simp [qd]
 have hdn:∀i,0<zN ((qd (x++y) D).take i)∧sz 2 (zN ((qd (x++y) D).take i))≤k:=fun i=>by
  rw [ab7 hD]
  have h1:LO D ((x++y).take i)∣D:=Nat.gcd_dvd_left _ _
  have h2:0<D/LO D ((x++y).take i):=Nat.div_pos (Nat.le_of_dvd hD h1) (Nat.pos_of_dvd_of_pos h1 hD)
  refine⟨by omega,Nat.le_trans (cB (by decide) ?_) hd⟩
  rw [Int.natAbs_natCast,Int.natAbs_natCast]
  exact Nat.div_le_self _ _
 have axe:∀q∈qd (x++y) D,sz 2 (q.den:Int)≤k:=fun q hq=>by
  simp only [qd,List.mem_map]at hq
  obtain⟨v,hv,rfl⟩:=hq
  rw [rI hD]
  refine Nat.le_trans (cB (by decide) ?_) hd
  rw [Int.natAbs_natCast,Int.natAbs_natCast]
  exact Nat.div_le_self _ _
 have QE:zN (qd (x++y) D)=D:=by rw [xI hD,hg,Nat.div_one]
 have hWl:(qd (x++y) D).length=x.length+y.length:=by simp
 have hl1:(qd x D).length=x.length:=by simp
 have NG:(qd y D).length=y.length:=by simp
 simp only [CV.HQ]
 generalize qd (x++y) D=ww at *
 generalize qd x D=qx at *
 generalize qd y D=qy at *
 have o1:=iF 1 (by decide) (by decide)
 refine cA [(0,PP qx),(1,PP qy)] Tryz.func236 ?_
 refine aA [0,1,4] ?_
 refine aY [0,1,4,5] o1 ?_
 refine W.sr ?_
 simp (disch:=omega) [gw,e0,hl1,NG]
 refine bO [0,1,4,5,6] ?_
 refine aM [0,1,4,5,6,14,15] ?_
 refine W.block ?_
 refine W.a8 (fun q σ=>∃(i v4 v10:Nat) (d:Int) (v5:Nat) (rows:Pm.Rows) (clk:Nat),σ=⟨fa [(0,PP qx),(1,PP qy),(4, .ptr 4 v4 0 0),(5, .ptr 5 v5 0 0),(6, .own 10 v10 0 (x.length+y.length)),(14, .int .i64 ((x.length:Int)+(y.length:Int))),(15, .int .i64 i)],rows,clk⟩ ∧
  rows 4=some ⟨v4,153,6,[[.nil, .nil, .nil, .nil, .bool false, .nil]]⟩∧rows 5=some ⟨v5,29,2,[[aJ aF (aU DD d.natAbs), .bool (decide (d<0))]]⟩∧rows 10=some ⟨v10,31,4,emap re ww⟩ ∧
  q=x.length+y.length-i∧i≤x.length+y.length∧d=zN (ww.take i)) (x.length+y.length) ?_ ?_
 ·exact⟨_, .refl,0,_,_,1,_,_,_,rfl,by simp,by simp,by simp,by omega,by omega,by simp [zN]⟩
 rintro q _ ⟨i,v4,v10,d,v5,rows,clk,rfl,gN,dY,j7,hq,hi,PN⟩
 refine cC [0,1,4,5,6,14,15,16] ?_
 refine bP ?_ ?_<;>intro h
 ·have hi:i<ww.length:=by simp at h;omega
  obtain⟨hdp,hdi⟩:=hdn i
  have hqd:=axe _ (bI hi)
  have hs:=LN hi
  rw [←PN]at hs hdi hdp
  have m1:=eE d (nth ww i).den (by simp only [Z];omega) (by simp only [Z];omega)
  have m2:=vI d (nth ww i).den (by simp only [Y];omega) (by simp only [Y];omega)
  have zm:=cE (b:=2) (by decide) hdi hqd
  have hgp:0<Int.gcd d (nth ww i).den:=Int.gcd_pos_of_ne_zero_left _ (by omega)
  have zg:Y (Int.gcd d (nth ww i).den:Int):=yP (y:=d) (by simp only [Y];omega) (by
   have:=Int.le_of_dvd hdp (Int.gcd_dvd_left d ((nth ww i).den:Int));omega)
  have m3:=rC (d*(nth ww i).den) (Int.gcd d (nth ww i).den) (by omega) (by simp only [Y];omega) zg
  rw [←hs]at m3
  rw [P6]at m1 m2
  generalize (Int.gcd d (nth ww i).den:Int)=gg at *
  generalize d*((nth ww i).den:Int)=dd at *
  generalize I3:zN (ww.take (i+1))=d2 at *
  generalize I5:nth ww i=qe at *
  refine iT ?_
  refine aA [0,1,4,5,6,7,14,15] ?_
  refine W.BI (fun K hK=>?_)
  simp (disch:=omega) [gw,dY,j7,I5]
  refine aD m1 ?_
  simp (disch:=omega) [gw,dY,j7,I5]
  refine aD m2 ?_
  simp (disch:=omega) [gw,dY,j7,I5]
  refine aD m3 ?_
  simp (disch:=omega) [gw,dY,j7,I5]
  refine bF (by refine⟨?_,?_⟩<;>kernel_rfl) ?_
  simp (disch:=omega) [gw]
  refine W.lw [0,1,4,5,6,14,15] hK ?_;clear hK K;simp
  refine W.b9 (fun K hK=>?_);simp (disch:=omega) [gw]
  refine hK _ ⟨x.length+y.length-(i+1),_,aC _ [0,1,4,5,6,14,15],by omega,i+1,v4,v10,d2,v5,_,_,rfl,by simp [gN],by simp,by simp [j7],by omega,by omega,I3.symm⟩
 have hi:i=ww.length:=by simp at h;omega
 rw [hi,List.take_length,QE]at PN
 subst PN
 refine eJ ?_
 refine W.sd ?_
 simp (disch:=omega) [gw,dY]
 refine aD w1 ?_
 simp (disch:=omega) [gw,dY]
 refine aD t1 ?_
 simp (disch:=omega) [gw,dY]
 refine aD w2 ?_
 simp (disch:=omega) [gw,dY]
 refine aD t2 ?_
 simp (disch:=omega) [gw,dY]
 refine aD t3 ?_
 simp (disch:=omega) [gw,gN]
 refine bO [4] ?_
 exact cP
theorem XI(a:Int)(l:List Int):bL (a::l)=Nat.gcd a.natAbs (bL l):=by
 refine Nat.dvd_antisymm (Nat.dvd_gcd ?_ (rE fun c hc=>?_)) (rE fun c hc=>?_)
 ·exact Int.ofNat_dvd_left.1 (eN _ a (List.mem_cons_self ..))
 ·exact eN _ c (List.mem_cons_of_mem _ hc)
 ·rcases List.mem_cons.1 hc with rfl | hc
  ·exact Int.ofNat_dvd_left.2 (Nat.gcd_dvd_left _ _)
  ·exact Int.dvd_trans (Int.ofNat_dvd.2 (Nat.gcd_dvd_right _ _)) (eN _ c hc)
theorem LS{g:Int}{x:List Int}(hg:g≠0)(cx:Cn x)(h:∀v∈x,g∣v):(aI (x.map (j1 g))).map (· * g)=x:=by
 have e:(x.map (j1 g)).map (· * g)=x:=by
  rw [List.map_map]
  conv=>rhs;rw [←List.map_id x]
  refine List.map_congr_left fun v hv=>?_
  simp only [Function.comp_apply,j1,if_pos (Int.emod_eq_zero_of_dvd (h v hv)),id]
  exact Int.ediv_mul_cancel (h v hv)
 refine Cn.ext (i6 (Cn.cut _) hg) cx fun t=>?_
 rw [dH,cV,←dH,e]
structure CV.OK(c:CV):Prop where
 cx:Cn c.x
 cy:Cn c.y
 pos:0<c.d
 gcd:bL (c.d::(c.x++c.y))=1
theorem TL{x y:List Int}(cx:Cn x)(cy:Cn y)(d:Int):(nC x y d).x.map (· * cg x y d)=x∧(nC x y d).y.map (· * cg x y d)=y∧(nC x y d).d*cg x y d=dN d:=by
 have hg:=TK x y d
 exact⟨LS hg cx fun v hv=>xK x y d (by simp [hv]),LS hg cy fun v hv=>xK x y d (by simp [hv]),Int.ediv_mul_cancel (xK x y d (List.mem_cons_self ..))⟩
theorem aiz{x y:List Int}(cx:Cn x)(cy:Cn y)(d:Int):(nC x y d).OK:=by
 obtain⟨h1,h2,h3⟩:=TL cx cy d
 have hg:=TK x y d
 have hd:=vQ d
 have YW:cg x y d=if dN d<0 then -(bL (dN d::(x++y)):Int)else bL (dN d::(x++y)):=rfl
 refine⟨Cn.cut _,Cn.cut _,?_,?_⟩
 ·refine Classical.byContradiction fun h=>?_
  split at YW
  ·rename_i KV
   have:=Int.mul_nonneg (show 0 ≤ -(nC x y d).d by omega) (show 0 ≤ -cg x y d by omega)
   rw [Int.neg_mul_neg,h3]at this
   omega
  ·rename_i KV
   have:=Int.mul_nonneg (show 0 ≤ -(nC x y d).d by omega) (show 0≤cg x y d by omega)
   rw [Int.neg_mul,h3]at this
   omega
 ·have e:((nC x y d).d::((nC x y d).x++(nC x y d).y)).map (· * cg x y d)=dN d::(x++y):=by
   simp only [List.map_cons,List.map_append,h1,h2,h3]
  have h4:=i7 (cg x y d) ((nC x y d).d::((nC x y d).x++(nC x y d).y))
  rw [e]at h4
  have h5:(cg x y d).natAbs=bL (dN d::(x++y)):=by
   rw [YW];split<;>simp
  rw [←h5]at h4
  have h6:0<(cg x y d).natAbs:=by omega
  refine Nat.eq_of_mul_eq_mul_right h6 ?_
  rw [←h4,Nat.one_mul]
structure RC.Small(c:RC)(k n:Nat):Prop where
 x:Sm k n c.x
 y:Sm k n c.y
 l:cM 4294967296 c.l
 ll:c.l.length≤n
 h1:1≤n
 hn:n≤1000
 hk:k≤1000
theorem RC.Small.ok{c:RC}{k n:Nat}(h:c.Small k n):c.OK n k:=by
 have h1:=h.h1;have h2:=h.hn;have h3:=h.hk;have h4:=h.ll
 refine⟨h.x.r8 (by omega) (by omega),h.y.r8 (by omega) (by omega),⟨h.l,by omega⟩,h.x.bd,h.y.bd,?_,h.h1,by omega,by omega⟩
 have g1:=ars eB h.l
 have g2:sz LL (iv c.s c.l)=sz LL (V 4294967296 c.l):=by unfold sz;rw [show(iv c.s c.l).natAbs=_ from sA (c.s,c.l) h.l]
 rw [g2];exact Nat.le_trans g1 h.ll
theorem TM{s n:Nat}{x:List Int}(c:Int)(h:Bd 2 s n x):Bd 2 s n (aI (x.map (j1 c))):=Bd.cut ⟨by simpa using h.len,fun v hv=>by
 simp only [List.mem_map]at hv
 obtain⟨w,hw,rfl⟩:=hv
 refine Nat.le_trans (cB (by decide) ?_) (h.sz w hw)
 unfold j1;split
 ·exact Int.natAbs_ediv_le_natAbs _ _
 ·simp⟩
theorem RC.Small.bd2{c:RC}{k n:Nat}(h:c.Small k n):Bd 2 (32*n) k c.nc.x∧Bd 2 (32*n) k c.nc.y∧sz 2 c.nc.d≤32*n∧sz 2 (iv c.s c.l)≤32*n:=by
 have h1:=h.h1
 have hd:sz 2 (iv c.s c.l)≤32*n:=by
  have g1:=KY h.l
  have g2:sz 2 (iv c.s c.l)=sz 2 (V 4294967296 c.l):=by unfold sz;rw [show(iv c.s c.l).natAbs=_ from sA (c.s,c.l) h.l]
  have:=h.ll
  rw [g2];omega
 refine⟨TM _ h.x.bd2.cut,TM _ h.y.bd2.cut,?_,hd⟩
 show sz 2 (_/_)≤_
 refine Nat.le_trans (cB (by decide) (Int.natAbs_ediv_le_natAbs _ _)) ?_
 unfold dN;split
 ·exact Nat.le_trans (cK (k:=1) (by decide) (by decide)) (by omega)
 ·exact hd
theorem RC.Small.fok{c:RC}{k n:Nat}(h:c.Small k n):FOK c.x∧FOK c.y:=by
 have h2:=h.hn;have h3:=h.hk
 exact⟨h.x.fok (by omega) (by omega),h.y.fok (by omega) (by omega)⟩
theorem RC.TN(c:RC):c.nc.OK:=aiz (Cn.cut _) (Cn.cut _) _
theorem XJ{x y:List Int}(cx:Cn x)(cy:Cn y)(d:Int):fR (qs x) (dJ 1 (dN d))=qd (nC x y d).x (nC x y d).d∧fR (qs y) (dJ 1 (dN d))=qd (nC x y d).y (nC x y d).d:=by
 obtain⟨h1,h2,h3⟩:=TL cx cy d
 have hg:=TK x y d
 have hp:=(aiz cx cy d).pos
 have hd0:(nC x y d).d≠0:=by omega
 refine⟨?_,?_⟩
 ·rw [xG (vQ d),tR cx]
  have:=CA hd0 hg (nC x y d).x
  rw [h1,h3]at this
  exact this
 ·rw [xG (vQ d),tR cy]
  have:=CA hd0 hg (nC x y d).y
  rw [h2,h3]at this
  exact this
set_option maxHeartbeats 2000000 in
theorem QF{c:RC}{k n:Nat}(h:c.Small k n):aH env.P 173 [.ag c.cells] (.ag c.nc.doc):=by
 have hY:YY=137438953472:=rfl
 have h1:=h.h1;have h2:=h.hn;have h3:=h.hk;have h4:=h.ll
 obtain⟨fx,fy⟩:=h.fok
 obtain⟨bx,nR,bd,bi⟩:=h.bd2
 have ok:=c.TN
 have r1:=E8 c.s c.l (by omega) h.l
 have r2:=xC (iv c.s c.l)
 have o1:=iF 1 (by decide) (by decide)
 have q1:=FC c.x fx
 have q2:=FC c.y fy
 rw [show aI (c.x.map gv)=eF c.x from rfl]at q1
 rw [show aI (c.y.map gv)=eF c.y from rfl]at q2
 have hD:=vQ (iv c.s c.l)
 have zD:sz 2 (dN (iv c.s c.l))≤32*n:=by
  unfold dN;split
  ·exact Nat.le_trans (cK (k:=1) (by decide) (by decide)) (by omega)
  ·exact bi
 have mk:=j0 1 (dN (iv c.s c.l)) (by decide) (by show sz 2 _<_;omega)
 obtain⟨q3,q4⟩:fR (qs (eF c.x)) (dJ 1 (dN (iv c.s c.l)))=qd c.nc.x c.nc.d∧fR (qs (eF c.y)) (dJ 1 (dN (iv c.s c.l)))=qd c.nc.y c.nc.d:=XJ (Cn.cut _) (Cn.cut _) _
 have z1:ZR YY (dJ 1 (dN (iv c.s c.l))):=rG hD (Nat.le_trans (cK (k:=1) (by decide) (by decide)) (by decide)) (by omega)
 have Qx:PZ (qs (eF c.x)):=by rw [←tS];exact xH (k:=32*n) (n:=k) (by decide) h.x.bd2.cut (Nat.le_trans (cK (k:=1) (by decide) (by decide)) (by omega)) (by omega) (by omega)
 have Qy:PZ (qs (eF c.y)):=by rw [←tS];exact xH (k:=32*n) (n:=k) (by decide) h.y.bd2.cut (Nat.le_trans (cK (k:=1) (by decide) (by decide)) (by omega)) (by omega) (by omega)
 have s1:=kK _ _ Qx z1
 have s2:=kK _ _ Qy z1
 rw [q3,oI]at s1
 rw [q4,oI]at s2
 have S2:((c.nc.d.toNat:Nat):Int)=c.nc.d:=by have:=ok.pos;omega
 have nm:=HR (x:=c.nc.x) (y:=c.nc.y) (D:=c.nc.d.toNat) (k:=32*n) (n:=k) (by have:=ok.pos;omega) ok.cx ok.cy (by
  have:=ok.gcd
  rw [XI]at this
  rw [LO]
  have e:c.nc.d.toNat=c.nc.d.natAbs:=by have:=ok.pos;omega
  rw [e];exact this) bx nR (by rw [S2];exact bd) (by omega) (by omega) (by omega)
 rw [S2]at nm
 have Y7:dN (iv c.s c.l)=if iv c.s c.l=0 then 1 else iv c.s c.l:=rfl
 clear q3 q4 z1 Qx Qy ok fx fy bx nR bd bi zD hD S2
 generalize dN (iv c.s c.l)=D at *
 generalize iv c.s c.l=d at *
 generalize dJ 1 D=qr at *
 generalize c.nc=r at *
 generalize eF c.x=X at *
 generalize eF c.y=Y0 at *
 simp only [RC.bQ,CV.HQ]at *
 generalize qd r.x r.d=ux at *
 generalize qd r.y r.d=uy at *
 refine cA [(0, .ag [Pg c.x,Pg c.y, .bool c.s,aJ u32 c.l])] Tryz.func173 ?_
 refine aA [1,2] ?_
 refine aY [1,2,3] r1 ?_
 refine W.gD (fun σ=>∃(v1 v2 v3:Nat) (rows:Pm.Rows) (clk:Nat),σ=⟨fa [(1, .ptr 1 v1 0 0),(2, .ptr 2 v2 0 0),(3, .ptr 3 v3 0 0)],rows,clk⟩∧rows 1=some ⟨v1,71,4,[[Pg c.x,Pg c.y, .bool c.s,aJ u32 c.l]]⟩∧rows 2=some ⟨v2,153,6,[[.nil, .nil, .nil, .nil, .bool false, .nil]]⟩ ∧
  rows 3=some ⟨v3,29,2,[[aJ aF (aU DD D.natAbs), .bool (decide (D<0))]]⟩) ?_ ?_
 ·refine aY [1,2,3,9] r2 ?_
  refine bP ?_ ?_<;>intro h
  ·simp at h
   rw [if_pos h]at Y7
   subst Y7
   refine W.b9 (fun K hK=>?_)
   simp (disch:=omega) [gw]
   refine b8 o1 ?_
   exact hK _ ⟨_,aC _ [1,2,3],_,_,_,_,_,rfl,by simp,by simp,by simp⟩
  ·simp at h
   rw [if_neg h]at Y7
   subst Y7
   refine W.skip ?_
   exact⟨_,aC _ [1,2,3],_,_,_,_,_,rfl,by simp,by simp,by simp⟩
 rintro _ ⟨v1,v2,v3,rows,clk,rfl,yN,cR,fU⟩
 refine kB ?_
 refine aD o1 ?_
 simp (disch:=omega) [gw,fU]
 refine b8 mk ?_
 rw [if_pos (by kernel_rfl)]
 simp (disch:=omega) [gw]
 refine bO [1,2,4] ?_
 refine W.sd ?_
 simp (disch:=omega) [gw,yN]
 refine b8 q1 ?_
 refine aD s1 ?_
 simp (disch:=omega) [gw,yN]
 refine b8 q2 ?_
 refine b8 s2 ?_
 refine aD nm ?_
 simp (disch:=omega) [gw,cR]
 refine bO [2] ?_
 exact cP
structure CV.Sz(c:CV)(s k:Nat):Prop where
 x2:Bd 2 s k c.x
 y2:Bd 2 s k c.y
 d2:sz 2 c.d≤s
 h1:1≤s
 hs:s≤100000000
 hk:k≤100000000
theorem af7(x y:List Int):eV x (fW y)=dA x y:=Cn.ext (Cn.eV _ _) (Cn.dA _ _) fun t=>by rw [o8,w8,gG];omega
theorem af8(m:List (List RP))(hm:m.length<1099511627776)(hr:∀r∈m,r.length<1099511627776):aH env.P 239 [aJ me m] (.bool (decide ((∀r∈m,r.length=m.length)∧m.length≤4))):=by
 refine cA [(0,aJ me m)] Tryz.func239 ?_
 refine aA [0] ?_
 refine aM [0,5,6,7] ?_
 refine W.block ?_
 refine W.a8 (fun k σ=>∃(i:Nat) (rows:Pm.Rows) (clk:Nat),σ=⟨fa [(0,aJ me m),(5,aJ me m),(6, .int .i64 m.length),(7, .int .i64 i)],rows,clk⟩∧k=m.length-i∧i≤m.length ∧ ∀r∈m.take i,r.length=m.length) m.length ?_ ?_
 ·exact⟨_, .refl,0,_,_,rfl,by omega,by omega,by simp⟩
 rintro k _ ⟨i,rows,clk,rfl,hk,hi,hI⟩
 refine cC [0,5,6,7,8] ?_
 refine bP ?_ ?_<;>intro h
 ·simp at h
  have ND:=hr _ (bI h)
  refine iT ?_
  refine aA [0,4,5,6,7] ?_
  refine aA [0,5,6,7,15] ?_
  refine W.cond ⟨_,rfl,fun h2=>?_,fun h2=>?_⟩
  ·have h3:¬(∀r∈m,r.length=m.length):=fun h3=>by
    have:=h3 _ (bI h)
    simp [this]at h2
   refine aA [2] ?_
   refine W.ret ?_
   simp [go,h3]
  ·have h3:(nth m i).length=m.length:=by simp at h2;omega
   refine W.skip ?_
   refine W.b9 (fun K hK=>?_)
   simp (disch:=omega) [gw]
   refine hK _ ⟨m.length-(i+1),_,aC _ [0,5,6,7],by omega,i+1,_,_,rfl,by omega,by omega,fun r hr=>?_⟩
   rw [aT h]at hr
   rcases List.mem_append.1 hr with h4 | h4
   ·exact hI r h4
   ·simp at h4;rw [h4];exact h3
 ·simp at h
  rw [List.take_of_length_le (by omega)]at hI
  refine eJ ?_
  refine aA [2] ?_
  refine W.ret ?_
  have e:decide ((∀r∈m,r.length=m.length)∧m.length≤4)=decide ((m.length:Int)≤4):=decide_eq_decide.2 ⟨fun h=>by omega,fun h=>⟨hI,by omega⟩⟩
  rw [e]
  simp [go]
def tU(i k:Nat)(m:List (List RP)):List (List RP):=(m.eraseIdx i).map fun r=>(r.eraseIdx k).map tP
theorem XK(i k:Nat)(m:List (List RP))(hi:i<1099511627776)(hk:k<1099511627776)(hm:m.length<1099511627776)(hr:∀r∈m,r.length<1099511627776 ∧ ∀p∈r,mL p):aH env.P 263 [.int .i64 i, .int .i64 k,aJ me m] (aJ me (tU i k m)):=by
 refine cA [(0, .int .i64 i),(1, .int .i64 k),(2,aJ me m)] Tryz.func263 ?_
 refine aA [0,1,2] ?_
 refine aA [0,1,2,7] ?_
 refine W.nil 7 7 197 1 (by simp) (by decide) (fun K hK=>?_)
 refine W.lw [0,1,2,7] hK ?_;clear hK K;simp
 refine aM [0,1,7,13,14,15] ?_
 refine W.block ?_
 refine W.a8 (fun d σ=>∃(r ver n:Nat) (rows:Pm.Rows) (clk:Nat),σ=⟨fa [(0, .int .i64 i),(1, .int .i64 k),(7, .own 7 ver 0 n),(13,aJ me m),(14, .int .i64 m.length),(15, .int .i64 r)],rows,clk⟩ ∧
  rows 7=some ⟨ver,197,1,emap me (tU i k (m.take r))⟩∧n=(tU i k (m.take r)).length∧d=m.length-r∧r≤m.length) m.length ?_ ?_
 ·exact⟨_, .refl,0,_,_,_,_,rfl,by simp [tU,emap],by simp [tU],by omega,by omega⟩
 rintro d _ ⟨r,ver,n,rows,clk,rfl,nZ,hn,hd,hrm⟩
 have hml:(tU i k (m.take r)).length≤m.length:=by
  have:=List.length_eraseIdx_le (m.take r) i
  simp [tU]at *;omega
 refine cC [0,1,7,13,14,15,16] ?_
 refine bP ?_ ?_<;>intro h
 ·simp at h
  obtain⟨ND,hrp⟩:=hr _ (bI h)
  refine W.skip ?_
  refine W.fM (fun σ=>∃(ver n:Nat) (rows:Pm.Rows) (clk:Nat),σ=⟨fa [(0, .int .i64 i),(1, .int .i64 k),(7, .own 7 ver 0 n),(13,aJ me m),(14, .int .i64 m.length),(15, .int .i64 r)],rows,clk⟩ ∧
   rows 7=some ⟨ver,197,1,emap me (tU i k (m.take (r+1)))⟩∧n=(tU i k (m.take (r+1))).length) ?_ ?_
  ·
   refine aA [0,1,7,8,9,13,14,15] ?_
   refine aM [0,1,7,9,13,14,15,22] ?_
   refine W.cond ⟨_,rfl,fun h2=>?_,fun h2=>?_⟩
   ·have h2:r=i:=by simp at h2;omega
    have e:tU i k (m.take (r+1))=tU i k (m.take r):=by simp only [tU];rw [o9 h,if_pos h2]
    refine eJ ?_
    rw [e]
    exact⟨_,aC _ [0,1,7,13,14,15],_,_,_,_,rfl,nZ,hn⟩
   ·have h2:r≠i:=by simp at h2;omega
    have e:tU i k (m.take (r+1))=tU i k (m.take r) ++ [((nth m r).eraseIdx k).map tP]:=by simp only [tU];rw [o9 h,if_neg h2];simp
    rw [e]
    generalize oA:nth m r=row at *
    refine W.skip ?_
    refine aA [0,1,7,9,10,13,14,15] ?_
    refine W.nil 10 10 24 1 (by simp) (by decide) (fun K hK=>?_)
    refine W.lw [0,1,7,9,10,13,14,15] hK ?_;clear hK K;simp
    refine aM [0,1,7,10,13,14,15,23,24,25] ?_
    refine W.block ?_
    refine W.a8 (fun d σ=>∃(c v10 n10:Nat) (rows:Pm.Rows) (clk:Nat),σ=⟨fa [(0, .int .i64 i),(1, .int .i64 k),(7, .own 7 ver 0 n),(10, .own 10 v10 0 n10),(13,aJ me m),(14, .int .i64 m.length),(15, .int .i64 r),(23,aJ pe row),(24, .int .i64 row.length),(25, .int .i64 c)],rows,clk⟩ ∧
     rows 7=some ⟨ver,197,1,emap me (tU i k (m.take r))⟩∧rows 10=some ⟨v10,24,1,emap pe (((row.take c).eraseIdx k).map tP)⟩∧n10=(((row.take c).eraseIdx k).map tP).length∧d=row.length-c∧c≤row.length) row.length ?_ ?_
    ·exact⟨_, .refl,0,_,_,_,_,rfl,by simp [nZ],by simp [emap],by simp,by omega,by omega⟩
    clear nZ rows clk
    rintro d _ ⟨c,v10,n10,rows,clk,rfl,nZ,j7,XL,I3,hcr⟩
    have fF:(((row.take c).eraseIdx k).map tP).length≤row.length:=by
     have:=List.length_eraseIdx_le (row.take c) k
     simp at *;omega
    refine cC [0,1,7,10,13,14,15,23,24,25,26] ?_
    refine W.cond ⟨_,rfl,fun h3=>?_,fun h3=>?_⟩
    ·simp at h3
     refine W.skip ?_
     refine W.fM (fun σ=>∃(v10 n10:Nat) (rows:Pm.Rows) (clk:Nat),σ=⟨fa [(0, .int .i64 i),(1, .int .i64 k),(7, .own 7 ver 0 n),(10, .own 10 v10 0 n10),(13,aJ me m),(14, .int .i64 m.length),(15, .int .i64 r),(23,aJ pe row),(24, .int .i64 row.length),(25, .int .i64 c)],rows,clk⟩ ∧
      rows 7=some ⟨ver,197,1,emap me (tU i k (m.take r))⟩∧rows 10=some ⟨v10,24,1,emap pe (((row.take (c+1)).eraseIdx k).map tP)⟩∧n10=(((row.take (c+1)).eraseIdx k).map tP).length) ?_ ?_
     ·
      refine aA [0,1,7,10,11,12,13,14,15,23,24,25] ?_
      refine aA [0,1,7,10,12,13,14,15,23,24,25,32] ?_
      refine W.cond ⟨_,rfl,fun h4=>?_,fun h4=>?_⟩
      ·have h4:c≠k:=by simp at h4;omega
       have e2:((row.take (c+1)).eraseIdx k).map tP=((row.take c).eraseIdx k).map tP ++ [tP (nth row c)]:=by rw [o9 h3,if_neg h4];simp
       rw [e2]
       generalize hq:((row.take c).eraseIdx k).map tP=q at *
       refine W.b9 (fun K hK=>?_)
       simp (disch:=omega) [gw,j7]
       refine aD (eG _ (hrp _ (bI h3))) ?_
       rw [show Po (aI ((nth row c).map gv))=Pg (tP (nth row c))from abx _]
       simp (disch:=omega) [gw,j7,gP]
       exact hK _ ⟨_,aC _ [0,1,7,10,13,14,15,23,24,25],_,_,_,_,rfl,by simp [nZ],by simp,by simp;omega⟩
      ·have h4:c=k:=by simp at h4;omega
       have e2:((row.take (c+1)).eraseIdx k).map tP=((row.take c).eraseIdx k).map tP:=by rw [o9 h3,if_pos h4]
       rw [e2]
       refine W.skip ?_
       exact⟨_,aC _ [0,1,7,10,13,14,15,23,24,25],_,_,_,_,rfl,nZ,j7,XL⟩
     clear nZ j7 XL rows clk v10 n10
     rintro _ ⟨v10,n10,rows,clk,rfl,nZ,j7,XL⟩
     refine W.b9 (fun K hK=>?_)
     simp (disch:=omega) [gw]
     exact hK _ ⟨row.length-(c+1),_,aC _ [0,1,7,10,13,14,15,23,24,25],by omega,c+1,_,_,_,_,rfl,nZ,j7,XL,by omega,by omega⟩
    ·simp at h3
     have VI:c=row.length:=by omega
     subst VI
     rw [List.take_of_length_le (Nat.le_refl _)]at j7 fF XL
     refine eJ ?_
     refine W.freeze 10 (by simp [j7]) (fun K hK=>?_)
     have e3:=bJ XL.symm
     generalize hq:(row.eraseIdx k).map tP=q at *
     simp [j7,e3]
     refine hK _ ?_;clear hK K
     refine W.b9 (fun K hK=>?_)
     simp (disch:=omega) [gw,nZ,gP]
     exact hK _ ⟨_,aC _ [0,1,7,13,14,15],_,_,_,_,rfl,by simp,by simp;omega⟩
  clear nZ hn rows clk ver n
  rintro _ ⟨ver,n,rows,clk,rfl,nZ,hn⟩
  refine W.b9 (fun K hK=>?_)
  simp (disch:=omega) [gw]
  exact hK _ ⟨m.length-(r+1),_,aC _ [0,1,7,13,14,15],by omega,r+1,_,_,_,_,rfl,nZ,hn,by omega,by omega⟩
 ·simp at h
  have e:m.take r=m:=List.take_of_length_le (by omega)
  rw [e]at nZ hn
  refine eJ ?_
  refine aA [6] ?_
  refine W.ret ?_
  simp [go,nZ,hn,bJ]
structure MOK(s n:Nat)(m:List (List RP)):Prop where
 sq:∀r∈m,r.length=m.length
 ok:∀r∈m,∀p∈r,mL p∧Bd LL s n (p.map gv)
def mv(m:List (List RP)):List (List (List Int)):=m.map fun r=>r.map eF
theorem al2(m:List (List RP))(i k:Nat):nth (nth (mv m) i) k=eF (nth (nth m i) k):=by
 have h1:nth (mv m) i=(nth m i).map eF:=rW (f:=fun r:List RP=>r.map eF) rfl m i
 rw [h1]
 exact rW (f:=eF) rfl _ _
theorem vR{α β:Type}(f:α→β)(l:List α)(i:Nat):(l.map f).eraseIdx i=(l.eraseIdx i).map f:=by
 induction l generalizing i with
 | nil=>simp
 | cons x l ih=>cases i<;>simp [ih]
theorem al3(i k:Nat)(m:List (List RP)):mv (tU i k m)=nP i k (mv m):=by
 simp only [mv,tU,nP,vR,List.map_map]
 congr 1
 funext r
 simp only [Function.comp_apply,vR,List.map_map]
 congr 1
 funext p
 exact afA p
theorem MOK.tU{s n:Nat}{m:List (List RP)}(h:MOK s n m)(hs:s<1099511627775)(hn:n<1099511627775){i k:Nat}(hi:i<m.length)(hk:k<m.length):MOK s n (tU i k m):=by
 refine⟨fun r hr=>?_,fun r hr p hp=>?_⟩
 ·simp only [Pm.nth,Go.Proofs.YtiobceocpabjdaaGreat.tU,List.mem_map]at hr ⊢
  obtain⟨r',jP,rfl⟩:=hr
  have:=h.sq r' (List.mem_of_mem_eraseIdx jP)
  rw [List.length_map,List.length_eraseIdx_of_lt (by omega),List.length_map,List.length_eraseIdx_of_lt hi]
  omega
 ·simp only [Go.Proofs.YtiobceocpabjdaaGreat.tU,List.mem_map]at hr
  obtain⟨r',jP,rfl⟩:=hr
  simp only [List.mem_map]at hp
  obtain⟨p',uJ,rfl⟩:=hp
  obtain⟨h1,h2⟩:=h.ok r' (List.mem_of_mem_eraseIdx jP) p' (List.mem_of_mem_eraseIdx uJ)
  rw [aby]
  exact⟨(PB.of h2.cut hs hn).r8,h2.cut⟩
def i9:Nat→List (List (List Int))→List Int
 | 0,_=>[1]
 | n+1,m=>(List.range m.length).foldl (fun d i=>if nth (nth m i) 0 = []then d else if i%2=0 then eV d (bA (nth (nth m i) 0) (i9 n (nP i 0 m)))else dA d (bA (nth (nth m i) 0) (i9 n (nP i 0 m)))) []
structure EB(s n:Nat)(M:List (List (List Int))):Prop where
 ok:∀r∈M,∀x∈r,Bd LL s n x
theorem EB.nth{s n:Nat}{M:List (List (List Int))}(h:EB s n M)(i k:Nat):Bd LL s n (nth (nth M i) k):=by
 by_cases hi:i<M.length
 ·by_cases hk:k<(Pm.nth M i).length
  ·exact h.ok _ (bI hi) _ (bI hk)
  ·rw [gE (l:=Pm.nth M i) (by omega)];exact⟨by show 0≤n;omega,fun c hc=>by cases hc⟩
 ·rw [gE (l:=M) (by omega)];exact⟨by show 0≤n;omega,fun c hc=>by cases hc⟩
theorem EB.tU{s n:Nat}{M:List (List (List Int))}(h:EB s n M)(i k:Nat):EB s n (nP i k M):=⟨fun r hr x hx=>by
 simp only [nP,List.mem_map]at hr
 obtain⟨r',jP,rfl⟩:=hr
 exact h.ok r' (List.mem_of_mem_eraseIdx jP) x (List.mem_of_mem_eraseIdx hx)⟩
theorem EB.mv{s n:Nat}{m:List (List RP)}(h:∀r∈m,∀p∈r,Bd LL s n (p.map gv)):EB s n (mv m):=⟨fun r hr x hx=>by
 simp only [Go.Proofs.YtiobceocpabjdaaGreat.mv,List.mem_map]at hr
 obtain⟨r',jP,rfl⟩:=hr
 simp only [List.mem_map]at hx
 obtain⟨p,hp,rfl⟩:=hx
 exact(h r' jP p hp).cut⟩
theorem pJ{s n S N:Nat}{M:List (List (List Int))}(e:Nat→List Int)(f:Nat→List Int)(he:∀i,Bd LL s n (e i))(hf:∀i,Bd LL S N (f i)):∀j,Bd LL (s+S+n+j) (n+N) ((List.range j).foldl (fun d i=>if e i = []then d else if i%2=0 then eV d (bA (e i) (f i))else dA d (bA (e i) (f i))) [])
 | 0=>⟨by simp,fun c hc=>by cases hc⟩
 | j+1=>by
  have ih:=pJ (M:=M) e f he hf j
  have hp:=(he j).bA eB (hf j)
  rw [List.range_succ,List.foldl_append]
  simp only [List.foldl_cons,List.foldl_nil]
  split
  ·exact ih.mono (by omega) (by omega)
  ·split
   ·exact(Bd.eV eB ih (hp.mono (by omega) (by omega))).mono (by omega) (by omega)
   ·exact(Bd.dA eB ih (hp.mono (by omega) (by omega))).mono (by omega) (by omega)
theorem HS{s n:Nat}:∀(k:Nat) (M:List (List (List Int))),EB s n M→M.length≤4→Bd LL (k*(s+n+4)+1) (k*n+1) (i9 k M)
 | 0,M,_,_=>⟨by simp [i9],fun c hc=>by simp [i9]at hc;subst hc;exact Nat.le_trans (cK (k:=1) eB (by decide)) (by omega)⟩
 | k+1,M,h,h4=>by
  have:=pJ (M:=M) (fun i=>nth (nth M i) 0) (fun i=>i9 k (nP i 0 M)) (fun i=>h.nth i 0) (fun i=>HS k (nP i 0 M) (h.tU i 0) (by have:=List.length_eraseIdx_le M i;simp;omega)) M.length
  rw [i9]
  refine this.mono ?_ ?_
  ·rw [Nat.add_mul k 1];omega
  ·rw [Nat.add_mul k 1];omega
theorem af9{s n:Nat}(hs:s<1073741824)(hn:n<1073741824):∀(k:Nat) (m:List (List RP)),m.length=k→k≤4→MOK s n m→aH env.P 240 [aJ me m] (Po (i9 k (mv m))):=by
 intro k
 induction k with
 | zero =>
  intro m hm _ _
  have hO:=HC [1] (by simp) (by simp)
  refine cA [(0,aJ me m)] Tryz.func240 ?_
  refine aA [0] ?_
  refine W.seq ?_
  refine W.sr ?_
  simp (disch:=omega) [gw,hm]
  refine bO [0,9] ?_
  refine bP ?_ ?_<;>intro h
  ·refine aY [2] hO ?_
   refine W.ret ?_
   have e:aI [1] = [1]:=by decide
   simp [go,i9,e]
  ·exfalso;simp [hm]at h
 | succ k ih =>
  intro m hm hk4 h
  have hM:EB s n (mv m):=EB.mv fun r hr p hp=>(h.ok r hr p hp).2
  have hml:(mv m).length=k+1:=by simp [mv,hm]
  have aiB:=pJ (M:=mv m) (fun i=>nth (nth (mv m) i) 0) (fun i=>i9 k (nP i 0 (mv m))) (fun i=>hM.nth i 0) (fun i=>HS k (nP i 0 (mv m)) (hM.tU i 0) (by have:=List.length_eraseIdx_le (mv m) i;simp;omega))
  have hkb:k*(s+n+4)≤4*(s+n+4):=Nat.mul_le_mul_right _ (by omega)
  have hkn:k*n≤4*n:=Nat.mul_le_mul_right _ (by omega)
  rw [i9,hml]
  refine cA [(0,aJ me m)] Tryz.func240 ?_
  refine cC [0] ?_
  have uR:¬((k:Int)+1=0):=by omega
  refine W.sr ?_
  simp (disch:=omega) [gw,hm,uR]
  refine bO [0,9] ?_
  refine W.cond ⟨_,rfl,fun hb=>?_,fun hb=>?_⟩
  ·exfalso;simp at hb;omega
  refine W.skip ?_
  refine aA [0,3] ?_
  refine W.KB 3 (Po []) (by simp) rfl (fun K hK=>?_)
  refine W.lw [0,3] hK ?_;clear hK K;simp
  refine W.seq ?_
  refine W.sr ?_
  simp (disch:=omega) [gw,hm]
  refine bO [0,3,12,13,14] ?_
  refine W.block ?_
  obtain⟨D,hD⟩:∃D:Nat→List Int,D=fun j=>(List.range j).foldl (fun d i=>if nth (nth (mv m) i) 0 = []then d else if i%2=0 then eV d (bA (nth (nth (mv m) i) 0) (i9 k (nP i 0 (mv m))))else dA d (bA (nth (nth (mv m) i) 0) (i9 k (nP i 0 (mv m))))) []:=⟨_,rfl⟩
  have hDs:∀j,D (j+1)=if nth (nth (mv m) j) 0 = []then D j else if j%2=0 then eV (D j) (bA (nth (nth (mv m) j) 0) (i9 k (nP j 0 (mv m))))else dA (D j) (bA (nth (nth (mv m) j) 0) (i9 k (nP j 0 (mv m)))):=fun j=>by
   rw [hD];simp only [List.range_succ,List.foldl_append,List.foldl_cons,List.foldl_nil]
  have hDb:∀j,j≤4→PB (D j):=fun j hj=>by
   have h1:=aiB j
   rw [hD]
   exact PB.of h1 (by omega) (by omega)
  have hDf:(List.range (k+1)).foldl (fun d i=>if nth (nth (mv m) i) 0 = []then d else if i%2=0 then eV d (bA (nth (nth (mv m) i) 0) (i9 k (nP i 0 (mv m))))else dA d (bA (nth (nth (mv m) i) 0) (i9 k (nP i 0 (mv m))))) []=D (k+1):=by rw [hD]
  rw [hDf]
  have xJ:D 0 = []:=by rw [hD];rfl
  clear hDf hD aiB
  refine W.a8 (fun q σ=>∃(i:Nat) (rows:Pm.Rows) (clk:Nat),σ=⟨fa [(0,aJ me m),(3,Po (D i)),(12,aJ me m),(13, .int .i64 ((k:Int)+1)),(14, .int .i64 i)],rows,clk⟩∧q=k+1-i∧i≤k+1) (k+1) ?_ ?_
  ·exact⟨_,Gh.fr [(0,aJ me m),(3,Po (D 0)),(12,aJ me m),(13, .int .i64 ((k:Int)+1)),(14, .int .i64 (0:Nat))] (by simp [xJ]),0,_,_,rfl,by omega,by omega⟩
  rintro q _ ⟨i,rows,clk,rfl,hq,hi⟩
  have dM:(i:Int)<(k:Int)+1↔i<m.length:=by omega
  refine cC [0,3,12,13,14,15] ?_
  refine W.cond ⟨_,rfl,fun h2=>?_,fun h2=>?_⟩
  ·have h2:i<m.length:=by simp at h2;omega
   have oA:=bI h2
   have ND:=h.sq _ oA
   have I2:0<(nth m i).length:=by omega
   obtain⟨hp1,WR⟩:=h.ok _ oA _ (bI I2)
   have hN:=eG _ hp1
   have hmn:=XK i 0 m (by omega) (by omega) (by omega) (fun r hr=>⟨by have:=h.sq r hr;omega,fun p hp=>(h.ok r hr p hp).1⟩)
   have hmk:=h.tU (by omega) (by omega) h2 (show 0<m.length by omega)
   have axf:(tU i 0 m).length=k:=by simp only [tU,List.length_map,List.length_eraseIdx_of_lt h2];omega
   have aga:=ih (tU i 0 m) axf (by omega) hmk
   have hdb:=HS k (nP i 0 (mv m)) (hM.tU i 0) (by simp only [nP,List.length_map];rw [List.length_eraseIdx_of_lt (by omega)];omega)
   rw [al3]at aga
   have hmul:=FF hp1 WR hdb (by omega)
   have hpb:PB (bA (eF (nth (nth m i) 0)) (i9 k (nP i 0 (mv m)))):=by
    have h5:=(WR.cut).bA eB hdb
    exact PB.of h5 (by omega) (by omega)
   rw [abM]at hmul
   have hmv:=al2 m i 0
   have hD1:=hDs i
   rw [hmv]at hD1
   have ha:=xE (hDb i (by omega)) hpb
   have hs2:=oL (hDb i (by omega)) hpb
   generalize bA (eF (nth (nth m i) 0)) (i9 k (nP i 0 (mv m)))=pr at *
   generalize i9 k (nP i 0 (mv m))=dd at *
   replace hN:aH env.P 64 [Pg (nth (nth m i) 0)] (Po (eF (nth (nth m i) 0))):=hN
   have hlz:((eF (nth (nth m i) 0)).length:Int)=0↔eF (nth (nth m i) 0) = []:=by rw [HH];omega
   generalize eF (nth (nth m i) 0)=c0 at *
   refine W.skip ?_
   refine W.fM (fun σ=>∃(rows:Pm.Rows) (clk:Nat),σ=⟨fa [(0,aJ me m),(3,Po (D (i+1))),(12,aJ me m),(13, .int .i64 ((k:Int)+1)),(14, .int .i64 i)],rows,clk⟩) ?_ ?_
   ·
    refine aA [0,3,4,5,12,13,14] ?_
    refine W.seq ?_
    refine aY [0,3,4,5,12,13,14,24] hN ?_
    refine W.cond ⟨_,rfl,fun h3=>?_,fun h3=>?_⟩
    ·have h3:c0 = []:=by rw [←hlz];simpa using h3
     refine eJ ?_
     refine⟨_,Gh.fr [(0,aJ me m),(3,Po (D (i+1))),(12,aJ me m),(13, .int .i64 ((k:Int)+1)),(14, .int .i64 i)] (by simp [hD1,h3]),_,_,rfl⟩
    ·have h3:c0 ≠ []:=fun h4=>by rw [←hlz]at h4;simp [h4]at h3
     rw [if_neg h3]at hD1
     refine W.skip ?_
     refine kB ?_
     refine b8 hmn ?_
     refine b8 aga ?_
     refine cI [0,3,4,6,12,13,14] hmul ?_
     refine aA [0,3,6,12,13,14,35] ?_
     refine W.cond ⟨_,rfl,fun h4=>?_,fun h4=>?_⟩
     ·have h4:i%2=0:=by simp at h4;omega
      rw [if_pos h4]at hD1
      refine W.b9 (fun K hK=>?_)
      simp (disch:=omega) [gw]
      refine b8 ha ?_
      exact hK _ ⟨_,Gh.fr [(0,aJ me m),(3,Po (D (i+1))),(12,aJ me m),(13, .int .i64 ((k:Int)+1)),(14, .int .i64 i)] (by simp [hD1]),_,_,rfl⟩
     ·have h4:¬i%2=0:=by simp at h4;omega
      rw [if_neg h4]at hD1
      refine W.b9 (fun K hK=>?_)
      simp (disch:=omega) [gw]
      refine b8 hs2 ?_
      exact hK _ ⟨_,Gh.fr [(0,aJ me m),(3,Po (D (i+1))),(12,aJ me m),(13, .int .i64 ((k:Int)+1)),(14, .int .i64 i)] (by simp [hD1]),_,_,rfl⟩
   rintro _ ⟨rows,clk,rfl⟩
   refine W.b9 (fun K hK=>?_);simp (disch:=omega) [gw]
   refine hK _ ⟨k+1-(i+1),_,aC _ [0,3,12,13,14],by omega,i+1,_,_,rfl,by omega,by omega⟩
  ·have h2:i=k+1:=by simp at h2;omega
   subst h2
   refine eJ ?_
   refine aA [2] ?_
   exact cP
def okM(m:List (List RP)):Prop:=(∀r∈m,r.length=m.length)∧m.length≤4
instance (m:List (List RP)):Decidable (okM m):=by unfold okM;infer_instance
theorem agb{s n:Nat}(hs:s<1073741824)(hn:n<1073741824)(m:List (List RP))(hm:m.length<1099511627776)(hr:∀r∈m,r.length<1099511627776 ∧ ∀p∈r,mL p∧Bd LL s n (p.map gv)) :
  aH env.P 179 [aJ me m] (if okM m then .fG [Po (i9 m.length (mv m)), .int .i64 0]else .fG [Po [], .int .i64 1]):=by
 have agc:=af8 m hm fun r h=>(hr r h).1
 by_cases h:okM m
 ·rw [decide_eq_true (show (∀r∈m,r.length=m.length)∧m.length≤4 from h)]at agc
  have aga:=af9 hs hn m.length m rfl h.2 ⟨h.1,fun r hh=>(hr r hh).2⟩
  rw [if_pos h]
  generalize i9 m.length (mv m)=d at *
  refine cA [(0,aJ me m)] Tryz.func179 ?_
  refine aA [0] ?_
  refine W.seq ?_
  refine aY [0,6] agc ?_
  refine W.cond ⟨_,rfl,fun h2=>?_,fun h2=>?_⟩
  ·cases h2
  ·refine W.skip ?_
   refine aY [2,3] aga ?_
   exact cP
 ·rw [decide_eq_false (show ¬((∀r∈m,r.length=m.length)∧m.length≤4)from h)]at agc
  rw [if_neg h]
  refine cA [(0,aJ me m)] Tryz.func179 ?_
  refine aA [0] ?_
  refine W.seq ?_
  refine aY [0,6] agc ?_
  refine W.cond ⟨_,rfl,fun h2=>?_,fun h2=>?_⟩
  ·refine aA [2,3] ?_
   refine W.ret ?_
   simp [go]
   rfl
  ·cases h2
theorem TO(l:List RP)(hl:l.length<1099511627776)(h:∀p∈l,mL p):aH env.P 178 [aJ pe l] (aJ pe (l.map tP)):=by
 refine cA [(0,aJ pe l)] Tryz.func178 ?_
 refine aA [0] ?_
 refine aA [0,3] ?_
 refine W.nil 3 3 24 1 (by simp) (by decide) (fun K hK=>?_)
 refine W.lw [0,3] hK ?_;clear hK K;simp
 refine aM [3,6,7,8] ?_
 refine W.block ?_
 refine W.a8 (fun k σ=>∃(i ver:Nat) (rows:Pm.Rows) (clk:Nat),σ=⟨fa [(3, .own 3 ver 0 i),(6,aJ pe l),(7, .int .i64 l.length),(8, .int .i64 i)],rows,clk⟩∧rows 3=some ⟨ver,24,1,emap pe ((l.take i).map tP)⟩∧k=l.length-i∧i≤l.length) l.length ?_ ?_
 ·exact⟨_, .refl,0,_,_,_,rfl,by simp [emap],by omega,by omega⟩
 rintro k _ ⟨i,ver,rows,clk,rfl,hr,hk,hi⟩
 refine cC [3,6,7,8,9] ?_
 refine W.cond ⟨_,rfl,fun h2=>?_,fun h2=>?_⟩
 ·simp at h2
  have hN:=eG _ (h _ (bI h2))
  rw [show Po (aI ((nth l i).map gv))=Pg (tP (nth l i))from abx _]at hN
  have er:=iQ (f:=tP) h2
  have fF:((l.take i).map tP).length=i:=by simp;omega
  generalize (l.take i).map tP=acc at *
  refine iT ?_
  refine aA [3,5,6,7,8] ?_
  refine W.b9 (fun K hK=>?_)
  simp (disch:=omega) [gw]
  refine aD hN ?_
  simp (disch:=omega) [gw,hr,fF]
  refine W.lw [3,6,7,8] hK ?_;clear hK K;simp
  refine W.b9 (fun K hK=>?_);simp (disch:=omega) [gw]
  refine hK _ ⟨l.length-(i+1),_,aC _ [3,6,7,8],by omega,i+1,_,_,_,rfl,by rw [er];simp,by omega,by omega⟩
 ·simp at h2
  have mQ:i=l.length:=by omega
  subst mQ
  rw [List.take_length]at hr
  have ez:(l.map tP).take l.length=l.map tP:=bJ (by simp)
  refine eJ ?_
  refine aA [2] ?_
  refine W.ret ?_
  simp [go,hr,ez]
def ql(x:List Int):List PV:=[PI x]
def qm(r:List (List Int)):List PV:=[aJ ql r]
@[simp] theorem axg{x:List Int}:ql x = [aJ ri x]:=rfl
@[simp] theorem axh{r:List (List Int)}:qm r = [aJ ql r]:=rfl
@[simp] theorem aoG{l:List (List Int)}:bM 1 (emap ql l)=True:=cN fun _=>rfl
@[simp] theorem aoH{l:List (List (List Int))}:bM 1 (emap qm l)=True:=cN fun _=>rfl
@[simp] theorem al5{v e n:Nat}{l:List (List Int)}:cX (some ⟨v,e,n,emap ql l⟩)=True:=b7 fun _=>rfl
@[simp] theorem al6{v e n:Nat}{l:List (List (List Int))}:cX (some ⟨v,e,n,emap qm l⟩)=True:=b7 fun _=>rfl
@[simp] theorem axi{l:List (List Int)}{x:List Int}:emap ql l ++ [[aJ ri x]]=emap ql (l ++ [x]):=by simp [emap]
@[simp] theorem axj{l:List (List (List Int))}{x:List (List Int)}:emap qm l ++ [[aJ ql x]]=emap qm (l ++ [x]):=by simp [emap]
theorem MOK.okM{s N n:Nat}{M:List (List RP)}(h:MOK s N M)(hl:M.length=n)(h4:n≤4):okM M:=⟨h.sq,by omega⟩
theorem MOK.det{s N n:Nat}{M:List (List RP)}(h:MOK s N M)(hl:M.length=n)(h4:n≤4)(hs:s<1073741824)(hN:N<1073741824):aH env.P 179 [aJ me M] (.fG [Po (i9 n (mv M)), .int .i64 0]):=by
 have:=agb hs hN M (by omega) (fun r hr=>⟨by rw [h.sq r hr];omega,h.ok r hr⟩)
 rw [if_pos (h.okM hl h4),hl]at this
 exact this
def oN(v:CV):List RP:=[v.x.map iM,v.y.map iM,[iM v.d]]
theorem pK(x:List Int):eF (x.map iM)=aI x:=by simp only [eF,bK]
theorem z7{x:List Int}(h:Cn x):tP (x.map iM)=x.map iM:=by
 unfold tP eF
 rw [bK,show aI x=x from h]
theorem HT{d:Int}(h:d≠0):Cn [d]:=iE h []
theorem QG(c:RC):c.nc.d≠0:=fun h=>by
 have h1:=Int.ediv_mul_cancel (xK (eF c.x) (eF c.y) (iv c.s c.l) (List.mem_cons_self ..))
 rw [show dN (iv c.s c.l)/cg (eF c.x) (eF c.y) (iv c.s c.l)=c.nc.d from rfl,h,Int.zero_mul]at h1
 exact vQ _ h1.symm
theorem CG{c:RC}{s n:Nat}(h:c.OK s n):aH env.P 176 [.ag c.cells] (aJ pe (oN c.nc)):=by
 have n1:=lU h
 obtain⟨x1,y1,d1⟩:=h.yW
 have hn:=h.hn
 have hs:=h.hs
 have hd:=QG c
 have r1:=TO (oN c.nc) (by simp [oN]) (fun p hp=>by
  simp only [oN,List.mem_cons,List.not_mem_nil,or_false]at hp
  rcases hp with rfl | rfl | rfl
  ·exact(PB.of x1 (by omega) (by omega)).r8
  ·exact(PB.of y1 (by omega) (by omega)).r8
  ·exact mL.G8 (l:=[c.nc.d]) (fun x hx=>by simp at hx;subst hx;exact Nat.lt_of_le_of_lt d1 (by omega)) (by simp))
 have e1:(oN c.nc).map tP=oN c.nc:=by
  have e2:tP [iM c.nc.d] = [iM c.nc.d]:=z7 (HT hd)
  simp only [oN,List.map_cons,List.map_nil,z7 (show Cn c.nc.x from Cn.cut _),z7 (show Cn c.nc.y from Cn.cut _),e2]
 rw [e1]at r1
 have e3:aJ pe (oN c.nc) = .sl [[Po c.nc.x],[Po c.nc.y],[.sl [[.bool (decide (c.nc.d<0)),aJ u32 (aU LL c.nc.d.natAbs)]]]]:=by
  rw [eT,eT];rfl
 rw [e3]at r1 ⊢
 clear e1 e3 x1 y1 d1
 generalize c.nc=v at *
 simp only [RC.bQ,CV.bQ]at n1 ⊢
 refine cA [(0, .ag [Pg c.x,Pg c.y, .bool c.s,aJ u32 c.l])] Tryz.func176 ?_
 refine aA [1] ?_
 refine aY [1] n1 ?_
 refine aY [2] r1 ?_
 exact cP
theorem ab9{s n:Nat}(n3:1≤n){l:List RC}(h:∀c∈l,c.OK s n)(hl:l.length=3):MOK s n (l.map fun c=>oN c.nc):=⟨fun r hr=>by
 simp only [List.mem_map]at hr
 obtain⟨c,hc,rfl⟩:=hr
 simp [oN,hl],fun r hr p hp=>by
 simp only [List.mem_map]at hr
 obtain⟨c,hc,rfl⟩:=hr
 have h1:=h c hc
 have hn:=h1.hn
 have hs:=h1.hs
 obtain⟨x1,y1,d1⟩:=h1.yW
 simp only [oN,List.mem_cons,List.not_mem_nil,or_false]at hp
 rcases hp with rfl | rfl | rfl
 ·exact⟨(PB.of x1 (by omega) (by omega)).r8,by rw [bK];exact x1⟩
 ·exact⟨(PB.of y1 (by omega) (by omega)).r8,by rw [bK];exact y1⟩
 ·refine⟨mL.G8 (l:=[c.nc.d]) (fun x hx=>by simp at hx;subst hx;exact Nat.lt_of_le_of_lt d1 (by omega)) (by simp),?_⟩
  rw [show [iM c.nc.d] = [c.nc.d].map iM from rfl,bK]
  exact⟨n3,fun x hx=>by simp at hx;subst hx;exact d1⟩⟩
def rJ(v:CV):List (List Int):=[v.x,v.y,[v.d]]
theorem LU{a b c:RC}{s n:Nat}(ha:a.OK s n)(hb:b.OK s n)(hc:c.OK s n)(hs:s<1073741824)(hn:n<1073741824)(n3:1≤n):aH env.P 98 [.ag a.cells, .ag b.cells, .ag c.cells] (Po (i9 3 [rJ a.nc,rJ b.nc,rJ c.nc])):=by
 have r1:=CG ha
 have r2:=CG hb
 have r3:=CG hc
 have d:=(ab9 n3 (l:=[a,b,c]) (fun q hq=>by
  simp only [List.mem_cons,List.not_mem_nil,or_false]at hq
  rcases hq with rfl | rfl | rfl
  ·exact ha
  ·exact hb
  ·exact hc) rfl).det rfl (by simp) hs hn
 have e:∀q:RC,(oN q.nc).map eF=rJ q.nc:=fun q=>by
  have e2:eF [iM q.nc.d] = [q.nc.d]:=by
   rw [show [iM q.nc.d] = [q.nc.d].map iM from rfl,pK];exact HT (QG q)
  simp only [oN,rJ,List.map_cons,List.map_nil,pK,show aI q.nc.x=q.nc.x from Cn.cut _,show aI q.nc.y=q.nc.y from Cn.cut _,e2]
 rw [show mv ([a,b,c].map fun c=>oN c.nc) = [rJ a.nc,rJ b.nc,rJ c.nc]by simp only [mv,List.map_cons,List.map_nil,e]]at d
 replace d:aH env.P 179 [.sl [[aJ pe (oN a.nc)],[aJ pe (oN b.nc)],[aJ pe (oN c.nc)]]] (.fG [Po (i9 [a,b,c].length [rJ a.nc,rJ b.nc,rJ c.nc]), .int .i64 0]):=d
 rw [show [a,b,c].length=3 from rfl]at d
 generalize i9 3 [rJ a.nc,rJ b.nc,rJ c.nc]=r at *
 generalize oN a.nc=ra at *
 generalize oN b.nc=rb at *
 generalize oN c.nc=rc at *
 simp only [RC.bQ]at *
 refine cA [(0, .ag [Pg a.x,Pg a.y, .bool a.s,aJ u32 a.l]),(1, .ag [Pg b.x,Pg b.y, .bool b.s,aJ u32 b.l]),(2, .ag [Pg c.x,Pg c.y, .bool c.s,aJ u32 c.l])] Tryz.func98 ?_
 refine aA [3,4,5] ?_
 refine aA [3,4,5,7] ?_
 refine kB ?_
 refine b8 r1 ?_
 refine b8 r2 ?_
 refine b8 r3 ?_
 refine cI [8] d ?_
 refine aA [6] ?_
 exact cP
def j8(v:CV):List (List Int):=[aL v.x v.d,aL v.y v.d,eV (bA v.x v.x) (bA v.y v.y),[v.d*v.d]]
def mD(v:CV):List RP:=(j8 v).map fun x=>x.map iM
theorem HU{c:RC}{s n:Nat}(h:c.OK s n)(n3:1≤n):∀x∈j8 c.nc,Bd LL (2*s+n+1) (2*n) x∧Cn x:=fun x hx=>by
 obtain⟨x1,y1,d1⟩:=h.yW
 have hd:=QG c
 simp only [j8,List.mem_cons,List.not_mem_nil,or_false]at hx
 rcases hx with rfl | rfl | rfl | rfl
 ·exact⟨(Bd.aL eB x1 d1).mono (by omega) (by omega),Cn.aL _ _⟩
 ·exact⟨(Bd.aL eB y1 d1).mono (by omega) (by omega),Cn.aL _ _⟩
 ·have p1:Bd LL (2*s+n) (2*n) (bA c.nc.x c.nc.x):=(Bd.bA eB x1 x1).mono (by omega) (by omega)
  have p2:Bd LL (2*s+n) (2*n) (bA c.nc.y c.nc.y):=(Bd.bA eB y1 y1).mono (by omega) (by omega)
  exact⟨Bd.eV eB p1 p2,Cn.eV _ _⟩
 ·refine⟨⟨by simp;omega,fun v hv=>?_⟩,HT (Int.mul_ne_zero hd hd)⟩
  simp only [List.mem_cons,List.not_mem_nil,or_false]at hv
  subst hv
  exact Nat.le_trans (cE (b:=LL) eB d1 d1) (show s+s≤2*s+n+1 by omega)
theorem vS{c:RC}{s n:Nat}(h:c.OK s n)(n3:1≤n)(hs:s≤1000000)(hn:n≤1000000):aH env.P 180 [.ag c.cells] (aJ pe (mD c.nc)):=by
 have n1:=lU h
 obtain⟨x1,y1,d1⟩:=h.yW
 have bC:=HU h n3
 have hP:∀x∈j8 c.nc,mL (x.map iM):=fun x hx=>(PB.of (bC x hx).1 (by omega) (by omega)).r8
 have r1:=TO (mD c.nc) (by simp [mD,j8]) (fun p hp=>by
  simp only [mD,List.mem_map]at hp
  obtain⟨x,hx,rfl⟩:=hp
  exact hP x hx)
 have e1:(mD c.nc).map tP=mD c.nc:=by
  conv=>rhs;rw [←List.map_id (mD c.nc)]
  refine List.map_congr_left fun p hp=>?_
  simp only [mD,List.mem_map]at hp
  obtain⟨x,hx,rfl⟩:=hp
  exact z7 (bC x hx).2
 rw [e1]at r1
 have hd:Sz c.nc.d:=Nat.lt_of_le_of_lt d1 (by omega)
 have s1:=fY (x:=c.nc.x) (c:=c.nc.d) (PB.of x1 (by omega) (by omega)) hd
 have s2:=fY (x:=c.nc.y) (c:=c.nc.d) (PB.of y1 (by omega) (by omega)) hd
 have m1:=r9 x1 x1 (by omega)
 have m2:=r9 y1 y1 (by omega)
 have a1:=xE (PB.of (Bd.bA eB x1 x1) (by omega) (by omega)) (PB.of (Bd.bA eB y1 y1) (by omega) (by omega))
 have w1:=s8 hd hd
 have e3:aJ pe (mD c.nc) = .sl [[Po (aL c.nc.x c.nc.d)],[Po (aL c.nc.y c.nc.d)],[Po (eV (bA c.nc.x c.nc.x) (bA c.nc.y c.nc.y))],[.sl [[.bool (decide (c.nc.d*c.nc.d<0)),aJ u32 (aU LL (c.nc.d*c.nc.d).natAbs)]]]]:=by
  rw [eT,eT,eT];rfl
 rw [e3]at r1 ⊢
 clear e1 e3 x1 y1 d1 bC hP hd
 generalize c.nc=v at *
 generalize aL v.x v.d=k1 at *
 generalize aL v.y v.d=k2 at *
 generalize eV (bA v.x v.x) (bA v.y v.y)=k3 at *
 generalize bA v.x v.x=k4 at *
 generalize bA v.y v.y=k5 at *
 generalize v.d*v.d=k6 at *
 simp only [RC.bQ,CV.bQ]at n1 ⊢
 refine cA [(0, .ag [Pg c.x,Pg c.y, .bool c.s,aJ u32 c.l])] Tryz.func180 ?_
 refine aA [1] ?_
 refine aY [1] n1 ?_
 refine kB ?_
 refine b8 s1 ?_
 refine b8 s2 ?_
 refine b8 m1 ?_
 refine b8 m2 ?_
 refine b8 a1 ?_
 refine b8 w1 ?_
 refine cI [2] r1 ?_
 exact cP
theorem aca{s n:Nat}(n3:1≤n)(hs:s≤1000000)(hn:n≤1000000){l:List RC}(h:∀c∈l,c.OK s n)(hl:l.length=4):MOK (2*s+n+1) (2*n) (l.map fun c=>mD c.nc):=⟨fun r hr=>by
 simp only [List.mem_map]at hr
 obtain⟨c,hc,rfl⟩:=hr
 simp [mD,j8,hl],fun r hr p hp=>by
 simp only [List.mem_map]at hr
 obtain⟨c,hc,rfl⟩:=hr
 simp only [mD,List.mem_map]at hp
 obtain⟨x,hx,rfl⟩:=hp
 have:=(HU (h c hc) n3 x hx).1
 exact⟨(PB.of this (by omega) (by omega)).r8,by rw [bK];exact this⟩⟩
theorem vT{c:RC}{s n:Nat}(h:c.OK s n)(n3:1≤n):(mD c.nc).map eF=j8 c.nc:=by
 rw [mD,List.map_map]
 conv=>rhs;rw [←List.map_id (j8 c.nc)]
 refine List.map_congr_left fun x hx=>?_
 simp only [Function.comp_apply,pK,id]
 exact(HU h n3 x hx).2
theorem D6{a b c e:RC}{s n:Nat}(ha:a.OK s n)(hb:b.OK s n)(hc:c.OK s n)(he:e.OK s n)(hs:s≤1000000)(hn:n≤1000000)(n3:1≤n):aH env.P 99 [.ag a.cells, .ag b.cells, .ag c.cells, .ag e.cells] (Po (i9 4 [j8 a.nc,j8 b.nc,j8 c.nc,j8 e.nc])):=by
 have r1:=vS ha n3 hs hn
 have r2:=vS hb n3 hs hn
 have r3:=vS hc n3 hs hn
 have r4:=vS he n3 hs hn
 have d:=(aca n3 hs hn (l:=[a,b,c,e]) (fun q hq=>by
  simp only [List.mem_cons,List.not_mem_nil,or_false]at hq
  rcases hq with rfl | rfl | rfl | rfl
  ·exact ha
  ·exact hb
  ·exact hc
  ·exact he) rfl).det rfl (by simp) (by omega) (by omega)
 rw [show mv ([a,b,c,e].map fun c=>mD c.nc) = [j8 a.nc,j8 b.nc,j8 c.nc,j8 e.nc]by simp only [mv,List.map_cons,List.map_nil,vT ha n3,vT hb n3,vT hc n3,vT he n3]]at d
 replace d:aH env.P 179 [.sl [[aJ pe (mD a.nc)],[aJ pe (mD b.nc)],[aJ pe (mD c.nc)],[aJ pe (mD e.nc)]]] (.fG [Po (i9 [a,b,c,e].length [j8 a.nc,j8 b.nc,j8 c.nc,j8 e.nc]), .int .i64 0]):=d
 rw [show [a,b,c,e].length=4 from rfl]at d
 generalize i9 4 [j8 a.nc,j8 b.nc,j8 c.nc,j8 e.nc]=r at *
 generalize mD a.nc=ra at *
 generalize mD b.nc=rb at *
 generalize mD c.nc=rc at *
 generalize mD e.nc=re' at *
 simp only [RC.bQ]at *
 refine cA [(0, .ag [Pg a.x,Pg a.y, .bool a.s,aJ u32 a.l]),(1, .ag [Pg b.x,Pg b.y, .bool b.s,aJ u32 b.l]),(2, .ag [Pg c.x,Pg c.y, .bool c.s,aJ u32 c.l]),(3, .ag [Pg e.x,Pg e.y, .bool e.s,aJ u32 e.l])] Tryz.func99 ?_
 refine aA [4,5,6,7] ?_
 refine aA [4,5,6,7,9] ?_
 refine kB ?_
 refine b8 r1 ?_
 refine b8 r2 ?_
 refine b8 r3 ?_
 refine b8 r4 ?_
 refine cI [10] d ?_
 refine aA [8] ?_
 exact cP
def still(x y:Int):RC:=⟨(aI [x]).map iM,(aI [y]).map iM,false,[]⟩
theorem vU(x y:Int):(still x y).nc=nC (aI [x]) (aI [y]) 0:=by
 show nC (eF ((aI [x]).map iM)) (eF ((aI [y]).map iM)) (iv false [])=_
 rw [pK,pK,dG,dG];rfl
theorem acb{x y:Int}(hx : -9223372036854775808≤x∧x<9223372036854775808)(hy : -9223372036854775808≤y∧y<9223372036854775808):(still x y).OK 2 1:=by
 have hz:∀v:Int, -9223372036854775808≤v∧v<9223372036854775808→Bd LL 2 1 (aI [v]):=fun v hv=>Bd.cut ⟨by simp,fun c hc=>by
  simp only [List.mem_cons,List.not_mem_nil,or_false]at hc
  subst hc
  exact cK eB (by show c.natAbs<4294967296^2;omega)⟩
 refine⟨(PB.of (hz x hx) (by decide) (by decide)).r8,(PB.of (hz y hy) (by decide) (by decide)).r8,⟨cM.nil,by show 0<1099511627776;decide⟩,?_,?_,?_,by decide,by decide,by decide⟩
 ·show Bd LL 2 1 (((aI [x]).map iM).map gv)
  rw [bK];exact hz x hx
 ·show Bd LL 2 1 (((aI [y]).map iM).map gv)
  rw [bK];exact hz y hy
 ·show sz LL 0≤2
  rw [iU];omega
theorem agd{x y:RP}{s n:Nat}(h:(RC.mk x y false []).OK s n):aH env.P 174 [Pg x,Pg y] (.ag (RC.mk x y false []).nc.cells):=by
 have n1:=h.norm
 generalize (RC.mk x y false []).nc=v at *
 simp only [RC.bQ,CV.bQ]at *
 replace n1:aH env.P 237 [.ag [Pg x,Pg y, .bool false, .sl []]] (.ag [Po v.x,Po v.y, .bool (decide (v.d<0)),aJ u32 (aU LL v.d.natAbs)]):=n1
 refine cA [(0,Pg x),(1,Pg y)] Tryz.func174 ?_
 refine aA [0,1,4] ?_
 refine aY [4] n1 ?_
 exact cP
theorem sE{x y:Int}(hx : -9223372036854775808≤x∧x<9223372036854775808)(hy : -9223372036854775808≤y∧y<9223372036854775808):aH env.P 95 [.int .i64 x, .int .i64 y] (.ag (still x y).nc.cells):=by
 have o1:aH env.P 11 [.sl [[.int .i64 x]]] (Po (aI [x])):=HC [x] (by simp) (by simpa using hx)
 have o2:aH env.P 11 [.sl [[.int .i64 y]]] (Po (aI [y])):=HC [y] (by simp) (by simpa using hy)
 have c1:=agd (acb hx hy)
 rw [←eT,←eT]at c1
 rw [show(RC.mk ((aI [x]).map iM) ((aI [y]).map iM) false [])=still x y from rfl]at c1
 generalize (still x y).nc=v at *
 generalize aI [x]=px at *
 generalize aI [y]=py at *
 simp only [CV.bQ]at *
 refine cA [(0, .int .i64 x),(1, .int .i64 y)] Tryz.func95 ?_
 refine aA [0,1,4] ?_
 refine j4 ?_
 refine b8 o1 ?_
 refine b8 o2 ?_
 refine cI [4] c1 ?_
 exact cP
def CV.rc(v:CV):RC:=⟨v.x.map iM,v.y.map iM,decide (v.d<0),aU LL v.d.natAbs⟩
theorem CV.mE(v:CV):v.rc.cells=v.cells:=by
 simp only [RC.bQ,CV.bQ,CV.rc,←eT]
theorem CV.ext'{a b:CV}(h1:a.x=b.x)(h2:a.y=b.y)(h3:a.d=b.d):a=b:=by
 cases a;cases b;simp only at h1 h2 h3;subst h1 h2 h3;rfl
theorem CV.TP(v:CV):v.rc.nc=nC (aI v.x) (aI v.y) v.d:=by
 show nC (eF (v.x.map iM)) (eF (v.y.map iM)) (iv (decide (v.d<0)) (aU LL v.d.natAbs))=_
 rw [pK,pK,vD]
theorem CV.TQ{v:CV}(hx:Bd LL 2 1 v.x)(hy:Bd LL 2 1 v.y)(hd:sz LL v.d≤2):v.rc.OK 2 1:=by
 refine⟨(PB.of hx (by decide) (by decide)).r8,(PB.of hy (by decide) (by decide)).r8,Sz.WJ (Nat.lt_of_le_of_lt hd (by decide)),?_,?_,?_,by decide,by decide,by decide⟩
 ·show Bd LL 2 1 ((v.x.map iM).map gv)
  rw [bK];exact hx
 ·show Bd LL 2 1 ((v.y.map iM).map gv)
  rw [bK];exact hy
 ·show sz LL (iv (decide (v.d<0)) (aU LL v.d.natAbs))≤2
  rw [vD];exact hd
theorem axk:nC [] [] 0=⟨[],[],1⟩:=CV.ext' (by decide +kernel) (by decide +kernel) (by decide +kernel)
theorem axl:nC [1] [] 0=⟨[1],[],1⟩:=CV.ext' (by decide +kernel) (by decide +kernel) (by decide +kernel)
theorem axm:nC [] [1] 0=⟨[],[1],1⟩:=CV.ext' (by decide +kernel) (by decide +kernel) (by decide +kernel)
theorem axn:nC [1] [1] 0=⟨[1],[1],1⟩:=CV.ext' (by decide +kernel) (by decide +kernel) (by decide +kernel)
theorem axo:nC [] [] 1=⟨[],[],1⟩:=CV.ext' (by decide +kernel) (by decide +kernel) (by decide +kernel)
theorem axp:nC [1] [] 1=⟨[1],[],1⟩:=CV.ext' (by decide +kernel) (by decide +kernel) (by decide +kernel)
theorem axq:nC [] [1] 1=⟨[],[1],1⟩:=CV.ext' (by decide +kernel) (by decide +kernel) (by decide +kernel)
theorem axr:nC [1] [1] 1=⟨[1],[1],1⟩:=CV.ext' (by decide +kernel) (by decide +kernel) (by decide +kernel)
theorem LV:Bd LL 2 1 []∧Bd LL 2 1 [1]:=⟨⟨by decide,fun c hc=>by cases hc⟩,⟨by decide,fun c hc=>by
 simp only [List.mem_cons,List.not_mem_nil,or_false]at hc
 subst hc;exact cK eB (by decide)⟩⟩
theorem Bd1:sz LL 1≤2:=cK eB (by decide)
set_option maxHeartbeats 2000000 in
theorem yY:aH env.P 28 [] (.bool true):=by
 have s1:=sE (x:=0) (y:=0) (by decide) (by decide)
 have s2:=sE (x:=1) (y:=0) (by decide) (by decide)
 have s3:=sE (x:=0) (y:=1) (by decide) (by decide)
 have s4:=sE (x:=1) (y:=1) (by decide) (by decide)
 rw [vU,show aI [0]=([]:List Int)from rfl,axk]at s1
 rw [vU,show aI [0]=([]:List Int)from rfl,show aI [1]=([1]:List Int)from rfl,axl]at s2
 rw [vU,show aI [0]=([]:List Int)from rfl,show aI [1]=([1]:List Int)from rfl,axm]at s3
 rw [vU,show aI [1]=([1]:List Int)from rfl,axn]at s4
 have k1:(CV.mk [] [] 1).rc.OK 2 1:=CV.TQ LV.1 LV.1 Bd1
 have k2:(CV.mk [1] [] 1).rc.OK 2 1:=CV.TQ LV.2 LV.1 Bd1
 have k3:(CV.mk [] [1] 1).rc.OK 2 1:=CV.TQ LV.1 LV.2 Bd1
 have k4:(CV.mk [1] [1] 1).rc.OK 2 1:=CV.TQ LV.2 LV.2 Bd1
 have e1:(CV.mk [] [] 1).rc.nc=⟨[],[],1⟩:=(CV.TP _).trans axo
 have e2:(CV.mk [1] [] 1).rc.nc=⟨[1],[],1⟩:=(CV.TP _).trans axp
 have e3:(CV.mk [] [1] 1).rc.nc=⟨[],[1],1⟩:=(CV.TP _).trans axq
 have e4:(CV.mk [1] [1] 1).rc.nc=⟨[1],[1],1⟩:=(CV.TP _).trans axr
 have o:=LU k1 k2 k3 (by decide) (by decide) (by decide)
 have i:=D6 k1 k2 k3 k4 (by decide) (by decide) (by decide)
 rw [e1,e2,e3,CV.mE,CV.mE,CV.mE,show i9 3 [rJ ⟨[],[],1⟩,rJ ⟨[1],[],1⟩,rJ ⟨[],[1],1⟩] = [1]by decide +kernel]at o
 rw [e1,e2,e3,e4,CV.mE,CV.mE,CV.mE,CV.mE,show i9 4 [j8 ⟨[],[],1⟩,j8 ⟨[1],[],1⟩,j8 ⟨[],[1],1⟩,j8 ⟨[1],[1],1⟩] = []by decide +kernel]at i
 have o1:aH env.P 97 [.sl [[.int .i64 1]]] (PI [1]):=HG [1] (by decide) (by decide)
 have q1:=W7 [1] [1] (by decide) (by decide) (fun c hc=>by
  simp only [List.mem_cons,List.not_mem_nil,or_false]at hc
  subst hc;exact Nat.lt_of_le_of_lt (cK (k:=1) (by decide) (by decide)) (by decide)) (fun c hc=>by
  simp only [List.mem_cons,List.not_mem_nil,or_false]at hc
  subst hc;exact Nat.lt_of_le_of_lt (cK (k:=1) (by decide) (by decide)) (by decide))
 simp only [decide_true]at q1
 clear k1 k2 k3 k4 e1 e2 e3 e4
 generalize CV.mk [] [] 1=v1 at *
 generalize CV.mk [1] [] 1=v2 at *
 generalize CV.mk [] [1] 1=v3 at *
 generalize CV.mk [1] [1] 1=v4 at *
 generalize ([1]:List Int)=L1 at *
 simp only [CV.bQ]at *
 refine cA [] Tryz.func28 ?_
 refine aA [] ?_
 refine j4 ?_
 refine b8 s1 ?_
 refine b8 s2 ?_
 refine b8 s3 ?_
 refine cI [1,2,3,4] s4 ?_
 refine kB ?_
 refine b8 o1 ?_
 refine b8 o ?_
 refine b8 q1 ?_
 refine cI [0] i ?_
 exact cP
structure PT where
 c:RC
 id:Int
instance:Inhabited PT:=⟨⟨⟨[],[],false,[]⟩,0⟩⟩
def gT(p:PT):List PV:=[Pg p.c.x,Pg p.c.y, .bool p.c.s,aJ u32 p.c.l, .int .i64 p.id]
@[simp] theorem mZ{p:PT}:gT p = [Pg p.c.x,Pg p.c.y, .bool p.c.s,aJ u32 p.c.l, .int .i64 p.id]:=rfl
@[simp] theorem al7{l:List PT}:bM 5 (emap gT l)=True:=cN fun _=>rfl
structure PT.In(p:PT):Prop where
 x:InP p.c.x
 y:InP p.c.y
 l:cM 4294967296 p.c.l
 ll:p.c.l.length<9223372036854775808
theorem XM:qZ Tryz.prog 71 (fun ps=>∃c:RC,ps=c.cells∧InP c.x∧InP c.y∧InL c.l):=
 (qZ.struct (fs:=[⟨ "X",24,0,false, "", "",0⟩,⟨ "Y",24,1,false, "", "",24⟩,⟨ "D",38,2,false, "", "", 48⟩]) (Rs:=[fun ps=>∃p:RP,ps=pe p∧InP p,fun ps=>∃p:RP,ps=pe p∧InP p,fun ps=>∃c:Bool × List Int,ps=ge c∧InL c.2]) (by kernel_rfl)
  ⟨rfl,LF,by kernel_rfl,LF,by kernel_rfl,S9,by show(_:Nat)=_;kernel_rfl⟩).mono fun ps h=>by
  simp only [WN]at h
  obtain⟨a,b,rfl,⟨x,rfl,hx⟩,a',b',rfl,⟨y,rfl,hy⟩,a'',b'',rfl,⟨d,rfl,hd⟩,rfl⟩:=h
  exact⟨⟨x,y,d.1,d.2⟩,rfl,hx,hy,hd⟩
theorem LW{c:RC}(h:c.Small 3 1):c.nc.Sz 32 3:=by
 obtain⟨x,y,d,_⟩:=h.bd2
 exact⟨x,y,d,by decide,by decide,by decide⟩
theorem LX(x y:List Int){s s' N:Nat}(hx:Bd 2 s N x)(hy:Bd 2 s' N y)(cx:Cn x)(cy:Cn y)(PJ:0<y.length)(hs:1≤s)(hB:s+(N+1)*(s'+N+2)+s'+N+N+10<137438953472) :
  aH env.P 256 [PP (qs x),PP (qs y)] (.fG [PP (qd (aI (dmd x y).Q) (dmd x y).D),PP (qd (dmd x y).r (dmd x y).D)]):=by
 have hNx:=hx.len
 have hNy:=hy.len
 have hl:=dB cy PJ
 have hls:=gH hy
 have hM:x.length+1≤N+1:=by omega
 refine cY (E:=env) (fun id=>if id=17 then 2 else 0) [(0,PP (qs x)),(1,PP (qs y))] Tryz.func256 rfl (by kernel_rfl) (by kernel_rfl) (show 2≤84 by decide) (by simp) ?_
 obtain⟨R0,OJ⟩:∃R0,R0=XD y (x.length+1) ⟨List.replicate (i4 x y) 0,x,1⟩:=⟨_,rfl⟩
 rw [show dmd x y=R0 from OJ.symm]
 have hkN:i4 x y≤N:=by unfold i4;omega
 have hkk:(if (x.length:Int)-(y.length:Int)+1<0 then 0 else(x.length:Int)-(y.length:Int)+1)=(i4 x y:Int):=by unfold i4;split<;>omega
 have hI0:tT x y ⟨List.replicate (i4 x y) 0,x,1⟩:=tT.start cx
 generalize uR:i4 x y=k0 at *
 obtain⟨a0,ha0⟩:∃a0,a0=qs x:=⟨_,rfl⟩
 obtain⟨yq,hyq⟩:∃yq,yq=qs y:=⟨_,rfl⟩
 have la0:a0.length=x.length:=by rw [ha0];simp
 have lyq:yq.length=y.length:=by rw [hyq];simp
 rw [←ha0,←hyq]
 refine aA [0,1] ?_
 refine W.sr ?_
 simp (disch:=omega) [gw,la0,lyq,hkk]
 refine bO [0,1,6] ?_
 refine aM [0,1,6,21,22] ?_
 refine W.block ?_
 refine W.a8 (fun k σ=>∃(i ver:Nat) (els:List (List PV)) (rows:Pm.Rows) (clk:Nat),σ=⟨fa [(0,PP a0),(1,PP yq),(6, .own 19 ver 0 k0),(21, .int .i64 k0),(22, .int .i64 i)],rows,clk⟩ ∧
  rows 19=some ⟨ver,31,4,els⟩∧els.length=k0∧(∀e∈els,e.length=4)∧els.take i=emap ri (List.replicate i 0)∧k=k0-i∧i≤k0) k0 ?_ ?_
 ·exact⟨_, .refl,0,_,List.replicate k0 [.nil, .bool false, .nil, .bool false],_,_,rfl,by simp,by simp,by simp,by simp [emap],by omega,by omega⟩
 rintro k _ ⟨i,ver,els,rows,clk,rfl,hr,oQ,LD,B9,hk,hi⟩
 have WL:bM 4 els=True:=by simp only [bM,eq_iff_iff,iff_true];exact LD
 refine cC [0,1,6,21,22,23] ?_
 refine bP ?_ ?_<;>intro h
 ·have h:i<k0:=by simp at h;omega
  refine iT ?_
  refine aA [0,1,6,7,21,22] ?_
  refine W.b9 (fun K hK=>?_)
  simp (disch:=omega) [gw]
  refine aD oK ?_
  have wQ:i<els.length:=by omega
  have hE:uW els i 4=True:=by
   simp only [eq_iff_iff,iff_true]
   exact⟨els[i],List.getElem?_eq_getElem wQ,by rw [LD _ (List.getElem_mem wQ)];omega⟩
  have hS:jF els i 0 [aJ aF (aU DD 0), .bool false,aJ aF (aU DD 1), .bool false]=els.set i (ri 0):=by
   have h4:=LD _ (List.getElem_mem wQ)
   rw [jF,List.getElem?_eq_getElem wQ]
   simp [List.drop_of_length_le,h4]
  simp (disch:=omega) [gw,hr,hE,hS]
  refine W.lw [0,1,6,21,22] hK ?_;clear hK K;simp
  refine W.b9 (fun K hK=>?_);simp (disch:=omega) [gw]
  refine hK _ ⟨k0-(i+1),_,aC _ [0,1,6,21,22],by omega,i+1,ver,els.set i (ri 0),_,_,rfl,by simp,by simpa using oQ,fun e he=>?_,?_,by omega,by omega⟩
  ·rcases List.mem_or_eq_of_mem_set he with h1 | h1
   ·exact LD e h1
   ·rw [h1];rfl
  ·rw [kX B9 (by omega),List.replicate_succ']
   simp [emap]
 have h:i=k0:=by simp at h;omega
 subst h
 have oS:els=emap re (qd (List.replicate i 0) 1):=by rw [tS,CB,←B9,bJ oQ]
 subst oS
 rw [show a0=qd x 1 by rw [ha0,tS]]
 clear B9 LD oQ WL hk hi hkk ha0 la0 a0
 refine eJ ?_
 refine W.seq ?_
 refine W.block ?_
 generalize hdd:s'+N+2=d at *
 have hNN:∀j,(x.length+1-j)*d≤(N+1)*d:=fun j=>Nat.mul_le_mul_right _ (by omega)
 refine W.a8 (fun n σ=>∃(Q r:List Int) (D:Int) (v6:Nat) (rows:Pm.Rows) (clk:Nat),σ=⟨fa [(0,PP (qd r D)),(1,PP yq),(6, .own 19 v6 0 i)],rows,clk⟩ ∧
  rows 19=some ⟨v6,31,4,emap re (qd Q D)⟩∧Q.length=i∧tT x y ⟨Q,r,D⟩∧r.length<n∧n≤x.length+1∧XD y n ⟨Q,r,D⟩=R0∧Bd 2 (s+(x.length+1-n)*d) N r∧sz 2 D≤s+(x.length+1-n)*d) (x.length+1) ?_ ?_
 ·exact⟨_,aC _ [0,1,6],_,x,1,_,_,_,rfl,hr,by simp,hI0,by omega,by omega,OJ.symm,hx.mono (by omega) (by omega),Nat.le_trans (cK (k:=1) (by decide) (by decide)) (by omega)⟩
 clear hr rows clk ver
 rintro n _ ⟨Q,r,D,v6,rows,clk,rfl,hr,hQ,hI,hrn,hnM,hd,br,bD⟩
 have hD:D≠0:=hI.d
 have S2:=hNN n
 obtain⟨a,ha⟩:∃a,a=qd r D:=⟨_,rfl⟩
 have la:a.length=r.length:=by rw [ha];simp
 rw [←ha]
 refine W.seq ?_
 refine W.sr ?_
 simp (disch:=omega) [gw,la,lyq]
 refine bO [0,1,6,34] ?_
 refine bP ?_ ?_<;>intro h
 ·have h:y.length≤r.length:=by simp at h;omega
  obtain⟨n,rfl⟩:∃m,n=m+1:=⟨n-1,by omega⟩
  obtain⟨k,hk⟩:∃k,k=r.length-y.length:=⟨_,rfl⟩
  have hkI:(r.length:Int)-(y.length:Int)=k:=by omega
  have hki:k<i:=by have:=hI.q.resolve_right (show ¬r.length<y.length by omega);simp only at this;omega
  have hI2:=hI.step cy PJ h
  have NG:=HL (σ:=⟨Q,r,D⟩) PJ h
  rw [XD,if_neg (show ¬r.length<y.length by omega)]at hd
  simp only [dst,←hk]at hI2 NG hd
  have hT:s+(x.length+1-n)*d=s+(x.length+1-(n+1))*d+d:=by
   rw [show x.length+1-n=(x.length+1-(n+1))+1 by omega,Nat.add_mul,Nat.one_mul];omega
  have hn3:=hNN n
  generalize hU:s+(x.length+1-(n+1))*d=U at *
  have hlr:=gH br
  have hNr:=br.len
  have KU:D*lead y≠0:=Int.mul_ne_zero hD hl
  have zD2:sz 2 (D*lead y)≤U+s':=cE (by decide) bD hls
  have hp:nth a (r.length-1)=dJ (lead r) D:=by rw [ha,HK hD];rfl
  have KT:nth yq (y.length-1)=(lead y:Rat):=by rw [hyq,abL];rfl
  have asi:=B8 (dJ (lead r) D) (lead y:Rat) (rG hD (Nat.le_trans hlr (by show U≤137438953472;omega)) (Nat.le_trans bD (by show U≤137438953472;omega))) (nQ (Nat.le_trans hls (by show s'≤137438953472;omega)) (by decide)) (fP hl)
  rw [afY hD hl]at asi
  have hSc:=kK yq (dJ (lead r) (D*lead y)) (by rw [hyq];exact PZ.qs (fun c hc=>Nat.le_trans (hy.sz c hc) (by show s'≤137438953472;omega)) (by omega)) (rG KU (Nat.le_trans hlr (by show U≤137438953472;omega)) (Nat.le_trans zD2 (by show U+s'≤137438953472;omega)))
  rw [hyq,xG KU,←hyq]at hSc
  have bsc:Bd 2 (U+s') N (aL y (lead r)):=(hy.aL (by decide) hlr).mono (by omega) (by omega)
  have bw:Bd 2 (U+s') N (List.replicate k 0++aL y (lead r)):=⟨by have:=pA y (lead r);simp;omega,fun c hc=>by
   rcases List.mem_append.1 hc with h1 | h1
   ·rw [(List.mem_replicate.1 h1).2,iU];omega
   ·exact bsc.sz c h1⟩
  have brl:Bd 2 (U+s') N (r.map (· * lead y)):=⟨by simpa using br.len,fun c hc=>by
   simp only [List.mem_map]at hc
   obtain⟨v,hv,rfl⟩:=hc
   exact cE (by decide) (br.sz v hv) hls⟩
  have hSu:=abY (qd (r.map (· * lead y)) (D*lead y)) (qd (List.replicate k 0++aL y (lead r)) (D*lead y)) _
   (xH KU brl zD2 (by show U+s'≤137438953472;omega) (by omega)) (xH KU bw zD2 (by show U+s'≤137438953472;omega) (by omega)) (af1 KU _) (xH KU bw.fW zD2 (by show U+s'≤137438953472;omega) (by omega))
  rw [afZ KU,CA hD hl,←ha]at hSu
  have er:eV (r.map (· * lead y)) (fW (List.replicate k 0++aL y (lead r)))=wO y (lead y) (lead r) k r:=Cn.ext (Cn.eV _ _) (Cn.dA _ _) fun t=>by
   rw [o8,dH,w8,dU,pY,cG,wO,gG,cG,c7,mV,List.length_replicate];grind
  have br2:Bd 2 (U+d) N (wO y (lead y) (lead r) k r):=by
   rw [←er]
   exact(Bd.eV (by decide) brl bw.fW).mono (by omega) (by omega)
  rw [er]at hSu
  have ew:qd (List.replicate k 0++aL y (lead r)) (D*lead y)=List.replicate k 0++qd (aL y (lead r)) (D*lead y):=by
   simp only [qd,List.map_append,List.map_replicate,vO KU]
  rw [ew]at hSu
  have lb:(qd (aL y (lead r)) (D*lead y)).length≤N:=by have:=bsc.len;simpa using this
  have abO:(qd Q D).set k (dJ (lead r) (D*lead y))=qd ((Q.map (· * lead y)).set k (lead r)) (D*lead y):=by
   rw [←CA hD hl Q,qd,qd,List.map_set]
  have hQl:(qd Q D).length=i:=by simpa using hQ
  refine W.skip ?_
  refine W.block ?_
  generalize hz:qd Q D=z at *
  generalize qd (aL y (lead r)) (D*lead y)=b at *
  generalize Y8:dJ (lead r) (D*lead y)=c at *
  generalize WR:dJ (lead r) D=p at *
  generalize hlq:(lead y:Rat)=lq at *
  generalize ha2:qd (wO y (lead y) (lead r) k r) (D*lead y)=a2 at *
  refine W.sr ?_
  simp (disch:=omega) [gw,la,lyq,hkI]
  refine bO [0,1,6,8] ?_
  have aCr:0<r.length:=by omega
  have e1:((r.length:Int)-1).toNat=r.length-1:=by omega
  have e2:((y.length:Int)-1).toNat=y.length-1:=by omega
  refine W.sd ?_
  simp (disch:=omega) [gw,la,lyq,e1,e2,hp,KT]
  refine b8 asi ?_
  rw [if_pos (by kernel_rfl)]
  simp (disch:=omega) [gw]
  refine bO [0,1,6,8,9] ?_
  have hkl:k<z.length:=by omega
  refine W.sr ?_
  simp (disch:=omega) [gw,hr,hkl]
  refine bO [0,1,6,8,9] ?_
  refine aA [0,1,6,8,9,10] ?_
  refine aM [0,1,6,8,9,10,60,61] ?_
  refine W.block ?_
  refine W.a8 (fun m σ=>∃(j v9 v10 v6:Nat) (els:List (List PV)) (rows:Pm.Rows) (clk:Nat),σ=⟨fa [(0,PP a),(1,PP yq),(6, .own 19 v6 0 i),(9, .ptr 9 v9 0 0),(10, .own 58 v10 0 k),(60, .int .i64 k),(61, .int .i64 j)],rows,clk⟩ ∧
   rows 19=some ⟨v6,31,4,emap re (z.set k c)⟩∧rows 9=some ⟨v9,31,4,[[aJ aF (aU DD c.num.natAbs), .bool (decide (c.num<0)),aJ aF (aU DD c.den), .bool false]]⟩ ∧
   rows 58=some ⟨v10,31,4,els⟩∧els.length=k∧(∀e∈els,e.length=4)∧els.take j=emap ri (List.replicate j 0)∧m=k-j∧j≤k) k ?_ ?_
  ·exact⟨_,aC _ [0,1,6,9,10,60,61],0,_,_,_,List.replicate k [.nil, .bool false, .nil, .bool false],_,_,rfl,by simp [hr],by simp,by simp,by simp,by simp,by simp [emap],by omega,by omega⟩
  clear hr rows clk v6
  rintro m _ ⟨j,v9,v10,v6,els,rows,clk,rfl,hr,tV,j7,oQ,LD,B9,hm,hj⟩
  have WL:bM 4 els=True:=by simp only [bM,eq_iff_iff,iff_true];exact LD
  refine cC [0,1,6,9,10,60,61,62] ?_
  refine bP ?_ ?_<;>intro h
  ·have h:j<k:=by simp at h;omega
   refine iT ?_
   refine aA [0,1,6,9,10,11,60,61] ?_
   refine W.b9 (fun K hK=>?_)
   simp (disch:=omega) [gw]
   refine aD oK ?_
   have wQ:j<els.length:=by omega
   have hE:uW els j 4=True:=by
    simp only [eq_iff_iff,iff_true]
    exact⟨els[j],List.getElem?_eq_getElem wQ,by rw [LD _ (List.getElem_mem wQ)];omega⟩
   have hS:jF els j 0 [aJ aF (aU DD 0), .bool false,aJ aF (aU DD 1), .bool false]=els.set j (ri 0):=by
    have h4:=LD _ (List.getElem_mem wQ)
    rw [jF,List.getElem?_eq_getElem wQ]
    simp [List.drop_of_length_le,h4]
   simp (disch:=omega) [gw,j7,hE,hS]
   refine W.lw [0,1,6,9,10,60,61] hK ?_;clear hK K;simp
   refine W.b9 (fun K hK=>?_);simp (disch:=omega) [gw]
   refine hK _ ⟨k-(j+1),_,aC _ [0,1,6,9,10,60,61],by omega,j+1,v9,v10,v6,els.set j (ri 0),_,_,rfl,by simp [hr],by simp [tV],by simp,by simpa using oQ,fun e he=>?_,?_,by omega,by omega⟩
   ·rcases List.mem_or_eq_of_mem_set he with h1 | h1
    ·exact LD e h1
    ·rw [h1];rfl
   ·rw [kX B9 (by omega),List.replicate_succ']
    simp [emap]
  have h:j=k:=by simp at h;omega
  subst h
  have oS:els=emap re (List.replicate j 0):=by
   have h1:emap ri (List.replicate j 0)=emap re (List.replicate j 0):=by simp [emap,fN]
   rw [←h1,←B9,bJ oQ]
  subst oS
  clear B9 LD oQ WL
  refine eJ ?_
  refine W.BI (fun K hK=>?_)
  rw [if_pos rfl,fE]
  have hsl:((List.take r.length a).drop 0)=a:=by rw [List.drop_zero,List.take_of_length_le (by omega)]
  simp (disch:=omega) [gw,la,lyq,tV,GP,hsl]
  refine aD hSc ?_
  have DW:List.take (j+b.length) (List.replicate j 0++b)=List.replicate j 0++b:=List.take_of_length_le (by simp)
  simp (disch:=omega) [gw,j7,DW]
  refine b8 hSu ?_
  subst ha2
  have cR:rows 19=some ⟨v6,31,4,emap re (qd ((Q.map (· * lead y)).set j (lead r)) (D*lead y))⟩:=by rw [hr,abO]
  refine hK _ ⟨n,_,aC _ [0,1,6],by omega,(Q.map (· * lead y)).set j (lead r),wO y (lead y) (lead r) j r,D*lead y,v6,_,_,rfl,by simp [cR],by simpa using hQ,hI2,by omega,by omega,hd,?_,?_⟩
  ·rw [hT];exact br2
  ·rw [hT];exact Nat.le_trans zD2 (by omega)
 ·have h:r.length<y.length:=by simp at h;omega
  rw [af2 h]at hd
  subst hd
  refine eJ ?_
  have hcq:=vL (qd Q D) (by simp;omega)
  rw [sC hD]at hcq
  have hQl:(qd Q D).length=i:=by simpa using hQ
  have tM:=bJ hQl
  rw [←ha]
  generalize qd Q D=z at *
  generalize qd (aI Q) D=z2 at *
  refine W.sr ?_
  simp (disch:=omega) [gw,hr,tM]
  refine cI [4,5] hcq ?_
  exact cP
theorem LY{x y:List Int}(cy:Cn y)(hy:0<y.length):∀(j:Nat),j≤x.length→exs y j (List.replicate j 0++x.drop j) (bA (aI (x.take j)) y)=some (x,[])
 | 0,_=>by
  have:bA (aI (x.take 0)) y = []:=Cn.ext (Cn.bA _ _) Cn.nil fun t=>by rw [c7,cV];simp [V]
  rw [exs,this];rfl
 | j+1,h=>by
  have ih:=LY (x:=x) cy hy j (by omega)
  have hly:=dB cy hy
  have ht:=aT (l:=x) (i:=j) (by omega)
  have hdr:x.drop j=nth x j::x.drop (j+1):=by
   rw [List.drop_eq_getElem_cons (l:=x) (i:=j) (by omega),show nth x j=x[j]from c9 (by omega)]
  rw [exs]
  by_cases hv:nth x j=0
  ·have hw:aI (x.take (j+1))=aI (x.take j):=by rw [ht,hv,jH]
   rw [hw]
   have h1:=qV (x:=aI (x.take j)) hy
   have h2:=bU (x.take j)
   rw [List.length_take]at h2
   rw [if_pos (by omega),←ih]
   rw [hdr,hv,List.replicate_succ',List.append_assoc];rfl
  ·have hw:aI (x.take (j+1))=x.take j ++ [nth x j]:=by rw [ht];exact iE hv _
   have cw:Cn (x.take j ++ [nth x j]):=iE hv _
   have hwl:(x.take j ++ [nth x j]).length=j+1:=by simp;omega
   have hlw:lead (x.take j ++ [nth x j])=nth x j:=by
    rw [lead,hwl,Nat.add_sub_cancel,c9 (by omega)]
    have:(x.take j).length=j:=by simp;omega
    simp [List.getElem_append_right,this]
   rw [hw]
   have hl:=jL cw cy (by omega) hy
   have hd:=w9 cw cy (by omega) hy
   rw [hwl]at hl
   rw [hlw]at hd
   rw [if_neg (by omega),hd,if_pos (Int.mul_emod_left _ _),Int.mul_ediv_cancel _ hly]
   have e1:dA (bA (x.take j ++ [nth x j]) y) (bA (p8 j (nth x j)) y)=bA (aI (x.take j)) y:=Cn.ext (Cn.dA _ _) (Cn.bA _ _) fun t=>by
    rw [gG,c7,c7,c7,cV,dU,mS,mV,show(x.take j).length=j by simp;omega]
    grind
   have e2:(List.replicate (j+1) 0++x.drop (j+1)).set j (nth x j)=List.replicate j 0++x.drop j:=by
    rw [hdr,List.replicate_succ',List.append_assoc,List.set_append_right _ _ (by simp)]
    simp
   rw [e1,e2]
   exact ih
theorem QH{x y:List Int}(cx:Cn x)(cy:Cn y)(hy:0<y.length):exact (bA x y) y=some x:=by
 have hk:i4 (bA x y) y=x.length:=by
  rcases Nat.eq_zero_or_pos x.length with h | h
  ·have:x = []:=List.eq_nil_of_length_eq_zero h
   have e:bA x y = []:=Cn.ext (Cn.bA _ _) Cn.nil fun t=>by rw [c7,this];simp [V]
   rw [e,this];simp [i4];omega
  ·have:=jL cx cy h hy
   unfold i4;omega
 have h1:=LY (x:=x) cy hy x.length (Nat.le_refl _)
 rw [List.take_length,show aI x=x from cx,List.drop_length,List.append_nil]at h1
 rw [exact,hk,h1,exF,show aI x=x from cx]
theorem HV{y h:List Int}(cy:Cn y)(hy:0<y.length)(e:∀t,V t y*V t h=0):aI h = []:=by
 by_cases hh:aI h = []
 ·exact hh
 ·exfalso
  have h1:bA y (aI h) = []:=Cn.ext (Cn.bA _ _) Cn.nil fun t=>by rw [c7,cV,e];rfl
  have h2:=jL cy (Cn.cut h) hy (List.length_pos_iff.2 hh)
  rw [h1]at h2
  have:=List.length_pos_iff.2 hh
  simp at h2;omega
theorem LZ{a b:List Int}(h:aI (dA a b) = [])(t:Int):V t a=V t b:=by
 have h1:=gG (t:=t) a b
 rw [←cV,h]at h1
 have:V t ([]:List Int)=0:=rfl
 omega
theorem XN{D:Int}(h:D≠0)(x:List Int):qd (x.map (· * D)) D=qs x:=by
 have:=CA (D:=1) (l:=D) (by decide) h x
 rw [Int.one_mul,tS]at this
 exact this
theorem acd{x y q:List Int}(cx:Cn x)(cy:Cn y)(hy:0<y.length)(cq:Cn q)(h:∀t,V t x=V t q*V t y):qd (aI (dmd x y).Q) (dmd x y).D=qs q∧(dmd x y).r = []:=by
 obtain⟨hI,hr⟩:=af3 cx cy hy
 generalize dmd x y=σ at *
 have hv:=hI.v
 have e:∀t,V t σ.r=V t y*V t (dA (q.map (· * σ.D)) σ.Q):=fun t=>by
  have h1:=hv t
  rw [h]at h1
  rw [gG,dH]
  grind
 have h1:=E1 hI.c cy hy e hr
 have h2:aI (dA (q.map (· * σ.D)) σ.Q) = []:=HV cy hy fun t=>by rw [←e,h1];rfl
 have e2:aI σ.Q=q.map (· * σ.D):=Cn.ext (Cn.cut _) (i6 cq hI.d) fun t=>by rw [cV];exact(LZ h2 t).symm
 rw [e2]
 exact⟨XN hI.d q,h1⟩
end Go.Proofs.YtiobceocpabjdaaGreat
