import Derived.Test.YtelhfbikiccfkaaGreatDak
import Derived.Test.YtelhfbikiccfkaaGreatDal
set_option linter.unusedSimpArgs false
set_option linter.unusedVariables false
namespace Go.Proofs.YtelhfbikiccfkaaGreat
open Go Pm
def CV.doc(c:CV):List PV:=PP (qd c.x c.d)::PP (qd c.y c.d)::c.cells
@[simp] theorem CV.nP{c:CV}:c.doc = [PP (qd c.x c.d),PP (qd c.y c.d),Po c.x,Po c.y, .bool (decide (c.d<0)),aG u32 (aP LL c.d.natAbs)]:=rfl
theorem UY{D:Int}(h:D≠0){x:List Int}(cx:Cn x):gL (qd x D) (D:Rat)=qs x:=by
 have h0:=gP h
 have:(qd x D).map (fun q=>q*(D:Rat))=qs x:=by
  simp only [qd,qs,List.map_map]
  congr 1
  funext v
  simp only [Function.comp_apply]
  rw [fH h]
  exact Rat.div_mul_cancel h0
 rw [gL,this,←jB,uT (by decide),show aL x=x from cx]
theorem BQ{x:List Int}{D:Int}{k n:Nat}(hD:D≠0)(cx:Cn x)(hx:Bd 2 k n x)(hd:sz 2 D≤k)(hk:k≤YY)(XN:1≤k)(hn:n<1099511627776):aD env.P 259 [PP (qd x D),RI D] (PI x):=by
 have o1:=i0 1 (by decide) (by decide)
 have m1:=uP D (by show sz 2 D<549755813888;have:YY=137438953472:=rfl;omega)
 have s1:=mA (qd x D) (D:Rat) (wN hD hx hd hk hn) (pN (Nat.le_trans hd hk) (by decide))
 rw [UY hD cx,RR,gK,nB]at s1
 generalize qd x D=q at *
 refine b6 [(0,PP q),(1,RI D)] Tryz.func259 ?_
 refine aA [0,3,4] ?_
 refine iQ ?_
 refine bW o1 ?_
 refine bW m1 ?_
 refine bU [4] s1 ?_
 exact b7
theorem aeS{D:Nat}(hD:0<D)(x:List Int)(i:Nat):CL ((qd x D).take i)=(D/PW D (x.take i):Nat):=by
 rw [←z8 hD,qd,←List.map_take]
set_option maxHeartbeats 2000000 in
theorem LJ{x y:List Int}{D:Nat}{k n:Nat}(hD:0<D)(cx:Cn x)(cy:Cn y)(hg:PW D (x++y)=1)(hx:Bd 2 k n x)(hy:Bd 2 k n y)(hd:sz 2 (D:Int)≤k)(hk:k≤10000000000)(XN:1≤k)(hn:n<500000000000) :
  aD env.P 242 [PP (qd x D),PP (qd y D)] (.ag (CV.doc ⟨x,y,(D:Int)⟩)):=by
 have hY:YY=137438953472:=rfl
 have vA:(D:Int)≠0:=by omega
 have w1:=BQ vA cx hx hd (by omega) XN (by omega)
 have w2:=BQ vA cy hy hd (by omega) XN (by omega)
 have t1:=LF x (fun c hc=>Nat.lt_of_le_of_lt (hx.sz c hc) (by omega)) (Nat.lt_of_le_of_lt hx.len (by omega))
 have t2:=LF y (fun c hc=>Nat.lt_of_le_of_lt (hy.sz c hc) (by omega)) (Nat.lt_of_le_of_lt hy.len (by omega))
 have t3:=CZ (D:Int) (Nat.lt_of_le_of_lt hd (by omega))
 have lx:=hx.len
 have ly:=hy.len
 have e0:qd x D++qd y D=qd (x++y) D:=by simp [qd]
 have hdn:∀i,0<CL ((qd (x++y) D).take i)∧sz 2 (CL ((qd (x++y) D).take i))≤k:=fun i=>by
  rw [aeS hD]
  have h1:PW D ((x++y).take i)∣D:=Nat.gcd_dvd_left _ _
  have h2:0<D/PW D ((x++y).take i):=Nat.div_pos (Nat.le_of_dvd hD h1) (Nat.pos_of_dvd_of_pos h1 hD)
  refine⟨by omega,Nat.le_trans (cK (by decide) ?_) hd⟩
  rw [Int.natAbs_natCast,Int.natAbs_natCast]
  exact Nat.div_le_self _ _
 have aAi:∀q∈qd (x++y) D,sz 2 (q.den:Int)≤k:=fun q hq=>by
  simp only [qd,List.mem_map]at hq
  obtain⟨v,hv,rfl⟩:=hq
  rw [tR hD]
  refine Nat.le_trans (cK (by decide) ?_) hd
  rw [Int.natAbs_natCast,Int.natAbs_natCast]
  exact Nat.div_le_self _ _
 have LK:CL (qd (x++y) D)=D:=by rw [z8 hD,hg,Nat.div_one]
 have hWl:(qd (x++y) D).length=x.length+y.length:=by simp
 have WZ:(qd x D).length=x.length:=by simp
 have GJ:(qd y D).length=y.length:=by simp
 simp only [CV.nP]
 generalize qd (x++y) D=ww at *
 generalize qd x D=qx at *
 generalize qd y D=qy at *
 have o1:=i0 1 (by decide) (by decide)
 refine b6 [(0,PP qx),(1,PP qy)] Tryz.func242 ?_
 refine aA [0,1,4] ?_
 refine aJ [0,1,4,5] o1 ?_
 refine W.sr ?_
 simp (disch:=omega) [gw,e0,WZ,GJ]
 refine bN [0,1,4,5,6] ?_
 refine aM [0,1,4,5,6,14,15] ?_
 refine W.block ?_
 refine W.bE (fun q σ=>∃(i v4 v10:Nat) (d:Int) (v5:Nat) (rows:Pm.Rows) (clk:Nat),σ=⟨fa [(0,PP qx),(1,PP qy),(4, .ptr 4 v4 0 0),(5, .ptr 5 v5 0 0),(6, .own 10 v10 0 (x.length+y.length)),(14, .int .i64 ((x.length:Int)+(y.length:Int))),(15, .int .i64 i)],rows,clk⟩ ∧
  rows 4=some ⟨v4,88,6,[[.nil, .nil, .nil, .nil, .bool false, .nil]]⟩∧rows 5=some ⟨v5,29,2,[[aG aH (aP DD d.natAbs), .bool (decide (d<0))]]⟩∧rows 10=some ⟨v10,31,4,emap re ww⟩ ∧
  q=x.length+y.length-i∧i≤x.length+y.length∧d=CL (ww.take i)) (x.length+y.length) ?_ ?_
 ·exact⟨_, .refl,0,_,_,1,_,_,_,rfl,by simp,by simp,by simp,by omega,by omega,by simp [CL]⟩
 rintro q _ ⟨i,v4,v10,d,v5,rows,clk,rfl,fM,eW,lO,hq,hi,UF⟩
 refine cB [0,1,4,5,6,14,15,16] ?_
 refine bF ?_ ?_<;>intro h
 ·have hi:i<ww.length:=by simp at h;omega
  obtain⟨hdp,hdi⟩:=hdn i
  have hqd:=aAi _ (bS hi)
  have hs:=PU hi
  rw [←UF]at hs hdi hdp
  have m1:=eT d (nth ww i).den (by simp only [Z];omega) (by simp only [Z];omega)
  have m2:=x8 d (nth ww i).den (by simp only [Y];omega) (by simp only [Y];omega)
  have zm:=cO (b:=2) (by decide) hdi hqd
  have hgp:0<Int.gcd d (nth ww i).den:=Int.gcd_pos_of_ne_zero_left _ (by omega)
  have zg:Y (Int.gcd d (nth ww i).den:Int):=BI (y:=d) (by simp only [Y];omega) (by
   have:=Int.le_of_dvd hdp (Int.gcd_dvd_left d ((nth ww i).den:Int));omega)
  have m3:=tK (d*(nth ww i).den) (Int.gcd d (nth ww i).den) (by omega) (by simp only [Y];omega) zg
  rw [←hs]at m3
  rw [UR]at m1 m2
  generalize (Int.gcd d (nth ww i).den:Int)=gg at *
  generalize d*((nth ww i).den:Int)=dd at *
  generalize M0:CL (ww.take (i+1))=d2 at *
  generalize M4:nth ww i=qe at *
  refine jV ?_
  refine aA [0,1,4,5,6,7,14,15] ?_
  refine W.H7 (fun K hK=>?_)
  simp (disch:=omega) [gw,eW,lO,M4]
  refine aB m1 ?_
  simp (disch:=omega) [gw,eW,lO,M4]
  refine aB m2 ?_
  simp (disch:=omega) [gw,eW,lO,M4]
  refine aB m3 ?_
  simp (disch:=omega) [gw,eW,lO,M4]
  refine a9 (by refine⟨?_,?_⟩<;>kernel_rfl) ?_
  simp (disch:=omega) [gw]
  refine W.lw [0,1,4,5,6,14,15] hK ?_;clear hK K;simp
  refine W.cE (fun K hK=>?_);simp (disch:=omega) [gw]
  refine hK _ ⟨x.length+y.length-(i+1),_,aC _ [0,1,4,5,6,14,15],by omega,i+1,v4,v10,d2,v5,_,_,rfl,by simp [fM],by simp,by simp [lO],by omega,by omega,M0.symm⟩
 have hi:i=ww.length:=by simp at h;omega
 rw [hi,List.take_length,LK]at UF
 subst UF
 refine eV ?_
 refine W.sd ?_
 simp (disch:=omega) [gw,eW]
 refine aB w1 ?_
 simp (disch:=omega) [gw,eW]
 refine aB t1 ?_
 simp (disch:=omega) [gw,eW]
 refine aB w2 ?_
 simp (disch:=omega) [gw,eW]
 refine aB t2 ?_
 simp (disch:=omega) [gw,eW]
 refine aB t3 ?_
 simp (disch:=omega) [gw,fM]
 refine bN [4] ?_
 exact b7
theorem aa8(a:Int)(l:List Int):bV (a::l)=Nat.gcd a.natAbs (bV l):=by
 refine Nat.dvd_antisymm (Nat.dvd_gcd ?_ (tN fun c hc=>?_)) (tN fun c hc=>?_)
 ·exact Int.ofNat_dvd_left.1 (fD _ a (List.mem_cons_self ..))
 ·exact fD _ c (List.mem_cons_of_mem _ hc)
 ·rcases List.mem_cons.1 hc with rfl | hc
  ·exact Int.ofNat_dvd_left.2 (Nat.gcd_dvd_left _ _)
  ·exact Int.dvd_trans (Int.ofNat_dvd.2 (Nat.gcd_dvd_right _ _)) (fD _ c hc)
theorem P3{g:Int}{x:List Int}(hg:g≠0)(cx:Cn x)(h:∀v∈x,g∣v):(aL (x.map (k9 g))).map (· * g)=x:=by
 have e:(x.map (k9 g)).map (· * g)=x:=by
  rw [List.map_map]
  conv=>rhs;rw [←List.map_id x]
  refine List.map_congr_left fun v hv=>?_
  simp only [Function.comp_apply,k9,if_pos (Int.emod_eq_zero_of_dvd (h v hv)),id]
  exact Int.ediv_mul_cancel (h v hv)
 refine Cn.ext (jZ (Cn.cut _) hg) cx fun t=>?_
 rw [dY,dF,←dY,e]
structure CV.OK(c:CV):Prop where
 cx:Cn c.x
 cy:Cn c.y
 pos:0<c.d
 gcd:bV (c.d::(c.x++c.y))=1
theorem YA{x y:List Int}(cx:Cn x)(cy:Cn y)(d:Int):(nC x y d).x.map (· * cg x y d)=x∧(nC x y d).y.map (· * cg x y d)=y∧(nC x y d).d*cg x y d=dN d:=by
 have hg:=X9 x y d
 exact⟨P3 hg cx fun v hv=>z9 x y d (by simp [hv]),P3 hg cy fun v hv=>z9 x y d (by simp [hv]),Int.ediv_mul_cancel (z9 x y d (List.mem_cons_self ..))⟩
theorem alr{x y:List Int}(cx:Cn x)(cy:Cn y)(d:Int):(nC x y d).OK:=by
 obtain⟨h1,h2,h3⟩:=YA cx cy d
 have hg:=X9 x y d
 have hd:=yG d
 have hgd:cg x y d=if dN d<0 then -(bV (dN d::(x++y)):Int)else bV (dN d::(x++y)):=rfl
 refine⟨Cn.cut _,Cn.cut _,?_,?_⟩
 ·refine Classical.byContradiction fun h=>?_
  split at hgd
  ·rename_i OY
   have:=Int.mul_nonneg (show 0 ≤ -(nC x y d).d by omega) (show 0 ≤ -cg x y d by omega)
   rw [Int.neg_mul_neg,h3]at this
   omega
  ·rename_i OY
   have:=Int.mul_nonneg (show 0 ≤ -(nC x y d).d by omega) (show 0≤cg x y d by omega)
   rw [Int.neg_mul,h3]at this
   omega
 ·have e:((nC x y d).d::((nC x y d).x++(nC x y d).y)).map (· * cg x y d)=dN d::(x++y):=by
   simp only [List.map_cons,List.map_append,h1,h2,h3]
  have h4:=j0 (cg x y d) ((nC x y d).d::((nC x y d).x++(nC x y d).y))
  rw [e]at h4
  have h5:(cg x y d).natAbs=bV (dN d::(x++y)):=by
   rw [hgd];split<;>simp
  rw [←h5]at h4
  have h6:0<(cg x y d).natAbs:=by omega
  refine Nat.eq_of_mul_eq_mul_right h6 ?_
  rw [←h4,Nat.one_mul]
structure RC.Small(c:RC)(k n:Nat):Prop where
 x:Sm k n c.x
 y:Sm k n c.y
 l:cW 4294967296 c.l
 ll:c.l.length≤n
 h1:1≤n
 hn:n≤1000
 hk:k≤1000
theorem RC.Small.ok{c:RC}{k n:Nat}(h:c.Small k n):c.OK n k:=by
 have h1:=h.h1;have h2:=h.hn;have h3:=h.hk;have h4:=h.ll
 refine⟨h.x.tL (by omega) (by omega),h.y.tL (by omega) (by omega),⟨h.l,by omega⟩,h.x.bd,h.y.bd,?_,h.h1,by omega,by omega⟩
 have g1:=auh eB h.l
 have g2:sz LL (iv c.s c.l)=sz LL (V 4294967296 c.l):=by unfold sz;rw [show(iv c.s c.l).natAbs=_ from uR (c.s,c.l) h.l]
 rw [g2];exact Nat.le_trans g1 h.ll
theorem YB{s n:Nat}{x:List Int}(c:Int)(h:Bd 2 s n x):Bd 2 s n (aL (x.map (k9 c))):=Bd.cut ⟨by simpa using h.len,fun v hv=>by
 simp only [List.mem_map]at hv
 obtain⟨w,hw,rfl⟩:=hv
 refine Nat.le_trans (cK (by decide) ?_) (h.sz w hw)
 unfold k9;split
 ·exact Int.natAbs_ediv_le_natAbs _ _
 ·simp⟩
theorem RC.Small.bd2{c:RC}{k n:Nat}(h:c.Small k n):Bd 2 (32*n) k c.nc.x∧Bd 2 (32*n) k c.nc.y∧sz 2 c.nc.d≤32*n∧sz 2 (iv c.s c.l)≤32*n:=by
 have h1:=h.h1
 have hd:sz 2 (iv c.s c.l)≤32*n:=by
  have g1:=O0 h.l
  have g2:sz 2 (iv c.s c.l)=sz 2 (V 4294967296 c.l):=by unfold sz;rw [show(iv c.s c.l).natAbs=_ from uR (c.s,c.l) h.l]
  have:=h.ll
  rw [g2];omega
 refine⟨YB _ h.x.bd2.cut,YB _ h.y.bd2.cut,?_,hd⟩
 show sz 2 (_/_)≤_
 refine Nat.le_trans (cK (by decide) (Int.natAbs_ediv_le_natAbs _ _)) ?_
 unfold dN;split
 ·exact Nat.le_trans (cQ (k:=1) (by decide) (by decide)) (by omega)
 ·exact hd
theorem au9{x:List Int}(h:∀c∈x,sz LL c<4294967296)(hl:x.length<1099511627776):FOK (x.map jD):=⟨fun p hp=>by
 simp only [List.mem_map]at hp
 obtain⟨c,hc,rfl⟩:=hp
 exact⟨eN eB _,h c hc⟩,by simpa using hl⟩
theorem FC{s n:Nat}{x:List Int}(cx:Cn x)(b:Bd LL s n x)(hs:s<4294967296)(hn:n<1099511627776):aD env.P 83 [Po x] (PI x):=by
 have:=uQ (x.map jD) (au9 (fun c hc=>Nat.lt_of_le_of_lt (b.sz c hc) hs) (Nat.lt_of_le_of_lt b.len hn))
 rw [bP,←fI,show aL x=x from cx]at this
 exact this
theorem UZ{d:Int}(h:sz LL d<4294967296):aD env.P 169 [I d] (RI d):=by
 have:=uO (decide (d<0)) (aP LL d.natAbs) (by have:sz LL d=(aP LL d.natAbs).length:=rfl;omega) (eN eB _)
 rwa [tG]at this
theorem RC.Small.fok{c:RC}{k n:Nat}(h:c.Small k n):FOK c.x∧FOK c.y:=by
 have h2:=h.hn;have h3:=h.hk
 exact⟨h.x.fok (by omega) (by omega),h.y.fok (by omega) (by omega)⟩
theorem RC.P4(c:RC):c.nc.OK:=alr (Cn.cut _) (Cn.cut _) _
theorem aa9{x y:List Int}(cx:Cn x)(cy:Cn y)(d:Int):gL (qs x) (dR 1 (dN d))=qd (nC x y d).x (nC x y d).d∧gL (qs y) (dR 1 (dN d))=qd (nC x y d).y (nC x y d).d:=by
 obtain⟨h1,h2,h3⟩:=YA cx cy d
 have hg:=X9 x y d
 have hp:=(alr cx cy d).pos
 have XQ:(nC x y d).d≠0:=by omega
 refine⟨?_,?_⟩
 ·rw [z7 (yG d),wM cx]
  have:=E7 XQ hg (nC x y d).x
  rw [h1,h3]at this
  exact this
 ·rw [z7 (yG d),wM cy]
  have:=E7 XQ hg (nC x y d).y
  rw [h2,h3]at this
  exact this
set_option maxHeartbeats 2000000 in
theorem U0{c:RC}{k n:Nat}(h:c.Small k n):aD env.P 193 [.ag c.cells] (.ag c.nc.doc):=by
 have hY:YY=137438953472:=rfl
 have h1:=h.h1;have h2:=h.hn;have h3:=h.hk;have h4:=h.ll
 obtain⟨fx,fy⟩:=h.fok
 obtain⟨bx,pP,bd,bi⟩:=h.bd2
 have ok:=c.P4
 have r1:=uO c.s c.l (by omega) h.l
 have r2:=zZ (iv c.s c.l)
 have o1:=i0 1 (by decide) (by decide)
 have q1:=uQ c.x fx
 have q2:=uQ c.y fy
 rw [show aL (c.x.map gv)=eX c.x from rfl]at q1
 rw [show aL (c.y.map gv)=eX c.y from rfl]at q2
 have hD:=yG (iv c.s c.l)
 have zD:sz 2 (dN (iv c.s c.l))≤32*n:=by
  unfold dN;split
  ·exact Nat.le_trans (cQ (k:=1) (by decide) (by decide)) (by omega)
  ·exact bi
 have mk:=jJ 1 (dN (iv c.s c.l)) (by decide) (by show sz 2 _<_;omega)
 obtain⟨q3,q4⟩:gL (qs (eX c.x)) (dR 1 (dN (iv c.s c.l)))=qd c.nc.x c.nc.d∧gL (qs (eX c.y)) (dR 1 (dN (iv c.s c.l)))=qd c.nc.y c.nc.d:=aa9 (Cn.cut _) (Cn.cut _) _
 have z1:ZR YY (dR 1 (dN (iv c.s c.l))):=tP hD (Nat.le_trans (cQ (k:=1) (by decide) (by decide)) (by decide)) (by omega)
 have Qx:SD (qs (eX c.x)):=by rw [←jB];exact wN (k:=32*n) (n:=k) (by decide) h.x.bd2.cut (Nat.le_trans (cQ (k:=1) (by decide) (by decide)) (by omega)) (by omega) (by omega)
 have Qy:SD (qs (eX c.y)):=by rw [←jB];exact wN (k:=32*n) (n:=k) (by decide) h.y.bd2.cut (Nat.le_trans (cQ (k:=1) (by decide) (by decide)) (by omega)) (by omega) (by omega)
 have s1:=mA _ _ Qx z1
 have s2:=mA _ _ Qy z1
 rw [q3,nB]at s1
 rw [q4,nB]at s2
 have OX:((c.nc.d.toNat:Nat):Int)=c.nc.d:=by have:=ok.pos;omega
 have nm:=LJ (x:=c.nc.x) (y:=c.nc.y) (D:=c.nc.d.toNat) (k:=32*n) (n:=k) (by have:=ok.pos;omega) ok.cx ok.cy (by
  have:=ok.gcd
  rw [aa8]at this
  rw [PW]
  have e:c.nc.d.toNat=c.nc.d.natAbs:=by have:=ok.pos;omega
  rw [e];exact this) bx pP (by rw [OX];exact bd) (by omega) (by omega) (by omega)
 rw [OX]at nm
 have hdN:dN (iv c.s c.l)=if iv c.s c.l=0 then 1 else iv c.s c.l:=rfl
 clear q3 q4 z1 Qx Qy ok fx fy bx pP bd bi zD hD OX
 generalize dN (iv c.s c.l)=D at *
 generalize iv c.s c.l=d at *
 generalize dR 1 D=qr at *
 generalize c.nc=r at *
 generalize eX c.x=X at *
 generalize eX c.y=Y0 at *
 simp only [RC.cA,CV.nP]at *
 generalize qd r.x r.d=ux at *
 generalize qd r.y r.d=uy at *
 refine b6 [(0, .ag [Pg c.x,Pg c.y, .bool c.s,aG u32 c.l])] Tryz.func193 ?_
 refine aA [1,2] ?_
 refine aJ [1,2,3] r1 ?_
 refine W.gJ (fun σ=>∃(v1 v2 v3:Nat) (rows:Pm.Rows) (clk:Nat),σ=⟨fa [(1, .ptr 1 v1 0 0),(2, .ptr 2 v2 0 0),(3, .ptr 3 v3 0 0)],rows,clk⟩∧rows 1=some ⟨v1,86,4,[[Pg c.x,Pg c.y, .bool c.s,aG u32 c.l]]⟩∧rows 2=some ⟨v2,88,6,[[.nil, .nil, .nil, .nil, .bool false, .nil]]⟩ ∧
  rows 3=some ⟨v3,29,2,[[aG aH (aP DD D.natAbs), .bool (decide (D<0))]]⟩) ?_ ?_
 ·refine aJ [1,2,3,9] r2 ?_
  refine bF ?_ ?_<;>intro h
  ·simp at h
   rw [if_pos h]at hdN
   subst hdN
   refine W.cE (fun K hK=>?_)
   simp (disch:=omega) [gw]
   refine bW o1 ?_
   exact hK _ ⟨_,aC _ [1,2,3],_,_,_,_,_,rfl,by simp,by simp,by simp⟩
  ·simp at h
   rw [if_neg h]at hdN
   subst hdN
   refine W.skip ?_
   exact⟨_,aC _ [1,2,3],_,_,_,_,_,rfl,by simp,by simp,by simp⟩
 rintro _ ⟨v1,v2,v3,rows,clk,rfl,uJ,cC,cM⟩
 refine iQ ?_
 refine aB o1 ?_
 simp (disch:=omega) [gw,cM]
 refine bW mk ?_
 rw [if_pos (by kernel_rfl)]
 simp (disch:=omega) [gw]
 refine bN [1,2,4] ?_
 refine W.sd ?_
 simp (disch:=omega) [gw,uJ]
 refine bW q1 ?_
 refine aB s1 ?_
 simp (disch:=omega) [gw,uJ]
 refine bW q2 ?_
 refine bW s2 ?_
 refine aB nm ?_
 simp (disch:=omega) [gw,cC]
 refine bN [2] ?_
 exact b7
structure CV.Sz(c:CV)(s k:Nat):Prop where
 x2:Bd 2 s k c.x
 y2:Bd 2 s k c.y
 d2:sz 2 c.d≤s
 h1:1≤s
 hs:s≤100000000
 hk:k≤100000000
theorem tS{s:Nat}{d:Int}(h:sz 2 d≤s):Bd 2 s 1 [d]:=⟨by simp,fun c hc=>by simp at hc;subst hc;exact h⟩
theorem ava{h n:Nat}{x:List Int}(hx:Bd 2 h n x):Bd LL h n x:=⟨hx.len,fun c hc=>Nat.le_trans (cQ eB (Nat.lt_of_lt_of_le (iK (b:=2) (by decide) c) (Nat.pow_le_pow_left (by decide) _))) (hx.sz c hc)⟩
theorem aAj(v:Int):sz LL v≤sz 2 v:=cQ eB (Nat.lt_of_lt_of_le (iK (b:=2) (by decide) v) (Nat.pow_le_pow_left (by decide) _))
theorem YC(x y:List Int):fL x (fU y)=dJ x y:=Cn.ext (Cn.fL _ _) (Cn.dJ _ _) fun t=>by rw [qS,wF,iH];omega
theorem IW{x y:List Int}{s n:Nat}(hx:Bd 2 s n x)(hy:Bd 2 s n y)(hs:s≤YY)(hn:n<1099511627776):aD env.P 124 [PI x,PI y] (PI (dJ x y)):=by
 have one:sz 2 1≤YY:=Nat.le_trans (cQ (k:=1) (by decide) (by decide)) (by decide)
 have Q:∀z:List Int,Bd 2 s n z→SD (qs z):=fun z hz=>by
  rw [←jB]
  exact wN (k:=YY) (n:=n) (by decide) (hz.mono hs (Nat.le_refl _)) one (Nat.le_refl _) hn
 have e:gL (qs y) (-1)=qs (fU y):=by rw [←jB,X3 (by decide),jB]
 have xL:Bd 2 s n (fU y):=Bd.fU hy
 have:=PR (qs x) (qs y) (qs (fU y)) (Q x hx) (Q y hy) e (Q _ xL)
 rw [←jB,←jB,←jB,X1 (by decide),jB,jB,jB,YC,nB,nB,nB]at this
 exact this
theorem uU{c:CV}{s k:Nat}(h:c.OK)(b:c.Sz s k):aD env.P 123 [.ag c.doc] (.fE [PI c.x,PI c.y,PI [c.d]]):=by
 have hs:=b.hs;have hk:=b.hk
 have f1:=UZ (d:=c.d) (Nat.lt_of_le_of_lt (aAj _) (by have:=b.d2;omega))
 have o1:=i0 1 (by decide) (by decide)
 have m1:=uP c.d (by show sz 2 _<549755813888;have:=b.d2;omega)
 have q1:=FC h.cx (ava b.x2) (by omega) (by omega)
 have q2:=FC h.cy (ava b.y2) (by omega) (by omega)
 simp only [CV.nP]at *
 generalize qd c.x c.d=ux at *
 generalize qd c.y c.d=uy at *
 refine b6 [(0, .ag [PP ux,PP uy,Po c.x,Po c.y, .bool (decide (c.d<0)),aG u32 (aP LL c.d.natAbs)])] Tryz.func123 ?_
 refine aA [1] ?_
 refine iM ?_
 refine bW f1 ?_
 refine bW o1 ?_
 refine bU [1,5] m1 ?_
 refine iQ ?_
 refine bW q1 ?_
 refine bU [2,3,4] q2 ?_
 refine W.ret ?_
 simp [go]
 rfl
theorem P5{a b:CV}{s:Nat}{k:Nat}(ha:a.OK)(hb:b.OK)(ba:a.Sz s k)(bb:b.Sz s k):aD env.P 44 [.ag a.doc, .ag b.doc] (PI (dJ (bH b.x [a.d]) (bH a.x [b.d]))):=by
 have hs:=ba.hs;have hk:=ba.hk
 have n1:=uU ha ba
 have n2:=uU hb bb
 have m1:=nV b.x [a.d] s s k 1 bb.x2 (tS ba.d2) (by show _<137438953472;omega)
 have m2:=nV a.x [b.d] s s k 1 ba.x2 (tS bb.d2) (by show _<137438953472;omega)
 have w1:=(Bd.bH (by decide) bb.x2 (tS ba.d2)).mono (show _≤2*s+k+2 by omega) (show _≤k+2 by omega)
 have w2:=(Bd.bH (by decide) ba.x2 (tS bb.d2)).mono (show _≤2*s+k+2 by omega) (show _≤k+2 by omega)
 have d1:=IW w1 w2 (by show _≤137438953472;omega) (by omega)
 generalize dJ (bH b.x [a.d]) (bH a.x [b.d])=r at *
 generalize bH b.x [a.d]=p1 at *
 generalize bH a.x [b.d]=p2 at *
 clear w1 w2 ba bb ha hb
 simp only [CV.nP]at *
 generalize qd a.x a.d=ux at *
 generalize qd a.y a.d=uy at *
 generalize qd b.x b.d=vx at *
 generalize qd b.y b.d=vy at *
 refine b6 [(0, .ag [PP ux,PP uy,Po a.x,Po a.y, .bool (decide (a.d<0)),aG u32 (aP LL a.d.natAbs)]),(1, .ag [PP vx,PP vy,Po b.x,Po b.y, .bool (decide (b.d<0)),aG u32 (aP LL b.d.natAbs)])] Tryz.func44 ?_
 generalize [a.d]=da at *
 generalize [b.d]=db at *
 refine aA [2,3] ?_
 refine aJ [3,5,6,7] n1 ?_
 refine aJ [5,6,7,8,9,10] n2 ?_
 refine iM ?_
 refine bW m1 ?_
 refine bW m2 ?_
 refine bU [4] d1 ?_
 exact b7
theorem P6{a b:CV}{s:Nat}{k:Nat}(ha:a.OK)(hb:b.OK)(ba:a.Sz s k)(bb:b.Sz s k):aD env.P 129 [.ag a.doc, .ag b.doc] (PI (dJ (bH b.y [a.d]) (bH a.y [b.d]))):=by
 have hs:=ba.hs;have hk:=ba.hk
 have n1:=uU ha ba
 have n2:=uU hb bb
 have m1:=nV b.y [a.d] s s k 1 bb.y2 (tS ba.d2) (by show _<137438953472;omega)
 have m2:=nV a.y [b.d] s s k 1 ba.y2 (tS bb.d2) (by show _<137438953472;omega)
 have w1:=(Bd.bH (by decide) bb.y2 (tS ba.d2)).mono (show _≤2*s+k+2 by omega) (show _≤k+2 by omega)
 have w2:=(Bd.bH (by decide) ba.y2 (tS bb.d2)).mono (show _≤2*s+k+2 by omega) (show _≤k+2 by omega)
 have d1:=IW w1 w2 (by show _≤137438953472;omega) (by omega)
 generalize dJ (bH b.y [a.d]) (bH a.y [b.d])=r at *
 generalize bH b.y [a.d]=p1 at *
 generalize bH a.y [b.d]=p2 at *
 clear w1 w2 ba bb ha hb
 simp only [CV.nP]at *
 generalize qd a.x a.d=ux at *
 generalize qd a.y a.d=uy at *
 generalize qd b.x b.d=vx at *
 generalize qd b.y b.d=vy at *
 refine b6 [(0, .ag [PP ux,PP uy,Po a.x,Po a.y, .bool (decide (a.d<0)),aG u32 (aP LL a.d.natAbs)]),(1, .ag [PP vx,PP vy,Po b.x,Po b.y, .bool (decide (b.d<0)),aG u32 (aP LL b.d.natAbs)])] Tryz.func129 ?_
 generalize [a.d]=da at *
 generalize [b.d]=db at *
 refine aA [2,3] ?_
 refine aJ [3,5,6,7] n1 ?_
 refine aJ [5,6,7,8,9,10] n2 ?_
 refine iM ?_
 refine bW m1 ?_
 refine bW m2 ?_
 refine bU [4] d1 ?_
 exact b7
theorem aiZ(m:List (List RP))(hm:m.length<1099511627776)(hr:∀r∈m,r.length<1099511627776):aD env.P 245 [aG me m] (.bool (decide ((∀r∈m,r.length=m.length)∧m.length≤4))):=by
 refine b6 [(0,aG me m)] Tryz.func245 ?_
 refine aA [0] ?_
 refine aM [0,5,6,7] ?_
 refine W.block ?_
 refine W.bE (fun k σ=>∃(i:Nat) (rows:Pm.Rows) (clk:Nat),σ=⟨fa [(0,aG me m),(5,aG me m),(6, .int .i64 m.length),(7, .int .i64 i)],rows,clk⟩∧k=m.length-i∧i≤m.length ∧ ∀r∈m.take i,r.length=m.length) m.length ?_ ?_
 ·exact⟨_, .refl,0,_,_,rfl,by omega,by omega,by simp⟩
 rintro k _ ⟨i,rows,clk,rfl,hk,hi,hI⟩
 refine cB [0,5,6,7,8] ?_
 refine bF ?_ ?_<;>intro h
 ·simp at h
  have R8:=hr _ (bS h)
  refine jV ?_
  refine aA [0,4,5,6,7] ?_
  refine aA [0,5,6,7,15] ?_
  refine W.cond ⟨_,rfl,fun h2=>?_,fun h2=>?_⟩
  ·have h3:¬(∀r∈m,r.length=m.length):=fun h3=>by
    have:=h3 _ (bS h)
    simp [this]at h2
   refine aA [2] ?_
   refine W.ret ?_
   simp [go,h3]
  ·have h3:(nth m i).length=m.length:=by simp at h2;omega
   refine W.skip ?_
   refine W.cE (fun K hK=>?_)
   simp (disch:=omega) [gw]
   refine hK _ ⟨m.length-(i+1),_,aC _ [0,5,6,7],by omega,i+1,_,_,rfl,by omega,by omega,fun r hr=>?_⟩
   rw [aY h]at hr
   rcases List.mem_append.1 hr with h4 | h4
   ·exact hI r h4
   ·simp at h4;rw [h4];exact h3
 ·simp at h
  rw [List.take_of_length_le (by omega)]at hI
  refine eV ?_
  refine aA [2] ?_
  refine W.ret ?_
  have e:decide ((∀r∈m,r.length=m.length)∧m.length≤4)=decide ((m.length:Int)≤4):=decide_eq_decide.2 ⟨fun h=>by omega,fun h=>⟨hI,by omega⟩⟩
  rw [e]
  simp [go]
def wQ(i k:Nat)(m:List (List RP)):List (List RP):=(m.eraseIdx i).map fun r=>(r.eraseIdx k).map wJ
theorem aba(i k:Nat)(m:List (List RP))(hi:i<1099511627776)(hk:k<1099511627776)(hm:m.length<1099511627776)(hr:∀r∈m,r.length<1099511627776 ∧ ∀p∈r,oQ p):aD env.P 261 [.int .i64 i, .int .i64 k,aG me m] (aG me (wQ i k m)):=by
 refine b6 [(0, .int .i64 i),(1, .int .i64 k),(2,aG me m)] Tryz.func261 ?_
 refine aA [0,1,2] ?_
 refine aA [0,1,2,7] ?_
 refine W.nil 7 7 173 1 (by simp) (by decide) (fun K hK=>?_)
 refine W.lw [0,1,2,7] hK ?_;clear hK K;simp
 refine aM [0,1,7,13,14,15] ?_
 refine W.block ?_
 refine W.bE (fun d σ=>∃(r ver n:Nat) (rows:Pm.Rows) (clk:Nat),σ=⟨fa [(0, .int .i64 i),(1, .int .i64 k),(7, .own 7 ver 0 n),(13,aG me m),(14, .int .i64 m.length),(15, .int .i64 r)],rows,clk⟩ ∧
  rows 7=some ⟨ver,173,1,emap me (wQ i k (m.take r))⟩∧n=(wQ i k (m.take r)).length∧d=m.length-r∧r≤m.length) m.length ?_ ?_
 ·exact⟨_, .refl,0,_,_,_,_,rfl,by simp [wQ,emap],by simp [wQ],by omega,by omega⟩
 rintro d _ ⟨r,ver,n,rows,clk,rfl,pT,hn,hd,hrm⟩
 have hml:(wQ i k (m.take r)).length≤m.length:=by
  have:=List.length_eraseIdx_le (m.take r) i
  simp [wQ]at *;omega
 refine cB [0,1,7,13,14,15,16] ?_
 refine bF ?_ ?_<;>intro h
 ·simp at h
  obtain⟨R8,hrp⟩:=hr _ (bS h)
  refine W.skip ?_
  refine W.dV (fun σ=>∃(ver n:Nat) (rows:Pm.Rows) (clk:Nat),σ=⟨fa [(0, .int .i64 i),(1, .int .i64 k),(7, .own 7 ver 0 n),(13,aG me m),(14, .int .i64 m.length),(15, .int .i64 r)],rows,clk⟩ ∧
   rows 7=some ⟨ver,173,1,emap me (wQ i k (m.take (r+1)))⟩∧n=(wQ i k (m.take (r+1))).length) ?_ ?_
  ·
   refine aA [0,1,7,8,9,13,14,15] ?_
   refine aM [0,1,7,9,13,14,15,22] ?_
   refine W.cond ⟨_,rfl,fun h2=>?_,fun h2=>?_⟩
   ·have h2:r=i:=by simp at h2;omega
    have e:wQ i k (m.take (r+1))=wQ i k (m.take r):=by simp only [wQ];rw [qT h,if_pos h2]
    refine eV ?_
    rw [e]
    exact⟨_,aC _ [0,1,7,13,14,15],_,_,_,_,rfl,pT,hn⟩
   ·have h2:r≠i:=by simp at h2;omega
    have e:wQ i k (m.take (r+1))=wQ i k (m.take r) ++ [((nth m r).eraseIdx k).map wJ]:=by simp only [wQ];rw [qT h,if_neg h2];simp
    rw [e]
    generalize sG:nth m r=row at *
    refine W.skip ?_
    refine aA [0,1,7,9,10,13,14,15] ?_
    refine W.nil 10 10 24 1 (by simp) (by decide) (fun K hK=>?_)
    refine W.lw [0,1,7,9,10,13,14,15] hK ?_;clear hK K;simp
    refine aM [0,1,7,10,13,14,15,23,24,25] ?_
    refine W.block ?_
    refine W.bE (fun d σ=>∃(c v10 n10:Nat) (rows:Pm.Rows) (clk:Nat),σ=⟨fa [(0, .int .i64 i),(1, .int .i64 k),(7, .own 7 ver 0 n),(10, .own 10 v10 0 n10),(13,aG me m),(14, .int .i64 m.length),(15, .int .i64 r),(23,aG pe row),(24, .int .i64 row.length),(25, .int .i64 c)],rows,clk⟩ ∧
     rows 7=some ⟨ver,173,1,emap me (wQ i k (m.take r))⟩∧rows 10=some ⟨v10,24,1,emap pe (((row.take c).eraseIdx k).map wJ)⟩∧n10=(((row.take c).eraseIdx k).map wJ).length∧d=row.length-c∧c≤row.length) row.length ?_ ?_
    ·exact⟨_, .refl,0,_,_,_,_,rfl,by simp [pT],by simp [emap],by simp,by omega,by omega⟩
    clear pT rows clk
    rintro d _ ⟨c,v10,n10,rows,clk,rfl,pT,lO,abb,M0,hcr⟩
    have gH:(((row.take c).eraseIdx k).map wJ).length≤row.length:=by
     have:=List.length_eraseIdx_le (row.take c) k
     simp at *;omega
    refine cB [0,1,7,10,13,14,15,23,24,25,26] ?_
    refine W.cond ⟨_,rfl,fun h3=>?_,fun h3=>?_⟩
    ·simp at h3
     refine W.skip ?_
     refine W.dV (fun σ=>∃(v10 n10:Nat) (rows:Pm.Rows) (clk:Nat),σ=⟨fa [(0, .int .i64 i),(1, .int .i64 k),(7, .own 7 ver 0 n),(10, .own 10 v10 0 n10),(13,aG me m),(14, .int .i64 m.length),(15, .int .i64 r),(23,aG pe row),(24, .int .i64 row.length),(25, .int .i64 c)],rows,clk⟩ ∧
      rows 7=some ⟨ver,173,1,emap me (wQ i k (m.take r))⟩∧rows 10=some ⟨v10,24,1,emap pe (((row.take (c+1)).eraseIdx k).map wJ)⟩∧n10=(((row.take (c+1)).eraseIdx k).map wJ).length) ?_ ?_
     ·
      refine aA [0,1,7,10,11,12,13,14,15,23,24,25] ?_
      refine aA [0,1,7,10,12,13,14,15,23,24,25,32] ?_
      refine W.cond ⟨_,rfl,fun h4=>?_,fun h4=>?_⟩
      ·have h4:c≠k:=by simp at h4;omega
       have e2:((row.take (c+1)).eraseIdx k).map wJ=((row.take c).eraseIdx k).map wJ ++ [wJ (nth row c)]:=by rw [qT h3,if_neg h4];simp
       rw [e2]
       generalize hq:((row.take c).eraseIdx k).map wJ=q at *
       refine W.cE (fun K hK=>?_)
       simp (disch:=omega) [gw,lO]
       refine aB (eY _ (hrp _ (bS h3))) ?_
       rw [show Po (aL ((nth row c).map gv))=Pg (wJ (nth row c))from aee _]
       simp (disch:=omega) [gw,lO]
       exact hK _ ⟨_,aC _ [0,1,7,10,13,14,15,23,24,25],_,_,_,_,rfl,by simp [pT],by simp,by simp;omega⟩
      ·have h4:c=k:=by simp at h4;omega
       have e2:((row.take (c+1)).eraseIdx k).map wJ=((row.take c).eraseIdx k).map wJ:=by rw [qT h3,if_pos h4]
       rw [e2]
       refine W.skip ?_
       exact⟨_,aC _ [0,1,7,10,13,14,15,23,24,25],_,_,_,_,rfl,pT,lO,abb⟩
     clear pT lO abb rows clk v10 n10
     rintro _ ⟨v10,n10,rows,clk,rfl,pT,lO,abb⟩
     refine W.cE (fun K hK=>?_)
     simp (disch:=omega) [gw]
     exact hK _ ⟨row.length-(c+1),_,aC _ [0,1,7,10,13,14,15,23,24,25],by omega,c+1,_,_,_,_,rfl,pT,lO,abb,by omega,by omega⟩
    ·simp at h3
     have hc':c=row.length:=by omega
     subst hc'
     rw [List.take_of_length_le (Nat.le_refl _)]at lO gH abb
     refine eV ?_
     refine W.freeze 10 (by simp [lO]) (fun K hK=>?_)
     have e3:=bQ abb.symm
     generalize hq:(row.eraseIdx k).map wJ=q at *
     simp [lO,e3]
     refine hK _ ?_;clear hK K
     refine W.cE (fun K hK=>?_)
     simp (disch:=omega) [gw,pT]
     exact hK _ ⟨_,aC _ [0,1,7,13,14,15],_,_,_,_,rfl,by simp,by simp;omega⟩
  clear pT hn rows clk ver n
  rintro _ ⟨ver,n,rows,clk,rfl,pT,hn⟩
  refine W.cE (fun K hK=>?_)
  simp (disch:=omega) [gw]
  exact hK _ ⟨m.length-(r+1),_,aC _ [0,1,7,13,14,15],by omega,r+1,_,_,_,_,rfl,pT,hn,by omega,by omega⟩
 ·simp at h
  have e:m.take r=m:=List.take_of_length_le (by omega)
  rw [e]at pT hn
  refine eV ?_
  refine aA [6] ?_
  refine W.ret ?_
  simp [go,pT,hn,bQ]
structure MOK(s n:Nat)(m:List (List RP)):Prop where
 sq:∀r∈m,r.length=m.length
 ok:∀r∈m,∀p∈r,oQ p∧Bd LL s n (p.map gv)
def mv(m:List (List RP)):List (List (List Int)):=m.map fun r=>r.map eX
theorem ao3(m:List (List RP))(i k:Nat):nth (nth (mv m) i) k=eX (nth (nth m i) k):=by
 have h1:nth (mv m) i=(nth m i).map eX:=uK (f:=fun r:List RP=>r.map eX) rfl m i
 rw [h1]
 exact uK (f:=eX) rfl _ _
theorem yH{α β:Type}(f:α→β)(l:List α)(i:Nat):(l.map f).eraseIdx i=(l.eraseIdx i).map f:=by
 induction l generalizing i with
 | nil=>simp
 | cons x l ih=>cases i<;>simp [ih]
theorem ao4(i k:Nat)(m:List (List RP)):mv (wQ i k m)=pM i k (mv m):=by
 simp only [mv,wQ,pM,yH,List.map_map]
 congr 1
 funext r
 simp only [Function.comp_apply,yH,List.map_map]
 congr 1
 funext p
 exact aix p
theorem MOK.wQ{s n:Nat}{m:List (List RP)}(h:MOK s n m)(hs:s<1099511627775)(hn:n<1099511627775){i k:Nat}(hi:i<m.length)(hk:k<m.length):MOK s n (wQ i k m):=by
 refine⟨fun r hr=>?_,fun r hr p hp=>?_⟩
 ·simp only [Pm.nth,Go.Proofs.YtelhfbikiccfkaaGreat.wQ,List.mem_map]at hr ⊢
  obtain⟨r',jR,rfl⟩:=hr
  have:=h.sq r' (List.mem_of_mem_eraseIdx jR)
  rw [List.length_map,List.length_eraseIdx_of_lt (by omega),List.length_map,List.length_eraseIdx_of_lt hi]
  omega
 ·simp only [Go.Proofs.YtelhfbikiccfkaaGreat.wQ,List.mem_map]at hr
  obtain⟨r',jR,rfl⟩:=hr
  simp only [List.mem_map]at hp
  obtain⟨p',xA,rfl⟩:=hp
  obtain⟨h1,h2⟩:=h.ok r' (List.mem_of_mem_eraseIdx jR) p' (List.mem_of_mem_eraseIdx xA)
  rw [aef]
  exact⟨(PB.of h2.cut hs hn).tL,h2.cut⟩
def j1:Nat→List (List (List Int))→List Int
 | 0,_=>[1]
 | n+1,m=>(List.range m.length).foldl (fun d i=>if nth (nth m i) 0 = []then d else if i%2=0 then fL d (bH (nth (nth m i) 0) (j1 n (pM i 0 m)))else dJ d (bH (nth (nth m i) 0) (j1 n (pM i 0 m)))) []
structure EB(s n:Nat)(M:List (List (List Int))):Prop where
 ok:∀r∈M,∀x∈r,Bd LL s n x
theorem EB.nth{s n:Nat}{M:List (List (List Int))}(h:EB s n M)(i k:Nat):Bd LL s n (nth (nth M i) k):=by
 by_cases hi:i<M.length
 ·by_cases hk:k<(Pm.nth M i).length
  ·exact h.ok _ (bS hi) _ (bS hk)
  ·rw [iF (l:=Pm.nth M i) (by omega)];exact⟨by show 0≤n;omega,fun c hc=>by cases hc⟩
 ·rw [iF (l:=M) (by omega)];exact⟨by show 0≤n;omega,fun c hc=>by cases hc⟩
theorem EB.wQ{s n:Nat}{M:List (List (List Int))}(h:EB s n M)(i k:Nat):EB s n (pM i k M):=⟨fun r hr x hx=>by
 simp only [pM,List.mem_map]at hr
 obtain⟨r',jR,rfl⟩:=hr
 exact h.ok r' (List.mem_of_mem_eraseIdx jR) x (List.mem_of_mem_eraseIdx hx)⟩
theorem EB.mv{s n:Nat}{m:List (List RP)}(h:∀r∈m,∀p∈r,Bd LL s n (p.map gv)):EB s n (mv m):=⟨fun r hr x hx=>by
 simp only [Go.Proofs.YtelhfbikiccfkaaGreat.mv,List.mem_map]at hr
 obtain⟨r',jR,rfl⟩:=hr
 simp only [List.mem_map]at hx
 obtain⟨p,hp,rfl⟩:=hx
 exact(h r' jR p hp).cut⟩
theorem rE{s n S N:Nat}{M:List (List (List Int))}(e:Nat→List Int)(f:Nat→List Int)(he:∀i,Bd LL s n (e i))(hf:∀i,Bd LL S N (f i)):∀j,Bd LL (s+S+n+j) (n+N) ((List.range j).foldl (fun d i=>if e i = []then d else if i%2=0 then fL d (bH (e i) (f i))else dJ d (bH (e i) (f i))) [])
 | 0=>⟨by simp,fun c hc=>by cases hc⟩
 | j+1=>by
  have ih:=rE (M:=M) e f he hf j
  have hp:=(he j).bH eB (hf j)
  rw [List.range_succ,List.foldl_append]
  simp only [List.foldl_cons,List.foldl_nil]
  split
  ·exact ih.mono (by omega) (by omega)
  ·split
   ·exact(Bd.fL eB ih (hp.mono (by omega) (by omega))).mono (by omega) (by omega)
   ·exact(Bd.dJ eB ih (hp.mono (by omega) (by omega))).mono (by omega) (by omega)
theorem LM{s n:Nat}:∀(k:Nat) (M:List (List (List Int))),EB s n M→M.length≤4→Bd LL (k*(s+n+4)+1) (k*n+1) (j1 k M)
 | 0,M,_,_=>⟨by simp [j1],fun c hc=>by simp [j1]at hc;subst hc;exact Nat.le_trans (cQ (k:=1) eB (by decide)) (by omega)⟩
 | k+1,M,h,h4=>by
  have:=rE (M:=M) (fun i=>nth (nth M i) 0) (fun i=>j1 k (pM i 0 M)) (fun i=>h.nth i 0) (fun i=>LM k (pM i 0 M) (h.wQ i 0) (by have:=List.length_eraseIdx_le M i;simp;omega)) M.length
  rw [j1]
  refine this.mono ?_ ?_
  ·rw [Nat.add_mul k 1];omega
  ·rw [Nat.add_mul k 1];omega
theorem ai0{s n:Nat}(hs:s<1073741824)(hn:n<1073741824):∀(k:Nat) (m:List (List RP)),m.length=k→k≤4→MOK s n m→aD env.P 246 [aG me m] (Po (j1 k (mv m))):=by
 intro k
 induction k with
 | zero =>
  intro m hm _ _
  have hO:=CX [1] (by simp) (by simp)
  refine b6 [(0,aG me m)] Tryz.func246 ?_
  refine aA [0] ?_
  refine W.seq ?_
  refine W.sr ?_
  simp (disch:=omega) [gw,hm]
  refine bN [0,9] ?_
  refine bF ?_ ?_<;>intro h
  ·refine aJ [2] hO ?_
   refine W.ret ?_
   have e:aL [1] = [1]:=by decide
   simp [go,j1,e]
  ·exfalso;simp [hm]at h
 | succ k ih =>
  intro m hm hk4 h
  have hM:EB s n (mv m):=EB.mv fun r hr p hp=>(h.ok r hr p hp).2
  have hml:(mv m).length=k+1:=by simp [mv,hm]
  have alu:=rE (M:=mv m) (fun i=>nth (nth (mv m) i) 0) (fun i=>j1 k (pM i 0 (mv m))) (fun i=>hM.nth i 0) (fun i=>LM k (pM i 0 (mv m)) (hM.wQ i 0) (by have:=List.length_eraseIdx_le (mv m) i;simp;omega))
  have hkb:k*(s+n+4)≤4*(s+n+4):=Nat.mul_le_mul_right _ (by omega)
  have hkn:k*n≤4*n:=Nat.mul_le_mul_right _ (by omega)
  rw [j1,hml]
  refine b6 [(0,aG me m)] Tryz.func246 ?_
  refine cB [0] ?_
  have zI:¬((k:Int)+1=0):=by omega
  refine W.sr ?_
  simp (disch:=omega) [gw,hm,zI]
  refine bN [0,9] ?_
  refine W.cond ⟨_,rfl,fun hb=>?_,fun hb=>?_⟩
  ·exfalso;simp at hb;omega
  refine W.skip ?_
  refine aA [0,3] ?_
  refine W.KS 3 (Po []) (by simp) rfl (fun K hK=>?_)
  refine W.lw [0,3] hK ?_;clear hK K;simp
  refine W.seq ?_
  refine W.sr ?_
  simp (disch:=omega) [gw,hm]
  refine bN [0,3,12,13,14] ?_
  refine W.block ?_
  obtain⟨D,hD⟩:∃D:Nat→List Int,D=fun j=>(List.range j).foldl (fun d i=>if nth (nth (mv m) i) 0 = []then d else if i%2=0 then fL d (bH (nth (nth (mv m) i) 0) (j1 k (pM i 0 (mv m))))else dJ d (bH (nth (nth (mv m) i) 0) (j1 k (pM i 0 (mv m))))) []:=⟨_,rfl⟩
  have hDs:∀j,D (j+1)=if nth (nth (mv m) j) 0 = []then D j else if j%2=0 then fL (D j) (bH (nth (nth (mv m) j) 0) (j1 k (pM j 0 (mv m))))else dJ (D j) (bH (nth (nth (mv m) j) 0) (j1 k (pM j 0 (mv m)))):=fun j=>by
   rw [hD];simp only [List.range_succ,List.foldl_append,List.foldl_cons,List.foldl_nil]
  have hDb:∀j,j≤4→PB (D j):=fun j hj=>by
   have h1:=alu j
   rw [hD]
   exact PB.of h1 (by omega) (by omega)
  have hDf:(List.range (k+1)).foldl (fun d i=>if nth (nth (mv m) i) 0 = []then d else if i%2=0 then fL d (bH (nth (nth (mv m) i) 0) (j1 k (pM i 0 (mv m))))else dJ d (bH (nth (nth (mv m) i) 0) (j1 k (pM i 0 (mv m))))) []=D (k+1):=by rw [hD]
  rw [hDf]
  have vA:D 0 = []:=by rw [hD];rfl
  clear hDf hD alu
  refine W.bE (fun q σ=>∃(i:Nat) (rows:Pm.Rows) (clk:Nat),σ=⟨fa [(0,aG me m),(3,Po (D i)),(12,aG me m),(13, .int .i64 ((k:Int)+1)),(14, .int .i64 i)],rows,clk⟩∧q=k+1-i∧i≤k+1) (k+1) ?_ ?_
  ·exact⟨_,Gh.fr [(0,aG me m),(3,Po (D 0)),(12,aG me m),(13, .int .i64 ((k:Int)+1)),(14, .int .i64 (0:Nat))] (by simp [vA]),0,_,_,rfl,by omega,by omega⟩
  rintro q _ ⟨i,rows,clk,rfl,hq,hi⟩
  have c8:(i:Int)<(k:Int)+1↔i<m.length:=by omega
  refine cB [0,3,12,13,14,15] ?_
  refine W.cond ⟨_,rfl,fun h2=>?_,fun h2=>?_⟩
  ·have h2:i<m.length:=by simp at h2;omega
   have sG:=bS h2
   have R8:=h.sq _ sG
   have MZ:0<(nth m i).length:=by omega
   obtain⟨hp1,UI⟩:=h.ok _ sG _ (bS MZ)
   have hN:=eY _ hp1
   have hmn:=aba i 0 m (by omega) (by omega) (by omega) (fun r hr=>⟨by have:=h.sq r hr;omega,fun p hp=>(h.ok r hr p hp).1⟩)
   have hmk:=h.wQ (by omega) (by omega) h2 (show 0<m.length by omega)
   have aAk:(wQ i 0 m).length=k:=by simp only [wQ,List.length_map,List.length_eraseIdx_of_lt h2];omega
   have abc:=ih (wQ i 0 m) aAk (by omega) hmk
   have hdb:=LM k (pM i 0 (mv m)) (hM.wQ i 0) (by simp only [pM,List.length_map];rw [List.length_eraseIdx_of_lt (by omega)];omega)
   rw [ao4]at abc
   have hmul:=IQ hp1 UI hdb (by omega)
   have hpb:PB (bH (eX (nth (nth m i) 0)) (j1 k (pM i 0 (mv m)))):=by
    have h5:=(UI.cut).bH eB hdb
    exact PB.of h5 (by omega) (by omega)
   rw [aeu]at hmul
   have hmv:=ao3 m i 0
   have C2:=hDs i
   rw [hmv]at C2
   have ha:=z5 (hDb i (by omega)) hpb
   have hs2:=qD (hDb i (by omega)) hpb
   generalize bH (eX (nth (nth m i) 0)) (j1 k (pM i 0 (mv m)))=pr at *
   generalize j1 k (pM i 0 (mv m))=dd at *
   replace hN:aD env.P 68 [Pg (nth (nth m i) 0)] (Po (eX (nth (nth m i) 0))):=hN
   have hlz:((eX (nth (nth m i) 0)).length:Int)=0↔eX (nth (nth m i) 0) = []:=by rw [K8];omega
   generalize eX (nth (nth m i) 0)=c0 at *
   refine W.skip ?_
   refine W.dV (fun σ=>∃(rows:Pm.Rows) (clk:Nat),σ=⟨fa [(0,aG me m),(3,Po (D (i+1))),(12,aG me m),(13, .int .i64 ((k:Int)+1)),(14, .int .i64 i)],rows,clk⟩) ?_ ?_
   ·
    refine aA [0,3,4,5,12,13,14] ?_
    refine W.seq ?_
    refine aJ [0,3,4,5,12,13,14,24] hN ?_
    refine W.cond ⟨_,rfl,fun h3=>?_,fun h3=>?_⟩
    ·have h3:c0 = []:=by rw [←hlz];simpa using h3
     refine eV ?_
     refine⟨_,Gh.fr [(0,aG me m),(3,Po (D (i+1))),(12,aG me m),(13, .int .i64 ((k:Int)+1)),(14, .int .i64 i)] (by simp [C2,h3]),_,_,rfl⟩
    ·have h3:c0 ≠ []:=fun h4=>by rw [←hlz]at h4;simp [h4]at h3
     rw [if_neg h3]at C2
     refine W.skip ?_
     refine iQ ?_
     refine bW hmn ?_
     refine bW abc ?_
     refine bU [0,3,4,6,12,13,14] hmul ?_
     refine aA [0,3,6,12,13,14,35] ?_
     refine W.cond ⟨_,rfl,fun h4=>?_,fun h4=>?_⟩
     ·have h4:i%2=0:=by simp at h4;omega
      rw [if_pos h4]at C2
      refine W.cE (fun K hK=>?_)
      simp (disch:=omega) [gw]
      refine bW ha ?_
      exact hK _ ⟨_,Gh.fr [(0,aG me m),(3,Po (D (i+1))),(12,aG me m),(13, .int .i64 ((k:Int)+1)),(14, .int .i64 i)] (by simp [C2]),_,_,rfl⟩
     ·have h4:¬i%2=0:=by simp at h4;omega
      rw [if_neg h4]at C2
      refine W.cE (fun K hK=>?_)
      simp (disch:=omega) [gw]
      refine bW hs2 ?_
      exact hK _ ⟨_,Gh.fr [(0,aG me m),(3,Po (D (i+1))),(12,aG me m),(13, .int .i64 ((k:Int)+1)),(14, .int .i64 i)] (by simp [C2]),_,_,rfl⟩
   rintro _ ⟨rows,clk,rfl⟩
   refine W.cE (fun K hK=>?_);simp (disch:=omega) [gw]
   refine hK _ ⟨k+1-(i+1),_,aC _ [0,3,12,13,14],by omega,i+1,_,_,rfl,by omega,by omega⟩
  ·have h2:i=k+1:=by simp at h2;omega
   subst h2
   refine eV ?_
   refine aA [2] ?_
   exact b7
def okM(m:List (List RP)):Prop:=(∀r∈m,r.length=m.length)∧m.length≤4
instance (m:List (List RP)):Decidable (okM m):=by unfold okM;infer_instance
theorem ai1{s n:Nat}(hs:s<1073741824)(hn:n<1073741824)(m:List (List RP))(hm:m.length<1099511627776)(hr:∀r∈m,r.length<1099511627776 ∧ ∀p∈r,oQ p∧Bd LL s n (p.map gv)) :
  aD env.P 199 [aG me m] (if okM m then .fE [Po (j1 m.length (mv m)), .int .i64 0]else .fE [Po [], .int .i64 1]):=by
 have ai2:=aiZ m hm fun r h=>(hr r h).1
 by_cases h:okM m
 ·rw [decide_eq_true (show (∀r∈m,r.length=m.length)∧m.length≤4 from h)]at ai2
  have abc:=ai0 hs hn m.length m rfl h.2 ⟨h.1,fun r hh=>(hr r hh).2⟩
  rw [if_pos h]
  generalize j1 m.length (mv m)=d at *
  refine b6 [(0,aG me m)] Tryz.func199 ?_
  refine aA [0] ?_
  refine W.seq ?_
  refine aJ [0,6] ai2 ?_
  refine W.cond ⟨_,rfl,fun h2=>?_,fun h2=>?_⟩
  ·cases h2
  ·refine W.skip ?_
   refine aJ [2,3] abc ?_
   exact b7
 ·rw [decide_eq_false (show ¬((∀r∈m,r.length=m.length)∧m.length≤4)from h)]at ai2
  rw [if_neg h]
  refine b6 [(0,aG me m)] Tryz.func199 ?_
  refine aA [0] ?_
  refine W.seq ?_
  refine aJ [0,6] ai2 ?_
  refine W.cond ⟨_,rfl,fun h2=>?_,fun h2=>?_⟩
  ·refine aA [2,3] ?_
   refine W.ret ?_
   simp [go]
   rfl
  ·cases h2
theorem YD(l:List RP)(hl:l.length<1099511627776)(h:∀p∈l,oQ p):aD env.P 198 [aG pe l] (aG pe (l.map wJ)):=by
 refine b6 [(0,aG pe l)] Tryz.func198 ?_
 refine aA [0] ?_
 refine aA [0,3] ?_
 refine W.nil 3 3 24 1 (by simp) (by decide) (fun K hK=>?_)
 refine W.lw [0,3] hK ?_;clear hK K;simp
 refine aM [3,6,7,8] ?_
 refine W.block ?_
 refine W.bE (fun k σ=>∃(i ver:Nat) (rows:Pm.Rows) (clk:Nat),σ=⟨fa [(3, .own 3 ver 0 i),(6,aG pe l),(7, .int .i64 l.length),(8, .int .i64 i)],rows,clk⟩∧rows 3=some ⟨ver,24,1,emap pe ((l.take i).map wJ)⟩∧k=l.length-i∧i≤l.length) l.length ?_ ?_
 ·exact⟨_, .refl,0,_,_,_,rfl,by simp [emap],by omega,by omega⟩
 rintro k _ ⟨i,ver,rows,clk,rfl,hr,hk,hi⟩
 refine cB [3,6,7,8,9] ?_
 refine W.cond ⟨_,rfl,fun h2=>?_,fun h2=>?_⟩
 ·simp at h2
  have hN:=eY _ (h _ (bS h2))
  rw [show Po (aL ((nth l i).map gv))=Pg (wJ (nth l i))from aee _]at hN
  have er:=jH (f:=wJ) h2
  have gH:((l.take i).map wJ).length=i:=by simp;omega
  generalize (l.take i).map wJ=acc at *
  refine jV ?_
  refine aA [3,5,6,7,8] ?_
  refine W.cE (fun K hK=>?_)
  simp (disch:=omega) [gw]
  refine aB hN ?_
  simp (disch:=omega) [gw,hr,gH]
  refine W.lw [3,6,7,8] hK ?_;clear hK K;simp
  refine W.cE (fun K hK=>?_);simp (disch:=omega) [gw]
  refine hK _ ⟨l.length-(i+1),_,aC _ [3,6,7,8],by omega,i+1,_,_,_,rfl,by rw [er];simp,by omega,by omega⟩
 ·simp at h2
  have kN:i=l.length:=by omega
  subst kN
  rw [List.take_length]at hr
  have ez:(l.map wJ).take l.length=l.map wJ:=bQ (by simp)
  refine eV ?_
  refine aA [2] ?_
  refine W.ret ?_
  simp [go,hr,ez]
def ql(x:List Int):List PV:=[PI x]
def qm(r:List (List Int)):List PV:=[aG ql r]
@[simp] theorem aAl{x:List Int}:ql x = [aG ri x]:=rfl
@[simp] theorem aAm{r:List (List Int)}:qm r = [aG ql r]:=rfl
@[simp] theorem arH{l:List (List Int)}:bT 1 (emap ql l)=True:=cY fun _=>rfl
@[simp] theorem arI{l:List (List (List Int))}:bT 1 (emap qm l)=True:=cY fun _=>rfl
@[simp] theorem ao6{v e n:Nat}{l:List (List Int)}:dG (some ⟨v,e,n,emap ql l⟩)=True:=cN fun _=>rfl
@[simp] theorem ao7{v e n:Nat}{l:List (List (List Int))}:dG (some ⟨v,e,n,emap qm l⟩)=True:=cN fun _=>rfl
@[simp] theorem aAn{l:List (List Int)}{x:List Int}:emap ql l ++ [[aG ri x]]=emap ql (l ++ [x]):=by simp [emap]
@[simp] theorem aAo{l:List (List (List Int))}{x:List (List Int)}:emap qm l ++ [[aG ql x]]=emap qm (l ++ [x]):=by simp [emap]
theorem MOK.okM{s N n:Nat}{M:List (List RP)}(h:MOK s N M)(hl:M.length=n)(h4:n≤4):okM M:=⟨h.sq,by omega⟩
theorem MOK.det{s N n:Nat}{M:List (List RP)}(h:MOK s N M)(hl:M.length=n)(h4:n≤4)(hs:s<1073741824)(hN:N<1073741824):aD env.P 199 [aG me M] (.fE [Po (j1 n (mv M)), .int .i64 0]):=by
 have:=ai1 hs hN M (by omega) (fun r hr=>⟨by rw [h.sq r hr];omega,h.ok r hr⟩)
 rw [if_pos (h.okM hl h4),hl]at this
 exact this
def qF(v:CV):List RP:=[v.x.map jD,v.y.map jD,[jD v.d]]
theorem rF(x:List Int):eX (x.map jD)=aL x:=by simp only [eX,bP]
theorem C3{x:List Int}(h:Cn x):wJ (x.map jD)=x.map jD:=by
 unfold wJ eX
 rw [bP,show aL x=x from h]
theorem LN{d:Int}(h:d≠0):Cn [d]:=iZ h []
theorem U1(c:RC):c.nc.d≠0:=fun h=>by
 have h1:=Int.ediv_mul_cancel (z9 (eX c.x) (eX c.y) (iv c.s c.l) (List.mem_cons_self ..))
 rw [show dN (iv c.s c.l)/cg (eX c.x) (eX c.y) (iv c.s c.l)=c.nc.d from rfl,h,Int.zero_mul]at h1
 exact yG _ h1.symm
theorem FD{c:RC}{s n:Nat}(h:c.OK s n):aD env.P 196 [.ag c.cells] (aG pe (qF c.nc)):=by
 have n1:=nW h
 obtain⟨x1,y1,d1⟩:=h.BP
 have hn:=h.hn
 have hs:=h.hs
 have hd:=U1 c
 have r1:=YD (qF c.nc) (by simp [qF]) (fun p hp=>by
  simp only [qF,List.mem_cons,List.not_mem_nil,or_false]at hp
  rcases hp with rfl | rfl | rfl
  ·exact(PB.of x1 (by omega) (by omega)).tL
  ·exact(PB.of y1 (by omega) (by omega)).tL
  ·exact oQ.KZ (l:=[c.nc.d]) (fun x hx=>by simp at hx;subst hx;exact Nat.lt_of_le_of_lt d1 (by omega)) (by simp))
 have e1:(qF c.nc).map wJ=qF c.nc:=by
  have e2:wJ [jD c.nc.d] = [jD c.nc.d]:=C3 (LN hd)
  simp only [qF,List.map_cons,List.map_nil,C3 (show Cn c.nc.x from Cn.cut _),C3 (show Cn c.nc.y from Cn.cut _),e2]
 rw [e1]at r1
 have e3:aG pe (qF c.nc) = .sl [[Po c.nc.x],[Po c.nc.y],[.sl [[.bool (decide (c.nc.d<0)),aG u32 (aP LL c.nc.d.natAbs)]]]]:=by
  rw [fI,fI];rfl
 rw [e3]at r1 ⊢
 clear e1 e3 x1 y1 d1
 generalize c.nc=v at *
 simp only [RC.cA,CV.cA]at n1 ⊢
 refine b6 [(0, .ag [Pg c.x,Pg c.y, .bool c.s,aG u32 c.l])] Tryz.func196 ?_
 refine aA [1] ?_
 refine aJ [1] n1 ?_
 refine aJ [2] r1 ?_
 exact b7
theorem aeT{s n:Nat}(lT:1≤n){l:List RC}(h:∀c∈l,c.OK s n)(hl:l.length=3):MOK s n (l.map fun c=>qF c.nc):=⟨fun r hr=>by
 simp only [List.mem_map]at hr
 obtain⟨c,hc,rfl⟩:=hr
 simp [qF,hl],fun r hr p hp=>by
 simp only [List.mem_map]at hr
 obtain⟨c,hc,rfl⟩:=hr
 have h1:=h c hc
 have hn:=h1.hn
 have hs:=h1.hs
 obtain⟨x1,y1,d1⟩:=h1.BP
 simp only [qF,List.mem_cons,List.not_mem_nil,or_false]at hp
 rcases hp with rfl | rfl | rfl
 ·exact⟨(PB.of x1 (by omega) (by omega)).tL,by rw [bP];exact x1⟩
 ·exact⟨(PB.of y1 (by omega) (by omega)).tL,by rw [bP];exact y1⟩
 ·refine⟨oQ.KZ (l:=[c.nc.d]) (fun x hx=>by simp at hx;subst hx;exact Nat.lt_of_le_of_lt d1 (by omega)) (by simp),?_⟩
  rw [show [jD c.nc.d] = [c.nc.d].map jD from rfl,bP]
  exact⟨lT,fun x hx=>by simp at hx;subst hx;exact d1⟩⟩
def tT(v:CV):List (List Int):=[v.x,v.y,[v.d]]
theorem P7{a b c:RC}{s n:Nat}(ha:a.OK s n)(hb:b.OK s n)(hc:c.OK s n)(hs:s<1073741824)(hn:n<1073741824)(lT:1≤n):aD env.P 121 [.ag a.cells, .ag b.cells, .ag c.cells] (Po (j1 3 [tT a.nc,tT b.nc,tT c.nc])):=by
 have r1:=FD ha
 have r2:=FD hb
 have r3:=FD hc
 have d:=(aeT lT (l:=[a,b,c]) (fun q hq=>by
  simp only [List.mem_cons,List.not_mem_nil,or_false]at hq
  rcases hq with rfl | rfl | rfl
  ·exact ha
  ·exact hb
  ·exact hc) rfl).det rfl (by simp) hs hn
 have e:∀q:RC,(qF q.nc).map eX=tT q.nc:=fun q=>by
  have e2:eX [jD q.nc.d] = [q.nc.d]:=by
   rw [show [jD q.nc.d] = [q.nc.d].map jD from rfl,rF];exact LN (U1 q)
  simp only [qF,tT,List.map_cons,List.map_nil,rF,show aL q.nc.x=q.nc.x from Cn.cut _,show aL q.nc.y=q.nc.y from Cn.cut _,e2]
 rw [show mv ([a,b,c].map fun c=>qF c.nc) = [tT a.nc,tT b.nc,tT c.nc]by simp only [mv,List.map_cons,List.map_nil,e]]at d
 replace d:aD env.P 199 [.sl [[aG pe (qF a.nc)],[aG pe (qF b.nc)],[aG pe (qF c.nc)]]] (.fE [Po (j1 [a,b,c].length [tT a.nc,tT b.nc,tT c.nc]), .int .i64 0]):=d
 rw [show [a,b,c].length=3 from rfl]at d
 generalize j1 3 [tT a.nc,tT b.nc,tT c.nc]=r at *
 generalize qF a.nc=ra at *
 generalize qF b.nc=rb at *
 generalize qF c.nc=rc at *
 simp only [RC.cA]at *
 refine b6 [(0, .ag [Pg a.x,Pg a.y, .bool a.s,aG u32 a.l]),(1, .ag [Pg b.x,Pg b.y, .bool b.s,aG u32 b.l]),(2, .ag [Pg c.x,Pg c.y, .bool c.s,aG u32 c.l])] Tryz.func121 ?_
 refine aA [3,4,5] ?_
 refine aA [3,4,5,7] ?_
 refine iQ ?_
 refine bW r1 ?_
 refine bW r2 ?_
 refine bW r3 ?_
 refine bU [8] d ?_
 refine aA [6] ?_
 exact b7
def lP(v:CV):List (List Int):=[aN v.x v.d,aN v.y v.d,fL (bH v.x v.x) (bH v.y v.y),[v.d*v.d]]
def oF(v:CV):List RP:=(lP v).map fun x=>x.map jD
theorem LO{c:RC}{s n:Nat}(h:c.OK s n)(lT:1≤n):∀x∈lP c.nc,Bd LL (2*s+n+1) (2*n) x∧Cn x:=fun x hx=>by
 obtain⟨x1,y1,d1⟩:=h.BP
 have hd:=U1 c
 simp only [lP,List.mem_cons,List.not_mem_nil,or_false]at hx
 rcases hx with rfl | rfl | rfl | rfl
 ·exact⟨(Bd.aN eB x1 d1).mono (by omega) (by omega),Cn.aN _ _⟩
 ·exact⟨(Bd.aN eB y1 d1).mono (by omega) (by omega),Cn.aN _ _⟩
 ·have p1:Bd LL (2*s+n) (2*n) (bH c.nc.x c.nc.x):=(Bd.bH eB x1 x1).mono (by omega) (by omega)
  have p2:Bd LL (2*s+n) (2*n) (bH c.nc.y c.nc.y):=(Bd.bH eB y1 y1).mono (by omega) (by omega)
  exact⟨Bd.fL eB p1 p2,Cn.fL _ _⟩
 ·refine⟨⟨by simp;omega,fun v hv=>?_⟩,LN (Int.mul_ne_zero hd hd)⟩
  simp only [List.mem_cons,List.not_mem_nil,or_false]at hv
  subst hv
  exact Nat.le_trans (cO (b:=LL) eB d1 d1) (show s+s≤2*s+n+1 by omega)
theorem yI{c:RC}{s n:Nat}(h:c.OK s n)(lT:1≤n)(hs:s≤1000000)(hn:n≤1000000):aD env.P 200 [.ag c.cells] (aG pe (oF c.nc)):=by
 have n1:=nW h
 obtain⟨x1,y1,d1⟩:=h.BP
 have bC:=LO h lT
 have hP:∀x∈lP c.nc,oQ (x.map jD):=fun x hx=>(PB.of (bC x hx).1 (by omega) (by omega)).tL
 have r1:=YD (oF c.nc) (by simp [oF,lP]) (fun p hp=>by
  simp only [oF,List.mem_map]at hp
  obtain⟨x,hx,rfl⟩:=hp
  exact hP x hx)
 have e1:(oF c.nc).map wJ=oF c.nc:=by
  conv=>rhs;rw [←List.map_id (oF c.nc)]
  refine List.map_congr_left fun p hp=>?_
  simp only [oF,List.mem_map]at hp
  obtain⟨x,hx,rfl⟩:=hp
  exact C3 (bC x hx).2
 rw [e1]at r1
 have hd:Sz c.nc.d:=Nat.lt_of_le_of_lt d1 (by omega)
 have s1:=iB (x:=c.nc.x) (c:=c.nc.d) (PB.of x1 (by omega) (by omega)) hd
 have s2:=iB (x:=c.nc.y) (c:=c.nc.d) (PB.of y1 (by omega) (by omega)) hd
 have m1:=qE x1 x1 (by omega)
 have m2:=qE y1 y1 (by omega)
 have a1:=z5 (PB.of (Bd.bH eB x1 x1) (by omega) (by omega)) (PB.of (Bd.bH eB y1 y1) (by omega) (by omega))
 have w1:=vP hd hd
 have e3:aG pe (oF c.nc) = .sl [[Po (aN c.nc.x c.nc.d)],[Po (aN c.nc.y c.nc.d)],[Po (fL (bH c.nc.x c.nc.x) (bH c.nc.y c.nc.y))],[.sl [[.bool (decide (c.nc.d*c.nc.d<0)),aG u32 (aP LL (c.nc.d*c.nc.d).natAbs)]]]]:=by
  rw [fI,fI,fI];rfl
 rw [e3]at r1 ⊢
 clear e1 e3 x1 y1 d1 bC hP hd
 generalize c.nc=v at *
 generalize aN v.x v.d=k1 at *
 generalize aN v.y v.d=k2 at *
 generalize fL (bH v.x v.x) (bH v.y v.y)=k3 at *
 generalize bH v.x v.x=k4 at *
 generalize bH v.y v.y=k5 at *
 generalize v.d*v.d=k6 at *
 simp only [RC.cA,CV.cA]at n1 ⊢
 refine b6 [(0, .ag [Pg c.x,Pg c.y, .bool c.s,aG u32 c.l])] Tryz.func200 ?_
 refine aA [1] ?_
 refine aJ [1] n1 ?_
 refine iQ ?_
 refine bW s1 ?_
 refine bW s2 ?_
 refine bW m1 ?_
 refine bW m2 ?_
 refine bW a1 ?_
 refine bW w1 ?_
 refine bU [2] r1 ?_
 exact b7
theorem aeU{s n:Nat}(lT:1≤n)(hs:s≤1000000)(hn:n≤1000000){l:List RC}(h:∀c∈l,c.OK s n)(hl:l.length=4):MOK (2*s+n+1) (2*n) (l.map fun c=>oF c.nc):=⟨fun r hr=>by
 simp only [List.mem_map]at hr
 obtain⟨c,hc,rfl⟩:=hr
 simp [oF,lP,hl],fun r hr p hp=>by
 simp only [List.mem_map]at hr
 obtain⟨c,hc,rfl⟩:=hr
 simp only [oF,List.mem_map]at hp
 obtain⟨x,hx,rfl⟩:=hp
 have:=(LO (h c hc) lT x hx).1
 exact⟨(PB.of this (by omega) (by omega)).tL,by rw [bP];exact this⟩⟩
theorem yJ{c:RC}{s n:Nat}(h:c.OK s n)(lT:1≤n):(oF c.nc).map eX=lP c.nc:=by
 rw [oF,List.map_map]
 conv=>rhs;rw [←List.map_id (lP c.nc)]
 refine List.map_congr_left fun x hx=>?_
 simp only [Function.comp_apply,rF,id]
 exact(LO h lT x hx).2
theorem HC{a b c e:RC}{s n:Nat}(ha:a.OK s n)(hb:b.OK s n)(hc:c.OK s n)(he:e.OK s n)(hs:s≤1000000)(hn:n≤1000000)(lT:1≤n):aD env.P 122 [.ag a.cells, .ag b.cells, .ag c.cells, .ag e.cells] (Po (j1 4 [lP a.nc,lP b.nc,lP c.nc,lP e.nc])):=by
 have r1:=yI ha lT hs hn
 have r2:=yI hb lT hs hn
 have r3:=yI hc lT hs hn
 have r4:=yI he lT hs hn
 have d:=(aeU lT hs hn (l:=[a,b,c,e]) (fun q hq=>by
  simp only [List.mem_cons,List.not_mem_nil,or_false]at hq
  rcases hq with rfl | rfl | rfl | rfl
  ·exact ha
  ·exact hb
  ·exact hc
  ·exact he) rfl).det rfl (by simp) (by omega) (by omega)
 rw [show mv ([a,b,c,e].map fun c=>oF c.nc) = [lP a.nc,lP b.nc,lP c.nc,lP e.nc]by simp only [mv,List.map_cons,List.map_nil,yJ ha lT,yJ hb lT,yJ hc lT,yJ he lT]]at d
 replace d:aD env.P 199 [.sl [[aG pe (oF a.nc)],[aG pe (oF b.nc)],[aG pe (oF c.nc)],[aG pe (oF e.nc)]]] (.fE [Po (j1 [a,b,c,e].length [lP a.nc,lP b.nc,lP c.nc,lP e.nc]), .int .i64 0]):=d
 rw [show [a,b,c,e].length=4 from rfl]at d
 generalize j1 4 [lP a.nc,lP b.nc,lP c.nc,lP e.nc]=r at *
 generalize oF a.nc=ra at *
 generalize oF b.nc=rb at *
 generalize oF c.nc=rc at *
 generalize oF e.nc=re' at *
 simp only [RC.cA]at *
 refine b6 [(0, .ag [Pg a.x,Pg a.y, .bool a.s,aG u32 a.l]),(1, .ag [Pg b.x,Pg b.y, .bool b.s,aG u32 b.l]),(2, .ag [Pg c.x,Pg c.y, .bool c.s,aG u32 c.l]),(3, .ag [Pg e.x,Pg e.y, .bool e.s,aG u32 e.l])] Tryz.func122 ?_
 refine aA [4,5,6,7] ?_
 refine aA [4,5,6,7,9] ?_
 refine iQ ?_
 refine bW r1 ?_
 refine bW r2 ?_
 refine bW r3 ?_
 refine bW r4 ?_
 refine bU [10] d ?_
 refine aA [8] ?_
 exact b7
def still(x y:Int):RC:=⟨(aL [x]).map jD,(aL [y]).map jD,false,[]⟩
theorem yK(x y:Int):(still x y).nc=nC (aL [x]) (aL [y]) 0:=by
 show nC (eX ((aL [x]).map jD)) (eX ((aL [y]).map jD)) (iv false [])=_
 rw [rF,rF,dX,dX];rfl
theorem aeV{x y:Int}(hx : -9223372036854775808≤x∧x<9223372036854775808)(hy : -9223372036854775808≤y∧y<9223372036854775808):(still x y).OK 2 1:=by
 have hz:∀v:Int, -9223372036854775808≤v∧v<9223372036854775808→Bd LL 2 1 (aL [v]):=fun v hv=>Bd.cut ⟨by simp,fun c hc=>by
  simp only [List.mem_cons,List.not_mem_nil,or_false]at hc
  subst hc
  exact cQ eB (by show c.natAbs<4294967296^2;omega)⟩
 refine⟨(PB.of (hz x hx) (by decide) (by decide)).tL,(PB.of (hz y hy) (by decide) (by decide)).tL,⟨cW.nil,by show 0<1099511627776;decide⟩,?_,?_,?_,by decide,by decide,by decide⟩
 ·show Bd LL 2 1 (((aL [x]).map jD).map gv)
  rw [bP];exact hz x hx
 ·show Bd LL 2 1 (((aL [y]).map jD).map gv)
  rw [bP];exact hz y hy
 ·show sz LL 0≤2
  rw [jO];omega
theorem ai3{x y:RP}{s n:Nat}(h:(RC.mk x y false []).OK s n):aD env.P 194 [Pg x,Pg y] (.ag (RC.mk x y false []).nc.cells):=by
 have n1:=h.norm
 generalize (RC.mk x y false []).nc=v at *
 simp only [RC.cA,CV.cA]at *
 replace n1:aD env.P 243 [.ag [Pg x,Pg y, .bool false, .sl []]] (.ag [Po v.x,Po v.y, .bool (decide (v.d<0)),aG u32 (aP LL v.d.natAbs)]):=n1
 refine b6 [(0,Pg x),(1,Pg y)] Tryz.func194 ?_
 refine aA [0,1,4] ?_
 refine aJ [4] n1 ?_
 exact b7
theorem uV{x y:Int}(hx : -9223372036854775808≤x∧x<9223372036854775808)(hy : -9223372036854775808≤y∧y<9223372036854775808):aD env.P 119 [.int .i64 x, .int .i64 y] (.ag (still x y).nc.cells):=by
 have o1:aD env.P 12 [.sl [[.int .i64 x]]] (Po (aL [x])):=CX [x] (by simp) (by simpa using hx)
 have o2:aD env.P 12 [.sl [[.int .i64 y]]] (Po (aL [y])):=CX [y] (by simp) (by simpa using hy)
 have c1:=ai3 (aeV hx hy)
 rw [←fI,←fI]at c1
 rw [show(RC.mk ((aL [x]).map jD) ((aL [y]).map jD) false [])=still x y from rfl]at c1
 generalize (still x y).nc=v at *
 generalize aL [x]=px at *
 generalize aL [y]=py at *
 simp only [CV.cA]at *
 refine b6 [(0, .int .i64 x),(1, .int .i64 y)] Tryz.func119 ?_
 refine aA [0,1,4] ?_
 refine iM ?_
 refine bW o1 ?_
 refine bW o2 ?_
 refine bU [4] c1 ?_
 exact b7
def CV.rc(v:CV):RC:=⟨v.x.map jD,v.y.map jD,decide (v.d<0),aP LL v.d.natAbs⟩
theorem CV.oG(v:CV):v.rc.cells=v.cells:=by
 simp only [RC.cA,CV.cA,CV.rc,←fI]
theorem CV.ext'{a b:CV}(h1:a.x=b.x)(h2:a.y=b.y)(h3:a.d=b.d):a=b:=by
 cases a;cases b;simp only at h1 h2 h3;subst h1 h2 h3;rfl
theorem CV.YE(v:CV):v.rc.nc=nC (aL v.x) (aL v.y) v.d:=by
 show nC (eX (v.x.map jD)) (eX (v.y.map jD)) (iv (decide (v.d<0)) (aP LL v.d.natAbs))=_
 rw [rF,rF,tG]
theorem CV.YF{v:CV}(hx:Bd LL 2 1 v.x)(hy:Bd LL 2 1 v.y)(hd:sz LL v.d≤2):v.rc.OK 2 1:=by
 refine⟨(PB.of hx (by decide) (by decide)).tL,(PB.of hy (by decide) (by decide)).tL,Sz.SA (Nat.lt_of_le_of_lt hd (by decide)),?_,?_,?_,by decide,by decide,by decide⟩
 ·show Bd LL 2 1 ((v.x.map jD).map gv)
  rw [bP];exact hx
 ·show Bd LL 2 1 ((v.y.map jD).map gv)
  rw [bP];exact hy
 ·show sz LL (iv (decide (v.d<0)) (aP LL v.d.natAbs))≤2
  rw [tG];exact hd
theorem aAp:nC [] [] 0=⟨[],[],1⟩:=CV.ext' (by decide +kernel) (by decide +kernel) (by decide +kernel)
theorem aAq:nC [1] [] 0=⟨[1],[],1⟩:=CV.ext' (by decide +kernel) (by decide +kernel) (by decide +kernel)
theorem aAr:nC [] [1] 0=⟨[],[1],1⟩:=CV.ext' (by decide +kernel) (by decide +kernel) (by decide +kernel)
theorem aAs:nC [1] [1] 0=⟨[1],[1],1⟩:=CV.ext' (by decide +kernel) (by decide +kernel) (by decide +kernel)
theorem aAt:nC [] [] 1=⟨[],[],1⟩:=CV.ext' (by decide +kernel) (by decide +kernel) (by decide +kernel)
theorem aAu:nC [1] [] 1=⟨[1],[],1⟩:=CV.ext' (by decide +kernel) (by decide +kernel) (by decide +kernel)
theorem aAv:nC [] [1] 1=⟨[],[1],1⟩:=CV.ext' (by decide +kernel) (by decide +kernel) (by decide +kernel)
theorem aAw:nC [1] [1] 1=⟨[1],[1],1⟩:=CV.ext' (by decide +kernel) (by decide +kernel) (by decide +kernel)
theorem P8:Bd LL 2 1 []∧Bd LL 2 1 [1]:=⟨⟨by decide,fun c hc=>by cases hc⟩,⟨by decide,fun c hc=>by
 simp only [List.mem_cons,List.not_mem_nil,or_false]at hc
 subst hc;exact cQ eB (by decide)⟩⟩
theorem Bd1:sz LL 1≤2:=cQ eB (by decide)
set_option maxHeartbeats 2000000 in
theorem BR:aD env.P 43 [] (.bool true):=by
 have s1:=uV (x:=0) (y:=0) (by decide) (by decide)
 have s2:=uV (x:=1) (y:=0) (by decide) (by decide)
 have s3:=uV (x:=0) (y:=1) (by decide) (by decide)
 have s4:=uV (x:=1) (y:=1) (by decide) (by decide)
 rw [yK,show aL [0]=([]:List Int)from rfl,aAp]at s1
 rw [yK,show aL [0]=([]:List Int)from rfl,show aL [1]=([1]:List Int)from rfl,aAq]at s2
 rw [yK,show aL [0]=([]:List Int)from rfl,show aL [1]=([1]:List Int)from rfl,aAr]at s3
 rw [yK,show aL [1]=([1]:List Int)from rfl,aAs]at s4
 have k1:(CV.mk [] [] 1).rc.OK 2 1:=CV.YF P8.1 P8.1 Bd1
 have k2:(CV.mk [1] [] 1).rc.OK 2 1:=CV.YF P8.2 P8.1 Bd1
 have k3:(CV.mk [] [1] 1).rc.OK 2 1:=CV.YF P8.1 P8.2 Bd1
 have k4:(CV.mk [1] [1] 1).rc.OK 2 1:=CV.YF P8.2 P8.2 Bd1
 have e1:(CV.mk [] [] 1).rc.nc=⟨[],[],1⟩:=(CV.YE _).trans aAt
 have e2:(CV.mk [1] [] 1).rc.nc=⟨[1],[],1⟩:=(CV.YE _).trans aAu
 have e3:(CV.mk [] [1] 1).rc.nc=⟨[],[1],1⟩:=(CV.YE _).trans aAv
 have e4:(CV.mk [1] [1] 1).rc.nc=⟨[1],[1],1⟩:=(CV.YE _).trans aAw
 have o:=P7 k1 k2 k3 (by decide) (by decide) (by decide)
 have i:=HC k1 k2 k3 k4 (by decide) (by decide) (by decide)
 rw [e1,e2,e3,CV.oG,CV.oG,CV.oG,show j1 3 [tT ⟨[],[],1⟩,tT ⟨[1],[],1⟩,tT ⟨[],[1],1⟩] = [1]by decide +kernel]at o
 rw [e1,e2,e3,e4,CV.oG,CV.oG,CV.oG,CV.oG,show j1 4 [lP ⟨[],[],1⟩,lP ⟨[1],[],1⟩,lP ⟨[],[1],1⟩,lP ⟨[1],[1],1⟩] = []by decide +kernel]at i
 have o1:aD env.P 96 [.sl [[.int .i64 1]]] (PI [1]):=K7 [1] (by decide) (by decide)
 have q1:=aaX [1] [1] (by decide) (by decide) (fun c hc=>by
  simp only [List.mem_cons,List.not_mem_nil,or_false]at hc
  subst hc;exact Nat.lt_of_le_of_lt (cQ (k:=1) (by decide) (by decide)) (by decide)) (fun c hc=>by
  simp only [List.mem_cons,List.not_mem_nil,or_false]at hc
  subst hc;exact Nat.lt_of_le_of_lt (cQ (k:=1) (by decide) (by decide)) (by decide))
 simp only [decide_true]at q1
 clear k1 k2 k3 k4 e1 e2 e3 e4
 generalize CV.mk [] [] 1=v1 at *
 generalize CV.mk [1] [] 1=v2 at *
 generalize CV.mk [] [1] 1=v3 at *
 generalize CV.mk [1] [1] 1=v4 at *
 generalize ([1]:List Int)=L1 at *
 simp only [CV.cA]at *
 refine b6 [] Tryz.func43 ?_
 refine aA [] ?_
 refine iM ?_
 refine bW s1 ?_
 refine bW s2 ?_
 refine bW s3 ?_
 refine bU [1,2,3,4] s4 ?_
 refine iQ ?_
 refine bW o1 ?_
 refine bW o ?_
 refine bW q1 ?_
 refine bU [0] i ?_
 exact b7
structure PT where
 c:RC
 id:Int
instance:Inhabited PT:=⟨⟨⟨[],[],false,[]⟩,0⟩⟩
def j2(p:PT):List PV:=[Pg p.c.x,Pg p.c.y, .bool p.c.s,aG u32 p.c.l, .int .i64 p.id]
@[simp] theorem o7{p:PT}:j2 p = [Pg p.c.x,Pg p.c.y, .bool p.c.s,aG u32 p.c.l, .int .i64 p.id]:=rfl
@[simp] theorem ao8{l:List PT}:bT 5 (emap j2 l)=True:=cY fun _=>rfl
structure PT.In(p:PT):Prop where
 x:InP p.c.x
 y:InP p.c.y
 l:cW 4294967296 p.c.l
 ll:p.c.l.length<9223372036854775808
theorem abd:tH Tryz.prog 86 (fun ps=>∃c:RC,ps=c.cells∧InP c.x∧InP c.y∧InL c.l):=
 (tH.struct (fs:=[⟨ "X",24,0,false, "", "",0⟩,⟨ "Y",24,1,false, "", "",24⟩,⟨ "D",38,2,false, "", "", 48⟩]) (Rs:=[fun ps=>∃p:RP,ps=pe p∧InP p,fun ps=>∃p:RP,ps=pe p∧InP p,fun ps=>∃c:Bool × List Int,ps=ge c∧InL c.2]) (by kernel_rfl)
  ⟨rfl,PH,by kernel_rfl,PH,by kernel_rfl,XU,by show(_:Nat)=_;kernel_rfl⟩).mono fun ps h=>by
  simp only [aaG]at h
  obtain⟨a,b,rfl,⟨x,rfl,hx⟩,a',b',rfl,⟨y,rfl,hy⟩,a'',b'',rfl,⟨d,rfl,hd⟩,rfl⟩:=h
  exact⟨⟨x,y,d.1,d.2⟩,rfl,hx,hy,hd⟩
theorem CM{c:RC}(h:c.Small 3 1):c.nc.Sz 32 3:=by
 obtain⟨x,y,d,_⟩:=h.bd2
 exact⟨x,y,d,by decide,by decide,by decide⟩
theorem P9(x y:List Int){s s' N:Nat}(hx:Bd 2 s N x)(hy:Bd 2 s' N y)(cx:Cn x)(cy:Cn y)(UB:0<y.length)(hs:1≤s)(hB:s+(N+1)*(s'+N+2)+s'+N+N+10<137438953472) :
  aD env.P 240 [PP (qs x),PP (qs y)] (.fE [PP (qd (aL (dmd x y).Q) (dmd x y).D),PP (qd (dmd x y).r (dmd x y).D)]):=by
 have hNx:=hx.len
 have hNy:=hy.len
 have hl:=dK cy UB
 have hls:=gO hy
 have hM:x.length+1≤N+1:=by omega
 refine dH (E:=env) (fun id=>if id=17 then 2 else 0) [(0,PP (qs x)),(1,PP (qs y))] Tryz.func240 rfl (by kernel_rfl) (by kernel_rfl) (show 2≤84 by decide) (by simp) ?_
 obtain⟨R0,NK⟩:∃R0,R0=dms y (x.length+1) ⟨List.replicate (jW x y) 0,x,1⟩:=⟨_,rfl⟩
 rw [show dmd x y=R0 from NK.symm]
 have hkN:jW x y≤N:=by unfold jW;omega
 have hkk:(if (x.length:Int)-(y.length:Int)+1<0 then 0 else(x.length:Int)-(y.length:Int)+1)=(jW x y:Int):=by unfold jW;split<;>omega
 have hI0:wO x y ⟨List.replicate (jW x y) 0,x,1⟩:=wO.start cx
 generalize zI:jW x y=k0 at *
 obtain⟨a0,ha0⟩:∃a0,a0=qs x:=⟨_,rfl⟩
 obtain⟨yq,hyq⟩:∃yq,yq=qs y:=⟨_,rfl⟩
 have la0:a0.length=x.length:=by rw [ha0];simp
 have lyq:yq.length=y.length:=by rw [hyq];simp
 rw [←ha0,←hyq]
 refine aA [0,1] ?_
 refine W.sr ?_
 simp (disch:=omega) [gw,la0,lyq,hkk]
 refine bN [0,1,6] ?_
 refine aM [0,1,6,21,22] ?_
 refine W.block ?_
 refine W.bE (fun k σ=>∃(i ver:Nat) (els:List (List PV)) (rows:Pm.Rows) (clk:Nat),σ=⟨fa [(0,PP a0),(1,PP yq),(6, .own 19 ver 0 k0),(21, .int .i64 k0),(22, .int .i64 i)],rows,clk⟩ ∧
  rows 19=some ⟨ver,31,4,els⟩∧els.length=k0∧(∀e∈els,e.length=4)∧els.take i=emap ri (List.replicate i 0)∧k=k0-i∧i≤k0) k0 ?_ ?_
 ·exact⟨_, .refl,0,_,List.replicate k0 [.nil, .bool false, .nil, .bool false],_,_,rfl,by simp,by simp,by simp,by simp [emap],by omega,by omega⟩
 rintro k _ ⟨i,ver,els,rows,clk,rfl,hr,nT,PG,sI,hk,hi⟩
 have T9:bT 4 els=True:=by simp only [bT,eq_iff_iff,iff_true];exact PG
 refine cB [0,1,6,21,22,23] ?_
 refine bF ?_ ?_<;>intro h
 ·have h:i<k0:=by simp at h;omega
  refine jV ?_
  refine aA [0,1,6,7,21,22] ?_
  refine W.cE (fun K hK=>?_)
  simp (disch:=omega) [gw]
  refine aB qC ?_
  have wL:i<els.length:=by omega
  have hE:vN els i 4=True:=by
   simp only [eq_iff_iff,iff_true]
   exact⟨els[i],List.getElem?_eq_getElem wL,by rw [PG _ (List.getElem_mem wL)];omega⟩
  have hS:i5 els i 0 [aG aH (aP DD 0), .bool false,aG aH (aP DD 1), .bool false]=els.set i (ri 0):=by
   have h4:=PG _ (List.getElem_mem wL)
   rw [i5,List.getElem?_eq_getElem wL]
   simp [List.drop_of_length_le,h4]
  simp (disch:=omega) [gw,hr,hE,hS]
  refine W.lw [0,1,6,21,22] hK ?_;clear hK K;simp
  refine W.cE (fun K hK=>?_);simp (disch:=omega) [gw]
  refine hK _ ⟨k0-(i+1),_,aC _ [0,1,6,21,22],by omega,i+1,ver,els.set i (ri 0),_,_,rfl,by simp,by simpa using nT,fun e he=>?_,?_,by omega,by omega⟩
  ·rcases List.mem_or_eq_of_mem_set he with h1 | h1
   ·exact PG e h1
   ·rw [h1];rfl
  ·rw [kY sI (by omega),List.replicate_succ']
   simp [emap]
 have h:i=k0:=by simp at h;omega
 subst h
 have pG:els=emap re (qd (List.replicate i 0) 1):=by rw [jB,E8,←sI,bQ nT]
 subst pG
 rw [show a0=qd x 1 by rw [ha0,jB]]
 clear sI PG nT T9 hk hi hkk ha0 la0 a0
 refine eV ?_
 refine W.seq ?_
 refine W.block ?_
 generalize hdd:s'+N+2=d at *
 have hNN:∀j,(x.length+1-j)*d≤(N+1)*d:=fun j=>Nat.mul_le_mul_right _ (by omega)
 refine W.bE (fun n σ=>∃(Q r:List Int) (D:Int) (v6:Nat) (rows:Pm.Rows) (clk:Nat),σ=⟨fa [(0,PP (qd r D)),(1,PP yq),(6, .own 19 v6 0 i)],rows,clk⟩ ∧
  rows 19=some ⟨v6,31,4,emap re (qd Q D)⟩∧Q.length=i∧wO x y ⟨Q,r,D⟩∧r.length<n∧n≤x.length+1∧dms y n ⟨Q,r,D⟩=R0∧Bd 2 (s+(x.length+1-n)*d) N r∧sz 2 D≤s+(x.length+1-n)*d) (x.length+1) ?_ ?_
 ·exact⟨_,aC _ [0,1,6],_,x,1,_,_,_,rfl,hr,by simp,hI0,by omega,by omega,NK.symm,hx.mono (by omega) (by omega),Nat.le_trans (cQ (k:=1) (by decide) (by decide)) (by omega)⟩
 clear hr rows clk ver
 rintro n _ ⟨Q,r,D,v6,rows,clk,rfl,hr,hQ,hI,hrn,hnM,hd,br,bD⟩
 have hD:D≠0:=hI.d
 have OX:=hNN n
 obtain⟨a,ha⟩:∃a,a=qd r D:=⟨_,rfl⟩
 have la:a.length=r.length:=by rw [ha];simp
 rw [←ha]
 refine W.seq ?_
 refine W.sr ?_
 simp (disch:=omega) [gw,la,lyq]
 refine bN [0,1,6,34] ?_
 refine bF ?_ ?_<;>intro h
 ·have h:y.length≤r.length:=by simp at h;omega
  obtain⟨n,rfl⟩:∃m,n=m+1:=⟨n-1,by omega⟩
  obtain⟨k,hk⟩:∃k,k=r.length-y.length:=⟨_,rfl⟩
  have hkI:(r.length:Int)-(y.length:Int)=k:=by omega
  have hki:k<i:=by have:=hI.q.resolve_right (show ¬r.length<y.length by omega);simp only at this;omega
  have hI2:=hI.step cy UB h
  have GJ:=LD (σ:=⟨Q,r,D⟩) UB h
  rw [dms,if_neg (show ¬r.length<y.length by omega)]at hd
  simp only [dst,←hk]at hI2 GJ hd
  have hT:s+(x.length+1-n)*d=s+(x.length+1-(n+1))*d+d:=by
   rw [show x.length+1-n=(x.length+1-(n+1))+1 by omega,Nat.add_mul,Nat.one_mul];omega
  have hn3:=hNN n
  generalize hU:s+(x.length+1-(n+1))*d=U at *
  have hlr:=gO br
  have hNr:=br.len
  have xC:D*lead y≠0:=Int.mul_ne_zero hD hl
  have zD2:sz 2 (D*lead y)≤U+s':=cO (by decide) bD hls
  have hp:nth a (r.length-1)=dR (lead r) D:=by rw [ha,LC hD];rfl
  have OW:nth yq (y.length-1)=(lead y:Rat):=by rw [hyq,aet];rfl
  have avd:=E6 (dR (lead r) D) (lead y:Rat) (tP hD (Nat.le_trans hlr (by show U≤137438953472;omega)) (Nat.le_trans bD (by show U≤137438953472;omega))) (pN (Nat.le_trans hls (by show s'≤137438953472;omega)) (by decide)) (gP hl)
  rw [aiT hD hl]at avd
  have hSc:=mA yq (dR (lead r) (D*lead y)) (by rw [hyq];exact SD.qs (fun c hc=>Nat.le_trans (hy.sz c hc) (by show s'≤137438953472;omega)) (by omega)) (tP xC (Nat.le_trans hlr (by show U≤137438953472;omega)) (Nat.le_trans zD2 (by show U+s'≤137438953472;omega)))
  rw [hyq,z7 xC,←hyq]at hSc
  have bsc:Bd 2 (U+s') N (aN y (lead r)):=(hy.aN (by decide) hlr).mono (by omega) (by omega)
  have bw:Bd 2 (U+s') N (List.replicate k 0++aN y (lead r)):=⟨by have:=qV y (lead r);simp;omega,fun c hc=>by
   rcases List.mem_append.1 hc with h1 | h1
   ·rw [(List.mem_replicate.1 h1).2,jO];omega
   ·exact bsc.sz c h1⟩
  have brl:Bd 2 (U+s') N (r.map (· * lead y)):=⟨by simpa using br.len,fun c hc=>by
   simp only [List.mem_map]at hc
   obtain⟨v,hv,rfl⟩:=hc
   exact cO (by decide) (br.sz v hv) hls⟩
  have hSu:=PR (qd (r.map (· * lead y)) (D*lead y)) (qd (List.replicate k 0++aN y (lead r)) (D*lead y)) _
   (wN xC brl zD2 (by show U+s'≤137438953472;omega) (by omega)) (wN xC bw zD2 (by show U+s'≤137438953472;omega) (by omega)) (X3 xC _) (wN xC bw.fU zD2 (by show U+s'≤137438953472;omega) (by omega))
  rw [X1 xC,E7 hD hl,←ha]at hSu
  have er:fL (r.map (· * lead y)) (fU (List.replicate k 0++aN y (lead r)))=zG y (lead y) (lead r) k r:=Cn.ext (Cn.fL _ _) (Cn.dJ _ _) fun t=>by
   rw [qS,dY,wF,eH,r7,cR,zG,iH,cR,dP,oZ,List.length_replicate];grind
  have br2:Bd 2 (U+d) N (zG y (lead y) (lead r) k r):=by
   rw [←er]
   exact(Bd.fL (by decide) brl bw.fU).mono (by omega) (by omega)
  rw [er]at hSu
  have ew:qd (List.replicate k 0++aN y (lead r)) (D*lead y)=List.replicate k 0++qd (aN y (lead r)) (D*lead y):=by
   simp only [qd,List.map_append,List.map_replicate,yE xC]
  rw [ew]at hSu
  have lb:(qd (aN y (lead r)) (D*lead y)).length≤N:=by have:=bsc.len;simpa using this
  have aeA:(qd Q D).set k (dR (lead r) (D*lead y))=qd ((Q.map (· * lead y)).set k (lead r)) (D*lead y):=by
   rw [←E7 hD hl Q,qd,qd,List.map_set]
  have hQl:(qd Q D).length=i:=by simpa using hQ
  refine W.skip ?_
  refine W.block ?_
  generalize hz:qd Q D=z at *
  generalize qd (aN y (lead r)) (D*lead y)=b at *
  generalize hcc:dR (lead r) (D*lead y)=c at *
  generalize UI:dR (lead r) D=p at *
  generalize hlq:(lead y:Rat)=lq at *
  generalize ha2:qd (zG y (lead y) (lead r) k r) (D*lead y)=a2 at *
  refine W.sr ?_
  simp (disch:=omega) [gw,la,lyq,hkI]
  refine bN [0,1,6,8] ?_
  have aFy:0<r.length:=by omega
  have e1:((r.length:Int)-1).toNat=r.length-1:=by omega
  have e2:((y.length:Int)-1).toNat=y.length-1:=by omega
  refine W.sd ?_
  simp (disch:=omega) [gw,la,lyq,e1,e2,hp,OW]
  refine bW avd ?_
  rw [if_pos (by kernel_rfl)]
  simp (disch:=omega) [gw]
  refine bN [0,1,6,8,9] ?_
  have hkl:k<z.length:=by omega
  refine W.sr ?_
  simp (disch:=omega) [gw,hr,hkl]
  refine bN [0,1,6,8,9] ?_
  refine aA [0,1,6,8,9,10] ?_
  refine aM [0,1,6,8,9,10,60,61] ?_
  refine W.block ?_
  refine W.bE (fun m σ=>∃(j v9 v10 v6:Nat) (els:List (List PV)) (rows:Pm.Rows) (clk:Nat),σ=⟨fa [(0,PP a),(1,PP yq),(6, .own 19 v6 0 i),(9, .ptr 9 v9 0 0),(10, .own 58 v10 0 k),(60, .int .i64 k),(61, .int .i64 j)],rows,clk⟩ ∧
   rows 19=some ⟨v6,31,4,emap re (z.set k c)⟩∧rows 9=some ⟨v9,31,4,[[aG aH (aP DD c.num.natAbs), .bool (decide (c.num<0)),aG aH (aP DD c.den), .bool false]]⟩ ∧
   rows 58=some ⟨v10,31,4,els⟩∧els.length=k∧(∀e∈els,e.length=4)∧els.take j=emap ri (List.replicate j 0)∧m=k-j∧j≤k) k ?_ ?_
  ·exact⟨_,aC _ [0,1,6,9,10,60,61],0,_,_,_,List.replicate k [.nil, .bool false, .nil, .bool false],_,_,rfl,by simp [hr],by simp,by simp,by simp,by simp,by simp [emap],by omega,by omega⟩
  clear hr rows clk v6
  rintro m _ ⟨j,v9,v10,v6,els,rows,clk,rfl,hr,U2,lO,nT,PG,sI,hm,hj⟩
  have T9:bT 4 els=True:=by simp only [bT,eq_iff_iff,iff_true];exact PG
  refine cB [0,1,6,9,10,60,61,62] ?_
  refine bF ?_ ?_<;>intro h
  ·have h:j<k:=by simp at h;omega
   refine jV ?_
   refine aA [0,1,6,9,10,11,60,61] ?_
   refine W.cE (fun K hK=>?_)
   simp (disch:=omega) [gw]
   refine aB qC ?_
   have wL:j<els.length:=by omega
   have hE:vN els j 4=True:=by
    simp only [eq_iff_iff,iff_true]
    exact⟨els[j],List.getElem?_eq_getElem wL,by rw [PG _ (List.getElem_mem wL)];omega⟩
   have hS:i5 els j 0 [aG aH (aP DD 0), .bool false,aG aH (aP DD 1), .bool false]=els.set j (ri 0):=by
    have h4:=PG _ (List.getElem_mem wL)
    rw [i5,List.getElem?_eq_getElem wL]
    simp [List.drop_of_length_le,h4]
   simp (disch:=omega) [gw,lO,hE,hS]
   refine W.lw [0,1,6,9,10,60,61] hK ?_;clear hK K;simp
   refine W.cE (fun K hK=>?_);simp (disch:=omega) [gw]
   refine hK _ ⟨k-(j+1),_,aC _ [0,1,6,9,10,60,61],by omega,j+1,v9,v10,v6,els.set j (ri 0),_,_,rfl,by simp [hr],by simp [U2],by simp,by simpa using nT,fun e he=>?_,?_,by omega,by omega⟩
   ·rcases List.mem_or_eq_of_mem_set he with h1 | h1
    ·exact PG e h1
    ·rw [h1];rfl
   ·rw [kY sI (by omega),List.replicate_succ']
    simp [emap]
  have h:j=k:=by simp at h;omega
  subst h
  have pG:els=emap re (List.replicate j 0):=by
   have h1:emap ri (List.replicate j 0)=emap re (List.replicate j 0):=by simp [emap,gK]
   rw [←h1,←sI,bQ nT]
  subst pG
  clear sI PG nT T9
  refine eV ?_
  refine W.H7 (fun K hK=>?_)
  rw [if_pos rfl,fF]
  have hsl:((List.take r.length a).drop 0)=a:=by rw [List.drop_zero,List.take_of_length_le (by omega)]
  simp (disch:=omega) [gw,la,lyq,U2,KG,hsl]
  refine aB hSc ?_
  have zF:List.take (j+b.length) (List.replicate j 0++b)=List.replicate j 0++b:=List.take_of_length_le (by simp)
  simp (disch:=omega) [gw,lO,zF]
  refine bW hSu ?_
  subst ha2
  have cC:rows 19=some ⟨v6,31,4,emap re (qd ((Q.map (· * lead y)).set j (lead r)) (D*lead y))⟩:=by rw [hr,aeA]
  refine hK _ ⟨n,_,aC _ [0,1,6],by omega,(Q.map (· * lead y)).set j (lead r),zG y (lead y) (lead r) j r,D*lead y,v6,_,_,rfl,by simp [cC],by simpa using hQ,hI2,by omega,by omega,hd,?_,?_⟩
  ·rw [hT];exact br2
  ·rw [hT];exact Nat.le_trans zD2 (by omega)
 ·have h:r.length<y.length:=by simp at h;omega
  rw [aiU h]at hd
  subst hd
  refine eV ?_
  have hcq:=yB (qd Q D) (by simp;omega)
  rw [uT hD]at hcq
  have hQl:(qd Q D).length=i:=by simpa using hQ
  have uN:=bQ hQl
  rw [←ha]
  generalize qd Q D=z at *
  generalize qd (aL Q) D=z2 at *
  refine W.sr ?_
  simp (disch:=omega) [gw,hr,uN]
  refine bU [4,5] hcq ?_
  exact b7
theorem QB{x y:List Int}(cy:Cn y)(hy:0<y.length):∀(j:Nat),j≤x.length→exs y j (List.replicate j 0++x.drop j) (bH (aL (x.take j)) y)=some (x,[])
 | 0,_=>by
  have:bH (aL (x.take 0)) y = []:=Cn.ext (Cn.bH _ _) Cn.nil fun t=>by rw [dP,dF];simp [V]
  rw [exs,this];rfl
 | j+1,h=>by
  have ih:=QB (x:=x) cy hy j (by omega)
  have hly:=dK cy hy
  have ht:=aY (l:=x) (i:=j) (by omega)
  have hdr:x.drop j=nth x j::x.drop (j+1):=by
   rw [List.drop_eq_getElem_cons (l:=x) (i:=j) (by omega),show nth x j=x[j]from dE (by omega)]
  rw [exs]
  by_cases hv:nth x j=0
  ·have hw:aL (x.take (j+1))=aL (x.take j):=by rw [ht,hv,j9]
   rw [hw]
   have h1:=tD (x:=aL (x.take j)) hy
   have h2:=cG (x.take j)
   rw [List.length_take]at h2
   rw [if_pos (by omega),←ih]
   rw [hdr,hv,List.replicate_succ',List.append_assoc];rfl
  ·have hw:aL (x.take (j+1))=x.take j ++ [nth x j]:=by rw [ht];exact iZ hv _
   have cw:Cn (x.take j ++ [nth x j]):=iZ hv _
   have hwl:(x.take j ++ [nth x j]).length=j+1:=by simp;omega
   have hlw:lead (x.take j ++ [nth x j])=nth x j:=by
    rw [lead,hwl,Nat.add_sub_cancel,dE (by omega)]
    have:(x.take j).length=j:=by simp;omega
    simp [List.getElem_append_right,this]
   rw [hw]
   have hl:=kE cw cy (by omega) hy
   have hd:=zW cw cy (by omega) hy
   rw [hwl]at hl
   rw [hlw]at hd
   rw [if_neg (by omega),hd,if_pos (Int.mul_emod_left _ _),Int.mul_ediv_cancel _ hly]
   have e1:dJ (bH (x.take j ++ [nth x j]) y) (bH (sH j (nth x j)) y)=bH (aL (x.take j)) y:=Cn.ext (Cn.dJ _ _) (Cn.bH _ _) fun t=>by
    rw [iH,dP,dP,dP,dF,eH,oW,oZ,show(x.take j).length=j by simp;omega]
    grind
   have e2:(List.replicate (j+1) 0++x.drop (j+1)).set j (nth x j)=List.replicate j 0++x.drop j:=by
    rw [hdr,List.replicate_succ',List.append_assoc,List.set_append_right _ _ (by simp)]
    simp
   rw [e1,e2]
   exact ih
theorem U3{x y:List Int}(cx:Cn x)(cy:Cn y)(hy:0<y.length):exact (bH x y) y=some x:=by
 have hk:jW (bH x y) y=x.length:=by
  rcases Nat.eq_zero_or_pos x.length with h | h
  ·have:x = []:=List.eq_nil_of_length_eq_zero h
   have e:bH x y = []:=Cn.ext (Cn.bH _ _) Cn.nil fun t=>by rw [dP,this];simp [V]
   rw [e,this];simp [jW];omega
  ·have:=kE cx cy h hy
   unfold jW;omega
 have h1:=QB (x:=x) cy hy x.length (Nat.le_refl _)
 rw [List.take_length,show aL x=x from cx,List.drop_length,List.append_nil]at h1
 rw [exact,hk,h1,exF,show aL x=x from cx]
theorem LP{y h:List Int}(cy:Cn y)(hy:0<y.length)(e:∀t,V t y*V t h=0):aL h = []:=by
 by_cases hh:aL h = []
 ·exact hh
 ·exfalso
  have h1:bH y (aL h) = []:=Cn.ext (Cn.bH _ _) Cn.nil fun t=>by rw [dP,dF,e];rfl
  have h2:=kE cy (Cn.cut h) hy (List.length_pos_iff.2 hh)
  rw [h1]at h2
  have:=List.length_pos_iff.2 hh
  simp at h2;omega
theorem QC{a b:List Int}(h:aL (dJ a b) = [])(t:Int):V t a=V t b:=by
 have h1:=iH (t:=t) a b
 rw [←dF,h]at h1
 have:V t ([]:List Int)=0:=rfl
 omega
theorem abe{D:Int}(h:D≠0)(x:List Int):qd (x.map (· * D)) D=qs x:=by
 have:=E7 (D:=1) (l:=D) (by decide) h x
 rw [Int.one_mul,jB]at this
 exact this
theorem aeW{x y q:List Int}(cx:Cn x)(cy:Cn y)(hy:0<y.length)(cq:Cn q)(h:∀t,V t x=V t q*V t y):qd (aL (dmd x y).Q) (dmd x y).D=qs q∧(dmd x y).r = []:=by
 obtain⟨hI,hr⟩:=aiV cx cy hy
 generalize dmd x y=σ at *
 have hv:=hI.v
 have e:∀t,V t σ.r=V t y*V t (dJ (q.map (· * σ.D)) σ.Q):=fun t=>by
  have h1:=hv t
  rw [h]at h1
  rw [iH,dY]
  grind
 have h1:=IB hI.c cy hy e hr
 have h2:aL (dJ (q.map (· * σ.D)) σ.Q) = []:=LP cy hy fun t=>by rw [←e,h1];rfl
 have e2:aL σ.Q=q.map (· * σ.D):=Cn.ext (Cn.cut _) (jZ cq hI.d) fun t=>by rw [dF];exact(QC h2 t).symm
 rw [e2]
 exact⟨abe hI.d q,h1⟩
end Go.Proofs.YtelhfbikiccfkaaGreat
