import Derived.Test.YtiobceocpabjdaaGreatZae
import Derived.Test.YtiobceocpabjdaaGreatZah
set_option linter.unusedSimpArgs false
set_option linter.unusedVariables false
namespace Go.Proofs.YtiobceocpabjdaaGreat
open Go Pm
abbrev Y(x:Int):Prop:=sz 2 x<549755813888
theorem Y.z{x:Int}(h:Y x):Z x:=by simp only [Y,Z]at *;omega
theorem CP{x y:Int}(h:Y y)(r8:x.natAbs≤y.natAbs):Y x:=Nat.lt_of_le_of_lt (dJ (by decide) r8) h
theorem yV{x y:Int}:dH x y≤0↔x≤y:=by simp only [dH];split<;>(try split)<;>omega
@[simp] theorem apY{l:List Int}{x:Int}:[PV.int .i64 x]::emap aI l=emap aI (x::l):=by simp [emap]
@[simp] theorem agD{l:List Int}:(∀e∈emap aI l,∀p∈e,bI p=true)=True:=by simp [emap]
theorem YH{l:List Int}(h:cX 10000 l)(k:Nat)(hk:k≤l.length):V 10000 (l.drop k)≤V 10000 l:=by
 rw [kI l k hk]
 have h1:=bL (by decide) (h.take k)
 have h2:=bL (by decide) (h.drop k)
 have h3:1≤(10000:Int)^k:=Int.pow_pos (by decide)
 have h4:=Int.mul_le_mul_of_nonneg_right h3 h2
 omega
theorem MM(x y:Int)(hx:0≤x)(hy:0<y)(zx:Y x)(zy:Y y):aF env.P 209 [Dn x,Dn y] (.dU [Dn (x/y),Dn (x%y)]):=by
 have hal:(aU DD x.toNat).length<549755813888:=Nat.lt_of_le_of_lt (kK hx) zx
 have la:=mB x.toNat
 have hVa:=vR hx
 refine cD [(0,Dn x),(1,Dn y)] Tryz.func209 ?_
 simp only [Dn]
 generalize ha:aU DD x.toNat=a at *
 refine aA [0,1] ?_
 refine aA [0,1,6] ?_
 refine aA [0,1,6,7] ?_
 refine W.L0 7 (Dn 0) (by simp) rfl (fun K hK=>?_)
 refine W.lw [0,1,6,7] hK ?_;clear hK K;simp
 refine aP [0,1,6,7,8] ?_
 refine W.block ?_
 refine W.bE (fun k σ=>∃(r:Int) (z:List Int) (ver:Nat) (rows:Pm.Rows) (clk:Nat),σ=⟨fa [(0,aN aI a),(1,Dn y),(6, .own 14 ver 0 a.length),(7,Dn r),(8, .int .i64 ((k:Int)-1))],rows,clk⟩ ∧
  rows 14=some ⟨ver,3,1,emap aI z⟩∧k≤a.length∧z.length=a.length∧cX 10000 z∧0≤r∧r<y∧V 10000 (a.drop k)=y*V 10000 (z.drop k)+r) a.length ?_ ?_
 ·exact⟨_,Gh.fr [(0,aN aI a),(1,Dn y),(6, .own 14 0 0 a.length),(7,Dn 0),(8, .int .i64 ((a.length:Int)-1))] (by simp),0,List.replicate a.length 0,_,_,_,rfl,by simp,by omega,by simp,cX.rep (by decide) _,by omega,hy,by simp [V]⟩
 rintro k _ ⟨r,z,ver,rows,clk,rfl,hr,hk,hz,lz,FE,B6,hV⟩
 refine aP [0,1,6,7,8,19] ?_
 refine bJ ?_ ?_<;>intro h
 ·simp at h
  obtain⟨j,rfl⟩:∃j,k=j+1:=⟨k-1,by omega⟩
  clear h
  have hxj:=la.nth (i:=j) (by omega)
  have hVz:=bL (by decide) (lz.drop (j+1))
  have hyV:=Int.mul_nonneg (Int.le_of_lt hy) hVz
  have hR:V 10000 (a.drop j)=y*(10000*V 10000 (z.drop (j+1)))+(nth a j+10000*r):=by
   rw [fB (l:=a) (i:=j) (by omega)];simp only [V];rw [hV];grind
  have hRx:nth a j+10000*r≤x:=by
   have h1:=YH la j (by omega)
   have h2:0≤y*(10000*V 10000 (z.drop (j+1))):=Int.mul_nonneg (Int.le_of_lt hy) (by omega)
   omega
  have XZ:(aU DD r.toNat).length<549755813888:=Nat.lt_of_le_of_lt (kK FE) (CP zy (by omega))
  have pT:aN aI (aQ (nth a j::aU DD r.toNat))=Dn (nth a j+10000*r):=by
   rw [uB (cX.cons.2 ⟨hxj,mB _⟩)]
   simp only [V,vR FE]
  refine kY ?_
  refine jG ?_
  refine aC (o8 (nth a j::aU DD r.toNat) (by simp;omega)) ?_
  rw [pT]
  have HT:0≤nth a j+10000*r:=by omega
  have hR1:nth a j+10000*r<y*10000:=by omega
  have zR:Y (nth a j+10000*r):=CP zx (by omega)
  generalize nth a j+10000*r=R at *
  simp (disch:=omega) [gw]
  refine bG [0,1,6,7,8] ?_
  refine bV [0,1,6,7,8,9,10] ?_
  refine W.block ?_
  refine W.bE (fun m σ=>∃(lo hi:Int),σ=⟨fa [(0,aN aI a),(1,Dn y),(6, .own 14 ver 0 a.length),(7,Dn R),(8, .int .i64 (j:Int)),(9, .int .i64 lo),(10, .int .i64 hi)],rows,clk⟩ ∧
   m=(hi-lo).toNat∧0≤lo∧lo≤hi∧hi≤9999∧y*lo≤R∧R<y*(hi+1)) 9999 ?_ ?_
  ·exact⟨_,Gh.fr [(0,aN aI a),(1,Dn y),(6, .own 14 ver 0 a.length),(7,Dn R),(8, .int .i64 (j:Int)),(9, .int .i64 0),(10, .int .i64 9999)] (by simp),0,9999,rfl,by decide,by omega,by omega,by omega,by omega,by omega⟩
  rintro m _ ⟨lo,hi,rfl,hm,EB,hlh,O0,h1,h2⟩
  refine aP [0,1,6,7,8,9,10,32] ?_
  refine bJ ?_ ?_<;>intro h
  ·simp at h
   refine W.skip ?_
   refine W.block ?_
   refine aA [0,1,6,7,8,9,10,11] ?_
   have KG:lo<(lo+hi+1)/2:=by omega
   have hm2:(lo+hi+1)/2≤hi:=by omega
   generalize (lo+hi+1)/2=KI at *
   have hp:0≤y*KI:=Int.mul_nonneg (by omega) (by omega)
   have zp:Z (y*KI):=by
    have h3:sz 2 KI≤14:=dW (by decide) (by simp;omega)
    have h4:=cG (b:=2) (by decide) (Nat.le_refl (sz 2 y)) h3
    simp only [Z,Y]at *;omega
   have hma:=l6 y KI 0 (by omega) zy.z (by omega) (by omega) (by decide) (by decide)
   rw [Int.add_zero]at hma
   refine jG ?_
   refine cU hma ?_
   refine cQ [0,1,6,7,8,9,10,11,43] (MI (y*KI) R hp HT zp zR.z) ?_
   refine bJ ?_ ?_<;>intro h
   ·have h:=yV.1 (of_decide_eq_true h)
    refine W.cA (fun K hK=>?_);simp (disch:=omega) [gw]
    exact hK _ ⟨(hi-KI).toNat,_,aB _ [0,1,6,7,8,9,10],by omega,KI,hi,rfl,rfl,by omega,by omega,by omega,h,h2⟩
   ·have h:=of_decide_eq_false h
    rw [yV]at h
    refine W.cA (fun K hK=>?_);simp (disch:=omega) [gw]
    refine hK _ ⟨(KI-1-lo).toNat,_,aB _ [0,1,6,7,8,9,10],by omega,lo,KI-1,rfl,rfl,by omega,by omega,by omega,h1,?_⟩
    rw [show KI-1+1=KI by omega];omega
  ·simp at h
   have ayg:lo=hi:=by omega
   subst ayg
   have hp:0≤y*lo:=Int.mul_nonneg (by omega) (by omega)
   have zp:Y (y*lo):=CP zR (by omega)
   have hma:=l6 y lo 0 (by omega) zy.z (by omega) (by omega) (by decide) (by decide)
   rw [Int.add_zero]at hma
   refine fH ?_
   refine W.sr ?_
   simp (disch:=omega) [gw,hr]
   refine bG [0,1,6,7,8,9] ?_
   refine W.cA (fun K hK=>?_)
   simp (disch:=omega) [gw]
   refine cU hma ?_
   refine cU (CN R (y*lo) hp h1 zR.z) ?_
   refine W.lw [0,1,6,7,8] hK ?_;clear hK K;simp
   refine W.cA (fun K hK=>?_);simp (disch:=omega) [gw]
   refine hK _ ⟨j,_,aB _ [0,1,6,7,8],by omega,R-y*lo,z.set j lo,ver,_,_,rfl,by simp,by omega,by simpa using hz,lz.set (by omega),by omega,by rw [Int.mul_add]at h2;omega,?_⟩
   rw [hR,fB (l:=z.set j lo) (i:=j) (by simp;omega),eW (by omega),List.drop_set_of_lt (by omega)]
   simp only [V]
   grind
 ·simp at h
  have xC:k=0:=by omega
  subst xC
  simp only [List.drop_zero]at hV
  have ez:z.take a.length=z:=bM hz
  have hzn:=bL (by decide) lz
  rw [hVa]at hV
  have e1:x/y=V 10000 z:=by
   rw [hV,Int.mul_add_ediv_left _ _ (by omega),Int.ediv_eq_zero_of_lt FE B6];simp
  have e2:x%y=r:=by
   rw [hV,Int.mul_add_emod_self_left,Int.emod_eq_of_lt FE B6]
  refine fH ?_
  refine W.sr ?_
  simp (disch:=omega) [gw,hr,ez]
  refine aC (o8 z (by omega)) ?_
  simp (disch:=omega) [gw]
  refine bG [4,5] ?_
  refine W.ret ?_
  have h4:=uB lz
  simp only [Dn]at h4
  rw [e1,e2,←h4]
  simp [go]
theorem CQ(a b:Int)(za:Y a)(zb:Y b):aF env.P 126 [RI a,RI b] (RI (Int.gcd a b)):=by
 refine cD [(0,RI a),(1,RI b)] Tryz.func126 ?_
 refine aA [2,3,4] ?_
 refine nK ?_
 refine bG [4,5,6] ?_
 refine W.seq ?_
 refine W.block ?_
 refine W.bE (fun k σ=>∃(x:Nat) (rows:Pm.Rows) (clk:Nat),σ=⟨fa [(4, .ptr 4 2 0 0),(5,aN aI (aU DD x)),(6,aN aI (aU DD k))],rows,clk⟩∧rows 4=some ⟨2,29,2,[[.nil, .bool false]]⟩∧Nat.gcd x k=Int.gcd a b∧Y (x:Int)∧Y (k:Int)) b.natAbs ?_ ?_
 ·exact⟨_, .refl,a.natAbs,_,_,rfl,by simp,rfl,by simpa [Y,sz]using za,by simpa [Y,sz]using zb⟩
 rintro k _ ⟨x,rows,clk,rfl,dS,hg,zx,zk⟩
 have e0:(aU DD k).length=0↔k=0:=by rw [List.length_eq_zero_iff,eO O2]
 refine aP [4,5,6,15] ?_
 refine bJ ?_ ?_<;>intro h
 ·have xC:k≠0:=by intro h0;have h1:=e0.2 h0;simp at h;omega
  have hdiv:=MM (x:Int) (k:Int) (by omega) (by omega) zx zk
  have em:(((x:Int)%k).toNat)=x%k:=by rw [←Int.natCast_emod];exact Int.toNat_natCast _
  have ed:(((x:Int)/k).toNat)=x/k:=by rw [←Int.natCast_ediv];exact Int.toNat_natCast _
  simp only [Dn,em,ed,Int.toNat_natCast]at hdiv
  have dN:=Nat.mod_lt x (show k>0 by omega)
  have qT:Nat.gcd k (x%k)=Int.gcd a b:=by rw [←hg,Nat.gcd_comm x k,Nat.gcd_rec k x,Nat.gcd_comm]
  have zm:Y ((x%k:Nat):Int):=CP zk (by simp only [Int.natAbs_natCast];omega)
  refine W.skip ?_
  refine W.block ?_
  refine jG ?_
  refine aC hdiv ?_
  generalize x%k=y at *
  simp (disch:=omega) [gw]
  refine bG [4,6,8] ?_
  refine W.cA (fun K hK=>?_);simp (disch:=omega) [gw]
  exact hK _ ⟨y,_,aB _ [4,5,6],dN,k,_,_,rfl,by simp [dS],qT,zk,zm⟩
 ·have xC:k=0:=by rw [←e0];simp at h;simp [h]
  subst xC
  rw [Nat.gcd_zero_right]at hg
  subst hg
  refine fH ?_
  refine W.sr ?_
  simp (disch:=omega) [gw,dS]
  refine bG [4] ?_
  exact cC
theorem RG(a b:Int):(if decide (a<0) != decide (b<0)then -((a.natAbs/b.natAbs:Nat):Int)else((a.natAbs/b.natAbs:Nat):Int))=a.tdiv b:=by
 have h:∀x y:Nat,((x/y:Nat):Int)=(x:Int).tdiv y:=fun x y=>by rw [Int.natCast_ediv,Int.tdiv_eq_ediv_of_nonneg (by omega)]
 rw [h]
 by_cases h1:a<0<;>by_cases h2:b<0
 ·simp only [h1,h2,show(a.natAbs:Int) = -a by omega,show(b.natAbs:Int) = -b by omega];simp
 ·simp only [h1,h2,show(a.natAbs:Int) = -a by omega,show(b.natAbs:Int)=b by omega];simp
 ·simp only [h1,h2,show(a.natAbs:Int)=a by omega,show(b.natAbs:Int) = -b by omega];simp
 ·simp only [h1,h2,show(a.natAbs:Int)=a by omega,show(b.natAbs:Int)=b by omega];simp
theorem vS(a b:Int)(hb:b≠0)(za:Y a)(zb:Y b):aF env.P 127 [RI a,RI b] (RI (a.tdiv b)):=by
 have hdiv:=MM (a.natAbs:Int) (b.natAbs:Int) (by omega) (by omega) (by simpa [Y,sz]using za) (by simpa [Y,sz]using zb)
 have em:(((a.natAbs:Int)%b.natAbs).toNat)=a.natAbs%b.natAbs:=by rw [←Int.natCast_emod];exact Int.toNat_natCast _
 have ed:(((a.natAbs:Int)/b.natAbs).toNat)=a.natAbs/b.natAbs:=by rw [←Int.natCast_ediv];exact Int.toNat_natCast _
 have hs:=RG a b
 refine cD [(0,RI a),(1,RI b)] Tryz.func127 ?_
 refine aA [2,3,4] ?_
 simp only [Dn,em,ed,Int.toNat_natCast]at hdiv
 generalize a.natAbs/b.natAbs=q at *
 generalize a.natAbs%b.natAbs=r at *
 refine aR [2,3,4,5] hdiv ?_
 refine jG ?_
 refine aC (nC q (decide (a<0) != decide (b<0))) ?_
 rw [hs]
 simp (disch:=omega) [gw]
 refine bG [4] ?_
 exact cC
def re(q:Rat):List PV:=[aN aI (aU DD q.num.natAbs), .bool (decide (q.num<0)),aN aI (aU DD q.den), .bool false]
@[simp] theorem ayh{q:Rat}:re q = [aN aI (aU DD q.num.natAbs), .bool (decide (q.num<0)),aN aI (aU DD q.den), .bool false]:=rfl
abbrev RR(q:Rat):PV:=.ag (re q)
def dM(n d:Int):Rat:=if d=0 then n else Rat.divInt n d
theorem lS(n:Int):dM n 1=n:=by
 rw [dM,if_neg (by decide),Rat.divInt_eq_div]
 grind
structure ZR(k:Nat)(q:Rat):Prop where
 n:sz 2 q.num≤k
 d:sz 2 (q.den:Int)≤k
abbrev YY:Nat:=137438953472
theorem sI(n d:Int)(hd:d≠0):(dM n d).num=(if d<0 then -n else n)/(Int.gcd (if d<0 then -n else n) (if d<0 then -d else d)):=by
 rw [dM,if_neg hd,Rat.num_divInt]
 by_cases h:d<0
 ·simp only [h,if_true]
  rw [Int.sign_eq_neg_one_of_neg h,Int.gcd_comm d n,Int.neg_gcd,Int.gcd_neg];simp
 ·simp only [h,if_false]
  rw [Int.sign_eq_one_of_pos (by omega),Int.gcd_comm d n];simp
theorem sJ(n d:Int)(hd:d≠0):((dM n d).den:Int)=(if d<0 then -d else d)/(Int.gcd (if d<0 then -n else n) (if d<0 then -d else d)):=by
 rw [dM,if_neg hd,Rat.den_divInt,if_neg hd]
 by_cases h:d<0
 ·simp only [h,if_true]
  rw [Int.gcd_comm d n,Int.neg_gcd,Int.gcd_neg]
  rw [Int.natCast_ediv];congr 1;omega
 ·simp only [h,if_false]
  rw [Int.gcd_comm d n,Int.natCast_ediv];congr 1;omega
theorem CR{q:Rat}{n d:Int}(h1:q.num=n)(h2:(q.den:Int)=d):RR q = .ag [aN aI (aU DD n.natAbs), .bool (decide (n<0)),aN aI (aU DD d.natAbs), .bool (decide (d<0))]:=by
 subst h1;subst h2
 have:¬((q.den:Int)<0):=by omega
 simp [this]
theorem kN(n d:Int)(zn:Y n)(zd:Y d):aF env.P 60 [RI n,RI d] (RR (dM n d)):=by
 refine cZ (E:=env) (fun id=>if id=4 then 2 else 0) [(0,RI n),(1,RI d)] Tryz.func60 rfl (by kernel_rfl) (by kernel_rfl) (show 2≤39 by decide) (by simp) ?_
 refine aA [2,3,4] ?_
 refine W.iE (fun σ=>∃(d1:Int) (rows:Pm.Rows) (clk:Nat),σ=⟨fa [(2, .ptr 2 0 0 0),(3, .ptr 3 1 0 0),(4, .ptr 4 2 0 0)],rows,clk⟩∧rows 2=some ⟨0,29,2,[[aN aI (aU DD n.natAbs), .bool (decide (n<0))]]⟩ ∧
  rows 3=some ⟨1,29,2,[[aN aI (aU DD d1.natAbs), .bool (decide (d1<0))]]⟩∧rows 4=some ⟨2,31,4,[[.nil, .bool false, .nil, .bool false]]⟩∧d1≠0∧dM n d=dM n d1∧Y d1) ?_ ?_
 ·
  refine aR [2,3,4,7] (F3 d) ?_
  refine bJ ?_ ?_<;>intro h
  ·have h:=of_decide_eq_true h
   subst h
   refine W.cA (fun K hK=>?_)
   simp (disch:=omega) [gw]
   refine aC (nZ 1 (by decide) (by decide)) ?_
   simp (disch:=omega) [gw]
   refine hK _ ⟨_,aB _ [2,3,4],1,_,_,rfl,by simp,by simp,by simp,by decide,by rw [lS];simp [dM],?_⟩
   have:sz 2 1≤1:=dW (by decide) (by decide)
   simp only [Y];omega
  ·have h:=of_decide_eq_false h
   refine W.skip ?_
   exact⟨_,aB _ [2,3,4],d,_,_,rfl,by simp,by simp,by simp,h,rfl,zd⟩
 rintro _ ⟨d1,rows,clk,rfl,bS,b8,dS,UQ,hq,zd1⟩
 rw [hq]
 have q1:=sI n d1 UQ
 have q2:=sJ n d1 UQ
 generalize dM n d1=q at *
 clear hq zd d
 refine W.iE (fun σ=>∃(n2 d2:Int) (rows:Pm.Rows) (clk:Nat),σ=⟨fa [(2, .ptr 2 0 0 0),(3, .ptr 3 1 0 0),(4, .ptr 4 2 0 0)],rows,clk⟩∧rows 2=some ⟨0,29,2,[[aN aI (aU DD n2.natAbs), .bool (decide (n2<0))]]⟩ ∧
  rows 3=some ⟨1,29,2,[[aN aI (aU DD d2.natAbs), .bool (decide (d2<0))]]⟩∧rows 4=some ⟨2,31,4,[[.nil, .bool false, .nil, .bool false]]⟩∧0<d2∧q.num=n2/Int.gcd n2 d2∧(q.den:Int)=d2/Int.gcd n2 d2∧Y n2∧Y d2) ?_ ?_
 ·
  refine W.sr ?_
  simp (disch:=omega) [gw,b8]
  refine bG [2,3,4,10] ?_
  refine bJ ?_ ?_<;>intro h
  ·have h:=of_decide_eq_true h
   simp only [h,if_true]at q1 q2
   have hn:=rN n
   have hd:=rN d1
   have zn2:Y (-n):=by simpa [Y,oI]using zn
   have zd2:Y (-d1):=by simpa [Y,oI]using zd1
   obtain⟨n2,hn2⟩:∃m,m = -n:=⟨_,rfl⟩
   obtain⟨d2,QB⟩:∃m,m = -d1:=⟨_,rfl⟩
   rw [←hn2]at hn zn2 q1 q2
   rw [←QB]at hd zd2 q1 q2
   refine W.LY (fun K hK=>?_)
   rw [if_pos rfl,fR]
   simp (disch:=omega) [gw,bS]
   refine aC hn ?_
   simp (disch:=omega) [gw,bS,b8]
   refine aC hd ?_
   simp (disch:=omega) [gw,bS,b8]
   exact hK _ ⟨_,aB _ [2,3,4],n2,d2,_,_,rfl,by simp,by simp,by simp [dS],by omega,q1,q2,zn2,zd2⟩
  ·have h:=of_decide_eq_false h
   simp only [h,if_false]at q1 q2
   refine W.skip ?_
   exact⟨_,aB _ [2,3,4],n,d1,_,_,rfl,bS,b8,dS,by omega,q1,q2,zn,zd1⟩
 clear bS b8 dS q1 q2
 rintro _ ⟨n2,d2,rows,clk,rfl,bS,b8,dS,h0,q1,q2,zn2,zd2⟩
 refine W.seq ?_
 refine W.fA (fun σ=>∃(b:Bool),σ=⟨fa [(2, .ptr 2 0 0 0),(3, .ptr 3 1 0 0),(4, .ptr 4 2 0 0),(25, .bool b)],rows,clk⟩∧(b=true↔(aU DD d2.natAbs).length=1∧nth (aU DD d2.natAbs) 0=1)) (fun K hK=>?_) ?_
 ·by_cases h1:(aU DD d2.natAbs).length=1
  ·have h2:((aU DD d2.natAbs).length:Int)=1:=by omega
   simp (disch:=omega) [gw,b8,h1,h2]
   exact hK _ _ (aB _ [2,3,4,25]) ⟨_,rfl,by simp [h1]⟩
  ·have h2:¬((aU DD d2.natAbs).length:Int)=1:=by omega
   have h3:(((aU DD d2.natAbs).length:Int)==1)=false:=by simpa using h2
   simp (disch:=omega) [gw,b8,h3]
   exact hK _ _ (aB _ [2,3,4,25]) ⟨_,rfl,by simp [h1,h2]⟩
 rintro _ ⟨b,rfl,hb⟩
 refine bJ ?_ ?_<;>intro h
 ·have hb:=hb.1 h
  have QB:d2=1:=by
   have hv:=atj d2
   obtain⟨h1,h2⟩:=hb
   match hl:aU DD d2.natAbs,h1 with
   | [x],_ =>
    rw [hl]at h2 hv
    simp [nth,V]at h2 hv
    omega
  subst QB
  rw [Int.gcd_one]at q1 q2
  rw [CR (n:=n2) (d:=1) (by simpa using q1) (by simpa using q2)]
  refine W.sr ?_
  simp (disch:=omega) [gw,bS,b8,dS]
  refine bG [4] ?_
  exact cC
 ·refine W.skip ?_
  have hgp:0<Int.gcd n2 d2:=Int.gcd_pos_of_ne_zero_right _ (by omega)
  have e1:n2.tdiv (Int.gcd n2 d2)=q.num:=by rw [q1];exact Int.tdiv_eq_ediv_of_dvd (Int.gcd_dvd_left ..)
  have e2:d2.tdiv (Int.gcd n2 d2)=q.den:=by rw [q2];exact Int.tdiv_eq_ediv_of_dvd (Int.gcd_dvd_right ..)
  have zg:Y (Int.gcd n2 d2:Int):=CP zd2 (by
   have:=Int.le_of_dvd h0 (Int.gcd_dvd_right n2 d2);omega)
  have hq1:=vS n2 (Int.gcd n2 d2) (by omega) zn2 zg
  have hq2:=vS d2 (Int.gcd n2 d2) (by omega) zd2 zg
  rw [e1]at hq1
  rw [e2]at hq2
  have hg:=CQ n2 d2 zn2 zd2
  obtain⟨g,hgd⟩:∃g:Int,g=Int.gcd n2 d2:=⟨_,rfl⟩
  rw [←hgd]at hg hq1 hq2
  have hnn:¬((q.den:Int)<0):=by omega
  refine W.sr ?_
  simp (disch:=omega) [gw,bS,b8]
  refine aC hg ?_
  simp (disch:=omega) [gw,bS,b8]
  refine bG [2,3,4,5] ?_
  refine W.sd ?_
  simp (disch:=omega) [gw,bS,b8]
  refine aC hq1 ?_
  simp (disch:=omega) [gw,bS,b8]
  refine aC hq2 ?_
  simp (disch:=omega) [gw,bS,b8,dS]
  refine bG [4] ?_
  refine W.ret ?_
  simp [go,hnn]
theorem n3(n d:Int)(h1 : -9223372036854775808≤n∧n<9223372036854775808)(h2 : -9223372036854775808≤d∧d<9223372036854775808):aF env.P 12 [.int .i64 n, .int .i64 d] (RR (dM n d)):=by
 have z:∀x:Int, -9223372036854775808≤x∧x<9223372036854775808→Y x:=fun x hx=>by
  have:sz 2 x≤64:=dW (by decide) (by omega)
  simp only [Y];omega
 have hm:=kN n d (z n h1) (z d h2)
 generalize dM n d=q at *
 refine cD [(0, .int .i64 n),(1, .int .i64 d)] Tryz.func12 ?_
 refine aA [0,1,4] ?_
 refine jG ?_
 refine cU (nZ n h1.1 h1.2) ?_
 refine cU (nZ d h2.1 h2.2) ?_
 refine cQ [4] hm ?_
 exact cC
theorem MN(q:Rat):aF env.P 108 [RR q] (RR (-q)):=by
 have hn:=rN q.num
 have e:RR (-q) = .ag [aN aI (aU DD (-q.num).natAbs), .bool (decide (-q.num<0)),aN aI (aU DD q.den), .bool false]:=rfl
 rw [e]
 generalize -q.num=m at *
 refine cD [(0,RR q)] Tryz.func108 ?_
 refine aA [1,2] ?_
 refine nK ?_
 refine cQ [2] hn ?_
 exact cC
theorem agF(p q:Rat):dM (p.num*q.den+q.num*p.den) ((p.den:Int)*q.den)=p+q:=by
 have h:((p.den:Int)*q.den)≠0:=by have:=p.den_nz;have:=q.den_nz;simp [Int.mul_eq_zero];omega
 rw [dM,if_neg h,Rat.add_def',←Int.natCast_mul,Rat.divInt_ofNat]
theorem agG(p q:Rat):dM (p.num*q.num) ((p.den:Int)*q.den)=p*q:=by
 have h:((p.den:Int)*q.den)≠0:=by have:=p.den_nz;have:=q.den_nz;simp [Int.mul_eq_zero];omega
 rw [dM,if_neg h,Rat.mul_def',←Int.natCast_mul,Rat.divInt_ofNat]
theorem agH(p q:Rat)(hq:q≠0):dM (p.num*q.den) ((p.den:Int)*q.num)=p/q:=by
 have hn:q.num≠0:=fun h=>hq (Rat.num_eq_zero.1 h)
 have h:((p.den:Int)*q.num)≠0:=by have:=p.den_nz;exact Int.mul_ne_zero (by omega) hn
 rw [dM,if_neg h,Rat.div_def,Rat.inv_def,←Rat.divInt_mul_divInt,Rat.num_divInt_den]
theorem MO(p q:Rat)(hp:ZR YY p)(hq:ZR YY q):aF env.P 225 [RR p,RR q] (RR (p+q)):=by
 have s1:=cG (b:=2) (by decide) hp.n hq.d
 have s2:=cG (b:=2) (by decide) hq.n hp.d
 have s3:=cG (b:=2) (by decide) hp.d hq.d
 have s4:=m7 (b:=2) (by decide) s1 s2
 have zz:∀ {x:Int},sz 2 x≤YY→Z x:=fun h=>by simp only [Z,YY]at *;omega
 have m1:=eT p.num q.den (zz hp.n) (zz hq.d)
 have m2:=eT q.num p.den (zz hq.n) (zz hp.d)
 have m3:=eT p.den q.den (zz hp.d) (zz hq.d)
 have m4:=CO (p.num*q.den) (q.num*p.den) (by simp only [Z,YY]at *;omega) (by simp only [Z,YY]at *;omega)
 have m5:=kN (p.num*q.den+q.num*p.den) ((p.den:Int)*q.den) (by simp only [Y,YY]at *;omega) (by simp only [Y,YY]at *;omega)
 rw [agF]at m5
 generalize p.num*q.den+q.num*p.den=x5 at *
 generalize p.num*q.den=x1 at *
 generalize q.num*(p.den:Int)=x2 at *
 generalize (p.den:Int)*q.den=x3 at *
 generalize hr:p+q=r at *
 have d1:RR p = .ag [aN aI (aU DD p.num.natAbs), .bool (decide (p.num<0)),aN aI (aU DD (p.den:Int).natAbs), .bool (decide ((p.den:Int)<0))]:=CR rfl rfl
 have d2:RR q = .ag [aN aI (aU DD q.num.natAbs), .bool (decide (q.num<0)),aN aI (aU DD (q.den:Int).natAbs), .bool (decide ((q.den:Int)<0))]:=CR rfl rfl
 rw [d1,d2]
 generalize (p.den:Int)=pd at *
 generalize (q.den:Int)=qd at *
 generalize p.num=pn at *
 generalize q.num=qn at *
 refine cD [(0, .ag [aN aI (aU DD pn.natAbs), .bool (decide (pn<0)),aN aI (aU DD pd.natAbs), .bool (decide (pd<0))]),(1, .ag [aN aI (aU DD qn.natAbs), .bool (decide (qn<0)),aN aI (aU DD qd.natAbs), .bool (decide (qd<0))])] Tryz.func225 ?_
 refine aA [2,3,4] ?_
 refine nK ?_
 refine cU m1 ?_
 refine cU m2 ?_
 refine cU m4 ?_
 refine cU m3 ?_
 refine cQ [4] m5 ?_
 exact cC
theorem MP(p q:Rat)(hp:ZR YY p)(hq:ZR YY q):aF env.P 226 [RR p,RR q] (RR (p*q)):=by
 have s1:=cG (b:=2) (by decide) hp.n hq.n
 have s2:=cG (b:=2) (by decide) hp.d hq.d
 have zz:∀ {x:Int},sz 2 x≤YY→Z x:=fun h=>by simp only [Z,YY]at *;omega
 have m1:=eT p.num q.num (zz hp.n) (zz hq.n)
 have m2:=eT p.den q.den (zz hp.d) (zz hq.d)
 have m5:=kN (p.num*q.num) ((p.den:Int)*q.den) (by simp only [Y,YY]at *;omega) (by simp only [Y,YY]at *;omega)
 rw [agG]at m5
 generalize p.num*(q.num:Int)=x1 at *
 generalize (p.den:Int)*q.den=x2 at *
 generalize hr:p*q=r at *
 have d1:RR p = .ag [aN aI (aU DD p.num.natAbs), .bool (decide (p.num<0)),aN aI (aU DD (p.den:Int).natAbs), .bool (decide ((p.den:Int)<0))]:=CR rfl rfl
 have d2:RR q = .ag [aN aI (aU DD q.num.natAbs), .bool (decide (q.num<0)),aN aI (aU DD (q.den:Int).natAbs), .bool (decide ((q.den:Int)<0))]:=CR rfl rfl
 rw [d1,d2]
 generalize (p.den:Int)=pd at *
 generalize (q.den:Int)=qd at *
 generalize p.num=pn at *
 generalize q.num=qn at *
 refine cD [(0, .ag [aN aI (aU DD pn.natAbs), .bool (decide (pn<0)),aN aI (aU DD pd.natAbs), .bool (decide (pd<0))]),(1, .ag [aN aI (aU DD qn.natAbs), .bool (decide (qn<0)),aN aI (aU DD qd.natAbs), .bool (decide (qd<0))])] Tryz.func226 ?_
 refine aA [2,3,4] ?_
 refine nK ?_
 refine cU m1 ?_
 refine cU m2 ?_
 refine cQ [4] m5 ?_
 exact cC
theorem MQ(p q:Rat)(hp:ZR YY p)(hq:ZR YY q)(h0:q≠0):aF env.P 230 [RR p,RR q] (RR (p/q)):=by
 have s1:=cG (b:=2) (by decide) hp.n hq.d
 have s2:=cG (b:=2) (by decide) hp.d hq.n
 have zz:∀ {x:Int},sz 2 x≤YY→Z x:=fun h=>by simp only [Z,YY]at *;omega
 have m1:=eT p.num q.den (zz hp.n) (zz hq.d)
 have m2:=eT p.den q.num (zz hp.d) (zz hq.n)
 have m5:=kN (p.num*q.den) ((p.den:Int)*q.num) (by simp only [Y,YY]at *;omega) (by simp only [Y,YY]at *;omega)
 rw [agH p q h0]at m5
 generalize p.num*(q.den:Int)=x1 at *
 generalize (p.den:Int)*q.num=x2 at *
 generalize hr:p/q=r at *
 have d1:RR p = .ag [aN aI (aU DD p.num.natAbs), .bool (decide (p.num<0)),aN aI (aU DD (p.den:Int).natAbs), .bool (decide ((p.den:Int)<0))]:=CR rfl rfl
 have d2:RR q = .ag [aN aI (aU DD q.num.natAbs), .bool (decide (q.num<0)),aN aI (aU DD (q.den:Int).natAbs), .bool (decide ((q.den:Int)<0))]:=CR rfl rfl
 rw [d1,d2]
 generalize (p.den:Int)=pd at *
 generalize (q.den:Int)=qd at *
 generalize p.num=pn at *
 generalize q.num=qn at *
 refine cD [(0, .ag [aN aI (aU DD pn.natAbs), .bool (decide (pn<0)),aN aI (aU DD pd.natAbs), .bool (decide (pd<0))]),(1, .ag [aN aI (aU DD qn.natAbs), .bool (decide (qn<0)),aN aI (aU DD qd.natAbs), .bool (decide (qd<0))])] Tryz.func230 ?_
 refine aA [2,3,4] ?_
 refine nK ?_
 refine cU m1 ?_
 refine cU m2 ?_
 refine cQ [4] m5 ?_
 exact cC
theorem MR:aF env.P 224 [] (RR 0):=by
 have h:=n3 0 1 (by decide) (by decide)
 rw [lS]at h
 refine cD [] Tryz.func224 ?_
 refine aA [0] ?_
 refine aR [0] h ?_
 exact cC
def nO:List Rat→List Rat
 | []=>[]
 | x::l=>if nO l = []∧x=0 then []else x::nO l
theorem F5:∀l:List Rat,nO (l ++ [0])=nO l
 | []=>by simp [nO]
 | x::l=>by simp [nO,F5 l]
theorem UR{x:Rat}(h:x≠0):∀l:List Rat,nO (l ++ [x])=l ++ [x]
 | []=>by
  show nO [x] = [x]
  rw [nO,if_neg (fun hh=>h hh.2)];rfl
 | y::l=>by
  have ih:=UR h l
  have hn:¬(l ++ [x] = []∧y=0):=by simp
  show nO (y::(l ++ [x]))=y::(l ++ [x])
  rw [nO,ih,if_neg hn]
abbrev qs(x:List Int):List Rat:=x.map fun(c:Int)=>(c:Rat)
theorem vT:∀x:List Int,nO (qs x)=qs (aQ x)
 | []=>rfl
 | a::x=>by
  have ih:=vT x
  simp only [qs,List.map_cons]at ih ⊢
  rw [nO,ih,aQ]
  by_cases h:aQ x = []∧a=0
  ·simp [h]
  ·rw [if_neg h,if_neg (by simpa using h)];simp
@[simp] theorem ap1{l:List Rat}:bH 4 (emap re l)=True:=cH fun _=>rfl
@[simp] theorem ana{v e n:Nat}{l:List Rat}:cW (some ⟨v,e,n,emap re l⟩)=True:=bU fun _=>rfl
abbrev PP(l:List Rat):PV:=aN re l
theorem vU(l:List Rat)(hl:l.length<17592186044416):aF env.P 157 [PP l] (PP (nO l)):=by
 refine cD [(0,PP l)] Tryz.func157 ?_
 refine aA [0] ?_
 refine aA [0,3] ?_
 refine W.seq (W.block ?_)
 refine W.bE (fun k σ=>∃(rows:Pm.Rows) (clk:Nat),σ=⟨fa [(0,PP l),(3, .int .i64 (k:Int))],rows,clk⟩∧k≤l.length∧nO l=nO (l.take k)) l.length ?_ ?_
 ·exact⟨_, .refl,_,_,rfl,by omega,by simp⟩
 rintro k _ ⟨rows,clk,rfl,hk,hc⟩
 refine W.seq ?_
 refine W.fA (fun σ=>∃(b:Bool),σ=⟨fa [(0,PP l),(3, .int .i64 (k:Int)),(16, .bool b)],rows,clk⟩∧(b=true↔0<k∧nth l (k-1)=0)) (fun K hK=>?_) ?_
 ·simp
  by_cases h0:0<k
  ·simp (disch:=omega) [gw,h0]
   refine aC (F3 (nth l (k-1)).num) ?_
   simp (disch:=omega) [gw,h0]
   refine hK _ _ (aB _ [0,3,16]) ⟨_,rfl,?_⟩
   simp [h0,Rat.num_eq_zero]
  ·simp (disch:=omega) [gw,h0]
   exact hK _ _ (aB _ [0,3,16]) ⟨_,rfl,by simp [h0]⟩
 rintro _ ⟨b,rfl,hb⟩
 refine bJ ?_ ?_<;>intro h
 ·obtain⟨h0,h1⟩:=hb.1 h
  refine W.skip (W.block ?_)
  refine W.cA (fun K hK=>?_)
  simp (disch:=omega) [gw]
  refine hK _ ⟨k-1,_,Gh.fr [(0,_),(3, .int .i64 ((k-1:Nat):Int))] (by simp;omega),by omega,_,_,rfl,by omega,?_⟩
  rw [hc,show k=(k-1)+1 by omega,bF (by omega),h1,F5]
  simp
 ·have h2:nO l=l.take k:=by
   rw [hc]
   by_cases h0:0<k
   ·have h1:nth l (k-1)≠0:=fun h1=>by simp [hb.2 ⟨h0,h1⟩]at h
    rw [show k=(k-1)+1 by omega,bF (by omega)]
    exact UR h1 _
   ·have:k=0:=by omega
    subst this;simp [nO]
  refine fH ?_
  refine aA [2] ?_
  refine W.ret ?_
  simp [h2]
def ri(x:Int):List PV:=[aN aI (aU DD x.natAbs), .bool (decide (x<0)),aN aI (aU DD 1), .bool false]
@[simp] theorem anb{x:Int}:ri x = [aN aI (aU DD x.natAbs), .bool (decide (x<0)),aN aI (aU DD 1), .bool false]:=rfl
theorem iH(x:Int):re (x:Rat)=ri x:=by
 simp only [re,ri,Rat.num_intCast,Rat.den_intCast]
 congr
theorem tN(x:List Int):PP (qs x)=aN ri x:=by simp only [PP,aN,emap,qs,List.map_map,Function.comp_def,iH]
abbrev PI(x:List Int):PV:=aN ri x
@[simp] theorem ap2{l:List Int}:bH 4 (emap ri l)=True:=cH fun _=>rfl
@[simp] theorem anc{v e n:Nat}{l:List Int}:cW (some ⟨v,e,n,emap ri l⟩)=True:=bU fun _=>rfl
@[simp] theorem ayi{l:List Int}{x:Int}:emap ri l ++ [[aN aI (aU DD x.natAbs), .bool (decide (x<0)),aN aI (aU DD 1), .bool false]]=emap ri (l ++ [x]):=by simp [emap]
@[simp] theorem ayj{l:List Rat}{q:Rat}:emap re l ++ [[aN aI (aU DD q.num.natAbs), .bool (decide (q.num<0)),aN aI (aU DD q.den), .bool false]]=emap re (l ++ [q]):=by simp [emap]
@[simp] theorem atn{l:List Int}{i:Nat}{x:Int}:gZ (emap ri l) i 0 [aN aI (aU DD x.natAbs), .bool (decide (x<0)),aN aI (aU DD 1), .bool false]=emap ri (l.set i x):=AA (n:=4) (fun _=>rfl)
theorem pA(l:List Int)(hl:l.length<17592186044416):aF env.P 157 [PI l] (PI (aQ l)):=by
 have:=vU (qs l) (by simpa using hl)
 rwa [vT,tN,tN]at this
theorem F6(n:Int)(zn:Y n):aF env.P 60 [RI n,RI 1] (.ag (ri n)):=by
 have:=kN n 1 zn (by have:sz 2 1≤1:=dW (by decide) (by decide);simp only [Y];omega)
 rwa [lS,RR,iH]at this
theorem sK:aF env.P 224 [] (.ag (ri 0)):=by
 have:=MR
 rwa [RR,show(0:Rat)=((0:Int):Rat)by simp,iH]at this
theorem MS(n:Int)(h1 : -9223372036854775808≤n∧n<9223372036854775808):aF env.P 12 [.int .i64 n, .int .i64 1] (.ag (ri n)):=by
 have:=n3 n 1 h1 (by decide)
 rwa [lS,RR,iH]at this
theorem rO{x:Int}{k:Nat}(h:sz 2 x≤k)(h1:1≤k):ZR k (x:Rat):=⟨by simpa using h,by simp;exact Nat.le_trans (dW (by decide) (by decide)) h1⟩
theorem YI(x y:Int)(hx:sz 2 x≤YY)(hy:sz 2 y≤YY):aF env.P 225 [.ag (ri x), .ag (ri y)] (.ag (ri (x+y))):=by
 have:=MO x y (rO hx (by decide)) (rO hy (by decide))
 rwa [←Rat.intCast_add,RR,RR,RR,iH,iH,iH]at this
theorem F7(x y:Int)(hx:sz 2 x≤YY)(hy:sz 2 y≤YY):aF env.P 226 [.ag (ri x), .ag (ri y)] (.ag (ri (x*y))):=by
 have:=MP x y (rO hx (by decide)) (rO hy (by decide))
 rwa [←Rat.intCast_mul,RR,RR,RR,iH,iH,iH]at this
structure FOK(p:RP):Prop where
 ok:∀c∈p,cX 4294967296 c.2∧c.2.length<4294967296
 len:p.length<1099511627776
theorem YJ(p:RP)(h:FOK p):aF env.P 79 [Pg p] (PI (aQ (p.map gv))):=by
 refine cD [(0,Pg p)] Tryz.func79 ?_
 have hl:=h.len
 refine aA [0] ?_
 refine aA [0,3] ?_
 refine W.nil 3 3 31 4 (by simp) (by decide) (fun K hK=>?_)
 refine W.lw [0,3] hK ?_;clear hK K;simp
 refine aP [0,3,6,7] ?_
 refine W.block ?_
 refine W.bE (fun k σ=>∃(i ver:Nat) (rows:Pm.Rows) (clk:Nat),σ=⟨fa [(0,Pg p),(3, .own 3 ver 0 i),(6, .int .i64 p.length),(7, .int .i64 i)],rows,clk⟩∧rows 3=some ⟨ver,31,4,emap ri ((p.take i).map gv)⟩∧k=p.length-i∧i≤p.length) p.length ?_ ?_
 ·exact⟨_, .refl,0,_,_,_,rfl,by simp [emap],by omega,by omega⟩
 rintro k _ ⟨i,ver,rows,clk,rfl,hr,hk,hi⟩
 refine bV [0,3,6,7,8] ?_
 refine W.cond ⟨_,rfl,fun h0=>?_,fun h0=>?_⟩
 ·simp at h0
  obtain⟨uW,hc2⟩:=h.ok _ (b7 h0)
  have gC:((p.take i).map gv).length=i:=by simp;omega
  have hz:Y (iv (nth p i).1 (nth p i).2):=by
   have h1:=acv uW
   have h2:sz 2 (iv (nth p i).1 (nth p i).2)=sz 2 (V 4294967296 (nth p i).2):=by unfold iv;split<;>simp [oI]
   simp only [Y];omega
  have hF:=F2 (nth p i).1 (nth p i).2 (by omega) uW
  have hM:=F6 _ hz
  obtain⟨v,hv⟩:∃v,v=iv (nth p i).1 (nth p i).2:=⟨_,rfl⟩
  rw [←hv]at hF hM
  refine kY ?_
  refine aA [0,3,4,6,7] ?_
  refine W.cA (fun K hK=>?_)
  simp (disch:=omega) [gw]
  refine cU hF ?_
  refine aC (nZ 1 (by decide) (by decide)) ?_
  simp (disch:=omega) [gw]
  refine aC hM ?_
  simp (disch:=omega) [gw,hr,gC]
  refine W.lw [0,3,6,7] hK ?_;clear hK K;simp
  refine W.cA (fun K hK=>?_);simp (disch:=omega) [gw]
  refine hK _ ⟨p.length-(i+1),_,aB _ [0,3,6,7],by omega,i+1,_,_,_,rfl,?_,by omega,by omega⟩
  rw [oJ h0,show gv (nth p i)=v from hv.symm]
  simp
 ·simp at h0
  have lV:i=p.length:=by omega
  subst lV
  refine fH ?_
  refine W.sr ?_
  have ez:(p.map gv).take p.length=p.map gv:=bM (by simp)
  simp (disch:=omega) [gw,hr,ez]
  refine aC (pA (p.map gv) (by simp;omega)) ?_
  simp (disch:=omega) [gw]
  refine bG [2] ?_
  exact cC
theorem US(l:List Int)(hl:l.length<1099511627776)(hb:∀x∈l, -9223372036854775808≤x∧x<9223372036854775808):aF env.P 97 [aN aI l] (PI (aQ l)):=by
 refine cD [(0,aN aI l)] Tryz.func97 ?_
 refine aA [0] ?_
 refine aA [0,3] ?_
 refine W.nil 3 3 31 4 (by simp) (by decide) (fun K hK=>?_)
 refine W.lw [0,3] hK ?_;clear hK K;simp
 refine aP [0,3,6,7] ?_
 refine W.block ?_
 refine W.bE (fun k σ=>∃(i ver:Nat) (rows:Pm.Rows) (clk:Nat),σ=⟨fa [(0,aN aI l),(3, .own 3 ver 0 i),(6, .int .i64 l.length),(7, .int .i64 i)],rows,clk⟩∧rows 3=some ⟨ver,31,4,emap ri (l.take i)⟩∧k=l.length-i∧i≤l.length) l.length ?_ ?_
 ·exact⟨_, .refl,0,_,_,_,rfl,by simp [emap],by omega,by omega⟩
 rintro k _ ⟨i,ver,rows,clk,rfl,hr,hk,hi⟩
 refine bV [0,3,6,7,8] ?_
 refine W.cond ⟨_,rfl,fun h0=>?_,fun h0=>?_⟩
 ·simp at h0
  have gC:(l.take i).length=i:=by simp;omega
  refine kY ?_
  refine aA [0,3,4,6,7] ?_
  refine W.cA (fun K hK=>?_)
  simp (disch:=omega) [gw]
  refine aC (MS (nth l i) (hb _ (b7 h0))) ?_
  simp (disch:=omega) [gw,hr,gC]
  refine W.lw [0,3,6,7] hK ?_;clear hK K;simp
  refine W.cA (fun K hK=>?_);simp (disch:=omega) [gw]
  refine hK _ ⟨l.length-(i+1),_,aB _ [0,3,6,7],by omega,i+1,_,_,_,rfl,?_,by omega,by omega⟩
  rw [bF h0]
  simp
 ·simp at h0
  have lV:i=l.length:=by omega
  subst lV
  refine fH ?_
  refine W.sr ?_
  simp (disch:=omega) [gw,hr]
  refine aC (pA l (by omega)) ?_
  simp (disch:=omega) [gw]
  refine bG [2] ?_
  exact cC
structure YK(l:List Rat):Prop where
 ok:∀q∈l,ZR YY q
 len:l.length<1099511627776
theorem agI(k:Nat)(hk:1≤k):ZR k 0:=⟨by show sz 2 0≤k;rw [kJ];omega,by show sz 2 1≤k;exact Nat.le_trans (dW (by decide) (by decide)) hk⟩
theorem YK.nth{l:List Rat}(h:YK l)(i:Nat):ZR YY (nth l i):=by
 by_cases hi:i<l.length
 ·exact h.ok _ (b7 hi)
 ·rw [iF (by omega)];exact agI _ (by decide)
theorem YK.qs{x:List Int}(h:∀c∈x,sz 2 c≤YY)(hl:x.length<1099511627776):YK (qs x):=⟨fun q hq=>by
 simp only [List.mem_map]at hq
 obtain⟨c,hc,rfl⟩:=hq
 exact rO (h c hc) (by decide),by simpa using hl⟩
@[simp] theorem ane{l:List Rat}:(∀e∈emap re l,∀p∈e,bI p=true)=True:=by simp [emap]
theorem UT(l:List Rat)(i:Nat)(hi:i<9223372036854775808):aF env.P 277 [PP l, .int .i64 i] (RR (nth l i)):=by
 have hzero:=MR
 refine cD [(0,PP l),(1, .int .i64 i)] Tryz.func277 ?_
 refine bV [0,1,4] ?_
 refine W.fA (fun σ=>∃(b:Bool) (rows:Pm.Rows) (clk:Nat),σ=⟨fa [(0,PP l),(1, .int .i64 i),(4, .ptr 4 0 0 0),(12, .bool b)],rows,clk⟩∧(b=true↔l.length≤i)∧rows 4=some ⟨0,31,4,[[.nil, .bool false, .nil, .bool false]]⟩) (fun K hK=>?_) ?_
 ·have hn:¬((i:Int)<0):=by omega
  simp (disch:=omega) [gw,hn]
  exact hK _ _ (aB _ [0,1,4,12]) ⟨_,_,_,rfl,by simp,by simp⟩
 rintro _ ⟨b,rows,clk,rfl,hb,dS⟩
 refine bJ ?_ ?_<;>intro h
 ·have hb:=hb.1 h
  have e:nth l i=0:=iF hb
  rw [e]
  generalize (0:Rat)=z at *
  refine jG ?_
  refine aC hzero ?_
  simp (disch:=omega) [gw,dS]
  refine bG [4] ?_
  exact cC
 ·have hb:i<l.length:=Nat.lt_of_not_le fun h2=>by simp [hb.2 h2]at h
  refine W.skip ?_
  refine W.sr ?_
  simp (disch:=omega) [gw,dS]
  refine bG [4] ?_
  exact cC
def acA(a b:List Rat):List Rat:=nO ((List.range (max a.length b.length)).map fun k=>nth a k+nth b k)
theorem acB(a b:List Rat)(ha:YK a)(hb:YK b):aF env.P 274 [PP a,PP b] (PP (acA a b)):=by
 have hal:=ha.len;have hbl:=hb.len
 refine cD [(0,PP a),(1,PP b)] Tryz.func274 ?_
 obtain⟨M,hM⟩:∃M,M=max a.length b.length:=⟨_,rfl⟩
 refine aA [0,1] ?_
 refine aA [0,1,5] ?_
 refine W.nil 5 5 31 4 (by simp) (by decide) (fun K hK=>?_)
 refine W.lw [0,1,5] hK ?_;clear hK K;simp
 refine aP [0,1,5,6] ?_
 refine W.block ?_
 refine W.bE (fun k σ=>∃(i ver:Nat) (rows:Pm.Rows) (clk:Nat),σ=⟨fa [(0,PP a),(1,PP b),(5, .own 5 ver 0 i),(6, .int .i64 i)],rows,clk⟩∧rows 5=some ⟨ver,31,4,emap re ((List.range i).map fun k=>nth a k+nth b k)⟩∧k=M-i∧i≤M) M ?_ ?_
 ·exact⟨_, .refl,0,_,_,_,rfl,by simp [emap],by omega,by omega⟩
 rintro k _ ⟨i,ver,rows,clk,rfl,hr,hk,hi⟩
 have em:(if a.length<b.length then(b.length:Int)else(a.length:Int))=M:=by split<;>omega
 have em2:(if b.length<a.length then(a.length:Int)else(b.length:Int))=M:=by split<;>omega
 refine W.seq ?_
 refine W.sr ?_
 simp (disch:=omega) [gw,em,em2]
 refine bG [0,1,5,6,13] ?_
 refine bJ ?_ ?_<;>intro h
 ·have h:i<M:=by simp at h;omega
  refine kY ?_
  have h1:=UT a i (by omega)
  have h2:=UT b i (by omega)
  have h3:=MO _ _ (ha.nth i) (hb.nth i)
  have er:(List.range (i+1)).map (fun k=>nth a k+nth b k)=(List.range i).map (fun k=>nth a k+nth b k) ++ [nth a i+nth b i]:=by rw [List.range_succ];simp
  have gC:((List.range i).map fun k=>nth a k+nth b k).length=i:=by simp
  generalize ((List.range i).map fun k=>nth a k+nth b k)=acc at *
  generalize nth a i+nth b i=q at *
  generalize nth a i=u at *
  generalize nth b i=v at *
  refine W.cA (fun K hK=>?_)
  simp (disch:=omega) [gw]
  refine cU h1 ?_
  refine cU h2 ?_
  refine aC h3 ?_
  simp (disch:=omega) [gw,hr,gC]
  refine W.lw [0,1,5,6] hK ?_;clear hK K;simp
  refine W.cA (fun K hK=>?_);simp (disch:=omega) [gw]
  refine hK _ ⟨M-(i+1),_,aB _ [0,1,5,6],by omega,i+1,_,_,_,rfl,by rw [er];simp,by omega,by omega⟩
 ·have h:i=M:=by simp at h;omega
  subst h
  refine fH ?_
  have gC:((List.range i).map fun k=>nth a k+nth b k).length=i:=by simp
  rw [acA,←hM]
  generalize ((List.range i).map fun k=>nth a k+nth b k)=acc at *
  have ez:=bM gC
  refine W.sr ?_
  simp (disch:=omega) [gw,hr,ez]
  refine aC (vU acc (by omega)) ?_
  simp (disch:=omega) [gw]
  refine bG [4] ?_
  exact cC
def kO(a:List Rat)(c:Rat):List Rat:=nO (a.map fun x=>x*c)
theorem uD(a:List Rat)(c:Rat)(ha:YK a)(hc:ZR YY c):aF env.P 201 [PP a,RR c] (PP (kO a c)):=by
 have hal:=ha.len
 refine cZ (E:=env) (fun id=>if id=5 then 2 else 0) [(0,PP a),(1,RR c)] Tryz.func201 rfl (by kernel_rfl) (by kernel_rfl) (show 2≤24 by decide) (by simp) ?_
 refine aA [0,3] ?_
 refine aA [0,3,5] ?_
 refine W.nil 5 5 31 4 (by simp) (by decide) (fun K hK=>?_)
 refine W.lw [0,3,5] hK ?_;clear hK K;simp
 refine aP [0,3,5,8,9] ?_
 refine W.block ?_
 refine W.bE (fun k σ=>∃(i ver:Nat) (rows:Pm.Rows) (clk:Nat),σ=⟨fa [(0,PP a),(3, .ptr 3 0 0 0),(5, .own 5 ver 0 i),(8, .int .i64 a.length),(9, .int .i64 i)],rows,clk⟩∧rows 5=some ⟨ver,31,4,emap re ((a.take i).map fun x=>x*c)⟩∧rows 3=some ⟨0,31,4,[re c]⟩∧k=a.length-i∧i≤a.length) a.length ?_ ?_
 ·exact⟨_, .refl,0,_,_,_,rfl,by simp [emap],by simp,by omega,by omega⟩
 rintro k _ ⟨i,ver,rows,clk,rfl,hr,b8,hk,hi⟩
 refine bV [0,3,5,8,9,10] ?_
 refine bJ ?_ ?_<;>intro h
 ·simp at h
  refine kY ?_
  refine aA [0,3,5,6,8,9] ?_
  have h3:=MP _ _ (ha.nth i) hc
  have er:=oJ (f:=fun x=>x*c) h
  have gC:((a.take i).map fun x=>x*c).length=i:=by simp;omega
  generalize (a.take i).map (fun x=>x*c)=acc at *
  generalize hq:nth a i*c=q at *
  refine W.LY (fun K hK=>?_)
  rw [if_pos rfl,fR]
  simp (disch:=omega) [gw,b8]
  refine aC h3 ?_
  simp (disch:=omega) [gw,hr,b8,gC]
  refine W.lw [0,3,5,8,9] hK ?_;clear hK K;simp
  refine W.cA (fun K hK=>?_);simp (disch:=omega) [gw]
  refine hK _ ⟨a.length-(i+1),_,aB _ [0,3,5,8,9],by omega,i+1,_,_,_,rfl,by rw [er];simp,by simp [b8],by omega,by omega⟩
 ·simp at h
  have lV:i=a.length:=by omega
  subst lV
  refine fH ?_
  rw [List.take_length]at hr
  rw [kO]
  have gC:(a.map fun x=>x*c).length=a.length:=by simp
  generalize a.map (fun x=>x*c)=acc at *
  have ez:=bM gC
  refine W.sr ?_
  simp (disch:=omega) [gw,hr,ez]
  refine aC (vU acc (by omega)) ?_
  simp (disch:=omega) [gw]
  refine bG [4] ?_
  exact cC
theorem MT(a:List Rat)(ha:YK a):aF env.P 161 [PP a] (PP (kO a (-1))):=by
 have h1:=n3 (-1) 1 (by decide) (by decide)
 rw [lS,show(((-1:Int)):Rat) = -1 by simp]at h1
 have h2:=uD a (-1) ha ⟨by show sz 2 (-1)≤YY;exact Nat.le_trans (dW (k:=1) (by decide) (by decide)) (by decide),by show sz 2 1≤YY;exact Nat.le_trans (dW (k:=1) (by decide) (by decide)) (by decide)⟩
 generalize (-1:Rat)=c at *
 refine cD [(0,PP a)] Tryz.func161 ?_
 refine aA [0] ?_
 refine jG ?_
 refine cU h1 ?_
 refine cQ [2] h2 ?_
 exact cC
theorem acC(x:List Int)(k:Nat):nth (qs x) k=((nth x k:Int):Rat):=z7 (f:=fun(c:Int)=>(c:Rat)) rfl x k
theorem YL(x:List Int)(c:Int):kO (qs x) (c:Rat)=qs (bA x c):=by
 rw [kO,bA,←vT]
 congr 1
 simp [qs,Function.comp_def]
theorem RH(x:List Int):bA x (-1)=gW x:=by simp [bA,gW]
theorem F8(x:List Int)(hx:Bd 2 YY 1099511627775 x):aF env.P 161 [PI x] (PI (gW x)):=by
 have:=MT (qs x) (.qs hx.sz (by have:=hx.len;omega))
 rwa [show(-1:Rat)=((-1:Int):Rat)by simp,YL,RH,tN,tN]at this
theorem YM(x y:List Int)(s s' n n':Nat)(hs:Bd 2 s n x)(zZ:Bd 2 s' n' y)(hB:s+s'+n+n'<YY):aF env.P 199 [PI x,PI y] (PI (bQ x y)):=by
 have hlx:=hs.len;have hly:=zZ.len
 have hB2:s+s'+n+n'<137438953472:=hB
 refine cZ (E:=env) (fun id=>if id=15 then 1 else 0) [(0,PI x),(1,PI y)] Tryz.func199 rfl (by kernel_rfl) (by kernel_rfl) (show 2≤69 by decide) (by simp) ?_
 refine bV [0,1] ?_
 refine W.fA (fun σ=>∃(b:Bool),σ=⟨fa [(0,PI x),(1,PI y),(16, .bool b)],fun _=>none,0⟩∧(b=true↔x = []∨y = [])) (fun K hK=>?_) ?_
 ·simp
  have e1:((x.length:Int)==0)=decide (x = []):=by
   cases x<;>simp<;>omega
  have e2:((y.length:Int)==0)=decide (y = []):=by
   cases y<;>simp<;>omega
  rw [e1]
  by_cases h0:x = []
  ·have e3:decide (x = [])=true:=by simp [h0]
   rw [e3]
   simp
   exact hK _ _ (aB _ [0,1,16]) ⟨_,rfl,by simp [h0]⟩
  ·have e3:decide (x = [])=false:=by simp [h0]
   rw [e3]
   simp
   exact hK _ _ (aB _ [0,1,16]) ⟨_,rfl,by rw [e2];simp [h0]⟩
 rintro _ ⟨b,rfl,hb⟩
 refine bJ ?_ ?_<;>intro h
 ·have e:bQ x y = []:=by
   have h1:=hb.1 h
   refine Cn.ext (Cn.bQ _ _) Cn.nil fun t=>?_
   rw [dG]
   rcases h1 with rfl | rfl<;>simp [V]
  refine aA [4] ?_
  refine W.ret ?_
  simp [go,e]
  rfl
 ·have h1:¬(x = []∨y = []):=fun h2=>by simp [hb.2 h2]at h
  have o7:0<x.length:=List.length_pos_iff.2 fun h2=>h1 (.inl h2)
  have RB:0<y.length:=List.length_pos_iff.2 fun h2=>h1 (.inr h2)
  clear h hb h1
  have e0:((x.length:Int)+(y.length:Int)-1).toNat=x.length+y.length-1:=by omega
  have e9:((x.length+y.length-1:Nat):Int)=(x.length:Int)+(y.length:Int)-1:=by omega
  refine W.skip ?_
  refine W.sr ?_
  simp (disch:=omega) [gw,e0]
  refine bG [0,1,5] ?_
  refine aP [0,1,5,25,26] ?_
  refine W.block ?_
  refine W.bE (fun k σ=>∃(i ver:Nat) (els:List (List PV)) (rows:Pm.Rows) (clk:Nat),σ=⟨fa [(0,PI x),(1,PI y),(5, .own 23 ver 0 (x.length+y.length-1)),(25, .int .i64 ((x.length+y.length-1:Nat):Int)),(26, .int .i64 i)],rows,clk⟩ ∧
   rows 23=some ⟨ver,31,4,els⟩∧els.length=x.length+y.length-1∧(∀e∈els,e.length=4)∧els.take i=emap ri (List.replicate i 0)∧k=x.length+y.length-1-i∧i≤x.length+y.length-1) (x.length+y.length-1) ?_ ?_
  ·exact⟨_,Gh.fr [(0,PI x),(1,PI y),(5, .own 23 0 0 (x.length+y.length-1)),(25, .int .i64 ((x.length+y.length-1:Nat):Int)),(26, .int .i64 (0:Nat))] (by simp),0,_,List.replicate (x.length+y.length-1) [.nil, .bool false, .nil, .bool false],_,_,rfl,by simp [e0],by simp,by simp,by simp [emap],by omega,by omega⟩
  rintro k _ ⟨i,ver,els,rows,clk,rfl,hr,mR,MU,qG,hk,hi⟩
  have X6:bH 4 els=True:=by simp only [bH,eq_iff_iff,iff_true];exact MU
  refine bV [0,1,5,25,26,27] ?_
  refine bJ ?_ ?_<;>intro h
  ·have h:i<x.length+y.length-1:=by simp at h;omega
   refine kY ?_
   refine aA [0,1,5,6,25,26] ?_
   refine W.cA (fun K hK=>?_)
   simp (disch:=omega) [gw]
   refine aC sK ?_
   have uC:i<els.length:=by omega
   have hE:tM els i 4=True:=by
    simp only [eq_iff_iff,iff_true]
    exact⟨els[i],List.getElem?_eq_getElem uC,by rw [MU _ (List.getElem_mem uC)];omega⟩
   have hS:gZ els i 0 [aN aI (aU DD 0), .bool false,aN aI (aU DD 1), .bool false]=els.set i (ri 0):=by
    have h4:=MU _ (List.getElem_mem uC)
    rw [gZ,List.getElem?_eq_getElem uC]
    simp [List.drop_of_length_le,h4]
   simp (disch:=omega) [gw,hr,hE,hS]
   refine W.lw [0,1,5,25,26] hK ?_;clear hK K;simp
   refine W.cA (fun K hK=>?_);simp (disch:=omega) [gw]
   refine hK _ ⟨x.length+y.length-1-(i+1),_,aB _ [0,1,5,25,26],by omega,i+1,ver,els.set i (ri 0),_,_,rfl,by simp,by simpa using mR,fun e he=>?_,?_,by omega,by omega⟩
   ·rcases List.mem_or_eq_of_mem_set he with h1 | h1
    ·exact MU e h1
    ·rw [h1];rfl
   ·rw [l5 qG (by omega),List.replicate_succ']
    simp [emap]
  ·have h:i=x.length+y.length-1:=by simp at h;omega
   subst h
   have nT:els=emap ri (List.replicate (x.length+y.length-1) 0):=by rw [←qG,bM mR]
   subst nT
   clear qG MU mR X6 hk hi
   refine fH ?_
   refine aP [0,1,5,35,36] ?_
   refine W.block ?_
   refine W.bE (fun k σ=>∃(i:Nat) (z:List Int) (ver:Nat) (rows:Pm.Rows) (clk:Nat),σ=⟨fa [(0,PI x),(1,PI y),(5, .own 23 ver 0 (x.length+y.length-1)),(35, .int .i64 x.length),(36, .int .i64 i)],rows,clk⟩ ∧
    rows 23=some ⟨ver,31,4,emap ri z⟩∧k=x.length-i∧i≤x.length∧z.length=x.length+y.length-1∧(∀j,sz 2 (nth z j)≤s+s'+i) ∧
    ∀t,V t z=V t (x.take i)*V t y) x.length ?_ ?_
   ·refine⟨_, .refl,0,List.replicate (x.length+y.length-1) 0,_,_,_,rfl,hr,by omega,by omega,by simp,fun j=>?_,fun t=>by simp [V,qB]⟩
    have:Bd 2 0 (x.length+y.length-1) (List.replicate (x.length+y.length-1) 0):=⟨by simp,fun c hc=>by rw [(List.mem_replicate.1 hc).2,kJ];omega⟩
    have:=this.nth j
    omega
   clear hr rows clk
   rintro k _ ⟨i,z,ver,rows,clk,rfl,hr,hk,hi,hz,D4,hV⟩
   refine bV [0,1,5,35,36,37] ?_
   refine bJ ?_ ?_<;>intro h
   ·simp at h
    refine kY ?_
    refine aA [0,1,5,7,35,36] ?_
    refine aA [0,1,5,7,35,36,40,41] ?_
    refine W.block ?_
    refine W.bE (fun m σ=>∃(k:Nat) (z:List Int) (ver:Nat) (rows:Pm.Rows) (clk:Nat),σ=⟨fa [(0,PI x),(1,PI y),(5, .own 23 ver 0 (x.length+y.length-1)),(7, .int .i64 i),(35, .int .i64 x.length),(36, .int .i64 i),(40, .int .i64 y.length),(41, .int .i64 k)],rows,clk⟩ ∧
     rows 23=some ⟨ver,31,4,emap ri z⟩∧m=y.length-k∧k≤y.length∧z.length=x.length+y.length-1∧(∀j,sz 2 (nth z j)≤s+s'+i+1)∧(∀j,i+k≤j→sz 2 (nth z j)≤s+s'+i) ∧
     ∀t,V t z=V t (x.take i)*V t y+t^i*nth x i*V t (y.take k)) y.length ?_ ?_
    ·refine⟨_, .refl,0,z,ver,_,_,rfl,by simpa using hr,by omega,by omega,hz,fun j=>by have:=D4 j;omega,fun j _=>D4 j,fun t=>by simp [V,hV]⟩
    clear hV D4 hz hr z ver rows clk
    rintro m _ ⟨k,z,ver,rows,clk,rfl,hr,hm,hky,hz,D4,RC,hV⟩
    refine bV [0,1,5,7,35,36,40,41,42] ?_
    refine W.cond ⟨_,rfl,fun h2=>?_,fun h2=>?_⟩
    ·simp at h2
     refine kY ?_
     refine aA [0,1,5,7,8,35,36,40,41] ?_
     have e1:((i:Int)+(k:Int)).toNat=i+k:=by omega
     have KG:sz 2 (nth x i*nth y k)≤s+s'+i:=Nat.le_trans (cG (by decide) (hs.nth i) (zZ.nth k)) (by omega)
     have hm2:=m7 (b:=2) (by decide) (RC (i+k) (Nat.le_refl _)) KG
     have hlz:i+k<z.length:=by omega
     have c1:=F7 (nth x i) (nth y k) (Nat.le_trans (hs.nth i) (by show _≤137438953472;omega)) (Nat.le_trans (zZ.nth k) (by show _≤137438953472;omega))
     have c2:=YI (nth z (i+k)) (nth x i*nth y k) (Nat.le_trans (RC (i+k) (Nat.le_refl _)) (by show _≤137438953472;omega)) (Nat.le_trans KG (by show _≤137438953472;omega))
     have Q8:=fun t=>FT (b:=t) (x:=nth z (i+k)+nth x i*nth y k) hlz
     generalize hu:nth z (i+k)+nth x i*nth y k=u at *
     generalize hpq:nth x i*nth y k=pq at *
     refine W.LY (fun K hK=>?_)
     rw [if_pos rfl,fR]
     simp (disch:=omega) [gw,hr,e1]
     refine aC c1 ?_
     simp (disch:=omega) [gw,hr,e1]
     refine aC c2 ?_
     simp (disch:=omega) [gw,hr,e1]
     refine W.lw [0,1,5,7,35,36,40,41] hK ?_;clear hK K;simp
     refine W.cA (fun K hK=>?_);simp (disch:=omega) [gw]
     refine hK _ ⟨y.length-(k+1),_,aB _ [0,1,5,7,35,36,40,41],by omega,k+1,z.set (i+k) u,ver,_,_,rfl,by simp,by omega,by omega,by simpa using hz,fun j=>?_,fun j hj=>?_,fun t=>?_⟩
     ·by_cases hj:i+k=j
      ·subst hj;rw [eW hlz];exact hm2
      ·rw [gT hj];exact D4 j
     ·rw [gT (by omega)];exact RC j (by omega)
     ·rw [Q8,aV h2,hV,Int.pow_add,←hu,←hpq];clear hV Q8;grind
    ·simp at h2
     have wX:k=y.length:=by omega
     subst wX
     refine fH ?_
     refine W.cA (fun K hK=>?_);simp (disch:=omega) [gw]
     refine hK _ ⟨x.length-(i+1),_,aB _ [0,1,5,35,36],by omega,i+1,z,ver,_,_,rfl,hr,by omega,by omega,hz,fun j=>by have:=D4 j;omega,fun t=>?_⟩
     rw [hV,a9 (Nat.le_refl _),aV h];grind
   ·simp at h
    have lV:i=x.length:=by omega
    subst lV
    have tZ:=bM hz
    refine fH ?_
    refine W.sr ?_
    simp (disch:=omega) [gw,hr,tZ]
    refine aC (pA z (by omega)) ?_
    simp (disch:=omega) [gw]
    refine bG [4] ?_
    refine W.ret ?_
    have e:aQ z=bQ x y:=by
     refine Cn.ext (Cn.cut _) (Cn.bQ _ _) fun t=>?_
     rw [c8,hV,dG,a9 (Nat.le_refl _)]
    simp [go,e]
theorem CT(v n:Int)(hv : -9223372036854775808≤v∧v<9223372036854775808)(hn:0<n)(hn2:n<4611686018427387904):aF env.P 13 [.int .i64 v, .int .i64 n] (.int .i64 (v%n)):=by
 have hn0:n≠0:=by omega
 have h12:(v.tmod n=v%n∨(v.tmod n<0∧v.tmod n+n=v%n)) ∧ -n<v.tmod n∧v.tmod n<n:=by
  have h2:=Int.emod_nonneg v hn0
  have h3:=Int.emod_lt_of_pos v hn
  rcases(show v<0∨0≤v by omega)with h | h
  ·have h4:=Int.tmod_eq_emod (a:=v) (b:=n)
   have h5:(n.natAbs:Int)=n:=by omega
   split at h4
   ·simp at h4;omega
   ·rename_i h6
    rw [h5]at h4
    have h7:v%n≠0:=fun h8=>h6 (.inr (Int.dvd_of_emod_eq_zero h8))
    omega
  ·rw [Int.tmod_eq_emod_of_nonneg h];omega
 obtain⟨h1,h2⟩:=h12
 have h5:=Int.emod_nonneg v hn0
 have h6:=Int.emod_lt_of_pos v hn
 have hnn:¬n<1:=by omega
 refine cD [(0, .int .i64 v),(1, .int .i64 n)] Tryz.func13 ?_
 refine aA [0,1] ?_
 refine aP [0,1,7] ?_
 refine bJ ?_ ?_<;>intro h
 ·exfalso;simp at h;omega
 ·refine W.skip ?_
  generalize hm:v.tmod n=m at *
  generalize v%n=r at *
  refine W.sr ?_
  simp (disch:=omega) [gA,hn0,hm]
  refine bG [1,5] ?_
  refine W.iE (fun σ=>∃(rows:Pm.Rows) (clk:Nat),σ=⟨fa [(5, .int .i64 r)],rows,clk⟩) ?_ ?_
  ·
   refine aA [1,5,12] ?_
   refine bJ ?_ ?_<;>intro h
   ·simp at h
    refine W.cA (fun K hK=>?_);simp (disch:=omega) [gw]
    exact hK _ ⟨_,Gh.fr [(5, .int .i64 r)] (by simp;omega),_,_,rfl⟩
   ·simp at h
    refine W.skip ?_
    exact⟨_,Gh.fr [(5, .int .i64 r)] (by simp;omega),_,_,rfl⟩
  rintro _ ⟨rows,clk,rfl⟩
  refine aA [4] ?_
  exact cC
structure PB(x:List Int):Prop where
 sz:∀c∈x,Sz c
 len:x.length<1099511627775
theorem PB.EV{x:List Int}(h:PB x):s6 (x.map s5):=s6.agv h.sz (by have:=h.len;omega)
theorem PB.of{s n:Nat}{x:List Int}(h:Bd LL s n x)(hs:s<1099511627775)(hn:n<1099511627775):PB x:=⟨fun c hc=>Nat.lt_of_le_of_lt (h.sz c hc) (by omega),Nat.lt_of_le_of_lt h.len hn⟩
theorem YN{x y:List Int}(hx:PB x)(hy:PB y):aF env.P 182 [Po x,Po y] (Po (iG x y)):=by
 have:=acn _ _ hx.EV hy.EV
 rwa [cI,cI,←i7,←i7]at this
theorem F9{x y:List Int}(hx:PB x)(hy:PB y):aF env.P 186 [Po x,Po y] (Po (fM x y)):=by
 have:=aco _ _ hx.EV hy.EV
 rwa [cI,cI,←i7,←i7]at this
theorem GB{x:List Int}(hx:PB x):aF env.P 139 [Po x] (Po (gW x)):=by
 have:=acp _ hx.EV
 rwa [cI,←i7]at this
theorem fE{x:List Int}(hx:PB x):aF env.P 64 [Po x] (Po (aQ x)):=by
 have:=iO _ hx.EV
 rwa [cI,←i7]at this
theorem YO{a:RP}{y:List Int}{s s' n n':Nat}(ha:s6 a)(hs:Bd LL s n (a.map gv))(zZ:Bd LL s' n' y)(hB:s+s'+n+n'<1099511627775):aF env.P 15 [Pg a,Po y] (Po (bQ (a.map gv) y)):=by
 have:=acq a (y.map s5) ha (PB.of zZ (by omega) (by omega)).EV s s' n n' hs (by rwa [cI]) hB
 rwa [cI,←i7]at this
theorem xN{x y:List Int}{s s' n n':Nat}(hs:Bd LL s n x)(zZ:Bd LL s' n' y)(hB:s+s'+n+n'<1099511627775):aF env.P 15 [Po x,Po y] (Po (bQ x y)):=by
 have:=YO (PB.of hs (by omega) (by omega)).EV (by rwa [cI]) zZ hB
 rwa [cI,←i7]at this
theorem UU:xJ Tryz.prog 3 (fun q=>∃n:Int,q = .int .i64 n ∧ -9223372036854775808≤n∧n<9223372036854775808):=
 (xJ.int .i64 (by kernel_rfl)).mono fun q ⟨n,h1,h2,h3⟩=>⟨n,h1,by simpa [IntKind.min,IntKind.signed,IntKind.bits]using h2,by simp [IntKind.max,IntKind.signed,IntKind.bits]at h3;omega⟩
theorem own:ownKnob Tryz.prog.godebug=none:=by kernel_rfl
theorem laidOut:laidOutB Tryz.prog=true:=by kernel_rfl
structure Tg where
 k:Int
 a:Int
 b:Int
 c:Int
 d:Int
 deriving DecidableEq
instance:Inhabited Tg:=⟨⟨0,0,0,0,0⟩⟩
def tgc(t:Tg):List PV:=[.int .i64 t.k, .int .i64 t.a, .int .i64 t.b, .int .i64 t.c, .int .i64 t.d]
theorem UW(t:Tg):tgc t = [.int .i64 t.k, .int .i64 t.a, .int .i64 t.b, .int .i64 t.c, .int .i64 t.d]:=rfl
def CU(s t:Tg):Bool:=
 if s.k≠t.k then decide (s.k<t.k)else if s.a≠t.a then decide (s.a<t.a)else if s.b≠t.b then decide (s.b<t.b)else if s.c≠t.c then decide (s.c<t.c)else if s.d≠t.d then decide (s.d<t.d)else false
theorem YP(s t:Tg):aF env.P 38 [.ag (tgc s), .ag (tgc t)] (.bool (CU s t)):=by
 simp only [UW,CU]
 obtain⟨k,a,b,c,d⟩:=s
 obtain⟨k',a',b',c',d'⟩:=t
 simp only
 refine cD [(0, .ag [.int .i64 k, .int .i64 a, .int .i64 b, .int .i64 c, .int .i64 d]),(1, .ag [.int .i64 k', .int .i64 a', .int .i64 b', .int .i64 c', .int .i64 d'])] Tryz.func38 ?_
 refine aA [2,3] ?_
 refine aP [2,3,11] ?_
 refine bJ ?_ ?_<;>intro h
 ·have h:k≠k':=by simpa using h
  rw [if_pos h]
  refine aA [4] ?_
  exact cC
 ·have h:k=k':=by simpa using h
  rw [if_neg (by simpa using h)]
  refine W.skip ?_
  refine aP [3,18,19] ?_
  refine W.block ?_
  refine W.bE (fun k σ=>∃(j:Nat) (rows:Pm.Rows) (clk:Nat),σ=⟨fa [(3, .ptr 3 1 0 0),(18, .ag [.int .i64 a, .int .i64 b, .int .i64 c, .int .i64 d]),(19, .int .i64 j)],rows,clk⟩∧j+k=4∧rows 3=some ⟨1,78,5,[[.int .i64 k', .int .i64 a', .int .i64 b', .int .i64 c', .int .i64 d']]⟩∧(0<j→a=a')∧(1<j→b=b')∧(2<j→c=c')∧(3<j→d=d')) 4 ?_ ?_
  ·exact⟨_, .refl,0,_,_,rfl,rfl,by simp,by simp,by simp,by simp,by simp⟩
  rintro m _ ⟨j,rows,clk,rfl,hj,b8,h1,h2,h3,h4⟩
  have ajF:j=0∨j=1∨j=2∨j=3∨j=4:=by omega
  refine bV [3,18,19,20] ?_
  refine bJ ?_ ?_<;>intro h
  ·have hj4:j<4:=by simp at h;omega
   refine kY ?_
   have ajF:j=0∨j=1∨j=2∨j=3:=by omega
   rcases ajF with rfl | rfl | rfl | rfl
   ·refine aA [3,5,6,18,19] ?_
    refine W.sr ?_
    simp (disch:=omega) [gw,b8]
    refine bG [3,5,6,18,19,28] ?_
    refine bJ ?_ ?_<;>intro h
    ·have h:a≠a':=by simpa using h
     rw [if_pos h]
     refine W.sr ?_
     simp (disch:=omega) [gw,b8]
     refine bG [4] ?_
     exact cC
    ·have h:a=a':=by simpa using h
     refine W.skip ?_
     refine W.cA (fun K hK=>?_);simp (disch:=omega) [gw]
     exact hK _ ⟨m-1,_,aB _ [3,18,19],by omega,1,_,_,rfl,by omega,b8,fun _=>h,by simp,by simp,by simp⟩
   ·have e1:=h1 (by omega)
    refine aA [3,5,6,18,19] ?_
    refine W.sr ?_
    simp (disch:=omega) [gw,b8]
    refine bG [3,5,6,18,19,28] ?_
    refine bJ ?_ ?_<;>intro h
    ·have h:b≠b':=by simpa using h
     rw [if_neg (by simpa using e1),if_pos h]
     refine W.sr ?_
     simp (disch:=omega) [gw,b8]
     refine bG [4] ?_
     exact cC
    ·have h:b=b':=by simpa using h
     refine W.skip ?_
     refine W.cA (fun K hK=>?_);simp (disch:=omega) [gw]
     exact hK _ ⟨m-1,_,aB _ [3,18,19],by omega,2,_,_,rfl,by omega,b8,fun _=>e1,fun _=>h,by simp,by simp⟩
   ·have e1:=h1 (by omega)
    have e2:=h2 (by omega)
    refine aA [3,5,6,18,19] ?_
    refine W.sr ?_
    simp (disch:=omega) [gw,b8]
    refine bG [3,5,6,18,19,28] ?_
    refine bJ ?_ ?_<;>intro h
    ·have h:c≠c':=by simpa using h
     rw [if_neg (by simpa using e1),if_neg (by simpa using e2),if_pos h]
     refine W.sr ?_
     simp (disch:=omega) [gw,b8]
     refine bG [4] ?_
     exact cC
    ·have h:c=c':=by simpa using h
     refine W.skip ?_
     refine W.cA (fun K hK=>?_);simp (disch:=omega) [gw]
     exact hK _ ⟨m-1,_,aB _ [3,18,19],by omega,3,_,_,rfl,by omega,b8,fun _=>e1,fun _=>e2,fun _=>h,by simp⟩
   ·have e1:=h1 (by omega)
    have e2:=h2 (by omega)
    have e3:=h3 (by omega)
    refine aA [3,5,6,18,19] ?_
    refine W.sr ?_
    simp (disch:=omega) [gw,b8]
    refine bG [3,5,6,18,19,28] ?_
    refine bJ ?_ ?_<;>intro h
    ·have h:d≠d':=by simpa using h
     rw [if_neg (by simpa using e1),if_neg (by simpa using e2),if_neg (by simpa using e3),if_pos h]
     refine W.sr ?_
     simp (disch:=omega) [gw,b8]
     refine bG [4] ?_
     exact cC
    ·have h:d=d':=by simpa using h
     refine W.skip ?_
     refine W.cA (fun K hK=>?_);simp (disch:=omega) [gw]
     exact hK _ ⟨m-1,_,aB _ [3,18,19],by omega,4,_,_,rfl,by omega,b8,fun _=>e1,fun _=>e2,fun _=>e3,fun _=>h⟩
  ·have hj4:j=4:=by simp at h;omega
   subst hj4
   rw [if_neg (by simpa using h1 (by omega)),if_neg (by simpa using h2 (by omega)),if_neg (by simpa using h3 (by omega)),if_neg (by simpa using h4 (by omega))]
   refine fH ?_
   refine aA [4] ?_
   exact cC
def sc(z:Bool)(l:List (List PV)):PV:=if z=true then .nil else .sl l
def szc(z:Bool)(l:List (List PV)):List (List PV):=if z=true then []else l
@[simp] theorem agJ{l:List (List PV)}:sc false l = .sl l:=rfl
@[simp] theorem aDw{l:List (List PV)}:sc true l = .nil:=rfl
@[simp] theorem aBF{rows:Pm.Rows}{z:Bool}{l:List (List PV)}:fz rows (sc z l) = .sl (szc z l):=by cases z<;>rfl
@[simp] theorem aBG{rows:Pm.Rows}{z:Bool}{l:List (List PV)}:pz rows (sc z l) = .sl (szc z l):=by cases z<;>rfl
@[simp] theorem CV{z:Bool}{l:List (List PV)}:bI (sc z l)=true:=by cases z<;>rfl
@[simp] theorem avZ{z:Bool}{l:List (List PV)}:aT (sc z l) = []:=by cases z<;>rfl
@[simp] theorem av0{z:Bool}{l:List (List PV)}:dQ (sc z l) = []:=by cases z<;>rfl
@[simp] theorem av1{rows:Pm.Rows}{z:Bool}{l:List (List PV)}:iM rows (sc z l)=True:=by cases z<;>simp [sc,iM]
@[simp] theorem ap3{z:Bool}{l:List (List PV)}:eY (sc z l)=some [sc z l]:=by cases z<;>rfl
@[simp] theorem ap4{z:Bool}{l:List (List PV)}:cE (sc z l)=some [sc z l]:=by cases z<;>rfl
structure CE where
 t:Tg
 z:Bool
 p:List Int
 w:Int
instance:Inhabited CE:=⟨⟨default,true,[],0⟩⟩
def lH(x:CE):List PV:=[.int .i64 x.t.k, .int .i64 x.t.a, .int .i64 x.t.b, .int .i64 x.t.c, .int .i64 x.t.d,sc x.z (emap ie x.p), .int .i64 x.w]
theorem iP(x:CE):lH x = [.int .i64 x.t.k, .int .i64 x.t.a, .int .i64 x.t.b, .int .i64 x.t.c, .int .i64 x.t.d,sc x.z (emap ie x.p), .int .i64 x.w]:=rfl
@[simp] theorem anf{l:List CE}:bH 7 (emap lH l)=True:=cH fun _=>rfl
theorem acD(x:CE):(lH x).all bI=true:=by simp only [iP,List.all_cons,CV,List.all_nil];rfl
@[simp] theorem ajG{v e n:Nat}{l:List CE}:cW (some ⟨v,e,n,emap lH l⟩)=True:=bU acD
def CE.v(x:CE):List Int:=if x.z=true then []else x.p
def CE.nz(x:CE):CE:=⟨x.t,false,x.v,x.w⟩
structure RE where
 t:Tg
 z:Bool
 q:List (List PV)
 w:Int
 y:Bool
 s:List (List PV)
 a:Bool
instance:Inhabited RE:=⟨⟨default,true,[],0,true,[],false⟩⟩
def agK(x:RE):List PV:=[.int .i64 x.t.k, .int .i64 x.t.a, .int .i64 x.t.b, .int .i64 x.t.c, .int .i64 x.t.d,sc x.z x.q, .int .i64 x.w,sc x.y x.s, .bool x.a]
theorem agL(x:RE):agK x = [.int .i64 x.t.k, .int .i64 x.t.a, .int .i64 x.t.b, .int .i64 x.t.c, .int .i64 x.t.d,sc x.z x.q, .int .i64 x.w,sc x.y x.s, .bool x.a]:=rfl
@[simp] theorem ang{l:List RE}:bH 9 (emap agK l)=True:=cH fun _=>rfl
theorem acE(x:RE):(agK x).all bI=true:=by simp only [agL,List.all_cons,CV,List.all_nil];rfl
@[simp] theorem ajH{v e n:Nat}{l:List RE}:cW (some ⟨v,e,n,emap agK l⟩)=True:=bU acE
section
variable {α:Type} [Inhabited α]
def CW(tg:α→Tg)(t:Tg)(l:List α):Nat→Nat
 | 0=>0
 | k+1=>if CU t (tg (nth l k))=true then CW tg t l k else k+1
theorem GC{tg:α→Tg}{t:Tg}{l:List α}{k:Nat}:CW tg t l (k+1)=if CU t (tg (nth l k))=true then CW tg t l k else k+1:=rfl
def bef(tg:α→Tg)(t:Tg)(l:List α):Nat→Bool
 | 0=>false
 | k+1=>CU t (tg (nth l k))
theorem acF{tg:α→Tg}{t:Tg}{l:List α}{k:Nat}(h:bef tg t l k=false):CW tg t l k=k:=by
 cases k with
 | zero=>rfl
 | succ k=>rw [GC,if_neg (by rw [show CU t (tg (nth l k))=false from h];decide)]
theorem UX{tg:α→Tg}{t:Tg}{l:List α}:∀k,CW tg t l k≤k
 | 0=>Nat.le_refl _
 | k+1=>by
  unfold CW
  split
  ·exact Nat.le_succ_of_le (UX k)
  ·exact Nat.le_refl _
def RJ(tg:α→Tg)(l:List α)(x:α):List α:=l.take (CW tg (tg x) l l.length)++x::l.drop (CW tg (tg x) l l.length)
def RK(tg:α→Tg)(l:List α):List α:=l.foldl (RJ tg) []
theorem acG{tg:α→Tg}{l:List α}{x:α}:(RJ tg l x).length=l.length+1:=by
 have:=UX (tg:=tg) (t:=tg x) (l:=l) l.length
 simp [RJ]
 omega
theorem acH{tg:α→Tg}{l:List α}{i:Nat}(h:i<l.length):RK tg (l.take (i+1))=RJ tg (RK tg (l.take i)) (nth l i):=by
 unfold RK
 rw [cB h,List.take_succ_eq_append_getElem h,List.foldl_append]
 rfl
theorem agM{tg:α→Tg}{l:List α}:(RK tg l).length=l.length:=by
 suffices h:∀(l S:List α),(l.foldl (RJ tg) S).length=S.length+l.length by simpa [RK]using h l []
 intro l
 induction l with
 | nil=>intro S;simp
 | cons x l ih=>intro S;rw [List.foldl_cons,ih,acG];simp;omega
end
theorem anh{α:Type}{S:List α}{z y:α}{k:Nat}(hk:k≤S.length):((S ++ [z]).take (k+1)++((S ++ [z]).drop k).take (S.length-k)).set k y=S.take k++y::S.drop k:=by
 obtain⟨A,B,rfl,rfl⟩:∃A B,S=A++B∧A.length=k:=⟨S.take k,S.drop k,(List.take_append_drop k S).symm,by simp;omega⟩
 have e1:(A++B ++ [z]).take (A.length+1)=A++(B ++ [z]).take 1:=by rw [List.append_assoc,List.take_length_add_append]
 have e2:(A++B ++ [z]).drop A.length=B ++ [z]:=by rw [List.append_assoc,List.drop_left]
 have e3:(A++B).length-A.length=B.length:=by simp
 have e4:(B ++ [z]).take B.length=B:=by simp
 rw [e1,e2,e3,e4,List.take_left,List.drop_left]
 cases B with
 | nil=>simp
 | cons b B=>simp
theorem aym(x:CE):x.nz.t=x.t:=rfl
def EW(l:List CE):List CE:=RK CE.t (l.map CE.nz)
theorem acI{α β:Type}[Inhabited α][Inhabited β]{f:α→β}{l:List α}{i:Nat}(h:i<l.length):nth (l.map f) i=f (nth l i):=by rw [cB (by simpa using h),cB h];simp
theorem YQ{l:List CE}{i:Nat}(h:i<l.length):EW (l.take (i+1))=RJ CE.t (EW (l.take i)) (nth l i).nz:=by
 unfold EW
 rw [List.map_take,List.map_take,acH (by simpa using h),acI h]
theorem MV{l:List CE}:(EW l).length=l.length:=by simp [EW,agM]
@[simp] theorem agN{x:CE}:(lH x).length=7:=rfl
theorem YR{L:List CE}{j:Nat}{y:CE}(h:j<L.length):gZ (emap lH L) j 0 (lH y)=emap lH (L.set j y):=by
 simp [gZ,emap,List.map_set,h]
 rw [show(lH L[j]).drop 7 = []from rfl,List.append_nil]
def zC:CE:=⟨⟨0,0,0,0,0⟩,false,[],0⟩
set_option maxHeartbeats 2000000 in
theorem GD{l:List CE}(hl:l.length<1048576)(hN:∀x∈l,aF env.P 64 [.sl (szc x.z (emap ie x.p))] (.sl (emap ie x.v))) :
  aF env.P 35 [aN lH l] (aN lH (EW l)):=by
 refine cD [(0,aN lH l)] Tryz.func35 ?_
 refine aA [0] ?_
 refine aA [0,3] ?_
 refine W.nil 3 3 82 7 (by simp) (by decide) (fun K hK=>?_)
 refine W.lw [0,3] hK ?_;clear hK K;simp
 refine aP [3,7,8,9] ?_
 refine W.block ?_
 refine W.bE (fun k σ=>∃(i v3:Nat) (rows:Pm.Rows) (clk:Nat),σ=⟨fa [(3, .own 3 v3 0 i),(7,aN lH l),(8, .int .i64 l.length),(9, .int .i64 i)],rows,clk⟩∧i+k=l.length∧rows 3=some ⟨v3,82,7,emap lH (EW (l.take i))⟩) l.length ?_ ?_
 ·exact⟨_, .refl,0,_,_,_,rfl,by omega,by simp [EW,RK,emap]⟩
 rintro k _ ⟨i,v3,rows,clk,rfl,zT,b8⟩
 refine bV [3,7,8,9,10] ?_
 refine bJ ?_ ?_<;>intro h
 ·have hi:i<l.length:=by simp at h;omega
  have hsl:(EW (l.take i)).length=i:=by rw [MV,List.length_take];omega
  have i9:=YQ hi
  have hNi:=hN _ (b7 hi)
  rw [RJ,aym,hsl]at i9
  generalize EW (l.take i)=S at *
  refine kY ?_
  generalize hx:nth l i=x at *
  refine W.sr ?_
  simp (disch:=omega) [gw,hi,iP,hx]
  refine bG [3,5,7,8,9] ?_
  refine W.sr ?_
  simp (disch:=omega) [gw,b8]
  refine bG [3,5,6,7,8,9] ?_
  refine W.seq ?_
  refine W.block ?_
  refine W.bE (fun k σ=>∃(j:Nat) (rows:Pm.Rows) (clk:Nat),σ=⟨fa [(3, .own 3 v3 0 i),(5, .ptr 5 clk 0 0),(6, .int .i64 j),(7,aN lH l),(8, .int .i64 l.length),(9, .int .i64 i)],rows,clk+1⟩∧j≤i∧CW CE.t x.t S i=CW CE.t x.t S j∧j=k∧rows 3=some ⟨v3,82,7,emap lH S⟩∧rows 5=some ⟨clk,82,7,[lH x]⟩) i ?_ ?_
  ·exact⟨_, .refl,i,_,_,rfl,Nat.le_refl _,rfl,rfl,by simp [b8],by simp [iP]⟩
  clear b8 rows clk
  rintro m _ ⟨j,rows,clk,rfl,EF,hp,rfl,b8,eB⟩
  simp only [iP]at eB
  refine W.seq ?_
  refine W.ai2 (fun σ=>∃(b:Bool),σ=⟨fa [(3, .own 3 v3 0 i),(5, .ptr 5 clk 0 0),(6, .int .i64 j),(7,aN lH l),(8, .int .i64 l.length),(9, .int .i64 i),(27, .bool b)],rows,clk+1⟩∧b=bef CE.t x.t S j) (fun K hK=>?_) ?_
  ·cases j with
   | zero =>
    simp (disch:=omega) [gw]
    exact hK _ _ (aB _ [3,5,6,7,8,9,27]) ⟨_,rfl,rfl⟩
   | succ j =>
    have hL:=YP x.t (nth S j).t
    simp only [UW]at hL
    have hjS:j<S.length:=by omega
    have lB:(0:Int)<(j:Int)+1:=by omega
    simp (disch:=omega) [gw,b8,eB,iP,hjS,lB]
    refine cU hL ?_
    exact hK _ _ (aB _ [3,5,6,7,8,9,27]) ⟨_,rfl,rfl⟩
  rintro _ ⟨b,rfl,hb⟩
  refine bJ ?_ ?_<;>intro h
  ·subst h
   cases j with
   | zero=>simp [bef]at hb
   | succ j =>
    have hb:CU x.t (nth S j).t=true:=hb.symm
    refine W.skip ?_
    refine W.block ?_
    refine W.cA (fun K hK=>?_);simp (disch:=omega) [gw]
    exact hK _ ⟨j,_,aB _ [3,5,6,7,8,9],by omega,j,_,_,rfl,by omega,by rw [hp,GC,if_pos hb],rfl,b8,by simp only [iP];exact eB⟩
  ·subst h
   have hpj:CW CE.t x.t S j=j:=acF hb.symm
   rw [hp,hpj]at i9
   refine fH ?_
   clear hp
   refine W.fA (fun σ=>∃(v:Nat) (rows:Pm.Rows) (gY:Nat),σ=⟨fa [(3, .own 3 v 0 (i+1)),(5, .ptr 5 clk 0 0),(6, .int .i64 j),(7,aN lH l),(8, .int .i64 l.length),(9, .int .i64 i)],rows,gY⟩∧rows 3=some ⟨v,82,7,emap lH (S ++ [zC])⟩∧rows 5=some ⟨clk,82,7,[lH x]⟩) (fun K hK=>?_) ?_
   ·simp (disch:=omega) [gw,b8,eB,hsl]
    refine hK _ _ (aB _ [3,5,6,7,8,9]) ⟨_,_,_,rfl,?_,?_⟩
    ·simp [emap,iP,zC]
    ·simp [eB,iP]
   clear b8 eB rows
   rintro _ ⟨v,rows,gY,rfl,b8,eB⟩
   refine W.ai2 (fun σ=>∃(rows:Pm.Rows),σ=⟨fa [(3, .own 3 v 0 (i+1)),(5, .ptr 5 clk 0 0),(6, .int .i64 j),(7,aN lH l),(8, .int .i64 l.length),(9, .int .i64 i)],rows,gY⟩∧rows 3=some ⟨v,82,7,emap lH ((S ++ [zC]).take (j+1)++((S ++ [zC]).drop j).take (i-j))⟩∧rows 5=some ⟨clk,82,7,[lH x]⟩) (fun K hK=>?_) ?_
   ·have KH:(emap lH (S ++ [zC])).length=i+1:=by simp [emap,hsl]
    simp (disch:=omega) [gw,b8]
    refine aro (els:=emap lH (S ++ [zC])) (l:=emap lH ((S ++ [zC]).drop j)) b8 (by rw [KH];omega) ⟨_,b8,rfl,?_⟩ ?_ ?_
    ·simp only
     rw [List.take_of_length_le (by rw [List.length_drop,KH];exact Nat.le_refl _)]
     simp [emap]
    ·intro e he
     obtain⟨y,_,rfl⟩:=List.mem_map.1 he
     rfl
    have e1:min (emap lH ((S ++ [zC]).drop j)).length (i-j)=i-j:=by simp [emap,hsl];omega
    have e2:(emap lH (S ++ [zC])).take (j+1)++(emap lH ((S ++ [zC]).drop j)).take (i-j)++(emap lH (S ++ [zC])).drop (j+1+(i-j))=emap lH ((S ++ [zC]).take (j+1)++((S ++ [zC]).drop j).take (i-j)):=by
     rw [show(emap lH (S ++ [zC])).drop (j+1+(i-j)) = []from List.drop_eq_nil_of_le (by rw [KH];omega),List.append_nil]
     simp [emap]
    rw [e1,e2]
    simp (disch:=omega) [gw]
    refine bC (by refine⟨?_,?_⟩<;>kernel_rfl) ?_
    simp (disch:=omega) [gw]
    exact hK _ _ (aB _ [3,5,6,7,8,9]) ⟨_,rfl,by simp,by simp [eB]⟩
   clear b8 eB rows
   rintro _ ⟨rows,rfl,b8,eB⟩
   simp only [iP]at eB
   refine W.LY (fun K hK=>?_)
   simp (disch:=omega) [gw,b8,eB]
   refine aC hNi ?_
   have dN:j<j+1+(i-j):=by omega
   simp (disch:=omega) [gw,b8,eB,agN,dN]
   refine bC (by kernel_rfl) ?_
   simp (disch:=omega) [gw]
   have e3:=YR (L:=(S ++ [zC]).take (j+1)++((S ++ [zC]).drop j).take (i-j)) (j:=j) (y:=x.nz) (by simp [hsl];omega)
   rw [←hsl,anh (by omega),←i9]at e3
   simp only [iP,CE.nz,agJ,hsl]at e3
   rw [e3]
   refine hK _ ?_;clear hK K
   refine W.cA (fun K hK=>?_);simp (disch:=omega) [gw]
   exact hK _ ⟨k-1,_,aB _ [3,7,8,9],by omega,i+1,v,_,_,rfl,by omega,by simp⟩
 ·have hi:i=l.length:=by simp at h;omega
  subst hi
  rw [List.take_length]at b8
  refine fH ?_
  refine W.freeze 3 (by simp [b8]) (fun K hK=>?_)
  simp [b8]
  refine hK _ ?_;clear hK K
  refine aA [2] ?_
  refine W.ret ?_
  simp [go,List.take_of_length_le (Nat.le_of_eq (MV (l:=l)))]
structure A9 where
 y:List (List PV)
 s:Bool
 d:List (List PV)
 s':Bool
 d':List (List PV)
 u:Bool
 e:List (List PV)
 u':Bool
 e':List (List PV)
def A9.no:A9:=⟨[],false,[],false,[],false,[],false,[]⟩
instance:Inhabited A9:=⟨A9.no⟩
def b9(x:A9):List PV:=[.sl x.y, .bool x.s, .sl x.d, .bool x.s', .sl x.d', .bool x.u, .sl x.e, .bool x.u', .sl x.e']
theorem fF(x:A9):b9 x = [.sl x.y, .bool x.s, .sl x.d, .bool x.s', .sl x.d', .bool x.u, .sl x.e, .bool x.u', .sl x.e']:=rfl
theorem agO(x:A9):(b9 x).all bI=true:=rfl
@[simp] theorem ap5{l:List A9}:bH 9 (emap b9 l)=True:=cH fun _=>rfl
@[simp] theorem ani{v e n:Nat}{l:List A9}:cW (some ⟨v,e,n,emap b9 l⟩)=True:=bU agO
structure WE where
 t:Tg
 p:List Int
 w:Int
 k:Bool
 o:Bool
 f:A9
instance:Inhabited WE:=⟨⟨default,[],0,false,false,default⟩⟩
def MW(w:WE):List PV:=[.int .i64 w.t.k, .int .i64 w.t.a, .int .i64 w.t.b, .int .i64 w.t.c, .int .i64 w.t.d,Po w.p, .int .i64 w.w, .bool w.k, .bool w.o, .sl w.f.y, .bool w.f.s, .sl w.f.d, .bool w.f.s', .sl w.f.d', .bool w.f.u, .sl w.f.e, .bool w.f.u', .sl w.f.e']
theorem mL(w:WE):MW w = [.int .i64 w.t.k, .int .i64 w.t.a, .int .i64 w.t.b, .int .i64 w.t.c, .int .i64 w.t.d,Po w.p, .int .i64 w.w, .bool w.k, .bool w.o, .sl w.f.y, .bool w.f.s, .sl w.f.d, .bool w.f.s', .sl w.f.d', .bool w.f.u, .sl w.f.e, .bool w.f.u', .sl w.f.e']:=rfl
theorem acJ(w:WE):(MW w).all bI=true:=rfl
@[simp] theorem anj{l:List WE}:bH 18 (emap MW l)=True:=cH fun _=>rfl
@[simp] theorem ajI{v e n:Nat}{l:List WE}:cW (some ⟨v,e,n,emap MW l⟩)=True:=bU acJ
def co(b:Bool)(n:A9)(z:Bool)(L:List WE)(e:Int):List PV:=[.bool b,sc (!b) n.y, .bool n.s,sc (!b) n.d, .bool n.s',sc (!b) n.d', .bool n.u,sc (!b) n.e, .bool n.u',sc (!b) n.e',sc z (emap MW L), .int .i64 e]
theorem fZ(b:Bool)(n:A9)(z:Bool)(L:List WE)(e:Int):co b n z L e = [.bool b,sc (!b) n.y, .bool n.s,sc (!b) n.d, .bool n.s',sc (!b) n.d', .bool n.u,sc (!b) n.e, .bool n.u',sc (!b) n.e',sc z (emap MW L), .int .i64 e]:=rfl
theorem gG(b:Bool)(n:A9)(z:Bool)(L:List WE)(e:Int):∀p∈co b n z L e,bI p=true:=List.all_eq_true.1 (by simp only [fZ,List.all_cons,CV,List.all_nil];rfl)
attribute [simp] aje
theorem uE{b:Bool}{n:A9}{z:Bool}{L:List WE}{e:Int}:fO env.P 44 [] 95 12 (co b n z L e) (co b n z L e) (.int .i64 e):=by
 refine fD (E:=env) (fun _=>0) [] Tryz.func44 rfl (by kernel_rfl) (by kernel_rfl) (show 1≤7 by decide) (by intro q;simp) ?_
 intro id ver rows clk eJ
 refine aA [0] ?_
 simp only [fZ]at eJ ⊢
 refine W.sr ?_
 simp (disch:=omega) [gw,eJ]
 refine bG [2] ?_
 refine W.ret ?_
 simp [go,eJ]
theorem MX{n:A9}{z:Bool}{L:List WE}{e:Int}(hL:aF env.P 112 [.sl [b9 n]] (.dU [.ag (b9 n), .bool true])):fO env.P 49 [] 95 12 (co true n z L e) (co true n z L e) (.ag (b9 n)):=by
 refine fD (E:=env) (fun _=>0) [] Tryz.func49 rfl (by kernel_rfl) (by kernel_rfl) (show 1≤23 by decide) (by intro q;simp) ?_
 intro id ver rows clk eJ
 simp only [fF]at hL ⊢
 simp only [fZ,Bool.not_true,agJ]at eJ ⊢
 refine aA [0,2] ?_
 refine W.seq ?_
 refine W.sr ?_
 simp (disch:=omega) [gw,eJ]
 refine bG [0,2,9] ?_
 refine bJ ?_ ?_<;>intro h
 ·simp at h
 refine W.skip ?_
 refine W.sr ?_
 simp (disch:=omega) [gw,eJ]
 refine aC hL ?_
 simp (disch:=omega) [gw,eJ]
 refine bG [2,3] ?_
 refine aA [2] ?_
 refine W.ret ?_
 simp [go,eJ]
theorem MY{n r:A9}{z:Bool}{L:List WE}{e:Int}{s s':Bool}{d d':List (List PV)}(h1:aF env.P 118 [.ag [.bool false, .sl []]] (.ag [.bool s, .sl d, .bool s', .sl d']))(h2:aF env.P 113 [.ag [.bool s, .sl d, .bool s', .sl d']] (.ag (b9 r))):fO env.P 49 [] 95 12 (co false n z L e) (co false n z L e) (.ag (b9 r)):=by
 refine fD (E:=env) (fun _=>0) [] Tryz.func49 rfl (by kernel_rfl) (by kernel_rfl) (show 1≤23 by decide) (by intro q;simp) ?_
 intro id ver rows clk eJ
 simp only [fF]at h2 ⊢
 simp only [fZ]at eJ ⊢
 refine aA [0,2] ?_
 refine W.seq ?_
 refine W.sr ?_
 simp (disch:=omega) [gw,eJ]
 refine bG [0,2,9] ?_
 refine bJ ?_ ?_<;>intro h
 ·refine W.sr ?_
  simp (disch:=omega) [gw,eJ]
  refine aC h1 ?_
  simp (disch:=omega) [gw,eJ]
  refine aC h2 ?_
  simp (disch:=omega) [gw,eJ]
  refine bG [2] ?_
  refine W.ret ?_
  simp [go,eJ]
 ·simp at h
def YS(R:WE→Bool × A9)(w:WE):WE:=if w.k=true then w else⟨w.t,w.p,w.w,true,(R w).1,(R w).2⟩
theorem CX{b:Bool}{n m:A9}{z:Bool}{L:List WE}{e:Int}{R:WE→Bool × A9}(hl:L.length<1000000)(hz:z=true→L = [])
  (hN:fO env.P 49 [] 95 12 (co b n z L e) (co b n z L e) (.ag (b9 m)))
  (hR:∀w∈L,w.k=false→aF env.P 206 [Po w.p, .ag (b9 m)] (.dU [.ag (b9 (R w).2), .bool (R w).1])) :
  fO env.P 120 [] 95 12 (co b n z L e) (co b n false (L.map (YS R)) e) (.dU []):=by
 refine fD (E:=env) (fun _=>0) [] Tryz.func120 rfl (by kernel_rfl) (by kernel_rfl) (show 1≤40 by decide) (by intro q;simp) ?_
 intro id ver kP YT eJ
 have E7:=gG b n z L e
 simp only [fF]at hN hR
 refine aA [0,2] ?_
 refine W.sr ?_
 simp (disch:=omega) [gw,eJ]
 refine iY hN rfl rfl E7 E7 eJ ?_
 simp (disch:=omega) [gw]
 refine bG [0,2,3] ?_
 refine W.nil 2 2 179 18 (by simp) (by decide) (fun K hK=>?_)
 refine W.lw [0,2,3] hK ?_;clear hK K;simp
 refine W.seq ?_
 refine W.fA (fun σ=>∃(s:PV) (v2 v3:Nat) (rows:Pm.Rows) (clk:Nat),σ=⟨fa [(0, .ptr (id+1000000) ver 0 0),(2, .own 2 v2 0 0),(3, .ptr 3 v3 0 0),(11,s),(12, .int .i64 L.length),(13, .int .i64 0)],rows,clk⟩∧(0<L.length→s=aN MW L)∧rows 2=some ⟨v2,179,18,[]⟩∧rows (id+1000000)=some ⟨ver,95,12,[co b n z L e]⟩∧(∀j,j≠id→rows (j+1000000)=kP (j+1000000))∧rows 3=some ⟨v3,54,9,[b9 m]⟩) (fun K hK=>?_) ?_
 ·cases z
  ·simp (disch:=omega) [gw,eJ,fZ]
   exact hK _ _ (aB _ [0,2,3,11,12,13]) ⟨_,_,_,_,_,rfl,fun _=>rfl,by simp,by simp [fZ],by intro j hj;simp [hj],by simp [fF]⟩
  ·obtain rfl:=hz rfl
   simp (disch:=omega) [gw,eJ,fZ]
   exact hK _ _ (aB _ [0,2,3,11,12,13]) ⟨_,_,_,_,_,rfl,by simp,by simp,by simp [fZ],by intro j hj;simp [hj],by simp [fF]⟩
 clear eJ
 rintro _ ⟨s,v2,v3,rows,clk,rfl,hs,bS,eJ,kX,b8⟩
 refine W.block ?_
 refine W.bE (fun k σ=>∃(i v2 v3:Nat) (rows:Pm.Rows) (clk:Nat),σ=⟨fa [(0, .ptr (id+1000000) ver 0 0),(2, .own 2 v2 0 i),(3, .ptr 3 v3 0 0),(11,s),(12, .int .i64 L.length),(13, .int .i64 i)],rows,clk⟩∧i+k=L.length∧rows 2=some ⟨v2,179,18,emap MW ((L.map (YS R)).take i)⟩∧rows (id+1000000)=some ⟨ver,95,12,[co b n z L e]⟩∧(∀j,j≠id→rows (j+1000000)=kP (j+1000000))∧rows 3=some ⟨v3,54,9,[b9 m]⟩) L.length ?_ ?_
 ·exact⟨_,aB _ [0,2,3,11,12,13],0,_,_,_,_,rfl,by omega,by simp [bS,emap],eJ,kX,b8⟩
 clear bS eJ kX b8 rows clk v2 v3
 rintro k _ ⟨i,v2,v3,rows,clk,rfl,zT,bS,eJ,kX,b8⟩
 refine bV [0,2,3,11,12,13,14] ?_
 refine bJ ?_ ?_<;>intro h
 ·have hi:i<L.length:=by simp at h;omega
  obtain rfl:=hs (by omega)
  have nJ:=hR _ (b7 hi)
  have i9:(L.map (YS R)).take (i+1)=(L.map (YS R)).take i ++ [YS R (nth L i)]:=by
   rw [List.take_succ_eq_append_getElem (by simpa using hi),cB hi];simp
  have hlen:((L.map (YS R)).take i).length=i:=by simp;omega
  generalize hT':(L.map (YS R)).take (i+1)=T' at *
  generalize (L.map (YS R)).take i=T at *
  generalize hw:nth L i=w at *
  obtain⟨y',xA⟩:∃y',YS R w=y':=⟨_,rfl⟩
  rw [xA]at i9
  refine kY ?_
  refine W.sr ?_
  simp (disch:=omega) [gw,hi,hw,mL]
  refine bG [0,2,3,5,11,12,13] ?_
  refine W.iE (fun σ=>∃(v5:Nat) (rows:Pm.Rows) (clk:Nat),σ=⟨fa [(0, .ptr (id+1000000) ver 0 0),(2, .own 2 v2 0 i),(3, .ptr 3 v3 0 0),(5, .ptr 5 v5 0 0),(11,aN MW L),(12, .int .i64 L.length),(13, .int .i64 i)],rows,clk⟩∧rows 2=some ⟨v2,179,18,emap MW T⟩∧rows 5=some ⟨v5,179,18,[MW y']⟩∧rows (id+1000000)=some ⟨ver,95,12,[co b n z L e]⟩∧(∀j,j≠id→rows (j+1000000)=kP (j+1000000))∧rows 3=some ⟨v3,54,9,[b9 m]⟩) ?_ ?_
  ·refine aA [0,2,3,5,11,12,13,19] ?_
   refine bJ ?_ ?_<;>intro h
   ·have hk:w.k=false:=by simpa using h
    have D5:=nJ hk
    rw [YS,if_neg (by simp [hk])]at xA
    generalize R w=r at *
    refine W.sr ?_
    simp (disch:=omega) [gw,b8,fF]
    refine cQ [0,2,3,5,11,12,13] D5 ?_
    refine W.cA (fun K hK=>?_);simp (disch:=omega) [gw]
    exact hK _ ⟨_,aB _ [0,2,3,5,11,12,13],_,_,_,rfl,by simp [bS],by simp [←xA,mL],by simp [eJ],by intro j hj;simp [hj,kX],by simp [b8,fF]⟩
   ·have hk:w.k=true:=by simpa using h
    rw [YS,if_pos hk]at xA
    subst xA
    refine W.skip ?_
    exact⟨_,aB _ [0,2,3,5,11,12,13],_,_,_,rfl,by simp [bS],by simp [mL],by simp [eJ],by intro j hj;simp [hj,kX],by simp [b8]⟩
  clear bS eJ kX b8 rows clk
  rintro _ ⟨v5,rows,clk,rfl,bS,eB,eJ,kX,b8⟩
  rw [mL]at eB
  refine W.cA (fun K hK=>?_);simp (disch:=omega) [gw,eB,bS,hlen];refine W.lw [0,2,3,11,12,13] hK ?_;clear hK K;simp
  refine W.cA (fun K hK=>?_);simp (disch:=omega) [gw]
  refine hK _ ⟨k-1,_,aB _ [0,2,3,11,12,13],by omega,i+1,_,_,_,_,rfl,by omega,by rw [hT',i9];simp [bS,emap,hlen,mL],by simp [eJ],by intro j hj;simp [hj,kX],by simp [b8]⟩
 ·have hi:i=L.length:=by simp at h;omega
  subst hi
  have hT:(L.map (YS R)).take L.length=L.map (YS R):=List.take_of_length_le (by simp)
  rw [hT]at bS
  refine fH ?_
  refine W.freeze 2 (by simp [bS]) (fun K hK=>?_)
  simp [bS]
  refine hK _ ?_;clear hK K
  simp only [fZ]at eJ ⊢
  refine W.cA (fun K hK=>?_)
  simp (disch:=omega) [gw,eJ]
  refine hK _ ?_
  simp [go,eJ]
  rw [hT]
  exact⟨rfl,fun j hj=>by simp [hj,kX]⟩
theorem YU{α:Type}[Inhabited α]{l:List α}{i:Nat}(h:i<l.length):l.take (i+1)=l.take i ++ [nth l i]:=by
 rw [List.take_succ_eq_append_getElem h,cB h]
def YV(l:List WE):List A9:=(l.filter WE.o).map WE.f
theorem agQ(l:List WE):(YV l).length≤l.length:=by simp only [YV,List.length_map];exact List.length_filter_le _ _
theorem CY{b:Bool}{n r:A9}{z ok:Bool}{L M:List WE}{e:Int}(hl:M.length<1000000)
  (hk:fO env.P 120 [] 95 12 (co b n z L e) (co b n false M e) (.dU []))
  (hL:aF env.P 112 [aN b9 (YV M)] (.dU [.ag (b9 r), .bool ok])) :
  fO env.P 51 [] 95 12 (co b n z L e) (co b n false M e) (.dU [.ag (b9 r), .bool ok]):=by
 refine fD (E:=env) (fun _=>0) [] Tryz.func51 rfl (by kernel_rfl) (by kernel_rfl) (show 1≤30 by decide) (by intro q;simp) ?_
 intro id ver kP YT eJ
 have E7:=gG b n z L e
 have YW:=gG b n false M e
 simp only [fF r]at hL ⊢
 refine aA [0,2] ?_
 refine W.sr ?_
 simp (disch:=omega) [gw,eJ]
 refine iY hk rfl rfl E7 YW (by simp [eJ]) ?_
 simp (disch:=omega) [gw]
 refine bG [0,2] ?_
 refine aA [0,2,4] ?_
 refine W.nil 4 4 54 9 (by simp) (by decide) (fun K hK=>?_)
 refine W.lw [0,2,4] hK ?_;clear hK K;simp
 refine W.seq ?_
 refine W.fA (fun σ=>∃(v2 v4:Nat) (rows:Pm.Rows) (clk:Nat),σ=⟨fa [(2, .ptr 2 v2 0 0),(4, .own 4 v4 0 0),(12,aN MW M),(13, .int .i64 M.length),(14, .int .i64 0)],rows,clk⟩∧rows 4=some ⟨v4,54,9,[]⟩∧rows 2=some ⟨v2,54,9,[[.nil, .bool false, .nil, .bool false, .nil, .bool false, .nil, .bool false, .nil]]⟩∧rows (id+1000000)=some ⟨ver,95,12,[co b n false M e]⟩∧(∀j,j≠id→rows (j+1000000)=kP (j+1000000))) (fun K hK=>?_) ?_
 ·simp (disch:=omega) [gw,fZ]
  exact hK _ _ (aB _ [2,4,12,13,14]) ⟨_,_,_,_,rfl,by simp,by simp,by simp [fZ],by intro j hj;simp [hj]⟩
 clear eJ
 rintro _ ⟨v2,v4,rows,clk,rfl,dS,bS,eJ,kX⟩
 refine W.block ?_
 refine W.bE (fun k σ=>∃(i v2 v4:Nat) (rows:Pm.Rows) (clk:Nat),σ=⟨fa [(2, .ptr 2 v2 0 0),(4, .own 4 v4 0 (YV (M.take i)).length),(12,aN MW M),(13, .int .i64 M.length),(14, .int .i64 i)],rows,clk⟩∧i+k=M.length∧rows 4=some ⟨v4,54,9,emap b9 (YV (M.take i))⟩∧rows 2=some ⟨v2,54,9,[[.nil, .bool false, .nil, .bool false, .nil, .bool false, .nil, .bool false, .nil]]⟩∧rows (id+1000000)=some ⟨ver,95,12,[co b n false M e]⟩∧(∀j,j≠id→rows (j+1000000)=kP (j+1000000))) M.length ?_ ?_
 ·exact⟨_,aB _ [2,4,12,13,14],0,v2,v4,rows,clk,by simp [YV],by omega,by simp [dS,emap,YV],bS,eJ,kX⟩
 clear bS eJ kX dS rows clk v2 v4
 rintro k _ ⟨i,v2,v4,rows,clk,rfl,zT,dS,bS,eJ,kX⟩
 refine bV [2,4,12,13,14,15] ?_
 refine bJ ?_ ?_<;>intro h
 ·have hi:i<M.length:=by simp at h;omega
  have i9:YV (M.take (i+1))=YV (M.take i)++if (nth M i).o=true then [(nth M i).f]else []:=by
   rw [YU hi]
   simp only [YV,List.filter_append,List.map_append,List.filter_cons,List.filter_nil]
   split<;>rfl
  have hlen:(YV (M.take i)).length≤i:=Nat.le_trans (agQ _) (by simp;omega)
  generalize hT':YV (M.take (i+1))=T' at *
  generalize YV (M.take i)=T at *
  generalize hw:nth M i=w at *
  refine W.skip ?_
  refine W.eN (fun σ=>∃(v4:Nat) (rows:Pm.Rows) (clk:Nat),σ=⟨fa [(2, .ptr 2 v2 0 0),(4, .own 4 v4 0 T'.length),(12,aN MW M),(13, .int .i64 M.length),(14, .int .i64 i)],rows,clk⟩∧rows 4=some ⟨v4,54,9,emap b9 T'⟩∧rows 2=some ⟨v2,54,9,[[.nil, .bool false, .nil, .bool false, .nil, .bool false, .nil, .bool false, .nil]]⟩∧rows (id+1000000)=some ⟨ver,95,12,[co b n false M e]⟩∧(∀j,j≠id→rows (j+1000000)=kP (j+1000000))) ?_ ?_
  ·refine W.sr ?_
   simp (disch:=omega) [gw,hi,hw,mL]
   refine bG [2,4,6,12,13,14] ?_
   refine aA [2,4,6,12,13,14,19] ?_
   refine bJ ?_ ?_<;>intro h
   ·have ho:w.o=true:=by simpa using h
    rw [if_pos ho]at i9
    refine W.cA (fun K hK=>?_);simp (disch:=omega) [gw,dS]
    exact hK _ ⟨_,aB _ [2,4,12,13,14],_,_,_,by rw [show T'.length=T.length+1 by rw [i9];simp];rfl,by rw [i9];simp [emap,fF],by simp [bS],by simp [eJ],by intro j hj;simp [hj,kX]⟩
   ·have ho:w.o=false:=by simpa using h
    rw [if_neg (by simp [ho]),List.append_nil]at i9
    subst i9
    refine W.skip ?_
    exact⟨_,aB _ [2,4,12,13,14],_,_,_,rfl,by simp [dS],by simp [bS],by simp [eJ],by intro j hj;simp [hj,kX]⟩
  clear dS bS eJ kX rows clk v4
  rintro _ ⟨v4,rows,clk,rfl,dS,bS,eJ,kX⟩
  refine W.cA (fun K hK=>?_);simp (disch:=omega) [gw]
  refine hK _ ⟨k-1,_,aB _ [2,4,12,13,14],by omega,i+1,_,_,_,_,by rw [hT'];rfl,by omega,by rw [hT'];exact dS,bS,eJ,kX⟩
 ·have hi:i=M.length:=by simp at h;omega
  subst hi
  rw [List.take_length]at dS ⊢
  refine fH ?_
  refine W.freeze 4 (by simp [dS]) (fun K hK=>?_)
  simp [dS]
  refine hK _ ?_;clear hK K
  refine W.sr ?_
  simp (disch:=omega) [gw,bS]
  refine aC hL ?_
  simp (disch:=omega) [gw,bS]
  refine bG [2,3] ?_
  refine W.ret ?_
  simp [go,eJ]
  exact fun j hj=>by simp [hj,kX]
end Go.Proofs.YtiobceocpabjdaaGreat
