import Derived.Test.YtiobceocpabjdaaGreatEah
import Derived.Test.YtiobceocpabjdaaGreatEai
import Derived.Test.YtiobceocpabjdaaGreatEaj
set_option linter.unusedSimpArgs false
set_option linter.unusedVariables false
namespace Go.Proofs.YtiobceocpabjdaaGreat
open Go Pm
abbrev Y(x:Int):Prop:=sz 2 x<549755813888
theorem Y.z{x:Int}(h:Y x):Z x:=by simp only [Y,Z]at *;omega
theorem yP{x y:Int}(h:Y y)(sO:x.natAbs≤y.natAbs):Y x:=Nat.lt_of_le_of_lt (cB (by decide) sO) h
theorem yQ{x y:Int}:eD x y≤0↔x≤y:=by simp only [eD];split<;>(try split)<;>omega
@[simp] theorem aox{l:List Int}{x:Int}:[PV.int .i64 x]::emap aF l=emap aF (x::l):=by simp [emap]
@[simp] theorem afK{l:List Int}:(∀e∈emap aF l,∀p∈e,cW p=true)=True:=by simp [emap]
theorem W5{l:List Int}(h:cM 10000 l)(k:Nat)(hk:k≤l.length):V 10000 (l.drop k)≤V 10000 l:=by
 rw [jY l k hk]
 have h1:=bN (by decide) (h.take k)
 have h2:=bN (by decide) (h.drop k)
 have h3:1≤(10000:Int)^k:=Int.pow_pos (by decide)
 have h4:=Int.mul_le_mul_of_nonneg_right h3 h2
 omega
theorem K9(x y:Int)(hx:0≤x)(hy:0<y)(zx:Y x)(zy:Y y):aH env.P 209 [Dn x,Dn y] (.fG [Dn (x/y),Dn (x%y)]):=by
 have hal:(aU DD x.toNat).length<549755813888:=Nat.lt_of_le_of_lt (jZ hx) zx
 have la:=lE x.toNat
 have hVa:=vG hx
 refine cA [(0,Dn x),(1,Dn y)] Tryz.func209 ?_
 simp only [Dn]
 generalize ha:aU DD x.toNat=a at *
 refine aA [0,1] ?_
 refine aA [0,1,6] ?_
 refine aA [0,1,6,7] ?_
 refine W.KB 7 (Dn 0) (by simp) rfl (fun K hK=>?_)
 refine W.lw [0,1,6,7] hK ?_;clear hK K;simp
 refine aM [0,1,6,7,8] ?_
 refine W.block ?_
 refine W.a8 (fun k σ=>∃(r:Int) (z:List Int) (ver:Nat) (rows:Pm.Rows) (clk:Nat),σ=⟨fa [(0,aJ aF a),(1,Dn y),(6, .own 14 ver 0 a.length),(7,Dn r),(8, .int .i64 ((k:Int)-1))],rows,clk⟩ ∧
  rows 14=some ⟨ver,3,1,emap aF z⟩∧k≤a.length∧z.length=a.length∧cM 10000 z∧0≤r∧r<y∧V 10000 (a.drop k)=y*V 10000 (z.drop k)+r) a.length ?_ ?_
 ·exact⟨_,Gh.fr [(0,aJ aF a),(1,Dn y),(6, .own 14 0 0 a.length),(7,Dn 0),(8, .int .i64 ((a.length:Int)-1))] (by simp),0,List.replicate a.length 0,_,_,_,rfl,by simp,by omega,by simp,cM.rep (by decide) _,by omega,hy,by simp [V]⟩
 rintro k _ ⟨r,z,ver,rows,clk,rfl,hr,hk,hz,lz,I2,yN,hV⟩
 refine aM [0,1,6,7,8,19] ?_
 refine bP ?_ ?_<;>intro h
 ·simp at h
  obtain⟨j,rfl⟩:∃j,k=j+1:=⟨k-1,by omega⟩
  clear h
  have hxj:=la.nth (i:=j) (by omega)
  have hVz:=bN (by decide) (lz.drop (j+1))
  have hyV:=Int.mul_nonneg (Int.le_of_lt hy) hVz
  have hR:V 10000 (a.drop j)=y*(10000*V 10000 (z.drop (j+1)))+(nth a j+10000*r):=by
   rw [eX (l:=a) (i:=j) (by omega)];simp only [V];rw [hV];grind
  have hRx:nth a j+10000*r≤x:=by
   have h1:=W5 la j (by omega)
   have h2:0≤y*(10000*V 10000 (z.drop (j+1))):=Int.mul_nonneg (Int.le_of_lt hy) (by omega)
   omega
  have ND:(aU DD r.toNat).length<549755813888:=Nat.lt_of_le_of_lt (jZ I2) (yP zy (by omega))
  have pE:aJ aF (aI (nth a j::aU DD r.toNat))=Dn (nth a j+10000*r):=by
   rw [tQ (cM.cons.2 ⟨hxj,lE _⟩)]
   simp only [V,vG I2]
  refine iT ?_
  refine j4 ?_
  refine aD (oG (nth a j::aU DD r.toNat) (by simp;omega)) ?_
  rw [pE]
  have OJ:0≤nth a j+10000*r:=by omega
  have hR1:nth a j+10000*r<y*10000:=by omega
  have zR:Y (nth a j+10000*r):=yP zx (by omega)
  generalize nth a j+10000*r=R at *
  simp (disch:=omega) [gw]
  refine bO [0,1,6,7,8] ?_
  refine cC [0,1,6,7,8,9,10] ?_
  refine W.block ?_
  refine W.a8 (fun m σ=>∃(lo hi:Int),σ=⟨fa [(0,aJ aF a),(1,Dn y),(6, .own 14 ver 0 a.length),(7,Dn R),(8, .int .i64 (j:Int)),(9, .int .i64 lo),(10, .int .i64 hi)],rows,clk⟩ ∧
   m=(hi-lo).toNat∧0≤lo∧lo≤hi∧hi≤9999∧y*lo≤R∧R<y*(hi+1)) 9999 ?_ ?_
  ·exact⟨_,Gh.fr [(0,aJ aF a),(1,Dn y),(6, .own 14 ver 0 a.length),(7,Dn R),(8, .int .i64 (j:Int)),(9, .int .i64 0),(10, .int .i64 9999)] (by simp),0,9999,rfl,by decide,by omega,by omega,by omega,by omega,by omega⟩
  rintro m _ ⟨lo,hi,rfl,hm,F5,hlh,VG,h1,h2⟩
  refine aM [0,1,6,7,8,9,10,32] ?_
  refine bP ?_ ?_<;>intro h
  ·simp at h
   refine W.skip ?_
   refine W.block ?_
   refine aA [0,1,6,7,8,9,10,11] ?_
   have E4:lo<(lo+hi+1)/2:=by omega
   have hm2:(lo+hi+1)/2≤hi:=by omega
   generalize (lo+hi+1)/2=NJ at *
   have hp:0≤y*NJ:=Int.mul_nonneg (by omega) (by omega)
   have zp:Z (y*NJ):=by
    have h3:sz 2 NJ≤14:=cK (by decide) (by simp;omega)
    have h4:=cE (b:=2) (by decide) (Nat.le_refl (sz 2 y)) h3
    simp only [Z,Y]at *;omega
   have hma:=kY y NJ 0 (by omega) zy.z (by omega) (by omega) (by decide) (by decide)
   rw [Int.add_zero]at hma
   refine j4 ?_
   refine b8 hma ?_
   refine cI [0,1,6,7,8,9,10,11,43] (K6 (y*NJ) R hp OJ zp zR.z) ?_
   refine bP ?_ ?_<;>intro h
   ·have h:=yQ.1 (of_decide_eq_true h)
    refine W.b9 (fun K hK=>?_);simp (disch:=omega) [gw]
    exact hK _ ⟨(hi-NJ).toNat,_,aC _ [0,1,6,7,8,9,10],by omega,NJ,hi,rfl,rfl,by omega,by omega,by omega,h,h2⟩
   ·have h:=of_decide_eq_false h
    rw [yQ]at h
    refine W.b9 (fun K hK=>?_);simp (disch:=omega) [gw]
    refine hK _ ⟨(NJ-1-lo).toNat,_,aC _ [0,1,6,7,8,9,10],by omega,lo,NJ-1,rfl,rfl,by omega,by omega,by omega,h1,?_⟩
    rw [show NJ-1+1=NJ by omega];omega
  ·simp at h
   have aw1:lo=hi:=by omega
   subst aw1
   have hp:0≤y*lo:=Int.mul_nonneg (by omega) (by omega)
   have zp:Y (y*lo):=yP zR (by omega)
   have hma:=kY y lo 0 (by omega) zy.z (by omega) (by omega) (by decide) (by decide)
   rw [Int.add_zero]at hma
   refine eJ ?_
   refine W.sr ?_
   simp (disch:=omega) [gw,hr]
   refine bO [0,1,6,7,8,9] ?_
   refine W.b9 (fun K hK=>?_)
   simp (disch:=omega) [gw]
   refine b8 hma ?_
   refine b8 (B3 R (y*lo) hp h1 zR.z) ?_
   refine W.lw [0,1,6,7,8] hK ?_;clear hK K;simp
   refine W.b9 (fun K hK=>?_);simp (disch:=omega) [gw]
   refine hK _ ⟨j,_,aC _ [0,1,6,7,8],by omega,R-y*lo,z.set j lo,ver,_,_,rfl,by simp,by omega,by simpa using hz,lz.set (by omega),by omega,by rw [Int.mul_add]at h2;omega,?_⟩
   rw [hR,eX (l:=z.set j lo) (i:=j) (by simp;omega),eO (by omega),List.drop_set_of_lt (by omega)]
   simp only [V]
   grind
 ·simp at h
  have uR:k=0:=by omega
  subst uR
  simp only [List.drop_zero]at hV
  have ez:z.take a.length=z:=bJ hz
  have hzn:=bN (by decide) lz
  rw [hVa]at hV
  have e1:x/y=V 10000 z:=by
   rw [hV,Int.mul_add_ediv_left _ _ (by omega),Int.ediv_eq_zero_of_lt I2 yN];simp
  have e2:x%y=r:=by
   rw [hV,Int.mul_add_emod_self_left,Int.emod_eq_of_lt I2 yN]
  refine eJ ?_
  refine W.sr ?_
  simp (disch:=omega) [gw,hr,ez]
  refine aD (oG z (by omega)) ?_
  simp (disch:=omega) [gw]
  refine bO [4,5] ?_
  refine W.ret ?_
  have h4:=tQ lz
  simp only [Dn]at h4
  rw [e1,e2,←h4]
  simp [go]
theorem vI(a b:Int)(za:Y a)(zb:Y b):aH env.P 126 [RI a,RI b] (RI (Int.gcd a b)):=by
 refine cA [(0,RI a),(1,RI b)] Tryz.func126 ?_
 refine aA [2,3,4] ?_
 refine kB ?_
 refine bO [4,5,6] ?_
 refine W.seq ?_
 refine W.block ?_
 refine W.a8 (fun k σ=>∃(x:Nat) (rows:Pm.Rows) (clk:Nat),σ=⟨fa [(4, .ptr 4 2 0 0),(5,aJ aF (aU DD x)),(6,aJ aF (aU DD k))],rows,clk⟩∧rows 4=some ⟨2,29,2,[[.nil, .bool false]]⟩∧Nat.gcd x k=Int.gcd a b∧Y (x:Int)∧Y (k:Int)) b.natAbs ?_ ?_
 ·exact⟨_, .refl,a.natAbs,_,_,rfl,by simp,rfl,by simpa [Y,sz]using za,by simpa [Y,sz]using zb⟩
 rintro k _ ⟨x,rows,clk,rfl,gN,hg,zx,zk⟩
 have e0:(aU DD k).length=0↔k=0:=by rw [List.length_eq_zero_iff,eI NI]
 refine aM [4,5,6,15] ?_
 refine bP ?_ ?_<;>intro h
 ·have uR:k≠0:=by intro h0;have h1:=e0.2 h0;simp at h;omega
  have hdiv:=K9 (x:Int) (k:Int) (by omega) (by omega) zx zk
  have em:(((x:Int)%k).toNat)=x%k:=by rw [←Int.natCast_emod];exact Int.toNat_natCast _
  have ed:(((x:Int)/k).toNat)=x/k:=by rw [←Int.natCast_ediv];exact Int.toNat_natCast _
  simp only [Dn,em,ed,Int.toNat_natCast]at hdiv
  have dM:=Nat.mod_lt x (show k>0 by omega)
  have tF:Nat.gcd k (x%k)=Int.gcd a b:=by rw [←hg,Nat.gcd_comm x k,Nat.gcd_rec k x,Nat.gcd_comm]
  have zm:Y ((x%k:Nat):Int):=yP zk (by simp only [Int.natAbs_natCast];omega)
  refine W.skip ?_
  refine W.block ?_
  refine j4 ?_
  refine aD hdiv ?_
  generalize x%k=y at *
  simp (disch:=omega) [gw]
  refine bO [4,6,8] ?_
  refine W.b9 (fun K hK=>?_);simp (disch:=omega) [gw]
  exact hK _ ⟨y,_,aC _ [4,5,6],dM,k,_,_,rfl,by simp [gN],tF,zk,zm⟩
 ·have uR:k=0:=by rw [←e0];simp at h;simp [h]
  subst uR
  rw [Nat.gcd_zero_right]at hg
  subst hg
  refine eJ ?_
  refine W.sr ?_
  simp (disch:=omega) [gw,gN]
  refine bO [4] ?_
  exact cP
theorem PY(a b:Int):(if decide (a<0) != decide (b<0)then -((a.natAbs/b.natAbs:Nat):Int)else((a.natAbs/b.natAbs:Nat):Int))=a.tdiv b:=by
 have h:∀x y:Nat,((x/y:Nat):Int)=(x:Int).tdiv y:=fun x y=>by rw [Int.natCast_ediv,Int.tdiv_eq_ediv_of_nonneg (by omega)]
 rw [h]
 by_cases h1:a<0<;>by_cases h2:b<0
 ·simp only [h1,h2,show(a.natAbs:Int) = -a by omega,show(b.natAbs:Int) = -b by omega];simp
 ·simp only [h1,h2,show(a.natAbs:Int) = -a by omega,show(b.natAbs:Int)=b by omega];simp
 ·simp only [h1,h2,show(a.natAbs:Int)=a by omega,show(b.natAbs:Int) = -b by omega];simp
 ·simp only [h1,h2,show(a.natAbs:Int)=a by omega,show(b.natAbs:Int)=b by omega];simp
theorem rC(a b:Int)(hb:b≠0)(za:Y a)(zb:Y b):aH env.P 127 [RI a,RI b] (RI (a.tdiv b)):=by
 have hdiv:=K9 (a.natAbs:Int) (b.natAbs:Int) (by omega) (by omega) (by simpa [Y,sz]using za) (by simpa [Y,sz]using zb)
 have em:(((a.natAbs:Int)%b.natAbs).toNat)=a.natAbs%b.natAbs:=by rw [←Int.natCast_emod];exact Int.toNat_natCast _
 have ed:(((a.natAbs:Int)/b.natAbs).toNat)=a.natAbs/b.natAbs:=by rw [←Int.natCast_ediv];exact Int.toNat_natCast _
 have hs:=PY a b
 refine cA [(0,RI a),(1,RI b)] Tryz.func127 ?_
 refine aA [2,3,4] ?_
 simp only [Dn,em,ed,Int.toNat_natCast]at hdiv
 generalize a.natAbs/b.natAbs=q at *
 generalize a.natAbs%b.natAbs=r at *
 refine aY [2,3,4,5] hdiv ?_
 refine j4 ?_
 refine aD (mA q (decide (a<0) != decide (b<0))) ?_
 rw [hs]
 simp (disch:=omega) [gw]
 refine bO [4] ?_
 exact cP
def re(q:Rat):List PV:=[aJ aF (aU DD q.num.natAbs), .bool (decide (q.num<0)),aJ aF (aU DD q.den), .bool false]
@[simp] theorem aw2{q:Rat}:re q = [aJ aF (aU DD q.num.natAbs), .bool (decide (q.num<0)),aJ aF (aU DD q.den), .bool false]:=rfl
abbrev RR(q:Rat):PV:=.ag (re q)
def dJ(n d:Int):Rat:=if d=0 then n else Rat.divInt n d
theorem kR(n:Int):dJ n 1=n:=by
 rw [dJ,if_neg (by decide),Rat.divInt_eq_div]
 grind
structure ZR(k:Nat)(q:Rat):Prop where
 n:sz 2 q.num≤k
 d:sz 2 (q.den:Int)≤k
abbrev YY:Nat:=137438953472
theorem pG(n d:Int)(hd:d≠0):(dJ n d).num=(if d<0 then -n else n)/(Int.gcd (if d<0 then -n else n) (if d<0 then -d else d)):=by
 rw [dJ,if_neg hd,Rat.num_divInt]
 by_cases h:d<0
 ·simp only [h,if_true]
  rw [Int.sign_eq_neg_one_of_neg h,Int.gcd_comm d n,Int.neg_gcd,Int.gcd_neg];simp
 ·simp only [h,if_false]
  rw [Int.sign_eq_one_of_pos (by omega),Int.gcd_comm d n];simp
theorem pH(n d:Int)(hd:d≠0):((dJ n d).den:Int)=(if d<0 then -d else d)/(Int.gcd (if d<0 then -n else n) (if d<0 then -d else d)):=by
 rw [dJ,if_neg hd,Rat.den_divInt,if_neg hd]
 by_cases h:d<0
 ·simp only [h,if_true]
  rw [Int.gcd_comm d n,Int.neg_gcd,Int.gcd_neg]
  rw [Int.natCast_ediv];congr 1;omega
 ·simp only [h,if_false]
  rw [Int.gcd_comm d n,Int.natCast_ediv];congr 1;omega
theorem B5{q:Rat}{n d:Int}(h1:q.num=n)(h2:(q.den:Int)=d):RR q = .ag [aJ aF (aU DD n.natAbs), .bool (decide (n<0)),aJ aF (aU DD d.natAbs), .bool (decide (d<0))]:=by
 subst h1;subst h2
 have:¬((q.den:Int)<0):=by omega
 simp [this]
theorem j0(n d:Int)(zn:Y n)(zd:Y d):aH env.P 60 [RI n,RI d] (RR (dJ n d)):=by
 refine cY (E:=env) (fun id=>if id=4 then 2 else 0) [(0,RI n),(1,RI d)] Tryz.func60 rfl (by kernel_rfl) (by kernel_rfl) (show 2≤39 by decide) (by simp) ?_
 refine aA [2,3,4] ?_
 refine W.gD (fun σ=>∃(d1:Int) (rows:Pm.Rows) (clk:Nat),σ=⟨fa [(2, .ptr 2 0 0 0),(3, .ptr 3 1 0 0),(4, .ptr 4 2 0 0)],rows,clk⟩∧rows 2=some ⟨0,29,2,[[aJ aF (aU DD n.natAbs), .bool (decide (n<0))]]⟩ ∧
  rows 3=some ⟨1,29,2,[[aJ aF (aU DD d1.natAbs), .bool (decide (d1<0))]]⟩∧rows 4=some ⟨2,31,4,[[.nil, .bool false, .nil, .bool false]]⟩∧d1≠0∧dJ n d=dJ n d1∧Y d1) ?_ ?_
 ·
  refine aY [2,3,4,7] (xC d) ?_
  refine bP ?_ ?_<;>intro h
  ·have h:=of_decide_eq_true h
   subst h
   refine W.b9 (fun K hK=>?_)
   simp (disch:=omega) [gw]
   refine aD (iF 1 (by decide) (by decide)) ?_
   simp (disch:=omega) [gw]
   refine hK _ ⟨_,aC _ [2,3,4],1,_,_,rfl,by simp,by simp,by simp,by decide,by rw [kR];simp [dJ],?_⟩
   have:sz 2 1≤1:=cK (by decide) (by decide)
   simp only [Y];omega
  ·have h:=of_decide_eq_false h
   refine W.skip ?_
   exact⟨_,aC _ [2,3,4],d,_,_,rfl,by simp,by simp,by simp,h,rfl,zd⟩
 rintro _ ⟨d1,rows,clk,rfl,cR,fU,gN,HE,hq,zd1⟩
 rw [hq]
 have q1:=pG n d1 HE
 have q2:=pH n d1 HE
 generalize dJ n d1=q at *
 clear hq zd d
 refine W.gD (fun σ=>∃(n2 d2:Int) (rows:Pm.Rows) (clk:Nat),σ=⟨fa [(2, .ptr 2 0 0 0),(3, .ptr 3 1 0 0),(4, .ptr 4 2 0 0)],rows,clk⟩∧rows 2=some ⟨0,29,2,[[aJ aF (aU DD n2.natAbs), .bool (decide (n2<0))]]⟩ ∧
  rows 3=some ⟨1,29,2,[[aJ aF (aU DD d2.natAbs), .bool (decide (d2<0))]]⟩∧rows 4=some ⟨2,31,4,[[.nil, .bool false, .nil, .bool false]]⟩∧0<d2∧q.num=n2/Int.gcd n2 d2∧(q.den:Int)=d2/Int.gcd n2 d2∧Y n2∧Y d2) ?_ ?_
 ·
  refine W.sr ?_
  simp (disch:=omega) [gw,fU]
  refine bO [2,3,4,10] ?_
  refine bP ?_ ?_<;>intro h
  ·have h:=of_decide_eq_true h
   simp only [h,if_true]at q1 q2
   have hn:=rB n
   have hd:=rB d1
   have zn2:Y (-n):=by simpa [Y,o6]using zn
   have zd2:Y (-d1):=by simpa [Y,o6]using zd1
   obtain⟨n2,hn2⟩:∃m,m = -n:=⟨_,rfl⟩
   obtain⟨d2,I3⟩:∃m,m = -d1:=⟨_,rfl⟩
   rw [←hn2]at hn zn2 q1 q2
   rw [←I3]at hd zd2 q1 q2
   refine W.BI (fun K hK=>?_)
   rw [if_pos rfl,fE]
   simp (disch:=omega) [gw,cR]
   refine aD hn ?_
   simp (disch:=omega) [gw,cR,fU]
   refine aD hd ?_
   simp (disch:=omega) [gw,cR,fU]
   exact hK _ ⟨_,aC _ [2,3,4],n2,d2,_,_,rfl,by simp,by simp,by simp [gN],by omega,q1,q2,zn2,zd2⟩
  ·have h:=of_decide_eq_false h
   simp only [h,if_false]at q1 q2
   refine W.skip ?_
   exact⟨_,aC _ [2,3,4],n,d1,_,_,rfl,cR,fU,gN,by omega,q1,q2,zn,zd1⟩
 clear cR fU gN q1 q2
 rintro _ ⟨n2,d2,rows,clk,rfl,cR,fU,gN,h0,q1,q2,zn2,zd2⟩
 refine W.seq ?_
 refine W.gK (fun σ=>∃(b:Bool),σ=⟨fa [(2, .ptr 2 0 0 0),(3, .ptr 3 1 0 0),(4, .ptr 4 2 0 0),(25, .bool b)],rows,clk⟩∧(b=true↔(aU DD d2.natAbs).length=1∧nth (aU DD d2.natAbs) 0=1)) (fun K hK=>?_) ?_
 ·by_cases h1:(aU DD d2.natAbs).length=1
  ·have h2:((aU DD d2.natAbs).length:Int)=1:=by omega
   simp (disch:=omega) [gw,fU,h1,h2]
   exact hK _ _ (aC _ [2,3,4,25]) ⟨_,rfl,by simp [h1]⟩
  ·have h2:¬((aU DD d2.natAbs).length:Int)=1:=by omega
   have h3:(((aU DD d2.natAbs).length:Int)==1)=false:=by simpa using h2
   simp (disch:=omega) [gw,fU,h3]
   exact hK _ _ (aC _ [2,3,4,25]) ⟨_,rfl,by simp [h1,h2]⟩
 rintro _ ⟨b,rfl,hb⟩
 refine bP ?_ ?_<;>intro h
 ·have hb:=hb.1 h
  have I3:d2=1:=by
   have hv:=arU d2
   obtain⟨h1,h2⟩:=hb
   match hl:aU DD d2.natAbs,h1 with
   | [x],_ =>
    rw [hl]at h2 hv
    simp [nth,V]at h2 hv
    omega
  subst I3
  rw [Int.gcd_one]at q1 q2
  rw [B5 (n:=n2) (d:=1) (by simpa using q1) (by simpa using q2)]
  refine W.sr ?_
  simp (disch:=omega) [gw,cR,fU,gN]
  refine bO [4] ?_
  exact cP
 ·refine W.skip ?_
  have hgp:0<Int.gcd n2 d2:=Int.gcd_pos_of_ne_zero_right _ (by omega)
  have e1:n2.tdiv (Int.gcd n2 d2)=q.num:=by rw [q1];exact Int.tdiv_eq_ediv_of_dvd (Int.gcd_dvd_left ..)
  have e2:d2.tdiv (Int.gcd n2 d2)=q.den:=by rw [q2];exact Int.tdiv_eq_ediv_of_dvd (Int.gcd_dvd_right ..)
  have zg:Y (Int.gcd n2 d2:Int):=yP zd2 (by
   have:=Int.le_of_dvd h0 (Int.gcd_dvd_right n2 d2);omega)
  have hq1:=rC n2 (Int.gcd n2 d2) (by omega) zn2 zg
  have hq2:=rC d2 (Int.gcd n2 d2) (by omega) zd2 zg
  rw [e1]at hq1
  rw [e2]at hq2
  have hg:=vI n2 d2 zn2 zd2
  obtain⟨g,YW⟩:∃g:Int,g=Int.gcd n2 d2:=⟨_,rfl⟩
  rw [←YW]at hg hq1 hq2
  have S2:¬((q.den:Int)<0):=by omega
  refine W.sr ?_
  simp (disch:=omega) [gw,cR,fU]
  refine aD hg ?_
  simp (disch:=omega) [gw,cR,fU]
  refine bO [2,3,4,5] ?_
  refine W.sd ?_
  simp (disch:=omega) [gw,cR,fU]
  refine aD hq1 ?_
  simp (disch:=omega) [gw,cR,fU]
  refine aD hq2 ?_
  simp (disch:=omega) [gw,cR,fU,gN]
  refine bO [4] ?_
  refine W.ret ?_
  simp [go,S2]
theorem pI(n d:Int)(h1 : -9223372036854775808≤n∧n<9223372036854775808)(h2 : -9223372036854775808≤d∧d<9223372036854775808):aH env.P 12 [.int .i64 n, .int .i64 d] (RR (dJ n d)):=by
 have z:∀x:Int, -9223372036854775808≤x∧x<9223372036854775808→Y x:=fun x hx=>by
  have:sz 2 x≤64:=cK (by decide) (by omega)
  simp only [Y];omega
 have hm:=j0 n d (z n h1) (z d h2)
 generalize dJ n d=q at *
 refine cA [(0, .int .i64 n),(1, .int .i64 d)] Tryz.func12 ?_
 refine aA [0,1,4] ?_
 refine j4 ?_
 refine b8 (iF n h1.1 h1.2) ?_
 refine b8 (iF d h2.1 h2.2) ?_
 refine cI [4] hm ?_
 exact cP
theorem B6(q:Rat):aH env.P 108 [RR q] (RR (-q)):=by
 have hn:=rB q.num
 have e:RR (-q) = .ag [aJ aF (aU DD (-q.num).natAbs), .bool (decide (-q.num<0)),aJ aF (aU DD q.den), .bool false]:=rfl
 rw [e]
 generalize -q.num=m at *
 refine cA [(0,RR q)] Tryz.func108 ?_
 refine aA [1,2] ?_
 refine kB ?_
 refine cI [2] hn ?_
 exact cP
theorem afL(p q:Rat):dJ (p.num*q.den+q.num*p.den) ((p.den:Int)*q.den)=p+q:=by
 have h:((p.den:Int)*q.den)≠0:=by have:=p.den_nz;have:=q.den_nz;simp [Int.mul_eq_zero];omega
 rw [dJ,if_neg h,Rat.add_def',←Int.natCast_mul,Rat.divInt_ofNat]
theorem afM(p q:Rat):dJ (p.num*q.num) ((p.den:Int)*q.den)=p*q:=by
 have h:((p.den:Int)*q.den)≠0:=by have:=p.den_nz;have:=q.den_nz;simp [Int.mul_eq_zero];omega
 rw [dJ,if_neg h,Rat.mul_def',←Int.natCast_mul,Rat.divInt_ofNat]
theorem afN(p q:Rat)(hq:q≠0):dJ (p.num*q.den) ((p.den:Int)*q.num)=p/q:=by
 have hn:q.num≠0:=fun h=>hq (Rat.num_eq_zero.1 h)
 have h:((p.den:Int)*q.num)≠0:=by have:=p.den_nz;exact Int.mul_ne_zero (by omega) hn
 rw [dJ,if_neg h,Rat.div_def,Rat.inv_def,←Rat.divInt_mul_divInt,Rat.num_divInt_den]
theorem vJ(p q:Rat)(hp:ZR YY p)(hq:ZR YY q):aH env.P 225 [RR p,RR q] (RR (p+q)):=by
 have s1:=cE (b:=2) (by decide) hp.n hq.d
 have s2:=cE (b:=2) (by decide) hq.n hp.d
 have s3:=cE (b:=2) (by decide) hp.d hq.d
 have s4:=o0 (b:=2) (by decide) s1 s2
 have zz:∀ {x:Int},sz 2 x≤YY→Z x:=fun h=>by simp only [Z,YY]at *;omega
 have m1:=eE p.num q.den (zz hp.n) (zz hq.d)
 have m2:=eE q.num p.den (zz hq.n) (zz hp.d)
 have m3:=eE p.den q.den (zz hp.d) (zz hq.d)
 have m4:=B4 (p.num*q.den) (q.num*p.den) (by simp only [Z,YY]at *;omega) (by simp only [Z,YY]at *;omega)
 have m5:=j0 (p.num*q.den+q.num*p.den) ((p.den:Int)*q.den) (by simp only [Y,YY]at *;omega) (by simp only [Y,YY]at *;omega)
 rw [afL]at m5
 generalize p.num*q.den+q.num*p.den=x5 at *
 generalize p.num*q.den=x1 at *
 generalize q.num*(p.den:Int)=x2 at *
 generalize (p.den:Int)*q.den=x3 at *
 generalize hr:p+q=r at *
 have d1:RR p = .ag [aJ aF (aU DD p.num.natAbs), .bool (decide (p.num<0)),aJ aF (aU DD (p.den:Int).natAbs), .bool (decide ((p.den:Int)<0))]:=B5 rfl rfl
 have d2:RR q = .ag [aJ aF (aU DD q.num.natAbs), .bool (decide (q.num<0)),aJ aF (aU DD (q.den:Int).natAbs), .bool (decide ((q.den:Int)<0))]:=B5 rfl rfl
 rw [d1,d2]
 generalize (p.den:Int)=pd at *
 generalize (q.den:Int)=qd at *
 generalize p.num=pn at *
 generalize q.num=qn at *
 refine cA [(0, .ag [aJ aF (aU DD pn.natAbs), .bool (decide (pn<0)),aJ aF (aU DD pd.natAbs), .bool (decide (pd<0))]),(1, .ag [aJ aF (aU DD qn.natAbs), .bool (decide (qn<0)),aJ aF (aU DD qd.natAbs), .bool (decide (qd<0))])] Tryz.func225 ?_
 refine aA [2,3,4] ?_
 refine kB ?_
 refine b8 m1 ?_
 refine b8 m2 ?_
 refine b8 m4 ?_
 refine b8 m3 ?_
 refine cI [4] m5 ?_
 exact cP
theorem B7(p q:Rat)(hp:ZR YY p)(hq:ZR YY q):aH env.P 226 [RR p,RR q] (RR (p*q)):=by
 have s1:=cE (b:=2) (by decide) hp.n hq.n
 have s2:=cE (b:=2) (by decide) hp.d hq.d
 have zz:∀ {x:Int},sz 2 x≤YY→Z x:=fun h=>by simp only [Z,YY]at *;omega
 have m1:=eE p.num q.num (zz hp.n) (zz hq.n)
 have m2:=eE p.den q.den (zz hp.d) (zz hq.d)
 have m5:=j0 (p.num*q.num) ((p.den:Int)*q.den) (by simp only [Y,YY]at *;omega) (by simp only [Y,YY]at *;omega)
 rw [afM]at m5
 generalize p.num*(q.num:Int)=x1 at *
 generalize (p.den:Int)*q.den=x2 at *
 generalize hr:p*q=r at *
 have d1:RR p = .ag [aJ aF (aU DD p.num.natAbs), .bool (decide (p.num<0)),aJ aF (aU DD (p.den:Int).natAbs), .bool (decide ((p.den:Int)<0))]:=B5 rfl rfl
 have d2:RR q = .ag [aJ aF (aU DD q.num.natAbs), .bool (decide (q.num<0)),aJ aF (aU DD (q.den:Int).natAbs), .bool (decide ((q.den:Int)<0))]:=B5 rfl rfl
 rw [d1,d2]
 generalize (p.den:Int)=pd at *
 generalize (q.den:Int)=qd at *
 generalize p.num=pn at *
 generalize q.num=qn at *
 refine cA [(0, .ag [aJ aF (aU DD pn.natAbs), .bool (decide (pn<0)),aJ aF (aU DD pd.natAbs), .bool (decide (pd<0))]),(1, .ag [aJ aF (aU DD qn.natAbs), .bool (decide (qn<0)),aJ aF (aU DD qd.natAbs), .bool (decide (qd<0))])] Tryz.func226 ?_
 refine aA [2,3,4] ?_
 refine kB ?_
 refine b8 m1 ?_
 refine b8 m2 ?_
 refine cI [4] m5 ?_
 exact cP
theorem B8(p q:Rat)(hp:ZR YY p)(hq:ZR YY q)(h0:q≠0):aH env.P 230 [RR p,RR q] (RR (p/q)):=by
 have s1:=cE (b:=2) (by decide) hp.n hq.d
 have s2:=cE (b:=2) (by decide) hp.d hq.n
 have zz:∀ {x:Int},sz 2 x≤YY→Z x:=fun h=>by simp only [Z,YY]at *;omega
 have m1:=eE p.num q.den (zz hp.n) (zz hq.d)
 have m2:=eE p.den q.num (zz hp.d) (zz hq.n)
 have m5:=j0 (p.num*q.den) ((p.den:Int)*q.num) (by simp only [Y,YY]at *;omega) (by simp only [Y,YY]at *;omega)
 rw [afN p q h0]at m5
 generalize p.num*(q.den:Int)=x1 at *
 generalize (p.den:Int)*q.num=x2 at *
 generalize hr:p/q=r at *
 have d1:RR p = .ag [aJ aF (aU DD p.num.natAbs), .bool (decide (p.num<0)),aJ aF (aU DD (p.den:Int).natAbs), .bool (decide ((p.den:Int)<0))]:=B5 rfl rfl
 have d2:RR q = .ag [aJ aF (aU DD q.num.natAbs), .bool (decide (q.num<0)),aJ aF (aU DD (q.den:Int).natAbs), .bool (decide ((q.den:Int)<0))]:=B5 rfl rfl
 rw [d1,d2]
 generalize (p.den:Int)=pd at *
 generalize (q.den:Int)=qd at *
 generalize p.num=pn at *
 generalize q.num=qn at *
 refine cA [(0, .ag [aJ aF (aU DD pn.natAbs), .bool (decide (pn<0)),aJ aF (aU DD pd.natAbs), .bool (decide (pd<0))]),(1, .ag [aJ aF (aU DD qn.natAbs), .bool (decide (qn<0)),aJ aF (aU DD qd.natAbs), .bool (decide (qd<0))])] Tryz.func230 ?_
 refine aA [2,3,4] ?_
 refine kB ?_
 refine b8 m1 ?_
 refine b8 m2 ?_
 refine cI [4] m5 ?_
 exact cP
theorem LA:aH env.P 224 [] (RR 0):=by
 have h:=pI 0 1 (by decide) (by decide)
 rw [kR]at h
 refine cA [] Tryz.func224 ?_
 refine aA [0] ?_
 refine aY [0] h ?_
 exact cP
def mM:List Rat→List Rat
 | []=>[]
 | x::l=>if mM l = []∧x=0 then []else x::mM l
theorem FA:∀l:List Rat,mM (l ++ [0])=mM l
 | []=>by simp [mM]
 | x::l=>by simp [mM,FA l]
theorem S7{x:Rat}(h:x≠0):∀l:List Rat,mM (l ++ [x])=l ++ [x]
 | []=>by
  show mM [x] = [x]
  rw [mM,if_neg (fun hh=>h hh.2)];rfl
 | y::l=>by
  have ih:=S7 h l
  have hn:¬(l ++ [x] = []∧y=0):=by simp
  show mM (y::(l ++ [x]))=y::(l ++ [x])
  rw [mM,ih,if_neg hn]
abbrev qs(x:List Int):List Rat:=x.map fun(c:Int)=>(c:Rat)
theorem vK:∀x:List Int,mM (qs x)=qs (aI x)
 | []=>rfl
 | a::x=>by
  have ih:=vK x
  simp only [qs,List.map_cons]at ih ⊢
  rw [mM,ih,aI]
  by_cases h:aI x = []∧a=0
  ·simp [h]
  ·rw [if_neg h,if_neg (by simpa using h)];simp
@[simp] theorem aoA{l:List Rat}:bM 4 (emap re l)=True:=cN fun _=>rfl
@[simp] theorem alL{v e n:Nat}{l:List Rat}:cX (some ⟨v,e,n,emap re l⟩)=True:=b7 fun _=>rfl
abbrev PP(l:List Rat):PV:=aJ re l
theorem vL(l:List Rat)(hl:l.length<17592186044416):aH env.P 157 [PP l] (PP (mM l)):=by
 refine cA [(0,PP l)] Tryz.func157 ?_
 refine aA [0] ?_
 refine aA [0,3] ?_
 refine W.seq (W.block ?_)
 refine W.a8 (fun k σ=>∃(rows:Pm.Rows) (clk:Nat),σ=⟨fa [(0,PP l),(3, .int .i64 (k:Int))],rows,clk⟩∧k≤l.length∧mM l=mM (l.take k)) l.length ?_ ?_
 ·exact⟨_, .refl,_,_,rfl,by omega,by simp⟩
 rintro k _ ⟨rows,clk,rfl,hk,hc⟩
 refine W.seq ?_
 refine W.gK (fun σ=>∃(b:Bool),σ=⟨fa [(0,PP l),(3, .int .i64 (k:Int)),(16, .bool b)],rows,clk⟩∧(b=true↔0<k∧nth l (k-1)=0)) (fun K hK=>?_) ?_
 ·simp
  by_cases h0:0<k
  ·simp (disch:=omega) [gw,h0]
   refine aD (xC (nth l (k-1)).num) ?_
   simp (disch:=omega) [gw,h0]
   refine hK _ _ (aC _ [0,3,16]) ⟨_,rfl,?_⟩
   simp [h0,Rat.num_eq_zero]
  ·simp (disch:=omega) [gw,h0]
   exact hK _ _ (aC _ [0,3,16]) ⟨_,rfl,by simp [h0]⟩
 rintro _ ⟨b,rfl,hb⟩
 refine bP ?_ ?_<;>intro h
 ·obtain⟨h0,h1⟩:=hb.1 h
  refine W.skip (W.block ?_)
  refine W.b9 (fun K hK=>?_)
  simp (disch:=omega) [gw]
  refine hK _ ⟨k-1,_,Gh.fr [(0,_),(3, .int .i64 ((k-1:Nat):Int))] (by simp;omega),by omega,_,_,rfl,by omega,?_⟩
  rw [hc,show k=(k-1)+1 by omega,aT (by omega),h1,FA]
  simp
 ·have h2:mM l=l.take k:=by
   rw [hc]
   by_cases h0:0<k
   ·have h1:nth l (k-1)≠0:=fun h1=>by simp [hb.2 ⟨h0,h1⟩]at h
    rw [show k=(k-1)+1 by omega,aT (by omega)]
    exact S7 h1 _
   ·have:k=0:=by omega
    subst this;simp [mM]
  refine eJ ?_
  refine aA [2] ?_
  refine W.ret ?_
  simp [h2]
def ri(x:Int):List PV:=[aJ aF (aU DD x.natAbs), .bool (decide (x<0)),aJ aF (aU DD 1), .bool false]
@[simp] theorem abI{x:Int}:ri x = [aJ aF (aU DD x.natAbs), .bool (decide (x<0)),aJ aF (aU DD 1), .bool false]:=rfl
theorem fN(x:Int):re (x:Rat)=ri x:=by
 simp only [re,ri,Rat.num_intCast,Rat.den_intCast]
 congr
theorem oI(x:List Int):PP (qs x)=aJ ri x:=by simp only [PP,aJ,emap,qs,List.map_map,Function.comp_def,fN]
abbrev PI(x:List Int):PV:=aJ ri x
@[simp] theorem aoB{l:List Int}:bM 4 (emap ri l)=True:=cN fun _=>rfl
@[simp] theorem alM{v e n:Nat}{l:List Int}:cX (some ⟨v,e,n,emap ri l⟩)=True:=b7 fun _=>rfl
@[simp] theorem aw3{l:List Int}{x:Int}:emap ri l ++ [[aJ aF (aU DD x.natAbs), .bool (decide (x<0)),aJ aF (aU DD 1), .bool false]]=emap ri (l ++ [x]):=by simp [emap]
@[simp] theorem aw4{l:List Rat}{q:Rat}:emap re l ++ [[aJ aF (aU DD q.num.natAbs), .bool (decide (q.num<0)),aJ aF (aU DD q.den), .bool false]]=emap re (l ++ [q]):=by simp [emap]
@[simp] theorem ar8{l:List Int}{i:Nat}{x:Int}:jF (emap ri l) i 0 [aJ aF (aU DD x.natAbs), .bool (decide (x<0)),aJ aF (aU DD 1), .bool false]=emap ri (l.set i x):=zZ (n:=4) (fun _=>rfl)
theorem oJ(l:List Int)(hl:l.length<17592186044416):aH env.P 157 [PI l] (PI (aI l)):=by
 have:=vL (qs l) (by simpa using hl)
 rwa [vK,oI,oI]at this
theorem xD(n:Int)(zn:Y n):aH env.P 60 [RI n,RI 1] (.ag (ri n)):=by
 have:=j0 n 1 zn (by have:sz 2 1≤1:=cK (by decide) (by decide);simp only [Y];omega)
 rwa [kR,RR,fN]at this
theorem oK:aH env.P 224 [] (.ag (ri 0)):=by
 have:=LA
 rwa [RR,show(0:Rat)=((0:Int):Rat)by simp,fN]at this
theorem LB(n:Int)(h1 : -9223372036854775808≤n∧n<9223372036854775808):aH env.P 12 [.int .i64 n, .int .i64 1] (.ag (ri n)):=by
 have:=pI n 1 h1 (by decide)
 rwa [kR,RR,fN]at this
theorem nQ{x:Int}{k:Nat}(h:sz 2 x≤k)(h1:1≤k):ZR k (x:Rat):=⟨by simpa using h,by simp;exact Nat.le_trans (cK (by decide) (by decide)) h1⟩
theorem W6(x y:Int)(hx:sz 2 x≤YY)(hy:sz 2 y≤YY):aH env.P 225 [.ag (ri x), .ag (ri y)] (.ag (ri (x+y))):=by
 have:=vJ x y (nQ hx (by decide)) (nQ hy (by decide))
 rwa [←Rat.intCast_add,RR,RR,RR,fN,fN,fN]at this
theorem FB(x y:Int)(hx:sz 2 x≤YY)(hy:sz 2 y≤YY):aH env.P 226 [.ag (ri x), .ag (ri y)] (.ag (ri (x*y))):=by
 have:=B7 x y (nQ hx (by decide)) (nQ hy (by decide))
 rwa [←Rat.intCast_mul,RR,RR,RR,fN,fN,fN]at this
structure FOK(p:RP):Prop where
 ok:∀c∈p,cM 4294967296 c.2∧c.2.length<4294967296
 len:p.length<1099511627776
theorem FC(p:RP)(h:FOK p):aH env.P 79 [Pg p] (PI (aI (p.map gv))):=by
 refine cA [(0,Pg p)] Tryz.func79 ?_
 have hl:=h.len
 refine aA [0] ?_
 refine aA [0,3] ?_
 refine W.nil 3 3 31 4 (by simp) (by decide) (fun K hK=>?_)
 refine W.lw [0,3] hK ?_;clear hK K;simp
 refine aM [0,3,6,7] ?_
 refine W.block ?_
 refine W.a8 (fun k σ=>∃(i ver:Nat) (rows:Pm.Rows) (clk:Nat),σ=⟨fa [(0,Pg p),(3, .own 3 ver 0 i),(6, .int .i64 p.length),(7, .int .i64 i)],rows,clk⟩∧rows 3=some ⟨ver,31,4,emap ri ((p.take i).map gv)⟩∧k=p.length-i∧i≤p.length) p.length ?_ ?_
 ·exact⟨_, .refl,0,_,_,_,rfl,by simp [emap],by omega,by omega⟩
 rintro k _ ⟨i,ver,rows,clk,rfl,hr,hk,hi⟩
 refine cC [0,3,6,7,8] ?_
 refine W.cond ⟨_,rfl,fun h0=>?_,fun h0=>?_⟩
 ·simp at h0
  obtain⟨uP,hc2⟩:=h.ok _ (bI h0)
  have fF:((p.take i).map gv).length=i:=by simp;omega
  have hz:Y (iv (nth p i).1 (nth p i).2):=by
   have h1:=KY uP
   have h2:sz 2 (iv (nth p i).1 (nth p i).2)=sz 2 (V 4294967296 (nth p i).2):=by unfold iv;split<;>simp [o6]
   simp only [Y];omega
  have hF:=E8 (nth p i).1 (nth p i).2 (by omega) uP
  have hM:=xD _ hz
  obtain⟨v,hv⟩:∃v,v=iv (nth p i).1 (nth p i).2:=⟨_,rfl⟩
  rw [←hv]at hF hM
  refine iT ?_
  refine aA [0,3,4,6,7] ?_
  refine W.b9 (fun K hK=>?_)
  simp (disch:=omega) [gw]
  refine b8 hF ?_
  refine aD (iF 1 (by decide) (by decide)) ?_
  simp (disch:=omega) [gw]
  refine aD hM ?_
  simp (disch:=omega) [gw,hr,fF]
  refine W.lw [0,3,6,7] hK ?_;clear hK K;simp
  refine W.b9 (fun K hK=>?_);simp (disch:=omega) [gw]
  refine hK _ ⟨p.length-(i+1),_,aC _ [0,3,6,7],by omega,i+1,_,_,_,rfl,?_,by omega,by omega⟩
  rw [iQ h0,show gv (nth p i)=v from hv.symm]
  simp
 ·simp at h0
  have mQ:i=p.length:=by omega
  subst mQ
  refine eJ ?_
  refine W.sr ?_
  have ez:(p.map gv).take p.length=p.map gv:=bJ (by simp)
  simp (disch:=omega) [gw,hr,ez]
  refine aD (oJ (p.map gv) (by simp;omega)) ?_
  simp (disch:=omega) [gw]
  refine bO [2] ?_
  exact cP
theorem HG(l:List Int)(hl:l.length<1099511627776)(hb:∀x∈l, -9223372036854775808≤x∧x<9223372036854775808):aH env.P 97 [aJ aF l] (PI (aI l)):=by
 refine cA [(0,aJ aF l)] Tryz.func97 ?_
 refine aA [0] ?_
 refine aA [0,3] ?_
 refine W.nil 3 3 31 4 (by simp) (by decide) (fun K hK=>?_)
 refine W.lw [0,3] hK ?_;clear hK K;simp
 refine aM [0,3,6,7] ?_
 refine W.block ?_
 refine W.a8 (fun k σ=>∃(i ver:Nat) (rows:Pm.Rows) (clk:Nat),σ=⟨fa [(0,aJ aF l),(3, .own 3 ver 0 i),(6, .int .i64 l.length),(7, .int .i64 i)],rows,clk⟩∧rows 3=some ⟨ver,31,4,emap ri (l.take i)⟩∧k=l.length-i∧i≤l.length) l.length ?_ ?_
 ·exact⟨_, .refl,0,_,_,_,rfl,by simp [emap],by omega,by omega⟩
 rintro k _ ⟨i,ver,rows,clk,rfl,hr,hk,hi⟩
 refine cC [0,3,6,7,8] ?_
 refine W.cond ⟨_,rfl,fun h0=>?_,fun h0=>?_⟩
 ·simp at h0
  have fF:(l.take i).length=i:=by simp;omega
  refine iT ?_
  refine aA [0,3,4,6,7] ?_
  refine W.b9 (fun K hK=>?_)
  simp (disch:=omega) [gw]
  refine aD (LB (nth l i) (hb _ (bI h0))) ?_
  simp (disch:=omega) [gw,hr,fF]
  refine W.lw [0,3,6,7] hK ?_;clear hK K;simp
  refine W.b9 (fun K hK=>?_);simp (disch:=omega) [gw]
  refine hK _ ⟨l.length-(i+1),_,aC _ [0,3,6,7],by omega,i+1,_,_,_,rfl,?_,by omega,by omega⟩
  rw [aT h0]
  simp
 ·simp at h0
  have mQ:i=l.length:=by omega
  subst mQ
  refine eJ ?_
  refine W.sr ?_
  simp (disch:=omega) [gw,hr]
  refine aD (oJ l (by omega)) ?_
  simp (disch:=omega) [gw]
  refine bO [2] ?_
  exact cP
theorem W7(x y:List Int)(hx:x.length<1099511627776)(hy:y.length<1099511627776)(zx:∀c∈x,Z c)(zy:∀c∈y,Z c):aH env.P 96 [PI x,Po y] (.bool (decide (x=y))):=by
 refine cA [(0,PI x),(1,Po y)] Tryz.func96 ?_
 refine aA [0,1] ?_
 refine aM [0,1,10] ?_
 refine bP ?_ ?_<;>intro h
 ·have pS:x≠y:=fun h1=>by simp [h1]at h
  refine aA [4] ?_
  refine W.ret ?_
  simp [go,pS]
 ·have hlen:x.length=y.length:=by simp at h;omega
  refine W.skip ?_
  refine aM [0,1,12,13] ?_
  refine W.block ?_
  refine W.a8 (fun k σ=>∃(i:Nat) (rows:Pm.Rows) (clk:Nat),σ=⟨fa [(0,PI x),(1,Po y),(12, .int .i64 x.length),(13, .int .i64 i)],rows,clk⟩∧k=x.length-i∧i≤x.length∧x.take i=y.take i) x.length ?_ ?_
  ·exact⟨_, .refl,0,_,_,rfl,by omega,by omega,by simp⟩
  rintro k _ ⟨i,rows,clk,rfl,hk,hi,hI⟩
  refine cC [0,1,12,13,14] ?_
  refine bP ?_ ?_<;>intro h
  ·simp at h
   refine iT ?_
   refine aA [0,1,5,12,13] ?_
   have NC:i<y.length:=by omega
   have hs:=W4 (nth x i) (decide (nth y i<0)) (aU LL (nth y i).natAbs) (zx _ (bI h)) (Nat.lt_of_le_of_lt (z5 eB _) (zy _ (bI NC)))
   have he:(decide (nth y i<0)=decide (nth x i<0)∧aU LL (nth y i).natAbs=aU LL (nth x i).natAbs)↔nth x i=nth y i:=by
    constructor
    ·rintro⟨h1,h2⟩
     have h3:=arV (nth x i).natAbs
     have h4:=arV (nth y i).natAbs
     rw [h2]at h4
     simp only [decide_eq_decide]at h1
     omega
    ·intro h1;rw [h1];exact⟨rfl,rfl⟩
   simp only [he]at hs
   refine W.aa4 (fun σ=>∃(b:Bool),σ=⟨fa [(0,PI x),(1,Po y),(12, .int .i64 x.length),(13, .int .i64 i),(36, .bool b)],rows,clk⟩∧(b=true↔nth x i≠nth y i)) (fun K hK=>?_) ?_
   ·by_cases sO:nth x i=nth y i
    ·rw [decide_eq_true sO]at hs
     simp (disch:=omega) [gw]
     refine b8 hs ?_
     refine aD (iF 1 (by decide) (by decide)) ?_
     simp (disch:=omega) [gw]
     refine aD (K8 1 1 (by simp only [Z];exact Nat.lt_of_le_of_lt (cK (k:=1) (by decide) (by decide)) (by decide)) (by simp only [Z];exact Nat.lt_of_le_of_lt (cK (k:=1) (by decide) (by decide)) (by decide))) ?_
     rw [u0]
     simp (disch:=omega) [gw]
     exact hK _ _ (aC _ [0,1,12,13,36]) ⟨_,rfl,by simp [sO]⟩
    ·rw [decide_eq_false sO]at hs
     simp (disch:=omega) [gw]
     refine b8 hs ?_
     exact hK _ _ (aC _ [0,1,12,13,36]) ⟨_,rfl,by simp [sO]⟩
   rintro _ ⟨b,rfl,hb⟩
   refine W.cond ⟨_,rfl,fun h2=>?_,fun h2=>?_⟩
   ·have pS:x≠y:=fun h1=>hb.1 h2 (by rw [h1])
    refine aA [4] ?_
    refine W.ret ?_
    simp [go,pS]
   ·have Y5:nth x i=nth y i:=Classical.byContradiction fun h3=>by simp [hb.2 h3]at h2
    refine W.skip ?_
    refine W.b9 (fun K hK=>?_);simp (disch:=omega) [gw]
    refine hK _ ⟨x.length-(i+1),_,aC _ [0,1,12,13],by omega,i+1,_,_,rfl,by omega,by omega,?_⟩
    rw [aT h,aT NC,hI,Y5]
  ·simp at h
   rw [List.take_of_length_le (by omega),List.take_of_length_le (by omega)]at hI
   refine eJ ?_
   refine aA [4] ?_
   refine W.ret ?_
   simp [go,hI]
structure PZ(l:List Rat):Prop where
 ok:∀q∈l,ZR YY q
 len:l.length<1099511627776
theorem afO(k:Nat)(hk:1≤k):ZR k 0:=⟨by show sz 2 0≤k;rw [iU];omega,by show sz 2 1≤k;exact Nat.le_trans (cK (by decide) (by decide)) hk⟩
theorem PZ.nth{l:List Rat}(h:PZ l)(i:Nat):ZR YY (nth l i):=by
 by_cases hi:i<l.length
 ·exact h.ok _ (bI hi)
 ·rw [gE (by omega)];exact afO _ (by decide)
theorem PZ.qs{x:List Int}(h:∀c∈x,sz 2 c≤YY)(hl:x.length<1099511627776):PZ (qs x):=⟨fun q hq=>by
 simp only [List.mem_map]at hq
 obtain⟨c,hc,rfl⟩:=hq
 exact nQ (h c hc) (by decide),by simpa using hl⟩
@[simp] theorem alN{l:List Rat}:(∀e∈emap re l,∀p∈e,cW p=true)=True:=by simp [emap]
theorem S8(l:List Rat)(i:Nat)(hi:i<9223372036854775808):aH env.P 277 [PP l, .int .i64 i] (RR (nth l i)):=by
 have hzero:=LA
 refine cA [(0,PP l),(1, .int .i64 i)] Tryz.func277 ?_
 refine cC [0,1,4] ?_
 refine W.gK (fun σ=>∃(b:Bool) (rows:Pm.Rows) (clk:Nat),σ=⟨fa [(0,PP l),(1, .int .i64 i),(4, .ptr 4 0 0 0),(12, .bool b)],rows,clk⟩∧(b=true↔l.length≤i)∧rows 4=some ⟨0,31,4,[[.nil, .bool false, .nil, .bool false]]⟩) (fun K hK=>?_) ?_
 ·have hn:¬((i:Int)<0):=by omega
  simp (disch:=omega) [gw,hn]
  exact hK _ _ (aC _ [0,1,4,12]) ⟨_,_,_,rfl,by simp,by simp⟩
 rintro _ ⟨b,rows,clk,rfl,hb,gN⟩
 refine bP ?_ ?_<;>intro h
 ·have hb:=hb.1 h
  have e:nth l i=0:=gE hb
  rw [e]
  generalize (0:Rat)=z at *
  refine j4 ?_
  refine aD hzero ?_
  simp (disch:=omega) [gw,gN]
  refine bO [4] ?_
  exact cP
 ·have hb:i<l.length:=Nat.lt_of_not_le fun h2=>by simp [hb.2 h2]at h
  refine W.skip ?_
  refine W.sr ?_
  simp (disch:=omega) [gw,gN]
  refine bO [4] ?_
  exact cP
def abJ(a b:List Rat):List Rat:=mM ((List.range (max a.length b.length)).map fun k=>nth a k+nth b k)
theorem abK(a b:List Rat)(ha:PZ a)(hb:PZ b):aH env.P 274 [PP a,PP b] (PP (abJ a b)):=by
 have hal:=ha.len;have hbl:=hb.len
 refine cA [(0,PP a),(1,PP b)] Tryz.func274 ?_
 obtain⟨M,hM⟩:∃M,M=max a.length b.length:=⟨_,rfl⟩
 refine aA [0,1] ?_
 refine aA [0,1,5] ?_
 refine W.nil 5 5 31 4 (by simp) (by decide) (fun K hK=>?_)
 refine W.lw [0,1,5] hK ?_;clear hK K;simp
 refine aM [0,1,5,6] ?_
 refine W.block ?_
 refine W.a8 (fun k σ=>∃(i ver:Nat) (rows:Pm.Rows) (clk:Nat),σ=⟨fa [(0,PP a),(1,PP b),(5, .own 5 ver 0 i),(6, .int .i64 i)],rows,clk⟩∧rows 5=some ⟨ver,31,4,emap re ((List.range i).map fun k=>nth a k+nth b k)⟩∧k=M-i∧i≤M) M ?_ ?_
 ·exact⟨_, .refl,0,_,_,_,rfl,by simp [emap],by omega,by omega⟩
 rintro k _ ⟨i,ver,rows,clk,rfl,hr,hk,hi⟩
 have em:(if a.length<b.length then(b.length:Int)else(a.length:Int))=M:=by split<;>omega
 have em2:(if b.length<a.length then(a.length:Int)else(b.length:Int))=M:=by split<;>omega
 refine W.seq ?_
 refine W.sr ?_
 simp (disch:=omega) [gw,em,em2]
 refine bO [0,1,5,6,13] ?_
 refine bP ?_ ?_<;>intro h
 ·have h:i<M:=by simp at h;omega
  refine iT ?_
  have h1:=S8 a i (by omega)
  have h2:=S8 b i (by omega)
  have h3:=vJ _ _ (ha.nth i) (hb.nth i)
  have er:(List.range (i+1)).map (fun k=>nth a k+nth b k)=(List.range i).map (fun k=>nth a k+nth b k) ++ [nth a i+nth b i]:=by rw [List.range_succ];simp
  have fF:((List.range i).map fun k=>nth a k+nth b k).length=i:=by simp
  generalize ((List.range i).map fun k=>nth a k+nth b k)=acc at *
  generalize nth a i+nth b i=q at *
  generalize nth a i=u at *
  generalize nth b i=v at *
  refine W.b9 (fun K hK=>?_)
  simp (disch:=omega) [gw]
  refine b8 h1 ?_
  refine b8 h2 ?_
  refine aD h3 ?_
  simp (disch:=omega) [gw,hr,fF]
  refine W.lw [0,1,5,6] hK ?_;clear hK K;simp
  refine W.b9 (fun K hK=>?_);simp (disch:=omega) [gw]
  refine hK _ ⟨M-(i+1),_,aC _ [0,1,5,6],by omega,i+1,_,_,_,rfl,by rw [er];simp,by omega,by omega⟩
 ·have h:i=M:=by simp at h;omega
  subst h
  refine eJ ?_
  have fF:((List.range i).map fun k=>nth a k+nth b k).length=i:=by simp
  rw [abJ,←hM]
  generalize ((List.range i).map fun k=>nth a k+nth b k)=acc at *
  have ez:=bJ fF
  refine W.sr ?_
  simp (disch:=omega) [gw,hr,ez]
  refine aD (vL acc (by omega)) ?_
  simp (disch:=omega) [gw]
  refine bO [4] ?_
  exact cP
def fR(a:List Rat)(c:Rat):List Rat:=mM (a.map fun x=>x*c)
theorem kK(a:List Rat)(c:Rat)(ha:PZ a)(hc:ZR YY c):aH env.P 201 [PP a,RR c] (PP (fR a c)):=by
 have hal:=ha.len
 refine cY (E:=env) (fun id=>if id=5 then 2 else 0) [(0,PP a),(1,RR c)] Tryz.func201 rfl (by kernel_rfl) (by kernel_rfl) (show 2≤24 by decide) (by simp) ?_
 refine aA [0,3] ?_
 refine aA [0,3,5] ?_
 refine W.nil 5 5 31 4 (by simp) (by decide) (fun K hK=>?_)
 refine W.lw [0,3,5] hK ?_;clear hK K;simp
 refine aM [0,3,5,8,9] ?_
 refine W.block ?_
 refine W.a8 (fun k σ=>∃(i ver:Nat) (rows:Pm.Rows) (clk:Nat),σ=⟨fa [(0,PP a),(3, .ptr 3 0 0 0),(5, .own 5 ver 0 i),(8, .int .i64 a.length),(9, .int .i64 i)],rows,clk⟩∧rows 5=some ⟨ver,31,4,emap re ((a.take i).map fun x=>x*c)⟩∧rows 3=some ⟨0,31,4,[re c]⟩∧k=a.length-i∧i≤a.length) a.length ?_ ?_
 ·exact⟨_, .refl,0,_,_,_,rfl,by simp [emap],by simp,by omega,by omega⟩
 rintro k _ ⟨i,ver,rows,clk,rfl,hr,fU,hk,hi⟩
 refine cC [0,3,5,8,9,10] ?_
 refine bP ?_ ?_<;>intro h
 ·simp at h
  refine iT ?_
  refine aA [0,3,5,6,8,9] ?_
  have h3:=B7 _ _ (ha.nth i) hc
  have er:=iQ (f:=fun x=>x*c) h
  have fF:((a.take i).map fun x=>x*c).length=i:=by simp;omega
  generalize (a.take i).map (fun x=>x*c)=acc at *
  generalize hq:nth a i*c=q at *
  refine W.BI (fun K hK=>?_)
  rw [if_pos rfl,fE]
  simp (disch:=omega) [gw,fU]
  refine aD h3 ?_
  simp (disch:=omega) [gw,hr,fU,fF]
  refine W.lw [0,3,5,8,9] hK ?_;clear hK K;simp
  refine W.b9 (fun K hK=>?_);simp (disch:=omega) [gw]
  refine hK _ ⟨a.length-(i+1),_,aC _ [0,3,5,8,9],by omega,i+1,_,_,_,rfl,by rw [er];simp,by simp [fU],by omega,by omega⟩
 ·simp at h
  have mQ:i=a.length:=by omega
  subst mQ
  refine eJ ?_
  rw [List.take_length]at hr
  rw [fR]
  have fF:(a.map fun x=>x*c).length=a.length:=by simp
  generalize a.map (fun x=>x*c)=acc at *
  have ez:=bJ fF
  refine W.sr ?_
  simp (disch:=omega) [gw,hr,ez]
  refine aD (vL acc (by omega)) ?_
  simp (disch:=omega) [gw]
  refine bO [4] ?_
  exact cP
theorem LC(a:List Rat)(ha:PZ a):aH env.P 161 [PP a] (PP (fR a (-1))):=by
 have h1:=pI (-1) 1 (by decide) (by decide)
 rw [kR,show(((-1:Int)):Rat) = -1 by simp]at h1
 have h2:=kK a (-1) ha ⟨by show sz 2 (-1)≤YY;exact Nat.le_trans (cK (k:=1) (by decide) (by decide)) (by decide),by show sz 2 1≤YY;exact Nat.le_trans (cK (k:=1) (by decide) (by decide)) (by decide)⟩
 generalize (-1:Rat)=c at *
 refine cA [(0,PP a)] Tryz.func161 ?_
 refine aA [0] ?_
 refine j4 ?_
 refine b8 h1 ?_
 refine cI [2] h2 ?_
 exact cP
theorem abL(x:List Int)(k:Nat):nth (qs x) k=((nth x k:Int):Rat):=rW (f:=fun(c:Int)=>(c:Rat)) rfl x k
theorem W8(x:List Int)(c:Int):fR (qs x) (c:Rat)=qs (aL x c):=by
 rw [fR,aL,←vK]
 congr 1
 simp [qs,Function.comp_def]
theorem P1(x:List Int):aL x (-1)=fW x:=by simp [aL,fW]
theorem FD(x:List Int)(hx:Bd 2 YY 1099511627775 x):aH env.P 161 [PI x] (PI (fW x)):=by
 have:=LC (qs x) (.qs hx.sz (by have:=hx.len;omega))
 rwa [show(-1:Rat)=((-1:Int):Rat)by simp,W8,P1,oI,oI]at this
theorem W9(x y:List Int)(s s' n n':Nat)(hs:Bd 2 s n x)(zU:Bd 2 s' n' y)(hB:s+s'+n+n'<YY):aH env.P 199 [PI x,PI y] (PI (bA x y)):=by
 have hlx:=hs.len;have hly:=zU.len
 have hB2:s+s'+n+n'<137438953472:=hB
 refine cY (E:=env) (fun id=>if id=15 then 1 else 0) [(0,PI x),(1,PI y)] Tryz.func199 rfl (by kernel_rfl) (by kernel_rfl) (show 2≤69 by decide) (by simp) ?_
 refine cC [0,1] ?_
 refine W.gK (fun σ=>∃(b:Bool),σ=⟨fa [(0,PI x),(1,PI y),(16, .bool b)],fun _=>none,0⟩∧(b=true↔x = []∨y = [])) (fun K hK=>?_) ?_
 ·simp
  have e1:((x.length:Int)==0)=decide (x = []):=by
   cases x<;>simp<;>omega
  have e2:((y.length:Int)==0)=decide (y = []):=by
   cases y<;>simp<;>omega
  rw [e1]
  by_cases h0:x = []
  ·have e3:decide (x = [])=true:=by simp [h0]
   rw [e3]
   simp
   exact hK _ _ (aC _ [0,1,16]) ⟨_,rfl,by simp [h0]⟩
  ·have e3:decide (x = [])=false:=by simp [h0]
   rw [e3]
   simp
   exact hK _ _ (aC _ [0,1,16]) ⟨_,rfl,by rw [e2];simp [h0]⟩
 rintro _ ⟨b,rfl,hb⟩
 refine bP ?_ ?_<;>intro h
 ·have e:bA x y = []:=by
   have h1:=hb.1 h
   refine Cn.ext (Cn.bA _ _) Cn.nil fun t=>?_
   rw [c7]
   rcases h1 with rfl | rfl<;>simp [V]
  refine aA [4] ?_
  refine W.ret ?_
  simp [go,e]
  rfl
 ·have h1:¬(x = []∨y = []):=fun h2=>by simp [hb.2 h2]at h
  have oF:0<x.length:=List.length_pos_iff.2 fun h2=>h1 (.inl h2)
  have PJ:0<y.length:=List.length_pos_iff.2 fun h2=>h1 (.inr h2)
  clear h hb h1
  have e0:((x.length:Int)+(y.length:Int)-1).toNat=x.length+y.length-1:=by omega
  have e9:((x.length+y.length-1:Nat):Int)=(x.length:Int)+(y.length:Int)-1:=by omega
  refine W.skip ?_
  refine W.sr ?_
  simp (disch:=omega) [gw,e0]
  refine bO [0,1,5] ?_
  refine aM [0,1,5,25,26] ?_
  refine W.block ?_
  refine W.a8 (fun k σ=>∃(i ver:Nat) (els:List (List PV)) (rows:Pm.Rows) (clk:Nat),σ=⟨fa [(0,PI x),(1,PI y),(5, .own 23 ver 0 (x.length+y.length-1)),(25, .int .i64 ((x.length+y.length-1:Nat):Int)),(26, .int .i64 i)],rows,clk⟩ ∧
   rows 23=some ⟨ver,31,4,els⟩∧els.length=x.length+y.length-1∧(∀e∈els,e.length=4)∧els.take i=emap ri (List.replicate i 0)∧k=x.length+y.length-1-i∧i≤x.length+y.length-1) (x.length+y.length-1) ?_ ?_
  ·exact⟨_,Gh.fr [(0,PI x),(1,PI y),(5, .own 23 0 0 (x.length+y.length-1)),(25, .int .i64 ((x.length+y.length-1:Nat):Int)),(26, .int .i64 (0:Nat))] (by simp),0,_,List.replicate (x.length+y.length-1) [.nil, .bool false, .nil, .bool false],_,_,rfl,by simp [e0],by simp,by simp,by simp [emap],by omega,by omega⟩
  rintro k _ ⟨i,ver,els,rows,clk,rfl,hr,oQ,LD,B9,hk,hi⟩
  have WL:bM 4 els=True:=by simp only [bM,eq_iff_iff,iff_true];exact LD
  refine cC [0,1,5,25,26,27] ?_
  refine bP ?_ ?_<;>intro h
  ·have h:i<x.length+y.length-1:=by simp at h;omega
   refine iT ?_
   refine aA [0,1,5,6,25,26] ?_
   refine W.b9 (fun K hK=>?_)
   simp (disch:=omega) [gw]
   refine aD oK ?_
   have wQ:i<els.length:=by omega
   have hE:uW els i 4=True:=by
    simp only [eq_iff_iff,iff_true]
    exact⟨els[i],List.getElem?_eq_getElem wQ,by rw [LD _ (List.getElem_mem wQ)];omega⟩
   have hS:jF els i 0 [aJ aF (aU DD 0), .bool false,aJ aF (aU DD 1), .bool false]=els.set i (ri 0):=by
    have h4:=LD _ (List.getElem_mem wQ)
    rw [jF,List.getElem?_eq_getElem wQ]
    simp [List.drop_of_length_le,h4]
   simp (disch:=omega) [gw,hr,hE,hS]
   refine W.lw [0,1,5,25,26] hK ?_;clear hK K;simp
   refine W.b9 (fun K hK=>?_);simp (disch:=omega) [gw]
   refine hK _ ⟨x.length+y.length-1-(i+1),_,aC _ [0,1,5,25,26],by omega,i+1,ver,els.set i (ri 0),_,_,rfl,by simp,by simpa using oQ,fun e he=>?_,?_,by omega,by omega⟩
   ·rcases List.mem_or_eq_of_mem_set he with h1 | h1
    ·exact LD e h1
    ·rw [h1];rfl
   ·rw [kX B9 (by omega),List.replicate_succ']
    simp [emap]
  ·have h:i=x.length+y.length-1:=by simp at h;omega
   subst h
   have oS:els=emap ri (List.replicate (x.length+y.length-1) 0):=by rw [←B9,bJ oQ]
   subst oS
   clear B9 LD oQ WL hk hi
   refine eJ ?_
   refine aM [0,1,5,35,36] ?_
   refine W.block ?_
   refine W.a8 (fun k σ=>∃(i:Nat) (z:List Int) (ver:Nat) (rows:Pm.Rows) (clk:Nat),σ=⟨fa [(0,PI x),(1,PI y),(5, .own 23 ver 0 (x.length+y.length-1)),(35, .int .i64 x.length),(36, .int .i64 i)],rows,clk⟩ ∧
    rows 23=some ⟨ver,31,4,emap ri z⟩∧k=x.length-i∧i≤x.length∧z.length=x.length+y.length-1∧(∀j,sz 2 (nth z j)≤s+s'+i) ∧
    ∀t,V t z=V t (x.take i)*V t y) x.length ?_ ?_
   ·refine⟨_, .refl,0,List.replicate (x.length+y.length-1) 0,_,_,_,rfl,hr,by omega,by omega,by simp,fun j=>?_,fun t=>by simp [V,pY]⟩
    have:Bd 2 0 (x.length+y.length-1) (List.replicate (x.length+y.length-1) 0):=⟨by simp,fun c hc=>by rw [(List.mem_replicate.1 hc).2,iU];omega⟩
    have:=this.nth j
    omega
   clear hr rows clk
   rintro k _ ⟨i,z,ver,rows,clk,rfl,hr,hk,hi,hz,DL,hV⟩
   refine cC [0,1,5,35,36,37] ?_
   refine bP ?_ ?_<;>intro h
   ·simp at h
    refine iT ?_
    refine aA [0,1,5,7,35,36] ?_
    refine aA [0,1,5,7,35,36,40,41] ?_
    refine W.block ?_
    refine W.a8 (fun m σ=>∃(k:Nat) (z:List Int) (ver:Nat) (rows:Pm.Rows) (clk:Nat),σ=⟨fa [(0,PI x),(1,PI y),(5, .own 23 ver 0 (x.length+y.length-1)),(7, .int .i64 i),(35, .int .i64 x.length),(36, .int .i64 i),(40, .int .i64 y.length),(41, .int .i64 k)],rows,clk⟩ ∧
     rows 23=some ⟨ver,31,4,emap ri z⟩∧m=y.length-k∧k≤y.length∧z.length=x.length+y.length-1∧(∀j,sz 2 (nth z j)≤s+s'+i+1)∧(∀j,i+k≤j→sz 2 (nth z j)≤s+s'+i) ∧
     ∀t,V t z=V t (x.take i)*V t y+t^i*nth x i*V t (y.take k)) y.length ?_ ?_
    ·refine⟨_, .refl,0,z,ver,_,_,rfl,by simpa using hr,by omega,by omega,hz,fun j=>by have:=DL j;omega,fun j _=>DL j,fun t=>by simp [V,hV]⟩
    clear hV DL hz hr z ver rows clk
    rintro m _ ⟨k,z,ver,rows,clk,rfl,hr,hm,hky,hz,DL,PK,hV⟩
    refine cC [0,1,5,7,35,36,40,41,42] ?_
    refine W.cond ⟨_,rfl,fun h2=>?_,fun h2=>?_⟩
    ·simp at h2
     refine iT ?_
     refine aA [0,1,5,7,8,35,36,40,41] ?_
     have e1:((i:Int)+(k:Int)).toNat=i+k:=by omega
     have E4:sz 2 (nth x i*nth y k)≤s+s'+i:=Nat.le_trans (cE (by decide) (hs.nth i) (zU.nth k)) (by omega)
     have hm2:=o0 (b:=2) (by decide) (PK (i+k) (Nat.le_refl _)) E4
     have hlz:i+k<z.length:=by omega
     have c1:=FB (nth x i) (nth y k) (Nat.le_trans (hs.nth i) (by show _≤137438953472;omega)) (Nat.le_trans (zU.nth k) (by show _≤137438953472;omega))
     have c2:=W6 (nth z (i+k)) (nth x i*nth y k) (Nat.le_trans (PK (i+k) (Nat.le_refl _)) (by show _≤137438953472;omega)) (Nat.le_trans E4 (by show _≤137438953472;omega))
     have PF:=fun t=>EZ (b:=t) (x:=nth z (i+k)+nth x i*nth y k) hlz
     generalize hu:nth z (i+k)+nth x i*nth y k=u at *
     generalize hpq:nth x i*nth y k=pq at *
     refine W.BI (fun K hK=>?_)
     rw [if_pos rfl,fE]
     simp (disch:=omega) [gw,hr,e1]
     refine aD c1 ?_
     simp (disch:=omega) [gw,hr,e1]
     refine aD c2 ?_
     simp (disch:=omega) [gw,hr,e1]
     refine W.lw [0,1,5,7,35,36,40,41] hK ?_;clear hK K;simp
     refine W.b9 (fun K hK=>?_);simp (disch:=omega) [gw]
     refine hK _ ⟨y.length-(k+1),_,aC _ [0,1,5,7,35,36,40,41],by omega,k+1,z.set (i+k) u,ver,_,_,rfl,by simp,by omega,by omega,by simpa using hz,fun j=>?_,fun j hj=>?_,fun t=>?_⟩
     ·by_cases hj:i+k=j
      ·subst hj;rw [eO hlz];exact hm2
      ·rw [gF hj];exact DL j
     ·rw [gF (by omega)];exact PK j (by omega)
     ·rw [PF,aV h2,hV,Int.pow_add,←hu,←hpq];clear hV PF;grind
    ·simp at h2
     have wM:k=y.length:=by omega
     subst wM
     refine eJ ?_
     refine W.b9 (fun K hK=>?_);simp (disch:=omega) [gw]
     refine hK _ ⟨x.length-(i+1),_,aC _ [0,1,5,35,36],by omega,i+1,z,ver,_,_,rfl,hr,by omega,by omega,hz,fun j=>by have:=DL j;omega,fun t=>?_⟩
     rw [hV,aZ (Nat.le_refl _),aV h];grind
   ·simp at h
    have mQ:i=x.length:=by omega
    subst mQ
    have tM:=bJ hz
    refine eJ ?_
    refine W.sr ?_
    simp (disch:=omega) [gw,hr,tM]
    refine aD (oJ z (by omega)) ?_
    simp (disch:=omega) [gw]
    refine bO [4] ?_
    refine W.ret ?_
    have e:aI z=bA x y:=by
     refine Cn.ext (Cn.cut _) (Cn.bA _ _) fun t=>?_
     rw [cV,hV,c7,aZ (Nat.le_refl _)]
    simp [go,e]
theorem mB(v n:Int)(hv : -9223372036854775808≤v∧v<9223372036854775808)(hn:0<n)(hn2:n<4611686018427387904):aH env.P 13 [.int .i64 v, .int .i64 n] (.int .i64 (v%n)):=by
 have ZQ:n≠0:=by omega
 have h12:(v.tmod n=v%n∨(v.tmod n<0∧v.tmod n+n=v%n)) ∧ -n<v.tmod n∧v.tmod n<n:=by
  have h2:=Int.emod_nonneg v ZQ
  have h3:=Int.emod_lt_of_pos v hn
  rcases(show v<0∨0≤v by omega)with h | h
  ·have h4:=Int.tmod_eq_emod (a:=v) (b:=n)
   have h5:(n.natAbs:Int)=n:=by omega
   split at h4
   ·simp at h4;omega
   ·rename_i h6
    rw [h5]at h4
    have h7:v%n≠0:=fun h8=>h6 (.inr (Int.dvd_of_emod_eq_zero h8))
    omega
  ·rw [Int.tmod_eq_emod_of_nonneg h];omega
 obtain⟨h1,h2⟩:=h12
 have h5:=Int.emod_nonneg v ZQ
 have h6:=Int.emod_lt_of_pos v hn
 have S2:¬n<1:=by omega
 refine cA [(0, .int .i64 v),(1, .int .i64 n)] Tryz.func13 ?_
 refine aA [0,1] ?_
 refine aM [0,1,7] ?_
 refine bP ?_ ?_<;>intro h
 ·exfalso;simp at h;omega
 ·refine W.skip ?_
  generalize hm:v.tmod n=m at *
  generalize v%n=r at *
  refine W.sr ?_
  simp (disch:=omega) [gA,ZQ,hm]
  refine bO [1,5] ?_
  refine W.gD (fun σ=>∃(rows:Pm.Rows) (clk:Nat),σ=⟨fa [(5, .int .i64 r)],rows,clk⟩) ?_ ?_
  ·
   refine aA [1,5,12] ?_
   refine bP ?_ ?_<;>intro h
   ·simp at h
    refine W.b9 (fun K hK=>?_);simp (disch:=omega) [gw]
    exact hK _ ⟨_,Gh.fr [(5, .int .i64 r)] (by simp;omega),_,_,rfl⟩
   ·simp at h
    refine W.skip ?_
    exact⟨_,Gh.fr [(5, .int .i64 r)] (by simp;omega),_,_,rfl⟩
  rintro _ ⟨rows,clk,rfl⟩
  refine aA [4] ?_
  exact cP
structure PB(x:List Int):Prop where
 sz:∀c∈x,Sz c
 len:x.length<1099511627775
theorem PB.r8{x:List Int}(h:PB x):mL (x.map iM):=mL.G8 h.sz (by have:=h.len;omega)
theorem PB.of{s n:Nat}{x:List Int}(h:Bd LL s n x)(hs:s<1099511627775)(hn:n<1099511627775):PB x:=⟨fun c hc=>Nat.lt_of_le_of_lt (h.sz c hc) (by omega),Nat.lt_of_le_of_lt h.len hn⟩
theorem xE{x y:List Int}(hx:PB x)(hy:PB y):aH env.P 182 [Po x,Po y] (Po (eV x y)):=by
 have:=abo _ _ hx.r8 hy.r8
 rwa [bK,bK,←eT,←eT]at this
theorem oL{x y:List Int}(hx:PB x)(hy:PB y):aH env.P 186 [Po x,Po y] (Po (dA x y)):=by
 have:=abp _ _ hx.r8 hy.r8
 rwa [bK,bK,←eT,←eT]at this
theorem FE{x:List Int}(hx:PB x):aH env.P 139 [Po x] (Po (fW x)):=by
 have:=abq _ hx.r8
 rwa [bK,←eT]at this
theorem gY{x:List Int}(hx:PB x):aH env.P 64 [Po x] (Po (aI x)):=by
 have:=eG _ hx.r8
 rwa [bK,←eT]at this
theorem FF{a:RP}{y:List Int}{s s' n n':Nat}(ha:mL a)(hs:Bd LL s n (a.map gv))(zU:Bd LL s' n' y)(hB:s+s'+n+n'<1099511627775):aH env.P 15 [Pg a,Po y] (Po (bA (a.map gv) y)):=by
 have:=abr a (y.map iM) ha (PB.of zU (by omega) (by omega)).r8 s s' n n' hs (by rwa [bK]) hB
 rwa [bK,←eT]at this
theorem r9{x y:List Int}{s s' n n':Nat}(hs:Bd LL s n x)(zU:Bd LL s' n' y)(hB:s+s'+n+n'<1099511627775):aH env.P 15 [Po x,Po y] (Po (bA x y)):=by
 have:=FF (PB.of hs (by omega) (by omega)).r8 (by rwa [bK]) zU hB
 rwa [bK,←eT]at this
theorem HH{p:RP}:eF p = []↔(eF p).length=0:=by rw [List.length_eq_zero_iff]
theorem abM(p:RP)(y:List Int):bA (p.map gv) y=bA (eF p) y:=Cn.ext (Cn.bA _ _) (Cn.bA _ _) fun t=>by simp [c7,eF,cV]
structure InP(p:RP):Prop where
 ok:∀c∈p,cM 4294967296 c.2∧c.2.length<9223372036854775808
 len:p.length<9223372036854775808
structure Sm(k n:Nat)(p:RP):Prop where
 ok:∀c∈p,cM 4294967296 c.2∧c.2.length≤n
 len:p.length≤k
theorem sA(c:Bool × List Int)(h:cM 4294967296 c.2):(gv c).natAbs=(V 4294967296 c.2).natAbs:=by
 unfold gv iv;split<;>simp
section
variable {k n:Nat} {p:RP}
theorem Sm.fok(h:Sm k n p)(hk:k<1099511627776)(hn:n<4294967296):FOK p:=⟨fun c hc=>⟨(h.ok c hc).1,by have:=(h.ok c hc).2;omega⟩,by have:=h.len;omega⟩
theorem Sm.r8(h:Sm k n p)(hk:k<1099511627776)(hn:n<1099511627776):mL p:=⟨fun c hc=>⟨(h.ok c hc).1,by have:=(h.ok c hc).2;omega⟩,by have:=h.len;omega⟩
theorem Sm.bd(h:Sm k n p):Bd LL n k (p.map gv):=⟨by simpa using h.len,fun c hc=>by
 simp only [List.mem_map]at hc
 obtain⟨d,hd,rfl⟩:=hc
 have h1:=ars eB (h.ok d hd).1
 have h2:sz LL (gv d)=sz LL (V 4294967296 d.2):=by unfold sz;rw [sA d (h.ok d hd).1]
 rw [h2]
 exact Nat.le_trans h1 (h.ok d hd).2⟩
theorem Sm.bd2(h:Sm k n p):Bd 2 (32*n) k (p.map gv):=⟨by simpa using h.len,fun c hc=>by
 simp only [List.mem_map]at hc
 obtain⟨d,hd,rfl⟩:=hc
 have h1:=KY (h.ok d hd).1
 have h2:sz 2 (gv d)=sz 2 (V 4294967296 d.2):=by unfold sz;rw [sA d (h.ok d hd).1]
 have h3:=(h.ok d hd).2
 rw [h2];omega⟩
end
theorem maps{α:Type}{g:α→List PV}{R:List PV→Prop}{Q:α→Prop}(h:∀ps,R ps → ∃a,ps=g a∧Q a):∀ {l:List (List PV)},(∀x∈l,R x) → ∃m:List α,l=m.map g ∧ ∀a∈m,Q a
 | [],_=>⟨[],rfl,fun _ h=>(by cases h)⟩
 | x::l,hx=>by
  obtain⟨a,rfl,ha⟩:=h x (hx x (by simp))
  obtain⟨m,rfl,hm⟩:=maps h (l:=l) fun y hy=>hx y (by simp [hy])
  exact⟨a::m,rfl,fun b hb=>by
   rcases List.mem_cons.1 hb with rfl | hb
   ·exact ha
   ·exact hm b hb⟩
structure InL(l:List Int):Prop where
 wP:cM 4294967296 l
 len:l.length<9223372036854775808
theorem afQ:qZ Tryz.prog 185 (fun ps=>∃n:Int,ps=u32 n∧0≤n∧n<4294967296):=
 (qZ.int .u32 (by kernel_rfl)).mono fun ps ⟨n,h1,h2,h3⟩=>⟨n,h1,by simpa [IntKind.min,IntKind.signed]using h2,by simp [IntKind.max,IntKind.signed,IntKind.bits]at h3;omega⟩
theorem alQ:qZ Tryz.prog 36 (fun ps=>∃l:List Int,ps = [us l]∧InL l):=
 (qZ.slice (e:=185) (by kernel_rfl) (by rw [show Tryz.prog.cellsOf 185=1 by kernel_rfl];decide) afQ).mono fun ps ⟨l,h1,h2,h3⟩=>by
  obtain⟨m,rfl,hm⟩:=maps (g:=u32) (Q:=fun n=>0≤n∧n<4294967296) (fun ps h=>h) h2
  exact⟨m,h1,hm,by rw [List.length_map]at h3;simp only [maxLen]at h3;omega⟩
theorem S9:qZ Tryz.prog 38 (fun ps=>∃c:Bool × List Int,ps=ge c∧InL c.2):=
 (qZ.struct (fs:=[⟨ "Neg",4,0,false, "", "",0⟩,⟨ "L",36,1,false, "", "", 8⟩]) (Rs:=[fun ps=>∃b,ps = [.bool b],fun ps=>∃l:List Int,ps = [us l]∧InL l]) (by kernel_rfl)
  ⟨rfl,qZ.bool (by kernel_rfl),by kernel_rfl,alQ,by show(_:Nat)=_;kernel_rfl⟩).mono fun ps h=>by
  simp only [WN]at h
  obtain⟨a,b,rfl,⟨n,rfl⟩,a',b',rfl,⟨l,rfl,hl⟩,rfl⟩:=h
  exact⟨(n,l),rfl,hl⟩
theorem LF:qZ Tryz.prog 24 (fun ps=>∃p:RP,ps=pe p∧InP p):=
 (qZ.slice (e:=38) (by kernel_rfl) (by rw [show Tryz.prog.cellsOf 38=2 by kernel_rfl];decide) S9).mono fun ps ⟨l,h1,h2,h3⟩=>by
  obtain⟨m,rfl,hm⟩:=maps (g:=ge) (Q:=fun c=>InL c.2) (fun ps h=>h) h2
  exact⟨m,h1,fun c hc=>⟨(hm c hc).wP,(hm c hc).len⟩,by rw [List.length_map]at h3;simp only [maxLen]at h3;omega⟩
theorem afR:q9 Tryz.prog 3 (fun q=>∃n:Int,q = .int .i64 n ∧ -9223372036854775808≤n∧n<9223372036854775808):=
 (q9.int .i64 (by kernel_rfl)).mono fun q ⟨n,h1,h2,h3⟩=>⟨n,h1,by simpa [IntKind.min,IntKind.signed,IntKind.bits]using h2,by simp [IntKind.max,IntKind.signed,IntKind.bits]at h3;omega⟩
theorem own:ownKnob Tryz.prog.godebug=none:=by kernel_rfl
theorem laidOut:laidOutB Tryz.prog=true:=by kernel_rfl
structure PD(x:List Int):Prop where
 sz:∀v∈x,sz LL v<1099511627774
 len:x.length<1099511627774
theorem PD.of{s n:Nat}{x:List Int}(h:Bd LL s n x)(hs:s<1099511627774)(hn:n<1099511627774):PD x:=⟨fun v hv=>Nat.lt_of_le_of_lt (h.sz v hv) hs,Nat.lt_of_le_of_lt h.len hn⟩
theorem alR(v:Int):V 4294967296 (aU LL v.natAbs)=v.natAbs:=jX eB v.natAbs
theorem vM{v c:Int}(hv:sz LL v<1099511627774)(hc:sz LL c<1099511627774)(h0:c≠0):aH env.P 234 [I v,I c] (if v%c=0 then .fG [I (v/c), .int .i64 0]else .fG [I 0, .int .i64 3]):=by
 have:=PU (decide (v<0)) (decide (c<0)) (aU LL v.natAbs) (aU LL c.natAbs) ⟨eQ eB _,by unfold sz at hv;omega⟩ ⟨eQ eB _,by unfold sz at hc;omega⟩ hv hc (by rw [alR];omega)
 rwa [vD,vD]at this
def j1(c v:Int):Int:=if v%c=0 then v/c else 0
theorem LG(x:List Int)(c:Int)(hx:PD x)(hc:sz LL c<1099511627774)(h0:c≠0):aH env.P 214 [Po x,I c] (Po (aI (x.map (j1 c)))):=by
 have hxl:=hx.len
 refine cA [(0,Po x),(1,I c)] Tryz.func214 ?_
 refine aA [0,3] ?_
 refine aA [0,3,5] ?_
 refine W.row (id:=10) (emap ie (List.replicate x.length 0)) (by simp;exact⟨rfl,rfl,rfl⟩) (pC _) ?_
 refine aM [3,5,11,12,13] ?_
 refine W.block ?_
 refine W.a8 (fun q σ=>∃(i:Nat) (z:List Int) (v10:Nat) (rows:Pm.Rows) (clk:Nat),σ=⟨fa [(3, .ptr 3 0 0 0),(5, .own 10 v10 0 x.length),(11,Po x),(12, .int .i64 x.length),(13, .int .i64 i)],rows,clk⟩ ∧
  rows 3=some ⟨0,38,2,[ie c]⟩∧rows 10=some ⟨v10,38,2,emap ie z⟩∧q=x.length-i∧i≤x.length∧z.length=x.length∧z.take i=(x.take i).map (j1 c)) x.length ?_ ?_
 ·exact⟨_, .refl,0,List.replicate x.length 0,_,_,_,rfl,by simp,by simp,by omega,by omega,by simp,by simp⟩
 rintro q _ ⟨i,z,v10,rows,clk,rfl,fU,j7,hq,hi,hz,hv⟩
 refine cC [3,5,11,12,13,14] ?_
 refine bP ?_ ?_<;>intro h
 ·have hi:i<x.length:=by simp at h;omega
  have hE:=vM (hx.sz _ (bI hi)) hc h0
  have hE2:aH env.P 234 [I (nth x i),I c] (.fG [I (j1 c (nth x i)), .int .i64 (if nth x i%c=0 then 0 else 3)]):=by
   unfold j1
   split at hE
   ·rename_i h1;rw [if_pos h1,if_pos h1];exact hE
   ·rename_i h1;rw [if_neg h1,if_neg h1];exact hE
  have hts:(x.take (i+1)).map (j1 c)=(x.take i).map (j1 c) ++ [j1 c (nth x i)]:=by rw [aT hi];simp
  generalize (if nth x i%c=0 then(0:Int)else 3)=er at *
  generalize j1 c (nth x i)=ev at *
  generalize hxe:nth x i=xi at *
  refine iT ?_
  refine W.sr ?_
  simp (disch:=omega) [gw,hxe]
  refine bO [3,5,6,7,11,12,13] ?_
  refine W.b9 (fun K hK=>?_)
  simp (disch:=omega) [gw,fU]
  refine aD hE2 ?_
  simp (disch:=omega) [gw,j7,hz]
  refine W.lw [3,5,11,12,13] hK ?_;clear hK K;simp
  refine W.b9 (fun K hK=>?_);simp (disch:=omega) [gw]
  refine hK _ ⟨x.length-(i+1),_,aC _ [3,5,11,12,13],by omega,i+1,z.set i ev,v10,_,_,rfl,by simp [fU],by simp,by omega,by omega,by simp [hz],?_⟩
  rw [kX hv (by omega),hts]
 ·have hi:i=x.length:=by simp at h;omega
  subst hi
  rw [bJ hz,List.take_length]at hv
  have tM:=bJ hz
  refine eJ ?_
  have hzb:PB z:=by
   rw [hv]
   refine⟨fun v hv=>?_,by simpa using by omega⟩
   simp only [List.mem_map]at hv
   obtain⟨w,hw,rfl⟩:=hv
   have h1:=hx.sz w hw
   show sz LL (j1 c w)<1099511627776
   refine Nat.lt_of_le_of_lt (cB eB (y:=w) ?_) (by omega)
   unfold j1;split
   ·exact Int.natAbs_ediv_le_natAbs _ _
   ·simp
  have hN:=gY hzb
  rw [hv]at hN j7 tM
  generalize x.map (j1 c)=y at *
  have KT:y.length=x.length:=by rw [←hv];exact hz
  refine W.sr ?_
  simp (disch:=omega) [gw,j7,tM]
  refine cI [4] hN ?_
  exact cP
theorem LH(l:List RP)(K0:Nat)(hK0:K0<1099511627774)(hp:∀p∈l,∀c∈p,cM 4294967296 c.2∧c.2.length≤K0)(hl:l.length<1099511627776)(hf:l.flatten.length<1099511627776) :
  aH env.P 213 [aJ pe l] (I (bL (l.flatten.map gv))):=by
 refine cA [(0,aJ pe l)] Tryz.func213 ?_
 refine aA [0,2] ?_
 refine aA [0,2,3] ?_
 refine W.nil 3 3 38 2 (by simp) (by decide) (fun K hK=>?_)
 refine W.lw [0,2,3] hK ?_;clear hK K;simp
 refine aM [2,3,6,7,8] ?_
 refine W.block ?_
 refine W.a8 (fun q σ=>∃(i v3:Nat) (A:RP) (rows:Pm.Rows) (clk:Nat),σ=⟨fa [(2, .ptr 2 0 0 0),(3, .own 3 v3 0 A.length),(6,aJ pe l),(7, .int .i64 l.length),(8, .int .i64 i)],rows,clk⟩ ∧
  rows 2=some ⟨0,38,2,[[.bool false, .nil]]⟩∧rows 3=some ⟨v3,38,2,emap ge A⟩∧q=l.length-i∧i≤l.length∧A=(l.take i).flatten) l.length ?_ ?_
 ·exact⟨_, .refl,0,_,[],_,_,rfl,by simp,by simp [emap],by omega,by omega,by simp⟩
 rintro q _ ⟨i,v3,A,rows,clk,rfl,cR,fU,hq,hi,hA⟩
 refine cC [2,3,6,7,8,9] ?_
 refine bP ?_ ?_<;>intro h
 ·have hi:i<l.length:=by simp at h;omega
  have hfs:(l.take (i+1)).flatten=(l.take i).flatten++nth l i:=by rw [aT hi];simp
  have hfl:(l.take (i+1)).flatten.length≤l.flatten.length:=by
   have e:=List.take_append_drop (i+1) l
   have e2:l.flatten=(l.take (i+1)).flatten++(l.drop (i+1)).flatten:=by rw [←List.flatten_append,e]
   rw [e2,List.length_append];omega
  have NG:(l.take i).flatten.length+(nth l i).length<1099511627776:=by
   rw [hfs,List.length_append]at hfl;omega
  have hls:(l.take (i+1)).flatten.length=(l.take i).flatten.length+(nth l i).length:=by rw [hfs,List.length_append]
  rw [←hA]at hfs NG hls
  generalize hpe:nth l i=p at *
  refine iT ?_
  refine W.sr ?_
  simp (disch:=omega) [gw,hpe]
  refine bO [2,3,5,6,7,8] ?_
  refine W.b9 (fun K hK=>?_)
  simp (disch:=omega) [gw,fU]
  refine W.lw [2,3,6,7,8] hK ?_;clear hK K;simp
  refine W.b9 (fun K hK=>?_);simp (disch:=omega) [gw]
  refine hK _ ⟨l.length-(i+1),_,Gh.fr [(2, .ptr 2 0 0 0),(3, .own 3 _ 0 (A++p).length),(6,aJ pe l),(7, .int .i64 l.length),(8, .int .i64 ((i+1:Nat):Int))] (by simp;exact rfl),by omega,i+1,_,A++p,_,_,rfl,by simp [cR],by simp,by omega,by omega,hfs.symm⟩
 ·have hi:i=l.length:=by simp at h;omega
  subst hi
  rw [List.take_length]at hA
  have hG:=B0 l.flatten K0 hK0 (fun c hc=>by
   obtain⟨p,ZL,hcp⟩:=List.mem_flatten.1 hc
   exact hp p ZL c hcp) hf
  rw [←hA]at hG ⊢
  generalize (bL (A.map gv):Int)=g at *
  refine eJ ?_
  refine W.sr ?_
  simp (disch:=omega) [gw,fU]
  refine aD hG ?_
  simp (disch:=omega) [gw,cR]
  refine bO [2] ?_
  exact cP
theorem oM{x:List Int}(hx:PB x)(hc:Cn x):aH env.P 145 [Po x] (I (lead x)):=by
 have:=K1 (x.map iM) hx.r8
 rw [show eF (x.map iM)=aI x by simp only [eF,bK],show aI x=x from hc,←eT]at this
 exact this
theorem mC(x:List Int)(hx:x.length<9223372036854775808):aH env.P 83 [Po x] (.int .i64 ((x.length:Int)-1)):=by
 have:=afG (x.map iM) (by simpa using hx)
 rw [List.length_map,←eT]at this
 exact this
theorem fY{x:List Int}{c:Int}(hx:PB x)(hc:Sz c):aH env.P 181 [Po x,I c] (Po (aL x c)):=by
 have:=PH (x.map iM) hx.r8 (decide (c<0)) (aU LL c.natAbs) hc.WJ
 rw [bK,vD,←eT]at this
 exact this
theorem rD(i:Nat)(x:Int):(List.replicate (i+1) (0:Int)).set i x=p8 i x:=by
 rw [List.replicate_succ',List.set_append]
 simp [p8]
theorem P3(a b:RP){s s' N:Nat}(ha:mL a)(hb:mL b)(sa:Bd LL s N (a.map gv))(sb:Bd LL s' N (b.map gv))(hB:s+N*(s'+N+1)+s'+N+N+10<1099511627774) :
  aH env.P 215 [Pg a,Pg b] (if eF b = []then .fG [Po [],Po [], .int .i64 0, .int .i64 2]else .fG [Po (yO (eF a) (eF b)).1,Po (yO (eF a) (eF b)).2, .int .i64 (i4 (eF a) (eF b)), .int .i64 0]):=by
 have hA:Bd LL s N (eF a):=sa.cut
 have TA:Bd LL s' N (eF b):=sb.cut
 have ca:Cn (eF a):=Cn.cut _
 have cb:Cn (eF b):=Cn.cut _
 have na:=eG a ha
 have nb:=eG b hb
 rw [show aI (a.map gv)=eF a from rfl]at na
 rw [show aI (b.map gv)=eF b from rfl]at nb
 refine cA [(0,Pg a),(1,Pg b)] Tryz.func215 ?_
 generalize eF a=x at *
 generalize eF b=y at *
 refine aA [0,1,4] ?_
 refine W.KB 4 (Po []) (by simp) rfl (fun K hK=>?_)
 refine W.lw [0,1,4] hK ?_;clear hK K;simp
 refine j4 ?_
 refine b8 na ?_
 refine cI [1,4,5] nb ?_
 refine aM [1,4,5,18] ?_
 refine bP ?_ ?_<;>intro h
 ·have h:y = []:=by simp at h;exact h
  rw [if_pos h]
  refine aA [4,5,6,7] ?_
  refine W.ret ?_
  simp [go]
  rfl
 have hy:y ≠ []:=by simp at h;exact h
 clear h
 rw [if_neg hy]
 have PJ:0<y.length:=List.length_pos_iff.2 hy
 have hNx:=hA.len
 have hNy:=TA.len
 have hsy:=gH TA
 have hmN:N*(s'+N+1)≥0:=Nat.zero_le _
 have hL:=oM (PB.of TA (by omega) (by omega)) cb
 have hDx:=mC x (by omega)
 have hDy:=mC y (by omega)
 refine W.skip ?_
 refine aY [1,4,5,8] hL ?_
 have hkk:(if (0:Int)<(x.length:Int)-1-((y.length:Int)-1)+1 then(x.length:Int)-1-((y.length:Int)-1)+1 else 0)=(i4 x y:Int):=by unfold i4;split<;>omega
 refine j4 ?_
 refine b8 hDx ?_
 refine aD hDy ?_
 simp (disch:=omega) [gw,hkk]
 refine bO [1,4,5,6,8] ?_
 have hkN:i4 x y≤N:=by unfold i4;omega
 have hsl:=hsy
 generalize hdd:s'+N+1=d at *
 have hNN:∀j,j≤N→(N-j)*d≤N*d:=fun j _=>Nat.mul_le_mul_right _ (by omega)
 refine aM [1,4,5,6,8,9] ?_
 refine W.block ?_
 refine W.a8 (fun j σ=>∃(q r:List Int) (rows:Pm.Rows) (clk:Nat),σ=⟨fa [(1,Po y),(4,Po q),(5,Po r),(6, .int .i64 (i4 x y)),(8, .ptr 8 0 0 0),(9, .int .i64 ((j:Int)-1))],rows,clk⟩ ∧
  rows 8=some ⟨0,38,2,[ie (lead y)]⟩∧j≤i4 x y∧ps y (lead y) j q r=yO x y∧Bd LL (s+(N-j)*d) (N+N) q∧Bd LL (s+(N-j)*d) (N+N) r∧Cn r) (i4 x y) ?_ ?_
 ·exact⟨_, .refl,[],x,_,_,rfl,by simp,by omega,rfl,⟨by simp,fun c hc=>by cases hc⟩,hA.mono (by omega) (by omega),ca⟩
 rintro j _ ⟨q,r,rows,clk,rfl,zM,hj,yR,bq,br,cr⟩
 refine aM [1,4,5,6,8,9,31] ?_
 refine bP ?_ ?_<;>intro h
 ·have hj0:0<j:=by simp at h;omega
  obtain⟨i,rfl⟩:∃i,j=i+1:=⟨j-1,by omega⟩
  clear h
  have ei:((i+1:Nat):Int)-1=i:=by omega
  rw [ei]
  have hN1:=hNN (i+1) (by omega)
  have hT:s+(N-i)*d=s+(N-(i+1))*d+s'+N+1:=by
   rw [show N-i=(N-(i+1))+1 by omega,Nat.add_mul,Nat.one_mul];omega
  obtain⟨b1,b2⟩:=BN eB TA bq br (show i<N by omega)
  rw [←hT]at b1 b2
  have D5:=hNN i (by omega)
  have hx:=abd (y:=y) (i:=i) br
  have bs:=Bd.p8 hx i
  have hLr:=oM (PB.of br (by omega) (by omega)) cr
  have hDr:=mC r (by have:=br.len;omega)
  have bqs:=bq.aL eB hsy
  have brs:=br.aL eB hsy
  have bm:=bs.bA eB TA
  have f1:=fY (c:=lead y) (PB.of bq (by omega) (by omega)) (show sz LL (lead y)<1099511627776 by omega)
  have f2:=fY (c:=lead y) (PB.of br (by omega) (by omega)) (show sz LL (lead y)<1099511627776 by omega)
  have f3:=xE (PB.of bqs (by omega) (by omega)) (PB.of bs (by omega) (by omega))
  have f4:=r9 bs TA (by omega)
  have f5:=oL (PB.of brs (by omega) (by omega)) (PB.of bm (by omega) (by omega))
  rw [show eV (aL q (lead y)) (p8 i (u9 y r i))=psq (lead y) (u9 y r i) i q from rfl]at f3
  rw [show dA (aL r (lead y)) (bA (p8 i (u9 y r i)) y)=wO y (lead y) (u9 y r i) i r from rfl]at f5
  have cr2:Cn (wO y (lead y) (u9 y r i) i r):=Cn.dA _ _
  have hpx:u9 y r i=if r.length=y.length+i then lead r else 0:=rfl
  rw [ps]at yR
  generalize hq2:psq (lead y) (u9 y r i) i q=q2 at *
  generalize cR:wO y (lead y) (u9 y r i) i r=r2 at *
  generalize bA (p8 i (u9 y r i)) y=pm at *
  generalize aL q (lead y)=pq at *
  generalize aL r (lead y)=pr at *
  generalize u9 y r i=xx at *
  have abO:=rD i xx
  have alT:(p8 i xx).length=i+1:=by simp [p8]
  generalize lead r=lr at *
  generalize lead y=ly at *
  refine iT ?_
  refine aA [1,4,5,6,8,9,10] ?_
  refine W.row (id:=10) (els:=[[.bool false, .nil]]) [ie 0] (by simp;exact⟨rfl,rfl,rfl⟩) ⟨⟨.inl (by simp), .inr ⟨rfl,rfl⟩,trivial⟩,trivial⟩ ?_
  refine W.gD (fun σ=>∃(v10:Nat) (rows:Pm.Rows) (clk:Nat),σ=⟨fa [(1,Po y),(4,Po q),(5,Po r),(6, .int .i64 (i4 x y)),(8, .ptr 8 0 0 0),(9, .int .i64 i),(10, .ptr 10 v10 0 0)],rows,clk⟩∧rows 8=some ⟨0,38,2,[ie ly]⟩∧rows 10=some ⟨v10,38,2,[ie xx]⟩) ?_ ?_
  ·
   refine j4 ?_
   refine b8 hDr ?_
   refine cI [1,4,5,6,8,9,10,40] hDy ?_
   by_cases ND:r.length=y.length+i
   ·rw [if_pos ND]at hpx
    subst hpx
    refine bP ?_ ?_<;>intro h
    ·refine W.b9 (fun K hK=>?_)
     simp (disch:=omega) [gw]
     refine b8 hLr ?_
     exact hK _ ⟨_,aC _ [1,4,5,6,8,9,10],_,_,_,rfl,by simp [zM],by simp⟩
    ·exfalso;simp at h;omega
   ·rw [if_neg ND]at hpx
    subst hpx
    refine bP ?_ ?_<;>intro h
    ·exfalso;simp at h;omega
    ·refine W.skip ?_
     exact⟨_,aC _ [1,4,5,6,8,9,10],_,_,_,rfl,by simp [zM],by simp⟩
  rintro _ ⟨v10,rows,clk,rfl,zM,j7⟩
  have e9:((i:Int)+1).toNat=i+1:=by omega
  refine W.sr ?_
  simp (disch:=omega) [gw,e9]
  refine bO [1,4,5,6,8,9,10,11] ?_
  refine W.row (id:=45) (emap ie (List.replicate (i+1) 0)) (by simp;exact⟨rfl,rfl,rfl⟩) (pC _) ?_
  refine W.sr ?_
  simp (disch:=omega) [gw,j7,abO]
  refine bO [1,4,5,6,8,9,11] ?_
  have j3:=bJ alT
  refine W.freeze 45 (by simp) (fun K hK=>?_)
  simp [j3]
  refine hK _ ?_;clear hK K
  refine W.sr ?_
  simp (disch:=omega) [gw,zM]
  refine b8 f1 ?_
  refine cI [1,4,5,6,8,9,11] f3 ?_
  refine W.b9 (fun K hK=>?_)
  simp (disch:=omega) [gw,zM]
  refine b8 f2 ?_
  refine b8 f4 ?_
  refine b8 f5 ?_
  refine W.lw [1,4,5,6,8,9] hK ?_;clear hK K;simp
  refine W.b9 (fun K hK=>?_);simp (disch:=omega) [gw]
  refine hK _ ⟨i,_,aC _ [1,4,5,6,8,9],by omega,q2,r2,_,_,rfl,by simp [zM],by omega,yR,b1,b2,cr2⟩
 ·have hj0:j=0:=by simp at h;omega
  subst hj0
  simp only [ps]at yR
  rw [←yR]
  refine eJ ?_
  refine aA [4,5,6,7] ?_
  exact cP
def jQ(x:List Int):List Int:=aI (x.map (j1 (bL x)))
def LI(a b:List Int):List Int:=if i4 a b%2=1∧lead b<0 then jQ (fW (yO a b).2)else jQ (yO a b).2
theorem eN(x:List Int):∀c∈x,((bL x:Nat):Int)∣c:=by
 have key:∀(l:List Int) (g:Nat),(∀c∈l,((l.foldl (fun g c=>Nat.gcd g c.natAbs) g:Nat):Int)∣c)∧l.foldl (fun g c=>Nat.gcd g c.natAbs) g∣g:=by
  intro l
  induction l with
  | nil=>intro g;exact⟨fun c hc=>(by cases hc),Nat.dvd_refl _⟩
  | cons c l ih =>
   intro g
   obtain⟨h1,h2⟩:=ih (Nat.gcd g c.natAbs)
   simp only [List.foldl_cons]
   refine⟨fun d hd=>?_,Nat.dvd_trans h2 (Nat.gcd_dvd_left _ _)⟩
   rcases List.mem_cons.1 hd with rfl | hd
   ·exact Int.ofNat_dvd_left.2 (Nat.dvd_trans h2 (Nat.gcd_dvd_right _ _))
   ·exact h1 d hd
 exact(key x 0).1
theorem LJ{x:List Int}{c:Int}(hc:c∈x)(h:c≠0):bL x≠0:=by
 intro h0
 have:=eN x c hc
 rw [h0]at this
 obtain⟨k,hk⟩:=this
 simp at hk
 exact h hk
theorem cQ{x:List Int}(hc:Cn x)(h:x ≠ []):bL x≠0:=by
 have hl:0<x.length:=List.length_pos_iff.2 h
 exact LJ (c:=lead x) (bI (by omega)) (dB hc hl)
theorem TB{x:List Int}{s:Nat}(hx:∀c∈x,sz LL c≤s)(hc:Cn x)(h:x ≠ []):sz LL (bL x:Int)≤s:=by
 have hl:0<x.length:=List.length_pos_iff.2 h
 have hm:lead x∈x:=bI (by omega)
 refine Nat.le_trans (cB eB ?_) (hx _ hm)
 have:=Int.le_of_dvd (a:=(bL x:Int)) (b:=((lead x).natAbs:Int)) (by have:=dB hc hl;omega) (Int.dvd_natAbs.2 (eN x _ hm))
 omega
theorem vN(x:List Int)(hx:PD x):aH env.P 213 [.sl [[Po x]]] (I (bL x)):=by
 have hl:=hx.len
 have:=LH [x.map iM] 1099511627773 (by decide) (fun p hp c hc=>by
  simp only [List.mem_singleton]at hp
  subst hp
  simp only [List.mem_map]at hc
  obtain⟨v,hv,rfl⟩:=hc
  have h1:=hx.sz v hv
  exact⟨eQ eB _,by unfold sz at h1;show(aU LL v.natAbs).length≤_;omega⟩) (by simp) (by simp;omega)
 have e:([x.map iM].flatten.map gv)=x:=by simp only [List.flatten_cons,List.flatten_nil,List.append_nil,bK]
 rw [e]at this
 have e2:aJ pe [x.map iM] = .sl [[Po x]]:=by rw [eT];rfl
 rw [e2]at this
 exact this
theorem LK(a b:RP){s s' N:Nat}(ha:mL a)(hb:mL b)(sa:Bd LL s N (a.map gv))(sb:Bd LL s' N (b.map gv))(hB:s+N*(s'+N+1)+s'+N+N+10<1099511627774) :
  aH env.P 138 [Pg a,Pg b] (if eF b = []then .fG [Po [], .int .i64 2]else .fG [Po (LI (eF a) (eF b)), .int .i64 0]):=by
 have hP:=P3 a b ha hb sa sb hB
 have hL:=K1 b hb
 have hA:Bd LL s N (eF a):=sa.cut
 have TA:Bd LL s' N (eF b):=sb.cut
 have ca:Cn (eF a):=Cn.cut _
 refine cA [(0,Pg a),(1,Pg b)] Tryz.func138 ?_
 generalize eF a=x at *
 generalize eF b=y at *
 refine aA [0,1] ?_
 by_cases hy:y = []
 ·rw [if_pos hy]at hP ⊢
  refine aY [1,7,8,9] hP ?_
  refine aM [1,7,8,9,19] ?_
  refine bP ?_ ?_<;>intro h
  ·refine aA [4,5] ?_
   refine W.ret ?_
   simp [go]
   rfl
  ·cases h
 rw [if_neg hy]at hP ⊢
 have PJ:0<y.length:=List.length_pos_iff.2 hy
 have hkN:i4 x y≤N:=by unfold i4;have:=hA.len;omega
 obtain⟨_,GF⟩:=abe eB TA (i4 x y) s [] x hkN ⟨by simp,fun c hc=>by cases hc⟩ (hA.mono (by omega) (by omega))
 obtain⟨_,cr⟩:=BO (b:=y) ca
 rw [show(ps y (lead y) (i4 x y) [] x)=yO x y from rfl]at GF
 have hmul:=Nat.mul_le_mul_right (s'+N+1) hkN
 have KV:=FE (PB.of GF (by omega) (by omega))
 refine aY [1,7,8,9] hP ?_
 refine aM [1,7,8,9,19] ?_
 refine bP ?_ ?_<;>intro h
 ·cases h
 refine W.skip ?_
 obtain⟨r2,cR⟩:∃r2,r2=if i4 x y%2=1∧lead y<0 then fW (yO x y).2 else(yO x y).2:=⟨_,rfl⟩
 have asb:LI x y=jQ r2:=by rw [cR,LI];split<;>rfl
 have hbr:PD r2:=by
  rw [cR];split
  ·exact PD.of GF.fW (by omega) (by omega)
  ·exact PD.of GF (by omega) (by omega)
 have hcr:Cn r2:=by
  rw [cR];split
  ·exact Cn.fW _
  ·exact cr
 rw [asb]
 refine W.gD (fun σ=>∃(rows:Pm.Rows) (clk:Nat),σ=⟨fa [(7,Po r2)],rows,clk⟩) ?_ ?_
 ·
  by_cases hk:i4 x y%2=1
  ·refine W.gK (fun σ=>∃(rows:Pm.Rows) (clk:Nat),σ=⟨fa [(7,Po (yO x y).2),(28, .bool (decide (lead y<0)))],rows,clk⟩) (fun K hK=>?_) ?_
   ·have wM:(i4 x y:Int)%2=1:=by omega
    simp (disch:=omega) [gw,wM]
    refine b8 hL ?_
    exact hK _ _ (aC _ [7,28]) ⟨_,_,rfl⟩
   rintro _ ⟨rows,clk,rfl⟩
   refine W.aa3 (lead y<0) rfl (fun h=>?_) (fun h=>?_)
   ·rw [if_pos ⟨hk,h⟩]at cR
    subst cR
    refine W.b9 (fun K hK=>?_)
    simp (disch:=omega) [gw]
    refine b8 KV ?_
    exact hK _ ⟨_,aC _ [7],_,_,rfl⟩
   ·rw [if_neg (fun h2=>h h2.2)]at cR
    subst cR
    refine W.skip ?_
    exact⟨_,aC _ [7],_,_,rfl⟩
  ·rw [if_neg (fun h2=>hk h2.1)]at cR
   subst cR
   refine W.gK (fun σ=>∃(rows:Pm.Rows) (clk:Nat),σ=⟨fa [(7,Po (yO x y).2),(28, .bool false)],rows,clk⟩) (fun K hK=>?_) ?_
   ·have wM:((i4 x y:Int)%2==1)=false:=by simp;omega
    simp (disch:=omega) [gw,wM]
    exact hK _ _ (aC _ [7,28]) ⟨_,_,rfl⟩
   rintro _ ⟨rows,clk,rfl⟩
   refine bP ?_ ?_<;>intro h
   ·cases h
   ·refine W.skip ?_
    exact⟨_,aC _ [7],_,_,rfl⟩
 rintro _ ⟨rows,clk,rfl⟩
 clear cR asb
 refine aM [7,33] ?_
 refine bP ?_ ?_<;>intro h
 ·have h:r2 = []:=by simp at h;exact h
  subst h
  refine aA [4,5] ?_
  refine W.ret ?_
  simp [go]
  rfl
 ·have h:r2 ≠ []:=by simp at h;exact h
  have hC:=vN r2 hbr
  have hgp:=cQ hcr h
  have hO:=LG r2 (bL r2) hbr (Nat.lt_of_le_of_lt (TB (s:=1099511627773) (fun c hc=>by have:=hbr.sz c hc;omega) hcr h) (by decide)) (by omega)
  rw [show aI (r2.map (j1 (bL r2)))=jQ r2 from rfl]at hO
  generalize (bL r2:Int)=g at *
  generalize jQ r2=pr at *
  refine W.skip ?_
  refine j4 ?_
  refine b8 hC ?_
  refine cI [4,5] hO ?_
  exact cP
end Go.Proofs.YtiobceocpabjdaaGreat
