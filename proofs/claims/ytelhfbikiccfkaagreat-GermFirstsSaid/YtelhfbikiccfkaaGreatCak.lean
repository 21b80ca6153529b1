import Derived.Test.YtelhfbikiccfkaaGreatCah
import Derived.Test.YtelhfbikiccfkaaGreatCai
import Derived.Test.YtelhfbikiccfkaaGreatCaj
set_option linter.unusedSimpArgs false
set_option linter.unusedVariables false
namespace Go.Proofs.YtelhfbikiccfkaaGreat
open Go Pm
abbrev Y(x:Int):Prop:=sz 2 x<549755813888
theorem Y.z{x:Int}(h:Y x):Z x:=by simp only [Y,Z]at *;omega
theorem C6{x y:Int}(h:Y y)(tW:x.natAbs≤y.natAbs):Y x:=Nat.lt_of_le_of_lt (c7 (by decide) tW) h
theorem zL{x y:Int}:dF x y≤0↔x≤y:=by simp only [dF];split<;>(try split)<;>omega
@[simp] theorem ap3{l:List Int}{x:Int}:[PV.int .i64 x]::emap aG l=emap aG (x::l):=by simp [emap]
@[simp] theorem ahl{l:List Int}:(∀e∈emap aG l,∀p∈e,cR p=true)=True:=by simp [emap]
theorem ZC{l:List Int}(h:cU 10000 l)(k:Nat)(hk:k≤l.length):V 10000 (l.drop k)≤V 10000 l:=by
 rw [kH l k hk]
 have h1:=bN (by decide) (h.take k)
 have h2:=bN (by decide) (h.drop k)
 have h3:1≤(10000:Int)^k:=Int.pow_pos (by decide)
 have h4:=Int.mul_le_mul_of_nonneg_right h3 h2
 omega
theorem NL(x y:Int)(hx:0≤x)(hy:0<y)(zx:Y x)(zy:Y y):aD env.P 215 [Dn x,Dn y] (.eB [Dn (x/y),Dn (x%y)]):=by
 have hal:(aN DD x.toNat).length<549755813888:=Nat.lt_of_le_of_lt (kJ hx) zx
 have la:=mG x.toNat
 have hVa:=wI hx
 refine bY [(0,Dn x),(1,Dn y)] Tryz.func215 ?_
 simp only [Dn]
 generalize ha:aN DD x.toNat=a at *
 refine aA [0,1] ?_
 refine aA [0,1,6] ?_
 refine aA [0,1,6,7] ?_
 refine W.R4 7 (Dn 0) (by simp) rfl (fun K hK=>?_)
 refine W.lw [0,1,6,7] hK ?_;clear hK K;simp
 refine aL [0,1,6,7,8] ?_
 refine W.block ?_
 refine W.bG (fun k σ=>∃(r:Int) (z:List Int) (ver:Nat) (rows:Pm.Rows) (clk:Nat),σ=⟨fa [(0,aI aG a),(1,Dn y),(6, .own 14 ver 0 a.length),(7,Dn r),(8, .int .i64 ((k:Int)-1))],rows,clk⟩ ∧
  rows 14=some ⟨ver,3,1,emap aG z⟩∧k≤a.length∧z.length=a.length∧cU 10000 z∧0≤r∧r<y∧V 10000 (a.drop k)=y*V 10000 (z.drop k)+r) a.length ?_ ?_
 ·exact⟨_,Gh.fr [(0,aI aG a),(1,Dn y),(6, .own 14 0 0 a.length),(7,Dn 0),(8, .int .i64 ((a.length:Int)-1))] (by simp),0,List.replicate a.length 0,_,_,_,rfl,by simp,by omega,by simp,cU.rep (by decide) _,by omega,hy,by simp [V]⟩
 rintro k _ ⟨r,z,ver,rows,clk,rfl,hr,hk,hz,lz,PW,vX,hV⟩
 refine aL [0,1,6,7,8,19] ?_
 refine bC ?_ ?_<;>intro h
 ·simp at h
  obtain⟨j,rfl⟩:∃j,k=j+1:=⟨k-1,by omega⟩
  clear h
  have hxj:=la.nth (i:=j) (by omega)
  have hVz:=bN (by decide) (lz.drop (j+1))
  have hyV:=Int.mul_nonneg (Int.le_of_lt hy) hVz
  have hR:V 10000 (a.drop j)=y*(10000*V 10000 (z.drop (j+1)))+(nth a j+10000*r):=by
   rw [fB (l:=a) (i:=j) (by omega)];simp only [V];rw [hV];grind
  have hRx:nth a j+10000*r≤x:=by
   have h1:=ZC la j (by omega)
   have h2:0≤y*(10000*V 10000 (z.drop (j+1))):=Int.mul_nonneg (Int.le_of_lt hy) (by omega)
   omega
  have YT:(aN DD r.toNat).length<549755813888:=Nat.lt_of_le_of_lt (kJ PW) (C6 zy (by omega))
  have nU:aI aG (aP (nth a j::aN DD r.toNat))=Dn (nth a j+10000*r):=by
   rw [uS (cU.cons.2 ⟨hxj,mG _⟩)]
   simp only [V,wI PW]
  refine kW ?_
  refine iB ?_
  refine aB (pB (nth a j::aN DD r.toNat) (by simp;omega)) ?_
  rw [nU]
  have LW:0≤nth a j+10000*r:=by omega
  have hR1:nth a j+10000*r<y*10000:=by omega
  have zR:Y (nth a j+10000*r):=C6 zx (by omega)
  generalize nth a j+10000*r=R at *
  simp (disch:=omega) [gw]
  refine bL [0,1,6,7,8] ?_
  refine b9 [0,1,6,7,8,9,10] ?_
  refine W.block ?_
  refine W.bG (fun m σ=>∃(lo hi:Int),σ=⟨fa [(0,aI aG a),(1,Dn y),(6, .own 14 ver 0 a.length),(7,Dn R),(8, .int .i64 (j:Int)),(9, .int .i64 lo),(10, .int .i64 hi)],rows,clk⟩ ∧
   m=(hi-lo).toNat∧0≤lo∧lo≤hi∧hi≤9999∧y*lo≤R∧R<y*(hi+1)) 9999 ?_ ?_
  ·exact⟨_,Gh.fr [(0,aI aG a),(1,Dn y),(6, .own 14 ver 0 a.length),(7,Dn R),(8, .int .i64 (j:Int)),(9, .int .i64 0),(10, .int .i64 9999)] (by simp),0,9999,rfl,by decide,by omega,by omega,by omega,by omega,by omega⟩
  rintro m _ ⟨lo,hi,rfl,hm,ES,hlh,PU,h1,h2⟩
  refine aL [0,1,6,7,8,9,10,32] ?_
  refine bC ?_ ?_<;>intro h
  ·simp at h
   refine W.skip ?_
   refine W.block ?_
   refine aA [0,1,6,7,8,9,10,11] ?_
   have GN:lo<(lo+hi+1)/2:=by omega
   have hm2:(lo+hi+1)/2≤hi:=by omega
   generalize (lo+hi+1)/2=FD at *
   have hp:0≤y*FD:=Int.mul_nonneg (by omega) (by omega)
   have zp:Z (y*FD):=by
    have h3:sz 2 FD≤14:=dE (by decide) (by simp;omega)
    have h4:=cD (b:=2) (by decide) (Nat.le_refl (sz 2 y)) h3
    simp only [Z,Y]at *;omega
   have hma:=l8 y FD 0 (by omega) zy.z (by omega) (by omega) (by decide) (by decide)
   rw [Int.add_zero]at hma
   refine iB ?_
   refine cB hma ?_
   refine bS [0,1,6,7,8,9,10,11,43] (NI (y*FD) R hp LW zp zR.z) ?_
   refine bC ?_ ?_<;>intro h
   ·have h:=zL.1 (of_decide_eq_true h)
    refine W.cC (fun K hK=>?_);simp (disch:=omega) [gw]
    exact hK _ ⟨(hi-FD).toNat,_,aC _ [0,1,6,7,8,9,10],by omega,FD,hi,rfl,rfl,by omega,by omega,by omega,h,h2⟩
   ·have h:=of_decide_eq_false h
    rw [zL]at h
    refine W.cC (fun K hK=>?_);simp (disch:=omega) [gw]
    refine hK _ ⟨(FD-1-lo).toNat,_,aC _ [0,1,6,7,8,9,10],by omega,lo,FD-1,rfl,rfl,by omega,by omega,by omega,h1,?_⟩
    rw [show FD-1+1=FD by omega];omega
  ·simp at h
   have ayG:lo=hi:=by omega
   subst ayG
   have hp:0≤y*lo:=Int.mul_nonneg (by omega) (by omega)
   have zp:Y (y*lo):=C6 zR (by omega)
   have hma:=l8 y lo 0 (by omega) zy.z (by omega) (by omega) (by decide) (by decide)
   rw [Int.add_zero]at hma
   refine eV ?_
   refine W.sr ?_
   simp (disch:=omega) [gw,hr]
   refine bL [0,1,6,7,8,9] ?_
   refine W.cC (fun K hK=>?_)
   simp (disch:=omega) [gw]
   refine cB hma ?_
   refine cB (C4 R (y*lo) hp h1 zR.z) ?_
   refine W.lw [0,1,6,7,8] hK ?_;clear hK K;simp
   refine W.cC (fun K hK=>?_);simp (disch:=omega) [gw]
   refine hK _ ⟨j,_,aC _ [0,1,6,7,8],by omega,R-y*lo,z.set j lo,ver,_,_,rfl,by simp,by omega,by simpa using hz,lz.set (by omega),by omega,by rw [Int.mul_add]at h2;omega,?_⟩
   rw [hR,fB (l:=z.set j lo) (i:=j) (by simp;omega),eS (by omega),List.drop_set_of_lt (by omega)]
   simp only [V]
   grind
 ·simp at h
  have zK:k=0:=by omega
  subst zK
  simp only [List.drop_zero]at hV
  have ez:z.take a.length=z:=bO hz
  have hzn:=bN (by decide) lz
  rw [hVa]at hV
  have e1:x/y=V 10000 z:=by
   rw [hV,Int.mul_add_ediv_left _ _ (by omega),Int.ediv_eq_zero_of_lt PW vX];simp
  have e2:x%y=r:=by
   rw [hV,Int.mul_add_emod_self_left,Int.emod_eq_of_lt PW vX]
  refine eV ?_
  refine W.sr ?_
  simp (disch:=omega) [gw,hr,ez]
  refine aB (pB z (by omega)) ?_
  simp (disch:=omega) [gw]
  refine bL [4,5] ?_
  refine W.ret ?_
  have h4:=uS lz
  simp only [Dn]at h4
  rw [e1,e2,←h4]
  simp [go]
theorem C7(a b:Int)(za:Y a)(zb:Y b):aD env.P 142 [RI a,RI b] (RI (Int.gcd a b)):=by
 refine bY [(0,RI a),(1,RI b)] Tryz.func142 ?_
 refine aA [2,3,4] ?_
 refine mP ?_
 refine bL [4,5,6] ?_
 refine W.seq ?_
 refine W.block ?_
 refine W.bG (fun k σ=>∃(x:Nat) (rows:Pm.Rows) (clk:Nat),σ=⟨fa [(4, .ptr 4 2 0 0),(5,aI aG (aN DD x)),(6,aI aG (aN DD k))],rows,clk⟩∧rows 4=some ⟨2,29,2,[[.nil, .bool false]]⟩∧Nat.gcd x k=Int.gcd a b∧Y (x:Int)∧Y (k:Int)) b.natAbs ?_ ?_
 ·exact⟨_, .refl,a.natAbs,_,_,rfl,by simp,rfl,by simpa [Y,sz]using za,by simpa [Y,sz]using zb⟩
 rintro k _ ⟨x,rows,clk,rfl,dS,hg,zx,zk⟩
 have e0:(aN DD k).length=0↔k=0:=by rw [List.length_eq_zero_iff,eJ P8]
 refine aL [4,5,6,15] ?_
 refine bC ?_ ?_<;>intro h
 ·have zK:k≠0:=by intro h0;have h1:=e0.2 h0;simp at h;omega
  have hdiv:=NL (x:Int) (k:Int) (by omega) (by omega) zx zk
  have em:(((x:Int)%k).toNat)=x%k:=by rw [←Int.natCast_emod];exact Int.toNat_natCast _
  have ed:(((x:Int)/k).toNat)=x/k:=by rw [←Int.natCast_ediv];exact Int.toNat_natCast _
  simp only [Dn,em,ed,Int.toNat_natCast]at hdiv
  have dA:=Nat.mod_lt x (show k>0 by omega)
  have oO:Nat.gcd k (x%k)=Int.gcd a b:=by rw [←hg,Nat.gcd_comm x k,Nat.gcd_rec k x,Nat.gcd_comm]
  have zm:Y ((x%k:Nat):Int):=C6 zk (by simp only [Int.natAbs_natCast];omega)
  refine W.skip ?_
  refine W.block ?_
  refine iB ?_
  refine aB hdiv ?_
  generalize x%k=y at *
  simp (disch:=omega) [gw]
  refine bL [4,6,8] ?_
  refine W.cC (fun K hK=>?_);simp (disch:=omega) [gw]
  exact hK _ ⟨y,_,aC _ [4,5,6],dA,k,_,_,rfl,by simp [dS],oO,zk,zm⟩
 ·have zK:k=0:=by rw [←e0];simp at h;simp [h]
  subst zK
  rw [Nat.gcd_zero_right]at hg
  subst hg
  refine eV ?_
  refine W.sr ?_
  simp (disch:=omega) [gw,dS]
  refine bL [4] ?_
  exact bV
theorem SL(a b:Int):(if decide (a<0) != decide (b<0)then -((a.natAbs/b.natAbs:Nat):Int)else((a.natAbs/b.natAbs:Nat):Int))=a.tdiv b:=by
 have h:∀x y:Nat,((x/y:Nat):Int)=(x:Int).tdiv y:=fun x y=>by rw [Int.natCast_ediv,Int.tdiv_eq_ediv_of_nonneg (by omega)]
 rw [h]
 by_cases h1:a<0<;>by_cases h2:b<0
 ·simp only [h1,h2,show(a.natAbs:Int) = -a by omega,show(b.natAbs:Int) = -b by omega];simp
 ·simp only [h1,h2,show(a.natAbs:Int) = -a by omega,show(b.natAbs:Int)=b by omega];simp
 ·simp only [h1,h2,show(a.natAbs:Int)=a by omega,show(b.natAbs:Int) = -b by omega];simp
 ·simp only [h1,h2,show(a.natAbs:Int)=a by omega,show(b.natAbs:Int)=b by omega];simp
theorem wJ(a b:Int)(hb:b≠0)(za:Y a)(zb:Y b):aD env.P 143 [RI a,RI b] (RI (a.tdiv b)):=by
 have hdiv:=NL (a.natAbs:Int) (b.natAbs:Int) (by omega) (by omega) (by simpa [Y,sz]using za) (by simpa [Y,sz]using zb)
 have em:(((a.natAbs:Int)%b.natAbs).toNat)=a.natAbs%b.natAbs:=by rw [←Int.natCast_emod];exact Int.toNat_natCast _
 have ed:(((a.natAbs:Int)/b.natAbs).toNat)=a.natAbs/b.natAbs:=by rw [←Int.natCast_ediv];exact Int.toNat_natCast _
 have hs:=SL a b
 refine bY [(0,RI a),(1,RI b)] Tryz.func143 ?_
 refine aA [2,3,4] ?_
 simp only [Dn,em,ed,Int.toNat_natCast]at hdiv
 generalize a.natAbs/b.natAbs=q at *
 generalize a.natAbs%b.natAbs=r at *
 refine aJ [2,3,4,5] hdiv ?_
 refine iB ?_
 refine aB (nK q (decide (a<0) != decide (b<0))) ?_
 rw [hs]
 simp (disch:=omega) [gw]
 refine bL [4] ?_
 exact bV
def re(q:Rat):List PV:=[aI aG (aN DD q.num.natAbs), .bool (decide (q.num<0)),aI aG (aN DD q.den), .bool false]
@[simp] theorem ayH{q:Rat}:re q = [aI aG (aN DD q.num.natAbs), .bool (decide (q.num<0)),aI aG (aN DD q.den), .bool false]:=rfl
abbrev RR(q:Rat):PV:=.ag (re q)
def dM(n d:Int):Rat:=if d=0 then n else Rat.divInt n d
theorem lW(n:Int):dM n 1=n:=by
 rw [dM,if_neg (by decide),Rat.divInt_eq_div]
 grind
structure ZR(k:Nat)(q:Rat):Prop where
 n:sz 2 q.num≤k
 d:sz 2 (q.den:Int)≤k
abbrev YY:Nat:=137438953472
theorem p0(n d:Int)(hd:d≠0):(dM n d).num=(if d<0 then -n else n)/(Int.gcd (if d<0 then -n else n) (if d<0 then -d else d)):=by
 rw [dM,if_neg hd,Rat.num_divInt]
 by_cases h:d<0
 ·simp only [h,if_true]
  rw [Int.sign_eq_neg_one_of_neg h,Int.gcd_comm d n,Int.neg_gcd,Int.gcd_neg];simp
 ·simp only [h,if_false]
  rw [Int.sign_eq_one_of_pos (by omega),Int.gcd_comm d n];simp
theorem p7(n d:Int)(hd:d≠0):((dM n d).den:Int)=(if d<0 then -d else d)/(Int.gcd (if d<0 then -n else n) (if d<0 then -d else d)):=by
 rw [dM,if_neg hd,Rat.den_divInt,if_neg hd]
 by_cases h:d<0
 ·simp only [h,if_true]
  rw [Int.gcd_comm d n,Int.neg_gcd,Int.gcd_neg]
  rw [Int.natCast_ediv];congr 1;omega
 ·simp only [h,if_false]
  rw [Int.gcd_comm d n,Int.natCast_ediv];congr 1;omega
theorem C8{q:Rat}{n d:Int}(h1:q.num=n)(h2:(q.den:Int)=d):RR q = .ag [aI aG (aN DD n.natAbs), .bool (decide (n<0)),aI aG (aN DD d.natAbs), .bool (decide (d<0))]:=by
 subst h1;subst h2
 have:¬((q.den:Int)<0):=by omega
 simp [this]
theorem kK(n d:Int)(zn:Y n)(zd:Y d):aD env.P 64 [RI n,RI d] (RR (dM n d)):=by
 refine cY (E:=env) (fun id=>if id=4 then 2 else 0) [(0,RI n),(1,RI d)] Tryz.func64 rfl (by kernel_rfl) (by kernel_rfl) (show 2≤39 by decide) (by simp) ?_
 refine aA [2,3,4] ?_
 refine W.gD (fun σ=>∃(d1:Int) (rows:Pm.Rows) (clk:Nat),σ=⟨fa [(2, .ptr 2 0 0 0),(3, .ptr 3 1 0 0),(4, .ptr 4 2 0 0)],rows,clk⟩∧rows 2=some ⟨0,29,2,[[aI aG (aN DD n.natAbs), .bool (decide (n<0))]]⟩ ∧
  rows 3=some ⟨1,29,2,[[aI aG (aN DD d1.natAbs), .bool (decide (d1<0))]]⟩∧rows 4=some ⟨2,31,4,[[.nil, .bool false, .nil, .bool false]]⟩∧d1≠0∧dM n d=dM n d1∧Y d1) ?_ ?_
 ·
  refine aJ [2,3,4,7] (GS d) ?_
  refine bC ?_ ?_<;>intro h
  ·have h:=of_decide_eq_true h
   subst h
   refine W.cC (fun K hK=>?_)
   simp (disch:=omega) [gw]
   refine aB (oB 1 (by decide) (by decide)) ?_
   simp (disch:=omega) [gw]
   refine hK _ ⟨_,aC _ [2,3,4],1,_,_,rfl,by simp,by simp,by simp,by decide,by rw [lW];simp [dM],?_⟩
   have:sz 2 1≤1:=dE (by decide) (by decide)
   simp only [Y];omega
  ·have h:=of_decide_eq_false h
   refine W.skip ?_
   exact⟨_,aC _ [2,3,4],d,_,_,rfl,by simp,by simp,by simp,h,rfl,zd⟩
 rintro _ ⟨d1,rows,clk,rfl,bR,cO,dS,JK,hq,zd1⟩
 rw [hq]
 have q1:=p0 n d1 JK
 have q2:=p7 n d1 JK
 generalize dM n d1=q at *
 clear hq zd d
 refine W.gD (fun σ=>∃(n2 d2:Int) (rows:Pm.Rows) (clk:Nat),σ=⟨fa [(2, .ptr 2 0 0 0),(3, .ptr 3 1 0 0),(4, .ptr 4 2 0 0)],rows,clk⟩∧rows 2=some ⟨0,29,2,[[aI aG (aN DD n2.natAbs), .bool (decide (n2<0))]]⟩ ∧
  rows 3=some ⟨1,29,2,[[aI aG (aN DD d2.natAbs), .bool (decide (d2<0))]]⟩∧rows 4=some ⟨2,31,4,[[.nil, .bool false, .nil, .bool false]]⟩∧0<d2∧q.num=n2/Int.gcd n2 d2∧(q.den:Int)=d2/Int.gcd n2 d2∧Y n2∧Y d2) ?_ ?_
 ·
  refine W.sr ?_
  simp (disch:=omega) [gw,cO]
  refine bL [2,3,4,10] ?_
  refine bC ?_ ?_<;>intro h
  ·have h:=of_decide_eq_true h
   simp only [h,if_true]at q1 q2
   have hn:=r7 n
   have hd:=r7 d1
   have zn2:Y (-n):=by simpa [Y,oR]using zn
   have zd2:Y (-d1):=by simpa [Y,oR]using zd1
   obtain⟨n2,hn2⟩:∃m,m = -n:=⟨_,rfl⟩
   obtain⟨d2,Q6⟩:∃m,m = -d1:=⟨_,rfl⟩
   rw [←hn2]at hn zn2 q1 q2
   rw [←Q6]at hd zd2 q1 q2
   refine W.P5 (fun K hK=>?_)
   rw [if_pos rfl,eQ]
   simp (disch:=omega) [gw,bR]
   refine aB hn ?_
   simp (disch:=omega) [gw,bR,cO]
   refine aB hd ?_
   simp (disch:=omega) [gw,bR,cO]
   exact hK _ ⟨_,aC _ [2,3,4],n2,d2,_,_,rfl,by simp,by simp,by simp [dS],by omega,q1,q2,zn2,zd2⟩
  ·have h:=of_decide_eq_false h
   simp only [h,if_false]at q1 q2
   refine W.skip ?_
   exact⟨_,aC _ [2,3,4],n,d1,_,_,rfl,bR,cO,dS,by omega,q1,q2,zn,zd1⟩
 clear bR cO dS q1 q2
 rintro _ ⟨n2,d2,rows,clk,rfl,bR,cO,dS,h0,q1,q2,zn2,zd2⟩
 refine W.seq ?_
 refine W.fG (fun σ=>∃(b:Bool),σ=⟨fa [(2, .ptr 2 0 0 0),(3, .ptr 3 1 0 0),(4, .ptr 4 2 0 0),(25, .bool b)],rows,clk⟩∧(b=true↔(aN DD d2.natAbs).length=1∧nth (aN DD d2.natAbs) 0=1)) (fun K hK=>?_) ?_
 ·by_cases h1:(aN DD d2.natAbs).length=1
  ·have h2:((aN DD d2.natAbs).length:Int)=1:=by omega
   simp (disch:=omega) [gw,cO,h1,h2]
   exact hK _ _ (aC _ [2,3,4,25]) ⟨_,rfl,by simp [h1]⟩
  ·have h2:¬((aN DD d2.natAbs).length:Int)=1:=by omega
   have h3:(((aN DD d2.natAbs).length:Int)==1)=false:=by simpa using h2
   simp (disch:=omega) [gw,cO,h3]
   exact hK _ _ (aC _ [2,3,4,25]) ⟨_,rfl,by simp [h1,h2]⟩
 rintro _ ⟨b,rfl,hb⟩
 refine bC ?_ ?_<;>intro h
 ·have hb:=hb.1 h
  have Q6:d2=1:=by
   have hv:=ate d2
   obtain⟨h1,h2⟩:=hb
   match hl:aN DD d2.natAbs,h1 with
   | [x],_ =>
    rw [hl]at h2 hv
    simp [nth,V]at h2 hv
    omega
  subst Q6
  rw [Int.gcd_one]at q1 q2
  rw [C8 (n:=n2) (d:=1) (by simpa using q1) (by simpa using q2)]
  refine W.sr ?_
  simp (disch:=omega) [gw,bR,cO,dS]
  refine bL [4] ?_
  exact bV
 ·refine W.skip ?_
  have hgp:0<Int.gcd n2 d2:=Int.gcd_pos_of_ne_zero_right _ (by omega)
  have e1:n2.tdiv (Int.gcd n2 d2)=q.num:=by rw [q1];exact Int.tdiv_eq_ediv_of_dvd (Int.gcd_dvd_left ..)
  have e2:d2.tdiv (Int.gcd n2 d2)=q.den:=by rw [q2];exact Int.tdiv_eq_ediv_of_dvd (Int.gcd_dvd_right ..)
  have zg:Y (Int.gcd n2 d2:Int):=C6 zd2 (by
   have:=Int.le_of_dvd h0 (Int.gcd_dvd_right n2 d2);omega)
  have hq1:=wJ n2 (Int.gcd n2 d2) (by omega) zn2 zg
  have hq2:=wJ d2 (Int.gcd n2 d2) (by omega) zd2 zg
  rw [e1]at hq1
  rw [e2]at hq2
  have hg:=C7 n2 d2 zn2 zd2
  obtain⟨g,hgd⟩:∃g:Int,g=Int.gcd n2 d2:=⟨_,rfl⟩
  rw [←hgd]at hg hq1 hq2
  have YZ:¬((q.den:Int)<0):=by omega
  refine W.sr ?_
  simp (disch:=omega) [gw,bR,cO]
  refine aB hg ?_
  simp (disch:=omega) [gw,bR,cO]
  refine bL [2,3,4,5] ?_
  refine W.sd ?_
  simp (disch:=omega) [gw,bR,cO]
  refine aB hq1 ?_
  simp (disch:=omega) [gw,bR,cO]
  refine aB hq2 ?_
  simp (disch:=omega) [gw,bR,cO,dS]
  refine bL [4] ?_
  refine W.ret ?_
  simp [go,YZ]
theorem p8(n d:Int)(h1 : -9223372036854775808≤n∧n<9223372036854775808)(h2 : -9223372036854775808≤d∧d<9223372036854775808):aD env.P 13 [.int .i64 n, .int .i64 d] (RR (dM n d)):=by
 have z:∀x:Int, -9223372036854775808≤x∧x<9223372036854775808→Y x:=fun x hx=>by
  have:sz 2 x≤64:=dE (by decide) (by omega)
  simp only [Y];omega
 have hm:=kK n d (z n h1) (z d h2)
 generalize dM n d=q at *
 refine bY [(0, .int .i64 n),(1, .int .i64 d)] Tryz.func13 ?_
 refine aA [0,1,4] ?_
 refine iB ?_
 refine cB (oB n h1.1 h1.2) ?_
 refine cB (oB d h2.1 h2.2) ?_
 refine bS [4] hm ?_
 exact bV
theorem C9(q:Rat):aD env.P 125 [RR q] (RR (-q)):=by
 have hn:=r7 q.num
 have e:RR (-q) = .ag [aI aG (aN DD (-q.num).natAbs), .bool (decide (-q.num<0)),aI aG (aN DD q.den), .bool false]:=rfl
 rw [e]
 generalize -q.num=m at *
 refine bY [(0,RR q)] Tryz.func125 ?_
 refine aA [1,2] ?_
 refine mP ?_
 refine bS [2] hn ?_
 exact bV
theorem ahn(p q:Rat):dM (p.num*q.den+q.num*p.den) ((p.den:Int)*q.den)=p+q:=by
 have h:((p.den:Int)*q.den)≠0:=by have:=p.den_nz;have:=q.den_nz;simp [Int.mul_eq_zero];omega
 rw [dM,if_neg h,Rat.add_def',←Int.natCast_mul,Rat.divInt_ofNat]
theorem aho(p q:Rat):dM (p.num*q.num) ((p.den:Int)*q.den)=p*q:=by
 have h:((p.den:Int)*q.den)≠0:=by have:=p.den_nz;have:=q.den_nz;simp [Int.mul_eq_zero];omega
 rw [dM,if_neg h,Rat.mul_def',←Int.natCast_mul,Rat.divInt_ofNat]
theorem ahp(p q:Rat)(hq:q≠0):dM (p.num*q.den) ((p.den:Int)*q.num)=p/q:=by
 have hn:q.num≠0:=fun h=>hq (Rat.num_eq_zero.1 h)
 have h:((p.den:Int)*q.num)≠0:=by have:=p.den_nz;exact Int.mul_ne_zero (by omega) hn
 rw [dM,if_neg h,Rat.div_def,Rat.inv_def,←Rat.divInt_mul_divInt,Rat.num_divInt_den]
theorem wK(p q:Rat)(hp:ZR YY p)(hq:ZR YY q):aD env.P 100 [RR p,RR q] (RR (p+q)):=by
 have s1:=cD (b:=2) (by decide) hp.n hq.d
 have s2:=cD (b:=2) (by decide) hq.n hp.d
 have s3:=cD (b:=2) (by decide) hp.d hq.d
 have s4:=nE (b:=2) (by decide) s1 s2
 have zz:∀ {x:Int},sz 2 x≤YY→Z x:=fun h=>by simp only [Z,YY]at *;omega
 have m1:=eO p.num q.den (zz hp.n) (zz hq.d)
 have m2:=eO q.num p.den (zz hq.n) (zz hp.d)
 have m3:=eO p.den q.den (zz hp.d) (zz hq.d)
 have m4:=C5 (p.num*q.den) (q.num*p.den) (by simp only [Z,YY]at *;omega) (by simp only [Z,YY]at *;omega)
 have m5:=kK (p.num*q.den+q.num*p.den) ((p.den:Int)*q.den) (by simp only [Y,YY]at *;omega) (by simp only [Y,YY]at *;omega)
 rw [ahn]at m5
 generalize p.num*q.den+q.num*p.den=x5 at *
 generalize p.num*q.den=x1 at *
 generalize q.num*(p.den:Int)=x2 at *
 generalize (p.den:Int)*q.den=x3 at *
 generalize hr:p+q=r at *
 have d1:RR p = .ag [aI aG (aN DD p.num.natAbs), .bool (decide (p.num<0)),aI aG (aN DD (p.den:Int).natAbs), .bool (decide ((p.den:Int)<0))]:=C8 rfl rfl
 have d2:RR q = .ag [aI aG (aN DD q.num.natAbs), .bool (decide (q.num<0)),aI aG (aN DD (q.den:Int).natAbs), .bool (decide ((q.den:Int)<0))]:=C8 rfl rfl
 rw [d1,d2]
 generalize (p.den:Int)=pd at *
 generalize (q.den:Int)=qd at *
 generalize p.num=pn at *
 generalize q.num=qn at *
 refine bY [(0, .ag [aI aG (aN DD pn.natAbs), .bool (decide (pn<0)),aI aG (aN DD pd.natAbs), .bool (decide (pd<0))]),(1, .ag [aI aG (aN DD qn.natAbs), .bool (decide (qn<0)),aI aG (aN DD qd.natAbs), .bool (decide (qd<0))])] Tryz.func100 ?_
 refine aA [2,3,4] ?_
 refine mP ?_
 refine cB m1 ?_
 refine cB m2 ?_
 refine cB m4 ?_
 refine cB m3 ?_
 refine bS [4] m5 ?_
 exact bV
theorem DA(p q:Rat)(hp:ZR YY p)(hq:ZR YY q):aD env.P 101 [RR p,RR q] (RR (p*q)):=by
 have s1:=cD (b:=2) (by decide) hp.n hq.n
 have s2:=cD (b:=2) (by decide) hp.d hq.d
 have zz:∀ {x:Int},sz 2 x≤YY→Z x:=fun h=>by simp only [Z,YY]at *;omega
 have m1:=eO p.num q.num (zz hp.n) (zz hq.n)
 have m2:=eO p.den q.den (zz hp.d) (zz hq.d)
 have m5:=kK (p.num*q.num) ((p.den:Int)*q.den) (by simp only [Y,YY]at *;omega) (by simp only [Y,YY]at *;omega)
 rw [aho]at m5
 generalize p.num*(q.num:Int)=x1 at *
 generalize (p.den:Int)*q.den=x2 at *
 generalize hr:p*q=r at *
 have d1:RR p = .ag [aI aG (aN DD p.num.natAbs), .bool (decide (p.num<0)),aI aG (aN DD (p.den:Int).natAbs), .bool (decide ((p.den:Int)<0))]:=C8 rfl rfl
 have d2:RR q = .ag [aI aG (aN DD q.num.natAbs), .bool (decide (q.num<0)),aI aG (aN DD (q.den:Int).natAbs), .bool (decide ((q.den:Int)<0))]:=C8 rfl rfl
 rw [d1,d2]
 generalize (p.den:Int)=pd at *
 generalize (q.den:Int)=qd at *
 generalize p.num=pn at *
 generalize q.num=qn at *
 refine bY [(0, .ag [aI aG (aN DD pn.natAbs), .bool (decide (pn<0)),aI aG (aN DD pd.natAbs), .bool (decide (pd<0))]),(1, .ag [aI aG (aN DD qn.natAbs), .bool (decide (qn<0)),aI aG (aN DD qd.natAbs), .bool (decide (qd<0))])] Tryz.func101 ?_
 refine aA [2,3,4] ?_
 refine mP ?_
 refine cB m1 ?_
 refine cB m2 ?_
 refine bS [4] m5 ?_
 exact bV
theorem DB(p q:Rat)(hp:ZR YY p)(hq:ZR YY q)(h0:q≠0):aD env.P 231 [RR p,RR q] (RR (p/q)):=by
 have s1:=cD (b:=2) (by decide) hp.n hq.d
 have s2:=cD (b:=2) (by decide) hp.d hq.n
 have zz:∀ {x:Int},sz 2 x≤YY→Z x:=fun h=>by simp only [Z,YY]at *;omega
 have m1:=eO p.num q.den (zz hp.n) (zz hq.d)
 have m2:=eO p.den q.num (zz hp.d) (zz hq.n)
 have m5:=kK (p.num*q.den) ((p.den:Int)*q.num) (by simp only [Y,YY]at *;omega) (by simp only [Y,YY]at *;omega)
 rw [ahp p q h0]at m5
 generalize p.num*(q.den:Int)=x1 at *
 generalize (p.den:Int)*q.num=x2 at *
 generalize hr:p/q=r at *
 have d1:RR p = .ag [aI aG (aN DD p.num.natAbs), .bool (decide (p.num<0)),aI aG (aN DD (p.den:Int).natAbs), .bool (decide ((p.den:Int)<0))]:=C8 rfl rfl
 have d2:RR q = .ag [aI aG (aN DD q.num.natAbs), .bool (decide (q.num<0)),aI aG (aN DD (q.den:Int).natAbs), .bool (decide ((q.den:Int)<0))]:=C8 rfl rfl
 rw [d1,d2]
 generalize (p.den:Int)=pd at *
 generalize (q.den:Int)=qd at *
 generalize p.num=pn at *
 generalize q.num=qn at *
 refine bY [(0, .ag [aI aG (aN DD pn.natAbs), .bool (decide (pn<0)),aI aG (aN DD pd.natAbs), .bool (decide (pd<0))]),(1, .ag [aI aG (aN DD qn.natAbs), .bool (decide (qn<0)),aI aG (aN DD qd.natAbs), .bool (decide (qd<0))])] Tryz.func231 ?_
 refine aA [2,3,4] ?_
 refine mP ?_
 refine cB m1 ?_
 refine cB m2 ?_
 refine bS [4] m5 ?_
 exact bV
theorem NM:aD env.P 99 [] (RR 0):=by
 have h:=p8 0 1 (by decide) (by decide)
 rw [lW]at h
 refine bY [] Tryz.func99 ?_
 refine aA [0] ?_
 refine aJ [0] h ?_
 exact bV
def nV:List Rat→List Rat
 | []=>[]
 | x::l=>if nV l = []∧x=0 then []else x::nV l
theorem GV:∀l:List Rat,nV (l ++ [0])=nV l
 | []=>by simp [nV]
 | x::l=>by simp [nV,GV l]
theorem VQ{x:Rat}(h:x≠0):∀l:List Rat,nV (l ++ [x])=l ++ [x]
 | []=>by
  show nV [x] = [x]
  rw [nV,if_neg (fun hh=>h hh.2)];rfl
 | y::l=>by
  have ih:=VQ h l
  have hn:¬(l ++ [x] = []∧y=0):=by simp
  show nV (y::(l ++ [x]))=y::(l ++ [x])
  rw [nV,ih,if_neg hn]
abbrev qs(x:List Int):List Rat:=x.map fun(c:Int)=>(c:Rat)
theorem wL:∀x:List Int,nV (qs x)=qs (aP x)
 | []=>rfl
 | a::x=>by
  have ih:=wL x
  simp only [qs,List.map_cons]at ih ⊢
  rw [nV,ih,aP]
  by_cases h:aP x = []∧a=0
  ·simp [h]
  ·rw [if_neg h,if_neg (by simpa using h)];simp
@[simp] theorem ap5{l:List Rat}:bM 4 (emap re l)=True:=dO fun _=>rfl
@[simp] theorem anm{v e n:Nat}{l:List Rat}:dJ (some ⟨v,e,n,emap re l⟩)=True:=dC fun _=>rfl
abbrev PP(l:List Rat):PV:=aI re l
theorem wM(l:List Rat)(hl:l.length<17592186044416):aD env.P 102 [PP l] (PP (nV l)):=by
 refine bY [(0,PP l)] Tryz.func102 ?_
 refine aA [0] ?_
 refine aA [0,3] ?_
 refine W.seq (W.block ?_)
 refine W.bG (fun k σ=>∃(rows:Pm.Rows) (clk:Nat),σ=⟨fa [(0,PP l),(3, .int .i64 (k:Int))],rows,clk⟩∧k≤l.length∧nV l=nV (l.take k)) l.length ?_ ?_
 ·exact⟨_, .refl,_,_,rfl,by omega,by simp⟩
 rintro k _ ⟨rows,clk,rfl,hk,hc⟩
 refine W.seq ?_
 refine W.fG (fun σ=>∃(b:Bool),σ=⟨fa [(0,PP l),(3, .int .i64 (k:Int)),(16, .bool b)],rows,clk⟩∧(b=true↔0<k∧nth l (k-1)=0)) (fun K hK=>?_) ?_
 ·simp
  by_cases h0:0<k
  ·simp (disch:=omega) [gw,h0]
   refine aB (GS (nth l (k-1)).num) ?_
   simp (disch:=omega) [gw,h0]
   refine hK _ _ (aC _ [0,3,16]) ⟨_,rfl,?_⟩
   simp [h0,Rat.num_eq_zero]
  ·simp (disch:=omega) [gw,h0]
   exact hK _ _ (aC _ [0,3,16]) ⟨_,rfl,by simp [h0]⟩
 rintro _ ⟨b,rfl,hb⟩
 refine bC ?_ ?_<;>intro h
 ·obtain⟨h0,h1⟩:=hb.1 h
  refine W.skip (W.block ?_)
  refine W.cC (fun K hK=>?_)
  simp (disch:=omega) [gw]
  refine hK _ ⟨k-1,_,Gh.fr [(0,_),(3, .int .i64 ((k-1:Nat):Int))] (by simp;omega),by omega,_,_,rfl,by omega,?_⟩
  rw [hc,show k=(k-1)+1 by omega,bI (by omega),h1,GV]
  simp
 ·have h2:nV l=l.take k:=by
   rw [hc]
   by_cases h0:0<k
   ·have h1:nth l (k-1)≠0:=fun h1=>by simp [hb.2 ⟨h0,h1⟩]at h
    rw [show k=(k-1)+1 by omega,bI (by omega)]
    exact VQ h1 _
   ·have:k=0:=by omega
    subst this;simp [nV]
  refine eV ?_
  refine aA [2] ?_
  refine W.ret ?_
  simp [h2]
def ri(x:Int):List PV:=[aI aG (aN DD x.natAbs), .bool (decide (x<0)),aI aG (aN DD 1), .bool false]
@[simp] theorem ac4{x:Int}:ri x = [aI aG (aN DD x.natAbs), .bool (decide (x<0)),aI aG (aN DD 1), .bool false]:=rfl
theorem fT(x:Int):re (x:Rat)=ri x:=by
 simp only [re,ri,Rat.num_intCast,Rat.den_intCast]
 congr
theorem qV(x:List Int):PP (qs x)=aI ri x:=by simp only [PP,aI,emap,qs,List.map_map,Function.comp_def,fT]
abbrev PI(x:List Int):PV:=aI ri x
@[simp] theorem ap6{l:List Int}:bM 4 (emap ri l)=True:=dO fun _=>rfl
@[simp] theorem ann{v e n:Nat}{l:List Int}:dJ (some ⟨v,e,n,emap ri l⟩)=True:=dC fun _=>rfl
@[simp] theorem ayI{l:List Int}{x:Int}:emap ri l ++ [[aI aG (aN DD x.natAbs), .bool (decide (x<0)),aI aG (aN DD 1), .bool false]]=emap ri (l ++ [x]):=by simp [emap]
@[simp] theorem ayJ{l:List Rat}{q:Rat}:emap re l ++ [[aI aG (aN DD q.num.natAbs), .bool (decide (q.num<0)),aI aG (aN DD q.den), .bool false]]=emap re (l ++ [q]):=by simp [emap]
@[simp] theorem atq{l:List Int}{i:Nat}{x:Int}:iT (emap ri l) i 0 [aI aG (aN DD x.natAbs), .bool (decide (x<0)),aI aG (aN DD 1), .bool false]=emap ri (l.set i x):=A6 (n:=4) (fun _=>rfl)
theorem pD(l:List Int)(hl:l.length<17592186044416):aD env.P 102 [PI l] (PI (aP l)):=by
 have:=wM (qs l) (by simpa using hl)
 rwa [wL,qV,qV]at this
theorem GW(n:Int)(zn:Y n):aD env.P 64 [RI n,RI 1] (.ag (ri n)):=by
 have:=kK n 1 zn (by have:sz 2 1≤1:=dE (by decide) (by decide);simp only [Y];omega)
 rwa [lW,RR,fT]at this
theorem pE:aD env.P 99 [] (.ag (ri 0)):=by
 have:=NM
 rwa [RR,show(0:Rat)=((0:Int):Rat)by simp,fT]at this
theorem NN(n:Int)(h1 : -9223372036854775808≤n∧n<9223372036854775808):aD env.P 13 [.int .i64 n, .int .i64 1] (.ag (ri n)):=by
 have:=p8 n 1 h1 (by decide)
 rwa [lW,RR,fT]at this
theorem oU{x:Int}{k:Nat}(h:sz 2 x≤k)(h1:1≤k):ZR k (x:Rat):=⟨by simpa using h,by simp;exact Nat.le_trans (dE (by decide) (by decide)) h1⟩
theorem ZD(x y:Int)(hx:sz 2 x≤YY)(hy:sz 2 y≤YY):aD env.P 100 [.ag (ri x), .ag (ri y)] (.ag (ri (x+y))):=by
 have:=wK x y (oU hx (by decide)) (oU hy (by decide))
 rwa [←Rat.intCast_add,RR,RR,RR,fT,fT,fT]at this
theorem GX(x y:Int)(hx:sz 2 x≤YY)(hy:sz 2 y≤YY):aD env.P 101 [.ag (ri x), .ag (ri y)] (.ag (ri (x*y))):=by
 have:=DA x y (oU hx (by decide)) (oU hy (by decide))
 rwa [←Rat.intCast_mul,RR,RR,RR,fT,fT,fT]at this
structure FOK(p:RP):Prop where
 ok:∀c∈p,cU 4294967296 c.2∧c.2.length<4294967296
 len:p.length<1099511627776
theorem ZE(p:RP)(h:FOK p):aD env.P 83 [Pg p] (PI (aP (p.map gv))):=by
 refine bY [(0,Pg p)] Tryz.func83 ?_
 have hl:=h.len
 refine aA [0] ?_
 refine aA [0,3] ?_
 refine W.nil 3 3 31 4 (by simp) (by decide) (fun K hK=>?_)
 refine W.lw [0,3] hK ?_;clear hK K;simp
 refine aL [0,3,6,7] ?_
 refine W.block ?_
 refine W.bG (fun k σ=>∃(i ver:Nat) (rows:Pm.Rows) (clk:Nat),σ=⟨fa [(0,Pg p),(3, .own 3 ver 0 i),(6, .int .i64 p.length),(7, .int .i64 i)],rows,clk⟩∧rows 3=some ⟨ver,31,4,emap ri ((p.take i).map gv)⟩∧k=p.length-i∧i≤p.length) p.length ?_ ?_
 ·exact⟨_, .refl,0,_,_,_,rfl,by simp [emap],by omega,by omega⟩
 rintro k _ ⟨i,ver,rows,clk,rfl,hr,hk,hi⟩
 refine b9 [0,3,6,7,8] ?_
 refine W.cond ⟨_,rfl,fun h0=>?_,fun h0=>?_⟩
 ·simp at h0
  obtain⟨vI,XU⟩:=h.ok _ (bP h0)
  have gC:((p.take i).map gv).length=i:=by simp;omega
  have hz:Y (iv (nth p i).1 (nth p i).2):=by
   have h1:=acP vI
   have h2:sz 2 (iv (nth p i).1 (nth p i).2)=sz 2 (V 4294967296 (nth p i).2):=by unfold iv;split<;>simp [oR]
   simp only [Y];omega
  have hF:=GR (nth p i).1 (nth p i).2 (by omega) vI
  have hM:=GW _ hz
  obtain⟨v,hv⟩:∃v,v=iv (nth p i).1 (nth p i).2:=⟨_,rfl⟩
  rw [←hv]at hF hM
  refine kW ?_
  refine aA [0,3,4,6,7] ?_
  refine W.cC (fun K hK=>?_)
  simp (disch:=omega) [gw]
  refine cB hF ?_
  refine aB (oB 1 (by decide) (by decide)) ?_
  simp (disch:=omega) [gw]
  refine aB hM ?_
  simp (disch:=omega) [gw,hr,gC]
  refine W.lw [0,3,6,7] hK ?_;clear hK K;simp
  refine W.cC (fun K hK=>?_);simp (disch:=omega) [gw]
  refine hK _ ⟨p.length-(i+1),_,aC _ [0,3,6,7],by omega,i+1,_,_,_,rfl,?_,by omega,by omega⟩
  rw [oS h0,show gv (nth p i)=v from hv.symm]
  simp
 ·simp at h0
  have lT:i=p.length:=by omega
  subst lT
  refine eV ?_
  refine W.sr ?_
  have ez:(p.map gv).take p.length=p.map gv:=bO (by simp)
  simp (disch:=omega) [gw,hr,ez]
  refine aB (pD (p.map gv) (by simp;omega)) ?_
  simp (disch:=omega) [gw]
  refine bL [2] ?_
  exact bV
theorem wN(l:List Int)(hl:l.length<1099511627776)(hb:∀x∈l, -9223372036854775808≤x∧x<9223372036854775808):aD env.P 96 [aI aG l] (PI (aP l)):=by
 refine bY [(0,aI aG l)] Tryz.func96 ?_
 refine aA [0] ?_
 refine aA [0,3] ?_
 refine W.nil 3 3 31 4 (by simp) (by decide) (fun K hK=>?_)
 refine W.lw [0,3] hK ?_;clear hK K;simp
 refine aL [0,3,6,7] ?_
 refine W.block ?_
 refine W.bG (fun k σ=>∃(i ver:Nat) (rows:Pm.Rows) (clk:Nat),σ=⟨fa [(0,aI aG l),(3, .own 3 ver 0 i),(6, .int .i64 l.length),(7, .int .i64 i)],rows,clk⟩∧rows 3=some ⟨ver,31,4,emap ri (l.take i)⟩∧k=l.length-i∧i≤l.length) l.length ?_ ?_
 ·exact⟨_, .refl,0,_,_,_,rfl,by simp [emap],by omega,by omega⟩
 rintro k _ ⟨i,ver,rows,clk,rfl,hr,hk,hi⟩
 refine b9 [0,3,6,7,8] ?_
 refine W.cond ⟨_,rfl,fun h0=>?_,fun h0=>?_⟩
 ·simp at h0
  have gC:(l.take i).length=i:=by simp;omega
  refine kW ?_
  refine aA [0,3,4,6,7] ?_
  refine W.cC (fun K hK=>?_)
  simp (disch:=omega) [gw]
  refine aB (NN (nth l i) (hb _ (bP h0))) ?_
  simp (disch:=omega) [gw,hr,gC]
  refine W.lw [0,3,6,7] hK ?_;clear hK K;simp
  refine W.cC (fun K hK=>?_);simp (disch:=omega) [gw]
  refine hK _ ⟨l.length-(i+1),_,aC _ [0,3,6,7],by omega,i+1,_,_,_,rfl,?_,by omega,by omega⟩
  rw [bI h0]
  simp
 ·simp at h0
  have lT:i=l.length:=by omega
  subst lT
  refine eV ?_
  refine W.sr ?_
  simp (disch:=omega) [gw,hr]
  refine aB (pD l (by omega)) ?_
  simp (disch:=omega) [gw]
  refine bL [2] ?_
  exact bV
structure ZF(l:List Rat):Prop where
 ok:∀q∈l,ZR YY q
 len:l.length<1099511627776
theorem ahq(k:Nat)(hk:1≤k):ZR k 0:=⟨by show sz 2 0≤k;rw [kI];omega,by show sz 2 1≤k;exact Nat.le_trans (dE (by decide) (by decide)) hk⟩
theorem ZF.nth{l:List Rat}(h:ZF l)(i:Nat):ZR YY (nth l i):=by
 by_cases hi:i<l.length
 ·exact h.ok _ (bP hi)
 ·rw [iG (by omega)];exact ahq _ (by decide)
theorem ZF.qs{x:List Int}(h:∀c∈x,sz 2 c≤YY)(hl:x.length<1099511627776):ZF (qs x):=⟨fun q hq=>by
 simp only [List.mem_map]at hq
 obtain⟨c,hc,rfl⟩:=hq
 exact oU (h c hc) (by decide),by simpa using hl⟩
@[simp] theorem ano{l:List Rat}:(∀e∈emap re l,∀p∈e,cR p=true)=True:=by simp [emap]
theorem VR(l:List Rat)(i:Nat)(hi:i<9223372036854775808):aD env.P 250 [PP l, .int .i64 i] (RR (nth l i)):=by
 have hzero:=NM
 refine bY [(0,PP l),(1, .int .i64 i)] Tryz.func250 ?_
 refine b9 [0,1,4] ?_
 refine W.fG (fun σ=>∃(b:Bool) (rows:Pm.Rows) (clk:Nat),σ=⟨fa [(0,PP l),(1, .int .i64 i),(4, .ptr 4 0 0 0),(12, .bool b)],rows,clk⟩∧(b=true↔l.length≤i)∧rows 4=some ⟨0,31,4,[[.nil, .bool false, .nil, .bool false]]⟩) (fun K hK=>?_) ?_
 ·have hn:¬((i:Int)<0):=by omega
  simp (disch:=omega) [gw,hn]
  exact hK _ _ (aC _ [0,1,4,12]) ⟨_,_,_,rfl,by simp,by simp⟩
 rintro _ ⟨b,rows,clk,rfl,hb,dS⟩
 refine bC ?_ ?_<;>intro h
 ·have hb:=hb.1 h
  have e:nth l i=0:=iG hb
  rw [e]
  generalize (0:Rat)=z at *
  refine iB ?_
  refine aB hzero ?_
  simp (disch:=omega) [gw,dS]
  refine bL [4] ?_
  exact bV
 ·have hb:i<l.length:=Nat.lt_of_not_le fun h2=>by simp [hb.2 h2]at h
  refine W.skip ?_
  refine W.sr ?_
  simp (disch:=omega) [gw,dS]
  refine bL [4] ?_
  exact bV
def ac5(a b:List Rat):List Rat:=nV ((List.range (max a.length b.length)).map fun k=>nth a k+nth b k)
theorem ac6(a b:List Rat)(ha:ZF a)(hb:ZF b):aD env.P 203 [PP a,PP b] (PP (ac5 a b)):=by
 have hal:=ha.len;have hbl:=hb.len
 refine bY [(0,PP a),(1,PP b)] Tryz.func203 ?_
 obtain⟨M,hM⟩:∃M,M=max a.length b.length:=⟨_,rfl⟩
 refine aA [0,1] ?_
 refine aA [0,1,5] ?_
 refine W.nil 5 5 31 4 (by simp) (by decide) (fun K hK=>?_)
 refine W.lw [0,1,5] hK ?_;clear hK K;simp
 refine aL [0,1,5,6] ?_
 refine W.block ?_
 refine W.bG (fun k σ=>∃(i ver:Nat) (rows:Pm.Rows) (clk:Nat),σ=⟨fa [(0,PP a),(1,PP b),(5, .own 5 ver 0 i),(6, .int .i64 i)],rows,clk⟩∧rows 5=some ⟨ver,31,4,emap re ((List.range i).map fun k=>nth a k+nth b k)⟩∧k=M-i∧i≤M) M ?_ ?_
 ·exact⟨_, .refl,0,_,_,_,rfl,by simp [emap],by omega,by omega⟩
 rintro k _ ⟨i,ver,rows,clk,rfl,hr,hk,hi⟩
 have em:(if a.length<b.length then(b.length:Int)else(a.length:Int))=M:=by split<;>omega
 have em2:(if b.length<a.length then(a.length:Int)else(b.length:Int))=M:=by split<;>omega
 refine W.seq ?_
 refine W.sr ?_
 simp (disch:=omega) [gw,em,em2]
 refine bL [0,1,5,6,13] ?_
 refine bC ?_ ?_<;>intro h
 ·have h:i<M:=by simp at h;omega
  refine kW ?_
  have h1:=VR a i (by omega)
  have h2:=VR b i (by omega)
  have h3:=wK _ _ (ha.nth i) (hb.nth i)
  have er:(List.range (i+1)).map (fun k=>nth a k+nth b k)=(List.range i).map (fun k=>nth a k+nth b k) ++ [nth a i+nth b i]:=by rw [List.range_succ];simp
  have gC:((List.range i).map fun k=>nth a k+nth b k).length=i:=by simp
  generalize ((List.range i).map fun k=>nth a k+nth b k)=acc at *
  generalize nth a i+nth b i=q at *
  generalize nth a i=u at *
  generalize nth b i=v at *
  refine W.cC (fun K hK=>?_)
  simp (disch:=omega) [gw]
  refine cB h1 ?_
  refine cB h2 ?_
  refine aB h3 ?_
  simp (disch:=omega) [gw,hr,gC]
  refine W.lw [0,1,5,6] hK ?_;clear hK K;simp
  refine W.cC (fun K hK=>?_);simp (disch:=omega) [gw]
  refine hK _ ⟨M-(i+1),_,aC _ [0,1,5,6],by omega,i+1,_,_,_,rfl,by rw [er];simp,by omega,by omega⟩
 ·have h:i=M:=by simp at h;omega
  subst h
  refine eV ?_
  have gC:((List.range i).map fun k=>nth a k+nth b k).length=i:=by simp
  rw [ac5,←hM]
  generalize ((List.range i).map fun k=>nth a k+nth b k)=acc at *
  have ez:=bO gC
  refine W.sr ?_
  simp (disch:=omega) [gw,hr,ez]
  refine aB (wM acc (by omega)) ?_
  simp (disch:=omega) [gw]
  refine bL [4] ?_
  exact bV
def kN(a:List Rat)(c:Rat):List Rat:=nV (a.map fun x=>x*c)
theorem p9(a:List Rat)(c:Rat)(ha:ZF a)(hc:ZR YY c):aD env.P 98 [PP a,RR c] (PP (kN a c)):=by
 have hal:=ha.len
 refine cY (E:=env) (fun id=>if id=5 then 2 else 0) [(0,PP a),(1,RR c)] Tryz.func98 rfl (by kernel_rfl) (by kernel_rfl) (show 2≤24 by decide) (by simp) ?_
 refine aA [0,3] ?_
 refine aA [0,3,5] ?_
 refine W.nil 5 5 31 4 (by simp) (by decide) (fun K hK=>?_)
 refine W.lw [0,3,5] hK ?_;clear hK K;simp
 refine aL [0,3,5,8,9] ?_
 refine W.block ?_
 refine W.bG (fun k σ=>∃(i ver:Nat) (rows:Pm.Rows) (clk:Nat),σ=⟨fa [(0,PP a),(3, .ptr 3 0 0 0),(5, .own 5 ver 0 i),(8, .int .i64 a.length),(9, .int .i64 i)],rows,clk⟩∧rows 5=some ⟨ver,31,4,emap re ((a.take i).map fun x=>x*c)⟩∧rows 3=some ⟨0,31,4,[re c]⟩∧k=a.length-i∧i≤a.length) a.length ?_ ?_
 ·exact⟨_, .refl,0,_,_,_,rfl,by simp [emap],by simp,by omega,by omega⟩
 rintro k _ ⟨i,ver,rows,clk,rfl,hr,cO,hk,hi⟩
 refine b9 [0,3,5,8,9,10] ?_
 refine bC ?_ ?_<;>intro h
 ·simp at h
  refine kW ?_
  refine aA [0,3,5,6,8,9] ?_
  have h3:=DA _ _ (ha.nth i) hc
  have er:=oS (f:=fun x=>x*c) h
  have gC:((a.take i).map fun x=>x*c).length=i:=by simp;omega
  generalize (a.take i).map (fun x=>x*c)=acc at *
  generalize hq:nth a i*c=q at *
  refine W.P5 (fun K hK=>?_)
  rw [if_pos rfl,eQ]
  simp (disch:=omega) [gw,cO]
  refine aB h3 ?_
  simp (disch:=omega) [gw,hr,cO,gC]
  refine W.lw [0,3,5,8,9] hK ?_;clear hK K;simp
  refine W.cC (fun K hK=>?_);simp (disch:=omega) [gw]
  refine hK _ ⟨a.length-(i+1),_,aC _ [0,3,5,8,9],by omega,i+1,_,_,_,rfl,by rw [er];simp,by simp [cO],by omega,by omega⟩
 ·simp at h
  have lT:i=a.length:=by omega
  subst lT
  refine eV ?_
  rw [List.take_length]at hr
  rw [kN]
  have gC:(a.map fun x=>x*c).length=a.length:=by simp
  generalize a.map (fun x=>x*c)=acc at *
  have ez:=bO gC
  refine W.sr ?_
  simp (disch:=omega) [gw,hr,ez]
  refine aB (wM acc (by omega)) ?_
  simp (disch:=omega) [gw]
  refine bL [4] ?_
  exact bV
theorem NO(a:List Rat)(ha:ZF a):aD env.P 172 [PP a] (PP (kN a (-1))):=by
 have h1:=p8 (-1) 1 (by decide) (by decide)
 rw [lW,show(((-1:Int)):Rat) = -1 by simp]at h1
 have h2:=p9 a (-1) ha ⟨by show sz 2 (-1)≤YY;exact Nat.le_trans (dE (k:=1) (by decide) (by decide)) (by decide),by show sz 2 1≤YY;exact Nat.le_trans (dE (k:=1) (by decide) (by decide)) (by decide)⟩
 generalize (-1:Rat)=c at *
 refine bY [(0,PP a)] Tryz.func172 ?_
 refine aA [0] ?_
 refine iB ?_
 refine cB h1 ?_
 refine bS [2] h2 ?_
 exact bV
theorem ac7(x:List Int)(k:Nat):nth (qs x) k=((nth x k:Int):Rat):=A3 (f:=fun(c:Int)=>(c:Rat)) rfl x k
theorem GY(x:List Int)(c:Int):kN (qs x) (c:Rat)=qs (bB x c):=by
 rw [kN,bB,←wL]
 congr 1
 simp [qs,Function.comp_def]
theorem SM(x:List Int):bB x (-1)=gV x:=by simp [bB,gV]
theorem GZ(x:List Int)(hx:Bd 2 YY 1099511627775 x):aD env.P 172 [PI x] (PI (gV x)):=by
 have:=NO (qs x) (.qs hx.sz (by have:=hx.len;omega))
 rwa [show(-1:Rat)=((-1:Int):Rat)by simp,GY,SM,qV,qV]at this
theorem NP(x:List Int)(c:Int)(hx:Bd 2 YY 1099511627775 x)(hc:sz 2 c≤YY):aD env.P 98 [PI x, .ag (ri c)] (PI (bB x c)):=by
 have:=p9 (qs x) c (.qs hx.sz (by have:=hx.len;omega)) (oU hc (by decide))
 rwa [GY,qV,qV,RR,fT]at this
theorem pF(x y:List Int)(s s' n n':Nat)(hs:Bd 2 s n x)(AD:Bd 2 s' n' y)(hB:s+s'+n+n'<YY):aD env.P 30 [PI x,PI y] (PI (bT x y)):=by
 have hlx:=hs.len;have hly:=AD.len
 have hB2:s+s'+n+n'<137438953472:=hB
 refine cY (E:=env) (fun id=>if id=15 then 1 else 0) [(0,PI x),(1,PI y)] Tryz.func30 rfl (by kernel_rfl) (by kernel_rfl) (show 2≤69 by decide) (by simp) ?_
 refine b9 [0,1] ?_
 refine W.fG (fun σ=>∃(b:Bool),σ=⟨fa [(0,PI x),(1,PI y),(16, .bool b)],fun _=>none,0⟩∧(b=true↔x = []∨y = [])) (fun K hK=>?_) ?_
 ·simp
  have e1:((x.length:Int)==0)=decide (x = []):=by
   cases x<;>simp<;>omega
  have e2:((y.length:Int)==0)=decide (y = []):=by
   cases y<;>simp<;>omega
  rw [e1]
  by_cases h0:x = []
  ·have e3:decide (x = [])=true:=by simp [h0]
   rw [e3]
   simp
   exact hK _ _ (aC _ [0,1,16]) ⟨_,rfl,by simp [h0]⟩
  ·have e3:decide (x = [])=false:=by simp [h0]
   rw [e3]
   simp
   exact hK _ _ (aC _ [0,1,16]) ⟨_,rfl,by rw [e2];simp [h0]⟩
 rintro _ ⟨b,rfl,hb⟩
 refine bC ?_ ?_<;>intro h
 ·have e:bT x y = []:=by
   have h1:=hb.1 h
   refine Cn.ext (Cn.bT _ _) Cn.nil fun t=>?_
   rw [dI]
   rcases h1 with rfl | rfl<;>simp [V]
  refine aA [4] ?_
  refine W.ret ?_
  simp [go,e]
  rfl
 ·have h1:¬(x = []∨y = []):=fun h2=>by simp [hb.2 h2]at h
  have oT:0<x.length:=List.length_pos_iff.2 fun h2=>h1 (.inl h2)
  have SB:0<y.length:=List.length_pos_iff.2 fun h2=>h1 (.inr h2)
  clear h hb h1
  have e0:((x.length:Int)+(y.length:Int)-1).toNat=x.length+y.length-1:=by omega
  have e9:((x.length+y.length-1:Nat):Int)=(x.length:Int)+(y.length:Int)-1:=by omega
  refine W.skip ?_
  refine W.sr ?_
  simp (disch:=omega) [gw,e0]
  refine bL [0,1,5] ?_
  refine aL [0,1,5,25,26] ?_
  refine W.block ?_
  refine W.bG (fun k σ=>∃(i ver:Nat) (els:List (List PV)) (rows:Pm.Rows) (clk:Nat),σ=⟨fa [(0,PI x),(1,PI y),(5, .own 23 ver 0 (x.length+y.length-1)),(25, .int .i64 ((x.length+y.length-1:Nat):Int)),(26, .int .i64 i)],rows,clk⟩ ∧
   rows 23=some ⟨ver,31,4,els⟩∧els.length=x.length+y.length-1∧(∀e∈els,e.length=4)∧els.take i=emap ri (List.replicate i 0)∧k=x.length+y.length-1-i∧i≤x.length+y.length-1) (x.length+y.length-1) ?_ ?_
  ·exact⟨_,Gh.fr [(0,PI x),(1,PI y),(5, .own 23 0 0 (x.length+y.length-1)),(25, .int .i64 ((x.length+y.length-1:Nat):Int)),(26, .int .i64 (0:Nat))] (by simp),0,_,List.replicate (x.length+y.length-1) [.nil, .bool false, .nil, .bool false],_,_,rfl,by simp [e0],by simp,by simp,by simp [emap],by omega,by omega⟩
  rintro k _ ⟨i,ver,els,rows,clk,rfl,hr,mW,NQ,rA,hk,hi⟩
  have R9:bM 4 els=True:=by simp only [bM,eq_iff_iff,iff_true];exact NQ
  refine b9 [0,1,5,25,26,27] ?_
  refine bC ?_ ?_<;>intro h
  ·have h:i<x.length+y.length-1:=by simp at h;omega
   refine kW ?_
   refine aA [0,1,5,6,25,26] ?_
   refine W.cC (fun K hK=>?_)
   simp (disch:=omega) [gw]
   refine aB pE ?_
   have uT:i<els.length:=by omega
   have hE:uA els i 4=True:=by
    simp only [eq_iff_iff,iff_true]
    exact⟨els[i],List.getElem?_eq_getElem uT,by rw [NQ _ (List.getElem_mem uT)];omega⟩
   have hS:iT els i 0 [aI aG (aN DD 0), .bool false,aI aG (aN DD 1), .bool false]=els.set i (ri 0):=by
    have h4:=NQ _ (List.getElem_mem uT)
    rw [iT,List.getElem?_eq_getElem uT]
    simp [List.drop_of_length_le,h4]
   simp (disch:=omega) [gw,hr,hE,hS]
   refine W.lw [0,1,5,25,26] hK ?_;clear hK K;simp
   refine W.cC (fun K hK=>?_);simp (disch:=omega) [gw]
   refine hK _ ⟨x.length+y.length-1-(i+1),_,aC _ [0,1,5,25,26],by omega,i+1,ver,els.set i (ri 0),_,_,rfl,by simp,by simpa using mW,fun e he=>?_,?_,by omega,by omega⟩
   ·rcases List.mem_or_eq_of_mem_set he with h1 | h1
    ·exact NQ e h1
    ·rw [h1];rfl
   ·rw [l7 rA (by omega),List.replicate_succ']
    simp [emap]
  ·have h:i=x.length+y.length-1:=by simp at h;omega
   subst h
   have mJ:els=emap ri (List.replicate (x.length+y.length-1) 0):=by rw [←rA,bO mW]
   subst mJ
   clear rA NQ mW R9 hk hi
   refine eV ?_
   refine aL [0,1,5,35,36] ?_
   refine W.block ?_
   refine W.bG (fun k σ=>∃(i:Nat) (z:List Int) (ver:Nat) (rows:Pm.Rows) (clk:Nat),σ=⟨fa [(0,PI x),(1,PI y),(5, .own 23 ver 0 (x.length+y.length-1)),(35, .int .i64 x.length),(36, .int .i64 i)],rows,clk⟩ ∧
    rows 23=some ⟨ver,31,4,emap ri z⟩∧k=x.length-i∧i≤x.length∧z.length=x.length+y.length-1∧(∀j,sz 2 (nth z j)≤s+s'+i) ∧
    ∀t,V t z=V t (x.take i)*V t y) x.length ?_ ?_
   ·refine⟨_, .refl,0,List.replicate (x.length+y.length-1) 0,_,_,_,rfl,hr,by omega,by omega,by simp,fun j=>?_,fun t=>by simp [V,qT]⟩
    have:Bd 2 0 (x.length+y.length-1) (List.replicate (x.length+y.length-1) 0):=⟨by simp,fun c hc=>by rw [(List.mem_replicate.1 hc).2,kI];omega⟩
    have:=this.nth j
    omega
   clear hr rows clk
   rintro k _ ⟨i,z,ver,rows,clk,rfl,hr,hk,hi,hz,EJ,hV⟩
   refine b9 [0,1,5,35,36,37] ?_
   refine bC ?_ ?_<;>intro h
   ·simp at h
    refine kW ?_
    refine aA [0,1,5,7,35,36] ?_
    refine aA [0,1,5,7,35,36,40,41] ?_
    refine W.block ?_
    refine W.bG (fun m σ=>∃(k:Nat) (z:List Int) (ver:Nat) (rows:Pm.Rows) (clk:Nat),σ=⟨fa [(0,PI x),(1,PI y),(5, .own 23 ver 0 (x.length+y.length-1)),(7, .int .i64 i),(35, .int .i64 x.length),(36, .int .i64 i),(40, .int .i64 y.length),(41, .int .i64 k)],rows,clk⟩ ∧
     rows 23=some ⟨ver,31,4,emap ri z⟩∧m=y.length-k∧k≤y.length∧z.length=x.length+y.length-1∧(∀j,sz 2 (nth z j)≤s+s'+i+1)∧(∀j,i+k≤j→sz 2 (nth z j)≤s+s'+i) ∧
     ∀t,V t z=V t (x.take i)*V t y+t^i*nth x i*V t (y.take k)) y.length ?_ ?_
    ·refine⟨_, .refl,0,z,ver,_,_,rfl,by simpa using hr,by omega,by omega,hz,fun j=>by have:=EJ j;omega,fun j _=>EJ j,fun t=>by simp [V,hV]⟩
    clear hV EJ hz hr z ver rows clk
    rintro m _ ⟨k,z,ver,rows,clk,rfl,hr,hm,hky,hz,EJ,SC,hV⟩
    refine b9 [0,1,5,7,35,36,40,41,42] ?_
    refine W.cond ⟨_,rfl,fun h2=>?_,fun h2=>?_⟩
    ·simp at h2
     refine kW ?_
     refine aA [0,1,5,7,8,35,36,40,41] ?_
     have e1:((i:Int)+(k:Int)).toNat=i+k:=by omega
     have GN:sz 2 (nth x i*nth y k)≤s+s'+i:=Nat.le_trans (cD (by decide) (hs.nth i) (AD.nth k)) (by omega)
     have hm2:=nE (b:=2) (by decide) (SC (i+k) (Nat.le_refl _)) GN
     have hlz:i+k<z.length:=by omega
     have c1:=GX (nth x i) (nth y k) (Nat.le_trans (hs.nth i) (by show _≤137438953472;omega)) (Nat.le_trans (AD.nth k) (by show _≤137438953472;omega))
     have c2:=ZD (nth z (i+k)) (nth x i*nth y k) (Nat.le_trans (SC (i+k) (Nat.le_refl _)) (by show _≤137438953472;omega)) (Nat.le_trans GN (by show _≤137438953472;omega))
     have R7:=fun t=>GI (b:=t) (x:=nth z (i+k)+nth x i*nth y k) hlz
     generalize hu:nth z (i+k)+nth x i*nth y k=u at *
     generalize hpq:nth x i*nth y k=pq at *
     refine W.P5 (fun K hK=>?_)
     rw [if_pos rfl,eQ]
     simp (disch:=omega) [gw,hr,e1]
     refine aB c1 ?_
     simp (disch:=omega) [gw,hr,e1]
     refine aB c2 ?_
     simp (disch:=omega) [gw,hr,e1]
     refine W.lw [0,1,5,7,35,36,40,41] hK ?_;clear hK K;simp
     refine W.cC (fun K hK=>?_);simp (disch:=omega) [gw]
     refine hK _ ⟨y.length-(k+1),_,aC _ [0,1,5,7,35,36,40,41],by omega,k+1,z.set (i+k) u,ver,_,_,rfl,by simp,by omega,by omega,by simpa using hz,fun j=>?_,fun j hj=>?_,fun t=>?_⟩
     ·by_cases hj:i+k=j
      ·subst hj;rw [eS hlz];exact hm2
      ·rw [gQ hj];exact EJ j
     ·rw [gQ (by omega)];exact SC j (by omega)
     ·rw [R7,aX h2,hV,Int.pow_add,←hu,←hpq];clear hV R7;grind
    ·simp at h2
     have vH:k=y.length:=by omega
     subst vH
     refine eV ?_
     refine W.cC (fun K hK=>?_);simp (disch:=omega) [gw]
     refine hK _ ⟨x.length-(i+1),_,aC _ [0,1,5,35,36],by omega,i+1,z,ver,_,_,rfl,hr,by omega,by omega,hz,fun j=>by have:=EJ j;omega,fun t=>?_⟩
     rw [hV,bF (Nat.le_refl _),aX h];grind
   ·simp at h
    have lT:i=x.length:=by omega
    subst lT
    have uQ:=bO hz
    refine eV ?_
    refine W.sr ?_
    simp (disch:=omega) [gw,hr,uQ]
    refine aB (pD z (by omega)) ?_
    simp (disch:=omega) [gw]
    refine bL [4] ?_
    refine W.ret ?_
    have e:aP z=bT x y:=by
     refine Cn.ext (Cn.cut _) (Cn.bT _ _) fun t=>?_
     rw [c9,hV,dI,bF (Nat.le_refl _)]
    simp [go,e]
theorem jM(v n:Int)(hv : -9223372036854775808≤v∧v<9223372036854775808)(hn:0<n)(hn2:n<4611686018427387904):aD env.P 14 [.int .i64 v, .int .i64 n] (.int .i64 (v%n)):=by
 have hn0:n≠0:=by omega
 have h12:(v.tmod n=v%n∨(v.tmod n<0∧v.tmod n+n=v%n)) ∧ -n<v.tmod n∧v.tmod n<n:=by
  have h2:=Int.emod_nonneg v hn0
  have h3:=Int.emod_lt_of_pos v hn
  rcases(show v<0∨0≤v by omega)with h | h
  ·have h4:=Int.tmod_eq_emod (a:=v) (b:=n)
   have h5:(n.natAbs:Int)=n:=by omega
   split at h4
   ·simp at h4;omega
   ·rename_i h6
    rw [h5]at h4
    have h7:v%n≠0:=fun h8=>h6 (.inr (Int.dvd_of_emod_eq_zero h8))
    omega
  ·rw [Int.tmod_eq_emod_of_nonneg h];omega
 obtain⟨h1,h2⟩:=h12
 have h5:=Int.emod_nonneg v hn0
 have h6:=Int.emod_lt_of_pos v hn
 have YZ:¬n<1:=by omega
 refine bY [(0, .int .i64 v),(1, .int .i64 n)] Tryz.func14 ?_
 refine aA [0,1] ?_
 refine aL [0,1,7] ?_
 refine bC ?_ ?_<;>intro h
 ·exfalso;simp at h;omega
 ·refine W.skip ?_
  generalize hm:v.tmod n=m at *
  generalize v%n=r at *
  refine W.sr ?_
  simp (disch:=omega) [gA,hn0,hm]
  refine bL [1,5] ?_
  refine W.gD (fun σ=>∃(rows:Pm.Rows) (clk:Nat),σ=⟨fa [(5, .int .i64 r)],rows,clk⟩) ?_ ?_
  ·
   refine aA [1,5,12] ?_
   refine bC ?_ ?_<;>intro h
   ·simp at h
    refine W.cC (fun K hK=>?_);simp (disch:=omega) [gw]
    exact hK _ ⟨_,Gh.fr [(5, .int .i64 r)] (by simp;omega),_,_,rfl⟩
   ·simp at h
    refine W.skip ?_
    exact⟨_,Gh.fr [(5, .int .i64 r)] (by simp;omega),_,_,rfl⟩
  rintro _ ⟨rows,clk,rfl⟩
  refine aA [4] ?_
  exact bV
structure PB(x:List Int):Prop where
 sz:∀c∈x,Sz c
 len:x.length<1099511627775
theorem PB.FE{x:List Int}(h:PB x):tO (x.map tN):=tO.agX h.sz (by have:=h.len;omega)
theorem PB.of{s n:Nat}{x:List Int}(h:Bd LL s n x)(hs:s<1099511627775)(hn:n<1099511627775):PB x:=⟨fun c hc=>Nat.lt_of_le_of_lt (h.sz c hc) (by omega),Nat.lt_of_le_of_lt h.len hn⟩
theorem ZG{x y:List Int}(hx:PB x)(hy:PB y):aD env.P 202 [Po x,Po y] (Po (iI x y)):=by
 have:=acD _ _ hx.FE hy.FE
 rwa [cG,cG,←i9,←i9]at this
theorem G0{x y:List Int}(hx:PB x)(hy:PB y):aD env.P 204 [Po x,Po y] (Po (fF x y)):=by
 have:=acE _ _ hx.FE hy.FE
 rwa [cG,cG,←i9,←i9]at this
theorem G1{x:List Int}(hx:PB x):aD env.P 41 [Po x] (Po (gV x)):=by
 have:=acF _ hx.FE
 rwa [cG,←i9]at this
theorem fU{x:List Int}(hx:PB x):aD env.P 68 [Po x] (Po (aP x)):=by
 have:=iO _ hx.FE
 rwa [cG,←i9]at this
theorem ZH{a:RP}{y:List Int}{s s' n n':Nat}(ha:tO a)(hs:Bd LL s n (a.map gv))(AD:Bd LL s' n' y)(hB:s+s'+n+n'<1099511627775):aD env.P 16 [Pg a,Po y] (Po (bT (a.map gv) y)):=by
 have:=acG a (y.map tN) ha (PB.of AD (by omega) (by omega)).FE s s' n n' hs (by rwa [cG]) hB
 rwa [cG,←i9]at this
theorem yB{x y:List Int}{s s' n n':Nat}(hs:Bd LL s n x)(AD:Bd LL s' n' y)(hB:s+s'+n+n'<1099511627775):aD env.P 16 [Po x,Po y] (Po (bT x y)):=by
 have:=ZH (PB.of hs (by omega) (by omega)).FE (by rwa [cG]) AD hB
 rwa [cG,←i9]at this
theorem maps{α:Type}{g:α→List PV}{R:List PV→Prop}{Q:α→Prop}(h:∀ps,R ps → ∃a,ps=g a∧Q a):∀ {l:List (List PV)},(∀x∈l,R x) → ∃m:List α,l=m.map g ∧ ∀a∈m,Q a
 | [],_=>⟨[],rfl,fun _ h=>(by cases h)⟩
 | x::l,hx=>by
  obtain⟨a,rfl,ha⟩:=h x (hx x (by simp))
  obtain⟨m,rfl,hm⟩:=maps h (l:=l) fun y hy=>hx y (by simp [hy])
  exact⟨a::m,rfl,fun b hb=>by
   rcases List.mem_cons.1 hb with rfl | hb
   ·exact ha
   ·exact hm b hb⟩
theorem JM:r5 Tryz.prog 3 (fun q=>∃n:Int,q = .int .i64 n ∧ -9223372036854775808≤n∧n<9223372036854775808):=
 (r5.int .i64 (by kernel_rfl)).mono fun q ⟨n,h1,h2,h3⟩=>⟨n,h1,by simpa [IntKind.min,IntKind.signed,IntKind.bits]using h2,by simp [IntKind.max,IntKind.signed,IntKind.bits]at h3;omega⟩
theorem own:ownKnob Tryz.prog.godebug=none:=by kernel_rfl
theorem laidOut:laidOutB Tryz.prog=true:=by kernel_rfl
structure PD(x:List Int):Prop where
 sz:∀v∈x,sz LL v<1099511627774
 len:x.length<1099511627774
theorem PD.of{s n:Nat}{x:List Int}(h:Bd LL s n x)(hs:s<1099511627774)(hn:n<1099511627774):PD x:=⟨fun v hv=>Nat.lt_of_le_of_lt (h.sz v hv) hs,Nat.lt_of_le_of_lt h.len hn⟩
theorem anp(v:Int):V 4294967296 (aN LL v.natAbs)=v.natAbs:=kG fV v.natAbs
theorem JN{v c:Int}(hv:sz LL v<1099511627774)(hc:sz LL c<1099511627774)(h0:c≠0):aD env.P 235 [I v,I c] (if v%c=0 then .eB [I (v/c), .int .i64 0]else .eB [I 0, .int .i64 3]):=by
 have:=SJ (decide (v<0)) (decide (c<0)) (aN LL v.natAbs) (aN LL c.natAbs) ⟨fD fV _,by unfold sz at hv;omega⟩ ⟨fD fV _,by unfold sz at hc;omega⟩ hv hc (by rw [anp];omega)
 rwa [yA,yA]at this
def rE(c v:Int):Int:=if v%c=0 then v/c else 0
theorem NR(x:List Int)(c:Int)(hx:PD x)(hc:sz LL c<1099511627774)(h0:c≠0):aD env.P 220 [Po x,I c] (Po (aP (x.map (rE c)))):=by
 have hxl:=hx.len
 refine bY [(0,Po x),(1,I c)] Tryz.func220 ?_
 refine aA [0,3] ?_
 refine aA [0,3,5] ?_
 refine W.row (id:=10) (emap ie (List.replicate x.length 0)) (by simp;exact⟨rfl,rfl,rfl⟩) (rY _) ?_
 refine aL [3,5,11,12,13] ?_
 refine W.block ?_
 refine W.bG (fun q σ=>∃(i:Nat) (z:List Int) (v10:Nat) (rows:Pm.Rows) (clk:Nat),σ=⟨fa [(3, .ptr 3 0 0 0),(5, .own 10 v10 0 x.length),(11,Po x),(12, .int .i64 x.length),(13, .int .i64 i)],rows,clk⟩ ∧
  rows 3=some ⟨0,38,2,[ie c]⟩∧rows 10=some ⟨v10,38,2,emap ie z⟩∧q=x.length-i∧i≤x.length∧z.length=x.length∧z.take i=(x.take i).map (rE c)) x.length ?_ ?_
 ·exact⟨_, .refl,0,List.replicate x.length 0,_,_,_,rfl,by simp,by simp,by omega,by omega,by simp,by simp⟩
 rintro q _ ⟨i,z,v10,rows,clk,rfl,cO,jN,hq,hi,hz,hv⟩
 refine b9 [3,5,11,12,13,14] ?_
 refine bC ?_ ?_<;>intro h
 ·have hi:i<x.length:=by simp at h;omega
  have hE:=JN (hx.sz _ (bP hi)) hc h0
  have hE2:aD env.P 235 [I (nth x i),I c] (.eB [I (rE c (nth x i)), .int .i64 (if nth x i%c=0 then 0 else 3)]):=by
   unfold rE
   split at hE
   ·rename_i h1;rw [if_pos h1,if_pos h1];exact hE
   ·rename_i h1;rw [if_neg h1,if_neg h1];exact hE
  have hts:(x.take (i+1)).map (rE c)=(x.take i).map (rE c) ++ [rE c (nth x i)]:=by rw [bI hi];simp
  generalize (if nth x i%c=0 then(0:Int)else 3)=er at *
  generalize rE c (nth x i)=ev at *
  generalize hxe:nth x i=xi at *
  refine kW ?_
  refine W.sr ?_
  simp (disch:=omega) [gw,hxe]
  refine bL [3,5,6,7,11,12,13] ?_
  refine W.cC (fun K hK=>?_)
  simp (disch:=omega) [gw,cO]
  refine aB hE2 ?_
  simp (disch:=omega) [gw,jN,hz]
  refine W.lw [3,5,11,12,13] hK ?_;clear hK K;simp
  refine W.cC (fun K hK=>?_);simp (disch:=omega) [gw]
  refine hK _ ⟨x.length-(i+1),_,aC _ [3,5,11,12,13],by omega,i+1,z.set i ev,v10,_,_,rfl,by simp [cO],by simp,by omega,by omega,by simp [hz],?_⟩
  rw [l7 hv (by omega),hts]
 ·have hi:i=x.length:=by simp at h;omega
  subst hi
  rw [bO hz,List.take_length]at hv
  have uQ:=bO hz
  refine eV ?_
  have hzb:PB z:=by
   rw [hv]
   refine⟨fun v hv=>?_,by simpa using by omega⟩
   simp only [List.mem_map]at hv
   obtain⟨w,hw,rfl⟩:=hv
   have h1:=hx.sz w hw
   show sz LL (rE c w)<1099511627776
   refine Nat.lt_of_le_of_lt (c7 fV (y:=w) ?_) (by omega)
   unfold rE;split
   ·exact Int.natAbs_ediv_le_natAbs _ _
   ·simp
  have hN:=fU hzb
  rw [hv]at hN jN uQ
  generalize x.map (rE c)=y at *
  have P6:y.length=x.length:=by rw [←hv];exact hz
  refine W.sr ?_
  simp (disch:=omega) [gw,jN,uQ]
  refine bS [4] hN ?_
  exact bV
theorem NS(l:List RP)(K0:Nat)(hK0:K0<1099511627774)(hp:∀p∈l,∀c∈p,cU 4294967296 c.2∧c.2.length≤K0)(hl:l.length<1099511627776)(hf:l.flatten.length<1099511627776) :
  aD env.P 219 [aI pe l] (I (bQ (l.flatten.map gv))):=by
 refine bY [(0,aI pe l)] Tryz.func219 ?_
 refine aA [0,2] ?_
 refine aA [0,2,3] ?_
 refine W.nil 3 3 38 2 (by simp) (by decide) (fun K hK=>?_)
 refine W.lw [0,2,3] hK ?_;clear hK K;simp
 refine aL [2,3,6,7,8] ?_
 refine W.block ?_
 refine W.bG (fun q σ=>∃(i v3:Nat) (A:RP) (rows:Pm.Rows) (clk:Nat),σ=⟨fa [(2, .ptr 2 0 0 0),(3, .own 3 v3 0 A.length),(6,aI pe l),(7, .int .i64 l.length),(8, .int .i64 i)],rows,clk⟩ ∧
  rows 2=some ⟨0,38,2,[[.bool false, .nil]]⟩∧rows 3=some ⟨v3,38,2,emap ge A⟩∧q=l.length-i∧i≤l.length∧A=(l.take i).flatten) l.length ?_ ?_
 ·exact⟨_, .refl,0,_,[],_,_,rfl,by simp,by simp [emap],by omega,by omega,by simp⟩
 rintro q _ ⟨i,v3,A,rows,clk,rfl,bR,cO,hq,hi,hA⟩
 refine b9 [2,3,6,7,8,9] ?_
 refine bC ?_ ?_<;>intro h
 ·have hi:i<l.length:=by simp at h;omega
  have hfs:(l.take (i+1)).flatten=(l.take i).flatten++nth l i:=by rw [bI hi];simp
  have VS:(l.take (i+1)).flatten.length≤l.flatten.length:=by
   have e:=List.take_append_drop (i+1) l
   have e2:l.flatten=(l.take (i+1)).flatten++(l.drop (i+1)).flatten:=by rw [←List.flatten_append,e]
   rw [e2,List.length_append];omega
  have MZ:(l.take i).flatten.length+(nth l i).length<1099511627776:=by
   rw [hfs,List.length_append]at VS;omega
  have hls:(l.take (i+1)).flatten.length=(l.take i).flatten.length+(nth l i).length:=by rw [hfs,List.length_append]
  rw [←hA]at hfs MZ hls
  generalize hpe:nth l i=p at *
  refine kW ?_
  refine W.sr ?_
  simp (disch:=omega) [gw,hpe]
  refine bL [2,3,5,6,7,8] ?_
  refine W.cC (fun K hK=>?_)
  simp (disch:=omega) [gw,cO]
  refine W.lw [2,3,6,7,8] hK ?_;clear hK K;simp
  refine W.cC (fun K hK=>?_);simp (disch:=omega) [gw]
  refine hK _ ⟨l.length-(i+1),_,Gh.fr [(2, .ptr 2 0 0 0),(3, .own 3 _ 0 (A++p).length),(6,aI pe l),(7, .int .i64 l.length),(8, .int .i64 ((i+1:Nat):Int))] (by simp;exact rfl),by omega,i+1,_,A++p,_,_,rfl,by simp [bR],by simp,by omega,by omega,hfs.symm⟩
 ·have hi:i=l.length:=by simp at h;omega
  subst hi
  rw [List.take_length]at hA
  have hG:=NF l.flatten K0 hK0 (fun c hc=>by
   obtain⟨p,ET,hcp⟩:=List.mem_flatten.1 hc
   exact hp p ET c hcp) hf
  rw [←hA]at hG ⊢
  generalize (bQ (A.map gv):Int)=g at *
  refine eV ?_
  refine W.sr ?_
  simp (disch:=omega) [gw,cO]
  refine aB hG ?_
  simp (disch:=omega) [gw,bR]
  refine bL [2] ?_
  exact bV
theorem lH{x:List Int}(hx:PB x)(hc:Cn x):aD env.P 110 [Po x] (I (lead x)):=by
 have:=NB (x.map tN) hx.FE
 rw [show mY (x.map tN)=aP x by simp only [mY,cG],show aP x=x from hc,←i9]at this
 exact this
theorem kO(x:List Int)(hx:x.length<9223372036854775808):aD env.P 87 [Po x] (.int .i64 ((x.length:Int)-1)):=by
 have:=ahg (x.map tN) (by simpa using hx)
 rw [List.length_map,←i9]at this
 exact this
theorem zM{x:List Int}{c:Int}(hx:PB x)(hc:Sz c):aD env.P 201 [Po x,I c] (Po (bB x c)):=by
 have:=SA (x.map tN) hx.FE (decide (c<0)) (aN LL c.natAbs) hc.VJ
 rw [cG,yA,←i9]at this
 exact this
theorem r8(i:Nat)(x:Int):(List.replicate (i+1) (0:Int)).set i x=q9 i x:=by
 rw [List.replicate_succ',List.set_append]
 simp [q9]
theorem SN(a b:RP){s s' N:Nat}(ha:tO a)(hb:tO b)(sa:Bd LL s N (a.map gv))(sb:Bd LL s' N (b.map gv))(hB:s+N*(s'+N+1)+s'+N+N+10<1099511627774) :
  aD env.P 221 [Pg a,Pg b] (if mY b = []then .eB [Po [],Po [], .int .i64 0, .int .i64 2]else .eB [Po (zH (mY a) (mY b)).1,Po (zH (mY a) (mY b)).2, .int .i64 (jJ (mY a) (mY b)), .int .i64 0]):=by
 have hA:Bd LL s N (mY a):=sa.cut
 have VT:Bd LL s' N (mY b):=sb.cut
 have ca:Cn (mY a):=Cn.cut _
 have cb:Cn (mY b):=Cn.cut _
 have na:=iO a ha
 have nb:=iO b hb
 rw [show aP (a.map gv)=mY a from rfl]at na
 rw [show aP (b.map gv)=mY b from rfl]at nb
 refine bY [(0,Pg a),(1,Pg b)] Tryz.func221 ?_
 generalize mY a=x at *
 generalize mY b=y at *
 refine aA [0,1,4] ?_
 refine W.R4 4 (Po []) (by simp) rfl (fun K hK=>?_)
 refine W.lw [0,1,4] hK ?_;clear hK K;simp
 refine iB ?_
 refine cB na ?_
 refine bS [1,4,5] nb ?_
 refine aL [1,4,5,18] ?_
 refine bC ?_ ?_<;>intro h
 ·have h:y = []:=by simp at h;exact h
  rw [if_pos h]
  refine aA [4,5,6,7] ?_
  refine W.ret ?_
  simp [go]
  rfl
 have hy:y ≠ []:=by simp at h;exact h
 clear h
 rw [if_neg hy]
 have SB:0<y.length:=List.length_pos_iff.2 hy
 have hNx:=hA.len
 have hNy:=VT.len
 have hsy:=fX VT
 have hmN:N*(s'+N+1)≥0:=Nat.zero_le _
 have hL:=lH (PB.of VT (by omega) (by omega)) cb
 have hDx:=kO x (by omega)
 have hDy:=kO y (by omega)
 refine W.skip ?_
 refine aJ [1,4,5,8] hL ?_
 have hkk:(if (0:Int)<(x.length:Int)-1-((y.length:Int)-1)+1 then(x.length:Int)-1-((y.length:Int)-1)+1 else 0)=(jJ x y:Int):=by unfold jJ;split<;>omega
 refine iB ?_
 refine cB hDx ?_
 refine aB hDy ?_
 simp (disch:=omega) [gw,hkk]
 refine bL [1,4,5,6,8] ?_
 have hkN:jJ x y≤N:=by unfold jJ;omega
 have hsl:=hsy
 generalize hdd:s'+N+1=d at *
 have hNN:∀j,j≤N→(N-j)*d≤N*d:=fun j _=>Nat.mul_le_mul_right _ (by omega)
 refine aL [1,4,5,6,8,9] ?_
 refine W.block ?_
 refine W.bG (fun j σ=>∃(q r:List Int) (rows:Pm.Rows) (clk:Nat),σ=⟨fa [(1,Po y),(4,Po q),(5,Po r),(6, .int .i64 (jJ x y)),(8, .ptr 8 0 0 0),(9, .int .i64 ((j:Int)-1))],rows,clk⟩ ∧
  rows 8=some ⟨0,38,2,[ie (lead y)]⟩∧j≤jJ x y∧ps y (lead y) j q r=zH x y∧Bd LL (s+(N-j)*d) (N+N) q∧Bd LL (s+(N-j)*d) (N+N) r∧Cn r) (jJ x y) ?_ ?_
 ·exact⟨_, .refl,[],x,_,_,rfl,by simp,by omega,rfl,⟨by simp,fun c hc=>by cases hc⟩,hA.mono (by omega) (by omega),ca⟩
 rintro j _ ⟨q,r,rows,clk,rfl,AO,hj,zN,bq,br,cr⟩
 refine aL [1,4,5,6,8,9,31] ?_
 refine bC ?_ ?_<;>intro h
 ·have hj0:0<j:=by simp at h;omega
  obtain⟨i,rfl⟩:∃i,j=i+1:=⟨j-1,by omega⟩
  clear h
  have ei:((i+1:Nat):Int)-1=i:=by omega
  rw [ei]
  have hN1:=hNN (i+1) (by omega)
  have hT:s+(N-i)*d=s+(N-(i+1))*d+s'+N+1:=by
   rw [show N-i=(N-(i+1))+1 by omega,Nat.add_mul,Nat.one_mul];omega
  obtain⟨b1,b2⟩:=CP fV VT bq br (show i<N by omega)
  rw [←hT]at b1 b2
  have JO:=hNN i (by omega)
  have hx:=acv (y:=y) (i:=i) br
  have bs:=Bd.q9 hx i
  have hLr:=lH (PB.of br (by omega) (by omega)) cr
  have hDr:=kO r (by have:=br.len;omega)
  have bqs:=bq.bB fV hsy
  have brs:=br.bB fV hsy
  have bm:=bs.bT fV VT
  have f1:=zM (c:=lead y) (PB.of bq (by omega) (by omega)) (show sz LL (lead y)<1099511627776 by omega)
  have f2:=zM (c:=lead y) (PB.of br (by omega) (by omega)) (show sz LL (lead y)<1099511627776 by omega)
  have f3:=ZG (PB.of bqs (by omega) (by omega)) (PB.of bs (by omega) (by omega))
  have f4:=yB bs VT (by omega)
  have f5:=G0 (PB.of brs (by omega) (by omega)) (PB.of bm (by omega) (by omega))
  rw [show iI (bB q (lead y)) (q9 i (wB y r i))=psq (lead y) (wB y r i) i q from rfl]at f3
  rw [show fF (bB r (lead y)) (bT (q9 i (wB y r i)) y)=xM y (lead y) (wB y r i) i r from rfl]at f5
  have cr2:Cn (xM y (lead y) (wB y r i) i r):=Cn.fF _ _
  have hpx:wB y r i=if r.length=y.length+i then lead r else 0:=rfl
  rw [ps]at zN
  generalize hq2:psq (lead y) (wB y r i) i q=q2 at *
  generalize bR:xM y (lead y) (wB y r i) i r=r2 at *
  generalize bT (q9 i (wB y r i)) y=pm at *
  generalize bB q (lead y)=pq at *
  generalize bB r (lead y)=pr at *
  generalize wB y r i=xx at *
  have ac9:=r8 i xx
  have anr:(q9 i xx).length=i+1:=by simp [q9]
  generalize lead r=lr at *
  generalize lead y=ly at *
  refine kW ?_
  refine aA [1,4,5,6,8,9,10] ?_
  refine W.row (id:=10) (els:=[[.bool false, .nil]]) [ie 0] (by simp;exact⟨rfl,rfl,rfl⟩) ⟨⟨.inl (by simp), .inr ⟨rfl,rfl⟩,trivial⟩,trivial⟩ ?_
  refine W.gD (fun σ=>∃(v10:Nat) (rows:Pm.Rows) (clk:Nat),σ=⟨fa [(1,Po y),(4,Po q),(5,Po r),(6, .int .i64 (jJ x y)),(8, .ptr 8 0 0 0),(9, .int .i64 i),(10, .ptr 10 v10 0 0)],rows,clk⟩∧rows 8=some ⟨0,38,2,[ie ly]⟩∧rows 10=some ⟨v10,38,2,[ie xx]⟩) ?_ ?_
  ·
   refine iB ?_
   refine cB hDr ?_
   refine bS [1,4,5,6,8,9,10,40] hDy ?_
   by_cases YT:r.length=y.length+i
   ·rw [if_pos YT]at hpx
    subst hpx
    refine bC ?_ ?_<;>intro h
    ·refine W.cC (fun K hK=>?_)
     simp (disch:=omega) [gw]
     refine cB hLr ?_
     exact hK _ ⟨_,aC _ [1,4,5,6,8,9,10],_,_,_,rfl,by simp [AO],by simp⟩
    ·exfalso;simp at h;omega
   ·rw [if_neg YT]at hpx
    subst hpx
    refine bC ?_ ?_<;>intro h
    ·exfalso;simp at h;omega
    ·refine W.skip ?_
     exact⟨_,aC _ [1,4,5,6,8,9,10],_,_,_,rfl,by simp [AO],by simp⟩
  rintro _ ⟨v10,rows,clk,rfl,AO,jN⟩
  have e9:((i:Int)+1).toNat=i+1:=by omega
  refine W.sr ?_
  simp (disch:=omega) [gw,e9]
  refine bL [1,4,5,6,8,9,10,11] ?_
  refine W.row (id:=45) (emap ie (List.replicate (i+1) 0)) (by simp;exact⟨rfl,rfl,rfl⟩) (rY _) ?_
  refine W.sr ?_
  simp (disch:=omega) [gw,jN,ac9]
  refine bL [1,4,5,6,8,9,11] ?_
  have jD:=bO anr
  refine W.freeze 45 (by simp) (fun K hK=>?_)
  simp [jD]
  refine hK _ ?_;clear hK K
  refine W.sr ?_
  simp (disch:=omega) [gw,AO]
  refine cB f1 ?_
  refine bS [1,4,5,6,8,9,11] f3 ?_
  refine W.cC (fun K hK=>?_)
  simp (disch:=omega) [gw,AO]
  refine cB f2 ?_
  refine cB f4 ?_
  refine cB f5 ?_
  refine W.lw [1,4,5,6,8,9] hK ?_;clear hK K;simp
  refine W.cC (fun K hK=>?_);simp (disch:=omega) [gw]
  refine hK _ ⟨i,_,aC _ [1,4,5,6,8,9],by omega,q2,r2,_,_,rfl,by simp [AO],by omega,zN,b1,b2,cr2⟩
 ·have hj0:j=0:=by simp at h;omega
  subst hj0
  simp only [ps]at zN
  rw [←zN]
  refine eV ?_
  refine aA [4,5,6,7] ?_
  exact bV
def j6(x:List Int):List Int:=aP (x.map (rE (bQ x)))
def NT(a b:List Int):List Int:=if jJ a b%2=1∧lead b<0 then j6 (gV (zH a b).2)else j6 (zH a b).2
theorem iJ(x:List Int):∀c∈x,((bQ x:Nat):Int)∣c:=by
 have key:∀(l:List Int) (g:Nat),(∀c∈l,((l.foldl (fun g c=>Nat.gcd g c.natAbs) g:Nat):Int)∣c)∧l.foldl (fun g c=>Nat.gcd g c.natAbs) g∣g:=by
  intro l
  induction l with
  | nil=>intro g;exact⟨fun c hc=>(by cases hc),Nat.dvd_refl _⟩
  | cons c l ih =>
   intro g
   obtain⟨h1,h2⟩:=ih (Nat.gcd g c.natAbs)
   simp only [List.foldl_cons]
   refine⟨fun d hd=>?_,Nat.dvd_trans h2 (Nat.gcd_dvd_left _ _)⟩
   rcases List.mem_cons.1 hd with rfl | hd
   ·exact Int.ofNat_dvd_left.2 (Nat.dvd_trans h2 (Nat.gcd_dvd_right _ _))
   ·exact h1 d hd
 exact(key x 0).1
theorem NU{x:List Int}{c:Int}(hc:c∈x)(h:c≠0):bQ x≠0:=by
 intro h0
 have:=iJ x c hc
 rw [h0]at this
 obtain⟨k,hk⟩:=this
 simp at hk
 exact h hk
theorem cN{x:List Int}(hc:Cn x)(h:x ≠ []):bQ x≠0:=by
 have hl:0<x.length:=List.length_pos_iff.2 h
 exact NU (c:=lead x) (bP (by omega)) (cX hc hl)
theorem VU{x:List Int}{s:Nat}(hx:∀c∈x,sz LL c≤s)(hc:Cn x)(h:x ≠ []):sz LL (bQ x:Int)≤s:=by
 have hl:0<x.length:=List.length_pos_iff.2 h
 have hm:lead x∈x:=bP (by omega)
 refine Nat.le_trans (c7 fV ?_) (hx _ hm)
 have:=Int.le_of_dvd (a:=(bQ x:Int)) (b:=((lead x).natAbs:Int)) (by have:=cX hc hl;omega) (Int.dvd_natAbs.2 (iJ x _ hm))
 omega
theorem wO(x:List Int)(hx:PD x):aD env.P 219 [.sl [[Po x]]] (I (bQ x)):=by
 have hl:=hx.len
 have:=NS [x.map tN] 1099511627773 (by decide) (fun p hp c hc=>by
  simp only [List.mem_singleton]at hp
  subst hp
  simp only [List.mem_map]at hc
  obtain⟨v,hv,rfl⟩:=hc
  have h1:=hx.sz v hv
  exact⟨fD fV _,by unfold sz at h1;show(aN LL v.natAbs).length≤_;omega⟩) (by simp) (by simp;omega)
 have e:([x.map tN].flatten.map gv)=x:=by simp only [List.flatten_cons,List.flatten_nil,List.append_nil,cG]
 rw [e]at this
 have e2:aI pe [x.map tN] = .sl [[Po x]]:=by rw [i9];rfl
 rw [e2]at this
 exact this
theorem NV(a b:RP){s s' N:Nat}(ha:tO a)(hb:tO b)(sa:Bd LL s N (a.map gv))(sb:Bd LL s' N (b.map gv))(hB:s+N*(s'+N+1)+s'+N+N+10<1099511627774) :
  aD env.P 154 [Pg a,Pg b] (if mY b = []then .eB [Po [], .int .i64 2]else .eB [Po (NT (mY a) (mY b)), .int .i64 0]):=by
 have hP:=SN a b ha hb sa sb hB
 have hL:=NB b hb
 have hA:Bd LL s N (mY a):=sa.cut
 have VT:Bd LL s' N (mY b):=sb.cut
 have ca:Cn (mY a):=Cn.cut _
 refine bY [(0,Pg a),(1,Pg b)] Tryz.func154 ?_
 generalize mY a=x at *
 generalize mY b=y at *
 refine aA [0,1] ?_
 by_cases hy:y = []
 ·rw [if_pos hy]at hP ⊢
  refine aJ [1,7,8,9] hP ?_
  refine aL [1,7,8,9,19] ?_
  refine bC ?_ ?_<;>intro h
  ·refine aA [4,5] ?_
   refine W.ret ?_
   simp [go]
   rfl
  ·cases h
 rw [if_neg hy]at hP ⊢
 have SB:0<y.length:=List.length_pos_iff.2 hy
 have hkN:jJ x y≤N:=by unfold jJ;have:=hA.len;omega
 obtain⟨_,xV⟩:=acw fV VT (jJ x y) s [] x hkN ⟨by simp,fun c hc=>by cases hc⟩ (hA.mono (by omega) (by omega))
 obtain⟨_,cr⟩:=CQ (b:=y) ca
 rw [show(ps y (lead y) (jJ x y) [] x)=zH x y from rfl]at xV
 have hmul:=Nat.mul_le_mul_right (s'+N+1) hkN
 have acM:=G1 (PB.of xV (by omega) (by omega))
 refine aJ [1,7,8,9] hP ?_
 refine aL [1,7,8,9,19] ?_
 refine bC ?_ ?_<;>intro h
 ·cases h
 refine W.skip ?_
 obtain⟨r2,bR⟩:∃r2,r2=if jJ x y%2=1∧lead y<0 then gV (zH x y).2 else(zH x y).2:=⟨_,rfl⟩
 have atv:NT x y=j6 r2:=by rw [bR,NT];split<;>rfl
 have hbr:PD r2:=by
  rw [bR];split
  ·exact PD.of xV.gV (by omega) (by omega)
  ·exact PD.of xV (by omega) (by omega)
 have hcr:Cn r2:=by
  rw [bR];split
  ·exact Cn.gV _
  ·exact cr
 rw [atv]
 refine W.gD (fun σ=>∃(rows:Pm.Rows) (clk:Nat),σ=⟨fa [(7,Po r2)],rows,clk⟩) ?_ ?_
 ·
  by_cases hk:jJ x y%2=1
  ·refine W.fG (fun σ=>∃(rows:Pm.Rows) (clk:Nat),σ=⟨fa [(7,Po (zH x y).2),(28, .bool (decide (lead y<0)))],rows,clk⟩) (fun K hK=>?_) ?_
   ·have vH:(jJ x y:Int)%2=1:=by omega
    simp (disch:=omega) [gw,vH]
    refine cB hL ?_
    exact hK _ _ (aC _ [7,28]) ⟨_,_,rfl⟩
   rintro _ ⟨rows,clk,rfl⟩
   refine W.ack (lead y<0) rfl (fun h=>?_) (fun h=>?_)
   ·rw [if_pos ⟨hk,h⟩]at bR
    subst bR
    refine W.cC (fun K hK=>?_)
    simp (disch:=omega) [gw]
    refine cB acM ?_
    exact hK _ ⟨_,aC _ [7],_,_,rfl⟩
   ·rw [if_neg (fun h2=>h h2.2)]at bR
    subst bR
    refine W.skip ?_
    exact⟨_,aC _ [7],_,_,rfl⟩
  ·rw [if_neg (fun h2=>hk h2.1)]at bR
   subst bR
   refine W.fG (fun σ=>∃(rows:Pm.Rows) (clk:Nat),σ=⟨fa [(7,Po (zH x y).2),(28, .bool false)],rows,clk⟩) (fun K hK=>?_) ?_
   ·have vH:((jJ x y:Int)%2==1)=false:=by simp;omega
    simp (disch:=omega) [gw,vH]
    exact hK _ _ (aC _ [7,28]) ⟨_,_,rfl⟩
   rintro _ ⟨rows,clk,rfl⟩
   refine bC ?_ ?_<;>intro h
   ·cases h
   ·refine W.skip ?_
    exact⟨_,aC _ [7],_,_,rfl⟩
 rintro _ ⟨rows,clk,rfl⟩
 clear bR atv
 refine aL [7,33] ?_
 refine bC ?_ ?_<;>intro h
 ·have h:r2 = []:=by simp at h;exact h
  subst h
  refine aA [4,5] ?_
  refine W.ret ?_
  simp [go]
  rfl
 ·have h:r2 ≠ []:=by simp at h;exact h
  have hC:=wO r2 hbr
  have hgp:=cN hcr h
  have hO:=NR r2 (bQ r2) hbr (Nat.lt_of_le_of_lt (VU (s:=1099511627773) (fun c hc=>by have:=hbr.sz c hc;omega) hcr h) (by decide)) (by omega)
  rw [show aP (r2.map (rE (bQ r2)))=j6 r2 from rfl]at hO
  generalize (bQ r2:Int)=g at *
  generalize j6 r2=pr at *
  refine W.skip ?_
  refine iB ?_
  refine cB hC ?_
  refine bS [4,5] hO ?_
  exact bV
end Go.Proofs.YtelhfbikiccfkaaGreat
