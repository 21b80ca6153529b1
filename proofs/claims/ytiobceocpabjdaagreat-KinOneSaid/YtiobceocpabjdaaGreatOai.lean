import Derived.Test.YtiobceocpabjdaaGreatOae
import Derived.Test.YtiobceocpabjdaaGreatOah
set_option linter.unusedSimpArgs false
set_option linter.unusedVariables false
namespace Go.Proofs.YtiobceocpabjdaaGreat
open Go Pm
abbrev Y(x:Int):Prop:=sz 2 x<549755813888
theorem Y.z{x:Int}(h:Y x):Z x:=by simp only [Y,Z]at *;omega
theorem C8{x y:Int}(h:Y y)(qT:x.natAbs≤y.natAbs):Y x:=Nat.lt_of_le_of_lt (dP (by decide) qT) h
theorem zI{x y:Int}:dI x y≤0↔x≤y:=by simp only [dI];split<;>(try split)<;>omega
@[simp] theorem aqL{l:List Int}{x:Int}:[PV.int .i64 x]::emap aI l=emap aI (x::l):=by simp [emap]
@[simp] theorem ahh{l:List Int}:(∀e∈emap aI l,∀p∈e,bI p=true)=True:=by simp [emap]
theorem ZK{l:List Int}(h:cV 10000 l)(k:Nat)(hk:k≤l.length):V 10000 (l.drop k)≤V 10000 l:=by
 rw [kQ l k hk]
 have h1:=bM (by decide) (h.take k)
 have h2:=bM (by decide) (h.drop k)
 have h3:1≤(10000:Int)^k:=Int.pow_pos (by decide)
 have h4:=Int.mul_le_mul_of_nonneg_right h3 h2
 omega
theorem NG(x y:Int)(hx:0≤x)(hy:0<y)(zx:Y x)(zy:Y y):aE env.P 209 [Dn x,Dn y] (.dU [Dn (x/y),Dn (x%y)]):=by
 have hal:(aS DD x.toNat).length<549755813888:=Nat.lt_of_le_of_lt (kS hx) zx
 have la:=mL x.toNat
 have hVa:=wK hx
 refine cD [(0,Dn x),(1,Dn y)] Tryz.func209 ?_
 simp only [Dn]
 generalize ha:aS DD x.toNat=a at *
 refine aA [0,1] ?_
 refine aA [0,1,6] ?_
 refine aA [0,1,6,7] ?_
 refine W.R3 7 (Dn 0) (by simp) rfl (fun K hK=>?_)
 refine W.lw [0,1,6,7] hK ?_;clear hK K;simp
 refine aQ [0,1,6,7,8] ?_
 refine W.block ?_
 refine W.bE (fun k σ=>∃(r:Int) (z:List Int) (ver:Nat) (rows:Pm.Rows) (clk:Nat),σ=⟨fa [(0,aJ aI a),(1,Dn y),(6, .own 14 ver 0 a.length),(7,Dn r),(8, .int .i64 ((k:Int)-1))],rows,clk⟩ ∧
  rows 14=some ⟨ver,3,1,emap aI z⟩∧k≤a.length∧z.length=a.length∧cV 10000 z∧0≤r∧r<y∧V 10000 (a.drop k)=y*V 10000 (z.drop k)+r) a.length ?_ ?_
 ·exact⟨_,Gh.fr [(0,aJ aI a),(1,Dn y),(6, .own 14 0 0 a.length),(7,Dn 0),(8, .int .i64 ((a.length:Int)-1))] (by simp),0,List.replicate a.length 0,_,_,_,rfl,by simp,by omega,by simp,cV.rep (by decide) _,by omega,hy,by simp [V]⟩
 rintro k _ ⟨r,z,ver,rows,clk,rfl,hr,hk,hz,lz,FV,CO,hV⟩
 refine aQ [0,1,6,7,8,19] ?_
 refine bJ ?_ ?_<;>intro h
 ·simp at h
  obtain⟨j,rfl⟩:∃j,k=j+1:=⟨k-1,by omega⟩
  clear h
  have hxj:=la.nth (i:=j) (by omega)
  have hVz:=bM (by decide) (lz.drop (j+1))
  have hyV:=Int.mul_nonneg (Int.le_of_lt hy) hVz
  have hR:V 10000 (a.drop j)=y*(10000*V 10000 (z.drop (j+1)))+(nth a j+10000*r):=by
   rw [fE (l:=a) (i:=j) (by omega)];simp only [V];rw [hV];grind
  have hRx:nth a j+10000*r≤x:=by
   have h1:=ZK la j (by omega)
   have h2:0≤y*(10000*V 10000 (z.drop (j+1))):=Int.mul_nonneg (Int.le_of_lt hy) (by omega)
   omega
  have Y4:(aS DD r.toNat).length<549755813888:=Nat.lt_of_le_of_lt (kS FV) (C8 zy (by omega))
  have qG:aJ aI (aO (nth a j::aS DD r.toNat))=Dn (nth a j+10000*r):=by
   rw [uV (cV.cons.2 ⟨hxj,mL _⟩)]
   simp only [V,wK FV]
  refine lF ?_
  refine jC ?_
  refine aC (pN (nth a j::aS DD r.toNat) (by simp;omega)) ?_
  rw [qG]
  have IE:0≤nth a j+10000*r:=by omega
  have hR1:nth a j+10000*r<y*10000:=by omega
  have zR:Y (nth a j+10000*r):=C8 zx (by omega)
  generalize nth a j+10000*r=R at *
  simp (disch:=omega) [gw]
  refine bH [0,1,6,7,8] ?_
  refine bU [0,1,6,7,8,9,10] ?_
  refine W.block ?_
  refine W.bE (fun m σ=>∃(lo hi:Int),σ=⟨fa [(0,aJ aI a),(1,Dn y),(6, .own 14 ver 0 a.length),(7,Dn R),(8, .int .i64 (j:Int)),(9, .int .i64 lo),(10, .int .i64 hi)],rows,clk⟩ ∧
   m=(hi-lo).toNat∧0≤lo∧lo≤hi∧hi≤9999∧y*lo≤R∧R<y*(hi+1)) 9999 ?_ ?_
  ·exact⟨_,Gh.fr [(0,aJ aI a),(1,Dn y),(6, .own 14 ver 0 a.length),(7,Dn R),(8, .int .i64 (j:Int)),(9, .int .i64 0),(10, .int .i64 9999)] (by simp),0,9999,rfl,by decide,by omega,by omega,by omega,by omega,by omega⟩
  rintro m _ ⟨lo,hi,rfl,hm,EU,hlh,PU,h1,h2⟩
  refine aQ [0,1,6,7,8,9,10,32] ?_
  refine bJ ?_ ?_<;>intro h
  ·simp at h
   refine W.skip ?_
   refine W.block ?_
   refine aA [0,1,6,7,8,9,10,11] ?_
   have K9:lo<(lo+hi+1)/2:=by omega
   have hm2:(lo+hi+1)/2≤hi:=by omega
   generalize (lo+hi+1)/2=LB at *
   have hp:0≤y*LB:=Int.mul_nonneg (by omega) (by omega)
   have zp:Z (y*LB):=by
    have h3:sz 2 LB≤14:=dY (by decide) (by simp;omega)
    have h4:=cG (b:=2) (by decide) (Nat.le_refl (sz 2 y)) h3
    simp only [Z,Y]at *;omega
   have hma:=mH y LB 0 (by omega) zy.z (by omega) (by omega) (by decide) (by decide)
   rw [Int.add_zero]at hma
   refine jC ?_
   refine cS hma ?_
   refine cN [0,1,6,7,8,9,10,11,43] (NC (y*LB) R hp IE zp zR.z) ?_
   refine bJ ?_ ?_<;>intro h
   ·have h:=zI.1 (of_decide_eq_true h)
    refine W.b7 (fun K hK=>?_);simp (disch:=omega) [gw]
    exact hK _ ⟨(hi-LB).toNat,_,aB _ [0,1,6,7,8,9,10],by omega,LB,hi,rfl,rfl,by omega,by omega,by omega,h,h2⟩
   ·have h:=of_decide_eq_false h
    rw [zI]at h
    refine W.b7 (fun K hK=>?_);simp (disch:=omega) [gw]
    refine hK _ ⟨(LB-1-lo).toNat,_,aB _ [0,1,6,7,8,9,10],by omega,lo,LB-1,rfl,rfl,by omega,by omega,by omega,h1,?_⟩
    rw [show LB-1+1=LB by omega];omega
  ·simp at h
   have azg:lo=hi:=by omega
   subst azg
   have hp:0≤y*lo:=Int.mul_nonneg (by omega) (by omega)
   have zp:Y (y*lo):=C8 zR (by omega)
   have hma:=mH y lo 0 (by omega) zy.z (by omega) (by omega) (by decide) (by decide)
   rw [Int.add_zero]at hma
   refine fA ?_
   refine W.sr ?_
   simp (disch:=omega) [gw,hr]
   refine bH [0,1,6,7,8,9] ?_
   refine W.b7 (fun K hK=>?_)
   simp (disch:=omega) [gw]
   refine cS hma ?_
   refine cS (C6 R (y*lo) hp h1 zR.z) ?_
   refine W.lw [0,1,6,7,8] hK ?_;clear hK K;simp
   refine W.b7 (fun K hK=>?_);simp (disch:=omega) [gw]
   refine hK _ ⟨j,_,aB _ [0,1,6,7,8],by omega,R-y*lo,z.set j lo,ver,_,_,rfl,by simp,by omega,by simpa using hz,lz.set (by omega),by omega,by rw [Int.mul_add]at h2;omega,?_⟩
   rw [hR,fE (l:=z.set j lo) (i:=j) (by simp;omega),eZ (by omega),List.drop_set_of_lt (by omega)]
   simp only [V]
   grind
 ·simp at h
  have xU:k=0:=by omega
  subst xU
  simp only [List.drop_zero]at hV
  have ez:z.take a.length=z:=bL hz
  have hzn:=bM (by decide) lz
  rw [hVa]at hV
  have e1:x/y=V 10000 z:=by
   rw [hV,Int.mul_add_ediv_left _ _ (by omega),Int.ediv_eq_zero_of_lt FV CO];simp
  have e2:x%y=r:=by
   rw [hV,Int.mul_add_emod_self_left,Int.emod_eq_of_lt FV CO]
  refine fA ?_
  refine W.sr ?_
  simp (disch:=omega) [gw,hr,ez]
  refine aC (pN z (by omega)) ?_
  simp (disch:=omega) [gw]
  refine bH [4,5] ?_
  refine W.ret ?_
  have h4:=uV lz
  simp only [Dn]at h4
  rw [e1,e2,←h4]
  simp [go]
theorem C9(a b:Int)(za:Y a)(zb:Y b):aE env.P 126 [RI a,RI b] (RI (Int.gcd a b)):=by
 refine cD [(0,RI a),(1,RI b)] Tryz.func126 ?_
 refine aA [2,3,4] ?_
 refine nU ?_
 refine bH [4,5,6] ?_
 refine W.seq ?_
 refine W.block ?_
 refine W.bE (fun k σ=>∃(x:Nat) (rows:Pm.Rows) (clk:Nat),σ=⟨fa [(4, .ptr 4 2 0 0),(5,aJ aI (aS DD x)),(6,aJ aI (aS DD k))],rows,clk⟩∧rows 4=some ⟨2,29,2,[[.nil, .bool false]]⟩∧Nat.gcd x k=Int.gcd a b∧Y (x:Int)∧Y (k:Int)) b.natAbs ?_ ?_
 ·exact⟨_, .refl,a.natAbs,_,_,rfl,by simp,rfl,by simpa [Y,sz]using za,by simpa [Y,sz]using zb⟩
 rintro k _ ⟨x,rows,clk,rfl,c9,hg,zx,zk⟩
 have e0:(aS DD k).length=0↔k=0:=by rw [List.length_eq_zero_iff,eO PY]
 refine aQ [4,5,6,15] ?_
 refine bJ ?_ ?_<;>intro h
 ·have xU:k≠0:=by intro h0;have h1:=e0.2 h0;simp at h;omega
  have hdiv:=NG (x:Int) (k:Int) (by omega) (by omega) zx zk
  have em:(((x:Int)%k).toNat)=x%k:=by rw [←Int.natCast_emod];exact Int.toNat_natCast _
  have ed:(((x:Int)/k).toNat)=x/k:=by rw [←Int.natCast_ediv];exact Int.toNat_natCast _
  simp only [Dn,em,ed,Int.toNat_natCast]at hdiv
  have dK:=Nat.mod_lt x (show k>0 by omega)
  have qZ:Nat.gcd k (x%k)=Int.gcd a b:=by rw [←hg,Nat.gcd_comm x k,Nat.gcd_rec k x,Nat.gcd_comm]
  have zm:Y ((x%k:Nat):Int):=C8 zk (by simp only [Int.natAbs_natCast];omega)
  refine W.skip ?_
  refine W.block ?_
  refine jC ?_
  refine aC hdiv ?_
  generalize x%k=y at *
  simp (disch:=omega) [gw]
  refine bH [4,6,8] ?_
  refine W.b7 (fun K hK=>?_);simp (disch:=omega) [gw]
  exact hK _ ⟨y,_,aB _ [4,5,6],dK,k,_,_,rfl,by simp [c9],qZ,zk,zm⟩
 ·have xU:k=0:=by rw [←e0];simp at h;simp [h]
  subst xU
  rw [Nat.gcd_zero_right]at hg
  subst hg
  refine fA ?_
  refine W.sr ?_
  simp (disch:=omega) [gw,c9]
  refine bH [4] ?_
  exact cC
theorem SG(a b:Int):(if decide (a<0) != decide (b<0)then -((a.natAbs/b.natAbs:Nat):Int)else((a.natAbs/b.natAbs:Nat):Int))=a.tdiv b:=by
 have h:∀x y:Nat,((x/y:Nat):Int)=(x:Int).tdiv y:=fun x y=>by rw [Int.natCast_ediv,Int.tdiv_eq_ediv_of_nonneg (by omega)]
 rw [h]
 by_cases h1:a<0<;>by_cases h2:b<0
 ·simp only [h1,h2,show(a.natAbs:Int) = -a by omega,show(b.natAbs:Int) = -b by omega];simp
 ·simp only [h1,h2,show(a.natAbs:Int) = -a by omega,show(b.natAbs:Int)=b by omega];simp
 ·simp only [h1,h2,show(a.natAbs:Int)=a by omega,show(b.natAbs:Int) = -b by omega];simp
 ·simp only [h1,h2,show(a.natAbs:Int)=a by omega,show(b.natAbs:Int)=b by omega];simp
theorem wM(a b:Int)(hb:b≠0)(za:Y a)(zb:Y b):aE env.P 127 [RI a,RI b] (RI (a.tdiv b)):=by
 have hdiv:=NG (a.natAbs:Int) (b.natAbs:Int) (by omega) (by omega) (by simpa [Y,sz]using za) (by simpa [Y,sz]using zb)
 have em:(((a.natAbs:Int)%b.natAbs).toNat)=a.natAbs%b.natAbs:=by rw [←Int.natCast_emod];exact Int.toNat_natCast _
 have ed:(((a.natAbs:Int)/b.natAbs).toNat)=a.natAbs/b.natAbs:=by rw [←Int.natCast_ediv];exact Int.toNat_natCast _
 have hs:=SG a b
 refine cD [(0,RI a),(1,RI b)] Tryz.func127 ?_
 refine aA [2,3,4] ?_
 simp only [Dn,em,ed,Int.toNat_natCast]at hdiv
 generalize a.natAbs/b.natAbs=q at *
 generalize a.natAbs%b.natAbs=r at *
 refine aR [2,3,4,5] hdiv ?_
 refine jC ?_
 refine aC (nO q (decide (a<0) != decide (b<0))) ?_
 rw [hs]
 simp (disch:=omega) [gw]
 refine bH [4] ?_
 exact cC
def re(q:Rat):List PV:=[aJ aI (aS DD q.num.natAbs), .bool (decide (q.num<0)),aJ aI (aS DD q.den), .bool false]
@[simp] theorem azh{q:Rat}:re q = [aJ aI (aS DD q.num.natAbs), .bool (decide (q.num<0)),aJ aI (aS DD q.den), .bool false]:=rfl
abbrev RR(q:Rat):PV:=.ag (re q)
def dR(n d:Int):Rat:=if d=0 then n else Rat.divInt n d
theorem l7(n:Int):dR n 1=n:=by
 rw [dR,if_neg (by decide),Rat.divInt_eq_div]
 grind
structure ZR(k:Nat)(q:Rat):Prop where
 n:sz 2 q.num≤k
 d:sz 2 (q.den:Int)≤k
abbrev YY:Nat:=137438953472
theorem qH(n d:Int)(hd:d≠0):(dR n d).num=(if d<0 then -n else n)/(Int.gcd (if d<0 then -n else n) (if d<0 then -d else d)):=by
 rw [dR,if_neg hd,Rat.num_divInt]
 by_cases h:d<0
 ·simp only [h,if_true]
  rw [Int.sign_eq_neg_one_of_neg h,Int.gcd_comm d n,Int.neg_gcd,Int.gcd_neg];simp
 ·simp only [h,if_false]
  rw [Int.sign_eq_one_of_pos (by omega),Int.gcd_comm d n];simp
theorem qI(n d:Int)(hd:d≠0):((dR n d).den:Int)=(if d<0 then -d else d)/(Int.gcd (if d<0 then -n else n) (if d<0 then -d else d)):=by
 rw [dR,if_neg hd,Rat.den_divInt,if_neg hd]
 by_cases h:d<0
 ·simp only [h,if_true]
  rw [Int.gcd_comm d n,Int.neg_gcd,Int.gcd_neg]
  rw [Int.natCast_ediv];congr 1;omega
 ·simp only [h,if_false]
  rw [Int.gcd_comm d n,Int.natCast_ediv];congr 1;omega
theorem DA{q:Rat}{n d:Int}(h1:q.num=n)(h2:(q.den:Int)=d):RR q = .ag [aJ aI (aS DD n.natAbs), .bool (decide (n<0)),aJ aI (aS DD d.natAbs), .bool (decide (d<0))]:=by
 subst h1;subst h2
 have:¬((q.den:Int)<0):=by omega
 simp [this]
theorem kT(n d:Int)(zn:Y n)(zd:Y d):aE env.P 60 [RI n,RI d] (RR (dR n d)):=by
 refine cX (E:=env) (fun id=>if id=4 then 2 else 0) [(0,RI n),(1,RI d)] Tryz.func60 rfl (by kernel_rfl) (by kernel_rfl) (show 2≤39 by decide) (by simp) ?_
 refine aA [2,3,4] ?_
 refine W.iB (fun σ=>∃(d1:Int) (rows:Pm.Rows) (clk:Nat),σ=⟨fa [(2, .ptr 2 0 0 0),(3, .ptr 3 1 0 0),(4, .ptr 4 2 0 0)],rows,clk⟩∧rows 2=some ⟨0,29,2,[[aJ aI (aS DD n.natAbs), .bool (decide (n<0))]]⟩ ∧
  rows 3=some ⟨1,29,2,[[aJ aI (aS DD d1.natAbs), .bool (decide (d1<0))]]⟩∧rows 4=some ⟨2,31,4,[[.nil, .bool false, .nil, .bool false]]⟩∧d1≠0∧dR n d=dR n d1∧Y d1) ?_ ?_
 ·
  refine aR [2,3,4,7] (GL d) ?_
  refine bJ ?_ ?_<;>intro h
  ·have h:=of_decide_eq_true h
   subst h
   refine W.b7 (fun K hK=>?_)
   simp (disch:=omega) [gw]
   refine aC (oD 1 (by decide) (by decide)) ?_
   simp (disch:=omega) [gw]
   refine hK _ ⟨_,aB _ [2,3,4],1,_,_,rfl,by simp,by simp,by simp,by decide,by rw [l7];simp [dR],?_⟩
   have:sz 2 1≤1:=dY (by decide) (by decide)
   simp only [Y];omega
  ·have h:=of_decide_eq_false h
   refine W.skip ?_
   exact⟨_,aB _ [2,3,4],d,_,_,rfl,by simp,by simp,by simp,h,rfl,zd⟩
 rintro _ ⟨d1,rows,clk,rfl,bX,cH,c9,VM,hq,zd1⟩
 rw [hq]
 have q1:=qH n d1 VM
 have q2:=qI n d1 VM
 generalize dR n d1=q at *
 clear hq zd d
 refine W.iB (fun σ=>∃(n2 d2:Int) (rows:Pm.Rows) (clk:Nat),σ=⟨fa [(2, .ptr 2 0 0 0),(3, .ptr 3 1 0 0),(4, .ptr 4 2 0 0)],rows,clk⟩∧rows 2=some ⟨0,29,2,[[aJ aI (aS DD n2.natAbs), .bool (decide (n2<0))]]⟩ ∧
  rows 3=some ⟨1,29,2,[[aJ aI (aS DD d2.natAbs), .bool (decide (d2<0))]]⟩∧rows 4=some ⟨2,31,4,[[.nil, .bool false, .nil, .bool false]]⟩∧0<d2∧q.num=n2/Int.gcd n2 d2∧(q.den:Int)=d2/Int.gcd n2 d2∧Y n2∧Y d2) ?_ ?_
 ·
  refine W.sr ?_
  simp (disch:=omega) [gw,cH]
  refine bH [2,3,4,10] ?_
  refine bJ ?_ ?_<;>intro h
  ·have h:=of_decide_eq_true h
   simp only [h,if_true]at q1 q2
   have hn:=pP n
   have hd:=pP d1
   have zn2:Y (-n):=by simpa [Y,oT]using zn
   have zd2:Y (-d1):=by simpa [Y,oT]using zd1
   obtain⟨n2,hn2⟩:∃m,m = -n:=⟨_,rfl⟩
   obtain⟨d2,Q4⟩:∃m,m = -d1:=⟨_,rfl⟩
   rw [←hn2]at hn zn2 q1 q2
   rw [←Q4]at hd zd2 q1 q2
   refine W.I2 (fun K hK=>?_)
   rw [if_pos rfl,fR]
   simp (disch:=omega) [gw,bX]
   refine aC hn ?_
   simp (disch:=omega) [gw,bX,cH]
   refine aC hd ?_
   simp (disch:=omega) [gw,bX,cH]
   exact hK _ ⟨_,aB _ [2,3,4],n2,d2,_,_,rfl,by simp,by simp,by simp [c9],by omega,q1,q2,zn2,zd2⟩
  ·have h:=of_decide_eq_false h
   simp only [h,if_false]at q1 q2
   refine W.skip ?_
   exact⟨_,aB _ [2,3,4],n,d1,_,_,rfl,bX,cH,c9,by omega,q1,q2,zn,zd1⟩
 clear bX cH c9 q1 q2
 rintro _ ⟨n2,d2,rows,clk,rfl,bX,cH,c9,h0,q1,q2,zn2,zd2⟩
 refine W.seq ?_
 refine W.eJ (fun σ=>∃(b:Bool),σ=⟨fa [(2, .ptr 2 0 0 0),(3, .ptr 3 1 0 0),(4, .ptr 4 2 0 0),(25, .bool b)],rows,clk⟩∧(b=true↔(aS DD d2.natAbs).length=1∧nth (aS DD d2.natAbs) 0=1)) (fun K hK=>?_) ?_
 ·by_cases h1:(aS DD d2.natAbs).length=1
  ·have h2:((aS DD d2.natAbs).length:Int)=1:=by omega
   simp (disch:=omega) [gw,cH,h1,h2]
   exact hK _ _ (aB _ [2,3,4,25]) ⟨_,rfl,by simp [h1]⟩
  ·have h2:¬((aS DD d2.natAbs).length:Int)=1:=by omega
   have h3:(((aS DD d2.natAbs).length:Int)==1)=false:=by simpa using h2
   simp (disch:=omega) [gw,cH,h3]
   exact hK _ _ (aB _ [2,3,4,25]) ⟨_,rfl,by simp [h1,h2]⟩
 rintro _ ⟨b,rfl,hb⟩
 refine bJ ?_ ?_<;>intro h
 ·have hb:=hb.1 h
  have Q4:d2=1:=by
   have hv:=auc d2
   obtain⟨h1,h2⟩:=hb
   match hl:aS DD d2.natAbs,h1 with
   | [x],_ =>
    rw [hl]at h2 hv
    simp [nth,V]at h2 hv
    omega
  subst Q4
  rw [Int.gcd_one]at q1 q2
  rw [DA (n:=n2) (d:=1) (by simpa using q1) (by simpa using q2)]
  refine W.sr ?_
  simp (disch:=omega) [gw,bX,cH,c9]
  refine bH [4] ?_
  exact cC
 ·refine W.skip ?_
  have hgp:0<Int.gcd n2 d2:=Int.gcd_pos_of_ne_zero_right _ (by omega)
  have e1:n2.tdiv (Int.gcd n2 d2)=q.num:=by rw [q1];exact Int.tdiv_eq_ediv_of_dvd (Int.gcd_dvd_left ..)
  have e2:d2.tdiv (Int.gcd n2 d2)=q.den:=by rw [q2];exact Int.tdiv_eq_ediv_of_dvd (Int.gcd_dvd_right ..)
  have zg:Y (Int.gcd n2 d2:Int):=C8 zd2 (by
   have:=Int.le_of_dvd h0 (Int.gcd_dvd_right n2 d2);omega)
  have hq1:=wM n2 (Int.gcd n2 d2) (by omega) zn2 zg
  have hq2:=wM d2 (Int.gcd n2 d2) (by omega) zd2 zg
  rw [e1]at hq1
  rw [e2]at hq2
  have hg:=C9 n2 d2 zn2 zd2
  obtain⟨g,hgd⟩:∃g:Int,g=Int.gcd n2 d2:=⟨_,rfl⟩
  rw [←hgd]at hg hq1 hq2
  have hnn:¬((q.den:Int)<0):=by omega
  refine W.sr ?_
  simp (disch:=omega) [gw,bX,cH]
  refine aC hg ?_
  simp (disch:=omega) [gw,bX,cH]
  refine bH [2,3,4,5] ?_
  refine W.sd ?_
  simp (disch:=omega) [gw,bX,cH]
  refine aC hq1 ?_
  simp (disch:=omega) [gw,bX,cH]
  refine aC hq2 ?_
  simp (disch:=omega) [gw,bX,cH,c9]
  refine bH [4] ?_
  refine W.ret ?_
  simp [go,hnn]
theorem oE(n d:Int)(h1 : -9223372036854775808≤n∧n<9223372036854775808)(h2 : -9223372036854775808≤d∧d<9223372036854775808):aE env.P 12 [.int .i64 n, .int .i64 d] (RR (dR n d)):=by
 have z:∀x:Int, -9223372036854775808≤x∧x<9223372036854775808→Y x:=fun x hx=>by
  have:sz 2 x≤64:=dY (by decide) (by omega)
  simp only [Y];omega
 have hm:=kT n d (z n h1) (z d h2)
 generalize dR n d=q at *
 refine cD [(0, .int .i64 n),(1, .int .i64 d)] Tryz.func12 ?_
 refine aA [0,1,4] ?_
 refine jC ?_
 refine cS (oD n h1.1 h1.2) ?_
 refine cS (oD d h2.1 h2.2) ?_
 refine cN [4] hm ?_
 exact cC
theorem NH(q:Rat):aE env.P 108 [RR q] (RR (-q)):=by
 have hn:=pP q.num
 have e:RR (-q) = .ag [aJ aI (aS DD (-q.num).natAbs), .bool (decide (-q.num<0)),aJ aI (aS DD q.den), .bool false]:=rfl
 rw [e]
 generalize -q.num=m at *
 refine cD [(0,RR q)] Tryz.func108 ?_
 refine aA [1,2] ?_
 refine nU ?_
 refine cN [2] hn ?_
 exact cC
theorem ahk(p q:Rat):dR (p.num*q.den+q.num*p.den) ((p.den:Int)*q.den)=p+q:=by
 have h:((p.den:Int)*q.den)≠0:=by have:=p.den_nz;have:=q.den_nz;simp [Int.mul_eq_zero];omega
 rw [dR,if_neg h,Rat.add_def',←Int.natCast_mul,Rat.divInt_ofNat]
theorem ahl(p q:Rat):dR (p.num*q.num) ((p.den:Int)*q.den)=p*q:=by
 have h:((p.den:Int)*q.den)≠0:=by have:=p.den_nz;have:=q.den_nz;simp [Int.mul_eq_zero];omega
 rw [dR,if_neg h,Rat.mul_def',←Int.natCast_mul,Rat.divInt_ofNat]
theorem ahm(p q:Rat)(hq:q≠0):dR (p.num*q.den) ((p.den:Int)*q.num)=p/q:=by
 have hn:q.num≠0:=fun h=>hq (Rat.num_eq_zero.1 h)
 have h:((p.den:Int)*q.num)≠0:=by have:=p.den_nz;exact Int.mul_ne_zero (by omega) hn
 rw [dR,if_neg h,Rat.div_def,Rat.inv_def,←Rat.divInt_mul_divInt,Rat.num_divInt_den]
theorem NI(p q:Rat)(hp:ZR YY p)(hq:ZR YY q):aE env.P 225 [RR p,RR q] (RR (p+q)):=by
 have s1:=cG (b:=2) (by decide) hp.n hq.d
 have s2:=cG (b:=2) (by decide) hq.n hp.d
 have s3:=cG (b:=2) (by decide) hp.d hq.d
 have s4:=nJ (b:=2) (by decide) s1 s2
 have zz:∀ {x:Int},sz 2 x≤YY→Z x:=fun h=>by simp only [Z,YY]at *;omega
 have m1:=eV p.num q.den (zz hp.n) (zz hq.d)
 have m2:=eV q.num p.den (zz hq.n) (zz hp.d)
 have m3:=eV p.den q.den (zz hp.d) (zz hq.d)
 have m4:=C7 (p.num*q.den) (q.num*p.den) (by simp only [Z,YY]at *;omega) (by simp only [Z,YY]at *;omega)
 have m5:=kT (p.num*q.den+q.num*p.den) ((p.den:Int)*q.den) (by simp only [Y,YY]at *;omega) (by simp only [Y,YY]at *;omega)
 rw [ahk]at m5
 generalize p.num*q.den+q.num*p.den=x5 at *
 generalize p.num*q.den=x1 at *
 generalize q.num*(p.den:Int)=x2 at *
 generalize (p.den:Int)*q.den=x3 at *
 generalize hr:p+q=r at *
 have d1:RR p = .ag [aJ aI (aS DD p.num.natAbs), .bool (decide (p.num<0)),aJ aI (aS DD (p.den:Int).natAbs), .bool (decide ((p.den:Int)<0))]:=DA rfl rfl
 have d2:RR q = .ag [aJ aI (aS DD q.num.natAbs), .bool (decide (q.num<0)),aJ aI (aS DD (q.den:Int).natAbs), .bool (decide ((q.den:Int)<0))]:=DA rfl rfl
 rw [d1,d2]
 generalize (p.den:Int)=pd at *
 generalize (q.den:Int)=qd at *
 generalize p.num=pn at *
 generalize q.num=qn at *
 refine cD [(0, .ag [aJ aI (aS DD pn.natAbs), .bool (decide (pn<0)),aJ aI (aS DD pd.natAbs), .bool (decide (pd<0))]),(1, .ag [aJ aI (aS DD qn.natAbs), .bool (decide (qn<0)),aJ aI (aS DD qd.natAbs), .bool (decide (qd<0))])] Tryz.func225 ?_
 refine aA [2,3,4] ?_
 refine nU ?_
 refine cS m1 ?_
 refine cS m2 ?_
 refine cS m4 ?_
 refine cS m3 ?_
 refine cN [4] m5 ?_
 exact cC
theorem NJ(p q:Rat)(hp:ZR YY p)(hq:ZR YY q):aE env.P 226 [RR p,RR q] (RR (p*q)):=by
 have s1:=cG (b:=2) (by decide) hp.n hq.n
 have s2:=cG (b:=2) (by decide) hp.d hq.d
 have zz:∀ {x:Int},sz 2 x≤YY→Z x:=fun h=>by simp only [Z,YY]at *;omega
 have m1:=eV p.num q.num (zz hp.n) (zz hq.n)
 have m2:=eV p.den q.den (zz hp.d) (zz hq.d)
 have m5:=kT (p.num*q.num) ((p.den:Int)*q.den) (by simp only [Y,YY]at *;omega) (by simp only [Y,YY]at *;omega)
 rw [ahl]at m5
 generalize p.num*(q.num:Int)=x1 at *
 generalize (p.den:Int)*q.den=x2 at *
 generalize hr:p*q=r at *
 have d1:RR p = .ag [aJ aI (aS DD p.num.natAbs), .bool (decide (p.num<0)),aJ aI (aS DD (p.den:Int).natAbs), .bool (decide ((p.den:Int)<0))]:=DA rfl rfl
 have d2:RR q = .ag [aJ aI (aS DD q.num.natAbs), .bool (decide (q.num<0)),aJ aI (aS DD (q.den:Int).natAbs), .bool (decide ((q.den:Int)<0))]:=DA rfl rfl
 rw [d1,d2]
 generalize (p.den:Int)=pd at *
 generalize (q.den:Int)=qd at *
 generalize p.num=pn at *
 generalize q.num=qn at *
 refine cD [(0, .ag [aJ aI (aS DD pn.natAbs), .bool (decide (pn<0)),aJ aI (aS DD pd.natAbs), .bool (decide (pd<0))]),(1, .ag [aJ aI (aS DD qn.natAbs), .bool (decide (qn<0)),aJ aI (aS DD qd.natAbs), .bool (decide (qd<0))])] Tryz.func226 ?_
 refine aA [2,3,4] ?_
 refine nU ?_
 refine cS m1 ?_
 refine cS m2 ?_
 refine cN [4] m5 ?_
 exact cC
theorem NK(p q:Rat)(hp:ZR YY p)(hq:ZR YY q)(h0:q≠0):aE env.P 230 [RR p,RR q] (RR (p/q)):=by
 have s1:=cG (b:=2) (by decide) hp.n hq.d
 have s2:=cG (b:=2) (by decide) hp.d hq.n
 have zz:∀ {x:Int},sz 2 x≤YY→Z x:=fun h=>by simp only [Z,YY]at *;omega
 have m1:=eV p.num q.den (zz hp.n) (zz hq.d)
 have m2:=eV p.den q.num (zz hp.d) (zz hq.n)
 have m5:=kT (p.num*q.den) ((p.den:Int)*q.num) (by simp only [Y,YY]at *;omega) (by simp only [Y,YY]at *;omega)
 rw [ahm p q h0]at m5
 generalize p.num*(q.den:Int)=x1 at *
 generalize (p.den:Int)*q.num=x2 at *
 generalize hr:p/q=r at *
 have d1:RR p = .ag [aJ aI (aS DD p.num.natAbs), .bool (decide (p.num<0)),aJ aI (aS DD (p.den:Int).natAbs), .bool (decide ((p.den:Int)<0))]:=DA rfl rfl
 have d2:RR q = .ag [aJ aI (aS DD q.num.natAbs), .bool (decide (q.num<0)),aJ aI (aS DD (q.den:Int).natAbs), .bool (decide ((q.den:Int)<0))]:=DA rfl rfl
 rw [d1,d2]
 generalize (p.den:Int)=pd at *
 generalize (q.den:Int)=qd at *
 generalize p.num=pn at *
 generalize q.num=qn at *
 refine cD [(0, .ag [aJ aI (aS DD pn.natAbs), .bool (decide (pn<0)),aJ aI (aS DD pd.natAbs), .bool (decide (pd<0))]),(1, .ag [aJ aI (aS DD qn.natAbs), .bool (decide (qn<0)),aJ aI (aS DD qd.natAbs), .bool (decide (qd<0))])] Tryz.func230 ?_
 refine aA [2,3,4] ?_
 refine nU ?_
 refine cS m1 ?_
 refine cS m2 ?_
 refine cN [4] m5 ?_
 exact cC
theorem NL:aE env.P 224 [] (RR 0):=by
 have h:=oE 0 1 (by decide) (by decide)
 rw [l7]at h
 refine cD [] Tryz.func224 ?_
 refine aA [0] ?_
 refine aR [0] h ?_
 exact cC
def nW:List Rat→List Rat
 | []=>[]
 | x::l=>if nW l = []∧x=0 then []else x::nW l
theorem GN:∀l:List Rat,nW (l ++ [0])=nW l
 | []=>by simp [nW]
 | x::l=>by simp [nW,GN l]
theorem VN{x:Rat}(h:x≠0):∀l:List Rat,nW (l ++ [x])=l ++ [x]
 | []=>by
  show nW [x] = [x]
  rw [nW,if_neg (fun hh=>h hh.2)];rfl
 | y::l=>by
  have ih:=VN h l
  have hn:¬(l ++ [x] = []∧y=0):=by simp
  show nW (y::(l ++ [x]))=y::(l ++ [x])
  rw [nW,ih,if_neg hn]
abbrev qs(x:List Int):List Rat:=x.map fun(c:Int)=>(c:Rat)
theorem wN:∀x:List Int,nW (qs x)=qs (aO x)
 | []=>rfl
 | a::x=>by
  have ih:=wN x
  simp only [qs,List.map_cons]at ih ⊢
  rw [nW,ih,aO]
  by_cases h:aO x = []∧a=0
  ·simp [h]
  ·rw [if_neg h,if_neg (by simpa using h)];simp
@[simp] theorem aqO{l:List Rat}:bG 4 (emap re l)=True:=cB fun _=>rfl
@[simp] theorem anO{v e n:Nat}{l:List Rat}:cQ (some ⟨v,e,n,emap re l⟩)=True:=bT fun _=>rfl
abbrev PP(l:List Rat):PV:=aJ re l
theorem wO(l:List Rat)(hl:l.length<17592186044416):aE env.P 157 [PP l] (PP (nW l)):=by
 refine cD [(0,PP l)] Tryz.func157 ?_
 refine aA [0] ?_
 refine aA [0,3] ?_
 refine W.seq (W.block ?_)
 refine W.bE (fun k σ=>∃(rows:Pm.Rows) (clk:Nat),σ=⟨fa [(0,PP l),(3, .int .i64 (k:Int))],rows,clk⟩∧k≤l.length∧nW l=nW (l.take k)) l.length ?_ ?_
 ·exact⟨_, .refl,_,_,rfl,by omega,by simp⟩
 rintro k _ ⟨rows,clk,rfl,hk,hc⟩
 refine W.seq ?_
 refine W.eJ (fun σ=>∃(b:Bool),σ=⟨fa [(0,PP l),(3, .int .i64 (k:Int)),(16, .bool b)],rows,clk⟩∧(b=true↔0<k∧nth l (k-1)=0)) (fun K hK=>?_) ?_
 ·simp
  by_cases h0:0<k
  ·simp (disch:=omega) [gw,h0]
   refine aC (GL (nth l (k-1)).num) ?_
   simp (disch:=omega) [gw,h0]
   refine hK _ _ (aB _ [0,3,16]) ⟨_,rfl,?_⟩
   simp [h0,Rat.num_eq_zero]
  ·simp (disch:=omega) [gw,h0]
   exact hK _ _ (aB _ [0,3,16]) ⟨_,rfl,by simp [h0]⟩
 rintro _ ⟨b,rfl,hb⟩
 refine bJ ?_ ?_<;>intro h
 ·obtain⟨h0,h1⟩:=hb.1 h
  refine W.skip (W.block ?_)
  refine W.b7 (fun K hK=>?_)
  simp (disch:=omega) [gw]
  refine hK _ ⟨k-1,_,Gh.fr [(0,_),(3, .int .i64 ((k-1:Nat):Int))] (by simp;omega),by omega,_,_,rfl,by omega,?_⟩
  rw [hc,show k=(k-1)+1 by omega,bF (by omega),h1,GN]
  simp
 ·have h2:nW l=l.take k:=by
   rw [hc]
   by_cases h0:0<k
   ·have h1:nth l (k-1)≠0:=fun h1=>by simp [hb.2 ⟨h0,h1⟩]at h
    rw [show k=(k-1)+1 by omega,bF (by omega)]
    exact VN h1 _
   ·have:k=0:=by omega
    subst this;simp [nW]
  refine fA ?_
  refine aA [2] ?_
  refine W.ret ?_
  simp [h2]
def ri(x:Int):List PV:=[aJ aI (aS DD x.natAbs), .bool (decide (x<0)),aJ aI (aS DD 1), .bool false]
@[simp] theorem anP{x:Int}:ri x = [aJ aI (aS DD x.natAbs), .bool (decide (x<0)),aJ aI (aS DD 1), .bool false]:=rfl
theorem iM(x:Int):re (x:Rat)=ri x:=by
 simp only [re,ri,Rat.num_intCast,Rat.den_intCast]
 congr
theorem uF(x:List Int):PP (qs x)=aJ ri x:=by simp only [PP,aJ,emap,qs,List.map_map,Function.comp_def,iM]
abbrev PI(x:List Int):PV:=aJ ri x
@[simp] theorem aqP{l:List Int}:bG 4 (emap ri l)=True:=cB fun _=>rfl
@[simp] theorem anQ{v e n:Nat}{l:List Int}:cQ (some ⟨v,e,n,emap ri l⟩)=True:=bT fun _=>rfl
@[simp] theorem azi{l:List Int}{x:Int}:emap ri l ++ [[aJ aI (aS DD x.natAbs), .bool (decide (x<0)),aJ aI (aS DD 1), .bool false]]=emap ri (l ++ [x]):=by simp [emap]
@[simp] theorem azj{l:List Rat}{q:Rat}:emap re l ++ [[aJ aI (aS DD q.num.natAbs), .bool (decide (q.num<0)),aJ aI (aS DD q.den), .bool false]]=emap re (l ++ [q]):=by simp [emap]
@[simp] theorem aug{l:List Int}{i:Nat}{x:Int}:iA (emap ri l) i 0 [aJ aI (aS DD x.natAbs), .bool (decide (x<0)),aJ aI (aS DD 1), .bool false]=emap ri (l.set i x):=AW (n:=4) (fun _=>rfl)
theorem pQ(l:List Int)(hl:l.length<17592186044416):aE env.P 157 [PI l] (PI (aO l)):=by
 have:=wO (qs l) (by simpa using hl)
 rwa [wN,uF,uF]at this
theorem GO(n:Int)(zn:Y n):aE env.P 60 [RI n,RI 1] (.ag (ri n)):=by
 have:=kT n 1 zn (by have:sz 2 1≤1:=dY (by decide) (by decide);simp only [Y];omega)
 rwa [l7,RR,iM]at this
theorem s8:aE env.P 224 [] (.ag (ri 0)):=by
 have:=NL
 rwa [RR,show(0:Rat)=((0:Int):Rat)by simp,iM]at this
theorem NM(n:Int)(h1 : -9223372036854775808≤n∧n<9223372036854775808):aE env.P 12 [.int .i64 n, .int .i64 1] (.ag (ri n)):=by
 have:=oE n 1 h1 (by decide)
 rwa [l7,RR,iM]at this
theorem sE{x:Int}{k:Nat}(h:sz 2 x≤k)(h1:1≤k):ZR k (x:Rat):=⟨by simpa using h,by simp;exact Nat.le_trans (dY (by decide) (by decide)) h1⟩
theorem ZL(x y:Int)(hx:sz 2 x≤YY)(hy:sz 2 y≤YY):aE env.P 225 [.ag (ri x), .ag (ri y)] (.ag (ri (x+y))):=by
 have:=NI x y (sE hx (by decide)) (sE hy (by decide))
 rwa [←Rat.intCast_add,RR,RR,RR,iM,iM,iM]at this
theorem GP(x y:Int)(hx:sz 2 x≤YY)(hy:sz 2 y≤YY):aE env.P 226 [.ag (ri x), .ag (ri y)] (.ag (ri (x*y))):=by
 have:=NJ x y (sE hx (by decide)) (sE hy (by decide))
 rwa [←Rat.intCast_mul,RR,RR,RR,iM,iM,iM]at this
structure FOK(p:RP):Prop where
 ok:∀c∈p,cV 4294967296 c.2∧c.2.length<4294967296
 len:p.length<1099511627776
theorem ZM(p:RP)(h:FOK p):aE env.P 79 [Pg p] (PI (aO (p.map gv))):=by
 refine cD [(0,Pg p)] Tryz.func79 ?_
 have hl:=h.len
 refine aA [0] ?_
 refine aA [0,3] ?_
 refine W.nil 3 3 31 4 (by simp) (by decide) (fun K hK=>?_)
 refine W.lw [0,3] hK ?_;clear hK K;simp
 refine aQ [0,3,6,7] ?_
 refine W.block ?_
 refine W.bE (fun k σ=>∃(i ver:Nat) (rows:Pm.Rows) (clk:Nat),σ=⟨fa [(0,Pg p),(3, .own 3 ver 0 i),(6, .int .i64 p.length),(7, .int .i64 i)],rows,clk⟩∧rows 3=some ⟨ver,31,4,emap ri ((p.take i).map gv)⟩∧k=p.length-i∧i≤p.length) p.length ?_ ?_
 ·exact⟨_, .refl,0,_,_,_,rfl,by simp [emap],by omega,by omega⟩
 rintro k _ ⟨i,ver,rows,clk,rfl,hr,hk,hi⟩
 refine bU [0,3,6,7,8] ?_
 refine W.cond ⟨_,rfl,fun h0=>?_,fun h0=>?_⟩
 ·simp at h0
  obtain⟨vP,hc2⟩:=h.ok _ (bN h0)
  have gB:((p.take i).map gv).length=i:=by simp;omega
  have hz:Y (iv (nth p i).1 (nth p i).2):=by
   have h1:=ac1 vP
   have h2:sz 2 (iv (nth p i).1 (nth p i).2)=sz 2 (V 4294967296 (nth p i).2):=by unfold iv;split<;>simp [oT]
   simp only [Y];omega
  have hF:=GK (nth p i).1 (nth p i).2 (by omega) vP
  have hM:=GO _ hz
  obtain⟨v,hv⟩:∃v,v=iv (nth p i).1 (nth p i).2:=⟨_,rfl⟩
  rw [←hv]at hF hM
  refine lF ?_
  refine aA [0,3,4,6,7] ?_
  refine W.b7 (fun K hK=>?_)
  simp (disch:=omega) [gw]
  refine cS hF ?_
  refine aC (oD 1 (by decide) (by decide)) ?_
  simp (disch:=omega) [gw]
  refine aC hM ?_
  simp (disch:=omega) [gw,hr,gB]
  refine W.lw [0,3,6,7] hK ?_;clear hK K;simp
  refine W.b7 (fun K hK=>?_);simp (disch:=omega) [gw]
  refine hK _ ⟨p.length-(i+1),_,aB _ [0,3,6,7],by omega,i+1,_,_,_,rfl,?_,by omega,by omega⟩
  rw [oU h0,show gv (nth p i)=v from hv.symm]
  simp
 ·simp at h0
  have iQ:i=p.length:=by omega
  subst iQ
  refine fA ?_
  refine W.sr ?_
  have ez:(p.map gv).take p.length=p.map gv:=bL (by simp)
  simp (disch:=omega) [gw,hr,ez]
  refine aC (pQ (p.map gv) (by simp;omega)) ?_
  simp (disch:=omega) [gw]
  refine bH [2] ?_
  exact cC
theorem VO(l:List Int)(hl:l.length<1099511627776)(hb:∀x∈l, -9223372036854775808≤x∧x<9223372036854775808):aE env.P 97 [aJ aI l] (PI (aO l)):=by
 refine cD [(0,aJ aI l)] Tryz.func97 ?_
 refine aA [0] ?_
 refine aA [0,3] ?_
 refine W.nil 3 3 31 4 (by simp) (by decide) (fun K hK=>?_)
 refine W.lw [0,3] hK ?_;clear hK K;simp
 refine aQ [0,3,6,7] ?_
 refine W.block ?_
 refine W.bE (fun k σ=>∃(i ver:Nat) (rows:Pm.Rows) (clk:Nat),σ=⟨fa [(0,aJ aI l),(3, .own 3 ver 0 i),(6, .int .i64 l.length),(7, .int .i64 i)],rows,clk⟩∧rows 3=some ⟨ver,31,4,emap ri (l.take i)⟩∧k=l.length-i∧i≤l.length) l.length ?_ ?_
 ·exact⟨_, .refl,0,_,_,_,rfl,by simp [emap],by omega,by omega⟩
 rintro k _ ⟨i,ver,rows,clk,rfl,hr,hk,hi⟩
 refine bU [0,3,6,7,8] ?_
 refine W.cond ⟨_,rfl,fun h0=>?_,fun h0=>?_⟩
 ·simp at h0
  have gB:(l.take i).length=i:=by simp;omega
  refine lF ?_
  refine aA [0,3,4,6,7] ?_
  refine W.b7 (fun K hK=>?_)
  simp (disch:=omega) [gw]
  refine aC (NM (nth l i) (hb _ (bN h0))) ?_
  simp (disch:=omega) [gw,hr,gB]
  refine W.lw [0,3,6,7] hK ?_;clear hK K;simp
  refine W.b7 (fun K hK=>?_);simp (disch:=omega) [gw]
  refine hK _ ⟨l.length-(i+1),_,aB _ [0,3,6,7],by omega,i+1,_,_,_,rfl,?_,by omega,by omega⟩
  rw [bF h0]
  simp
 ·simp at h0
  have iQ:i=l.length:=by omega
  subst iQ
  refine fA ?_
  refine W.sr ?_
  simp (disch:=omega) [gw,hr]
  refine aC (pQ l (by omega)) ?_
  simp (disch:=omega) [gw]
  refine bH [2] ?_
  exact cC
structure ZN(l:List Rat):Prop where
 ok:∀q∈l,ZR YY q
 len:l.length<1099511627776
theorem ahn(k:Nat)(hk:1≤k):ZR k 0:=⟨by show sz 2 0≤k;rw [kR];omega,by show sz 2 1≤k;exact Nat.le_trans (dY (by decide) (by decide)) hk⟩
theorem ZN.nth{l:List Rat}(h:ZN l)(i:Nat):ZR YY (nth l i):=by
 by_cases hi:i<l.length
 ·exact h.ok _ (bN hi)
 ·rw [iI (by omega)];exact ahn _ (by decide)
theorem ZN.qs{x:List Int}(h:∀c∈x,sz 2 c≤YY)(hl:x.length<1099511627776):ZN (qs x):=⟨fun q hq=>by
 simp only [List.mem_map]at hq
 obtain⟨c,hc,rfl⟩:=hq
 exact sE (h c hc) (by decide),by simpa using hl⟩
@[simp] theorem anR{l:List Rat}:(∀e∈emap re l,∀p∈e,bI p=true)=True:=by simp [emap]
theorem VP(l:List Rat)(i:Nat)(hi:i<9223372036854775808):aE env.P 277 [PP l, .int .i64 i] (RR (nth l i)):=by
 have hzero:=NL
 refine cD [(0,PP l),(1, .int .i64 i)] Tryz.func277 ?_
 refine bU [0,1,4] ?_
 refine W.eJ (fun σ=>∃(b:Bool) (rows:Pm.Rows) (clk:Nat),σ=⟨fa [(0,PP l),(1, .int .i64 i),(4, .ptr 4 0 0 0),(12, .bool b)],rows,clk⟩∧(b=true↔l.length≤i)∧rows 4=some ⟨0,31,4,[[.nil, .bool false, .nil, .bool false]]⟩) (fun K hK=>?_) ?_
 ·have hn:¬((i:Int)<0):=by omega
  simp (disch:=omega) [gw,hn]
  exact hK _ _ (aB _ [0,1,4,12]) ⟨_,_,_,rfl,by simp,by simp⟩
 rintro _ ⟨b,rows,clk,rfl,hb,c9⟩
 refine bJ ?_ ?_<;>intro h
 ·have hb:=hb.1 h
  have e:nth l i=0:=iI hb
  rw [e]
  generalize (0:Rat)=z at *
  refine jC ?_
  refine aC hzero ?_
  simp (disch:=omega) [gw,c9]
  refine bH [4] ?_
  exact cC
 ·have hb:i<l.length:=Nat.lt_of_not_le fun h2=>by simp [hb.2 h2]at h
  refine W.skip ?_
  refine W.sr ?_
  simp (disch:=omega) [gw,c9]
  refine bH [4] ?_
  exact cC
def ac7(a b:List Rat):List Rat:=nW ((List.range (max a.length b.length)).map fun k=>nth a k+nth b k)
theorem ac8(a b:List Rat)(ha:ZN a)(hb:ZN b):aE env.P 274 [PP a,PP b] (PP (ac7 a b)):=by
 have hal:=ha.len;have hbl:=hb.len
 refine cD [(0,PP a),(1,PP b)] Tryz.func274 ?_
 obtain⟨M,hM⟩:∃M,M=max a.length b.length:=⟨_,rfl⟩
 refine aA [0,1] ?_
 refine aA [0,1,5] ?_
 refine W.nil 5 5 31 4 (by simp) (by decide) (fun K hK=>?_)
 refine W.lw [0,1,5] hK ?_;clear hK K;simp
 refine aQ [0,1,5,6] ?_
 refine W.block ?_
 refine W.bE (fun k σ=>∃(i ver:Nat) (rows:Pm.Rows) (clk:Nat),σ=⟨fa [(0,PP a),(1,PP b),(5, .own 5 ver 0 i),(6, .int .i64 i)],rows,clk⟩∧rows 5=some ⟨ver,31,4,emap re ((List.range i).map fun k=>nth a k+nth b k)⟩∧k=M-i∧i≤M) M ?_ ?_
 ·exact⟨_, .refl,0,_,_,_,rfl,by simp [emap],by omega,by omega⟩
 rintro k _ ⟨i,ver,rows,clk,rfl,hr,hk,hi⟩
 have em:(if a.length<b.length then(b.length:Int)else(a.length:Int))=M:=by split<;>omega
 have em2:(if b.length<a.length then(a.length:Int)else(b.length:Int))=M:=by split<;>omega
 refine W.seq ?_
 refine W.sr ?_
 simp (disch:=omega) [gw,em,em2]
 refine bH [0,1,5,6,13] ?_
 refine bJ ?_ ?_<;>intro h
 ·have h:i<M:=by simp at h;omega
  refine lF ?_
  have h1:=VP a i (by omega)
  have h2:=VP b i (by omega)
  have h3:=NI _ _ (ha.nth i) (hb.nth i)
  have er:(List.range (i+1)).map (fun k=>nth a k+nth b k)=(List.range i).map (fun k=>nth a k+nth b k) ++ [nth a i+nth b i]:=by rw [List.range_succ];simp
  have gB:((List.range i).map fun k=>nth a k+nth b k).length=i:=by simp
  generalize ((List.range i).map fun k=>nth a k+nth b k)=acc at *
  generalize nth a i+nth b i=q at *
  generalize nth a i=u at *
  generalize nth b i=v at *
  refine W.b7 (fun K hK=>?_)
  simp (disch:=omega) [gw]
  refine cS h1 ?_
  refine cS h2 ?_
  refine aC h3 ?_
  simp (disch:=omega) [gw,hr,gB]
  refine W.lw [0,1,5,6] hK ?_;clear hK K;simp
  refine W.b7 (fun K hK=>?_);simp (disch:=omega) [gw]
  refine hK _ ⟨M-(i+1),_,aB _ [0,1,5,6],by omega,i+1,_,_,_,rfl,by rw [er];simp,by omega,by omega⟩
 ·have h:i=M:=by simp at h;omega
  subst h
  refine fA ?_
  have gB:((List.range i).map fun k=>nth a k+nth b k).length=i:=by simp
  rw [ac7,←hM]
  generalize ((List.range i).map fun k=>nth a k+nth b k)=acc at *
  have ez:=bL gB
  refine W.sr ?_
  simp (disch:=omega) [gw,hr,ez]
  refine aC (wO acc (by omega)) ?_
  simp (disch:=omega) [gw]
  refine bH [4] ?_
  exact cC
def kU(a:List Rat)(c:Rat):List Rat:=nW (a.map fun x=>x*c)
theorem uW(a:List Rat)(c:Rat)(ha:ZN a)(hc:ZR YY c):aE env.P 201 [PP a,RR c] (PP (kU a c)):=by
 have hal:=ha.len
 refine cX (E:=env) (fun id=>if id=5 then 2 else 0) [(0,PP a),(1,RR c)] Tryz.func201 rfl (by kernel_rfl) (by kernel_rfl) (show 2≤24 by decide) (by simp) ?_
 refine aA [0,3] ?_
 refine aA [0,3,5] ?_
 refine W.nil 5 5 31 4 (by simp) (by decide) (fun K hK=>?_)
 refine W.lw [0,3,5] hK ?_;clear hK K;simp
 refine aQ [0,3,5,8,9] ?_
 refine W.block ?_
 refine W.bE (fun k σ=>∃(i ver:Nat) (rows:Pm.Rows) (clk:Nat),σ=⟨fa [(0,PP a),(3, .ptr 3 0 0 0),(5, .own 5 ver 0 i),(8, .int .i64 a.length),(9, .int .i64 i)],rows,clk⟩∧rows 5=some ⟨ver,31,4,emap re ((a.take i).map fun x=>x*c)⟩∧rows 3=some ⟨0,31,4,[re c]⟩∧k=a.length-i∧i≤a.length) a.length ?_ ?_
 ·exact⟨_, .refl,0,_,_,_,rfl,by simp [emap],by simp,by omega,by omega⟩
 rintro k _ ⟨i,ver,rows,clk,rfl,hr,cH,hk,hi⟩
 refine bU [0,3,5,8,9,10] ?_
 refine bJ ?_ ?_<;>intro h
 ·simp at h
  refine lF ?_
  refine aA [0,3,5,6,8,9] ?_
  have h3:=NJ _ _ (ha.nth i) hc
  have er:=oU (f:=fun x=>x*c) h
  have gB:((a.take i).map fun x=>x*c).length=i:=by simp;omega
  generalize (a.take i).map (fun x=>x*c)=acc at *
  generalize hq:nth a i*c=q at *
  refine W.I2 (fun K hK=>?_)
  rw [if_pos rfl,fR]
  simp (disch:=omega) [gw,cH]
  refine aC h3 ?_
  simp (disch:=omega) [gw,hr,cH,gB]
  refine W.lw [0,3,5,8,9] hK ?_;clear hK K;simp
  refine W.b7 (fun K hK=>?_);simp (disch:=omega) [gw]
  refine hK _ ⟨a.length-(i+1),_,aB _ [0,3,5,8,9],by omega,i+1,_,_,_,rfl,by rw [er];simp,by simp [cH],by omega,by omega⟩
 ·simp at h
  have iQ:i=a.length:=by omega
  subst iQ
  refine fA ?_
  rw [List.take_length]at hr
  rw [kU]
  have gB:(a.map fun x=>x*c).length=a.length:=by simp
  generalize a.map (fun x=>x*c)=acc at *
  have ez:=bL gB
  refine W.sr ?_
  simp (disch:=omega) [gw,hr,ez]
  refine aC (wO acc (by omega)) ?_
  simp (disch:=omega) [gw]
  refine bH [4] ?_
  exact cC
theorem NN(a:List Rat)(ha:ZN a):aE env.P 161 [PP a] (PP (kU a (-1))):=by
 have h1:=oE (-1) 1 (by decide) (by decide)
 rw [l7,show(((-1:Int)):Rat) = -1 by simp]at h1
 have h2:=uW a (-1) ha ⟨by show sz 2 (-1)≤YY;exact Nat.le_trans (dY (k:=1) (by decide) (by decide)) (by decide),by show sz 2 1≤YY;exact Nat.le_trans (dY (k:=1) (by decide) (by decide)) (by decide)⟩
 generalize (-1:Rat)=c at *
 refine cD [(0,PP a)] Tryz.func161 ?_
 refine aA [0] ?_
 refine jC ?_
 refine cS h1 ?_
 refine cN [2] h2 ?_
 exact cC
theorem ac9(x:List Int)(k:Nat):nth (qs x) k=((nth x k:Int):Rat):=AS (f:=fun(c:Int)=>(c:Rat)) rfl x k
theorem ZO(x:List Int)(c:Int):kU (qs x) (c:Rat)=qs (bB x c):=by
 rw [kU,bB,←wN]
 congr 1
 simp [qs,Function.comp_def]
theorem SH(x:List Int):bB x (-1)=gV x:=by simp [bB,gV]
theorem GQ(x:List Int)(hx:Bd 2 YY 1099511627775 x):aE env.P 161 [PI x] (PI (gV x)):=by
 have:=NN (qs x) (.qs hx.sz (by have:=hx.len;omega))
 rwa [show(-1:Rat)=((-1:Int):Rat)by simp,ZO,SH,uF,uF]at this
theorem ZP(x y:List Int)(s s' n n':Nat)(hs:Bd 2 s n x)(AQ:Bd 2 s' n' y)(hB:s+s'+n+n'<YY):aE env.P 199 [PI x,PI y] (PI (bR x y)):=by
 have hlx:=hs.len;have hly:=AQ.len
 have hB2:s+s'+n+n'<137438953472:=hB
 refine cX (E:=env) (fun id=>if id=15 then 1 else 0) [(0,PI x),(1,PI y)] Tryz.func199 rfl (by kernel_rfl) (by kernel_rfl) (show 2≤69 by decide) (by simp) ?_
 refine bU [0,1] ?_
 refine W.eJ (fun σ=>∃(b:Bool),σ=⟨fa [(0,PI x),(1,PI y),(16, .bool b)],fun _=>none,0⟩∧(b=true↔x = []∨y = [])) (fun K hK=>?_) ?_
 ·simp
  have e1:((x.length:Int)==0)=decide (x = []):=by
   cases x<;>simp<;>omega
  have e2:((y.length:Int)==0)=decide (y = []):=by
   cases y<;>simp<;>omega
  rw [e1]
  by_cases h0:x = []
  ·have e3:decide (x = [])=true:=by simp [h0]
   rw [e3]
   simp
   exact hK _ _ (aB _ [0,1,16]) ⟨_,rfl,by simp [h0]⟩
  ·have e3:decide (x = [])=false:=by simp [h0]
   rw [e3]
   simp
   exact hK _ _ (aB _ [0,1,16]) ⟨_,rfl,by rw [e2];simp [h0]⟩
 rintro _ ⟨b,rfl,hb⟩
 refine bJ ?_ ?_<;>intro h
 ·have e:bR x y = []:=by
   have h1:=hb.1 h
   refine Cn.ext (Cn.bR _ _) Cn.nil fun t=>?_
   rw [dJ]
   rcases h1 with rfl | rfl<;>simp [V]
  refine aA [4] ?_
  refine W.ret ?_
  simp [go,e]
  rfl
 ·have h1:¬(x = []∨y = []):=fun h2=>by simp [hb.2 h2]at h
  have pM:0<x.length:=List.length_pos_iff.2 fun h2=>h1 (.inl h2)
  have SB:0<y.length:=List.length_pos_iff.2 fun h2=>h1 (.inr h2)
  clear h hb h1
  have e0:((x.length:Int)+(y.length:Int)-1).toNat=x.length+y.length-1:=by omega
  have e9:((x.length+y.length-1:Nat):Int)=(x.length:Int)+(y.length:Int)-1:=by omega
  refine W.skip ?_
  refine W.sr ?_
  simp (disch:=omega) [gw,e0]
  refine bH [0,1,5] ?_
  refine aQ [0,1,5,25,26] ?_
  refine W.block ?_
  refine W.bE (fun k σ=>∃(i ver:Nat) (els:List (List PV)) (rows:Pm.Rows) (clk:Nat),σ=⟨fa [(0,PI x),(1,PI y),(5, .own 23 ver 0 (x.length+y.length-1)),(25, .int .i64 ((x.length+y.length-1:Nat):Int)),(26, .int .i64 i)],rows,clk⟩ ∧
   rows 23=some ⟨ver,31,4,els⟩∧els.length=x.length+y.length-1∧(∀e∈els,e.length=4)∧els.take i=emap ri (List.replicate i 0)∧k=x.length+y.length-1-i∧i≤x.length+y.length-1) (x.length+y.length-1) ?_ ?_
  ·exact⟨_,Gh.fr [(0,PI x),(1,PI y),(5, .own 23 0 0 (x.length+y.length-1)),(25, .int .i64 ((x.length+y.length-1:Nat):Int)),(26, .int .i64 (0:Nat))] (by simp),0,_,List.replicate (x.length+y.length-1) [.nil, .bool false, .nil, .bool false],_,_,rfl,by simp [e0],by simp,by simp,by simp [emap],by omega,by omega⟩
  rintro k _ ⟨i,ver,els,rows,clk,rfl,hr,mY,NO,rC,hk,hi⟩
  have Y9:bG 4 els=True:=by simp only [bG,eq_iff_iff,iff_true];exact NO
  refine bU [0,1,5,25,26,27] ?_
  refine bJ ?_ ?_<;>intro h
  ·have h:i<x.length+y.length-1:=by simp at h;omega
   refine lF ?_
   refine aA [0,1,5,6,25,26] ?_
   refine W.b7 (fun K hK=>?_)
   simp (disch:=omega) [gw]
   refine aC s8 ?_
   have tO:i<els.length:=by omega
   have hE:uE els i 4=True:=by
    simp only [eq_iff_iff,iff_true]
    exact⟨els[i],List.getElem?_eq_getElem tO,by rw [NO _ (List.getElem_mem tO)];omega⟩
   have hS:iA els i 0 [aJ aI (aS DD 0), .bool false,aJ aI (aS DD 1), .bool false]=els.set i (ri 0):=by
    have h4:=NO _ (List.getElem_mem tO)
    rw [iA,List.getElem?_eq_getElem tO]
    simp [List.drop_of_length_le,h4]
   simp (disch:=omega) [gw,hr,hE,hS]
   refine W.lw [0,1,5,25,26] hK ?_;clear hK K;simp
   refine W.b7 (fun K hK=>?_);simp (disch:=omega) [gw]
   refine hK _ ⟨x.length+y.length-1-(i+1),_,aB _ [0,1,5,25,26],by omega,i+1,ver,els.set i (ri 0),_,_,rfl,by simp,by simpa using mY,fun e he=>?_,?_,by omega,by omega⟩
   ·rcases List.mem_or_eq_of_mem_set he with h1 | h1
    ·exact NO e h1
    ·rw [h1];rfl
   ·rw [mG rC (by omega),List.replicate_succ']
    simp [emap]
  ·have h:i=x.length+y.length-1:=by simp at h;omega
   subst h
   have n6:els=emap ri (List.replicate (x.length+y.length-1) 0):=by rw [←rC,bL mY]
   subst n6
   clear rC NO mY Y9 hk hi
   refine fA ?_
   refine aQ [0,1,5,35,36] ?_
   refine W.block ?_
   refine W.bE (fun k σ=>∃(i:Nat) (z:List Int) (ver:Nat) (rows:Pm.Rows) (clk:Nat),σ=⟨fa [(0,PI x),(1,PI y),(5, .own 23 ver 0 (x.length+y.length-1)),(35, .int .i64 x.length),(36, .int .i64 i)],rows,clk⟩ ∧
    rows 23=some ⟨ver,31,4,emap ri z⟩∧k=x.length-i∧i≤x.length∧z.length=x.length+y.length-1∧(∀j,sz 2 (nth z j)≤s+s'+i) ∧
    ∀t,V t z=V t (x.take i)*V t y) x.length ?_ ?_
   ·refine⟨_, .refl,0,List.replicate (x.length+y.length-1) 0,_,_,_,rfl,hr,by omega,by omega,by simp,fun j=>?_,fun t=>by simp [V,qW]⟩
    have:Bd 2 0 (x.length+y.length-1) (List.replicate (x.length+y.length-1) 0):=⟨by simp,fun c hc=>by rw [(List.mem_replicate.1 hc).2,kR];omega⟩
    have:=this.nth j
    omega
   clear hr rows clk
   rintro k _ ⟨i,z,ver,rows,clk,rfl,hr,hk,hi,hz,EN,hV⟩
   refine bU [0,1,5,35,36,37] ?_
   refine bJ ?_ ?_<;>intro h
   ·simp at h
    refine lF ?_
    refine aA [0,1,5,7,35,36] ?_
    refine aA [0,1,5,7,35,36,40,41] ?_
    refine W.block ?_
    refine W.bE (fun m σ=>∃(k:Nat) (z:List Int) (ver:Nat) (rows:Pm.Rows) (clk:Nat),σ=⟨fa [(0,PI x),(1,PI y),(5, .own 23 ver 0 (x.length+y.length-1)),(7, .int .i64 i),(35, .int .i64 x.length),(36, .int .i64 i),(40, .int .i64 y.length),(41, .int .i64 k)],rows,clk⟩ ∧
     rows 23=some ⟨ver,31,4,emap ri z⟩∧m=y.length-k∧k≤y.length∧z.length=x.length+y.length-1∧(∀j,sz 2 (nth z j)≤s+s'+i+1)∧(∀j,i+k≤j→sz 2 (nth z j)≤s+s'+i) ∧
     ∀t,V t z=V t (x.take i)*V t y+t^i*nth x i*V t (y.take k)) y.length ?_ ?_
    ·refine⟨_, .refl,0,z,ver,_,_,rfl,by simpa using hr,by omega,by omega,hz,fun j=>by have:=EN j;omega,fun j _=>EN j,fun t=>by simp [V,hV]⟩
    clear hV EN hz hr z ver rows clk
    rintro m _ ⟨k,z,ver,rows,clk,rfl,hr,hm,hky,hz,EN,SC,hV⟩
    refine bU [0,1,5,7,35,36,40,41,42] ?_
    refine W.cond ⟨_,rfl,fun h2=>?_,fun h2=>?_⟩
    ·simp at h2
     refine lF ?_
     refine aA [0,1,5,7,8,35,36,40,41] ?_
     have e1:((i:Int)+(k:Int)).toNat=i+k:=by omega
     have K9:sz 2 (nth x i*nth y k)≤s+s'+i:=Nat.le_trans (cG (by decide) (hs.nth i) (AQ.nth k)) (by omega)
     have hm2:=nJ (b:=2) (by decide) (SC (i+k) (Nat.le_refl _)) K9
     have hlz:i+k<z.length:=by omega
     have c1:=GP (nth x i) (nth y k) (Nat.le_trans (hs.nth i) (by show _≤137438953472;omega)) (Nat.le_trans (AQ.nth k) (by show _≤137438953472;omega))
     have c2:=ZL (nth z (i+k)) (nth x i*nth y k) (Nat.le_trans (SC (i+k) (Nat.le_refl _)) (by show _≤137438953472;omega)) (Nat.le_trans K9 (by show _≤137438953472;omega))
     have R8:=fun t=>GB (b:=t) (x:=nth z (i+k)+nth x i*nth y k) hlz
     generalize hu:nth z (i+k)+nth x i*nth y k=u at *
     generalize hpq:nth x i*nth y k=pq at *
     refine W.I2 (fun K hK=>?_)
     rw [if_pos rfl,fR]
     simp (disch:=omega) [gw,hr,e1]
     refine aC c1 ?_
     simp (disch:=omega) [gw,hr,e1]
     refine aC c2 ?_
     simp (disch:=omega) [gw,hr,e1]
     refine W.lw [0,1,5,7,35,36,40,41] hK ?_;clear hK K;simp
     refine W.b7 (fun K hK=>?_);simp (disch:=omega) [gw]
     refine hK _ ⟨y.length-(k+1),_,aB _ [0,1,5,7,35,36,40,41],by omega,k+1,z.set (i+k) u,ver,_,_,rfl,by simp,by omega,by omega,by simpa using hz,fun j=>?_,fun j hj=>?_,fun t=>?_⟩
     ·by_cases hj:i+k=j
      ·subst hj;rw [eZ hlz];exact hm2
      ·rw [gS hj];exact EN j
     ·rw [gS (by omega)];exact SC j (by omega)
     ·rw [R8,aV h2,hV,Int.pow_add,←hu,←hpq];clear hV R8;grind
    ·simp at h2
     have xL:k=y.length:=by omega
     subst xL
     refine fA ?_
     refine W.b7 (fun K hK=>?_);simp (disch:=omega) [gw]
     refine hK _ ⟨x.length-(i+1),_,aB _ [0,1,5,35,36],by omega,i+1,z,ver,_,_,rfl,hr,by omega,by omega,hz,fun j=>by have:=EN j;omega,fun t=>?_⟩
     rw [hV,a9 (Nat.le_refl _),aV h];grind
   ·simp at h
    have iQ:i=x.length:=by omega
    subst iQ
    have uT:=bL hz
    refine fA ?_
    refine W.sr ?_
    simp (disch:=omega) [gw,hr,uT]
    refine aC (pQ z (by omega)) ?_
    simp (disch:=omega) [gw]
    refine bH [4] ?_
    refine W.ret ?_
    have e:aO z=bR x y:=by
     refine Cn.ext (Cn.cut _) (Cn.bR _ _) fun t=>?_
     rw [c8,hV,dJ,a9 (Nat.le_refl _)]
    simp [go,e]
theorem qJ(v n:Int)(hv : -9223372036854775808≤v∧v<9223372036854775808)(hn:0<n)(hn2:n<4611686018427387904):aE env.P 13 [.int .i64 v, .int .i64 n] (.int .i64 (v%n)):=by
 have hn0:n≠0:=by omega
 have h12:(v.tmod n=v%n∨(v.tmod n<0∧v.tmod n+n=v%n)) ∧ -n<v.tmod n∧v.tmod n<n:=by
  have h2:=Int.emod_nonneg v hn0
  have h3:=Int.emod_lt_of_pos v hn
  rcases(show v<0∨0≤v by omega)with h | h
  ·have h4:=Int.tmod_eq_emod (a:=v) (b:=n)
   have h5:(n.natAbs:Int)=n:=by omega
   split at h4
   ·simp at h4;omega
   ·rename_i h6
    rw [h5]at h4
    have h7:v%n≠0:=fun h8=>h6 (.inr (Int.dvd_of_emod_eq_zero h8))
    omega
  ·rw [Int.tmod_eq_emod_of_nonneg h];omega
 obtain⟨h1,h2⟩:=h12
 have h5:=Int.emod_nonneg v hn0
 have h6:=Int.emod_lt_of_pos v hn
 have hnn:¬n<1:=by omega
 refine cD [(0, .int .i64 v),(1, .int .i64 n)] Tryz.func13 ?_
 refine aA [0,1] ?_
 refine aQ [0,1,7] ?_
 refine bJ ?_ ?_<;>intro h
 ·exfalso;simp at h;omega
 ·refine W.skip ?_
  generalize hm:v.tmod n=m at *
  generalize v%n=r at *
  refine W.sr ?_
  simp (disch:=omega) [gA,hn0,hm]
  refine bH [1,5] ?_
  refine W.iB (fun σ=>∃(rows:Pm.Rows) (clk:Nat),σ=⟨fa [(5, .int .i64 r)],rows,clk⟩) ?_ ?_
  ·
   refine aA [1,5,12] ?_
   refine bJ ?_ ?_<;>intro h
   ·simp at h
    refine W.b7 (fun K hK=>?_);simp (disch:=omega) [gw]
    exact hK _ ⟨_,Gh.fr [(5, .int .i64 r)] (by simp;omega),_,_,rfl⟩
   ·simp at h
    refine W.skip ?_
    exact⟨_,Gh.fr [(5, .int .i64 r)] (by simp;omega),_,_,rfl⟩
  rintro _ ⟨rows,clk,rfl⟩
  refine aA [4] ?_
  exact cC
structure PB(x:List Int):Prop where
 sz:∀c∈x,Sz c
 len:x.length<1099511627775
theorem PB.DB{x:List Int}(h:PB x):rB (x.map tN):=rB.aha h.sz (by have:=h.len;omega)
theorem PB.of{s n:Nat}{x:List Int}(h:Bd LL s n x)(hs:s<1099511627775)(hn:n<1099511627775):PB x:=⟨fun c hc=>Nat.lt_of_le_of_lt (h.sz c hc) (by omega),Nat.lt_of_le_of_lt h.len hn⟩
theorem ZQ{x y:List Int}(hx:PB x)(hy:PB y):aE env.P 182 [Po x,Po y] (Po (iJ x y)):=by
 have:=acV _ _ hx.DB hy.DB
 rwa [b8,b8,←iL,←iL]at this
theorem GR{x y:List Int}(hx:PB x)(hy:PB y):aE env.P 186 [Po x,Po y] (Po (fL x y)):=by
 have:=acW _ _ hx.DB hy.DB
 rwa [b8,b8,←iL,←iL]at this
theorem GS{x:List Int}(hx:PB x):aE env.P 139 [Po x] (Po (gV x)):=by
 have:=acX _ hx.DB
 rwa [b8,←iL]at this
theorem eQ{x:List Int}(hx:PB x):aE env.P 64 [Po x] (Po (aO x)):=by
 have:=gK _ hx.DB
 rwa [b8,←iL]at this
theorem SI{x y:List Int}(hx:PB x)(hy:PB y):aE env.P 251 [Po x,Po y] (.bool (decide (aO x=aO y))):=by
 have:=ZB _ _ hx.DB hy.DB
 rwa [b8,b8,←iL,←iL]at this
theorem ZS{a:RP}{y:List Int}{s s' n n':Nat}(ha:rB a)(hs:Bd LL s n (a.map gv))(AQ:Bd LL s' n' y)(hB:s+s'+n+n'<1099511627775):aE env.P 15 [Pg a,Po y] (Po (bR (a.map gv) y)):=by
 have:=acY a (y.map tN) ha (PB.of AQ (by omega) (by omega)).DB s s' n n' hs (by rwa [b8]) hB
 rwa [b8,←iL]at this
theorem s9{x y:List Int}{s s' n n':Nat}(hs:Bd LL s n x)(AQ:Bd LL s' n' y)(hB:s+s'+n+n'<1099511627775):aE env.P 15 [Po x,Po y] (Po (bR x y)):=by
 have:=ZS (PB.of hs (by omega) (by omega)).DB (by rwa [b8]) AQ hB
 rwa [b8,←iL]at this
theorem maps{α:Type}{g:α→List PV}{R:List PV→Prop}{Q:α→Prop}(h:∀ps,R ps → ∃a,ps=g a∧Q a):∀ {l:List (List PV)},(∀x∈l,R x) → ∃m:List α,l=m.map g ∧ ∀a∈m,Q a
 | [],_=>⟨[],rfl,fun _ h=>(by cases h)⟩
 | x::l,hx=>by
  obtain⟨a,rfl,ha⟩:=h x (hx x (by simp))
  obtain⟨m,rfl,hm⟩:=maps h (l:=l) fun y hy=>hx y (by simp [hy])
  exact⟨a::m,rfl,fun b hb=>by
   rcases List.mem_cons.1 hb with rfl | hb
   ·exact ha
   ·exact hm b hb⟩
theorem AX:uS Tryz.prog 3 (fun q=>∃n:Int,q = .int .i64 n ∧ -9223372036854775808≤n∧n<9223372036854775808):=
 (uS.int .i64 (by kernel_rfl)).mono fun q ⟨n,h1,h2,h3⟩=>⟨n,h1,by simpa [IntKind.min,IntKind.signed,IntKind.bits]using h2,by simp [IntKind.max,IntKind.signed,IntKind.bits]at h3;omega⟩
theorem own:ownKnob Tryz.prog.godebug=none:=by kernel_rfl
theorem laidOut:laidOutB Tryz.prog=true:=by kernel_rfl
structure Tg where
 k:Int
 a:Int
 b:Int
 c:Int
 d:Int
 deriving DecidableEq
instance:Inhabited Tg:=⟨⟨0,0,0,0,0⟩⟩
def tgc(t:Tg):List PV:=[.int .i64 t.k, .int .i64 t.a, .int .i64 t.b, .int .i64 t.c, .int .i64 t.d]
theorem VQ(t:Tg):tgc t = [.int .i64 t.k, .int .i64 t.a, .int .i64 t.b, .int .i64 t.c, .int .i64 t.d]:=rfl
def DC(s t:Tg):Bool:=
 if s.k≠t.k then decide (s.k<t.k)else if s.a≠t.a then decide (s.a<t.a)else if s.b≠t.b then decide (s.b<t.b)else if s.c≠t.c then decide (s.c<t.c)else if s.d≠t.d then decide (s.d<t.d)else false
theorem ZT(s t:Tg):aE env.P 38 [.ag (tgc s), .ag (tgc t)] (.bool (DC s t)):=by
 simp only [VQ,DC]
 obtain⟨k,a,b,c,d⟩:=s
 obtain⟨k',a',b',c',d'⟩:=t
 simp only
 refine cD [(0, .ag [.int .i64 k, .int .i64 a, .int .i64 b, .int .i64 c, .int .i64 d]),(1, .ag [.int .i64 k', .int .i64 a', .int .i64 b', .int .i64 c', .int .i64 d'])] Tryz.func38 ?_
 refine aA [2,3] ?_
 refine aQ [2,3,11] ?_
 refine bJ ?_ ?_<;>intro h
 ·have h:k≠k':=by simpa using h
  rw [if_pos h]
  refine aA [4] ?_
  exact cC
 ·have h:k=k':=by simpa using h
  rw [if_neg (by simpa using h)]
  refine W.skip ?_
  refine aQ [3,18,19] ?_
  refine W.block ?_
  refine W.bE (fun k σ=>∃(j:Nat) (rows:Pm.Rows) (clk:Nat),σ=⟨fa [(3, .ptr 3 1 0 0),(18, .ag [.int .i64 a, .int .i64 b, .int .i64 c, .int .i64 d]),(19, .int .i64 j)],rows,clk⟩∧j+k=4∧rows 3=some ⟨1,78,5,[[.int .i64 k', .int .i64 a', .int .i64 b', .int .i64 c', .int .i64 d']]⟩∧(0<j→a=a')∧(1<j→b=b')∧(2<j→c=c')∧(3<j→d=d')) 4 ?_ ?_
  ·exact⟨_, .refl,0,_,_,rfl,rfl,by simp,by simp,by simp,by simp,by simp⟩
  rintro m _ ⟨j,rows,clk,rfl,hj,cH,h1,h2,h3,h4⟩
  have akg:j=0∨j=1∨j=2∨j=3∨j=4:=by omega
  refine bU [3,18,19,20] ?_
  refine bJ ?_ ?_<;>intro h
  ·have hj4:j<4:=by simp at h;omega
   refine lF ?_
   have akg:j=0∨j=1∨j=2∨j=3:=by omega
   rcases akg with rfl | rfl | rfl | rfl
   ·refine aA [3,5,6,18,19] ?_
    refine W.sr ?_
    simp (disch:=omega) [gw,cH]
    refine bH [3,5,6,18,19,28] ?_
    refine bJ ?_ ?_<;>intro h
    ·have h:a≠a':=by simpa using h
     rw [if_pos h]
     refine W.sr ?_
     simp (disch:=omega) [gw,cH]
     refine bH [4] ?_
     exact cC
    ·have h:a=a':=by simpa using h
     refine W.skip ?_
     refine W.b7 (fun K hK=>?_);simp (disch:=omega) [gw]
     exact hK _ ⟨m-1,_,aB _ [3,18,19],by omega,1,_,_,rfl,by omega,cH,fun _=>h,by simp,by simp,by simp⟩
   ·have e1:=h1 (by omega)
    refine aA [3,5,6,18,19] ?_
    refine W.sr ?_
    simp (disch:=omega) [gw,cH]
    refine bH [3,5,6,18,19,28] ?_
    refine bJ ?_ ?_<;>intro h
    ·have h:b≠b':=by simpa using h
     rw [if_neg (by simpa using e1),if_pos h]
     refine W.sr ?_
     simp (disch:=omega) [gw,cH]
     refine bH [4] ?_
     exact cC
    ·have h:b=b':=by simpa using h
     refine W.skip ?_
     refine W.b7 (fun K hK=>?_);simp (disch:=omega) [gw]
     exact hK _ ⟨m-1,_,aB _ [3,18,19],by omega,2,_,_,rfl,by omega,cH,fun _=>e1,fun _=>h,by simp,by simp⟩
   ·have e1:=h1 (by omega)
    have e2:=h2 (by omega)
    refine aA [3,5,6,18,19] ?_
    refine W.sr ?_
    simp (disch:=omega) [gw,cH]
    refine bH [3,5,6,18,19,28] ?_
    refine bJ ?_ ?_<;>intro h
    ·have h:c≠c':=by simpa using h
     rw [if_neg (by simpa using e1),if_neg (by simpa using e2),if_pos h]
     refine W.sr ?_
     simp (disch:=omega) [gw,cH]
     refine bH [4] ?_
     exact cC
    ·have h:c=c':=by simpa using h
     refine W.skip ?_
     refine W.b7 (fun K hK=>?_);simp (disch:=omega) [gw]
     exact hK _ ⟨m-1,_,aB _ [3,18,19],by omega,3,_,_,rfl,by omega,cH,fun _=>e1,fun _=>e2,fun _=>h,by simp⟩
   ·have e1:=h1 (by omega)
    have e2:=h2 (by omega)
    have e3:=h3 (by omega)
    refine aA [3,5,6,18,19] ?_
    refine W.sr ?_
    simp (disch:=omega) [gw,cH]
    refine bH [3,5,6,18,19,28] ?_
    refine bJ ?_ ?_<;>intro h
    ·have h:d≠d':=by simpa using h
     rw [if_neg (by simpa using e1),if_neg (by simpa using e2),if_neg (by simpa using e3),if_pos h]
     refine W.sr ?_
     simp (disch:=omega) [gw,cH]
     refine bH [4] ?_
     exact cC
    ·have h:d=d':=by simpa using h
     refine W.skip ?_
     refine W.b7 (fun K hK=>?_);simp (disch:=omega) [gw]
     exact hK _ ⟨m-1,_,aB _ [3,18,19],by omega,4,_,_,rfl,by omega,cH,fun _=>e1,fun _=>e2,fun _=>e3,fun _=>h⟩
  ·have hj4:j=4:=by simp at h;omega
   subst hj4
   rw [if_neg (by simpa using h1 (by omega)),if_neg (by simpa using h2 (by omega)),if_neg (by simpa using h3 (by omega)),if_neg (by simpa using h4 (by omega))]
   refine fA ?_
   refine aA [4] ?_
   exact cC
def sc(z:Bool)(l:List (List PV)):PV:=if z=true then .nil else .sl l
def szc(z:Bool)(l:List (List PV)):List (List PV):=if z=true then []else l
@[simp] theorem ada{l:List (List PV)}:sc false l = .sl l:=rfl
@[simp] theorem azl{l:List (List PV)}:sc true l = .nil:=rfl
@[simp] theorem aCK{rows:Pm.Rows}{z:Bool}{l:List (List PV)}:fz rows (sc z l) = .sl (szc z l):=by cases z<;>rfl
@[simp] theorem aCL{rows:Pm.Rows}{z:Bool}{l:List (List PV)}:pz rows (sc z l) = .sl (szc z l):=by cases z<;>rfl
@[simp] theorem DE{z:Bool}{l:List (List PV)}:bI (sc z l)=true:=by cases z<;>rfl
@[simp] theorem awY{z:Bool}{l:List (List PV)}:aU (sc z l) = []:=by cases z<;>rfl
@[simp] theorem awZ{z:Bool}{l:List (List PV)}:dV (sc z l) = []:=by cases z<;>rfl
@[simp] theorem aw0{rows:Pm.Rows}{z:Bool}{l:List (List PV)}:iT rows (sc z l)=True:=by cases z<;>simp [sc,iT]
@[simp] theorem aqQ{z:Bool}{l:List (List PV)}:fC (sc z l)=some [sc z l]:=by cases z<;>rfl
@[simp] theorem aqR{z:Bool}{l:List (List PV)}:cE (sc z l)=some [sc z l]:=by cases z<;>rfl
structure CE where
 t:Tg
 z:Bool
 p:List Int
 w:Int
instance:Inhabited CE:=⟨⟨default,true,[],0⟩⟩
def kV(x:CE):List PV:=[.int .i64 x.t.k, .int .i64 x.t.a, .int .i64 x.t.b, .int .i64 x.t.c, .int .i64 x.t.d,sc x.z (emap ie x.p), .int .i64 x.w]
theorem iW(x:CE):kV x = [.int .i64 x.t.k, .int .i64 x.t.a, .int .i64 x.t.b, .int .i64 x.t.c, .int .i64 x.t.d,sc x.z (emap ie x.p), .int .i64 x.w]:=rfl
@[simp] theorem anS{l:List CE}:bG 7 (emap kV l)=True:=cB fun _=>rfl
theorem adb(x:CE):(kV x).all bI=true:=by simp only [iW,List.all_cons,DE,List.all_nil];rfl
@[simp] theorem akh{v e n:Nat}{l:List CE}:cQ (some ⟨v,e,n,emap kV l⟩)=True:=bT adb
def CE.v(x:CE):List Int:=if x.z=true then []else x.p
def CE.nz(x:CE):CE:=⟨x.t,false,x.v,x.w⟩
structure RE where
 t:Tg
 z:Bool
 q:List (List PV)
 w:Int
 y:Bool
 s:List (List PV)
 a:Bool
instance:Inhabited RE:=⟨⟨default,true,[],0,true,[],false⟩⟩
def ade(x:RE):List PV:=[.int .i64 x.t.k, .int .i64 x.t.a, .int .i64 x.t.b, .int .i64 x.t.c, .int .i64 x.t.d,sc x.z x.q, .int .i64 x.w,sc x.y x.s, .bool x.a]
theorem aho(x:RE):ade x = [.int .i64 x.t.k, .int .i64 x.t.a, .int .i64 x.t.b, .int .i64 x.t.c, .int .i64 x.t.d,sc x.z x.q, .int .i64 x.w,sc x.y x.s, .bool x.a]:=rfl
@[simp] theorem anT{l:List RE}:bG 9 (emap ade l)=True:=cB fun _=>rfl
theorem adf(x:RE):(ade x).all bI=true:=by simp only [aho,List.all_cons,DE,List.all_nil];rfl
@[simp] theorem aki{v e n:Nat}{l:List RE}:cQ (some ⟨v,e,n,emap ade l⟩)=True:=bT adf
section
variable {α:Type} [Inhabited α]
def DF(tg:α→Tg)(t:Tg)(l:List α):Nat→Nat
 | 0=>0
 | k+1=>if DC t (tg (nth l k))=true then DF tg t l k else k+1
theorem GU{tg:α→Tg}{t:Tg}{l:List α}{k:Nat}:DF tg t l (k+1)=if DC t (tg (nth l k))=true then DF tg t l k else k+1:=rfl
def bef(tg:α→Tg)(t:Tg)(l:List α):Nat→Bool
 | 0=>false
 | k+1=>DC t (tg (nth l k))
theorem adg{tg:α→Tg}{t:Tg}{l:List α}{k:Nat}(h:bef tg t l k=false):DF tg t l k=k:=by
 cases k with
 | zero=>rfl
 | succ k=>rw [GU,if_neg (by rw [show DC t (tg (nth l k))=false from h];decide)]
theorem VR{tg:α→Tg}{t:Tg}{l:List α}:∀k,DF tg t l k≤k
 | 0=>Nat.le_refl _
 | k+1=>by
  unfold DF
  split
  ·exact Nat.le_succ_of_le (VR k)
  ·exact Nat.le_refl _
def SJ(tg:α→Tg)(l:List α)(x:α):List α:=l.take (DF tg (tg x) l l.length)++x::l.drop (DF tg (tg x) l l.length)
def GV(tg:α→Tg)(l:List α):List α:=l.foldl (SJ tg) []
theorem adh{tg:α→Tg}{l:List α}{x:α}:(SJ tg l x).length=l.length+1:=by
 have:=VR (tg:=tg) (t:=tg x) (l:=l) l.length
 simp [SJ]
 omega
theorem adi{tg:α→Tg}{l:List α}{i:Nat}(h:i<l.length):GV tg (l.take (i+1))=SJ tg (GV tg (l.take i)) (nth l i):=by
 unfold GV
 rw [bW h,List.take_succ_eq_append_getElem h,List.foldl_append]
 rfl
theorem ahp{tg:α→Tg}{l:List α}:(GV tg l).length=l.length:=by
 suffices h:∀(l S:List α),(l.foldl (SJ tg) S).length=S.length+l.length by simpa [GV]using h l []
 intro l
 induction l with
 | nil=>intro S;simp
 | cons x l ih=>intro S;rw [List.foldl_cons,ih,adh];simp;omega
end
theorem anU{α:Type}{S:List α}{z y:α}{k:Nat}(hk:k≤S.length):((S ++ [z]).take (k+1)++((S ++ [z]).drop k).take (S.length-k)).set k y=S.take k++y::S.drop k:=by
 obtain⟨A,B,rfl,rfl⟩:∃A B,S=A++B∧A.length=k:=⟨S.take k,S.drop k,(List.take_append_drop k S).symm,by simp;omega⟩
 have e1:(A++B ++ [z]).take (A.length+1)=A++(B ++ [z]).take 1:=by rw [List.append_assoc,List.take_length_add_append]
 have e2:(A++B ++ [z]).drop A.length=B ++ [z]:=by rw [List.append_assoc,List.drop_left]
 have e3:(A++B).length-A.length=B.length:=by simp
 have e4:(B ++ [z]).take B.length=B:=by simp
 rw [e1,e2,e3,e4,List.take_left,List.drop_left]
 cases B with
 | nil=>simp
 | cons b B=>simp
theorem azn(x:CE):x.nz.t=x.t:=rfl
def FD(l:List CE):List CE:=GV CE.t (l.map CE.nz)
theorem adj{α β:Type}[Inhabited α][Inhabited β]{f:α→β}{l:List α}{i:Nat}(h:i<l.length):nth (l.map f) i=f (nth l i):=by rw [bW (by simpa using h),bW h];simp
theorem ZU{l:List CE}{i:Nat}(h:i<l.length):FD (l.take (i+1))=SJ CE.t (FD (l.take i)) (nth l i).nz:=by
 unfold FD
 rw [List.map_take,List.map_take,adi (by simpa using h),adj h]
theorem NP{l:List CE}:(FD l).length=l.length:=by simp [FD,ahp]
@[simp] theorem ahq{x:CE}:(kV x).length=7:=rfl
theorem ZV{L:List CE}{j:Nat}{y:CE}(h:j<L.length):iA (emap kV L) j 0 (kV y)=emap kV (L.set j y):=by
 simp [iA,emap,List.map_set,h]
 rw [show(kV L[j]).drop 7 = []from rfl,List.append_nil]
def zC:CE:=⟨⟨0,0,0,0,0⟩,false,[],0⟩
set_option maxHeartbeats 2000000 in
theorem GW{l:List CE}(hl:l.length<1048576)(hN:∀x∈l,aE env.P 64 [.sl (szc x.z (emap ie x.p))] (.sl (emap ie x.v))) :
  aE env.P 35 [aJ kV l] (aJ kV (FD l)):=by
 refine cD [(0,aJ kV l)] Tryz.func35 ?_
 refine aA [0] ?_
 refine aA [0,3] ?_
 refine W.nil 3 3 82 7 (by simp) (by decide) (fun K hK=>?_)
 refine W.lw [0,3] hK ?_;clear hK K;simp
 refine aQ [3,7,8,9] ?_
 refine W.block ?_
 refine W.bE (fun k σ=>∃(i v3:Nat) (rows:Pm.Rows) (clk:Nat),σ=⟨fa [(3, .own 3 v3 0 i),(7,aJ kV l),(8, .int .i64 l.length),(9, .int .i64 i)],rows,clk⟩∧i+k=l.length∧rows 3=some ⟨v3,82,7,emap kV (FD (l.take i))⟩) l.length ?_ ?_
 ·exact⟨_, .refl,0,_,_,_,rfl,by omega,by simp [FD,GV,emap]⟩
 rintro k _ ⟨i,v3,rows,clk,rfl,zH,cH⟩
 refine bU [3,7,8,9,10] ?_
 refine bJ ?_ ?_<;>intro h
 ·have hi:i<l.length:=by simp at h;omega
  have hsl:(FD (l.take i)).length=i:=by rw [NP,List.length_take];omega
  have kW:=ZU hi
  have hNi:=hN _ (bN hi)
  rw [SJ,azn,hsl]at kW
  generalize FD (l.take i)=S at *
  refine lF ?_
  generalize hx:nth l i=x at *
  refine W.sr ?_
  simp (disch:=omega) [gw,hi,iW,hx]
  refine bH [3,5,7,8,9] ?_
  refine W.sr ?_
  simp (disch:=omega) [gw,cH]
  refine bH [3,5,6,7,8,9] ?_
  refine W.seq ?_
  refine W.block ?_
  refine W.bE (fun k σ=>∃(j:Nat) (rows:Pm.Rows) (clk:Nat),σ=⟨fa [(3, .own 3 v3 0 i),(5, .ptr 5 clk 0 0),(6, .int .i64 j),(7,aJ kV l),(8, .int .i64 l.length),(9, .int .i64 i)],rows,clk+1⟩∧j≤i∧DF CE.t x.t S i=DF CE.t x.t S j∧j=k∧rows 3=some ⟨v3,82,7,emap kV S⟩∧rows 5=some ⟨clk,82,7,[kV x]⟩) i ?_ ?_
  ·exact⟨_, .refl,i,_,_,rfl,Nat.le_refl _,rfl,rfl,by simp [cH],by simp [iW]⟩
  clear cH rows clk
  rintro m _ ⟨j,rows,clk,rfl,EY,hp,rfl,cH,dM⟩
  simp only [iW]at dM
  refine W.seq ?_
  refine W.acC (fun σ=>∃(b:Bool),σ=⟨fa [(3, .own 3 v3 0 i),(5, .ptr 5 clk 0 0),(6, .int .i64 j),(7,aJ kV l),(8, .int .i64 l.length),(9, .int .i64 i),(27, .bool b)],rows,clk+1⟩∧b=bef CE.t x.t S j) (fun K hK=>?_) ?_
  ·cases j with
   | zero =>
    simp (disch:=omega) [gw]
    exact hK _ _ (aB _ [3,5,6,7,8,9,27]) ⟨_,rfl,rfl⟩
   | succ j =>
    have hL:=ZT x.t (nth S j).t
    simp only [VQ]at hL
    have hjS:j<S.length:=by omega
    have lK:(0:Int)<(j:Int)+1:=by omega
    simp (disch:=omega) [gw,cH,dM,iW,hjS,lK]
    refine cS hL ?_
    exact hK _ _ (aB _ [3,5,6,7,8,9,27]) ⟨_,rfl,rfl⟩
  rintro _ ⟨b,rfl,hb⟩
  refine bJ ?_ ?_<;>intro h
  ·subst h
   cases j with
   | zero=>simp [bef]at hb
   | succ j =>
    have hb:DC x.t (nth S j).t=true:=hb.symm
    refine W.skip ?_
    refine W.block ?_
    refine W.b7 (fun K hK=>?_);simp (disch:=omega) [gw]
    exact hK _ ⟨j,_,aB _ [3,5,6,7,8,9],by omega,j,_,_,rfl,by omega,by rw [hp,GU,if_pos hb],rfl,cH,by simp only [iW];exact dM⟩
  ·subst h
   have hpj:DF CE.t x.t S j=j:=adg hb.symm
   rw [hp,hpj]at kW
   refine fA ?_
   clear hp
   refine W.eJ (fun σ=>∃(v:Nat) (rows:Pm.Rows) (gZ:Nat),σ=⟨fa [(3, .own 3 v 0 (i+1)),(5, .ptr 5 clk 0 0),(6, .int .i64 j),(7,aJ kV l),(8, .int .i64 l.length),(9, .int .i64 i)],rows,gZ⟩∧rows 3=some ⟨v,82,7,emap kV (S ++ [zC])⟩∧rows 5=some ⟨clk,82,7,[kV x]⟩) (fun K hK=>?_) ?_
   ·simp (disch:=omega) [gw,cH,dM,hsl]
    refine hK _ _ (aB _ [3,5,6,7,8,9]) ⟨_,_,_,rfl,?_,?_⟩
    ·simp [emap,iW,zC]
    ·simp [dM,iW]
   clear cH dM rows
   rintro _ ⟨v,rows,gZ,rfl,cH,dM⟩
   refine W.acC (fun σ=>∃(rows:Pm.Rows),σ=⟨fa [(3, .own 3 v 0 (i+1)),(5, .ptr 5 clk 0 0),(6, .int .i64 j),(7,aJ kV l),(8, .int .i64 l.length),(9, .int .i64 i)],rows,gZ⟩∧rows 3=some ⟨v,82,7,emap kV ((S ++ [zC]).take (j+1)++((S ++ [zC]).drop j).take (i-j))⟩∧rows 5=some ⟨clk,82,7,[kV x]⟩) (fun K hK=>?_) ?_
   ·have LA:(emap kV (S ++ [zC])).length=i+1:=by simp [emap,hsl]
    simp (disch:=omega) [gw,cH]
    refine asf (els:=emap kV (S ++ [zC])) (l:=emap kV ((S ++ [zC]).drop j)) cH (by rw [LA];omega) ⟨_,cH,rfl,?_⟩ ?_ ?_
    ·simp only
     rw [List.take_of_length_le (by rw [List.length_drop,LA];exact Nat.le_refl _)]
     simp [emap]
    ·intro e he
     obtain⟨y,_,rfl⟩:=List.mem_map.1 he
     rfl
    have e1:min (emap kV ((S ++ [zC]).drop j)).length (i-j)=i-j:=by simp [emap,hsl];omega
    have e2:(emap kV (S ++ [zC])).take (j+1)++(emap kV ((S ++ [zC]).drop j)).take (i-j)++(emap kV (S ++ [zC])).drop (j+1+(i-j))=emap kV ((S ++ [zC]).take (j+1)++((S ++ [zC]).drop j).take (i-j)):=by
     rw [show(emap kV (S ++ [zC])).drop (j+1+(i-j)) = []from List.drop_eq_nil_of_le (by rw [LA];omega),List.append_nil]
     simp [emap]
    rw [e1,e2]
    simp (disch:=omega) [gw]
    refine bA (by refine⟨?_,?_⟩<;>kernel_rfl) ?_
    simp (disch:=omega) [gw]
    exact hK _ _ (aB _ [3,5,6,7,8,9]) ⟨_,rfl,by simp,by simp [dM]⟩
   clear cH dM rows
   rintro _ ⟨rows,rfl,cH,dM⟩
   simp only [iW]at dM
   refine W.I2 (fun K hK=>?_)
   simp (disch:=omega) [gw,cH,dM]
   refine aC hNi ?_
   have dK:j<j+1+(i-j):=by omega
   simp (disch:=omega) [gw,cH,dM,ahq,dK]
   refine bA (by kernel_rfl) ?_
   simp (disch:=omega) [gw]
   have e3:=ZV (L:=(S ++ [zC]).take (j+1)++((S ++ [zC]).drop j).take (i-j)) (j:=j) (y:=x.nz) (by simp [hsl];omega)
   rw [←hsl,anU (by omega),←kW]at e3
   simp only [iW,CE.nz,ada,hsl]at e3
   rw [e3]
   refine hK _ ?_;clear hK K
   refine W.b7 (fun K hK=>?_);simp (disch:=omega) [gw]
   exact hK _ ⟨k-1,_,aB _ [3,7,8,9],by omega,i+1,v,_,_,rfl,by omega,by simp⟩
 ·have hi:i=l.length:=by simp at h;omega
  subst hi
  rw [List.take_length]at cH
  refine fA ?_
  refine W.freeze 3 (by simp [cH]) (fun K hK=>?_)
  simp [cH]
  refine hK _ ?_;clear hK K
  refine aA [2] ?_
  refine W.ret ?_
  simp [go,List.take_of_length_le (Nat.le_of_eq (NP (l:=l)))]
structure A9 where
 y:List (List PV)
 s:Bool
 d:List (List PV)
 s':Bool
 d':List (List PV)
 u:Bool
 e:List (List PV)
 u':Bool
 e':List (List PV)
def A9.no:A9:=⟨[],false,[],false,[],false,[],false,[]⟩
instance:Inhabited A9:=⟨A9.no⟩
def b9(x:A9):List PV:=[.sl x.y, .bool x.s, .sl x.d, .bool x.s', .sl x.d', .bool x.u, .sl x.e, .bool x.u', .sl x.e']
theorem fG(x:A9):b9 x = [.sl x.y, .bool x.s, .sl x.d, .bool x.s', .sl x.d', .bool x.u, .sl x.e, .bool x.u', .sl x.e']:=rfl
theorem ahr(x:A9):(b9 x).all bI=true:=rfl
@[simp] theorem aqS{l:List A9}:bG 9 (emap b9 l)=True:=cB fun _=>rfl
@[simp] theorem anV{v e n:Nat}{l:List A9}:cQ (some ⟨v,e,n,emap b9 l⟩)=True:=bT ahr
structure WE where
 t:Tg
 p:List Int
 w:Int
 k:Bool
 o:Bool
 f:A9
instance:Inhabited WE:=⟨⟨default,[],0,false,false,default⟩⟩
def EO(w:WE):List PV:=[.int .i64 w.t.k, .int .i64 w.t.a, .int .i64 w.t.b, .int .i64 w.t.c, .int .i64 w.t.d,Po w.p, .int .i64 w.w, .bool w.k, .bool w.o, .sl w.f.y, .bool w.f.s, .sl w.f.d, .bool w.f.s', .sl w.f.d', .bool w.f.u, .sl w.f.e, .bool w.f.u', .sl w.f.e']
theorem gG(w:WE):EO w = [.int .i64 w.t.k, .int .i64 w.t.a, .int .i64 w.t.b, .int .i64 w.t.c, .int .i64 w.t.d,Po w.p, .int .i64 w.w, .bool w.k, .bool w.o, .sl w.f.y, .bool w.f.s, .sl w.f.d, .bool w.f.s', .sl w.f.d', .bool w.f.u, .sl w.f.e, .bool w.f.u', .sl w.f.e']:=rfl
theorem adk(w:WE):(EO w).all bI=true:=rfl
@[simp] theorem anW{l:List WE}:bG 18 (emap EO l)=True:=cB fun _=>rfl
@[simp] theorem akj{v e n:Nat}{l:List WE}:cQ (some ⟨v,e,n,emap EO l⟩)=True:=bT adk
def co(b:Bool)(n:A9)(z:Bool)(L:List WE)(e:Int):List PV:=[.bool b,sc (!b) n.y, .bool n.s,sc (!b) n.d, .bool n.s',sc (!b) n.d', .bool n.u,sc (!b) n.e, .bool n.u',sc (!b) n.e',sc z (emap EO L), .int .i64 e]
theorem gL(b:Bool)(n:A9)(z:Bool)(L:List WE)(e:Int):co b n z L e = [.bool b,sc (!b) n.y, .bool n.s,sc (!b) n.d, .bool n.s',sc (!b) n.d', .bool n.u,sc (!b) n.e, .bool n.u',sc (!b) n.e',sc z (emap EO L), .int .i64 e]:=rfl
theorem jM(b:Bool)(n:A9)(z:Bool)(L:List WE)(e:Int):∀p∈co b n z L e,bI p=true:=List.all_eq_true.1 (by simp only [gL,List.all_cons,DE,List.all_nil];rfl)
attribute [simp] ajP
theorem DG{b:Bool}{n:A9}{z:Bool}{L:List WE}{e:Int}:g9 env.P 44 [] 95 12 (co b n z L e) (co b n z L e) (.int .i64 e):=by
 refine iK (E:=env) (fun _=>0) [] Tryz.func44 rfl (by kernel_rfl) (by kernel_rfl) (show 1≤7 by decide) (by intro q;simp) ?_
 intro id ver rows clk eS
 refine aA [0] ?_
 simp only [gL]at eS ⊢
 refine W.sr ?_
 simp (disch:=omega) [gw,eS]
 refine bH [2] ?_
 refine W.ret ?_
 simp [go,eS]
theorem wP{n:A9}{z:Bool}{L:List WE}{e:Int}(hL:aE env.P 112 [.sl [b9 n]] (.dU [.ag (b9 n), .bool true])):g9 env.P 49 [] 95 12 (co true n z L e) (co true n z L e) (.ag (b9 n)):=by
 refine iK (E:=env) (fun _=>0) [] Tryz.func49 rfl (by kernel_rfl) (by kernel_rfl) (show 1≤23 by decide) (by intro q;simp) ?_
 intro id ver rows clk eS
 simp only [fG]at hL ⊢
 simp only [gL,Bool.not_true,ada]at eS ⊢
 refine aA [0,2] ?_
 refine W.seq ?_
 refine W.sr ?_
 simp (disch:=omega) [gw,eS]
 refine bH [0,2,9] ?_
 refine bJ ?_ ?_<;>intro h
 ·simp at h
 refine W.skip ?_
 refine W.sr ?_
 simp (disch:=omega) [gw,eS]
 refine aC hL ?_
 simp (disch:=omega) [gw,eS]
 refine bH [2,3] ?_
 refine aA [2] ?_
 refine W.ret ?_
 simp [go,eS]
def VS(R:WE→Bool × A9)(w:WE):WE:=if w.k=true then w else⟨w.t,w.p,w.w,true,(R w).1,(R w).2⟩
theorem DH{b:Bool}{n m:A9}{z:Bool}{L:List WE}{e:Int}{R:WE→Bool × A9}(hl:L.length<1000000)(hz:z=true→L = [])
  (hN:g9 env.P 49 [] 95 12 (co b n z L e) (co b n z L e) (.ag (b9 m)))
  (hR:∀w∈L,w.k=false→aE env.P 206 [Po w.p, .ag (b9 m)] (.dU [.ag (b9 (R w).2), .bool (R w).1])) :
  g9 env.P 120 [] 95 12 (co b n z L e) (co b n false (L.map (VS R)) e) (.dU []):=by
 refine iK (E:=env) (fun _=>0) [] Tryz.func120 rfl (by kernel_rfl) (by kernel_rfl) (show 1≤40 by decide) (by intro q;simp) ?_
 intro id ver jE adl eS
 have K4:=jM b n z L e
 simp only [fG]at hN hR
 refine aA [0,2] ?_
 refine W.sr ?_
 simp (disch:=omega) [gw,eS]
 refine nI hN rfl rfl K4 K4 eS ?_
 simp (disch:=omega) [gw]
 refine bH [0,2,3] ?_
 refine W.nil 2 2 179 18 (by simp) (by decide) (fun K hK=>?_)
 refine W.lw [0,2,3] hK ?_;clear hK K;simp
 refine W.seq ?_
 refine W.eJ (fun σ=>∃(s:PV) (v2 v3:Nat) (rows:Pm.Rows) (clk:Nat),σ=⟨fa [(0, .ptr (id+1000000) ver 0 0),(2, .own 2 v2 0 0),(3, .ptr 3 v3 0 0),(11,s),(12, .int .i64 L.length),(13, .int .i64 0)],rows,clk⟩∧(0<L.length→s=aJ EO L)∧rows 2=some ⟨v2,179,18,[]⟩∧rows (id+1000000)=some ⟨ver,95,12,[co b n z L e]⟩∧(∀j,j≠id→rows (j+1000000)=jE (j+1000000))∧rows 3=some ⟨v3,54,9,[b9 m]⟩) (fun K hK=>?_) ?_
 ·cases z
  ·simp (disch:=omega) [gw,eS,gL]
   exact hK _ _ (aB _ [0,2,3,11,12,13]) ⟨_,_,_,_,_,rfl,fun _=>rfl,by simp,by simp [gL],by intro j hj;simp [hj],by simp [fG]⟩
  ·obtain rfl:=hz rfl
   simp (disch:=omega) [gw,eS,gL]
   exact hK _ _ (aB _ [0,2,3,11,12,13]) ⟨_,_,_,_,_,rfl,by simp,by simp,by simp [gL],by intro j hj;simp [hj],by simp [fG]⟩
 clear eS
 rintro _ ⟨s,v2,v3,rows,clk,rfl,hs,bX,eS,iE,cH⟩
 refine W.block ?_
 refine W.bE (fun k σ=>∃(i v2 v3:Nat) (rows:Pm.Rows) (clk:Nat),σ=⟨fa [(0, .ptr (id+1000000) ver 0 0),(2, .own 2 v2 0 i),(3, .ptr 3 v3 0 0),(11,s),(12, .int .i64 L.length),(13, .int .i64 i)],rows,clk⟩∧i+k=L.length∧rows 2=some ⟨v2,179,18,emap EO ((L.map (VS R)).take i)⟩∧rows (id+1000000)=some ⟨ver,95,12,[co b n z L e]⟩∧(∀j,j≠id→rows (j+1000000)=jE (j+1000000))∧rows 3=some ⟨v3,54,9,[b9 m]⟩) L.length ?_ ?_
 ·exact⟨_,aB _ [0,2,3,11,12,13],0,_,_,_,_,rfl,by omega,by simp [bX,emap],eS,iE,cH⟩
 clear bX eS iE cH rows clk v2 v3
 rintro k _ ⟨i,v2,v3,rows,clk,rfl,zH,bX,eS,iE,cH⟩
 refine bU [0,2,3,11,12,13,14] ?_
 refine bJ ?_ ?_<;>intro h
 ·have hi:i<L.length:=by simp at h;omega
  obtain rfl:=hs (by omega)
  have mZ:=hR _ (bN hi)
  have kW:(L.map (VS R)).take (i+1)=(L.map (VS R)).take i ++ [VS R (nth L i)]:=by
   rw [List.take_succ_eq_append_getElem (by simpa using hi),bW hi];simp
  have hlen:((L.map (VS R)).take i).length=i:=by simp;omega
  generalize hT':(L.map (VS R)).take (i+1)=T' at *
  generalize (L.map (VS R)).take i=T at *
  generalize hw:nth L i=w at *
  obtain⟨y',xS⟩:∃y',VS R w=y':=⟨_,rfl⟩
  rw [xS]at kW
  refine lF ?_
  refine W.sr ?_
  simp (disch:=omega) [gw,hi,hw,gG]
  refine bH [0,2,3,5,11,12,13] ?_
  refine W.iB (fun σ=>∃(v5:Nat) (rows:Pm.Rows) (clk:Nat),σ=⟨fa [(0, .ptr (id+1000000) ver 0 0),(2, .own 2 v2 0 i),(3, .ptr 3 v3 0 0),(5, .ptr 5 v5 0 0),(11,aJ EO L),(12, .int .i64 L.length),(13, .int .i64 i)],rows,clk⟩∧rows 2=some ⟨v2,179,18,emap EO T⟩∧rows 5=some ⟨v5,179,18,[EO y']⟩∧rows (id+1000000)=some ⟨ver,95,12,[co b n z L e]⟩∧(∀j,j≠id→rows (j+1000000)=jE (j+1000000))∧rows 3=some ⟨v3,54,9,[b9 m]⟩) ?_ ?_
  ·refine aA [0,2,3,5,11,12,13,19] ?_
   refine bJ ?_ ?_<;>intro h
   ·have hk:w.k=false:=by simpa using h
    have GX:=mZ hk
    rw [VS,if_neg (by simp [hk])]at xS
    generalize R w=r at *
    refine W.sr ?_
    simp (disch:=omega) [gw,cH,fG]
    refine cN [0,2,3,5,11,12,13] GX ?_
    refine W.b7 (fun K hK=>?_);simp (disch:=omega) [gw]
    exact hK _ ⟨_,aB _ [0,2,3,5,11,12,13],_,_,_,rfl,by simp [bX],by simp [←xS,gG],by simp [eS],by intro j hj;simp [hj,iE],by simp [cH,fG]⟩
   ·have hk:w.k=true:=by simpa using h
    rw [VS,if_pos hk]at xS
    subst xS
    refine W.skip ?_
    exact⟨_,aB _ [0,2,3,5,11,12,13],_,_,_,rfl,by simp [bX],by simp [gG],by simp [eS],by intro j hj;simp [hj,iE],by simp [cH]⟩
  clear bX eS iE cH rows clk
  rintro _ ⟨v5,rows,clk,rfl,bX,dM,eS,iE,cH⟩
  rw [gG]at dM
  refine W.b7 (fun K hK=>?_);simp (disch:=omega) [gw,dM,bX,hlen];refine W.lw [0,2,3,11,12,13] hK ?_;clear hK K;simp
  refine W.b7 (fun K hK=>?_);simp (disch:=omega) [gw]
  refine hK _ ⟨k-1,_,aB _ [0,2,3,11,12,13],by omega,i+1,_,_,_,_,rfl,by omega,by rw [hT',kW];simp [bX,emap,hlen,gG],by simp [eS],by intro j hj;simp [hj,iE],by simp [cH]⟩
 ·have hi:i=L.length:=by simp at h;omega
  subst hi
  have hT:(L.map (VS R)).take L.length=L.map (VS R):=List.take_of_length_le (by simp)
  rw [hT]at bX
  refine fA ?_
  refine W.freeze 2 (by simp [bX]) (fun K hK=>?_)
  simp [bX]
  refine hK _ ?_;clear hK K
  simp only [gL]at eS ⊢
  refine W.b7 (fun K hK=>?_)
  simp (disch:=omega) [gw,eS]
  refine hK _ ?_
  simp [go,eS]
  rw [hT]
  exact⟨rfl,fun j hj=>by simp [hj,iE]⟩
theorem x8{α:Type}[Inhabited α]{l:List α}{i:Nat}(h:i<l.length):l.take (i+1)=l.take i ++ [nth l i]:=by
 rw [List.take_succ_eq_append_getElem h,bW h]
def LC(l:List WE):List A9:=(l.filter WE.o).map WE.f
theorem aht(l:List WE):(LC l).length≤l.length:=by simp only [LC,List.length_map];exact List.length_filter_le _ _
theorem DI{b:Bool}{n r:A9}{z ok:Bool}{L M:List WE}{e:Int}(hl:M.length<1000000)
  (hk:g9 env.P 120 [] 95 12 (co b n z L e) (co b n false M e) (.dU []))
  (hL:aE env.P 112 [aJ b9 (LC M)] (.dU [.ag (b9 r), .bool ok])) :
  g9 env.P 51 [] 95 12 (co b n z L e) (co b n false M e) (.dU [.ag (b9 r), .bool ok]):=by
 refine iK (E:=env) (fun _=>0) [] Tryz.func51 rfl (by kernel_rfl) (by kernel_rfl) (show 1≤30 by decide) (by intro q;simp) ?_
 intro id ver jE adl eS
 have K4:=jM b n z L e
 have ahu:=jM b n false M e
 simp only [fG r]at hL ⊢
 refine aA [0,2] ?_
 refine W.sr ?_
 simp (disch:=omega) [gw,eS]
 refine nI hk rfl rfl K4 ahu (by simp [eS]) ?_
 simp (disch:=omega) [gw]
 refine bH [0,2] ?_
 refine aA [0,2,4] ?_
 refine W.nil 4 4 54 9 (by simp) (by decide) (fun K hK=>?_)
 refine W.lw [0,2,4] hK ?_;clear hK K;simp
 refine W.seq ?_
 refine W.eJ (fun σ=>∃(v2 v4:Nat) (rows:Pm.Rows) (clk:Nat),σ=⟨fa [(2, .ptr 2 v2 0 0),(4, .own 4 v4 0 0),(12,aJ EO M),(13, .int .i64 M.length),(14, .int .i64 0)],rows,clk⟩∧rows 4=some ⟨v4,54,9,[]⟩∧rows 2=some ⟨v2,54,9,[[.nil, .bool false, .nil, .bool false, .nil, .bool false, .nil, .bool false, .nil]]⟩∧rows (id+1000000)=some ⟨ver,95,12,[co b n false M e]⟩∧(∀j,j≠id→rows (j+1000000)=jE (j+1000000))) (fun K hK=>?_) ?_
 ·simp (disch:=omega) [gw,gL]
  exact hK _ _ (aB _ [2,4,12,13,14]) ⟨_,_,_,_,rfl,by simp,by simp,by simp [gL],by intro j hj;simp [hj]⟩
 clear eS
 rintro _ ⟨v2,v4,rows,clk,rfl,c9,bX,eS,iE⟩
 refine W.block ?_
 refine W.bE (fun k σ=>∃(i v2 v4:Nat) (rows:Pm.Rows) (clk:Nat),σ=⟨fa [(2, .ptr 2 v2 0 0),(4, .own 4 v4 0 (LC (M.take i)).length),(12,aJ EO M),(13, .int .i64 M.length),(14, .int .i64 i)],rows,clk⟩∧i+k=M.length∧rows 4=some ⟨v4,54,9,emap b9 (LC (M.take i))⟩∧rows 2=some ⟨v2,54,9,[[.nil, .bool false, .nil, .bool false, .nil, .bool false, .nil, .bool false, .nil]]⟩∧rows (id+1000000)=some ⟨ver,95,12,[co b n false M e]⟩∧(∀j,j≠id→rows (j+1000000)=jE (j+1000000))) M.length ?_ ?_
 ·exact⟨_,aB _ [2,4,12,13,14],0,v2,v4,rows,clk,by simp [LC],by omega,by simp [c9,emap,LC],bX,eS,iE⟩
 clear bX eS iE c9 rows clk v2 v4
 rintro k _ ⟨i,v2,v4,rows,clk,rfl,zH,c9,bX,eS,iE⟩
 refine bU [2,4,12,13,14,15] ?_
 refine bJ ?_ ?_<;>intro h
 ·have hi:i<M.length:=by simp at h;omega
  have kW:LC (M.take (i+1))=LC (M.take i)++if (nth M i).o=true then [(nth M i).f]else []:=by
   rw [x8 hi]
   simp only [LC,List.filter_append,List.map_append,List.filter_cons,List.filter_nil]
   split<;>rfl
  have hlen:(LC (M.take i)).length≤i:=Nat.le_trans (aht _) (by simp;omega)
  generalize hT':LC (M.take (i+1))=T' at *
  generalize LC (M.take i)=T at *
  generalize hw:nth M i=w at *
  refine W.skip ?_
  refine W.dO (fun σ=>∃(v4:Nat) (rows:Pm.Rows) (clk:Nat),σ=⟨fa [(2, .ptr 2 v2 0 0),(4, .own 4 v4 0 T'.length),(12,aJ EO M),(13, .int .i64 M.length),(14, .int .i64 i)],rows,clk⟩∧rows 4=some ⟨v4,54,9,emap b9 T'⟩∧rows 2=some ⟨v2,54,9,[[.nil, .bool false, .nil, .bool false, .nil, .bool false, .nil, .bool false, .nil]]⟩∧rows (id+1000000)=some ⟨ver,95,12,[co b n false M e]⟩∧(∀j,j≠id→rows (j+1000000)=jE (j+1000000))) ?_ ?_
  ·refine W.sr ?_
   simp (disch:=omega) [gw,hi,hw,gG]
   refine bH [2,4,6,12,13,14] ?_
   refine aA [2,4,6,12,13,14,19] ?_
   refine bJ ?_ ?_<;>intro h
   ·have ho:w.o=true:=by simpa using h
    rw [if_pos ho]at kW
    refine W.b7 (fun K hK=>?_);simp (disch:=omega) [gw,c9]
    exact hK _ ⟨_,aB _ [2,4,12,13,14],_,_,_,by rw [show T'.length=T.length+1 by rw [kW];simp];rfl,by rw [kW];simp [emap,fG],by simp [bX],by simp [eS],by intro j hj;simp [hj,iE]⟩
   ·have ho:w.o=false:=by simpa using h
    rw [if_neg (by simp [ho]),List.append_nil]at kW
    subst kW
    refine W.skip ?_
    exact⟨_,aB _ [2,4,12,13,14],_,_,_,rfl,by simp [c9],by simp [bX],by simp [eS],by intro j hj;simp [hj,iE]⟩
  clear c9 bX eS iE rows clk v4
  rintro _ ⟨v4,rows,clk,rfl,c9,bX,eS,iE⟩
  refine W.b7 (fun K hK=>?_);simp (disch:=omega) [gw]
  refine hK _ ⟨k-1,_,aB _ [2,4,12,13,14],by omega,i+1,_,_,_,_,by rw [hT'];rfl,by omega,by rw [hT'];exact c9,bX,eS,iE⟩
 ·have hi:i=M.length:=by simp at h;omega
  subst hi
  rw [List.take_length]at c9 ⊢
  refine fA ?_
  refine W.freeze 4 (by simp [c9]) (fun K hK=>?_)
  simp [c9]
  refine hK _ ?_;clear hK K
  refine W.sr ?_
  simp (disch:=omega) [gw,bX]
  refine aC hL ?_
  simp (disch:=omega) [gw,bX]
  refine bH [2,3] ?_
  refine W.ret ?_
  simp [go,eS]
  exact fun j hj=>by simp [hj,iE]
def evc(w:WE):List PV:=[.int .i64 w.t.k, .int .i64 w.t.a, .int .i64 w.t.b, .int .i64 w.t.c, .int .i64 w.t.d, .sl w.f.y, .bool w.f.s, .sl w.f.d, .bool w.f.s', .sl w.f.d', .bool w.f.u, .sl w.f.e, .bool w.f.u', .sl w.f.e']
theorem adm(w:WE):(evc w).all bI=true:=rfl
@[simp] theorem anY{l:List WE}:bG 14 (emap evc l)=True:=cB fun _=>rfl
@[simp] theorem akk{v e n:Nat}{l:List WE}:cQ (some ⟨v,e,n,emap evc l⟩)=True:=bT adm
end Go.Proofs.YtiobceocpabjdaaGreat
