import Derived.Test.YtiobceocpabjdaaGreatKah
import Derived.Test.YtiobceocpabjdaaGreatKai
import Derived.Test.YtiobceocpabjdaaGreatKaj
set_option linter.unusedSimpArgs false
set_option linter.unusedVariables false
namespace Go.Proofs.YtiobceocpabjdaaGreat
open Go Pm
abbrev Y(x:Int):Prop:=sz 2 x<549755813888
theorem Y.z{x:Int}(h:Y x):Z x:=by simp only [Y,Z]at *;omega
theorem y4{x y:Int}(h:Y y)(vC:x.natAbs≤y.natAbs):Y x:=Nat.lt_of_le_of_lt (cS (by decide) vC) h
theorem vM{x y:Int}:dJ x y≤0↔x≤y:=by simp only [dJ];split<;>(try split)<;>omega
@[simp] theorem ak6{l:List Int}{x:Int}:[PV.int .i64 x]::emap aG l=emap aG (x::l):=by simp [emap]
@[simp] theorem acG{l:List Int}:(∀e∈emap aG l,∀p∈e,bU p=true)=True:=by simp [emap]
theorem SR{l:List Int}(h:b9 10000 l)(k:Nat)(hk:k≤l.length):V 10000 (l.drop k)≤V 10000 l:=by
 rw [i6 l k hk]
 have h1:=bF (by decide) (h.take k)
 have h2:=bF (by decide) (h.drop k)
 have h3:1≤(10000:Int)^k:=Int.pow_pos (by decide)
 have h4:=Int.mul_le_mul_of_nonneg_right h3 h2
 omega
theorem H6(x y:Int)(hx:0≤x)(hy:0<y)(zx:Y x)(zy:Y y):aL env.P 209 [Dn x,Dn y] (.dX [Dn (x/y),Dn (x%y)]):=by
 have hal:(aY DD x.toNat).length<549755813888:=Nat.lt_of_le_of_lt (i9 hx) zx
 have la:=j9 x.toNat
 have hVa:=s9 hx
 refine cH [(0,Dn x),(1,Dn y)] Tryz.func209 ?_
 simp only [Dn]
 generalize ha:aY DD x.toNat=a at *
 refine aA [0,1] ?_
 refine aA [0,1,6] ?_
 refine aA [0,1,6,7] ?_
 refine W.R3 7 (Dn 0) (by simp) rfl (fun K hK=>?_)
 refine W.lw [0,1,6,7] hK ?_;clear hK K;simp
 refine aR [0,1,6,7,8] ?_
 refine W.block ?_
 refine W.bC (fun k σ=>∃(r:Int) (z:List Int) (ver:Nat) (rows:Pm.Rows) (clk:Nat),σ=⟨fa [(0,aQ aG a),(1,Dn y),(6, .own 14 ver 0 a.length),(7,Dn r),(8, .int .i64 ((k:Int)-1))],rows,clk⟩ ∧
  rows 14=some ⟨ver,3,1,emap aG z⟩∧k≤a.length∧z.length=a.length∧b9 10000 z∧0≤r∧r<y∧V 10000 (a.drop k)=y*V 10000 (z.drop k)+r) a.length ?_ ?_
 ·exact⟨_,Gh.fr [(0,aQ aG a),(1,Dn y),(6, .own 14 0 0 a.length),(7,Dn 0),(8, .int .i64 ((a.length:Int)-1))] (by simp),0,List.replicate a.length 0,_,_,_,rfl,by simp,by omega,by simp,b9.rep (by decide) _,by omega,hy,by simp [V]⟩
 rintro k _ ⟨r,z,ver,rows,clk,rfl,hr,hk,hz,lz,BO,LY,hV⟩
 refine aR [0,1,6,7,8,19] ?_
 refine bP ?_ ?_<;>intro h
 ·simp at h
  obtain⟨j,rfl⟩:∃j,k=j+1:=⟨k-1,by omega⟩
  clear h
  have hxj:=la.nth (i:=j) (by omega)
  have hVz:=bF (by decide) (lz.drop (j+1))
  have hyV:=Int.mul_nonneg (Int.le_of_lt hy) hVz
  have hR:V 10000 (a.drop j)=y*(10000*V 10000 (z.drop (j+1)))+(nth a j+10000*r):=by
   rw [eB (l:=a) (i:=j) (by omega)];simp only [V];rw [hV];grind
  have hRx:nth a j+10000*r≤x:=by
   have h1:=SR la j (by omega)
   have h2:0≤y*(10000*V 10000 (z.drop (j+1))):=Int.mul_nonneg (Int.le_of_lt hy) (by omega)
   omega
  have R7:(aY DD r.toNat).length<549755813888:=Nat.lt_of_le_of_lt (i9 BO) (y4 zy (by omega))
  have nH:aQ aG (aM (nth a j::aY DD r.toNat))=Dn (nth a j+10000*r):=by
   rw [rN (b9.cons.2 ⟨hxj,j9 _⟩)]
   simp only [V,s9 BO]
  refine kK ?_
  refine jM ?_
  refine aC (mL (nth a j::aY DD r.toNat) (by simp;omega)) ?_
  rw [nH]
  have GN:0≤nth a j+10000*r:=by omega
  have hR1:nth a j+10000*r<y*10000:=by omega
  have zR:Y (nth a j+10000*r):=y4 zx (by omega)
  generalize nth a j+10000*r=R at *
  simp (disch:=omega) [gw]
  refine bM [0,1,6,7,8] ?_
  refine cL [0,1,6,7,8,9,10] ?_
  refine W.block ?_
  refine W.bC (fun m σ=>∃(lo hi:Int),σ=⟨fa [(0,aQ aG a),(1,Dn y),(6, .own 14 ver 0 a.length),(7,Dn R),(8, .int .i64 (j:Int)),(9, .int .i64 lo),(10, .int .i64 hi)],rows,clk⟩ ∧
   m=(hi-lo).toNat∧0≤lo∧lo≤hi∧hi≤9999∧y*lo≤R∧R<y*(hi+1)) 9999 ?_ ?_
  ·exact⟨_,Gh.fr [(0,aQ aG a),(1,Dn y),(6, .own 14 ver 0 a.length),(7,Dn R),(8, .int .i64 (j:Int)),(9, .int .i64 0),(10, .int .i64 9999)] (by simp),0,9999,rfl,by decide,by omega,by omega,by omega,by omega,by omega⟩
  rintro m _ ⟨lo,hi,rfl,hm,BJ,hlh,QS,h1,h2⟩
  refine aR [0,1,6,7,8,9,10,32] ?_
  refine bP ?_ ?_<;>intro h
  ·simp at h
   refine W.skip ?_
   refine W.block ?_
   refine aA [0,1,6,7,8,9,10,11] ?_
   have J0:lo<(lo+hi+1)/2:=by omega
   have hm2:(lo+hi+1)/2≤hi:=by omega
   generalize (lo+hi+1)/2=H7 at *
   have hp:0≤y*H7:=Int.mul_nonneg (by omega) (by omega)
   have zp:Z (y*H7):=by
    have h3:sz 2 H7≤14:=dN (by decide) (by simp;omega)
    have h4:=b5 (b:=2) (by decide) (Nat.le_refl (sz 2 y)) h3
    simp only [Z,Y]at *;omega
   have hma:=j1 y H7 0 (by omega) zy.z (by omega) (by omega) (by decide) (by decide)
   rw [Int.add_zero]at hma
   refine jM ?_
   refine cX hma ?_
   refine cV [0,1,6,7,8,9,10,11,43] (H3 (y*H7) R hp GN zp zR.z) ?_
   refine bP ?_ ?_<;>intro h
   ·have h:=vM.1 (of_decide_eq_true h)
    refine W.cG (fun K hK=>?_);simp (disch:=omega) [gw]
    exact hK _ ⟨(hi-H7).toNat,_,aD _ [0,1,6,7,8,9,10],by omega,H7,hi,rfl,rfl,by omega,by omega,by omega,h,h2⟩
   ·have h:=of_decide_eq_false h
    rw [vM]at h
    refine W.cG (fun K hK=>?_);simp (disch:=omega) [gw]
    refine hK _ ⟨(H7-1-lo).toNat,_,aD _ [0,1,6,7,8,9,10],by omega,lo,H7-1,rfl,rfl,by omega,by omega,by omega,h1,?_⟩
    rw [show H7-1+1=H7 by omega];omega
  ·simp at h
   have atF:lo=hi:=by omega
   subst atF
   have hp:0≤y*lo:=Int.mul_nonneg (by omega) (by omega)
   have zp:Y (y*lo):=y4 zR (by omega)
   have hma:=j1 y lo 0 (by omega) zy.z (by omega) (by omega) (by decide) (by decide)
   rw [Int.add_zero]at hma
   refine fC ?_
   refine W.sr ?_
   simp (disch:=omega) [gw,hr]
   refine bM [0,1,6,7,8,9] ?_
   refine W.cG (fun K hK=>?_)
   simp (disch:=omega) [gw]
   refine cX hma ?_
   refine cX (yZ R (y*lo) hp h1 zR.z) ?_
   refine W.lw [0,1,6,7,8] hK ?_;clear hK K;simp
   refine W.cG (fun K hK=>?_);simp (disch:=omega) [gw]
   refine hK _ ⟨j,_,aD _ [0,1,6,7,8],by omega,R-y*lo,z.set j lo,ver,_,_,rfl,by simp,by omega,by simpa using hz,lz.set (by omega),by omega,by rw [Int.mul_add]at h2;omega,?_⟩
   rw [hR,eB (l:=z.set j lo) (i:=j) (by simp;omega),dV (by omega),List.drop_set_of_lt (by omega)]
   simp only [V]
   grind
 ·simp at h
  have sL:k=0:=by omega
  subst sL
  simp only [List.drop_zero]at hV
  have ez:z.take a.length=z:=bG hz
  have hzn:=bF (by decide) lz
  rw [hVa]at hV
  have e1:x/y=V 10000 z:=by
   rw [hV,Int.mul_add_ediv_left _ _ (by omega),Int.ediv_eq_zero_of_lt BO LY];simp
  have e2:x%y=r:=by
   rw [hV,Int.mul_add_emod_self_left,Int.emod_eq_of_lt BO LY]
  refine fC ?_
  refine W.sr ?_
  simp (disch:=omega) [gw,hr,ez]
  refine aC (mL z (by omega)) ?_
  simp (disch:=omega) [gw]
  refine bM [4,5] ?_
  refine W.ret ?_
  have h4:=rN lz
  simp only [Dn]at h4
  rw [e1,e2,←h4]
  simp [go]
theorem y5(a b:Int)(za:Y a)(zb:Y b):aL env.P 126 [RI a,RI b] (RI (Int.gcd a b)):=by
 refine cH [(0,RI a),(1,RI b)] Tryz.func126 ?_
 refine aA [2,3,4] ?_
 refine sB ?_
 refine bM [4,5,6] ?_
 refine W.seq ?_
 refine W.block ?_
 refine W.bC (fun k σ=>∃(x:Nat) (rows:Pm.Rows) (clk:Nat),σ=⟨fa [(4, .ptr 4 2 0 0),(5,aQ aG (aY DD x)),(6,aQ aG (aY DD k))],rows,clk⟩∧rows 4=some ⟨2,29,2,[[.nil, .bool false]]⟩∧Nat.gcd x k=Int.gcd a b∧Y (x:Int)∧Y (k:Int)) b.natAbs ?_ ?_
 ·exact⟨_, .refl,a.natAbs,_,_,rfl,by simp,rfl,by simpa [Y,sz]using za,by simpa [Y,sz]using zb⟩
 rintro k _ ⟨x,rows,clk,rfl,eU,hg,zx,zk⟩
 have e0:(aY DD k).length=0↔k=0:=by rw [List.length_eq_zero_iff,dR J2]
 refine aR [4,5,6,15] ?_
 refine bP ?_ ?_<;>intro h
 ·have sL:k≠0:=by intro h0;have h1:=e0.2 h0;simp at h;omega
  have hdiv:=H6 (x:Int) (k:Int) (by omega) (by omega) zx zk
  have em:(((x:Int)%k).toNat)=x%k:=by rw [←Int.natCast_emod];exact Int.toNat_natCast _
  have ed:(((x:Int)/k).toNat)=x/k:=by rw [←Int.natCast_ediv];exact Int.toNat_natCast _
  simp only [Dn,em,ed,Int.toNat_natCast]at hdiv
  have fS:=Nat.mod_lt x (show k>0 by omega)
  have sI:Nat.gcd k (x%k)=Int.gcd a b:=by rw [←hg,Nat.gcd_comm x k,Nat.gcd_rec k x,Nat.gcd_comm]
  have zm:Y ((x%k:Nat):Int):=y4 zk (by simp only [Int.natAbs_natCast];omega)
  refine W.skip ?_
  refine W.block ?_
  refine jM ?_
  refine aC hdiv ?_
  generalize x%k=y at *
  simp (disch:=omega) [gw]
  refine bM [4,6,8] ?_
  refine W.cG (fun K hK=>?_);simp (disch:=omega) [gw]
  exact hK _ ⟨y,_,aD _ [4,5,6],fS,k,_,_,rfl,by simp [eU],sI,zk,zm⟩
 ·have sL:k=0:=by rw [←e0];simp at h;simp [h]
  subst sL
  rw [Nat.gcd_zero_right]at hg
  subst hg
  refine fC ?_
  refine W.sr ?_
  simp (disch:=omega) [gw,eU]
  refine bM [4] ?_
  exact cR
theorem ME(a b:Int):(if decide (a<0) != decide (b<0)then -((a.natAbs/b.natAbs:Nat):Int)else((a.natAbs/b.natAbs:Nat):Int))=a.tdiv b:=by
 have h:∀x y:Nat,((x/y:Nat):Int)=(x:Int).tdiv y:=fun x y=>by rw [Int.natCast_ediv,Int.tdiv_eq_ediv_of_nonneg (by omega)]
 rw [h]
 by_cases h1:a<0<;>by_cases h2:b<0
 ·simp only [h1,h2,show(a.natAbs:Int) = -a by omega,show(b.natAbs:Int) = -b by omega];simp
 ·simp only [h1,h2,show(a.natAbs:Int) = -a by omega,show(b.natAbs:Int)=b by omega];simp
 ·simp only [h1,h2,show(a.natAbs:Int)=a by omega,show(b.natAbs:Int) = -b by omega];simp
 ·simp only [h1,h2,show(a.natAbs:Int)=a by omega,show(b.natAbs:Int)=b by omega];simp
theorem tB(a b:Int)(hb:b≠0)(za:Y a)(zb:Y b):aL env.P 127 [RI a,RI b] (RI (a.tdiv b)):=by
 have hdiv:=H6 (a.natAbs:Int) (b.natAbs:Int) (by omega) (by omega) (by simpa [Y,sz]using za) (by simpa [Y,sz]using zb)
 have em:(((a.natAbs:Int)%b.natAbs).toNat)=a.natAbs%b.natAbs:=by rw [←Int.natCast_emod];exact Int.toNat_natCast _
 have ed:(((a.natAbs:Int)/b.natAbs).toNat)=a.natAbs/b.natAbs:=by rw [←Int.natCast_ediv];exact Int.toNat_natCast _
 have hs:=ME a b
 refine cH [(0,RI a),(1,RI b)] Tryz.func127 ?_
 refine aA [2,3,4] ?_
 simp only [Dn,em,ed,Int.toNat_natCast]at hdiv
 generalize a.natAbs/b.natAbs=q at *
 generalize a.natAbs%b.natAbs=r at *
 refine a7 [2,3,4,5] hdiv ?_
 refine jM ?_
 refine aC (kU q (decide (a<0) != decide (b<0))) ?_
 rw [hs]
 simp (disch:=omega) [gw]
 refine bM [4] ?_
 exact cR
def re(q:Rat):List PV:=[aQ aG (aY DD q.num.natAbs), .bool (decide (q.num<0)),aQ aG (aY DD q.den), .bool false]
@[simp] theorem atG{q:Rat}:re q = [aQ aG (aY DD q.num.natAbs), .bool (decide (q.num<0)),aQ aG (aY DD q.den), .bool false]:=rfl
abbrev RR(q:Rat):PV:=.ag (re q)
def cY(n d:Int):Rat:=if d=0 then n else Rat.divInt n d
theorem kF(n:Int):cY n 1=n:=by
 rw [cY,if_neg (by decide),Rat.divInt_eq_div]
 grind
structure ZR(k:Nat)(q:Rat):Prop where
 n:sz 2 q.num≤k
 d:sz 2 (q.den:Int)≤k
abbrev YY:Nat:=137438953472
theorem nK(n d:Int)(hd:d≠0):(cY n d).num=(if d<0 then -n else n)/(Int.gcd (if d<0 then -n else n) (if d<0 then -d else d)):=by
 rw [cY,if_neg hd,Rat.num_divInt]
 by_cases h:d<0
 ·simp only [h,if_true]
  rw [Int.sign_eq_neg_one_of_neg h,Int.gcd_comm d n,Int.neg_gcd,Int.gcd_neg];simp
 ·simp only [h,if_false]
  rw [Int.sign_eq_one_of_pos (by omega),Int.gcd_comm d n];simp
theorem nM(n d:Int)(hd:d≠0):((cY n d).den:Int)=(if d<0 then -d else d)/(Int.gcd (if d<0 then -n else n) (if d<0 then -d else d)):=by
 rw [cY,if_neg hd,Rat.den_divInt,if_neg hd]
 by_cases h:d<0
 ·simp only [h,if_true]
  rw [Int.gcd_comm d n,Int.neg_gcd,Int.gcd_neg]
  rw [Int.natCast_ediv];congr 1;omega
 ·simp only [h,if_false]
  rw [Int.gcd_comm d n,Int.natCast_ediv];congr 1;omega
theorem y6{q:Rat}{n d:Int}(h1:q.num=n)(h2:(q.den:Int)=d):RR q = .ag [aQ aG (aY DD n.natAbs), .bool (decide (n<0)),aQ aG (aY DD d.natAbs), .bool (decide (d<0))]:=by
 subst h1;subst h2
 have:¬((q.den:Int)<0):=by omega
 simp [this]
theorem kV(n d:Int)(zn:Y n)(zd:Y d):aL env.P 60 [RI n,RI d] (RR (cY n d)):=by
 refine cD (E:=env) (fun id=>if id=4 then 2 else 0) [(0,RI n),(1,RI d)] Tryz.func60 rfl (by kernel_rfl) (by kernel_rfl) (show 2≤39 by decide) (by simp) ?_
 refine aA [2,3,4] ?_
 refine W.iF (fun σ=>∃(d1:Int) (rows:Pm.Rows) (clk:Nat),σ=⟨fa [(2, .ptr 2 0 0 0),(3, .ptr 3 1 0 0),(4, .ptr 4 2 0 0)],rows,clk⟩∧rows 2=some ⟨0,29,2,[[aQ aG (aY DD n.natAbs), .bool (decide (n<0))]]⟩ ∧
  rows 3=some ⟨1,29,2,[[aQ aG (aY DD d1.natAbs), .bool (decide (d1<0))]]⟩∧rows 4=some ⟨2,31,4,[[.nil, .bool false, .nil, .bool false]]⟩∧d1≠0∧cY n d=cY n d1∧Y d1) ?_ ?_
 ·
  refine a7 [2,3,4,7] (CE d) ?_
  refine bP ?_ ?_<;>intro h
  ·have h:=of_decide_eq_true h
   subst h
   refine W.cG (fun K hK=>?_)
   simp (disch:=omega) [gw]
   refine aC (nJ 1 (by decide) (by decide)) ?_
   simp (disch:=omega) [gw]
   refine hK _ ⟨_,aD _ [2,3,4],1,_,_,rfl,by simp,by simp,by simp,by decide,by rw [kF];simp [cY],?_⟩
   have:sz 2 1≤1:=dN (by decide) (by decide)
   simp only [Y];omega
  ·have h:=of_decide_eq_false h
   refine W.skip ?_
   exact⟨_,aD _ [2,3,4],d,_,_,rfl,by simp,by simp,by simp,h,rfl,zd⟩
 rintro _ ⟨d1,rows,clk,rfl,dY,lJ,eU,hd1,hq,zd1⟩
 rw [hq]
 have q1:=nK n d1 hd1
 have q2:=nM n d1 hd1
 generalize cY n d1=q at *
 clear hq zd d
 refine W.iF (fun σ=>∃(n2 d2:Int) (rows:Pm.Rows) (clk:Nat),σ=⟨fa [(2, .ptr 2 0 0 0),(3, .ptr 3 1 0 0),(4, .ptr 4 2 0 0)],rows,clk⟩∧rows 2=some ⟨0,29,2,[[aQ aG (aY DD n2.natAbs), .bool (decide (n2<0))]]⟩ ∧
  rows 3=some ⟨1,29,2,[[aQ aG (aY DD d2.natAbs), .bool (decide (d2<0))]]⟩∧rows 4=some ⟨2,31,4,[[.nil, .bool false, .nil, .bool false]]⟩∧0<d2∧q.num=n2/Int.gcd n2 d2∧(q.den:Int)=d2/Int.gcd n2 d2∧Y n2∧Y d2) ?_ ?_
 ·
  refine W.sr ?_
  simp (disch:=omega) [gw,lJ]
  refine bM [2,3,4,10] ?_
  refine bP ?_ ?_<;>intro h
  ·have h:=of_decide_eq_true h
   simp only [h,if_true]at q1 q2
   have hn:=mN n
   have hd:=mN d1
   have zn2:Y (-n):=by simpa [Y,nD]using zn
   have zd2:Y (-d1):=by simpa [Y,nD]using zd1
   obtain⟨n2,hn2⟩:∃m,m = -n:=⟨_,rfl⟩
   obtain⟨d2,Q8⟩:∃m,m = -d1:=⟨_,rfl⟩
   rw [←hn2]at hn zn2 q1 q2
   rw [←Q8]at hd zd2 q1 q2
   refine W.LV (fun K hK=>?_)
   rw [if_pos rfl,eH]
   simp (disch:=omega) [gw,dY]
   refine aC hn ?_
   simp (disch:=omega) [gw,dY,lJ]
   refine aC hd ?_
   simp (disch:=omega) [gw,dY,lJ]
   exact hK _ ⟨_,aD _ [2,3,4],n2,d2,_,_,rfl,by simp,by simp,by simp [eU],by omega,q1,q2,zn2,zd2⟩
  ·have h:=of_decide_eq_false h
   simp only [h,if_false]at q1 q2
   refine W.skip ?_
   exact⟨_,aD _ [2,3,4],n,d1,_,_,rfl,dY,lJ,eU,by omega,q1,q2,zn,zd1⟩
 clear dY lJ eU q1 q2
 rintro _ ⟨n2,d2,rows,clk,rfl,dY,lJ,eU,h0,q1,q2,zn2,zd2⟩
 refine W.seq ?_
 refine W.fX (fun σ=>∃(b:Bool),σ=⟨fa [(2, .ptr 2 0 0 0),(3, .ptr 3 1 0 0),(4, .ptr 4 2 0 0),(25, .bool b)],rows,clk⟩∧(b=true↔(aY DD d2.natAbs).length=1∧nth (aY DD d2.natAbs) 0=1)) (fun K hK=>?_) ?_
 ·by_cases h1:(aY DD d2.natAbs).length=1
  ·have h2:((aY DD d2.natAbs).length:Int)=1:=by omega
   simp (disch:=omega) [gw,lJ,h1,h2]
   exact hK _ _ (aD _ [2,3,4,25]) ⟨_,rfl,by simp [h1]⟩
  ·have h2:¬((aY DD d2.natAbs).length:Int)=1:=by omega
   have h3:(((aY DD d2.natAbs).length:Int)==1)=false:=by simpa using h2
   simp (disch:=omega) [gw,lJ,h3]
   exact hK _ _ (aD _ [2,3,4,25]) ⟨_,rfl,by simp [h1,h2]⟩
 rintro _ ⟨b,rfl,hb⟩
 refine bP ?_ ?_<;>intro h
 ·have hb:=hb.1 h
  have Q8:d2=1:=by
   have hv:=aox d2
   obtain⟨h1,h2⟩:=hb
   match hl:aY DD d2.natAbs,h1 with
   | [x],_ =>
    rw [hl]at h2 hv
    simp [nth,V]at h2 hv
    omega
  subst Q8
  rw [Int.gcd_one]at q1 q2
  rw [y6 (n:=n2) (d:=1) (by simpa using q1) (by simpa using q2)]
  refine W.sr ?_
  simp (disch:=omega) [gw,dY,lJ,eU]
  refine bM [4] ?_
  exact cR
 ·refine W.skip ?_
  have hgp:0<Int.gcd n2 d2:=Int.gcd_pos_of_ne_zero_right _ (by omega)
  have e1:n2.tdiv (Int.gcd n2 d2)=q.num:=by rw [q1];exact Int.tdiv_eq_ediv_of_dvd (Int.gcd_dvd_left ..)
  have e2:d2.tdiv (Int.gcd n2 d2)=q.den:=by rw [q2];exact Int.tdiv_eq_ediv_of_dvd (Int.gcd_dvd_right ..)
  have zg:Y (Int.gcd n2 d2:Int):=y4 zd2 (by
   have:=Int.le_of_dvd h0 (Int.gcd_dvd_right n2 d2);omega)
  have hq1:=tB n2 (Int.gcd n2 d2) (by omega) zn2 zg
  have hq2:=tB d2 (Int.gcd n2 d2) (by omega) zd2 zg
  rw [e1]at hq1
  rw [e2]at hq2
  have hg:=y5 n2 d2 zn2 zd2
  obtain⟨g,hgd⟩:∃g:Int,g=Int.gcd n2 d2:=⟨_,rfl⟩
  rw [←hgd]at hg hq1 hq2
  have hnn:¬((q.den:Int)<0):=by omega
  refine W.sr ?_
  simp (disch:=omega) [gw,dY,lJ]
  refine aC hg ?_
  simp (disch:=omega) [gw,dY,lJ]
  refine bM [2,3,4,5] ?_
  refine W.sd ?_
  simp (disch:=omega) [gw,dY,lJ]
  refine aC hq1 ?_
  simp (disch:=omega) [gw,dY,lJ]
  refine aC hq2 ?_
  simp (disch:=omega) [gw,dY,lJ,eU]
  refine bM [4] ?_
  refine W.ret ?_
  simp [go,hnn]
theorem nN(n d:Int)(h1 : -9223372036854775808≤n∧n<9223372036854775808)(h2 : -9223372036854775808≤d∧d<9223372036854775808):aL env.P 12 [.int .i64 n, .int .i64 d] (RR (cY n d)):=by
 have z:∀x:Int, -9223372036854775808≤x∧x<9223372036854775808→Y x:=fun x hx=>by
  have:sz 2 x≤64:=dN (by decide) (by omega)
  simp only [Y];omega
 have hm:=kV n d (z n h1) (z d h2)
 generalize cY n d=q at *
 refine cH [(0, .int .i64 n),(1, .int .i64 d)] Tryz.func12 ?_
 refine aA [0,1,4] ?_
 refine jM ?_
 refine cX (nJ n h1.1 h1.2) ?_
 refine cX (nJ d h2.1 h2.2) ?_
 refine cV [4] hm ?_
 exact cR
theorem YB(q:Rat):aL env.P 108 [RR q] (RR (-q)):=by
 have hn:=mN q.num
 have e:RR (-q) = .ag [aQ aG (aY DD (-q.num).natAbs), .bool (decide (-q.num<0)),aQ aG (aY DD q.den), .bool false]:=rfl
 rw [e]
 generalize -q.num=m at *
 refine cH [(0,RR q)] Tryz.func108 ?_
 refine aA [1,2] ?_
 refine sB ?_
 refine cV [2] hn ?_
 exact cR
theorem acH(p q:Rat):cY (p.num*q.den+q.num*p.den) ((p.den:Int)*q.den)=p+q:=by
 have h:((p.den:Int)*q.den)≠0:=by have:=p.den_nz;have:=q.den_nz;simp [Int.mul_eq_zero];omega
 rw [cY,if_neg h,Rat.add_def',←Int.natCast_mul,Rat.divInt_ofNat]
theorem acI(p q:Rat):cY (p.num*q.num) ((p.den:Int)*q.den)=p*q:=by
 have h:((p.den:Int)*q.den)≠0:=by have:=p.den_nz;have:=q.den_nz;simp [Int.mul_eq_zero];omega
 rw [cY,if_neg h,Rat.mul_def',←Int.natCast_mul,Rat.divInt_ofNat]
theorem acJ(p q:Rat)(hq:q≠0):cY (p.num*q.den) ((p.den:Int)*q.num)=p/q:=by
 have hn:q.num≠0:=fun h=>hq (Rat.num_eq_zero.1 h)
 have h:((p.den:Int)*q.num)≠0:=by have:=p.den_nz;exact Int.mul_ne_zero (by omega) hn
 rw [cY,if_neg h,Rat.div_def,Rat.inv_def,←Rat.divInt_mul_divInt,Rat.num_divInt_den]
theorem H8(p q:Rat)(hp:ZR YY p)(hq:ZR YY q):aL env.P 225 [RR p,RR q] (RR (p+q)):=by
 have s1:=b5 (b:=2) (by decide) hp.n hq.d
 have s2:=b5 (b:=2) (by decide) hq.n hp.d
 have s3:=b5 (b:=2) (by decide) hp.d hq.d
 have s4:=l6 (b:=2) (by decide) s1 s2
 have zz:∀ {x:Int},sz 2 x≤YY→Z x:=fun h=>by simp only [Z,YY]at *;omega
 have m1:=dU p.num q.den (zz hp.n) (zz hq.d)
 have m2:=dU q.num p.den (zz hq.n) (zz hp.d)
 have m3:=dU p.den q.den (zz hp.d) (zz hq.d)
 have m4:=y3 (p.num*q.den) (q.num*p.den) (by simp only [Z,YY]at *;omega) (by simp only [Z,YY]at *;omega)
 have m5:=kV (p.num*q.den+q.num*p.den) ((p.den:Int)*q.den) (by simp only [Y,YY]at *;omega) (by simp only [Y,YY]at *;omega)
 rw [acH]at m5
 generalize p.num*q.den+q.num*p.den=x5 at *
 generalize p.num*q.den=x1 at *
 generalize q.num*(p.den:Int)=x2 at *
 generalize (p.den:Int)*q.den=x3 at *
 generalize hr:p+q=r at *
 have d1:RR p = .ag [aQ aG (aY DD p.num.natAbs), .bool (decide (p.num<0)),aQ aG (aY DD (p.den:Int).natAbs), .bool (decide ((p.den:Int)<0))]:=y6 rfl rfl
 have d2:RR q = .ag [aQ aG (aY DD q.num.natAbs), .bool (decide (q.num<0)),aQ aG (aY DD (q.den:Int).natAbs), .bool (decide ((q.den:Int)<0))]:=y6 rfl rfl
 rw [d1,d2]
 generalize (p.den:Int)=pd at *
 generalize (q.den:Int)=qd at *
 generalize p.num=pn at *
 generalize q.num=qn at *
 refine cH [(0, .ag [aQ aG (aY DD pn.natAbs), .bool (decide (pn<0)),aQ aG (aY DD pd.natAbs), .bool (decide (pd<0))]),(1, .ag [aQ aG (aY DD qn.natAbs), .bool (decide (qn<0)),aQ aG (aY DD qd.natAbs), .bool (decide (qd<0))])] Tryz.func225 ?_
 refine aA [2,3,4] ?_
 refine sB ?_
 refine cX m1 ?_
 refine cX m2 ?_
 refine cX m4 ?_
 refine cX m3 ?_
 refine cV [4] m5 ?_
 exact cR
theorem H9(p q:Rat)(hp:ZR YY p)(hq:ZR YY q):aL env.P 226 [RR p,RR q] (RR (p*q)):=by
 have s1:=b5 (b:=2) (by decide) hp.n hq.n
 have s2:=b5 (b:=2) (by decide) hp.d hq.d
 have zz:∀ {x:Int},sz 2 x≤YY→Z x:=fun h=>by simp only [Z,YY]at *;omega
 have m1:=dU p.num q.num (zz hp.n) (zz hq.n)
 have m2:=dU p.den q.den (zz hp.d) (zz hq.d)
 have m5:=kV (p.num*q.num) ((p.den:Int)*q.den) (by simp only [Y,YY]at *;omega) (by simp only [Y,YY]at *;omega)
 rw [acI]at m5
 generalize p.num*(q.num:Int)=x1 at *
 generalize (p.den:Int)*q.den=x2 at *
 generalize hr:p*q=r at *
 have d1:RR p = .ag [aQ aG (aY DD p.num.natAbs), .bool (decide (p.num<0)),aQ aG (aY DD (p.den:Int).natAbs), .bool (decide ((p.den:Int)<0))]:=y6 rfl rfl
 have d2:RR q = .ag [aQ aG (aY DD q.num.natAbs), .bool (decide (q.num<0)),aQ aG (aY DD (q.den:Int).natAbs), .bool (decide ((q.den:Int)<0))]:=y6 rfl rfl
 rw [d1,d2]
 generalize (p.den:Int)=pd at *
 generalize (q.den:Int)=qd at *
 generalize p.num=pn at *
 generalize q.num=qn at *
 refine cH [(0, .ag [aQ aG (aY DD pn.natAbs), .bool (decide (pn<0)),aQ aG (aY DD pd.natAbs), .bool (decide (pd<0))]),(1, .ag [aQ aG (aY DD qn.natAbs), .bool (decide (qn<0)),aQ aG (aY DD qd.natAbs), .bool (decide (qd<0))])] Tryz.func226 ?_
 refine aA [2,3,4] ?_
 refine sB ?_
 refine cX m1 ?_
 refine cX m2 ?_
 refine cV [4] m5 ?_
 exact cR
theorem IA(p q:Rat)(hp:ZR YY p)(hq:ZR YY q)(h0:q≠0):aL env.P 230 [RR p,RR q] (RR (p/q)):=by
 have s1:=b5 (b:=2) (by decide) hp.n hq.d
 have s2:=b5 (b:=2) (by decide) hp.d hq.n
 have zz:∀ {x:Int},sz 2 x≤YY→Z x:=fun h=>by simp only [Z,YY]at *;omega
 have m1:=dU p.num q.den (zz hp.n) (zz hq.d)
 have m2:=dU p.den q.num (zz hp.d) (zz hq.n)
 have m5:=kV (p.num*q.den) ((p.den:Int)*q.num) (by simp only [Y,YY]at *;omega) (by simp only [Y,YY]at *;omega)
 rw [acJ p q h0]at m5
 generalize p.num*(q.den:Int)=x1 at *
 generalize (p.den:Int)*q.num=x2 at *
 generalize hr:p/q=r at *
 have d1:RR p = .ag [aQ aG (aY DD p.num.natAbs), .bool (decide (p.num<0)),aQ aG (aY DD (p.den:Int).natAbs), .bool (decide ((p.den:Int)<0))]:=y6 rfl rfl
 have d2:RR q = .ag [aQ aG (aY DD q.num.natAbs), .bool (decide (q.num<0)),aQ aG (aY DD (q.den:Int).natAbs), .bool (decide ((q.den:Int)<0))]:=y6 rfl rfl
 rw [d1,d2]
 generalize (p.den:Int)=pd at *
 generalize (q.den:Int)=qd at *
 generalize p.num=pn at *
 generalize q.num=qn at *
 refine cH [(0, .ag [aQ aG (aY DD pn.natAbs), .bool (decide (pn<0)),aQ aG (aY DD pd.natAbs), .bool (decide (pd<0))]),(1, .ag [aQ aG (aY DD qn.natAbs), .bool (decide (qn<0)),aQ aG (aY DD qd.natAbs), .bool (decide (qd<0))])] Tryz.func230 ?_
 refine aA [2,3,4] ?_
 refine sB ?_
 refine cX m1 ?_
 refine cX m2 ?_
 refine cV [4] m5 ?_
 exact cR
theorem IB:aL env.P 224 [] (RR 0):=by
 have h:=nN 0 1 (by decide) (by decide)
 rw [kF]at h
 refine cH [] Tryz.func224 ?_
 refine aA [0] ?_
 refine a7 [0] h ?_
 exact cR
def k7:List Rat→List Rat
 | []=>[]
 | x::l=>if k7 l = []∧x=0 then []else x::k7 l
theorem CG:∀l:List Rat,k7 (l ++ [0])=k7 l
 | []=>by simp [k7]
 | x::l=>by simp [k7,CG l]
theorem O2{x:Rat}(h:x≠0):∀l:List Rat,k7 (l ++ [x])=l ++ [x]
 | []=>by
  show k7 [x] = [x]
  rw [k7,if_neg (fun hh=>h hh.2)];rfl
 | y::l=>by
  have ih:=O2 h l
  have hn:¬(l ++ [x] = []∧y=0):=by simp
  show k7 (y::(l ++ [x]))=y::(l ++ [x])
  rw [k7,ih,if_neg hn]
abbrev qs(x:List Int):List Rat:=x.map fun(c:Int)=>(c:Rat)
theorem tC:∀x:List Int,k7 (qs x)=qs (aM x)
 | []=>rfl
 | a::x=>by
  have ih:=tC x
  simp only [qs,List.map_cons]at ih ⊢
  rw [k7,ih,aM]
  by_cases h:aM x = []∧a=0
  ·simp [h]
  ·rw [if_neg h,if_neg (by simpa using h)];simp
@[simp] theorem ala{l:List Rat}:bB 4 (emap re l)=True:=cJ fun _=>rfl
@[simp] theorem aiv{v e n:Nat}{l:List Rat}:cK (some ⟨v,e,n,emap re l⟩)=True:=cC fun _=>rfl
abbrev PP(l:List Rat):PV:=aQ re l
theorem tD(l:List Rat)(hl:l.length<17592186044416):aL env.P 157 [PP l] (PP (k7 l)):=by
 refine cH [(0,PP l)] Tryz.func157 ?_
 refine aA [0] ?_
 refine aA [0,3] ?_
 refine W.seq (W.block ?_)
 refine W.bC (fun k σ=>∃(rows:Pm.Rows) (clk:Nat),σ=⟨fa [(0,PP l),(3, .int .i64 (k:Int))],rows,clk⟩∧k≤l.length∧k7 l=k7 (l.take k)) l.length ?_ ?_
 ·exact⟨_, .refl,_,_,rfl,by omega,by simp⟩
 rintro k _ ⟨rows,clk,rfl,hk,hc⟩
 refine W.seq ?_
 refine W.fX (fun σ=>∃(b:Bool),σ=⟨fa [(0,PP l),(3, .int .i64 (k:Int)),(16, .bool b)],rows,clk⟩∧(b=true↔0<k∧nth l (k-1)=0)) (fun K hK=>?_) ?_
 ·simp
  by_cases h0:0<k
  ·simp (disch:=omega) [gw,h0]
   refine aC (CE (nth l (k-1)).num) ?_
   simp (disch:=omega) [gw,h0]
   refine hK _ _ (aD _ [0,3,16]) ⟨_,rfl,?_⟩
   simp [h0,Rat.num_eq_zero]
  ·simp (disch:=omega) [gw,h0]
   exact hK _ _ (aD _ [0,3,16]) ⟨_,rfl,by simp [h0]⟩
 rintro _ ⟨b,rfl,hb⟩
 refine bP ?_ ?_<;>intro h
 ·obtain⟨h0,h1⟩:=hb.1 h
  refine W.skip (W.block ?_)
  refine W.cG (fun K hK=>?_)
  simp (disch:=omega) [gw]
  refine hK _ ⟨k-1,_,Gh.fr [(0,_),(3, .int .i64 ((k-1:Nat):Int))] (by simp;omega),by omega,_,_,rfl,by omega,?_⟩
  rw [hc,show k=(k-1)+1 by omega,bA (by omega),h1,CG]
  simp
 ·have h2:k7 l=l.take k:=by
   rw [hc]
   by_cases h0:0<k
   ·have h1:nth l (k-1)≠0:=fun h1=>by simp [hb.2 ⟨h0,h1⟩]at h
    rw [show k=(k-1)+1 by omega,bA (by omega)]
    exact O2 h1 _
   ·have:k=0:=by omega
    subst this;simp [k7]
  refine fC ?_
  refine aA [2] ?_
  refine W.ret ?_
  simp [h2]
def ri(x:Int):List PV:=[aQ aG (aY DD x.natAbs), .bool (decide (x<0)),aQ aG (aY DD 1), .bool false]
@[simp] theorem atH{x:Int}:ri x = [aQ aG (aY DD x.natAbs), .bool (decide (x<0)),aQ aG (aY DD 1), .bool false]:=rfl
theorem jA(x:Int):re (x:Rat)=ri x:=by
 simp only [re,ri,Rat.num_intCast,Rat.den_intCast]
 congr
theorem qW(x:List Int):PP (qs x)=aQ ri x:=by simp only [PP,aQ,emap,qs,List.map_map,Function.comp_def,jA]
abbrev PI(x:List Int):PV:=aQ ri x
@[simp] theorem alb{l:List Int}:bB 4 (emap ri l)=True:=cJ fun _=>rfl
@[simp] theorem aiw{v e n:Nat}{l:List Int}:cK (some ⟨v,e,n,emap ri l⟩)=True:=cC fun _=>rfl
@[simp] theorem atI{l:List Int}{x:Int}:emap ri l ++ [[aQ aG (aY DD x.natAbs), .bool (decide (x<0)),aQ aG (aY DD 1), .bool false]]=emap ri (l ++ [x]):=by simp [emap]
@[simp] theorem atJ{l:List Rat}{q:Rat}:emap re l ++ [[aQ aG (aY DD q.num.natAbs), .bool (decide (q.num<0)),aQ aG (aY DD q.den), .bool false]]=emap re (l ++ [q]):=by simp [emap]
@[simp] theorem aoK{l:List Int}{i:Nat}{x:Int}:iN (emap ri l) i 0 [aQ aG (aY DD x.natAbs), .bool (decide (x<0)),aQ aG (aY DD 1), .bool false]=emap ri (l.set i x):=wY (n:=4) (fun _=>rfl)
theorem mO(l:List Int)(hl:l.length<17592186044416):aL env.P 157 [PI l] (PI (aM l)):=by
 have:=tD (qs l) (by simpa using hl)
 rwa [tC,qW,qW]at this
theorem CI(n:Int)(zn:Y n):aL env.P 60 [RI n,RI 1] (.ag (ri n)):=by
 have:=kV n 1 zn (by have:sz 2 1≤1:=dN (by decide) (by decide);simp only [Y];omega)
 rwa [kF,RR,jA]at this
theorem pU:aL env.P 224 [] (.ag (ri 0)):=by
 have:=IB
 rwa [RR,show(0:Rat)=((0:Int):Rat)by simp,jA]at this
theorem IC(n:Int)(h1 : -9223372036854775808≤n∧n<9223372036854775808):aL env.P 12 [.int .i64 n, .int .i64 1] (.ag (ri n)):=by
 have:=nN n 1 h1 (by decide)
 rwa [kF,RR,jA]at this
theorem o0{x:Int}{k:Nat}(h:sz 2 x≤k)(h1:1≤k):ZR k (x:Rat):=⟨by simpa using h,by simp;exact Nat.le_trans (dN (by decide) (by decide)) h1⟩
theorem SS(x y:Int)(hx:sz 2 x≤YY)(hy:sz 2 y≤YY):aL env.P 225 [.ag (ri x), .ag (ri y)] (.ag (ri (x+y))):=by
 have:=H8 x y (o0 hx (by decide)) (o0 hy (by decide))
 rwa [←Rat.intCast_add,RR,RR,RR,jA,jA,jA]at this
theorem CJ(x y:Int)(hx:sz 2 x≤YY)(hy:sz 2 y≤YY):aL env.P 226 [.ag (ri x), .ag (ri y)] (.ag (ri (x*y))):=by
 have:=H9 x y (o0 hx (by decide)) (o0 hy (by decide))
 rwa [←Rat.intCast_mul,RR,RR,RR,jA,jA,jA]at this
structure FOK(p:RP):Prop where
 ok:∀c∈p,b9 4294967296 c.2∧c.2.length<4294967296
 len:p.length<1099511627776
theorem SU(p:RP)(h:FOK p):aL env.P 79 [Pg p] (PI (aM (p.map gv))):=by
 refine cH [(0,Pg p)] Tryz.func79 ?_
 have hl:=h.len
 refine aA [0] ?_
 refine aA [0,3] ?_
 refine W.nil 3 3 31 4 (by simp) (by decide) (fun K hK=>?_)
 refine W.lw [0,3] hK ?_;clear hK K;simp
 refine aR [0,3,6,7] ?_
 refine W.block ?_
 refine W.bC (fun k σ=>∃(i ver:Nat) (rows:Pm.Rows) (clk:Nat),σ=⟨fa [(0,Pg p),(3, .own 3 ver 0 i),(6, .int .i64 p.length),(7, .int .i64 i)],rows,clk⟩∧rows 3=some ⟨ver,31,4,emap ri ((p.take i).map gv)⟩∧k=p.length-i∧i≤p.length) p.length ?_ ?_
 ·exact⟨_, .refl,0,_,_,_,rfl,by simp [emap],by omega,by omega⟩
 rintro k _ ⟨i,ver,rows,clk,rfl,hr,hk,hi⟩
 refine cL [0,3,6,7,8] ?_
 refine W.cond ⟨_,rfl,fun h0=>?_,fun h0=>?_⟩
 ·simp at h0
  obtain⟨wG,hc2⟩:=h.ok _ (bR h0)
  have eY:((p.take i).map gv).length=i:=by simp;omega
  have hz:Y (iv (nth p i).1 (nth p i).2):=by
   have h1:=XX wG
   have h2:sz 2 (iv (nth p i).1 (nth p i).2)=sz 2 (V 4294967296 (nth p i).2):=by unfold iv;split<;>simp [nD]
   simp only [Y];omega
  have hF:=CD (nth p i).1 (nth p i).2 (by omega) wG
  have hM:=CI _ hz
  obtain⟨v,hv⟩:∃v,v=iv (nth p i).1 (nth p i).2:=⟨_,rfl⟩
  rw [←hv]at hF hM
  refine kK ?_
  refine aA [0,3,4,6,7] ?_
  refine W.cG (fun K hK=>?_)
  simp (disch:=omega) [gw]
  refine cX hF ?_
  refine aC (nJ 1 (by decide) (by decide)) ?_
  simp (disch:=omega) [gw]
  refine aC hM ?_
  simp (disch:=omega) [gw,hr,eY]
  refine W.lw [0,3,6,7] hK ?_;clear hK K;simp
  refine W.cG (fun K hK=>?_);simp (disch:=omega) [gw]
  refine hK _ ⟨p.length-(i+1),_,aD _ [0,3,6,7],by omega,i+1,_,_,_,rfl,?_,by omega,by omega⟩
  rw [l7 h0,show gv (nth p i)=v from hv.symm]
  simp
 ·simp at h0
  have kD:i=p.length:=by omega
  subst kD
  refine fC ?_
  refine W.sr ?_
  have ez:(p.map gv).take p.length=p.map gv:=bG (by simp)
  simp (disch:=omega) [gw,hr,ez]
  refine aC (mO (p.map gv) (by simp;omega)) ?_
  simp (disch:=omega) [gw]
  refine bM [2] ?_
  exact cR
theorem acK(l:List Int)(hl:l.length<1099511627776)(hb:∀x∈l, -9223372036854775808≤x∧x<9223372036854775808):aL env.P 97 [aQ aG l] (PI (aM l)):=by
 refine cH [(0,aQ aG l)] Tryz.func97 ?_
 refine aA [0] ?_
 refine aA [0,3] ?_
 refine W.nil 3 3 31 4 (by simp) (by decide) (fun K hK=>?_)
 refine W.lw [0,3] hK ?_;clear hK K;simp
 refine aR [0,3,6,7] ?_
 refine W.block ?_
 refine W.bC (fun k σ=>∃(i ver:Nat) (rows:Pm.Rows) (clk:Nat),σ=⟨fa [(0,aQ aG l),(3, .own 3 ver 0 i),(6, .int .i64 l.length),(7, .int .i64 i)],rows,clk⟩∧rows 3=some ⟨ver,31,4,emap ri (l.take i)⟩∧k=l.length-i∧i≤l.length) l.length ?_ ?_
 ·exact⟨_, .refl,0,_,_,_,rfl,by simp [emap],by omega,by omega⟩
 rintro k _ ⟨i,ver,rows,clk,rfl,hr,hk,hi⟩
 refine cL [0,3,6,7,8] ?_
 refine W.cond ⟨_,rfl,fun h0=>?_,fun h0=>?_⟩
 ·simp at h0
  have eY:(l.take i).length=i:=by simp;omega
  refine kK ?_
  refine aA [0,3,4,6,7] ?_
  refine W.cG (fun K hK=>?_)
  simp (disch:=omega) [gw]
  refine aC (IC (nth l i) (hb _ (bR h0))) ?_
  simp (disch:=omega) [gw,hr,eY]
  refine W.lw [0,3,6,7] hK ?_;clear hK K;simp
  refine W.cG (fun K hK=>?_);simp (disch:=omega) [gw]
  refine hK _ ⟨l.length-(i+1),_,aD _ [0,3,6,7],by omega,i+1,_,_,_,rfl,?_,by omega,by omega⟩
  rw [bA h0]
  simp
 ·simp at h0
  have kD:i=l.length:=by omega
  subst kD
  refine fC ?_
  refine W.sr ?_
  simp (disch:=omega) [gw,hr]
  refine aC (mO l (by omega)) ?_
  simp (disch:=omega) [gw]
  refine bM [2] ?_
  exact cR
structure SV(l:List Rat):Prop where
 ok:∀q∈l,ZR YY q
 len:l.length<1099511627776
theorem acL(k:Nat)(hk:1≤k):ZR k 0:=⟨by show sz 2 0≤k;rw [i7];omega,by show sz 2 1≤k;exact Nat.le_trans (dN (by decide) (by decide)) hk⟩
theorem SV.nth{l:List Rat}(h:SV l)(i:Nat):ZR YY (nth l i):=by
 by_cases hi:i<l.length
 ·exact h.ok _ (bR hi)
 ·rw [fY (by omega)];exact acL _ (by decide)
theorem SV.qs{x:List Int}(h:∀c∈x,sz 2 c≤YY)(hl:x.length<1099511627776):SV (qs x):=⟨fun q hq=>by
 simp only [List.mem_map]at hq
 obtain⟨c,hc,rfl⟩:=hq
 exact o0 (h c hc) (by decide),by simpa using hl⟩
@[simp] theorem aix{l:List Rat}:(∀e∈emap re l,∀p∈e,bU p=true)=True:=by simp [emap]
theorem O3(l:List Rat)(i:Nat)(hi:i<9223372036854775808):aL env.P 277 [PP l, .int .i64 i] (RR (nth l i)):=by
 have hzero:=IB
 refine cH [(0,PP l),(1, .int .i64 i)] Tryz.func277 ?_
 refine cL [0,1,4] ?_
 refine W.fX (fun σ=>∃(b:Bool) (rows:Pm.Rows) (clk:Nat),σ=⟨fa [(0,PP l),(1, .int .i64 i),(4, .ptr 4 0 0 0),(12, .bool b)],rows,clk⟩∧(b=true↔l.length≤i)∧rows 4=some ⟨0,31,4,[[.nil, .bool false, .nil, .bool false]]⟩) (fun K hK=>?_) ?_
 ·have hn:¬((i:Int)<0):=by omega
  simp (disch:=omega) [gw,hn]
  exact hK _ _ (aD _ [0,1,4,12]) ⟨_,_,_,rfl,by simp,by simp⟩
 rintro _ ⟨b,rows,clk,rfl,hb,eU⟩
 refine bP ?_ ?_<;>intro h
 ·have hb:=hb.1 h
  have e:nth l i=0:=fY hb
  rw [e]
  generalize (0:Rat)=z at *
  refine jM ?_
  refine aC hzero ?_
  simp (disch:=omega) [gw,eU]
  refine bM [4] ?_
  exact cR
 ·have hb:i<l.length:=Nat.lt_of_not_le fun h2=>by simp [hb.2 h2]at h
  refine W.skip ?_
  refine W.sr ?_
  simp (disch:=omega) [gw,eU]
  refine bM [4] ?_
  exact cR
def YC(a b:List Rat):List Rat:=k7 ((List.range (max a.length b.length)).map fun k=>nth a k+nth b k)
theorem YD(a b:List Rat)(ha:SV a)(hb:SV b):aL env.P 274 [PP a,PP b] (PP (YC a b)):=by
 have hal:=ha.len;have hbl:=hb.len
 refine cH [(0,PP a),(1,PP b)] Tryz.func274 ?_
 obtain⟨M,hM⟩:∃M,M=max a.length b.length:=⟨_,rfl⟩
 refine aA [0,1] ?_
 refine aA [0,1,5] ?_
 refine W.nil 5 5 31 4 (by simp) (by decide) (fun K hK=>?_)
 refine W.lw [0,1,5] hK ?_;clear hK K;simp
 refine aR [0,1,5,6] ?_
 refine W.block ?_
 refine W.bC (fun k σ=>∃(i ver:Nat) (rows:Pm.Rows) (clk:Nat),σ=⟨fa [(0,PP a),(1,PP b),(5, .own 5 ver 0 i),(6, .int .i64 i)],rows,clk⟩∧rows 5=some ⟨ver,31,4,emap re ((List.range i).map fun k=>nth a k+nth b k)⟩∧k=M-i∧i≤M) M ?_ ?_
 ·exact⟨_, .refl,0,_,_,_,rfl,by simp [emap],by omega,by omega⟩
 rintro k _ ⟨i,ver,rows,clk,rfl,hr,hk,hi⟩
 have em:(if a.length<b.length then(b.length:Int)else(a.length:Int))=M:=by split<;>omega
 have em2:(if b.length<a.length then(a.length:Int)else(b.length:Int))=M:=by split<;>omega
 refine W.seq ?_
 refine W.sr ?_
 simp (disch:=omega) [gw,em,em2]
 refine bM [0,1,5,6,13] ?_
 refine bP ?_ ?_<;>intro h
 ·have h:i<M:=by simp at h;omega
  refine kK ?_
  have h1:=O3 a i (by omega)
  have h2:=O3 b i (by omega)
  have h3:=H8 _ _ (ha.nth i) (hb.nth i)
  have er:(List.range (i+1)).map (fun k=>nth a k+nth b k)=(List.range i).map (fun k=>nth a k+nth b k) ++ [nth a i+nth b i]:=by rw [List.range_succ];simp
  have eY:((List.range i).map fun k=>nth a k+nth b k).length=i:=by simp
  generalize ((List.range i).map fun k=>nth a k+nth b k)=acc at *
  generalize nth a i+nth b i=q at *
  generalize nth a i=u at *
  generalize nth b i=v at *
  refine W.cG (fun K hK=>?_)
  simp (disch:=omega) [gw]
  refine cX h1 ?_
  refine cX h2 ?_
  refine aC h3 ?_
  simp (disch:=omega) [gw,hr,eY]
  refine W.lw [0,1,5,6] hK ?_;clear hK K;simp
  refine W.cG (fun K hK=>?_);simp (disch:=omega) [gw]
  refine hK _ ⟨M-(i+1),_,aD _ [0,1,5,6],by omega,i+1,_,_,_,rfl,by rw [er];simp,by omega,by omega⟩
 ·have h:i=M:=by simp at h;omega
  subst h
  refine fC ?_
  have eY:((List.range i).map fun k=>nth a k+nth b k).length=i:=by simp
  rw [YC,←hM]
  generalize ((List.range i).map fun k=>nth a k+nth b k)=acc at *
  have ez:=bG eY
  refine W.sr ?_
  simp (disch:=omega) [gw,hr,ez]
  refine aC (tD acc (by omega)) ?_
  simp (disch:=omega) [gw]
  refine bM [4] ?_
  exact cR
def jB(a:List Rat)(c:Rat):List Rat:=k7 (a.map fun x=>x*c)
theorem rO(a:List Rat)(c:Rat)(ha:SV a)(hc:ZR YY c):aL env.P 201 [PP a,RR c] (PP (jB a c)):=by
 have hal:=ha.len
 refine cD (E:=env) (fun id=>if id=5 then 2 else 0) [(0,PP a),(1,RR c)] Tryz.func201 rfl (by kernel_rfl) (by kernel_rfl) (show 2≤24 by decide) (by simp) ?_
 refine aA [0,3] ?_
 refine aA [0,3,5] ?_
 refine W.nil 5 5 31 4 (by simp) (by decide) (fun K hK=>?_)
 refine W.lw [0,3,5] hK ?_;clear hK K;simp
 refine aR [0,3,5,8,9] ?_
 refine W.block ?_
 refine W.bC (fun k σ=>∃(i ver:Nat) (rows:Pm.Rows) (clk:Nat),σ=⟨fa [(0,PP a),(3, .ptr 3 0 0 0),(5, .own 5 ver 0 i),(8, .int .i64 a.length),(9, .int .i64 i)],rows,clk⟩∧rows 5=some ⟨ver,31,4,emap re ((a.take i).map fun x=>x*c)⟩∧rows 3=some ⟨0,31,4,[re c]⟩∧k=a.length-i∧i≤a.length) a.length ?_ ?_
 ·exact⟨_, .refl,0,_,_,_,rfl,by simp [emap],by simp,by omega,by omega⟩
 rintro k _ ⟨i,ver,rows,clk,rfl,hr,lJ,hk,hi⟩
 refine cL [0,3,5,8,9,10] ?_
 refine bP ?_ ?_<;>intro h
 ·simp at h
  refine kK ?_
  refine aA [0,3,5,6,8,9] ?_
  have h3:=H9 _ _ (ha.nth i) hc
  have er:=l7 (f:=fun x=>x*c) h
  have eY:((a.take i).map fun x=>x*c).length=i:=by simp;omega
  generalize (a.take i).map (fun x=>x*c)=acc at *
  generalize hq:nth a i*c=q at *
  refine W.LV (fun K hK=>?_)
  rw [if_pos rfl,eH]
  simp (disch:=omega) [gw,lJ]
  refine aC h3 ?_
  simp (disch:=omega) [gw,hr,lJ,eY]
  refine W.lw [0,3,5,8,9] hK ?_;clear hK K;simp
  refine W.cG (fun K hK=>?_);simp (disch:=omega) [gw]
  refine hK _ ⟨a.length-(i+1),_,aD _ [0,3,5,8,9],by omega,i+1,_,_,_,rfl,by rw [er];simp,by simp [lJ],by omega,by omega⟩
 ·simp at h
  have kD:i=a.length:=by omega
  subst kD
  refine fC ?_
  rw [List.take_length]at hr
  rw [jB]
  have eY:(a.map fun x=>x*c).length=a.length:=by simp
  generalize a.map (fun x=>x*c)=acc at *
  have ez:=bG eY
  refine W.sr ?_
  simp (disch:=omega) [gw,hr,ez]
  refine aC (tD acc (by omega)) ?_
  simp (disch:=omega) [gw]
  refine bM [4] ?_
  exact cR
theorem ID(a:List Rat)(ha:SV a):aL env.P 161 [PP a] (PP (jB a (-1))):=by
 have h1:=nN (-1) 1 (by decide) (by decide)
 rw [kF,show(((-1:Int)):Rat) = -1 by simp]at h1
 have h2:=rO a (-1) ha ⟨by show sz 2 (-1)≤YY;exact Nat.le_trans (dN (k:=1) (by decide) (by decide)) (by decide),by show sz 2 1≤YY;exact Nat.le_trans (dN (k:=1) (by decide) (by decide)) (by decide)⟩
 generalize (-1:Rat)=c at *
 refine cH [(0,PP a)] Tryz.func161 ?_
 refine aA [0] ?_
 refine jM ?_
 refine cX h1 ?_
 refine cV [2] h2 ?_
 exact cR
theorem YE(x:List Int)(k:Nat):nth (qs x) k=((nth x k:Int):Rat):=wV (f:=fun(c:Int)=>(c:Rat)) rfl x k
theorem SW(x:List Int)(c:Int):jB (qs x) (c:Rat)=qs (aX x c):=by
 rw [jB,aX,←tC]
 congr 1
 simp [qs,Function.comp_def]
theorem MF(x:List Int):aX x (-1)=fK x:=by simp [aX,fK]
theorem CK(x:List Int)(hx:Bd 2 YY 1099511627775 x):aL env.P 161 [PI x] (PI (fK x)):=by
 have:=ID (qs x) (.qs hx.sz (by have:=hx.len;omega))
 rwa [show(-1:Rat)=((-1:Int):Rat)by simp,SW,MF,qW,qW]at this
theorem SX(x y:List Int)(s s' n n':Nat)(hs:Bd 2 s n x)(F7:Bd 2 s' n' y)(hB:s+s'+n+n'<YY):aL env.P 199 [PI x,PI y] (PI (bJ x y)):=by
 have hlx:=hs.len;have hly:=F7.len
 have hB2:s+s'+n+n'<137438953472:=hB
 refine cD (E:=env) (fun id=>if id=15 then 1 else 0) [(0,PI x),(1,PI y)] Tryz.func199 rfl (by kernel_rfl) (by kernel_rfl) (show 2≤69 by decide) (by simp) ?_
 refine cL [0,1] ?_
 refine W.fX (fun σ=>∃(b:Bool),σ=⟨fa [(0,PI x),(1,PI y),(16, .bool b)],fun _=>none,0⟩∧(b=true↔x = []∨y = [])) (fun K hK=>?_) ?_
 ·simp
  have e1:((x.length:Int)==0)=decide (x = []):=by
   cases x<;>simp<;>omega
  have e2:((y.length:Int)==0)=decide (y = []):=by
   cases y<;>simp<;>omega
  rw [e1]
  by_cases h0:x = []
  ·have e3:decide (x = [])=true:=by simp [h0]
   rw [e3]
   simp
   exact hK _ _ (aD _ [0,1,16]) ⟨_,rfl,by simp [h0]⟩
  ·have e3:decide (x = [])=false:=by simp [h0]
   rw [e3]
   simp
   exact hK _ _ (aD _ [0,1,16]) ⟨_,rfl,by rw [e2];simp [h0]⟩
 rintro _ ⟨b,rfl,hb⟩
 refine bP ?_ ?_<;>intro h
 ·have e:bJ x y = []:=by
   have h1:=hb.1 h
   refine Cn.ext (Cn.bJ _ _) Cn.nil fun t=>?_
   rw [cQ]
   rcases h1 with rfl | rfl<;>simp [V]
  refine aA [4] ?_
  refine W.ret ?_
  simp [go,e]
  rfl
 ·have h1:¬(x = []∨y = []):=fun h2=>by simp [hb.2 h2]at h
  have nZ:0<x.length:=List.length_pos_iff.2 fun h2=>h1 (.inl h2)
  have L5:0<y.length:=List.length_pos_iff.2 fun h2=>h1 (.inr h2)
  clear h hb h1
  have e0:((x.length:Int)+(y.length:Int)-1).toNat=x.length+y.length-1:=by omega
  have e9:((x.length+y.length-1:Nat):Int)=(x.length:Int)+(y.length:Int)-1:=by omega
  refine W.skip ?_
  refine W.sr ?_
  simp (disch:=omega) [gw,e0]
  refine bM [0,1,5] ?_
  refine aR [0,1,5,25,26] ?_
  refine W.block ?_
  refine W.bC (fun k σ=>∃(i ver:Nat) (els:List (List PV)) (rows:Pm.Rows) (clk:Nat),σ=⟨fa [(0,PI x),(1,PI y),(5, .own 23 ver 0 (x.length+y.length-1)),(25, .int .i64 ((x.length+y.length-1:Nat):Int)),(26, .int .i64 i)],rows,clk⟩ ∧
   rows 23=some ⟨ver,31,4,els⟩∧els.length=x.length+y.length-1∧(∀e∈els,e.length=4)∧els.take i=emap ri (List.replicate i 0)∧k=x.length+y.length-1-i∧i≤x.length+y.length-1) (x.length+y.length-1) ?_ ?_
  ·exact⟨_,Gh.fr [(0,PI x),(1,PI y),(5, .own 23 0 0 (x.length+y.length-1)),(25, .int .i64 ((x.length+y.length-1:Nat):Int)),(26, .int .i64 (0:Nat))] (by simp),0,_,List.replicate (x.length+y.length-1) [.nil, .bool false, .nil, .bool false],_,_,rfl,by simp [e0],by simp,by simp,by simp [emap],by omega,by omega⟩
  rintro k _ ⟨i,ver,els,rows,clk,rfl,hr,mW,IE,y7,hk,hi⟩
  have L3:bB 4 els=True:=by simp only [bB,eq_iff_iff,iff_true];exact IE
  refine cL [0,1,5,25,26,27] ?_
  refine bP ?_ ?_<;>intro h
  ·have h:i<x.length+y.length-1:=by simp at h;omega
   refine kK ?_
   refine aA [0,1,5,6,25,26] ?_
   refine W.cG (fun K hK=>?_)
   simp (disch:=omega) [gw]
   refine aC pU ?_
   have sC:i<els.length:=by omega
   have hE:sP els i 4=True:=by
    simp only [eq_iff_iff,iff_true]
    exact⟨els[i],List.getElem?_eq_getElem sC,by rw [IE _ (List.getElem_mem sC)];omega⟩
   have hS:iN els i 0 [aQ aG (aY DD 0), .bool false,aQ aG (aY DD 1), .bool false]=els.set i (ri 0):=by
    have h4:=IE _ (List.getElem_mem sC)
    rw [iN,List.getElem?_eq_getElem sC]
    simp [List.drop_of_length_le,h4]
   simp (disch:=omega) [gw,hr,hE,hS]
   refine W.lw [0,1,5,25,26] hK ?_;clear hK K;simp
   refine W.cG (fun K hK=>?_);simp (disch:=omega) [gw]
   refine hK _ ⟨x.length+y.length-1-(i+1),_,aD _ [0,1,5,25,26],by omega,i+1,ver,els.set i (ri 0),_,_,rfl,by simp,by simpa using mW,fun e he=>?_,?_,by omega,by omega⟩
   ·rcases List.mem_or_eq_of_mem_set he with h1 | h1
    ·exact IE e h1
    ·rw [h1];rfl
   ·rw [kR y7 (by omega),List.replicate_succ']
    simp [emap]
  ·have h:i=x.length+y.length-1:=by simp at h;omega
   subst h
   have rB:els=emap ri (List.replicate (x.length+y.length-1) 0):=by rw [←y7,bG mW]
   subst rB
   clear y7 IE mW L3 hk hi
   refine fC ?_
   refine aR [0,1,5,35,36] ?_
   refine W.block ?_
   refine W.bC (fun k σ=>∃(i:Nat) (z:List Int) (ver:Nat) (rows:Pm.Rows) (clk:Nat),σ=⟨fa [(0,PI x),(1,PI y),(5, .own 23 ver 0 (x.length+y.length-1)),(35, .int .i64 x.length),(36, .int .i64 i)],rows,clk⟩ ∧
    rows 23=some ⟨ver,31,4,emap ri z⟩∧k=x.length-i∧i≤x.length∧z.length=x.length+y.length-1∧(∀j,sz 2 (nth z j)≤s+s'+i) ∧
    ∀t,V t z=V t (x.take i)*V t y) x.length ?_ ?_
   ·refine⟨_, .refl,0,List.replicate (x.length+y.length-1) 0,_,_,_,rfl,hr,by omega,by omega,by simp,fun j=>?_,fun t=>by simp [V,nW]⟩
    have:Bd 2 0 (x.length+y.length-1) (List.replicate (x.length+y.length-1) 0):=⟨by simp,fun c hc=>by rw [(List.mem_replicate.1 hc).2,i7];omega⟩
    have:=this.nth j
    omega
   clear hr rows clk
   rintro k _ ⟨i,z,ver,rows,clk,rfl,hr,hk,hi,hz,AF,hV⟩
   refine cL [0,1,5,35,36,37] ?_
   refine bP ?_ ?_<;>intro h
   ·simp at h
    refine kK ?_
    refine aA [0,1,5,7,35,36] ?_
    refine aA [0,1,5,7,35,36,40,41] ?_
    refine W.block ?_
    refine W.bC (fun m σ=>∃(k:Nat) (z:List Int) (ver:Nat) (rows:Pm.Rows) (clk:Nat),σ=⟨fa [(0,PI x),(1,PI y),(5, .own 23 ver 0 (x.length+y.length-1)),(7, .int .i64 i),(35, .int .i64 x.length),(36, .int .i64 i),(40, .int .i64 y.length),(41, .int .i64 k)],rows,clk⟩ ∧
     rows 23=some ⟨ver,31,4,emap ri z⟩∧m=y.length-k∧k≤y.length∧z.length=x.length+y.length-1∧(∀j,sz 2 (nth z j)≤s+s'+i+1)∧(∀j,i+k≤j→sz 2 (nth z j)≤s+s'+i) ∧
     ∀t,V t z=V t (x.take i)*V t y+t^i*nth x i*V t (y.take k)) y.length ?_ ?_
    ·refine⟨_, .refl,0,z,ver,_,_,rfl,by simpa using hr,by omega,by omega,hz,fun j=>by have:=AF j;omega,fun j _=>AF j,fun t=>by simp [V,hV]⟩
    clear hV AF hz hr z ver rows clk
    rintro m _ ⟨k,z,ver,rows,clk,rfl,hr,hm,hky,hz,AF,L6,hV⟩
    refine cL [0,1,5,7,35,36,40,41,42] ?_
    refine W.cond ⟨_,rfl,fun h2=>?_,fun h2=>?_⟩
    ·simp at h2
     refine kK ?_
     refine aA [0,1,5,7,8,35,36,40,41] ?_
     have e1:((i:Int)+(k:Int)).toNat=i+k:=by omega
     have J0:sz 2 (nth x i*nth y k)≤s+s'+i:=Nat.le_trans (b5 (by decide) (hs.nth i) (F7.nth k)) (by omega)
     have hm2:=l6 (b:=2) (by decide) (L6 (i+k) (Nat.le_refl _)) J0
     have hlz:i+k<z.length:=by omega
     have c1:=CJ (nth x i) (nth y k) (Nat.le_trans (hs.nth i) (by show _≤137438953472;omega)) (Nat.le_trans (F7.nth k) (by show _≤137438953472;omega))
     have c2:=SS (nth z (i+k)) (nth x i*nth y k) (Nat.le_trans (L6 (i+k) (Nat.le_refl _)) (by show _≤137438953472;omega)) (Nat.le_trans J0 (by show _≤137438953472;omega))
     have R9:=fun t=>B5 (b:=t) (x:=nth z (i+k)+nth x i*nth y k) hlz
     generalize hu:nth z (i+k)+nth x i*nth y k=u at *
     generalize hpq:nth x i*nth y k=pq at *
     refine W.LV (fun K hK=>?_)
     rw [if_pos rfl,eH]
     simp (disch:=omega) [gw,hr,e1]
     refine aC c1 ?_
     simp (disch:=omega) [gw,hr,e1]
     refine aC c2 ?_
     simp (disch:=omega) [gw,hr,e1]
     refine W.lw [0,1,5,7,35,36,40,41] hK ?_;clear hK K;simp
     refine W.cG (fun K hK=>?_);simp (disch:=omega) [gw]
     refine hK _ ⟨y.length-(k+1),_,aD _ [0,1,5,7,35,36,40,41],by omega,k+1,z.set (i+k) u,ver,_,_,rfl,by simp,by omega,by omega,by simpa using hz,fun j=>?_,fun j hj=>?_,fun t=>?_⟩
     ·by_cases hj:i+k=j
      ·subst hj;rw [dV hlz];exact hm2
      ·rw [fD hj];exact AF j
     ·rw [fD (by omega)];exact L6 j (by omega)
     ·rw [R9,aS h2,hV,Int.pow_add,←hu,←hpq];clear hV R9;grind
    ·simp at h2
     have u4:k=y.length:=by omega
     subst u4
     refine fC ?_
     refine W.cG (fun K hK=>?_);simp (disch:=omega) [gw]
     refine hK _ ⟨x.length-(i+1),_,aD _ [0,1,5,35,36],by omega,i+1,z,ver,_,_,rfl,hr,by omega,by omega,hz,fun j=>by have:=AF j;omega,fun t=>?_⟩
     rw [hV,aV (Nat.le_refl _),aS h];grind
   ·simp at h
    have kD:i=x.length:=by omega
    subst kD
    have rL:=bG hz
    refine fC ?_
    refine W.sr ?_
    simp (disch:=omega) [gw,hr,rL]
    refine aC (mO z (by omega)) ?_
    simp (disch:=omega) [gw]
    refine bM [4] ?_
    refine W.ret ?_
    have e:aM z=bJ x y:=by
     refine Cn.ext (Cn.cut _) (Cn.bJ _ _) fun t=>?_
     rw [cE,hV,cQ,aV (Nat.le_refl _)]
    simp [go,e]
theorem nO(v n:Int)(hv : -9223372036854775808≤v∧v<9223372036854775808)(hn:0<n)(hn2:n<4611686018427387904):aL env.P 13 [.int .i64 v, .int .i64 n] (.int .i64 (v%n)):=by
 have UX:n≠0:=by omega
 have h12:(v.tmod n=v%n∨(v.tmod n<0∧v.tmod n+n=v%n)) ∧ -n<v.tmod n∧v.tmod n<n:=by
  have h2:=Int.emod_nonneg v UX
  have h3:=Int.emod_lt_of_pos v hn
  rcases(show v<0∨0≤v by omega)with h | h
  ·have h4:=Int.tmod_eq_emod (a:=v) (b:=n)
   have h5:(n.natAbs:Int)=n:=by omega
   split at h4
   ·simp at h4;omega
   ·rename_i h6
    rw [h5]at h4
    have h7:v%n≠0:=fun h8=>h6 (.inr (Int.dvd_of_emod_eq_zero h8))
    omega
  ·rw [Int.tmod_eq_emod_of_nonneg h];omega
 obtain⟨h1,h2⟩:=h12
 have h5:=Int.emod_nonneg v UX
 have h6:=Int.emod_lt_of_pos v hn
 have hnn:¬n<1:=by omega
 refine cH [(0, .int .i64 v),(1, .int .i64 n)] Tryz.func13 ?_
 refine aA [0,1] ?_
 refine aR [0,1,7] ?_
 refine bP ?_ ?_<;>intro h
 ·exfalso;simp at h;omega
 ·refine W.skip ?_
  generalize hm:v.tmod n=m at *
  generalize v%n=r at *
  refine W.sr ?_
  simp (disch:=omega) [gA,UX,hm]
  refine bM [1,5] ?_
  refine W.iF (fun σ=>∃(rows:Pm.Rows) (clk:Nat),σ=⟨fa [(5, .int .i64 r)],rows,clk⟩) ?_ ?_
  ·
   refine aA [1,5,12] ?_
   refine bP ?_ ?_<;>intro h
   ·simp at h
    refine W.cG (fun K hK=>?_);simp (disch:=omega) [gw]
    exact hK _ ⟨_,Gh.fr [(5, .int .i64 r)] (by simp;omega),_,_,rfl⟩
   ·simp at h
    refine W.skip ?_
    exact⟨_,Gh.fr [(5, .int .i64 r)] (by simp;omega),_,_,rfl⟩
  rintro _ ⟨rows,clk,rfl⟩
  refine aA [4] ?_
  exact cR
structure PB(x:List Int):Prop where
 sz:∀c∈x,Sz c
 len:x.length<1099511627775
theorem PB.A8{x:List Int}(h:PB x):qJ (x.map qI):=qJ.acg h.sz (by have:=h.len;omega)
theorem PB.of{s n:Nat}{x:List Int}(h:Bd LL s n x)(hs:s<1099511627775)(hn:n<1099511627775):PB x:=⟨fun c hc=>Nat.lt_of_le_of_lt (h.sz c hc) (by omega),Nat.lt_of_le_of_lt h.len hn⟩
theorem SY{x y:List Int}(hx:PB x)(hy:PB y):aL env.P 182 [Po x,Po y] (Po (gB x y)):=by
 have:=XL _ _ hx.A8 hy.A8
 rwa [bT,bT,←gT,←gT]at this
theorem CL{x y:List Int}(hx:PB x)(hy:PB y):aL env.P 186 [Po x,Po y] (Po (eE x y)):=by
 have:=XM _ _ hx.A8 hy.A8
 rwa [bT,bT,←gT,←gT]at this
theorem CM{x:List Int}(hx:PB x):aL env.P 139 [Po x] (Po (fK x)):=by
 have:=XN _ hx.A8
 rwa [bT,←gT]at this
theorem gC{x:List Int}(hx:PB x):aL env.P 64 [Po x] (Po (aM x)):=by
 have:=gI _ hx.A8
 rwa [bT,←gT]at this
theorem SZ{a:RP}{y:List Int}{s s' n n':Nat}(ha:qJ a)(hs:Bd LL s n (a.map gv))(F7:Bd LL s' n' y)(hB:s+s'+n+n'<1099511627775):aL env.P 15 [Pg a,Po y] (Po (bJ (a.map gv) y)):=by
 have:=XO a (y.map qI) ha (PB.of F7 (by omega) (by omega)).A8 s s' n n' hs (by rwa [bT]) hB
 rwa [bT,←gT]at this
theorem uL{x y:List Int}{s s' n n':Nat}(hs:Bd LL s n x)(F7:Bd LL s' n' y)(hB:s+s'+n+n'<1099511627775):aL env.P 15 [Po x,Po y] (Po (bJ x y)):=by
 have:=SZ (PB.of hs (by omega) (by omega)).A8 (by rwa [bT]) F7 hB
 rwa [bT,←gT]at this
theorem maps{α:Type}{g:α→List PV}{R:List PV→Prop}{Q:α→Prop}(h:∀ps,R ps → ∃a,ps=g a∧Q a):∀ {l:List (List PV)},(∀x∈l,R x) → ∃m:List α,l=m.map g ∧ ∀a∈m,Q a
 | [],_=>⟨[],rfl,fun _ h=>(by cases h)⟩
 | x::l,hx=>by
  obtain⟨a,rfl,ha⟩:=h x (hx x (by simp))
  obtain⟨m,rfl,hm⟩:=maps h (l:=l) fun y hy=>hx y (by simp [hy])
  exact⟨a::m,rfl,fun b hb=>by
   rcases List.mem_cons.1 hb with rfl | hb
   ·exact ha
   ·exact hm b hb⟩
theorem own:ownKnob Tryz.prog.godebug=none:=by kernel_rfl
theorem laidOut:laidOutB Tryz.prog=true:=by kernel_rfl
structure PD(x:List Int):Prop where
 sz:∀v∈x,sz LL v<1099511627774
 len:x.length<1099511627774
theorem PD.of{s n:Nat}{x:List Int}(h:Bd LL s n x)(hs:s<1099511627774)(hn:n<1099511627774):PD x:=⟨fun v hv=>Nat.lt_of_le_of_lt (h.sz v hv) hs,Nat.lt_of_le_of_lt h.len hn⟩
theorem aiy(v:Int):V 4294967296 (aY LL v.natAbs)=v.natAbs:=jH fR v.natAbs
theorem EJ{v c:Int}(hv:sz LL v<1099511627774)(hc:sz LL c<1099511627774)(h0:c≠0):aL env.P 234 [I v,I c] (if v%c=0 then .dX [I (v/c), .int .i64 0]else .dX [I 0, .int .i64 3]):=by
 have:=MC (decide (v<0)) (decide (c<0)) (aY LL v.natAbs) (aY LL c.natAbs) ⟨eT fR _,by unfold sz at hv;omega⟩ ⟨eT fR _,by unfold sz at hc;omega⟩ hv hc (by rw [aiy];omega)
 rwa [yS,yS]at this
def n8(c v:Int):Int:=if v%c=0 then v/c else 0
theorem IF(x:List Int)(c:Int)(hx:PD x)(hc:sz LL c<1099511627774)(h0:c≠0):aL env.P 214 [Po x,I c] (Po (aM (x.map (n8 c)))):=by
 have hxl:=hx.len
 refine cH [(0,Po x),(1,I c)] Tryz.func214 ?_
 refine aA [0,3] ?_
 refine aA [0,3,5] ?_
 refine W.row (id:=10) (emap ie (List.replicate x.length 0)) (by simp;exact⟨rfl,rfl,rfl⟩) (oX _) ?_
 refine aR [3,5,11,12,13] ?_
 refine W.block ?_
 refine W.bC (fun q σ=>∃(i:Nat) (z:List Int) (v10:Nat) (rows:Pm.Rows) (clk:Nat),σ=⟨fa [(3, .ptr 3 0 0 0),(5, .own 10 v10 0 x.length),(11,Po x),(12, .int .i64 x.length),(13, .int .i64 i)],rows,clk⟩ ∧
  rows 3=some ⟨0,38,2,[ie c]⟩∧rows 10=some ⟨v10,38,2,emap ie z⟩∧q=x.length-i∧i≤x.length∧z.length=x.length∧z.take i=(x.take i).map (n8 c)) x.length ?_ ?_
 ·exact⟨_, .refl,0,List.replicate x.length 0,_,_,_,rfl,by simp,by simp,by omega,by omega,by simp,by simp⟩
 rintro q _ ⟨i,z,v10,rows,clk,rfl,lJ,IG,hq,hi,hz,hv⟩
 refine cL [3,5,11,12,13,14] ?_
 refine bP ?_ ?_<;>intro h
 ·have hi:i<x.length:=by simp at h;omega
  have hE:=EJ (hx.sz _ (bR hi)) hc h0
  have hE2:aL env.P 234 [I (nth x i),I c] (.dX [I (n8 c (nth x i)), .int .i64 (if nth x i%c=0 then 0 else 3)]):=by
   unfold n8
   split at hE
   ·rename_i h1;rw [if_pos h1,if_pos h1];exact hE
   ·rename_i h1;rw [if_neg h1,if_neg h1];exact hE
  have hts:(x.take (i+1)).map (n8 c)=(x.take i).map (n8 c) ++ [n8 c (nth x i)]:=by rw [bA hi];simp
  generalize (if nth x i%c=0 then(0:Int)else 3)=er at *
  generalize n8 c (nth x i)=ev at *
  generalize hxe:nth x i=xi at *
  refine kK ?_
  refine W.sr ?_
  simp (disch:=omega) [gw,hxe]
  refine bM [3,5,6,7,11,12,13] ?_
  refine W.cG (fun K hK=>?_)
  simp (disch:=omega) [gw,lJ]
  refine aC hE2 ?_
  simp (disch:=omega) [gw,IG,hz]
  refine W.lw [3,5,11,12,13] hK ?_;clear hK K;simp
  refine W.cG (fun K hK=>?_);simp (disch:=omega) [gw]
  refine hK _ ⟨x.length-(i+1),_,aD _ [3,5,11,12,13],by omega,i+1,z.set i ev,v10,_,_,rfl,by simp [lJ],by simp,by omega,by omega,by simp [hz],?_⟩
  rw [kR hv (by omega),hts]
 ·have hi:i=x.length:=by simp at h;omega
  subst hi
  rw [bG hz,List.take_length]at hv
  have rL:=bG hz
  refine fC ?_
  have hzb:PB z:=by
   rw [hv]
   refine⟨fun v hv=>?_,by simpa using by omega⟩
   simp only [List.mem_map]at hv
   obtain⟨w,hw,rfl⟩:=hv
   have h1:=hx.sz w hw
   show sz LL (n8 c w)<1099511627776
   refine Nat.lt_of_le_of_lt (cS fR (y:=w) ?_) (by omega)
   unfold n8;split
   ·exact Int.natAbs_ediv_le_natAbs _ _
   ·simp
  have hN:=gC hzb
  rw [hv]at hN IG rL
  generalize x.map (n8 c)=y at *
  have J1:y.length=x.length:=by rw [←hv];exact hz
  refine W.sr ?_
  simp (disch:=omega) [gw,IG,rL]
  refine cV [4] hN ?_
  exact cR
theorem IH(l:List RP)(K0:Nat)(hK0:K0<1099511627774)(hp:∀p∈l,∀c∈p,b9 4294967296 c.2∧c.2.length≤K0)(hl:l.length<1099511627776)(hf:l.flatten.length<1099511627776) :
  aL env.P 213 [aQ pe l] (I (bH (l.flatten.map gv))):=by
 refine cH [(0,aQ pe l)] Tryz.func213 ?_
 refine aA [0,2] ?_
 refine aA [0,2,3] ?_
 refine W.nil 3 3 38 2 (by simp) (by decide) (fun K hK=>?_)
 refine W.lw [0,2,3] hK ?_;clear hK K;simp
 refine aR [2,3,6,7,8] ?_
 refine W.block ?_
 refine W.bC (fun q σ=>∃(i v3:Nat) (A:RP) (rows:Pm.Rows) (clk:Nat),σ=⟨fa [(2, .ptr 2 0 0 0),(3, .own 3 v3 0 A.length),(6,aQ pe l),(7, .int .i64 l.length),(8, .int .i64 i)],rows,clk⟩ ∧
  rows 2=some ⟨0,38,2,[[.bool false, .nil]]⟩∧rows 3=some ⟨v3,38,2,emap ge A⟩∧q=l.length-i∧i≤l.length∧A=(l.take i).flatten) l.length ?_ ?_
 ·exact⟨_, .refl,0,_,[],_,_,rfl,by simp,by simp [emap],by omega,by omega,by simp⟩
 rintro q _ ⟨i,v3,A,rows,clk,rfl,dY,lJ,hq,hi,hA⟩
 refine cL [2,3,6,7,8,9] ?_
 refine bP ?_ ?_<;>intro h
 ·have hi:i<l.length:=by simp at h;omega
  have hfs:(l.take (i+1)).flatten=(l.take i).flatten++nth l i:=by rw [bA hi];simp
  have hfl:(l.take (i+1)).flatten.length≤l.flatten.length:=by
   have e:=List.take_append_drop (i+1) l
   have e2:l.flatten=(l.take (i+1)).flatten++(l.drop (i+1)).flatten:=by rw [←List.flatten_append,e]
   rw [e2,List.length_append];omega
  have hl2:(l.take i).flatten.length+(nth l i).length<1099511627776:=by
   rw [hfs,List.length_append]at hfl;omega
  have hls:(l.take (i+1)).flatten.length=(l.take i).flatten.length+(nth l i).length:=by rw [hfs,List.length_append]
  rw [←hA]at hfs hl2 hls
  generalize hpe:nth l i=p at *
  refine kK ?_
  refine W.sr ?_
  simp (disch:=omega) [gw,hpe]
  refine bM [2,3,5,6,7,8] ?_
  refine W.cG (fun K hK=>?_)
  simp (disch:=omega) [gw,lJ]
  refine W.lw [2,3,6,7,8] hK ?_;clear hK K;simp
  refine W.cG (fun K hK=>?_);simp (disch:=omega) [gw]
  refine hK _ ⟨l.length-(i+1),_,Gh.fr [(2, .ptr 2 0 0 0),(3, .own 3 _ 0 (A++p).length),(6,aQ pe l),(7, .int .i64 l.length),(8, .int .i64 ((i+1:Nat):Int))] (by simp;exact rfl),by omega,i+1,_,A++p,_,_,rfl,by simp [dY],by simp,by omega,by omega,hfs.symm⟩
 ·have hi:i=l.length:=by simp at h;omega
  subst hi
  rw [List.take_length]at hA
  have hG:=HZ l.flatten K0 hK0 (fun c hc=>by
   obtain⟨p,hpl,hcp⟩:=List.mem_flatten.1 hc
   exact hp p hpl c hcp) hf
  rw [←hA]at hG ⊢
  generalize (bH (A.map gv):Int)=g at *
  refine fC ?_
  refine W.sr ?_
  simp (disch:=omega) [gw,lJ]
  refine aC hG ?_
  simp (disch:=omega) [gw,dY]
  refine bM [2] ?_
  exact cR
theorem jN{x:List Int}(hx:PB x)(hc:Cn x):aL env.P 145 [Po x] (I (lead x)):=by
 have:=HW (x.map qI) hx.A8
 rw [show kM (x.map qI)=aM x by simp only [kM,bT],show aM x=x from hc,←gT]at this
 exact this
theorem j2(x:List Int)(hx:x.length<9223372036854775808):aL env.P 83 [Po x] (.int .i64 ((x.length:Int)-1)):=by
 have:=acC (x.map qI) (by simpa using hx)
 rw [List.length_map,←gT]at this
 exact this
theorem vN{x:List Int}{c:Int}(hx:PB x)(hc:Sz c):aL env.P 181 [Po x,I c] (Po (aX x c)):=by
 have:=L4 (x.map qI) hx.A8 (decide (c<0)) (aY LL c.natAbs) hc.UF
 rw [bT,yS,←gT]at this
 exact this
theorem o6(i:Nat)(x:Int):(List.replicate (i+1) (0:Int)).set i x=n6 i x:=by
 rw [List.replicate_succ',List.set_append]
 simp [n6]
theorem MG(a b:RP){s s' N:Nat}(ha:qJ a)(hb:qJ b)(sa:Bd LL s N (a.map gv))(sb:Bd LL s' N (b.map gv))(hB:s+N*(s'+N+1)+s'+N+N+10<1099511627774) :
  aL env.P 215 [Pg a,Pg b] (if kM b = []then .dX [Po [],Po [], .int .i64 0, .int .i64 2]else .dX [Po (vK (kM a) (kM b)).1,Po (vK (kM a) (kM b)).2, .int .i64 (iH (kM a) (kM b)), .int .i64 0]):=by
 have hA:Bd LL s N (kM a):=sa.cut
 have O4:Bd LL s' N (kM b):=sb.cut
 have ca:Cn (kM a):=Cn.cut _
 have cb:Cn (kM b):=Cn.cut _
 have na:=gI a ha
 have nb:=gI b hb
 rw [show aM (a.map gv)=kM a from rfl]at na
 rw [show aM (b.map gv)=kM b from rfl]at nb
 refine cH [(0,Pg a),(1,Pg b)] Tryz.func215 ?_
 generalize kM a=x at *
 generalize kM b=y at *
 refine aA [0,1,4] ?_
 refine W.R3 4 (Po []) (by simp) rfl (fun K hK=>?_)
 refine W.lw [0,1,4] hK ?_;clear hK K;simp
 refine jM ?_
 refine cX na ?_
 refine cV [1,4,5] nb ?_
 refine aR [1,4,5,18] ?_
 refine bP ?_ ?_<;>intro h
 ·have h:y = []:=by simp at h;exact h
  rw [if_pos h]
  refine aA [4,5,6,7] ?_
  refine W.ret ?_
  simp [go]
  rfl
 have hy:y ≠ []:=by simp at h;exact h
 clear h
 rw [if_neg hy]
 have L5:0<y.length:=List.length_pos_iff.2 hy
 have hNx:=hA.len
 have hNy:=O4.len
 have hsy:=fE O4
 have hmN:N*(s'+N+1)≥0:=Nat.zero_le _
 have hL:=jN (PB.of O4 (by omega) (by omega)) cb
 have hDx:=j2 x (by omega)
 have hDy:=j2 y (by omega)
 refine W.skip ?_
 refine a7 [1,4,5,8] hL ?_
 have hkk:(if (0:Int)<(x.length:Int)-1-((y.length:Int)-1)+1 then(x.length:Int)-1-((y.length:Int)-1)+1 else 0)=(iH x y:Int):=by unfold iH;split<;>omega
 refine jM ?_
 refine cX hDx ?_
 refine aC hDy ?_
 simp (disch:=omega) [gw,hkk]
 refine bM [1,4,5,6,8] ?_
 have hkN:iH x y≤N:=by unfold iH;omega
 have hsl:=hsy
 generalize hdd:s'+N+1=d at *
 have YF:∀j,j≤N→(N-j)*d≤N*d:=fun j _=>Nat.mul_le_mul_right _ (by omega)
 refine aR [1,4,5,6,8,9] ?_
 refine W.block ?_
 refine W.bC (fun j σ=>∃(q r:List Int) (rows:Pm.Rows) (clk:Nat),σ=⟨fa [(1,Po y),(4,Po q),(5,Po r),(6, .int .i64 (iH x y)),(8, .ptr 8 0 0 0),(9, .int .i64 ((j:Int)-1))],rows,clk⟩ ∧
  rows 8=some ⟨0,38,2,[ie (lead y)]⟩∧j≤iH x y∧ps y (lead y) j q r=vK x y∧Bd LL (s+(N-j)*d) (N+N) q∧Bd LL (s+(N-j)*d) (N+N) r∧Cn r) (iH x y) ?_ ?_
 ·exact⟨_, .refl,[],x,_,_,rfl,by simp,by omega,rfl,⟨by simp,fun c hc=>by cases hc⟩,hA.mono (by omega) (by omega),ca⟩
 rintro j _ ⟨q,r,rows,clk,rfl,wO,hj,vO,bq,br,cr⟩
 refine aR [1,4,5,6,8,9,31] ?_
 refine bP ?_ ?_<;>intro h
 ·have hj0:0<j:=by simp at h;omega
  obtain⟨i,rfl⟩:∃i,j=i+1:=⟨j-1,by omega⟩
  clear h
  have ei:((i+1:Nat):Int)-1=i:=by omega
  rw [ei]
  have hN1:=YF (i+1) (by omega)
  have hT:s+(N-i)*d=s+(N-(i+1))*d+s'+N+1:=by
   rw [show N-i=(N-(i+1))+1 by omega,Nat.add_mul,Nat.one_mul];omega
  obtain⟨b1,b2⟩:=yM fR O4 bq br (show i<N by omega)
  rw [←hT]at b1 b2
  have O5:=YF i (by omega)
  have hx:=XC (y:=y) (i:=i) br
  have bs:=Bd.n6 hx i
  have hLr:=jN (PB.of br (by omega) (by omega)) cr
  have hDr:=j2 r (by have:=br.len;omega)
  have bqs:=bq.aX fR hsy
  have brs:=br.aX fR hsy
  have bm:=bs.bJ fR O4
  have f1:=vN (c:=lead y) (PB.of bq (by omega) (by omega)) (show sz LL (lead y)<1099511627776 by omega)
  have f2:=vN (c:=lead y) (PB.of br (by omega) (by omega)) (show sz LL (lead y)<1099511627776 by omega)
  have f3:=SY (PB.of bqs (by omega) (by omega)) (PB.of bs (by omega) (by omega))
  have f4:=uL bs O4 (by omega)
  have f5:=CL (PB.of brs (by omega) (by omega)) (PB.of bm (by omega) (by omega))
  rw [show gB (aX q (lead y)) (n6 i (sX y r i))=psq (lead y) (sX y r i) i q from rfl]at f3
  rw [show eE (aX r (lead y)) (bJ (n6 i (sX y r i)) y)=tW y (lead y) (sX y r i) i r from rfl]at f5
  have cr2:Cn (tW y (lead y) (sX y r i) i r):=Cn.eE _ _
  have hpx:sX y r i=if r.length=y.length+i then lead r else 0:=rfl
  rw [ps]at vO
  generalize hq2:psq (lead y) (sX y r i) i q=q2 at *
  generalize dY:tW y (lead y) (sX y r i) i r=r2 at *
  generalize bJ (n6 i (sX y r i)) y=pm at *
  generalize aX q (lead y)=pq at *
  generalize aX r (lead y)=pr at *
  generalize sX y r i=xx at *
  have YH:=o6 i xx
  have aiz:(n6 i xx).length=i+1:=by simp [n6]
  generalize lead r=lr at *
  generalize lead y=ly at *
  refine kK ?_
  refine aA [1,4,5,6,8,9,10] ?_
  refine W.row (id:=10) (els:=[[.bool false, .nil]]) [ie 0] (by simp;exact⟨rfl,rfl,rfl⟩) ⟨⟨.inl (by simp), .inr ⟨rfl,rfl⟩,trivial⟩,trivial⟩ ?_
  refine W.iF (fun σ=>∃(v10:Nat) (rows:Pm.Rows) (clk:Nat),σ=⟨fa [(1,Po y),(4,Po q),(5,Po r),(6, .int .i64 (iH x y)),(8, .ptr 8 0 0 0),(9, .int .i64 i),(10, .ptr 10 v10 0 0)],rows,clk⟩∧rows 8=some ⟨0,38,2,[ie ly]⟩∧rows 10=some ⟨v10,38,2,[ie xx]⟩) ?_ ?_
  ·
   refine jM ?_
   refine cX hDr ?_
   refine cV [1,4,5,6,8,9,10,40] hDy ?_
   by_cases R7:r.length=y.length+i
   ·rw [if_pos R7]at hpx
    subst hpx
    refine bP ?_ ?_<;>intro h
    ·refine W.cG (fun K hK=>?_)
     simp (disch:=omega) [gw]
     refine cX hLr ?_
     exact hK _ ⟨_,aD _ [1,4,5,6,8,9,10],_,_,_,rfl,by simp [wO],by simp⟩
    ·exfalso;simp at h;omega
   ·rw [if_neg R7]at hpx
    subst hpx
    refine bP ?_ ?_<;>intro h
    ·exfalso;simp at h;omega
    ·refine W.skip ?_
     exact⟨_,aD _ [1,4,5,6,8,9,10],_,_,_,rfl,by simp [wO],by simp⟩
  rintro _ ⟨v10,rows,clk,rfl,wO,IG⟩
  have e9:((i:Int)+1).toNat=i+1:=by omega
  refine W.sr ?_
  simp (disch:=omega) [gw,e9]
  refine bM [1,4,5,6,8,9,10,11] ?_
  refine W.row (id:=45) (emap ie (List.replicate (i+1) 0)) (by simp;exact⟨rfl,rfl,rfl⟩) (oX _) ?_
  refine W.sr ?_
  simp (disch:=omega) [gw,IG,YH]
  refine bM [1,4,5,6,8,9,11] ?_
  have rD:=bG aiz
  refine W.freeze 45 (by simp) (fun K hK=>?_)
  simp [rD]
  refine hK _ ?_;clear hK K
  refine W.sr ?_
  simp (disch:=omega) [gw,wO]
  refine cX f1 ?_
  refine cV [1,4,5,6,8,9,11] f3 ?_
  refine W.cG (fun K hK=>?_)
  simp (disch:=omega) [gw,wO]
  refine cX f2 ?_
  refine cX f4 ?_
  refine cX f5 ?_
  refine W.lw [1,4,5,6,8,9] hK ?_;clear hK K;simp
  refine W.cG (fun K hK=>?_);simp (disch:=omega) [gw]
  refine hK _ ⟨i,_,aD _ [1,4,5,6,8,9],by omega,q2,r2,_,_,rfl,by simp [wO],by omega,vO,b1,b2,cr2⟩
 ·have hj0:j=0:=by simp at h;omega
  subst hj0
  simp only [ps]at vO
  rw [←vO]
  refine fC ?_
  refine aA [4,5,6,7] ?_
  exact cR
def iX(x:List Int):List Int:=aM (x.map (n8 (bH x)))
def II(a b:List Int):List Int:=if iH a b%2=1∧lead b<0 then iX (fK (vK a b).2)else iX (vK a b).2
theorem gD(x:List Int):∀c∈x,((bH x:Nat):Int)∣c:=by
 have key:∀(l:List Int) (g:Nat),(∀c∈l,((l.foldl (fun g c=>Nat.gcd g c.natAbs) g:Nat):Int)∣c)∧l.foldl (fun g c=>Nat.gcd g c.natAbs) g∣g:=by
  intro l
  induction l with
  | nil=>intro g;exact⟨fun c hc=>(by cases hc),Nat.dvd_refl _⟩
  | cons c l ih =>
   intro g
   obtain⟨h1,h2⟩:=ih (Nat.gcd g c.natAbs)
   simp only [List.foldl_cons]
   refine⟨fun d hd=>?_,Nat.dvd_trans h2 (Nat.gcd_dvd_left _ _)⟩
   rcases List.mem_cons.1 hd with rfl | hd
   ·exact Int.ofNat_dvd_left.2 (Nat.dvd_trans h2 (Nat.gcd_dvd_right _ _))
   ·exact h1 d hd
 exact(key x 0).1
theorem IJ{x:List Int}{c:Int}(hc:c∈x)(h:c≠0):bH x≠0:=by
 intro h0
 have:=gD x c hc
 rw [h0]at this
 obtain⟨k,hk⟩:=this
 simp at hk
 exact h hk
theorem bX{x:List Int}(hc:Cn x)(h:x ≠ []):bH x≠0:=by
 have hl:0<x.length:=List.length_pos_iff.2 h
 exact IJ (c:=lead x) (bR (by omega)) (cM hc hl)
theorem O6{x:List Int}{s:Nat}(hx:∀c∈x,sz LL c≤s)(hc:Cn x)(h:x ≠ []):sz LL (bH x:Int)≤s:=by
 have hl:0<x.length:=List.length_pos_iff.2 h
 have hm:lead x∈x:=bR (by omega)
 refine Nat.le_trans (cS fR ?_) (hx _ hm)
 have:=Int.le_of_dvd (a:=(bH x:Int)) (b:=((lead x).natAbs:Int)) (by have:=cM hc hl;omega) (Int.dvd_natAbs.2 (gD x _ hm))
 omega
theorem tE(x:List Int)(hx:PD x):aL env.P 213 [.sl [[Po x]]] (I (bH x)):=by
 have hl:=hx.len
 have:=IH [x.map qI] 1099511627773 (by decide) (fun p hp c hc=>by
  simp only [List.mem_singleton]at hp
  subst hp
  simp only [List.mem_map]at hc
  obtain⟨v,hv,rfl⟩:=hc
  have h1:=hx.sz v hv
  exact⟨eT fR _,by unfold sz at h1;show(aY LL v.natAbs).length≤_;omega⟩) (by simp) (by simp;omega)
 have e:([x.map qI].flatten.map gv)=x:=by simp only [List.flatten_cons,List.flatten_nil,List.append_nil,bT]
 rw [e]at this
 have e2:aQ pe [x.map qI] = .sl [[Po x]]:=by rw [gT];rfl
 rw [e2]at this
 exact this
theorem IK(a b:RP){s s' N:Nat}(ha:qJ a)(hb:qJ b)(sa:Bd LL s N (a.map gv))(sb:Bd LL s' N (b.map gv))(hB:s+N*(s'+N+1)+s'+N+N+10<1099511627774) :
  aL env.P 138 [Pg a,Pg b] (if kM b = []then .dX [Po [], .int .i64 2]else .dX [Po (II (kM a) (kM b)), .int .i64 0]):=by
 have hP:=MG a b ha hb sa sb hB
 have hL:=HW b hb
 have hA:Bd LL s N (kM a):=sa.cut
 have O4:Bd LL s' N (kM b):=sb.cut
 have ca:Cn (kM a):=Cn.cut _
 refine cH [(0,Pg a),(1,Pg b)] Tryz.func138 ?_
 generalize kM a=x at *
 generalize kM b=y at *
 refine aA [0,1] ?_
 by_cases hy:y = []
 ·rw [if_pos hy]at hP ⊢
  refine a7 [1,7,8,9] hP ?_
  refine aR [1,7,8,9,19] ?_
  refine bP ?_ ?_<;>intro h
  ·refine aA [4,5] ?_
   refine W.ret ?_
   simp [go]
   rfl
  ·cases h
 rw [if_neg hy]at hP ⊢
 have L5:0<y.length:=List.length_pos_iff.2 hy
 have hkN:iH x y≤N:=by unfold iH;have:=hA.len;omega
 obtain⟨_,AP⟩:=XD fR O4 (iH x y) s [] x hkN ⟨by simp,fun c hc=>by cases hc⟩ (hA.mono (by omega) (by omega))
 obtain⟨_,cr⟩:=yN (b:=y) ca
 rw [show(ps y (lead y) (iH x y) [] x)=vK x y from rfl]at AP
 have hmul:=Nat.mul_le_mul_right (s'+N+1) hkN
 have XW:=CM (PB.of AP (by omega) (by omega))
 refine a7 [1,7,8,9] hP ?_
 refine aR [1,7,8,9,19] ?_
 refine bP ?_ ?_<;>intro h
 ·cases h
 refine W.skip ?_
 obtain⟨r2,dY⟩:∃r2,r2=if iH x y%2=1∧lead y<0 then fK (vK x y).2 else(vK x y).2:=⟨_,rfl⟩
 have aoO:II x y=iX r2:=by rw [dY,II];split<;>rfl
 have hbr:PD r2:=by
  rw [dY];split
  ·exact PD.of AP.fK (by omega) (by omega)
  ·exact PD.of AP (by omega) (by omega)
 have hcr:Cn r2:=by
  rw [dY];split
  ·exact Cn.fK _
  ·exact cr
 rw [aoO]
 refine W.iF (fun σ=>∃(rows:Pm.Rows) (clk:Nat),σ=⟨fa [(7,Po r2)],rows,clk⟩) ?_ ?_
 ·
  by_cases hk:iH x y%2=1
  ·refine W.fX (fun σ=>∃(rows:Pm.Rows) (clk:Nat),σ=⟨fa [(7,Po (vK x y).2),(28, .bool (decide (lead y<0)))],rows,clk⟩) (fun K hK=>?_) ?_
   ·have u4:(iH x y:Int)%2=1:=by omega
    simp (disch:=omega) [gw,u4]
    refine cX hL ?_
    exact hK _ _ (aD _ [7,28]) ⟨_,_,rfl⟩
   rintro _ ⟨rows,clk,rfl⟩
   refine W.W3 (lead y<0) rfl (fun h=>?_) (fun h=>?_)
   ·rw [if_pos ⟨hk,h⟩]at dY
    subst dY
    refine W.cG (fun K hK=>?_)
    simp (disch:=omega) [gw]
    refine cX XW ?_
    exact hK _ ⟨_,aD _ [7],_,_,rfl⟩
   ·rw [if_neg (fun h2=>h h2.2)]at dY
    subst dY
    refine W.skip ?_
    exact⟨_,aD _ [7],_,_,rfl⟩
  ·rw [if_neg (fun h2=>hk h2.1)]at dY
   subst dY
   refine W.fX (fun σ=>∃(rows:Pm.Rows) (clk:Nat),σ=⟨fa [(7,Po (vK x y).2),(28, .bool false)],rows,clk⟩) (fun K hK=>?_) ?_
   ·have u4:((iH x y:Int)%2==1)=false:=by simp;omega
    simp (disch:=omega) [gw,u4]
    exact hK _ _ (aD _ [7,28]) ⟨_,_,rfl⟩
   rintro _ ⟨rows,clk,rfl⟩
   refine bP ?_ ?_<;>intro h
   ·cases h
   ·refine W.skip ?_
    exact⟨_,aD _ [7],_,_,rfl⟩
 rintro _ ⟨rows,clk,rfl⟩
 clear dY aoO
 refine aR [7,33] ?_
 refine bP ?_ ?_<;>intro h
 ·have h:r2 = []:=by simp at h;exact h
  subst h
  refine aA [4,5] ?_
  refine W.ret ?_
  simp [go]
  rfl
 ·have h:r2 ≠ []:=by simp at h;exact h
  have hC:=tE r2 hbr
  have hgp:=bX hcr h
  have hO:=IF r2 (bH r2) hbr (Nat.lt_of_le_of_lt (O6 (s:=1099511627773) (fun c hc=>by have:=hbr.sz c hc;omega) hcr h) (by decide)) (by omega)
  rw [show aM (r2.map (n8 (bH r2)))=iX r2 from rfl]at hO
  generalize (bH r2:Int)=g at *
  generalize iX r2=pr at *
  refine W.skip ?_
  refine jM ?_
  refine cX hC ?_
  refine cV [4,5] hO ?_
  exact cR
end Go.Proofs.YtiobceocpabjdaaGreat
