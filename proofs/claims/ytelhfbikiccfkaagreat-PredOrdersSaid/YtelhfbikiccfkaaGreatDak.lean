import Derived.Test.YtelhfbikiccfkaaGreatDah
import Derived.Test.YtelhfbikiccfkaaGreatDai
import Derived.Test.YtelhfbikiccfkaaGreatDaj
set_option linter.unusedSimpArgs false
set_option linter.unusedVariables false
namespace Go.Proofs.YtelhfbikiccfkaaGreat
open Go Pm
abbrev Y(x:Int):Prop:=sz 2 x<549755813888
theorem Y.z{x:Int}(h:Y x):Z x:=by simp only [Y,Z]at *;omega
theorem BI{x y:Int}(h:Y y)(rU:x.natAbs≤y.natAbs):Y x:=Nat.lt_of_le_of_lt (cK (by decide) rU) h
theorem BJ{x y:Int}:dQ x y≤0↔x≤y:=by simp only [dQ];split<;>(try split)<;>omega
@[simp] theorem arA{l:List Int}{x:Int}:[PV.int .i64 x]::emap aH l=emap aH (x::l):=by simp [emap]
@[simp] theorem aiH{l:List Int}:(∀e∈emap aH l,∀p∈e,dB p=true)=True:=by simp [emap]
theorem aaV{l:List Int}(h:cW 10000 l)(k:Nat)(hk:k≤l.length):V 10000 (l.drop k)≤V 10000 l:=by
 rw [kX l k hk]
 have h1:=bZ (by decide) (h.take k)
 have h2:=bZ (by decide) (h.drop k)
 have h3:1≤(10000:Int)^k:=Int.pow_pos (by decide)
 have h4:=Int.mul_le_mul_of_nonneg_right h3 h2
 omega
theorem PA(x y:Int)(hx:0≤x)(hy:0<y)(zx:Y x)(zy:Y y):aD env.P 215 [Dn x,Dn y] (.fE [Dn (x/y),Dn (x%y)]):=by
 have hal:(aP DD x.toNat).length<549755813888:=Nat.lt_of_le_of_lt (k8 hx) zx
 have la:=mX x.toNat
 have hVa:=x7 hx
 refine b6 [(0,Dn x),(1,Dn y)] Tryz.func215 ?_
 simp only [Dn]
 generalize ha:aP DD x.toNat=a at *
 refine aA [0,1] ?_
 refine aA [0,1,6] ?_
 refine aA [0,1,6,7] ?_
 refine W.KS 7 (Dn 0) (by simp) rfl (fun K hK=>?_)
 refine W.lw [0,1,6,7] hK ?_;clear hK K;simp
 refine aM [0,1,6,7,8] ?_
 refine W.block ?_
 refine W.bE (fun k σ=>∃(r:Int) (z:List Int) (ver:Nat) (rows:Pm.Rows) (clk:Nat),σ=⟨fa [(0,aG aH a),(1,Dn y),(6, .own 14 ver 0 a.length),(7,Dn r),(8, .int .i64 ((k:Int)-1))],rows,clk⟩ ∧
  rows 14=some ⟨ver,3,1,emap aH z⟩∧k≤a.length∧z.length=a.length∧cW 10000 z∧0≤r∧r<y∧V 10000 (a.drop k)=y*V 10000 (z.drop k)+r) a.length ?_ ?_
 ·exact⟨_,Gh.fr [(0,aG aH a),(1,Dn y),(6, .own 14 0 0 a.length),(7,Dn 0),(8, .int .i64 ((a.length:Int)-1))] (by simp),0,List.replicate a.length 0,_,_,_,rfl,by simp,by omega,by simp,cW.rep (by decide) _,by omega,hy,by simp [V]⟩
 rintro k _ ⟨r,z,ver,rows,clk,rfl,hr,hk,hz,lz,MZ,uJ,hV⟩
 refine aM [0,1,6,7,8,19] ?_
 refine bF ?_ ?_<;>intro h
 ·simp at h
  obtain⟨j,rfl⟩:∃j,k=j+1:=⟨k-1,by omega⟩
  clear h
  have hxj:=la.nth (i:=j) (by omega)
  have hVz:=bZ (by decide) (lz.drop (j+1))
  have hyV:=Int.mul_nonneg (Int.le_of_lt hy) hVz
  have hR:V 10000 (a.drop j)=y*(10000*V 10000 (z.drop (j+1)))+(nth a j+10000*r):=by
   rw [fP (l:=a) (i:=j) (by omega)];simp only [V];rw [hV];grind
  have hRx:nth a j+10000*r≤x:=by
   have h1:=aaV la j (by omega)
   have h2:0≤y*(10000*V 10000 (z.drop (j+1))):=Int.mul_nonneg (Int.le_of_lt hy) (by omega)
   omega
  have R8:(aP DD r.toNat).length<549755813888:=Nat.lt_of_le_of_lt (k8 MZ) (BI zy (by omega))
  have q9:aG aH (aL (nth a j::aP DD r.toNat))=Dn (nth a j+10000*r):=by
   rw [wK (cW.cons.2 ⟨hxj,mX _⟩)]
   simp only [V,x7 MZ]
  refine jV ?_
  refine iM ?_
  refine aB (p9 (nth a j::aP DD r.toNat) (by simp;omega)) ?_
  rw [q9]
  have NK:0≤nth a j+10000*r:=by omega
  have hR1:nth a j+10000*r<y*10000:=by omega
  have zR:Y (nth a j+10000*r):=BI zx (by omega)
  generalize nth a j+10000*r=R at *
  simp (disch:=omega) [gw]
  refine bN [0,1,6,7,8] ?_
  refine cB [0,1,6,7,8,9,10] ?_
  refine W.block ?_
  refine W.bE (fun m σ=>∃(lo hi:Int),σ=⟨fa [(0,aG aH a),(1,Dn y),(6, .own 14 ver 0 a.length),(7,Dn R),(8, .int .i64 (j:Int)),(9, .int .i64 lo),(10, .int .i64 hi)],rows,clk⟩ ∧
   m=(hi-lo).toNat∧0≤lo∧lo≤hi∧hi≤9999∧y*lo≤R∧R<y*(hi+1)) 9999 ?_ ?_
  ·exact⟨_,Gh.fr [(0,aG aH a),(1,Dn y),(6, .own 14 ver 0 a.length),(7,Dn R),(8, .int .i64 (j:Int)),(9, .int .i64 0),(10, .int .i64 9999)] (by simp),0,9999,rfl,by decide,by omega,by omega,by omega,by omega,by omega⟩
  rintro m _ ⟨lo,hi,rfl,hm,GR,hlh,RY,h1,h2⟩
  refine aM [0,1,6,7,8,9,10,32] ?_
  refine bF ?_ ?_<;>intro h
  ·simp at h
   refine W.skip ?_
   refine W.block ?_
   refine aA [0,1,6,7,8,9,10,11] ?_
   have IE:lo<(lo+hi+1)/2:=by omega
   have hm2:(lo+hi+1)/2≤hi:=by omega
   generalize (lo+hi+1)/2=GK at *
   have hp:0≤y*GK:=Int.mul_nonneg (by omega) (by omega)
   have zp:Z (y*GK):=by
    have h3:sz 2 GK≤14:=cQ (by decide) (by simp;omega)
    have h4:=cO (b:=2) (by decide) (Nat.le_refl (sz 2 y)) h3
    simp only [Z,Y]at *;omega
   have hma:=mP y GK 0 (by omega) zy.z (by omega) (by omega) (by decide) (by decide)
   rw [Int.add_zero]at hma
   refine iM ?_
   refine bW hma ?_
   refine bU [0,1,6,7,8,9,10,11,43] (O7 (y*GK) R hp NK zp zR.z) ?_
   refine bF ?_ ?_<;>intro h
   ·have h:=BJ.1 (of_decide_eq_true h)
    refine W.cE (fun K hK=>?_);simp (disch:=omega) [gw]
    exact hK _ ⟨(hi-GK).toNat,_,aC _ [0,1,6,7,8,9,10],by omega,GK,hi,rfl,rfl,by omega,by omega,by omega,h,h2⟩
   ·have h:=of_decide_eq_false h
    rw [BJ]at h
    refine W.cE (fun K hK=>?_);simp (disch:=omega) [gw]
    refine hK _ ⟨(GK-1-lo).toNat,_,aC _ [0,1,6,7,8,9,10],by omega,lo,GK-1,rfl,rfl,by omega,by omega,by omega,h1,?_⟩
    rw [show GK-1+1=GK by omega];omega
  ·simp at h
   have az8:lo=hi:=by omega
   subst az8
   have hp:0≤y*lo:=Int.mul_nonneg (by omega) (by omega)
   have zp:Y (y*lo):=BI zR (by omega)
   have hma:=mP y lo 0 (by omega) zy.z (by omega) (by omega) (by decide) (by decide)
   rw [Int.add_zero]at hma
   refine eV ?_
   refine W.sr ?_
   simp (disch:=omega) [gw,hr]
   refine bN [0,1,6,7,8,9] ?_
   refine W.cE (fun K hK=>?_)
   simp (disch:=omega) [gw]
   refine bW hma ?_
   refine bW (E1 R (y*lo) hp h1 zR.z) ?_
   refine W.lw [0,1,6,7,8] hK ?_;clear hK K;simp
   refine W.cE (fun K hK=>?_);simp (disch:=omega) [gw]
   refine hK _ ⟨j,_,aC _ [0,1,6,7,8],by omega,R-y*lo,z.set j lo,ver,_,_,rfl,by simp,by omega,by simpa using hz,lz.set (by omega),by omega,by rw [Int.mul_add]at h2;omega,?_⟩
   rw [hR,fP (l:=z.set j lo) (i:=j) (by simp;omega),fG (by omega),List.drop_set_of_lt (by omega)]
   simp only [V]
   grind
 ·simp at h
  have zI:k=0:=by omega
  subst zI
  simp only [List.drop_zero]at hV
  have ez:z.take a.length=z:=bQ hz
  have hzn:=bZ (by decide) lz
  rw [hVa]at hV
  have e1:x/y=V 10000 z:=by
   rw [hV,Int.mul_add_ediv_left _ _ (by omega),Int.ediv_eq_zero_of_lt MZ uJ];simp
  have e2:x%y=r:=by
   rw [hV,Int.mul_add_emod_self_left,Int.emod_eq_of_lt MZ uJ]
  refine eV ?_
  refine W.sr ?_
  simp (disch:=omega) [gw,hr,ez]
  refine aB (p9 z (by omega)) ?_
  simp (disch:=omega) [gw]
  refine bN [4,5] ?_
  refine W.ret ?_
  have h4:=wK lz
  simp only [Dn]at h4
  rw [e1,e2,←h4]
  simp [go]
theorem x8(a b:Int)(za:Y a)(zb:Y b):aD env.P 142 [RI a,RI b] (RI (Int.gcd a b)):=by
 refine b6 [(0,RI a),(1,RI b)] Tryz.func142 ?_
 refine aA [2,3,4] ?_
 refine iQ ?_
 refine bN [4,5,6] ?_
 refine W.seq ?_
 refine W.block ?_
 refine W.bE (fun k σ=>∃(x:Nat) (rows:Pm.Rows) (clk:Nat),σ=⟨fa [(4, .ptr 4 2 0 0),(5,aG aH (aP DD x)),(6,aG aH (aP DD k))],rows,clk⟩∧rows 4=some ⟨2,29,2,[[.nil, .bool false]]⟩∧Nat.gcd x k=Int.gcd a b∧Y (x:Int)∧Y (k:Int)) b.natAbs ?_ ?_
 ·exact⟨_, .refl,a.natAbs,_,_,rfl,by simp,rfl,by simpa [Y,sz]using za,by simpa [Y,sz]using zb⟩
 rintro k _ ⟨x,rows,clk,rfl,fM,hg,zx,zk⟩
 have e0:(aP DD k).length=0↔k=0:=by rw [List.length_eq_zero_iff,eZ SC]
 refine aM [4,5,6,15] ?_
 refine bF ?_ ?_<;>intro h
 ·have zI:k≠0:=by intro h0;have h1:=e0.2 h0;simp at h;omega
  have hdiv:=PA (x:Int) (k:Int) (by omega) (by omega) zx zk
  have em:(((x:Int)%k).toNat)=x%k:=by rw [←Int.natCast_emod];exact Int.toNat_natCast _
  have ed:(((x:Int)/k).toNat)=x/k:=by rw [←Int.natCast_ediv];exact Int.toNat_natCast _
  simp only [Dn,em,ed,Int.toNat_natCast]at hdiv
  have c8:=Nat.mod_lt x (show k>0 by omega)
  have pV:Nat.gcd k (x%k)=Int.gcd a b:=by rw [←hg,Nat.gcd_comm x k,Nat.gcd_rec k x,Nat.gcd_comm]
  have zm:Y ((x%k:Nat):Int):=BI zk (by simp only [Int.natAbs_natCast];omega)
  refine W.skip ?_
  refine W.block ?_
  refine iM ?_
  refine aB hdiv ?_
  generalize x%k=y at *
  simp (disch:=omega) [gw]
  refine bN [4,6,8] ?_
  refine W.cE (fun K hK=>?_);simp (disch:=omega) [gw]
  exact hK _ ⟨y,_,aC _ [4,5,6],c8,k,_,_,rfl,by simp [fM],pV,zk,zm⟩
 ·have zI:k=0:=by rw [←e0];simp at h;simp [h]
  subst zI
  rw [Nat.gcd_zero_right]at hg
  subst hg
  refine eV ?_
  refine W.sr ?_
  simp (disch:=omega) [gw,fM]
  refine bN [4] ?_
  exact b7
theorem UM(a b:Int):(if decide (a<0) != decide (b<0)then -((a.natAbs/b.natAbs:Nat):Int)else((a.natAbs/b.natAbs:Nat):Int))=a.tdiv b:=by
 have h:∀x y:Nat,((x/y:Nat):Int)=(x:Int).tdiv y:=fun x y=>by rw [Int.natCast_ediv,Int.tdiv_eq_ediv_of_nonneg (by omega)]
 rw [h]
 by_cases h1:a<0<;>by_cases h2:b<0
 ·simp only [h1,h2,show(a.natAbs:Int) = -a by omega,show(b.natAbs:Int) = -b by omega];simp
 ·simp only [h1,h2,show(a.natAbs:Int) = -a by omega,show(b.natAbs:Int)=b by omega];simp
 ·simp only [h1,h2,show(a.natAbs:Int)=a by omega,show(b.natAbs:Int) = -b by omega];simp
 ·simp only [h1,h2,show(a.natAbs:Int)=a by omega,show(b.natAbs:Int)=b by omega];simp
theorem tK(a b:Int)(hb:b≠0)(za:Y a)(zb:Y b):aD env.P 143 [RI a,RI b] (RI (a.tdiv b)):=by
 have hdiv:=PA (a.natAbs:Int) (b.natAbs:Int) (by omega) (by omega) (by simpa [Y,sz]using za) (by simpa [Y,sz]using zb)
 have em:(((a.natAbs:Int)%b.natAbs).toNat)=a.natAbs%b.natAbs:=by rw [←Int.natCast_emod];exact Int.toNat_natCast _
 have ed:(((a.natAbs:Int)/b.natAbs).toNat)=a.natAbs/b.natAbs:=by rw [←Int.natCast_ediv];exact Int.toNat_natCast _
 have hs:=UM a b
 refine b6 [(0,RI a),(1,RI b)] Tryz.func143 ?_
 refine aA [2,3,4] ?_
 simp only [Dn,em,ed,Int.toNat_natCast]at hdiv
 generalize a.natAbs/b.natAbs=q at *
 generalize a.natAbs%b.natAbs=r at *
 refine aJ [2,3,4,5] hdiv ?_
 refine iM ?_
 refine aB (oD q (decide (a<0) != decide (b<0))) ?_
 rw [hs]
 simp (disch:=omega) [gw]
 refine bN [4] ?_
 exact b7
def re(q:Rat):List PV:=[aG aH (aP DD q.num.natAbs), .bool (decide (q.num<0)),aG aH (aP DD q.den), .bool false]
@[simp] theorem az9{q:Rat}:re q = [aG aH (aP DD q.num.natAbs), .bool (decide (q.num<0)),aG aH (aP DD q.den), .bool false]:=rfl
abbrev RR(q:Rat):PV:=.ag (re q)
def dR(n d:Int):Rat:=if d=0 then n else Rat.divInt n d
theorem mJ(n:Int):dR n 1=n:=by
 rw [dR,if_neg (by decide),Rat.divInt_eq_div]
 grind
structure ZR(k:Nat)(q:Rat):Prop where
 n:sz 2 q.num≤k
 d:sz 2 (q.den:Int)≤k
abbrev YY:Nat:=137438953472
theorem rB(n d:Int)(hd:d≠0):(dR n d).num=(if d<0 then -n else n)/(Int.gcd (if d<0 then -n else n) (if d<0 then -d else d)):=by
 rw [dR,if_neg hd,Rat.num_divInt]
 by_cases h:d<0
 ·simp only [h,if_true]
  rw [Int.sign_eq_neg_one_of_neg h,Int.gcd_comm d n,Int.neg_gcd,Int.gcd_neg];simp
 ·simp only [h,if_false]
  rw [Int.sign_eq_one_of_pos (by omega),Int.gcd_comm d n];simp
theorem rC(n d:Int)(hd:d≠0):((dR n d).den:Int)=(if d<0 then -d else d)/(Int.gcd (if d<0 then -n else n) (if d<0 then -d else d)):=by
 rw [dR,if_neg hd,Rat.den_divInt,if_neg hd]
 by_cases h:d<0
 ·simp only [h,if_true]
  rw [Int.gcd_comm d n,Int.neg_gcd,Int.gcd_neg]
  rw [Int.natCast_ediv];congr 1;omega
 ·simp only [h,if_false]
  rw [Int.gcd_comm d n,Int.natCast_ediv];congr 1;omega
theorem E3{q:Rat}{n d:Int}(h1:q.num=n)(h2:(q.den:Int)=d):RR q = .ag [aG aH (aP DD n.natAbs), .bool (decide (n<0)),aG aH (aP DD d.natAbs), .bool (decide (d<0))]:=by
 subst h1;subst h2
 have:¬((q.den:Int)<0):=by omega
 simp [this]
theorem jJ(n d:Int)(zn:Y n)(zd:Y d):aD env.P 64 [RI n,RI d] (RR (dR n d)):=by
 refine dH (E:=env) (fun id=>if id=4 then 2 else 0) [(0,RI n),(1,RI d)] Tryz.func64 rfl (by kernel_rfl) (by kernel_rfl) (show 2≤39 by decide) (by simp) ?_
 refine aA [2,3,4] ?_
 refine W.gJ (fun σ=>∃(d1:Int) (rows:Pm.Rows) (clk:Nat),σ=⟨fa [(2, .ptr 2 0 0 0),(3, .ptr 3 1 0 0),(4, .ptr 4 2 0 0)],rows,clk⟩∧rows 2=some ⟨0,29,2,[[aG aH (aP DD n.natAbs), .bool (decide (n<0))]]⟩ ∧
  rows 3=some ⟨1,29,2,[[aG aH (aP DD d1.natAbs), .bool (decide (d1<0))]]⟩∧rows 4=some ⟨2,31,4,[[.nil, .bool false, .nil, .bool false]]⟩∧d1≠0∧dR n d=dR n d1∧Y d1) ?_ ?_
 ·
  refine aJ [2,3,4,7] (zZ d) ?_
  refine bF ?_ ?_<;>intro h
  ·have h:=of_decide_eq_true h
   subst h
   refine W.cE (fun K hK=>?_)
   simp (disch:=omega) [gw]
   refine aB (i0 1 (by decide) (by decide)) ?_
   simp (disch:=omega) [gw]
   refine hK _ ⟨_,aC _ [2,3,4],1,_,_,rfl,by simp,by simp,by simp,by decide,by rw [mJ];simp [dR],?_⟩
   have:sz 2 1≤1:=cQ (by decide) (by decide)
   simp only [Y];omega
  ·have h:=of_decide_eq_false h
   refine W.skip ?_
   exact⟨_,aC _ [2,3,4],d,_,_,rfl,by simp,by simp,by simp,h,rfl,zd⟩
 rintro _ ⟨d1,rows,clk,rfl,cC,cM,fM,K5,hq,zd1⟩
 rw [hq]
 have q1:=rB n d1 K5
 have q2:=rC n d1 K5
 generalize dR n d1=q at *
 clear hq zd d
 refine W.gJ (fun σ=>∃(n2 d2:Int) (rows:Pm.Rows) (clk:Nat),σ=⟨fa [(2, .ptr 2 0 0 0),(3, .ptr 3 1 0 0),(4, .ptr 4 2 0 0)],rows,clk⟩∧rows 2=some ⟨0,29,2,[[aG aH (aP DD n2.natAbs), .bool (decide (n2<0))]]⟩ ∧
  rows 3=some ⟨1,29,2,[[aG aH (aP DD d2.natAbs), .bool (decide (d2<0))]]⟩∧rows 4=some ⟨2,31,4,[[.nil, .bool false, .nil, .bool false]]⟩∧0<d2∧q.num=n2/Int.gcd n2 d2∧(q.den:Int)=d2/Int.gcd n2 d2∧Y n2∧Y d2) ?_ ?_
 ·
  refine W.sr ?_
  simp (disch:=omega) [gw,cM]
  refine bN [2,3,4,10] ?_
  refine bF ?_ ?_<;>intro h
  ·have h:=of_decide_eq_true h
   simp only [h,if_true]at q1 q2
   have hn:=tJ n
   have hd:=tJ d1
   have zn2:Y (-n):=by simpa [Y,pK]using zn
   have zd2:Y (-d1):=by simpa [Y,pK]using zd1
   obtain⟨n2,hn2⟩:∃m,m = -n:=⟨_,rfl⟩
   obtain⟨d2,M0⟩:∃m,m = -d1:=⟨_,rfl⟩
   rw [←hn2]at hn zn2 q1 q2
   rw [←M0]at hd zd2 q1 q2
   refine W.H7 (fun K hK=>?_)
   rw [if_pos rfl,fF]
   simp (disch:=omega) [gw,cC]
   refine aB hn ?_
   simp (disch:=omega) [gw,cC,cM]
   refine aB hd ?_
   simp (disch:=omega) [gw,cC,cM]
   exact hK _ ⟨_,aC _ [2,3,4],n2,d2,_,_,rfl,by simp,by simp,by simp [fM],by omega,q1,q2,zn2,zd2⟩
  ·have h:=of_decide_eq_false h
   simp only [h,if_false]at q1 q2
   refine W.skip ?_
   exact⟨_,aC _ [2,3,4],n,d1,_,_,rfl,cC,cM,fM,by omega,q1,q2,zn,zd1⟩
 clear cC cM fM q1 q2
 rintro _ ⟨n2,d2,rows,clk,rfl,cC,cM,fM,h0,q1,q2,zn2,zd2⟩
 refine W.seq ?_
 refine W.fY (fun σ=>∃(b:Bool),σ=⟨fa [(2, .ptr 2 0 0 0),(3, .ptr 3 1 0 0),(4, .ptr 4 2 0 0),(25, .bool b)],rows,clk⟩∧(b=true↔(aP DD d2.natAbs).length=1∧nth (aP DD d2.natAbs) 0=1)) (fun K hK=>?_) ?_
 ·by_cases h1:(aP DD d2.natAbs).length=1
  ·have h2:((aP DD d2.natAbs).length:Int)=1:=by omega
   simp (disch:=omega) [gw,cM,h1,h2]
   exact hK _ _ (aC _ [2,3,4,25]) ⟨_,rfl,by simp [h1]⟩
  ·have h2:¬((aP DD d2.natAbs).length:Int)=1:=by omega
   have h3:(((aP DD d2.natAbs).length:Int)==1)=false:=by simpa using h2
   simp (disch:=omega) [gw,cM,h3]
   exact hK _ _ (aC _ [2,3,4,25]) ⟨_,rfl,by simp [h1,h2]⟩
 rintro _ ⟨b,rfl,hb⟩
 refine bF ?_ ?_<;>intro h
 ·have hb:=hb.1 h
  have M0:d2=1:=by
   have hv:=auI d2
   obtain⟨h1,h2⟩:=hb
   match hl:aP DD d2.natAbs,h1 with
   | [x],_ =>
    rw [hl]at h2 hv
    simp [nth,V]at h2 hv
    omega
  subst M0
  rw [Int.gcd_one]at q1 q2
  rw [E3 (n:=n2) (d:=1) (by simpa using q1) (by simpa using q2)]
  refine W.sr ?_
  simp (disch:=omega) [gw,cC,cM,fM]
  refine bN [4] ?_
  exact b7
 ·refine W.skip ?_
  have hgp:0<Int.gcd n2 d2:=Int.gcd_pos_of_ne_zero_right _ (by omega)
  have e1:n2.tdiv (Int.gcd n2 d2)=q.num:=by rw [q1];exact Int.tdiv_eq_ediv_of_dvd (Int.gcd_dvd_left ..)
  have e2:d2.tdiv (Int.gcd n2 d2)=q.den:=by rw [q2];exact Int.tdiv_eq_ediv_of_dvd (Int.gcd_dvd_right ..)
  have zg:Y (Int.gcd n2 d2:Int):=BI zd2 (by
   have:=Int.le_of_dvd h0 (Int.gcd_dvd_right n2 d2);omega)
  have hq1:=tK n2 (Int.gcd n2 d2) (by omega) zn2 zg
  have hq2:=tK d2 (Int.gcd n2 d2) (by omega) zd2 zg
  rw [e1]at hq1
  rw [e2]at hq2
  have hg:=x8 n2 d2 zn2 zd2
  obtain⟨g,hgd⟩:∃g:Int,g=Int.gcd n2 d2:=⟨_,rfl⟩
  rw [←hgd]at hg hq1 hq2
  have OX:¬((q.den:Int)<0):=by omega
  refine W.sr ?_
  simp (disch:=omega) [gw,cC,cM]
  refine aB hg ?_
  simp (disch:=omega) [gw,cC,cM]
  refine bN [2,3,4,5] ?_
  refine W.sd ?_
  simp (disch:=omega) [gw,cC,cM]
  refine aB hq1 ?_
  simp (disch:=omega) [gw,cC,cM]
  refine aB hq2 ?_
  simp (disch:=omega) [gw,cC,cM,fM]
  refine bN [4] ?_
  refine W.ret ?_
  simp [go,OX]
theorem rD(n d:Int)(h1 : -9223372036854775808≤n∧n<9223372036854775808)(h2 : -9223372036854775808≤d∧d<9223372036854775808):aD env.P 13 [.int .i64 n, .int .i64 d] (RR (dR n d)):=by
 have z:∀x:Int, -9223372036854775808≤x∧x<9223372036854775808→Y x:=fun x hx=>by
  have:sz 2 x≤64:=cQ (by decide) (by omega)
  simp only [Y];omega
 have hm:=jJ n d (z n h1) (z d h2)
 generalize dR n d=q at *
 refine b6 [(0, .int .i64 n),(1, .int .i64 d)] Tryz.func13 ?_
 refine aA [0,1,4] ?_
 refine iM ?_
 refine bW (i0 n h1.1 h1.2) ?_
 refine bW (i0 d h2.1 h2.2) ?_
 refine bU [4] hm ?_
 exact b7
theorem E4(q:Rat):aD env.P 125 [RR q] (RR (-q)):=by
 have hn:=tJ q.num
 have e:RR (-q) = .ag [aG aH (aP DD (-q.num).natAbs), .bool (decide (-q.num<0)),aG aH (aP DD q.den), .bool false]:=rfl
 rw [e]
 generalize -q.num=m at *
 refine b6 [(0,RR q)] Tryz.func125 ?_
 refine aA [1,2] ?_
 refine iQ ?_
 refine bU [2] hn ?_
 exact b7
theorem aiI(p q:Rat):dR (p.num*q.den+q.num*p.den) ((p.den:Int)*q.den)=p+q:=by
 have h:((p.den:Int)*q.den)≠0:=by have:=p.den_nz;have:=q.den_nz;simp [Int.mul_eq_zero];omega
 rw [dR,if_neg h,Rat.add_def',←Int.natCast_mul,Rat.divInt_ofNat]
theorem aiJ(p q:Rat):dR (p.num*q.num) ((p.den:Int)*q.den)=p*q:=by
 have h:((p.den:Int)*q.den)≠0:=by have:=p.den_nz;have:=q.den_nz;simp [Int.mul_eq_zero];omega
 rw [dR,if_neg h,Rat.mul_def',←Int.natCast_mul,Rat.divInt_ofNat]
theorem aiK(p q:Rat)(hq:q≠0):dR (p.num*q.den) ((p.den:Int)*q.num)=p/q:=by
 have hn:q.num≠0:=fun h=>hq (Rat.num_eq_zero.1 h)
 have h:((p.den:Int)*q.num)≠0:=by have:=p.den_nz;exact Int.mul_ne_zero (by omega) hn
 rw [dR,if_neg h,Rat.div_def,Rat.inv_def,←Rat.divInt_mul_divInt,Rat.num_divInt_den]
theorem x9(p q:Rat)(hp:ZR YY p)(hq:ZR YY q):aD env.P 100 [RR p,RR q] (RR (p+q)):=by
 have s1:=cO (b:=2) (by decide) hp.n hq.d
 have s2:=cO (b:=2) (by decide) hq.n hp.d
 have s3:=cO (b:=2) (by decide) hp.d hq.d
 have s4:=n9 (b:=2) (by decide) s1 s2
 have zz:∀ {x:Int},sz 2 x≤YY→Z x:=fun h=>by simp only [Z,YY]at *;omega
 have m1:=eT p.num q.den (zz hp.n) (zz hq.d)
 have m2:=eT q.num p.den (zz hq.n) (zz hp.d)
 have m3:=eT p.den q.den (zz hp.d) (zz hq.d)
 have m4:=E2 (p.num*q.den) (q.num*p.den) (by simp only [Z,YY]at *;omega) (by simp only [Z,YY]at *;omega)
 have m5:=jJ (p.num*q.den+q.num*p.den) ((p.den:Int)*q.den) (by simp only [Y,YY]at *;omega) (by simp only [Y,YY]at *;omega)
 rw [aiI]at m5
 generalize p.num*q.den+q.num*p.den=x5 at *
 generalize p.num*q.den=x1 at *
 generalize q.num*(p.den:Int)=x2 at *
 generalize (p.den:Int)*q.den=x3 at *
 generalize hr:p+q=r at *
 have d1:RR p = .ag [aG aH (aP DD p.num.natAbs), .bool (decide (p.num<0)),aG aH (aP DD (p.den:Int).natAbs), .bool (decide ((p.den:Int)<0))]:=E3 rfl rfl
 have d2:RR q = .ag [aG aH (aP DD q.num.natAbs), .bool (decide (q.num<0)),aG aH (aP DD (q.den:Int).natAbs), .bool (decide ((q.den:Int)<0))]:=E3 rfl rfl
 rw [d1,d2]
 generalize (p.den:Int)=pd at *
 generalize (q.den:Int)=qd at *
 generalize p.num=pn at *
 generalize q.num=qn at *
 refine b6 [(0, .ag [aG aH (aP DD pn.natAbs), .bool (decide (pn<0)),aG aH (aP DD pd.natAbs), .bool (decide (pd<0))]),(1, .ag [aG aH (aP DD qn.natAbs), .bool (decide (qn<0)),aG aH (aP DD qd.natAbs), .bool (decide (qd<0))])] Tryz.func100 ?_
 refine aA [2,3,4] ?_
 refine iQ ?_
 refine bW m1 ?_
 refine bW m2 ?_
 refine bW m4 ?_
 refine bW m3 ?_
 refine bU [4] m5 ?_
 exact b7
theorem E5(p q:Rat)(hp:ZR YY p)(hq:ZR YY q):aD env.P 101 [RR p,RR q] (RR (p*q)):=by
 have s1:=cO (b:=2) (by decide) hp.n hq.n
 have s2:=cO (b:=2) (by decide) hp.d hq.d
 have zz:∀ {x:Int},sz 2 x≤YY→Z x:=fun h=>by simp only [Z,YY]at *;omega
 have m1:=eT p.num q.num (zz hp.n) (zz hq.n)
 have m2:=eT p.den q.den (zz hp.d) (zz hq.d)
 have m5:=jJ (p.num*q.num) ((p.den:Int)*q.den) (by simp only [Y,YY]at *;omega) (by simp only [Y,YY]at *;omega)
 rw [aiJ]at m5
 generalize p.num*(q.num:Int)=x1 at *
 generalize (p.den:Int)*q.den=x2 at *
 generalize hr:p*q=r at *
 have d1:RR p = .ag [aG aH (aP DD p.num.natAbs), .bool (decide (p.num<0)),aG aH (aP DD (p.den:Int).natAbs), .bool (decide ((p.den:Int)<0))]:=E3 rfl rfl
 have d2:RR q = .ag [aG aH (aP DD q.num.natAbs), .bool (decide (q.num<0)),aG aH (aP DD (q.den:Int).natAbs), .bool (decide ((q.den:Int)<0))]:=E3 rfl rfl
 rw [d1,d2]
 generalize (p.den:Int)=pd at *
 generalize (q.den:Int)=qd at *
 generalize p.num=pn at *
 generalize q.num=qn at *
 refine b6 [(0, .ag [aG aH (aP DD pn.natAbs), .bool (decide (pn<0)),aG aH (aP DD pd.natAbs), .bool (decide (pd<0))]),(1, .ag [aG aH (aP DD qn.natAbs), .bool (decide (qn<0)),aG aH (aP DD qd.natAbs), .bool (decide (qd<0))])] Tryz.func101 ?_
 refine aA [2,3,4] ?_
 refine iQ ?_
 refine bW m1 ?_
 refine bW m2 ?_
 refine bU [4] m5 ?_
 exact b7
theorem E6(p q:Rat)(hp:ZR YY p)(hq:ZR YY q)(h0:q≠0):aD env.P 231 [RR p,RR q] (RR (p/q)):=by
 have s1:=cO (b:=2) (by decide) hp.n hq.d
 have s2:=cO (b:=2) (by decide) hp.d hq.n
 have zz:∀ {x:Int},sz 2 x≤YY→Z x:=fun h=>by simp only [Z,YY]at *;omega
 have m1:=eT p.num q.den (zz hp.n) (zz hq.d)
 have m2:=eT p.den q.num (zz hp.d) (zz hq.n)
 have m5:=jJ (p.num*q.den) ((p.den:Int)*q.num) (by simp only [Y,YY]at *;omega) (by simp only [Y,YY]at *;omega)
 rw [aiK p q h0]at m5
 generalize p.num*(q.den:Int)=x1 at *
 generalize (p.den:Int)*q.num=x2 at *
 generalize hr:p/q=r at *
 have d1:RR p = .ag [aG aH (aP DD p.num.natAbs), .bool (decide (p.num<0)),aG aH (aP DD (p.den:Int).natAbs), .bool (decide ((p.den:Int)<0))]:=E3 rfl rfl
 have d2:RR q = .ag [aG aH (aP DD q.num.natAbs), .bool (decide (q.num<0)),aG aH (aP DD (q.den:Int).natAbs), .bool (decide ((q.den:Int)<0))]:=E3 rfl rfl
 rw [d1,d2]
 generalize (p.den:Int)=pd at *
 generalize (q.den:Int)=qd at *
 generalize p.num=pn at *
 generalize q.num=qn at *
 refine b6 [(0, .ag [aG aH (aP DD pn.natAbs), .bool (decide (pn<0)),aG aH (aP DD pd.natAbs), .bool (decide (pd<0))]),(1, .ag [aG aH (aP DD qn.natAbs), .bool (decide (qn<0)),aG aH (aP DD qd.natAbs), .bool (decide (qd<0))])] Tryz.func231 ?_
 refine aA [2,3,4] ?_
 refine iQ ?_
 refine bW m1 ?_
 refine bW m2 ?_
 refine bU [4] m5 ?_
 exact b7
theorem PC:aD env.P 99 [] (RR 0):=by
 have h:=rD 0 1 (by decide) (by decide)
 rw [mJ]at h
 refine b6 [] Tryz.func99 ?_
 refine aA [0] ?_
 refine aJ [0] h ?_
 exact b7
def oR:List Rat→List Rat
 | []=>[]
 | x::l=>if oR l = []∧x=0 then []else x::oR l
theorem IK:∀l:List Rat,oR (l ++ [0])=oR l
 | []=>by simp [oR]
 | x::l=>by simp [oR,IK l]
theorem XS{x:Rat}(h:x≠0):∀l:List Rat,oR (l ++ [x])=l ++ [x]
 | []=>by
  show oR [x] = [x]
  rw [oR,if_neg (fun hh=>h hh.2)];rfl
 | y::l=>by
  have ih:=XS h l
  have hn:¬(l ++ [x] = []∧y=0):=by simp
  show oR (y::(l ++ [x]))=y::(l ++ [x])
  rw [oR,ih,if_neg hn]
abbrev qs(x:List Int):List Rat:=x.map fun(c:Int)=>(c:Rat)
theorem yA:∀x:List Int,oR (qs x)=qs (aL x)
 | []=>rfl
 | a::x=>by
  have ih:=yA x
  simp only [qs,List.map_cons]at ih ⊢
  rw [oR,ih,aL]
  by_cases h:aL x = []∧a=0
  ·simp [h]
  ·rw [if_neg h,if_neg (by simpa using h)];simp
@[simp] theorem arC{l:List Rat}:bT 4 (emap re l)=True:=cY fun _=>rfl
@[simp] theorem aoM{v e n:Nat}{l:List Rat}:dG (some ⟨v,e,n,emap re l⟩)=True:=cN fun _=>rfl
abbrev PP(l:List Rat):PV:=aG re l
theorem yB(l:List Rat)(hl:l.length<17592186044416):aD env.P 102 [PP l] (PP (oR l)):=by
 refine b6 [(0,PP l)] Tryz.func102 ?_
 refine aA [0] ?_
 refine aA [0,3] ?_
 refine W.seq (W.block ?_)
 refine W.bE (fun k σ=>∃(rows:Pm.Rows) (clk:Nat),σ=⟨fa [(0,PP l),(3, .int .i64 (k:Int))],rows,clk⟩∧k≤l.length∧oR l=oR (l.take k)) l.length ?_ ?_
 ·exact⟨_, .refl,_,_,rfl,by omega,by simp⟩
 rintro k _ ⟨rows,clk,rfl,hk,hc⟩
 refine W.seq ?_
 refine W.fY (fun σ=>∃(b:Bool),σ=⟨fa [(0,PP l),(3, .int .i64 (k:Int)),(16, .bool b)],rows,clk⟩∧(b=true↔0<k∧nth l (k-1)=0)) (fun K hK=>?_) ?_
 ·simp
  by_cases h0:0<k
  ·simp (disch:=omega) [gw,h0]
   refine aB (zZ (nth l (k-1)).num) ?_
   simp (disch:=omega) [gw,h0]
   refine hK _ _ (aC _ [0,3,16]) ⟨_,rfl,?_⟩
   simp [h0,Rat.num_eq_zero]
  ·simp (disch:=omega) [gw,h0]
   exact hK _ _ (aC _ [0,3,16]) ⟨_,rfl,by simp [h0]⟩
 rintro _ ⟨b,rfl,hb⟩
 refine bF ?_ ?_<;>intro h
 ·obtain⟨h0,h1⟩:=hb.1 h
  refine W.skip (W.block ?_)
  refine W.cE (fun K hK=>?_)
  simp (disch:=omega) [gw]
  refine hK _ ⟨k-1,_,Gh.fr [(0,_),(3, .int .i64 ((k-1:Nat):Int))] (by simp;omega),by omega,_,_,rfl,by omega,?_⟩
  rw [hc,show k=(k-1)+1 by omega,aY (by omega),h1,IK]
  simp
 ·have h2:oR l=l.take k:=by
   rw [hc]
   by_cases h0:0<k
   ·have h1:nth l (k-1)≠0:=fun h1=>by simp [hb.2 ⟨h0,h1⟩]at h
    rw [show k=(k-1)+1 by omega,aY (by omega)]
    exact XS h1 _
   ·have:k=0:=by omega
    subst this;simp [oR]
  refine eV ?_
  refine aA [2] ?_
  refine W.ret ?_
  simp [h2]
def ri(x:Int):List PV:=[aG aH (aP DD x.natAbs), .bool (decide (x<0)),aG aH (aP DD 1), .bool false]
@[simp] theorem aeq{x:Int}:ri x = [aG aH (aP DD x.natAbs), .bool (decide (x<0)),aG aH (aP DD 1), .bool false]:=rfl
theorem gK(x:Int):re (x:Rat)=ri x:=by
 simp only [re,ri,Rat.num_intCast,Rat.den_intCast]
 congr
theorem nB(x:List Int):PP (qs x)=aG ri x:=by simp only [PP,aG,emap,qs,List.map_map,Function.comp_def,gK]
abbrev PI(x:List Int):PV:=aG ri x
@[simp] theorem arD{l:List Int}:bT 4 (emap ri l)=True:=cY fun _=>rfl
@[simp] theorem aoN{v e n:Nat}{l:List Int}:dG (some ⟨v,e,n,emap ri l⟩)=True:=cN fun _=>rfl
@[simp] theorem aAa{l:List Int}{x:Int}:emap ri l ++ [[aG aH (aP DD x.natAbs), .bool (decide (x<0)),aG aH (aP DD 1), .bool false]]=emap ri (l ++ [x]):=by simp [emap]
@[simp] theorem aAb{l:List Rat}{q:Rat}:emap re l ++ [[aG aH (aP DD q.num.natAbs), .bool (decide (q.num<0)),aG aH (aP DD q.den), .bool false]]=emap re (l ++ [q]):=by simp [emap]
@[simp] theorem auW{l:List Int}{i:Nat}{x:Int}:i5 (emap ri l) i 0 [aG aH (aP DD x.natAbs), .bool (decide (x<0)),aG aH (aP DD 1), .bool false]=emap ri (l.set i x):=CW (n:=4) (fun _=>rfl)
theorem qB(l:List Int)(hl:l.length<17592186044416):aD env.P 102 [PI l] (PI (aL l)):=by
 have:=yB (qs l) (by simpa using hl)
 rwa [yA,nB,nB]at this
theorem uP(n:Int)(zn:Y n):aD env.P 64 [RI n,RI 1] (.ag (ri n)):=by
 have:=jJ n 1 zn (by have:sz 2 1≤1:=cQ (by decide) (by decide);simp only [Y];omega)
 rwa [mJ,RR,gK]at this
theorem qC:aD env.P 99 [] (.ag (ri 0)):=by
 have:=PC
 rwa [RR,show(0:Rat)=((0:Int):Rat)by simp,gK]at this
theorem PE(n:Int)(h1 : -9223372036854775808≤n∧n<9223372036854775808):aD env.P 13 [.int .i64 n, .int .i64 1] (.ag (ri n)):=by
 have:=rD n 1 h1 (by decide)
 rwa [mJ,RR,gK]at this
theorem pN{x:Int}{k:Nat}(h:sz 2 x≤k)(h1:1≤k):ZR k (x:Rat):=⟨by simpa using h,by simp;exact Nat.le_trans (cQ (by decide) (by decide)) h1⟩
theorem aaW(x y:Int)(hx:sz 2 x≤YY)(hy:sz 2 y≤YY):aD env.P 100 [.ag (ri x), .ag (ri y)] (.ag (ri (x+y))):=by
 have:=x9 x y (pN hx (by decide)) (pN hy (by decide))
 rwa [←Rat.intCast_add,RR,RR,RR,gK,gK,gK]at this
theorem IL(x y:Int)(hx:sz 2 x≤YY)(hy:sz 2 y≤YY):aD env.P 101 [.ag (ri x), .ag (ri y)] (.ag (ri (x*y))):=by
 have:=E5 x y (pN hx (by decide)) (pN hy (by decide))
 rwa [←Rat.intCast_mul,RR,RR,RR,gK,gK,gK]at this
structure FOK(p:RP):Prop where
 ok:∀c∈p,cW 4294967296 c.2∧c.2.length<4294967296
 len:p.length<1099511627776
theorem uQ(p:RP)(h:FOK p):aD env.P 83 [Pg p] (PI (aL (p.map gv))):=by
 refine b6 [(0,Pg p)] Tryz.func83 ?_
 have hl:=h.len
 refine aA [0] ?_
 refine aA [0,3] ?_
 refine W.nil 3 3 31 4 (by simp) (by decide) (fun K hK=>?_)
 refine W.lw [0,3] hK ?_;clear hK K;simp
 refine aM [0,3,6,7] ?_
 refine W.block ?_
 refine W.bE (fun k σ=>∃(i ver:Nat) (rows:Pm.Rows) (clk:Nat),σ=⟨fa [(0,Pg p),(3, .own 3 ver 0 i),(6, .int .i64 p.length),(7, .int .i64 i)],rows,clk⟩∧rows 3=some ⟨ver,31,4,emap ri ((p.take i).map gv)⟩∧k=p.length-i∧i≤p.length) p.length ?_ ?_
 ·exact⟨_, .refl,0,_,_,_,rfl,by simp [emap],by omega,by omega⟩
 rintro k _ ⟨i,ver,rows,clk,rfl,hr,hk,hi⟩
 refine cB [0,3,6,7,8] ?_
 refine W.cond ⟨_,rfl,fun h0=>?_,fun h0=>?_⟩
 ·simp at h0
  obtain⟨xI,hc2⟩:=h.ok _ (bS h0)
  have gH:((p.take i).map gv).length=i:=by simp;omega
  have hz:Y (iv (nth p i).1 (nth p i).2):=by
   have h1:=O0 xI
   have h2:sz 2 (iv (nth p i).1 (nth p i).2)=sz 2 (V 4294967296 (nth p i).2):=by unfold iv;split<;>simp [pK]
   simp only [Y];omega
  have hF:=uO (nth p i).1 (nth p i).2 (by omega) xI
  have hM:=uP _ hz
  obtain⟨v,hv⟩:∃v,v=iv (nth p i).1 (nth p i).2:=⟨_,rfl⟩
  rw [←hv]at hF hM
  refine jV ?_
  refine aA [0,3,4,6,7] ?_
  refine W.cE (fun K hK=>?_)
  simp (disch:=omega) [gw]
  refine bW hF ?_
  refine aB (i0 1 (by decide) (by decide)) ?_
  simp (disch:=omega) [gw]
  refine aB hM ?_
  simp (disch:=omega) [gw,hr,gH]
  refine W.lw [0,3,6,7] hK ?_;clear hK K;simp
  refine W.cE (fun K hK=>?_);simp (disch:=omega) [gw]
  refine hK _ ⟨p.length-(i+1),_,aC _ [0,3,6,7],by omega,i+1,_,_,_,rfl,?_,by omega,by omega⟩
  rw [jH h0,show gv (nth p i)=v from hv.symm]
  simp
 ·simp at h0
  have kN:i=p.length:=by omega
  subst kN
  refine eV ?_
  refine W.sr ?_
  have ez:(p.map gv).take p.length=p.map gv:=bQ (by simp)
  simp (disch:=omega) [gw,hr,ez]
  refine aB (qB (p.map gv) (by simp;omega)) ?_
  simp (disch:=omega) [gw]
  refine bN [2] ?_
  exact b7
theorem K7(l:List Int)(hl:l.length<1099511627776)(hb:∀x∈l, -9223372036854775808≤x∧x<9223372036854775808):aD env.P 96 [aG aH l] (PI (aL l)):=by
 refine b6 [(0,aG aH l)] Tryz.func96 ?_
 refine aA [0] ?_
 refine aA [0,3] ?_
 refine W.nil 3 3 31 4 (by simp) (by decide) (fun K hK=>?_)
 refine W.lw [0,3] hK ?_;clear hK K;simp
 refine aM [0,3,6,7] ?_
 refine W.block ?_
 refine W.bE (fun k σ=>∃(i ver:Nat) (rows:Pm.Rows) (clk:Nat),σ=⟨fa [(0,aG aH l),(3, .own 3 ver 0 i),(6, .int .i64 l.length),(7, .int .i64 i)],rows,clk⟩∧rows 3=some ⟨ver,31,4,emap ri (l.take i)⟩∧k=l.length-i∧i≤l.length) l.length ?_ ?_
 ·exact⟨_, .refl,0,_,_,_,rfl,by simp [emap],by omega,by omega⟩
 rintro k _ ⟨i,ver,rows,clk,rfl,hr,hk,hi⟩
 refine cB [0,3,6,7,8] ?_
 refine W.cond ⟨_,rfl,fun h0=>?_,fun h0=>?_⟩
 ·simp at h0
  have gH:(l.take i).length=i:=by simp;omega
  refine jV ?_
  refine aA [0,3,4,6,7] ?_
  refine W.cE (fun K hK=>?_)
  simp (disch:=omega) [gw]
  refine aB (PE (nth l i) (hb _ (bS h0))) ?_
  simp (disch:=omega) [gw,hr,gH]
  refine W.lw [0,3,6,7] hK ?_;clear hK K;simp
  refine W.cE (fun K hK=>?_);simp (disch:=omega) [gw]
  refine hK _ ⟨l.length-(i+1),_,aC _ [0,3,6,7],by omega,i+1,_,_,_,rfl,?_,by omega,by omega⟩
  rw [aY h0]
  simp
 ·simp at h0
  have kN:i=l.length:=by omega
  subst kN
  refine eV ?_
  refine W.sr ?_
  simp (disch:=omega) [gw,hr]
  refine aB (qB l (by omega)) ?_
  simp (disch:=omega) [gw]
  refine bN [2] ?_
  exact b7
theorem aaX(x y:List Int)(hx:x.length<1099511627776)(hy:y.length<1099511627776)(zx:∀c∈x,Z c)(zy:∀c∈y,Z c):aD env.P 120 [PI x,Po y] (.bool (decide (x=y))):=by
 refine b6 [(0,PI x),(1,Po y)] Tryz.func120 ?_
 refine aA [0,1] ?_
 refine aM [0,1,10] ?_
 refine bF ?_ ?_<;>intro h
 ·have kQ:x≠y:=fun h1=>by simp [h1]at h
  refine aA [4] ?_
  refine W.ret ?_
  simp [go,kQ]
 ·have hlen:x.length=y.length:=by simp at h;omega
  refine W.skip ?_
  refine aM [0,1,12,13] ?_
  refine W.block ?_
  refine W.bE (fun k σ=>∃(i:Nat) (rows:Pm.Rows) (clk:Nat),σ=⟨fa [(0,PI x),(1,Po y),(12, .int .i64 x.length),(13, .int .i64 i)],rows,clk⟩∧k=x.length-i∧i≤x.length∧x.take i=y.take i) x.length ?_ ?_
  ·exact⟨_, .refl,0,_,_,rfl,by omega,by omega,by simp⟩
  rintro k _ ⟨i,rows,clk,rfl,hk,hi,hI⟩
  refine cB [0,1,12,13,14] ?_
  refine bF ?_ ?_<;>intro h
  ·simp at h
   refine jV ?_
   refine aA [0,1,5,12,13] ?_
   have R5:i<y.length:=by omega
   have hs:=aaU (nth x i) (decide (nth y i<0)) (aP LL (nth y i).natAbs) (zx _ (bS h)) (Nat.lt_of_le_of_lt (CY eB _) (zy _ (bS R5)))
   have he:(decide (nth y i<0)=decide (nth x i<0)∧aP LL (nth y i).natAbs=aP LL (nth x i).natAbs)↔nth x i=nth y i:=by
    constructor
    ·rintro⟨h1,h2⟩
     have h3:=auJ (nth x i).natAbs
     have h4:=auJ (nth y i).natAbs
     rw [h2]at h4
     simp only [decide_eq_decide]at h1
     omega
    ·intro h1;rw [h1];exact⟨rfl,rfl⟩
   simp only [he]at hs
   refine W.atj (fun σ=>∃(b:Bool),σ=⟨fa [(0,PI x),(1,Po y),(12, .int .i64 x.length),(13, .int .i64 i),(36, .bool b)],rows,clk⟩∧(b=true↔nth x i≠nth y i)) (fun K hK=>?_) ?_
   ·by_cases rU:nth x i=nth y i
    ·rw [decide_eq_true rU]at hs
     simp (disch:=omega) [gw]
     refine bW hs ?_
     refine aB (i0 1 (by decide) (by decide)) ?_
     simp (disch:=omega) [gw]
     refine aB (O9 1 1 (by simp only [Z];exact Nat.lt_of_le_of_lt (cQ (k:=1) (by decide) (by decide)) (by decide)) (by simp only [Z];exact Nat.lt_of_le_of_lt (cQ (k:=1) (by decide) (by decide)) (by decide))) ?_
     rw [xR]
     simp (disch:=omega) [gw]
     exact hK _ _ (aC _ [0,1,12,13,36]) ⟨_,rfl,by simp [rU]⟩
    ·rw [decide_eq_false rU]at hs
     simp (disch:=omega) [gw]
     refine bW hs ?_
     exact hK _ _ (aC _ [0,1,12,13,36]) ⟨_,rfl,by simp [rU]⟩
   rintro _ ⟨b,rfl,hb⟩
   refine W.cond ⟨_,rfl,fun h2=>?_,fun h2=>?_⟩
   ·have kQ:x≠y:=fun h1=>hb.1 h2 (by rw [h1])
    refine aA [4] ?_
    refine W.ret ?_
    simp [go,kQ]
   ·have GL:nth x i=nth y i:=Classical.byContradiction fun h3=>by simp [hb.2 h3]at h2
    refine W.skip ?_
    refine W.cE (fun K hK=>?_);simp (disch:=omega) [gw]
    refine hK _ ⟨x.length-(i+1),_,aC _ [0,1,12,13],by omega,i+1,_,_,rfl,by omega,by omega,?_⟩
    rw [aY h,aY R5,hI,GL]
  ·simp at h
   rw [List.take_of_length_le (by omega),List.take_of_length_le (by omega)]at hI
   refine eV ?_
   refine aA [4] ?_
   refine W.ret ?_
   simp [go,hI]
structure SD(l:List Rat):Prop where
 ok:∀q∈l,ZR YY q
 len:l.length<1099511627776
theorem aiL(k:Nat)(hk:1≤k):ZR k 0:=⟨by show sz 2 0≤k;rw [jO];omega,by show sz 2 1≤k;exact Nat.le_trans (cQ (by decide) (by decide)) hk⟩
theorem SD.nth{l:List Rat}(h:SD l)(i:Nat):ZR YY (nth l i):=by
 by_cases hi:i<l.length
 ·exact h.ok _ (bS hi)
 ·rw [iF (by omega)];exact aiL _ (by decide)
theorem SD.qs{x:List Int}(h:∀c∈x,sz 2 c≤YY)(hl:x.length<1099511627776):SD (qs x):=⟨fun q hq=>by
 simp only [List.mem_map]at hq
 obtain⟨c,hc,rfl⟩:=hq
 exact pN (h c hc) (by decide),by simpa using hl⟩
@[simp] theorem aoO{l:List Rat}:(∀e∈emap re l,∀p∈e,dB p=true)=True:=by simp [emap]
theorem XT(l:List Rat)(i:Nat)(hi:i<9223372036854775808):aD env.P 250 [PP l, .int .i64 i] (RR (nth l i)):=by
 have hzero:=PC
 refine b6 [(0,PP l),(1, .int .i64 i)] Tryz.func250 ?_
 refine cB [0,1,4] ?_
 refine W.fY (fun σ=>∃(b:Bool) (rows:Pm.Rows) (clk:Nat),σ=⟨fa [(0,PP l),(1, .int .i64 i),(4, .ptr 4 0 0 0),(12, .bool b)],rows,clk⟩∧(b=true↔l.length≤i)∧rows 4=some ⟨0,31,4,[[.nil, .bool false, .nil, .bool false]]⟩) (fun K hK=>?_) ?_
 ·have hn:¬((i:Int)<0):=by omega
  simp (disch:=omega) [gw,hn]
  exact hK _ _ (aC _ [0,1,4,12]) ⟨_,_,_,rfl,by simp,by simp⟩
 rintro _ ⟨b,rows,clk,rfl,hb,fM⟩
 refine bF ?_ ?_<;>intro h
 ·have hb:=hb.1 h
  have e:nth l i=0:=iF hb
  rw [e]
  generalize (0:Rat)=z at *
  refine iM ?_
  refine aB hzero ?_
  simp (disch:=omega) [gw,fM]
  refine bN [4] ?_
  exact b7
 ·have hb:i<l.length:=Nat.lt_of_not_le fun h2=>by simp [hb.2 h2]at h
  refine W.skip ?_
  refine W.sr ?_
  simp (disch:=omega) [gw,fM]
  refine bN [4] ?_
  exact b7
def aer(a b:List Rat):List Rat:=oR ((List.range (max a.length b.length)).map fun k=>nth a k+nth b k)
theorem aes(a b:List Rat)(ha:SD a)(hb:SD b):aD env.P 203 [PP a,PP b] (PP (aer a b)):=by
 have hal:=ha.len;have hbl:=hb.len
 refine b6 [(0,PP a),(1,PP b)] Tryz.func203 ?_
 obtain⟨M,hM⟩:∃M,M=max a.length b.length:=⟨_,rfl⟩
 refine aA [0,1] ?_
 refine aA [0,1,5] ?_
 refine W.nil 5 5 31 4 (by simp) (by decide) (fun K hK=>?_)
 refine W.lw [0,1,5] hK ?_;clear hK K;simp
 refine aM [0,1,5,6] ?_
 refine W.block ?_
 refine W.bE (fun k σ=>∃(i ver:Nat) (rows:Pm.Rows) (clk:Nat),σ=⟨fa [(0,PP a),(1,PP b),(5, .own 5 ver 0 i),(6, .int .i64 i)],rows,clk⟩∧rows 5=some ⟨ver,31,4,emap re ((List.range i).map fun k=>nth a k+nth b k)⟩∧k=M-i∧i≤M) M ?_ ?_
 ·exact⟨_, .refl,0,_,_,_,rfl,by simp [emap],by omega,by omega⟩
 rintro k _ ⟨i,ver,rows,clk,rfl,hr,hk,hi⟩
 have em:(if a.length<b.length then(b.length:Int)else(a.length:Int))=M:=by split<;>omega
 have em2:(if b.length<a.length then(a.length:Int)else(b.length:Int))=M:=by split<;>omega
 refine W.seq ?_
 refine W.sr ?_
 simp (disch:=omega) [gw,em,em2]
 refine bN [0,1,5,6,13] ?_
 refine bF ?_ ?_<;>intro h
 ·have h:i<M:=by simp at h;omega
  refine jV ?_
  have h1:=XT a i (by omega)
  have h2:=XT b i (by omega)
  have h3:=x9 _ _ (ha.nth i) (hb.nth i)
  have er:(List.range (i+1)).map (fun k=>nth a k+nth b k)=(List.range i).map (fun k=>nth a k+nth b k) ++ [nth a i+nth b i]:=by rw [List.range_succ];simp
  have gH:((List.range i).map fun k=>nth a k+nth b k).length=i:=by simp
  generalize ((List.range i).map fun k=>nth a k+nth b k)=acc at *
  generalize nth a i+nth b i=q at *
  generalize nth a i=u at *
  generalize nth b i=v at *
  refine W.cE (fun K hK=>?_)
  simp (disch:=omega) [gw]
  refine bW h1 ?_
  refine bW h2 ?_
  refine aB h3 ?_
  simp (disch:=omega) [gw,hr,gH]
  refine W.lw [0,1,5,6] hK ?_;clear hK K;simp
  refine W.cE (fun K hK=>?_);simp (disch:=omega) [gw]
  refine hK _ ⟨M-(i+1),_,aC _ [0,1,5,6],by omega,i+1,_,_,_,rfl,by rw [er];simp,by omega,by omega⟩
 ·have h:i=M:=by simp at h;omega
  subst h
  refine eV ?_
  have gH:((List.range i).map fun k=>nth a k+nth b k).length=i:=by simp
  rw [aer,←hM]
  generalize ((List.range i).map fun k=>nth a k+nth b k)=acc at *
  have ez:=bQ gH
  refine W.sr ?_
  simp (disch:=omega) [gw,hr,ez]
  refine aB (yB acc (by omega)) ?_
  simp (disch:=omega) [gw]
  refine bN [4] ?_
  exact b7
def gL(a:List Rat)(c:Rat):List Rat:=oR (a.map fun x=>x*c)
theorem mA(a:List Rat)(c:Rat)(ha:SD a)(hc:ZR YY c):aD env.P 98 [PP a,RR c] (PP (gL a c)):=by
 have hal:=ha.len
 refine dH (E:=env) (fun id=>if id=5 then 2 else 0) [(0,PP a),(1,RR c)] Tryz.func98 rfl (by kernel_rfl) (by kernel_rfl) (show 2≤24 by decide) (by simp) ?_
 refine aA [0,3] ?_
 refine aA [0,3,5] ?_
 refine W.nil 5 5 31 4 (by simp) (by decide) (fun K hK=>?_)
 refine W.lw [0,3,5] hK ?_;clear hK K;simp
 refine aM [0,3,5,8,9] ?_
 refine W.block ?_
 refine W.bE (fun k σ=>∃(i ver:Nat) (rows:Pm.Rows) (clk:Nat),σ=⟨fa [(0,PP a),(3, .ptr 3 0 0 0),(5, .own 5 ver 0 i),(8, .int .i64 a.length),(9, .int .i64 i)],rows,clk⟩∧rows 5=some ⟨ver,31,4,emap re ((a.take i).map fun x=>x*c)⟩∧rows 3=some ⟨0,31,4,[re c]⟩∧k=a.length-i∧i≤a.length) a.length ?_ ?_
 ·exact⟨_, .refl,0,_,_,_,rfl,by simp [emap],by simp,by omega,by omega⟩
 rintro k _ ⟨i,ver,rows,clk,rfl,hr,cM,hk,hi⟩
 refine cB [0,3,5,8,9,10] ?_
 refine bF ?_ ?_<;>intro h
 ·simp at h
  refine jV ?_
  refine aA [0,3,5,6,8,9] ?_
  have h3:=E5 _ _ (ha.nth i) hc
  have er:=jH (f:=fun x=>x*c) h
  have gH:((a.take i).map fun x=>x*c).length=i:=by simp;omega
  generalize (a.take i).map (fun x=>x*c)=acc at *
  generalize hq:nth a i*c=q at *
  refine W.H7 (fun K hK=>?_)
  rw [if_pos rfl,fF]
  simp (disch:=omega) [gw,cM]
  refine aB h3 ?_
  simp (disch:=omega) [gw,hr,cM,gH]
  refine W.lw [0,3,5,8,9] hK ?_;clear hK K;simp
  refine W.cE (fun K hK=>?_);simp (disch:=omega) [gw]
  refine hK _ ⟨a.length-(i+1),_,aC _ [0,3,5,8,9],by omega,i+1,_,_,_,rfl,by rw [er];simp,by simp [cM],by omega,by omega⟩
 ·simp at h
  have kN:i=a.length:=by omega
  subst kN
  refine eV ?_
  rw [List.take_length]at hr
  rw [gL]
  have gH:(a.map fun x=>x*c).length=a.length:=by simp
  generalize a.map (fun x=>x*c)=acc at *
  have ez:=bQ gH
  refine W.sr ?_
  simp (disch:=omega) [gw,hr,ez]
  refine aB (yB acc (by omega)) ?_
  simp (disch:=omega) [gw]
  refine bN [4] ?_
  exact b7
theorem PF(a:List Rat)(ha:SD a):aD env.P 172 [PP a] (PP (gL a (-1))):=by
 have h1:=rD (-1) 1 (by decide) (by decide)
 rw [mJ,show(((-1:Int)):Rat) = -1 by simp]at h1
 have h2:=mA a (-1) ha ⟨by show sz 2 (-1)≤YY;exact Nat.le_trans (cQ (k:=1) (by decide) (by decide)) (by decide),by show sz 2 1≤YY;exact Nat.le_trans (cQ (k:=1) (by decide) (by decide)) (by decide)⟩
 generalize (-1:Rat)=c at *
 refine b6 [(0,PP a)] Tryz.func172 ?_
 refine aA [0] ?_
 refine iM ?_
 refine bW h1 ?_
 refine bU [2] h2 ?_
 exact b7
theorem aet(x:List Int)(k:Nat):nth (qs x) k=((nth x k:Int):Rat):=uK (f:=fun(c:Int)=>(c:Rat)) rfl x k
theorem aaY(x:List Int)(c:Int):gL (qs x) (c:Rat)=qs (aN x c):=by
 rw [gL,aN,←yA]
 congr 1
 simp [qs,Function.comp_def]
theorem UN(x:List Int):aN x (-1)=fU x:=by simp [aN,fU]
theorem IM(x:List Int)(hx:Bd 2 YY 1099511627775 x):aD env.P 172 [PI x] (PI (fU x)):=by
 have:=PF (qs x) (.qs hx.sz (by have:=hx.len;omega))
 rwa [show(-1:Rat)=((-1:Int):Rat)by simp,aaY,UN,nB,nB]at this
theorem nV(x y:List Int)(s s' n n':Nat)(hs:Bd 2 s n x)(zC:Bd 2 s' n' y)(hB:s+s'+n+n'<YY):aD env.P 30 [PI x,PI y] (PI (bH x y)):=by
 have hlx:=hs.len;have hly:=zC.len
 have hB2:s+s'+n+n'<137438953472:=hB
 refine dH (E:=env) (fun id=>if id=15 then 1 else 0) [(0,PI x),(1,PI y)] Tryz.func30 rfl (by kernel_rfl) (by kernel_rfl) (show 2≤69 by decide) (by simp) ?_
 refine cB [0,1] ?_
 refine W.fY (fun σ=>∃(b:Bool),σ=⟨fa [(0,PI x),(1,PI y),(16, .bool b)],fun _=>none,0⟩∧(b=true↔x = []∨y = [])) (fun K hK=>?_) ?_
 ·simp
  have e1:((x.length:Int)==0)=decide (x = []):=by
   cases x<;>simp<;>omega
  have e2:((y.length:Int)==0)=decide (y = []):=by
   cases y<;>simp<;>omega
  rw [e1]
  by_cases h0:x = []
  ·have e3:decide (x = [])=true:=by simp [h0]
   rw [e3]
   simp
   exact hK _ _ (aC _ [0,1,16]) ⟨_,rfl,by simp [h0]⟩
  ·have e3:decide (x = [])=false:=by simp [h0]
   rw [e3]
   simp
   exact hK _ _ (aC _ [0,1,16]) ⟨_,rfl,by rw [e2];simp [h0]⟩
 rintro _ ⟨b,rfl,hb⟩
 refine bF ?_ ?_<;>intro h
 ·have e:bH x y = []:=by
   have h1:=hb.1 h
   refine Cn.ext (Cn.bH _ _) Cn.nil fun t=>?_
   rw [dP]
   rcases h1 with rfl | rfl<;>simp [V]
  refine aA [4] ?_
  refine W.ret ?_
  simp [go,e]
  rfl
 ·have h1:¬(x = []∨y = []):=fun h2=>by simp [hb.2 h2]at h
  have pL:0<x.length:=List.length_pos_iff.2 fun h2=>h1 (.inl h2)
  have UB:0<y.length:=List.length_pos_iff.2 fun h2=>h1 (.inr h2)
  clear h hb h1
  have e0:((x.length:Int)+(y.length:Int)-1).toNat=x.length+y.length-1:=by omega
  have e9:((x.length+y.length-1:Nat):Int)=(x.length:Int)+(y.length:Int)-1:=by omega
  refine W.skip ?_
  refine W.sr ?_
  simp (disch:=omega) [gw,e0]
  refine bN [0,1,5] ?_
  refine aM [0,1,5,25,26] ?_
  refine W.block ?_
  refine W.bE (fun k σ=>∃(i ver:Nat) (els:List (List PV)) (rows:Pm.Rows) (clk:Nat),σ=⟨fa [(0,PI x),(1,PI y),(5, .own 23 ver 0 (x.length+y.length-1)),(25, .int .i64 ((x.length+y.length-1:Nat):Int)),(26, .int .i64 i)],rows,clk⟩ ∧
   rows 23=some ⟨ver,31,4,els⟩∧els.length=x.length+y.length-1∧(∀e∈els,e.length=4)∧els.take i=emap ri (List.replicate i 0)∧k=x.length+y.length-1-i∧i≤x.length+y.length-1) (x.length+y.length-1) ?_ ?_
  ·exact⟨_,Gh.fr [(0,PI x),(1,PI y),(5, .own 23 0 0 (x.length+y.length-1)),(25, .int .i64 ((x.length+y.length-1:Nat):Int)),(26, .int .i64 (0:Nat))] (by simp),0,_,List.replicate (x.length+y.length-1) [.nil, .bool false, .nil, .bool false],_,_,rfl,by simp [e0],by simp,by simp,by simp [emap],by omega,by omega⟩
  rintro k _ ⟨i,ver,els,rows,clk,rfl,hr,nT,PG,sI,hk,hi⟩
  have T9:bT 4 els=True:=by simp only [bT,eq_iff_iff,iff_true];exact PG
  refine cB [0,1,5,25,26,27] ?_
  refine bF ?_ ?_<;>intro h
  ·have h:i<x.length+y.length-1:=by simp at h;omega
   refine jV ?_
   refine aA [0,1,5,6,25,26] ?_
   refine W.cE (fun K hK=>?_)
   simp (disch:=omega) [gw]
   refine aB qC ?_
   have wL:i<els.length:=by omega
   have hE:vN els i 4=True:=by
    simp only [eq_iff_iff,iff_true]
    exact⟨els[i],List.getElem?_eq_getElem wL,by rw [PG _ (List.getElem_mem wL)];omega⟩
   have hS:i5 els i 0 [aG aH (aP DD 0), .bool false,aG aH (aP DD 1), .bool false]=els.set i (ri 0):=by
    have h4:=PG _ (List.getElem_mem wL)
    rw [i5,List.getElem?_eq_getElem wL]
    simp [List.drop_of_length_le,h4]
   simp (disch:=omega) [gw,hr,hE,hS]
   refine W.lw [0,1,5,25,26] hK ?_;clear hK K;simp
   refine W.cE (fun K hK=>?_);simp (disch:=omega) [gw]
   refine hK _ ⟨x.length+y.length-1-(i+1),_,aC _ [0,1,5,25,26],by omega,i+1,ver,els.set i (ri 0),_,_,rfl,by simp,by simpa using nT,fun e he=>?_,?_,by omega,by omega⟩
   ·rcases List.mem_or_eq_of_mem_set he with h1 | h1
    ·exact PG e h1
    ·rw [h1];rfl
   ·rw [kY sI (by omega),List.replicate_succ']
    simp [emap]
  ·have h:i=x.length+y.length-1:=by simp at h;omega
   subst h
   have pG:els=emap ri (List.replicate (x.length+y.length-1) 0):=by rw [←sI,bQ nT]
   subst pG
   clear sI PG nT T9 hk hi
   refine eV ?_
   refine aM [0,1,5,35,36] ?_
   refine W.block ?_
   refine W.bE (fun k σ=>∃(i:Nat) (z:List Int) (ver:Nat) (rows:Pm.Rows) (clk:Nat),σ=⟨fa [(0,PI x),(1,PI y),(5, .own 23 ver 0 (x.length+y.length-1)),(35, .int .i64 x.length),(36, .int .i64 i)],rows,clk⟩ ∧
    rows 23=some ⟨ver,31,4,emap ri z⟩∧k=x.length-i∧i≤x.length∧z.length=x.length+y.length-1∧(∀j,sz 2 (nth z j)≤s+s'+i) ∧
    ∀t,V t z=V t (x.take i)*V t y) x.length ?_ ?_
   ·refine⟨_, .refl,0,List.replicate (x.length+y.length-1) 0,_,_,_,rfl,hr,by omega,by omega,by simp,fun j=>?_,fun t=>by simp [V,r7]⟩
    have:Bd 2 0 (x.length+y.length-1) (List.replicate (x.length+y.length-1) 0):=⟨by simp,fun c hc=>by rw [(List.mem_replicate.1 hc).2,jO];omega⟩
    have:=this.nth j
    omega
   clear hr rows clk
   rintro k _ ⟨i,z,ver,rows,clk,rfl,hr,hk,hi,hz,GI,hV⟩
   refine cB [0,1,5,35,36,37] ?_
   refine bF ?_ ?_<;>intro h
   ·simp at h
    refine jV ?_
    refine aA [0,1,5,7,35,36] ?_
    refine aA [0,1,5,7,35,36,40,41] ?_
    refine W.block ?_
    refine W.bE (fun m σ=>∃(k:Nat) (z:List Int) (ver:Nat) (rows:Pm.Rows) (clk:Nat),σ=⟨fa [(0,PI x),(1,PI y),(5, .own 23 ver 0 (x.length+y.length-1)),(7, .int .i64 i),(35, .int .i64 x.length),(36, .int .i64 i),(40, .int .i64 y.length),(41, .int .i64 k)],rows,clk⟩ ∧
     rows 23=some ⟨ver,31,4,emap ri z⟩∧m=y.length-k∧k≤y.length∧z.length=x.length+y.length-1∧(∀j,sz 2 (nth z j)≤s+s'+i+1)∧(∀j,i+k≤j→sz 2 (nth z j)≤s+s'+i) ∧
     ∀t,V t z=V t (x.take i)*V t y+t^i*nth x i*V t (y.take k)) y.length ?_ ?_
    ·refine⟨_, .refl,0,z,ver,_,_,rfl,by simpa using hr,by omega,by omega,hz,fun j=>by have:=GI j;omega,fun j _=>GI j,fun t=>by simp [V,hV]⟩
    clear hV GI hz hr z ver rows clk
    rintro m _ ⟨k,z,ver,rows,clk,rfl,hr,hm,hky,hz,GI,UC,hV⟩
    refine cB [0,1,5,7,35,36,40,41,42] ?_
    refine W.cond ⟨_,rfl,fun h2=>?_,fun h2=>?_⟩
    ·simp at h2
     refine jV ?_
     refine aA [0,1,5,7,8,35,36,40,41] ?_
     have e1:((i:Int)+(k:Int)).toNat=i+k:=by omega
     have IE:sz 2 (nth x i*nth y k)≤s+s'+i:=Nat.le_trans (cO (by decide) (hs.nth i) (zC.nth k)) (by omega)
     have hm2:=n9 (b:=2) (by decide) (UC (i+k) (Nat.le_refl _)) IE
     have hlz:i+k<z.length:=by omega
     have c1:=IL (nth x i) (nth y k) (Nat.le_trans (hs.nth i) (by show _≤137438953472;omega)) (Nat.le_trans (zC.nth k) (by show _≤137438953472;omega))
     have c2:=aaW (nth z (i+k)) (nth x i*nth y k) (Nat.le_trans (UC (i+k) (Nat.le_refl _)) (by show _≤137438953472;omega)) (Nat.le_trans IE (by show _≤137438953472;omega))
     have T7:=fun t=>H9 (b:=t) (x:=nth z (i+k)+nth x i*nth y k) hlz
     generalize hu:nth z (i+k)+nth x i*nth y k=u at *
     generalize hpq:nth x i*nth y k=pq at *
     refine W.H7 (fun K hK=>?_)
     rw [if_pos rfl,fF]
     simp (disch:=omega) [gw,hr,e1]
     refine aB c1 ?_
     simp (disch:=omega) [gw,hr,e1]
     refine aB c2 ?_
     simp (disch:=omega) [gw,hr,e1]
     refine W.lw [0,1,5,7,35,36,40,41] hK ?_;clear hK K;simp
     refine W.cE (fun K hK=>?_);simp (disch:=omega) [gw]
     refine hK _ ⟨y.length-(k+1),_,aC _ [0,1,5,7,35,36,40,41],by omega,k+1,z.set (i+k) u,ver,_,_,rfl,by simp,by omega,by omega,by simpa using hz,fun j=>?_,fun j hj=>?_,fun t=>?_⟩
     ·by_cases hj:i+k=j
      ·subst hj;rw [fG hlz];exact hm2
      ·rw [iG hj];exact GI j
     ·rw [iG (by omega)];exact UC j (by omega)
     ·rw [T7,aZ h2,hV,Int.pow_add,←hu,←hpq];clear hV T7;grind
    ·simp at h2
     have zB:k=y.length:=by omega
     subst zB
     refine eV ?_
     refine W.cE (fun K hK=>?_);simp (disch:=omega) [gw]
     refine hK _ ⟨x.length-(i+1),_,aC _ [0,1,5,35,36],by omega,i+1,z,ver,_,_,rfl,hr,by omega,by omega,hz,fun j=>by have:=GI j;omega,fun t=>?_⟩
     rw [hV,bJ (Nat.le_refl _),aZ h];grind
   ·simp at h
    have kN:i=x.length:=by omega
    subst kN
    have uN:=bQ hz
    refine eV ?_
    refine W.sr ?_
    simp (disch:=omega) [gw,hr,uN]
    refine aB (qB z (by omega)) ?_
    simp (disch:=omega) [gw]
    refine bN [4] ?_
    refine W.ret ?_
    have e:aL z=bH x y:=by
     refine Cn.ext (Cn.cut _) (Cn.bH _ _) fun t=>?_
     rw [dF,hV,dP,bJ (Nat.le_refl _)]
    simp [go,e]
theorem oE(v n:Int)(hv : -9223372036854775808≤v∧v<9223372036854775808)(hn:0<n)(hn2:n<4611686018427387904):aD env.P 14 [.int .i64 v, .int .i64 n] (.int .i64 (v%n)):=by
 have Z8:n≠0:=by omega
 have h12:(v.tmod n=v%n∨(v.tmod n<0∧v.tmod n+n=v%n)) ∧ -n<v.tmod n∧v.tmod n<n:=by
  have h2:=Int.emod_nonneg v Z8
  have h3:=Int.emod_lt_of_pos v hn
  rcases(show v<0∨0≤v by omega)with h | h
  ·have h4:=Int.tmod_eq_emod (a:=v) (b:=n)
   have h5:(n.natAbs:Int)=n:=by omega
   split at h4
   ·simp at h4;omega
   ·rename_i h6
    rw [h5]at h4
    have h7:v%n≠0:=fun h8=>h6 (.inr (Int.dvd_of_emod_eq_zero h8))
    omega
  ·rw [Int.tmod_eq_emod_of_nonneg h];omega
 obtain⟨h1,h2⟩:=h12
 have h5:=Int.emod_nonneg v Z8
 have h6:=Int.emod_lt_of_pos v hn
 have OX:¬n<1:=by omega
 refine b6 [(0, .int .i64 v),(1, .int .i64 n)] Tryz.func14 ?_
 refine aA [0,1] ?_
 refine aM [0,1,7] ?_
 refine bF ?_ ?_<;>intro h
 ·exfalso;simp at h;omega
 ·refine W.skip ?_
  generalize hm:v.tmod n=m at *
  generalize v%n=r at *
  refine W.sr ?_
  simp (disch:=omega) [gA,Z8,hm]
  refine bN [1,5] ?_
  refine W.gJ (fun σ=>∃(rows:Pm.Rows) (clk:Nat),σ=⟨fa [(5, .int .i64 r)],rows,clk⟩) ?_ ?_
  ·
   refine aA [1,5,12] ?_
   refine bF ?_ ?_<;>intro h
   ·simp at h
    refine W.cE (fun K hK=>?_);simp (disch:=omega) [gw]
    exact hK _ ⟨_,Gh.fr [(5, .int .i64 r)] (by simp;omega),_,_,rfl⟩
   ·simp at h
    refine W.skip ?_
    exact⟨_,Gh.fr [(5, .int .i64 r)] (by simp;omega),_,_,rfl⟩
  rintro _ ⟨rows,clk,rfl⟩
  refine aA [4] ?_
  exact b7
structure PB(x:List Int):Prop where
 sz:∀c∈x,Sz c
 len:x.length<1099511627775
theorem PB.tL{x:List Int}(h:PB x):oQ (x.map jD):=oQ.KZ h.sz (by have:=h.len;omega)
theorem PB.of{s n:Nat}{x:List Int}(h:Bd LL s n x)(hs:s<1099511627775)(hn:n<1099511627775):PB x:=⟨fun c hc=>Nat.lt_of_le_of_lt (h.sz c hc) (by omega),Nat.lt_of_le_of_lt h.len hn⟩
theorem z5{x y:List Int}(hx:PB x)(hy:PB y):aD env.P 202 [Po x,Po y] (Po (fL x y)):=by
 have:=ad4 _ _ hx.tL hy.tL
 rwa [bP,bP,←fI,←fI]at this
theorem qD{x y:List Int}(hx:PB x)(hy:PB y):aD env.P 204 [Po x,Po y] (Po (dJ x y)):=by
 have:=ad5 _ _ hx.tL hy.tL
 rwa [bP,bP,←fI,←fI]at this
theorem IP{x:List Int}(hx:PB x):aD env.P 41 [Po x] (Po (fU x)):=by
 have:=ad6 _ hx.tL
 rwa [bP,←fI]at this
theorem fR{x:List Int}(hx:PB x):aD env.P 68 [Po x] (Po (aL x)):=by
 have:=eY _ hx.tL
 rwa [bP,←fI]at this
theorem IQ{a:RP}{y:List Int}{s s' n n':Nat}(ha:oQ a)(hs:Bd LL s n (a.map gv))(zC:Bd LL s' n' y)(hB:s+s'+n+n'<1099511627775):aD env.P 16 [Pg a,Po y] (Po (bH (a.map gv) y)):=by
 have:=ad7 a (y.map jD) ha (PB.of zC (by omega) (by omega)).tL s s' n n' hs (by rwa [bP]) hB
 rwa [bP,←fI]at this
theorem qE{x y:List Int}{s s' n n':Nat}(hs:Bd LL s n x)(zC:Bd LL s' n' y)(hB:s+s'+n+n'<1099511627775):aD env.P 16 [Po x,Po y] (Po (bH x y)):=by
 have:=IQ (PB.of hs (by omega) (by omega)).tL (by rwa [bP]) zC hB
 rwa [bP,←fI]at this
theorem K8{p:RP}:eX p = []↔(eX p).length=0:=by rw [List.length_eq_zero_iff]
theorem aeu(p:RP)(y:List Int):bH (p.map gv) y=bH (eX p) y:=Cn.ext (Cn.bH _ _) (Cn.bH _ _) fun t=>by simp [dP,eX,dF]
structure InP(p:RP):Prop where
 ok:∀c∈p,cW 4294967296 c.2∧c.2.length<9223372036854775808
 len:p.length<9223372036854775808
theorem aaZ(k n:Nat)(p:RP):(kZ k n p).length≤k:=by simp [kZ];omega
theorem aew{p:RP}(h:InP p)(k n:Nat):∀c∈kZ k n p,cW 4294967296 c.2∧c.2.length≤n:=fun c hc=>by
 simp only [kZ,List.mem_map]at hc
 obtain⟨d,hd,rfl⟩:=hc
 exact⟨(h.ok d (List.mem_of_mem_take hd)).1.take n,by simp;omega⟩
structure Sm(k n:Nat)(p:RP):Prop where
 ok:∀c∈p,cW 4294967296 c.2∧c.2.length≤n
 len:p.length≤k
theorem Sm.auY{p:RP}(h:InP p)(k n:Nat):Sm k n (kZ k n p):=⟨aew h k n,aaZ k n p⟩
theorem uR(c:Bool × List Int)(h:cW 4294967296 c.2):(gv c).natAbs=(V 4294967296 c.2).natAbs:=by
 unfold gv iv;split<;>simp
section
variable {k n:Nat} {p:RP}
theorem Sm.fok(h:Sm k n p)(hk:k<1099511627776)(hn:n<4294967296):FOK p:=⟨fun c hc=>⟨(h.ok c hc).1,by have:=(h.ok c hc).2;omega⟩,by have:=h.len;omega⟩
theorem Sm.tL(h:Sm k n p)(hk:k<1099511627776)(hn:n<1099511627776):oQ p:=⟨fun c hc=>⟨(h.ok c hc).1,by have:=(h.ok c hc).2;omega⟩,by have:=h.len;omega⟩
theorem Sm.bd(h:Sm k n p):Bd LL n k (p.map gv):=⟨by simpa using h.len,fun c hc=>by
 simp only [List.mem_map]at hc
 obtain⟨d,hd,rfl⟩:=hc
 have h1:=auh eB (h.ok d hd).1
 have h2:sz LL (gv d)=sz LL (V 4294967296 d.2):=by unfold sz;rw [uR d (h.ok d hd).1]
 rw [h2]
 exact Nat.le_trans h1 (h.ok d hd).2⟩
theorem Sm.bd2(h:Sm k n p):Bd 2 (32*n) k (p.map gv):=⟨by simpa using h.len,fun c hc=>by
 simp only [List.mem_map]at hc
 obtain⟨d,hd,rfl⟩:=hc
 have h1:=O0 (h.ok d hd).1
 have h2:sz 2 (gv d)=sz 2 (V 4294967296 d.2):=by unfold sz;rw [uR d (h.ok d hd).1]
 have h3:=(h.ok d hd).2
 rw [h2];omega⟩
end
theorem maps{α:Type}{g:α→List PV}{R:List PV→Prop}{Q:α→Prop}(h:∀ps,R ps → ∃a,ps=g a∧Q a):∀ {l:List (List PV)},(∀x∈l,R x) → ∃m:List α,l=m.map g ∧ ∀a∈m,Q a
 | [],_=>⟨[],rfl,fun _ h=>(by cases h)⟩
 | x::l,hx=>by
  obtain⟨a,rfl,ha⟩:=h x (hx x (by simp))
  obtain⟨m,rfl,hm⟩:=maps h (l:=l) fun y hy=>hx y (by simp [hy])
  exact⟨a::m,rfl,fun b hb=>by
   rcases List.mem_cons.1 hb with rfl | hb
   ·exact ha
   ·exact hm b hb⟩
structure InL(l:List Int):Prop where
 xX:cW 4294967296 l
 len:l.length<9223372036854775808
theorem aiM:tH Tryz.prog 182 (fun ps=>∃n:Int,ps=u32 n∧0≤n∧n<4294967296):=
 (tH.int .u32 (by kernel_rfl)).mono fun ps ⟨n,h1,h2,h3⟩=>⟨n,h1,by simpa [IntKind.min,IntKind.signed]using h2,by simp [IntKind.max,IntKind.signed,IntKind.bits]at h3;omega⟩
theorem aoR:tH Tryz.prog 36 (fun ps=>∃l:List Int,ps = [us l]∧InL l):=
 (tH.slice (e:=182) (by kernel_rfl) (by rw [show Tryz.prog.cellsOf 182=1 by kernel_rfl];decide) aiM).mono fun ps ⟨l,h1,h2,h3⟩=>by
  obtain⟨m,rfl,hm⟩:=maps (g:=u32) (Q:=fun n=>0≤n∧n<4294967296) (fun ps h=>h) h2
  exact⟨m,h1,hm,by rw [List.length_map]at h3;simp only [maxLen]at h3;omega⟩
theorem XU:tH Tryz.prog 38 (fun ps=>∃c:Bool × List Int,ps=ge c∧InL c.2):=
 (tH.struct (fs:=[⟨ "Neg",4,0,false, "", "",0⟩,⟨ "L",36,1,false, "", "", 8⟩]) (Rs:=[fun ps=>∃b,ps = [.bool b],fun ps=>∃l:List Int,ps = [us l]∧InL l]) (by kernel_rfl)
  ⟨rfl,tH.bool (by kernel_rfl),by kernel_rfl,aoR,by show(_:Nat)=_;kernel_rfl⟩).mono fun ps h=>by
  simp only [aaG]at h
  obtain⟨a,b,rfl,⟨n,rfl⟩,a',b',rfl,⟨l,rfl,hl⟩,rfl⟩:=h
  exact⟨(n,l),rfl,hl⟩
theorem PH:tH Tryz.prog 24 (fun ps=>∃p:RP,ps=pe p∧InP p):=
 (tH.slice (e:=38) (by kernel_rfl) (by rw [show Tryz.prog.cellsOf 38=2 by kernel_rfl];decide) XU).mono fun ps ⟨l,h1,h2,h3⟩=>by
  obtain⟨m,rfl,hm⟩:=maps (g:=ge) (Q:=fun c=>InL c.2) (fun ps h=>h) h2
  exact⟨m,h1,fun c hc=>⟨(hm c hc).xX,(hm c hc).len⟩,by rw [List.length_map]at h3;simp only [maxLen]at h3;omega⟩
theorem K9:qZ Tryz.prog 3 (fun q=>∃n:Int,q = .int .i64 n ∧ -9223372036854775808≤n∧n<9223372036854775808):=
 (qZ.int .i64 (by kernel_rfl)).mono fun q ⟨n,h1,h2,h3⟩=>⟨n,h1,by simpa [IntKind.min,IntKind.signed,IntKind.bits]using h2,by simp [IntKind.max,IntKind.signed,IntKind.bits]at h3;omega⟩
theorem aex:qZ Tryz.prog 4 (fun q=>∃b,q = .bool b):=qZ.bool (by kernel_rfl)
theorem own:ownKnob Tryz.prog.godebug=none:=by kernel_rfl
theorem laidOut:laidOutB Tryz.prog=true:=by kernel_rfl
structure PD(x:List Int):Prop where
 sz:∀v∈x,sz LL v<1099511627774
 len:x.length<1099511627774
theorem PD.of{s n:Nat}{x:List Int}(h:Bd LL s n x)(hs:s<1099511627774)(hn:n<1099511627774):PD x:=⟨fun v hv=>Nat.lt_of_le_of_lt (h.sz v hv) hs,Nat.lt_of_le_of_lt h.len hn⟩
theorem aoS(v:Int):V 4294967296 (aP LL v.natAbs)=v.natAbs:=jG eB v.natAbs
theorem yC{v c:Int}(hv:sz LL v<1099511627774)(hc:sz LL c<1099511627774)(h0:c≠0):aD env.P 235 [I v,I c] (if v%c=0 then .fE [I (v/c), .int .i64 0]else .fE [I 0, .int .i64 3]):=by
 have:=UK (decide (v<0)) (decide (c<0)) (aP LL v.natAbs) (aP LL c.natAbs) ⟨eN eB _,by unfold sz at hv;omega⟩ ⟨eN eB _,by unfold sz at hc;omega⟩ hv hc (by rw [aoS];omega)
 rwa [tG,tG]at this
def k9(c v:Int):Int:=if v%c=0 then v/c else 0
theorem PK(x:List Int)(c:Int)(hx:PD x)(hc:sz LL c<1099511627774)(h0:c≠0):aD env.P 220 [Po x,I c] (Po (aL (x.map (k9 c)))):=by
 have hxl:=hx.len
 refine b6 [(0,Po x),(1,I c)] Tryz.func220 ?_
 refine aA [0,3] ?_
 refine aA [0,3,5] ?_
 refine W.row (id:=10) (emap ie (List.replicate x.length 0)) (by simp;exact⟨rfl,rfl,rfl⟩) (qW _) ?_
 refine aM [3,5,11,12,13] ?_
 refine W.block ?_
 refine W.bE (fun q σ=>∃(i:Nat) (z:List Int) (v10:Nat) (rows:Pm.Rows) (clk:Nat),σ=⟨fa [(3, .ptr 3 0 0 0),(5, .own 10 v10 0 x.length),(11,Po x),(12, .int .i64 x.length),(13, .int .i64 i)],rows,clk⟩ ∧
  rows 3=some ⟨0,38,2,[ie c]⟩∧rows 10=some ⟨v10,38,2,emap ie z⟩∧q=x.length-i∧i≤x.length∧z.length=x.length∧z.take i=(x.take i).map (k9 c)) x.length ?_ ?_
 ·exact⟨_, .refl,0,List.replicate x.length 0,_,_,_,rfl,by simp,by simp,by omega,by omega,by simp,by simp⟩
 rintro q _ ⟨i,z,v10,rows,clk,rfl,cM,lO,hq,hi,hz,hv⟩
 refine cB [3,5,11,12,13,14] ?_
 refine bF ?_ ?_<;>intro h
 ·have hi:i<x.length:=by simp at h;omega
  have hE:=yC (hx.sz _ (bS hi)) hc h0
  have hE2:aD env.P 235 [I (nth x i),I c] (.fE [I (k9 c (nth x i)), .int .i64 (if nth x i%c=0 then 0 else 3)]):=by
   unfold k9
   split at hE
   ·rename_i h1;rw [if_pos h1,if_pos h1];exact hE
   ·rename_i h1;rw [if_neg h1,if_neg h1];exact hE
  have hts:(x.take (i+1)).map (k9 c)=(x.take i).map (k9 c) ++ [k9 c (nth x i)]:=by rw [aY hi];simp
  generalize (if nth x i%c=0 then(0:Int)else 3)=er at *
  generalize k9 c (nth x i)=ev at *
  generalize hxe:nth x i=xi at *
  refine jV ?_
  refine W.sr ?_
  simp (disch:=omega) [gw,hxe]
  refine bN [3,5,6,7,11,12,13] ?_
  refine W.cE (fun K hK=>?_)
  simp (disch:=omega) [gw,cM]
  refine aB hE2 ?_
  simp (disch:=omega) [gw,lO,hz]
  refine W.lw [3,5,11,12,13] hK ?_;clear hK K;simp
  refine W.cE (fun K hK=>?_);simp (disch:=omega) [gw]
  refine hK _ ⟨x.length-(i+1),_,aC _ [3,5,11,12,13],by omega,i+1,z.set i ev,v10,_,_,rfl,by simp [cM],by simp,by omega,by omega,by simp [hz],?_⟩
  rw [kY hv (by omega),hts]
 ·have hi:i=x.length:=by simp at h;omega
  subst hi
  rw [bQ hz,List.take_length]at hv
  have uN:=bQ hz
  refine eV ?_
  have hzb:PB z:=by
   rw [hv]
   refine⟨fun v hv=>?_,by simpa using by omega⟩
   simp only [List.mem_map]at hv
   obtain⟨w,hw,rfl⟩:=hv
   have h1:=hx.sz w hw
   show sz LL (k9 c w)<1099511627776
   refine Nat.lt_of_le_of_lt (cK eB (y:=w) ?_) (by omega)
   unfold k9;split
   ·exact Int.natAbs_ediv_le_natAbs _ _
   ·simp
  have hN:=fR hzb
  rw [hv]at hN lO uN
  generalize x.map (k9 c)=y at *
  have OW:y.length=x.length:=by rw [←hv];exact hz
  refine W.sr ?_
  simp (disch:=omega) [gw,lO,uN]
  refine bU [4] hN ?_
  exact b7
theorem PL(l:List RP)(K0:Nat)(hK0:K0<1099511627774)(hp:∀p∈l,∀c∈p,cW 4294967296 c.2∧c.2.length≤K0)(hl:l.length<1099511627776)(hf:l.flatten.length<1099511627776) :
  aD env.P 219 [aG pe l] (I (bV (l.flatten.map gv))):=by
 refine b6 [(0,aG pe l)] Tryz.func219 ?_
 refine aA [0,2] ?_
 refine aA [0,2,3] ?_
 refine W.nil 3 3 38 2 (by simp) (by decide) (fun K hK=>?_)
 refine W.lw [0,2,3] hK ?_;clear hK K;simp
 refine aM [2,3,6,7,8] ?_
 refine W.block ?_
 refine W.bE (fun q σ=>∃(i v3:Nat) (A:RP) (rows:Pm.Rows) (clk:Nat),σ=⟨fa [(2, .ptr 2 0 0 0),(3, .own 3 v3 0 A.length),(6,aG pe l),(7, .int .i64 l.length),(8, .int .i64 i)],rows,clk⟩ ∧
  rows 2=some ⟨0,38,2,[[.bool false, .nil]]⟩∧rows 3=some ⟨v3,38,2,emap ge A⟩∧q=l.length-i∧i≤l.length∧A=(l.take i).flatten) l.length ?_ ?_
 ·exact⟨_, .refl,0,_,[],_,_,rfl,by simp,by simp [emap],by omega,by omega,by simp⟩
 rintro q _ ⟨i,v3,A,rows,clk,rfl,cC,cM,hq,hi,hA⟩
 refine cB [2,3,6,7,8,9] ?_
 refine bF ?_ ?_<;>intro h
 ·have hi:i<l.length:=by simp at h;omega
  have hfs:(l.take (i+1)).flatten=(l.take i).flatten++nth l i:=by rw [aY hi];simp
  have XV:(l.take (i+1)).flatten.length≤l.flatten.length:=by
   have e:=List.take_append_drop (i+1) l
   have e2:l.flatten=(l.take (i+1)).flatten++(l.drop (i+1)).flatten:=by rw [←List.flatten_append,e]
   rw [e2,List.length_append];omega
  have GJ:(l.take i).flatten.length+(nth l i).length<1099511627776:=by
   rw [hfs,List.length_append]at XV;omega
  have hls:(l.take (i+1)).flatten.length=(l.take i).flatten.length+(nth l i).length:=by rw [hfs,List.length_append]
  rw [←hA]at hfs GJ hls
  generalize hpe:nth l i=p at *
  refine jV ?_
  refine W.sr ?_
  simp (disch:=omega) [gw,hpe]
  refine bN [2,3,5,6,7,8] ?_
  refine W.cE (fun K hK=>?_)
  simp (disch:=omega) [gw,cM]
  refine W.lw [2,3,6,7,8] hK ?_;clear hK K;simp
  refine W.cE (fun K hK=>?_);simp (disch:=omega) [gw]
  refine hK _ ⟨l.length-(i+1),_,Gh.fr [(2, .ptr 2 0 0 0),(3, .own 3 _ 0 (A++p).length),(6,aG pe l),(7, .int .i64 l.length),(8, .int .i64 ((i+1:Nat):Int))] (by simp;exact rfl),by omega,i+1,_,A++p,_,_,rfl,by simp [cC],by simp,by omega,by omega,hfs.symm⟩
 ·have hi:i=l.length:=by simp at h;omega
  subst hi
  rw [List.take_length]at hA
  have hG:=EY l.flatten K0 hK0 (fun c hc=>by
   obtain⟨p,RZ,hcp⟩:=List.mem_flatten.1 hc
   exact hp p RZ c hcp) hf
  rw [←hA]at hG ⊢
  generalize (bV (A.map gv):Int)=g at *
  refine eV ?_
  refine W.sr ?_
  simp (disch:=omega) [gw,cM]
  refine aB hG ?_
  simp (disch:=omega) [gw,cC]
  refine bN [2] ?_
  exact b7
theorem mB{x:List Int}(hx:PB x)(hc:Cn x):aD env.P 110 [Po x] (I (lead x)):=by
 have:=O2 (x.map jD) hx.tL
 rw [show eX (x.map jD)=aL x by simp only [eX,bP],show aL x=x from hc,←fI]at this
 exact this
theorem lA(x:List Int)(hx:x.length<9223372036854775808):aD env.P 87 [Po x] (.int .i64 ((x.length:Int)-1)):=by
 have:=aiD (x.map jD) (by simpa using hx)
 rw [List.length_map,←fI]at this
 exact this
theorem iB{x:List Int}{c:Int}(hx:PB x)(hc:Sz c):aD env.P 201 [Po x,I c] (Po (aN x c)):=by
 have:=UA (x.map jD) hx.tL (decide (c<0)) (aP LL c.natAbs) hc.SA
 rw [bP,tG,←fI]at this
 exact this
theorem tM(i:Nat)(x:Int):(List.replicate (i+1) (0:Int)).set i x=sH i x:=by
 rw [List.replicate_succ',List.set_append]
 simp [sH]
theorem UO(a b:RP){s s' N:Nat}(ha:oQ a)(hb:oQ b)(sa:Bd LL s N (a.map gv))(sb:Bd LL s' N (b.map gv))(hB:s+N*(s'+N+1)+s'+N+N+10<1099511627774) :
  aD env.P 221 [Pg a,Pg b] (if eX b = []then .fE [Po [],Po [], .int .i64 0, .int .i64 2]else .fE [Po (BG (eX a) (eX b)).1,Po (BG (eX a) (eX b)).2, .int .i64 (jW (eX a) (eX b)), .int .i64 0]):=by
 have hA:Bd LL s N (eX a):=sa.cut
 have XW:Bd LL s' N (eX b):=sb.cut
 have ca:Cn (eX a):=Cn.cut _
 have cb:Cn (eX b):=Cn.cut _
 have na:=eY a ha
 have nb:=eY b hb
 rw [show aL (a.map gv)=eX a from rfl]at na
 rw [show aL (b.map gv)=eX b from rfl]at nb
 refine b6 [(0,Pg a),(1,Pg b)] Tryz.func221 ?_
 generalize eX a=x at *
 generalize eX b=y at *
 refine aA [0,1,4] ?_
 refine W.KS 4 (Po []) (by simp) rfl (fun K hK=>?_)
 refine W.lw [0,1,4] hK ?_;clear hK K;simp
 refine iM ?_
 refine bW na ?_
 refine bU [1,4,5] nb ?_
 refine aM [1,4,5,18] ?_
 refine bF ?_ ?_<;>intro h
 ·have h:y = []:=by simp at h;exact h
  rw [if_pos h]
  refine aA [4,5,6,7] ?_
  refine W.ret ?_
  simp [go]
  rfl
 have hy:y ≠ []:=by simp at h;exact h
 clear h
 rw [if_neg hy]
 have UB:0<y.length:=List.length_pos_iff.2 hy
 have hNx:=hA.len
 have hNy:=XW.len
 have hsy:=gO XW
 have hmN:N*(s'+N+1)≥0:=Nat.zero_le _
 have hL:=mB (PB.of XW (by omega) (by omega)) cb
 have hDx:=lA x (by omega)
 have hDy:=lA y (by omega)
 refine W.skip ?_
 refine aJ [1,4,5,8] hL ?_
 have hkk:(if (0:Int)<(x.length:Int)-1-((y.length:Int)-1)+1 then(x.length:Int)-1-((y.length:Int)-1)+1 else 0)=(jW x y:Int):=by unfold jW;split<;>omega
 refine iM ?_
 refine bW hDx ?_
 refine aB hDy ?_
 simp (disch:=omega) [gw,hkk]
 refine bN [1,4,5,6,8] ?_
 have hkN:jW x y≤N:=by unfold jW;omega
 have hsl:=hsy
 generalize hdd:s'+N+1=d at *
 have hNN:∀j,j≤N→(N-j)*d≤N*d:=fun j _=>Nat.mul_le_mul_right _ (by omega)
 refine aM [1,4,5,6,8,9] ?_
 refine W.block ?_
 refine W.bE (fun j σ=>∃(q r:List Int) (rows:Pm.Rows) (clk:Nat),σ=⟨fa [(1,Po y),(4,Po q),(5,Po r),(6, .int .i64 (jW x y)),(8, .ptr 8 0 0 0),(9, .int .i64 ((j:Int)-1))],rows,clk⟩ ∧
  rows 8=some ⟨0,38,2,[ie (lead y)]⟩∧j≤jW x y∧ps y (lead y) j q r=BG x y∧Bd LL (s+(N-j)*d) (N+N) q∧Bd LL (s+(N-j)*d) (N+N) r∧Cn r) (jW x y) ?_ ?_
 ·exact⟨_, .refl,[],x,_,_,rfl,by simp,by omega,rfl,⟨by simp,fun c hc=>by cases hc⟩,hA.mono (by omega) (by omega),ca⟩
 rintro j _ ⟨q,r,rows,clk,rfl,CK,hj,BK,bq,br,cr⟩
 refine aM [1,4,5,6,8,9,31] ?_
 refine bF ?_ ?_<;>intro h
 ·have hj0:0<j:=by simp at h;omega
  obtain⟨i,rfl⟩:∃i,j=i+1:=⟨j-1,by omega⟩
  clear h
  have ei:((i+1:Nat):Int)-1=i:=by omega
  rw [ei]
  have hN1:=hNN (i+1) (by omega)
  have hT:s+(N-i)*d=s+(N-(i+1))*d+s'+N+1:=by
   rw [show N-i=(N-(i+1))+1 by omega,Nat.add_mul,Nat.one_mul];omega
  obtain⟨b1,b2⟩:=EK eB XW bq br (show i<N by omega)
  rw [←hT]at b1 b2
  have GM:=hNN i (by omega)
  have hx:=adU (y:=y) (i:=i) br
  have bs:=Bd.sH hx i
  have hLr:=mB (PB.of br (by omega) (by omega)) cr
  have hDr:=lA r (by have:=br.len;omega)
  have bqs:=bq.aN eB hsy
  have brs:=br.aN eB hsy
  have bm:=bs.bH eB XW
  have f1:=iB (c:=lead y) (PB.of bq (by omega) (by omega)) (show sz LL (lead y)<1099511627776 by omega)
  have f2:=iB (c:=lead y) (PB.of br (by omega) (by omega)) (show sz LL (lead y)<1099511627776 by omega)
  have f3:=z5 (PB.of bqs (by omega) (by omega)) (PB.of bs (by omega) (by omega))
  have f4:=qE bs XW (by omega)
  have f5:=qD (PB.of brs (by omega) (by omega)) (PB.of bm (by omega) (by omega))
  rw [show fL (aN q (lead y)) (sH i (xU y r i))=psq (lead y) (xU y r i) i q from rfl]at f3
  rw [show dJ (aN r (lead y)) (bH (sH i (xU y r i)) y)=zG y (lead y) (xU y r i) i r from rfl]at f5
  have cr2:Cn (zG y (lead y) (xU y r i) i r):=Cn.dJ _ _
  have hpx:xU y r i=if r.length=y.length+i then lead r else 0:=rfl
  rw [ps]at BK
  generalize hq2:psq (lead y) (xU y r i) i q=q2 at *
  generalize cC:zG y (lead y) (xU y r i) i r=r2 at *
  generalize bH (sH i (xU y r i)) y=pm at *
  generalize aN q (lead y)=pq at *
  generalize aN r (lead y)=pr at *
  generalize xU y r i=xx at *
  have aeA:=tM i xx
  have aoU:(sH i xx).length=i+1:=by simp [sH]
  generalize lead r=lr at *
  generalize lead y=ly at *
  refine jV ?_
  refine aA [1,4,5,6,8,9,10] ?_
  refine W.row (id:=10) (els:=[[.bool false, .nil]]) [ie 0] (by simp;exact⟨rfl,rfl,rfl⟩) ⟨⟨.inl (by simp), .inr ⟨rfl,rfl⟩,trivial⟩,trivial⟩ ?_
  refine W.gJ (fun σ=>∃(v10:Nat) (rows:Pm.Rows) (clk:Nat),σ=⟨fa [(1,Po y),(4,Po q),(5,Po r),(6, .int .i64 (jW x y)),(8, .ptr 8 0 0 0),(9, .int .i64 i),(10, .ptr 10 v10 0 0)],rows,clk⟩∧rows 8=some ⟨0,38,2,[ie ly]⟩∧rows 10=some ⟨v10,38,2,[ie xx]⟩) ?_ ?_
  ·
   refine iM ?_
   refine bW hDr ?_
   refine bU [1,4,5,6,8,9,10,40] hDy ?_
   by_cases R8:r.length=y.length+i
   ·rw [if_pos R8]at hpx
    subst hpx
    refine bF ?_ ?_<;>intro h
    ·refine W.cE (fun K hK=>?_)
     simp (disch:=omega) [gw]
     refine bW hLr ?_
     exact hK _ ⟨_,aC _ [1,4,5,6,8,9,10],_,_,_,rfl,by simp [CK],by simp⟩
    ·exfalso;simp at h;omega
   ·rw [if_neg R8]at hpx
    subst hpx
    refine bF ?_ ?_<;>intro h
    ·exfalso;simp at h;omega
    ·refine W.skip ?_
     exact⟨_,aC _ [1,4,5,6,8,9,10],_,_,_,rfl,by simp [CK],by simp⟩
  rintro _ ⟨v10,rows,clk,rfl,CK,lO⟩
  have e9:((i:Int)+1).toNat=i+1:=by omega
  refine W.sr ?_
  simp (disch:=omega) [gw,e9]
  refine bN [1,4,5,6,8,9,10,11] ?_
  refine W.row (id:=45) (emap ie (List.replicate (i+1) 0)) (by simp;exact⟨rfl,rfl,rfl⟩) (qW _) ?_
  refine W.sr ?_
  simp (disch:=omega) [gw,lO,aeA]
  refine bN [1,4,5,6,8,9,11] ?_
  have iP:=bQ aoU
  refine W.freeze 45 (by simp) (fun K hK=>?_)
  simp [iP]
  refine hK _ ?_;clear hK K
  refine W.sr ?_
  simp (disch:=omega) [gw,CK]
  refine bW f1 ?_
  refine bU [1,4,5,6,8,9,11] f3 ?_
  refine W.cE (fun K hK=>?_)
  simp (disch:=omega) [gw,CK]
  refine bW f2 ?_
  refine bW f4 ?_
  refine bW f5 ?_
  refine W.lw [1,4,5,6,8,9] hK ?_;clear hK K;simp
  refine W.cE (fun K hK=>?_);simp (disch:=omega) [gw]
  refine hK _ ⟨i,_,aC _ [1,4,5,6,8,9],by omega,q2,r2,_,_,rfl,by simp [CK],by omega,BK,b1,b2,cr2⟩
 ·have hj0:j=0:=by simp at h;omega
  subst hj0
  simp only [ps]at BK
  rw [←BK]
  refine eV ?_
  refine aA [4,5,6,7] ?_
  exact b7
def kK(x:List Int):List Int:=aL (x.map (k9 (bV x)))
def PM(a b:List Int):List Int:=if jW a b%2=1∧lead b<0 then kK (fU (BG a b).2)else kK (BG a b).2
theorem fD(x:List Int):∀c∈x,((bV x:Nat):Int)∣c:=by
 have key:∀(l:List Int) (g:Nat),(∀c∈l,((l.foldl (fun g c=>Nat.gcd g c.natAbs) g:Nat):Int)∣c)∧l.foldl (fun g c=>Nat.gcd g c.natAbs) g∣g:=by
  intro l
  induction l with
  | nil=>intro g;exact⟨fun c hc=>(by cases hc),Nat.dvd_refl _⟩
  | cons c l ih =>
   intro g
   obtain⟨h1,h2⟩:=ih (Nat.gcd g c.natAbs)
   simp only [List.foldl_cons]
   refine⟨fun d hd=>?_,Nat.dvd_trans h2 (Nat.gcd_dvd_left _ _)⟩
   rcases List.mem_cons.1 hd with rfl | hd
   ·exact Int.ofNat_dvd_left.2 (Nat.dvd_trans h2 (Nat.gcd_dvd_right _ _))
   ·exact h1 d hd
 exact(key x 0).1
theorem PN{x:List Int}{c:Int}(hc:c∈x)(h:c≠0):bV x≠0:=by
 intro h0
 have:=fD x c hc
 rw [h0]at this
 obtain⟨k,hk⟩:=this
 simp at hk
 exact h hk
theorem c7{x:List Int}(hc:Cn x)(h:x ≠ []):bV x≠0:=by
 have hl:0<x.length:=List.length_pos_iff.2 h
 exact PN (c:=lead x) (bS (by omega)) (dK hc hl)
theorem XY{x:List Int}{s:Nat}(hx:∀c∈x,sz LL c≤s)(hc:Cn x)(h:x ≠ []):sz LL (bV x:Int)≤s:=by
 have hl:0<x.length:=List.length_pos_iff.2 h
 have hm:lead x∈x:=bS (by omega)
 refine Nat.le_trans (cK eB ?_) (hx _ hm)
 have:=Int.le_of_dvd (a:=(bV x:Int)) (b:=((lead x).natAbs:Int)) (by have:=dK hc hl;omega) (Int.dvd_natAbs.2 (fD x _ hm))
 omega
theorem yD(x:List Int)(hx:PD x):aD env.P 219 [.sl [[Po x]]] (I (bV x)):=by
 have hl:=hx.len
 have:=PL [x.map jD] 1099511627773 (by decide) (fun p hp c hc=>by
  simp only [List.mem_singleton]at hp
  subst hp
  simp only [List.mem_map]at hc
  obtain⟨v,hv,rfl⟩:=hc
  have h1:=hx.sz v hv
  exact⟨eN eB _,by unfold sz at h1;show(aP LL v.natAbs).length≤_;omega⟩) (by simp) (by simp;omega)
 have e:([x.map jD].flatten.map gv)=x:=by simp only [List.flatten_cons,List.flatten_nil,List.append_nil,bP]
 rw [e]at this
 have e2:aG pe [x.map jD] = .sl [[Po x]]:=by rw [fI];rfl
 rw [e2]at this
 exact this
theorem PO(a b:RP){s s' N:Nat}(ha:oQ a)(hb:oQ b)(sa:Bd LL s N (a.map gv))(sb:Bd LL s' N (b.map gv))(hB:s+N*(s'+N+1)+s'+N+N+10<1099511627774) :
  aD env.P 154 [Pg a,Pg b] (if eX b = []then .fE [Po [], .int .i64 2]else .fE [Po (PM (eX a) (eX b)), .int .i64 0]):=by
 have hP:=UO a b ha hb sa sb hB
 have hL:=O2 b hb
 have hA:Bd LL s N (eX a):=sa.cut
 have XW:Bd LL s' N (eX b):=sb.cut
 have ca:Cn (eX a):=Cn.cut _
 refine b6 [(0,Pg a),(1,Pg b)] Tryz.func154 ?_
 generalize eX a=x at *
 generalize eX b=y at *
 refine aA [0,1] ?_
 by_cases hy:y = []
 ·rw [if_pos hy]at hP ⊢
  refine aJ [1,7,8,9] hP ?_
  refine aM [1,7,8,9,19] ?_
  refine bF ?_ ?_<;>intro h
  ·refine aA [4,5] ?_
   refine W.ret ?_
   simp [go]
   rfl
  ·cases h
 rw [if_neg hy]at hP ⊢
 have UB:0<y.length:=List.length_pos_iff.2 hy
 have hkN:jW x y≤N:=by unfold jW;have:=hA.len;omega
 obtain⟨_,zP⟩:=adV eB XW (jW x y) s [] x hkN ⟨by simp,fun c hc=>by cases hc⟩ (hA.mono (by omega) (by omega))
 obtain⟨_,cr⟩:=EL (b:=y) ca
 rw [show(ps y (lead y) (jW x y) [] x)=BG x y from rfl]at zP
 have hmul:=Nat.mul_le_mul_right (s'+N+1) hkN
 have OY:=IP (PB.of zP (by omega) (by omega))
 refine aJ [1,7,8,9] hP ?_
 refine aM [1,7,8,9,19] ?_
 refine bF ?_ ?_<;>intro h
 ·cases h
 refine W.skip ?_
 obtain⟨r2,cC⟩:∃r2,r2=if jW x y%2=1∧lead y<0 then fU (BG x y).2 else(BG x y).2:=⟨_,rfl⟩
 have au1:PM x y=kK r2:=by rw [cC,PM];split<;>rfl
 have hbr:PD r2:=by
  rw [cC];split
  ·exact PD.of zP.fU (by omega) (by omega)
  ·exact PD.of zP (by omega) (by omega)
 have hcr:Cn r2:=by
  rw [cC];split
  ·exact Cn.fU _
  ·exact cr
 rw [au1]
 refine W.gJ (fun σ=>∃(rows:Pm.Rows) (clk:Nat),σ=⟨fa [(7,Po r2)],rows,clk⟩) ?_ ?_
 ·
  by_cases hk:jW x y%2=1
  ·refine W.fY (fun σ=>∃(rows:Pm.Rows) (clk:Nat),σ=⟨fa [(7,Po (BG x y).2),(28, .bool (decide (lead y<0)))],rows,clk⟩) (fun K hK=>?_) ?_
   ·have zB:(jW x y:Int)%2=1:=by omega
    simp (disch:=omega) [gw,zB]
    refine bW hL ?_
    exact hK _ _ (aC _ [7,28]) ⟨_,_,rfl⟩
   rintro _ ⟨rows,clk,rfl⟩
   refine W.adL (lead y<0) rfl (fun h=>?_) (fun h=>?_)
   ·rw [if_pos ⟨hk,h⟩]at cC
    subst cC
    refine W.cE (fun K hK=>?_)
    simp (disch:=omega) [gw]
    refine bW OY ?_
    exact hK _ ⟨_,aC _ [7],_,_,rfl⟩
   ·rw [if_neg (fun h2=>h h2.2)]at cC
    subst cC
    refine W.skip ?_
    exact⟨_,aC _ [7],_,_,rfl⟩
  ·rw [if_neg (fun h2=>hk h2.1)]at cC
   subst cC
   refine W.fY (fun σ=>∃(rows:Pm.Rows) (clk:Nat),σ=⟨fa [(7,Po (BG x y).2),(28, .bool false)],rows,clk⟩) (fun K hK=>?_) ?_
   ·have zB:((jW x y:Int)%2==1)=false:=by simp;omega
    simp (disch:=omega) [gw,zB]
    exact hK _ _ (aC _ [7,28]) ⟨_,_,rfl⟩
   rintro _ ⟨rows,clk,rfl⟩
   refine bF ?_ ?_<;>intro h
   ·cases h
   ·refine W.skip ?_
    exact⟨_,aC _ [7],_,_,rfl⟩
 rintro _ ⟨rows,clk,rfl⟩
 clear cC au1
 refine aM [7,33] ?_
 refine bF ?_ ?_<;>intro h
 ·have h:r2 = []:=by simp at h;exact h
  subst h
  refine aA [4,5] ?_
  refine W.ret ?_
  simp [go]
  rfl
 ·have h:r2 ≠ []:=by simp at h;exact h
  have hC:=yD r2 hbr
  have hgp:=c7 hcr h
  have hO:=PK r2 (bV r2) hbr (Nat.lt_of_le_of_lt (XY (s:=1099511627773) (fun c hc=>by have:=hbr.sz c hc;omega) hcr h) (by decide)) (by omega)
  rw [show aL (r2.map (k9 (bV r2)))=kK r2 from rfl]at hO
  generalize (bV r2:Int)=g at *
  generalize kK r2=pr at *
  refine W.skip ?_
  refine iM ?_
  refine bW hC ?_
  refine bU [4,5] hO ?_
  exact b7
end Go.Proofs.YtelhfbikiccfkaaGreat
