import Derived.DeepKeys
import Derived.Test.YtiobceocpabjdaaGreatCae
import Derived.Test.YtiobceocpabjdaaGreatCah
set_option linter.unusedSimpArgs false
set_option linter.unusedVariables false
namespace Go.Proofs.YtiobceocpabjdaaGreat
open Go Pm
abbrev Y(x:Int):Prop:=sz 2 x<549755813888
theorem Y.z{x:Int}(h:Y x):Z x:=by simp only [Y,Z]at *;omega
theorem vJ{x y:Int}(h:Y y)(KX:x.natAbs≤y.natAbs):Y x:=Nat.lt_of_le_of_lt (cQ (by decide) KX) h
theorem sJ{x y:Int}:iG x y≤0↔x≤y:=by simp only [iG];split<;>(try split)<;>omega
@[simp] theorem agK{l:List Int}{x:Int}:[PV.int .i64 x]::emap aO l=emap aO (x::l):=by simp [emap]
@[simp] theorem XZ{l:List Int}:(∀e∈emap aO l,∀p∈e,bL p=true)=True:=by simp [emap]
theorem MH{l:List Int}(h:b6 10000 l)(k:Nat)(hk:k≤l.length):V 10000 (l.drop k)≤V 10000 l:=by
 rw [iF l k hk]
 have h1:=bH (by decide) (h.take k)
 have h2:=bH (by decide) (h.drop k)
 have h3:1≤(10000:Int)^k:=Int.pow_pos (by decide)
 have h4:=Int.mul_le_mul_of_nonneg_right h3 h2
 omega
theorem DH(x y:Int)(hx:0≤x)(hy:0<y)(zx:Y x)(zy:Y y):aZ env.P 209 [Dn x,Dn y] (.eQ [Dn (x/y),Dn (x%y)]):=by
 have hal:(a5 DD x.toNat).length<549755813888:=Nat.lt_of_le_of_lt (iL hx) zx
 have la:=jJ x.toNat
 have hVa:=qH hx
 refine cL [(0,Dn x),(1,Dn y)] Tryz.func209 ?_
 simp only [Dn]
 generalize ha:a5 DD x.toNat=a at *
 refine aB [0,1] ?_
 refine aB [0,1,6] ?_
 refine aB [0,1,6,7] ?_
 refine W.Q8 7 (Dn 0) (by simp) rfl (fun K hK=>?_)
 refine W.lw [0,1,6,7] hK ?_;clear hK K;simp
 refine aQ [0,1,6,7,8] ?_
 refine W.block ?_
 refine W.a9 (fun k σ=>∃(r:Int) (z:List Int) (ver:Nat) (rows:Pm.Rows) (clk:Nat),σ=⟨fa [(0,aX aO a),(1,Dn y),(6, .own 14 ver 0 a.length),(7,Dn r),(8, .int .i64 ((k:Int)-1))],rows,clk⟩ ∧
  rows 14=some ⟨ver,3,1,emap aO z⟩∧k≤a.length∧z.length=a.length∧b6 10000 z∧0≤r∧r<y∧V 10000 (a.drop k)=y*V 10000 (z.drop k)+r) a.length ?_ ?_
 ·exact⟨_,Gh.fr [(0,aX aO a),(1,Dn y),(6, .own 14 0 0 a.length),(7,Dn 0),(8, .int .i64 ((a.length:Int)-1))] (by simp),0,List.replicate a.length 0,_,_,_,rfl,by simp,by omega,by simp,b6.rep (by decide) _,by omega,hy,by simp [V]⟩
 rintro k _ ⟨r,z,ver,rows,clk,rfl,hr,hk,hz,lz,E3,I8,hV⟩
 refine aQ [0,1,6,7,8,19] ?_
 refine bO ?_ ?_<;>intro h
 ·simp at h
  obtain⟨j,rfl⟩:∃j,k=j+1:=⟨k-1,by omega⟩
  clear h
  have hxj:=la.nth (i:=j) (by omega)
  have hVz:=bH (by decide) (lz.drop (j+1))
  have hyV:=Int.mul_nonneg (Int.le_of_lt hy) hVz
  have hR:V 10000 (a.drop j)=y*(10000*V 10000 (z.drop (j+1)))+(nth a j+10000*r):=by
   rw [dW (l:=a) (i:=j) (by omega)];simp only [V];rw [hV];grind
  have hRx:nth a j+10000*r≤x:=by
   have h1:=MH la j (by omega)
   have h2:0≤y*(10000*V 10000 (z.drop (j+1))):=Int.mul_nonneg (Int.le_of_lt hy) (by omega)
   omega
  have RG:(a5 DD r.toNat).length<549755813888:=Nat.lt_of_le_of_lt (iL E3) (vJ zy (by omega))
  have lU:aX aO (aG (nth a j::a5 DD r.toNat))=Dn (nth a j+10000*r):=by
   rw [pL (b6.cons.2 ⟨hxj,jJ _⟩)]
   simp only [V,qH E3]
  refine iS ?_
  refine j1 ?_
  refine aD (k5 (nth a j::a5 DD r.toNat) (by simp;omega)) ?_
  rw [lU]
  have F6:0≤nth a j+10000*r:=by omega
  have hR1:nth a j+10000*r<y*10000:=by omega
  have zR:Y (nth a j+10000*r):=vJ zx (by omega)
  generalize nth a j+10000*r=R at *
  simp (disch:=omega) [gw]
  refine bF [0,1,6,7,8] ?_
  refine cH [0,1,6,7,8,9,10] ?_
  refine W.block ?_
  refine W.a9 (fun m σ=>∃(lo hi:Int),σ=⟨fa [(0,aX aO a),(1,Dn y),(6, .own 14 ver 0 a.length),(7,Dn R),(8, .int .i64 (j:Int)),(9, .int .i64 lo),(10, .int .i64 hi)],rows,clk⟩ ∧
   m=(hi-lo).toNat∧0≤lo∧lo≤hi∧hi≤9999∧y*lo≤R∧R<y*(hi+1)) 9999 ?_ ?_
  ·exact⟨_,Gh.fr [(0,aX aO a),(1,Dn y),(6, .own 14 ver 0 a.length),(7,Dn R),(8, .int .i64 (j:Int)),(9, .int .i64 0),(10, .int .i64 9999)] (by simp),0,9999,rfl,by decide,by omega,by omega,by omega,by omega,by omega⟩
  rintro m _ ⟨lo,hi,rfl,hm,BP,hlh,OP,h1,h2⟩
  refine aQ [0,1,6,7,8,9,10,32] ?_
  refine bO ?_ ?_<;>intro h
  ·simp at h
   refine W.skip ?_
   refine W.block ?_
   refine aB [0,1,6,7,8,9,10,11] ?_
   have E8:lo<(lo+hi+1)/2:=by omega
   have hm2:(lo+hi+1)/2≤hi:=by omega
   generalize (lo+hi+1)/2=OB at *
   have hp:0≤y*OB:=Int.mul_nonneg (by omega) (by omega)
   have zp:Z (y*OB):=by
    have h3:sz 2 OB≤14:=cX (by decide) (by simp;omega)
    have h4:=cZ (b:=2) (by decide) (Nat.le_refl (sz 2 y)) h3
    simp only [Z,Y]at *;omega
   have hma:=nJ y OB 0 (by omega) zy.z (by omega) (by omega) (by decide) (by decide)
   rw [Int.add_zero]at hma
   refine j1 ?_
   refine cM hma ?_
   refine c7 [0,1,6,7,8,9,10,11,43] (DE (y*OB) R hp F6 zp zR.z) ?_
   refine bO ?_ ?_<;>intro h
   ·have h:=sJ.1 (of_decide_eq_true h)
    refine W.cA (fun K hK=>?_);simp (disch:=omega) [gw]
    exact hK _ ⟨(hi-OB).toNat,_,aC _ [0,1,6,7,8,9,10],by omega,OB,hi,rfl,rfl,by omega,by omega,by omega,h,h2⟩
   ·have h:=of_decide_eq_false h
    rw [sJ]at h
    refine W.cA (fun K hK=>?_);simp (disch:=omega) [gw]
    refine hK _ ⟨(OB-1-lo).toNat,_,aC _ [0,1,6,7,8,9,10],by omega,lo,OB-1,rfl,rfl,by omega,by omega,by omega,h1,?_⟩
    rw [show OB-1+1=OB by omega];omega
  ·simp at h
   have aoB:lo=hi:=by omega
   subst aoB
   have hp:0≤y*lo:=Int.mul_nonneg (by omega) (by omega)
   have zp:Y (y*lo):=vJ zR (by omega)
   have hma:=nJ y lo 0 (by omega) zy.z (by omega) (by omega) (by decide) (by decide)
   rw [Int.add_zero]at hma
   refine eH ?_
   refine W.sr ?_
   simp (disch:=omega) [gw,hr]
   refine bF [0,1,6,7,8,9] ?_
   refine W.cA (fun K hK=>?_)
   simp (disch:=omega) [gw]
   refine cM hma ?_
   refine cM (vI R (y*lo) hp h1 zR.z) ?_
   refine W.lw [0,1,6,7,8] hK ?_;clear hK K;simp
   refine W.cA (fun K hK=>?_);simp (disch:=omega) [gw]
   refine hK _ ⟨j,_,aC _ [0,1,6,7,8],by omega,R-y*lo,z.set j lo,ver,_,_,rfl,by simp,by omega,by simpa using hz,lz.set (by omega),by omega,by rw [Int.mul_add]at h2;omega,?_⟩
   rw [hR,dW (l:=z.set j lo) (i:=j) (by simp;omega),dI (by omega),List.drop_set_of_lt (by omega)]
   simp only [V]
   grind
 ·simp at h
  have wQ:k=0:=by omega
  subst wQ
  simp only [List.drop_zero]at hV
  have ez:z.take a.length=z:=bA hz
  have hzn:=bH (by decide) lz
  rw [hVa]at hV
  have e1:x/y=V 10000 z:=by
   rw [hV,Int.mul_add_ediv_left _ _ (by omega),Int.ediv_eq_zero_of_lt E3 I8];simp
  have e2:x%y=r:=by
   rw [hV,Int.mul_add_emod_self_left,Int.emod_eq_of_lt E3 I8]
  refine eH ?_
  refine W.sr ?_
  simp (disch:=omega) [gw,hr,ez]
  refine aD (k5 z (by omega)) ?_
  simp (disch:=omega) [gw]
  refine bF [4,5] ?_
  refine W.ret ?_
  have h4:=pL lz
  simp only [Dn]at h4
  rw [e1,e2,←h4]
  simp [go]
theorem vK(a b:Int)(za:Y a)(zb:Y b):aZ env.P 126 [RI a,RI b] (RI (Int.gcd a b)):=by
 refine cL [(0,RI a),(1,RI b)] Tryz.func126 ?_
 refine aB [2,3,4] ?_
 refine oW ?_
 refine bF [4,5,6] ?_
 refine W.seq ?_
 refine W.block ?_
 refine W.a9 (fun k σ=>∃(x:Nat) (rows:Pm.Rows) (clk:Nat),σ=⟨fa [(4, .ptr 4 2 0 0),(5,aX aO (a5 DD x)),(6,aX aO (a5 DD k))],rows,clk⟩∧rows 4=some ⟨2,29,2,[[.nil, .bool false]]⟩∧Nat.gcd x k=Int.gcd a b∧Y (x:Int)∧Y (k:Int)) b.natAbs ?_ ?_
 ·exact⟨_, .refl,a.natAbs,_,_,rfl,by simp,rfl,by simpa [Y,sz]using za,by simpa [Y,sz]using zb⟩
 rintro k _ ⟨x,rows,clk,rfl,fT,hg,zx,zk⟩
 have e0:(a5 DD k).length=0↔k=0:=by rw [List.length_eq_zero_iff,dF E9]
 refine aQ [4,5,6,15] ?_
 refine bO ?_ ?_<;>intro h
 ·have wQ:k≠0:=by intro h0;have h1:=e0.2 h0;simp at h;omega
  have hdiv:=DH (x:Int) (k:Int) (by omega) (by omega) zx zk
  have em:(((x:Int)%k).toNat)=x%k:=by rw [←Int.natCast_emod];exact Int.toNat_natCast _
  have ed:(((x:Int)/k).toNat)=x/k:=by rw [←Int.natCast_ediv];exact Int.toNat_natCast _
  simp only [Dn,em,ed,Int.toNat_natCast]at hdiv
  have jH:=Nat.mod_lt x (show k>0 by omega)
  have s0:Nat.gcd k (x%k)=Int.gcd a b:=by rw [←hg,Nat.gcd_comm x k,Nat.gcd_rec k x,Nat.gcd_comm]
  have zm:Y ((x%k:Nat):Int):=vJ zk (by simp only [Int.natAbs_natCast];omega)
  refine W.skip ?_
  refine W.block ?_
  refine j1 ?_
  refine aD hdiv ?_
  generalize x%k=y at *
  simp (disch:=omega) [gw]
  refine bF [4,6,8] ?_
  refine W.cA (fun K hK=>?_);simp (disch:=omega) [gw]
  exact hK _ ⟨y,_,aC _ [4,5,6],jH,k,_,_,rfl,by simp [fT],s0,zk,zm⟩
 ·have wQ:k=0:=by rw [←e0];simp at h;simp [h]
  subst wQ
  rw [Nat.gcd_zero_right]at hg
  subst hg
  refine eH ?_
  refine W.sr ?_
  simp (disch:=omega) [gw,fT]
  refine bF [4] ?_
  exact cV
theorem HB(a b:Int):(if decide (a<0) != decide (b<0)then -((a.natAbs/b.natAbs:Nat):Int)else((a.natAbs/b.natAbs:Nat):Int))=a.tdiv b:=by
 have h:∀x y:Nat,((x/y:Nat):Int)=(x:Int).tdiv y:=fun x y=>by rw [Int.natCast_ediv,Int.tdiv_eq_ediv_of_nonneg (by omega)]
 rw [h]
 by_cases h1:a<0<;>by_cases h2:b<0
 ·simp only [h1,h2,show(a.natAbs:Int) = -a by omega,show(b.natAbs:Int) = -b by omega];simp
 ·simp only [h1,h2,show(a.natAbs:Int) = -a by omega,show(b.natAbs:Int)=b by omega];simp
 ·simp only [h1,h2,show(a.natAbs:Int)=a by omega,show(b.natAbs:Int) = -b by omega];simp
 ·simp only [h1,h2,show(a.natAbs:Int)=a by omega,show(b.natAbs:Int)=b by omega];simp
theorem qI(a b:Int)(hb:b≠0)(za:Y a)(zb:Y b):aZ env.P 127 [RI a,RI b] (RI (a.tdiv b)):=by
 have hdiv:=DH (a.natAbs:Int) (b.natAbs:Int) (by omega) (by omega) (by simpa [Y,sz]using za) (by simpa [Y,sz]using zb)
 have em:(((a.natAbs:Int)%b.natAbs).toNat)=a.natAbs%b.natAbs:=by rw [←Int.natCast_emod];exact Int.toNat_natCast _
 have ed:(((a.natAbs:Int)/b.natAbs).toNat)=a.natAbs/b.natAbs:=by rw [←Int.natCast_ediv];exact Int.toNat_natCast _
 have hs:=HB a b
 refine cL [(0,RI a),(1,RI b)] Tryz.func127 ?_
 refine aB [2,3,4] ?_
 simp only [Dn,em,ed,Int.toNat_natCast]at hdiv
 generalize a.natAbs/b.natAbs=q at *
 generalize a.natAbs%b.natAbs=r at *
 refine bT [2,3,4,5] hdiv ?_
 refine j1 ?_
 refine aD (j3 q (decide (a<0) != decide (b<0))) ?_
 rw [hs]
 simp (disch:=omega) [gw]
 refine bF [4] ?_
 exact cV
def re(q:Rat):List PV:=[aX aO (a5 DD q.num.natAbs), .bool (decide (q.num<0)),aX aO (a5 DD q.den), .bool false]
@[simp] theorem aoC{q:Rat}:re q = [aX aO (a5 DD q.num.natAbs), .bool (decide (q.num<0)),aX aO (a5 DD q.den), .bool false]:=rfl
abbrev RR(q:Rat):PV:=.ag (re q)
def dA(n d:Int):Rat:=if d=0 then n else Rat.divInt n d
theorem i5(n:Int):dA n 1=n:=by
 rw [dA,if_neg (by decide),Rat.divInt_eq_div]
 grind
structure ZR(k:Nat)(q:Rat):Prop where
 n:sz 2 q.num≤k
 d:sz 2 (q.den:Int)≤k
abbrev YY:Nat:=137438953472
theorem tN(n d:Int)(hd:d≠0):(dA n d).num=(if d<0 then -n else n)/(Int.gcd (if d<0 then -n else n) (if d<0 then -d else d)):=by
 rw [dA,if_neg hd,Rat.num_divInt]
 by_cases h:d<0
 ·simp only [h,if_true]
  rw [Int.sign_eq_neg_one_of_neg h,Int.gcd_comm d n,Int.neg_gcd,Int.gcd_neg];simp
 ·simp only [h,if_false]
  rw [Int.sign_eq_one_of_pos (by omega),Int.gcd_comm d n];simp
theorem tO(n d:Int)(hd:d≠0):((dA n d).den:Int)=(if d<0 then -d else d)/(Int.gcd (if d<0 then -n else n) (if d<0 then -d else d)):=by
 rw [dA,if_neg hd,Rat.den_divInt,if_neg hd]
 by_cases h:d<0
 ·simp only [h,if_true]
  rw [Int.gcd_comm d n,Int.neg_gcd,Int.gcd_neg]
  rw [Int.natCast_ediv];congr 1;omega
 ·simp only [h,if_false]
  rw [Int.gcd_comm d n,Int.natCast_ediv];congr 1;omega
theorem vL{q:Rat}{n d:Int}(h1:q.num=n)(h2:(q.den:Int)=d):RR q = .ag [aX aO (a5 DD n.natAbs), .bool (decide (n<0)),aX aO (a5 DD d.natAbs), .bool (decide (d<0))]:=by
 subst h1;subst h2
 have:¬((q.den:Int)<0):=by omega
 simp [this]
theorem jD(n d:Int)(zn:Y n)(zd:Y d):aZ env.P 60 [RI n,RI d] (RR (dA n d)):=by
 refine b9 (E:=env) (fun id=>if id=4 then 2 else 0) [(0,RI n),(1,RI d)] Tryz.func60 rfl (by kernel_rfl) (by kernel_rfl) (show 2≤39 by decide) (by simp) ?_
 refine aB [2,3,4] ?_
 refine W.gK (fun σ=>∃(d1:Int) (rows:Pm.Rows) (clk:Nat),σ=⟨fa [(2, .ptr 2 0 0 0),(3, .ptr 3 1 0 0),(4, .ptr 4 2 0 0)],rows,clk⟩∧rows 2=some ⟨0,29,2,[[aX aO (a5 DD n.natAbs), .bool (decide (n<0))]]⟩ ∧
  rows 3=some ⟨1,29,2,[[aX aO (a5 DD d1.natAbs), .bool (decide (d1<0))]]⟩∧rows 4=some ⟨2,31,4,[[.nil, .bool false, .nil, .bool false]]⟩∧d1≠0∧dA n d=dA n d1∧Y d1) ?_ ?_
 ·
  refine bT [2,3,4,7] (yK d) ?_
  refine bO ?_ ?_<;>intro h
  ·have h:=of_decide_eq_true h
   subst h
   refine W.cA (fun K hK=>?_)
   simp (disch:=omega) [gw]
   refine aD (lT 1 (by decide) (by decide)) ?_
   simp (disch:=omega) [gw]
   refine hK _ ⟨_,aC _ [2,3,4],1,_,_,rfl,by simp,by simp,by simp,by decide,by rw [i5];simp [dA],?_⟩
   have:sz 2 1≤1:=cX (by decide) (by decide)
   simp only [Y];omega
  ·have h:=of_decide_eq_false h
   refine W.skip ?_
   exact⟨_,aC _ [2,3,4],d,_,_,rfl,by simp,by simp,by simp,h,rfl,zd⟩
 rintro _ ⟨d1,rows,clk,rfl,dB,c5,fT,VE,hq,zd1⟩
 rw [hq]
 have q1:=tN n d1 VE
 have q2:=tO n d1 VE
 generalize dA n d1=q at *
 clear hq zd d
 refine W.gK (fun σ=>∃(n2 d2:Int) (rows:Pm.Rows) (clk:Nat),σ=⟨fa [(2, .ptr 2 0 0 0),(3, .ptr 3 1 0 0),(4, .ptr 4 2 0 0)],rows,clk⟩∧rows 2=some ⟨0,29,2,[[aX aO (a5 DD n2.natAbs), .bool (decide (n2<0))]]⟩ ∧
  rows 3=some ⟨1,29,2,[[aX aO (a5 DD d2.natAbs), .bool (decide (d2<0))]]⟩∧rows 4=some ⟨2,31,4,[[.nil, .bool false, .nil, .bool false]]⟩∧0<d2∧q.num=n2/Int.gcd n2 d2∧(q.den:Int)=d2/Int.gcd n2 d2∧Y n2∧Y d2) ?_ ?_
 ·
  refine W.sr ?_
  simp (disch:=omega) [gw,c5]
  refine bF [2,3,4,10] ?_
  refine bO ?_ ?_<;>intro h
  ·have h:=of_decide_eq_true h
   simp only [h,if_true]at q1 q2
   have hn:=nM n
   have hd:=nM d1
   have zn2:Y (-n):=by simpa [Y,nD]using zn
   have zd2:Y (-d1):=by simpa [Y,nD]using zd1
   obtain⟨n2,hn2⟩:∃m,m = -n:=⟨_,rfl⟩
   obtain⟨d2,K4⟩:∃m,m = -d1:=⟨_,rfl⟩
   rw [←hn2]at hn zn2 q1 q2
   rw [←K4]at hd zd2 q1 q2
   refine W.CS (fun K hK=>?_)
   rw [if_pos rfl,eL]
   simp (disch:=omega) [gw,dB]
   refine aD hn ?_
   simp (disch:=omega) [gw,dB,c5]
   refine aD hd ?_
   simp (disch:=omega) [gw,dB,c5]
   exact hK _ ⟨_,aC _ [2,3,4],n2,d2,_,_,rfl,by simp,by simp,by simp [fT],by omega,q1,q2,zn2,zd2⟩
  ·have h:=of_decide_eq_false h
   simp only [h,if_false]at q1 q2
   refine W.skip ?_
   exact⟨_,aC _ [2,3,4],n,d1,_,_,rfl,dB,c5,fT,by omega,q1,q2,zn,zd1⟩
 clear dB c5 fT q1 q2
 rintro _ ⟨n2,d2,rows,clk,rfl,dB,c5,fT,h0,q1,q2,zn2,zd2⟩
 refine W.seq ?_
 refine W.fW (fun σ=>∃(b:Bool),σ=⟨fa [(2, .ptr 2 0 0 0),(3, .ptr 3 1 0 0),(4, .ptr 4 2 0 0),(25, .bool b)],rows,clk⟩∧(b=true↔(a5 DD d2.natAbs).length=1∧nth (a5 DD d2.natAbs) 0=1)) (fun K hK=>?_) ?_
 ·by_cases h1:(a5 DD d2.natAbs).length=1
  ·have h2:((a5 DD d2.natAbs).length:Int)=1:=by omega
   simp (disch:=omega) [gw,c5,h1,h2]
   exact hK _ _ (aC _ [2,3,4,25]) ⟨_,rfl,by simp [h1]⟩
  ·have h2:¬((a5 DD d2.natAbs).length:Int)=1:=by omega
   have h3:(((a5 DD d2.natAbs).length:Int)==1)=false:=by simpa using h2
   simp (disch:=omega) [gw,c5,h3]
   exact hK _ _ (aC _ [2,3,4,25]) ⟨_,rfl,by simp [h1,h2]⟩
 rintro _ ⟨b,rfl,hb⟩
 refine bO ?_ ?_<;>intro h
 ·have hb:=hb.1 h
  have K4:d2=1:=by
   have hv:=aj1 d2
   obtain⟨h1,h2⟩:=hb
   match hl:a5 DD d2.natAbs,h1 with
   | [x],_ =>
    rw [hl]at h2 hv
    simp [nth,V]at h2 hv
    omega
  subst K4
  rw [Int.gcd_one]at q1 q2
  rw [vL (n:=n2) (d:=1) (by simpa using q1) (by simpa using q2)]
  refine W.sr ?_
  simp (disch:=omega) [gw,dB,c5,fT]
  refine bF [4] ?_
  exact cV
 ·refine W.skip ?_
  have hgp:0<Int.gcd n2 d2:=Int.gcd_pos_of_ne_zero_right _ (by omega)
  have e1:n2.tdiv (Int.gcd n2 d2)=q.num:=by rw [q1];exact Int.tdiv_eq_ediv_of_dvd (Int.gcd_dvd_left ..)
  have e2:d2.tdiv (Int.gcd n2 d2)=q.den:=by rw [q2];exact Int.tdiv_eq_ediv_of_dvd (Int.gcd_dvd_right ..)
  have zg:Y (Int.gcd n2 d2:Int):=vJ zd2 (by
   have:=Int.le_of_dvd h0 (Int.gcd_dvd_right n2 d2);omega)
  have VF:=qI n2 (Int.gcd n2 d2) (by omega) zn2 zg
  have X0:=qI d2 (Int.gcd n2 d2) (by omega) zd2 zg
  rw [e1]at VF
  rw [e2]at X0
  have hg:=vK n2 d2 zn2 zd2
  obtain⟨g,V4⟩:∃g:Int,g=Int.gcd n2 d2:=⟨_,rfl⟩
  rw [←V4]at hg VF X0
  have hnn:¬((q.den:Int)<0):=by omega
  refine W.sr ?_
  simp (disch:=omega) [gw,dB,c5]
  refine aD hg ?_
  simp (disch:=omega) [gw,dB,c5]
  refine bF [2,3,4,5] ?_
  refine W.sd ?_
  simp (disch:=omega) [gw,dB,c5]
  refine aD VF ?_
  simp (disch:=omega) [gw,dB,c5]
  refine aD X0 ?_
  simp (disch:=omega) [gw,dB,c5,fT]
  refine bF [4] ?_
  refine W.ret ?_
  simp [go,hnn]
theorem qJ(n d:Int)(h1 : -9223372036854775808≤n∧n<9223372036854775808)(h2 : -9223372036854775808≤d∧d<9223372036854775808):aZ env.P 12 [.int .i64 n, .int .i64 d] (RR (dA n d)):=by
 have z:∀x:Int, -9223372036854775808≤x∧x<9223372036854775808→Y x:=fun x hx=>by
  have:sz 2 x≤64:=cX (by decide) (by omega)
  simp only [Y];omega
 have hm:=jD n d (z n h1) (z d h2)
 generalize dA n d=q at *
 refine cL [(0, .int .i64 n),(1, .int .i64 d)] Tryz.func12 ?_
 refine aB [0,1,4] ?_
 refine j1 ?_
 refine cM (lT n h1.1 h1.2) ?_
 refine cM (lT d h2.1 h2.2) ?_
 refine c7 [4] hm ?_
 exact cV
theorem DI(q:Rat):aZ env.P 108 [RR q] (RR (-q)):=by
 have hn:=nM q.num
 have e:RR (-q) = .ag [aX aO (a5 DD (-q.num).natAbs), .bool (decide (-q.num<0)),aX aO (a5 DD q.den), .bool false]:=rfl
 rw [e]
 generalize -q.num=m at *
 refine cL [(0,RR q)] Tryz.func108 ?_
 refine aB [1,2] ?_
 refine oW ?_
 refine c7 [2] hn ?_
 exact cV
theorem X1(p q:Rat):dA (p.num*q.den+q.num*p.den) ((p.den:Int)*q.den)=p+q:=by
 have h:((p.den:Int)*q.den)≠0:=by have:=p.den_nz;have:=q.den_nz;simp [Int.mul_eq_zero];omega
 rw [dA,if_neg h,Rat.add_def',←Int.natCast_mul,Rat.divInt_ofNat]
theorem X3(p q:Rat):dA (p.num*q.num) ((p.den:Int)*q.den)=p*q:=by
 have h:((p.den:Int)*q.den)≠0:=by have:=p.den_nz;have:=q.den_nz;simp [Int.mul_eq_zero];omega
 rw [dA,if_neg h,Rat.mul_def',←Int.natCast_mul,Rat.divInt_ofNat]
theorem X4(p q:Rat)(hq:q≠0):dA (p.num*q.den) ((p.den:Int)*q.num)=p/q:=by
 have hn:q.num≠0:=fun h=>hq (Rat.num_eq_zero.1 h)
 have h:((p.den:Int)*q.num)≠0:=by have:=p.den_nz;exact Int.mul_ne_zero (by omega) hn
 rw [dA,if_neg h,Rat.div_def,Rat.inv_def,←Rat.divInt_mul_divInt,Rat.num_divInt_den]
theorem DJ(p q:Rat)(hp:ZR YY p)(hq:ZR YY q):aZ env.P 225 [RR p,RR q] (RR (p+q)):=by
 have s1:=cZ (b:=2) (by decide) hp.n hq.d
 have s2:=cZ (b:=2) (by decide) hq.n hp.d
 have s3:=cZ (b:=2) (by decide) hp.d hq.d
 have s4:=pG (b:=2) (by decide) s1 s2
 have zz:∀ {x:Int},sz 2 x≤YY→Z x:=fun h=>by simp only [Z,YY]at *;omega
 have m1:=fI p.num q.den (zz hp.n) (zz hq.d)
 have m2:=fI q.num p.den (zz hq.n) (zz hp.d)
 have m3:=fI p.den q.den (zz hp.d) (zz hq.d)
 have m4:=DF (p.num*q.den) (q.num*p.den) (by simp only [Z,YY]at *;omega) (by simp only [Z,YY]at *;omega)
 have m5:=jD (p.num*q.den+q.num*p.den) ((p.den:Int)*q.den) (by simp only [Y,YY]at *;omega) (by simp only [Y,YY]at *;omega)
 rw [X1]at m5
 generalize p.num*q.den+q.num*p.den=x5 at *
 generalize p.num*q.den=x1 at *
 generalize q.num*(p.den:Int)=x2 at *
 generalize (p.den:Int)*q.den=x3 at *
 generalize hr:p+q=r at *
 have d1:RR p = .ag [aX aO (a5 DD p.num.natAbs), .bool (decide (p.num<0)),aX aO (a5 DD (p.den:Int).natAbs), .bool (decide ((p.den:Int)<0))]:=vL rfl rfl
 have d2:RR q = .ag [aX aO (a5 DD q.num.natAbs), .bool (decide (q.num<0)),aX aO (a5 DD (q.den:Int).natAbs), .bool (decide ((q.den:Int)<0))]:=vL rfl rfl
 rw [d1,d2]
 generalize (p.den:Int)=pd at *
 generalize (q.den:Int)=qd at *
 generalize p.num=pn at *
 generalize q.num=qn at *
 refine cL [(0, .ag [aX aO (a5 DD pn.natAbs), .bool (decide (pn<0)),aX aO (a5 DD pd.natAbs), .bool (decide (pd<0))]),(1, .ag [aX aO (a5 DD qn.natAbs), .bool (decide (qn<0)),aX aO (a5 DD qd.natAbs), .bool (decide (qd<0))])] Tryz.func225 ?_
 refine aB [2,3,4] ?_
 refine oW ?_
 refine cM m1 ?_
 refine cM m2 ?_
 refine cM m4 ?_
 refine cM m3 ?_
 refine c7 [4] m5 ?_
 exact cV
theorem DK(p q:Rat)(hp:ZR YY p)(hq:ZR YY q):aZ env.P 226 [RR p,RR q] (RR (p*q)):=by
 have s1:=cZ (b:=2) (by decide) hp.n hq.n
 have s2:=cZ (b:=2) (by decide) hp.d hq.d
 have zz:∀ {x:Int},sz 2 x≤YY→Z x:=fun h=>by simp only [Z,YY]at *;omega
 have m1:=fI p.num q.num (zz hp.n) (zz hq.n)
 have m2:=fI p.den q.den (zz hp.d) (zz hq.d)
 have m5:=jD (p.num*q.num) ((p.den:Int)*q.den) (by simp only [Y,YY]at *;omega) (by simp only [Y,YY]at *;omega)
 rw [X3]at m5
 generalize p.num*(q.num:Int)=x1 at *
 generalize (p.den:Int)*q.den=x2 at *
 generalize hr:p*q=r at *
 have d1:RR p = .ag [aX aO (a5 DD p.num.natAbs), .bool (decide (p.num<0)),aX aO (a5 DD (p.den:Int).natAbs), .bool (decide ((p.den:Int)<0))]:=vL rfl rfl
 have d2:RR q = .ag [aX aO (a5 DD q.num.natAbs), .bool (decide (q.num<0)),aX aO (a5 DD (q.den:Int).natAbs), .bool (decide ((q.den:Int)<0))]:=vL rfl rfl
 rw [d1,d2]
 generalize (p.den:Int)=pd at *
 generalize (q.den:Int)=qd at *
 generalize p.num=pn at *
 generalize q.num=qn at *
 refine cL [(0, .ag [aX aO (a5 DD pn.natAbs), .bool (decide (pn<0)),aX aO (a5 DD pd.natAbs), .bool (decide (pd<0))]),(1, .ag [aX aO (a5 DD qn.natAbs), .bool (decide (qn<0)),aX aO (a5 DD qd.natAbs), .bool (decide (qd<0))])] Tryz.func226 ?_
 refine aB [2,3,4] ?_
 refine oW ?_
 refine cM m1 ?_
 refine cM m2 ?_
 refine c7 [4] m5 ?_
 exact cV
theorem DL(p q:Rat)(hp:ZR YY p)(hq:ZR YY q)(h0:q≠0):aZ env.P 230 [RR p,RR q] (RR (p/q)):=by
 have s1:=cZ (b:=2) (by decide) hp.n hq.d
 have s2:=cZ (b:=2) (by decide) hp.d hq.n
 have zz:∀ {x:Int},sz 2 x≤YY→Z x:=fun h=>by simp only [Z,YY]at *;omega
 have m1:=fI p.num q.den (zz hp.n) (zz hq.d)
 have m2:=fI p.den q.num (zz hp.d) (zz hq.n)
 have m5:=jD (p.num*q.den) ((p.den:Int)*q.num) (by simp only [Y,YY]at *;omega) (by simp only [Y,YY]at *;omega)
 rw [X4 p q h0]at m5
 generalize p.num*(q.den:Int)=x1 at *
 generalize (p.den:Int)*q.num=x2 at *
 generalize hr:p/q=r at *
 have d1:RR p = .ag [aX aO (a5 DD p.num.natAbs), .bool (decide (p.num<0)),aX aO (a5 DD (p.den:Int).natAbs), .bool (decide ((p.den:Int)<0))]:=vL rfl rfl
 have d2:RR q = .ag [aX aO (a5 DD q.num.natAbs), .bool (decide (q.num<0)),aX aO (a5 DD (q.den:Int).natAbs), .bool (decide ((q.den:Int)<0))]:=vL rfl rfl
 rw [d1,d2]
 generalize (p.den:Int)=pd at *
 generalize (q.den:Int)=qd at *
 generalize p.num=pn at *
 generalize q.num=qn at *
 refine cL [(0, .ag [aX aO (a5 DD pn.natAbs), .bool (decide (pn<0)),aX aO (a5 DD pd.natAbs), .bool (decide (pd<0))]),(1, .ag [aX aO (a5 DD qn.natAbs), .bool (decide (qn<0)),aX aO (a5 DD qd.natAbs), .bool (decide (qd<0))])] Tryz.func230 ?_
 refine aB [2,3,4] ?_
 refine oW ?_
 refine cM m1 ?_
 refine cM m2 ?_
 refine c7 [4] m5 ?_
 exact cV
theorem DM:aZ env.P 224 [] (RR 0):=by
 have h:=qJ 0 1 (by decide) (by decide)
 rw [i5]at h
 refine cL [] Tryz.func224 ?_
 refine aB [0] ?_
 refine bT [0] h ?_
 exact cV
def j7:List Rat→List Rat
 | []=>[]
 | x::l=>if j7 l = []∧x=0 then []else x::j7 l
theorem yL:∀l:List Rat,j7 (l ++ [0])=j7 l
 | []=>by simp [j7]
 | x::l=>by simp [j7,yL l]
theorem JH{x:Rat}(h:x≠0):∀l:List Rat,j7 (l ++ [x])=l ++ [x]
 | []=>by
  show j7 [x] = [x]
  rw [j7,if_neg (fun hh=>h hh.2)];rfl
 | y::l=>by
  have ih:=JH h l
  have hn:¬(l ++ [x] = []∧y=0):=by simp
  show j7 (y::(l ++ [x]))=y::(l ++ [x])
  rw [j7,ih,if_neg hn]
abbrev qs(x:List Int):List Rat:=x.map fun(c:Int)=>(c:Rat)
theorem qK:∀x:List Int,j7 (qs x)=qs (aG x)
 | []=>rfl
 | a::x=>by
  have ih:=qK x
  simp only [qs,List.map_cons]at ih ⊢
  rw [j7,ih,aG]
  by_cases h:aG x = []∧a=0
  ·simp [h]
  ·rw [if_neg h,if_neg (by simpa using h)];simp
@[simp] theorem agN{l:List Rat}:a8 4 (emap re l)=True:=bQ fun _=>rfl
@[simp] theorem aeo{v e n:Nat}{l:List Rat}:cB (some ⟨v,e,n,emap re l⟩)=True:=bR fun _=>rfl
abbrev PP(l:List Rat):PV:=aX re l
theorem qL(l:List Rat)(hl:l.length<17592186044416):aZ env.P 157 [PP l] (PP (j7 l)):=by
 refine cL [(0,PP l)] Tryz.func157 ?_
 refine aB [0] ?_
 refine aB [0,3] ?_
 refine W.seq (W.block ?_)
 refine W.a9 (fun k σ=>∃(rows:Pm.Rows) (clk:Nat),σ=⟨fa [(0,PP l),(3, .int .i64 (k:Int))],rows,clk⟩∧k≤l.length∧j7 l=j7 (l.take k)) l.length ?_ ?_
 ·exact⟨_, .refl,_,_,rfl,by omega,by simp⟩
 rintro k _ ⟨rows,clk,rfl,hk,hc⟩
 refine W.seq ?_
 refine W.fW (fun σ=>∃(b:Bool),σ=⟨fa [(0,PP l),(3, .int .i64 (k:Int)),(16, .bool b)],rows,clk⟩∧(b=true↔0<k∧nth l (k-1)=0)) (fun K hK=>?_) ?_
 ·simp
  by_cases h0:0<k
  ·simp (disch:=omega) [gw,h0]
   refine aD (yK (nth l (k-1)).num) ?_
   simp (disch:=omega) [gw,h0]
   refine hK _ _ (aC _ [0,3,16]) ⟨_,rfl,?_⟩
   simp [h0,Rat.num_eq_zero]
  ·simp (disch:=omega) [gw,h0]
   exact hK _ _ (aC _ [0,3,16]) ⟨_,rfl,by simp [h0]⟩
 rintro _ ⟨b,rfl,hb⟩
 refine bO ?_ ?_<;>intro h
 ·obtain⟨h0,h1⟩:=hb.1 h
  refine W.skip (W.block ?_)
  refine W.cA (fun K hK=>?_)
  simp (disch:=omega) [gw]
  refine hK _ ⟨k-1,_,Gh.fr [(0,_),(3, .int .i64 ((k-1:Nat):Int))] (by simp;omega),by omega,_,_,rfl,by omega,?_⟩
  rw [hc,show k=(k-1)+1 by omega,aU (by omega),h1,yL]
  simp
 ·have h2:j7 l=l.take k:=by
   rw [hc]
   by_cases h0:0<k
   ·have h1:nth l (k-1)≠0:=fun h1=>by simp [hb.2 ⟨h0,h1⟩]at h
    rw [show k=(k-1)+1 by omega,aU (by omega)]
    exact JH h1 _
   ·have:k=0:=by omega
    subst this;simp [j7]
  refine eH ?_
  refine aB [2] ?_
  refine W.ret ?_
  simp [h2]
def ri(x:Int):List PV:=[aX aO (a5 DD x.natAbs), .bool (decide (x<0)),aX aO (a5 DD 1), .bool false]
@[simp] theorem aep{x:Int}:ri x = [aX aO (a5 DD x.natAbs), .bool (decide (x<0)),aX aO (a5 DD 1), .bool false]:=rfl
theorem fJ(x:Int):re (x:Rat)=ri x:=by
 simp only [re,ri,Rat.num_intCast,Rat.den_intCast]
 congr
theorem oY(x:List Int):PP (qs x)=aX ri x:=by simp only [PP,aX,emap,qs,List.map_map,Function.comp_def,fJ]
abbrev PI(x:List Int):PV:=aX ri x
@[simp] theorem agO{l:List Int}:a8 4 (emap ri l)=True:=bQ fun _=>rfl
@[simp] theorem aeq{v e n:Nat}{l:List Int}:cB (some ⟨v,e,n,emap ri l⟩)=True:=bR fun _=>rfl
@[simp] theorem aoE{l:List Int}{x:Int}:emap ri l ++ [[aX aO (a5 DD x.natAbs), .bool (decide (x<0)),aX aO (a5 DD 1), .bool false]]=emap ri (l ++ [x]):=by simp [emap]
@[simp] theorem aoF{l:List Rat}{q:Rat}:emap re l ++ [[aX aO (a5 DD q.num.natAbs), .bool (decide (q.num<0)),aX aO (a5 DD q.den), .bool false]]=emap re (l ++ [q]):=by simp [emap]
@[simp] theorem aj8{l:List Int}{i:Nat}{x:Int}:fO (emap ri l) i 0 [aX aO (a5 DD x.natAbs), .bool (decide (x<0)),aX aO (a5 DD 1), .bool false]=emap ri (l.set i x):=tL (n:=4) (fun _=>rfl)
theorem n7(l:List Int)(hl:l.length<17592186044416):aZ env.P 157 [PI l] (PI (aG l)):=by
 have:=qL (qs l) (by simpa using hl)
 rwa [qK,oY,oY]at this
theorem MI(n:Int)(zn:Y n):aZ env.P 60 [RI n,RI 1] (.ag (ri n)):=by
 have:=jD n 1 zn (by have:sz 2 1≤1:=cX (by decide) (by decide);simp only [Y];omega)
 rwa [i5,RR,fJ]at this
theorem n8:aZ env.P 224 [] (.ag (ri 0)):=by
 have:=DM
 rwa [RR,show(0:Rat)=((0:Int):Rat)by simp,fJ]at this
theorem DN(n:Int)(h1 : -9223372036854775808≤n∧n<9223372036854775808):aZ env.P 12 [.int .i64 n, .int .i64 1] (.ag (ri n)):=by
 have:=qJ n 1 h1 (by decide)
 rwa [i5,RR,fJ]at this
theorem nN{x:Int}{k:Nat}(h:sz 2 x≤k)(h1:1≤k):ZR k (x:Rat):=⟨by simpa using h,by simp;exact Nat.le_trans (cX (by decide) (by decide)) h1⟩
theorem MJ(x y:Int)(hx:sz 2 x≤YY)(hy:sz 2 y≤YY):aZ env.P 225 [.ag (ri x), .ag (ri y)] (.ag (ri (x+y))):=by
 have:=DJ x y (nN hx (by decide)) (nN hy (by decide))
 rwa [←Rat.intCast_add,RR,RR,RR,fJ,fJ,fJ]at this
theorem yM(x y:Int)(hx:sz 2 x≤YY)(hy:sz 2 y≤YY):aZ env.P 226 [.ag (ri x), .ag (ri y)] (.ag (ri (x*y))):=by
 have:=DK x y (nN hx (by decide)) (nN hy (by decide))
 rwa [←Rat.intCast_mul,RR,RR,RR,fJ,fJ,fJ]at this
theorem JI(l:List Int)(hl:l.length<1099511627776)(hb:∀x∈l, -9223372036854775808≤x∧x<9223372036854775808):aZ env.P 97 [aX aO l] (PI (aG l)):=by
 refine cL [(0,aX aO l)] Tryz.func97 ?_
 refine aB [0] ?_
 refine aB [0,3] ?_
 refine W.nil 3 3 31 4 (by simp) (by decide) (fun K hK=>?_)
 refine W.lw [0,3] hK ?_;clear hK K;simp
 refine aQ [0,3,6,7] ?_
 refine W.block ?_
 refine W.a9 (fun k σ=>∃(i ver:Nat) (rows:Pm.Rows) (clk:Nat),σ=⟨fa [(0,aX aO l),(3, .own 3 ver 0 i),(6, .int .i64 l.length),(7, .int .i64 i)],rows,clk⟩∧rows 3=some ⟨ver,31,4,emap ri (l.take i)⟩∧k=l.length-i∧i≤l.length) l.length ?_ ?_
 ·exact⟨_, .refl,0,_,_,_,rfl,by simp [emap],by omega,by omega⟩
 rintro k _ ⟨i,ver,rows,clk,rfl,hr,hk,hi⟩
 refine cH [0,3,6,7,8] ?_
 refine W.cond ⟨_,rfl,fun h0=>?_,fun h0=>?_⟩
 ·simp at h0
  have eX:(l.take i).length=i:=by simp;omega
  refine iS ?_
  refine aB [0,3,4,6,7] ?_
  refine W.cA (fun K hK=>?_)
  simp (disch:=omega) [gw]
  refine aD (DN (nth l i) (hb _ (cP h0))) ?_
  simp (disch:=omega) [gw,hr,eX]
  refine W.lw [0,3,6,7] hK ?_;clear hK K;simp
  refine W.cA (fun K hK=>?_);simp (disch:=omega) [gw]
  refine hK _ ⟨l.length-(i+1),_,aC _ [0,3,6,7],by omega,i+1,_,_,_,rfl,?_,by omega,by omega⟩
  rw [aU h0]
  simp
 ·simp at h0
  have oP:i=l.length:=by omega
  subst oP
  refine eH ?_
  refine W.sr ?_
  simp (disch:=omega) [gw,hr]
  refine aD (n7 l (by omega)) ?_
  simp (disch:=omega) [gw]
  refine bF [2] ?_
  exact cV
theorem ML(x y:List Int)(hx:x.length<1099511627776)(hy:y.length<1099511627776)(zx:∀c∈x,Z c)(zy:∀c∈y,Z c):aZ env.P 96 [PI x,Po y] (.bool (decide (x=y))):=by
 refine cL [(0,PI x),(1,Po y)] Tryz.func96 ?_
 refine aB [0,1] ?_
 refine aQ [0,1,10] ?_
 refine bO ?_ ?_<;>intro h
 ·have wV:x≠y:=fun h1=>by simp [h1]at h
  refine aB [4] ?_
  refine W.ret ?_
  simp [go,wV]
 ·have hlen:x.length=y.length:=by simp at h;omega
  refine W.skip ?_
  refine aQ [0,1,12,13] ?_
  refine W.block ?_
  refine W.a9 (fun k σ=>∃(i:Nat) (rows:Pm.Rows) (clk:Nat),σ=⟨fa [(0,PI x),(1,Po y),(12, .int .i64 x.length),(13, .int .i64 i)],rows,clk⟩∧k=x.length-i∧i≤x.length∧x.take i=y.take i) x.length ?_ ?_
  ·exact⟨_, .refl,0,_,_,rfl,by omega,by omega,by simp⟩
  rintro k _ ⟨i,rows,clk,rfl,hk,hi,hI⟩
  refine cH [0,1,12,13,14] ?_
  refine bO ?_ ?_<;>intro h
  ·simp at h
   refine iS ?_
   refine aB [0,1,5,12,13] ?_
   have E6:i<y.length:=by omega
   have hs:=MG (nth x i) (decide (nth y i<0)) (a5 LL (nth y i).natAbs) (zx _ (cP h)) (Nat.lt_of_le_of_lt (tM eV _) (zy _ (cP E6)))
   have he:(decide (nth y i<0)=decide (nth x i<0)∧a5 LL (nth y i).natAbs=a5 LL (nth x i).natAbs)↔nth x i=nth y i:=by
    constructor
    ·rintro⟨h1,h2⟩
     have h3:=aj2 (nth x i).natAbs
     have h4:=aj2 (nth y i).natAbs
     rw [h2]at h4
     simp only [decide_eq_decide]at h1
     omega
    ·intro h1;rw [h1];exact⟨rfl,rfl⟩
   simp only [he]at hs
   refine W.x9 (fun σ=>∃(b:Bool),σ=⟨fa [(0,PI x),(1,Po y),(12, .int .i64 x.length),(13, .int .i64 i),(36, .bool b)],rows,clk⟩∧(b=true↔nth x i≠nth y i)) (fun K hK=>?_) ?_
   ·by_cases KX:nth x i=nth y i
    ·rw [decide_eq_true KX]at hs
     simp (disch:=omega) [gw]
     refine cM hs ?_
     refine aD (lT 1 (by decide) (by decide)) ?_
     simp (disch:=omega) [gw]
     refine aD (SA 1 1 (by simp only [Z];exact Nat.lt_of_le_of_lt (cX (k:=1) (by decide) (by decide)) (by decide)) (by simp only [Z];exact Nat.lt_of_le_of_lt (cX (k:=1) (by decide) (by decide)) (by decide))) ?_
     rw [tH]
     simp (disch:=omega) [gw]
     exact hK _ _ (aC _ [0,1,12,13,36]) ⟨_,rfl,by simp [KX]⟩
    ·rw [decide_eq_false KX]at hs
     simp (disch:=omega) [gw]
     refine cM hs ?_
     exact hK _ _ (aC _ [0,1,12,13,36]) ⟨_,rfl,by simp [KX]⟩
   rintro _ ⟨b,rfl,hb⟩
   refine W.cond ⟨_,rfl,fun h2=>?_,fun h2=>?_⟩
   ·have wV:x≠y:=fun h1=>hb.1 h2 (by rw [h1])
    refine aB [4] ?_
    refine W.ret ?_
    simp [go,wV]
   ·have he2:nth x i=nth y i:=Classical.byContradiction fun h3=>by simp [hb.2 h3]at h2
    refine W.skip ?_
    refine W.cA (fun K hK=>?_);simp (disch:=omega) [gw]
    refine hK _ ⟨x.length-(i+1),_,aC _ [0,1,12,13],by omega,i+1,_,_,rfl,by omega,by omega,?_⟩
    rw [aU h,aU E6,hI,he2]
  ·simp at h
   rw [List.take_of_length_le (by omega),List.take_of_length_le (by omega)]at hI
   refine eH ?_
   refine aB [4] ?_
   refine W.ret ?_
   simp [go,hI]
structure MM(l:List Rat):Prop where
 ok:∀q∈l,ZR YY q
 len:l.length<1099511627776
theorem X5(k:Nat)(hk:1≤k):ZR k 0:=⟨by show sz 2 0≤k;rw [iH];omega,by show sz 2 1≤k;exact Nat.le_trans (cX (by decide) (by decide)) hk⟩
theorem MM.nth{l:List Rat}(h:MM l)(i:Nat):ZR YY (nth l i):=by
 by_cases hi:i<l.length
 ·exact h.ok _ (cP hi)
 ·rw [gL (by omega)];exact X5 _ (by decide)
theorem MM.qs{x:List Int}(h:∀c∈x,sz 2 c≤YY)(hl:x.length<1099511627776):MM (qs x):=⟨fun q hq=>by
 simp only [List.mem_map]at hq
 obtain⟨c,hc,rfl⟩:=hq
 exact nN (h c hc) (by decide),by simpa using hl⟩
@[simp] theorem aer{l:List Rat}:(∀e∈emap re l,∀p∈e,bL p=true)=True:=by simp [emap]
theorem JJ(l:List Rat)(i:Nat)(hi:i<9223372036854775808):aZ env.P 277 [PP l, .int .i64 i] (RR (nth l i)):=by
 have hzero:=DM
 refine cL [(0,PP l),(1, .int .i64 i)] Tryz.func277 ?_
 refine cH [0,1,4] ?_
 refine W.fW (fun σ=>∃(b:Bool) (rows:Pm.Rows) (clk:Nat),σ=⟨fa [(0,PP l),(1, .int .i64 i),(4, .ptr 4 0 0 0),(12, .bool b)],rows,clk⟩∧(b=true↔l.length≤i)∧rows 4=some ⟨0,31,4,[[.nil, .bool false, .nil, .bool false]]⟩) (fun K hK=>?_) ?_
 ·have hn:¬((i:Int)<0):=by omega
  simp (disch:=omega) [gw,hn]
  exact hK _ _ (aC _ [0,1,4,12]) ⟨_,_,_,rfl,by simp,by simp⟩
 rintro _ ⟨b,rows,clk,rfl,hb,fT⟩
 refine bO ?_ ?_<;>intro h
 ·have hb:=hb.1 h
  have e:nth l i=0:=gL hb
  rw [e]
  generalize (0:Rat)=z at *
  refine j1 ?_
  refine aD hzero ?_
  simp (disch:=omega) [gw,fT]
  refine bF [4] ?_
  exact cV
 ·have hb:i<l.length:=Nat.lt_of_not_le fun h2=>by simp [hb.2 h2]at h
  refine W.skip ?_
  refine W.sr ?_
  simp (disch:=omega) [gw,fT]
  refine bF [4] ?_
  exact cV
def SB(a b:List Rat):List Rat:=j7 ((List.range (max a.length b.length)).map fun k=>nth a k+nth b k)
theorem SC(a b:List Rat)(ha:MM a)(hb:MM b):aZ env.P 274 [PP a,PP b] (PP (SB a b)):=by
 have hal:=ha.len;have hbl:=hb.len
 refine cL [(0,PP a),(1,PP b)] Tryz.func274 ?_
 obtain⟨M,hM⟩:∃M,M=max a.length b.length:=⟨_,rfl⟩
 refine aB [0,1] ?_
 refine aB [0,1,5] ?_
 refine W.nil 5 5 31 4 (by simp) (by decide) (fun K hK=>?_)
 refine W.lw [0,1,5] hK ?_;clear hK K;simp
 refine aQ [0,1,5,6] ?_
 refine W.block ?_
 refine W.a9 (fun k σ=>∃(i ver:Nat) (rows:Pm.Rows) (clk:Nat),σ=⟨fa [(0,PP a),(1,PP b),(5, .own 5 ver 0 i),(6, .int .i64 i)],rows,clk⟩∧rows 5=some ⟨ver,31,4,emap re ((List.range i).map fun k=>nth a k+nth b k)⟩∧k=M-i∧i≤M) M ?_ ?_
 ·exact⟨_, .refl,0,_,_,_,rfl,by simp [emap],by omega,by omega⟩
 rintro k _ ⟨i,ver,rows,clk,rfl,hr,hk,hi⟩
 have em:(if a.length<b.length then(b.length:Int)else(a.length:Int))=M:=by split<;>omega
 have em2:(if b.length<a.length then(a.length:Int)else(b.length:Int))=M:=by split<;>omega
 refine W.seq ?_
 refine W.sr ?_
 simp (disch:=omega) [gw,em,em2]
 refine bF [0,1,5,6,13] ?_
 refine bO ?_ ?_<;>intro h
 ·have h:i<M:=by simp at h;omega
  refine iS ?_
  have h1:=JJ a i (by omega)
  have h2:=JJ b i (by omega)
  have h3:=DJ _ _ (ha.nth i) (hb.nth i)
  have er:(List.range (i+1)).map (fun k=>nth a k+nth b k)=(List.range i).map (fun k=>nth a k+nth b k) ++ [nth a i+nth b i]:=by rw [List.range_succ];simp
  have eX:((List.range i).map fun k=>nth a k+nth b k).length=i:=by simp
  generalize ((List.range i).map fun k=>nth a k+nth b k)=acc at *
  generalize nth a i+nth b i=q at *
  generalize nth a i=u at *
  generalize nth b i=v at *
  refine W.cA (fun K hK=>?_)
  simp (disch:=omega) [gw]
  refine cM h1 ?_
  refine cM h2 ?_
  refine aD h3 ?_
  simp (disch:=omega) [gw,hr,eX]
  refine W.lw [0,1,5,6] hK ?_;clear hK K;simp
  refine W.cA (fun K hK=>?_);simp (disch:=omega) [gw]
  refine hK _ ⟨M-(i+1),_,aC _ [0,1,5,6],by omega,i+1,_,_,_,rfl,by rw [er];simp,by omega,by omega⟩
 ·have h:i=M:=by simp at h;omega
  subst h
  refine eH ?_
  have eX:((List.range i).map fun k=>nth a k+nth b k).length=i:=by simp
  rw [SB,←hM]
  generalize ((List.range i).map fun k=>nth a k+nth b k)=acc at *
  have ez:=bA eX
  refine W.sr ?_
  simp (disch:=omega) [gw,hr,ez]
  refine aD (qL acc (by omega)) ?_
  simp (disch:=omega) [gw]
  refine bF [4] ?_
  exact cV
def iM(a:List Rat)(c:Rat):List Rat:=j7 (a.map fun x=>x*c)
theorem pM(a:List Rat)(c:Rat)(ha:MM a)(hc:ZR YY c):aZ env.P 201 [PP a,RR c] (PP (iM a c)):=by
 have hal:=ha.len
 refine b9 (E:=env) (fun id=>if id=5 then 2 else 0) [(0,PP a),(1,RR c)] Tryz.func201 rfl (by kernel_rfl) (by kernel_rfl) (show 2≤24 by decide) (by simp) ?_
 refine aB [0,3] ?_
 refine aB [0,3,5] ?_
 refine W.nil 5 5 31 4 (by simp) (by decide) (fun K hK=>?_)
 refine W.lw [0,3,5] hK ?_;clear hK K;simp
 refine aQ [0,3,5,8,9] ?_
 refine W.block ?_
 refine W.a9 (fun k σ=>∃(i ver:Nat) (rows:Pm.Rows) (clk:Nat),σ=⟨fa [(0,PP a),(3, .ptr 3 0 0 0),(5, .own 5 ver 0 i),(8, .int .i64 a.length),(9, .int .i64 i)],rows,clk⟩∧rows 5=some ⟨ver,31,4,emap re ((a.take i).map fun x=>x*c)⟩∧rows 3=some ⟨0,31,4,[re c]⟩∧k=a.length-i∧i≤a.length) a.length ?_ ?_
 ·exact⟨_, .refl,0,_,_,_,rfl,by simp [emap],by simp,by omega,by omega⟩
 rintro k _ ⟨i,ver,rows,clk,rfl,hr,c5,hk,hi⟩
 refine cH [0,3,5,8,9,10] ?_
 refine bO ?_ ?_<;>intro h
 ·simp at h
  refine iS ?_
  refine aB [0,3,5,6,8,9] ?_
  have h3:=DK _ _ (ha.nth i) hc
  have er:=oX (f:=fun x=>x*c) h
  have eX:((a.take i).map fun x=>x*c).length=i:=by simp;omega
  generalize (a.take i).map (fun x=>x*c)=acc at *
  generalize hq:nth a i*c=q at *
  refine W.CS (fun K hK=>?_)
  rw [if_pos rfl,eL]
  simp (disch:=omega) [gw,c5]
  refine aD h3 ?_
  simp (disch:=omega) [gw,hr,c5,eX]
  refine W.lw [0,3,5,8,9] hK ?_;clear hK K;simp
  refine W.cA (fun K hK=>?_);simp (disch:=omega) [gw]
  refine hK _ ⟨a.length-(i+1),_,aC _ [0,3,5,8,9],by omega,i+1,_,_,_,rfl,by rw [er];simp,by simp [c5],by omega,by omega⟩
 ·simp at h
  have oP:i=a.length:=by omega
  subst oP
  refine eH ?_
  rw [List.take_length]at hr
  rw [iM]
  have eX:(a.map fun x=>x*c).length=a.length:=by simp
  generalize a.map (fun x=>x*c)=acc at *
  have ez:=bA eX
  refine W.sr ?_
  simp (disch:=omega) [gw,hr,ez]
  refine aD (qL acc (by omega)) ?_
  simp (disch:=omega) [gw]
  refine bF [4] ?_
  exact cV
theorem DO(a:List Rat)(ha:MM a):aZ env.P 161 [PP a] (PP (iM a (-1))):=by
 have h1:=qJ (-1) 1 (by decide) (by decide)
 rw [i5,show(((-1:Int)):Rat) = -1 by simp]at h1
 have h2:=pM a (-1) ha ⟨by show sz 2 (-1)≤YY;exact Nat.le_trans (cX (k:=1) (by decide) (by decide)) (by decide),by show sz 2 1≤YY;exact Nat.le_trans (cX (k:=1) (by decide) (by decide)) (by decide)⟩
 generalize (-1:Rat)=c at *
 refine cL [(0,PP a)] Tryz.func161 ?_
 refine aB [0] ?_
 refine j1 ?_
 refine cM h1 ?_
 refine c7 [2] h2 ?_
 exact cV
theorem SD(x:List Int)(k:Nat):nth (qs x) k=((nth x k:Int):Rat):=tI (f:=fun(c:Int)=>(c:Rat)) rfl x k
theorem MN(x:List Int)(c:Int):iM (qs x) (c:Rat)=qs (aL x c):=by
 rw [iM,aL,←qK]
 congr 1
 simp [qs,Function.comp_def]
theorem HC(x:List Int):aL x (-1)=fC x:=by simp [aL,fC]
theorem yN(x:List Int)(hx:Bd 2 YY 1099511627775 x):aZ env.P 161 [PI x] (PI (fC x)):=by
 have:=DO (qs x) (.qs hx.sz (by have:=hx.len;omega))
 rwa [show(-1:Rat)=((-1:Int):Rat)by simp,MN,HC,oY,oY]at this
theorem MO(x y:List Int)(s s' n n':Nat)(hs:Bd 2 s n x)(BI:Bd 2 s' n' y)(hB:s+s'+n+n'<YY):aZ env.P 199 [PI x,PI y] (PI (bK x y)):=by
 have XV:=hs.len;have hly:=BI.len
 have hB2:s+s'+n+n'<137438953472:=hB
 refine b9 (E:=env) (fun id=>if id=15 then 1 else 0) [(0,PI x),(1,PI y)] Tryz.func199 rfl (by kernel_rfl) (by kernel_rfl) (show 2≤69 by decide) (by simp) ?_
 refine cH [0,1] ?_
 refine W.fW (fun σ=>∃(b:Bool),σ=⟨fa [(0,PI x),(1,PI y),(16, .bool b)],fun _=>none,0⟩∧(b=true↔x = []∨y = [])) (fun K hK=>?_) ?_
 ·simp
  have e1:((x.length:Int)==0)=decide (x = []):=by
   cases x<;>simp<;>omega
  have e2:((y.length:Int)==0)=decide (y = []):=by
   cases y<;>simp<;>omega
  rw [e1]
  by_cases h0:x = []
  ·have e3:decide (x = [])=true:=by simp [h0]
   rw [e3]
   simp
   exact hK _ _ (aC _ [0,1,16]) ⟨_,rfl,by simp [h0]⟩
  ·have e3:decide (x = [])=false:=by simp [h0]
   rw [e3]
   simp
   exact hK _ _ (aC _ [0,1,16]) ⟨_,rfl,by rw [e2];simp [h0]⟩
 rintro _ ⟨b,rfl,hb⟩
 refine bO ?_ ?_<;>intro h
 ·have e:bK x y = []:=by
   have h1:=hb.1 h
   refine Cn.ext (Cn.bK _ _) Cn.nil fun t=>?_
   rw [cK]
   rcases h1 with rfl | rfl<;>simp [V]
  refine aB [4] ?_
  refine W.ret ?_
  simp [go,e]
  rfl
 ·have h1:¬(x = []∨y = []):=fun h2=>by simp [hb.2 h2]at h
  have vG:0<x.length:=List.length_pos_iff.2 fun h2=>h1 (.inl h2)
  have G6:0<y.length:=List.length_pos_iff.2 fun h2=>h1 (.inr h2)
  clear h hb h1
  have e0:((x.length:Int)+(y.length:Int)-1).toNat=x.length+y.length-1:=by omega
  have e9:((x.length+y.length-1:Nat):Int)=(x.length:Int)+(y.length:Int)-1:=by omega
  refine W.skip ?_
  refine W.sr ?_
  simp (disch:=omega) [gw,e0]
  refine bF [0,1,5] ?_
  refine aQ [0,1,5,25,26] ?_
  refine W.block ?_
  refine W.a9 (fun k σ=>∃(i ver:Nat) (els:List (List PV)) (rows:Pm.Rows) (clk:Nat),σ=⟨fa [(0,PI x),(1,PI y),(5, .own 23 ver 0 (x.length+y.length-1)),(25, .int .i64 ((x.length+y.length-1:Nat):Int)),(26, .int .i64 i)],rows,clk⟩ ∧
   rows 23=some ⟨ver,31,4,els⟩∧els.length=x.length+y.length-1∧(∀e∈els,e.length=4)∧els.take i=emap ri (List.replicate i 0)∧k=x.length+y.length-1-i∧i≤x.length+y.length-1) (x.length+y.length-1) ?_ ?_
  ·exact⟨_,Gh.fr [(0,PI x),(1,PI y),(5, .own 23 0 0 (x.length+y.length-1)),(25, .int .i64 ((x.length+y.length-1:Nat):Int)),(26, .int .i64 (0:Nat))] (by simp),0,_,List.replicate (x.length+y.length-1) [.nil, .bool false, .nil, .bool false],_,_,rfl,by simp [e0],by simp,by simp,by simp [emap],by omega,by omega⟩
  rintro k _ ⟨i,ver,els,rows,clk,rfl,hr,mN,DP,vM,hk,hi⟩
  have RZ:a8 4 els=True:=by simp only [a8,eq_iff_iff,iff_true];exact DP
  refine cH [0,1,5,25,26,27] ?_
  refine bO ?_ ?_<;>intro h
  ·have h:i<x.length+y.length-1:=by simp at h;omega
   refine iS ?_
   refine aB [0,1,5,6,25,26] ?_
   refine W.cA (fun K hK=>?_)
   simp (disch:=omega) [gw]
   refine aD n8 ?_
   have sI:i<els.length:=by omega
   have hE:p6 els i 4=True:=by
    simp only [eq_iff_iff,iff_true]
    exact⟨els[i],List.getElem?_eq_getElem sI,by rw [DP _ (List.getElem_mem sI)];omega⟩
   have hS:fO els i 0 [aX aO (a5 DD 0), .bool false,aX aO (a5 DD 1), .bool false]=els.set i (ri 0):=by
    have h4:=DP _ (List.getElem_mem sI)
    rw [fO,List.getElem?_eq_getElem sI]
    simp [List.drop_of_length_le,h4]
   simp (disch:=omega) [gw,hr,hE,hS]
   refine W.lw [0,1,5,25,26] hK ?_;clear hK K;simp
   refine W.cA (fun K hK=>?_);simp (disch:=omega) [gw]
   refine hK _ ⟨x.length+y.length-1-(i+1),_,aC _ [0,1,5,25,26],by omega,i+1,ver,els.set i (ri 0),_,_,rfl,by simp,by simpa using mN,fun e he=>?_,?_,by omega,by omega⟩
   ·rcases List.mem_or_eq_of_mem_set he with h1 | h1
    ·exact DP e h1
    ·rw [h1];rfl
   ·rw [jC vM (by omega),List.replicate_succ']
    simp [emap]
  ·have h:i=x.length+y.length-1:=by simp at h;omega
   subst h
   have o9:els=emap ri (List.replicate (x.length+y.length-1) 0):=by rw [←vM,bA mN]
   subst o9
   clear vM DP mN RZ hk hi
   refine eH ?_
   refine aQ [0,1,5,35,36] ?_
   refine W.block ?_
   refine W.a9 (fun k σ=>∃(i:Nat) (z:List Int) (ver:Nat) (rows:Pm.Rows) (clk:Nat),σ=⟨fa [(0,PI x),(1,PI y),(5, .own 23 ver 0 (x.length+y.length-1)),(35, .int .i64 x.length),(36, .int .i64 i)],rows,clk⟩ ∧
    rows 23=some ⟨ver,31,4,emap ri z⟩∧k=x.length-i∧i≤x.length∧z.length=x.length+y.length-1∧(∀j,sz 2 (nth z j)≤s+s'+i) ∧
    ∀t,V t z=V t (x.take i)*V t y) x.length ?_ ?_
   ·refine⟨_, .refl,0,List.replicate (x.length+y.length-1) 0,_,_,_,rfl,hr,by omega,by omega,by simp,fun j=>?_,fun t=>by simp [V,l9]⟩
    have:Bd 2 0 (x.length+y.length-1) (List.replicate (x.length+y.length-1) 0):=⟨by simp,fun c hc=>by rw [(List.mem_replicate.1 hc).2,iH];omega⟩
    have:=this.nth j
    omega
   clear hr rows clk
   rintro k _ ⟨i,z,ver,rows,clk,rfl,hr,hk,hi,hz,wR,hV⟩
   refine cH [0,1,5,35,36,37] ?_
   refine bO ?_ ?_<;>intro h
   ·simp at h
    refine iS ?_
    refine aB [0,1,5,7,35,36] ?_
    refine aB [0,1,5,7,35,36,40,41] ?_
    refine W.block ?_
    refine W.a9 (fun m σ=>∃(k:Nat) (z:List Int) (ver:Nat) (rows:Pm.Rows) (clk:Nat),σ=⟨fa [(0,PI x),(1,PI y),(5, .own 23 ver 0 (x.length+y.length-1)),(7, .int .i64 i),(35, .int .i64 x.length),(36, .int .i64 i),(40, .int .i64 y.length),(41, .int .i64 k)],rows,clk⟩ ∧
     rows 23=some ⟨ver,31,4,emap ri z⟩∧m=y.length-k∧k≤y.length∧z.length=x.length+y.length-1∧(∀j,sz 2 (nth z j)≤s+s'+i+1)∧(∀j,i+k≤j→sz 2 (nth z j)≤s+s'+i) ∧
     ∀t,V t z=V t (x.take i)*V t y+t^i*nth x i*V t (y.take k)) y.length ?_ ?_
    ·refine⟨_, .refl,0,z,ver,_,_,rfl,by simpa using hr,by omega,by omega,hz,fun j=>by have:=wR j;omega,fun j _=>wR j,fun t=>by simp [V,hV]⟩
    clear hV wR hz hr z ver rows clk
    rintro m _ ⟨k,z,ver,rows,clk,rfl,hr,hm,hky,hz,wR,G7,hV⟩
    refine cH [0,1,5,7,35,36,40,41,42] ?_
    refine W.cond ⟨_,rfl,fun h2=>?_,fun h2=>?_⟩
    ·simp at h2
     refine iS ?_
     refine aB [0,1,5,7,8,35,36,40,41] ?_
     have e1:((i:Int)+(k:Int)).toNat=i+k:=by omega
     have E8:sz 2 (nth x i*nth y k)≤s+s'+i:=Nat.le_trans (cZ (by decide) (hs.nth i) (BI.nth k)) (by omega)
     have hm2:=pG (b:=2) (by decide) (G7 (i+k) (Nat.le_refl _)) E8
     have hlz:i+k<z.length:=by omega
     have c1:=yM (nth x i) (nth y k) (Nat.le_trans (hs.nth i) (by show _≤137438953472;omega)) (Nat.le_trans (BI.nth k) (by show _≤137438953472;omega))
     have c2:=MJ (nth z (i+k)) (nth x i*nth y k) (Nat.le_trans (G7 (i+k) (Nat.le_refl _)) (by show _≤137438953472;omega)) (Nat.le_trans E8 (by show _≤137438953472;omega))
     have L3:=fun t=>yB (b:=t) (x:=nth z (i+k)+nth x i*nth y k) hlz
     generalize hu:nth z (i+k)+nth x i*nth y k=u at *
     generalize hpq:nth x i*nth y k=pq at *
     refine W.CS (fun K hK=>?_)
     rw [if_pos rfl,eL]
     simp (disch:=omega) [gw,hr,e1]
     refine aD c1 ?_
     simp (disch:=omega) [gw,hr,e1]
     refine aD c2 ?_
     simp (disch:=omega) [gw,hr,e1]
     refine W.lw [0,1,5,7,35,36,40,41] hK ?_;clear hK K;simp
     refine W.cA (fun K hK=>?_);simp (disch:=omega) [gw]
     refine hK _ ⟨y.length-(k+1),_,aC _ [0,1,5,7,35,36,40,41],by omega,k+1,z.set (i+k) u,ver,_,_,rfl,by simp,by omega,by omega,by simpa using hz,fun j=>?_,fun j hj=>?_,fun t=>?_⟩
     ·by_cases hj:i+k=j
      ·subst hj;rw [dI hlz];exact hm2
      ·rw [eM hj];exact wR j
     ·rw [eM (by omega)];exact G7 j (by omega)
     ·rw [L3,aR h2,hV,Int.pow_add,←hu,←hpq];clear hV L3;grind
    ·simp at h2
     have rW:k=y.length:=by omega
     subst rW
     refine eH ?_
     refine W.cA (fun K hK=>?_);simp (disch:=omega) [gw]
     refine hK _ ⟨x.length-(i+1),_,aC _ [0,1,5,35,36],by omega,i+1,z,ver,_,_,rfl,hr,by omega,by omega,hz,fun j=>by have:=wR j;omega,fun t=>?_⟩
     rw [hV,aV (Nat.le_refl _),aR h];grind
   ·simp at h
    have oP:i=x.length:=by omega
    subst oP
    have pJ:=bA hz
    refine eH ?_
    refine W.sr ?_
    simp (disch:=omega) [gw,hr,pJ]
    refine aD (n7 z (by omega)) ?_
    simp (disch:=omega) [gw]
    refine bF [4] ?_
    refine W.ret ?_
    have e:aG z=bK x y:=by
     refine Cn.ext (Cn.cut _) (Cn.bK _ _) fun t=>?_
     rw [cD,hV,cK,aV (Nat.le_refl _)]
    simp [go,e]
structure PB(x:List Int):Prop where
 sz:∀c∈x,Sz c
 len:x.length<1099511627775
theorem PB.tP{x:List Int}(h:PB x):mG (x.map jU):=mG.XU h.sz (by have:=h.len;omega)
theorem PB.of{s n:Nat}{x:List Int}(h:Bd LL s n x)(hs:s<1099511627775)(hn:n<1099511627775):PB x:=⟨fun c hc=>Nat.lt_of_le_of_lt (h.sz c hc) (by omega),Nat.lt_of_le_of_lt h.len hn⟩
theorem MP{x y:List Int}(hx:PB x)(hy:PB y):aZ env.P 182 [Po x,Po y] (Po (iP x y)):=by
 have:=RY _ _ hx.tP hy.tP
 rwa [bC,bC,←fB,←fB]at this
theorem n9{x y:List Int}(hx:PB x)(hy:PB y):aZ env.P 186 [Po x,Po y] (Po (dJ x y)):=by
 have:=R1 _ _ hx.tP hy.tP
 rwa [bC,bC,←fB,←fB]at this
theorem yO{x:List Int}(hx:PB x):aZ env.P 139 [Po x] (Po (fC x)):=by
 have:=R3 _ hx.tP
 rwa [bC,←fB]at this
theorem fK{x:List Int}(hx:PB x):aZ env.P 64 [Po x] (Po (aG x)):=by
 have:=eE _ hx.tP
 rwa [bC,←fB]at this
theorem MQ{a:RP}{y:List Int}{s s' n n':Nat}(ha:mG a)(hs:Bd LL s n (a.map gv))(BI:Bd LL s' n' y)(hB:s+s'+n+n'<1099511627775):aZ env.P 15 [Pg a,Po y] (Po (bK (a.map gv) y)):=by
 have:=R4 a (y.map jU) ha (PB.of BI (by omega) (by omega)).tP s s' n n' hs (by rwa [bC]) hB
 rwa [bC,←fB]at this
theorem yP{x y:List Int}{s s' n n':Nat}(hs:Bd LL s n x)(BI:Bd LL s' n' y)(hB:s+s'+n+n'<1099511627775):aZ env.P 15 [Po x,Po y] (Po (bK x y)):=by
 have:=MQ (PB.of hs (by omega) (by omega)).tP (by rwa [bC]) BI hB
 rwa [bC,←fB]at this
theorem maps{α:Type}{g:α→List PV}{R:List PV→Prop}{Q:α→Prop}(h:∀ps,R ps → ∃a,ps=g a∧Q a):∀ {l:List (List PV)},(∀x∈l,R x) → ∃m:List α,l=m.map g ∧ ∀a∈m,Q a
 | [],_=>⟨[],rfl,fun _ h=>(by cases h)⟩
 | x::l,hx=>by
  obtain⟨a,rfl,ha⟩:=h x (hx x (by simp))
  obtain⟨m,rfl,hm⟩:=maps h (l:=l) fun y hy=>hx y (by simp [hy])
  exact⟨a::m,rfl,fun b hb=>by
   rcases List.mem_cons.1 hb with rfl | hb
   ·exact ha
   ·exact hm b hb⟩
theorem own:ownKnob Tryz.prog.godebug=none:=by kernel_rfl
theorem laidOut:laidOutB Tryz.prog=true:=by kernel_rfl
structure Tg where
 k:Int
 a:Int
 b:Int
 c:Int
 d:Int
 deriving DecidableEq
instance:Inhabited Tg:=⟨⟨0,0,0,0,0⟩⟩
def AJ(t:Tg):List PV:=[.int .i64 t.k, .int .i64 t.a, .int .i64 t.b, .int .i64 t.c, .int .i64 t.d]
theorem jQ(t:Tg):AJ t = [.int .i64 t.k, .int .i64 t.a, .int .i64 t.b, .int .i64 t.c, .int .i64 t.d]:=rfl
def jE(s t:Tg):Bool:=
 if s.k≠t.k then decide (s.k<t.k)else if s.a≠t.a then decide (s.a<t.a)else if s.b≠t.b then decide (s.b<t.b)else if s.c≠t.c then decide (s.c<t.c)else if s.d≠t.d then decide (s.d<t.d)else false
theorem AK(s:Tg):jE s s=false:=by simp [jE]
theorem DQ(s t:Tg):(jE s t&&jE t s)=false:=by
 simp only [jE]
 repeat' split
 all_goals simp
 all_goals omega
theorem oA(s t:Tg):aZ env.P 38 [.ag (AJ s), .ag (AJ t)] (.bool (jE s t)):=by
 simp only [jQ,jE]
 obtain⟨k,a,b,c,d⟩:=s
 obtain⟨k',a',b',c',d'⟩:=t
 simp only
 refine cL [(0, .ag [.int .i64 k, .int .i64 a, .int .i64 b, .int .i64 c, .int .i64 d]),(1, .ag [.int .i64 k', .int .i64 a', .int .i64 b', .int .i64 c', .int .i64 d'])] Tryz.func38 ?_
 refine aB [2,3] ?_
 refine aQ [2,3,11] ?_
 refine bO ?_ ?_<;>intro h
 ·have h:k≠k':=by simpa using h
  rw [if_pos h]
  refine aB [4] ?_
  exact cV
 ·have h:k=k':=by simpa using h
  rw [if_neg (by simpa using h)]
  refine W.skip ?_
  refine aQ [3,18,19] ?_
  refine W.block ?_
  refine W.a9 (fun k σ=>∃(j:Nat) (rows:Pm.Rows) (clk:Nat),σ=⟨fa [(3, .ptr 3 1 0 0),(18, .ag [.int .i64 a, .int .i64 b, .int .i64 c, .int .i64 d]),(19, .int .i64 j)],rows,clk⟩∧j+k=4∧rows 3=some ⟨1,78,5,[[.int .i64 k', .int .i64 a', .int .i64 b', .int .i64 c', .int .i64 d']]⟩∧(0<j→a=a')∧(1<j→b=b')∧(2<j→c=c')∧(3<j→d=d')) 4 ?_ ?_
  ·exact⟨_, .refl,0,_,_,rfl,rfl,by simp,by simp,by simp,by simp,by simp⟩
  rintro m _ ⟨j,rows,clk,rfl,hj,c5,h1,h2,h3,h4⟩
  have JK:j=0∨j=1∨j=2∨j=3∨j=4:=by omega
  refine cH [3,18,19,20] ?_
  refine bO ?_ ?_<;>intro h
  ·have hj4:j<4:=by simp at h;omega
   refine iS ?_
   have JK:j=0∨j=1∨j=2∨j=3:=by omega
   rcases JK with rfl | rfl | rfl | rfl
   ·refine aB [3,5,6,18,19] ?_
    refine W.sr ?_
    simp (disch:=omega) [gw,c5]
    refine bF [3,5,6,18,19,28] ?_
    refine bO ?_ ?_<;>intro h
    ·have h:a≠a':=by simpa using h
     rw [if_pos h]
     refine W.sr ?_
     simp (disch:=omega) [gw,c5]
     refine bF [4] ?_
     exact cV
    ·have h:a=a':=by simpa using h
     refine W.skip ?_
     refine W.cA (fun K hK=>?_);simp (disch:=omega) [gw]
     exact hK _ ⟨m-1,_,aC _ [3,18,19],by omega,1,_,_,rfl,by omega,c5,fun _=>h,by simp,by simp,by simp⟩
   ·have e1:=h1 (by omega)
    refine aB [3,5,6,18,19] ?_
    refine W.sr ?_
    simp (disch:=omega) [gw,c5]
    refine bF [3,5,6,18,19,28] ?_
    refine bO ?_ ?_<;>intro h
    ·have h:b≠b':=by simpa using h
     rw [if_neg (by simpa using e1),if_pos h]
     refine W.sr ?_
     simp (disch:=omega) [gw,c5]
     refine bF [4] ?_
     exact cV
    ·have h:b=b':=by simpa using h
     refine W.skip ?_
     refine W.cA (fun K hK=>?_);simp (disch:=omega) [gw]
     exact hK _ ⟨m-1,_,aC _ [3,18,19],by omega,2,_,_,rfl,by omega,c5,fun _=>e1,fun _=>h,by simp,by simp⟩
   ·have e1:=h1 (by omega)
    have e2:=h2 (by omega)
    refine aB [3,5,6,18,19] ?_
    refine W.sr ?_
    simp (disch:=omega) [gw,c5]
    refine bF [3,5,6,18,19,28] ?_
    refine bO ?_ ?_<;>intro h
    ·have h:c≠c':=by simpa using h
     rw [if_neg (by simpa using e1),if_neg (by simpa using e2),if_pos h]
     refine W.sr ?_
     simp (disch:=omega) [gw,c5]
     refine bF [4] ?_
     exact cV
    ·have h:c=c':=by simpa using h
     refine W.skip ?_
     refine W.cA (fun K hK=>?_);simp (disch:=omega) [gw]
     exact hK _ ⟨m-1,_,aC _ [3,18,19],by omega,3,_,_,rfl,by omega,c5,fun _=>e1,fun _=>e2,fun _=>h,by simp⟩
   ·have e1:=h1 (by omega)
    have e2:=h2 (by omega)
    have e3:=h3 (by omega)
    refine aB [3,5,6,18,19] ?_
    refine W.sr ?_
    simp (disch:=omega) [gw,c5]
    refine bF [3,5,6,18,19,28] ?_
    refine bO ?_ ?_<;>intro h
    ·have h:d≠d':=by simpa using h
     rw [if_neg (by simpa using e1),if_neg (by simpa using e2),if_neg (by simpa using e3),if_pos h]
     refine W.sr ?_
     simp (disch:=omega) [gw,c5]
     refine bF [4] ?_
     exact cV
    ·have h:d=d':=by simpa using h
     refine W.skip ?_
     refine W.cA (fun K hK=>?_);simp (disch:=omega) [gw]
     exact hK _ ⟨m-1,_,aC _ [3,18,19],by omega,4,_,_,rfl,by omega,c5,fun _=>e1,fun _=>e2,fun _=>e3,fun _=>h⟩
  ·have hj4:j=4:=by simp at h;omega
   subst hj4
   rw [if_neg (by simpa using h1 (by omega)),if_neg (by simpa using h2 (by omega)),if_neg (by simpa using h3 (by omega)),if_neg (by simpa using h4 (by omega))]
   refine eH ?_
   refine aB [4] ?_
   exact cV
theorem yQ(s t:Tg):aZ env.P 39 [.ag (AJ s), .ag (AJ t)] (.bool (jE s t)):=by
 simp only [jQ,jE]
 obtain⟨k,a,b,c,d⟩:=s
 obtain⟨k',a',b',c',d'⟩:=t
 simp only
 refine cL [(0, .ag [.int .i64 k, .int .i64 a, .int .i64 b, .int .i64 c, .int .i64 d]),(1, .ag [.int .i64 k', .int .i64 a', .int .i64 b', .int .i64 c', .int .i64 d'])] Tryz.func39 ?_
 refine aB [2,3] ?_
 refine aQ [2,3,10] ?_
 refine bO ?_ ?_<;>intro h
 ·have h:k≠k':=by simpa using h
  rw [if_pos h]
  refine aB [4] ?_
  exact cV
 ·have h:k=k':=by simpa using h
  rw [if_neg (by simpa using h)]
  refine W.skip ?_
  refine aQ [2,3,5] ?_
  refine W.block ?_
  refine W.a9 (fun m σ=>∃(j:Nat) (rows:Pm.Rows) (clk:Nat),σ=⟨fa [(2, .ptr 2 0 0 0),(3, .ptr 3 1 0 0),(5, .int .i64 j)],rows,clk⟩∧j+m=4∧rows 2=some ⟨0,78,5,[[.int .i64 k, .int .i64 a, .int .i64 b, .int .i64 c, .int .i64 d]]⟩∧rows 3=some ⟨1,78,5,[[.int .i64 k', .int .i64 a', .int .i64 b', .int .i64 c', .int .i64 d']]⟩∧(0<j→a=a')∧(1<j→b=b')∧(2<j→c=c')∧(3<j→d=d')) 4 ?_ ?_
  ·exact⟨_, .refl,0,_,_,rfl,rfl,by simp,by simp,by simp,by simp,by simp,by simp⟩
  rintro m _ ⟨j,rows,clk,rfl,hj,dB,c5,h1,h2,h3,h4⟩
  refine aQ [2,3,5,17] ?_
  refine bO ?_ ?_<;>intro h
  ·have hj4:j<4:=by simp at h;omega
   refine iS ?_
   have JK:j=0∨j=1∨j=2∨j=3:=by omega
   rcases JK with rfl | rfl | rfl | rfl
   ·refine W.sd ?_
    simp (disch:=omega) [gw,dB,c5]
    refine bF [2,3,5,28] ?_
    refine bO ?_ ?_<;>intro h
    ·have h:a≠a':=by simpa using h
     rw [if_pos h]
     refine W.sd ?_
     simp (disch:=omega) [gw,dB,c5]
     refine bF [4] ?_
     exact cV
    ·have h:a=a':=by simpa using h
     refine W.skip ?_
     refine W.cA (fun K hK=>?_);simp (disch:=omega) [gw]
     exact hK _ ⟨m-1,_,aC _ [2,3,5],by omega,1,_,_,rfl,by omega,dB,c5,fun _=>h,by simp,by simp,by simp⟩
   ·have e1:=h1 (by omega)
    refine W.sd ?_
    simp (disch:=omega) [gw,dB,c5]
    refine bF [2,3,5,28] ?_
    refine bO ?_ ?_<;>intro h
    ·have h:b≠b':=by simpa using h
     rw [if_neg (by simpa using e1),if_pos h]
     refine W.sd ?_
     simp (disch:=omega) [gw,dB,c5]
     refine bF [4] ?_
     exact cV
    ·have h:b=b':=by simpa using h
     refine W.skip ?_
     refine W.cA (fun K hK=>?_);simp (disch:=omega) [gw]
     exact hK _ ⟨m-1,_,aC _ [2,3,5],by omega,2,_,_,rfl,by omega,dB,c5,fun _=>e1,fun _=>h,by simp,by simp⟩
   ·have e1:=h1 (by omega)
    have e2:=h2 (by omega)
    refine W.sd ?_
    simp (disch:=omega) [gw,dB,c5]
    refine bF [2,3,5,28] ?_
    refine bO ?_ ?_<;>intro h
    ·have h:c≠c':=by simpa using h
     rw [if_neg (by simpa using e1),if_neg (by simpa using e2),if_pos h]
     refine W.sd ?_
     simp (disch:=omega) [gw,dB,c5]
     refine bF [4] ?_
     exact cV
    ·have h:c=c':=by simpa using h
     refine W.skip ?_
     refine W.cA (fun K hK=>?_);simp (disch:=omega) [gw]
     exact hK _ ⟨m-1,_,aC _ [2,3,5],by omega,3,_,_,rfl,by omega,dB,c5,fun _=>e1,fun _=>e2,fun _=>h,by simp⟩
   ·have e1:=h1 (by omega)
    have e2:=h2 (by omega)
    have e3:=h3 (by omega)
    refine W.sd ?_
    simp (disch:=omega) [gw,dB,c5]
    refine bF [2,3,5,28] ?_
    refine bO ?_ ?_<;>intro h
    ·have h:d≠d':=by simpa using h
     rw [if_neg (by simpa using e1),if_neg (by simpa using e2),if_neg (by simpa using e3),if_pos h]
     refine W.sd ?_
     simp (disch:=omega) [gw,dB,c5]
     refine bF [4] ?_
     exact cV
    ·have h:d=d':=by simpa using h
     refine W.skip ?_
     refine W.cA (fun K hK=>?_);simp (disch:=omega) [gw]
     exact hK _ ⟨m-1,_,aC _ [2,3,5],by omega,4,_,_,rfl,by omega,dB,c5,fun _=>e1,fun _=>e2,fun _=>e3,fun _=>h⟩
  ·have hj4:j=4:=by simp at h;omega
   subst hj4
   rw [if_neg (by simpa using h1 (by omega)),if_neg (by simpa using h2 (by omega)),if_neg (by simpa using h3 (by omega)),if_neg (by simpa using h4 (by omega))]
   refine eH ?_
   refine aB [4] ?_
   exact cV
def sc(z:Bool)(l:List (List PV)):PV:=if z=true then .nil else .sl l
def szc(z:Bool)(l:List (List PV)):List (List PV):=if z=true then []else l
@[simp] theorem aka{l:List (List PV)}:sc false l = .sl l:=rfl
@[simp] theorem atv{l:List (List PV)}:sc true l = .nil:=rfl
@[simp] theorem arJ{rows:Pm.Rows}{z:Bool}{l:List (List PV)}:fz rows (sc z l) = .sl (szc z l):=by cases z<;>rfl
@[simp] theorem arK{rows:Pm.Rows}{z:Bool}{l:List (List PV)}:pz rows (sc z l) = .sl (szc z l):=by cases z<;>rfl
@[simp] theorem DR{z:Bool}{l:List (List PV)}:bL (sc z l)=true:=by cases z<;>rfl
@[simp] theorem aml{z:Bool}{l:List (List PV)}:aS (sc z l) = []:=by cases z<;>rfl
@[simp] theorem amm{z:Bool}{l:List (List PV)}:cW (sc z l) = []:=by cases z<;>rfl
@[simp] theorem amn{rows:Pm.Rows}{z:Bool}{l:List (List PV)}:eZ rows (sc z l)=True:=by cases z<;>simp [sc,eZ]
@[simp] theorem agQ{z:Bool}{l:List (List PV)}:dM (sc z l)=some [sc z l]:=by cases z<;>rfl
@[simp] theorem agR{z:Bool}{l:List (List PV)}:bP (sc z l)=some [sc z l]:=by cases z<;>rfl
structure CE where
 t:Tg
 z:Bool
 p:List Int
 w:Int
instance:Inhabited CE:=⟨⟨default,true,[],0⟩⟩
def jK(x:CE):List PV:=[.int .i64 x.t.k, .int .i64 x.t.a, .int .i64 x.t.b, .int .i64 x.t.c, .int .i64 x.t.d,sc x.z (emap ie x.p), .int .i64 x.w]
theorem eO(x:CE):jK x = [.int .i64 x.t.k, .int .i64 x.t.a, .int .i64 x.t.b, .int .i64 x.t.c, .int .i64 x.t.d,sc x.z (emap ie x.p), .int .i64 x.w]:=rfl
@[simp] theorem aes{l:List CE}:a8 7 (emap jK l)=True:=bQ fun _=>rfl
theorem SE(x:CE):(jK x).all bL=true:=by simp only [eO,List.all_cons,DR,List.all_nil];rfl
@[simp] theorem abq{v e n:Nat}{l:List CE}:cB (some ⟨v,e,n,emap jK l⟩)=True:=bR SE
def CE.v(x:CE):List Int:=if x.z=true then []else x.p
def CE.nz(x:CE):CE:=⟨x.t,false,x.v,x.w⟩
structure RE where
 t:Tg
 z:Bool
 q:List (List PV)
 w:Int
 y:Bool
 s:List (List PV)
 a:Bool
instance:Inhabited RE:=⟨⟨default,true,[],0,true,[],false⟩⟩
def j8(x:RE):List PV:=[.int .i64 x.t.k, .int .i64 x.t.a, .int .i64 x.t.b, .int .i64 x.t.c, .int .i64 x.t.d,sc x.z x.q, .int .i64 x.w,sc x.y x.s, .bool x.a]
theorem kH(x:RE):j8 x = [.int .i64 x.t.k, .int .i64 x.t.a, .int .i64 x.t.b, .int .i64 x.t.c, .int .i64 x.t.d,sc x.z x.q, .int .i64 x.w,sc x.y x.s, .bool x.a]:=rfl
@[simp] theorem aet{l:List RE}:a8 9 (emap j8 l)=True:=bQ fun _=>rfl
theorem DT(x:RE):(j8 x).all bL=true:=by simp only [kH,List.all_cons,DR,List.all_nil];rfl
@[simp] theorem abr{v e n:Nat}{l:List RE}:cB (some ⟨v,e,n,emap j8 l⟩)=True:=bR DT
def RE.nz(x:RE):RE:=⟨x.t,false,szc x.z x.q,x.w,false,szc x.y x.s,x.a⟩
section
variable {α:Type} [Inhabited α]
def pN(tg:α→Tg)(t:Tg)(l:List α):Nat→Nat
 | 0=>0
 | k+1=>if jE t (tg (nth l k))=true then pN tg t l k else k+1
theorem k7{tg:α→Tg}{t:Tg}{l:List α}{k:Nat}:pN tg t l (k+1)=if jE t (tg (nth l k))=true then pN tg t l k else k+1:=rfl
def bef(tg:α→Tg)(t:Tg)(l:List α):Nat→Bool
 | 0=>false
 | k+1=>jE t (tg (nth l k))
theorem DU{tg:α→Tg}{t:Tg}{l:List α}{k:Nat}(h:bef tg t l k=false):pN tg t l k=k:=by
 cases k with
 | zero=>rfl
 | succ k=>rw [k7,if_neg (by rw [show jE t (tg (nth l k))=false from h];decide)]
theorem JL{tg:α→Tg}{t:Tg}{l:List α}:∀k,pN tg t l k≤k
 | 0=>Nat.le_refl _
 | k+1=>by
  unfold pN
  split
  ·exact Nat.le_succ_of_le (JL k)
  ·exact Nat.le_refl _
def oH(tg:α→Tg)(l:List α)(x:α):List α:=l.take (pN tg (tg x) l l.length)++x::l.drop (pN tg (tg x) l l.length)
def OC(tg:α→Tg)(l:List α):List α:=l.foldl (oH tg) []
theorem SF{tg:α→Tg}{l:List α}{x:α}:(oH tg l x).length=l.length+1:=by
 have:=JL (tg:=tg) (t:=tg x) (l:=l) l.length
 simp [oH]
 omega
theorem DV{tg:α→Tg}{l:List α}{i:Nat}(h:i<l.length):OC tg (l.take (i+1))=oH tg (OC tg (l.take i)) (nth l i):=by
 unfold OC
 rw [dP h,List.take_succ_eq_append_getElem h,List.foldl_append]
 rfl
theorem JM{tg:α→Tg}{l:List α}:(OC tg l).length=l.length:=by
 suffices h:∀(l S:List α),(l.foldl (oH tg) S).length=S.length+l.length by simpa [OC]using h l []
 intro l
 induction l with
 | nil=>intro S;simp
 | cons x l ih=>intro S;rw [List.foldl_cons,ih,SF];simp;omega
end
theorem aeu{α:Type}{S:List α}{z y:α}{k:Nat}(hk:k≤S.length):((S ++ [z]).take (k+1)++((S ++ [z]).drop k).take (S.length-k)).set k y=S.take k++y::S.drop k:=by
 obtain⟨A,B,rfl,rfl⟩:∃A B,S=A++B∧A.length=k:=⟨S.take k,S.drop k,(List.take_append_drop k S).symm,by simp;omega⟩
 have e1:(A++B ++ [z]).take (A.length+1)=A++(B ++ [z]).take 1:=by rw [List.append_assoc,List.take_length_add_append]
 have e2:(A++B ++ [z]).drop A.length=B ++ [z]:=by rw [List.append_assoc,List.drop_left]
 have e3:(A++B).length-A.length=B.length:=by simp
 have e4:(B ++ [z]).take B.length=B:=by simp
 rw [e1,e2,e3,e4,List.take_left,List.drop_left]
 cases B with
 | nil=>simp
 | cons b B=>simp
theorem aoG(x:CE):x.nz.t=x.t:=rfl
theorem akc(x:RE):x.nz.t=x.t:=rfl
def nO(l:List CE):List CE:=OC CE.t (l.map CE.nz)
def oI(l:List RE):List RE:=OC RE.t (l.map RE.nz)
theorem vN{α β:Type}[Inhabited α][Inhabited β]{f:α→β}{l:List α}{i:Nat}(h:i<l.length):nth (l.map f) i=f (nth l i):=by rw [dP (by simpa using h),dP h];simp
theorem MR{l:List CE}{i:Nat}(h:i<l.length):nO (l.take (i+1))=oH CE.t (nO (l.take i)) (nth l i).nz:=by
 unfold nO
 rw [List.map_take,List.map_take,DV (by simpa using h),vN h]
theorem MS{l:List RE}{i:Nat}(h:i<l.length):oI (l.take (i+1))=oH RE.t (oI (l.take i)) (nth l i).nz:=by
 unfold oI
 rw [List.map_take,List.map_take,DV (by simpa using h),vN h]
theorem vO{l:List CE}:(nO l).length=l.length:=by simp [nO,JM]
theorem vP{l:List RE}:(oI l).length=l.length:=by simp [oI,JM]
@[simp] theorem X6{x:CE}:(jK x).length=7:=rfl
theorem MT{L:List CE}{j:Nat}{y:CE}(h:j<L.length):fO (emap jK L) j 0 (jK y)=emap jK (L.set j y):=by
 simp [fO,emap,List.map_set,h]
 rw [show(jK L[j]).drop 7 = []from rfl,List.append_nil]
def zC:CE:=⟨⟨0,0,0,0,0⟩,false,[],0⟩
set_option maxHeartbeats 2000000 in
theorem MU{l:List CE}(hl:l.length<1048576)(hN:∀x∈l,aZ env.P 64 [.sl (szc x.z (emap ie x.p))] (.sl (emap ie x.v))) :
  aZ env.P 35 [aX jK l] (aX jK (nO l)):=by
 refine cL [(0,aX jK l)] Tryz.func35 ?_
 refine aB [0] ?_
 refine aB [0,3] ?_
 refine W.nil 3 3 82 7 (by simp) (by decide) (fun K hK=>?_)
 refine W.lw [0,3] hK ?_;clear hK K;simp
 refine aQ [3,7,8,9] ?_
 refine W.block ?_
 refine W.a9 (fun k σ=>∃(i v3:Nat) (rows:Pm.Rows) (clk:Nat),σ=⟨fa [(3, .own 3 v3 0 i),(7,aX jK l),(8, .int .i64 l.length),(9, .int .i64 i)],rows,clk⟩∧i+k=l.length∧rows 3=some ⟨v3,82,7,emap jK (nO (l.take i))⟩) l.length ?_ ?_
 ·exact⟨_, .refl,0,_,_,_,rfl,by omega,by simp [nO,OC,emap]⟩
 rintro k _ ⟨i,v3,rows,clk,rfl,L7,c5⟩
 refine cH [3,7,8,9,10] ?_
 refine bO ?_ ?_<;>intro h
 ·have hi:i<l.length:=by simp at h;omega
  have uH:(nO (l.take i)).length=i:=by rw [vO,List.length_take];omega
  have qM:=MR hi
  have hNi:=hN _ (cP hi)
  rw [oH,aoG,uH]at qM
  generalize nO (l.take i)=S at *
  refine iS ?_
  generalize hx:nth l i=x at *
  refine W.sr ?_
  simp (disch:=omega) [gw,hi,eO,hx]
  refine bF [3,5,7,8,9] ?_
  refine W.sr ?_
  simp (disch:=omega) [gw,c5]
  refine bF [3,5,6,7,8,9] ?_
  refine W.seq ?_
  refine W.block ?_
  refine W.a9 (fun k σ=>∃(j:Nat) (rows:Pm.Rows) (clk:Nat),σ=⟨fa [(3, .own 3 v3 0 i),(5, .ptr 5 clk 0 0),(6, .int .i64 j),(7,aX jK l),(8, .int .i64 l.length),(9, .int .i64 i)],rows,clk+1⟩∧j≤i∧pN CE.t x.t S i=pN CE.t x.t S j∧j=k∧rows 3=some ⟨v3,82,7,emap jK S⟩∧rows 5=some ⟨clk,82,7,[jK x]⟩) i ?_ ?_
  ·exact⟨_, .refl,i,_,_,rfl,Nat.le_refl _,rfl,rfl,by simp [c5],by simp [eO]⟩
  clear c5 rows clk
  rintro m _ ⟨j,rows,clk,rfl,U2,hp,rfl,c5,gX⟩
  simp only [eO]at gX
  refine W.seq ?_
  refine W.x9 (fun σ=>∃(b:Bool),σ=⟨fa [(3, .own 3 v3 0 i),(5, .ptr 5 clk 0 0),(6, .int .i64 j),(7,aX jK l),(8, .int .i64 l.length),(9, .int .i64 i),(27, .bool b)],rows,clk+1⟩∧b=bef CE.t x.t S j) (fun K hK=>?_) ?_
  ·cases j with
   | zero =>
    simp (disch:=omega) [gw]
    exact hK _ _ (aC _ [3,5,6,7,8,9,27]) ⟨_,rfl,rfl⟩
   | succ j =>
    have hL:=oA x.t (nth S j).t
    simp only [jQ]at hL
    have hjS:j<S.length:=by omega
    have gZ:(0:Int)<(j:Int)+1:=by omega
    simp (disch:=omega) [gw,c5,gX,eO,hjS,gZ]
    refine cM hL ?_
    exact hK _ _ (aC _ [3,5,6,7,8,9,27]) ⟨_,rfl,rfl⟩
  rintro _ ⟨b,rfl,hb⟩
  refine bO ?_ ?_<;>intro h
  ·subst h
   cases j with
   | zero=>simp [bef]at hb
   | succ j =>
    have hb:jE x.t (nth S j).t=true:=hb.symm
    refine W.skip ?_
    refine W.block ?_
    refine W.cA (fun K hK=>?_);simp (disch:=omega) [gw]
    exact hK _ ⟨j,_,aC _ [3,5,6,7,8,9],by omega,j,_,_,rfl,by omega,by rw [hp,k7,if_pos hb],rfl,c5,by simp only [eO];exact gX⟩
  ·subst h
   have hpj:pN CE.t x.t S j=j:=DU hb.symm
   rw [hp,hpj]at qM
   refine eH ?_
   clear hp
   refine W.fW (fun σ=>∃(v:Nat) (rows:Pm.Rows) (gF:Nat),σ=⟨fa [(3, .own 3 v 0 (i+1)),(5, .ptr 5 clk 0 0),(6, .int .i64 j),(7,aX jK l),(8, .int .i64 l.length),(9, .int .i64 i)],rows,gF⟩∧rows 3=some ⟨v,82,7,emap jK (S ++ [zC])⟩∧rows 5=some ⟨clk,82,7,[jK x]⟩) (fun K hK=>?_) ?_
   ·simp (disch:=omega) [gw,c5,gX,uH]
    refine hK _ _ (aC _ [3,5,6,7,8,9]) ⟨_,_,_,rfl,?_,?_⟩
    ·simp [emap,eO,zC]
    ·simp [gX,eO]
   clear c5 gX rows
   rintro _ ⟨v,rows,gF,rfl,c5,gX⟩
   refine W.x9 (fun σ=>∃(rows:Pm.Rows),σ=⟨fa [(3, .own 3 v 0 (i+1)),(5, .ptr 5 clk 0 0),(6, .int .i64 j),(7,aX jK l),(8, .int .i64 l.length),(9, .int .i64 i)],rows,gF⟩∧rows 3=some ⟨v,82,7,emap jK ((S ++ [zC]).take (j+1)++((S ++ [zC]).drop j).take (i-j))⟩∧rows 5=some ⟨clk,82,7,[jK x]⟩) (fun K hK=>?_) ?_
   ·have N9:(emap jK (S ++ [zC])).length=i+1:=by simp [emap,uH]
    simp (disch:=omega) [gw,c5]
    refine ah7 (els:=emap jK (S ++ [zC])) (l:=emap jK ((S ++ [zC]).drop j)) c5 (by rw [N9];omega) ⟨_,c5,rfl,?_⟩ ?_ ?_
    ·simp only
     rw [List.take_of_length_le (by rw [List.length_drop,N9];exact Nat.le_refl _)]
     simp [emap]
    ·intro e he
     obtain⟨y,_,rfl⟩:=List.mem_map.1 he
     rfl
    have e1:min (emap jK ((S ++ [zC]).drop j)).length (i-j)=i-j:=by simp [emap,uH];omega
    have e2:(emap jK (S ++ [zC])).take (j+1)++(emap jK ((S ++ [zC]).drop j)).take (i-j)++(emap jK (S ++ [zC])).drop (j+1+(i-j))=emap jK ((S ++ [zC]).take (j+1)++((S ++ [zC]).drop j).take (i-j)):=by
     rw [show(emap jK (S ++ [zC])).drop (j+1+(i-j)) = []from List.drop_eq_nil_of_le (by rw [N9];omega),List.append_nil]
     simp [emap]
    rw [e1,e2]
    simp (disch:=omega) [gw]
    refine bU (by refine⟨?_,?_⟩<;>kernel_rfl) ?_
    simp (disch:=omega) [gw]
    exact hK _ _ (aC _ [3,5,6,7,8,9]) ⟨_,rfl,by simp,by simp [gX]⟩
   clear c5 gX rows
   rintro _ ⟨rows,rfl,c5,gX⟩
   simp only [eO]at gX
   refine W.CS (fun K hK=>?_)
   simp (disch:=omega) [gw,c5,gX]
   refine aD hNi ?_
   have jH:j<j+1+(i-j):=by omega
   simp (disch:=omega) [gw,c5,gX,X6,jH]
   refine bU (by kernel_rfl) ?_
   simp (disch:=omega) [gw]
   have e3:=MT (L:=(S ++ [zC]).take (j+1)++((S ++ [zC]).drop j).take (i-j)) (j:=j) (y:=x.nz) (by simp [uH];omega)
   rw [←uH,aeu (by omega),←qM]at e3
   simp only [eO,CE.nz,aka,uH]at e3
   rw [e3]
   refine hK _ ?_;clear hK K
   refine W.cA (fun K hK=>?_);simp (disch:=omega) [gw]
   exact hK _ ⟨k-1,_,aC _ [3,7,8,9],by omega,i+1,v,_,_,rfl,by omega,by simp⟩
 ·have hi:i=l.length:=by simp at h;omega
  subst hi
  rw [List.take_length]at c5
  refine eH ?_
  refine W.freeze 3 (by simp [c5]) (fun K hK=>?_)
  simp [c5]
  refine hK _ ?_;clear hK K
  refine aB [2] ?_
  refine W.ret ?_
  simp [go,List.take_of_length_le (Nat.le_of_eq (vO (l:=l)))]
@[simp] theorem amo{x:RE}:(j8 x).length=9:=rfl
theorem SG{l:List RE}{x:RE}(h:x∈oI l):∃y∈l,x=y.nz:=by
 suffices hs:∀(l S:List RE),x∈l.foldl (oH RE.t) S→x∈S∨x∈l by
  rcases hs _ _ h with h | h
  ·cases h
  ·obtain⟨y,hy,rfl⟩:=List.mem_map.1 h
   exact⟨y,hy,rfl⟩
 intro l
 induction l with
 | nil=>intro S h;exact .inl h
 | cons a l ih =>
  intro S h
  rcases ih _ h with h | h
  ·simp only [oH,List.mem_append,List.mem_cons]at h
   rcases h with h | rfl | h
   ·exact .inl (List.mem_of_mem_take h)
   ·exact .inr (by simp)
   ·exact .inl (List.mem_of_mem_drop h)
  ·exact .inr (List.mem_cons_of_mem _ h)
set_option maxHeartbeats 2000000 in
theorem MV{l:List RE}(hl:l.length<1048576):aZ env.P 37 [aX j8 l] (aX j8 (oI l)):=by
 refine cL [(0,aX j8 l)] Tryz.func37 ?_
 refine aB [0] ?_
 refine aB [0,3] ?_
 refine W.nil 3 3 85 9 (by simp) (by decide) (fun K hK=>?_)
 refine W.lw [0,3] hK ?_;clear hK K;simp
 refine aQ [0,3,7,8] ?_
 refine W.block ?_
 refine W.a9 (fun k σ=>∃(i v3:Nat) (rows:Pm.Rows) (clk:Nat),σ=⟨fa [(0,aX j8 l),(3, .own 3 v3 0 i),(7, .int .i64 l.length),(8, .int .i64 i)],rows,clk⟩∧i+k=l.length∧rows 3=some ⟨v3,85,9,emap j8 (oI (l.take i))⟩) l.length ?_ ?_
 ·exact⟨_, .refl,0,_,_,_,rfl,by omega,by simp [oI,OC,emap]⟩
 rintro k _ ⟨i,v3,rows,clk,rfl,L7,c5⟩
 refine cH [0,3,7,8,9] ?_
 refine bO ?_ ?_<;>intro h
 ·have hi:i<l.length:=by simp at h;omega
  have uH:(oI (l.take i)).length=i:=by rw [vP,List.length_take];omega
  have qM:=MS hi
  rw [oH,akc,uH]at qM
  generalize oI (l.take i)=S at *
  refine iS ?_
  refine aB [0,3,4,7,8] ?_
  refine W.sr ?_
  simp (disch:=omega) [gw,c5]
  refine bF [0,3,4,5,7,8] ?_
  refine W.seq ?_
  refine W.block ?_
  refine W.a9 (fun k σ=>∃(j:Nat),σ=⟨fa [(0,aX j8 l),(3, .own 3 v3 0 i),(4, .int .i64 i),(5, .int .i64 j),(7, .int .i64 l.length),(8, .int .i64 i)],rows,clk⟩∧j≤i∧pN RE.t (nth l i).t S i=pN RE.t (nth l i).t S j∧j=k) i ?_ ?_
  ·exact⟨_, .refl,i,rfl,Nat.le_refl _,rfl,rfl⟩
  rintro m _ ⟨j,rfl,U2,hp,rfl⟩
  refine W.seq ?_
  refine W.x9 (fun σ=>∃(b:Bool),σ=⟨fa [(0,aX j8 l),(3, .own 3 v3 0 i),(4, .int .i64 i),(5, .int .i64 j),(7, .int .i64 l.length),(8, .int .i64 i),(28, .bool b)],rows,clk⟩∧b=bef RE.t (nth l i).t S j) (fun K hK=>?_) ?_
  ·cases j with
   | zero =>
    simp (disch:=omega) [gw]
    exact hK _ _ (aC _ [0,3,4,5,7,8,28]) ⟨_,rfl,rfl⟩
   | succ j =>
    have hL:=yQ (nth l i).t (nth S j).t
    simp only [jQ]at hL
    have hjS:j<S.length:=by omega
    have gZ:(0:Int)<(j:Int)+1:=by omega
    simp (disch:=omega) [gw,c5,kH,hjS,gZ,hi]
    refine cM hL ?_
    exact hK _ _ (aC _ [0,3,4,5,7,8,28]) ⟨_,rfl,rfl⟩
  rintro _ ⟨b,rfl,hb⟩
  refine bO ?_ ?_<;>intro h
  ·subst h
   cases j with
   | zero=>simp [bef]at hb
   | succ j =>
    have hb:jE (nth l i).t (nth S j).t=true:=hb.symm
    refine W.skip ?_
    refine W.block ?_
    refine W.cA (fun K hK=>?_);simp (disch:=omega) [gw]
    exact hK _ ⟨j,_,aC _ [0,3,4,5,7,8],by omega,j,rfl,by omega,by rw [hp,k7,if_pos hb],rfl⟩
  ·subst h
   have hpj:=DU hb.symm
   rw [hp,hpj]at qM
   refine eH ?_
   clear hp
   have hpe:∀e∈emap j8 (S.drop j),∀p∈e,bL p=true:=by
    intro e he p hp
    obtain⟨y,_,rfl⟩:=List.mem_map.1 he
    exact List.all_eq_true.1 (DT y) p hp
   have hld:(S.drop j).length=i-j:=by simp [uH]
   have hT:List.take (i-j) (List.drop j (emap j8 S))=emap j8 (S.drop j):=by
    rw [List.take_of_length_le (by simp [emap,uH])]
    simp [emap]
   refine W.CS (fun K hK=>?_)
   simp (disch:=omega) [gw,c5,hi,kH,uH,hld,hT]
   refine anz (fun h=>by simpa [emap,uH]using h) (by simp [emap,uH];omega) ?_
   simp (disch:=omega) [gw]
   refine bU (by refine⟨?_,?_,?_⟩<;>kernel_rfl) ?_
   simp (disch:=omega) [gw]
   refine hK _ ?_;clear hK K
   refine W.cA (fun K hK=>?_);simp (disch:=omega) [gw]
   refine hK _ ⟨k-1,_,aC _ [0,3,7,8],by omega,i+1,_,_,_,by rw [show j+(i-j+1)=i+1 by omega];rfl,by omega,?_⟩
   rw [qM]
   simp [emap,kH,RE.nz]
 ·have hi:i=l.length:=by simp at h;omega
  subst hi
  rw [List.take_length]at c5
  refine eH ?_
  refine W.freeze 3 (by simp [c5]) (fun K hK=>?_)
  simp [c5]
  refine hK _ ?_;clear hK K
  refine aB [2] ?_
  refine W.ret ?_
  simp [go,List.take_of_length_le (Nat.le_of_eq (vP (l:=l)))]
theorem DW{a:List Int}(ha:a.length<1099511627776):aZ env.P 250 [us a,us a] (.bool true):=by
 refine cL [(0,us a),(1,us a)] Tryz.func250 ?_
 refine aB [0,1] ?_
 refine aQ [0,1,10] ?_
 refine bO ?_ ?_<;>intro h
 ·simp at h
 ·refine W.skip ?_
  refine aQ [0,1,5] ?_
  refine W.block ?_
  refine W.a9 (fun k σ=>∃(i:Nat) (rows:Pm.Rows) (clk:Nat),σ=⟨fa [(0,us a),(1,us a),(5, .int .i64 i)],rows,clk⟩∧i+k=a.length) a.length ?_ ?_
  ·exact⟨_, .refl,0,_,_,rfl,by omega⟩
  rintro k _ ⟨i,rows,clk,rfl,L7⟩
  refine aQ [0,1,5,14] ?_
  refine bO ?_ ?_<;>intro h
  ·have hi:i<a.length:=by simp at h;omega
   refine iS ?_
   refine W.sd ?_
   simp (disch:=omega) [gw,hi,u32]
   refine bF [0,1,5,25] ?_
   refine bO ?_ ?_<;>intro h
   ·simp at h
   ·refine W.skip ?_
    refine W.cA (fun K hK=>?_);simp (disch:=omega) [gw]
    exact hK _ ⟨k-1,_,aC _ [0,1,5],by omega,i+1,_,_,rfl,by omega⟩
  ·refine eH ?_
   refine aB [4] ?_
   exact cV
theorem AL{x:Int}(hx:(a5 LL x.natAbs).length<1099511627776):aZ env.P 190 [.ag (ie x), .ag (ie x)] (.bool true):=by
 have k1:=DW hx
 unfold ie
 generalize decide (x<0)=b
 generalize a5 LL x.natAbs=d at *
 refine cL [(0, .ag [.bool b,us d]),(1, .ag [.bool b,us d])] Tryz.func190 ?_
 refine aB [2,3] ?_
 refine bT [4] k1 ?_
 exact cV
theorem xG{p:List Int}(hp:p.length<1099511627776)(hz:∀c∈p,(a5 LL c.natAbs).length<1099511627776):aZ env.P 107 [Po p,Po p] (.bool true):=by
 refine cL [(0,Po p),(1,Po p)] Tryz.func107 ?_
 refine aB [0,1] ?_
 refine aQ [0,1,10] ?_
 refine bO ?_ ?_<;>intro h
 ·simp at h
 ·refine W.skip ?_
  refine aQ [0,1,12,13] ?_
  refine W.block ?_
  refine W.a9 (fun k σ=>∃(i:Nat) (rows:Pm.Rows) (clk:Nat),σ=⟨fa [(0,Po p),(1,Po p),(12, .int .i64 p.length),(13, .int .i64 i)],rows,clk⟩∧i+k=p.length) p.length ?_ ?_
  ·exact⟨_, .refl,0,_,_,rfl,by omega⟩
  rintro k _ ⟨i,rows,clk,rfl,L7⟩
  refine cH [0,1,12,13,14] ?_
  refine bO ?_ ?_<;>intro h
  ·have hi:i<p.length:=by simp at h;omega
   have k1:=AL (hz _ (cP hi))
   unfold ie at k1
   refine iS ?_
   refine aB [0,1,5,12,13] ?_
   refine W.sd ?_
   simp (disch:=omega) [gw,hi,ie]
   refine c7 [0,1,12,13,25] k1 ?_
   refine bO ?_ ?_<;>intro h
   ·simp at h
   ·refine W.skip ?_
    refine W.cA (fun K hK=>?_);simp (disch:=omega) [gw]
    exact hK _ ⟨k-1,_,aC _ [0,1,12,13],by omega,i+1,_,_,rfl,by omega⟩
  ·refine eH ?_
   refine aB [4] ?_
   exact cV
theorem HD:env.P.underlying 3=some (.int .i64):=by kernel_rfl
theorem eqI{P:Program}{t:TypeId}(hu:P.underlying t=some (.int .i64))(d:Nat)(w:World)(a b:Int):(Op.equalIn (d+1) t (iV a) (iV b)).run P w = .ok (a==b) w:=by simp [Op.equalIn,run_underlying hu,iV]
theorem JN{P:Program}{t:TypeId}(hu:P.underlying t=some (.int .i64))(w:World){xs:Array Value}{i:Nat}{v:Value}(h:xs[i]? = some v):(part t xs i).run P w = .ok v w:=by
 simp [part,jX hu,mJ,hu,H9,h]
theorem lV{P:Program}{t:TypeId}(hu:P.underlying t=some (.int .i64)){d:Nat}{w:World}{xs ys:Array Value}{i:Nat}{is:List Nat}{a b:Int}(hx:xs[i]? = some (iV a))(hy:ys[i]? = some (iV b)) :
  (Op.eqItems (d+1) t 1 xs ys (i::is)).run P w=if a=b then(Op.eqItems (d+1) t 1 xs ys is).run P w else .ok false w:=by
 simp only [Op.eqItems,Sem.run_bind,Nat.mul_one,JN hu w hx,JN hu w hy,Result.andThen_ok,eqI hu]
 by_cases h:a=b<;>simp [h]
theorem sK{P:Program}{d:Nat}{w:World}{xs ys:Array Value}{f:Field}{fs:List Field}{u v:Value}{b:Bool} (hn:f.name ≠ "_") (hx:(part f.type xs f.offset).run P w = .ok u w) (hy:(part f.type ys f.offset).run P w = .ok v w) (he:(Op.equalIn d f.type u v).run P w = .ok b w) :
  (Op.eqFields d xs ys (f::fs)).run P w=if b=true then(Op.eqFields d xs ys fs).run P w else .ok false w:=by
 simp only [Op.eqFields,if_pos hn,Sem.run_bind,hx,hy,Result.andThen_ok,he]
 cases b<;>simp
theorem SH(d:Nat)(w:World)(a b c e a' b' c' e':Int):(Op.equalIn (d+2) 76 (.agg #[iV a,iV b,iV c,iV e]) (.agg #[iV a',iV b',iV c',iV e'])).run env.P w = .ok (decide ([a,b,c,e] = [a',b',c',e'])) w:=by
 have hu:env.P.underlying 76=some (.array 4 3):=by kernel_rfl
 obtain⟨i,hi⟩:∃i,env.P.info? 3=some i:=Option.isSome_iff_exists.1 (by kernel_rfl)
 rw [show d+2=(d+1)+1 from rfl,run_equalIn_array w (d+1) _ _ hu hi,show env.P.cellsOf 3=1 by kernel_rfl,show List.range 4 = [0,1,2,3]from rfl,
  lV HD (a:=a) (b:=a') rfl rfl,lV HD (a:=b) (b:=b') rfl rfl,lV HD (a:=c) (b:=c') rfl rfl,lV HD (a:=e) (b:=e') rfl rfl]
 by_cases h1:a=a'<;>by_cases h2:b=b'<;>by_cases h3:c=c'<;>by_cases h4:e=e'<;>simp [h1,h2,h3,h4,Op.eqItems]
theorem akd:OI env.P 76 4:=by
 refine⟨fun w xs ys hx hy=>?_,by kernel_rfl⟩
 match xs,hx with
 | [a,b,c,d],_ =>
  match ys,hy with
  | [a',b',c',d'],_=>exact SH 9998 w a b c d a' b' c' d'
theorem ake:OI env.P 78 5:=by
 refine⟨fun w xs ys hx hy=>?_,by kernel_rfl⟩
 match xs,hx with
 | [k,a,b,c,d],_ =>
  match ys,hy with
  | [k',a',b',c',d'],_ =>
   obtain⟨f1,f2,hS,n1,t1,o1,n2,t2,o2⟩:∃f1 f2:Field,env.P.fieldsOf 78 = [f1,f2].toArray∧f1.name ≠ "_" ∧ f1.type=3∧f1.offset=0∧f2.name ≠ "_" ∧ f2.type=76∧f2.offset=1:=by
    have h:env.P.fieldsOf 78=([⟨ "Kind",3,0,false, "", "",0⟩,⟨ "Ids",76,1,false, "", "",8⟩]:List Field).toArray:=by kernel_rfl
    exact⟨_,_,h,by decide,rfl,rfl,by decide,rfl,rfl⟩
   have hu:env.P.underlying 78=some (.struct (env.P.fieldsOf 78)):=by kernel_rfl
   have hui:env.P.underlying 76=some (.array 4 3):=by kernel_rfl
   obtain⟨i,hi⟩:∃i,env.P.info? 76=some i:=Option.isSome_iff_exists.1 (by kernel_rfl)
   have lF:i.size=4:=by
    have h:(env.P.info? 76).map (fun i=>i.size)=some 4:=by kernel_rfl
    rw [hi]at h
    simpa using h
   have pA:∀x0 x1 x2 x3 x4:Int,(part 76 #[iV x0,iV x1,iV x2,iV x3,iV x4] 1).run env.P w = .ok (.agg #[iV x1,iV x2,iV x3,iV x4]) w:=by
    intro x0 x1 x2 x3 x4
    simp only [part,Sem.run_bind,jX hui,Result.andThen_ok,show mJ env.P 76=true by kernel_rfl,if_true,cC hi,lF,Sem.run_pure]
    rfl
   show(Op.equalIn 10000 78 (.agg #[iV k,iV a,iV b,iV c,iV d]) (.agg #[iV k',iV a',iV b',iV c',iV d'])).run env.P w=_
   rw [show(10000:Nat)=9999+1 from rfl,run_equalIn_struct w 9999 78 _ _ hu (by kernel_rfl),hS]
   show(Op.eqFields 9999 _ _ [f1,f2]).run env.P w=_
   rw [sK (u:=iV k) (v:=iV k') (b:=k==k') n1 (by rw [t1,o1];exact JN HD w rfl) (by rw [t1,o1];exact JN HD w rfl) (by rw [t1];exact eqI HD 9998 w k k'),
    sK n2 (by rw [t2,o2];exact pA k a b c d) (by rw [t2,o2];exact pA k' a' b' c' d') (by rw [t2];exact SH 9997 w a b c d a' b' c' d')]
   by_cases h1:k=k'<;>by_cases h2:[a,b,c,d] = [a',b',c',d']<;>simp [h1,h2,Op.eqFields]
end Go.Proofs.YtiobceocpabjdaaGreat
