import Derived.Test.YtiobceocpabjdaaGreatKae
import Derived.Test.YtiobceocpabjdaaGreatKah
set_option linter.unusedSimpArgs false
set_option linter.unusedVariables false
namespace Go.Proofs.YtiobceocpabjdaaGreat
open Go Pm
def ri(x:Int):List PV:=[aH aG (aR DD x.natAbs), .bool (decide (x<0)),aH aG (aR DD 1), .bool false]
@[simp] theorem ap1{x:Int}:ri x = [aH aG (aR DD x.natAbs), .bool (decide (x<0)),aH aG (aR DD 1), .bool false]:=rfl
theorem iN(x:Int):re (x:Rat)=ri x:=by
 simp only [re,ri,Rat.num_intCast,Rat.den_intCast]
 congr
theorem rQ(x:List Int):PP (qs x)=aH ri x:=by simp only [PP,aH,emap,qs,List.map_map,Function.comp_def,iN]
abbrev PI(x:List Int):PV:=aH ri x
@[simp] theorem as8{l:List Int}:bK 4 (emap ri l)=True:=cL fun _=>rfl
@[simp] theorem ap2{v e n:Nat}{l:List Int}:c9 (some ⟨v,e,n,emap ri l⟩)=True:=b8 fun _=>rfl
@[simp] theorem aBx{l:List Int}{x:Int}:emap ri l ++ [[aH aG (aR DD x.natAbs), .bool (decide (x<0)),aH aG (aR DD 1), .bool false]]=emap ri (l ++ [x]):=by simp [emap]
@[simp] theorem aBy{l:List Rat}{q:Rat}:emap re l ++ [[aH aG (aR DD q.num.natAbs), .bool (decide (q.num<0)),aH aG (aR DD q.den), .bool false]]=emap re (l ++ [q]):=by simp [emap]
@[simp] theorem awq{l:List Int}{i:Nat}{x:Int}:iO (emap ri l) i 0 [aH aG (aR DD x.natAbs), .bool (decide (x<0)),aH aG (aR DD 1), .bool false]=emap ri (l.set i x):=CA (n:=4) (fun _=>rfl)
theorem qE(l:List Int)(hl:l.length<17592186044416):aE env.P 157 [PI l] (PI (aP l)):=by
 have:=xS (qs l) (by simpa using hl)
 rwa [xR,rQ,rQ]at this
theorem IF(n:Int)(zn:Y n):aE env.P 60 [RI n,RI 1] (.ag (ri n)):=by
 have:=lI n 1 zn (by have:sz 2 1≤1:=dV (by decide) (by decide);simp only [Y];omega)
 rwa [mM,RR,iN]at this
theorem uD:aE env.P 224 [] (.ag (ri 0)):=by
 have:=PZ
 rwa [RR,show(0:Rat)=((0:Int):Rat)by simp,iN]at this
theorem P3(n:Int)(h1 : -9223372036854775808≤n∧n<9223372036854775808):aE env.P 12 [.int .i64 n, .int .i64 1] (.ag (ri n)):=by
 have:=mN n 1 h1 (by decide)
 rwa [mM,RR,iN]at this
theorem qV{x:Int}{k:Nat}(h:sz 2 x≤k)(h1:1≤k):ZR k (x:Rat):=⟨by simpa using h,by simp;exact Nat.le_trans (dV (by decide) (by decide)) h1⟩
theorem abe(x y:Int)(hx:sz 2 x≤YY)(hy:sz 2 y≤YY):aE env.P 225 [.ag (ri x), .ag (ri y)] (.ag (ri (x+y))):=by
 have:=EO x y (qV hx (by decide)) (qV hy (by decide))
 rwa [←Rat.intCast_add,RR,RR,RR,iN,iN,iN]at this
theorem IH(x y:Int)(hx:sz 2 x≤YY)(hy:sz 2 y≤YY):aE env.P 226 [.ag (ri x), .ag (ri y)] (.ag (ri (x*y))):=by
 have:=EP x y (qV hx (by decide)) (qV hy (by decide))
 rwa [←Rat.intCast_mul,RR,RR,RR,iN,iN,iN]at this
structure FOK(p:RP):Prop where
 ok:∀c∈p,c8 4294967296 c.2∧c.2.length<4294967296
 len:p.length<1099511627776
theorem abf(p:RP)(h:FOK p):aE env.P 79 [Pg p] (PI (aP (p.map gv))):=by
 refine cB [(0,Pg p)] Tryz.func79 ?_
 have hl:=h.len
 refine aA [0] ?_
 refine aA [0,3] ?_
 refine W.nil 3 3 31 4 (by simp) (by decide) (fun K hK=>?_)
 refine W.lw [0,3] hK ?_;clear hK K;simp
 refine aK [0,3,6,7] ?_
 refine W.block ?_
 refine W.aY (fun k σ=>∃(i ver:Nat) (rows:Pm.Rows) (clk:Nat),σ=⟨fa [(0,Pg p),(3, .own 3 ver 0 i),(6, .int .i64 p.length),(7, .int .i64 i)],rows,clk⟩∧rows 3=some ⟨ver,31,4,emap ri ((p.take i).map gv)⟩∧k=p.length-i∧i≤p.length) p.length ?_ ?_
 ·exact⟨_, .refl,0,_,_,_,rfl,by simp [emap],by omega,by omega⟩
 rintro k _ ⟨i,ver,rows,clk,rfl,hr,hk,hi⟩
 refine bT [0,3,6,7,8] ?_
 refine W.cond ⟨_,rfl,fun h0=>?_,fun h0=>?_⟩
 ·simp at h0
  obtain⟨u9,hc2⟩:=h.ok _ (bJ h0)
  have gE:((p.take i).map gv).length=i:=by simp;omega
  have hz:Y (iv (nth p i).1 (nth p i).2):=by
   have h1:=aeA u9
   have h2:sz 2 (iv (nth p i).1 (nth p i).2)=sz 2 (V 4294967296 (nth p i).2):=by unfold iv;split<;>simp [pK]
   simp only [Y];omega
  have hF:=IB (nth p i).1 (nth p i).2 (by omega) u9
  have hM:=IF _ hz
  obtain⟨v,hv⟩:∃v,v=iv (nth p i).1 (nth p i).2:=⟨_,rfl⟩
  rw [←hv]at hF hM
  refine j7 ?_
  refine aA [0,3,4,6,7] ?_
  refine W.bY (fun K hK=>?_)
  simp (disch:=omega) [gw]
  refine cM hF ?_
  refine aC (oZ 1 (by decide) (by decide)) ?_
  simp (disch:=omega) [gw]
  refine aC hM ?_
  simp (disch:=omega) [gw,hr,gE]
  refine W.lw [0,3,6,7] hK ?_;clear hK K;simp
  refine W.bY (fun K hK=>?_);simp (disch:=omega) [gw]
  refine hK _ ⟨p.length-(i+1),_,aB _ [0,3,6,7],by omega,i+1,_,_,_,rfl,?_,by omega,by omega⟩
  rw [pL h0,show gv (nth p i)=v from hv.symm]
  simp
 ·simp at h0
  have lW:i=p.length:=by omega
  subst lW
  refine eW ?_
  refine W.sr ?_
  have ez:(p.map gv).take p.length=p.map gv:=bM (by simp)
  simp (disch:=omega) [gw,hr,ez]
  refine aC (qE (p.map gv) (by simp;omega)) ?_
  simp (disch:=omega) [gw]
  refine bI [2] ?_
  exact bZ
theorem xT(l:List Int)(hl:l.length<1099511627776)(hb:∀x∈l, -9223372036854775808≤x∧x<9223372036854775808):aE env.P 97 [aH aG l] (PI (aP l)):=by
 refine cB [(0,aH aG l)] Tryz.func97 ?_
 refine aA [0] ?_
 refine aA [0,3] ?_
 refine W.nil 3 3 31 4 (by simp) (by decide) (fun K hK=>?_)
 refine W.lw [0,3] hK ?_;clear hK K;simp
 refine aK [0,3,6,7] ?_
 refine W.block ?_
 refine W.aY (fun k σ=>∃(i ver:Nat) (rows:Pm.Rows) (clk:Nat),σ=⟨fa [(0,aH aG l),(3, .own 3 ver 0 i),(6, .int .i64 l.length),(7, .int .i64 i)],rows,clk⟩∧rows 3=some ⟨ver,31,4,emap ri (l.take i)⟩∧k=l.length-i∧i≤l.length) l.length ?_ ?_
 ·exact⟨_, .refl,0,_,_,_,rfl,by simp [emap],by omega,by omega⟩
 rintro k _ ⟨i,ver,rows,clk,rfl,hr,hk,hi⟩
 refine bT [0,3,6,7,8] ?_
 refine W.cond ⟨_,rfl,fun h0=>?_,fun h0=>?_⟩
 ·simp at h0
  have gE:(l.take i).length=i:=by simp;omega
  refine j7 ?_
  refine aA [0,3,4,6,7] ?_
  refine W.bY (fun K hK=>?_)
  simp (disch:=omega) [gw]
  refine aC (P3 (nth l i) (hb _ (bJ h0))) ?_
  simp (disch:=omega) [gw,hr,gE]
  refine W.lw [0,3,6,7] hK ?_;clear hK K;simp
  refine W.bY (fun K hK=>?_);simp (disch:=omega) [gw]
  refine hK _ ⟨l.length-(i+1),_,aB _ [0,3,6,7],by omega,i+1,_,_,_,rfl,?_,by omega,by omega⟩
  rw [bG h0]
  simp
 ·simp at h0
  have lW:i=l.length:=by omega
  subst lW
  refine eW ?_
  refine W.sr ?_
  simp (disch:=omega) [gw,hr]
  refine aC (qE l (by omega)) ?_
  simp (disch:=omega) [gw]
  refine bI [2] ?_
  exact bZ
structure QOK(l:List Rat):Prop where
 ok:∀q∈l,ZR YY q
 len:l.length<1099511627776
theorem ajc(k:Nat)(hk:1≤k):ZR k 0:=⟨by show sz 2 0≤k;rw [lG];omega,by show sz 2 1≤k;exact Nat.le_trans (dV (by decide) (by decide)) hk⟩
theorem QOK.nth{l:List Rat}(h:QOK l)(i:Nat):ZR YY (nth l i):=by
 by_cases hi:i<l.length
 ·exact h.ok _ (bJ hi)
 ·rw [i0 (by omega)];exact ajc _ (by decide)
theorem QOK.qs{x:List Int}(h:∀c∈x,sz 2 c≤YY)(hl:x.length<1099511627776):QOK (qs x):=⟨fun q hq=>by
 simp only [List.mem_map]at hq
 obtain⟨c,hc,rfl⟩:=hq
 exact qV (h c hc) (by decide),by simpa using hl⟩
@[simp] theorem ap3{l:List Rat}:(∀e∈emap re l,∀p∈e,bL p=true)=True:=by simp [emap]
theorem X7(l:List Rat)(i:Nat)(hi:i<9223372036854775808):aE env.P 277 [PP l, .int .i64 i] (RR (nth l i)):=by
 have hzero:=PZ
 refine cB [(0,PP l),(1, .int .i64 i)] Tryz.func277 ?_
 refine bT [0,1,4] ?_
 refine W.eD (fun σ=>∃(b:Bool) (rows:Pm.Rows) (clk:Nat),σ=⟨fa [(0,PP l),(1, .int .i64 i),(4, .ptr 4 0 0 0),(12, .bool b)],rows,clk⟩∧(b=true↔l.length≤i)∧rows 4=some ⟨0,31,4,[[.nil, .bool false, .nil, .bool false]]⟩) (fun K hK=>?_) ?_
 ·have hn:¬((i:Int)<0):=by omega
  simp (disch:=omega) [gw,hn]
  exact hK _ _ (aB _ [0,1,4,12]) ⟨_,_,_,rfl,by simp,by simp⟩
 rintro _ ⟨b,rows,clk,rfl,hb,dF⟩
 refine bH ?_ ?_<;>intro h
 ·have hb:=hb.1 h
  have e:nth l i=0:=i0 hb
  rw [e]
  generalize (0:Rat)=z at *
  refine jG ?_
  refine aC hzero ?_
  simp (disch:=omega) [gw,dF]
  refine bI [4] ?_
  exact bZ
 ·have hb:i<l.length:=Nat.lt_of_not_le fun h2=>by simp [hb.2 h2]at h
  refine W.skip ?_
  refine W.sr ?_
  simp (disch:=omega) [gw,dF]
  refine bI [4] ?_
  exact bZ
def aeF(a b:List Rat):List Rat:=oN ((List.range (max a.length b.length)).map fun k=>nth a k+nth b k)
theorem aeG(a b:List Rat)(ha:QOK a)(hb:QOK b):aE env.P 274 [PP a,PP b] (PP (aeF a b)):=by
 have hal:=ha.len;have hbl:=hb.len
 refine cB [(0,PP a),(1,PP b)] Tryz.func274 ?_
 obtain⟨M,hM⟩:∃M,M=max a.length b.length:=⟨_,rfl⟩
 refine aA [0,1] ?_
 refine aA [0,1,5] ?_
 refine W.nil 5 5 31 4 (by simp) (by decide) (fun K hK=>?_)
 refine W.lw [0,1,5] hK ?_;clear hK K;simp
 refine aK [0,1,5,6] ?_
 refine W.block ?_
 refine W.aY (fun k σ=>∃(i ver:Nat) (rows:Pm.Rows) (clk:Nat),σ=⟨fa [(0,PP a),(1,PP b),(5, .own 5 ver 0 i),(6, .int .i64 i)],rows,clk⟩∧rows 5=some ⟨ver,31,4,emap re ((List.range i).map fun k=>nth a k+nth b k)⟩∧k=M-i∧i≤M) M ?_ ?_
 ·exact⟨_, .refl,0,_,_,_,rfl,by simp [emap],by omega,by omega⟩
 rintro k _ ⟨i,ver,rows,clk,rfl,hr,hk,hi⟩
 have em:(if a.length<b.length then(b.length:Int)else(a.length:Int))=M:=by split<;>omega
 have em2:(if b.length<a.length then(a.length:Int)else(b.length:Int))=M:=by split<;>omega
 refine W.seq ?_
 refine W.sr ?_
 simp (disch:=omega) [gw,em,em2]
 refine bI [0,1,5,6,13] ?_
 refine bH ?_ ?_<;>intro h
 ·have h:i<M:=by simp at h;omega
  refine j7 ?_
  have h1:=X7 a i (by omega)
  have h2:=X7 b i (by omega)
  have h3:=EO _ _ (ha.nth i) (hb.nth i)
  have er:(List.range (i+1)).map (fun k=>nth a k+nth b k)=(List.range i).map (fun k=>nth a k+nth b k) ++ [nth a i+nth b i]:=by rw [List.range_succ];simp
  have gE:((List.range i).map fun k=>nth a k+nth b k).length=i:=by simp
  generalize ((List.range i).map fun k=>nth a k+nth b k)=acc at *
  generalize nth a i+nth b i=q at *
  generalize nth a i=u at *
  generalize nth b i=v at *
  refine W.bY (fun K hK=>?_)
  simp (disch:=omega) [gw]
  refine cM h1 ?_
  refine cM h2 ?_
  refine aC h3 ?_
  simp (disch:=omega) [gw,hr,gE]
  refine W.lw [0,1,5,6] hK ?_;clear hK K;simp
  refine W.bY (fun K hK=>?_);simp (disch:=omega) [gw]
  refine hK _ ⟨M-(i+1),_,aB _ [0,1,5,6],by omega,i+1,_,_,_,rfl,by rw [er];simp,by omega,by omega⟩
 ·have h:i=M:=by simp at h;omega
  subst h
  refine eW ?_
  have gE:((List.range i).map fun k=>nth a k+nth b k).length=i:=by simp
  rw [aeF,←hM]
  generalize ((List.range i).map fun k=>nth a k+nth b k)=acc at *
  have ez:=bM gE
  refine W.sr ?_
  simp (disch:=omega) [gw,hr,ez]
  refine aC (xS acc (by omega)) ?_
  simp (disch:=omega) [gw]
  refine bI [4] ?_
  exact bZ
def lJ(a:List Rat)(c:Rat):List Rat:=oN (a.map fun x=>x*c)
theorem qW(a:List Rat)(c:Rat)(ha:QOK a)(hc:ZR YY c):aE env.P 201 [PP a,RR c] (PP (lJ a c)):=by
 have hal:=ha.len
 refine dA (E:=env) (fun id=>if id=5 then 2 else 0) [(0,PP a),(1,RR c)] Tryz.func201 rfl (by kernel_rfl) (by kernel_rfl) (show 2≤24 by decide) (by simp) ?_
 refine aA [0,3] ?_
 refine aA [0,3,5] ?_
 refine W.nil 5 5 31 4 (by simp) (by decide) (fun K hK=>?_)
 refine W.lw [0,3,5] hK ?_;clear hK K;simp
 refine aK [0,3,5,8,9] ?_
 refine W.block ?_
 refine W.aY (fun k σ=>∃(i ver:Nat) (rows:Pm.Rows) (clk:Nat),σ=⟨fa [(0,PP a),(3, .ptr 3 0 0 0),(5, .own 5 ver 0 i),(8, .int .i64 a.length),(9, .int .i64 i)],rows,clk⟩∧rows 5=some ⟨ver,31,4,emap re ((a.take i).map fun x=>x*c)⟩∧rows 3=some ⟨0,31,4,[re c]⟩∧k=a.length-i∧i≤a.length) a.length ?_ ?_
 ·exact⟨_, .refl,0,_,_,_,rfl,by simp [emap],by simp,by omega,by omega⟩
 rintro k _ ⟨i,ver,rows,clk,rfl,hr,bQ,hk,hi⟩
 refine bT [0,3,5,8,9,10] ?_
 refine bH ?_ ?_<;>intro h
 ·simp at h
  refine j7 ?_
  refine aA [0,3,5,6,8,9] ?_
  have h3:=EP _ _ (ha.nth i) hc
  have er:=pL (f:=fun x=>x*c) h
  have gE:((a.take i).map fun x=>x*c).length=i:=by simp;omega
  generalize (a.take i).map (fun x=>x*c)=acc at *
  generalize hq:nth a i*c=q at *
  refine W.NB (fun K hK=>?_)
  rw [if_pos rfl,gB]
  simp (disch:=omega) [gw,bQ]
  refine aC h3 ?_
  simp (disch:=omega) [gw,hr,bQ,gE]
  refine W.lw [0,3,5,8,9] hK ?_;clear hK K;simp
  refine W.bY (fun K hK=>?_);simp (disch:=omega) [gw]
  refine hK _ ⟨a.length-(i+1),_,aB _ [0,3,5,8,9],by omega,i+1,_,_,_,rfl,by rw [er];simp,by simp [bQ],by omega,by omega⟩
 ·simp at h
  have lW:i=a.length:=by omega
  subst lW
  refine eW ?_
  rw [List.take_length]at hr
  rw [lJ]
  have gE:(a.map fun x=>x*c).length=a.length:=by simp
  generalize a.map (fun x=>x*c)=acc at *
  have ez:=bM gE
  refine W.sr ?_
  simp (disch:=omega) [gw,hr,ez]
  refine aC (xS acc (by omega)) ?_
  simp (disch:=omega) [gw]
  refine bI [4] ?_
  exact bZ
theorem P4(a:List Rat)(ha:QOK a):aE env.P 161 [PP a] (PP (lJ a (-1))):=by
 have h1:=mN (-1) 1 (by decide) (by decide)
 rw [mM,show(((-1:Int)):Rat) = -1 by simp]at h1
 have h2:=qW a (-1) ha ⟨by show sz 2 (-1)≤YY;exact Nat.le_trans (dV (k:=1) (by decide) (by decide)) (by decide),by show sz 2 1≤YY;exact Nat.le_trans (dV (k:=1) (by decide) (by decide)) (by decide)⟩
 generalize (-1:Rat)=c at *
 refine cB [(0,PP a)] Tryz.func161 ?_
 refine aA [0] ?_
 refine jG ?_
 refine cM h1 ?_
 refine cN [2] h2 ?_
 exact bZ
theorem aeH(x:List Int)(k:Nat):nth (qs x) k=((nth x k:Int):Rat):=B7 (f:=fun(c:Int)=>(c:Rat)) rfl x k
theorem II(x:List Int)(c:Int):lJ (qs x) (c:Rat)=qs (a9 x c):=by
 rw [lJ,a9,←xR]
 congr 1
 simp [qs,Function.comp_def]
theorem UX(x:List Int):a9 x (-1)=iH x:=by simp [a9,iH]
theorem IJ(x:List Int)(hx:Bd 2 YY 1099511627775 x):aE env.P 161 [PI x] (PI (iH x)):=by
 have:=P4 (qs x) (.qs hx.sz (by have:=hx.len;omega))
 rwa [show(-1:Rat)=((-1:Int):Rat)by simp,II,UX,rQ,rQ]at this
theorem P5(x:List Int)(c:Int)(hx:Bd 2 YY 1099511627775 x)(hc:sz 2 c≤YY):aE env.P 201 [PI x, .ag (ri c)] (PI (a9 x c)):=by
 have:=qW (qs x) c (.qs hx.sz (by have:=hx.len;omega)) (qV hc (by decide))
 rwa [II,rQ,rQ,RR,iN]at this
theorem uE(x y:List Int)(s s' n n':Nat)(hs:Bd 2 s n x)(yU:Bd 2 s' n' y)(hB:s+s'+n+n'<YY):aE env.P 199 [PI x,PI y] (PI (bR x y)):=by
 have hlx:=hs.len;have hly:=yU.len
 have hB2:s+s'+n+n'<137438953472:=hB
 refine dA (E:=env) (fun id=>if id=15 then 1 else 0) [(0,PI x),(1,PI y)] Tryz.func199 rfl (by kernel_rfl) (by kernel_rfl) (show 2≤69 by decide) (by simp) ?_
 refine bT [0,1] ?_
 refine W.eD (fun σ=>∃(b:Bool),σ=⟨fa [(0,PI x),(1,PI y),(16, .bool b)],fun _=>none,0⟩∧(b=true↔x = []∨y = [])) (fun K hK=>?_) ?_
 ·simp
  have e1:((x.length:Int)==0)=decide (x = []):=by
   cases x<;>simp<;>omega
  have e2:((y.length:Int)==0)=decide (y = []):=by
   cases y<;>simp<;>omega
  rw [e1]
  by_cases h0:x = []
  ·have e3:decide (x = [])=true:=by simp [h0]
   rw [e3]
   simp
   exact hK _ _ (aB _ [0,1,16]) ⟨_,rfl,by simp [h0]⟩
  ·have e3:decide (x = [])=false:=by simp [h0]
   rw [e3]
   simp
   exact hK _ _ (aB _ [0,1,16]) ⟨_,rfl,by rw [e2];simp [h0]⟩
 rintro _ ⟨b,rfl,hb⟩
 refine bH ?_ ?_<;>intro h
 ·have e:bR x y = []:=by
   have h1:=hb.1 h
   refine Cn.ext (Cn.bR _ _) Cn.nil fun t=>?_
   rw [dQ]
   rcases h1 with rfl | rfl<;>simp [V]
  refine aA [4] ?_
  refine W.ret ?_
  simp [go,e]
  rfl
 ·have h1:¬(x = []∨y = []):=fun h2=>by simp [hb.2 h2]at h
  have qB:0<x.length:=List.length_pos_iff.2 fun h2=>h1 (.inl h2)
  have UR:0<y.length:=List.length_pos_iff.2 fun h2=>h1 (.inr h2)
  clear h hb h1
  have e0:((x.length:Int)+(y.length:Int)-1).toNat=x.length+y.length-1:=by omega
  have e9:((x.length+y.length-1:Nat):Int)=(x.length:Int)+(y.length:Int)-1:=by omega
  refine W.skip ?_
  refine W.sr ?_
  simp (disch:=omega) [gw,e0]
  refine bI [0,1,5] ?_
  refine aK [0,1,5,25,26] ?_
  refine W.block ?_
  refine W.aY (fun k σ=>∃(i ver:Nat) (els:List (List PV)) (rows:Pm.Rows) (clk:Nat),σ=⟨fa [(0,PI x),(1,PI y),(5, .own 23 ver 0 (x.length+y.length-1)),(25, .int .i64 ((x.length+y.length-1:Nat):Int)),(26, .int .i64 i)],rows,clk⟩ ∧
   rows 23=some ⟨ver,31,4,els⟩∧els.length=x.length+y.length-1∧(∀e∈els,e.length=4)∧els.take i=emap ri (List.replicate i 0)∧k=x.length+y.length-1-i∧i≤x.length+y.length-1) (x.length+y.length-1) ?_ ?_
  ·exact⟨_,Gh.fr [(0,PI x),(1,PI y),(5, .own 23 0 0 (x.length+y.length-1)),(25, .int .i64 ((x.length+y.length-1:Nat):Int)),(26, .int .i64 (0:Nat))] (by simp),0,_,List.replicate (x.length+y.length-1) [.nil, .bool false, .nil, .bool false],_,_,rfl,by simp [e0],by simp,by simp,by simp [emap],by omega,by omega⟩
  rintro k _ ⟨i,ver,els,rows,clk,rfl,hr,nS,P6,rX,hk,hi⟩
  have ND:bK 4 els=True:=by simp only [bK,eq_iff_iff,iff_true];exact P6
  refine bT [0,1,5,25,26,27] ?_
  refine bH ?_ ?_<;>intro h
  ·have h:i<x.length+y.length-1:=by simp at h;omega
   refine j7 ?_
   refine aA [0,1,5,6,25,26] ?_
   refine W.bY (fun K hK=>?_)
   simp (disch:=omega) [gw]
   refine aC uD ?_
   have vX:i<els.length:=by omega
   have hE:vG els i 4=True:=by
    simp only [eq_iff_iff,iff_true]
    exact⟨els[i],List.getElem?_eq_getElem vX,by rw [P6 _ (List.getElem_mem vX)];omega⟩
   have hS:iO els i 0 [aH aG (aR DD 0), .bool false,aH aG (aR DD 1), .bool false]=els.set i (ri 0):=by
    have h4:=P6 _ (List.getElem_mem vX)
    rw [iO,List.getElem?_eq_getElem vX]
    simp [List.drop_of_length_le,h4]
   simp (disch:=omega) [gw,hr,hE,hS]
   refine W.lw [0,1,5,25,26] hK ?_;clear hK K;simp
   refine W.bY (fun K hK=>?_);simp (disch:=omega) [gw]
   refine hK _ ⟨x.length+y.length-1-(i+1),_,aB _ [0,1,5,25,26],by omega,i+1,ver,els.set i (ri 0),_,_,rfl,by simp,by simpa using nS,fun e he=>?_,?_,by omega,by omega⟩
   ·rcases List.mem_or_eq_of_mem_set he with h1 | h1
    ·exact P6 e h1
    ·rw [h1];rfl
   ·rw [mW rX (by omega),List.replicate_succ']
    simp [emap]
  ·have h:i=x.length+y.length-1:=by simp at h;omega
   subst h
   have oT:els=emap ri (List.replicate (x.length+y.length-1) 0):=by rw [←rX,bM nS]
   subst oT
   clear rX P6 nS ND hk hi
   refine eW ?_
   refine aK [0,1,5,35,36] ?_
   refine W.block ?_
   refine W.aY (fun k σ=>∃(i:Nat) (z:List Int) (ver:Nat) (rows:Pm.Rows) (clk:Nat),σ=⟨fa [(0,PI x),(1,PI y),(5, .own 23 ver 0 (x.length+y.length-1)),(35, .int .i64 x.length),(36, .int .i64 i)],rows,clk⟩ ∧
    rows 23=some ⟨ver,31,4,emap ri z⟩∧k=x.length-i∧i≤x.length∧z.length=x.length+y.length-1∧(∀j,sz 2 (nth z j)≤s+s'+i) ∧
    ∀t,V t z=V t (x.take i)*V t y) x.length ?_ ?_
   ·refine⟨_, .refl,0,List.replicate (x.length+y.length-1) 0,_,_,_,rfl,hr,by omega,by omega,by simp,fun j=>?_,fun t=>by simp [V,rO]⟩
    have:Bd 2 0 (x.length+y.length-1) (List.replicate (x.length+y.length-1) 0):=⟨by simp,fun c hc=>by rw [(List.mem_replicate.1 hc).2,lG];omega⟩
    have:=this.nth j
    omega
   clear hr rows clk
   rintro k _ ⟨i,z,ver,rows,clk,rfl,hr,hk,hi,hz,F8,hV⟩
   refine bT [0,1,5,35,36,37] ?_
   refine bH ?_ ?_<;>intro h
   ·simp at h
    refine j7 ?_
    refine aA [0,1,5,7,35,36] ?_
    refine aA [0,1,5,7,35,36,40,41] ?_
    refine W.block ?_
    refine W.aY (fun m σ=>∃(k:Nat) (z:List Int) (ver:Nat) (rows:Pm.Rows) (clk:Nat),σ=⟨fa [(0,PI x),(1,PI y),(5, .own 23 ver 0 (x.length+y.length-1)),(7, .int .i64 i),(35, .int .i64 x.length),(36, .int .i64 i),(40, .int .i64 y.length),(41, .int .i64 k)],rows,clk⟩ ∧
     rows 23=some ⟨ver,31,4,emap ri z⟩∧m=y.length-k∧k≤y.length∧z.length=x.length+y.length-1∧(∀j,sz 2 (nth z j)≤s+s'+i+1)∧(∀j,i+k≤j→sz 2 (nth z j)≤s+s'+i) ∧
     ∀t,V t z=V t (x.take i)*V t y+t^i*nth x i*V t (y.take k)) y.length ?_ ?_
    ·refine⟨_, .refl,0,z,ver,_,_,rfl,by simpa using hr,by omega,by omega,hz,fun j=>by have:=F8 j;omega,fun j _=>F8 j,fun t=>by simp [V,hV]⟩
    clear hV F8 hz hr z ver rows clk
    rintro m _ ⟨k,z,ver,rows,clk,rfl,hr,hm,hky,hz,F8,US,hV⟩
    refine bT [0,1,5,7,35,36,40,41,42] ?_
    refine W.cond ⟨_,rfl,fun h2=>?_,fun h2=>?_⟩
    ·simp at h2
     refine j7 ?_
     refine aA [0,1,5,7,8,35,36,40,41] ?_
     have e1:((i:Int)+(k:Int)).toNat=i+k:=by omega
     have NF:sz 2 (nth x i*nth y k)≤s+s'+i:=Nat.le_trans (cP (by decide) (hs.nth i) (yU.nth k)) (by omega)
     have hm2:=n6 (b:=2) (by decide) (US (i+k) (Nat.le_refl _)) NF
     have hlz:i+k<z.length:=by omega
     have c1:=IH (nth x i) (nth y k) (Nat.le_trans (hs.nth i) (by show _≤137438953472;omega)) (Nat.le_trans (yU.nth k) (by show _≤137438953472;omega))
     have c2:=abe (nth z (i+k)) (nth x i*nth y k) (Nat.le_trans (US (i+k) (Nat.le_refl _)) (by show _≤137438953472;omega)) (Nat.le_trans NF (by show _≤137438953472;omega))
     have UO:=fun t=>H3 (b:=t) (x:=nth z (i+k)+nth x i*nth y k) hlz
     generalize hu:nth z (i+k)+nth x i*nth y k=u at *
     generalize hpq:nth x i*nth y k=pq at *
     refine W.NB (fun K hK=>?_)
     rw [if_pos rfl,gB]
     simp (disch:=omega) [gw,hr,e1]
     refine aC c1 ?_
     simp (disch:=omega) [gw,hr,e1]
     refine aC c2 ?_
     simp (disch:=omega) [gw,hr,e1]
     refine W.lw [0,1,5,7,35,36,40,41] hK ?_;clear hK K;simp
     refine W.bY (fun K hK=>?_);simp (disch:=omega) [gw]
     refine hK _ ⟨y.length-(k+1),_,aB _ [0,1,5,7,35,36,40,41],by omega,k+1,z.set (i+k) u,ver,_,_,rfl,by simp,by omega,by omega,by simpa using hz,fun j=>?_,fun j hj=>?_,fun t=>?_⟩
     ·by_cases hj:i+k=j
      ·subst hj;rw [fG hlz];exact hm2
      ·rw [iC hj];exact F8 j
     ·rw [iC (by omega)];exact US j (by omega)
     ·rw [UO,aV h2,hV,Int.pow_add,←hu,←hpq];clear hV UO;grind
    ·simp at h2
     have yS:k=y.length:=by omega
     subst yS
     refine eW ?_
     refine W.bY (fun K hK=>?_);simp (disch:=omega) [gw]
     refine hK _ ⟨x.length-(i+1),_,aB _ [0,1,5,35,36],by omega,i+1,z,ver,_,_,rfl,hr,by omega,by omega,hz,fun j=>by have:=F8 j;omega,fun t=>?_⟩
     rw [hV,bC (Nat.le_refl _),aV h];grind
   ·simp at h
    have lW:i=x.length:=by omega
    subst lW
    have vU:=bM hz
    refine eW ?_
    refine W.sr ?_
    simp (disch:=omega) [gw,hr,vU]
    refine aC (qE z (by omega)) ?_
    simp (disch:=omega) [gw]
    refine bI [4] ?_
    refine W.ret ?_
    have e:aP z=bR x y:=by
     refine Cn.ext (Cn.cut _) (Cn.bR _ _) fun t=>?_
     rw [dE,hV,dQ,bC (Nat.le_refl _)]
    simp [go,e]
theorem oB(v n:Int)(hv : -9223372036854775808≤v∧v<9223372036854775808)(hn:0<n)(hn2:n<4611686018427387904):aE env.P 13 [.int .i64 v, .int .i64 n] (.int .i64 (v%n)):=by
 have hn0:n≠0:=by omega
 have h12:(v.tmod n=v%n∨(v.tmod n<0∧v.tmod n+n=v%n)) ∧ -n<v.tmod n∧v.tmod n<n:=by
  have h2:=Int.emod_nonneg v hn0
  have h3:=Int.emod_lt_of_pos v hn
  rcases(show v<0∨0≤v by omega)with h | h
  ·have h4:=Int.tmod_eq_emod (a:=v) (b:=n)
   have h5:(n.natAbs:Int)=n:=by omega
   split at h4
   ·simp at h4;omega
   ·rename_i h6
    rw [h5]at h4
    have h7:v%n≠0:=fun h8=>h6 (.inr (Int.dvd_of_emod_eq_zero h8))
    omega
  ·rw [Int.tmod_eq_emod_of_nonneg h];omega
 obtain⟨h1,h2⟩:=h12
 have h5:=Int.emod_nonneg v hn0
 have h6:=Int.emod_lt_of_pos v hn
 have hnn:¬n<1:=by omega
 refine cB [(0, .int .i64 v),(1, .int .i64 n)] Tryz.func13 ?_
 refine aA [0,1] ?_
 refine aK [0,1,7] ?_
 refine bH ?_ ?_<;>intro h
 ·exfalso;simp at h;omega
 ·refine W.skip ?_
  generalize hm:v.tmod n=m at *
  generalize v%n=r at *
  refine W.sr ?_
  simp (disch:=omega) [gA,hn0,hm]
  refine bI [1,5] ?_
  refine W.iB (fun σ=>∃(rows:Pm.Rows) (clk:Nat),σ=⟨fa [(5, .int .i64 r)],rows,clk⟩) ?_ ?_
  ·
   refine aA [1,5,12] ?_
   refine bH ?_ ?_<;>intro h
   ·simp at h
    refine W.bY (fun K hK=>?_);simp (disch:=omega) [gw]
    exact hK _ ⟨_,Gh.fr [(5, .int .i64 r)] (by simp;omega),_,_,rfl⟩
   ·simp at h
    refine W.skip ?_
    exact⟨_,Gh.fr [(5, .int .i64 r)] (by simp;omega),_,_,rfl⟩
  rintro _ ⟨rows,clk,rfl⟩
  refine aA [4] ?_
  exact bZ
structure PB(x:List Int):Prop where
 sz:∀c∈x,Sz c
 len:x.length<1099511627775
theorem PB.ER{x:List Int}(h:PB x):rW (x.map uW):=rW.aiZ h.sz (by have:=h.len;omega)
theorem PB.of{s n:Nat}{x:List Int}(h:Bd LL s n x)(hs:s<1099511627775)(hn:n<1099511627775):PB x:=⟨fun c hc=>Nat.lt_of_le_of_lt (h.sz c hc) (by omega),Nat.lt_of_le_of_lt h.len hn⟩
theorem abh{x y:List Int}(hx:PB x)(hy:PB y):aE env.P 182 [Po x,Po y] (Po (i3 x y)):=by
 have:=aeu _ _ hx.ER hy.ER
 rwa [cI,cI,←i5,←i5]at this
theorem IK{x y:List Int}(hx:PB x)(hy:PB y):aE env.P 186 [Po x,Po y] (Po (fS x y)):=by
 have:=aev _ _ hx.ER hy.ER
 rwa [cI,cI,←i5,←i5]at this
theorem IL{x:List Int}(hx:PB x):aE env.P 139 [Po x] (Po (iH x)):=by
 have:=aew _ hx.ER
 rwa [cI,←i5]at this
theorem eO{x:List Int}(hx:PB x):aE env.P 64 [Po x] (Po (aP x)):=by
 have:=gU _ hx.ER
 rwa [cI,←i5]at this
theorem UY{x y:List Int}(hx:PB x)(hy:PB y):aE env.P 251 [Po x,Po y] (.bool (decide (aP x=aP y))):=by
 have:=aa4 _ _ hx.ER hy.ER
 rwa [cI,cI,←i5,←i5]at this
theorem abi{a:RP}{y:List Int}{s s' n n':Nat}(ha:rW a)(hs:Bd LL s n (a.map gv))(yU:Bd LL s' n' y)(hB:s+s'+n+n'<1099511627775):aE env.P 15 [Pg a,Po y] (Po (bR (a.map gv) y)):=by
 have:=aex a (y.map uW) ha (PB.of yU (by omega) (by omega)).ER s s' n n' hs (by rwa [cI]) hB
 rwa [cI,←i5]at this
theorem zK{x y:List Int}{s s' n n':Nat}(hs:Bd LL s n x)(yU:Bd LL s' n' y)(hB:s+s'+n+n'<1099511627775):aE env.P 15 [Po x,Po y] (Po (bR x y)):=by
 have:=abi (PB.of hs (by omega) (by omega)).ER (by rwa [cI]) yU hB
 rwa [cI,←i5]at this
theorem maps{α:Type}{g:α→List PV}{R:List PV→Prop}{Q:α→Prop}(h:∀ps,R ps → ∃a,ps=g a∧Q a):∀ {l:List (List PV)},(∀x∈l,R x) → ∃m:List α,l=m.map g ∧ ∀a∈m,Q a
 | [],_=>⟨[],rfl,fun _ h=>(by cases h)⟩
 | x::l,hx=>by
  obtain⟨a,rfl,ha⟩:=h x (hx x (by simp))
  obtain⟨m,rfl,hm⟩:=maps h (l:=l) fun y hy=>hx y (by simp [hy])
  exact⟨a::m,rfl,fun b hb=>by
   rcases List.mem_cons.1 hb with rfl | hb
   ·exact ha
   ·exact hm b hb⟩
theorem own:ownKnob Tryz.prog.godebug=none:=by kernel_rfl
theorem laidOut:laidOutB Tryz.prog=true:=by kernel_rfl
structure Tg where
 k:Int
 a:Int
 b:Int
 c:Int
 d:Int
 deriving DecidableEq
instance:Inhabited Tg:=⟨⟨0,0,0,0,0⟩⟩
def tgc(t:Tg):List PV:=[.int .i64 t.k, .int .i64 t.a, .int .i64 t.b, .int .i64 t.c, .int .i64 t.d]
theorem X8(t:Tg):tgc t = [.int .i64 t.k, .int .i64 t.a, .int .i64 t.b, .int .i64 t.c, .int .i64 t.d]:=rfl
def ES(s t:Tg):Bool:=
 if s.k≠t.k then decide (s.k<t.k)else if s.a≠t.a then decide (s.a<t.a)else if s.b≠t.b then decide (s.b<t.b)else if s.c≠t.c then decide (s.c<t.c)else if s.d≠t.d then decide (s.d<t.d)else false
theorem abj(s t:Tg):aE env.P 38 [.ag (tgc s), .ag (tgc t)] (.bool (ES s t)):=by
 simp only [X8,ES]
 obtain⟨k,a,b,c,d⟩:=s
 obtain⟨k',a',b',c',d'⟩:=t
 simp only
 refine cB [(0, .ag [.int .i64 k, .int .i64 a, .int .i64 b, .int .i64 c, .int .i64 d]),(1, .ag [.int .i64 k', .int .i64 a', .int .i64 b', .int .i64 c', .int .i64 d'])] Tryz.func38 ?_
 refine aA [2,3] ?_
 refine aK [2,3,11] ?_
 refine bH ?_ ?_<;>intro h
 ·have h:k≠k':=by simpa using h
  rw [if_pos h]
  refine aA [4] ?_
  exact bZ
 ·have h:k=k':=by simpa using h
  rw [if_neg (by simpa using h)]
  refine W.skip ?_
  refine aK [3,18,19] ?_
  refine W.block ?_
  refine W.aY (fun k σ=>∃(j:Nat) (rows:Pm.Rows) (clk:Nat),σ=⟨fa [(3, .ptr 3 1 0 0),(18, .ag [.int .i64 a, .int .i64 b, .int .i64 c, .int .i64 d]),(19, .int .i64 j)],rows,clk⟩∧j+k=4∧rows 3=some ⟨1,78,5,[[.int .i64 k', .int .i64 a', .int .i64 b', .int .i64 c', .int .i64 d']]⟩∧(0<j→a=a')∧(1<j→b=b')∧(2<j→c=c')∧(3<j→d=d')) 4 ?_ ?_
  ·exact⟨_, .refl,0,_,_,rfl,rfl,by simp,by simp,by simp,by simp,by simp⟩
  rintro m _ ⟨j,rows,clk,rfl,hj,bQ,h1,h2,h3,h4⟩
  have aml:j=0∨j=1∨j=2∨j=3∨j=4:=by omega
  refine bT [3,18,19,20] ?_
  refine bH ?_ ?_<;>intro h
  ·have hj4:j<4:=by simp at h;omega
   refine j7 ?_
   have aml:j=0∨j=1∨j=2∨j=3:=by omega
   rcases aml with rfl | rfl | rfl | rfl
   ·refine aA [3,5,6,18,19] ?_
    refine W.sr ?_
    simp (disch:=omega) [gw,bQ]
    refine bI [3,5,6,18,19,28] ?_
    refine bH ?_ ?_<;>intro h
    ·have h:a≠a':=by simpa using h
     rw [if_pos h]
     refine W.sr ?_
     simp (disch:=omega) [gw,bQ]
     refine bI [4] ?_
     exact bZ
    ·have h:a=a':=by simpa using h
     refine W.skip ?_
     refine W.bY (fun K hK=>?_);simp (disch:=omega) [gw]
     exact hK _ ⟨m-1,_,aB _ [3,18,19],by omega,1,_,_,rfl,by omega,bQ,fun _=>h,by simp,by simp,by simp⟩
   ·have e1:=h1 (by omega)
    refine aA [3,5,6,18,19] ?_
    refine W.sr ?_
    simp (disch:=omega) [gw,bQ]
    refine bI [3,5,6,18,19,28] ?_
    refine bH ?_ ?_<;>intro h
    ·have h:b≠b':=by simpa using h
     rw [if_neg (by simpa using e1),if_pos h]
     refine W.sr ?_
     simp (disch:=omega) [gw,bQ]
     refine bI [4] ?_
     exact bZ
    ·have h:b=b':=by simpa using h
     refine W.skip ?_
     refine W.bY (fun K hK=>?_);simp (disch:=omega) [gw]
     exact hK _ ⟨m-1,_,aB _ [3,18,19],by omega,2,_,_,rfl,by omega,bQ,fun _=>e1,fun _=>h,by simp,by simp⟩
   ·have e1:=h1 (by omega)
    have e2:=h2 (by omega)
    refine aA [3,5,6,18,19] ?_
    refine W.sr ?_
    simp (disch:=omega) [gw,bQ]
    refine bI [3,5,6,18,19,28] ?_
    refine bH ?_ ?_<;>intro h
    ·have h:c≠c':=by simpa using h
     rw [if_neg (by simpa using e1),if_neg (by simpa using e2),if_pos h]
     refine W.sr ?_
     simp (disch:=omega) [gw,bQ]
     refine bI [4] ?_
     exact bZ
    ·have h:c=c':=by simpa using h
     refine W.skip ?_
     refine W.bY (fun K hK=>?_);simp (disch:=omega) [gw]
     exact hK _ ⟨m-1,_,aB _ [3,18,19],by omega,3,_,_,rfl,by omega,bQ,fun _=>e1,fun _=>e2,fun _=>h,by simp⟩
   ·have e1:=h1 (by omega)
    have e2:=h2 (by omega)
    have e3:=h3 (by omega)
    refine aA [3,5,6,18,19] ?_
    refine W.sr ?_
    simp (disch:=omega) [gw,bQ]
    refine bI [3,5,6,18,19,28] ?_
    refine bH ?_ ?_<;>intro h
    ·have h:d≠d':=by simpa using h
     rw [if_neg (by simpa using e1),if_neg (by simpa using e2),if_neg (by simpa using e3),if_pos h]
     refine W.sr ?_
     simp (disch:=omega) [gw,bQ]
     refine bI [4] ?_
     exact bZ
    ·have h:d=d':=by simpa using h
     refine W.skip ?_
     refine W.bY (fun K hK=>?_);simp (disch:=omega) [gw]
     exact hK _ ⟨m-1,_,aB _ [3,18,19],by omega,4,_,_,rfl,by omega,bQ,fun _=>e1,fun _=>e2,fun _=>e3,fun _=>h⟩
  ·have hj4:j=4:=by simp at h;omega
   subst hj4
   rw [if_neg (by simpa using h1 (by omega)),if_neg (by simpa using h2 (by omega)),if_neg (by simpa using h3 (by omega)),if_neg (by simpa using h4 (by omega))]
   refine eW ?_
   refine aA [4] ?_
   exact bZ
def sc(z:Bool)(l:List (List PV)):PV:=if z=true then .nil else .sl l
def szc(z:Bool)(l:List (List PV)):List (List PV):=if z=true then []else l
@[simp] theorem aeI{l:List (List PV)}:sc false l = .sl l:=rfl
@[simp] theorem aBA{l:List (List PV)}:sc true l = .nil:=rfl
@[simp] theorem aFc{rows:Pm.Rows}{z:Bool}{l:List (List PV)}:fz rows (sc z l) = .sl (szc z l):=by cases z<;>rfl
@[simp] theorem aFd{rows:Pm.Rows}{z:Bool}{l:List (List PV)}:pz rows (sc z l) = .sl (szc z l):=by cases z<;>rfl
@[simp] theorem ET{z:Bool}{l:List (List PV)}:bL (sc z l)=true:=by cases z<;>rfl
@[simp] theorem ay9{z:Bool}{l:List (List PV)}:aU (sc z l) = []:=by cases z<;>rfl
@[simp] theorem aza{z:Bool}{l:List (List PV)}:eB (sc z l) = []:=by cases z<;>rfl
@[simp] theorem azb{rows:Pm.Rows}{z:Bool}{l:List (List PV)}:iT rows (sc z l)=True:=by cases z<;>simp [sc,iT]
@[simp] theorem ata{z:Bool}{l:List (List PV)}:fI (sc z l)=some [sc z l]:=by cases z<;>rfl
@[simp] theorem atb{z:Bool}{l:List (List PV)}:cQ (sc z l)=some [sc z l]:=by cases z<;>rfl
structure CE where
 t:Tg
 z:Bool
 p:List Int
 w:Int
instance:Inhabited CE:=⟨⟨default,true,[],0⟩⟩
def gP(x:CE):List PV:=[.int .i64 x.t.k, .int .i64 x.t.a, .int .i64 x.t.b, .int .i64 x.t.c, .int .i64 x.t.d,sc x.z (emap ie x.p), .int .i64 x.w]
theorem gQ(x:CE):gP x = [.int .i64 x.t.k, .int .i64 x.t.a, .int .i64 x.t.b, .int .i64 x.t.c, .int .i64 x.t.d,sc x.z (emap ie x.p), .int .i64 x.w]:=rfl
@[simp] theorem ap4{l:List CE}:bK 7 (emap gP l)=True:=cL fun _=>rfl
theorem aeJ(x:CE):(gP x).all bL=true:=by simp only [gQ,List.all_cons,ET,List.all_nil];rfl
@[simp] theorem amm{v e n:Nat}{l:List CE}:c9 (some ⟨v,e,n,emap gP l⟩)=True:=b8 aeJ
def CE.v(x:CE):List Int:=if x.z=true then []else x.p
def CE.nz(x:CE):CE:=⟨x.t,false,x.v,x.w⟩
structure RE where
 t:Tg
 z:Bool
 q:List (List PV)
 w:Int
 y:Bool
 s:List (List PV)
 a:Bool
instance:Inhabited RE:=⟨⟨default,true,[],0,true,[],false⟩⟩
def vY(x:RE):List PV:=[.int .i64 x.t.k, .int .i64 x.t.a, .int .i64 x.t.b, .int .i64 x.t.c, .int .i64 x.t.d,sc x.z x.q, .int .i64 x.w,sc x.y x.s, .bool x.a]
theorem CB(x:RE):vY x = [.int .i64 x.t.k, .int .i64 x.t.a, .int .i64 x.t.b, .int .i64 x.t.c, .int .i64 x.t.d,sc x.z x.q, .int .i64 x.w,sc x.y x.s, .bool x.a]:=rfl
@[simp] theorem ap5{l:List RE}:bK 9 (emap vY l)=True:=cL fun _=>rfl
theorem aeK(x:RE):(vY x).all bL=true:=by simp only [CB,List.all_cons,ET,List.all_nil];rfl
@[simp] theorem amn{v e n:Nat}{l:List RE}:c9 (some ⟨v,e,n,emap vY l⟩)=True:=b8 aeK
section
variable {α:Type} [Inhabited α]
def EU(tg:α→Tg)(t:Tg)(l:List α):Nat→Nat
 | 0=>0
 | k+1=>if ES t (tg (nth l k))=true then EU tg t l k else k+1
theorem IM{tg:α→Tg}{t:Tg}{l:List α}{k:Nat}:EU tg t l (k+1)=if ES t (tg (nth l k))=true then EU tg t l k else k+1:=rfl
def bef(tg:α→Tg)(t:Tg)(l:List α):Nat→Bool
 | 0=>false
 | k+1=>ES t (tg (nth l k))
theorem aeL{tg:α→Tg}{t:Tg}{l:List α}{k:Nat}(h:bef tg t l k=false):EU tg t l k=k:=by
 cases k with
 | zero=>rfl
 | succ k=>rw [IM,if_neg (by rw [show ES t (tg (nth l k))=false from h];decide)]
theorem X9{tg:α→Tg}{t:Tg}{l:List α}:∀k,EU tg t l k≤k
 | 0=>Nat.le_refl _
 | k+1=>by
  unfold EU
  split
  ·exact Nat.le_succ_of_le (X9 k)
  ·exact Nat.le_refl _
def K5(tg:α→Tg)(l:List α)(x:α):List α:=l.take (EU tg (tg x) l l.length)++x::l.drop (EU tg (tg x) l l.length)
def NG(tg:α→Tg)(l:List α):List α:=l.foldl (K5 tg) []
theorem aeM{tg:α→Tg}{l:List α}{x:α}:(K5 tg l x).length=l.length+1:=by
 have:=X9 (tg:=tg) (t:=tg x) (l:=l) l.length
 simp [K5]
 omega
theorem aeN{tg:α→Tg}{l:List α}{i:Nat}(h:i<l.length):NG tg (l.take (i+1))=K5 tg (NG tg (l.take i)) (nth l i):=by
 unfold NG
 rw [cE h,List.take_succ_eq_append_getElem h,List.foldl_append]
 rfl
theorem ajd{tg:α→Tg}{l:List α}:(NG tg l).length=l.length:=by
 suffices h:∀(l S:List α),(l.foldl (K5 tg) S).length=S.length+l.length by simpa [NG]using h l []
 intro l
 induction l with
 | nil=>intro S;simp
 | cons x l ih=>intro S;rw [List.foldl_cons,ih,aeM];simp;omega
end
theorem ap6{α:Type}{S:List α}{z y:α}{k:Nat}(hk:k≤S.length):((S ++ [z]).take (k+1)++((S ++ [z]).drop k).take (S.length-k)).set k y=S.take k++y::S.drop k:=by
 obtain⟨A,B,rfl,rfl⟩:∃A B,S=A++B∧A.length=k:=⟨S.take k,S.drop k,(List.take_append_drop k S).symm,by simp;omega⟩
 have e1:(A++B ++ [z]).take (A.length+1)=A++(B ++ [z]).take 1:=by rw [List.append_assoc,List.take_length_add_append]
 have e2:(A++B ++ [z]).drop A.length=B ++ [z]:=by rw [List.append_assoc,List.drop_left]
 have e3:(A++B).length-A.length=B.length:=by simp
 have e4:(B ++ [z]).take B.length=B:=by simp
 rw [e1,e2,e3,e4,List.take_left,List.drop_left]
 cases B with
 | nil=>simp
 | cons b B=>simp
theorem aBC(x:CE):x.nz.t=x.t:=rfl
def oO(l:List CE):List CE:=NG CE.t (l.map CE.nz)
theorem aeO{α β:Type}[Inhabited α][Inhabited β]{f:α→β}{l:List α}{i:Nat}(h:i<l.length):nth (l.map f) i=f (nth l i):=by rw [cE (by simpa using h),cE h];simp
theorem abk{l:List CE}{i:Nat}(h:i<l.length):oO (l.take (i+1))=K5 CE.t (oO (l.take i)) (nth l i).nz:=by
 unfold oO
 rw [List.map_take,List.map_take,aeN (by simpa using h),aeO h]
theorem xU{l:List CE}:(oO l).length=l.length:=by simp [oO,ajd]
@[simp] theorem aje{x:CE}:(gP x).length=7:=rfl
theorem abl{L:List CE}{j:Nat}{y:CE}(h:j<L.length):iO (emap gP L) j 0 (gP y)=emap gP (L.set j y):=by
 simp [iO,emap,List.map_set,h]
 rw [show(gP L[j]).drop 7 = []from rfl,List.append_nil]
def zC:CE:=⟨⟨0,0,0,0,0⟩,false,[],0⟩
set_option maxHeartbeats 2000000 in
theorem zL{l:List CE}(hl:l.length<1048576)(hN:∀x∈l,aE env.P 64 [.sl (szc x.z (emap ie x.p))] (.sl (emap ie x.v))) :
  aE env.P 35 [aH gP l] (aH gP (oO l)):=by
 refine cB [(0,aH gP l)] Tryz.func35 ?_
 refine aA [0] ?_
 refine aA [0,3] ?_
 refine W.nil 3 3 82 7 (by simp) (by decide) (fun K hK=>?_)
 refine W.lw [0,3] hK ?_;clear hK K;simp
 refine aK [3,7,8,9] ?_
 refine W.block ?_
 refine W.aY (fun k σ=>∃(i v3:Nat) (rows:Pm.Rows) (clk:Nat),σ=⟨fa [(3, .own 3 v3 0 i),(7,aH gP l),(8, .int .i64 l.length),(9, .int .i64 i)],rows,clk⟩∧i+k=l.length∧rows 3=some ⟨v3,82,7,emap gP (oO (l.take i))⟩) l.length ?_ ?_
 ·exact⟨_, .refl,0,_,_,_,rfl,by omega,by simp [oO,NG,emap]⟩
 rintro k _ ⟨i,v3,rows,clk,rfl,uA,bQ⟩
 refine bT [3,7,8,9,10] ?_
 refine bH ?_ ?_<;>intro h
 ·have hi:i<l.length:=by simp at h;omega
  have M9:(oO (l.take i)).length=i:=by rw [xU,List.length_take];omega
  have iI:=abk hi
  have hNi:=hN _ (bJ hi)
  rw [K5,aBC,M9]at iI
  generalize oO (l.take i)=S at *
  refine j7 ?_
  generalize hx:nth l i=x at *
  refine W.sr ?_
  simp (disch:=omega) [gw,hi,gQ,hx]
  refine bI [3,5,7,8,9] ?_
  refine W.sr ?_
  simp (disch:=omega) [gw,bQ]
  refine bI [3,5,6,7,8,9] ?_
  refine W.seq ?_
  refine W.block ?_
  refine W.aY (fun k σ=>∃(j:Nat) (rows:Pm.Rows) (clk:Nat),σ=⟨fa [(3, .own 3 v3 0 i),(5, .ptr 5 clk 0 0),(6, .int .i64 j),(7,aH gP l),(8, .int .i64 l.length),(9, .int .i64 i)],rows,clk+1⟩∧j≤i∧EU CE.t x.t S i=EU CE.t x.t S j∧j=k∧rows 3=some ⟨v3,82,7,emap gP S⟩∧rows 5=some ⟨clk,82,7,[gP x]⟩) i ?_ ?_
  ·exact⟨_, .refl,i,_,_,rfl,Nat.le_refl _,rfl,rfl,by simp [bQ],by simp [gQ]⟩
  clear bQ rows clk
  rintro m _ ⟨j,rows,clk,rfl,GM,hp,rfl,bQ,dM⟩
  simp only [gQ]at dM
  refine W.seq ?_
  refine W.aeb (fun σ=>∃(b:Bool),σ=⟨fa [(3, .own 3 v3 0 i),(5, .ptr 5 clk 0 0),(6, .int .i64 j),(7,aH gP l),(8, .int .i64 l.length),(9, .int .i64 i),(27, .bool b)],rows,clk+1⟩∧b=bef CE.t x.t S j) (fun K hK=>?_) ?_
  ·cases j with
   | zero =>
    simp (disch:=omega) [gw]
    exact hK _ _ (aB _ [3,5,6,7,8,9,27]) ⟨_,rfl,rfl⟩
   | succ j =>
    have hL:=abj x.t (nth S j).t
    simp only [X8]at hL
    have hjS:j<S.length:=by omega
    have l5:(0:Int)<(j:Int)+1:=by omega
    simp (disch:=omega) [gw,bQ,dM,gQ,hjS,l5]
    refine cM hL ?_
    exact hK _ _ (aB _ [3,5,6,7,8,9,27]) ⟨_,rfl,rfl⟩
  rintro _ ⟨b,rfl,hb⟩
  refine bH ?_ ?_<;>intro h
  ·subst h
   cases j with
   | zero=>simp [bef]at hb
   | succ j =>
    have hb:ES x.t (nth S j).t=true:=hb.symm
    refine W.skip ?_
    refine W.block ?_
    refine W.bY (fun K hK=>?_);simp (disch:=omega) [gw]
    exact hK _ ⟨j,_,aB _ [3,5,6,7,8,9],by omega,j,_,_,rfl,by omega,by rw [hp,IM,if_pos hb],rfl,bQ,by simp only [gQ];exact dM⟩
  ·subst h
   have hpj:EU CE.t x.t S j=j:=aeL hb.symm
   rw [hp,hpj]at iI
   refine eW ?_
   clear hp
   refine W.eD (fun σ=>∃(v:Nat) (rows:Pm.Rows) (iM:Nat),σ=⟨fa [(3, .own 3 v 0 (i+1)),(5, .ptr 5 clk 0 0),(6, .int .i64 j),(7,aH gP l),(8, .int .i64 l.length),(9, .int .i64 i)],rows,iM⟩∧rows 3=some ⟨v,82,7,emap gP (S ++ [zC])⟩∧rows 5=some ⟨clk,82,7,[gP x]⟩) (fun K hK=>?_) ?_
   ·simp (disch:=omega) [gw,bQ,dM,M9]
    refine hK _ _ (aB _ [3,5,6,7,8,9]) ⟨_,_,_,rfl,?_,?_⟩
    ·simp [emap,gQ,zC]
    ·simp [dM,gQ]
   clear bQ dM rows
   rintro _ ⟨v,rows,iM,rfl,bQ,dM⟩
   refine W.aeb (fun σ=>∃(rows:Pm.Rows),σ=⟨fa [(3, .own 3 v 0 (i+1)),(5, .ptr 5 clk 0 0),(6, .int .i64 j),(7,aH gP l),(8, .int .i64 l.length),(9, .int .i64 i)],rows,iM⟩∧rows 3=some ⟨v,82,7,emap gP ((S ++ [zC]).take (j+1)++((S ++ [zC]).drop j).take (i-j))⟩∧rows 5=some ⟨clk,82,7,[gP x]⟩) (fun K hK=>?_) ?_
   ·have G2:(emap gP (S ++ [zC])).length=i+1:=by simp [emap,M9]
    simp (disch:=omega) [gw,bQ]
    refine aus (els:=emap gP (S ++ [zC])) (l:=emap gP ((S ++ [zC]).drop j)) bQ (by rw [G2];omega) ⟨_,bQ,rfl,?_⟩ ?_ ?_
    ·simp only
     rw [List.take_of_length_le (by rw [List.length_drop,G2];exact Nat.le_refl _)]
     simp [emap]
    ·intro e he
     obtain⟨y,_,rfl⟩:=List.mem_map.1 he
     rfl
    have e1:min (emap gP ((S ++ [zC]).drop j)).length (i-j)=i-j:=by simp [emap,M9];omega
    have e2:(emap gP (S ++ [zC])).take (j+1)++(emap gP ((S ++ [zC]).drop j)).take (i-j)++(emap gP (S ++ [zC])).drop (j+1+(i-j))=emap gP ((S ++ [zC]).take (j+1)++((S ++ [zC]).drop j).take (i-j)):=by
     rw [show(emap gP (S ++ [zC])).drop (j+1+(i-j)) = []from List.drop_eq_nil_of_le (by rw [G2];omega),List.append_nil]
     simp [emap]
    rw [e1,e2]
    simp (disch:=omega) [gw]
    refine bE (by refine⟨?_,?_⟩<;>kernel_rfl) ?_
    simp (disch:=omega) [gw]
    exact hK _ _ (aB _ [3,5,6,7,8,9]) ⟨_,rfl,by simp,by simp [dM]⟩
   clear bQ dM rows
   rintro _ ⟨rows,rfl,bQ,dM⟩
   simp only [gQ]at dM
   refine W.NB (fun K hK=>?_)
   simp (disch:=omega) [gw,bQ,dM]
   refine aC hNi ?_
   have dC:j<j+1+(i-j):=by omega
   simp (disch:=omega) [gw,bQ,dM,aje,dC]
   refine bE (by kernel_rfl) ?_
   simp (disch:=omega) [gw]
   have e3:=abl (L:=(S ++ [zC]).take (j+1)++((S ++ [zC]).drop j).take (i-j)) (j:=j) (y:=x.nz) (by simp [M9];omega)
   rw [←M9,ap6 (by omega),←iI]at e3
   simp only [gQ,CE.nz,aeI,M9]at e3
   rw [e3]
   refine hK _ ?_;clear hK K
   refine W.bY (fun K hK=>?_);simp (disch:=omega) [gw]
   exact hK _ ⟨k-1,_,aB _ [3,7,8,9],by omega,i+1,v,_,_,rfl,by omega,by simp⟩
 ·have hi:i=l.length:=by simp at h;omega
  subst hi
  rw [List.take_length]at bQ
  refine eW ?_
  refine W.freeze 3 (by simp [bQ]) (fun K hK=>?_)
  simp [bQ]
  refine hK _ ?_;clear hK K
  refine aA [2] ?_
  refine W.ret ?_
  simp [go,List.take_of_length_le (Nat.le_of_eq (xU (l:=l)))]
structure A9 where
 y:List (List PV)
 s:Bool
 d:List (List PV)
 s':Bool
 d':List (List PV)
 u:Bool
 e:List (List PV)
 u':Bool
 e':List (List PV)
def A9.no:A9:=⟨[],false,[],false,[],false,[],false,[]⟩
instance:Inhabited A9:=⟨A9.no⟩
def b9(x:A9):List PV:=[.sl x.y, .bool x.s, .sl x.d, .bool x.s', .sl x.d', .bool x.u, .sl x.e, .bool x.u', .sl x.e']
theorem fM(x:A9):b9 x = [.sl x.y, .bool x.s, .sl x.d, .bool x.s', .sl x.d', .bool x.u, .sl x.e, .bool x.u', .sl x.e']:=rfl
theorem ajf(x:A9):(b9 x).all bL=true:=rfl
@[simp] theorem atc{l:List A9}:bK 9 (emap b9 l)=True:=cL fun _=>rfl
@[simp] theorem ap7{v e n:Nat}{l:List A9}:c9 (some ⟨v,e,n,emap b9 l⟩)=True:=b8 ajf
structure WE where
 t:Tg
 p:List Int
 w:Int
 k:Bool
 o:Bool
 f:A9
instance:Inhabited WE:=⟨⟨default,[],0,false,false,default⟩⟩
def EV(w:WE):List PV:=[.int .i64 w.t.k, .int .i64 w.t.a, .int .i64 w.t.b, .int .i64 w.t.c, .int .i64 w.t.d,Po w.p, .int .i64 w.w, .bool w.k, .bool w.o, .sl w.f.y, .bool w.f.s, .sl w.f.d, .bool w.f.s', .sl w.f.d', .bool w.f.u, .sl w.f.e, .bool w.f.u', .sl w.f.e']
theorem gC(w:WE):EV w = [.int .i64 w.t.k, .int .i64 w.t.a, .int .i64 w.t.b, .int .i64 w.t.c, .int .i64 w.t.d,Po w.p, .int .i64 w.w, .bool w.k, .bool w.o, .sl w.f.y, .bool w.f.s, .sl w.f.d, .bool w.f.s', .sl w.f.d', .bool w.f.u, .sl w.f.e, .bool w.f.u', .sl w.f.e']:=rfl
theorem aeP(w:WE):(EV w).all bL=true:=rfl
@[simp] theorem ap8{l:List WE}:bK 18 (emap EV l)=True:=cL fun _=>rfl
@[simp] theorem amo{v e n:Nat}{l:List WE}:c9 (some ⟨v,e,n,emap EV l⟩)=True:=b8 aeP
def co(b:Bool)(n:A9)(z:Bool)(L:List WE)(e:Int):List PV:=[.bool b,sc (!b) n.y, .bool n.s,sc (!b) n.d, .bool n.s',sc (!b) n.d', .bool n.u,sc (!b) n.e, .bool n.u',sc (!b) n.e',sc z (emap EV L), .int .i64 e]
theorem fH(b:Bool)(n:A9)(z:Bool)(L:List WE)(e:Int):co b n z L e = [.bool b,sc (!b) n.y, .bool n.s,sc (!b) n.d, .bool n.s',sc (!b) n.d', .bool n.u,sc (!b) n.e, .bool n.u',sc (!b) n.e',sc z (emap EV L), .int .i64 e]:=rfl
theorem iP(b:Bool)(n:A9)(z:Bool)(L:List WE)(e:Int):∀p∈co b n z L e,bL p=true:=List.all_eq_true.1 (by simp only [fH,List.all_cons,ET,List.all_nil];rfl)
attribute [simp] alT
theorem EW{b:Bool}{n:A9}{z:Bool}{L:List WE}{e:Int}:fY env.P 44 [] 95 12 (co b n z L e) (co b n z L e) (.int .i64 e):=by
 refine iE (E:=env) (fun _=>0) [] Tryz.func44 rfl (by kernel_rfl) (by kernel_rfl) (show 1≤7 by decide) (by intro q;simp) ?_
 intro id ver rows clk eH
 refine aA [0] ?_
 simp only [fH]at eH ⊢
 refine W.sr ?_
 simp (disch:=omega) [gw,eH]
 refine bI [2] ?_
 refine W.ret ?_
 simp [go,eH]
theorem xV{n:A9}{z:Bool}{L:List WE}{e:Int}(hL:aE env.P 112 [.sl [b9 n]] (.dX [.ag (b9 n), .bool true])):fY env.P 49 [] 95 12 (co true n z L e) (co true n z L e) (.ag (b9 n)):=by
 refine iE (E:=env) (fun _=>0) [] Tryz.func49 rfl (by kernel_rfl) (by kernel_rfl) (show 1≤23 by decide) (by intro q;simp) ?_
 intro id ver rows clk eH
 simp only [fM]at hL ⊢
 simp only [fH,Bool.not_true,aeI]at eH ⊢
 refine aA [0,2] ?_
 refine W.seq ?_
 refine W.sr ?_
 simp (disch:=omega) [gw,eH]
 refine bI [0,2,9] ?_
 refine bH ?_ ?_<;>intro h
 ·simp at h
 refine W.skip ?_
 refine W.sr ?_
 simp (disch:=omega) [gw,eH]
 refine aC hL ?_
 simp (disch:=omega) [gw,eH]
 refine bI [2,3] ?_
 refine aA [2] ?_
 refine W.ret ?_
 simp [go,eH]
def EX(R:WE→Bool × A9)(w:WE):WE:=if w.k=true then w else⟨w.t,w.p,w.w,true,(R w).1,(R w).2⟩
theorem EY{b:Bool}{n m:A9}{z:Bool}{L:List WE}{e:Int}{R:WE→Bool × A9}(hl:L.length<1000000)(hz:z=true→L = [])
  (hN:fY env.P 49 [] 95 12 (co b n z L e) (co b n z L e) (.ag (b9 m)))
  (hR:∀w∈L,w.k=false→aE env.P 206 [Po w.p, .ag (b9 m)] (.dX [.ag (b9 (R w).2), .bool (R w).1])) :
  fY env.P 120 [] 95 12 (co b n z L e) (co b n false (L.map (EX R)) e) (.dX []):=by
 refine iE (E:=env) (fun _=>0) [] Tryz.func120 rfl (by kernel_rfl) (by kernel_rfl) (show 1≤40 by decide) (by intro q;simp) ?_
 intro id ver iQ abm eH
 have GJ:=iP b n z L e
 simp only [fM]at hN hR
 refine aA [0,2] ?_
 refine W.sr ?_
 simp (disch:=omega) [gw,eH]
 refine iZ hN rfl rfl GJ GJ eH ?_
 simp (disch:=omega) [gw]
 refine bI [0,2,3] ?_
 refine W.nil 2 2 179 18 (by simp) (by decide) (fun K hK=>?_)
 refine W.lw [0,2,3] hK ?_;clear hK K;simp
 refine W.seq ?_
 refine W.eD (fun σ=>∃(s:PV) (v2 v3:Nat) (rows:Pm.Rows) (clk:Nat),σ=⟨fa [(0, .ptr (id+1000000) ver 0 0),(2, .own 2 v2 0 0),(3, .ptr 3 v3 0 0),(11,s),(12, .int .i64 L.length),(13, .int .i64 0)],rows,clk⟩∧(0<L.length→s=aH EV L)∧rows 2=some ⟨v2,179,18,[]⟩∧rows (id+1000000)=some ⟨ver,95,12,[co b n z L e]⟩∧(∀j,j≠id→rows (j+1000000)=iQ (j+1000000))∧rows 3=some ⟨v3,54,9,[b9 m]⟩) (fun K hK=>?_) ?_
 ·cases z
  ·simp (disch:=omega) [gw,eH,fH]
   exact hK _ _ (aB _ [0,2,3,11,12,13]) ⟨_,_,_,_,_,rfl,fun _=>rfl,by simp,by simp [fH],by intro j hj;simp [hj],by simp [fM]⟩
  ·obtain rfl:=hz rfl
   simp (disch:=omega) [gw,eH,fH]
   exact hK _ _ (aB _ [0,2,3,11,12,13]) ⟨_,_,_,_,_,rfl,by simp,by simp,by simp [fH],by intro j hj;simp [hj],by simp [fM]⟩
 clear eH
 rintro _ ⟨s,v2,v3,rows,clk,rfl,hs,bU,eH,iG,bQ⟩
 refine W.block ?_
 refine W.aY (fun k σ=>∃(i v2 v3:Nat) (rows:Pm.Rows) (clk:Nat),σ=⟨fa [(0, .ptr (id+1000000) ver 0 0),(2, .own 2 v2 0 i),(3, .ptr 3 v3 0 0),(11,s),(12, .int .i64 L.length),(13, .int .i64 i)],rows,clk⟩∧i+k=L.length∧rows 2=some ⟨v2,179,18,emap EV ((L.map (EX R)).take i)⟩∧rows (id+1000000)=some ⟨ver,95,12,[co b n z L e]⟩∧(∀j,j≠id→rows (j+1000000)=iQ (j+1000000))∧rows 3=some ⟨v3,54,9,[b9 m]⟩) L.length ?_ ?_
 ·exact⟨_,aB _ [0,2,3,11,12,13],0,_,_,_,_,rfl,by omega,by simp [bU,emap],eH,iG,bQ⟩
 clear bU eH iG bQ rows clk v2 v3
 rintro k _ ⟨i,v2,v3,rows,clk,rfl,uA,bU,eH,iG,bQ⟩
 refine bT [0,2,3,11,12,13,14] ?_
 refine bH ?_ ?_<;>intro h
 ·have hi:i<L.length:=by simp at h;omega
  obtain rfl:=hs (by omega)
  have m7:=hR _ (bJ hi)
  have iI:(L.map (EX R)).take (i+1)=(L.map (EX R)).take i ++ [EX R (nth L i)]:=by
   rw [List.take_succ_eq_append_getElem (by simpa using hi),cE hi];simp
  have hlen:((L.map (EX R)).take i).length=i:=by simp;omega
  generalize hT':(L.map (EX R)).take (i+1)=T' at *
  generalize (L.map (EX R)).take i=T at *
  generalize hw:nth L i=w at *
  obtain⟨y',y8⟩:∃y',EX R w=y':=⟨_,rfl⟩
  rw [y8]at iI
  refine j7 ?_
  refine W.sr ?_
  simp (disch:=omega) [gw,hi,hw,gC]
  refine bI [0,2,3,5,11,12,13] ?_
  refine W.iB (fun σ=>∃(v5:Nat) (rows:Pm.Rows) (clk:Nat),σ=⟨fa [(0, .ptr (id+1000000) ver 0 0),(2, .own 2 v2 0 i),(3, .ptr 3 v3 0 0),(5, .ptr 5 v5 0 0),(11,aH EV L),(12, .int .i64 L.length),(13, .int .i64 i)],rows,clk⟩∧rows 2=some ⟨v2,179,18,emap EV T⟩∧rows 5=some ⟨v5,179,18,[EV y']⟩∧rows (id+1000000)=some ⟨ver,95,12,[co b n z L e]⟩∧(∀j,j≠id→rows (j+1000000)=iQ (j+1000000))∧rows 3=some ⟨v3,54,9,[b9 m]⟩) ?_ ?_
  ·refine aA [0,2,3,5,11,12,13,19] ?_
   refine bH ?_ ?_<;>intro h
   ·have hk:w.k=false:=by simpa using h
    have IP:=m7 hk
    rw [EX,if_neg (by simp [hk])]at y8
    generalize R w=r at *
    refine W.sr ?_
    simp (disch:=omega) [gw,bQ,fM]
    refine cN [0,2,3,5,11,12,13] IP ?_
    refine W.bY (fun K hK=>?_);simp (disch:=omega) [gw]
    exact hK _ ⟨_,aB _ [0,2,3,5,11,12,13],_,_,_,rfl,by simp [bU],by simp [←y8,gC],by simp [eH],by intro j hj;simp [hj,iG],by simp [bQ,fM]⟩
   ·have hk:w.k=true:=by simpa using h
    rw [EX,if_pos hk]at y8
    subst y8
    refine W.skip ?_
    exact⟨_,aB _ [0,2,3,5,11,12,13],_,_,_,rfl,by simp [bU],by simp [gC],by simp [eH],by intro j hj;simp [hj,iG],by simp [bQ]⟩
  clear bU eH iG bQ rows clk
  rintro _ ⟨v5,rows,clk,rfl,bU,dM,eH,iG,bQ⟩
  rw [gC]at dM
  refine W.bY (fun K hK=>?_);simp (disch:=omega) [gw,dM,bU,hlen];refine W.lw [0,2,3,11,12,13] hK ?_;clear hK K;simp
  refine W.bY (fun K hK=>?_);simp (disch:=omega) [gw]
  refine hK _ ⟨k-1,_,aB _ [0,2,3,11,12,13],by omega,i+1,_,_,_,_,rfl,by omega,by rw [hT',iI];simp [bU,emap,hlen,gC],by simp [eH],by intro j hj;simp [hj,iG],by simp [bQ]⟩
 ·have hi:i=L.length:=by simp at h;omega
  subst hi
  have hT:(L.map (EX R)).take L.length=L.map (EX R):=List.take_of_length_le (by simp)
  rw [hT]at bU
  refine eW ?_
  refine W.freeze 2 (by simp [bU]) (fun K hK=>?_)
  simp [bU]
  refine hK _ ?_;clear hK K
  simp only [fH]at eH ⊢
  refine W.bY (fun K hK=>?_)
  simp (disch:=omega) [gw,eH]
  refine hK _ ?_
  simp [go,eH]
  rw [hT]
  exact⟨rfl,fun j hj=>by simp [hj,iG]⟩
theorem abn{α:Type}[Inhabited α]{l:List α}{i:Nat}(h:i<l.length):l.take (i+1)=l.take i ++ [nth l i]:=by
 rw [List.take_succ_eq_append_getElem h,cE h]
def GB(l:List WE):List A9:=(l.filter WE.o).map WE.f
theorem YA(l:List WE):(GB l).length≤l.length:=by simp only [GB,List.length_map];exact List.length_filter_le _ _
theorem EZ{b:Bool}{n r:A9}{z ok:Bool}{L M:List WE}{e:Int}(hl:M.length<1000000)
  (hk:fY env.P 120 [] 95 12 (co b n z L e) (co b n false M e) (.dX []))
  (hL:aE env.P 112 [aH b9 (GB M)] (.dX [.ag (b9 r), .bool ok])) :
  fY env.P 51 [] 95 12 (co b n z L e) (co b n false M e) (.dX [.ag (b9 r), .bool ok]):=by
 refine iE (E:=env) (fun _=>0) [] Tryz.func51 rfl (by kernel_rfl) (by kernel_rfl) (show 1≤30 by decide) (by intro q;simp) ?_
 intro id ver iQ abm eH
 have GJ:=iP b n z L e
 have ajh:=iP b n false M e
 simp only [fM r]at hL ⊢
 refine aA [0,2] ?_
 refine W.sr ?_
 simp (disch:=omega) [gw,eH]
 refine iZ hk rfl rfl GJ ajh (by simp [eH]) ?_
 simp (disch:=omega) [gw]
 refine bI [0,2] ?_
 refine aA [0,2,4] ?_
 refine W.nil 4 4 54 9 (by simp) (by decide) (fun K hK=>?_)
 refine W.lw [0,2,4] hK ?_;clear hK K;simp
 refine W.seq ?_
 refine W.eD (fun σ=>∃(v2 v4:Nat) (rows:Pm.Rows) (clk:Nat),σ=⟨fa [(2, .ptr 2 v2 0 0),(4, .own 4 v4 0 0),(12,aH EV M),(13, .int .i64 M.length),(14, .int .i64 0)],rows,clk⟩∧rows 4=some ⟨v4,54,9,[]⟩∧rows 2=some ⟨v2,54,9,[[.nil, .bool false, .nil, .bool false, .nil, .bool false, .nil, .bool false, .nil]]⟩∧rows (id+1000000)=some ⟨ver,95,12,[co b n false M e]⟩∧(∀j,j≠id→rows (j+1000000)=iQ (j+1000000))) (fun K hK=>?_) ?_
 ·simp (disch:=omega) [gw,fH]
  exact hK _ _ (aB _ [2,4,12,13,14]) ⟨_,_,_,_,rfl,by simp,by simp,by simp [fH],by intro j hj;simp [hj]⟩
 clear eH
 rintro _ ⟨v2,v4,rows,clk,rfl,dF,bU,eH,iG⟩
 refine W.block ?_
 refine W.aY (fun k σ=>∃(i v2 v4:Nat) (rows:Pm.Rows) (clk:Nat),σ=⟨fa [(2, .ptr 2 v2 0 0),(4, .own 4 v4 0 (GB (M.take i)).length),(12,aH EV M),(13, .int .i64 M.length),(14, .int .i64 i)],rows,clk⟩∧i+k=M.length∧rows 4=some ⟨v4,54,9,emap b9 (GB (M.take i))⟩∧rows 2=some ⟨v2,54,9,[[.nil, .bool false, .nil, .bool false, .nil, .bool false, .nil, .bool false, .nil]]⟩∧rows (id+1000000)=some ⟨ver,95,12,[co b n false M e]⟩∧(∀j,j≠id→rows (j+1000000)=iQ (j+1000000))) M.length ?_ ?_
 ·exact⟨_,aB _ [2,4,12,13,14],0,v2,v4,rows,clk,by simp [GB],by omega,by simp [dF,emap,GB],bU,eH,iG⟩
 clear bU eH iG dF rows clk v2 v4
 rintro k _ ⟨i,v2,v4,rows,clk,rfl,uA,dF,bU,eH,iG⟩
 refine bT [2,4,12,13,14,15] ?_
 refine bH ?_ ?_<;>intro h
 ·have hi:i<M.length:=by simp at h;omega
  have iI:GB (M.take (i+1))=GB (M.take i)++if (nth M i).o=true then [(nth M i).f]else []:=by
   rw [abn hi]
   simp only [GB,List.filter_append,List.map_append,List.filter_cons,List.filter_nil]
   split<;>rfl
  have hlen:(GB (M.take i)).length≤i:=Nat.le_trans (YA _) (by simp;omega)
  generalize hT':GB (M.take (i+1))=T' at *
  generalize GB (M.take i)=T at *
  generalize hw:nth M i=w at *
  refine W.skip ?_
  refine W.dW (fun σ=>∃(v4:Nat) (rows:Pm.Rows) (clk:Nat),σ=⟨fa [(2, .ptr 2 v2 0 0),(4, .own 4 v4 0 T'.length),(12,aH EV M),(13, .int .i64 M.length),(14, .int .i64 i)],rows,clk⟩∧rows 4=some ⟨v4,54,9,emap b9 T'⟩∧rows 2=some ⟨v2,54,9,[[.nil, .bool false, .nil, .bool false, .nil, .bool false, .nil, .bool false, .nil]]⟩∧rows (id+1000000)=some ⟨ver,95,12,[co b n false M e]⟩∧(∀j,j≠id→rows (j+1000000)=iQ (j+1000000))) ?_ ?_
  ·refine W.sr ?_
   simp (disch:=omega) [gw,hi,hw,gC]
   refine bI [2,4,6,12,13,14] ?_
   refine aA [2,4,6,12,13,14,19] ?_
   refine bH ?_ ?_<;>intro h
   ·have ho:w.o=true:=by simpa using h
    rw [if_pos ho]at iI
    refine W.bY (fun K hK=>?_);simp (disch:=omega) [gw,dF]
    exact hK _ ⟨_,aB _ [2,4,12,13,14],_,_,_,by rw [show T'.length=T.length+1 by rw [iI];simp];rfl,by rw [iI];simp [emap,fM],by simp [bU],by simp [eH],by intro j hj;simp [hj,iG]⟩
   ·have ho:w.o=false:=by simpa using h
    rw [if_neg (by simp [ho]),List.append_nil]at iI
    subst iI
    refine W.skip ?_
    exact⟨_,aB _ [2,4,12,13,14],_,_,_,rfl,by simp [dF],by simp [bU],by simp [eH],by intro j hj;simp [hj,iG]⟩
  clear dF bU eH iG rows clk v4
  rintro _ ⟨v4,rows,clk,rfl,dF,bU,eH,iG⟩
  refine W.bY (fun K hK=>?_);simp (disch:=omega) [gw]
  refine hK _ ⟨k-1,_,aB _ [2,4,12,13,14],by omega,i+1,_,_,_,_,by rw [hT'];rfl,by omega,by rw [hT'];exact dF,bU,eH,iG⟩
 ·have hi:i=M.length:=by simp at h;omega
  subst hi
  rw [List.take_length]at dF ⊢
  refine eW ?_
  refine W.freeze 4 (by simp [dF]) (fun K hK=>?_)
  simp [dF]
  refine hK _ ?_;clear hK K
  refine W.sr ?_
  simp (disch:=omega) [gw,bU]
  refine aC hL ?_
  simp (disch:=omega) [gw,bU]
  refine bI [2,3] ?_
  refine W.ret ?_
  simp [go,eH]
  exact fun j hj=>by simp [hj,iG]
def WE.c(w:WE):CE:=⟨w.t,false,w.p,w.w⟩
theorem abo{b:Bool}{n:A9}{z:Bool}{L:List WE}{M:List CE}{e:Int}(hl:L.length<1000000)(hz:z=true→L = [])
  (hS:aE env.P 35 [aH gP (L.map WE.c)] (aH gP M)) :
  fY env.P 47 [] 95 12 (co b n z L e) (co b n z L e) (aH gP M):=by
 refine iE (E:=env) (fun _=>0) [] Tryz.func47 rfl (by kernel_rfl) (by kernel_rfl) (show 1≤23 by decide) (by intro q;simp) ?_
 intro id ver iQ abm eH
 refine aA [0] ?_
 refine aA [0,3] ?_
 refine W.nil 3 3 82 7 (by simp) (by decide) (fun K hK=>?_)
 refine W.lw [0,3] hK ?_;clear hK K;simp
 refine W.seq ?_
 refine W.eD (fun σ=>∃(s:PV) (v3:Nat) (rows:Pm.Rows) (clk:Nat),σ=⟨fa [(3, .own 3 v3 0 0),(9,s),(10, .int .i64 L.length),(11, .int .i64 0)],rows,clk⟩∧(0<L.length→s=aH EV L)∧rows 3=some ⟨v3,82,7,[]⟩∧rows (id+1000000)=some ⟨ver,95,12,[co b n z L e]⟩∧(∀j,j≠id→rows (j+1000000)=iQ (j+1000000))) (fun K hK=>?_) ?_
 ·cases z
  ·simp (disch:=omega) [gw,eH,fH]
   exact hK _ _ (aB _ [3,9,10,11]) ⟨_,_,_,_,rfl,fun _=>rfl,by simp,by simp [eH,fH],by intro j hj;simp [hj]⟩
  ·obtain rfl:=hz rfl
   simp (disch:=omega) [gw,eH,fH]
   exact hK _ _ (aB _ [3,9,10,11]) ⟨_,_,_,_,rfl,by simp,by simp,by simp [eH,fH],by intro j hj;simp [hj]⟩
 clear eH
 rintro _ ⟨s,v3,rows,clk,rfl,hs,bQ,eH,iG⟩
 refine W.block ?_
 refine W.aY (fun k σ=>∃(i v3:Nat) (rows:Pm.Rows) (clk:Nat),σ=⟨fa [(3, .own 3 v3 0 i),(9,s),(10, .int .i64 L.length),(11, .int .i64 i)],rows,clk⟩∧i+k=L.length∧rows 3=some ⟨v3,82,7,emap gP ((L.map WE.c).take i)⟩∧rows (id+1000000)=some ⟨ver,95,12,[co b n z L e]⟩∧(∀j,j≠id→rows (j+1000000)=iQ (j+1000000))) L.length ?_ ?_
 ·exact⟨_,aB _ [3,9,10,11],0,v3,rows,clk,rfl,by omega,by simp [bQ,emap],eH,iG⟩
 clear bQ eH iG rows clk v3
 rintro k _ ⟨i,v3,rows,clk,rfl,uA,bQ,eH,iG⟩
 refine bT [3,9,10,11,12] ?_
 refine bH ?_ ?_<;>intro h
 ·have hi:i<L.length:=by simp at h;omega
  obtain rfl:=hs (by omega)
  have iI:(L.map WE.c).take (i+1)=(L.map WE.c).take i ++ [(nth L i).c]:=by
   rw [List.take_succ_eq_append_getElem (by simpa using hi),cE hi];simp
  have hlen:((L.map WE.c).take i).length=i:=by simp;omega
  generalize hT':(L.map WE.c).take (i+1)=T' at *
  generalize (L.map WE.c).take i=T at *
  generalize hw:nth L i=w at *
  refine j7 ?_
  refine W.sr ?_
  simp (disch:=omega) [gw,hi,hw,gC]
  refine bI [3,5,9,10,11] ?_
  refine W.bY (fun K hK=>?_);simp (disch:=omega) [gw,bQ,hlen];refine W.lw [3,9,10,11] hK ?_;clear hK K;simp
  refine W.bY (fun K hK=>?_);simp (disch:=omega) [gw]
  refine hK _ ⟨k-1,_,aB _ [3,9,10,11],by omega,i+1,_,_,_,rfl,by omega,by rw [hT',iI];simp [emap,aH,hlen,gQ,WE.c],by simp [eH],by intro j hj;simp [hj,iG]⟩
 ·have hi:i=L.length:=by simp at h;omega
  subst hi
  have hT:(L.map WE.c).take L.length=L.map WE.c:=List.take_of_length_le (by simp)
  rw [hT]at bQ
  refine eW ?_
  refine W.freeze 3 (by simp [bQ]) (fun K hK=>?_)
  simp [bQ]
  rw [hT]
  refine hK _ ?_;clear hK K
  refine aL [2] hS ?_
  refine W.ret ?_
  simp [go,eH]
  exact fun j hj=>by simp [hj,iG]
def evc(w:WE):List PV:=[.int .i64 w.t.k, .int .i64 w.t.a, .int .i64 w.t.b, .int .i64 w.t.c, .int .i64 w.t.d, .sl w.f.y, .bool w.f.s, .sl w.f.d, .bool w.f.s', .sl w.f.d', .bool w.f.u, .sl w.f.e, .bool w.f.u', .sl w.f.e']
theorem aeQ(w:WE):(evc w).all bL=true:=rfl
@[simp] theorem ap9{l:List WE}:bK 14 (emap evc l)=True:=cL fun _=>rfl
@[simp] theorem amp{v e n:Nat}{l:List WE}:c9 (some ⟨v,e,n,emap evc l⟩)=True:=b8 aeQ
def WE.new(s:CE):WE:=⟨s.t,s.p,s.w,false,false,A9.no⟩
def wek(z:Bool)(w:WE):List PV:=[.int .i64 w.t.k, .int .i64 w.t.a, .int .i64 w.t.b, .int .i64 w.t.c, .int .i64 w.t.d,Po w.p, .int .i64 w.w, .bool w.k, .bool w.o,sc z w.f.y, .bool w.f.s,sc z w.f.d, .bool w.f.s',sc z w.f.d', .bool w.f.u,sc z w.f.e, .bool w.f.u',sc z w.f.e']
theorem K6(z:Bool)(w:WE):wek z w = [.int .i64 w.t.k, .int .i64 w.t.a, .int .i64 w.t.b, .int .i64 w.t.c, .int .i64 w.t.d,Po w.p, .int .i64 w.w, .bool w.k, .bool w.o,sc z w.f.y, .bool w.f.s,sc z w.f.d, .bool w.f.s',sc z w.f.d', .bool w.f.u,sc z w.f.e, .bool w.f.u',sc z w.f.e']:=rfl
theorem K7{b:Bool}{n t:A9}{z later:Bool}{L:List WE}{e:Int}{C S:List CE}{G:CE→WE}(hl:S.length<1000000)(hSz:∀s∈S,s.z=false)
  (hS:aE env.P 35 [aH gP C] (aH gP S)) (hL:aE env.P 112 [.sl [b9 t]] (.dX [.ag (b9 t), .bool true]))
  (hF:later=false → ∀s∈S,G s=WE.new s)
  (hT:later=true → ∀s∈S,∃y:Bool,(y=true→(G s).f=A9.no)∧fY env.P 191 [.ag (gP s), .ag (b9 t)] 95 12 (co b n z L e) (co b n z L e) (.ag (wek y (G s)))) :
  fY env.P 109 [.ag (b9 t), .bool later,aH gP C] 95 12 (co b n z L e) (co true t false (S.map G) e) (.dX []):=by
 simp only [fM]at hL hT ⊢
 refine iE (E:=env) (fun _=>0) [(1, .ag [.sl t.y, .bool t.s, .sl t.d, .bool t.s', .sl t.d', .bool t.u, .sl t.e, .bool t.u', .sl t.e']),(2, .bool later),(3,aH gP C)] Tryz.func109 rfl (by kernel_rfl) (by kernel_rfl) (show 4≤47 by decide) (by intro q;simp) ?_
 intro id ver iQ abm eH
 have GJ:=iP b n z L e
 refine aA [0,2,3,5] ?_
 refine aA [0,2,3,5,8] ?_
 refine W.nil 8 8 179 18 (by simp) (by decide) (fun K hK=>?_)
 refine W.lw [0,2,3,5,8] hK ?_;clear hK K;simp
 refine W.seq ?_
 refine W.eD (fun σ=>∃(v5 v8:Nat) (rows:Pm.Rows) (clk:Nat),σ=⟨fa [(0, .ptr (id+1000000) ver 0 0),(2, .bool later),(5, .ptr 5 v5 0 0),(8, .own 8 v8 0 0),(13,aH gP S),(14, .int .i64 S.length),(15, .int .i64 0)],rows,clk⟩∧rows 8=some ⟨v8,179,18,[]⟩∧rows 5=some ⟨v5,54,9,[[.sl t.y, .bool t.s, .sl t.d, .bool t.s', .sl t.d', .bool t.u, .sl t.e, .bool t.u', .sl t.e']]⟩∧rows (id+1000000)=some ⟨ver,95,12,[co b n z L e]⟩∧(∀j,j≠id→rows (j+1000000)=iQ (j+1000000))) (fun K hK=>?_) ?_
 ·simp (disch:=omega) [gw,eH]
  refine cM hS ?_
  exact hK _ _ (aB _ [0,2,5,8,13,14,15]) ⟨_,_,_,_,rfl,by simp,by simp,by simp [eH],by intro j hj;simp⟩
 clear eH
 rintro _ ⟨v5,v8,rows,clk,rfl,oC,dM,eH,iG⟩
 refine W.block ?_
 refine W.aY (fun k σ=>∃(i v5 v8:Nat) (rows:Pm.Rows) (clk:Nat),σ=⟨fa [(0, .ptr (id+1000000) ver 0 0),(2, .bool later),(5, .ptr 5 v5 0 0),(8, .own 8 v8 0 i),(13,aH gP S),(14, .int .i64 S.length),(15, .int .i64 i)],rows,clk⟩∧i+k=S.length∧rows 8=some ⟨v8,179,18,emap EV ((S.map G).take i)⟩∧rows 5=some ⟨v5,54,9,[[.sl t.y, .bool t.s, .sl t.d, .bool t.s', .sl t.d', .bool t.u, .sl t.e, .bool t.u', .sl t.e']]⟩∧rows (id+1000000)=some ⟨ver,95,12,[co b n z L e]⟩∧(∀j,j≠id→rows (j+1000000)=iQ (j+1000000))) S.length ?_ ?_
 ·exact⟨_,aB _ [0,2,5,8,13,14,15],0,v5,v8,rows,clk,rfl,by omega,by simp [oC,emap],dM,eH,iG⟩
 clear oC dM eH iG rows clk v5 v8
 rintro k _ ⟨i,v5,v8,rows,clk,rfl,uA,oC,dM,eH,iG⟩
 refine bT [0,2,5,8,13,14,15,16] ?_
 refine bH ?_ ?_<;>intro h
 ·have hi:i<S.length:=by simp at h;omega
  have hF':=fun h=>hF h _ (bJ hi)
  have hT':=fun h=>hT h _ (bJ hi)
  have hz':=hSz _ (bJ hi)
  have iI:(S.map G).take (i+1)=(S.map G).take i ++ [G (nth S i)]:=by
   rw [List.take_succ_eq_append_getElem (by simpa using hi),cE hi];simp
  have hlen:((S.map G).take i).length=i:=by simp;omega
  generalize hU':(S.map G).take (i+1)=U' at *
  generalize (S.map G).take i=U at *
  generalize hw:nth S i=w at *
  generalize G w=g at *
  rw [gQ,hz',aeI]at hT'
  refine j7 ?_
  refine W.sr ?_
  simp (disch:=omega) [gw,hi,hw,gQ,hz',aeI]
  refine bI [0,2,5,8,10,13,14,15] ?_
  refine aA [0,2,5,8,10,11,13,14,15] ?_
  refine W.iB (fun σ=>∃(v11:Nat) (y:Bool) (rows:Pm.Rows) (clk:Nat),σ=⟨fa [(0, .ptr (id+1000000) ver 0 0),(2, .bool later),(5, .ptr 5 v5 0 0),(8, .own 8 v8 0 i),(11, .ptr 11 v11 0 0),(13,aH gP S),(14, .int .i64 S.length),(15, .int .i64 i)],rows,clk⟩∧rows 11=some ⟨v11,179,18,[[.int .i64 g.t.k, .int .i64 g.t.a, .int .i64 g.t.b, .int .i64 g.t.c, .int .i64 g.t.d,Po g.p, .int .i64 g.w, .bool g.k, .bool g.o,sc y g.f.y, .bool g.f.s,sc y g.f.d, .bool g.f.s',sc y g.f.d', .bool g.f.u,sc y g.f.e, .bool g.f.u',sc y g.f.e']]⟩∧(y=true→g.f=A9.no)∧rows 8=some ⟨v8,179,18,emap EV U⟩∧rows 5=some ⟨v5,54,9,[[.sl t.y, .bool t.s, .sl t.d, .bool t.s', .sl t.d', .bool t.u, .sl t.e, .bool t.u', .sl t.e']]⟩∧rows (id+1000000)=some ⟨ver,95,12,[co b n z L e]⟩∧(∀j,j≠id→rows (j+1000000)=iQ (j+1000000))) ?_ ?_
  ·refine aA [0,2,5,8,10,11,13,14,15,21] ?_
   refine bH ?_ ?_<;>intro h
   ·subst h
    obtain⟨y,hy,hk⟩:=hT' rfl
    rw [K6]at hk
    refine W.bY (fun K hK=>?_)
    simp (disch:=omega) [gw,dM]
    refine iZ hk rfl (by simp) GJ GJ (by simp [eH]) ?_
    simp (disch:=omega) [gw]
    exact hK _ ⟨_,aB _ [0,2,5,8,11,13,14,15],_,y,_,_,rfl,by simp [K6],hy,by simp [oC],by simp [dM],by simp,by intro j hj;simp [hj,iG]⟩
   ·subst h
    obtain rfl:=hF' rfl
    refine W.skip ?_
    exact⟨_,aB _ [0,2,5,8,11,13,14,15],_,true,_,_,rfl,by simp [WE.new,A9.no];rfl,by simp [WE.new],by simp [oC],by simp [dM],by simp [eH],by intro j hj;simp [hj,iG]⟩
  clear oC dM eH iG rows clk
  rintro _ ⟨v11,y,rows,clk,rfl,aqa,hgf,oC,dM,eH,iG⟩
  refine W.bY (fun K hK=>?_);simp (disch:=omega) [gw,aqa,oC,hlen];refine W.lw [0,2,5,8,13,14,15] hK ?_;clear hK K;simp
  refine W.bY (fun K hK=>?_);simp (disch:=omega) [gw]
  refine hK _ ⟨k-1,_,aB _ [0,2,5,8,13,14,15],by omega,i+1,_,_,_,_,rfl,by omega,?_,by simp [dM],by simp [eH],by intro j hj;simp [hj,iG]⟩
  rw [hU',iI]
  cases y
  ·simp [emap,aH,hlen,gC,szc]
  ·have:=hgf rfl
   simp [emap,aH,hlen,gC,this,A9.no,szc]
 ·have hi:i=S.length:=by simp at h;omega
  subst hi
  have hTT:(S.map G).take S.length=S.map G:=List.take_of_length_le (by simp)
  rw [hTT]at oC
  refine eW ?_
  refine W.freeze 8 (by simp [oC]) (fun K hK=>?_)
  simp [oC]
  rw [hTT]
  refine hK _ ?_;clear hK K
  simp only [fH]at eH ⊢
  refine W.sr ?_
  simp (disch:=omega) [gw,dM]
  refine aC hL ?_
  simp (disch:=omega) [gw,eH]
  refine bI [0,8] ?_
  refine W.bY (fun K hK=>?_)
  simp (disch:=omega) [gw,eH]
  refine hK _ ?_
  simp [go,eH]
  exact⟨rfl,fun j hj=>by simp [hj,iG]⟩
theorem IQ{n t:A9}{z:Bool}{L M:List WE}{e:Int}{C:List CE}
  (hY:fY env.P 109 [.ag (b9 t), .bool false,aH gP C] 95 12 (co false n z L e) (co true t false M e) (.dX [])) :
  fY env.P 42 [.ag (b9 t),aH gP C] 95 12 (co false n z L e) (co true t false M e) (.dX []):=by
 simp only [fM]at hY ⊢
 refine iE (E:=env) (fun _=>0) [(1, .ag [.sl t.y, .bool t.s, .sl t.d, .bool t.s', .sl t.d', .bool t.u, .sl t.e, .bool t.u', .sl t.e']),(2,aH gP C)] Tryz.func42 rfl (by kernel_rfl) (by kernel_rfl) (show 3≤23 by decide) (by intro q;simp) ?_
 intro id ver iQ abm eH
 have GJ:=iP false n z L e
 have ajh:=iP true t false M e
 simp only [fH]at eH hY GJ ajh ⊢
 refine aA [0,2,4] ?_
 refine W.NB (fun K hK=>?_)
 simp (disch:=omega) [gw,eH]
 refine D3 hY rfl rfl GJ ajh (by simp [eH]) ?_
 simp (disch:=omega) [gw]
 refine bE (by refine⟨?_,?_,?_⟩<;>kernel_rfl) ?_
 simp (disch:=omega) [gw]
 refine hK _ ?_
 simp [go,eH]
 exact fun j hj=>by simp [hj]
theorem aqb{α β:Type}{c:Prop}[Decidable c]{f g:α→β}{x:α}:(if c then f else g) x=if c then f x else g x:=by split<;>rfl
structure CS where
 b:Bool
 n:A9
 z:Bool
 L:List WE
 e:Int
def CS.c(s:CS):List PV:=co s.b s.n s.z s.L s.e
theorem CS.dI(s:CS):∀p∈s.c,bL p=true:=iP _ _ _ _ _
theorem aqc{K:Nat}{S U:Nat→CS}{a:Nat→A9}{C:Nat→List CE}{m o r:A9}{ok s s':Bool}{d d':List (List PV)}{g:FuncId}{caps:List PV}{v:Int}(hv:¬0<v)(hK0:K<1000000)
  (hw:env.writes g=false) (hm:env.GG g=false) (GJ:caps.all dI=true)
  (hN:fY env.P 49 [] 95 12 (S 0).c (S 0).c (.ag (b9 m)))
  (hc:aE env.P 111 [.ag (b9 m), .ag [.bool s, .sl d, .bool s', .sl d']] (.int .i64 v))
  (hX:∀i,i<K→fY env.P 51 [] 95 12 (S i).c (U i).c (.dX [.ag (b9 (a i)), .bool true]))
  (hC:∀i,i<K → ∃v:Int,¬0<v∧aE env.P 111 [.ag (b9 (a i)), .ag [.bool s, .sl d, .bool s', .sl d']] (.int .i64 v))
  (hL:∀i,i<K→aE env.P 112 [.sl [b9 (a i)]] (.dX [.ag (b9 (a i)), .bool true]))
  (hB:∀i,i<K→aE env.P g (.ag (b9 (a i))::caps) (aH gP (C i)))
  (hY:∀i,i<K → ∃M e,fY env.P 109 [.ag (b9 (a i)), .bool true,aH gP (C i)] 95 12 (U i).c (co true (a i) false M e) (.dX [])∧S (i+1)=⟨true,a i,false,M,e+1⟩∧0≤e∧e<1000000)
  (hXK:fY env.P 51 [] 95 12 (S K).c (U K).c (.dX [.ag (b9 r), .bool ok]))
  (hCK:ok=true → ∃v:Int,0<v∧aE env.P 111 [.ag (b9 r), .ag [.bool s, .sl d, .bool s', .sl d']] (.int .i64 v))
  (hO:aE env.P 113 [.ag [.bool s, .sl d, .bool s', .sl d']] (.ag (b9 o))) (hUz:(U K).z=false) :
  fY env.P 43 [.ag [.bool s, .sl d, .bool s', .sl d'], .fn g caps] 95 12 (S 0).c (co true o false (U K).L (U K).e) (.dX [.int .i64 K, .int .i64 0]):=by
 simp only [fM]at hN hc hX hC hL hB hY hXK hCK hO
 have hpS:=fun i=>(S i).dI
 have hpU:=fun i=>(U i).dI
 refine iE (E:=env) (fun _=>0) [(1, .ag [.bool s, .sl d, .bool s', .sl d']),(2, .fn g caps)] Tryz.func43 rfl (by kernel_rfl) (by kernel_rfl) (show 3≤61 by decide) (by intro q;simp) ?_
 intro id ver iQ abm eH
 refine bT [0,2,4] ?_
 refine W.sd ?_
 simp (disch:=omega) [gw,eH]
 refine D3 hN rfl rfl (hpS 0) (hpS 0) (by simp [eH]) ?_
 simp (disch:=omega) [gw,aqb]
 refine aC hc ?_
 simp (disch:=omega) [gw,hv]
 refine bI [0,2,4,17] ?_
 refine bH ?_ ?_<;>intro h
 ·simp at h
 refine W.skip ?_
 refine bT [0,2,4,8] ?_
 refine W.block ?_
 refine W.aY (fun k σ=>∃(i v4:Nat) (rows:Pm.Rows) (clk:Nat),σ=⟨fa [(0, .ptr (id+1000000) ver 0 0),(2, .fn g caps),(4, .ptr 4 v4 0 0),(8, .int .i64 i)],rows,clk⟩∧i+k=K∧rows 4=some ⟨v4,52,4,[[.bool s, .sl d, .bool s', .sl d']]⟩∧rows (id+1000000)=some ⟨ver,95,12,[(S i).c]⟩∧(∀j,j≠id→rows (j+1000000)=iQ (j+1000000))) K ?_ ?_
 ·exact⟨_,aB _ [0,2,4,8],0,_,_,_,rfl,by omega,by simp,by simp [eH],by intro j hj;simp [hj]⟩
 clear eH
 rintro k _ ⟨i,v4,rows,clk,rfl,uA,dF,eH,iG⟩
 refine W.block ?_
 by_cases hi:i<K
 ·have x:=hX i hi
  obtain⟨v,hv2,c⟩:=hC i hi
  have l:=hL i hi
  have b:=hB i hi
  obtain⟨M,e,y,hS,he0,NW⟩:=hY i hi
  have hpY:=iP true (a i) false M e
  generalize a i=ai at *
  refine jG ?_
  refine iZ x rfl rfl (hpS i) (hpU i) (by simp [eH]) ?_
  simp (disch:=omega) [gw]
  refine bI [0,2,4,8,9,10] ?_
  refine W.seq ?_
  refine W.sr ?_
  simp (disch:=omega) [gw,dF]
  refine aC c ?_
  simp (disch:=omega) [gw,hv2]
  refine bI [0,2,4,8,9,30] ?_
  refine bH ?_ ?_<;>intro h
  ·simp at h
  refine W.skip ?_
  refine aL [0,2,4,8,9,11] l ?_
  have hmP:wZ env (.fn g caps)=false:=by cases caps<;>simp [hm]
  refine nH ?_
  rw [if_neg (by rw [hmP];decide)]
  simp (disch:=omega) [gw]
  refine cM b ?_
  refine D3 y rfl rfl (hpU i) hpY (by simp) ?_
  simp (disch:=omega) [gw]
  refine bI [0,2,4,8] ?_
  have u9:(S (i+1)).c=co true ai false M (e+1):=by rw [hS];rfl
  refine W.sr ?_
  simp (disch:=omega) [gw,fH]
  refine bI [0,2,4,8] ?_
  refine W.bY (fun K hK=>?_);simp (disch:=omega) [gw]
  refine hK _ ⟨k-1,_,aB _ [0,2,4,8],by omega,i+1,_,_,_,rfl,by omega,by simp [dF],by rw [u9];simp [fH],by intro j hj;simp [hj,iG]⟩
 ·obtain rfl:i=K:=by omega
  refine jG ?_
  refine iZ hXK rfl rfl (hpS i) (hpU i) (by simp [eH]) ?_
  simp (disch:=omega) [gw]
  refine bI [0,2,4,8,9,10] ?_
  refine W.seq ?_
  refine W.eD (fun σ=>∃(rows:Pm.Rows) (clk:Nat),σ=⟨fa [(0, .ptr (id+1000000) ver 0 0),(4, .ptr 4 v4 0 0),(8, .int .i64 i),(30, .bool true)],rows,clk⟩∧rows 4=some ⟨v4,52,4,[[.bool s, .sl d, .bool s', .sl d']]⟩∧rows (id+1000000)=some ⟨ver,95,12,[(U i).c]⟩∧(∀j,j≠id→rows (j+1000000)=iQ (j+1000000))) (fun K hK=>?_) ?_
  ·cases ok
   ·simp (disch:=omega) [gw]
    exact hK _ _ (aB _ [0,4,8,30]) ⟨_,_,rfl,by simp [dF],by simp,by intro j hj;simp [hj,iG]⟩
   ·obtain⟨v,hv2,c⟩:=hCK rfl
    simp (disch:=omega) [gw,dF]
    refine aC c ?_
    simp (disch:=omega) [gw,hv2]
    exact hK _ _ (aB _ [0,4,8,30]) ⟨_,_,rfl,by simp [dF],by simp,by intro j hj;simp [hj,iG]⟩
  clear eH dF iG rows clk
  rintro _ ⟨rows,clk,rfl,dF,eH,iG⟩
  refine bH ?_ ?_<;>intro h
  ·refine eW ?_
   simp only [CS.c,fH,hUz]at eH
   refine W.sr ?_
   simp (disch:=omega) [gw,dF,eH]
   refine aC hO ?_
   simp (disch:=omega) [gw,eH]
   refine bI [8] ?_
   refine aA [6,7] ?_
   refine W.ret ?_
   simp only [fH]
   simp [go,eH]
   exact fun j hj=>by simp [hj,iG]
  ·simp at h
theorem aqd(n:Int)(h0:0≤n)(h1:n<4294967296):aE env.P 269 [.int .u32 n] (.int .i64 (32-nb n.toNat)):=by
 refine cB [(0, .int .u32 n)] Tryz.func269 ?_
 refine aA [0] ?_
 refine jG ?_
 refine aC (IA n h0 h1) ?_
 have:nb n.toNat≤32:=oX.2 (by omega)
 simp (disch:=omega) [gw]
 refine bI [2] ?_
 exact bZ
theorem aji(l:List Int)(n:Nat)(hn:n≤31)(hl:l.length<1099511627775)(lm:c8 4294967296 l):aE env.P 275 [us l, .int .i64 n] (N (V 4294967296 l*2^n)):=by
 refine cB [(0,us l),(1, .int .i64 n)] Tryz.func275 ?_
 refine aA [0,1] ?_
 have gE:=bW l
 refine jG ?_
 refine aC (dZ l (by omega)) ?_
 simp (disch:=omega) [gw]
 refine bI [0,1] ?_
 have lx:=eT lm
 have hV:=dE (b:=4294967296) l
 rw [←hV]
 have hxl:(aP l).length<1099511627775:=by omega
 clear hV
 generalize aP l=x at *
 have h65:¬(65536<(n:Int)):=by omega
 have e0:(if 0<n then(n:Int)else 0)=n:=by split<;>omega
 refine W.sr ?_
 simp (disch:=omega) [gw,h65,e0]
 refine bI [0,1] ?_
 refine aK [0,1,18] ?_
 refine bH ?_ ?_<;>intro h
 ·have h:x = []:=by simp at h;exact h
  subst h
  refine aA [4] ?_
  refine W.ret ?_
  simp [go,V]
  rfl
 have h:x ≠ []:=by simp at h;exact h
 refine W.skip ?_
 have d1:(n:Int)/32=0:=by omega
 have d2:(n:Int)%32=n:=by omega
 refine W.sr ?_
 simp (disch:=omega) [gw,d1,d2]
 refine bI [0,5,6] ?_
 refine aA [0,5,6,7] ?_
 refine aK [5,6,7,30,31,32] ?_
 refine W.block ?_
 have h2n:(2:Int)^n≤2147483648:=by
  have:=Int.ofNat_le.2 (Nat.pow_le_pow_right (show 0<2 by decide) hn)
  simpa using this
 have h2p:(0:Int)<2^n:=Int.pow_pos (by decide)
 have h2d:(2:Int)^n∣4294967296:=by
  refine⟨2^(32-n),?_⟩
  rw [←Int.pow_add,show n+(32-n)=32 by omega];rfl
 refine W.aY (fun q σ=>∃(i v:Nat) (z:List Int) (rows:Pm.Rows) (clk:Nat),σ=⟨fa [(5, .int .i64 0),(6, .int .u64 n),(7, .own 29 v 0 (x.length+1)),(30,us x),(31, .int .i64 x.length),(32, .int .i64 i)],rows,clk⟩ ∧
  rows 29=some ⟨v,185,1,emap u32 z⟩∧q=x.length-i∧i≤x.length∧z.length=x.length+1∧c8 4294967296 z∧V 4294967296 (z.take (i+1))=V 4294967296 (x.take i)*2^n∧nth z i<2^n) x.length ?_ ?_
 ·exact⟨_, .refl,0,_,List.replicate (x.length+1) 0,_,_,rfl,by simp,by omega,by omega,by simp,c8.rep (by decide) _,by simp [V,List.replicate_succ],by rw [cE (by simp)];simp;exact h2p⟩
 rintro q _ ⟨i,v,z,rows,clk,rfl,hr,hq,hi,hz,lz,hV,hzi⟩
 refine bT [5,6,7,30,31,32,33] ?_
 refine bH ?_ ?_<;>intro h
 ·have hi:i<x.length:=by simp at h;omega
  have hw:=lx.nth hi
  refine j7 ?_
  refine aA [5,6,7,8,9,30,31,32] ?_
  have hVx:=aV (b:=4294967296) hi
  generalize hwe:nth x i=w at *
  have hv0:0≤w*2^n:=Int.mul_nonneg hw.1 (by omega)
  have hv1:w*2^n<4294967296*2^n:=Int.mul_lt_mul_of_pos_right hw.2 h2p
  have hvd:(2^n:Int)∣w*2^n:=⟨w,Int.mul_comm _ _⟩
  have hwr:IntKind.u64.wrap (w*2^n)=w*2^n:=wrap_u64 hv0 (by omega)
  have aBM:=lz.nth (i:=i) (by omega)
  refine W.sr ?_
  simp (disch:=omega) [gw,hwr]
  refine bI [5,6,7,8,10,30,31,32] ?_
  have aBN:V 4294967296 (x.take (i+1))*2^n=V 4294967296 (x.take i)*2^n+4294967296^i*(w*2^n):=by rw [hVx];grind
  generalize hve:w*2^n=y at *
  have aws:(2^n:Int)∣y%4294967296:=by
   rw [Int.emod_def]
   exact Int.dvd_sub hvd (Int.dvd_trans h2d (Int.dvd_mul_right _ _))
  have aFh:y%4294967296+2^n≤4294967296:=by
   obtain⟨c,hc⟩:=aws
   obtain⟨d,hd⟩:=h2d
   have h1:(2^n:Int)*c<2^n*d:=by have:=Int.emod_lt_of_pos y (show (0:Int)<4294967296 by decide);omega
   have h2:c<d:=Int.lt_of_mul_lt_mul_left h1 (by omega)
   have h3:=Int.mul_le_mul_of_nonneg_left (show c+1≤d by omega) (show 0≤(2^n:Int)by omega)
   rw [Int.mul_add]at h3
   omega
  have hor:=(aiw (a:=y%4294967296) (b:=nth z i) n (by omega) aBM.1 aws hzi (by omega)).2
  have hwy:IntKind.u32.wrap y=y%4294967296:=wrap_u32'
  refine W.sr ?_
  simp (disch:=omega) [gw,hr,hz,hwy,hor]
  refine bI [5,6,7,8,10,30,31,32] ?_
  refine W.bY (fun K hK=>?_)
  simp (disch:=omega) [gw,hz]
  refine W.lw [5,6,7,30,31,32] hK ?_;clear hK K;simp
  refine W.bY (fun K hK=>?_);simp (disch:=omega) [gw]
  refine hK _ ⟨x.length-(i+1),_,aB _ [5,6,7,30,31,32],by omega,i+1,v,(z.set i (y%4294967296+nth z i)).set (i+1) (y/4294967296),_,_,rfl,by simp,by omega,by omega,by simp [hz],(lz.set ⟨by omega,by omega⟩).set ⟨by omega,by omega⟩,?_,?_⟩
  ·have q1:=fL (b:=4294967296) (l:=z.set i (y%4294967296+nth z i)) (i:=i+1) (x:=y/4294967296) (by simp;omega)
   have q2:=fL (b:=4294967296) (l:=z) (i:=i) (x:=y%4294967296+nth z i) (by omega)
   have q3:=aV (b:=4294967296) (l:=z) (i:=i) (by omega)
   have q4:=Int.mul_ediv_add_emod y 4294967296
   rw [q1,q2,aBN,←hV,q3,Int.pow_succ]
   generalize y/4294967296=yq at *
   generalize y%4294967296=yr at *
   rw [←q4];grind
  ·rw [fG (by simp;omega)];omega
 ·have hi:i=x.length:=by simp at h;omega
  subst hi
  have hVz:V 4294967296 z=V 4294967296 x*2^n:=by
   rw [bC (by omega),bC (Nat.le_refl _)]at hV;exact hV
  have zz:=bM hz
  have oM:=dZ z (by omega)
  rw [xM lz,hVz]at oM
  refine eW ?_
  refine W.sr ?_
  simp (disch:=omega) [gw,hr,zz]
  refine cN [4] oM ?_
  exact bZ
theorem P7(l:List Int)(n m:Nat)(hn:n≤31)(hl:l.length<1099511627775)(lm:c8 4294967296 l)(SL:0<m)(NF:m<1099511627776)(hb:V 4294967296 l*2^n<4294967296^m) :
  ∃y:List Int,mT env.P 270 [us l, .int .i64 n, .int .i64 m] 185 1 (emap u32 y)∧y.length=m∧c8 4294967296 y∧V 4294967296 y=V 4294967296 l*2^n:=by
 have hp:0≤V 4294967296 l*2^n:=Int.mul_nonneg (bN (by decide) lm) (Int.le_of_lt (Int.pow_pos (by decide)))
 obtain⟨N0,hN⟩:=Int.eq_ofNat_of_zero_le hp
 have hS:=aji l n hn hl lm
 rw [hN]at hS hb
 replace hS:aE env.P 275 [us l, .int .i64 n] (us (aR LL N0)):=hS
 have hdl:(aR LL N0).length≤m:=B6 gO (by
  have h4:((4294967296^m:Nat):Int)=(4294967296:Int)^m:=Int.natCast_pow 4294967296 m
  show N0<4294967296^m
  omega)
 have W4:=fN gO N0
 have hdv:=lE gO N0
 refine⟨aR LL N0++List.replicate (m-(aR LL N0).length) 0,?_,by simp;omega,c8.append.2 ⟨W4,c8.rep (by decide) _⟩,by rw [eJ,rO,hN,←hdv];simp⟩
 generalize aR LL N0=D at *
 refine qU (E:=env) (fun _=>0) (t:=6) [(0,us l),(1, .int .i64 n),(2, .int .i64 m)] Tryz.func270 rfl (by kernel_rfl) (by kernel_rfl) (show 3≤16 by decide) rfl (by simp) ?_
 refine aA [0,1,2] ?_
 refine aA [0,1,7] ?_
 refine jG ?_
 refine cM hS ?_
 refine avg (e':=185) (els:=emap u32 (List.replicate m 0)) (l:=emap u32 D) (by simp) (by simp) SL rfl (fun e he=>by simp only [emap,List.mem_map]at he;obtain⟨x,_,rfl⟩:=he;rfl) ?_
 have e1:(emap u32 (List.replicate m 0)).take 0++(emap u32 D).take m++(emap u32 (List.replicate m 0)).drop (0+min (emap u32 D).length m)=emap u32 (D++List.replicate (m-D.length) 0):=by
  simp only [emap,List.take_zero,List.nil_append,List.length_map,Nat.zero_add,List.map_append,Nat.min_eq_left hdl]
  rw [List.take_of_length_le (by simpa using hdl),←List.map_drop,List.drop_replicate]
 rw [e1]
 generalize hy:D++List.replicate (m-D.length) 0=y at *
 have SO:y.length=m:=by rw [←hy];simp;omega
 simp (disch:=omega) [gw]
 refine bI [7] ?_
 refine aA [6] ?_
 refine W.ret ?_
 exact⟨9,0,by simp [SO],by simp,fun x hx p hp=>by
  simp only [emap,List.mem_map]at hx
  obtain⟨r,_,rfl⟩:=hx
  simp at hp
  subst hp;rfl⟩
theorem ajk(a:List Int)(w:Int)(ha:a.length<1099511627775)(la:c8 4294967296 a)(hw0:0<w)(hw1:w<4294967296):aE env.P 268 [us a, .int .u32 w] (.dX [N (V 4294967296 a/w), .int .u32 (V 4294967296 a%w)]):=by
 refine cB [(0,us a),(1, .int .u32 w)] Tryz.func268 ?_
 refine aA [0,1] ?_
 refine aA [0,1,6] ?_
 refine aA [0,1,6,7] ?_
 refine aK [0,1,6,7,8] ?_
 refine W.block ?_
 refine W.aY (fun q σ=>∃(v:Nat) (r:Int) (z:List Int) (rows:Pm.Rows) (clk:Nat),σ=⟨fa [(0,us a),(1, .int .u32 w),(6, .own 12 v 0 a.length),(7, .int .u64 r),(8, .int .i64 ((q:Int)-1))],rows,clk⟩ ∧
  rows 12=some ⟨v,185,1,emap u32 z⟩∧q≤a.length∧z.length=a.length∧c8 4294967296 z∧V 4294967296 (z.drop q)*w+r=V 4294967296 (a.drop q)∧0≤r∧r<w) a.length ?_ ?_
 ·exact⟨_, .refl,0,0,List.replicate a.length 0,_,_,rfl,by simp,by omega,by simp,c8.rep (by decide) _,by simp [V],by omega,hw0⟩
 rintro q _ ⟨v,r,z,rows,clk,rfl,hr,hq,hz,lz,hV,HN,xE⟩
 refine aK [0,1,6,7,8,17] ?_
 refine bH ?_ ?_<;>intro h
 ·have SN:0<q:=by simp at h;omega
  obtain⟨j,rfl⟩:∃j,q=j+1:=⟨q-1,by omega⟩
  clear h
  have hj:=la.nth (i:=j) (by omega)
  have ej:((j+1:Nat):Int)-1=j:=by omega
  rw [ej]
  have hVa:V 4294967296 (a.drop j)=nth a j+4294967296*V 4294967296 (a.drop (j+1)):=by rw [fK (by omega)];rfl
  generalize hxe:nth a j=x at *
  have hrb:r*4294967296<18446744073709551616:=by omega
  have hor:=(B8 (a:=r*4294967296) (b:=x) 32 (by omega) hj.1 ⟨r,by rw [Int.mul_comm];rfl⟩ (by simpa using hj.2) (by omega)).1
  refine j7 ?_
  refine W.sr ?_
  simp (disch:=omega) [gw,hxe,hor]
  refine bI [0,1,6,8,9] ?_
  have hs:(r*4294967296+x)/w<4294967296:=Int.ediv_lt_of_lt_mul hw0 (by
   have:=Int.mul_le_mul_of_nonneg_right (show r+1≤w by omega) (show (0:Int)≤4294967296 by decide)
   rw [Int.mul_comm 4294967296];omega)
  have XY:0≤(r*4294967296+x)/w:=Int.ediv_nonneg (by omega) (by omega)
  have SL:=Int.emod_nonneg (r*4294967296+x) (show w≠0 by omega)
  have NF:=Int.emod_lt_of_pos (r*4294967296+x) hw0
  have hde:=Int.mul_ediv_add_emod (r*4294967296+x) w
  have hw':¬w=0:=by omega
  refine W.NB (fun K hK=>?_)
  simp (disch:=omega) [gw,hr,hz,hw']
  refine bE (by kernel_rfl) ?_
  simp (disch:=omega) [gw,hr,hz,hw']
  refine W.lw [0,1,6,7,8] hK ?_;clear hK K;simp
  refine W.bY (fun K hK=>?_);simp (disch:=omega) [gw]
  refine hK _ ⟨j,_,aB _ [0,1,6,7,8],by omega,v,(r*4294967296+x)%w,z.set j ((r*4294967296+x)/w),_,_,rfl,by simp,by omega,by simp [hz],lz.set ⟨XY,hs⟩,?_,SL,NF⟩
  rw [fK (l:=z.set j _) (i:=j) (by simp;omega),fG (by omega),hVa,←hV,List.drop_set_of_lt (by omega)]
  simp only [V]
  generalize (r*4294967296+x)/w=qq at *
  generalize (r*4294967296+x)%w=rr at *
  grind
 ·have SN:q=0:=by simp at h;omega
  subst SN
  have zz:=bM hz
  have oM:=dZ z (by omega)
  simp only [List.drop_zero]at hV
  have h1:V 4294967296 z=V 4294967296 a/w∧r=V 4294967296 a%w:=by
   have h2:V 4294967296 a/w=V 4294967296 z:=by
    have e:(V 4294967296 z+1)*w=V 4294967296 z*w+w:=by grind
    rw [Int.ediv_eq_iff_of_pos hw0]
    constructor<;>omega
   refine⟨h2.symm,?_⟩
   have h3:=Int.emod_def (V 4294967296 a) w
   rw [h2,Int.mul_comm]at h3
   omega
  rw [xM lz,h1.1]at oM
  have bU:=h1.2
  refine eW ?_
  refine W.sr ?_
  simp (disch:=omega) [gw,hr,zz]
  refine cN [4,5] oM ?_
  refine W.ret ?_
  simp [go,bU]
theorem qX{x:List Int}{i:Nat}(h:x.length≤i):nth x i=0:=i0 h
theorem ajl(l:List Int)(n:Nat)(hn:n≤31)(hl:l.length<1099511627775)(lm:c8 4294967296 l):aE env.P 272 [us l, .int .i64 n] (N (V 4294967296 l/2^n)):=by
 refine cB [(0,us l),(1, .int .i64 n)] Tryz.func272 ?_
 refine aA [0,1] ?_
 have gE:=bW l
 refine jG ?_
 refine aC (dZ l (by omega)) ?_
 simp (disch:=omega) [gw]
 refine bI [0,1] ?_
 have lx:=eT lm
 have hV:=dE (b:=4294967296) l
 rw [←hV]
 have hxl:(aP l).length<1099511627775:=by omega
 clear hV
 generalize aP l=x at *
 have h65:¬(65536<(n:Int)):=by omega
 have e0:(if 0<n then(n:Int)else 0)=n:=by split<;>omega
 refine W.sr ?_
 simp (disch:=omega) [gw,h65,e0]
 refine bI [0,1] ?_
 have d1:(n:Int)/32=0:=by omega
 have d2:(n:Int)%32=n:=by omega
 refine W.sr ?_
 simp (disch:=omega) [gw,d1,d2]
 refine bI [0,5,6] ?_
 refine aK [0,5,6,23] ?_
 refine bH ?_ ?_<;>intro h
 ·have h:x = []:=by simp at h;exact h
  subst h
  refine aA [4] ?_
  refine W.ret ?_
  simp [go,V]
  rfl
 have h:x ≠ []:=by simp at h;exact h
 refine W.skip ?_
 refine aA [0,5,6,7] ?_
 refine aK [0,5,6,7,30,31] ?_
 refine W.block ?_
 have h2p:(0:Int)<2^n:=Int.pow_pos (by decide)
 have h2e:(0:Int)<2^(32-n):=Int.pow_pos (by decide)
 have h2d:(2:Int)^n*2^(32-n)=4294967296:=by
  rw [←Int.pow_add,show n+(32-n)=32 by omega];rfl
 refine W.aY (fun q σ=>∃(i v:Nat) (z:List Int) (rows:Pm.Rows) (clk:Nat),σ=⟨fa [(0,us x),(5, .int .i64 0),(6, .int .u64 n),(7, .own 28 v 0 x.length),(30, .int .i64 x.length),(31, .int .i64 i)],rows,clk⟩ ∧
  rows 28=some ⟨v,185,1,emap u32 z⟩∧q=x.length-i∧i≤x.length∧z.length=x.length∧c8 4294967296 z∧2^n*V 4294967296 (z.take i)+nth x 0%2^n=V 4294967296 (x.take i)+(nth x i%2^n)*4294967296^i) x.length ?_ ?_
 ·exact⟨_, .refl,0,_,List.replicate x.length 0,_,_,rfl,by simp,by omega,by omega,by simp,c8.rep (by decide) _,by simp [V]⟩
 rintro q _ ⟨i,v,z,rows,clk,rfl,hr,hq,hi,hz,lz,hV⟩
 refine bT [0,5,6,7,30,31,32] ?_
 refine bH ?_ ?_<;>intro h
 ·have hi:i<x.length:=by simp at h;omega
  have hw:=lx.nth hi
  have hw2:0≤nth x (i+1)∧nth x (i+1)<4294967296:=by
   rcases Nat.lt_or_ge (i+1) x.length with h3 | h3
   ·exact lx.nth h3
   ·rw [qX h3];decide
  have hVx:=aV (b:=4294967296) hi
  obtain⟨q1,q2,q3⟩:=aeh h2p h2e h2d hw hw2
  generalize hwe:nth x i=w at *
  refine j7 ?_
  refine aA [0,5,6,7,8,30,31] ?_
  refine W.sr ?_
  simp (disch:=omega) [gw,hwe]
  refine bI [0,5,6,7,8,9,30,31] ?_
  refine W.iB (fun σ=>∃(rows:Pm.Rows) (clk:Nat),σ=⟨fa [(0,us x),(5, .int .i64 0),(6, .int .u64 n),(7, .own 28 v 0 x.length),(8, .int .i64 i),(9, .int .u64 (w+4294967296*nth x (i+1))),(30, .int .i64 x.length),(31, .int .i64 i)],rows,clk⟩∧rows 28=some ⟨v,185,1,emap u32 z⟩) ?_ ?_
  ·
   refine aA [0,5,6,7,8,9,30,31,47] ?_
   refine bH ?_ ?_<;>intro h
   ·have h:i+1<x.length:=by simp at h;omega
    have hor:=(B8 (a:=nth x (i+1)*4294967296) (b:=w) 32 (by omega) hw.1 ⟨nth x (i+1),by rw [Int.mul_comm];rfl⟩ (by simpa using hw.2) (by omega)).2
    rw [show nth x (i+1)*4294967296+w=w+4294967296*nth x (i+1)by omega]at hor
    refine W.bY (fun K hK=>?_);simp (disch:=omega) [gw,hor]
    exact hK _ ⟨_,aB _ [0,5,6,7,8,9,30,31],_,_,rfl,by simp [hr]⟩
   ·have h:x.length≤i+1:=by simp at h;omega
    rw [qX h]
    refine W.skip ?_
    exact⟨_,Gh.fr [(0,us x),(5, .int .i64 0),(6, .int .u64 n),(7, .own 28 v 0 x.length),(8, .int .i64 i),(9, .int .u64 (w+4294967296*0)),(30, .int .i64 x.length),(31, .int .i64 i)] (by simp),_,_,rfl,by simp [hr]⟩
  rintro _ ⟨rows,clk,rfl,hr⟩
  have hwr:IntKind.u32.wrap ((w+4294967296*nth x (i+1))/2^n)=((w+4294967296*nth x (i+1))/2^n)%4294967296:=wrap_u32'
  have hfd:(w+4294967296*nth x (i+1)).fdiv (2^n)=(w+4294967296*nth x (i+1))/2^n:=Int.fdiv_eq_ediv_of_nonneg _ (by omega)
  refine W.bY (fun K hK=>?_)
  simp (disch:=omega) [gw,hr,hz,hfd,hwr]
  refine W.lw [0,5,6,7,30,31] hK ?_;clear hK K;simp
  refine W.bY (fun K hK=>?_);simp (disch:=omega) [gw]
  refine hK _ ⟨x.length-(i+1),_,aB _ [0,5,6,7,30,31],by omega,i+1,v,z.set i (((w+4294967296*nth x (i+1))/2^n)%4294967296),_,_,rfl,by simp,by omega,by omega,by simp [hz],lz.set ⟨q2,q3⟩,?_⟩
  rw [fL (by omega),hVx,Int.mul_add,Int.pow_succ]
  generalize ((w+4294967296*nth x (i+1))/2^n)%4294967296=o at *
  generalize nth x (i+1)%2^n=lo1 at *
  generalize w%2^n=lo at *
  have e2:(2:Int)^n*(4294967296^i*o)=4294967296^i*(2^n*o):=by grind
  rw [e2,q1]
  grind
 ·have hi:i=x.length:=by simp at h;omega
  subst hi
  have zz:=bM hz
  have oM:=dZ z (by omega)
  rw [xM lz]at oM
  rw [zz,List.take_of_length_le (Nat.le_refl _),qX (Nat.le_refl _)]at hV
  have hVz:V 4294967296 x/2^n=V 4294967296 z:=by
   have h5:=Int.emod_nonneg (nth x 0) (show (2^n:Int)≠0 by omega)
   have h6:=Int.emod_lt_of_pos (nth x 0) h2p
   rw [Int.zero_emod,Int.zero_mul,Int.add_zero]at hV
   have e:(V 4294967296 z+1)*2^n=2^n*V 4294967296 z+2^n:=by grind
   have e':V 4294967296 z*2^n=2^n*V 4294967296 z:=Int.mul_comm _ _
   rw [Int.ediv_eq_iff_of_pos h2p]
   constructor<;>omega
  rw [hVz]
  refine eW ?_
  refine W.sr ?_
  simp (disch:=omega) [gw,hr,zz]
  refine cN [4] oM ?_
  exact bZ
theorem gV(z:List Int)(o k:Nat):nth (z.drop o) k=nth z (o+k):=by simp [nth,List.getElem?_drop]
theorem nU(z:List Int)(o k:Nat)(x:Int):(z.set (o+k) x).drop o=(z.drop o).set k x:=by
 rw [List.drop_set]
 rw [if_neg (by omega)]
 congr 1;omega
set_option maxHeartbeats 2000000 in
theorem UZ{id ver off m:Nat}(zl y:List Int)(rows:Pm.Rows)(clk:Nat)(hr:rows id=some ⟨ver,185,1,emap u32 zl⟩)(SO:y.length=m+2)(hym:m<1099511627776)(ly:c8 4294967296 y)(aHi:2147483648≤nth y (m+1))(lz:c8 4294967296 zl)
  (acJ:off+m+3≤zl.length) (JX:zl.length<1099511627776) (dC:V 4294967296 ((zl.drop off).take (m+3))<4294967296*V 4294967296 y) :
  NS env.P 271 [.own id ver off (m+3),us y] rows clk (fun r rows' iM=>∃D:List Int,r = .int .u32 (V 4294967296 ((zl.drop off).take (m+3))/V 4294967296 y)∧rows'=eC rows id (some ⟨ver,185,1,emap u32 (zl.take off++D)⟩)∧iM=clk ∧
   D.length=(zl.drop off).length∧c8 4294967296 D∧D.drop (m+3)=(zl.drop off).drop (m+3)∧V 4294967296 (D.take (m+3))=V 4294967296 ((zl.drop off).take (m+3))%V 4294967296 y):=by
 obtain⟨U0,hc⟩:=avc (D:=zl.drop off) (by simp;omega) SO (lz.drop off) ly (by omega) dC
 have l1:=ly.nth (i:=m) (by omega)
 have l2:=ly.nth (i:=m+1) (by omega)
 have k0:=(lz.drop off).nth (i:=m) (by simp;omega)
 have k1:=(lz.drop off).nth (i:=m+1) (by simp;omega)
 have k2:=(lz.drop off).nth (i:=m+2) (by simp;omega)
 have n0:=gV zl off m
 have n1:=gV zl off (m+1)
 have n2:=gV zl off (m+2)
 have hDl:(zl.drop off).length=zl.length-off:=by simp
 have hYb:V 4294967296 y<4294967296^(m+2):=by have:=pJ (by decide) ly;rwa [SO]at this
 have hX:V 4294967296 ((zl.drop off).take (m+3))=V 4294967296 ((zl.drop off).take (m+2))+4294967296^(m+2)*nth (zl.drop off) (m+2):=aV (by simp;omega)
 refine UN (E:=env) (fun _=>0) (t:=4) [(0, .own id ver off (m+3)),(1,us y)] Tryz.func271 rfl (by kernel_rfl) (by kernel_rfl) (show 2≤170 by decide) rfl (by simp) ?_
 refine aA [0,1] ?_
 refine W.sr ?_
 simp (disch:=omega) [gw,SO]
 refine bI [0,1,5] ?_
 have a1:((m:Int)+2-1)=((m+1:Nat):Int):=by omega
 have a2:((m:Int)+2-2)=(m:Int):=by omega
 refine W.sd ?_
 simp (disch:=omega) [gw,SO,a1,a2]
 refine bI [0,1,5,6,7] ?_
 rw [n0]at k0 U0
 rw [n1]at k1 U0
 rw [n2]at k2 U0 hc hX
 generalize hxa:nth zl (off+m)=xa at *
 generalize hxb:nth zl (off+(m+1))=xb at *
 generalize hxc:nth zl (off+(m+2))=xc at *
 generalize htt:nth y (m+1)=top at *
 generalize hnn:nth y m=nx at *
 have hor:=(B8 (a:=xc*4294967296) (b:=xb) 32 (by omega) k1.1 ⟨xc,by rw [Int.mul_comm];rfl⟩ (by simpa using k1.2) (by omega)).1
 have htp:¬top=0:=by omega
 refine W.sd ?_
 have a3:((m:Int)+2).toNat=m+2:=by omega
 simp (disch:=omega) [gw,hr,a1,a3,hxb,hxc,hor]
 refine bI [0,1,5,6,7,8] ?_
 generalize hXX:V 4294967296 ((zl.drop off).take (m+3))=X at *
 generalize hYY:V 4294967296 y=Y at *
 have hY0:=U0.Y0
 have hX0:0≤X:=by rw [←hXX];exact bN (by decide) ((lz.drop off).take _)
 have hhd:xc*4294967296+xb≤top*4294967296+4294967296-1:=by omega
 have hf:=U0.first
 have hg0:=Int.ediv_nonneg U0.h0 (show 0≤top by omega)
 have hde:=Int.mul_ediv_add_emod (xc*4294967296+xb) top
 have HN:=Int.emod_nonneg (xc*4294967296+xb) htp
 have xE:=Int.emod_lt_of_pos (xc*4294967296+xb) (show 0<top by omega)
 have hgu:(xc*4294967296+xb)/top≤4294967297:=by
  rcases Int.lt_or_le 4294967297 ((xc*4294967296+xb)/top)with h | h
  ·exfalso
   have:=Int.mul_le_mul_of_nonneg_left (show 4294967298≤(xc*4294967296+xb)/top by omega) (show 0≤top by omega)
   omega
  ·exact h
 rw [Int.mul_comm]at hde
 have hh0:=U0.h0
 generalize hhe:xc*4294967296+xb=head at *
 have hwq:IntKind.u64.wrap (head/top)=head/top:=wrap_u64 hg0 (by omega)
 refine W.sr ?_
 simp (disch:=omega) [gw,htp,hwq]
 refine bI [0,1,5,6,7,8,9] ?_
 refine W.sr ?_
 simp (disch:=omega) [gw,htp]
 refine bI [0,1,5,6,7,9,10] ?_
 refine W.dW (fun σ=>∃(g:Int),σ=⟨fa [(0, .own id ver off (m+3)),(1,us y),(5, .int .i64 ((m:Int)+2)),(9, .int .u64 g)],rows,clk⟩∧0≤g∧g<4294967296∧X<(g+1)*Y∧g*Y<X+Y) ?_ ?_
 ·
  refine W.aY (fun k σ=>∃(g r:Int),σ=⟨fa [(0, .own id ver off (m+3)),(1,us y),(5, .int .i64 ((m:Int)+2)),(6, .int .u64 top),(7, .int .u64 nx),(9, .int .u64 g),(10, .int .u64 r)],rows,clk⟩∧k=g.toNat∧0≤g∧g≤4294967297∧0≤r∧r<4294967296∧g*top+r=head∧X<(g+1)*Y) (head/top).toNat ?_ ?_
  ·exact⟨_, .refl,head/top,head%top,rfl,rfl,hg0,hgu,HN,by omega,hde,hf⟩
  rintro k _ ⟨g,r,rfl,hk,q1,q2,q3,q4,q5,q6⟩
  refine W.seq ?_
  have aBQ:0≤g*nx:=Int.mul_nonneg q1 l1.1
  refine W.eD (fun σ=>∃(b:Bool),σ=⟨fa [(0, .own id ver off (m+3)),(1,us y),(5, .int .i64 ((m:Int)+2)),(6, .int .u64 top),(7, .int .u64 nx),(9, .int .u64 g),(10, .int .u64 r),(71, .bool b)],rows,clk⟩∧(b=true↔4294967296≤g∨r*4294967296+xa<g*nx)) (fun K hK=>?_) ?_
  ·by_cases hb:4294967296≤g
   ·simp (disch:=omega) [gw,hb]
    exact hK _ _ (aB _ [0,1,5,6,7,9,10,71]) ⟨_,rfl,by simp [hb]⟩
   ·have aHp:g*nx≤4294967295*4294967295:=Int.mul_le_mul (by omega) (by omega) l1.1 (by omega)
    have hwr:IntKind.u64.wrap (g*nx)=g*nx:=wrap_u64 aBQ (by omega)
    have aBR:=(B8 (a:=r*4294967296) (b:=xa) 32 (by omega) k0.1 ⟨r,by rw [Int.mul_comm];rfl⟩ (by simpa using k0.2) (by omega)).1
    simp (disch:=omega) [gw,hb,hwr,hr,a2,hxa,aBR]
    exact hK _ _ (aB _ [0,1,5,6,7,9,10,71]) ⟨_,rfl,by simp [hb]⟩
  rintro _ ⟨b,rfl,hb⟩
  refine bH ?_ ?_<;>intro h
  ·have h:=hb.1 h
   have awu:X<g*Y:=by
    rcases h with h | h
    ·exact U0.big h
    ·exact U0.over q1 q5 h
   have hgp:1≤g:=by
    rcases Int.lt_or_le g 1 with h3 | h3
    ·exfalso
     have:g=0:=by omega
     rw [this,Int.zero_mul]at awu;omega
    ·exact h3
   have e5:(g-1)*top+(r+top)=head:=by rw [Int.sub_mul];omega
   have e6:X<(g-1+1)*Y:=by rw [Int.sub_add_cancel];exact awu
   refine W.skip ?_
   refine W.block ?_
   refine aA [0,1,5,6,7,9,10] ?_
   refine aA [0,1,5,6,7,9,10] ?_
   refine aA [0,1,5,6,7,9,10,78] ?_
   refine bH ?_ ?_<;>intro h
   ·have h:4294967296≤r+top:=by simp at h;omega
    have M7:=U0.aeg hhd e5 h
    have hnr:=U0.uV (by omega) M7 e5 (U0.ava (by omega) M7 h)
    refine eW ?_
    exact⟨_,aB _ [0,1,5,9],g-1,rfl,by omega,M7,e6,hnr⟩
   ·have h:r+top<4294967296:=by simp at h;omega
    refine W.skip ?_
    exact⟨(g-1).toNat,_,aB _ [0,1,5,6,7,9,10],by omega,g-1,r+top,rfl,rfl,by omega,by omega,by omega,h,e5,e6⟩
  ·have h:¬(4294967296≤g∨r*4294967296+xa<g*nx):=fun h2=>by rw [hb.2 h2]at h;cases h
   have hnr:=U0.uV q1 (by omega) q5 (by omega)
   refine eW ?_
   exact⟨_,aB _ [0,1,5,9],g,rfl,q1,by omega,q6,hnr⟩
 rintro _ ⟨g,rfl,g0,g1,hgX,hgY⟩
 clear hf hg0 hde HN xE hgu hor
 refine aA [0,1,5,9,11,12] ?_
 refine W.seq ?_
 refine W.sr ?_
 simp (disch:=omega) [gw,SO]
 refine bI [0,1,5,9,11,12,79,80,81] ?_
 refine W.block ?_
 refine W.aY (fun q σ=>∃(i:Nat) (c β:Int) (z:List Int) (xW:Pm.Rows),σ=⟨fa [(0, .own id ver off (m+3)),(1,us y),(5, .int .i64 ((m:Int)+2)),(9, .int .u64 g),(11, .int .u64 c),(12, .int .u64 β),(79,us y),(80, .int .i64 ((m:Int)+2)),(81, .int .i64 i)],xW,clk⟩ ∧
  xW id=some ⟨ver,185,1,emap u32 z⟩∧(∀j,j≠id→xW j=rows j)∧q=m+2-i∧i≤m+2∧z.length=zl.length∧c8 4294967296 z∧z.take off=zl.take off∧(z.drop off).drop i=(zl.drop off).drop i∧0≤c∧c<4294967296∧(β=0∨β=1) ∧
  V 4294967296 ((z.drop off).take i)+g*V 4294967296 (y.take i)=V 4294967296 ((zl.drop off).take i)+(c+β)*4294967296^i) (m+2) ?_ ?_
 ·exact⟨_,Gh.fr [(0, .own id ver off (m+3)),(1,us y),(5, .int .i64 ((m:Int)+2)),(9, .int .u64 g),(11, .int .u64 0),(12, .int .u64 0),(79,us y),(80, .int .i64 ((m:Int)+2)),(81, .int .i64 (0:Nat))] (by simp),0,0,0,zl,rows,rfl,hr,fun _ _=>rfl,by omega,by omega,rfl,lz,rfl,rfl,by omega,by omega, .inl rfl,by simp [V]⟩
 rintro q _ ⟨i,c,β,z,xW,rfl,bU,hro,hq,hi,awv,lz2,hP,hD,c0,c1,hβ,hV⟩
 refine bT [0,1,5,9,11,12,79,80,81,82] ?_
 refine bH ?_ ?_<;>intro h
 ·have hi:i<m+2:=by simp at h;omega
  have hw:=ly.nth (i:=i) (by omega)
  have hVy:=aV (b:=4294967296) (l:=y) (i:=i) (by omega)
  have hVx:=aV (b:=4294967296) (l:=zl.drop off) (i:=i) (by omega)
  have hxn:nth z (off+i)=nth (zl.drop off) i:=by
   rw [←gV]
   have:=congrArg (fun l=>nth l 0) hD
   simpa [gV]using this
  have hx:=(lz.drop off).nth (i:=i) (by omega)
  generalize nth (zl.drop off) i=x at *
  generalize hwe:nth y i=w at *
  obtain⟨s1,s2,β',sE,s3,s4⟩:=aei ⟨g0,g1⟩ hw ⟨c0,c1⟩ hx hβ
  refine j7 ?_
  refine W.sr ?_
  simp (disch:=omega) [gw,SO,hwe]
  refine bI [0,1,5,9,11,12,13,14,79,80,81] ?_
  have hp1:IntKind.u64.wrap (g*w)=g*w:=wrap_u64 (Int.mul_nonneg g0 hw.1) (by omega)
  have SP:IntKind.u64.wrap (g*w+c)=g*w+c:=wrap_u64 s1.1 (by omega)
  refine W.sr ?_
  simp (disch:=omega) [gw,hp1,SP]
  refine bI [0,1,5,9,12,13,15,79,80,81] ?_
  refine aA [0,1,5,9,11,12,13,15,79,80,81] ?_
  have hp3:IntKind.u32.wrap (g*w+c)=(g*w+c)%4294967296:=wrap_u32'
  have hp4:IntKind.u64.wrap (IntKind.u64.wrap (x-(g*w+c)%4294967296)-β)=(x-(g*w+c)%4294967296-β)%18446744073709551616:=by rw [kI,kI];omega
  refine W.sr ?_
  simp (disch:=omega) [gw,bU,hxn,hp3,hp4]
  refine bI [0,1,5,9,11,13,16,79,80,81] ?_
  have hs3:=s3
  have hs4:=s4
  generalize hss:(x-(g*w+c)%4294967296-β)%18446744073709551616=s at *
  have hp5:IntKind.u32.wrap s=s%4294967296:=wrap_u32'
  have hoi:off+i<z.length:=by omega
  refine W.bY (fun K hK=>?_)
  simp (disch:=omega) [gw,bU,hp5,s3,hoi]
  refine W.lw [0,1,5,9,11,12,79,80,81] hK ?_;clear hK K;simp
  refine W.bY (fun K hK=>?_);simp (disch:=omega) [gw]
  refine hK _ ⟨m+2-(i+1),_,aB _ [0,1,5,9,11,12,79,80,81],by omega,i+1,(g*w+c)/4294967296,β',z.set (off+i) (s%4294967296),_,rfl,by simp,fun j hj=>by simp [hj,hro j hj],by omega,by omega,by simp [awv],lz2.set ⟨by omega,by omega⟩,by rw [gZ (by omega),hP],?_,s2.1,s2.2,sE,?_⟩
  ·rw [nU,List.drop_set_of_lt (by omega)]
   have:=congrArg (List.drop 1) hD
   rw [List.drop_drop,List.drop_drop,List.drop_drop,List.drop_drop]at this
   rw [List.drop_drop,List.drop_drop]
   exact this
  ·rw [nU,fL (by simp;omega),hVy,hVx,s4,Int.pow_succ]
   have h10:=Int.mul_ediv_add_emod (g*w+c) 4294967296
   generalize (g*w+c)/4294967296=pq at *
   generalize (g*w+c)%4294967296=pr at *
   generalize (4294967296:Int)^i=bi at *
   have e7:g*(V 4294967296 (y.take i)+bi*w)=g*V 4294967296 (y.take i)+bi*(g*w):=by grind
   rw [e7]
   have e8:g*w=4294967296*pq+pr-c:=by omega
   rw [e8]
   have e9:V 4294967296 ((z.drop off).take i)=V 4294967296 ((zl.drop off).take i)+(c+β)*bi-g*V 4294967296 (y.take i):=by omega
   rw [e9]
   grind
 ·have hi:i=m+2:=by simp at h;omega
  subst hi
  rw [List.take_of_length_le (show y.length≤m+2 by omega),hYY]at hV
  have hxn:nth z (off+(m+2))=xc:=by
   rw [←n2,←gV]
   have:=congrArg (fun l=>nth l 0) hD
   simpa [gV]using this
  have hV0:=bN (b:=4294967296) (by decide) ((lz2.drop off).take (m+2))
  have hV1:=pJ (b:=4294967296) (by decide) ((lz2.drop off).take (m+2))
  rw [List.length_take,Nat.min_eq_left (by simp;omega)]at hV1
  have hXg:X-g*Y=V 4294967296 ((z.drop off).take (m+2))+4294967296^(m+2)*(xc-c-β):=by
   rw [hX]
   have:(c+β)*4294967296^(m+2)=4294967296^(m+2)*c+4294967296^(m+2)*β:=by grind
   rw [Int.mul_sub,Int.mul_sub];omega
  have hoi:off+(m+2)<z.length:=by omega
  generalize hbn:(4294967296:Int)^(m+2)=bn at *
  have hp4:IntKind.u64.wrap (IntKind.u64.wrap (xc-c)-β)=(xc-c-β)%18446744073709551616:=by rw [kI,kI];omega
  refine eW ?_
  refine W.sr ?_
  simp (disch:=omega) [gw,bU,a3,hxn,hp4]
  refine bI [0,1,5,9,17] ?_
  generalize hss:(xc-c-β)%18446744073709551616=s at *
  have hp5:IntKind.u32.wrap s=s%4294967296:=wrap_u32'
  refine W.sr ?_
  simp (disch:=omega) [gw,bU,a3,hp5,hoi]
  refine bI [0,1,5,9,17] ?_
  have ajn:(z.set (off+(m+2)) (s%4294967296)).drop off=(z.drop off).set (m+2) (s%4294967296):=nU _ _ _ _
  have aqi:(z.set (off+(m+2)) (s%4294967296)).take off=zl.take off:=by rw [gZ (by omega),hP]
  have ajo:((z.drop off).set (m+2) (s%4294967296)).drop (m+3)=(zl.drop off).drop (m+3):=by
   rw [List.drop_set_of_lt (by omega)]
   have:=congrArg (List.drop 1) hD
   rw [List.drop_drop,List.drop_drop,List.drop_drop,List.drop_drop]at this
   rw [List.drop_drop,List.drop_drop]
   exact this
  have B2:c8 4294967296 ((z.drop off).set (m+2) (s%4294967296)):=(lz2.drop off).set ⟨by omega,by omega⟩
  refine W.seq ?_
  rcases Int.lt_or_le (xc-c-β) 0 with aeS | l5
  ·-- one too many
   have ajp:s/9223372036854775808=1:=by omega
   refine W.sr ?_
   simp (disch:=omega) [gw,ajp]
   refine bI [0,1,5,9,129] ?_
   refine bH ?_ ?_<;>intro h
   ·cases h
   refine W.skip ?_
   have aBV:bn*(xc-c-β) = - bn:=by
    rcases Int.lt_or_le (xc-c-β) (-1)with h | h
    ·exfalso
     have:=Int.mul_le_mul_of_nonneg_left (show xc-c-β ≤ -2 by omega) (show 0≤bn by omega)
     omega
    ·have:xc-c-β = -1:=by omega
     rw [this];omega
   have hsv:s%4294967296=4294967295:=by
    rcases Int.lt_or_le (xc-c-β) (-1)with h | h
    ·exfalso
     have:=Int.mul_le_mul_of_nonneg_left (show xc-c-β ≤ -2 by omega) (show 0≤bn by omega)
     omega
    ·omega
   rw [aBV]at hXg
   obtain⟨hq1,hq2⟩:=U0.avb hgY (by omega)
   have hgp:0≤g-1:=by rw [hq1];exact Int.ediv_nonneg hX0 (by omega)
   rw [hsv]at ajn aqi ajo B2 ⊢
   have awz:((z.drop off).set (m+2) 4294967295).take (m+2)=(z.drop off).take (m+2):=gZ (Nat.le_refl _)
   rw [←awz]at hXg hV0 hV1
   have awA:nth ((z.drop off).set (m+2) 4294967295) (m+2)=4294967295:=fG (by simp;omega)
   generalize vU:z.set (off+(m+2)) 4294967295=z2 at *
   have aBW:z2.length=zl.length:=by rw [←vU];simp [awv]
   rw [←ajn]at hXg hV0 hV1 awA B2 ajo
   have lz3:c8 4294967296 z2:=by rw [←vU];exact lz2.set ⟨by omega,by omega⟩
   clear hss hp5 hp4 ajp ajn awz hV hxn hD hP B2 lz2
   refine aA [0,1,5,9,18] ?_
   refine W.seq ?_
   refine W.sr ?_
   simp (disch:=omega) [gw,SO]
   refine bI [0,5,9,18,132,133,134] ?_
   refine W.block ?_
   refine W.aY (fun q σ=>∃(i:Nat) (k:Int) (z:List Int) (xW:Pm.Rows),σ=⟨fa [(0, .own id ver off (m+3)),(5, .int .i64 ((m:Int)+2)),(9, .int .u64 g),(18, .int .u64 k),(132,us y),(133, .int .i64 ((m:Int)+2)),(134, .int .i64 i)],xW,clk⟩ ∧
    xW id=some ⟨ver,185,1,emap u32 z⟩∧(∀j,j≠id→xW j=rows j)∧q=m+2-i∧i≤m+2∧z.length=zl.length∧c8 4294967296 z∧z.take off=zl.take off∧(z.drop off).drop i=(z2.drop off).drop i∧(k=0∨k=1) ∧
    V 4294967296 ((z.drop off).take i)+k*4294967296^i=V 4294967296 ((z2.drop off).take i)+V 4294967296 (y.take i)) (m+2) ?_ ?_
   ·exact⟨_,Gh.fr [(0, .own id ver off (m+3)),(5, .int .i64 ((m:Int)+2)),(9, .int .u64 g),(18, .int .u64 0),(132,us y),(133, .int .i64 ((m:Int)+2)),(134, .int .i64 (0:Nat))] (by simp),0,0,z2,_,rfl,by simp,fun j hj=>by simp [hj,hro j hj],by omega,by omega,aBW,lz3,aqi,rfl, .inl rfl,by simp [V]⟩
   rintro q _ ⟨i,k,z,aFn,rfl,bQ,awB,hq,hi,aBX,lz4,hP,hD,hk,hV⟩
   refine bT [0,5,9,18,132,133,134,135] ?_
   refine bH ?_ ?_<;>intro h
   ·have hi:i<m+2:=by simp at h;omega
    have hw:=ly.nth (i:=i) (by omega)
    have hVy:=aV (b:=4294967296) (l:=y) (i:=i) (by omega)
    have hVx:=aV (b:=4294967296) (l:=z2.drop off) (i:=i) (by simp;omega)
    have hxn:nth z (off+i)=nth (z2.drop off) i:=by
     rw [←gV]
     have:=congrArg (fun l=>nth l 0) hD
     simpa [gV]using this
    have hx:=(lz3.drop off).nth (i:=i) (by simp;omega)
    generalize nth (z2.drop off) i=x at *
    generalize hwe:nth y i=w at *
    refine j7 ?_
    refine W.sr ?_
    simp (disch:=omega) [gw,SO,hwe]
    refine bI [0,5,9,18,19,20,132,133,134] ?_
    refine W.sr ?_
    simp (disch:=omega) [gw,bQ,hxn]
    refine bI [0,5,9,19,21,132,133,134] ?_
    have hp6:IntKind.u32.wrap (x+w+k)=(x+w+k)%4294967296:=wrap_u32'
    have aBY:off+i<z.length:=by omega
    refine W.bY (fun K hK=>?_)
    simp (disch:=omega) [gw,bQ,hp6,aBY]
    refine W.lw [0,5,9,18,132,133,134] hK ?_;clear hK K;simp
    refine W.bY (fun K hK=>?_);simp (disch:=omega) [gw]
    refine hK _ ⟨m+2-(i+1),_,aB _ [0,5,9,18,132,133,134],by omega,i+1,(x+w+k)/4294967296,z.set (off+i) ((x+w+k)%4294967296),_,rfl,by simp,fun j hj=>by simp [hj,awB j hj],by omega,by omega,by simp [aBX],lz4.set ⟨by omega,by omega⟩,by rw [gZ (by omega),hP],?_,by omega,?_⟩
    ·rw [nU,List.drop_set_of_lt (by omega)]
     have:=congrArg (List.drop 1) hD
     rw [List.drop_drop,List.drop_drop,List.drop_drop,List.drop_drop]at this
     rw [List.drop_drop,List.drop_drop]
     exact this
    ·rw [nU,fL (by simp;omega),hVy,hVx,Int.pow_succ]
     have h10:=Int.mul_ediv_add_emod (x+w+k) 4294967296
     generalize (x+w+k)/4294967296=pq at *
     generalize (x+w+k)%4294967296=pr at *
     generalize (4294967296:Int)^i=bi at *
     have e8:pr=x+w+k-4294967296*pq:=by omega
     rw [e8]
     have e9:V 4294967296 ((z.drop off).take i)=V 4294967296 ((z2.drop off).take i)+V 4294967296 (y.take i)-k*bi:=by omega
     rw [e9]
     grind
   ·have hi:i=m+2:=by simp at h;omega
    subst hi
    rw [List.take_of_length_le (show y.length≤m+2 by omega),hYY,hbn]at hV
    have hxn:nth z (off+(m+2))=4294967295:=by
     rw [←awA,←gV]
     have:=congrArg (fun l=>nth l 0) hD
     simpa [gV]using this
    have UO:=bN (b:=4294967296) (by decide) ((lz4.drop off).take (m+2))
    have hV3:=pJ (b:=4294967296) (by decide) ((lz4.drop off).take (m+2))
    rw [List.length_take,Nat.min_eq_left (by simp;omega),hbn]at hV3
    have hk1:k=1:=by
     rcases hk with rfl | rfl
     ·exfalso;omega
     ·rfl
    subst hk1
    have aBZ:off+(m+2)<z.length:=by omega
    have hwc:IntKind.u32.wrap 4294967296=0:=rfl
    have hwg:IntKind.u32.wrap g=g:=wrap_u32 g0 g1
    refine eW ?_
    refine W.sr ?_
    simp (disch:=omega) [gw,bQ,a3,hxn,aBZ,hwc]
    refine bI [9] ?_
    refine W.sr ?_
    simp (disch:=omega) [gw,hwg]
    refine bI [4] ?_
    refine W.ret ?_
    refine⟨(z.drop off).set (m+2) 0,by simp [hq1],?_,rfl,by simp;omega,(lz4.drop off).set ⟨by omega,by omega⟩,?_,?_⟩
    ·have hzz:z.set (off+(m+2)) 0=zl.take off++(z.drop off).set (m+2) 0:=by
      rw [←nU,←hP,←gZ (l:=z) (i:=off+(m+2)) (x:=0) (show off≤off+(m+2)by omega),List.take_append_drop]
     rw [hzz]
     funext j
     by_cases hj:j=id
     ·subst hj;simp
     ·simp [hj,awB j hj,eC]
    ·rw [List.drop_set_of_lt (by omega),←ajo]
     have:=congrArg (List.drop 1) hD
     rw [List.drop_drop,List.drop_drop,List.drop_drop,List.drop_drop]at this
     rw [List.drop_drop,List.drop_drop]
     exact this
    ·rw [show m+3=(m+2)+1 from rfl,fL (by simp;omega),hbn,←hq2]
     omega
  ·have ajp:s/9223372036854775808=0:=by omega
   have aB1:0≤X-g*Y:=by
    rw [hXg]
    have:=Int.mul_nonneg (show 0≤bn by omega) l5
    omega
   obtain⟨hq1,hq2⟩:=U0.right hgX aB1
   refine W.sr ?_
   simp (disch:=omega) [gw,ajp]
   refine bI [0,1,5,9,129] ?_
   refine bH ?_ ?_<;>intro h
   ·have hwg:IntKind.u32.wrap g=g:=wrap_u32 g0 g1
    refine W.sr ?_
    simp (disch:=omega) [gw,hwg]
    refine bI [4] ?_
    refine W.ret ?_
    refine⟨(z.drop off).set (m+2) (s%4294967296),by simp [hq1],?_,rfl,by simp;omega,B2,ajo,?_⟩
    ·have hzz:z.set (off+(m+2)) (s%4294967296)=zl.take off++(z.drop off).set (m+2) (s%4294967296):=by
      rw [←aqi,←ajn,List.take_append_drop]
     rw [hzz]
     funext j
     by_cases hj:j=id
     ·subst hj;simp
     ·simp [hj,hro j hj,eC]
    ·rw [show m+3=(m+2)+1 from rfl,fL (by simp;omega),hbn,←hq2,hXg]
     have:s%4294967296=xc-c-β:=by omega
     rw [this]
   ·cases h
end Go.Proofs.YtiobceocpabjdaaGreat
