import Derived.Test.YtiobceocpabjdaaGreatNae
import Derived.Test.YtiobceocpabjdaaGreatNah
import Derived.Test.YtiobceocpabjdaaGreatNaj
set_option linter.unusedSimpArgs false
set_option linter.unusedVariables false
namespace Go.Proofs.YtiobceocpabjdaaGreat
open Go Pm
variable {h n s s' C:Nat}{x y:List Int}{a c:ZX}{α:Type}{l:List ZX}
theorem I5(v:Int):sz LL v<=sz 2 v:=dZ iT (Nat.lt_of_lt_of_le (kB (b:=2) aF v) (Nat.pow_le_pow_left aF _))
theorem RW(hx:Bd 2 h n x):Bd LL h n x:=⟨hx.len,fun c hc=>Nat.le_trans (I5 c) (hx.sz c hc)⟩
instance:Inhabited ZX:=⟨0⟩
abbrev BZ(h n:Nat)(a:ZX):Prop:=Bd 2 h n a.l
theorem BZ.pb(b:BZ h n a)(hh:h<1099511627775)(hn:n<1099511627775):PB a.l:=PB.of (RW b) hh hn
theorem BZ.K4{h n:Nat}{a:ZX}(b:BZ h n a)(hh:h<1099511627775)(hn:n<1099511627775):x6 (a.l.map xZ):=(b.pb hh hn).K4
theorem E1(a:ZX):pV (a.l.map xZ)=a.l:=by rw [amf];exact a.c
theorem BZ.mono{h h' n n':Nat}{a:ZX}(b:BZ h n a)(hh:h<=h')(hn:n<=n'):BZ h' n' a:=Bd.mono b hh hn
theorem BZ.nf(b:BZ h n a):BZ h n (nf a):=ah7 b
theorem BZ.N(b:BZ h n a):ZX.N a<=n:=Bd.len b
theorem aip(b:BZ h n a)(hh:h<1099511627774)(hn:n<1099511627774)(k:Nat)(hk:k+1<a.l.length):aC 164 [aB (k:Int), .rd [Po a.l]] (I (nth a.l (k+1)*((k+1:Nat):Int))):=by
 have hlen:=b.len
 have hz:=(RW b).nth (k+1)
 have o1:=H7 ((k+1:Nat):Int) aA aA
 have hk1:Sz ((k+1:Nat):Int):=Nat.lt_of_le_of_lt (dZ (k:=2) iT (by rw [Int.natAbs_natCast];show k+1<4294967296^2;omega)) aF
 have m1:=BH (x:=nth a.l (k+1)) (y:=((k+1:Nat):Int)) (by show Pm.sz LL _<_;omega) hk1
 have e:((k:Int)+1).toNat=k+1:=aA
 rw [Int.natCast_add,Int.natCast_one]at o1 m1
 apply cG [(0,aB (k:Int)),(1, .rd [Po a.l])] Tryz.func164
 generalize a.l=x at *
 apply kR [0,1,3]
 simp (disch:=omega) [gw,e]
 apply jW o1
 apply jW m1
 exact pJ [3]
theorem tX(b:BZ h n a)(hh:h<1099511627774)(hn:n<1099511627774):aC 85 [Po a.l] (Po (ZX.cD a).l):=by
 have hlen:=b.len
 have hc:=fun k hk=>aip b hh hn k hk
 have hE:=vZ 164 rfl [.rd [Po a.l]] rfl (a.l.length-1) aA (fun k=>nth a.l (k+1)*((k+1:Nat):Int)) (fun k hk=>hc k aA)
 have e0:aZ ((List.range (a.l.length-1)).map fun k=>nth a.l (k+1)*((k+1:Nat):Int))=(ZX.cD a).l:=rfl
 rw [e0]at hE
 generalize (ZX.cD a).l=d at *
 generalize a.l=x at *
 have e1:(if (1:Int)<(x.length:Int)then(x.length:Int)-1 else 0)=((x.length-1:Nat):Int):=by split<;>omega
 apply cG [(0,Po x)] Tryz.func85
 apply aQ [1]
 apply W.sr
 simp (disch:=omega) [gw,e1]
 apply jW hE
 exact pJ [2]
theorem ZF{g:α->List PV}{l:List α}{c:Int}{d:List Int}(h1:aC 137 [aJ g l] (.dK [I c,Po d])):aC 140 [aJ g l] (Po d):=by
 apply cG [(0,aJ g l)] Tryz.func140
 apply gJ [0] h1 [4]
 exact eY [2]
theorem pY(b:BZ h n a)(hh:h<1099511627774)(hn:n<1099511627774):aC 140 [Po a.l] (Po (nf a).l):=by
 have h1:=yR (a.l.map xZ) (b.K4 aA aA) (s:=h) (n:=n) (by rw [cZ];exact RW b) hh hn
 rw [E1,<-lM]at h1
 exact ZF h1
theorem abU{h':Nat}(b:BZ h n a)(b':BZ h' n c)(ha:Nf a)(hc:Nf c)(hd:ZX.dv c a)(hB:h+n*(h'+n+1)+h'+n+n+10<1099511627774):aC 141 [Po a.l,Po c.l] (Po (qz a c).l):=by
 have h0:¬c.l = []:=x7 hc.ne
 have h1:=ad3 (a.l.map xZ) (c.l.map xZ) (b.K4 aA aA) (b'.K4 aA aA) (s:=h) (s':=h') (N:=n) (by rw [cZ];exact RW b) (by rw [cZ];exact RW b') hB
 rw [E1,E1,if_neg h0,aij ha hc hd,<-lM,<-lM,exR]at h1
 generalize (qz a c).l=d at *
 generalize a.l=x at *
 generalize c.l=y at *
 apply cG [(0,Po x),(1,Po y)] Tryz.func141
 apply gJ [0,1] h1 [5]
 exact eY [4]
def rs(a c:ZX):ZX:=⟨UK a.l c.l,asF _ _⟩
theorem I6(cx:Cn x)(hx:x ≠ []):(mS x).map (· * (bX x:Int))=x:=by
 have hg:=dB cx hx
 have h1:=F3 (g:=(bX x:Int)) (fun c hc=>kF x c hc)
 have h2:Cn (x.map (tT (bX x))):=by
  have h3:x.map (tT (bX x))=aZ (x.map (tT (bX x))):=by
   refine(List.map_inj_right (f:=fun v:Int=>v*(bX x:Int)) (fun u v e=>Int.eq_of_mul_eq_mul_right aA e)).1 ?_
   rw [h1]
   refine Cn.ext cx (oC (Cn.cut _) aA) fun t=>?_
   rw [fB,dU,<-fB,h1]
  exact h3.symm
 rw [mS,show aZ (x.map (tT (bX x)))=_ from h2,h1]
theorem amu(hc:c≠0):∃(m k:Int) (q:ZX),m≠0∧k≠0∧ZX.K m*a=q*c+ZX.K k*rs a c:=by
 have h0:=ZX.aH.1 hc
 obtain⟨c1,c2⟩:=HY (b:=c.l) a.c
 have hm:lead c.l^mA a.l c.l≠0:=Int.pow_ne_zero (dO c.c h0)
 have U6:=ahR (lead c.l) (mA a.l c.l)
 have hr:=ahS (b:=c.l) a.c
 have hV:=fun t=>ag9 t a.l c.l
 have hg:sg (lead c.l) (mA a.l c.l)≠0:=fun h=>by rw [h]at U6;simp at U6
 generalize sg (lead c.l) (mA a.l c.l)=g at *
 generalize lead c.l^mA a.l c.l=m at *
 have hl:(rs a c).l=mS (bJ (EL a.l c.l).2 g):=hr
 generalize rs a c=R at *
 generalize (EL a.l c.l).1=q at *
 generalize (EL a.l c.l).2=r at *
 have GY:Cn (bJ r g):=Cn.bJ _ _
 by_cases hz:bJ r g = []
 ·refine⟨m,1,⟨q,c1⟩,hm,aF,ZX.ext fun t=>?_⟩
  rw [hz]at hl
  have h1:V t R.l=0:=by rw [hl];rfl
  have h2:V t r=0:=by
   have h3:V t (bJ r g)=0:=by rw [hz];rfl
   rw [dA]at h3
   rcases Int.mul_eq_zero.1 h3 with h4 | h4
   ·exact h4
   ·exact absurd h4 hg
  rw [ZX.fC,ZX.AH,ZX.pG,ZX.fC,ZX.fC,ZX.AH,h1]
  have:=hV t
  rw [h2]at this
  show m*V t a.l=V t q*V t c.l+1*0
  omega
 ·have hgp:=dB GY hz
  refine⟨m,g*(bX (bJ r g):Int),⟨q,c1⟩,hm,Int.mul_ne_zero hg aA,ZX.ext fun t=>?_⟩
  have h1:=I6 GY hz
  have h2:V t (bJ r g)=V t R.l*(bX (bJ r g):Int):=by
   rw [hl,<-fB,h1]
  rw [dA]at h2
  rw [ZX.fC,ZX.AH,ZX.pG,ZX.fC,ZX.fC,ZX.AH]
  have:=hV t
  show m*V t a.l=V t q*V t c.l+g*(bX (bJ r g):Int)*V t R.l
  rw [<-this]
  have h3:V t r=g*(V t r*g):=by
   have:g*(V t r*g)=V t r*(g*g):=aT
   rw [this,U6];omega
  rw [h3,h2];grind
theorem azg(hc:c≠0):ZX.N (rs a c)<ZX.N c:=amg (ZX.aH.1 hc)
theorem lR(hx:Bd 2 s n x):Bd 2 s n (mS x):=Bd.cut ⟨by simpa using hx.len,fun c hc=>by
 simp only [List.mem_map]at hc
 obtain⟨v,hv,rfl⟩:=hc
 refine Nat.le_trans (dN aF ?_) (hx.sz v hv)
 unfold tT
 split
 ·exact Int.natAbs_ediv_le_natAbs _ _
 ·simp⟩
theorem azh(ha:BZ s n a)(hb:BZ s' n c)(hc:c≠0):BZ (s+(ZX.N a+1-ZX.N c)*(s'+n+1)) n (rs a c):=by
 have h0:=ZX.aH.1 hc
 have hl:=azg (a:=a) hc
 have hk:mA a.l c.l<=n:=by
  have h1:=ha.N
  have h2:mA a.l c.l=ZX.N a+1-ZX.N c:=rfl
  omega
 obtain⟨_,h2⟩:=ag8 (B:=2) aF hb (mA a.l c.l) s [] a.l hk ⟨aG,fun c hc=>by cases hc⟩ (ha.mono (Nat.le_refl _) aA)
 have h3:Bd 2 (s+mA a.l c.l*(s'+n+1)) (n+n) (UK a.l c.l):=by
  unfold UK
  split
  ·exact lR (Bd.jP h2)
  ·exact lR h2
 have h4:=hb.N
 have h5:ZX.N (rs a c)=(UK a.l c.l).length:=rfl
 exact⟨by show(UK a.l c.l).length<=n;omega,fun d hd=>h3.sz d hd⟩
theorem aiq{d:Nat}(h:1<=d):d+2<=4^d:=by
 obtain⟨k,rfl⟩:∃k,d=k+1:=⟨d-1,aA⟩
 clear h
 induction k with
 | zero=>decide
 | succ k ih=>rw [Nat.pow_succ];omega
def E2(C n s:Nat)(a c:ZX):Prop:=if ZX.N c<ZX.N a then(s+n+1)*4^ZX.N a<=C else(s+n+1)*2*4^ZX.N c<=C
theorem E2.le(h:E2 C n s a c):s+n+1<=C:=by
 unfold E2 at h
 split at h
 ·exact Nat.le_trans (Nat.le_mul_of_pos_right _ (Nat.pow_pos aF)) h
 ·refine Nat.le_trans ?_ h
  rw [Nat.mul_assoc]
  exact Nat.le_mul_of_pos_right _ (Nat.mul_pos aF (Nat.pow_pos aF))
theorem E2.step{r:ZX}(h:E2 C n s a c)(hr:ZX.N r<ZX.N c):E2 C n (s+(ZX.N a+1-ZX.N c)*(s+n+1)) c r:=by
 unfold E2 at h |-
 rw [if_pos hr]
 generalize hT:s+n+1=T at *
 have e:s+(ZX.N a+1-ZX.N c)*T+n+1=(ZX.N a+1-ZX.N c+1)*T:=by
  rw [Nat.add_mul,Nat.one_mul];omega
 rw [e]
 split at h
 ·rename_i h1
  obtain⟨d,hd⟩:∃d,ZX.N a=ZX.N c+d:=⟨ZX.N a-ZX.N c,aA⟩
  have h2:=aiq (d:=d) aA
  rw [hd,Nat.pow_add]at h
  have h3:(ZX.N a+1-ZX.N c+1)*T<=4^d*T:=Nat.mul_le_mul_right _ aA
  refine Nat.le_trans (Nat.mul_le_mul_right _ h3) ?_
  have:4^d*T*4^ZX.N c=T*(4^ZX.N c*4^d):=aT
  omega
 ·rename_i h1
  refine Nat.le_trans (Nat.mul_le_mul_right _ (Nat.mul_le_mul_right T (show ZX.N a+1-ZX.N c+1<=2 by omega))) ?_
  rw [Nat.mul_comm 2 T];exact h
theorem air(b:BZ s n a)(b':BZ s n c)(hP:E2 C n s (nf a) (nf c))(hB:(n+1)*C<=99000000000):aC 142 [Po a.l,Po c.l] (Po (gz a c).l):=by
 have hC:C<=99000000000:=Nat.le_trans (Nat.le_mul_of_pos_left C aA) hB
 rw [Nat.succ_mul]at hB
 have hs:=hP.le
 have p1:=pY b aA aA
 have p2:=pY b' aA aA
 have b1:=b.nf
 have b2:=b'.nf
 have hg:gz (nf a) (nf c)=gz a c:=by rw [abQ,ZE]
 rw [<-hg]
 generalize sB:nf a=x0 at *
 generalize YL:nf c=y0 at *
 generalize hG:gz x0 y0=G at *
 apply cG [(0,Po a.l),(1,Po c.l)] Tryz.func142
 generalize a.l=al at *
 generalize c.l=cl at *
 apply aQ [0,1]
 apply n7 p1 p2
 apply bT [0,1]
 apply (nC)
 refine W.bB (fun k σ=>∃(x y:ZX) (s:Nat),bF σ [(0,Po x.l),(1,Po y.l)] fun rows clk=>BZ s n x∧BZ s n y∧E2 C n s x y∧gz x y=G∧k=ZX.N y) (ZX.N y0) ?_ ?_
 ·exact⟨_, .refl,x0,y0,s,_,_,rfl,b1,b2,hP,hG,rfl⟩
 rintro k _ ⟨x,y,s,rows,clk,rfl,bx,xM,hp,hgz,rfl⟩
 have hs:=hp.le
 have hlx:=bx.len
 have hly:=xM.len
 apply cQ [0,1,13]
 refine W.cond ⟨_,rfl,fun h=>?_,fun h=>?_⟩
 ·have hy:y≠0:=ZX.aH.2 (by show 0<y.l.length;simp at h;omega)
  obtain⟨m,k,q,hm,hk,e⟩:=amu (a:=x) hy
  have hR:=UM (x.l.map xZ) (y.l.map xZ) (bx.K4 aA aA) (xM.K4 aA aA) (s:=s) (s':=s) (N:=n) (by rw [cZ];exact RW bx) (by rw [cZ];exact RW xM) (by
   have:n*(s+n+1)<=n*C:=Nat.mul_le_mul_left n hs
   omega)
  rw [E1,E1,if_neg (x7 hy),<-lM,<-lM,show UK x.l y.l=(rs x y).l from rfl]at hR
  have br:=azh bx xM hy
  have hN:=azg (a:=x) hy
  have WO:=hp.step hN
  have r5:=P9 hm hk e
  apply (uV)
  apply cK hR [1,5]
  refine W.bY fun K hK=>?_
  apply (cV)
  refine hK _ ⟨ZX.N (rs x y),_,aD _ [0,1],hN,y,rs x y,_,_,_,rfl,xM.mono aA (Nat.le_refl _),br,WO,by rw [<-r5,hgz],rfl⟩
 ·have hy:y=0:=by
   refine Classical.byContradiction fun h0=>?_
   have h1:=ZX.aH.1 h0
   have h2:ZX.N y=y.l.length:=rfl
   simp at h;rw [h2,h]at h1;simp at h1
  subst hy
  rw [xL]at hgz
  have p3:=pY bx aA aA
  rw [hgz]at p3
  apply (gK)
  exact C7 p3 [4]
theorem abV(b:BZ s n a)(b':BZ s n c)(hP:E2 C n s (nf a) (nf c))(hn:n<=20)(hC:C<=4500000000):aC 142 [Po a.l,Po c.l] (Po (gz a c).l):=
 air b b' hP (Nat.le_trans (Nat.mul_le_mul (show n+1<=21 by omega) hC) aF)
def zp(a:ZX):List PV:=[Po a.l]
@[simp] theorem aEE:zp a = [Po a.l]:=rfl
@[simp] theorem avJ:bP 1 (emap zp l)=True:=cS fun _=>rfl
@[simp] theorem aEF:emap zp l ++ [[aJ ie a.l]]=emap zp (l ++ [a]):=by simp [emap]
@[simp] theorem asS{v e:Nat}:dG (some ⟨v,e,n,emap zp l⟩)=True:=cM fun _=>rfl
theorem BZ.cD(b:BZ h n a)(hn:n<=31):BZ (h+5) n (ZX.cD a):=Bd.cut ⟨by have:=b.len;simp [ZX.DJ];omega,fun c hc=>by
 simp only [ZX.DJ,List.mem_map,List.mem_range]at hc
 obtain⟨i,hi,rfl⟩:=hc
 have:=b.len
 exact cW aF (b.nth _) (dZ (k:=5) aF (by rw [Int.natAbs_natCast];show i+1<32;omega))⟩
theorem amv(b:BZ h n a)(hn:n<1099511627776):aC 83 [Po a.l] (aB ((ZX.N a:Int)-1)):=nM a.l (by have:=b.len;omega)
structure tY(s n:Nat)(a:ZX):Prop where
 bz:BZ s n a
 hn:n<=20
 hs:n+1<=2^s
 hC:(qb s n+n+6)*4^n<=4500000000
theorem tY.uQ(h:tY s n a):qb s n+n+6<=4500000000:=Nat.le_trans (Nat.le_mul_of_pos_right _ (Nat.pow_pos aF)) h.hC
theorem tY.dv(h:tY s n a)(ha:Nf a)(hc:Nf c)(hd:ZX.dv c a):BZ (qb s n) n c:=azf ha hc hd h.bz h.hs
theorem tY.nfz(h:tY s n a):tY s n (nf a):=⟨h.bz.nf,h.hn,h.hs,h.hC⟩
theorem tY.gdz(h:tY s n a)(ha:Nf a)(hc:Nf c)(hd:ZX.dv c a):aC 142 [Po c.l,Po (ZX.cD c).l] (Po (gd c).l)∧aC 85 [Po c.l] (Po (ZX.cD c).l)∧aC 141 [Po c.l,Po (gd c).l] (Po (qz c (gd c)).l):=by
 have b:=h.dv ha hc hd
 have b2:=b.cD (by have:=h.hn;omega)
 have hq:=h.uQ
 have hn:=h.hn
 have bg:=h.dv ha (abR hc.ne) ((E0 c).trans hd)
 refine⟨abV (s:=qb s n+5) (b.mono aA (Nat.le_refl _)) b2 ?_ h.hn (C:=4500000000) (Nat.le_refl _),tX b aA aA,abU b bg hc (abR hc.ne) (E0 c) (by
  have:n*(qb s n+n+1)<=20*4500000000:=Nat.mul_le_mul hn aA
  omega)⟩
 have hN:=ZX.qO c
 have h1:ZX.N c<=n:=b.N
 have h2:=ZX.aH.1 hc.ne
 unfold E2
 rw [BU,BU,if_pos aA]
 refine Nat.le_trans (Nat.mul_le_mul (show qb s n+5+n+1<=qb s n+n+6 by omega) (Nat.pow_le_pow_right aF h1)) h.hC
theorem ZG(h:tY s n a):aC 276 [Po a.l] (aJ zp ((List.range (nl (nf a))).map (wz (nf a)))):=by
 have p1:=pY h.bz (by have:=h.uQ;unfold qb at this;omega) (by have:=h.hn;omega)
 have hA:=h.nfz
 have hNf:2<=ZX.N (nf a)->Nf (nf a):=fun h2=>kG fun h0=>by rw [h0,nQ]at h2;revert h2;decide
 have hle:=M0 (nf a)
 have hbn:=hA.bz.N
 have hn:=h.hn
 generalize hAe:nf a=A at *
 apply cG [(0,Po a.l)] Tryz.func276
 apply aQ [0]
 apply cN [0,3]
 apply cK p1 [3,4]
 refine W.nil 3 3 24 1 aG aF fun K hK=>?_
 refine W.lw [3,4] hK ?_;clear hK K;simp
 apply W.block
 refine W.bB (fun k σ=>∃(i ver:Nat),bF σ [(3, .own 3 ver 0 i),(4,Po (gs A i).l)] fun rows clk=>rows 3=some ⟨ver,24,1,emap zp ((List.range i).map (wz A))⟩∧i+k=nl A) (nl A) ?_ ?_
 ·exact⟨_, .refl,0,_,_,_,rfl,by simp [emap],aA⟩
 rintro k _ ⟨i,ver,rows,clk,rfl,hr,tM⟩
 have zI:(emap zp ((List.range i).map (wz A))).length=i:=by simp [emap]
 apply W.seq
 have asT:aC 83 [Po (gs A i).l] (aB ((ZX.N (gs A i):Int)-1)):=nM (gs A i).l (by
  have h1:ZX.N (gs A i)=(gs A i).l.length:=rfl
  rcases ams (a:=A) i with h2 | h2<;>omega)
 apply cK asT [3,4,10]
 refine W.cond ⟨_,rfl,fun h3=>?_,fun h3=>?_⟩
 ·have h2:2<=ZX.N (gs A i):=by simp at h3;omega
  have hi:i<nl A:=by
   rcases Nat.lt_or_ge i (nl A)with h4 | h4
   ·exact h4
   ·have h5:=(nR A).1
    rw [show nl A=i by omega]at h5;omega
  have hA0:2<=ZX.N A:=by
   have:=(nR A).2 0 aA
   exact this
  have nA:=hNf hA0
  have ng:=qP nA i
  obtain⟨t1,t2,t3⟩:=hA.gdz nA ng (MZ A i)
  have hw:qz (gs A i) (gd (gs A i))=wz A i:=rfl
  have hs:gd (gs A i)=gs A (i+1):=rfl
  rw [hw,hs]at t3
  rw [hs]at t1
  generalize hg:(gs A i).l=g at *
  generalize r5:(gs A (i+1)).l=g2 at *
  apply (uV)
  apply n7 t2 t1
  apply bT [3,4,5]
  apply nB t3
  apply HS hr zI [3,5]
  refine W.bY (fun K hK=>?_);simp (disch:=omega) [gw]
  subst r5
  refine hK _ ⟨k-1,_,aD _ [3,4],aA,i+1,_,_,_,rfl,?_,aA⟩
  rw [List.range_succ,List.map_append]
  simp [emap,zp]
 ·have h2:ZX.N (gs A i)<=1:=by simp at h3;omega
  have hi:i=nl A:=by
   rcases Nat.lt_or_ge i (nl A)with h4 | h4
   ·have:=(nR A).2 i h4;omega
   ·omega
  rw [hi]at hr
  have CQ:List.take (nl A) (List.map (wz A) (List.range (nl A)))=List.map (wz A) (List.range (nl A)):=List.take_of_length_le aG
  apply (jV)
  rw [hi]
  apply HS hr CQ [2]
  apply W.ret
  simp [go,hr,CQ]
theorem U7(hA:tY s n a)(na:Nf a)(k:Nat):BZ (qb s n) n (wz a k):=hA.dv na (iZ na k).1 (F5 na k)
theorem gR(f:Nat->ZX){m i:Nat}(h:i<m):nth ((List.range m).map f) i=f i:=by
 rw [bZ (by simpa using h)];simp
theorem azi(h:0<nl (nf a)):Nf (nf a):=by
 have h1:=(nR (nf a)).2 0 h
 exact kG fun h0=>by
  rw [h0,nQ]at h1
  have h2:ZX.N (gs 0 0)=0:=aF
  omega
theorem U8(h:tY s n a):aC 273 [Po a.l] (aJ zp (fl (nf a))):=by
 have hL:=ZG h
 have hA:=h.nfz
 have hNf:=azi (a:=a)
 have hle:=M0 (nf a)
 have hbn:=hA.bz.N
 have hn:=h.hn
 have hqb:=h.uQ
 generalize hAe:nf a=A at *
 have D8:((List.range (nl A)).map (wz A)).length=nl A:=aG
 have hq:∀i,i+1<nl A->aC 141 [Po (nth ((List.range (nl A)).map (wz A)) i).l,Po (nth ((List.range (nl A)).map (wz A)) (i+1)).l] (Po (oZ A i).l):=fun i hi=>by
  have nA:=hNf aA
  rw [gR _ aA,gR _ hi]
  exact abU (U7 hA nA i) (U7 hA nA (i+1)) (iZ nA i).1 (iZ nA (i+1)).1 (U3 nA i) (by
   have:n*(qb s n+n+1)<=20*4500000000:=Nat.mul_le_mul hn aA
   omega)
 have uR:∀i,i+1=nl A->nth ((List.range (nl A)).map (wz A)) i=oZ A i:=fun i hi=>by
  rw [gR _ aA,amt (hNf aA) hi]
 generalize hM:(List.range (nl A)).map (wz A)=M at *
 obtain⟨m,hm⟩:∃m,m=nl A:=⟨_,rfl⟩
 have LR:(fl A)=(List.range m).map (oZ A):=by rw [hm];rfl
 rw [LR]
 rw [<-hm]at D8 hq uR hle
 apply cG [(0,Po a.l)] Tryz.func273
 apply gJ [0] hL [3]
 apply fJ D8 [3,4]
 apply W.seq
 apply fJ D8 [3,4,12,13,14]
 apply W.block
 refine W.bB (fun k σ=>∃(i ver:Nat) (els:List (List PV)) (rows:Pm.Rows) (clk:Nat),σ=⟨fa [(3,aJ zp M),(4, .own 11 ver 0 m),(12,aJ zp M),(13,aB m),(14,aB i)],rows,clk⟩ ∧
  rows 11=some ⟨ver,24,1,els⟩∧els.length=m∧(∀e∈els,e.length=1)∧els.take i=emap zp ((List.range i).map (oZ A))∧i+k=m) m ?_ ?_
 ·exact⟨_, .refl,0,_,List.replicate m [.nil],_,_,rfl,aG,aG,aG,by simp [emap],aA⟩
 rintro k _ ⟨i,ver,els,rows,clk,rfl,hr,pS,WH,uY,tM⟩
 apply cN [3,4,12,13,14,15]
 refine W.cond ⟨_,rfl,fun h3=>?_,fun h3=>?_⟩
 ·have hi:i<m:=by simp at h3;omega
  clear h3
  have hiM:i<M.length:=aA
  have zI:i<els.length:=aA
  have hE:∀e:List (List PV),e.length=m->(∀x∈e,x.length=1)->yO e i 1=True:=fun e h1 h2=>by
   simp only [eq_iff_iff,iff_true]
   exact⟨e[i]'(by omega),List.getElem?_eq_getElem aA,by rw [h2 _ (List.getElem_mem _)];omega⟩
  have hS:∀(e:List (List PV)) (v:PV),e.length=m->(∀x∈e,x.length=1)->iP e i 0 [v]=e.set i [v]:=fun e v h1 h2=>by
   have h4:=h2 _ (List.getElem_mem (show i<e.length by omega))
   rw [iP,List.getElem?_eq_getElem aA]
   simp [List.drop_of_length_le,h4]
  have h1E:=hE els pS WH
  have h1S:=hS els (Po (nth M i).l) pS WH
  have afG:(els.set i [Po (nth M i).l]).length=m:=by simpa using pS
  have I7:∀e∈els.set i [Po (nth M i).l],e.length=1:=fun e he=>by
   rcases List.mem_or_eq_of_mem_set he with h4 | h4
   ·exact WH e h4
   ·rw [h4];rfl
  have azj:(els.set i [Po (nth M i).l]).take i=emap zp ((List.range i).map (oZ A)):=by rw [jI (Nat.le_refl i)];exact uY
  have h2E:=hE _ afG I7
  have h2S:=hS (els.set i [Po (nth M i).l]) (Po (oZ A i).l) afG I7
  have fin:∀(e:List (List PV)),e.length=m->(∀x∈e,x.length=1)->e.take i=emap zp ((List.range i).map (oZ A))->(e.set i [Po (oZ A i).l]).take (i+1)=emap zp ((List.range (i+1)).map (oZ A)):=fun e h1 h2 h4=>by
   rw [oT h4 aA,List.range_succ,List.map_append]
   simp [emap,zp]
  apply W.skip
  refine W.dS (fun σ=>∃(els:List (List PV)) (rows:Pm.Rows) (clk:Nat),σ=⟨fa [(3,aJ zp M),(4, .own 11 ver 0 m),(12,aJ zp M),(13,aB m),(14,aB i)],rows,clk⟩ ∧
   rows 11=some ⟨ver,24,1,els⟩∧els.length=m∧(∀e∈els,e.length=1)∧els.take (i+1)=emap zp ((List.range (i+1)).map (oZ A))) ?_ ?_
  ·apply aQ [3,4,5,6,12,13,14]
   apply W.sr
   simp (disch:=omega) [gw,hr,h1E,h1S]
   apply cO [3,4,5,6,12,13,14]
   apply fJ D8 [3,4,5,6,12,13,14,27]
   refine W.cond ⟨_,rfl,fun h3=>?_,fun h3=>?_⟩
   ·have WZ:i+1<m:=by simp at h3;omega
    have aEG:i+1<M.length:=aA
    have e1:((i:Int)+1).toNat=i+1:=aA
    refine W.bY fun K hK=>?_
    simp (disch:=omega) [gw,e1,aEG]
    apply j9 (hq i WZ)
    simp (disch:=omega) [gw,h2E,h2S]
    exact hK _ ⟨_,aD _ [3,4,12,13,14],_,_,_,rfl,aG,by simpa using pS,fun e he=>by
     rcases List.mem_or_eq_of_mem_set he with h4 | h4
     ·exact I7 e h4
     ·rw [h4];rfl,fin _ afG I7 azj⟩
   ·have WZ:i+1=m:=by simp at h3;omega
    apply W.skip
    refine⟨_,aD _ [3,4,12,13,14],_,_,_,rfl,aG,afG,I7,?_⟩
    have h4:=fin els pS WH uY
    rw [<-uR i WZ]at h4
    rw [h4]
  rintro _ ⟨els,rows,clk,rfl,hr,pS,WH,uY⟩
  refine W.bY (fun K hK=>?_);simp (disch:=omega) [gw]
  refine hK _ ⟨k-1,_,aD _ [3,4,12,13,14],aA,i+1,_,_,_,_,rfl,hr,pS,WH,uY,aA⟩
 ·have hi:i=m:=by simp at h3;omega
  subst hi
  rw [bW pS]at uY
  subst uY
  have CQ:List.take i (List.map (oZ A) (List.range i))=List.map (oZ A) (List.range i):=List.take_of_length_le aG
  apply (jV)
  apply HS hr CQ [2]
  apply W.ret
  simp [go,hr,CQ]
noncomputable def I8(L:List ZX):ZX:=L.foldl gz 0
theorem amx(L:List ZX)(hL:L.length<1099511627776)(h2:∀i,i<L.length->aC 142 [Po (I8 (L.take i)).l,Po (nth L i).l] (Po (I8 (L.take (i+1))).l)):aC 194 [aJ zp L] (Po (I8 L).l):=by
 apply cG [(0,aJ zp L)] Tryz.func194
 apply fK [0] [0,3]
 refine W.TF 3 (Po (I8 (L.take 0)).l) aG rfl fun K hK=>?_
 refine W.lw [0,3] hK ?_;clear hK K;simp
 apply eE [3,6,7,8]
 refine W.bB (fun k σ=>∃(i:Nat),bF σ [(3,Po (I8 (L.take i)).l),(6,aJ zp L),(7,aB L.length),(8,aB i)] fun rows clk=>i+k=L.length) L.length ?_ ?_
 ·exact⟨_, .refl,0,_,_,by simp;exact⟨rfl,rfl⟩,aA⟩
 rintro k _ ⟨i,rows,clk,rfl,tM⟩
 apply cN [3,6,7,8,9]
 refine W.cond ⟨_,rfl,fun h=>?_,fun h=>?_⟩
 ·have hi:i<L.length:=by simp at h;omega
  have ht:=h2 i hi
  generalize r5:I8 (L.take (i+1))=g2 at *
  generalize I8 (L.take i)=g at *
  apply oR [3,5,6,7,8]
  refine W.bY fun K hK=>?_
  apply o9 ht
  refine W.lw [3,6,7,8] hK ?_;clear hK K;simp
  refine W.bY (fun K hK=>?_);simp (disch:=omega) [gw]
  subst r5
  refine hK _ ⟨k-1,_,aD _ [3,6,7,8],aA,i+1,_,_,rfl,aA⟩
 ·have hi:i=L.length:=by simp at h;omega
  subst hi
  rw [List.take_length]
  exact uW [2]
theorem ait:aC 11 [.sl [[aB 1]]] (Po (1:ZX).l):=by
 have:=alN [1] aF aF
 exact this
noncomputable def sq(a:ZX):ZX:=if ZX.N a<=1 then nf a else sz' (nf a)
theorem U9{g:α->List PV}{l:List α}(h:tY s n a)(p1:aC 140 [aJ g l] (Po (nf a).l)):aC 70 [aJ g l] (Po (sq a).l):=by
 have hqb:=h.uQ
 have hn:=h.hn
 have hA:=h.nfz
 have asT:=amv hA.bz aA
 have hsq:sq a=if ZX.N (nf a)<=1 then nf a else sz' (nf a):=by rw [BU];rfl
 have nA:2<=ZX.N (nf a)->Nf (nf a):=fun h2=>kG fun h0=>by rw [h0,nQ]at h2;revert h2;decide
 rw [hsq]
 generalize nf a=A at *
 apply cG [(0,aJ g l)] Tryz.func70
 apply gJ [0] p1 [0]
 apply W.seq
 apply cK asT [0,7]
 refine W.cond ⟨_,rfl,fun h3=>?_,fun h3=>?_⟩
 ·have h2:ZX.N A<=1:=by simp at h3;omega
  rw [if_pos h2]
  exact eY [2]
 ·have h2:2<=ZX.N A:=by simp at h3;omega
  obtain⟨t1,t2,t3⟩:=hA.gdz (nA h2) (nA h2) (ZX.dv.refl A)
  rw [if_neg aA,show sz' A=qz A (gd A)from rfl]
  generalize (gd A).l=g1 at *
  apply W.skip
  apply nB t2
  apply fV t1 t3
  exact gI [2]
theorem zN(h:tY s n a):aC 70 [Po a.l] (Po (sq a).l):=by
 have hqb:=h.uQ
 have hn:=h.hn
 exact U9 h (pY h.bz (by unfold qb at hqb;omega) aA)
theorem amy(h:tY s n a)(h0:a≠0):aC 265 [Po a.l] (Po (oz (nf a)).l):=by
 have hqb:=h.uQ
 have hn:=h.hn
 have sX:s<1099511627774:=by unfold qb at hqb;omega
 have p1:=pY h.bz sX aA
 have hA:=h.nfz
 have nA:=kG h0
 have hF:=U8 hA
 rw [UZ]at hF
 have hle:=M0 (nf a)
 have hNA:ZX.N (nf a)<=n:=hA.bz.N
 have o7:(nf a).l.length≠0:=fun h1=>by have h2:=ZX.aH.1 nA.ne;have h3:ZX.N (nf a)=(nf a).l.length:=rfl;omega
 generalize nf a=A at *
 have hmul:∀i,aC 15 [Po (pf A (fun k=>k%2==0) i).l,Po (oZ A i).l] (Po (pf A (fun k=>k%2==0) i*oZ A i).l):=fun i=>by
  have b1:=hA.dv nA (BW nA (fun k=>k%2==0) i) (F6 nA _ i)
  have b2:=hA.dv nA (BV nA i).1 (QB nA i)
  exact DF (RW b1) (RW b2) aA
 obtain⟨m,hm⟩:∃m,m=nl A:=⟨_,rfl⟩
 have hoz:oz A=pf A (fun k=>k%2==0) m:=by rw [hm];rfl
 have LR:fl A=(List.range m).map (oZ A):=by rw [hm];rfl
 rw [hoz]
 rw [LR]at hF
 have D8:((List.range m).map (oZ A)).length=m:=aG
 have zO:∀i,i<m->nth ((List.range m).map (oZ A)) i=oZ A i:=fun i hi=>gR _ hi
 generalize (List.range m).map (oZ A)=L at *
 have h1:=ait
 rw [show(1:ZX)=pf A (fun k=>k%2==0) 0 from rfl]at h1
 generalize hg:pf A (fun k=>k%2==0) 0=g0 at *
 apply cG [(0,Po a.l)] Tryz.func265
 apply gJ [0] p1 [0]
 apply cQ [0,10]
 refine W.cond ⟨_,rfl,fun h3=>?_,fun h3=>?_⟩
 ·simp at h3;exact absurd (by rw [h3];rfl) o7
 clear h3
 apply W.skip
 apply cK h1 [0,3]
 apply W.seq
 apply nB hF
 apply sS D8 [3,14,15,16]
 subst hg
 apply W.block
 refine W.bB (fun k σ=>∃(i:Nat),bF σ [(3,Po (pf A (fun k=>k%2==0) i).l),(14,aJ zp L),(15,aB m),(16,aB i)] fun rows clk=>i+k=m) m ?_ ?_
 ·exact⟨_, .refl,0,_,_,rfl,aA⟩
 rintro k _ ⟨i,rows,clk,rfl,tM⟩
 apply cN [3,14,15,16,17]
 refine W.cond ⟨_,rfl,fun h=>?_,fun h=>?_⟩
 ·have hi:i<m:=by simp at h;omega
  have hiL:i<L.length:=aA
  have ht:=hmul i
  have rB:=zO i hi
  have hpf:pf A (fun k=>k%2==0) (i+1)=if i%2==0 then pf A (fun k=>k%2==0) i*oZ A i else pf A (fun k=>k%2==0) i:=rfl
  generalize r5:pf A (fun k=>k%2==0) (i+1)=g2 at *
  generalize pf A (fun k=>k%2==0) i=g at *
  have e2:((i:Int)%2==0)=(i%2==0):=by rw [Bool.eq_iff_iff,beq_iff_eq,beq_iff_eq];omega
  apply W.skip
  refine W.dS (fun σ=>∃(rows:Pm.Rows) (clk:Nat),σ=⟨fa [(3,Po g2.l),(14,aJ zp L),(15,aB m),(16,aB i)],rows,clk⟩) ?_ ?_
  ·apply fJ rB [3,4,5,14,15,16]
   apply W.sr
   simp (disch:=omega) [gw,e2]
   apply cO [3,5,14,15,16,23]
   refine W.cond ⟨_,rfl,fun h=>?_,fun h=>?_⟩
   ·rw [h,if_pos rfl]at hpf
    rw [hpf]
    refine W.bY fun K hK=>?_
    apply o9 ht
    exact hK _ ⟨_,aD _ [3,14,15,16],_,_,rfl⟩
   ·rw [h,if_neg aF]at hpf
    rw [hpf]
    apply W.skip
    exact⟨_,aD _ [3,14,15,16],_,_,rfl⟩
  rintro _ ⟨rows,clk,rfl⟩
  subst r5
  refine W.bY (fun K hK=>?_);simp (disch:=omega) [gw]
  refine hK _ ⟨k-1,_,aD _ [3,14,15,16],aA,i+1,_,_,rfl,aA⟩
 ·have hi:i=m:=by simp at h;omega
  subst hi
  exact uW [2]
@[simp] theorem aee:([]:List Int).length=0:=rfl
theorem BZ.yy(b:BZ h n a)(hh:h<=YY)(hn:n<=1099511627775):Bd 2 YY 1099511627775 a.l:=Bd.mono b hh hn
theorem oG(b:BZ h n a)(h1:1<=h)(hh:h<=YY)(hn:n<1099511627776):aC 78 [PI a.l] (PI (nf a).l):=by
 have hP:=IZ a.l b a.c h1 hh hn
 have e:wE a.l=(nf a).l:=rfl
 rw [e]at hP
 generalize oE a.l=c at *
 generalize (nf a).l=d at *
 generalize a.l=x at *
 apply cG [(0,PI x)] Tryz.func78
 apply gJ [0] hP [4]
 exact eY [2]
theorem tZ(b:BZ h n a)(hh:h<=YY)(hn:n<=1000):aC 160 [PI a.l] (PI (ZX.cD a).l):=by
 have hlen:=b.len
 have e0:(ZX.cD a).l=aZ ((List.range (a.l.length-1)).map fun k=>nth a.l (k+1)*((k:Int)+1)):=rfl
 rw [e0]
 have hz:=fun k=>b.nth k
 generalize a.l=x at *
 generalize hm:x.length-1=m at *
 refine dJ (E:=env) (fun id=>if id=5 then 2 else 0) [(0,PI x)] Tryz.func160 rfl cT cT (show 1<=23 by decide) aG ?_
 apply fK [0] [0,3]
 refine W.nil 3 3 31 4 aG aF fun K hK=>?_
 refine W.lw [0,3] hK ?_;clear hK K;simp
 apply eE [0,3,4]
 refine W.bB (fun k σ=>∃(i ver:Nat),bF σ [(0,PI x),(3, .own 3 ver 0 i),(4,aB ((i:Int)+1))] fun rows clk =>
  rows 3=some ⟨ver,31,4,emap ri ((List.range i).map fun k=>nth x (k+1)*((k:Int)+1))⟩∧i+k=m) m ?_ ?_
 ·exact⟨_, .refl,0,_,_,_,rfl,by simp [emap],aA⟩
 rintro k _ ⟨i,ver,rows,clk,rfl,hr,tM⟩
 have zI:(emap ri ((List.range i).map fun k=>nth x (k+1)*((k:Int)+1))).length=i:=by simp [emap]
 apply cQ [0,3,4,8]
 refine W.cond ⟨_,rfl,fun h=>?_,fun h=>?_⟩
 ·have hi:i+1<x.length:=by simp at h;omega
  have o1:=T3 ((i:Int)+1) aA
  have hzi:=hz (i+1)
  have m1:=MO (nth x (i+1)) ((i:Int)+1) (Nat.le_trans hzi hh) (Nat.le_trans (dZ (k:=10) aF (by show((i:Int)+1).natAbs<1024;omega)) aF)
  have e1:((i:Int)+1).toNat=i+1:=aA
  have er:(List.range (i+1)).map (fun k=>nth x (k+1)*((k:Int)+1))=(List.range i).map (fun k=>nth x (k+1)*((k:Int)+1)) ++ [nth x (i+1)*((i:Int)+1)]:=by
   rw [List.range_succ,List.map_append];simp
  have aEJ:((List.range i).map fun k=>nth x (k+1)*((k:Int)+1)).length=i:=aG
  generalize (List.range i).map (fun k=>nth x (k+1)*((k:Int)+1))=acc at *
  generalize hq:nth x (i+1)*((i:Int)+1)=q at *
  apply (iE)
  refine W.K1 fun K hK=>?_
  rw [if_pos rfl,gO]
  simp (disch:=omega) [gw,e1]
  apply jW o1
  apply j9 m1
  apply j1 hr aEJ
  refine W.lw [0,3,4] hK ?_;clear hK K;simp
  refine W.bY (fun K hK=>?_);simp (disch:=omega) [gw]
  refine hK _ ⟨k-1,_,aD _ [0,3,4],aA,i+1,_,_,_,by rw [Int.natCast_add];rfl,by rw [er];simp,aA⟩
 ·have hi:i=m:=by simp at h;omega
  subst hi
  have gS:((List.range i).map fun k=>nth x (k+1)*((k:Int)+1)).length=i:=aG
  generalize (List.range i).map (fun k=>nth x (k+1)*((k:Int)+1))=acc at *
  have ez:=bW gS
  apply (jV)
  simp (disch:=omega) [gw,hr,ez]
  refine bC (s5 acc aA) ?_
  exact gI [2]
theorem wL:aC 97 [.sl [[aB 1]]] (PI (1:ZX).l):=xH [1] aF aF
theorem aef{k:Nat}(hk:k<1099511627776)(h2:∀i,i<k->aC 199 [PI (a^i).l,PI a.l] (PI (a^(i+1)).l)):aC 200 [PI a.l,aB k] (PI (a^k).l):=by
 have h1:=wL
 rw [show(1:ZX)=a^0 from rfl]at h1
 apply cG [(0,PI a.l),(1,aB k)] Tryz.func200
 apply aQ [0,1]
 generalize hg:a^0=g0 at *
 apply cK h1 [0,1,5]
 apply cQ [0,1,5,6]
 subst hg
 apply W.block
 refine W.bB (fun j σ=>∃(i:Nat),bF σ [(0,PI a.l),(1,aB k),(5,PI (a^i).l),(6,aB i)] fun rows clk=>i+j=k) k ?_ ?_
 ·exact⟨_, .refl,0,_,_,rfl,aA⟩
 rintro j _ ⟨i,rows,clk,rfl,tM⟩
 apply cQ [0,1,5,6,11]
 refine W.cond ⟨_,rfl,fun h=>?_,fun h=>?_⟩
 ·have hi:i<k:=by simp at h;omega
  have ht:=h2 i hi
  generalize r5:a^(i+1)=g2 at *
  generalize a^i=g at *
  apply (iE)
  refine W.bY fun K hK=>?_
  apply o9 ht
  refine W.lw [0,1,5,6] hK ?_;clear hK K;simp
  refine W.bY (fun K hK=>?_);simp (disch:=omega) [gw]
  subst r5
  refine hK _ ⟨j-1,_,aD _ [0,1,5,6],aA,i+1,_,_,rfl,aA⟩
 ·have hi:i=k:=by simp at h;omega
  subst hi
  exact uW [4]
def CU(l:Int):Int:=if l<0 then -1 else 1
theorem amz(l:Int):CU l*l=l.natAbs:=by unfold CU;split<;>omega
def rq1(y x:List Int):List Int:=CR y (lead y).natAbs (CU (lead y)*lead x) (x.length-y.length) x
def rqF(y x:List Int)(i:Nat):Int:=nth x i*((lead y).natAbs:Int)-if x.length-y.length<=i then CU (lead y)*lead x*nth y (i-(x.length-y.length))else 0
theorem aiu(h:y.length<=x.length):aZ ((List.range x.length).map (rqF y x))=rq1 y x:=by
 refine Cn.ext (Cn.cut _) (Cn.iB _ _) fun t=>?_
 unfold rq1
 rw [dU,CR,k8,dA,eF,rM]
 obtain⟨k,hk⟩:∃k,x.length=k+y.length:=⟨x.length-y.length,aA⟩
 have e1:(List.range x.length).map (rqF y x)=(List.range x.length).map fun i=>nth x i*((lead y).natAbs:Int)+(-(if x.length-y.length<=i then CU (lead y)*lead x*nth y (i-(x.length-y.length))else 0)):=List.map_congr_left fun i _=>by unfold rqF;omega
 rw [e1,xD,jR,mK (Nat.le_refl _)]
 generalize CU (lead y)*lead x=T at *
 have e2:((List.range x.length).map fun i => -(if x.length-y.length<=i then T*nth y (i-(x.length-y.length))else 0))=List.replicate k 0++y.map fun v=>v*(-T):=by
  have hk2:x.length-y.length=k:=aA
  rw [hk2,hk,List.range_add,List.map_append,List.map_map]
  congr 1
  ·rw [List.eq_replicate_iff]
   refine⟨aG,fun v hv=>?_⟩
   simp only [List.mem_map,List.mem_range]at hv
   obtain⟨i,hi,rfl⟩:=hv
   rw [if_neg aA];rfl
  ·have h2:=sV (x:=y) (n:=y.length) (Nat.le_refl _)
   rw [Nat.sub_self,List.replicate_zero,List.append_nil]at h2
   conv=>rhs;rw [<-h2]
   rw [List.map_map]
   refine List.map_congr_left fun i _=>?_
   simp only [Function.comp_apply]
   rw [if_pos aA,Nat.add_sub_cancel_left];grind
 rw [e2,eZ,uN]
 have h3:=jR (t:=t) (-T) id y
 simp only [id_eq,List.map_id_fun]at h3
 rw [h3,List.length_replicate,show x.length-y.length=k by omega]
 grind
theorem xN(hy:0<y.length)(h:y.length<=x.length):(rq1 y x).length<x.length:=by
 have h1:=FZ (b:=y) (r:=x) (i:=x.length-y.length) hy aA
 rw [show BB y x (x.length-y.length)=lead x from by rw [BB,if_pos aA]]at h1
 have e:rq1 y x=bJ (CR y (lead y) (lead x) (x.length-y.length) x) (CU (lead y)):=Cn.ext (Cn.iB _ _) (Cn.bJ _ _) fun t=>by
  unfold rq1
  rw [dA,CR,CR,k8,k8,dA,dA,eF,eF,rM,rM,<-amz]
  grind
 rw [e]
 have:=tL (CR y (lead y) (lead x) (x.length-y.length) x) (CU (lead y))
 omega
theorem aiv(t:Int)(y x:List Int):((lead y).natAbs:Int)*V t x=t^(x.length-y.length)*(CU (lead y)*lead x)*V t y+V t (rq1 y x):=by
 unfold rq1
 rw [CR,k8,dA,eF,rM];grind
def rq(y:List Int):Nat->List Int->List Int
 | 0,x=>x
 | n+1,x=>if x.length<y.length then x else rq y n (rq1 y x)
theorem asU(h:x.length<y.length):∀n,rq y n x=x
 | 0=>rfl
 | n+1=>by rw [rq,if_pos h]
theorem abY{y:List Int}(cy:Cn y)(hy:0<y.length):∀(n:Nat) (x:List Int),Cn x->x.length<n->Cn (rq y n x)∧(rq y n x).length<y.length ∧ ∃(m:Int) (q:List Int),m≠0 ∧ ∀t,m*V t x=V t q*V t y+V t (rq y n x)
 | 0,x,_,h=>by omega
 | n+1,x,cx,h=>by
  rw [rq]
  split
  ·rename_i h1
   exact⟨cx,h1,1,[],aF,fun t=>by simp [V]⟩
  ·rename_i h1
   have hl:=xN hy (show y.length<=x.length by omega)
   obtain⟨h2,h3,m,q,hm,h4⟩:=abY cy hy n (rq1 y x) (Cn.iB _ _) aA
   have AF:=dO cy hy
   refine⟨h2,h3,m*(lead y).natAbs,kC q (bJ (uX (x.length-y.length) (CU (lead y)*lead x)) m),Int.mul_ne_zero hm aA,fun t=>?_⟩
   have h5:=aiv t y x
   have h6:=h4 t
   rw [vS,dA,rM]
   have:m*((lead y).natAbs:Int)*V t x=m*(((lead y).natAbs:Int)*V t x):=aT
   rw [this,h5]
   grind
theorem ZH{N:Nat}(xM:Bd 2 s' N y)(bx:Bd 2 s N x)(hy:0<y.length)(h:y.length<=x.length):Bd 2 (s+(s'+N+1)) N (rq1 y x):=by
 have hl:=xN hy h
 have hlx:=bx.len
 have hls:sz 2 ((lead y).natAbs:Int)<=s':=Nat.le_trans (dN aF (by rw [Int.natAbs_natCast];exact Nat.le_refl _)) (iX xM)
 have hlr:sz 2 (CU (lead y)*lead x)<=s:=Nat.le_trans (dN aF (by
  rw [Int.natAbs_mul]
  have:(CU (lead y)).natAbs=1:=by unfold CU;split<;>rfl
  rw [this,Nat.one_mul];exact Nat.le_refl _)) (iX bx)
 have b1:Bd 2 (s+s'+N) (max N (x.length-y.length+1+N)) (bJ x ((lead y).natAbs:Int)):=(bx.bJ aF hls).mono aA aA
 have b2:Bd 2 (s+s'+N) (max N (x.length-y.length+1+N)) (cB (uX (x.length-y.length) (CU (lead y)*lead x)) y):=((Bd.uX hlr (x.length-y.length)).cB aF xM).mono aA aA
 exact⟨aA,fun c hc=>by
  have h6:=(Bd.iB aF b1 b2).sz c hc
  omega⟩
theorem apk{s' N:Nat}{y:List Int}(xM:Bd 2 s' N y)(hy:0<y.length):∀(n j s:Nat) (x:List Int),Bd 2 s N x->x.length+1<=y.length+j->Bd 2 (s+j*(s'+N+1)) N (rq y n x)
 | 0,j,s,x,bx,_=>bx.mono aG (Nat.le_refl _)
 | n+1,j,s,x,bx,hj=>by
  rw [rq]
  split
  ·exact bx.mono aG (Nat.le_refl _)
  ·rename_i h1
   obtain⟨i,rfl⟩:∃i,j=i+1:=⟨j-1,aA⟩
   have hl:=xN hy (show y.length<=x.length by omega)
   have:=apk xM hy n i (s+(s'+N+1)) (rq1 y x) (ZH xM bx hy aA) aA
   rw [Nat.add_mul,Nat.one_mul]
   exact this.mono aA (Nat.le_refl _)
theorem asV(n:Nat):RI (n:Int) = .ag [aJ aI (aV DD n), .bool false]:=by
 simp [show ¬((n:Int)<0)by omega]
set_option maxHeartbeats 2000000 in
theorem M3{N:Nat}{x0:List Int}(bx0:Bd 2 s N x0)(xM:Bd 2 s' N y)(cx0:Cn x0)(cy:Cn y)(YL:0<y.length)(hN:N<=1000)(hB:s+(x0.length+1-y.length+1)*(s'+N+1)<YY) :
  aC 162 [PI x0,PI y] (PI (rq y (x0.length+1) x0)):=by
 have hlN:=bx0.len
 have hNy:=xM.len
 obtain⟨R,hR⟩:∃R,R=rq y (x0.length+1) x0:=⟨_,rfl⟩
 rw [<-hR]
 obtain⟨M,hM⟩:∃M,M=s+(x0.length+1-y.length+1)*(s'+N+1):=⟨_,rfl⟩
 rw [<-hM]at hB
 have hB:M<137438953472:=hB
 have hls:sz 2 ((lead y).natAbs:Int)<=s':=Nat.le_trans (dN aF (by rw [Int.natAbs_natCast];exact Nat.le_refl _)) (iX xM)
 have e2:((y.length:Int)-1).toNat=y.length-1:=aA
 have WN:nth y (y.length-1)=lead y:=rfl
 refine dJ (E:=env) (fun id=>if id=16 then 2 else 0) [(0,PI x0),(1,PI y)] Tryz.func162 rfl cT cT (show 2<=78 by decide) aG ?_
 apply aQ [0,1]
 apply W.sr
 simp (disch:=omega) [gw,e2,WN]
 apply cO [0,1,5]
 apply fK [0,1,5,6] [0,1,5,6]
 apply (nC)
 refine W.bB (fun n σ=>∃(x:List Int) (j u:Nat),bF σ [(0,PI x),(1,PI y),(5, .ptr 5 0 0 0),(6, .ptr 6 1 0 0)] fun rows clk =>
  rows 5=some ⟨0,29,2,[[aJ aI (aV DD (lead y).natAbs), .bool (decide (lead y<0))]]⟩∧rows 6=some ⟨1,29,2,[[aJ aI (aV DD (lead y).natAbs), .bool false]]⟩ ∧
  Cn x∧x.length<n∧rq y n x=R∧Bd 2 u N x∧x.length+1<=y.length+j∧u+(j+1)*(s'+N+1)<=M) (x0.length+1) ?_ ?_
 ·exact⟨_, .refl,x0,x0.length+1-y.length,s,_,_,rfl,aG,aG,cx0,aA,hR.symm,bx0,aA,aA⟩
 rintro n _ ⟨x,j,u,rows,clk,rfl,dX,mT,cx,hxn,hxR,bx,hj,hu⟩
 have hlx:=bx.len
 apply cQ [0,1,5,6,25]
 refine W.cond ⟨_,rfl,fun h=>?_,fun h=>?_⟩
 ·have h:y.length<=x.length:=by simp at h;omega
  obtain⟨n,rfl⟩:∃m,n=m+1:=⟨n-1,aA⟩
  rw [rq,if_neg aA]at hxR
  have J9:=xN YL h
  obtain⟨k,hk⟩:∃k,k=x.length-y.length:=⟨_,rfl⟩
  have hkI:(x.length:Int)-(y.length:Int)=k:=aA
  have e1:((x.length:Int)-1).toNat=x.length-1:=aA
  have hxl:nth x (x.length-1)=lead x:=rfl
  have azk:=aiu h
  have b2:=ZH xM bx YL h
  have hlX:sz 2 (lead x)<=u:=iX bx
  have hu1:u+(s'+N+1)<=M:=by
   have:=Nat.le_mul_of_pos_left (s'+N+1) (show 0<j+1 by omega)
   omega
  apply (uV)
  apply fJ hkI [0,1,5,6,7]
  apply W.sr
  simp (disch:=omega) [gw,e1,hxl]
  apply cO [0,1,5,6,7,8]
  obtain⟨T,hT⟩:∃T,T=CU (lead y)*lead x:=⟨_,rfl⟩
  have hTs:sz 2 T<=u:=Nat.le_trans (dN aF (by
   rw [hT,Int.natAbs_mul]
   have:(CU (lead y)).natAbs=1:=by unfold CU;split<;>rfl
   rw [this,Nat.one_mul];exact Nat.le_refl _)) hlX
  have hTp:(lead y<0->T = -lead x)∧(¬lead y<0->T=lead x):=by
   rw [hT];unfold CU
   constructor
   ·intro h;rw [if_pos h];omega
   ·intro h;rw [if_neg h];omega
  refine W.iS (fun σ=>∃(v:Nat),bF σ [(0,PI x),(1,PI y),(5, .ptr 5 0 0 0),(6, .ptr 6 1 0 0),(7,aB k),(8, .ptr 8 v 0 0)] fun rows clk =>
   rows 5=some ⟨0,29,2,[[aJ aI (aV DD (lead y).natAbs), .bool (decide (lead y<0))]]⟩∧rows 6=some ⟨1,29,2,[[aJ aI (aV DD (lead y).natAbs), .bool false]]⟩ ∧
   rows 8=some ⟨v,29,2,[[aJ aI (aV DD T.natAbs), .bool (decide (T<0))]]⟩) ?_ ?_
  ·apply fJ dX [0,1,5,6,7,8,39]
   refine W.cond ⟨_,rfl,fun h=>?_,fun h=>?_⟩
   ·have h:lead y<0:=by simpa using h
    have ahG:=wC (lead x)
    rw [<-hTp.1 h]at ahG
    refine W.bY fun K hK=>?_
    apply o9 ahG
    exact hK _ ⟨_,aD _ [0,1,5,6,7,8],_,_,_,rfl,by simp [dX],by simp [mT],aG⟩
   ·have h:¬lead y<0:=by simpa using h
    rw [hTp.2 h]
    apply W.skip
    exact⟨_,aD _ [0,1,5,6,7,8],_,_,_,rfl,by simp [dX],by simp [mT],aG⟩
  clear dX mT rows clk
  rintro _ ⟨v8,rows,clk,rfl,dX,mT,uZ⟩
  apply aQ [0,1,5,6,7,8,9]
  refine W.nil 9 9 31 4 aG aF fun K hK=>?_
  refine W.lw [0,1,5,6,7,8,9] hK ?_;clear hK K;simp
  apply eE [0,1,5,6,7,8,9,43,44]
  refine W.bB (fun m σ=>∃(i v9:Nat),bF σ [(0,PI x),(1,PI y),(5, .ptr 5 0 0 0),(6, .ptr 6 1 0 0),(7,aB k),(8, .ptr 8 v8 0 0),(9, .own 9 v9 0 i),(43,aB x.length),(44,aB i)] fun rows clk =>
   rows 5=some ⟨0,29,2,[[aJ aI (aV DD (lead y).natAbs), .bool (decide (lead y<0))]]⟩∧rows 6=some ⟨1,29,2,[[aJ aI (aV DD (lead y).natAbs), .bool false]]⟩ ∧
   rows 8=some ⟨v8,29,2,[[aJ aI (aV DD T.natAbs), .bool (decide (T<0))]]⟩∧rows 9=some ⟨v9,31,4,emap ri ((List.range i).map (rqF y x))⟩∧i+m=x.length) x.length ?_ ?_
  ·exact⟨_,aD _ [0,1,5,6,7,8,9,43,44],0,_,_,_,rfl,by simp [dX],by simp [mT],by simp [uZ],by simp [emap],aA⟩
  clear dX mT uZ rows clk
  rintro m _ ⟨i,v9,rows,clk,rfl,dX,mT,uZ,hr9,him⟩
  have zI:((List.range i).map (rqF y x)).length=i:=aG
  apply cN [0,1,5,6,7,8,9,43,44,45]
  refine W.cond ⟨_,rfl,fun h=>?_,fun h=>?_⟩
  ·have hi:i<x.length:=by simp at h;omega
   have hxi:=bx.nth i
   have m1:=gL (nth x i) ((lead y).natAbs:Int) (by show sz 2 _<1099511627776;omega) (by show sz 2 _<1099511627776;omega)
   rw [asV]at m1
   have s1:sz 2 (nth x i*((lead y).natAbs:Int))<=u+s':=cW aF hxi hls
   have er:(List.range (i+1)).map (rqF y x)=(List.range i).map (rqF y x) ++ [rqF y x i]:=by
    rw [List.range_succ,List.map_append];rfl
   have hF:rqF y x i=nth x i*((lead y).natAbs:Int)-if k<=i then T*nth y (i-k)else 0:=by unfold rqF;rw [hk,hT]
   generalize (List.range i).map (rqF y x)=acc at *
   generalize hP:nth x i*((lead y).natAbs:Int)=P at *
   apply (iE)
   apply kR [0,1,5,6,7,8,9,10,43,44]
   apply O1 mT m1
   rw [if_pos cT]
   apply bT [0,1,5,6,7,8,9,10,11,43,44]
   generalize hQ:rqF y x i=Q at *
   have sQ:sz 2 Q<=u+(s'+N+1):=by
    have hyi:sz 2 (nth y (i-k))<=s':=xM.nth _
    rw [hF]
    split
    ·have:=cW (b:=2) aF hTs hyi
     have h1:=qH (b:=2) aF (x:=P) (y := -(T*nth y (i-k))) (k:=u+s') s1 (by rw [r9];exact this)
     rw [<-Int.sub_eq_add_neg]at h1
     omega
    ·rw [Int.sub_zero];omega
   refine W.iS (fun σ=>∃(v11:Nat),bF σ [(0,PI x),(1,PI y),(5, .ptr 5 0 0 0),(6, .ptr 6 1 0 0),(7,aB k),(8, .ptr 8 v8 0 0),(9, .own 9 v9 0 i),(11, .ptr 11 v11 0 0),(43,aB x.length),(44,aB i)] fun rows clk =>
    rows 5=some ⟨0,29,2,[[aJ aI (aV DD (lead y).natAbs), .bool (decide (lead y<0))]]⟩∧rows 6=some ⟨1,29,2,[[aJ aI (aV DD (lead y).natAbs), .bool false]]⟩ ∧
    rows 8=some ⟨v8,29,2,[[aJ aI (aV DD T.natAbs), .bool (decide (T<0))]]⟩∧rows 9=some ⟨v9,31,4,emap ri acc⟩ ∧
    rows 11=some ⟨v11,29,2,[[aJ aI (aV DD Q.natAbs), .bool (decide (Q<0))]]⟩) ?_ ?_
   ·apply aQ [0,1,5,6,7,8,9,10,11,43,44,56]
    refine W.cond ⟨_,rfl,fun h=>?_,fun h=>?_⟩
    ·have hki:k<=i:=by simp at h;omega
     rw [if_pos hki]at hF
     have eik:(i:Int)-(k:Int)=((i-k:Nat):Int):=aA
     have hyb:i-k<y.length:=aA
     have m2:=gL T (nth y (i-k)) (by show sz 2 _<1099511627776;omega) (by have:=xM.nth (i-k);show sz 2 _<1099511627776;omega)
     have s2:=cW (b:=2) aF hTs (xM.nth (i-k))
     have m3:=TZ P (T*nth y (i-k)) (by show sz 2 _<1099511627776;omega) (by show sz 2 _<1099511627776;omega)
     rw [<-hF]at m3
     generalize T*nth y (i-k)=P2 at *
     refine W.K1 fun K hK=>?_
     simp (disch:=omega) [gw,uZ,eik]
     apply jW m2
     apply jW m3
     refine aY cT ?_
     apply (cV)
     exact hK _ ⟨_,aD _ [0,1,5,6,7,8,9,11,43,44],_,_,_,rfl,by simp [dX],by simp [mT],by simp [uZ],by simp [hr9],aG⟩
    ·have hki:¬k<=i:=by simp at h;omega
     rw [if_neg hki,Int.sub_zero]at hF
     rw [hF]
     apply W.skip
     exact⟨_,aD _ [0,1,5,6,7,8,9,11,43,44],_,_,_,rfl,by simp [dX],by simp [mT],by simp [uZ],by simp [hr9],aG⟩
   clear dX mT uZ hr9 rows clk
   rintro _ ⟨v11,rows,clk,rfl,dX,mT,uZ,hr9,asW⟩
   have o1:=rN 1 aF aF
   have mk:=MN Q (by show sz 2 Q<549755813888;omega)
   refine W.K1 fun K hK=>?_
   rw [if_pos rfl,gO]
   apply j0 asW o1
   apply kZ mk
   apply j1 hr9 zI
   refine W.lw [0,1,5,6,7,8,9,43,44] hK ?_;clear hK K;simp
   refine W.bY (fun K hK=>?_);simp (disch:=omega) [gw]
   refine hK _ ⟨m-1,_,aD _ [0,1,5,6,7,8,9,43,44],aA,i+1,_,_,_,rfl,by simp [dX],by simp [mT],by simp [uZ],by rw [er];simp,aA⟩
  ·have hi:i=x.length:=by simp at h;omega
   subst hi
   have gS:((List.range x.length).map (rqF y x)).length=x.length:=aG
   generalize (List.range x.length).map (rqF y x)=acc at *
   have ez:=bW gS
   have qZ:=s5 acc aA
   rw [azk]at qZ
   apply (gK)
   refine W.bY fun K hK=>?_
   simp (disch:=omega) [gw,hr9,ez]
   apply jW qZ
   obtain⟨j,rfl⟩:∃i,j=i+1:=⟨j-1,aA⟩
   rw [Nat.add_mul,Nat.one_mul]at hu
   refine hK _ ⟨n,_,aD _ [0,1,5,6],aA,rq1 y x,j,u+(s'+N+1),_,_,rfl,by simp [dX],by simp [mT],Cn.iB _ _,aA,hxR,b2,aA,aA⟩
 ·have h:x.length<y.length:=by simp at h;omega
  rw [asU h]at hxR
  subst hxR
  exact uW [4]
end Go.Proofs.YtiobceocpabjdaaGreat
namespace Pm
open Go Go.RowKit
variable {t:TypeId}{n len:Nat}{z:List PV}{parts:Array (Nat × Operand)}{o:Oper}{σ:PS}{E:Env}{rows:Rows}
section
variable {E:Env} {c:Cx} {w0:World} {S0:eU} {m:Nat} {G:Gs}
theorem amA(hI:Inv w0 S0 c){e:TypeId}{bb:Nat}(hE:E.ty t = .slice e n bb z){ρ:Operand->PV}{vρ:Operand->Value}(hρ:∀x,aK c (ρ x) (vρ x))
  {els:List (List PV)} (G0:j3 n 0 (parts.toList.map fun x=>(x.1,ρ x.2))=some els) (hlen:len=els.length) (hsm:len<=4096) (hn:n<=4096)
  (lI:∀e∈els,∀p∈e,jT c.rows p) :
  ∃dF,(Instr.buildSlice t len (parts.map fun(i,x)=>(i,vρ x))).run E.P c.w = .ok (.slice (some ⟨c.w.heap.size,0,none⟩) len len) (c.w.alloc (.cells dF e))∧dF.size=len*n∧bA (aM c) els.flatten dF.toList∧(∀u∈dF.toList,u.oneCell'=true)∧(∀e∈els,e.length=n)∧0<n:=by
 obtain⟨hu,hnp,N7,i,zv,hi,hz,hs,_,W8,_⟩:=iM hE
 obtain⟨g1,g2,g3⟩:=r6 G0
 have aaM:parts.size=els.length:=by rw [g1];simp
 have aCv:zv.cells.size=n:=by rw [<-N7,<-W8];simp
 have LO:∀j (x:Nat × Value),((parts.map fun(i,x)=>(i,vρ x)).toList)[j]? = some x->x.1=0+j ∧ ∃e,els[j]? = some e∧bA (aM c) e x.2.cells.toList ∧ ∀u∈x.2.cells.toList,u.oneCell'=true:=by
  intro j x hx
  simp at hx
  obtain⟨a,b,gU,rfl⟩:=hx
  obtain⟨q1,e,q2,q3⟩:=g3 j (a,ρ b) (by simp;exact⟨a,b,gU,rfl,rfl⟩)
  have q4:=p8 (hρ b) q3 (fun q hq=>lI e (List.mem_of_getElem? q2) q hq)
  exact⟨q1,e,q2,q4.1,q4.2⟩
 obtain⟨dF,f1,f2⟩:=G5 (n:=n) (parts.map fun(i,x)=>(i,vρ x)).toList 0 ((Array.range (len*n)).map (zv.cells[· % zv.cells.size]!)) (fun j x hx=>by
  obtain⟨q1,e,q2,q3,_⟩:=LO j x hx
  refine⟨q1,?_⟩
  have:=q3.length
  rw [g2 e (List.mem_of_getElem? q2)]at this
  simpa using this.symm) (by simp [aaM,hlen])
 simp only [Nat.zero_mul,List.take_zero,List.nil_append]at f2
 have jU:(Instr.buildSlice t len (parts.map fun(i,x)=>(i,vρ x))).run E.P c.w = .ok (.slice (some ⟨c.w.heap.size,0,none⟩) len len) (c.w.alloc (.cells dF e)):=by
  have hbound:¬(16777216<len*n):=by
   have:len*n<=4096*4096:=Nat.mul_le_mul hsm hn
   omega
  by_cases h0:len*n=0
  ·have AF:len=0:=by
    rcases Nat.mul_eq_zero.1 h0 with h | h
    ·exact h
    ·omega
   have hp0:parts = #[]:=Array.eq_empty_of_size_eq_zero aA
   subst hp0
   subst AF
   simp [Instr.fill]at f1
   subst f1
   have qW:Array.range 0 = #[]:=rfl
   simp [Instr.buildSlice,run_underlying hu,dP hi,newRow,Instr.fill,qW]
  ·have f1':Instr.fill (fun i=>some (i*n,n)) ((Array.range (len*n)).map (zv.cells[· % zv.cells.size]!)) (parts.toList.map fun x=>(x.1,vρ x.2))=some dF:=by simpa using f1
   simp only [Instr.buildSlice,Sem.run_bind,run_underlying hu,Result.andThen_ok,dP hi,hs]
   simp [h0,hbound,newRow,zeroValue,typeInfo,hi,hz,f1']
 have e3:dF.toList=((parts.map fun(i,x)=>(i,vρ x)).toList.map fun x=>x.2.cells.toList).flatten:=by rw [f2,List.flatMap_def]
 have key:∀(vs:List (Nat × Value)) (es:List (List PV)),vs.length=es.length->(∀(j:Nat) (x:Nat × Value),vs[j]? = some x -> ∃e,es[j]? = some e∧bA (aM c) e x.2.cells.toList ∧ ∀u∈x.2.cells.toList,u.oneCell'=true) ->
   bA (aM c) es.flatten (vs.map fun x=>x.2.cells.toList).flatten ∧ ∀u∈(vs.map fun x=>x.2.cells.toList).flatten,u.oneCell'=true:=by
  intro vs
  induction vs with
  | nil =>
   intro es hl _
   have:es = []:=List.eq_nil_of_length_eq_zero hl.symm
   subst this
   exact⟨trivial,aG⟩
  | cons v vs ih =>
   intro es hl h
   match es,hl with
   | e::es,hl =>
    obtain⟨h1,h2⟩:=ih es (by simpa using hl) fun j x hx=>by simpa using h (j+1) x (by simpa using hx)
    obtain⟨e',q1,q2,q3⟩:=h 0 v aG
    simp at q1;subst q1
    simp only [List.flatten_cons,List.map_cons]
    refine⟨bA.append q2 h1,fun u hu=>?_⟩
    rcases List.mem_append.1 hu with hu | hu
    ·exact q3 u hu
    ·exact h2 u hu
 obtain⟨k1,k2⟩:=key (parts.map fun(i,x)=>(i,vρ x)).toList els (by simp [aaM]) fun j x hx=>(LO j x hx).2
 rw [<-e3]at k1 k2
 refine⟨dF,jU,?_,k1,k2,g2,hnp⟩
 have h5:=k1.length
 have fl:∀ {l:List (List PV)},(∀e∈l,e.length=n)->l.flatten.length=l.length*n:=by
  intro l
  induction l with
  | nil=>intro _;simp
  | cons e l ih=>intro h;rw [List.flatten_cons,List.length_append,ih (fun e he=>h e (by simp [he])),h e aG,List.length_cons,Nat.add_mul];omega
 rw [fl g2,Array.length_toList]at h5
 rw [hlen];exact h5.symm
def K7(E:Env)(o:Oper)(K:PS->Prop)(σ:PS):Prop:=
 match o.op with
 | .buildSlice t len parts =>
  match E.ty t with
  | .slice e n _ _=>∃els,j3 n 0 (parts.toList.map fun x=>(x.1,aR σ.f x.2))=some els∧len=els.length∧len<=4096∧n<=4096∧(∀x∈els,∀p∈x,jT σ.rows p) ∧
    OB K σ o.dst (.own (o.dst.getD 0) σ.clock 0 els.length) (o.dst.getD 0) e n els
  | _=>False
 | _=>False
theorem zP{a:Act}{w:World}{K:PS->Prop}(h:K7 E o K σ)(hR:Rel w0 S0 m G σ a w)(hd:∀t,o.dst=some t->t<m)
  {K':Act->World->Prop} {Q:Exit->Act->World->Prop} (hK:∀σ' a' w',K σ'->Rel w0 S0 m G σ' a' w'->K' a' w'):o.wp E.P a w K' Q:=by
 obtain⟨⟨c,rfl,hr,gS,hI,hf,hG⟩,hn,gF⟩:=hR
 have hρ:=pI hf
 obtain⟨dst,op,type,pos,after,guard⟩:=o
 simp only at hd
 unfold K7 at h
 simp only at h
 split at h
 ·rename_i t len parts
  split at h
  ·rename_i e n b z hE
   obtain⟨els,h1,h2,h3,h4,h5,h⟩:=h
   rw [<-hr]at h5
   obtain⟨dF,g1,g2,g3,g4,g5,g6⟩:=amA hI hE hρ h1 h2 h3 h4 h5
   obtain⟨pU,hA⟩:=C3 hI (ver:=σ.clock) (fun hu=>Nat.lt_irrefl _ (gS _ hu)) (dst.getD 0) e n els.length els.length els dF rfl (Nat.le_refl _) (by simp only [maxLen];omega) (by rw [g2,h2]) (by
    rw [List.take_of_length_le (by rw [Array.length_toList,g2,h2];exact Nat.le_refl _)];exact g3) g4 g5 g6
   obtain⟨f',rows',CN,G8⟩:=vI (K:=fun f' r'=>K ⟨f',r',σ.clock+1⟩) hr gS hf hG hn gF h pU hA (oO (r:=⟨σ.clock,e,n,els⟩) (A:=some ⟨c.w.heap.size,0,none⟩) (cap:=els.length) (by simp [eO]) rfl (Or.inl rfl) (by simp [eO])) hd
   unfold Oper.wp
   have:(execOp a.eval { dst:=dst,op:=.buildSlice t len parts,type:=type,pos:=pos,after:=after,guard:=guard }).run E.P c.w = .ok (.value (.slice (some ⟨c.w.heap.size,0,none⟩) els.length els.length)) (c.w.alloc (.cells dF e)):=by
    rw [h2]at g1
    simp only [execOp,Sem.run_bind,h2,g1,Result.andThen_ok,Sem.run_pure]
   rw [this]
   refine hK _ _ _ CN (G8.mono fun v hv=>?_)
   show v<σ.clock+1
   rcases hv with rfl | hv
   ·omega
   ·have:v<σ.clock:=hv
    omega
  ·exact h.elim
 ·exact h.elim
theorem rQ{ops:Array Oper}{K:PS->Prop}{Q:Exit->Act->World->Prop}{l2:List Oper}(hK:∀σ' a' w',K σ'->Rel w0 S0 m G σ' a' w'->wpList E.P ops Q l2 a' w') :
  ∀(l:List Oper) (σ:PS) (a:Act) (w:World),(∀o∈l,∀t,o.dst=some t->t<m)->aP E ops.toList l K σ->Rel w0 S0 m G σ a w->wpList E.P ops Q (l++l2) a w
 | [],σ,a,w,_,h,hR=>hK _ _ _ h hR
 | o::os,σ,a,w,hd,h,hR=>by
  have hdo:=hd o aG
  have hds:∀o∈os,∀t,o.dst=some t->t<m:=fun o ho=>hd o (by simp [ho])
  have wanted:∀ {σ},gV E o (aP E ops.toList os K) σ->Rel w0 S0 m G σ a w->o.wp E.P a w (wpList E.P ops Q (os++l2)) Q:=fun hp hR =>
   EE hp hR hdo fun σ' a' w' hk lE=>rQ hK os σ' a' w' hds hk lE
  show wpList E.P ops Q (o::(os++l2)) a w
  unfold wpList
  simp only [aP]at h
  split at h
  ·rename_i hg
   rw [if_pos (by simp [Region.wanted,hg])]
   exact .inl (wanted h hR)
  ·rename_i j want hg
   split at h
   ·exact h.elim
   ·rename_i d XL
    have hd3:(ops[j]?).bind (·.dst)=some d:=by simpa using XL
    have skip:yielded ops a.tmps j≠some want->aP E ops.toList os K (σ.put o.dst (.dK []))->(if Region.wanted o (yielded ops a.tmps)=true then o.wp E.P a w (wpList E.P ops Q (os++l2)) Q∨(o.asks E.P a w∧LetsOut Q)else wpList E.P ops Q (os++l2) (a.put o.dst undef) w):=by
     intro hy h2
     rw [if_neg (by simpa [Region.wanted,hg]using hy)]
     refine rQ hK os _ _ w hds h2 ?_
     obtain⟨⟨c,rfl,hr,gS,hI,hf,hG⟩,hn,gF⟩:=hR
     exact w6 hf hG hn gF (xW.refl c) hI XI hdo rfl (by simp [PS.put,hr]) gS
    obtain⟨c,_,_,_,_,hf,_⟩:=hR.ex
    have hx:=hf d
    rcases h with ⟨h1,h2⟩ | ⟨h1 | h1,h2⟩
    ·rw [h1]at hx
     rw [if_pos (by simp [Region.wanted,hg,kO hd3 hx])]
     exact .inl (wanted h2 hR)
    ·rw [h1]at hx
     exact skip (by rw [kO hd3 hx];cases want<;>simp) h2
    ·rw [h1]at hx
     exact skip (by rw [y9 hd3 hx];simp) h2
end
theorem W.aiw{tl:Nat->Nat}{Q:PX->PS->Prop}{id:Nat}{ops:List Oper}{y:Code}(i:Nat)(ho:ops=ops.take i++o::ops.drop (i+1))(hg:o.guard=none)
  (h:∀K:PS->Prop,(∀σ,W E n tl y Q σ->K σ)->go (aP E ops (ops.take i) (fun σ=>K7 E o (aP E ops (ops.drop (i+1)) K) σ) σ)):W E n tl (.seq (.region id ops.toArray false) y) Q σ:=by
 refine W.seq ?_
 intro iD w0 S0 G a w Q' hR hQ
 simp only [fQ,vJ,Bool.and_eq_true]at iD
 have hd:∀o∈ops,∀t,o.dst=some t->t<n:=fun o ho t ht=>by
  have:=Array.all_eq_true_iff_forall_mem.1 iD.1 o (by simpa using ho)
  simpa [ht]using this
 refine wp_region_list ?_
 show wpList E.P ops.toArray Q' ops a w
 have h1:=h (fun σ=>W E n tl y Q σ) fun _ h=>h
 have qB:o∈ops:=by rw [ho];simp
 have:=rQ (E:=E) (w0:=w0) (S0:=S0) (m:=n) (G:=G) (ops:=ops.toArray) (Q:=Q') (l2:=o::ops.drop (i+1)) (K:=fun σ=>K7 E o (aP E ops (ops.drop (i+1)) (fun σ=>W E n tl y Q σ)) σ) (fun σ' a' w' hl lE=>by
  unfold wpList
  rw [if_pos (by simp [Region.wanted,hg])]
  refine .inl (zP hl lE (hd o qB) fun σ2 a2 w2 hk hR2=>?_)
  exact j5 (E:=E) (ops:=ops.toArray) (fun σ3 a3 w3 hk3 hR3=>hQ .normal σ3 a3 w3 hk3 hR3) _ σ2 a2 w2 (fun o ho=>hd o (List.mem_of_mem_drop ho)) hk hR2) (ops.take i) σ a w (fun o ho=>hd o (List.mem_of_mem_take ho)) h1 hR
 rwa [<-ho]at this
def I9(ti:TI)(rows:Rows)(len:Nat)(ps:List (Nat × PV))(K:TypeId->Nat->List (List PV)->Prop):Prop:=
 match ti with
 | .slice e n _ _=>l9 n 0 ps fun els=>aL (len=els.length∧len<=4096∧n<=4096∧j6 rows els.flatten) (K e n els)
 | _=>False
@[congr] theorem amB{t t':TI}{rows':Rows}{ps ps':List (Nat × PV)}{K:TypeId->Nat->List (List PV)->Prop}(h:t=t')(h2:ps=ps')(h3:rows=rows'):I9 t rows len ps K=I9 t' rows' len ps' K:=by rw [h,h2,h3]
@[simp] theorem amC{e b:Nat}{ps:List (Nat × PV)}{K:TypeId->Nat->List (List PV)->Prop}:I9 (.slice e n b z) rows len ps K=l9 n 0 ps fun els=>aL (len=els.length∧len<=4096∧n<=4096∧j6 rows els.flatten) (K e n els):=rfl
@[simp] theorem aBI{K:PS->Prop}{f:Nat->PV}{clk:Nat}{d:Option Tmp}{ty:TypeId}{pos:String}{af:Array Edge} :
  K7 E ⟨d, .buildSlice t len parts,ty,pos,af,none⟩ K ⟨f,rows,clk⟩=I9 (E.ty t) rows len (parts.toList.map fun x=>(x.1,aR f x.2)) fun e n els=>K ⟨put f d (.own (d.getD 0) clk 0 els.length),eO rows (d.getD 0) (some ⟨clk,e,n,els⟩),clk+1⟩:=by
 simp only [K7,I9]
 generalize E.ty t=T
 cases T with
 | slice e n b z =>
  simp only
  rw [<-C5]
  simp only [aL,OB,j6]
  apply propext
  constructor
  ·rintro⟨els,h1,h2,h3,h4,h5,h6⟩
   exact⟨els,h1,⟨h2,h3,h4,fun q hq=>by obtain⟨x,hx,hq⟩:=List.mem_flatten.1 hq;exact h5 x hx q hq⟩,h6⟩
  ·rintro⟨els,h1,⟨h2,h3,h4,h5⟩,h6⟩
   exact⟨els,h1,h2,h3,h4,fun x hx q hq=>h5 q (List.mem_flatten.2 ⟨x,hx,hq⟩),h6⟩
 | _=>rfl
end Pm
namespace Go.Proofs.YtiobceocpabjdaaGreat
open Go Pm
variable {a c:ZX}{s n:Nat}{l:List ZX}
def rz(a c:ZX):ZX:=ZX.of (rq c.l (a.l.length+1) a.l)
theorem xO(hc:c≠0):(rz a c).l=rq c.l (a.l.length+1) a.l∧ZX.N (rz a c)<ZX.N c ∧ ∃(m:Int) (q:ZX),m≠0∧ZX.K m*a=q*c+ZX.K 1*rz a c:=by
 obtain⟨h1,h2,m,q,hm,h3⟩:=abY c.c (ZX.aH.1 hc) (a.l.length+1) a.l a.c aA
 have e:(rz a c).l=rq c.l (a.l.length+1) a.l:=h1
 refine⟨e,by show(rz a c).l.length<c.l.length;rw [e];exact h2,m,ZX.of q,hm,ZX.ext fun t=>?_⟩
 rw [ZX.fC,ZX.AH,ZX.pG,ZX.fC,ZX.fC,ZX.AH,ZX.ZB,e,h3 t];omega
theorem abZ(ha:BZ s n a)(hb:BZ s n c)(hc:c≠0):BZ (s+(ZX.N a+1-ZX.N c)*(s+n+1)) n (rz a c):=by
 have h:=apk hb (ZX.aH.1 hc) (a.l.length+1) (ZX.N a+1-ZX.N c) s a.l ha (by show ZX.N a+1<=ZX.N c+_;omega)
 rw [<-(xO hc).1]at h
 exact h
theorem DL{C:Nat}(b:BZ s n a)(b':BZ s n c)(hP:E2 C n s (nf a) (nf c))(hn:n<=20)(hC:C<=4500000000)(h1:1<=s):aC 203 [PI a.l,PI c.l] (PI (gz a c).l):=by
 have hs:=hP.le
 have p1:=oG b h1 (by show s<=137438953472;omega) aA
 have p2:=oG b' h1 (by show s<=137438953472;omega) aA
 have b1:=b.nf
 have b2:=b'.nf
 have hg:gz (nf a) (nf c)=gz a c:=by rw [abQ,ZE]
 have hx1:=UZ a
 rw [<-hg]
 generalize sB:nf a=x0 at *
 generalize YL:nf c=y0 at *
 generalize hG:gz x0 y0=G at *
 apply cG [(0,PI a.l),(1,PI c.l)] Tryz.func203
 generalize a.l=al at *
 generalize c.l=cl at *
 apply aQ [0,1]
 apply n7 p1 p2
 apply bT [0,1]
 apply (nC)
 refine W.bB (fun k σ=>∃(x y:ZX) (s:Nat),bF σ [(0,PI x.l),(1,PI y.l)] fun rows clk=>BZ s n x∧BZ s n y∧1<=s∧E2 C n s x y∧gz x y=G∧nf x=x∧nf y=y∧k=ZX.N y) (ZX.N y0) ?_ ?_
 ·exact⟨_, .refl,x0,y0,s,_,_,rfl,b1,b2,h1,hP,hG,hx1,by rw [<-YL,UZ],rfl⟩
 rintro k _ ⟨x,y,s,rows,clk,rfl,bx,xM,h1,hp,hgz,hnx,hny,rfl⟩
 have hs:=hp.le
 have hlx:=bx.len
 have hly:=xM.len
 apply cQ [0,1,11]
 refine W.cond ⟨_,rfl,fun h=>?_,fun h=>?_⟩
 ·have hy:y≠0:=ZX.aH.2 (by show 0<y.l.length;simp at h;omega)
  obtain⟨hrl,hN,m,q,hm,e⟩:=xO (a:=x) hy
  have br:=abZ bx xM hy
  have hmul:(x.l.length+1-y.l.length+1)*(s+n+1)<=22*4500000000:=Nat.mul_le_mul aA aA
  have apl:(ZX.N x+1-ZX.N y)*(s+n+1)<=22*4500000000:=Nat.mul_le_mul (by have:ZX.N x=x.l.length:=rfl;omega) aA
  have hR:=M3 (s:=s) (s':=s) (N:=n) bx xM x.c y.c (ZX.aH.1 hy) aA (by show _<137438953472;omega)
  rw [<-hrl]at hR
  have pr:=oG br aA (by show _<=137438953472;omega) aA
  have K5:ZX.N (nf (rz x y))<ZX.N y:=by rw [BU];exact hN
  have WO:=hp.step K5
  have r5:=P9 hm (show (1:Int)≠0 by decide) e
  rw [<-ZE y (rz x y)]at r5
  have br2:=br.nf
  have hnn:=UZ (rz x y)
  generalize (rz x y).l=rl at *
  generalize nf (rz x y)=r2 at *
  apply (uV)
  refine W.bY fun K hK=>?_
  apply fV hR pr
  apply (cV)
  refine hK _ ⟨ZX.N r2,_,aD _ [0,1],K5,y,r2,_,_,_,rfl,xM.mono aA (Nat.le_refl _),br2,aA,WO,by rw [<-r5,hgz],hny,hnn,rfl⟩
 ·have hy:y=0:=by
   refine Classical.byContradiction fun h0=>?_
   have h1:=ZX.aH.1 h0
   have h2:ZX.N y=y.l.length:=rfl
   simp at h;rw [h2,h]at h1;simp at h1
  subst hy
  rw [xL,hnx]at hgz
  subst hgz
  exact uW [4]
theorem aeh{h h':Nat}(b:BZ h n a)(b':BZ h' n c)(h1:1<=h)(ha:Nf a)(hc:Nf c)(hd:ZX.dv c a)(hB:h+(n+1)*(h'+n+2)+h'+n+n+10<137438953472):aC 256 [PI a.l,PI c.l] (.dK [PI (qz a c).l,PI []]):=by
 obtain⟨hw,e⟩:=rP ha hc hd
 have hD:=UQ a.l c.l b b' a.c c.c (ZX.aH.1 hc.ne) h1 hB
 obtain⟨e1,e2⟩:=ah8 (q:=(qz a c).l) a.c c.c (ZX.aH.1 hc.ne) (qz a c).c fun t=>by
  conv=>lhs;rw [e]
  rw [ZX.fC]
 rw [e1,e2,uP,uP,uP]at hD
 exact hD
def zq(a:ZX):List PV:=[PI a.l]
@[simp] theorem aEK:zq a = [PI a.l]:=rfl
@[simp] theorem avL:bP 1 (emap zq l)=True:=cS fun _=>rfl
@[simp] theorem asX{v e:Nat}:dG (some ⟨v,e,n,emap zq l⟩)=True:=cM fun _=>rfl
@[simp] theorem aEL:emap zq l ++ [[aJ ri a.l]]=emap zq (l ++ [a]):=by simp [emap]
theorem tY.qd{d:ZX}(h:tY s n a)(h1:1<=s)(ha:Nf a)(hc:Nf c)(hd:Nf d)(hca:ZX.dv c a)(hdc:ZX.dv d c):aC 256 [PI c.l,PI d.l] (.dK [PI (qz c d).l,PI []])∧aC 78 [PI (qz c d).l] (PI (qz c d).l):=by
 have b:=h.dv ha hc hca
 have b2:=h.dv ha hd (hdc.trans hca)
 have hq:=h.uQ
 have hn:=h.hn
 obtain⟨hw,e⟩:=rP hc hd hdc
 have bq:=h.dv ha hw ((aio hc hd hdc).trans hca)
 have hm:(n+1)*(qb s n+n+2)<=21*4500000000:=Nat.mul_le_mul aA aA
 have asY:1<=qb s n:=by unfold qb;omega
 refine⟨aeh b b2 asY hc hd hdc aA,?_⟩
 have:=oG bq asY (by show _<=137438953472;omega) aA
 rwa [hw.nfe]at this
theorem tY.qgd(h:tY s n a)(ha:Nf a)(hc:Nf c)(hd:ZX.dv c a):aC 160 [PI c.l] (PI (ZX.cD c).l)∧aC 203 [PI c.l,PI (ZX.cD c).l] (PI (gd c).l):=by
 have b:=h.dv ha hc hd
 have b2:=b.cD (by have:=h.hn;omega)
 have hq:=h.uQ
 have hn:=h.hn
 have asY:1<=qb s n:=by unfold qb;omega
 refine⟨tZ b (by show _<=137438953472;omega) aA,DL (s:=qb s n+5) (b.mono aA (Nat.le_refl _)) b2 ?_ h.hn (C:=4500000000) (Nat.le_refl _) aA⟩
 have hN:=ZX.qO c
 have h1:ZX.N c<=n:=b.N
 have h2:=ZX.aH.1 hc.ne
 unfold E2
 rw [BU,BU,if_pos aA]
 refine Nat.le_trans (Nat.mul_le_mul (show qb s n+5+n+1<=qb s n+n+6 by omega) (Nat.pow_le_pow_right aF h1)) h.hC
theorem uA(h:tY s n a)(h1:1<=s):aC 207 [PI a.l] (aJ zq (fl (nf a))):=by
 have hqb:=h.uQ
 have hn:=h.hn
 have sX:s<=4500000000:=by unfold qb at hqb;omega
 have p1:=oG h.bz h1 (by show s<=137438953472;omega) aA
 have hA:=h.nfz
 have hNa:ZX.N a=a.l.length:=rfl
 have hNN:=BU a
 have hle:=M0 (nf a)
 have hNA:ZX.N (nf a)<=n:=hA.bz.N
 apply cG [(0,PI a.l)] Tryz.func207
 apply aQ [0]
 apply cQ [0,2,15]
 refine W.cond ⟨_,rfl,fun h=>?_,fun h=>?_⟩
 ·have h2:ZX.N a<=1:=by simp at h;omega
  have h3:fl (nf a) = []:=by unfold fl;rw [U5 (by rw [hNN];exact h2)];rfl
  rw [h3]
  apply aQ [2]
  refine W.TF 2 (aJ zq []) aG rfl fun K hK=>?_
  refine W.lw [2] hK ?_;clear hK K;simp
  exact j8
 have h2:2<=ZX.N a:=by simp at h;omega
 have nA:Nf (nf a):=kG (ZX.aH.2 aA)
 clear h
 generalize nf a=A at *
 obtain⟨m,hm⟩:∃m,m=nl A:=⟨_,rfl⟩
 have LR:fl A=(List.range m).map (oZ A):=by rw [hm];rfl
 rw [LR]
 apply W.skip
 apply cK p1 [0]
 apply aQ [0,3]
 refine W.aiw 1 rfl rfl fun K hK=>?_
 apply (cV)
 refine W.lw [3,4] hK ?_;clear hK K;simp
 apply (nC)
 refine W.bB (fun k σ=>∃(i ver:Nat),bF σ [(3, .nil),(4, .own 19 ver 0 (i+1))] fun rows clk=>rows 19=some ⟨ver,46,1,emap zq ((List.range (i+1)).map (gs A))⟩∧i+k=m) m ?_ ?_
 ·exact⟨_, .refl,0,_,_,_,rfl,by simp [emap,gs],aA⟩
 rintro k _ ⟨i,ver,rows,clk,rfl,hr,tM⟩
 have zI:((List.range (i+1)).map (gs A)).length=i+1:=aG
 have zO:nth ((List.range (i+1)).map (gs A)) i=gs A i:=gR _ aA
 have er:(List.range (i+1+1)).map (gs A)=(List.range (i+1)).map (gs A) ++ [gs A (i+1)]:=by rw [List.range_succ,List.map_append];rfl
 have e1:((i:Int)+1-1).toNat=i:=aA
 generalize hL:(List.range (i+1)).map (gs A)=L at *
 apply W.seq
 apply W.sr
 apply zD hr zI zO
 apply cO [3,4,27]
 refine W.cond ⟨_,rfl,fun h=>?_,fun h=>?_⟩
 ·have h3:2<=ZX.N (gs A i):=by
   have h4:ZX.N (gs A i)=(gs A i).l.length:=rfl
   simp at h;omega
  clear h
  have hi:i<nl A:=by
   rcases Nat.lt_or_ge i (nl A)with h4 | h4
   ·exact h4
   ·have h5:=(nR A).1
    rw [show nl A=i by omega]at h5;omega
  obtain⟨t1,t2⟩:=hA.qgd nA (qP nA i) (MZ A i)
  rw [show gd (gs A i)=gs A (i+1)from rfl]at t2
  generalize hg:(gs A i).l=g at *
  generalize r5:gs A (i+1)=g2 at *
  apply (uV)
  apply W.sr
  simp (disch:=omega) [gw,hr,zI,zO,hg]
  apply cO [3,4,5]
  refine W.bY fun K hK=>?_
  apply fV t1 t2
  apply j1 hr zI
  refine hK _ ⟨k-1,_,aD _ [3,4],aA,i+1,_,_,_,rfl,by rw [er];simp,aA⟩
 have h3:ZX.N (gs A i)<=1:=by
  have h4:ZX.N (gs A i)=(gs A i).l.length:=rfl
  simp at h;omega
 clear h
 have hi:i=m:=by
  rcases Nat.lt_or_ge i (nl A)with h4 | h4
  ·have:=(nR A).2 i h4;omega
  ·omega
 subst hi
 have hR:L ++ [(1:ZX)]=(List.range (i+2)).map (gs A):=by
  rw [show(1:ZX)=gs A (i+1)by rw [hm,U1 nA 1]]
  exact er.symm
 have lI:=wL
 generalize hz:(1:ZX)=z1 at *
 apply (jV)
 apply kZ lI
 apply HS hr zI [3,4]
 clear hr zO e1 er hL zI
 have hRl:(L ++ [z1]).length=i+2:=by rw [hR];simp
 have zO:∀j,j<i+2->nth (L ++ [z1]) j=gs A j:=fun j hj=>by rw [hR];exact gR _ hj
 generalize L ++ [z1]=R at *
 have hRt:List.take (i+2) R=R:=List.take_of_length_le aA
 refine W.freeze 19 aG fun K hK=>?_
 simp [hRt]
 refine hK _ ?_;clear hK K
 refine W.nil 3 3 46 1 aG aF fun K hK=>?_
 refine W.lw [3,4] hK ?_;clear hK K;simp
 apply eE [3,4,6]
 refine W.bB (fun k σ=>∃(j ver:Nat),bF σ [(3, .own 3 ver 0 j),(4,aJ zq R),(6,aB j)] fun rows clk=>rows 3=some ⟨ver,46,1,emap zq ((List.range j).map (oZ A))⟩∧j+k=i) i ?_ ?_
 ·exact⟨_, .refl,0,_,_,_,rfl,by simp [emap],aA⟩
 clear rows clk ver tM k
 rintro k _ ⟨j,ver,rows,clk,rfl,hr,hjk⟩
 have hjl:((List.range j).map (oZ A)).length=j:=aG
 apply W.seq
 apply fJ hRl [3,4,6,50]
 refine W.cond ⟨_,rfl,fun h=>?_,fun h=>?_⟩
 ·have hj:j<i:=by simp at h;omega
  clear h
  have er:(List.range (j+1)).map (oZ A)=(List.range j).map (oZ A) ++ [oZ A j]:=by rw [List.range_succ,List.map_append];rfl
  have n0:=zO j aA
  have n1:=zO (j+1) aA
  have n2:=zO (j+2) aA
  have l0:j<R.length:=aA
  have l1:j+1<R.length:=aA
  have l2:j+2<R.length:=aA
  have e1:((j:Int)+1).toNat=j+1:=aA
  have e2:((j:Int)+2).toNat=j+2:=aA
  obtain⟨d1,q1⟩:=hA.qd h1 nA (qP nA j) (qP nA (j+1)) (MZ A j) (E0 _)
  obtain⟨d2,q2⟩:=hA.qd h1 nA (qP nA (j+1)) (qP nA (j+2)) (MZ A (j+1)) (E0 _)
  obtain⟨d3,q3⟩:=hA.qd h1 nA (iZ nA j).1 (iZ nA (j+1)).1 (F5 nA j) (U3 nA j)
  rw [show qz (gs A j) (gs A (j+1))=wz A j from rfl]at d1 q1
  rw [show qz (gs A (j+1)) (gs A (j+2))=wz A (j+1)from rfl]at d2 q2
  rw [show qz (wz A j) (wz A (j+1))=oZ A j from rfl]at d3 q3
  have h0:(nth R j).l=(gs A j).l:=by rw [n0]
  have NZ:(nth R (j+1)).l=(gs A (j+1)).l:=by rw [n1]
  have h2':(nth R (j+2)).l=(gs A (j+2)).l:=by rw [n2]
  generalize (gs A j).l=g0 at *
  generalize (gs A (j+1)).l=g1 at *
  generalize (gs A (j+2)).l=g2 at *
  generalize (wz A j).l=w0 at *
  generalize (wz A (j+1)).l=w1 at *
  generalize hF:oZ A j=F at *
  generalize hac:(List.range j).map (oZ A)=acc at *
  apply (iE)
  apply W.sd
  simp (disch:=omega) [gw,h0,NZ,e1]
  apply jW d1
  apply cO [3,4,6,7]
  apply W.sd
  simp (disch:=omega) [gw,NZ,h2',e1,e2]
  apply jW d2
  apply cO [3,4,6,7,9]
  apply nB q1
  apply fV q2 d3
  apply bT [3,4,6,11]
  refine W.bY fun K hK=>?_
  apply kZ q3
  apply j1 hr hjl
  refine W.lw [3,4,6] hK ?_;clear hK K;simp
  refine W.bY (fun K hK=>?_);simp (disch:=omega) [gw]
  refine hK _ ⟨k-1,_,aD _ [3,4,6],aA,j+1,_,_,_,rfl,by rw [er];simp,aA⟩
 ·have hj:j=i:=by simp at h;omega
  subst hj
  generalize (List.range j).map (oZ A)=acc at *
  have CQ:List.take j acc=acc:=List.take_of_length_le aA
  apply (jV)
  apply HS hr CQ [2]
  apply W.ret
  simp [go,hr,CQ]
theorem uB(h:tY s n a)(h1:1<=s):aC 158 [PI a.l] (PI (sq a).l):=by
 have hqb:=h.uQ
 have hn:=h.hn
 have hF:=uA h h1
 have hA:=h.nfz
 have hNa:ZX.N a=a.l.length:=rfl
 have hsq:ZX.N a≠0->sq a=pf (nf a) (fun _=>true) (nl (nf a)):=fun h0=>by
  have nA:=kG (ZX.aH.2 (Nat.pos_of_ne_zero h0))
  unfold sq
  split
  ·rename_i h2
   rw [U5 (by rw [BU];exact h2),nA.N1 (by rw [BU];exact h2)];rfl
  ·rw [asQ nA]
 have hNf:ZX.N a≠0->Nf (nf a):=fun h0=>kG (ZX.aH.2 (Nat.pos_of_ne_zero h0))
 have hle:=M0 (nf a)
 have hNA:ZX.N (nf a)<=n:=hA.bz.N
 have azn:ZX.N a=0->(sq a).l = []:=fun h0=>by
  have h2:a=0:=Classical.byContradiction fun h3=>by have:=ZX.aH.1 h3;omega
  unfold sq
  rw [if_pos aA,h2,nQ];rfl
 generalize nf a=A at *
 apply cG [(0,PI a.l)] Tryz.func158
 apply aQ [0]
 apply cQ [0,2,8]
 refine W.cond ⟨_,rfl,fun h3=>?_,fun h3=>?_⟩
 ·have h0:ZX.N a=0:=by rw [hNa];simp at h3;rw [h3];rfl
  rw [azn h0]
  apply aQ [2]
  refine W.TF 2 (PI []) aG rfl fun K hK=>?_
  refine W.lw [2] hK ?_;clear hK K;simp
  exact j8
 have h0:ZX.N a≠0:=by rw [hNa];simp at h3;intro h4;exact h3 (List.eq_nil_of_length_eq_zero h4)
 have nA:=hNf h0
 rw [hsq h0]
 clear h3 hsq azn hNf
 have hmul:∀i,aC 199 [PI (pf A (fun _=>true) i).l,PI (oZ A i).l] (PI (pf A (fun _=>true) (i+1)).l):=fun i=>by
  have b1:=hA.dv nA (BW nA (fun _=>true) i) (F6 nA _ i)
  have b2:=hA.dv nA (BV nA i).1 (QB nA i)
  exact s7 _ _ _ _ _ _ b1 b2 (by show _<137438953472;omega)
 obtain⟨m,hm⟩:∃m,m=nl A:=⟨_,rfl⟩
 have LR:fl A=(List.range m).map (oZ A):=by rw [hm];rfl
 rw [<-hm]at hle |-
 rw [LR]at hF
 have D8:((List.range m).map (oZ A)).length=m:=aG
 have zO:∀i,i<m->(nth ((List.range m).map (oZ A)) i).l=(oZ A i).l:=fun i hi=>by rw [gR _ hi]
 generalize (List.range m).map (oZ A)=L at *
 have h1:=wL
 rw [show(1:ZX)=pf A (fun _=>true) 0 from rfl]at h1
 generalize hg:pf A (fun _=>true) 0=g0 at *
 apply W.skip
 apply cK h1 [0,3]
 apply cK hF [3,4]
 apply W.seq
 apply fJ D8 [3,4,14,15]
 subst hg
 apply W.block
 refine W.bB (fun k σ=>∃(i:Nat),bF σ [(3,PI (pf A (fun _=>true) i).l),(4,aJ zq L),(14,aB m),(15,aB i)] fun rows clk=>i+k=m) m ?_ ?_
 ·exact⟨_, .refl,0,_,_,rfl,aA⟩
 rintro k _ ⟨i,rows,clk,rfl,tM⟩
 apply cN [3,4,14,15,16]
 refine W.cond ⟨_,rfl,fun h=>?_,fun h=>?_⟩
 ·have hi:i<m:=by simp at h;omega
  have hiL:i<L.length:=aA
  have ht:=hmul i
  have rB:=zO i hi
  generalize r5:pf A (fun _=>true) (i+1)=g2 at *
  generalize pf A (fun _=>true) i=g at *
  apply oR [3,4,5,14,15]
  refine W.bY fun K hK=>?_
  apply O1 rB ht
  refine W.lw [3,4,14,15] hK ?_;clear hK K;simp
  subst r5
  refine W.bY (fun K hK=>?_);simp (disch:=omega) [gw]
  refine hK _ ⟨k-1,_,aD _ [3,4,14,15],aA,i+1,_,_,rfl,aA⟩
 ·have hi:i=m:=by simp at h;omega
  subst hi
  exact uW [2]
theorem aei(h:tY s n a)(h1:1<=s)(h0:a≠0):aC 205 [PI a.l] (PI (oz (nf a)).l):=by
 have hqb:=h.uQ
 have hn:=h.hn
 have hF:=uA h h1
 have hA:=h.nfz
 have nA:=kG h0
 have o7:a.l.length≠0:=fun h1=>by have h2:=ZX.aH.1 h0;have h3:ZX.N a=a.l.length:=rfl;omega
 have hle:=M0 (nf a)
 have hNA:ZX.N (nf a)<=n:=hA.bz.N
 generalize nf a=A at *
 obtain⟨c,hc⟩:∃c:Nat->Bool,c=fun k=>k%2==0:=⟨_,rfl⟩
 have hoz:oz A=pf A c (nl A):=by rw [hc];rfl
 rw [hoz]
 have hmul:∀i,i%2=0->aC 199 [PI (pf A c i).l,PI (oZ A i).l] (PI (pf A c (i+2)).l):=fun i hi=>by
  have b1:=hA.dv nA (BW nA c i) (F6 nA _ i)
  have b2:=hA.dv nA (BV nA i).1 (QB nA i)
  have e:pf A c (i+2)=pf A c i*oZ A i:=by
   have c1:c (i+1)=false:=by rw [hc];simp;omega
   have c2:c i=true:=by rw [hc];simp;omega
   rw [pf,if_neg (by rw [c1];decide),pf,if_pos c2]
  rw [e]
  exact s7 _ _ _ _ _ _ b1 b2 (by show _<137438953472;omega)
 obtain⟨m,hm⟩:∃m,m=nl A:=⟨_,rfl⟩
 have LR:fl A=(List.range m).map (oZ A):=by rw [hm];rfl
 have ZI:∀i,m<=i->i<=m+1->i%2=0->pf A c i=pf A c m:=fun i hi J0 hi3=>by
  rcases Nat.lt_or_ge m i with h4 | h4
  ·obtain rfl:i=m+1:=by omega
   rw [pf,if_neg (by rw [hc];simp;omega)]
  ·rw [show i=m by omega]
 rw [<-hm]at hle |-
 rw [LR]at hF
 have D8:((List.range m).map (oZ A)).length=m:=aG
 have zO:∀i,i<m->(nth ((List.range m).map (oZ A)) i).l=(oZ A i).l:=fun i hi=>by rw [gR _ hi]
 generalize (List.range m).map (oZ A)=L at *
 have h1:=wL
 rw [show(1:ZX)=pf A c 0 from rfl]at h1
 generalize hg:pf A c 0=g0 at *
 apply cG [(0,PI a.l)] Tryz.func205
 apply aQ [0]
 apply cQ [0,2,8]
 refine W.cond ⟨_,rfl,fun h3=>?_,fun h3=>?_⟩
 ·simp at h3;exact absurd (by rw [h3];rfl) o7
 clear h3
 apply W.skip
 apply cK h1 [0,3]
 apply cK hF [3,4]
 apply cQ [3,4,5]
 subst hg
 apply W.block
 refine W.bB (fun k σ=>∃(i:Nat),bF σ [(3,PI (pf A c i).l),(4,aJ zq L),(5,aB i)] fun rows clk=>k=m-i∧i<=m+1∧i%2=0) m ?_ ?_
 ·exact⟨_, .refl,0,_,_,rfl,aA,aA,rfl⟩
 rintro k _ ⟨i,rows,clk,rfl,tM,him,J0⟩
 apply W.seq
 apply fJ D8 [3,4,5,16]
 refine W.cond ⟨_,rfl,fun h=>?_,fun h=>?_⟩
 ·have hi:i<m:=by simp at h;omega
  have hiL:i<L.length:=aA
  have ht:=hmul i J0
  have rB:=zO i hi
  generalize r5:pf A c (i+2)=g2 at *
  generalize pf A c i=g at *
  apply (iE)
  refine W.bY fun K hK=>?_
  apply O1 rB ht
  refine W.lw [3,4,5] hK ?_;clear hK K;simp
  subst r5
  refine W.bY (fun K hK=>?_);simp (disch:=omega) [gw]
  refine hK _ ⟨m-(i+2),_,aD _ [3,4,5],aA,i+2,_,_,rfl,rfl,aA,aA⟩
 ·have hi:m<=i:=by simp at h;omega
  rw [ZI i hi him J0]
  exact uW [2]
abbrev R2(n d:Int):PV:=.ag [aJ aI (aV DD n.natAbs), .bool (decide (n<0)),aJ aI (aV DD d.natAbs), .bool (decide (d<0))]
theorem cU(q:Rat):RR q=R2 q.num q.den:=by
 have:decide ((q.den:Int)<0)=false:=decide_eq_false aA
 show PV.ag (re q)=PV.ag _
 rw [this];rfl
def hm(n d:Int):List Int->Int × Int
 | []=>(0,1)
 | a::l=>((hm n d l).1*n+a*(hm n d l).2,(hm n d l).2*d)
def QC(x:List Int)(n d:Int):Int:=(hm n d x).1.sign
theorem apm{s k u:Nat}{n d:Int}(hn:sz 2 n<=u)(hd:sz 2 d<=u)(hu:1<=u):∀ {x:List Int},Bd 2 s k x->sz 2 (hm n d x).1<=s+x.length*(u+1)∧sz 2 (hm n d x).2<=x.length*u+1
 | [],_=>⟨by show sz 2 0<=_;rw [show sz 2 0=0 by decide];omega,by show sz 2 1<=_;exact Nat.le_trans (dZ (k:=1) aF aF) aA⟩
 | a::l,h=>by
  obtain⟨h1,h2⟩:=apm hn hd hu (x:=l) ⟨Nat.le_trans aG h.len,fun c hc=>h.sz c (by simp [hc])⟩
  have ha:=h.sz a aG
  have e:(a::l).length*u=l.length*u+u:=by rw [List.length_cons,Nat.add_mul];omega
  have e':(a::l).length*(u+1)=l.length*u+l.length+u+1:=by rw [List.length_cons,Nat.add_mul,Nat.mul_add];omega
  have e'':l.length*(u+1)=l.length*u+l.length:=by rw [Nat.mul_add];omega
  refine⟨?_,?_⟩
  ·have g1:=cW (b:=2) aF h1 hn
   have g2:=cW (b:=2) aF ha h2
   have:=qH (b:=2) aF (Nat.le_trans g1 (Nat.le_max_left _ (s+(l.length*u+1)))) (Nat.le_trans g2 (Nat.le_max_right (s+l.length*(u+1)+u) _))
   refine Nat.le_trans this ?_
   rw [e',e'']
   omega
  ·have:=cW (b:=2) aF h2 hd
   rw [e]
   exact Nat.le_trans this aA
theorem DM(p q p' q':Int)(hp:sz 2 p<=YY)(hq:sz 2 q<=YY)(pT:sz 2 p'<=YY)(hq':sz 2 q'<=YY):aC 14 [R2 p q,R2 p' q'] (aB (eA (p*q') (p'*q))):=by
 have zz:∀ {x:Int},sz 2 x<=YY->Z x:=fun h=>by simp only [Z,YY]at *;omega
 have s1:=cW (b:=2) aF hp hq'
 have s2:=cW (b:=2) aF pT hq
 have m1:=gL p q' (zz hp) (zz hq')
 have m2:=gL p' q (zz pT) (zz hq)
 have c1:=ahx (p*q') (p'*q) (by simp only [Z,YY]at *;omega) (by simp only [Z,YY]at *;omega)
 generalize eA (p*q') (p'*q)=r at *
 generalize p*q'=x1 at *
 generalize p'*q=x2 at *
 apply cG [(0,R2 p q),(1,R2 p' q')] Tryz.func14
 apply kR [2,3]
 apply kZ m1
 apply fV m2 c1
 exact gI [4]
theorem oW(p q:Rat)(hp:ZR YY p)(hq:ZR YY q):aC 14 [RR p,RR q] (aB (eA (p.num*q.den) (q.num*p.den))):=by
 rw [cU,cU];exact DM _ _ _ _ hp.n hp.d hq.n hq.d
@[simp] theorem QD:aV DD 1 = [1]:=by decide
theorem aej(x:List Int)(hl:x.length<9223372036854775808):aC 152 [PI x] (.bool true):=by
 apply cG [(0,PI x)] Tryz.func152
 apply aQ [0]
 apply eE [0,5,6]
 refine W.bB (fun k σ=>∃(i:Nat),bF σ [(0,PI x),(5,aB x.length),(6,aB i)] fun rows clk=>i+k=x.length) x.length ?_ ?_
 ·exact⟨_, .refl,0,_,_,rfl,aA⟩
 rintro k _ ⟨i,rows,clk,rfl,hI⟩
 apply cN [0,5,6,7]
 refine W.cond ⟨_,rfl,fun h=>?_,fun h=>?_⟩
 ·have hi:i<x.length:=by simp at h;omega
  apply oR [0,3,5,6]
  apply fJ hi [0,5,6,27]
  refine W.cond ⟨_,rfl,fun h=>?_,fun h=>?_⟩
  ·simp at h
   exact absurd rfl h
  ·apply W.skip
   refine W.bY (fun K hK=>?_);simp (disch:=omega) [gw]
   refine hK _ ⟨k-1,_,aD _ [0,5,6],aA,i+1,_,_,rfl,aA⟩
 ·exact uW [2]
theorem xP{x:List Int}{n d:Int}{k u:Nat}(hx:Bd 2 s k x)(hn:sz 2 n<=u)(hd:sz 2 d<=u)(hu:1<=u)(hk:k<1099511627776)(hB:s+k*(u+1)+u<YY):aC 77 [PI x,R2 n d] (aB (QC x n d)):=by
 have hl:=hx.len
 have hW:=aej x aA
 have hO:=rN 1 aF aF
 have zz:∀ {x:Int},sz 2 x<=YY->Z x:=fun h=>by simp only [Z,YY]at *;omega
 have hY:YY=137438953472:=rfl
 have bd:=fun i=>apm (s:=s) (k:=k) (x:=x.drop i) hn hd hu ⟨by simp;omega,fun c hc=>hx.sz c (List.mem_of_mem_drop hc)⟩
 have hle:∀i,(x.drop i).length*(u+1)<=k*(u+1):=fun i=>Nat.mul_le_mul_right _ (by simp;omega)
 have aix:∀i,(x.drop i).length*u<=(x.drop i).length*(u+1):=fun i=>Nat.mul_le_mul_left _ aA
 have step:∀i,i<x.length->hm n d (x.drop i)=((hm n d (x.drop (i+1))).1*n+nth x i*(hm n d (x.drop (i+1))).2,(hm n d (x.drop (i+1))).2*d):=fun i hi=>by
  rw [List.drop_eq_getElem_cons hi,bZ hi];rfl
 have ZI:hm n d (x.drop x.length)=(0,1):=by rw [List.drop_length];rfl
 have hS:=ML (hm n d x).1
 have h0:hm n d (x.drop 0)=hm n d x:=rfl
 have hs:QC x n d=(hm n d x).1.sign:=rfl
 rw [hs]
 have M:∀i,i<x.length->aC 63 [RI (hm n d (x.drop (i+1))).1,RI n] (RI ((hm n d (x.drop (i+1))).1*n))∧aC 63 [RI (nth x i),RI (hm n d (x.drop (i+1))).2] (RI (nth x i*(hm n d (x.drop (i+1))).2)) ∧
   aC 154 [RI ((hm n d (x.drop (i+1))).1*n),RI (nth x i*(hm n d (x.drop (i+1))).2)] (RI (hm n d (x.drop i)).1)∧aC 63 [RI (hm n d (x.drop (i+1))).2,RI d] (RI (hm n d (x.drop i)).2):=fun i hi=>by
  obtain⟨b1,b2⟩:=bd (i+1)
  have l1:=hle (i+1)
  have l2:=aix (i+1)
  have ha:=hx.sz _ (bO hi)
  have g1:=cW (b:=2) aF b1 hn
  have g2:=cW (b:=2) aF ha b2
  have e:=step i hi
  rw [e]
  exact⟨gL _ _ (zz aA) (zz aA),gL _ _ (zz aA) (zz aA),IA _ _ (by simp only [Z];omega) (by simp only [Z];omega),gL _ _ (zz aA) (zz aA)⟩
 clear bd hle aix step
 generalize hm n d x=r0 at *
 apply cG [(0,PI x),(1,R2 n d)] Tryz.func77
 apply cN [0,3]
 apply cK hW [0,3,10]
 refine W.cond ⟨_,rfl,fun h=>?_,fun h=>?_⟩
 ·simp at h
 apply W.skip
 apply gJ [0,3,5] hO [0,3,5,6]
 apply cQ [0,3,5,6,7]
 refine W.row (id:=5) (els:=[[.nil, .bool false]]) [[aJ aI (aV DD (0:Int).natAbs), .bool (decide ((0:Int)<0))]] (by simp;first | exact⟨rfl,rfl,rfl⟩ | exact⟨rfl,rfl⟩ | rfl) ⟨⟨.inr ⟨rfl,rfl⟩, .inl rfl,trivial⟩,trivial⟩ ?_
 apply W.block
 refine W.bB (fun k σ=>∃(v3 v5 v6 e3 e5 e6:Nat),bF σ [(0,PI x),(3, .ptr 3 v3 0 0),(5, .ptr 5 v5 0 0),(6, .ptr 6 v6 0 0),(7,aB ((k:Int)-1))] fun rows clk=>k<=x.length ∧
  rows 3=some ⟨v3,e3,4,[[aJ aI (aV DD n.natAbs), .bool (decide (n<0)),aJ aI (aV DD d.natAbs), .bool (decide (d<0))]]⟩ ∧
  rows 5=some ⟨v5,e5,2,[[aJ aI (aV DD (hm n d (x.drop k)).1.natAbs), .bool (decide ((hm n d (x.drop k)).1<0))]]⟩ ∧
  rows 6=some ⟨v6,e6,2,[[aJ aI (aV DD (hm n d (x.drop k)).2.natAbs), .bool (decide ((hm n d (x.drop k)).2<0))]]⟩) x.length ?_ ?_
 ·exact⟨_, .refl,_,_,_,_,_,_,_,_,rfl,Nat.le_refl _,by simp;(first | exact⟨rfl,rfl,rfl⟩ | exact⟨rfl,rfl⟩ | rfl),by rw [ZI];simp;(first | exact⟨rfl,rfl,rfl⟩ | exact⟨rfl,rfl⟩ | rfl),by rw [ZI];simp;(first | exact⟨rfl,rfl,rfl⟩ | exact⟨rfl,rfl⟩ | rfl)⟩
 rintro k _ ⟨v3,v5,v6,e3,e5,e6,rows,clk,rfl,hkl,bK,dX,mT⟩
 apply cQ [0,3,5,6,7,21]
 refine W.cond ⟨_,rfl,fun h=>?_,fun h=>?_⟩
 ·have CP:0<k:=by simp at h;omega
  obtain⟨k,rfl⟩:∃j,k=j+1:=⟨k-1,aA⟩
  obtain⟨m1,m2,m3,m4⟩:=M k aA
  generalize hm n d (x.drop (k+1))=A at *
  have e1:(((k+1:Nat):Int)-1).toNat=k:=aA
  apply (iE)
  apply W.sd
  apply C6 bK dX mT m1
  simp (disch:=omega) [gw,e1]
  try simp (disch:=omega) [gw,e1,mT]
  apply jW m2
  apply j9 m3
  apply eV dX
  try (refine aY cT ?_)
  try simp (disch:=omega) [gw,dX]
  apply cO [0,3,5,6,7]
  refine W.bY fun K hK=>?_
  apply j7 bK mT m4
  apply eV mT
  refine W.lw [0,3,5,6,7] hK ?_;clear hK K;simp
  refine W.bY (fun K hK=>?_);simp (disch:=omega) [gw]
  refine hK _ ⟨k,_,aD _ [0,3,5,6,7],aA,v3,v5,v6,_,_,_,_,_,rfl,aA,by simp [bK];exact rfl,by simp;exact rfl,by simp;exact rfl⟩
 ·have CP:k=0:=by simp at h;omega
  subst CP
  rw [h0]at dX
  apply (jV)
  apply j0 dX hS
  exact gI [4]
end Go.Proofs.YtiobceocpabjdaaGreat
namespace Go.Proofs.YtiobceocpabjdaaGreat
open Go Pm
open ZX hiding N W
variable {s n:Nat}{a b f:ZX}
theorem aiy{y:List Int}(cy:Cn y)(hy:0<y.length):∀(n:Nat) (x:List Int),Cn x->x.length<n -> ∃(m:Int) (q:List Int),0<m ∧ ∀t,m*V t x=V t q*V t y+V t (rq y n x)
 | 0,x,_,h=>by omega
 | n+1,x,cx,h=>by
  rw [rq]
  split
  ·exact⟨1,[],aF,fun t=>by simp [V]⟩
  ·rename_i h1
   have hl:=xN hy (show y.length<=x.length by omega)
   obtain⟨m,q,hm,h4⟩:=aiy cy hy n (rq1 y x) (Cn.iB _ _) aA
   have AF:=dO cy hy
   refine⟨m*(lead y).natAbs,kC q (bJ (uX (x.length-y.length) (CU (lead y)*lead x)) m),Int.mul_pos hm aA,fun t=>?_⟩
   have h5:=aiv t y x
   have h6:=h4 t
   rw [vS,dA,rM]
   have:m*((lead y).natAbs:Int)*V t x=m*(((lead y).natAbs:Int)*V t x):=aT
   rw [this,h5]
   grind
theorem aiz{x y s q:List Int}{D:Int}(cx:Cn x)(cy:Cn y)(hy:0<y.length)(cs:Cn s)(hs:s.length<y.length)(hD:0<D)(hv:∀t,D*V t x=V t q*V t y+V t s):UK x y=mS s:=by
 have hV:=fun t=>ag9 t x y
 have hl:=O3 (a:=x) hy
 obtain⟨c1,c2⟩:=HY (b:=y) cx
 rw [ahS cx]
 have AF:=dO cy hy
 have zF:lead y^mA x y≠0:=Int.pow_ne_zero AF
 have U6:=ahQ (lead y) (mA x y)
 have hsq:=ahR (lead y) (mA x y)
 generalize sg (lead y) (mA x y)=g at *
 generalize (EL x y).1=p at *
 generalize (EL x y).2=r at *
 generalize hc:lead y^mA x y=c at *
 have hm:0<((lead y).natAbs:Int)^mA x y:=Int.pow_pos aA
 generalize ((lead y).natAbs:Int)^mA x y=m at *
 have e:∀t,V t (iB (s.map (· * c)) (r.map (· * D)))=V t y*V t (iB (p.map (· * D)) (q.map (· * c))):=fun t=>by
  have h1:=hv t
  have h2:=hV t
  rw [k8,k8,fB,fB,fB,fB]
  have h3:c*(D*V t x)=c*(V t q*V t y+V t s):=by rw [h1]
  have h4:D*(V t p*V t y+V t r)=D*(c*V t x):=by rw [h2]
  grind
 have h1:=MB (Cn.iB _ _) cy hy e (by
  have:=BA (s.map (· * c)) (r.map (· * D))
  simp only [List.length_map]at this
  omega)
 have CT:D≠0:=aA
 have e1:s.map (· * c)=r.map (· * D):=Cn.ext (oC cs zF) (oC c2 CT) fun t=>US (by rw [h1];rfl) t
 rw [<-ET cs hm,<-ET (Cn.bJ r g) hD]
 congr 1
 refine Cn.ext (Cn.bJ _ _) (Cn.bJ _ _) fun t=>?_
 have e2:V t s*c=V t r*D:=by rw [<-fB,e1,fB]
 rw [dA,dA,dA]
 have h5:m=g*c:=by rw [U6];grind
 rw [h5]
 have:V t s*(g*c)=g*(V t s*c):=aT
 rw [this,e2];grind
def uS(a:ZX):ZX:=⟨mS a.l,Cn.cut _⟩
def nx(a b:ZX):ZX:=⟨jP (mS (rz a b).l),Cn.jP _⟩
theorem aek(hb:b≠0):ZX.N (nx a b)<ZX.N b:=by
 obtain⟨_,hN,_⟩:=xO (a:=a) hb
 have h1:=UN (mS (rz a b).l)
 have h2:=oV (rz a b).l
 have h3:ZX.N (nx a b)=(jP (mS (rz a b).l)).length:=rfl
 have h4:ZX.N (rz a b)=(rz a b).l.length:=rfl
 omega
theorem ab0(ha:BZ s n a)(hb:BZ s n b)(h0:b≠0):BZ (s+(ZX.N a+1-ZX.N b)*(s+n+1)) n (nx a b):=Bd.jP (lR (abZ ha hb h0))
def zS:Nat->ZX->ZX->List ZX
 | 0,_,_=>[]
 | k+1,a,b=>if ZX.N b=0 then []else b::zS k b (nx a b)
theorem nS(k:Nat)(a:ZX):zS k a 0 = []:=by cases k<;>simp [zS,show ZX.N 0=0 by decide]
theorem JA:∀ {k j:Nat} {a b:ZX},ZX.N b<=k->ZX.N b<=j->zS k a b=zS j a b
 | 0,j,a,b,h,_=>by
  have:b=0:=Classical.byContradiction fun h0=>by have:=ZX.aH.1 h0;omega
  rw [this,nS,nS]
 | k+1,0,a,b,_,h=>by
  have:b=0:=Classical.byContradiction fun h0=>by have:=ZX.aH.1 h0;omega
  rw [this,nS,nS]
 | k+1,j+1,a,b,h1,h2=>by
  rw [zS,zS]
  split
  ·rfl
  ·rename_i h0
   have:=aek (a:=a) (ZX.aH.2 (Nat.pos_of_ne_zero h0))
   rw [JA (k:=k) (j:=j) aA aA]
def aO(f:ZX):List ZX:=f::zS (ZX.N f) f (uS (cD f))
theorem asZ(x:List Int):PP (qd x 1)=PI x:=by rw [PO];show PV.sl (emap re (qs x))=PV.sl (emap ri x);rw [IX]
theorem E3(b:BZ s n a)(sX:1<=s)(hs:s<=YY)(hn:n<1099511627776):aC 159 [PI a.l] (PI (uS a).l):=by
 have:=UP a.l 1 aF b (by exact Nat.le_trans (dZ (k:=1) aF aF) sX) a.c sX hs hn
 rw [show((1:Nat):Int)=1 from rfl,asZ]at this
 exact this
structure Ch(s n:Nat)(f:ZX):Prop where
 bz:BZ s n f
 hn:n<=20
 rB:1<=n
 hC:(s+5+n+1)*4^n<=4500000000
theorem Ch.pot(h:Ch s n f):E2 4500000000 n (s+5) f (uS (cD f)):=by
 have h1:=qO f
 have h2:ZX.N (uS (cD f))<=ZX.N (cD f):=oV _
 have h3:=h.bz.N
 have hn:=h.rB
 unfold E2
 split
 ·exact Nat.le_trans (Nat.mul_le_mul_left _ (Nat.pow_le_pow_right aF h3)) h.hC
 ·have h4:ZX.N (uS (cD f))=0:=by omega
  have h5:=h.hC
  rw [h4,Nat.pow_zero,Nat.mul_one]
  exact Nat.le_trans (Nat.mul_le_mul_left _ (show 2<=4^n from Nat.le_trans aF (Nat.pow_le_pow_right (n:=4) aF hn))) h5
theorem aiA{l:List ZX}{i:Nat}(h:i<l.length):nth (l ++ [a]) i=nth l i:=by
 simp only [nth,List.getElem?_append_left h]
theorem E4(hS:aC 158 [PI a.l] (PI f.l))(h:Ch s n f)(h1:1<=s):aC 81 [PI a.l] (aJ zq (aO f)):=by
 have hn:=h.hn
 have hp:=h.pot
 have hs:=hp.le
 have bd:BZ (s+5) n (cD f):=h.bz.cD aA
 have d1:=tZ h.bz (by show s<=137438953472;omega) aA
 have d2:=E3 bd aA (by show s+5<=137438953472;omega) aA
 have b2:BZ (s+5) n (uS (cD f)):=lR bd
 have b1:BZ (s+5) n f:=h.bz.mono aA (Nat.le_refl _)
 have K5:ZX.N (uS (cD f))<=ZX.N f:=Nat.le_trans (oV _) (Nat.le_trans (qO f) aA)
 have hc:aO f=f::zS (ZX.N f) f (uS (cD f)):=rfl
 rw [JA K5 (Nat.le_refl _)]at hc
 generalize hC:aO f=C at *
 generalize uS (cD f)=g0 at *
 generalize (cD f).l=dl at *
 have LR:f.l=f.l:=rfl
 apply cG [(0,PI a.l)] Tryz.func81
 apply gJ [0] hS [3]
 refine W.aiw 1 rfl rfl fun K hK=>?_
 apply (cV)
 refine W.lw [3,4] hK ?_;clear hK K;simp
 apply n7 d1 d2
 apply bT [4,5]
 apply (nC)
 refine W.bB (fun k σ=>∃(L:List ZX) (x g:ZX) (i ver s:Nat),bF σ [(4, .own 9 ver 0 (i+1)),(5,PI g.l)] fun rows clk=>rows 9=some ⟨ver,46,1,emap zq L⟩∧L.length=i+1∧nth L i=x ∧
  L++zS k x g=C∧k=ZX.N g∧BZ s n x∧BZ s n g∧1<=s∧E2 4500000000 n s x g∧i+ZX.N g<=20) (ZX.N g0) ?_ ?_
 ·exact⟨_, .refl,[f],f,g0,0,_,s+5,_,_,rfl,by simp [emap],rfl,rfl,hc.symm,rfl,b1,b2,aA,hp,by have:=b2.N;omega⟩
 rintro k _ ⟨L,x,g,i,ver,s,rows,clk,rfl,hr,hL,hx,Y9,rfl,bx,bg,h1,hp,hiN⟩
 have hs:=hp.le
 have hlx:=bx.len
 have hlg:=bg.len
 have hLl:(emap zq L).length=i+1:=by simp [emap,hL]
 apply cQ [4,5,15]
 refine W.cond ⟨_,rfl,fun h=>?_,fun h=>?_⟩
 ·have hg:g≠0:=ZX.aH.2 (by show 0<g.l.length;simp at h;omega)
  obtain⟨hrl,hN,_⟩:=xO (a:=x) hg
  have br:=abZ bx bg hg
  have hmul:(x.l.length+1-g.l.length+1)*(s+n+1)<=22*4500000000:=Nat.mul_le_mul aA aA
  have apl:(ZX.N x+1-ZX.N g)*(s+n+1)<=22*4500000000:=Nat.mul_le_mul (by have:ZX.N x=x.l.length:=rfl;omega) aA
  have hR:=M3 (s:=s) (s':=s) (N:=n) bx bg x.c g.c (ZX.aH.1 hg) aA (by show _<137438953472;omega)
  rw [<-hrl]at hR
  have hZ:=E3 br aA (by show _<=137438953472;omega) aA
  have hNg:=MQ (uS (rz x g)).l ((lR br).mono (by show _<=137438953472;omega) aA)
  have e3:jP (uS (rz x g)).l=(nx x g).l:=rfl
  rw [e3]at hNg
  have K5:=aek (a:=x) hg
  have WO:=hp.step K5
  have bn:=ab0 bx bg hg
  have hi:i<L.length:=aA
  have hx2:nth (L ++ [g]) i=x:=by rw [aiA hi];exact hx
  have azp:i<(L ++ [g]).length:=by simp;omega
  have hch:L ++ [g]++zS (ZX.N (nx x g)) g (nx x g)=C:=by
   rw [<-Y9]
   obtain⟨j,hj⟩:∃j,ZX.N g=j+1:=⟨ZX.N g-1,by have:=ZX.aH.1 hg;have:ZX.N g=g.l.length:=rfl;omega⟩
   rw [hj,zS,if_neg aA,JA (k:=j) (j:=ZX.N (nx x g)) aA (Nat.le_refl _)]
   simp
  generalize (rz x g).l=rl at *
  generalize (uS (rz x g)).l=pl at *
  generalize hnx:nx x g=nn at *
  have hnl:nn.l=nn.l:=rfl
  apply (uV)
  apply qY hr hLl [4,5]
  have e1:((i:Int)+1+1-2).toNat=i:=aA
  refine W.bY fun K hK=>?_
  simp (disch:=omega) [gw,e1,azp,hx2]
  apply j9 hR
  apply fV hZ hNg
  apply (cV)
  refine hK _ ⟨ZX.N nn,_,aD _ [4,5],K5,L ++ [g],g,nn,i+1,_,_,_,_,rfl,aG,by simp [hL],?_,hch,rfl,bg.mono aA (Nat.le_refl _),bn,aA,WO,aA⟩
  rw [bZ (by simp;omega)]
  simp [<-hL]
 ·have hg:g=0:=by
   refine Classical.byContradiction fun h0=>?_
   have h1:=ZX.aH.1 h0
   have h2:ZX.N g=g.l.length:=rfl
   simp at h;rw [h2,h]at h1;simp at h1
  subst hg
  rw [nS,List.append_nil]at Y9
  subst Y9
  have CQ:List.take (i+1) L=L:=List.take_of_length_le aA
  apply xY [2]
  apply W.ret
  simp [go,hr,hLl,CQ]
end Go.Proofs.YtiobceocpabjdaaGreat
