import Derived.Test.YtiobceocpabjdaaGreatKai
import Derived.Test.YtiobceocpabjdaaGreatKaj
import Derived.Test.YtiobceocpabjdaaGreatKak
set_option linter.unusedSimpArgs false
set_option linter.unusedVariables false
namespace Go.Proofs.YtiobceocpabjdaaGreat
open Go Pm
abbrev R2(n d:Int):PV:=.ag [aH aG (aR DD n.natAbs), .bool (decide (n<0)),aH aG (aR DD d.natAbs), .bool (decide (d<0))]
theorem dJ(q:Rat):RR q=R2 q.num q.den:=by
 have:decide ((q.den:Int)<0)=false:=decide_eq_false (by omega)
 show PV.ag (re q)=PV.ag _
 rw [this];rfl
def hm(n d:Int):List Int→Int × Int
 | []=>(0,1)
 | a::l=>((hm n d l).1*n+a*(hm n d l).2,(hm n d l).2*d)
def LX(x:List Int)(n d:Int):Int:=(hm n d x).1.sign
theorem amR{s k u:Nat}{n d:Int}(hn:sz 2 n≤u)(hd:sz 2 d≤u)(hu:1≤u):∀ {x:List Int},Bd 2 s k x→sz 2 (hm n d x).1≤s+x.length*(u+1)∧sz 2 (hm n d x).2≤x.length*u+1
 | [],_=>⟨by show sz 2 0≤_;rw [show sz 2 0=0 by decide];omega,by show sz 2 1≤_;exact Nat.le_trans (dV (k:=1) (by decide) (by decide)) (by omega)⟩
 | a::l,h=>by
  obtain⟨h1,h2⟩:=amR hn hd hu (x:=l) ⟨Nat.le_trans (by simp) h.len,fun c hc=>h.sz c (by simp [hc])⟩
  have ha:=h.sz a (by simp)
  have e:(a::l).length*u=l.length*u+u:=by rw [List.length_cons,Nat.add_mul];omega
  have e':(a::l).length*(u+1)=l.length*u+l.length+u+1:=by rw [List.length_cons,Nat.add_mul,Nat.mul_add];omega
  have e'':l.length*(u+1)=l.length*u+l.length:=by rw [Nat.mul_add];omega
  refine⟨?_,?_⟩
  ·have g1:=cP (b:=2) (by decide) h1 hn
   have g2:=cP (b:=2) (by decide) ha h2
   have:=n6 (b:=2) (by decide) (Nat.le_trans g1 (Nat.le_max_left _ (s+(l.length*u+1)))) (Nat.le_trans g2 (Nat.le_max_right (s+l.length*(u+1)+u) _))
   refine Nat.le_trans this ?_
   rw [e',e'']
   omega
  ·have:=cP (b:=2) (by decide) h2 hd
   rw [e]
   exact Nat.le_trans this (by omega)
theorem I4(p q p' q':Int)(hp:sz 2 p≤YY)(hq:sz 2 q≤YY)(yT:sz 2 p'≤YY)(hq':sz 2 q'≤YY):aE env.P 14 [R2 p q,R2 p' q'] (.int .i64 (dP (p*q') (p'*q))):=by
 have zz:∀ {x:Int},sz 2 x≤YY→Z x:=fun h=>by simp only [Z,YY]at *;omega
 have s1:=cP (b:=2) (by decide) hp hq'
 have s2:=cP (b:=2) (by decide) yT hq
 have m1:=fD p q' (zz hp) (zz hq')
 have m2:=fD p' q (zz yT) (zz hq)
 have c1:=aeE (p*q') (p'*q) (by simp only [Z,YY]at *;omega) (by simp only [Z,YY]at *;omega)
 generalize dP (p*q') (p'*q)=r at *
 generalize p*q'=x1 at *
 generalize p'*q=x2 at *
 refine cB [(0,R2 p q),(1,R2 p' q')] Tryz.func14 ?_
 refine aA [2,3] ?_
 refine nH ?_
 refine cM m1 ?_
 refine cM m2 ?_
 refine cN [4] c1 ?_
 exact bZ
theorem qG(p q:Rat)(hp:ZR YY p)(hq:ZR YY q):aE env.P 14 [RR p,RR q] (.int .i64 (dP (p.num*q.den) (q.num*p.den))):=by
 rw [dJ,dJ];exact I4 _ _ _ _ hp.n hp.d hq.n hq.d
@[simp] theorem ajW:aR DD 1 = [1]:=by decide
theorem abI(x:List Int)(hl:x.length<9223372036854775808):aE env.P 152 [PI x] (.bool true):=by
 refine cB [(0,PI x)] Tryz.func152 ?_
 refine aA [0] ?_
 refine aK [0,5,6] ?_
 refine W.block ?_
 refine W.aY (fun k σ=>∃(i:Nat) (rows:Pm.Rows) (clk:Nat),σ=⟨fa [(0,PI x),(5, .int .i64 x.length),(6, .int .i64 i)],rows,clk⟩∧i+k=x.length) x.length ?_ ?_
 ·exact⟨_, .refl,0,_,_,rfl,by omega⟩
 rintro k _ ⟨i,rows,clk,rfl,hI⟩
 refine bT [0,5,6,7] ?_
 refine bH ?_ ?_<;>intro h
 ·have hi:i<x.length:=by simp at h;omega
  refine j7 ?_
  refine aA [0,3,5,6] ?_
  refine W.sr ?_
  simp (disch:=omega) [gw,hi]
  refine bI [0,5,6,27] ?_
  refine bH ?_ ?_<;>intro h
  ·simp at h
   exact absurd rfl h
  ·refine W.skip ?_
   refine W.bY (fun K hK=>?_);simp (disch:=omega) [gw]
   refine hK _ ⟨k-1,_,aB _ [0,5,6],by omega,i+1,_,_,rfl,by omega⟩
 ·refine eW ?_
  refine aA [2] ?_
  exact bZ
theorem uM{x:List Int}{n d:Int}{s k u:Nat}(hx:Bd 2 s k x)(hn:sz 2 n≤u)(hd:sz 2 d≤u)(hu:1≤u)(hk:k<1099511627776)(hB:s+k*(u+1)+u<YY):aE env.P 77 [PI x,R2 n d] (.int .i64 (LX x n d)):=by
 have hl:=hx.len
 have hW:=abI x (by omega)
 have hO:=oZ 1 (by decide) (by decide)
 have zz:∀ {x:Int},sz 2 x≤YY→Z x:=fun h=>by simp only [Z,YY]at *;omega
 have hY:YY=137438953472:=rfl
 have bd:=fun i=>amR (s:=s) (k:=k) (x:=x.drop i) hn hd hu ⟨by simp;omega,fun c hc=>hx.sz c (List.mem_of_mem_drop hc)⟩
 have hle:∀i,(x.drop i).length*(u+1)≤k*(u+1):=fun i=>Nat.mul_le_mul_right _ (by simp;omega)
 have afE:∀i,(x.drop i).length*u≤(x.drop i).length*(u+1):=fun i=>Nat.mul_le_mul_left _ (by omega)
 have step:∀i,i<x.length→hm n d (x.drop i)=((hm n d (x.drop (i+1))).1*n+nth x i*(hm n d (x.drop (i+1))).2,(hm n d (x.drop (i+1))).2*d):=fun i hi=>by
  rw [List.drop_eq_getElem_cons hi,cE hi];rfl
 have afF:hm n d (x.drop x.length)=(0,1):=by rw [List.drop_length];rfl
 have hS:=ID (hm n d x).1
 have h0:hm n d (x.drop 0)=hm n d x:=rfl
 have hs:LX x n d=(hm n d x).1.sign:=rfl
 rw [hs]
 have M:∀i,i<x.length→aE env.P 63 [RI (hm n d (x.drop (i+1))).1,RI n] (RI ((hm n d (x.drop (i+1))).1*n))∧aE env.P 63 [RI (nth x i),RI (hm n d (x.drop (i+1))).2] (RI (nth x i*(hm n d (x.drop (i+1))).2)) ∧
   aE env.P 154 [RI ((hm n d (x.drop (i+1))).1*n),RI (nth x i*(hm n d (x.drop (i+1))).2)] (RI (hm n d (x.drop i)).1)∧aE env.P 63 [RI (hm n d (x.drop (i+1))).2,RI d] (RI (hm n d (x.drop i)).2):=fun i hi=>by
  obtain⟨b1,b2⟩:=bd (i+1)
  have l1:=hle (i+1)
  have l2:=afE (i+1)
  have ha:=hx.sz _ (bJ hi)
  have g1:=cP (b:=2) (by decide) b1 hn
  have g2:=cP (b:=2) (by decide) ha b2
  have e:=step i hi
  rw [e]
  exact⟨fD _ _ (zz (by omega)) (zz (by omega)),fD _ _ (zz (by omega)) (zz (by omega)),EK _ _ (by simp only [Z];omega) (by simp only [Z];omega),fD _ _ (zz (by omega)) (zz (by omega))⟩
 clear bd hle afE step
 generalize hm n d x=r0 at *
 refine cB [(0,PI x),(1,R2 n d)] Tryz.func77 ?_
 refine aA [0,3] ?_
 refine W.seq ?_
 refine aL [0,3,10] hW ?_
 refine bH ?_ ?_<;>intro h
 ·simp at h
 refine W.skip ?_
 refine aA [0,3,5] ?_
 refine aL [0,3,5,6] hO ?_
 refine aK [0,3,5,6,7] ?_
 refine W.row (id:=5) (els:=[[.nil, .bool false]]) [[aH aG (aR DD (0:Int).natAbs), .bool (decide ((0:Int)<0))]] (by simp;first | exact⟨rfl,rfl,rfl⟩ | exact⟨rfl,rfl⟩ | rfl) ⟨⟨.inr ⟨rfl,rfl⟩, .inl rfl,trivial⟩,trivial⟩ ?_
 refine W.block ?_
 refine W.aY (fun k σ=>∃(v3 v5 v6 e3 e5 e6:Nat) (rows:Pm.Rows) (clk:Nat),σ=⟨fa [(0,PI x),(3, .ptr 3 v3 0 0),(5, .ptr 5 v5 0 0),(6, .ptr 6 v6 0 0),(7, .int .i64 ((k:Int)-1))],rows,clk⟩∧k≤x.length ∧
  rows 3=some ⟨v3,e3,4,[[aH aG (aR DD n.natAbs), .bool (decide (n<0)),aH aG (aR DD d.natAbs), .bool (decide (d<0))]]⟩ ∧
  rows 5=some ⟨v5,e5,2,[[aH aG (aR DD (hm n d (x.drop k)).1.natAbs), .bool (decide ((hm n d (x.drop k)).1<0))]]⟩ ∧
  rows 6=some ⟨v6,e6,2,[[aH aG (aR DD (hm n d (x.drop k)).2.natAbs), .bool (decide ((hm n d (x.drop k)).2<0))]]⟩) x.length ?_ ?_
 ·exact⟨_, .refl,_,_,_,_,_,_,_,_,rfl,Nat.le_refl _,by simp;(first | exact⟨rfl,rfl,rfl⟩ | exact⟨rfl,rfl⟩ | rfl),by rw [afF];simp;(first | exact⟨rfl,rfl,rfl⟩ | exact⟨rfl,rfl⟩ | rfl),by rw [afF];simp;(first | exact⟨rfl,rfl,rfl⟩ | exact⟨rfl,rfl⟩ | rfl)⟩
 rintro k _ ⟨v3,v5,v6,e3,e5,e6,rows,clk,rfl,hkl,bQ,dM,i9⟩
 refine aK [0,3,5,6,7,21] ?_
 refine bH ?_ ?_<;>intro h
 ·have zA:0<k:=by simp at h;omega
  obtain⟨k,rfl⟩:∃j,k=j+1:=⟨k-1,by omega⟩
  obtain⟨m1,m2,m3,m4⟩:=M k (by omega)
  generalize hm n d (x.drop (k+1))=A at *
  have e1:(((k+1:Nat):Int)-1).toNat=k:=by omega
  refine j7 ?_
  refine W.sd ?_
  simp (disch:=omega) [gw,bQ,dM,i9]
  refine aC m1 ?_
  simp (disch:=omega) [gw,e1]
  try simp (disch:=omega) [gw,e1,i9]
  refine cM m2 ?_
  refine aC m3 ?_
  simp (disch:=omega) [gw,dM]
  try (refine bE (by kernel_rfl) ?_)
  try simp (disch:=omega) [gw,dM]
  refine bI [0,3,5,6,7] ?_
  refine W.bY (fun K hK=>?_)
  simp (disch:=omega) [gw,bQ,i9]
  refine aC m4 ?_
  simp (disch:=omega) [gw,i9]
  refine W.lw [0,3,5,6,7] hK ?_;clear hK K;simp
  refine W.bY (fun K hK=>?_);simp (disch:=omega) [gw]
  refine hK _ ⟨k,_,aB _ [0,3,5,6,7],by omega,v3,v5,v6,_,_,_,_,_,rfl,by omega,by simp [bQ];exact rfl,by simp;exact rfl,by simp;exact rfl⟩
 ·have zA:k=0:=by simp at h;omega
  subst zA
  rw [h0]at dM
  refine eW ?_
  refine W.sr ?_
  simp (disch:=omega) [gw,dM]
  refine cN [4] hS ?_
  exact bZ
end Go.Proofs.YtiobceocpabjdaaGreat
namespace Go.Proofs.YtiobceocpabjdaaGreat
open Go Pm
open ZX hiding N W
theorem afG{y:List Int}(cy:Cn y)(hy:0<y.length):∀(n:Nat) (x:List Int),Cn x→x.length<n → ∃(m:Int) (q:List Int),0<m ∧ ∀t,m*V t x=V t q*V t y+V t (rq y n x)
 | 0,x,_,h=>by omega
 | n+1,x,cx,h=>by
  rw [rq]
  split
  ·exact⟨1,[],by decide,fun t=>by simp [V]⟩
  ·rename_i h1
   have hl:=uK hy (show y.length≤x.length by omega)
   obtain⟨m,q,hm,h4⟩:=afG cy hy n (Y5 y x) (Cn.fS _ _) (by omega)
   have AJ:=dH cy hy
   refine⟨m*(lead y).natAbs,i3 q (a9 (rV (x.length-y.length) (yX (lead y)*lead x)) m),Int.mul_pos hm (by omega),fun t=>?_⟩
   have h5:=afD t y x
   have h6:=h4 t
   rw [sV,cU,oY]
   have:m*((lead y).natAbs:Int)*V t x=m*(((lead y).natAbs:Int)*V t x):=by grind
   rw [this,h5]
   grind
theorem afH{x y s q:List Int}{D:Int}(cx:Cn x)(cy:Cn y)(hy:0<y.length)(cs:Cn s)(hs:s.length<y.length)(hD:0<D)(hv:∀t,D*V t x=V t q*V t y+V t s):QH x y=kW s:=by
 have hV:=fun t=>aem t x y
 have hl:=KV (a:=x) hy
 obtain⟨c1,c2⟩:=D9 (b:=y) cx
 rw [ae4 cx]
 have AJ:=dH cy hy
 have zG:lead y^j8 x y≠0:=Int.pow_ne_zero AJ
 have Q5:=ae2 (lead y) (j8 x y)
 have hsq:=ae3 (lead y) (j8 x y)
 generalize sg (lead y) (j8 x y)=g at *
 generalize (AX x y).1=p at *
 generalize (AX x y).2=r at *
 generalize hc:lead y^j8 x y=c at *
 have hm:0<((lead y).natAbs:Int)^j8 x y:=Int.pow_pos (by omega)
 generalize ((lead y).natAbs:Int)^j8 x y=m at *
 have e:∀t,V t (fS (s.map (· * c)) (r.map (· * D)))=V t y*V t (fS (p.map (· * D)) (q.map (· * c))):=fun t=>by
  have h1:=hv t
  have h2:=hV t
  rw [jM,jM,eK,eK,eK,eK]
  have h3:c*(D*V t x)=c*(V t q*V t y+V t s):=by rw [h1]
  have h4:D*(V t p*V t y+V t r)=D*(c*V t x):=by rw [h2]
  grind
 have h1:=H5 (Cn.fS _ _) cy hy e (by
  have:=xH (s.map (· * c)) (r.map (· * D))
  simp only [List.length_map]at this
  omega)
 have IU:D≠0:=by omega
 have e1:s.map (· * c)=r.map (· * D):=Cn.ext (mB cs zG) (mB c2 IU) fun t=>QP (by rw [h1];rfl) t
 rw [←A5 cs hm,←A5 (Cn.a9 r g) hD]
 congr 1
 refine Cn.ext (Cn.a9 _ _) (Cn.a9 _ _) fun t=>?_
 have e2:V t s*c=V t r*D:=by rw [←eK,e1,eK]
 rw [cU,cU,cU]
 have h5:m=g*c:=by rw [Q5];grind
 rw [h5]
 have:V t s*(g*c)=g*(V t s*c):=by grind
 rw [this,e2];grind
def rS(a:ZX):ZX:=⟨kW a.l,Cn.cut _⟩
def nx(a b:ZX):ZX:=⟨iH (kW (rz a b).l),Cn.iH _⟩
theorem abJ{a b:ZX}(hb:b≠0):ZX.N (nx a b)<ZX.N b:=by
 obtain⟨_,hN,_⟩:=uL (a:=a) hb
 have h1:=QK (kW (rz a b).l)
 have h2:=mY (rz a b).l
 have h3:ZX.N (nx a b)=(iH (kW (rz a b).l)).length:=rfl
 have h4:ZX.N (rz a b)=(rz a b).l.length:=rfl
 omega
theorem Y9{s n:Nat}{a b:ZX}(ha:BZ s n a)(hb:BZ s n b)(h0:b≠0):BZ (s+(ZX.N a+1-ZX.N b)*(s+n+1)) n (nx a b):=Bd.iH (jW (Y8 ha hb h0))
def wG:Nat→ZX→ZX→List ZX
 | 0,_,_=>[]
 | k+1,a,b=>if ZX.N b=0 then []else b::wG k b (nx a b)
theorem lN(k:Nat)(a:ZX):wG k a 0 = []:=by cases k<;>simp [wG,show ZX.N 0=0 by decide]
theorem FG:∀ {k j:Nat} {a b:ZX},ZX.N b≤k→ZX.N b≤j→wG k a b=wG j a b
 | 0,j,a,b,h,_=>by
  have:b=0:=Classical.byContradiction fun h0=>by have:=ZX.aF.1 h0;omega
  rw [this,lN,lN]
 | k+1,0,a,b,_,h=>by
  have:b=0:=Classical.byContradiction fun h0=>by have:=ZX.aF.1 h0;omega
  rw [this,lN,lN]
 | k+1,j+1,a,b,h1,h2=>by
  rw [wG,wG]
  split
  ·rfl
  ·rename_i h0
   have:=abJ (a:=a) (ZX.aF.2 (Nat.pos_of_ne_zero h0))
   rw [FG (k:=k) (j:=j) (by omega) (by omega)]
def bA(f:ZX):List ZX:=f::wG (ZX.N f) f (rS (bX f))
theorem aqH(x:List Int):PP (qd x 1)=PI x:=by rw [LD];show PV.sl (emap re (qs x))=PV.sl (emap ri x);rw [E3]
theorem BG{s n:Nat}{a:ZX}(b:BZ s n a)(vT:1≤s)(hs:s≤YY)(hn:n<1099511627776):aE env.P 159 [PI a.l] (PI (rS a).l):=by
 have:=QM a.l 1 (by decide) b (by exact Nat.le_trans (dV (k:=1) (by decide) (by decide)) vT) a.c vT hs hn
 rw [show((1:Nat):Int)=1 from rfl,aqH]at this
 exact this
structure Ch(s n:Nat)(f:ZX):Prop where
 bz:BZ s n f
 hn:n≤20
 CI:1≤n
 hC:(s+5+n+1)*4^n≤4500000000
theorem Ch.pot{s n:Nat}{f:ZX}(h:Ch s n f):B3 4500000000 n (s+5) f (rS (bX f)):=by
 have h1:=oE f
 have h2:ZX.N (rS (bX f))≤ZX.N (bX f):=mY _
 have h3:=h.bz.N
 have hn:=h.CI
 unfold B3
 split
 ·exact Nat.le_trans (Nat.mul_le_mul_left _ (Nat.pow_le_pow_right (by decide) h3)) h.hC
 ·have h4:ZX.N (rS (bX f))=0:=by omega
  have h5:=h.hC
  rw [h4,Nat.pow_zero,Nat.mul_one]
  exact Nat.le_trans (Nat.mul_le_mul_left _ (show 2≤4^n from Nat.le_trans (by decide) (Nat.pow_le_pow_right (n:=4) (by decide) hn))) h5
theorem afI{l:List ZX}{a:ZX}{i:Nat}(h:i<l.length):nth (l ++ [a]) i=nth l i:=by
 simp only [nth,List.getElem?_append_left h]
theorem BH{s n:Nat}{a f:ZX}(hS:aE env.P 158 [PI a.l] (PI f.l))(h:Ch s n f)(h1:1≤s):aE env.P 81 [PI a.l] (aH zq (bA f)):=by
 have hn:=h.hn
 have hp:=h.pot
 have hs:=hp.le
 have bd:BZ (s+5) n (bX f):=h.bz.bX (by omega)
 have d1:=rD h.bz (by show s≤137438953472;omega) (by omega)
 have d2:=BG bd (by omega) (by show s+5≤137438953472;omega) (by omega)
 have b2:BZ (s+5) n (rS (bX f)):=jW bd
 have b1:BZ (s+5) n f:=h.bz.mono (by omega) (Nat.le_refl _)
 have IP:ZX.N (rS (bX f))≤ZX.N f:=Nat.le_trans (mY _) (Nat.le_trans (oE f) (by omega))
 have hc:bA f=f::wG (ZX.N f) f (rS (bX f)):=rfl
 rw [FG IP (Nat.le_refl _)]at hc
 generalize hC:bA f=C at *
 generalize rS (bX f)=g0 at *
 generalize (bX f).l=dl at *
 have hfl:f.l=f.l:=rfl
 refine cB [(0,PI a.l)] Tryz.func81 ?_
 refine aA [0] ?_
 refine aL [3] hS ?_
 refine W.amP 1 rfl rfl (fun K hK=>?_)
 simp (disch:=omega) [gw]
 refine W.lw [3,4] hK ?_;clear hK K;simp
 refine jG ?_
 refine cM d1 ?_
 refine cN [4,5] d2 ?_
 refine W.seq ?_
 refine W.block ?_
 refine W.aY (fun k σ=>∃(L:List ZX) (x g:ZX) (i ver s:Nat) (rows:Pm.Rows) (clk:Nat),σ=⟨fa [(4, .own 9 ver 0 (i+1)),(5,PI g.l)],rows,clk⟩∧rows 9=some ⟨ver,46,1,emap zq L⟩∧L.length=i+1∧nth L i=x ∧
  L++wG k x g=C∧k=ZX.N g∧BZ s n x∧BZ s n g∧1≤s∧B3 4500000000 n s x g∧i+ZX.N g≤20) (ZX.N g0) ?_ ?_
 ·exact⟨_, .refl,[f],f,g0,0,_,s+5,_,_,rfl,by simp [emap],rfl,rfl,hc.symm,rfl,b1,b2,by omega,hp,by have:=b2.N;omega⟩
 rintro k _ ⟨L,x,g,i,ver,s,rows,clk,rfl,hr,hL,hx,VD,rfl,bx,bg,h1,hp,hiN⟩
 have hs:=hp.le
 have hlx:=bx.len
 have hlg:=bg.len
 have hLl:(emap zq L).length=i+1:=by simp [emap,hL]
 refine aK [4,5,15] ?_
 refine bH ?_ ?_<;>intro h
 ·have hg:g≠0:=ZX.aF.2 (by show 0<g.l.length;simp at h;omega)
  obtain⟨hrl,hN,_⟩:=uL (a:=x) hg
  have br:=Y8 bx bg hg
  have hmul:(x.l.length+1-g.l.length+1)*(s+n+1)≤22*4500000000:=Nat.mul_le_mul (by omega) (by omega)
  have amQ:(ZX.N x+1-ZX.N g)*(s+n+1)≤22*4500000000:=Nat.mul_le_mul (by have:ZX.N x=x.l.length:=rfl;omega) (by omega)
  have hR:=I2 (s:=s) (s':=s) (N:=n) bx bg x.c g.c (ZX.aF.1 hg) (by omega) (by show _<137438953472;omega)
  rw [←hrl]at hR
  have hZ:=BG br (by omega) (by show _≤137438953472;omega) (by omega)
  have hNg:=IJ (rS (rz x g)).l ((jW br).mono (by show _≤137438953472;omega) (by omega))
  have e3:iH (rS (rz x g)).l=(nx x g).l:=rfl
  rw [e3]at hNg
  have IP:=abJ (a:=x) hg
  have SP:=hp.step IP
  have bn:=Y9 bx bg hg
  have hi:i<L.length:=by omega
  have hx2:nth (L ++ [g]) i=x:=by rw [afI hi];exact hx
  have axg:i<(L ++ [g]).length:=by simp;omega
  have hch:L ++ [g]++wG (ZX.N (nx x g)) g (nx x g)=C:=by
   rw [←VD]
   obtain⟨j,hj⟩:∃j,ZX.N g=j+1:=⟨ZX.N g-1,by have:=ZX.aF.1 hg;have:ZX.N g=g.l.length:=rfl;omega⟩
   rw [hj,wG,if_neg (by omega),FG (k:=j) (j:=ZX.N (nx x g)) (by omega) (Nat.le_refl _)]
   simp
  generalize (rz x g).l=rl at *
  generalize (rS (rz x g)).l=pl at *
  generalize hnx:nx x g=nn at *
  have hnl:nn.l=nn.l:=rfl
  refine W.skip ?_
  refine W.block ?_
  refine W.sr ?_
  simp (disch:=omega) [gw,hr,hLl]
  refine bI [4,5] ?_
  have e1:((i:Int)+1+1-2).toNat=i:=by omega
  refine W.bY (fun K hK=>?_)
  simp (disch:=omega) [gw,e1,axg,hx2]
  refine cM hR ?_
  refine cM hZ ?_
  refine cM hNg ?_
  refine hK _ ⟨ZX.N nn,_,aB _ [4,5],IP,L ++ [g],g,nn,i+1,_,_,_,_,rfl,by simp,by simp [hL],?_,hch,rfl,bg.mono (by omega) (Nat.le_refl _),bn,by omega,SP,by omega⟩
  rw [cE (by simp;omega)]
  simp [←hL]
 ·have hg:g=0:=by
   refine Classical.byContradiction fun h0=>?_
   have h1:=ZX.aF.1 h0
   have h2:ZX.N g=g.l.length:=rfl
   simp at h;rw [h2,h]at h1;simp at h1
  subst hg
  rw [lN,List.append_nil]at VD
  subst VD
  have yV:List.take (i+1) L=L:=List.take_of_length_le (by omega)
  refine eW ?_
  refine aA [2] ?_
  refine W.ret ?_
  simp [go,hr,hLl,yV]
end Go.Proofs.YtiobceocpabjdaaGreat
namespace Pm
def qv(t:Rat):List Int→Rat
 | []=>0
 | a::l=>(a:Rat)+t*qv t l
section
variable {t:Rat}
theorem wH{α:Type}(f g:α→Int):∀l:List α,qv t (l.map fun k=>f k+g k)=qv t (l.map f)+qv t (l.map g)
 | []=>by simp only [List.map_nil,qv];grind
 | x::l=>by simp only [List.map_cons,qv,wH f g l,Rat.intCast_add];grind
theorem FH{α:Type}(c:Int)(f:α→Int):∀l:List α,qv t (l.map fun k=>f k*c)=qv t (l.map f)*c
 | []=>by simp only [List.map_nil,qv];grind
 | x::l=>by simp only [List.map_cons,qv,FH c f l,Rat.intCast_mul];grind
theorem pO:∀(a:List Int) (n:Nat),qv t (a++List.replicate n 0)=qv t a
 | [],0=>rfl
 | [],n+1=>by
  have:=pO [] n
  simp only [List.nil_append]at this
  simp only [List.nil_append,List.replicate_succ,qv,this,Rat.intCast_zero];grind
 | x::a,n=>by simp only [List.cons_append,qv,pO a n]
theorem x9:∀l:List Int,qv t (aP l)=qv t l
 | []=>rfl
 | x::l=>by
  have ih:=x9 l
  simp only [aP]
  split
  ·rename_i h
   rw [h.1]at ih
   simp only [qv]at ih ⊢
   rw [←ih,h.2,Rat.intCast_zero];grind
  ·simp only [qv,ih]
theorem nQ{x:List Int}{n:Nat}(h:x.length≤n):qv t ((List.range n).map (nth x))=qv t x:=by
 rw [p8 h,pO]
theorem ZA(x y:List Int):qv t (i3 x y)=qv t x+qv t y:=by
 rw [i3,x9,wH,nQ (by omega),nQ (by omega)]
theorem ajX(x y:List Int):qv t (fS x y)=qv t x-qv t y:=by
 rw [fS,x9]
 have h1:=wH (t:=t) (fun k=>nth x k-nth y k) (nth y) (List.range (max x.length y.length))
 have h2:(fun k=>nth x k-nth y k+nth y k)=nth x:=by funext k;omega
 rw [h2,nQ (by omega),nQ (by omega)]at h1
 grind
theorem Q9:∀x y:List Int,qv t (g9 x y)=qv t x*qv t y
 | [],y=>by simp only [g9,qv];grind
 | a::x,y=>by
  have:=FH (t:=t) a id y
  simp only [id_eq,List.map_id_fun]at this
  rw [g9,ZA,this]
  simp only [qv,Q9 x y,Rat.intCast_zero]
  grind
theorem ajY(x y:List Int):qv t (bR x y)=qv t x*qv t y:=by rw [bR,x9,Q9]
end
namespace ZX
section
variable {t:Rat}
def e(t:Rat)(x:ZX):Rat:=qv t x.l
theorem amS(x y:ZX):e t (x+y)=e t x+e t y:=ZA _ _
theorem i7(x y:ZX):e t (x*y)=e t x*e t y:=ajY _ _
theorem axh(x y:ZX):e t (x-y)=e t x-e t y:=ajX _ _
theorem aqI(x:List Int):e t (of x)=qv t x:=x9 x
theorem yY(c:Int):e t (K c)=c:=by
 rw [K,aqI]
 simp only [qv];grind
theorem amT:e t 1=1:=yY 1
end
end ZX
def Ab(x M:Rat):Prop := -M≤x∧x≤M
def kX(e x:Rat):Prop:=x ≤ -e∨e≤x
theorem Ab.mono{x M N:Rat}(h:Ab x M)(hMN:M≤N):Ab x N:=by
 obtain⟨h1,h2⟩:=h
 exact⟨by grind,by grind⟩
theorem Ab.add{x y M N:Rat}(h:Ab x M)(h':Ab y N):Ab (x+y) (M+N):=by
 obtain⟨h1,h2⟩:=h
 obtain⟨h3,h4⟩:=h'
 exact⟨by grind,by grind⟩
theorem Ab.mul{x y M N:Rat}(h:Ab x M)(h':Ab y N):Ab (x*y) (M*N):=by
 obtain⟨h1,h2⟩:=h
 obtain⟨h3,h4⟩:=h'
 have p1:=Rat.mul_nonneg (show 0≤M-x by grind) (show 0≤N-y by grind)
 have p2:=Rat.mul_nonneg (show 0≤M+x by grind) (show 0≤N+y by grind)
 have p3:=Rat.mul_nonneg (show 0≤M-x by grind) (show 0≤N+y by grind)
 have p4:=Rat.mul_nonneg (show 0≤M+x by grind) (show 0≤N-y by grind)
 exact⟨by grind,by grind⟩
theorem kX.mono{x e f:Rat}(h:kX e x)(hf:f≤e):kX f x:=by
 rcases h with h | h
 ·left;grind
 ·right;grind
theorem CJ{x e:Rat}(h:¬kX e x) : -e<x∧x<e:=by
 constructor
 ·exact Rat.not_le.1 fun h1=>h (.inl h1)
 ·exact Rat.not_le.1 fun h1=>h (.inr h1)
theorem G5{x e:Rat}(h:¬kX e x):Ab x e:=by
 obtain⟨h1,h2⟩:=CJ h
 exact⟨Rat.le_of_lt h1,Rat.le_of_lt h2⟩
def cD(x:Rat):Int:=if x<0 then -1 else if 0<x then 1 else 0
theorem gS{x:Rat}(h:x<0):cD x = -1:=if_pos h
theorem eY{x:Rat}(h:0<x):cD x=1:=by
 rw [cD,if_neg (by grind),if_pos h]
theorem jX:cD 0=0:=by decide
theorem cW(x:Rat):(x<0∧cD x = -1)∨(x=0∧cD x=0)∨(0<x∧cD x=1):=by
 by_cases h:x<0
 ·exact .inl ⟨h,gS h⟩
 ·by_cases h2:0<x
  ·exact .inr (.inr ⟨h2,eY h2⟩)
  ·have:x=0:=by grind
   subst this
   exact .inr (.inl ⟨rfl,jX⟩)
theorem o9(x:Rat):cD x = -1∨cD x=0∨cD x=1:=by
 rcases cW x with h | h | h
 ·exact .inl h.2
 ·exact .inr (.inl h.2)
 ·exact .inr (.inr h.2)
theorem VM{x:Rat}:cD x = -1↔x<0:=by
 rcases cW x with ⟨h,e⟩ | ⟨h,e⟩ | ⟨h,e⟩<;>rw [e]<;>constructor<;>intro h2<;>first | omega | grind
theorem VN{x:Rat}:cD x=1↔0<x:=by
 rcases cW x with ⟨h,e⟩ | ⟨h,e⟩ | ⟨h,e⟩<;>rw [e]<;>constructor<;>intro h2<;>first | omega | grind
theorem eU{x:Rat}:cD x=0↔x=0:=by
 rcases cW x with ⟨h,e⟩ | ⟨h,e⟩ | ⟨h,e⟩<;>rw [e]<;>constructor<;>intro h2<;>first | omega | grind
theorem uN(x y:Rat):cD (x*y)=cD x*cD y:=by
 rcases cW x with ⟨h,e⟩ | ⟨h,e⟩ | ⟨h,e⟩<;>rcases cW y with ⟨h',e'⟩ | ⟨h',e'⟩ | ⟨h',e'⟩<;>rw [e,e']
 ·have:=Rat.mul_pos (show 0 < -x by grind) (show 0 < -y by grind)
  rw [eY (by grind)];rfl
 ·rw [h',Rat.mul_zero];rfl
 ·have:=Rat.mul_pos (show 0 < -x by grind) h'
  rw [gS (by grind)];rfl
 ·rw [h,Rat.zero_mul];rfl
 ·rw [h,Rat.zero_mul];rfl
 ·rw [h,Rat.zero_mul];rfl
 ·have:=Rat.mul_pos h (show 0 < -y by grind)
  rw [gS (by grind)];rfl
 ·rw [h',Rat.mul_zero];rfl
 ·rw [eY (Rat.mul_pos h h')];rfl
theorem gD{x y e:Rat}(h:kX e x)(he:0<e)(rL:¬kX e (y-x)):cD y=cD x∧cD x≠0:=by
 obtain⟨h1,h2⟩:=CJ rL
 rcases h with h | h
 ·rw [gS (show x<0 by grind),gS (show y<0 by grind)];decide
 ·rw [eY (show 0<x by grind),eY (show 0<y by grind)];decide
def dd(s t:Rat):List Int→Rat
 | []=>0
 | _::l=>qv t l+s*dd s t l
def cc(s t:Rat):List Int→Rat
 | []=>0
 | _::l=>dd s t l+s*cc s t l
theorem oG(s t:Rat):∀x:List Int,qv t x-qv s x=(t-s)*dd s t x
 | []=>by simp only [qv,dd];grind
 | a::l=>by
  have:=oG s t l
  simp only [qv,dd];grind
theorem VO(s t:Rat):∀x:List Int,dd s t x-dd s s x=(t-s)*cc s t x
 | []=>by simp only [dd,cc];grind
 | a::l=>by
  have:=VO s t l
  have:=oG s t l
  simp only [dd,cc];grind
section
variable {S B s t:Rat} (hS:0≤S) (hB:1≤B) (hs:Ab s B) (ht:Ab t B)
def GC(S B:Rat):Nat→Rat
 | 0=>S
 | k+1=>GC S B k*(4*B)
include hS hB in
theorem pB:∀k,0≤GC S B k∧S≤GC S B k
 | 0=>⟨hS,Rat.le_refl⟩
 | k+1=>by
  obtain⟨h1,h2⟩:=pB k
  have h3:=Rat.mul_le_mul_of_nonneg_left (show (1:Rat)≤4*B by grind) h1
  rw [GC]
  exact⟨by grind,by grind⟩
include hS hB ht in
theorem RA:∀x:List Int,(∀c∈x,Ab (c:Rat) S)→Ab (qv t x) (GC S B x.length)
 | [],_=>by
  show Ab 0 S
  exact⟨by grind,hS⟩
 | a::l,h=>by
  have h1:=RA l fun c hc=>h c (List.mem_cons_of_mem _ hc)
  have h2:=(h a (List.mem_cons_self ..)).add (ht.mul h1)
  obtain⟨h3,h4⟩:=pB hS hB l.length
  have h5:=Rat.mul_le_mul_of_nonneg_left hB h3
  refine h2.mono ?_
  rw [List.length_cons,GC]
  grind
include hS hB hs ht in
theorem I5:∀x:List Int,(∀c∈x,Ab (c:Rat) S)→Ab (dd s t x) (GC S B x.length)
 | [],_=>by
  show Ab 0 S
  exact⟨by grind,hS⟩
 | a::l,h=>by
  have h1:=I5 l fun c hc=>h c (List.mem_cons_of_mem _ hc)
  have h0:=RA hS hB ht l fun c hc=>h c (List.mem_cons_of_mem _ hc)
  have h2:=h0.add (hs.mul h1)
  obtain⟨h3,h4⟩:=pB hS hB l.length
  have h5:=Rat.mul_le_mul_of_nonneg_left hB h3
  refine h2.mono ?_
  rw [List.length_cons,GC]
  grind
include hS hB hs ht in
theorem afJ:∀x:List Int,(∀c∈x,Ab (c:Rat) S)→Ab (cc s t x) (GC S B x.length)
 | [],_=>by
  show Ab 0 S
  exact⟨by grind,hS⟩
 | a::l,h=>by
  have h1:=afJ l fun c hc=>h c (List.mem_cons_of_mem _ hc)
  have h0:=I5 hS hB hs ht l fun c hc=>h c (List.mem_cons_of_mem _ hc)
  have h2:=h0.add (hs.mul h1)
  obtain⟨h3,h4⟩:=pB hS hB l.length
  have h5:=Rat.mul_le_mul_of_nonneg_left hB h3
  refine h2.mono ?_
  rw [List.length_cons,GC]
  grind
end
theorem yA(t:Rat):∀(l:List Int) (k:Nat),qv t (ZX.rY (k+1) l)=qv t (ZX.rY k l)+qv t l
 | [],k=>by simp only [ZX.rY,qv];grind
 | a::l,k=>by
  simp only [ZX.rY,qv]
  rw [yA t l (k+1)]
  have:((k+1:Nat):Int)=(k:Int)+1:=by omega
  rw [this,Rat.intCast_mul,Rat.intCast_mul,Rat.intCast_add,Rat.intCast_one];grind
theorem BI(t:Rat):∀l:List Int,qv t (ZX.rY 1 l)=qv t l+t*dd t t l
 | []=>by simp only [ZX.rY,qv,dd];grind
 | b::m=>by
  rw [ZX.rY]
  simp only [qv,dd]
  rw [yA,BI t m]
  rw [show((1:Nat):Int)=1 from rfl,Int.mul_one]
  grind
theorem amU(t:Rat)(x:ZX):(ZX.bX x).e t=dd t t x.l:=by
 rw [ZX.bX,ZX.aqI]
 obtain⟨l,hl⟩:=x
 show qv t (ZX.zO l)=dd t t l
 match l with
 | []=>rfl
 | a::l=>rw [ZX.IZ,BI];rfl
end Pm
namespace Pm
def G6(p:Int):List Int→Nat
 | []=>0
 | s::l=>if s=0 then G6 p l else(if p≠0∧s≠p then 1 else 0)+G6 s l
def cl:List Int→List Int→Prop
 | [],[]=>True
 | [x],[y]=>x=y∧x≠0
 | [_,x],[_,y]=>x=y∧x≠0
 | x0::x1::x2::x,y0::y1::y2::y=>cl (x1::x2::x) (y1::y2::y)∧((x1=y1∧x1≠0)∨(x0=y0∧x2=y2∧x0 = -x2∧x2≠0))
 | _,_=>False
theorem LY:∀(n:Nat) (p:Int) (x y:List Int),x.length≤n→p≠0→(p = -1∨p=1)→(∀s∈x,s = -1∨s=0∨s=1)→(∀s∈y,s = -1∨s=0∨s=1)→cl (p::x) (p::y)→G6 p x=G6 p y
 | _,p,[],[],_,_,_,_,_,_=>rfl
 | _,p,[x1],[y1],_,_,_,_,_,h=>by
  obtain⟨rfl,h2⟩:=h
  rfl
 | _,p,[],[y1],_,_,_,_,_,h=>by simp [cl]at h
 | _,p,[x1],[],_,_,_,_,_,h=>by simp [cl]at h
 | _,p,[],_::_::_,_,_,_,_,_,h=>by simp [cl]at h
 | _,p,_::_::_,[],_,_,_,_,_,h=>by simp [cl]at h
 | _,p,[_],_::_::_,_,_,_,_,_,h=>by simp [cl]at h
 | _,p,_::_::_,[_],_,_,_,_,_,h=>by simp [cl]at h
 | 0,p,x1::x2::x,y1::y2::y,hn,_,_,_,_,_=>by simp at hn
 | n+1,p,x1::x2::x,y1::y2::y,hn,hp,hp1,hx,hy,h=>by
  obtain⟨h1,h2⟩:=h
  rcases h2 with ⟨rfl,h2⟩ | ⟨_,rfl,h3,h4⟩
  ·have ih:=LY n x1 (x2::x) (y2::y) (by simp at hn ⊢;omega) h2 (by have:=hx x1 (by simp);omega) (fun s hs=>hx s (List.mem_cons_of_mem _ hs)) (fun s hs=>hy s (List.mem_cons_of_mem _ hs)) h1
   simp only [G6]at ih ⊢
   rw [if_neg h2,if_neg h2,ih]
  ·have ht:G6 x2 x=G6 x2 y:=by
    refine LY n x2 x y (by simp at hn ⊢;omega) h4 (by have:=hx x2 (by simp);omega) (fun s hs=>hx s (by simp [hs])) (fun s hs=>hy s (by simp [hs])) ?_
    match x,y,h1 with
    | [],[],_=>exact⟨rfl,h4⟩
    | [],_::_,h1=>simp [cl]at h1
    | _::_,[],h1=>simp [cl]at h1
    | _::_,_::_,h1=>exact h1.1
   have key:∀z:Int,(z = -1∨z=0∨z=1) → ∀w:List Int,G6 p (z::x2::w)=1+G6 x2 w:=fun z hz w=>by
    simp only [G6]
    rcases hz with rfl | rfl | rfl
    ·rw [if_neg (by decide),if_neg h4]
     rcases hp1 with rfl | rfl
     ·rw [if_neg (by omega),if_pos (by omega)];omega
     ·rw [if_pos (by omega),if_neg (by omega)];omega
    ·rw [if_pos rfl,if_neg h4,if_pos (by omega)]
    ·rw [if_neg (by decide),if_neg h4]
     rcases hp1 with rfl | rfl
     ·rw [if_pos (by omega),if_neg (by omega)];omega
     ·rw [if_neg (by omega),if_pos (by omega)];omega
   rw [key x1 (hx x1 (by simp)),key y1 (hy y1 (by simp)),ht]
open ZX
def ZB(ε t:Rat):List ZX→Prop
 | []=>False
 | [a]=>kX ε (e t a)
 | [_,b]=>kX ε (e t b)
 | a::b::c::l=>ZB ε t (b::c::l)∧(kX ε (e t b)∨(kX ε (e t a)∧kX ε (e t c)∧cD (e t a) = -cD (e t c)))
theorem ZB.mono{ε δ t:Rat}(h:δ≤ε):∀ {l:List ZX},ZB ε t l→ZB δ t l
 | [],g=>g
 | [a],g=>kX.mono g h
 | [a,b],g=>kX.mono (x:=e t b) g h
 | a::b::c::l,g=>⟨ZB.mono h g.1,by
  rcases g.2 with g | ⟨g1,g2,g3⟩
  ·exact .inl (g.mono h)
  ·exact .inr ⟨g1.mono h,g2.mono h,g3⟩⟩
theorem ZB.two{ε t:Rat}{a b:ZX}:∀ {l:List ZX},ZB ε t (a::b::l)→kX ε (e t a)∨kX ε (e t b)
 | [],g => .inr g
 | c::l,g=>by
  rcases g.2 with g | ⟨g1,g2,g3⟩
  ·exact .inr g
  ·exact .inl g1
def G7(t:Rat)(l:List ZX):List Int:=l.map fun p=>cD (e t p)
theorem CK{t:Rat}{l:List ZX}:∀s∈G7 t l,s = -1∨s=0∨s=1:=fun s hs=>by
 simp only [G7,List.mem_map]at hs
 obtain⟨p,_,rfl⟩:=hs
 exact o9 _
theorem afK{ε s t:Rat}(hε:0<ε):∀ {l:List ZX},ZB ε s l→(∀p∈l,¬kX ε (e t p-e s p))→cl (G7 s l) (G7 t l)
 | [],g,_=>g.elim
 | [a],g,h=>by
  obtain⟨h1,h2⟩:=gD g hε (h a (by simp))
  exact⟨h1.symm,h2⟩
 | [a,b],g,h=>by
  obtain⟨h1,h2⟩:=gD (x:=e s b) g hε (h b (by simp))
  exact⟨h1.symm,h2⟩
 | a::b::c::l,g,h=>by
  refine⟨afK hε g.1 fun p hp=>h p (List.mem_cons_of_mem _ hp),?_⟩
  rcases g.2 with g | ⟨g1,g2,g3⟩
  ·obtain⟨h1,h2⟩:=gD g hε (h b (by simp))
   exact .inl ⟨h1.symm,h2⟩
  ·obtain⟨h1,h2⟩:=gD g1 hε (h a (by simp))
   obtain⟨h3,h4⟩:=gD g2 hε (h c (by simp))
   exact .inr ⟨h1.symm,h3.symm,g3,h4⟩
def vt(l:List ZX)(t:Rat):Nat:=G6 0 (G7 t l)
def ind(a:ZX)(s t:Rat):Nat:=if e s a≠0∧cD (e t a)≠cD (e s a)then 1 else 0
theorem ajZ{ε s t:Rat}(hε:0<ε){a:ZX}{l:List ZX}(g:ZB ε s (a::l))(h:∀p∈a::l,¬kX ε (e t p-e s p))
  (hm:∀b k,l=b::k→kX ε (e s b)→cD (e t a-e s a)=cD (e s b)):vt (a::l) s=vt (a::l) t+ind a s t:=by
 have hc:=afK hε g h
 have hA:kX ε (e s a)→vt (a::l) s=vt (a::l) t+ind a s t:=fun ha=>by
  obtain⟨h1,h2⟩:=gD ha hε (h a (by simp))
  have h3:ind a s t=0:=if_neg fun h=>h.2 h1
  rw [h3]
  have GI:cl (cD (e s a)::G7 s l) (cD (e s a)::G7 t l):=by
   have:G7 t (a::l)=cD (e s a)::G7 t l:=by rw [←h1];rfl
   rw [this]at hc
   exact hc
  have h4:=LY _ _ _ _ (Nat.le_refl _) h2 (by have:=o9 (e s a);omega) CK CK GI
  show G6 0 (cD (e s a)::G7 s l)=G6 0 (cD (e t a)::G7 t l)+0
  rw [h1]
  simp only [G6]
  rw [if_neg h2,if_neg h2,h4];omega
 match l,g,h,hc,hm,hA with
 | [],g,h,hc,hm,hA=>exact hA g
 | b::l,g,h,hc,hm,hA =>
  rcases g.two with ha | hb
  ·exact hA ha
  ·obtain⟨h1,h2⟩:=gD hb hε (h b (by simp))
   have h3:=hm b l rfl hb
   have GI:cl (cD (e s b)::G7 s l) (cD (e s b)::G7 t l):=by
    match l,hc with
    | [],hc=>exact⟨rfl,h2⟩
    | c::l,hc =>
     have h8:cl (cD (e s b)::G7 s (c::l)) (cD (e t b)::G7 t (c::l)):=hc.1
     rw [h1]at h8
     exact h8
   have h4:=LY _ _ _ _ (Nat.le_refl _) h2 (by have:=o9 (e s b);omega) CK CK GI
   show G6 0 (cD (e s a)::cD (e s b)::G7 s l)=G6 0 (cD (e t a)::cD (e t b)::G7 t l)+ind a s t
   rw [h1]
   simp only [G6]
   rw [if_neg h2,if_neg h2,h4]
   have hi:ind a s t=if cD (e s a)≠0∧cD (e t a)≠cD (e s a)then 1 else 0:=by
    unfold ind
    by_cases h6:e s a=0
    ·rw [if_neg (fun h7=>h7.1 h6),if_neg (fun h7=>h7.1 (eU.2 h6))]
    ·have h7:cD (e s a)≠0:=fun h8=>h6 (eU.1 h8)
     simp only [ne_eq,h6,h7,not_false_eq_true,true_and]
   rw [hi]
   have hd:(cD (e s b) = -1→cD (e t a)≤cD (e s a)∧(cD (e t a)=cD (e s a)→cD (e s a)≠0))∧(cD (e s b)=1→cD (e s a)≤cD (e t a)∧(cD (e t a)=cD (e s a)→cD (e s a)≠0)):=by
    refine⟨fun h6=>?_,fun h6=>?_⟩
    ·have h5:=VM.1 (h3.trans h6)
     rcases cW (e s a)with ⟨q1,r1⟩ | ⟨q1,r1⟩ | ⟨q1,r1⟩<;>rcases cW (e t a)with ⟨q2,r2⟩ | ⟨q2,r2⟩ | ⟨q2,r2⟩<;>rw [r1,r2]<;>first | decide | (exfalso;grind)
    ·have h5:=VN.1 (h3.trans h6)
     rcases cW (e s a)with ⟨q1,r1⟩ | ⟨q1,r1⟩ | ⟨q1,r1⟩<;>rcases cW (e t a)with ⟨q2,r2⟩ | ⟨q2,r2⟩ | ⟨q2,r2⟩<;>rw [r1,r2]<;>first | decide | (exfalso;grind)
   have m1:=o9 (e s a)
   have m2:=o9 (e t a)
   have m3:=o9 (e s b)
   generalize cD (e s a)=σ at *
   generalize cD (e t a)=τ at *
   generalize cD (e s b)=γ at *
   generalize G6 γ (G7 t l)=T at *
   obtain⟨d1,d2⟩:=hd
   clear hc GI h1 h3 hm hA h g hb hi
   rcases m3 with rfl | rfl | rfl
   ·obtain⟨d3,d4⟩:=d1 rfl
    rcases m1 with rfl | rfl | rfl<;>rcases m2 with rfl | rfl | rfl<;>first | (exfalso;omega) | (simp;try omega)
   ·exact absurd rfl h2
   ·obtain⟨d3,d4⟩:=d2 rfl
    rcases m1 with rfl | rfl | rfl<;>rcases m2 with rfl | rfl | rfl<;>first | (exfalso;omega) | (simp;try omega)
end Pm
namespace Pm
open ZX hiding N W
def StC(M B:Rat):List ZX→Prop
 | []=>False
 | [a]=>∃c:Int,c≠0∧a=K c
 | [_,b]=>∃c:Int,c≠0∧b=K c
 | a::b::c::l=>StC M B (b::c::l) ∧ ∃(m k:Int) (q:ZX),0<m∧0<k∧K m*a=q*b-K k*c∧2*(m:Rat)≤M ∧ ∀t,Ab t B→Ab (2*e t q) M
def B4(M:Rat):Nat→Rat
 | 0=>1
 | k+1=>B4 M k/M
theorem LZ{M:Rat}(hM:2≤M)(k:Nat):M*B4 M (k+1)=B4 M k:=by
 rw [B4,Rat.mul_comm,Rat.div_mul_cancel (by grind)]
theorem yB{M:Rat}(hM:2≤M):∀k,0<B4 M k
 | 0=>by show(0:Rat)<1;decide
 | k+1=>by
  have h1:=yB hM k
  have h2:=LZ hM k
  refine Rat.not_le.1 fun h=>?_
  have h3:=Rat.mul_nonneg (show 0≤M by grind) (show 0 ≤ -B4 M (k+1)by grind)
  grind
theorem L0{M:Rat}(hM:2≤M)(k:Nat):B4 M (k+1)≤B4 M k:=by
 have h1:=yB hM (k+1)
 have h2:=LZ hM k
 have h3:=Rat.mul_le_mul_of_nonneg_right (show 1≤M by grind) (Rat.le_of_lt h1)
 grind
theorem wI{M:Rat}(hM:2≤M):∀k,B4 M k≤1
 | 0=>Rat.le_refl
 | k+1=>Rat.le_trans (L0 hM k) (wI hM k)
theorem uO{c:Int}(h:c≠0):kX 1 (c:Rat):=by
 rcases Int.lt_trichotomy c 0 with h1 | h1 | h1
 ·left
  have:((c:Int):Rat)≤((-1:Int):Rat):=Rat.intCast_le_intCast.2 (by omega)
  rw [Rat.intCast_neg,Rat.intCast_one]at this
  exact this
 ·exact absurd h1 h
 ·right
  have:((1:Int):Rat)≤((c:Int):Rat):=Rat.intCast_le_intCast.2 (by omega)
  rw [Rat.intCast_one]at this
  exact this
theorem eV{c:Int}(h:0<c):(1:Rat)≤(c:Rat):=by
 have:((1:Int):Rat)≤((c:Int):Rat):=Rat.intCast_le_intCast.2 (by omega)
 rwa [Rat.intCast_one]at this
theorem afL{M ε ε' x y z q m k:Rat}(hM:2≤M)(he:M*ε'=ε)(hp:0<ε')(hm:1≤m)(hk:1≤k)(hmM:2*m≤M)(hq:Ab (2*q) M)(e:m*x=q*y-k*z)(hy:¬kX ε' y)(hz:kX ε z):kX ε' x∧cD x = -cD z:=by
 have h1:=hq.mul (G5 hy)
 rw [he]at h1
 obtain⟨h2,h3⟩:=h1
 have hε:0<ε:=by rw [←he];exact Rat.mul_pos (by grind) hp
 have h6:=Rat.mul_le_mul_of_nonneg_right hmM (Rat.le_of_lt hp)
 rcases hz with hz | hz
 ·have h4:=Rat.mul_le_mul_of_nonneg_right hk (show 0 ≤ -z by grind)
  have h5:ε≤2*(m*x):=by grind
  have h7:ε'≤x:=Rat.not_lt.1 fun h=>by
   have:=Rat.mul_lt_mul_of_pos_left h (show 0<m by grind)
   grind
  refine⟨.inr h7,?_⟩
  rw [gS (x:=z) (by grind),eY (x:=x) (by grind)];rfl
 ·have h4:=Rat.mul_le_mul_of_nonneg_right hk (show 0≤z by grind)
  have h5:2*(m*x) ≤ -ε:=by grind
  have h7:x ≤ -ε':=Rat.not_lt.1 fun h=>by
   have:=Rat.mul_lt_mul_of_pos_left h (show 0<m by grind)
   grind
  refine⟨.inl h7,?_⟩
  rw [eY (x:=z) (by grind),gS (x:=x) (by grind)]
theorem StC.ZB{M B t:Rat}(hM:2≤M)(ht:Ab t B):∀ {l:List ZX},StC M B l→ZB (B4 M l.length) t l
 | [],h=>h
 | [a],h=>by
  obtain⟨c,hc,rfl⟩:=h
  show kX _ (e t (K c))
  rw [yY]
  exact(uO hc).mono (wI hM _)
 | [a,b],h=>by
  obtain⟨c,hc,rfl⟩:=h
  show kX _ (e t (K c))
  rw [yY]
  exact(uO hc).mono (wI hM _)
 | a::b::c::l,h=>by
  obtain⟨h1,m,k,q,hm,hk,he,hmM,hq⟩:=h
  have ih:=StC.ZB hM ht h1
  refine⟨ih.mono (L0 hM _),?_⟩
  by_cases hb:kX (B4 M (a::b::c::l).length) (e t b)
  ·exact .inl hb
  ·have hc:kX (B4 M (b::c::l).length) (e t c):=by
    rcases ih.two with h2 | h2
    ·exact absurd (h2.mono (L0 hM _)) hb
    ·exact h2
   have LV:(m:Rat)*e t a=e t q*e t b-k*e t c:=by
    rw [←yY (t:=t) m,←i7,he,axh,i7,i7,yY]
   obtain⟨g1,g2⟩:=afL hM (LZ hM _) (yB hM _) (eV hm) (eV hk) hmM (hq t ht) LV hb hc
   exact .inr ⟨g1,hc.mono (L0 hM _),g2⟩
structure Lcl(L:List ZX)(f:ZX)(B δ:Rat):Prop where
 turns:∀s t,Ab s B→Ab t B→s<t→t-s≤δ→vt L s=vt L t+ind f s t
 simple:∀s t,Ab s B→Ab t B→s<t→t-s≤δ→e s f=0→e t f≠0
theorem BJ{h x Q ε:Rat}(hh:0≤h)(hx:Ab x Q)(hQ:h*Q<ε):¬kX ε (h*x):=fun hb=>by
 obtain⟨h1,h2⟩:=(Ab.mul (x:=h) (M:=h) ⟨by grind,Rat.le_refl⟩ hx)
 rcases hb with hb | hb<;>grind
theorem abK{h x Q ε c y d1 d2:Rat}(hh:0<h)(hε:0<ε)(hc:1≤c)(hx:Ab x Q)(hQ:h*Q<ε)(hy:kX ε y)(e1:d1=c*y)(e2:d2-d1=h*x):cD (h*d2)=cD y:=by
 obtain⟨h1,h2⟩:=(Ab.mul (x:=h) (M:=h) ⟨by grind,Rat.le_refl⟩ hx)
 have hs:cD (h*d2)=cD d2:=by rw [uN,eY hh];omega
 rw [hs]
 rcases hy with hy | hy
 ·have:=Rat.mul_le_mul_of_nonneg_right hc (show 0 ≤ -y by grind)
  rw [gS (show y<0 by grind),gS (show d2<0 by grind)]
 ·have:=Rat.mul_le_mul_of_nonneg_right hc (show 0≤y by grind)
  rw [eY (show 0<y by grind),eY (show 0<d2 by grind)]
theorem StC.loc{M B S Q δ:Rat}{f:ZX}{l:List ZX}(hM:2≤M)(hB:1≤B)(hS:0≤S)(h:StC M B (f::l))(hb:∀p∈f::l,(∀c∈p.l,Ab (c:Rat) S)∧GC S B p.l.length≤Q)(hd:∀g k,l=g::k → ∃c:Int,0<c∧bX f=K c*g)
  (hδ:δ*Q<B4 M (f::l).length):Lcl (f::l) f B δ:=by
 have hQ0:0≤Q:=by
  obtain⟨h1,h2⟩:=hb f (by simp)
  obtain⟨h3,h4⟩:=pB hS hB f.l.length
  grind
 have hε:=yB hM (f::l).length
 have uV:∀s t:Rat,s<t→t-s≤δ→(t-s)*Q<B4 M (f::l).length:=fun s t iR hd=>by
  have:=Rat.mul_le_mul_of_nonneg_right hd hQ0
  grind
 have key:∀s t,Ab s B→Ab t B→s<t→t-s≤δ→(∀p∈f::l,¬kX (B4 M (f::l).length) (e t p-e s p)) ∧ ∀b k,l=b::k→kX (B4 M (f::l).length) (e s b)→cD (e t f-e s f)=cD (e s b):=fun s t hs ht iR hsd=>by
  refine⟨fun p hp=>?_,fun b k hbk NY=>?_⟩
  ·obtain⟨h1,h2⟩:=hb p hp
   show ¬kX _ (qv t p.l-qv s p.l)
   rw [oG]
   exact BJ (by grind) ((I5 hS hB hs ht p.l h1).mono h2) (uV s t iR hsd)
  ·obtain⟨c,hc,he⟩:=hd b k hbk
   obtain⟨h1,h2⟩:=hb f (by simp)
   show cD (qv t f.l-qv s f.l)=_
   rw [oG]
   exact abK (d1:=dd s s f.l) (by grind) hε (eV hc) ((afJ hS hB hs ht f.l h1).mono h2) (uV s t iR hsd) NY (by rw [←amU,he,i7,yY]) (VO s t f.l)
 refine⟨fun s t hs ht iR hsd=>?_,fun s t hs ht iR hsd h0=>?_⟩
 ·obtain⟨k1,k2⟩:=key s t hs ht iR hsd
  exact ajZ hε (h.ZB hM hs) k1 k2
 ·obtain⟨k1,k2⟩:=key s t hs ht iR hsd
  have g:=h.ZB hM hs
  have nb:¬kX (B4 M (f::l).length) (e s f):=by
   rw [h0]
   rintro(h1 | h1)<;>grind
  match l,g,k2 with
  | [],g,_=>exact absurd g nb
  | b::k,g,k2 =>
   have NY:=g.two.resolve_left nb
   have h2:=k2 b k rfl NY
   intro h3
   rw [h0,h3,show(0:Rat)-0=0 by grind,jX]at h2
   have h4:=eU.1 h2.symm
   rw [h4]at NY
   rcases NY with h1 | h1<;>grind
theorem aqJ{B δ:Rat}(hδ:0<δ){P:Rat→Rat→Prop}(ht:∀a b c,a<b→b<c→P a b→P b c→P a c)(hs:∀a b,Ab a B→Ab b B→a<b→b-a≤δ→P a b){a b:Rat}(ha:Ab a B)(hb:Ab b B)(fQ:a<b):P a b:=by
 have key:∀(n:Nat) (a b:Rat),Ab a B→Ab b B→a<b→b-a≤(n:Rat)*δ→P a b:=by
  intro n
  induction n with
  | zero=>intro a b _ _ h1 h2;exfalso;rw [show((0:Nat):Rat)=0 from rfl]at h2;grind
  | succ n ih =>
   intro a b ha hb h1 h2
   by_cases h3:b-a≤δ
   ·exact hs a b ha hb h1 h3
   ·have h3:=Rat.not_le.1 h3
    obtain⟨a1,a2⟩:=ha
    obtain⟨b1,b2⟩:=hb
    have hm:Ab (a+δ) B:=⟨by grind,by grind⟩
    refine ht a (a+δ) b (by grind) (by grind) (hs _ _ ⟨a1,a2⟩ hm (by grind) (by grind)) (ih _ _ hm ⟨b1,b2⟩ (by grind) ?_)
    rw [show((n+1:Nat):Rat)=(n:Rat)+1 from by rw [Rat.natCast_add];rfl]at h2
    grind
 have h1:=Rat.lt_floor_add_one ((b-a)/δ)
 have h2:0≤((b-a)/δ).floor:=Rat.le_floor_iff.2 (by
  have:=(Rat.lt_div_iff (a:=0) (b:=b-a) hδ).2 (by grind)
  show((0:Int):Rat)≤_
  rw [Rat.intCast_zero];exact Rat.le_of_lt this)
 refine key ((((b-a)/δ).floor+1).toNat) a b ha hb fQ ?_
 have h3:(((((b-a)/δ).floor+1).toNat:Nat):Rat)=((((b-a)/δ).floor+1:Int):Rat):=by
  rw [←Rat.intCast_natCast,Int.toNat_of_nonneg (by omega)]
 rw [h3]
 have h4:=(Rat.div_lt_iff hδ).1 h1
 exact Rat.le_of_lt h4
structure yC(L:List ZX)(f:ZX):Prop where
 loc:∀B:Rat,1≤B → ∃δ,0<δ∧Lcl L f B δ
theorem kB(a b:Rat):∃B:Rat,1≤B∧Ab a B∧Ab b B:=by
 have h1:∀x:Rat,∃B:Rat,1≤B∧Ab x B:=fun x=>by
  by_cases h:0≤x
  ·exact⟨x+1,by grind,by grind,by grind⟩
  ·exact⟨-x+1,by grind,by grind,by grind⟩
 obtain⟨A,hA,ha⟩:=h1 a
 obtain⟨B,hB,hb⟩:=h1 b
 exact⟨A+B,by grind,ha.mono (by grind),hb.mono (by grind)⟩
namespace yC
variable {L:List ZX} {f:ZX} (h:yC L f)
include h
theorem afM{P:Rat→Rat→Prop}(ht:∀a b c,a<b→b<c→P a b→P b c→P a c)(hs:∀B δ,Lcl L f B δ → ∀a b,Ab a B→Ab b B→a<b→b-a≤δ→P a b){a b:Rat}(fQ:a<b):P a b:=by
 obtain⟨B,hB,ha,hb⟩:=kB a b
 obtain⟨δ,hδ,hl⟩:=h.loc B hB
 exact aqJ hδ ht (hs B δ hl) ha hb fQ
theorem b6{a b:Rat}(fQ:a≤b):vt L b≤vt L a:=by
 rcases Rat.le_iff_lt_or_eq.1 fQ with h1 | rfl
 ·refine h.afM (P:=fun a b=>vt L b≤vt L a) (fun a b c _ _ h1 h2=>Nat.le_trans h2 h1) (fun B δ hl a b ha hb fQ hd=>?_) h1
  rw [hl.turns a b ha hb fQ hd];omega
 ·exact Nat.le_refl _
theorem flat{a b:Rat}(fQ:a<b)(he:vt L a=vt L b):e b f≠0∧(e a f≠0→cD (e b f)=cD (e a f)):=by
 refine h.afM (P:=fun a b=>vt L a=vt L b→e b f≠0∧(e a f≠0→cD (e b f)=cD (e a f))) (fun a b c h1 h2 p1 p2 hac=>?_) (fun B δ hl a b ha hb fQ hd heq=>?_) fQ he
 ·have:=h.b6 (Rat.le_of_lt h1)
  have:=h.b6 (Rat.le_of_lt h2)
  obtain⟨q1,q2⟩:=p1 (by omega)
  obtain⟨q3,q4⟩:=p2 (by omega)
  exact⟨q3,fun ha=>by rw [q4 q1,q2 ha]⟩
 ·have h1:=hl.turns a b ha hb fQ hd
  have h2:ind f a b=0:=by omega
  unfold ind at h2
  by_cases h0:e a f=0
  ·exact⟨hl.simple a b ha hb fQ hd h0,fun h3=>absurd h0 h3⟩
  ·have h3:cD (e b f)=cD (e a f):=Classical.byContradiction fun h3=>by rw [if_pos ⟨h0,h3⟩]at h2;omega
   refine⟨fun h4=>h0 (eU.1 ?_),fun _=>h3⟩
   rw [←h3,h4,jX]
theorem const{a b:Rat}(fQ:a<b){σ:Int}(h0:e a f=0∨cD (e a f)=σ)(h1:∀x,a<x→x≤b→cD (e x f)=σ):vt L a=vt L b:=by
 refine h.afM (P:=fun x y=>a≤x→y≤b→vt L x=vt L y) (fun x y z rL hyz p1 p2 hax hzb=>(p1 hax (by grind)).trans (p2 (by grind) hzb)) (fun B δ hl x y hx hy rL hd hax hyb=>?_) fQ Rat.le_refl Rat.le_refl
 rw [hl.turns x y hx hy rL hd]
 have h2:ind f x y=0:=if_neg fun h3=>by
  obtain⟨h4,h5⟩:=h3
  rw [h1 y (by grind) hyb]at h5
  rcases Rat.le_iff_lt_or_eq.1 hax with h6 | rfl
  ·exact h5 (h1 x h6 (by grind)).symm
  ·rcases h0 with h0 | h0
   ·exact h4 h0
   ·exact h5 h0.symm
 omega
theorem root{s t:Rat}(iR:s<t)(h0:e t f=0):vt L t<vt L s:=by
 have h1:=h.b6 (Rat.le_of_lt iR)
 refine Nat.lt_of_le_of_ne h1 fun h2=>?_
 exact(h.flat iR h2.symm).1 h0
theorem count{roots:List Rat}(hn:roots.Nodup)(hr:∀r∈roots,e r f=0)(hc:∀a b,a<b→(∀r∈roots,a<r→b<r)→vt L a=vt L b){a b:Rat}(fQ:a<b):vt L a=vt L b+(roots.countP fun r=>decide (a<r∧r≤b)):=by
 refine h.afM (P:=fun a b=>vt L a=vt L b+(roots.countP fun r=>decide (a<r∧r≤b))) (fun a b c h1 h2 p1 p2=>?_) (fun B δ hl a b ha hb fQ hd=>?_) fQ
 ·rw [p1,p2]
  have:∀l:List Rat,(l.countP fun r=>decide (a<r∧r≤c))=(l.countP fun r=>decide (a<r∧r≤b))+(l.countP fun r=>decide (b<r∧r≤c)):=fun l=>by
   induction l with
   | nil=>rfl
   | cons x l ih =>
    rw [List.countP_cons,List.countP_cons,List.countP_cons,ih]
    by_cases q1:a<x∧x≤b
    ·have q2:¬(b<x∧x≤c):=fun q=>by grind
     have q3:a<x∧x≤c:=⟨q1.1,by grind⟩
     rw [if_pos (decide_eq_true q3),if_pos (decide_eq_true q1),if_neg (fun h=>q2 (of_decide_eq_true h))];omega
    ·by_cases q2:b<x∧x≤c
     ·have q3:a<x∧x≤c:=⟨by grind,q2.2⟩
      rw [if_pos (decide_eq_true q3),if_neg (fun h=>q1 (of_decide_eq_true h)),if_pos (decide_eq_true q2)];omega
     ·have q3:¬(a<x∧x≤c):=fun q=>by
       by_cases q4:x≤b
       ·exact q1 ⟨q.1,q4⟩
       ·exact q2 ⟨Rat.not_le.1 q4,q.2⟩
      rw [if_neg (fun h=>q3 (of_decide_eq_true h)),if_neg (fun h=>q1 (of_decide_eq_true h)),if_neg (fun h=>q2 (of_decide_eq_true h))];omega
  rw [this roots];omega
 ·have h1:=hl.turns a b ha hb fQ hd
  have h2:ind f a b≤1:=by unfold ind;split<;>omega
  have hm:∀r,r∈roots.filter (fun r=>decide (a<r∧r≤b))↔r∈roots∧a<r∧r≤b:=fun r=>by simp [List.mem_filter]
  have OG:(roots.filter (fun r=>decide (a<r∧r≤b))).Nodup:=hn.filter _
  rw [List.countP_eq_length_filter]
  match hF:roots.filter (fun r=>decide (a<r∧r≤b)),hm,OG with
  | [],hm,_ =>
   rw [List.length_nil,Nat.add_zero]
   refine hc a b fQ fun r hr h3=>Rat.not_le.1 fun h4=>?_
   have:=(hm r).2 ⟨hr,h3,h4⟩
   simp at this
  | [r],hm,_ =>
   obtain⟨g1,g2,g3⟩:=(hm r).1 (by simp)
   have:=h.root g2 (hr r g1)
   have:=h.b6 g3
   simp only [List.length_cons,List.length_nil]
   omega
  | r::q::l,hm,OG =>
   exfalso
   obtain⟨g1,g2,g3⟩:=(hm r).1 (by simp)
   obtain⟨k1,k2,k3⟩:=(hm q).1 (by simp)
   have m7:r≠q:=by
    simp only [List.nodup_cons,List.mem_cons,not_or]at OG
    exact OG.1.1
   rcases Rat.le_total (a:=r) (b:=q)with h5 | h5
   ·have:=h.root (Rat.lt_of_le_of_ne h5 m7) (hr q k1)
    have:=h.root g2 (hr r g1)
    have:=h.b6 k3
    omega
   ·have:=h.root (Rat.lt_of_le_of_ne h5 (Ne.symm m7)) (hr r g1)
    have:=h.root k2 (hr q k1)
    have:=h.b6 g3
    omega
end yC
theorem CL{a b:Int}{l:List Int}(h:Cn (a::b::l)):Cn (b::l):=by
 unfold Cn at h ⊢
 rw [aP]at h
 split at h
 ·simp at h
 ·simpa using h
theorem zU{a b:Int}{l:List Int}:lead (a::b::l)=lead (b::l):=by
 unfold lead
 simp only [List.length_cons,Nat.add_sub_cancel]
 rw [kQ]
theorem I6{S t:Rat}(hS:0≤S)(ht:S+1≤t):∀ {x:List Int},Cn x→0<x.length→(∀c∈x,Ab (c:Rat) S)→(0<lead x→1≤qv t x)∧(lead x<0→qv t x ≤ -1)
 | [a],hc,_,_=>by
  have e1:qv t [a]=(a:Rat):=by simp only [qv];grind
  have e2:lead [a]=a:=rfl
  rw [e1,e2]
  refine⟨fun h=>eV h,fun h=>?_⟩
  have:((a:Int):Rat)≤((-1:Int):Rat):=Rat.intCast_le_intCast.2 (by omega)
  rwa [Rat.intCast_neg,Rat.intCast_one]at this
 | a::b::l,hc,_,hb=>by
  obtain⟨h1,h2⟩:=I6 hS ht (CL hc) (by simp) fun c hc=>hb c (List.mem_cons_of_mem _ hc)
  obtain⟨h3,h4⟩:=hb a (by simp)
  have e1:qv t (a::b::l)=a+t*qv t (b::l):=rfl
  rw [zU,e1]
  refine⟨fun h=>?_,fun h=>?_⟩
  ·have:=Rat.mul_le_mul_of_nonneg_left (h1 h) (show 0≤t by grind)
   grind
  ·have:=Rat.mul_le_mul_of_nonneg_left (show 1 ≤ -qv t (b::l)by have:=h2 h;grind) (show 0≤t by grind)
   grind
theorem RB{S t:Rat}(hS:0≤S)(ht:t ≤ -(S+1)):∀ {x:List Int},Cn x→0<x.length→(∀c∈x,Ab (c:Rat) S)→(0<(if x.length%2=0 then -lead x else lead x)→1≤qv t x)∧((if x.length%2=0 then -lead x else lead x)<0→qv t x ≤ -1)
 | [a],hc,_,_=>by
  have e1:qv t [a]=(a:Rat):=by simp only [qv];grind
  have e2:lead [a]=a:=rfl
  rw [e1,e2,if_neg (by simp)]
  refine⟨fun h=>eV h,fun h=>?_⟩
  have:((a:Int):Rat)≤((-1:Int):Rat):=Rat.intCast_le_intCast.2 (by omega)
  rwa [Rat.intCast_neg,Rat.intCast_one]at this
 | a::b::l,hc,_,hb=>by
  obtain⟨h1,h2⟩:=RB hS ht (CL hc) (by simp) fun c hc=>hb c (List.mem_cons_of_mem _ hc)
  obtain⟨h3,h4⟩:=hb a (by simp)
  have e1:qv t (a::b::l)=a+t*qv t (b::l):=rfl
  have e2:(if (a::b::l).length%2=0 then -lead (a::b::l)else lead (a::b::l)) = -(if (b::l).length%2=0 then -lead (b::l)else lead (b::l)):=by
   rw [zU]
   simp only [List.length_cons]
   split<;>split<;>omega
  rw [e2,e1]
  generalize (if (b::l).length%2=0 then -lead (b::l)else lead (b::l))=z at *
  refine⟨fun h=>?_,fun h=>?_⟩
  ·have:=Rat.mul_le_mul_of_nonneg_left (show 1 ≤ -qv t (b::l)by have:=h2 (by omega);grind) (show 0 ≤ -t by grind)
   grind
  ·have:=Rat.mul_le_mul_of_nonneg_left (h1 (by omega)) (show 0 ≤ -t by grind)
   grind
theorem I7{S t:Rat}(hS:0≤S){x:List Int}(hc:Cn x)(hb:∀c∈x,Ab (c:Rat) S):(S+1≤t→cD (qv t x)=(lead x).sign)∧(t ≤ -(S+1)→cD (qv t x)=if x.length%2=0 then -(lead x).sign else(lead x).sign):=by
 rcases Nat.eq_zero_or_pos x.length with h0 | h0
 ·have:x = []:=List.eq_nil_of_length_eq_zero h0
  subst this
  refine⟨fun _=>?_,fun _=>?_⟩<;>simp only [qv]<;>decide
 ·have hl:=dH hc h0
  refine⟨fun ht=>?_,fun ht=>?_⟩
  ·obtain⟨h1,h2⟩:=I6 hS ht hc h0 hb
   rcases Int.lt_trichotomy (lead x) 0 with h | h | h
   ·have:=h2 h
    rw [Int.sign_eq_neg_one_of_neg h,gS (by grind)]
   ·exact absurd h hl
   ·have:=h1 h
    rw [Int.sign_eq_one_of_pos h,eY (by grind)]
  ·obtain⟨h1,h2⟩:=RB hS ht hc h0 hb
   rcases Int.lt_trichotomy (lead x) 0 with h | h | h
   ·rw [Int.sign_eq_neg_one_of_neg h]
    split
    ·rw [if_pos (by assumption)]at h1
     have:=h1 (by omega)
     rw [eY (by grind)];rfl
    ·rw [if_neg (by assumption)]at h2
     have:=h2 h
     rw [gS (by grind)]
   ·exact absurd h hl
   ·rw [Int.sign_eq_one_of_pos h]
    split
    ·rw [if_pos (by assumption)]at h2
     have:=h2 (by omega)
     rw [gS (by grind)]
    ·rw [if_neg (by assumption)]at h1
     have:=h1 h
     rw [eY (by grind)]
end Pm
namespace Pm
open ZX hiding N W
theorem kX.mul{x y η θ:Rat}(hη:0<η)(hθ:0<θ)(h:kX η x)(h':kX θ y):kX (η*θ) (x*y):=by
 have key:∀ {u v:Rat},η≤u→θ≤v→η*θ≤u*v:=fun {u v} h1 h2=>by
  have p1:=Rat.mul_le_mul_of_nonneg_left h2 (Rat.le_of_lt hη)
  have p2:=Rat.mul_le_mul_of_nonneg_right h1 (show 0≤v by grind)
  grind
 rcases h with h | h<;>rcases h' with h' | h'
 ·right;have:=key (show η ≤ -x by grind) (show θ ≤ -y by grind);grind
 ·left;have:=key (show η ≤ -x by grind) h';grind
 ·left;have:=key h (show θ ≤ -y by grind);grind
 ·right;exact key h h'
def Bg(a b:Rat)(p:ZX):Prop:=∃η:Rat,0<η ∧ ∀x,a≤x→x≤b→kX η (e x p)
theorem Bg.mul{a b:Rat}{p q:ZX}(h:Bg a b p)(h':Bg a b q):Bg a b (p*q):=by
 obtain⟨η,h1,h2⟩:=h
 obtain⟨θ,h3,h4⟩:=h'
 exact⟨η*θ,Rat.mul_pos h1 h3,fun x hx hy=>by rw [i7];exact kX.mul h1 h3 (h2 x hx hy) (h4 x hx hy)⟩
theorem Bg.K{a b:Rat}{c:Int}(hc:c≠0):Bg a b (ZX.K c):=⟨1,by decide,fun x _ _=>by rw [yY];exact uO hc⟩
theorem Bg.mono{a b c d:Rat}{p:ZX}(h:Bg a b p)(hc:a≤c)(hd:d≤b):Bg c d p:=by
 obtain⟨η,h1,h2⟩:=h
 exact⟨η,h1,fun x hx hy=>h2 x (by grind) (by grind)⟩
theorem I8(t:Rat)(n d:Int):e t (of [n,d])=n+d*t:=by
 rw [aqI]
 simp only [qv];grind
theorem Bg.lin{a b:Rat}{n d:Int}(h:(0<(n:Rat)+d*a∧0<(n:Rat)+d*b)∨((n:Rat)+d*a<0∧(n:Rat)+d*b<0)):Bg a b (of [n,d]):=by
 have key:∀x,a≤x→x≤b→((n:Rat)+d*a≤n+d*x∧(n:Rat)+d*x≤n+d*b)∨((n:Rat)+d*b≤n+d*x∧(n:Rat)+d*x≤n+d*a):=fun x hx hy=>by
  by_cases hd:(0:Rat)≤d
  ·left
   have:=Rat.mul_le_mul_of_nonneg_left hx hd
   have:=Rat.mul_le_mul_of_nonneg_left hy hd
   grind
  ·right
   have:=Rat.mul_le_mul_of_nonneg_left hx (show (0:Rat) ≤ -d by grind)
   have:=Rat.mul_le_mul_of_nonneg_left hy (show (0:Rat) ≤ -d by grind)
   grind
 generalize (n:Rat)+d*a=u at *
 generalize (n:Rat)+d*b=v at *
 rcases h with ⟨h1,h2⟩ | ⟨h1,h2⟩
 ·by_cases huv:u≤v
  ·exact⟨u,h1,fun x hx hy=>by rw [I8];have:=key x hx hy;right;grind⟩
  ·exact⟨v,h2,fun x hx hy=>by rw [I8];have:=key x hx hy;right;grind⟩
 ·by_cases huv:u≤v
  ·exact⟨-v,by grind,fun x hx hy=>by rw [I8];have:=key x hx hy;left;grind⟩
  ·exact⟨-u,by grind,fun x hx hy=>by rw [I8];have:=key x hx hy;left;grind⟩
theorem CM(l:List Int):∃S:Rat,0≤S ∧ ∀c∈l,Ab (c:Rat) S:=by
 induction l with
 | nil=>exact⟨0,Rat.le_refl,fun c hc=>by cases hc⟩
 | cons a l ih =>
  obtain⟨S,hS,h⟩:=ih
  obtain⟨A,hA,ha,_⟩:=kB a a
  refine⟨S+A,by grind,fun c hc=>?_⟩
  rcases List.mem_cons.1 hc with rfl | hc
  ·exact ha.mono (by grind)
  ·exact(h c hc).mono (by grind)
theorem cH{a b x B:Rat}(ha:Ab a B)(hb:Ab b B)(hx:a≤x)(hy:x≤b):Ab x B:=by
 obtain⟨h1,h2⟩:=ha
 obtain⟨h3,h4⟩:=hb
 exact⟨by grind,by grind⟩
theorem aj1(a b:Rat)(p:ZX):∃W:Rat,0<W ∧ ∀x,a≤x→x≤b→Ab (e x p) W:=by
 obtain⟨B,hB,ha,hb⟩:=kB a b
 obtain⟨S,hS,h⟩:=CM p.l
 obtain⟨h3,_⟩:=pB hS hB p.l.length
 exact⟨GC S B p.l.length+1,by grind,fun x hx hy=>(RA hS hB (cH ha hb hx hy) p.l h).mono (by grind)⟩
theorem Bg.dv{a b:Rat}{f p:ZX}(h:Bg a b p)(hd:ZX.dv f p):Bg a b f:=by
 obtain⟨c,hc,q,he⟩:=hd
 obtain⟨η,h1,h2⟩:=(Bg.K (a:=a) (b:=b) hc).mul h
 obtain⟨W,hW,h3⟩:=aj1 a b q
 refine⟨η/W,(Rat.lt_div_iff hW).2 (by grind),fun x hx hy=>?_⟩
 have h4:=h2 x hx hy
 rw [he,i7]at h4
 have h5:η/W*W=η:=Rat.div_mul_cancel (Rat.ne_of_gt hW)
 refine Classical.byContradiction fun hn=>?_
 obtain⟨g1,g2⟩:=CJ hn
 obtain⟨k1,k2⟩:=h3 x hx hy
 generalize η/W=θ at *
 generalize e x q=u at *
 generalize e x f=v at *
 have key:∀ {w z:Rat}, -W≤w→w≤W → -θ<z→z<θ→w*z<θ*W:=fun {w z} a1 a2 a3 a4=>by
  by_cases hw:0≤w
  ·by_cases hz:0≤z
   ·have p1:=Rat.mul_le_mul_of_nonneg_right a2 hz
    have p2:=Rat.mul_lt_mul_of_pos_left a4 hW
    grind
   ·have p1:=Rat.mul_nonneg hw (show 0 ≤ -z by grind)
    grind
  ·by_cases hz:0≤z
   ·have p1:=Rat.mul_nonneg (show 0 ≤ -w by grind) hz
    grind
   ·have p1:=Rat.mul_le_mul_of_nonneg_right (show -w≤W by grind) (show 0 ≤ -z by grind)
    have p2:=Rat.mul_lt_mul_of_pos_left (show -z<θ by grind) hW
    grind
 rcases h4 with h4 | h4
 ·have:=key (w := -u) (z:=v) (by grind) (by grind) g1 g2
  grind
 ·have:=key (w:=u) (z:=v) k1 k2 g1 g2
  grind
theorem Bg.same{a b:Rat}{f:ZX}(h:Bg a b f){x y:Rat}(hx:a≤x)(rL:x<y)(hy:y≤b):cD (e y f)=cD (e x f)∧cD (e x f)≠0:=by
 obtain⟨η,hη,h2⟩:=h
 obtain⟨B,hB,ha,hb⟩:=kB a b
 obtain⟨S,hS,hc⟩:=CM f.l
 obtain⟨h3,_⟩:=pB hS hB f.l.length
 generalize hQ:GC S B f.l.length=Q at *
 have hQ1:0<Q+1:=by grind
 have hδ:η/(Q+1)*(Q+1)=η:=Rat.div_mul_cancel (Rat.ne_of_gt hQ1)
 have hδ0:0<η/(Q+1):=(Rat.lt_div_iff hQ1).2 (by grind)
 generalize η/(Q+1)=δ at *
 refine aqJ (B:=B) hδ0 (P:=fun x y=>a≤x→y≤b→cD (e y f)=cD (e x f)∧cD (e x f)≠0) (fun x y z h1 h2 p1 p2 hx hz=>?_) (fun x y hx hy rL hd hax hyb=>?_) (cH ha hb hx (by grind)) (cH ha hb (by grind) hy) rL hx hy
 ·obtain⟨q1,q2⟩:=p1 hx (by grind)
  obtain⟨q3,q4⟩:=p2 (by grind) hz
  exact⟨q3.trans q1,q2⟩
 ·refine gD (h2 x hax (by grind)) hη ?_
  show ¬kX η (qv y f.l-qv x f.l)
  rw [oG]
  refine BJ (Q:=Q) (by grind) (hQ▸I5 hS hB hx hy f.l hc) ?_
  have:=Rat.mul_le_mul_of_nonneg_right hd h3
  grind
theorem yC.bg{L:List ZX}{f:ZX}(h:yC L f){a b:Rat}(hb:Bg a b f)(fQ:a<b):vt L a=vt L b:=by
 refine h.const fQ (σ:=cD (e a f)) (.inr rfl) fun x hx hy=>?_
 exact(hb.same Rat.le_refl hx hy).1
theorem yC.abL{L:List ZX}{f:ZX}(h:yC L f){a b:Rat}(fQ:a<b)(h0:e a f=0):∃c,a<c∧c≤b∧vt L a=vt L c:=by
 obtain⟨B,hB,ha,hb⟩:=kB a b
 obtain⟨δ,hδ,hl⟩:=h.loc B hB
 by_cases hd:b-a≤δ
 ·refine⟨b,fQ,Rat.le_refl,?_⟩
  rw [hl.turns a b ha hb fQ hd]
  have:ind f a b=0:=if_neg fun h=>h.1 h0
  omega
 ·refine⟨a+δ,by grind,by grind,?_⟩
  rw [hl.turns a (a+δ) ha (cH ha hb (by grind) (by grind)) (by grind) (by grind)]
  have:ind f a (a+δ)=0:=if_neg fun h=>h.1 h0
  omega
end Pm
namespace Go.Proofs.YtiobceocpabjdaaGreat
open Go Pm
abbrev T2(n d:Int):PV:=.ag [.bool (decide (n<0)),us (aR LL n.natAbs), .bool (decide (d<0)),us (aR LL d.natAbs)]
abbrev RT(q:Rat):PV:=T2 q.num q.den
theorem aj2(n d:Int):((bO [n,d]:Nat):Int)=Int.gcd n d:=by
 simp only [bO,List.foldl_cons,List.foldl_nil,Nat.gcd_zero_left]
 rfl
theorem aqM{n d:Int}(h:d≠0):(dU n d).num=(if d<0 then -n else n)/(bO [n,d]:Nat)∧((dU n d).den:Int)=(if d<0 then -d else d)/(bO [n,d]:Nat):=by
 have e:∀m k:Int,(m=n∨m = -n)→(k=d∨k = -d)→((Int.gcd m k:Nat):Int)=(bO [n,d]:Nat):=fun m k hm hk=>by
  rw [aj2]
  rcases hm with rfl | rfl<;>rcases hk with rfl | rfl<;>simp
 rw [uB n d h,uC n d h]
 constructor
 ·rw [e _ _ (by split<;>simp) (by split<;>simp)]
 ·rw [e _ _ (by split<;>simp) (by split<;>simp)]
theorem rE{n d:Int}(hn:sz LL n<1099511627770)(hd:sz LL d<1099511627770)(h0:d≠0):aE env.P 169 [I n,I d] (RT (dU n d)):=by
 have sn:Sz n:=by show _<_;omega
 have sd:Sz d:=by show _<_;omega
 have g0:=QD [uW n,uW d] 1099511627770 (by decide) (fun c hc=>by
  simp only [List.mem_cons,List.not_mem_nil,or_false]at hc
  rcases hc with rfl | rfl
  ·exact⟨fN gO _,by unfold sz at hn;show(aR LL n.natAbs).length≤_;omega⟩
  ·exact⟨fN gO _,by unfold sz at hd;show(aR LL d.natAbs).length≤_;omega⟩) (by simp)
 rw [show [uW n,uW d].map gv = [n,d]by simp [PH]]at g0
 obtain⟨q1,q2⟩:=aqM (n:=n) h0
 have gd1:((bO [n,d]:Nat):Int)∣n:=i6 _ n (by simp)
 have gd2:((bO [n,d]:Nat):Int)∣d:=i6 _ d (by simp)
 have gne:((bO [n,d]:Nat):Int)≠0:=by
  have:=QI (x:=[n,d]) (c:=d) (by simp) h0;omega
 have gle:((bO [n,d]:Nat):Int).natAbs≤d.natAbs:=Nat.le_of_dvd (by omega) (Int.natAbs_dvd_natAbs.2 gd2)
 have gsz:sz LL ((bO [n,d]:Nat):Int)<1099511627774:=Nat.lt_of_le_of_lt (dY gO gle) (by omega)
 have nn:∀v,sY (aR LL v)↔sY (aR LL v):=fun _=>Iff.rfl
 have neg:∀v:Int,Sz v→aE env.P 148 [I v] (I (-v)):=fun v hv=>by
  have:=EF (decide (v<0)) (aR LL v.natAbs) hv.XZ
  rw [show iv (decide (v<0)) (aR LL v.natAbs)=v from PH v]at this
  exact this
 generalize hg:((bO [n,d]:Nat):Int)=g at *
 have ex:∀v:Int,g∣v→sz LL v<1099511627774→aE env.P 234 [I v,I g] (.dX [I (v/g), .int .i64 0]):=fun v hv hs=>by
  have:=K9 hs gsz gne
  rw [if_pos (Int.emod_eq_zero_of_dvd hv)]at this
  exact this
 have n1:=neg n sn
 have n2:=neg d sd
 have axj:∀v:Int,sz LL (-v)=sz LL v:=fun v=>by unfold sz;rw [Int.natAbs_neg]
 have e1:=ex (if d<0 then -n else n) (by split;exact(Int.dvd_neg.2 gd1);exact gd1) (by split;rw [axj];omega;omega)
 have e2:=ex (if d<0 then -d else d) (by split;exact(Int.dvd_neg.2 gd2);exact gd2) (by split;rw [axj];omega;omega)
 rw [←q1]at e1
 rw [←q2]at e2
 have eg:Pg [uW n,uW d] = .sl [[.bool (decide (n<0)),us (aR LL n.natAbs)],[.bool (decide (d<0)),us (aR LL d.natAbs)]]:=rfl
 rw [eg]at g0
 show aE env.P _ _ (T2 (dU n d).num (dU n d).den)
 generalize (dU n d).num=rn at *
 generalize ((dU n d).den:Int)=rd at *
 refine cB [(0,I n),(1,I d)] Tryz.func169 ?_
 refine aA [2,3,4] ?_
 refine aL [2,3,4,5] g0 ?_
 generalize BR:(if d<0 then -n else n)=n' at *
 generalize hd':(if d<0 then -d else d)=d' at *
 refine W.iB (fun σ=>∃(rows:Pm.Rows) (clk:Nat),σ=⟨fa [(2, .ptr 2 0 0 0),(3, .ptr 3 1 0 0),(4, .ptr 4 2 0 0),(5, .ptr 5 3 0 0)],rows,clk⟩∧rows 2=some ⟨0,38,2,[ie n']⟩∧rows 3=some ⟨1,38,2,[ie d']⟩∧rows 4=some ⟨2,52,4,[[.bool false, .nil, .bool false, .nil]]⟩∧rows 5=some ⟨3,38,2,[ie g]⟩) ?_ ?_
 ·refine aA [2,3,4,5,11] ?_
  refine bH ?_ ?_<;>intro h
  ·have h:d<0:=by simpa using h
   rw [if_pos h]at BR hd'
   subst BR hd'
   refine W.NB (fun K hK=>?_)
   simp (disch:=omega) [gw]
   refine cM n1 ?_
   refine cM n2 ?_
   (try (refine bE (of_decide_eq_true (by kernel_rfl)) ?_));(try simp (maxSteps:=4000000) (disch:=omega) [gw]);(repeat rw [if_pos (by kernel_rfl)]);(try simp (maxSteps:=4000000) (disch:=omega) [gw])
   (try (refine bE (of_decide_eq_true (by kernel_rfl)) ?_));(try simp (maxSteps:=4000000) (disch:=omega) [gw]);(repeat rw [if_pos (by kernel_rfl)]);(try simp (maxSteps:=4000000) (disch:=omega) [gw])
   exact hK _ ⟨_,aB _ [2,3,4,5],_,_,rfl,by simp,by simp,by simp,by simp⟩
  ·have h:¬d<0:=by simpa using h
   rw [if_neg h]at BR hd'
   subst BR hd'
   refine W.skip ?_
   exact⟨_,aB _ [2,3,4,5],_,_,rfl,by simp,by simp,by simp,by simp⟩
 rintro _ ⟨rows,clk,rfl,bU,bQ,dF,dM⟩
 simp only [ie]at bU bQ dM
 refine W.sr ?_
 simp (disch:=omega) [gw,bU,dM]
 refine aC e1 ?_
 simp (disch:=omega) [gw,bU]
 refine bI [2,3,4,5] ?_
 refine W.sr ?_
 simp (disch:=omega) [gw,bQ,dM]
 refine aC e2 ?_
 simp (disch:=omega) [gw,bQ]
 refine bI [2,3,4] ?_
 refine W.sr ?_
 simp (disch:=omega) [gw,dF]
 refine bI [4] ?_
 exact bZ
theorem I9(d:Int):aE env.P 124 [I d] (.bool (decide (d=0))):=by
 have:=PK (decide (d<0)) (aR LL d.natAbs)
 rw [show decide ((aR LL d.natAbs).length=0)=decide (d=0)from by
  by_cases h:d=0
  ·subst h;rfl
  ·have:aR LL d.natAbs ≠ []:=fun h2=>h (by have:=lE gO d.natAbs;rw [h2]at this;simp [V]at this;omega)
   have h3:=List.length_pos_iff.2 this
   simp [h];omega]at this
 exact this
theorem VP(n:Int):dU n 0=dU n 1:=by rw [mM,dU,if_pos rfl]
theorem nW{n d:Int}(hn:sz LL n<1099511627770)(hd:sz LL d<1099511627770):aE env.P 147 [T2 n d] (RT (dU n d)):=by
 have sn:Sz n:=by show _<_;omega
 have sd:Sz d:=by show _<_;omega
 have n1:=K1 sn
 have n2:=K1 sd
 have z1:=I9 d
 have o1:=EH 1 (by decide) (by decide)
 obtain⟨e,he,hed⟩:∃e,e=(if d=0 then 1 else d)∧dU n e=dU n d:=by
  refine⟨_,rfl,?_⟩
  split
  ·rename_i h;rw [h,VP]
  ·rfl
 have NW:sz LL e<1099511627770:=by
  rw [he]
  split
  ·exact Nat.lt_of_le_of_lt (dV (k:=1) gO (by decide)) (by decide)
  ·exact hd
 have LV:e≠0:=by
  rw [he]
  split
  ·decide
  ·assumption
 have l1:=rE (n:=n) (d:=e) hn NW LV
 rw [hed]at l1
 show aE env.P _ _ (T2 (dU n d).num (dU n d).den)
 replace l1:aE env.P 169 [I n,I e] (T2 (dU n d).num (dU n d).den):=l1
 clear hed NW LV
 generalize (dU n d).num=rn at *
 generalize ((dU n d).den:Int)=rd at *
 refine cB [(0,T2 n d)] Tryz.func147 ?_
 refine aA [1,2] ?_
 refine aL [1,2,3] n2 ?_
 refine W.iB (fun σ=>∃(rows:Pm.Rows) (clk:Nat),σ=⟨fa [(1, .ptr 1 0 0 0),(2, .ptr 2 1 0 0),(3, .ptr 3 2 0 0)],rows,clk⟩∧rows 1=some ⟨0,52,4,[[.bool (decide (n<0)),us (aR LL n.natAbs), .bool (decide (d<0)),us (aR LL d.natAbs)]]⟩∧rows 2=some ⟨1,52,4,[[.bool false, .nil, .bool false, .nil]]⟩∧rows 3=some ⟨2,38,2,[[.bool (decide (e<0)),us (aR LL e.natAbs)]]⟩) ?_ ?_
 ·refine aL [1,2,3,8] z1 ?_
  refine bH ?_ ?_<;>intro h
  ·have h:d=0:=by simpa using h
   rw [if_pos h]at he
   subst he
   refine W.bY (fun K hK=>?_)
   simp (disch:=omega) [gw]
   refine cM o1 ?_
   exact hK _ ⟨_,aB _ [1,2,3],_,_,rfl,by simp,by simp,by simp⟩
  ·have h:¬d=0:=by simpa using h
   rw [if_neg h]at he
   subst he
   refine W.skip ?_
   exact⟨_,aB _ [1,2,3],_,_,rfl,by simp,by simp,by simp⟩
 rintro _ ⟨rows,clk,rfl,xE,bU,bQ⟩
 refine W.sd ?_
 simp (disch:=omega) [gw,xE]
 refine aC n1 ?_
 simp (disch:=omega) [gw,bQ]
 refine aC l1 ?_
 simp (disch:=omega) [gw,bU]
 (try (refine bE (of_decide_eq_true (by kernel_rfl)) ?_));(try simp (maxSteps:=4000000) (disch:=omega) [gw,bU]);(repeat rw [if_pos (by kernel_rfl)]);(try simp (maxSteps:=4000000) (disch:=omega) [gw,bU])
 refine bI [2] ?_
 exact bZ
theorem zV{n d m e:Int}{k:Nat}(hn:sz LL n≤k)(hd:sz LL d≤k)(hm:sz LL m≤k)(he:sz LL e≤k)(hk:k≤500000000000){p q:Rat}(hp:dU n d=p)(hq:dU m e=q)(sp:sz LL p.num≤k∧sz LL (p.den:Int)≤k)(sq:sz LL q.num≤k∧sz LL (q.den:Int)≤k) :
  aE env.P 165 [T2 n d,T2 m e] (.dX [I (p.num*q.den),I (q.num*p.den),I ((p.den:Int)*q.den)]):=by
 have n1:=nW (n:=n) (d:=d) (by omega) (by omega)
 have n2:=nW (n:=m) (d:=e) (by omega) (by omega)
 rw [hp]at n1
 rw [hq]at n2
 have z:∀ {v:Int},sz LL v≤k→Sz v:=fun h=>by show _<_;omega
 have m1:=xO (z sp.1) (z sq.2)
 have m2:=xO (z sq.1) (z sp.2)
 have m3:=xO (z sp.2) (z sq.2)
 replace n1:aE env.P 147 [T2 n d] (T2 p.num p.den):=n1
 replace n2:aE env.P 147 [T2 m e] (T2 q.num q.den):=n2
 clear sp sq hp hq
 generalize p.num*(q.den:Int)=x1 at *
 generalize q.num*(p.den:Int)=x2 at *
 generalize (p.den:Int)*(q.den:Int)=x3 at *
 generalize p.num=pn at *
 generalize (p.den:Int)=pd at *
 generalize q.num=qn at *
 generalize (q.den:Int)=qd at *
 refine cB [(0,T2 n d),(1,T2 m e)] Tryz.func165 ?_
 refine aA [2,3,4,5,6] ?_
 refine nH ?_
 refine cM n1 ?_
 refine cM n2 ?_
 (try (refine bE (of_decide_eq_true (by kernel_rfl)) ?_));(try simp (maxSteps:=4000000) (disch:=omega) [gw]);(repeat rw [if_pos (by kernel_rfl)]);(try simp (maxSteps:=4000000) (disch:=omega) [gw])
 (try (refine bE (of_decide_eq_true (by kernel_rfl)) ?_));(try simp (maxSteps:=4000000) (disch:=omega) [gw]);(repeat rw [if_pos (by kernel_rfl)]);(try simp (maxSteps:=4000000) (disch:=omega) [gw])
 refine bI [2,3,4,5,6] ?_
 refine W.sd ?_
 simp (maxSteps:=4000000) (disch:=omega) [gw]
 refine aC m1 ?_
 simp (maxSteps:=4000000) (disch:=omega) [gw]
 refine aC m2 ?_
 simp (maxSteps:=4000000) (disch:=omega) [gw]
 refine aC m3 ?_
 simp (maxSteps:=4000000) (disch:=omega) [gw]
 (try (refine bE (of_decide_eq_true (by kernel_rfl)) ?_));(try simp (maxSteps:=4000000) (disch:=omega) [gw]);(repeat rw [if_pos (by kernel_rfl)]);(try simp (maxSteps:=4000000) (disch:=omega) [gw])
 (try (refine bE (of_decide_eq_true (by kernel_rfl)) ?_));(try simp (maxSteps:=4000000) (disch:=omega) [gw]);(repeat rw [if_pos (by kernel_rfl)]);(try simp (maxSteps:=4000000) (disch:=omega) [gw])
 (try (refine bE (of_decide_eq_true (by kernel_rfl)) ?_));(try simp (maxSteps:=4000000) (disch:=omega) [gw]);(repeat rw [if_pos (by kernel_rfl)]);(try simp (maxSteps:=4000000) (disch:=omega) [gw])
 refine bI [4,5,6] ?_
 exact bZ
theorem dB{n d m e:Int}{k:Nat}(hn:sz LL n≤k)(hd:sz LL d≤k)(hm:sz LL m≤k)(he:sz LL e≤k)(hk:k≤500000000000){p q:Rat}(hp:dU n d=p)(hq:dU m e=q)(sp:sz LL p.num≤k∧sz LL (p.den:Int)≤k)(sq:sz LL q.num≤k∧sz LL (q.den:Int)≤k) :
  aE env.P 86 [T2 n d,T2 m e] (.int .i64 (dP (p.num*q.den) (q.num*p.den))):=by
 have c1:=zV hn hd hm he hk hp hq sp sq
 have g1:=cP (b:=LL) gO sp.1 sq.2
 have g2:=cP (b:=LL) gO sq.1 sp.2
 have w1:=X1 (x:=p.num*q.den) (y:=q.num*p.den) (by show _<_;omega) (by show _<_;omega)
 clear sp sq hp hq g1 g2
 generalize dP (p.num*(q.den:Int)) (q.num*(p.den:Int))=r at *
 generalize p.num*(q.den:Int)=x1 at *
 generalize q.num*(p.den:Int)=x2 at *
 generalize (p.den:Int)*(q.den:Int)=x3 at *
 refine cB [(0,T2 n d),(1,T2 m e)] Tryz.func86 ?_
 refine aA [2,3] ?_
 refine aL [5,6] c1 ?_
 refine aL [4] w1 ?_
 exact bZ
theorem yD{n d:Int}(hn:sz LL n<1099511627770)(hd:sz LL d<1099511627770):aE env.P 90 [T2 n d, .sl []] (RT (dU n d)):=by
 have n1:=nW hn hd
 show aE env.P _ _ (T2 (dU n d).num (dU n d).den)
 replace n1:aE env.P 147 [T2 n d] (T2 (dU n d).num (dU n d).den):=n1
 generalize (dU n d).num=rn at *
 generalize ((dU n d).den:Int)=rd at *
 refine cB [(0,T2 n d),(1, .sl [])] Tryz.func90 ?_
 refine aA [1,2,4] ?_
 refine aL [1,4,5] n1 ?_
 refine aK [4,5,10,11,12] ?_
 refine W.block ?_
 refine W.aY (fun k σ=>∃(rows:Pm.Rows) (clk:Nat),σ=⟨fa [(4, .ptr 4 1 0 0),(5, .ptr 5 2 0 0),(11, .int .i64 0),(12, .int .i64 0)],rows,clk⟩∧rows 4=some ⟨1,52,4,[[.bool false, .nil, .bool false, .nil]]⟩∧rows 5=some ⟨2,52,4,[[.bool (decide (rn<0)),us (aR LL rn.natAbs), .bool (decide (rd<0)),us (aR LL rd.natAbs)]]⟩) 0 ?_ ?_
 ·exact⟨_,aB _ [4,5,11,12],_,_,rfl,by simp,by simp⟩
 rintro k _ ⟨rows,clk,rfl,dF,dM⟩
 refine bT [4,5,11,12,13] ?_
 refine bH ?_ ?_<;>intro h
 ·simp at h
 ·refine eW ?_
  refine W.sr ?_
  simp (disch:=omega) [gw,dF,dM]
  refine bI [4] ?_
  exact bZ
theorem abM{n d:Int}(hn:sz LL n<1099511627770)(hd:sz LL d<1099511627770):aE env.P 166 [T2 n d] (RT (dU n d)):=by
 have n1:=yD hn hd
 show aE env.P _ _ (T2 (dU n d).num (dU n d).den)
 replace n1:aE env.P 90 [T2 n d, .sl []] (T2 (dU n d).num (dU n d).den):=n1
 generalize (dU n d).num=rn at *
 generalize ((dU n d).den:Int)=rd at *
 refine cB [(0,T2 n d)] Tryz.func166 ?_
 refine aA [1,2] ?_
 refine aL [2] n1 ?_
 exact bZ
end Go.Proofs.YtiobceocpabjdaaGreat
namespace Go.Proofs.YtiobceocpabjdaaGreat
open Go Pm
open ZX hiding N W
def wJ(st:Nat × Int)(s:Int):Nat × Int:=if s=0 then st else(if st.2≠0∧s≠st.2 then st.1+1 else st.1,s)
def vr(l:List Int):Nat:=(l.foldl wJ (0,0)).1
theorem VQ(l:List Int):∀st:Nat × Int,(l.foldl wJ st).1≤st.1+l.length:=by
 induction l with
 | nil=>intro st;simp
 | cons s l ih =>
  intro st
  have h:=ih (wJ st s)
  have:(wJ st s).1≤st.1+1:=by
   unfold wJ
   split
   ·omega
   ·simp only;split<;>omega
  simp only [List.foldl_cons,List.length_cons]
  omega
theorem FI(l:List Int):vr l≤l.length:=by have:=VQ l (0,0);simpa [vr]using this
theorem zW{l:List Int}{i:Nat}(h:i<l.length):(l.take (i+1)).foldl wJ (0,0)=wJ ((l.take i).foldl wJ (0,0)) (nth l i):=by
 rw [List.take_add_one,List.getElem?_eq_getElem h,cE h,List.foldl_append]
 rfl
theorem CN(l:List Int)(i:Nat):aG (nth l i) = [.int .i64 (nth l i)]:=rfl
theorem VR(l:List Int)(hl:l.length<1099511627776):aE env.P 223 [aH aG l] (.int .i64 (vr l)):=by
 have hv:vr l=((l.take l.length).foldl wJ (0,0)).1:=by rw [List.take_length];rfl
 rw [hv]
 have hb:∀i,((l.take i).foldl wJ (0,0)).1≤i:=fun i=>by have:=VQ (l.take i) (0,0);simp at this;omega
 have iR:=fun i (h:i<l.length)=>zW h
 generalize (fun i=>(l.take i).foldl wJ (0,0))=F at *
 refine cB [(0,aH aG l)] Tryz.func223 ?_
 refine aA [0] ?_
 refine aA [0,3,4] ?_
 refine aK [0,3,4,7,8] ?_
 refine W.block ?_
 refine W.aY (fun k σ=>∃(i:Nat) (n:Nat) (s:Int) (rows:Pm.Rows) (clk:Nat),σ=⟨fa [(0,aH aG l),(3, .int .i64 n),(4, .int .i64 s),(7, .int .i64 l.length),(8, .int .i64 i)],rows,clk⟩∧i+k=l.length∧(l.take i).foldl wJ (0,0)=(n,s)) l.length ?_ ?_
 ·exact⟨_, .refl,0,0,0,_,_,rfl,by omega,by simp⟩
 rintro k _ ⟨i,n,s,rows,clk,rfl,uA,hF⟩
 have hni:n≤i:=by have:=hb i;rw [hF]at this;exact this
 refine bT [0,3,4,7,8,9] ?_
 refine bH ?_ ?_<;>intro h
 ·have hi:i<l.length:=by simp at h;omega
  have vT:=iR i hi
  rw [hF]at vT
  generalize hx:nth l i=x at *
  refine W.skip ?_
  refine W.dW (fun σ=>∃(n':Nat) (s':Int) (rows:Pm.Rows) (clk:Nat),σ=⟨fa [(0,aH aG l),(3, .int .i64 n'),(4, .int .i64 s'),(7, .int .i64 l.length),(8, .int .i64 i)],rows,clk⟩∧wJ (n,s) x=(n',s')) ?_ ?_
  ·refine aA [0,3,4,5,7,8] ?_
   refine W.sr ?_
   simp (disch:=omega) [gw,hi,hx,CN]
   refine bI [0,3,4,5,7,8,15] ?_
   refine bH ?_ ?_<;>intro h
   ·have qB:x≠0:=by simpa using h
    refine W.iB (fun σ=>∃(n':Nat) (rows:Pm.Rows) (clk:Nat),σ=⟨fa [(0,aH aG l),(3, .int .i64 n'),(5, .int .i64 i),(7, .int .i64 l.length),(8, .int .i64 i)],rows,clk⟩∧wJ (n,s) x=(n',x)) ?_ ?_
    ·refine W.eD (fun σ=>∃(b:Bool) (rows:Pm.Rows) (clk:Nat),σ=⟨fa [(0,aH aG l),(3, .int .i64 n),(5, .int .i64 i),(7, .int .i64 l.length),(8, .int .i64 i),(25, .bool b)],rows,clk⟩∧b=decide (s≠0∧x≠s)) (fun K hK=>?_) ?_
     ·by_cases XY:s=0
      ·subst XY
       simp (disch:=omega) [gw,hi,hx,CN]
       exact hK _ _ (aB _ [0,3,5,7,8,25]) ⟨_,_,_,rfl,by simp⟩
      ·have TM:(s != 0)=true:=by simpa using XY
       simp (disch:=omega) [gw,hi,hx,CN,TM]
       exact hK _ _ (aB _ [0,3,5,7,8,25]) ⟨_,_,_,rfl,by simp [XY];rfl⟩
     rintro _ ⟨b,rows,clk,rfl,rfl⟩
     refine bH ?_ ?_<;>intro h
     ·have h:=of_decide_eq_true h
      refine W.bY (fun K hK=>?_);simp (disch:=omega) [gw]
      exact hK _ ⟨_,aB _ [0,3,5,7,8],n+1,_,_,rfl,by unfold wJ;rw [if_neg qB];simp only;rw [if_pos h]⟩
     ·have h:=of_decide_eq_false h
      refine W.skip ?_
      exact⟨_,aB _ [0,3,5,7,8],n,_,_,rfl,by unfold wJ;rw [if_neg qB];simp only;rw [if_neg h]⟩
    rintro _ ⟨n',rows,clk,rfl,BR⟩
    refine W.bY (fun K hK=>?_);simp (disch:=omega) [gw,hi,hx,CN]
    exact hK _ ⟨_,aB _ [0,3,4,7,8],n',x,_,_,rfl,BR⟩
   ·have qB:x=0:=by simpa using h
    refine W.skip ?_
    exact⟨_,aB _ [0,3,4,7,8],n,s,_,_,rfl,by unfold wJ;rw [if_pos qB]⟩
  rintro _ ⟨n',s',rows,clk,rfl,BR⟩
  refine W.bY (fun K hK=>?_);simp (disch:=omega) [gw]
  refine hK _ ⟨k-1,_,aB _ [0,3,4,7,8],by omega,i+1,n',s',_,_,rfl,by omega,by rw [vT,BR]⟩
 ·have hi:i=l.length:=by simp at h;omega
  subst hi
  refine eW ?_
  refine aA [2] ?_
  rw [hF]
  exact bZ
def eL(x:List Int):Int:=if x.length%2=0 then -(lead x).sign else(lead x).sign
def eR(x:List Int):Int:=(lead x).sign
def pC(c:List ZX)(n d:Int):List Int:=c.map fun p=>LX p.l n d
def sgL(c:List ZX):List Int:=c.map fun p=>eL p.l
def sgR(c:List ZX):List Int:=c.map fun p=>eR p.l
theorem CO{l:List Int}{v:Int}:emap aG l ++ [[.int .i64 v]]=emap aG (l ++ [v]):=by simp [emap,aG]
theorem G8{α:Type}[Inhabited α](f:α→Int){c:List α}{i:Nat}(h:i<c.length):(c.take i).map f ++ [f (nth c i)]=(c.take (i+1)).map f:=by
 rw [List.take_add_one,List.getElem?_eq_getElem h,cE h,List.map_append];rfl
theorem RC{c:List ZX}{n d:Int}(hl:c.length<1000000)(hS:∀p∈c,aE env.P 77 [PI p.l,R2 n d] (.int .i64 (LX p.l n d))):aE env.P 151 [aH zq c,R2 n d] (.int .i64 (vr (pC c n d))):=by
 have hT:=VR (pC c n d) (by simp [pC];omega)
 have gE:(emap aG (pC c n d)).length=c.length:=by simp [pC,emap]
 have yV:(pC c n d)=(c.take c.length).map fun p=>LX p.l n d:=by rw [List.take_length];rfl
 have htG:(pC c n d).take c.length=pC c n d:=List.take_of_length_le (by simp [pC])
 generalize vr (pC c n d)=r at *
 generalize hg:pC c n d=G at *
 refine cB [(0,aH zq c),(1,R2 n d)] Tryz.func151 ?_
 refine aA [0,3] ?_
 refine aA [0,3,5] ?_
 refine W.nil 5 5 3 1 (by simp) (by decide) (fun K hK=>?_)
 refine W.lw [0,3,5] hK ?_;clear hK K;simp
 refine aK [0,3,5,8,9] ?_
 refine W.block ?_
 refine W.aY (fun k σ=>∃(i ver v3 e3:Nat) (rows:Pm.Rows) (clk:Nat),σ=⟨fa [(0,aH zq c),(3, .ptr 3 v3 0 0),(5, .own 5 ver 0 i),(8, .int .i64 c.length),(9, .int .i64 i)],rows,clk⟩∧i+k=c.length ∧
  rows 3=some ⟨v3,e3,4,[[aH aG (aR DD n.natAbs), .bool (decide (n<0)),aH aG (aR DD d.natAbs), .bool (decide (d<0))]]⟩∧rows 5=some ⟨ver,3,1,emap aG ((c.take i).map fun p=>LX p.l n d)⟩) c.length ?_ ?_
 ·exact⟨_, .refl,0,_,_,_,_,_,rfl,by omega,by simp;first | exact⟨rfl,rfl⟩ | exact rfl,by simp [emap]⟩
 rintro k _ ⟨i,ver,v3,e3,rows,clk,rfl,uA,bQ,dM⟩
 have vX:((c.take i).map fun p=>LX p.l n d).length=i:=by simp;omega
 refine bT [0,3,5,8,9,10] ?_
 refine bH ?_ ?_<;>intro h
 ·have hi:i<c.length:=by simp at h;omega
  have hSi:=hS _ (bJ hi)
  have WY:=G8 (fun p:ZX=>LX p.l n d) hi
  generalize hpr:(c.take i).map (fun p=>LX p.l n d)=pr at *
  generalize hv:LX (nth c i).l n d=v at *
  have nS:(emap aG pr).length=i:=by simp [emap,vX]
  refine j7 ?_
  refine aA [0,3,5,6,8,9] ?_
  refine W.NB (fun K hK=>?_)
  simp (disch:=omega) [gw,hi,bQ,dM]
  refine aC hSi ?_
  simp (disch:=omega) [gw,dM,nS,CO]
  (try (refine bE (of_decide_eq_true (by kernel_rfl)) ?_));(try simp (maxSteps:=4000000) (disch:=omega) [gw,dM,nS,CO]);(repeat rw [if_pos (by kernel_rfl)]);(try simp (maxSteps:=4000000) (disch:=omega) [gw,dM,nS,CO])
  refine W.lw [0,3,5,8,9] hK ?_;clear hK K;simp
  refine W.bY (fun K hK=>?_);simp (disch:=omega) [gw]
  refine hK _ ⟨k-1,_,aB _ [0,3,5,8,9],by omega,i+1,_,v3,e3,_,_,rfl,by omega,by simp [bQ],by simp [CO,WY]⟩
 ·have hi:i=c.length:=by simp at h;omega
  subst hi
  rw [←yV]at dM
  refine eW ?_
  refine W.sr ?_
  simp (disch:=omega) [gw,dM,gE,htG]
  refine cN [4] hT ?_
  exact bZ
theorem RD{c:List ZX}{n d m e:Int}(hn:sz 2 n≤YY)(hd:sz 2 d≤YY)(hm:sz 2 m≤YY)(he:sz 2 e≤YY)(hl:c.length<1000000)(h1:aE env.P 151 [aH zq c,R2 n d] (.int .i64 (vr (pC c n d))))(h2:aE env.P 151 [aH zq c,R2 m e] (.int .i64 (vr (pC c m e)))) :
  aE env.P 76 [aH zq c,R2 n d,R2 m e] (.int .i64 (if m*d<n*e then 0 else(vr (pC c n d):Int)-vr (pC c m e))):=by
 have c1:=I4 m e n d hm he hn hd
 have v1:=FI (pC c n d)
 have v2:=FI (pC c m e)
 have l1:(pC c n d).length=c.length:=by simp [pC]
 have l2:(pC c m e).length=c.length:=by simp [pC]
 generalize vr (pC c n d)=a at *
 generalize vr (pC c m e)=b at *
 have hc:(dP (m*d) (n*e)<0)↔m*d<n*e:=by
  unfold dP;split
  ·omega
  ·split<;>omega
 generalize m*d=xx at *
 generalize n*e=yy at *
 generalize dP xx yy=z at *
 refine cB [(0,aH zq c),(1,R2 n d),(2,R2 m e)] Tryz.func76 ?_
 refine aA [0,4,5] ?_
 refine W.seq ?_
 refine aL [0,4,5,10] c1 ?_
 refine bH ?_ ?_<;>intro h
 ·have h:z<0:=by simpa using h
  rw [if_pos (hc.1 h)]
  refine aA [6] ?_
  exact bZ
 ·have h:¬z<0:=by simpa using h
  rw [if_neg (fun hh=>h (hc.2 hh))]
  refine W.skip ?_
  refine nH ?_
  refine cM h1 ?_
  refine cN [6] h2 ?_
  exact bZ
theorem aj3{n d:Int}(hn:Z n)(hd:Z d):aE env.P 23 [R2 n d] (T2 n d):=by
 have t1:=K3 n hn
 have t2:=K3 d hd
 refine cB [(0,R2 n d)] Tryz.func23 ?_
 refine aA [1,2] ?_
 refine nH ?_
 refine cM t1 ?_
 refine cM t2 ?_
 (try (refine bE (of_decide_eq_true (by kernel_rfl)) ?_));(try simp (maxSteps:=4000000) (disch:=omega) [gw]);(repeat rw [if_pos (by kernel_rfl)]);(try simp (maxSteps:=4000000) (disch:=omega) [gw])
 refine bI [2] ?_
 exact bZ
abbrev CH(c:List ZX):PV:=.rd [aH zp c]
theorem RF{l:List Int}(hs:∀s∈l,s = -1∨s=0∨s=1):∀i,i≤l.length→((l.take i).foldl wJ (0,0)).2 = -1∨((l.take i).foldl wJ (0,0)).2=0∨((l.take i).foldl wJ (0,0)).2=1
 | 0,_ => .inr (.inl (by simp))
 | i+1,h=>by
  rw [zW (by omega)]
  have ih:=RF hs i (by omega)
  have:=hs _ (bJ (show i<l.length by omega))
  unfold wJ
  split
  ·exact ih
  ·exact this
theorem wK(g:FuncId)(hw:KW g=false)(caps:List PV)(hc:caps.all dI=true)(c:List ZX)(sg:ZX→Int)(hl:c.length<1000000)(hs:∀p∈c,sg p = -1∨sg p=0∨sg p=1)(hg:∀p∈c,aE env.P g (Po p.l::caps) (.int .i64 (sg p)))(hm:xL g=false:=by rfl) :
  aE env.P 219 [CH c, .fn g caps] (.int .i64 (vr (c.map sg))):=by
 have hv:vr (c.map sg)=(((c.map sg).take c.length).foldl wJ (0,0)).1:=by rw [List.take_of_length_le (by simp)];rfl
 rw [hv]
 have hb:∀i,(((c.map sg).take i).foldl wJ (0,0)).1≤i:=fun i=>by have:=VQ ((c.map sg).take i) (0,0);simp at this;omega
 have iR:=fun i (h:i<(c.map sg).length)=>zW h
 have Q5:=RF (l:=c.map sg) (fun s h=>by
  simp only [List.mem_map]at h
  obtain⟨p,hp,rfl⟩:=h
  exact hs p hp)
 have hln:(c.map sg).length=c.length:=by simp
 have zT:∀i,i<c.length→nth (c.map sg) i=sg (nth c i):=fun i hi=>by rw [cE (by simpa using hi),cE hi];simp
 refine cB [(0,CH c),(1, .fn g caps)] Tryz.func219 ?_
 refine aA [0,1] ?_
 refine aA [0,1,5,6] ?_
 refine aK [1,5,6,13,14,15] ?_
 refine W.block ?_
 refine W.aY (fun k σ=>∃(i:Nat) (n:Nat) (s:Int) (rows:Pm.Rows) (clk:Nat),σ=⟨fa [(1, .fn g caps),(5, .int .i64 n),(6, .int .i64 s),(13,aH zp c),(14, .int .i64 c.length),(15, .int .i64 i)],rows,clk⟩∧i+k=c.length∧((c.map sg).take i).foldl wJ (0,0)=(n,s)) c.length ?_ ?_
 ·exact⟨_, .refl,0,0,0,_,_,rfl,by omega,by simp⟩
 rintro k _ ⟨i,n,s,rows,clk,rfl,uA,hF⟩
 have hni:n≤i:=by have:=hb i;rw [hF]at this;exact this
 have hsv:=Q5 i (by omega)
 rw [hF]at hsv
 simp only at hsv
 refine bT [1,5,6,13,14,15,16] ?_
 refine bH ?_ ?_<;>intro h
 ·have hi:i<c.length:=by simp at h;omega
  have vT:=iR i (by omega)
  have hgi:=hg _ (bJ hi)
  have hxv:=hs _ (bJ hi)
  rw [hF,zT i hi]at vT
  generalize hx:sg (nth c i)=x at *
  refine W.skip ?_
  refine W.dW (fun σ=>∃(n':Nat) (s':Int) (rows:Pm.Rows) (clk:Nat),σ=⟨fa [(1, .fn g caps),(5, .int .i64 n'),(6, .int .i64 s'),(13,aH zp c),(14, .int .i64 c.length),(15, .int .i64 i)],rows,clk⟩∧wJ (n,s) x=(n',s')) ?_ ?_
  ·refine W.sr ?_
   simp (disch:=omega) [gw,hi]
   refine bI [1,5,6,8,13,14,15] ?_
   refine W.sr ?_
   simp (disch:=omega) [gw, -KW,hw, -xL,hm,hc]
   refine cN [1,5,6,9,13,14,15] hgi ?_
   refine aK [1,5,6,9,13,14,15,23] ?_
   refine bH ?_ ?_<;>intro h
   ·have qB:x=0:=by simpa using h
    refine eW ?_
    exact⟨_,aB _ [1,5,6,13,14,15],n,s,_,_,rfl,by unfold wJ;rw [if_pos qB]⟩
   ·have qB:x≠0:=by simpa using h
    refine W.skip ?_
    refine W.iB (fun σ=>∃(n':Nat) (rows:Pm.Rows) (clk:Nat),σ=⟨fa [(1, .fn g caps),(5, .int .i64 n'),(9, .int .i64 x),(13,aH zp c),(14, .int .i64 c.length),(15, .int .i64 i)],rows,clk⟩∧wJ (n,s) x=(n',x)) ?_ ?_
    ·refine aA [1,5,9,13,14,15,27] ?_
     refine bH ?_ ?_<;>intro h
     ·have h:s = -x:=by simpa using h
      refine W.bY (fun K hK=>?_);simp (disch:=omega) [gw]
      exact hK _ ⟨_,aB _ [1,5,9,13,14,15],n+1,_,_,rfl,by unfold wJ;rw [if_neg qB];simp only;rw [if_pos ⟨by omega,by omega⟩]⟩
     ·have h:¬s = -x:=by simpa using h
      refine W.skip ?_
      exact⟨_,aB _ [1,5,9,13,14,15],n,_,_,rfl,by unfold wJ;rw [if_neg qB];simp only;rw [if_neg (fun hh=>by obtain⟨h1,h2⟩:=hh;omega)]⟩
    rintro _ ⟨n',rows,clk,rfl,BR⟩
    refine W.bY (fun K hK=>?_);simp (disch:=omega) [gw]
    exact hK _ ⟨_,aB _ [1,5,6,13,14,15],n',x,_,_,rfl,BR⟩
  rintro _ ⟨n',s',rows,clk,rfl,BR⟩
  refine W.bY (fun K hK=>?_);simp (disch:=omega) [gw]
  refine hK _ ⟨k-1,_,aB _ [1,5,6,13,14,15],by omega,i+1,n',s',_,_,rfl,by omega,by rw [vT,BR]⟩
 ·have hi:i=c.length:=by simp at h;omega
  subst hi
  refine eW ?_
  refine aA [4] ?_
  rw [hF]
  exact bZ
theorem afN{s k u:Nat}{n d:Int}(hn:sz LL n≤u)(hd:sz LL d≤u)(hu:1≤u):∀ {x:List Int},Bd LL s k x→sz LL (hm n d x).1≤s+x.length*(u+1)∧sz LL (hm n d x).2≤x.length*u+1
 | [],_=>⟨by show sz LL 0≤_;rw [show sz LL 0=0 by decide];omega,by show sz LL 1≤_;exact Nat.le_trans (dV (k:=1) gO (by decide)) (by omega)⟩
 | a::l,h=>by
  obtain⟨h1,h2⟩:=afN hn hd hu (x:=l) ⟨Nat.le_trans (by simp) h.len,fun c hc=>h.sz c (by simp [hc])⟩
  have ha:=h.sz a (by simp)
  have e:(a::l).length*u=l.length*u+u:=by rw [List.length_cons,Nat.add_mul];omega
  have e':(a::l).length*(u+1)=l.length*u+l.length+u+1:=by rw [List.length_cons,Nat.add_mul,Nat.mul_add];omega
  have e'':l.length*(u+1)=l.length*u+l.length:=by rw [Nat.mul_add];omega
  refine⟨?_,?_⟩
  ·have g1:=cP (b:=LL) gO h1 hn
   have g2:=cP (b:=LL) gO ha h2
   have:=n6 (b:=LL) gO (Nat.le_trans g1 (Nat.le_max_left _ (s+(l.length*u+1)))) (Nat.le_trans g2 (Nat.le_max_right (s+l.length*(u+1)+u) _))
   refine Nat.le_trans this ?_
   rw [e',e'']
   omega
  ·have:=cP (b:=LL) gO h2 hd
   rw [e]
   exact Nat.le_trans this (by omega)
theorem abP{x:List Int}{n d:Int}{s k u:Nat}(hx:Bd LL s k x)(hn:sz LL n≤u)(hd:sz LL d≤u)(hu:1≤u)(hk:k<1099511627776)(hB:s+k*(u+1)+u<500000000000):aE env.P 167 [Po x,I n,I d] (I (hm n d x).1)∧Sz (hm n d x).1:=by
 have hl:=hx.len
 have hO:=EH 1 (by decide) (by decide)
 have bd:=fun i=>afN (s:=s) (k:=k) (x:=x.drop i) hn hd hu ⟨by simp;omega,fun c hc=>hx.sz c (List.mem_of_mem_drop hc)⟩
 have hle:∀i,(x.drop i).length*(u+1)≤k*(u+1):=fun i=>Nat.mul_le_mul_right _ (by simp;omega)
 have afE:∀i,(x.drop i).length*u≤(x.drop i).length*(u+1):=fun i=>Nat.mul_le_mul_left _ (by omega)
 have step:∀i,i<x.length→hm n d (x.drop i)=((hm n d (x.drop (i+1))).1*n+nth x i*(hm n d (x.drop (i+1))).2,(hm n d (x.drop (i+1))).2*d):=fun i hi=>by
  rw [List.drop_eq_getElem_cons hi,cE hi];rfl
 have afF:hm n d (x.drop x.length)=(0,1):=by rw [List.drop_length];rfl
 have h0:hm n d (x.drop 0)=hm n d x:=rfl
 have hz:Sz (hm n d x).1:=by have:=(bd 0).1;have:=hle 0;rw [h0]at *;show _<_;omega
 refine⟨?_,hz⟩
 have M:∀i,i<x.length→aE env.P 66 [I (hm n d (x.drop (i+1))).1,I n] (I ((hm n d (x.drop (i+1))).1*n))∧aE env.P 66 [I (nth x i),I (hm n d (x.drop (i+1))).2] (I (nth x i*(hm n d (x.drop (i+1))).2)) ∧
   aE env.P 65 [I ((hm n d (x.drop (i+1))).1*n),I (nth x i*(hm n d (x.drop (i+1))).2)] (I (hm n d (x.drop i)).1)∧aE env.P 66 [I (hm n d (x.drop (i+1))).2,I d] (I (hm n d (x.drop i)).2):=fun i hi=>by
  obtain⟨b1,b2⟩:=bd (i+1)
  have l1:=hle (i+1)
  have l2:=afE (i+1)
  have ha:=hx.sz _ (bJ hi)
  have g1:=cP (b:=LL) gO b1 hn
  have g2:=cP (b:=LL) gO ha b2
  have zz:∀ {v:Int},sz LL v<1099511627776→Sz v:=fun h=>h
  have e:=step i hi
  rw [e]
  exact⟨xO (zz (by omega)) (zz (by omega)),xO (zz (by omega)) (zz (by omega)),X0 (zz (by omega)) (zz (by omega)),xO (zz (by omega)) (zz (by omega))⟩
 clear bd hle afE step hz
 generalize hm n d x=r0 at *
 refine cB [(0,Po x),(1,I n),(2,I d)] Tryz.func167 ?_
 refine aA [0,4,5,6] ?_
 refine aA [0,4,5,6,7] ?_
 refine aL [0,4,5,6,7,8] hO ?_
 refine aK [0,4,5,6,7,8,9] ?_
 refine W.row (id:=7) (els:=[[.bool false, .nil]]) [[.bool (decide ((0:Int)<0)),us (aR LL (0:Int).natAbs)]] (by simp;first | exact⟨rfl,rfl,rfl⟩ | exact⟨rfl,rfl⟩ | rfl) ⟨⟨.inl rfl, .inr ⟨rfl,rfl⟩,trivial⟩,trivial⟩ ?_
 refine W.block ?_
 refine W.aY (fun k σ=>∃(v4 v5 v6 v7 v8 e4 e5 e6 e7 e8:Nat) (rows:Pm.Rows) (clk:Nat),σ=⟨fa [(0,Po x),(4, .ptr 4 v4 0 0),(5, .ptr 5 v5 0 0),(6, .ptr 6 v6 0 0),(7, .ptr 7 v7 0 0),(8, .ptr 8 v8 0 0),(9, .int .i64 ((k:Int)-1))],rows,clk⟩∧k≤x.length ∧
  rows 4=some ⟨v4,e4,2,[[.bool (decide (n<0)),us (aR LL n.natAbs)]]⟩∧rows 5=some ⟨v5,e5,2,[[.bool (decide (d<0)),us (aR LL d.natAbs)]]⟩∧rows 6=some ⟨v6,e6,2,[[.bool false, .nil]]⟩ ∧
  rows 7=some ⟨v7,e7,2,[[.bool (decide ((hm n d (x.drop k)).1<0)),us (aR LL (hm n d (x.drop k)).1.natAbs)]]⟩ ∧
  rows 8=some ⟨v8,e8,2,[[.bool (decide ((hm n d (x.drop k)).2<0)),us (aR LL (hm n d (x.drop k)).2.natAbs)]]⟩) x.length ?_ ?_
 ·exact⟨_, .refl,_,_,_,_,_,_,_,_,_,_,_,_,rfl,Nat.le_refl _,by simp;(first | exact⟨rfl,rfl⟩ | rfl),by simp;(first | exact⟨rfl,rfl⟩ | rfl),by simp;(first | exact⟨rfl,rfl⟩ | rfl),by rw [afF];simp;(first | exact⟨rfl,rfl⟩ | rfl),by rw [afF];simp;(first | exact⟨rfl,rfl⟩ | rfl)⟩
 rintro k _ ⟨v4,v5,v6,v7,v8,e4,e5,e6,e7,e8,rows,clk,rfl,hkl,dF,dM,i9,hr7,oC⟩
 refine aK [0,4,5,6,7,8,9,15] ?_
 refine bH ?_ ?_<;>intro h
 ·have zA:0<k:=by simp at h;omega
  obtain⟨k,rfl⟩:∃j,k=j+1:=⟨k-1,by omega⟩
  obtain⟨m1,m2,m3,m4⟩:=M k (by omega)
  generalize hm n d (x.drop (k+1))=A at *
  have e1:(((k+1:Nat):Int)-1).toNat=k:=by omega
  refine j7 ?_
  refine W.sd ?_
  simp (disch:=omega) [gw,dF,hr7]
  refine aC m1 ?_
  simp (disch:=omega) [gw,oC]
  refine cM m2 ?_
  refine aC m3 ?_
  simp (disch:=omega) [gw,hr7]
  (try (refine bE (of_decide_eq_true (by kernel_rfl)) ?_));(try simp (maxSteps:=4000000) (disch:=omega) [gw,hr7]);(repeat rw [if_pos (by kernel_rfl)]);(try simp (maxSteps:=4000000) (disch:=omega) [gw,hr7])
  refine bI [0,4,5,6,7,8,9] ?_
  refine W.bY (fun K hK=>?_)
  simp (disch:=omega) [gw,oC,dM]
  refine aC m4 ?_
  simp (disch:=omega) [gw,oC]
  refine W.lw [0,4,5,6,7,8,9] hK ?_;clear hK K;simp
  refine W.bY (fun K hK=>?_);simp (disch:=omega) [gw]
  refine hK _ ⟨k,_,aB _ [0,4,5,6,7,8,9],by omega,v4,v5,v6,v7,v8,_,_,_,_,_,_,_,rfl,by omega,by simp [dF];exact rfl,by simp [dM];exact rfl,by simp [i9];exact rfl,by simp;exact rfl,by simp;exact rfl⟩
 ·have zA:k=0:=by simp at h;omega
  subst zA
  rw [h0]at hr7
  refine eW ?_
  refine W.sr ?_
  simp (disch:=omega) [gw,hr7,i9]
  refine bI [6] ?_
  exact bZ
theorem tX(v:Int):dP v 0=v.sign:=by
 rcases Int.lt_trichotomy v 0 with h | h | h
 ·rw [Int.sign_eq_neg_one_of_neg h,mK h]
 ·subst h;decide
 ·rw [Int.sign_eq_one_of_pos h,mL h]
theorem JA{x:List Int}{n d:Int}{s k u:Nat}(hx:Bd LL s k x)(cx:Cn x)(hn:sz LL n≤u)(hd:sz LL d≤u)(hu:1≤u)(hk:k<1099511627774)(hu2:u<500000000000)(hB:s+k*(u+1)+u<500000000000){q:Rat}(hq:dU n d=q)(sq:sz LL q.num≤u∧sz LL (q.den:Int)≤u):aE env.P 87 [Po x,T2 n d] (.int .i64 (LX x q.num q.den)):=by
 have p1:=abM (n:=n) (d:=d) (Nat.lt_of_le_of_lt hn (by omega)) (Nat.lt_of_le_of_lt hd (by omega))
 rw [hq]at p1
 have n1:=eO (x:=x) (PB.of hx (by omega) (by omega))
 rw [show aP x=x from cx]at n1
 obtain⟨hV,hz⟩:=abP hx sq.1 sq.2 hu (by omega) hB
 have c1:=X1 (x:=(hm q.num q.den x).1) (y:=0) hz (show sz LL 0<_ by decide)
 rw [tX,show(hm q.num q.den x).1.sign=LX x q.num q.den from rfl]at c1
 replace p1:aE env.P 166 [T2 n d] (T2 q.num q.den):=p1
 generalize LX x q.num q.den=r at *
 generalize (hm q.num q.den x).1=v at *
 generalize q.num=qn at *
 generalize (q.den:Int)=qd at *
 refine cB [(0,Po x),(1,T2 n d)] Tryz.func87 ?_
 refine aA [0,3] ?_
 refine aL [0,3] p1 ?_
 refine nH ?_
 refine cM n1 ?_
 refine cM hV ?_
 refine cN [4] c1 ?_
 exact bZ
@[simp] theorem aiq{l:List PV}:dI (.rd l)=true:=rfl
@[simp] theorem ad9{l:List PV}:bL (.rd l)=true:=rfl
@[simp] theorem air{l:List PV}:aU (.rd l) = []:=rfl
@[simp] theorem azA{l:List PV}:eB (.rd l) = []:=rfl
@[simp] theorem aFS{rows:Pm.Rows}{l:List PV}:fz rows (.rd l) = .rd l:=rfl
@[simp] theorem aFT{rows:Pm.Rows}{l:List PV}:pz rows (.rd l) = .rd l:=rfl
theorem abQ(v:Int):aE env.P 258 [I v] (.int .i64 v.sign):=by
 have h1:=aeY (decide (v<0)) (aR LL v.natAbs)
 have e:(if (aR LL v.natAbs).length=0 then 0 else if decide (v<0)=true then -1 else 1:Int)=v.sign:=by
  by_cases h:v=0
  ·subst h;decide
  ·have:aR LL v.natAbs ≠ []:=fun h2=>h (by have:=lE gO v.natAbs;rw [h2]at this;simp [V]at this;omega)
   have h3:=List.length_pos_iff.2 this
   rw [if_neg (by omega)]
   rcases Int.lt_trichotomy v 0 with h4 | h4 | h4
   ·rw [if_pos (by simpa using h4),Int.sign_eq_neg_one_of_neg h4]
   ·exact absurd h4 h
   ·rw [if_neg (by simp;omega),Int.sign_eq_one_of_pos h4]
 rw [e]at h1;exact h1
theorem JB{x:List Int}(hx:PB x)(cx:Cn x):aE env.P 221 [Po x] (.dX [.int .i64 (eL x), .int .i64 (eR x)]):=by
 have n1:=eO hx
 rw [show aP x=x from cx]at n1
 have l1:=mA hx cx
 have hS:=abQ (lead x)
 have hl:x.length<1099511627776:=by have:=hx.ER.len;simpa using this
 have hL:eL x=if x.length%2=0 then -(lead x).sign else(lead x).sign:=rfl
 have hR:eR x=(lead x).sign:=rfl
 have hs : -1≤(lead x).sign∧(lead x).sign≤1:=by
  rcases Int.lt_trichotomy (lead x) 0 with h | h | h
  ·rw [Int.sign_eq_neg_one_of_neg h];decide
  ·rw [h];decide
  ·rw [Int.sign_eq_one_of_pos h];decide
 generalize (lead x).sign=s at *
 generalize lead x=lx at *
 generalize eL x=a at *
 generalize eR x=b at *
 refine cB [(0,Po x)] Tryz.func221 ?_
 refine aA [0] ?_
 refine aL [0] n1 ?_
 refine jG ?_
 refine cM l1 ?_
 refine cN [0,3] hS ?_
 refine W.seq ?_
 refine W.eD (fun σ=>∃(q:Bool) (rows:Pm.Rows) (clk:Nat),σ=⟨fa [(3, .int .i64 s),(12, .bool q)],rows,clk⟩∧q=decide (x.length%2=0)) (fun K hK=>?_) ?_
 ·simp (disch:=omega) [gw]
  exact hK _ _ (aB _ [3,12]) ⟨_,_,_,rfl,by rw [Bool.eq_iff_iff];simp;omega⟩
 rintro _ ⟨q,rows,clk,rfl,rfl⟩
 refine bH ?_ ?_<;>intro h
 ·rw [if_pos (of_decide_eq_true h)]at hL
  subst hL hR
  refine aA [2,3] ?_
  exact bZ
 ·rw [if_neg (of_decide_eq_false h)]at hL
  subst hL hR
  refine W.skip ?_
  refine aA [2,3] ?_
  exact bZ
theorem VS{x:List Int}(hx:PB x)(cx:Cn x):aE env.P 220 [Po x] (.int .i64 (eL x)):=by
 have h1:=JB hx cx
 generalize eL x=a at *
 generalize eR x=b at *
 refine cB [(0,Po x)] Tryz.func220 ?_
 refine aA [0] ?_
 refine aL [3] h1 ?_
 refine aA [2] ?_
 exact bZ
theorem abR{x:List Int}(hx:PB x)(cx:Cn x):aE env.P 222 [Po x] (.int .i64 (eR x)):=by
 have h1:=JB hx cx
 generalize eL x=a at *
 generalize eR x=b at *
 refine cB [(0,Po x)] Tryz.func222 ?_
 refine aA [0] ?_
 refine aL [4] h1 ?_
 refine aA [2] ?_
 exact bZ
theorem aqN(v:Int):v.sign = -1∨v.sign=0∨v.sign=1:=by
 rcases Int.lt_trichotomy v 0 with h | h | h
 ·exact .inl (Int.sign_eq_neg_one_of_neg h)
 ·rw [h];exact .inr (.inl rfl)
 ·exact .inr (.inr (Int.sign_eq_one_of_pos h))
theorem eL3(x:List Int):eL x = -1∨eL x=0∨eL x=1:=by
 have:=aqN (lead x)
 unfold eL;split<;>omega
theorem VT{c:List ZX}(hl:c.length<1000000){n d:Int}{q:Rat}(hS:∀p∈c,aE env.P 87 [Po p.l,T2 n d] (.int .i64 (LX p.l q.num q.den))):aE env.P 168 [CH c,T2 n d] (.int .i64 (vr (pC c q.num q.den))):=by
 have hT1:∀p∈c,aE env.P 232 [Po p.l, .rd [.bool (decide (n<0)),us (aR LL n.natAbs), .bool (decide (d<0)),us (aR LL d.natAbs)]] (.int .i64 (LX p.l q.num q.den)):=fun p hp=>by
  have h1:=hS p hp
  generalize LX p.l q.num q.den=r at *
  generalize p.l=x at *
  refine cB [(0,Po x),(1, .rd [.bool (decide (n<0)),us (aR LL n.natAbs), .bool (decide (d<0)),us (aR LL d.natAbs)])] Tryz.func232 ?_
  refine aA [0,1] ?_
  refine aL [3] h1 ?_
  exact bZ
 have h1:=wK 232 rfl [.rd [.bool (decide (n<0)),us (aR LL n.natAbs), .bool (decide (d<0)),us (aR LL d.natAbs)]] rfl c (fun p=>LX p.l q.num q.den) hl (fun p hp=>aqN _) hT1
 rw [show c.map (fun p=>LX p.l q.num q.den)=pC c q.num q.den from rfl]at h1
 generalize vr (pC c q.num q.den)=r at *
 refine cB [(0,CH c),(1,T2 n d)] Tryz.func168 ?_
 refine aA [0,3] ?_
 refine aL [4] h1 ?_
 exact bZ
theorem L2{c:List ZX}(hl:c.length<1000000){n d m e:Int}{p q:Rat}{z:Int}(hz:aE env.P 86 [T2 m e,T2 n d] (.int .i64 z))(h1:aE env.P 168 [CH c,T2 n d] (.int .i64 (vr (pC c p.num p.den))))(h2:aE env.P 168 [CH c,T2 m e] (.int .i64 (vr (pC c q.num q.den)))) :
  aE env.P 88 [CH c,T2 n d,T2 m e] (.int .i64 (if z<0 then 0 else(vr (pC c p.num p.den):Int)-vr (pC c q.num q.den))):=by
 have v1:=FI (pC c p.num p.den)
 have v2:=FI (pC c q.num q.den)
 have l1:(pC c p.num p.den).length=c.length:=by simp [pC]
 have l2:(pC c q.num q.den).length=c.length:=by simp [pC]
 generalize vr (pC c p.num p.den)=a at *
 generalize vr (pC c q.num q.den)=b at *
 refine cB [(0,CH c),(1,T2 n d),(2,T2 m e)] Tryz.func88 ?_
 refine aA [0,4,5] ?_
 refine W.seq ?_
 refine aL [0,4,5,10] hz ?_
 refine bH ?_ ?_<;>intro h
 ·have h:z<0:=by simpa using h
  rw [if_pos h]
  refine aA [6] ?_
  exact bZ
 ·have h:¬z<0:=by simpa using h
  rw [if_neg h]
  refine W.skip ?_
  refine nH ?_
  refine cM h1 ?_
  refine cN [6] h2 ?_
  exact bZ
section
variable {c:List ZX} (hl:c.length<1000000) (hb:∀p∈c,PB p.l)
include hl hb
theorem abS:aE env.P 149 [CH c] (.int .i64 (vr (sgL c))):=by
 have h1:=wK 220 rfl [] rfl c (fun p=>eL p.l) hl (fun p hp=>eL3 p.l) (fun p hp=>VS (hb p hp) p.c)
 rw [show c.map (fun p=>eL p.l)=sgL c from rfl]at h1
 generalize vr (sgL c)=r at *
 refine cB [(0,CH c)] Tryz.func149 ?_
 refine aA [0] ?_
 refine aL [2] h1 ?_
 exact bZ
theorem afO:aE env.P 150 [CH c] (.int .i64 (vr (sgR c))):=by
 have h1:=wK 222 rfl [] rfl c (fun p=>eR p.l) hl (fun p hp=>aqN _) (fun p hp=>abR (hb p hp) p.c)
 rw [show c.map (fun p=>eR p.l)=sgR c from rfl]at h1
 generalize vr (sgR c)=r at *
 refine cB [(0,CH c)] Tryz.func150 ?_
 refine aA [0] ?_
 refine aL [2] h1 ?_
 exact bZ
theorem VU:aE env.P 74 [CH c] (.int .i64 ((vr (sgL c):Int)-vr (sgR c))):=by
 have h1:=abS hl hb
 have h2:=afO hl hb
 have v1:=FI (sgL c)
 have v2:=FI (sgR c)
 have l1:(sgL c).length=c.length:=by simp [sgL]
 have l2:(sgR c).length=c.length:=by simp [sgR]
 generalize vr (sgL c)=a at *
 generalize vr (sgR c)=b at *
 refine cB [(0,CH c)] Tryz.func74 ?_
 refine aA [0] ?_
 refine jG ?_
 refine cM h1 ?_
 refine cN [2] h2 ?_
 exact bZ
end
theorem FJ{a:ZX}(ha:a≠0):Nf (sq a)∧dv (sq a) (nf a):=by
 have nA:=jV ha
 unfold sq
 split
 ·exact⟨nA,dv.refl _⟩
 ·exact⟨(gR nA 0).1,CG nA 0⟩
theorem rZ.sqb{s n:Nat}{a:ZX}(h:rZ s n a)(ha:a≠0):BZ (qb s n) n (sq a):=h.nfz.dv (jV ha) (FJ ha).1 (FJ ha).2
theorem rZ.ch{s n:Nat}{a:ZX}(h:rZ s n a)(ha:a≠0)(CI:1≤n):Ch (qb s n) n (sq a):=⟨h.sqb ha,h.hn,CI,Nat.le_trans (Nat.mul_le_mul_right _ (by omega)) h.hC⟩
theorem wL{s n:Nat}{a:ZX}(h:rZ s n a)(ha:a≠0)(CI:1≤n)(h1:1≤s):aE env.P 81 [PI a.l] (aH zq (bA (sq a))):=
 BH (x8 h h1) (h.ch ha CI) (by unfold qb;omega)
abbrev AP(x:List Int)(c:List ZX)(n d:Int):PV:=.ag [PI x,aH zq c,aH aG (aR DD n.natAbs), .bool (decide (n<0)),aH aG (aR DD d.natAbs), .bool (decide (d<0)),aH aG (aR DD n.natAbs), .bool (decide (n<0)),aH aG (aR DD d.natAbs), .bool (decide (d<0))]
theorem oH{v:Int}{k:Nat}(h:v.natAbs<2^k):sz 2 v≤k:=dV (by decide) h
theorem HA{n d:Int}(hn:n.natAbs<65536)(hd:d.natAbs<65536)(h0:d≠0){x:ZX}(hx:x.l = [-n,d]):aE env.P 41 [R2 n d] (AP [-n,d] (bA (sq x)) n d):=by
 have bz:BZ 16 2 x:=⟨by rw [hx];simp,fun c hc=>by
  rw [hx]at hc
  simp only [List.mem_cons,List.not_mem_nil,or_false]at hc
  rcases hc with rfl | rfl
  ·exact oH (by rw [Int.natAbs_neg];exact hn)
  ·exact oH hd⟩
 have hL:rZ 16 2 x:=⟨bz,by decide,by decide,by decide⟩
 have hc:=wL hL (ZX.aF.2 (by show 0<x.l.length;rw [hx];simp)) (by decide) (by decide)
 rw [hx]at hc
 generalize bA (sq x)=C at *
 have zs:∀ {v:Int},v.natAbs<65536→sz 2 v≤16:=fun h=>oH h
 have hO:=oZ 1 (by decide) (by decide)
 have m1:=lI n 1 (by have:=zs hn;simp only [Y];omega) (by decide)
 have m2:=lI d 1 (by have:=zs hd;simp only [Y];omega) (by decide)
 have hng:=PW (n:Rat)
 rw [mM]at m1 m2
 rw [show -((n:Int):Rat)=((-n:Int):Rat)by simp]at hng
 rw [show RR ((n:Int):Rat) = .ag (ri n)from congrArg PV.ag (iN n)]at m1 hng
 rw [show RR ((d:Int):Rat) = .ag (ri d)from congrArg PV.ag (iN d)]at m2
 rw [show RR ((-n:Int):Rat) = .ag (ri (-n))from congrArg PV.ag (iN (-n))]at hng
 have e1:PI [-n,d] = .sl [ri (-n),ri d]:=rfl
 rw [e1]at hc
 unfold AP
 rw [e1]
 clear e1 hL bz hx x
 generalize -n=m at *
 simp only [ap1,ajW]at *
 refine cB [(0,R2 n d)] Tryz.func41 ?_
 refine aA [1,2] ?_
 refine W.sd ?_
 simp (maxSteps:=4000000) (disch:=omega) [gw]
 refine aC hO ?_
 simp (maxSteps:=4000000) (disch:=omega) [gw]
 refine aC m1 ?_
 simp (maxSteps:=4000000) (disch:=omega) [gw]
 refine aC hng ?_
 simp (maxSteps:=4000000) (disch:=omega) [gw]
 refine aC hO ?_
 simp (maxSteps:=4000000) (disch:=omega) [gw]
 refine aC m2 ?_
 simp (maxSteps:=4000000) (disch:=omega) [gw]
 refine bI [1,2,3] ?_
 refine W.sd ?_
 simp (maxSteps:=4000000) (disch:=omega) [gw]
 refine aC hc ?_
 simp (maxSteps:=4000000) (disch:=omega) [gw]
 try (refine bE (by kernel_rfl) ?_)
 try simp (maxSteps:=4000000) (disch:=omega) [gw]
 refine bI [2] ?_
 exact bZ
def sml(n d:Int):Rat:=dU (n%61-30) (1+d%6)
theorem abT(n d:Int)(hn : -9223372036854775808≤n∧n<9223372036854775808)(hd : -9223372036854775808≤d∧d<9223372036854775808):aE env.P 25 [.int .i64 n, .int .i64 d] (RR (sml n d)):=by
 have w1:=oB n 61 hn (by decide) (by decide)
 have w2:=oB d 6 hd (by decide) (by decide)
 have h1:=Int.emod_nonneg n (show (61:Int)≠0 by decide)
 have h2:=Int.emod_lt_of_pos n (show (0:Int)<61 by decide)
 have h3:=Int.emod_nonneg d (show (6:Int)≠0 by decide)
 have h4:=Int.emod_lt_of_pos d (show (0:Int)<6 by decide)
 have o1:=mN (n%61-30) (1+d%6) (by omega) (by omega)
 have e:dU (n%61-30) (1+d%6)=sml n d:=rfl
 rw [e]at o1
 generalize sml n d=q at *
 generalize n%61=a at *
 generalize d%6=b at *
 rw [dJ]at *
 generalize q.num=qn at *
 generalize (q.den:Int)=qd at *
 refine cB [(0, .int .i64 n),(1, .int .i64 d)] Tryz.func25 ?_
 refine aA [0,1,4] ?_
 refine jG ?_
 refine cM w1 ?_
 refine cM w2 ?_
 refine cN [4] o1 ?_
 exact bZ
end Go.Proofs.YtiobceocpabjdaaGreat
namespace Pm
open Go Go.RowKit
def abU(E:Env)(o:Oper)(K:PS→Prop)(σ:PS):Prop:=
 match o.op with
 | .build t ⟨[(0,x)]⟩=>E.ty t = .struct [(0,1,false)] (E.ty t).zero∧(E.ty t).zero.length=1∧cQ (aS σ.f x)=some [aS σ.f x]∧iT σ.rows (aS σ.f x)∧K (σ.put o.dst (.ag [aS σ.f x]))
 | _=>False
section
variable {E:Env} {w0:World} {S0:eG} {m:Nat} {G:Gs}
theorem VV{o:Oper}{a:Act}{w:World}{σ:PS}{K:PS→Prop}(h:abU E o K σ)(hR:Rel w0 S0 m G σ a w)(hd:∀t,o.dst=some t→t<m)
  {K':Act→World→Prop} {Q:Exit→Act→World→Prop} (hK:∀σ' a' w',K σ'→Rel w0 S0 m G σ' a' w'→K' a' w'):o.wp E.P a w K' Q:=by
 obtain⟨⟨c,rfl,hr,gE,hI,hf,hG⟩,hn,fR⟩:=hR
 have hρ:=nJ hf
 obtain⟨dst,op,type,pos,after,guard⟩:=o
 simp only at hd
 unfold abU at h
 simp only at h
 split at h
 ·rename_i t x
  obtain⟨hE,JX,hc,ho,hk⟩:=h
  rw [←hr]at ho
  obtain⟨g1,g2⟩:=nZ (hρ x) hc (fun q hq=>by simp at hq;subst hq;exact ho)
  have ht:=E.ok t
  rw [hE]at ht
  obtain⟨⟨fields,hu,ha⟩,hz⟩:=ht
  obtain⟨i,zv,hi,hzv,_,TB,_⟩:=hz.ok
  have F8:zv.cells.size=1:=by
   have:(zv.cells.toList.map j1).length=1:=by rw [TB];exact JX
   simpa using this
  have C4:(a.eval x).cells.size=1:=by have:=g1.length;simpa using this.symm
  have HH:=qL 0 (a.eval x).cells.toList 0 zv.cells (by simp;omega)
  have hl:((a.eval x).cells.toList.zipIdx 0).foldl (fun cs (x:Value × Nat)=>cs.setIfInBounds (0+x.2) x.1) zv.cells=(a.eval x).cells:=by
   apply Array.toList_inj.1
   rw [HH]
   have h1:(a.eval x).cells.toList.length=1:=by simpa using C4
   have h2:zv.cells.toList.length=1:=by simpa using F8
   rw [h1]
   simp [List.drop_of_length_le,h2]
  have jJ:(execOp a.eval { dst:=dst,op:=.build t ⟨[(0,x)]⟩,type:=type,pos:=pos,after:=after,guard:=guard }).run E.P c.w = .ok (.value (.agg (a.eval x).cells)) c.w:=by
   have amV:Instr.fill (fun x=>(([(0,1,false)]:List (Nat × Nat × Bool)).toArray.map fun x=>(x.1,x.2.1))[x]?) zv.cells [(0,a.eval x)]=some (a.eval x).cells:=by
    have hpl:(([(0,1,false)]:List (Nat × Nat × Bool)).toArray.map fun x=>(x.1,x.2.1))[0]? = some (0,1):=by simp
    simp only [Instr.fill,hpl]
    rw [if_neg (by simp [C4,F8])]
    have hz3:(a.eval x).cells.toList.zipIdx=(a.eval x).cells.zipIdx.toList:=by simp
    have h5:(a.eval x).cells.zipIdx.foldl (fun cs (x:Value × Nat)=>cs.setIfInBounds (0+x.2) x.1) zv.cells=(a.eval x).cells:=by
     rw [←Array.foldl_toList,←hz3];exact hl
    simp only [h5]
   simp only [execOp,Instr.build,zeroValue,typeInfo,program,Sem.run_bind,Sem.run,hi,hzv,Sem.run_pure,Result.andThen_ok,run_underlying hu,run_places ha]
   simp at amV
   simp [amV]
  unfold Oper.wp
  rw [jJ]
  refine hK _ _ _ hk ?_
  exact tR hf hG hn fR (uT.refl c) hI (show aI c (.ag [aS σ.f x]) (.agg (a.eval x).cells)from⟨(a.eval x).cells.toList,by simp,g1⟩) hd rfl (by simp [PS.put,hr]) gE
 ·exact h.elim
end
theorem W.aqO{E:Env}{n:Nat}{tl:Nat→Nat}{Q:PX→PS→Prop}{σ:PS}{id:Nat}{ops:List Oper}{y:Code}(i:Nat){o o2:Oper}(ho:ops=ops.take i++o::o2::ops.drop (i+2))(hg:o.guard=none)(pT:o2.guard=none)
  (h:∀K:PS→Prop,(∀σ,W E n tl y Q σ→K σ)→go (aO E ops (ops.take i) (fun σ=>G4 E o (fun σ=>abU E o2 (aO E ops (ops.drop (i+2)) K) σ) σ) σ)):W E n tl (.seq (.region id ops.toArray false) y) Q σ:=by
 refine W.seq ?_
 intro fT w0 S0 G a w Q' hR hQ
 simp only [fF,sJ,Bool.and_eq_true]at fT
 have hd:∀o∈ops,∀t,o.dst=some t→t<n:=fun o ho t ht=>by
  have:=Array.all_eq_true_iff_forall_mem.1 fT.1 o (by simpa using ho)
  simpa [ht]using this
 refine wp_region_list ?_
 show wpList E.P ops.toArray Q' ops a w
 have h1:=h (fun σ=>W E n tl y Q σ) fun _ h=>h
 have pY:o∈ops:=by rw [ho];simp
 have axk:o2∈ops:=by rw [ho];simp
 have:=o8 (E:=E) (w0:=w0) (S0:=S0) (m:=n) (G:=G) (ops:=ops.toArray) (Q:=Q') (l2:=o::o2::ops.drop (i+2)) (K:=fun σ=>G4 E o (fun σ=>abU E o2 (aO E ops (ops.drop (i+2)) (fun σ=>W E n tl y Q σ)) σ) σ) (fun σ' a' w' hl lZ=>by
  unfold wpList
  rw [if_pos (by simp [Region.wanted,hg])]
  refine .inl (wF hl lZ (hd o pY) fun σ2 a2 w2 hk hR2=>?_)
  unfold wpList
  rw [if_pos (by simp [Region.wanted,pT])]
  refine .inl (VV hk hR2 (hd o2 axk) fun σ3 a3 w3 hk3 hR3=>?_)
  exact iX (E:=E) (ops:=ops.toArray) (fun σ4 a4 w4 hk4 hR4=>hQ .normal σ4 a4 w4 hk4 hR4) _ σ3 a3 w3 (fun o ho=>hd o (List.mem_of_mem_drop ho)) hk3 hR3) (ops.take i) σ a w (fun o ho=>hd o (List.mem_of_mem_take ho)) h1 hR
 rwa [←ho]at this
@[simp] theorem azB{E:Env}{K:PS→Prop}{f:Nat→PV}{rows:Rows}{clk:Nat}{d:Option Tmp}{ty:TypeId}{pos:String}{af:Array Edge}{t:TypeId}{x:Operand} :
  abU E ⟨d, .build t ⟨[(0,x)]⟩,ty,pos,af,none⟩ K ⟨f,rows,clk⟩=aJ (E.ty t = .struct [(0,1,false)] (E.ty t).zero∧(E.ty t).zero.length=1) (gJ (cQ (aS f x)) fun l=>aJ (l = [aS f x]∧iY rows [aS f x]) (K ⟨put f d (.ag [aS f x]),rows,clk⟩)):=by
 simp only [abU,aJ,gJ,iY,PS.put]
 apply propext
 constructor
 ·rintro⟨h1,h2,h3,h4,h5⟩;exact⟨⟨h1,h2⟩,_,h3,⟨rfl,by simpa using h4⟩,h5⟩
 ·rintro⟨⟨h1,h2⟩,l,h3,⟨rfl,h4⟩,h5⟩;exact⟨h1,h2,h3,by simpa using h4,h5⟩
end Pm
namespace Go.Proofs.YtiobceocpabjdaaGreat
open Go Pm
theorem BZ.axl{s s' n n' m:Nat}{a c:ZX}(b:BZ s n a)(b':BZ s' n' c)(hm:ZX.N (a*c)≤m):BZ (s+s'+n') m (a*c):=by
 have h:=Bd.bR (by decide) b' b
 rw [zF]at h
 exact⟨hm,fun d hd=>Nat.le_trans (h.sz d hd) (by omega)⟩
theorem afP{f:ZX}(hf:f≠0)(bf:BZ 3 3 f):∀k,1≤k→BZ (6*k) (2*k+1) (f^k)∧f^k≠0∧ZX.N (f^k)=k*(ZX.N f-1)+1
 | 0,h=>by omega
 | 1,_=>by
  have e:f^1=f:=by rw [ZX.pow_succ',ZX.eQ];grind
  rw [e]
  have:=ZX.aF.1 hf
  exact⟨bf.mono (by omega) (by omega),hf,by omega⟩
 | k+2,_=>by
  obtain⟨h1,h2,h3⟩:=afP hf bf (k+1) (by omega)
  have hN:=ZX.aF.1 hf
  have e:ZX.N (f^(k+2))=(k+2)*(ZX.N f-1)+1:=by
   rw [ZX.pow_succ',ZX.jT h2 hf,h3,Nat.add_mul,Nat.add_mul];omega
  have hl:ZX.N f≤3:=bf.N
  refine⟨?_,ZX.mE h2 hf,e⟩
  have h4:=BZ.axl h1 bf (m:=2*(k+2)+1) (by
   rw [←ZX.pow_succ',e]
   have:(k+2)*(ZX.N f-1)≤(k+2)*2:=Nat.mul_le_mul_left _ (by omega)
   omega)
  rw [ZX.pow_succ']
  exact h4.mono (by omega) (Nat.le_refl _)
theorem VW{x:List Int}(hx:x ≠ [])(hl:x.length≤3)(hc:∀c∈x,c.natAbs<8)(rR:x.getLast hx≠0):BZ 3 3 (ZX.of x)∧(ZX.of x).l=x∧ZX.of x≠0:=by
 have h1:aP x=x:=by
  obtain⟨y,z,rfl⟩:∃y z,x=y ++ [z]:=⟨x.dropLast,x.getLast hx,(List.dropLast_concat_getLast hx).symm⟩
  exact jD (by simpa using rR) y
 have h2:(ZX.of x).l=x:=h1
 refine⟨⟨by rw [h2];exact hl,fun c VD=>?_⟩,h2,ZX.aF.2 ?_⟩
 ·rw [h2]at VD
  exact dV (by decide) (by have:=hc c VD;show _<8;exact this)
 ·show 0<(ZX.of x).l.length
  rw [h2];exact List.length_pos_iff.2 hx
def iJ(l:List Int)(i:Nat):List Int:=
 if (nth l i).tmod 5=3 then [-(nth l i%9-4),nth l (i+2)%3-1,nth l (i+1)%5+1]else [-(nth l i%9-4),nth l (i+1)%5+1]
def tG(l:List Int)(i:Nat):Nat:=1+(nth l (i+2)%3).toNat
def yE(l:List Int)(most i:Nat)(p:ZX):ZX:=if most<ZX.N p-1+tG l i*(ZX.N (ZX.of (iJ l i))-1)then p else p*ZX.of (iJ l i)^tG l i
def eF(l:List Int)(most:Nat):Nat→ZX
 | 0=>1
 | j+1=>yE l most (3*j) (eF l most j)
def made(l:List Int)(most:Nat):ZX:=if (0<l.length∧(nth l 0).tmod 7=6)then ZX.K (-3)*eF l most (min 6 (l.length/3))else eF l most (min 6 (l.length/3))
theorem CP(l:List Int)(i:Nat):BZ 3 3 (ZX.of (iJ l i))∧(ZX.of (iJ l i)).l=iJ l i∧ZX.of (iJ l i)≠0:=by
 have h9:=Int.emod_nonneg (nth l i) (show (9:Int)≠0 by decide)
 have h9':=Int.emod_lt_of_pos (nth l i) (show (0:Int)<9 by decide)
 have h5:=Int.emod_nonneg (nth l (i+1)) (show (5:Int)≠0 by decide)
 have h5':=Int.emod_lt_of_pos (nth l (i+1)) (show (0:Int)<5 by decide)
 have h3:=Int.emod_nonneg (nth l (i+2)) (show (3:Int)≠0 by decide)
 have h3':=Int.emod_lt_of_pos (nth l (i+2)) (show (0:Int)<3 by decide)
 unfold iJ
 split
 ·refine VW (by simp) (by simp) (fun c hc=>?_) (by simp;omega)
  simp only [List.mem_cons,List.not_mem_nil,or_false]at hc
  rcases hc with rfl | rfl | rfl<;>omega
 ·refine VW (by simp) (by simp) (fun c hc=>?_) (by simp;omega)
  simp only [List.mem_cons,List.not_mem_nil,or_false]at hc
  rcases hc with rfl | rfl<;>omega
theorem L3(l:List Int)(i:Nat):1≤tG l i∧tG l i≤3:=by
 have h3:=Int.emod_nonneg (nth l (i+2)) (show (3:Int)≠0 by decide)
 have h3':=Int.emod_lt_of_pos (nth l (i+2)) (show (0:Int)<3 by decide)
 unfold tG;omega
theorem afQ{l:List Int}{most i s:Nat}{p:ZX}(hp:p≠0)(b:BZ s (most+1) p):yE l most i p≠0∧BZ (s+25) (most+1) (yE l most i p):=by
 obtain⟨b1,b2,b3⟩:=CP l i
 obtain⟨e1,e2⟩:=L3 l i
 obtain⟨h1,h2,h3⟩:=afP b3 b1 _ e1
 unfold yE
 split
 ·exact⟨hp,b.mono (by omega) (Nat.le_refl _)⟩
 ·rename_i h
  have hN:=ZX.aF.1 hp
  refine⟨ZX.mE hp h2,(BZ.axl b h1 (m:=most+1) (by rw [ZX.jT hp h2,h3];omega)).mono (by omega) (Nat.le_refl _)⟩
theorem oI(l:List Int)(most:Nat):∀j,eF l most j≠0∧BZ (1+25*j) (most+1) (eF l most j)
 | 0=>⟨ZX.q9,by show(1:ZX).l.length≤most+1;exact Nat.succ_le_succ (Nat.zero_le _),fun c hc=>by
  have h1:(1:ZX).l = [1]:=by decide
  have hc2:c∈(1:ZX).l:=hc
  rw [h1]at hc2
  simp at hc2;subst hc2
  exact dV (by decide) (by decide)⟩
 | j+1=>by
  obtain⟨h1,h2⟩:=oI l most j
  obtain⟨h3,h4⟩:=afQ (l:=l) (i:=3*j) h1 h2
  exact⟨h3,h4.mono (by omega) (Nat.le_refl _)⟩
theorem ZC(l:List Int)(most:Nat):made l most≠0∧BZ 153 (most+1) (made l most):=by
 obtain⟨h1,h2⟩:=oI l most (min 6 (l.length/3))
 unfold made
 split
 ·refine⟨ZX.mE (ZX.pM (by decide)) h1,?_⟩
  rw [BZ,K_l (by decide)]
  exact⟨by have:=h2.len;simpa using this,fun c hc=>by
   simp only [List.mem_map]at hc
   obtain⟨d,hd,rfl⟩:=hc
   exact Nat.le_trans (cP (by decide) (h2.sz d hd) (dV (k:=2) (by decide) (by decide))) (by omega)⟩
 ·exact⟨h1,h2.mono (by omega) (Nat.le_refl _)⟩
theorem afR(l:List Int)(hl:l.length<9223372036854775808)(hb:∀x∈l, -9223372036854775808≤x∧x<9223372036854775808)(most:Nat)(hm:most≤100):aE env.P 114 [aH aG l, .int .i64 most] (PI (made l most).l):=by
 obtain⟨J,hJ⟩:∃J,J=min 6 (l.length/3):=⟨_,rfl⟩
 have jR:=x7
 have hmd:made l most=if (0<l.length∧(nth l 0).tmod 7=6)then ZX.K (-3)*eF l most J else eF l most J:=by rw [hJ];rfl
 rw [hmd]
 have h0:(1:ZX).l=(eF l most 0).l:=rfl
 rw [h0]at jR
 generalize hg0:(eF l most 0).l=g0 at *
 refine cB [(0,aH aG l),(1, .int .i64 most)] Tryz.func114 ?_
 refine aA [0,1] ?_
 refine aL [0,1,5] jR ?_
 refine aK [0,1,5,6] ?_
 subst hg0
 refine W.block ?_
 refine W.aY (fun k σ=>∃(i j:Nat) (rows:Pm.Rows) (clk:Nat),σ=⟨fa [(0,aH aG l),(1, .int .i64 most),(5,PI (eF l most j).l),(6, .int .i64 i)],rows,clk⟩∧i=3*j∧j+k=J) J ?_ ?_
 ·exact⟨_, .refl,0,0,_,_,rfl,rfl,by omega⟩
 rintro k _ ⟨i,j,rows,clk,rfl,hij,hjk⟩
 refine W.seq ?_
 by_cases hj:j<J
 ·have a1:(i:Int)+2<(l.length:Int):=by omega
  have a2:(i:Int)<18:=by omega
  refine W.dS (fun K hK=>?_)
  simp (disch:=omega) [gw,a1,a2]
  refine W.lw [0,1,5,6,21] hK ?_;clear hK K;simp
  refine bH ?_ ?_<;>intro h
  rotate_left
  ·cases h
  clear h
  obtain⟨f1,f2,f3⟩:=CP l i
  obtain⟨e1,e2⟩:=L3 l i
  obtain⟨p1,p2,p3⟩:=afP f3 f1 _ e1
  obtain⟨m1,m2⟩:=oI l most j
  have hJ6:J≤6:=by omega
  have hms:eF l most (j+1)=yE l most i (eF l most j):=by rw [hij];rfl
  have w1:=oB (nth l i) 9 (hb _ (bJ (by omega))) (by decide) (by decide)
  have w2:=oB (nth l (i+1)) 5 (hb _ (bJ (by omega))) (by decide) (by decide)
  have w3:=oB (nth l (i+2)) 3 (hb _ (bJ (by omega))) (by decide) (by decide)
  have bi:=hb _ (bJ (show i<l.length by omega))
  have h9:=Int.emod_nonneg (nth l i) (show (9:Int)≠0 by decide)
  have h9':=Int.emod_lt_of_pos (nth l i) (show (0:Int)<9 by decide)
  have h5:=Int.emod_nonneg (nth l (i+1)) (show (5:Int)≠0 by decide)
  have h5':=Int.emod_lt_of_pos (nth l (i+1)) (show (0:Int)<5 by decide)
  have h3:=Int.emod_nonneg (nth l (i+2)) (show (3:Int)≠0 by decide)
  have h3':=Int.emod_lt_of_pos (nth l (i+2)) (show (0:Int)<3 by decide)
  have axm:=abG (a:=ZX.of (iJ l i)) (k:=tG l i) (by omega) (fun r hr=>by
   rcases Nat.eq_zero_or_pos r with h0 | h0
   ·subst h0
    have h1:BZ 1 1 (1:ZX):=(oI l 0 0).2
    exact uE _ _ _ _ _ _ h1 f1 (by decide)
   ·obtain⟨q1,_,_⟩:=afP f3 f1 r h0
    exact uE _ _ _ _ _ _ q1 f1 (by show _<137438953472;omega))
  have hmul:=uE (eF l most j).l (ZX.of (iJ l i)^tG l i).l _ _ _ _ m2 p1 (by show _<137438953472;omega)
  have hpN:ZX.N (eF l most j)=(eF l most j).l.length:=rfl
  have hfN:ZX.N (ZX.of (iJ l i))=(iJ l i).length:=by show(ZX.of (iJ l i)).l.length=_;rw [f2]
  have oM:aP (iJ l i)=iJ l i:=f2
  have axn:=VW (x:=[-(nth l i%9-4),nth l (i+1)%5+1]) (by simp) (by simp) (fun c hc=>by
   simp only [List.mem_cons,List.not_mem_nil,or_false]at hc
   rcases hc with rfl | rfl<;>omega) (by simp;omega)
  have u9:aP [-(nth l i%9-4),nth l (i+1)%5+1] = [-(nth l i%9-4),nth l (i+1)%5+1]:=axn.2.1
  have of1:=xT [-(nth l i%9-4),nth l (i+1)%5+1] (by simp) (fun c hc=>by
   simp only [List.mem_cons,List.not_mem_nil,or_false]at hc
   rcases hc with rfl | rfl<;>omega)
  rw [u9]at of1
  have of2:(nth l i).tmod 5=3→aE env.P 97 [.sl [[.int .i64 (-(nth l i%9-4))],[.int .i64 (nth l (i+2)%3-1)],[.int .i64 (nth l (i+1)%5+1)]]] (PI (iJ l i)):=fun h=>by
   have hx:iJ l i = [-(nth l i%9-4),nth l (i+2)%3-1,nth l (i+1)%5+1]:=by unfold iJ;rw [if_pos h]
   have:=xT (iJ l i) (by rw [hx];simp) (fun c hc=>by
    rw [hx]at hc
    simp only [List.mem_cons,List.not_mem_nil,or_false]at hc
    rcases hc with rfl | rfl | rfl<;>omega)
   rw [oM]at this
   rw [hx]at this ⊢
   exact this
  have anM:¬(nth l i).tmod 5=3→iJ l i = [-(nth l i%9-4),nth l (i+1)%5+1]:=fun h=>by unfold iJ;rw [if_neg h]
  replace of1:aE env.P 97 [.sl [[.int .i64 (-(nth l i%9-4))],[.int .i64 (nth l (i+1)%5+1)]]] (PI [-(nth l i%9-4),nth l (i+1)%5+1]):=of1
  have aIj:(iJ l i).length=2∨(iJ l i).length=3:=by unfold iJ;split<;>simp
  have hk3:(tG l i:Int)=1+nth l (i+2)%3:=by unfold tG;omega
  have hP6:tG l i*(ZX.N (ZX.of (iJ l i))-1)≤6:=by
   have:tG l i*(ZX.N (ZX.of (iJ l i))-1)≤3*2:=Nat.mul_le_mul e2 (by rw [hfN];omega)
   omega
  have hP:(1+nth l (i+2)%3)*(((iJ l i).length:Int)-1)=((tG l i*(ZX.N (ZX.of (iJ l i))-1):Nat):Int):=by
   rw [hfN,Int.natCast_mul,hk3]
   congr 1
   omega
  have hpl:0<(eF l most j).l.length∧(eF l most j).l.length≤most+1:=⟨ZX.aF.1 m1,m2.N⟩
  have aj6:eF l most (j+1)=if most<(eF l most j).l.length-1+tG l i*(ZX.N (ZX.of (iJ l i))-1)then eF l most j else eF l most j*ZX.of (iJ l i)^tG l i:=by rw [hms,yE,hpN]
  rw [←hk3]at hP
  rw [f2]at axm
  clear hms p1 p2 p3 m1 m2 f1 f2 f3 axn u9 oM hpN hfN
  generalize tG l i*(ZX.N (ZX.of (iJ l i))-1)=PP at *
  generalize hK:tG l i=kk at *
  generalize hpm:bR (eF l most j).l (ZX.of (iJ l i)^kk).l=pm at *
  have aCJ:(eF l most j*ZX.of (iJ l i)^kk).l=pm:=hpm
  generalize ZX.of (iJ l i)^kk=Fk at *
  generalize hF:iJ l i=F at *
  generalize hp0:eF l most j=P0 at *
  have ei1:((i:Int)+1).toNat=i+1:=by omega
  have ei2:((i:Int)+2).toNat=i+2:=by omega
  refine W.skip ?_
  refine W.dW (fun σ=>∃(rows:Pm.Rows) (clk:Nat),σ=⟨fa [(0,aH aG l),(1, .int .i64 most),(5,PI (eF l most (j+1)).l),(6, .int .i64 i)],rows,clk⟩) ?_ ?_
  ·refine W.sd ?_
   simp (disch:=omega) [gw,ei1,ei2]
   refine aC w1 ?_
   simp (disch:=omega) [gw,ei1,ei2]
   refine aC w2 ?_
   simp (disch:=omega) [gw,ei1,ei2]
   refine cN [0,1,5,6,7,8,9] w3 ?_
   refine aL [0,1,5,6,7,8,9,10] of1 ?_
   refine W.iB (fun σ=>∃(rows:Pm.Rows) (clk:Nat),σ=⟨fa [(0,aH aG l),(1, .int .i64 most),(5,PI P0.l),(6, .int .i64 i),(9, .int .i64 kk),(10,PI F)],rows,clk⟩) ?_ ?_
   ·refine aA [0,1,5,6,7,8,9,10,54] ?_
    refine bH ?_ ?_<;>intro h
    ·have h:(nth l i).tmod 5=3:=by simpa using h
     refine W.bY (fun K hK=>?_)
     simp (disch:=omega) [gw,ei2]
     refine cM w3 ?_
     refine cM (of2 h) ?_
     exact hK _ ⟨_,aB _ [0,1,5,6,9,10],_,_,by rw [hk3];rfl⟩
    ·have h:¬(nth l i).tmod 5=3:=by simpa using h
     rw [anM h]
     refine W.skip ?_
     exact⟨_,aB _ [0,1,5,6,9,10],_,_,by rw [hk3];rfl⟩
   rintro _ ⟨rows,clk,rfl⟩
   refine W.seq ?_
   refine W.sr ?_
   simp (disch:=omega) [gw,hP]
   refine bI [0,1,5,6,9,10,77] ?_
   refine bH ?_ ?_<;>intro h
   ·have h:most<P0.l.length-1+PP:=by simp at h;omega
    rw [if_pos h]at aj6
    rw [aj6]
    refine eW ?_
    exact⟨_,aB _ [0,1,5,6],_,_,rfl⟩
   ·have h:¬most<P0.l.length-1+PP:=by simp at h;omega
    rw [if_neg h]at aj6
    rw [aj6,aCJ]
    refine W.skip ?_
    refine W.bY (fun K hK=>?_)
    simp (disch:=omega) [gw]
    refine cM axm ?_
    refine cM hmul ?_
    exact hK _ ⟨_,aB _ [0,1,5,6],_,_,rfl⟩
  rintro _ ⟨rows,clk,rfl⟩
  refine W.bY (fun K hK=>?_);simp (disch:=omega) [gw]
  refine hK _ ⟨k-1,_,aB _ [0,1,5,6],by omega,i+3,j+1,_,_,rfl,by omega,by omega⟩
 ·have hjJ:j=J:=by omega
  subst hjJ
  refine W.eD (fun σ=>∃(rows:Pm.Rows) (clk:Nat),σ=⟨fa [(0,aH aG l),(5,PI (eF l most j).l),(21, .bool false)],rows,clk⟩) (fun K hK=>?_) ?_
  ·by_cases a1:(i:Int)+2<(l.length:Int)
   ·have a2:¬(i:Int)<18:=by omega
    simp (disch:=omega) [gw,a1,a2]
    exact hK _ _ (aB _ [0,5,21]) ⟨_,_,rfl⟩
   ·simp (disch:=omega) [gw,a1]
    exact hK _ _ (aB _ [0,5,21]) ⟨_,_,rfl⟩
  rintro _ ⟨rows,clk,rfl⟩
  refine bH ?_ ?_<;>intro h
  ·cases h
  clear h
  have of3:=xT [-3] (by decide) (by decide)
  replace of3:aE env.P 97 [.sl [[.int .i64 (-3)]]] (PI [-3]):=of3
  obtain⟨m1,m2⟩:=oI l most j
  have hsc:=P5 (eF l most j).l (-3) (m2.yy (by show _≤137438953472;omega) (by omega)) (by show sz 2 (-3)≤137438953472;exact Nat.le_trans (dV (k:=2) (by decide) (by decide)) (by decide))
  have M9:a9 (eF l most j).l (-3)=(ZX.K (-3)*eF l most j).l:=Cn.ext (Cn.a9 _ _) (ZX.K (-3)*eF l most j).c fun t=>by rw [cU,ZX.eM,ZX.wR,Int.mul_comm]
  rw [M9]at hsc
  refine eW ?_
  refine W.iB (fun σ=>∃(rows:Pm.Rows) (clk:Nat),σ=⟨fa [(5,PI (if (0<l.length∧(nth l 0).tmod 7=6)then ZX.K (-3)*eF l most j else eF l most j).l)],rows,clk⟩) ?_ ?_
  ·by_cases AJ:0<l.length
   ·by_cases h7:(nth l 0).tmod 7=6
    ·rw [if_pos ⟨AJ,h7⟩]
     have b7:((nth l 0).tmod 7==6)=true:=by simpa using h7
     refine W.sr ?_
     simp (disch:=omega) [gw,AJ,b7,h7]
     refine bI [5,92] ?_
     refine bH ?_ ?_<;>intro h
     ·refine W.bY (fun K hK=>?_)
      simp (disch:=omega) [gw]
      refine cM of3 ?_
      refine cM hsc ?_
      exact hK _ ⟨_,aB _ [5],_,_,rfl⟩
     ·cases h
    ·rw [if_neg (fun h=>h7 h.2)]
     have b7:((nth l 0).tmod 7==6)=false:=by simpa using h7
     refine W.sr ?_
     simp (disch:=omega) [gw,AJ,b7,h7]
     refine bI [5,92] ?_
     refine bH ?_ ?_<;>intro h
     ·cases h
     ·refine W.skip ?_
      exact⟨_,aB _ [5],_,_,rfl⟩
   ·rw [if_neg (fun h=>AJ h.1)]
    have W5:l.length=0:=by omega
    refine W.sr ?_
    simp (disch:=omega) [gw,W5]
    refine bI [5,92] ?_
    refine bH ?_ ?_<;>intro h
    ·cases h
    ·refine W.skip ?_
     exact⟨_,aB _ [5],_,_,rfl⟩
  rintro _ ⟨rows,clk,rfl⟩
  refine aA [4] ?_
  exact bZ
end Go.Proofs.YtiobceocpabjdaaGreat
