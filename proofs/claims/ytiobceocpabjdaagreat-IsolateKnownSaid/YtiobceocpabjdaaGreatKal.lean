import Derived.Test.YtiobceocpabjdaaGreatKaf
import Derived.Test.YtiobceocpabjdaaGreatKak
set_option linter.unusedSimpArgs false
set_option linter.unusedVariables false
namespace Go.Proofs.YtiobceocpabjdaaGreat
open Go Pm
theorem acN(x:List Int):kM (x.map qI)=aM x:=by simp only [kM,bT]
theorem jO{x:List Int}(hx:Cn x){m:Int}(hm:m≠0):Cn (x.map (· * m)):=by
 rcases Nat.eq_zero_or_pos x.length with h | h
 ·have:x = []:=List.eq_nil_of_length_eq_zero h
  subst this;rfl
 ·have e:=rK h
  have:x.map (· * m)=(x.take (x.length-1)).map (· * m) ++ [lead x*m]:=by
   conv=>lhs;rw [e]
   simp
  rw [this]
  exact gV (Int.mul_ne_zero (cM hx h) hm) _
theorem pV{x:List Int}(hx:Cn x){m:Int}(hm:m≠0):aX x m=x.map (· * m):=jO hx hm
theorem MH{x:List Int}(hx:Cn x):aX x 1=x:=Cn.ext (Cn.aX _ _) hx fun t=>by rw [b8];omega
theorem MI(x:List Int):fK x=aX x (-1):=Cn.ext (Cn.fK _) (Cn.aX _ _) fun t=>by rw [yK,b8];omega
theorem jP(m:Int)(x:List Int):bH (x.map (· * m))=bH x*m.natAbs:=by
 have key:∀(l:List Int) (g:Nat),(l.map (· * m)).foldl (fun g c=>Nat.gcd g c.natAbs) (g*m.natAbs)=l.foldl (fun g c=>Nat.gcd g c.natAbs) g*m.natAbs:=by
  intro l
  induction l with
  | nil=>intro g;rfl
  | cons c l ih =>
   intro g
   simp only [List.map_cons,List.foldl_cons]
   rw [Int.natAbs_mul,Nat.gcd_mul_right,ih]
 have:=key x 0
 rw [Nat.zero_mul]at this
 exact this
theorem S2{m:Int}(hm:0<m)(g v:Int):n8 (g*m) (v*m)=n8 g v:=by
 unfold n8
 rw [Int.mul_comm v,Int.mul_comm g,Int.mul_emod_mul_of_pos _ _ hm,Int.mul_ediv_mul_of_pos _ _ hm]
 have:m*(v%g)=0↔v%g=0:=by
  constructor
  ·intro h
   rcases Int.mul_eq_zero.1 h with h | h
   ·omega
   ·exact h
  ·intro h;rw [h];simp
 simp only [this]
theorem MJ{m:Int}(hm:0<m)(x:List Int):iX (x.map (· * m))=iX x:=by
 unfold iX
 rw [jP,List.map_map]
 congr 1
 refine List.map_congr_left fun v _=>?_
 simp only [Function.comp_apply]
 have:((bH x*m.natAbs:Nat):Int)=(bH x:Int)*m:=by rw [Int.natCast_mul];congr 1;omega
 rw [this,S2 hm]
theorem vP{x:List Int}(hx:Cn x){m:Int}(hm:0<m):iX (aX x m)=iX x:=by rw [pV hx (by omega),MJ hm]
def sg(c:Int)(k:Nat):Int:=if k%2=1∧c<0 then -1 else 1
theorem YI(c:Int):∀k:Nat,c^k=sg c k*(c.natAbs:Int)^k
 | 0=>by simp [sg]
 | k+1=>by
  have ih:=YI c k
  have hc:c=(if c<0 then -1 else 1)*(c.natAbs:Int):=by split<;>omega
  have hs:sg c (k+1)=sg c k*(if c<0 then -1 else 1):=by
   unfold sg
   by_cases h:c<0
   ·rcases Nat.mod_two_eq_zero_or_one k with h2 | h2
    ·rw [if_pos ⟨by omega,h⟩,if_neg (by omega),if_pos h];rfl
    ·rw [if_neg (by omega),if_pos ⟨h2,h⟩,if_pos h];rfl
   ·rw [if_neg (fun h2=>h h2.2),if_neg (fun h2=>h h2.2),if_neg h];rfl
  rw [Int.pow_succ,Int.pow_succ,ih,hs]
  conv=>lhs;rw [hc]
  generalize (if c<0 then(-1:Int)else 1)=e at *
  have e3:((e*(c.natAbs:Int)).natAbs:Int)=(c.natAbs:Int):=by rw [←hc]
  rw [e3]
  grind
theorem YJ(c:Int)(k:Nat):sg c k*sg c k=1:=by unfold sg;split<;>rfl
theorem YK{a b:List Int}(ca:Cn a):II a b=iX (aX (vK a b).2 (sg (lead b) (iH a b))):=by
 have cr:=(yN (b:=b) ca).2
 unfold II sg
 split
 ·rw [MI]
 ·rw [MH cr]
theorem kW(x:List Int):(iX x).length≤x.length:=Nat.le_trans (bN _) (by simp)
theorem IL(x:List Int):(fK x).length≤x.length:=Nat.le_trans (bN _) (by simp)
theorem acO{a b:List Int}(hb:0<b.length):(II a b).length<b.length:=by
 have h1:=EC (a:=a) hb
 unfold II
 split
 ·have h2:=kW (fK (vK a b).2)
  have h3:=IL (vK a b).2
  omega
 ·have h2:=kW (vK a b).2
  omega
theorem aiA(a b:List Int):Cn (II a b):=by unfold II;split<;>exact Cn.cut _
def YL(b:List Int):Nat→List Int→List Int→Option (List Int × List Int)
 | 0,q,a=>some (q,a)
 | i+1,q,a=>if a.length<b.length+i then YL b i q a else if lead a%lead b=0 then YL b i (q.set i (lead a/lead b)) (eE a (bJ (n6 i (lead a/lead b)) b))else none
def exF:Option (List Int × List Int)→Option (List Int)
 | some (q,[])=>some (aM q)
 | _=>none
def exact(a b:List Int):Option (List Int):=exF (YL b (iH a b) (List.replicate (iH a b) 0) a)
def exR(o:Option (List Int)):PV:=
 match o with
 | some q => .dX [Po q, .int .i64 0]
 | none => .dX [Po [], .int .i64 3]
theorem Bd.set{B s n:Nat}{x:List Int}(h:Bd B s n x){i:Nat}{v:Int}(hv:Pm.sz B v≤s):Bd B s n (x.set i v):=⟨by simpa using h.len,fun c hc=>by
 rcases List.mem_or_eq_of_mem_set hc with h1 | h1
 ·exact h.sz c h1
 ·rw [h1];exact hv⟩
theorem S3(a b:RP){s s' N:Nat}(ha:qJ a)(hb:qJ b)(sa:Bd LL s N (a.map gv))(sb:Bd LL s' N (b.map gv))(hB:s+N*(s'+N+1)+s'+N+N+10<1099511627774) :
  aL env.P 217 [Pg a,Pg b] (if kM b = []then .dX [Po [], .int .i64 2]else exR (exact (kM a) (kM b))):=by
 have hA:Bd LL s N (kM a):=sa.cut
 have O4:Bd LL s' N (kM b):=sb.cut
 have ca:Cn (kM a):=Cn.cut _
 have cb:Cn (kM b):=Cn.cut _
 have na:=gI a ha
 have nb:=gI b hb
 rw [show aM (a.map gv)=kM a from rfl]at na
 rw [show aM (b.map gv)=kM b from rfl]at nb
 refine cH [(0,Pg a),(1,Pg b)] Tryz.func217 ?_
 generalize kM a=x at *
 generalize kM b=y at *
 refine aA [0,1] ?_
 refine jM ?_
 refine cX na ?_
 refine cV [0,1] nb ?_
 refine aR [0,1,17] ?_
 refine bP ?_ ?_<;>intro h
 ·have h:y = []:=by simp at h;exact h
  rw [if_pos h]
  refine aA [4,5] ?_
  refine W.ret ?_
  simp [go]
  rfl
 have hy:y ≠ []:=by simp at h;exact h
 clear h
 rw [if_neg hy]
 have L5:0<y.length:=List.length_pos_iff.2 hy
 have hNx:=hA.len
 have hNy:=O4.len
 have hsy:=fE O4
 have hly:=cM cb L5
 have hL:=jN (PB.of O4 (by omega) (by omega)) cb
 have hDy:=j2 y (by omega)
 have hkN:iH x y≤N:=by unfold iH;omega
 generalize hdd:s'+N+1=d at *
 have YF:∀j,j≤N→(N-j)*d≤N*d:=fun j _=>Nat.mul_le_mul_right _ (by omega)
 have hkk:(if (0:Int)<(x.length:Int)-(y.length:Int)+1 then(x.length:Int)-(y.length:Int)+1 else 0)=(iH x y:Int):=by unfold iH;split<;>omega
 refine W.skip ?_
 refine W.sr ?_
 simp (disch:=omega) [gw,hkk]
 refine bM [0,1,6] ?_
 refine W.row (id:=25) (emap ie (List.replicate (iH x y) 0)) (by simp;exact⟨rfl,rfl,rfl⟩) (oX _) ?_
 refine aR [0,1,6,7] ?_
 refine W.block ?_
 obtain⟨R0,GN⟩:∃R0,R0=YL y (iH x y) (List.replicate (iH x y) 0) x:=⟨_,rfl⟩
 have hex:exact x y=exF R0:=by rw [GN];rfl
 rw [hex]
 clear hex
 generalize sL:iH x y=k0 at *
 refine W.bC (fun j σ=>∃(v6:Nat) (z r:List Int) (rows:Pm.Rows) (clk:Nat),σ=⟨fa [(0,Po r),(1,Po y),(6, .own 25 v6 0 k0),(7, .int .i64 ((j:Int)-1))],rows,clk⟩ ∧
  rows 25=some ⟨v6,38,2,emap ie z⟩∧z.length=k0∧j≤k0∧YL y j z r=R0∧Bd LL (s+(N-j)*d) (N+N) z∧Bd LL (s+(N-j)*d) (N+N) r∧Cn r) k0 ?_ ?_
 ·exact⟨_, .refl,_,List.replicate k0 0,x,_,_,rfl,by simp,by simp,by omega,GN.symm,⟨by simp;omega,fun c hc=>by rw [(List.mem_replicate.1 hc).2,i7];omega⟩,hA.mono (by omega) (by omega),ca⟩
 rintro j _ ⟨v6,z,r,rows,clk,rfl,YM,hz,hj,vO,bz,br,cr⟩
 refine aR [0,1,6,7,30] ?_
 refine bP ?_ ?_<;>intro h
 ·have hj0:0<j:=by simp at h;omega
  obtain⟨i,rfl⟩:∃i,j=i+1:=⟨j-1,by omega⟩
  clear h
  have ei:((i+1:Nat):Int)-1=i:=by omega
  rw [ei]
  have hN1:=YF (i+1) (by omega)
  have O5:=YF i (by omega)
  have hT:s+(N-i)*d=s+(N-(i+1))*d+s'+N+1:=by
   rw [show N-i=(N-(i+1))+1 by omega,Nat.add_mul,Nat.one_mul];omega
  have hDr:=j2 r (by have:=br.len;omega)
  have hLr:=jN (PB.of br (by omega) (by omega)) cr
  have hlr:=fE br
  rw [YL]at vO
  refine W.skip ?_
  refine W.iG (fun σ=>∃(z r:List Int) (rows:Pm.Rows) (clk:Nat),σ=⟨fa [(0,Po r),(1,Po y),(6, .own 25 v6 0 k0),(7, .int .i64 i)],rows,clk⟩ ∧
   rows 25=some ⟨v6,38,2,emap ie z⟩∧z.length=k0∧YL y i z r=R0∧Bd LL (s+(N-i)*d) (N+N) z∧Bd LL (s+(N-i)*d) (N+N) r∧Cn r) ?_ ?_
  ·
   refine W.seq ?_
   refine jM ?_
   refine cX hDr ?_
   refine cV [0,1,6,7,39] hDy ?_
   by_cases hlen:r.length<y.length+i
   ·rw [if_pos hlen]at vO
    refine bP ?_ ?_<;>intro h
    ·refine fC ?_
     exact⟨_,aD _ [0,1,6,7],z,r,_,_,rfl,YM,hz,vO,bz.mono (by omega) (by omega),br.mono (by omega) (by omega),cr⟩
    ·exfalso;simp at h;omega
   rw [if_neg hlen]at vO
   refine bP ?_ ?_<;>intro h
   ·exfalso;simp at h;omega
   clear h
   have hE:=EJ (v:=lead r) (c:=lead y) (by omega) (by omega) hly
   refine W.skip ?_
   by_cases XV:lead r%lead y=0
   ·rw [if_pos XV]at hE vO
    have hts:sz LL (lead r/lead y)≤s+(N-(i+1))*d:=Nat.le_trans (cS fR (Int.natAbs_ediv_le_natAbs _ _)) hlr
    have bs:=Bd.n6 hts i
    have bm:=bs.bJ fR O4
    have b2:Bd LL (s+(N-i)*d) (N+N) (eE r (bJ (n6 i (lead r/lead y)) y)):=(Bd.eE fR (br.mono (s':=s+(N-(i+1))*d+s'+N) (n':=N+N) (by omega) (by omega)) (bm.mono (by omega) (by omega))).mono (by omega) (by omega)
    have f4:=uL bs O4 (by omega)
    have f5:=CL (PB.of br (by omega) (by omega)) (PB.of bm (by omega) (by omega))
    have cr2:Cn (eE r (bJ (n6 i (lead r/lead y)) y)):=Cn.eE _ _
    have bz2:=Bd.set (i:=i) (bz.mono (s':=s+(N-i)*d) (n':=N+N) (by omega) (by omega)) (Nat.le_trans hts (by omega))
    generalize dY:eE r (bJ (n6 i (lead r/lead y)) y)=r2 at *
    generalize bJ (n6 i (lead r/lead y)) y=pm at *
    generalize lead r/lead y=tt at *
    have YH:=o6 i tt
    have aiz:(n6 i tt).length=i+1:=by simp [n6]
    have rD:=bG aiz
    generalize lead r=lr at *
    generalize lead y=ly at *
    refine jM ?_
    refine cX hLr ?_
    refine cX hL ?_
    refine cV [0,1,6,7,8,9] hE ?_
    refine aR [0,1,6,7,8,49] ?_
    refine bP ?_ ?_<;>intro h
    ·cases h
    refine W.skip ?_
    refine W.sr ?_
    simp (disch:=omega) [gw,YM,hz]
    refine bM [0,1,6,7,8] ?_
    have e9:((i:Int)+1).toNat=i+1:=by omega
    refine W.sr ?_
    simp (disch:=omega) [gw,e9]
    refine bM [0,1,6,7,8,10] ?_
    refine W.row (id:=56) (emap ie (List.replicate (i+1) 0)) (by simp;exact⟨rfl,rfl,rfl⟩) (oX _) ?_
    refine W.sr ?_
    simp (disch:=omega) [gw,YH]
    refine bM [0,1,6,7,10] ?_
    refine W.freeze 56 (by simp) (fun K hK=>?_)
    simp [rD]
    refine hK _ ?_;clear hK K
    refine W.cG (fun K hK=>?_)
    simp (disch:=omega) [gw]
    refine cX f4 ?_
    refine cX f5 ?_
    exact hK _ ⟨_,aD _ [0,1,6,7],z.set i tt,r2,_,_,rfl,by simp,by simp [hz],vO,bz2,b2,cr2⟩
   ·rw [if_neg XV]at hE vO
    subst vO
    refine jM ?_
    refine cX hLr ?_
    refine cX hL ?_
    refine cV [0,1,6,7,8,9] hE ?_
    refine aR [0,1,6,7,8,49] ?_
    refine bP ?_ ?_<;>intro h
    ·refine aA [4,5] ?_
     refine W.ret ?_
     simp [go,exR,exF]
     rfl
    ·cases h
  rintro _ ⟨z,r,rows,clk,rfl,YM,hz,vO,bz,br,cr⟩
  refine W.cG (fun K hK=>?_);simp (disch:=omega) [gw]
  refine hK _ ⟨i,_,aD _ [0,1,6,7],by omega,v6,z,r,_,_,rfl,by simp [YM],hz,by omega,vO,bz,br,cr⟩
 ·have hj0:j=0:=by simp at h;omega
  subst hj0
  simp only [YL]at vO
  rw [←vO]
  have hN0:=YF 0 (by omega)
  have hzn:=gC (PB.of bz (by omega) (by omega))
  have hzz:=bG hz
  refine fC ?_
  refine aR [6,68] ?_
  cases r with
  | nil =>
   refine bP ?_ ?_<;>intro h
   ·exfalso;simp at h
   refine W.skip ?_
   refine W.sr ?_
   simp (disch:=omega) [gw,YM,hzz]
   refine cV [4,5] hzn ?_
   refine W.ret ?_
   simp [go,exR,exF]
  | cons c r =>
   refine bP ?_ ?_<;>intro h
   ·refine aA [4,5] ?_
    refine W.ret ?_
    simp [go,exR,exF]
    rfl
   ·exfalso;simp at h
theorem y8{d:Nat}{x:List Int}(h:∀c∈x,(d:Int)∣c):d∣bH x:=by
 have key:∀(l:List Int) (g:Nat),d∣g→(∀c∈l,(d:Int)∣c)→d∣l.foldl (fun g c=>Nat.gcd g c.natAbs) g:=by
  intro l
  induction l with
  | nil=>intro g hg _;exact hg
  | cons c l ih =>
   intro g hg hl
   rw [List.foldl_cons]
   exact ih _ (Nat.dvd_gcd hg (Int.ofNat_dvd_left.1 (hl c (by simp)))) fun v hv=>hl v (by simp [hv])
 exact key x 0 (Nat.dvd_zero d) h
theorem wZ{x:List Int}{g:Int}(h:∀c∈x,g∣c):(x.map (n8 g)).map (· * g)=x:=by
 rw [List.map_map]
 refine(List.map_congr_left fun v hv=>?_).trans (List.map_id _)
 have h1:v%g=0:=Int.emod_eq_zero_of_dvd (h v hv)
 simp only [Function.comp_apply,n8,id_eq]
 rw [if_pos h1]
 exact Int.ediv_mul_cancel (h v hv)
theorem uM{x y:List Int}{g:Int}(hg:g≠0)(h:y.map (· * g)=x)(e:bH x=g.natAbs):bH y=1:=by
 have:=jP g y
 rw [h,e]at this
 exact Nat.eq_of_mul_eq_mul_right (show 0<g.natAbs by omega) (by omega)
theorem dE(t:Int)(g:Int)(x:List Int):V t (x.map (· * g))=V t x*g:=by
 have:=fO (t:=t) g id x
 simp only [id_eq,List.map_id_fun]at this
 exact this
theorem YN{x y:List Int}(cx:Cn x)(cy:Cn y)(hx:x ≠ [])(hy:y ≠ []):bH (bJ x y)=bH x*bH y:=by
 have gx:=bX cx hx
 have gy:=bX cy hy
 have hp:bH (bJ x y)≠0:=bX (Cn.bJ _ _) fun h=>by
  have:=iS cx cy (List.length_pos_iff.2 hx) (List.length_pos_iff.2 hy)
  rw [h]at this
  have h1:=List.length_pos_iff.2 hx
  have h2:=List.length_pos_iff.2 hy
  simp only [List.length_nil]at this
  omega
 obtain⟨x',QV⟩:∃x':List Int,x'.map (· * (bH x:Int))=x:=⟨_,wZ (gD x)⟩
 obtain⟨y',JX⟩:∃y':List Int,y'.map (· * (bH y:Int))=y:=⟨_,wZ (gD y)⟩
 have px:=uM (by omega) QV (by omega)
 have py:=uM (by omega) JX (by omega)
 have e:bJ x y=(bJ x' y').map (· * ((bH x:Int)*bH y)):=by
  rw [←pV (Cn.bJ _ _) (Int.mul_ne_zero (by omega) (by omega))]
  refine Cn.ext (Cn.bJ _ _) (Cn.aX _ _) fun t=>?_
  have h1:=dE t (bH x) x'
  have h2:=dE t (bH y) y'
  rw [QV]at h1
  rw [JX]at h2
  rw [cQ,b8,cQ,h1,h2]
  grind
 rw [e,jP]at hp
 rw [e,jP,Int.natAbs_mul]
 have hd:0<bH (bJ x' y'):=Nat.pos_of_mul_pos_right (Nat.pos_of_ne_zero hp)
 have hD:=OV _ (bH (bJ x' y')) x' y' (Nat.le_refl _) hd (Dv.of (gD _)) (fun d _ hy=>Nat.dvd_one.1 (py▸y8 hy.mem))
 have h1:bH (bJ x' y')=1:=Nat.dvd_one.1 (px▸y8 hD.mem)
 rw [h1,Nat.one_mul]
 simp
def jQ(x:List Int):Int:=if lead x<0 then -(bH x:Int)else bH x
def o7(x:List Int):List Int:=aM (x.map (n8 (jQ x)))
theorem lL(x:List Int):(jQ x).natAbs=bH x:=by unfold jQ;split<;>omega
theorem EK(x:List Int):∀c∈x,jQ x∣c:=fun c hc=>by
 have:=gD x c hc
 unfold jQ;split
 ·exact Int.neg_dvd.2 this
 ·exact this
theorem EL{x:List Int}(cx:Cn x)(hx:x ≠ []):(o7 x).map (· * jQ x)=x:=by
 have gx:=bX cx hx
 have h0:=lL x
 rw [←pV (show Cn (o7 x)from Cn.cut _) (show jQ x≠0 by omega)]
 refine Cn.ext (Cn.aX _ _) cx fun t=>?_
 rw [b8,o7,cE,←dE,wZ (EK x)]
theorem S4{x:List Int}(cx:Cn x)(hx:x ≠ []):aX (o7 x) (jQ x)=x:=by
 have gx:=bX cx hx
 have h0:=lL x
 rw [pV (show Cn (o7 x)from Cn.cut _) (show jQ x≠0 by omega)]
 exact EL cx hx
theorem acP{x:List Int}(cx:Cn x)(hx:x ≠ []):bH (o7 x)=1:=by
 have gx:=bX cx hx
 have h0:=lL x
 exact uM (by omega) (EL cx hx) h0.symm
theorem YO{x:List Int}(cx:Cn x)(hx:x ≠ []):0<lead (o7 x):=by
 have gx:=bX cx hx
 have h:=EL cx hx
 have hl:(o7 x).length=x.length:=by rw [←congrArg List.length h];simp
 have nZ:=List.length_pos_iff.2 hx
 have h1:lead x=lead (o7 x)*jQ x:=by
  rw [lead,lead,hl,←iI,h]
 have qF:=cM (x:=o7 x) (Cn.cut _) (by omega)
 have hg:(0:Int)<bH x:=by omega
 unfold jQ at h1
 rcases Int.lt_trichotomy (lead (o7 x)) 0 with h2 | h2 | h2
 ·exfalso
  split at h1
  ·rename_i h3
   have:=Int.mul_pos (show (0:Int) < -lead (o7 x)by omega) hg
   rw [Int.mul_neg,←Int.neg_mul]at h1
   omega
  ·rename_i h3
   have:=Int.mul_pos (show (0:Int) < -lead (o7 x)by omega) hg
   rw [Int.neg_mul]at this
   omega
 ·exact absurd h2 qF
 ·exact h2
theorem qX(a:RP){s n:Nat}(ha:qJ a)(sa:Bd LL s n (a.map gv))(hs:s<1099511627774)(hn:n<1099511627774) :
  aL env.P 137 [Pg a] (.dX [I (jQ (kM a)),Po (o7 (kM a))]):=by
 have hA:Bd LL s n (kM a):=sa.cut
 have ca:Cn (kM a):=Cn.cut _
 have na:=gI a ha
 rw [show aM (a.map gv)=kM a from rfl]at na
 refine cH [(0,Pg a)] Tryz.func137 ?_
 generalize kM a=x at *
 refine aA [0,2] ?_
 refine a7 [0,2] na ?_
 refine aR [0,2,9] ?_
 refine bP ?_ ?_<;>intro h
 ·have h:x = []:=by simp at h;exact h
  subst h
  rw [show jQ ([]:List Int)=0 by decide,show o7 ([]:List Int) = []from rfl]
  refine aA [2,3] ?_
  refine W.ret ?_
  simp [go]
  exact⟨rfl,rfl⟩
 have hx:x ≠ []:=by simp at h;exact h
 clear h
 have nZ:=List.length_pos_iff.2 hx
 have gx:=bX ca hx
 have hp0:=lL x
 have hC:=tE x (PD.of hA hs hn)
 have hL:=jN (PB.of hA (by omega) (by omega)) ca
 have hgs:=O6 (s:=s) hA.sz ca hx
 have KL:sz LL (jQ x)≤s:=by
  unfold jQ;split
  ·rw [nD];exact hgs
  ·exact hgs
 have hO:=IF x (jQ x) (PD.of hA hs hn) (by omega) (by omega)
 rw [show aM (x.map (n8 (jQ x)))=o7 x from rfl]at hO
 have hN:=ae0 (x:=(bH x:Int)) (by show sz LL _<_;omega)
 refine W.skip ?_
 refine a7 [0,2,4] hC ?_
 refine W.iF (fun σ=>∃(rows:Pm.Rows) (clk:Nat),σ=⟨fa [(0,Po x),(2, .ptr 2 0 0 0),(4, .ptr 4 1 0 0)],rows,clk⟩∧rows 2=some ⟨0,38,2,[[.bool false, .nil]]⟩∧rows 4=some ⟨1,38,2,[ie (jQ x)]⟩) ?_ ?_
 ·refine W.fX (fun σ=>∃(rows:Pm.Rows) (clk:Nat),σ=⟨fa [(0,Po x),(2, .ptr 2 0 0 0),(4, .ptr 4 1 0 0),(16, .bool (decide (lead x<0)))],rows,clk⟩∧rows 2=some ⟨0,38,2,[[.bool false, .nil]]⟩∧rows 4=some ⟨1,38,2,[ie (bH x)]⟩) (fun K hK=>?_) ?_
  ·simp (disch:=omega) [gw]
   refine cX hL ?_
   refine hK _ _ (aD _ [0,2,4,16]) ⟨_,_,rfl,?_,?_⟩<;>simp [ie]
  rintro _ ⟨rows,clk,rfl,dY,eU⟩
  refine W.W3 (lead x<0) rfl (fun h=>?_) (fun h=>?_)
  ·rw [jQ,if_pos h]
   refine W.cG (fun K hK=>?_)
   simp (disch:=omega) [gw,eU]
   refine aC hN ?_
   simp (disch:=omega) [gw,eU]
   exact hK _ ⟨_,aD _ [0,2,4],_,_,rfl,by simp [dY],by simp⟩
  ·rw [jQ,if_neg h]
   refine W.skip ?_
   exact⟨_,aD _ [0,2,4],_,_,rfl,dY,eU⟩
 rintro _ ⟨rows,clk,rfl,dY,eU⟩
 generalize jQ x=c at *
 generalize o7 x=p at *
 refine W.sd ?_
 simp (disch:=omega) [gw,eU]
 refine aC hO ?_
 simp (disch:=omega) [gw,dY,eU]
 refine bM [2,3] ?_
 exact cR
abbrev qd(x:List Int)(D:Int):List Rat:=x.map fun v=>cY v D
theorem eD{v D:Int}(h:D≠0):cY v D=(v:Rat)/(D:Rat):=by rw [cY,if_neg h,Rat.divInt_eq_div]
theorem fF{D:Int}(h:D≠0):(D:Rat)≠0:=fun h2=>h (by exact_mod_cast h2)
theorem tF{D:Int}(h:D≠0):cY 0 D=0:=by rw [eD h];simp [Rat.div_def]
theorem vQ{v D:Int}(h:D≠0):cY v D=0↔v=0:=by
 constructor
 ·intro h2
  rw [eD h]at h2
  have h3:=fF h
  have:(v:Rat)=0:=by
   have h4:(v:Rat)/(D:Rat)*D=0:=by rw [h2];grind
   rw [Rat.div_mul_cancel h3]at h4
   exact h4
  exact_mod_cast this
 ·rintro rfl;exact tF h
theorem O7{v D l:Int}(h:D≠0)(hl:l≠0):cY (v*l) (D*l)=cY v D:=by
 rw [eD h,eD (Int.mul_ne_zero h hl),Rat.intCast_mul,Rat.intCast_mul]
 have h1:=fF h
 have h2:=fF hl
 grind
theorem acQ{v w D:Int}(h:D≠0):cY v D+cY w D=cY (v+w) D:=by
 rw [eD h,eD h,eD h,Rat.intCast_add]
 have h1:=fF h
 grind
theorem O8{v D:Int}(h:D≠0):cY v D*(-1)=cY (-v) D:=by
 rw [eD h,eD h,Rat.intCast_neg]
 have h1:=fF h
 grind
theorem YP{v w D:Int}(h:D≠0):(w:Rat)*cY v D=cY (w*v) D:=by
 rw [eD h,eD h,Rat.intCast_mul]
 have h1:=fF h
 grind
theorem acR{v D l:Int}(h:D≠0)(hl:l≠0):cY v D/(l:Rat)=cY v (D*l):=by
 rw [eD h,eD (Int.mul_ne_zero h hl),Rat.intCast_mul]
 have h1:=fF h
 have h2:=fF hl
 grind
theorem tG{D:Int}(h:D≠0):∀x:List Int,k7 (qd x D)=qd (aM x) D
 | []=>rfl
 | a::x=>by
  have ih:=tG h x
  simp only [qd,List.map_cons]at ih ⊢
  rw [k7,ih,aM]
  by_cases h1:aM x = []∧a=0
  ·simp [h1,tF h]
  ·rw [if_neg h1,if_neg (by simpa [vQ h]using h1)];simp
theorem EM{D:Int}(h:D≠0)(x:List Int)(k:Nat):nth (qd x D) k=cY (nth x k) D:=wV (f:=fun v=>cY v D) (tF h) x k
theorem acS{D:Int}(h:D≠0)(x y:List Int):YC (qd x D) (qd y D)=qd (gB x y) D:=by
 rw [YC,gB,←tG h]
 congr 1
 simp only [qd,List.length_map,List.map_map]
 congr 1
 funext k
 simp only [Function.comp_apply]
 rw [show nth (List.map (fun v=>cY v D) x) k=_ from EM h x k,show nth (List.map (fun v=>cY v D) y) k=_ from EM h y k,acQ h]
theorem acT{D:Int}(h:D≠0)(x:List Int):jB (qd x D) (-1)=qd (fK x) D:=by
 rw [jB,fK,←tG h]
 congr 1
 simp only [qd,List.map_map]
 congr 1
 funext k
 simp only [Function.comp_apply]
 exact O8 h
theorem S5{D:Int}(h:D≠0)(y:List Int)(v:Int):jB (qs y) (cY v D)=qd (aX y v) D:=by
 rw [jB,aX,←tG h]
 congr 1
 simp only [qd,qs,List.map_map]
 congr 1
 funext k
 simp only [Function.comp_apply]
 exact YP h
theorem ML{D l:Int}(h:D≠0)(hl:l≠0)(x:List Int):qd (x.map (· * l)) (D*l)=qd x D:=by
 simp only [qd,List.map_map]
 congr 1
 funext k
 simp only [Function.comp_apply]
 exact O7 h hl
theorem EN(x:List Int):qd x 1=qs x:=by
 simp only [qd,qs,kF]
theorem rP{v D:Int}{k:Nat}(h:D≠0)(hv:sz 2 v≤k)(hD:sz 2 D≤k):ZR k (cY v D):=by
 refine⟨Nat.le_trans (cS (by decide) ?_) hv,Nat.le_trans (cS (by decide) ?_) hD⟩
 ·rw [nK _ _ h]
  refine Nat.le_trans (Int.natAbs_ediv_le_natAbs _ _) ?_
  split<;>simp
 ·rw [nM _ _ h]
  refine Nat.le_trans (Int.natAbs_ediv_le_natAbs _ _) ?_
  split<;>simp
theorem MM{x:List Int}{D:Int}{k n:Nat}(h:D≠0)(hx:Bd 2 k n x)(hD:sz 2 D≤k)(hk:k≤YY)(hn:n<1099511627776):SV (qd x D):=⟨fun q hq=>by
 simp only [List.mem_map]at hq
 obtain⟨v,hv,rfl⟩:=hq
 exact rP h (Nat.le_trans (hx.sz v hv) hk) (Nat.le_trans hD hk),by have:=hx.len;simp;omega⟩
structure DS where
 Q:List Int
 r:List Int
 D:Int
def dst(y:List Int)(σ:DS):DS:=⟨(σ.Q.map (· * lead y)).set (σ.r.length-y.length) (lead σ.r),tW y (lead y) (lead σ.r) (σ.r.length-y.length) σ.r,σ.D*lead y⟩
def S6(y:List Int):Nat→DS→DS
 | 0,σ=>σ
 | n+1,σ=>if σ.r.length<y.length then σ else S6 y n (dst y σ)
def YQ(x y:List Int):DS:=S6 y (x.length+1) ⟨List.replicate (iH x y) 0,x,1⟩
theorem EO{y:List Int}{σ:DS}(hy:0<y.length)(h:y.length≤σ.r.length):(dst y σ).r.length<σ.r.length:=by
 have h1:=wX (b:=y) (r:=σ.r) (i:=σ.r.length-y.length) hy (by omega)
 rw [show sX y σ.r (σ.r.length-y.length)=lead σ.r from by rw [sX,if_pos (by omega)]]at h1
 show(tW y (lead y) (lead σ.r) (σ.r.length-y.length) σ.r).length<_
 omega
theorem acU{y:List Int}{σ:DS}(h:σ.r.length<y.length):∀n,S6 y n σ=σ
 | 0=>rfl
 | n+1=>by rw [S6,if_pos h]
structure rQ(x y:List Int)(σ:DS):Prop where
 v:∀t,σ.D*V t x=V t σ.Q*V t y+V t σ.r
 z:∀j,j+y.length≤σ.r.length→nth σ.Q j=0
 c:Cn σ.r
 d:σ.D≠0
 q:σ.r.length+1≤σ.Q.length+y.length∨σ.r.length<y.length
theorem rQ.step{x y:List Int}{σ:DS}(cy:Cn y)(hy:0<y.length)(h:y.length≤σ.r.length)(hI:rQ x y σ):rQ x y (dst y σ):=by
 have hl:=cM cy hy
 have fS:=EO hy h
 have hq:=hI.q.resolve_right (by omega)
 have hk:σ.r.length-y.length<(σ.Q.map (· * lead y)).length:=by simp;omega
 have h1:=wX (b:=y) (r:=σ.r) (i:=σ.r.length-y.length) hy (by omega)
 rw [show sX y σ.r (σ.r.length-y.length)=lead σ.r from by rw [sX,if_pos (by omega)]]at h1
 refine⟨fun t=>?_,fun j hj=>?_,Cn.eE _ _,Int.mul_ne_zero hI.d hl,?_⟩
 ·have h2:=hI.v t
  have h3:=B5 (b:=t) (x:=lead σ.r) hk
  have h4:nth (σ.Q.map (· * lead y)) (σ.r.length-y.length)=0:=by
   rw [iI,hI.z _ (by omega)];simp
  show σ.D*lead y*V t x=V t ((σ.Q.map (· * lead y)).set (σ.r.length-y.length) (lead σ.r))*V t y+V t (tW y (lead y) (lead σ.r) (σ.r.length-y.length) σ.r)
  rw [h3,h4,dE,tW,gO,cQ,lI,b8]
  have h5:σ.D*lead y*V t x=lead y*(σ.D*V t x):=by grind
  rw [h5,h2];grind
 ·have hj:j+y.length≤(tW y (lead y) (lead σ.r) (σ.r.length-y.length) σ.r).length:=hj
  show nth ((σ.Q.map (· * lead y)).set (σ.r.length-y.length) (lead σ.r)) j=0
  rw [fD (by omega),iI,hI.z _ (by omega)];simp
 ·left
  have:(dst y σ).Q.length=σ.Q.length:=by simp [dst]
  omega
theorem rQ.S6{x y:List Int}(cy:Cn y)(hy:0<y.length):∀(n:Nat) (σ:DS),σ.r.length<n→rQ x y σ→rQ x y (S6 y n σ)∧(Proofs.YtiobceocpabjdaaGreat.S6 y n σ).r.length<y.length
 | 0,σ,h,_=>by omega
 | n+1,σ,h,hI=>by
  rw [Proofs.YtiobceocpabjdaaGreat.S6]
  split
  ·rename_i h1;exact⟨hI,h1⟩
  ·rename_i h1
   exact rQ.S6 cy hy n _ (by have:=EO (σ:=σ) hy (by omega);omega) (hI.step cy hy (by omega))
theorem rQ.start{x y:List Int}(cx:Cn x):rQ x y ⟨List.replicate (iH x y) 0,x,1⟩:=by
 refine⟨fun t=>?_,fun j hj=>?_,cx,show(1:Int)≠0 by decide,?_⟩
 ·simp [nW]
 ·rcases Nat.lt_or_ge j (iH x y)with h | h
  ·rw [bZ (by simpa using h)];simp
  ·rw [fY (by simpa using h)];rfl
 ·simp only [iH,List.length_replicate];omega
theorem acV{x y:List Int}(cx:Cn x)(cy:Cn y)(hy:0<y.length):rQ x y (YQ x y)∧(YQ x y).r.length<y.length:=rQ.S6 cy hy _ _ (Nat.lt_succ_self _) (rQ.start cx)
@[simp] theorem aoR{l:List Rat}{i:Nat}{q:Rat}:iN (emap re l) i 0 [aQ aG (aY DD q.num.natAbs), .bool (decide (q.num<0)),aQ aG (aY DD q.den), .bool false]=emap re (l.set i q):=wY (n:=4) (fun _=>rfl)
theorem y9(x:List Int):emap re (qs x)=emap ri x:=by simp only [emap,qs,List.map_map,Function.comp_def,jA]
theorem YR(a b n:List Rat)(ha:SV a)(hb:SV b)(hn:jB b (-1)=n)(hn2:SV n):aL env.P 266 [PP a,PP b] (PP (YC a n)):=by
 have h1:=ID b hb
 rw [hn]at h1
 have h2:=YD a n ha hn2
 refine cH [(0,PP a),(1,PP b)] Tryz.func266 ?_
 refine aA [0,1] ?_
 refine jM ?_
 refine cX h1 ?_
 refine cV [4] h2 ?_
 exact cR
def FZ(l:List Rat):Int:=l.foldl (fun d q=>(d*q.den).tdiv (Int.gcd d q.den)) 1
def O9(d:Int)(l:List Rat):Int:=l.foldl (fun (g:Int) q=>(Int.gcd g ((q.num*d).tdiv q.den):Int)) 0
theorem YS{l:List Rat}{i:Nat}(h:i<l.length):FZ (l.take (i+1))=(FZ (l.take i)*(nth l i).den).tdiv (Int.gcd (FZ (l.take i)) (nth l i).den):=by
 unfold FZ;rw [bA h,List.foldl_append];rfl
theorem YT{l:List Rat}{d:Int}{i:Nat}(h:i<l.length):O9 d (l.take (i+1))=(Int.gcd (O9 d (l.take i)) (((nth l i).num*d).tdiv (nth l i).den):Int):=by
 unfold O9;rw [bA h,List.foldl_append];rfl
theorem YU(q:Rat):RI (q.den:Int) = .ag [aQ aG (aY DD q.den), .bool false]:=by
 simp [show ¬((q.den:Int)<0)by omega]
def MN(l:List Rat):Rat:=if (nth l (l.length-1)).num<0 then -(cY (O9 (FZ l) l) (FZ l))else cY (O9 (FZ l) l) (FZ l)
def qpr(l:List Rat):List Rat:=jB l (1/MN l)
theorem o8(l:List Rat){k:Nat}(hk:k≤YY)(hk1:1≤k)(hl:∀q∈l,ZR k q)(KP:l.length<1099511627776)(h0:l ≠ [])
  (hd:∀i,sz 2 (FZ (l.take i))≤k) (hd1:∀i,0<FZ (l.take i)) (hg:∀i,sz 2 (O9 (FZ l) (l.take i))≤k)
  (hc:ZR YY (MN l)) (uI:MN l≠0) (wG:ZR YY (1/MN l)) :
  aL env.P 155 [PP l] (.dX [RR (MN l),PP (qpr l)]):=by
 have hkY:k≤137438953472:=hk
 have GB:0<l.length:=List.length_pos_iff.2 h0
 refine cH [(0,PP l)] Tryz.func155 ?_
 refine aA [0,2] ?_
 refine aR [0,2,11] ?_
 refine bP ?_ ?_<;>intro h
 ·exfalso;simp at h;exact h0 h
 refine W.skip ?_
 refine jM ?_
 refine aC (nJ 1 (by decide) (by decide)) ?_
 simp (disch:=omega) [gw]
 refine bM [0,2,4] ?_
 refine aR [0,2,4,15,16] ?_
 refine W.block ?_
 refine W.bC (fun n σ=>∃(i:Nat) (d:Int) (rows:Pm.Rows) (clk:Nat),σ=⟨fa [(0,PP l),(2, .ptr 2 0 0 0),(4, .ptr 4 1 0 0),(15, .int .i64 l.length),(16, .int .i64 i)],rows,clk⟩ ∧
  rows 2=some ⟨0,31,4,[[.nil, .bool false, .nil, .bool false]]⟩∧rows 4=some ⟨1,29,2,[[aQ aG (aY DD d.natAbs), .bool (decide (d<0))]]⟩∧n=l.length-i∧i≤l.length∧d=FZ (l.take i)) l.length ?_ ?_
 ·exact⟨_, .refl,0,1,_,_,rfl,by simp,by simp,by omega,by omega,by simp [FZ]⟩
 rintro n _ ⟨i,d,rows,clk,rfl,dY,eU,hn,hi,XV⟩
 refine cL [0,2,4,15,16,17] ?_
 refine bP ?_ ?_<;>intro h
 ·have hi:i<l.length:=by simp at h;omega
  have hq:=hl _ (bR hi)
  have hdi:=hd i
  have hdp:=hd1 i
  have hs:=YS hi
  rw [←XV]at hs hdi hdp
  have hsn:=hd (i+1)
  have m1:=dU d (nth l i).den (by simp only [Z];omega) (by have:=hq.d;simp only [Z];omega)
  have m2:=y5 d (nth l i).den (by simp only [Y];omega) (by have:=hq.d;simp only [Y];omega)
  have zm:=b5 (b:=2) (by decide) hdi hq.d
  have hgp:0<Int.gcd d (nth l i).den:=Int.gcd_pos_of_ne_zero_left _ (by omega)
  have zg:Y (Int.gcd d (nth l i).den:Int):=y4 (y:=d) (by simp only [Y];omega) (by
   have:=Int.le_of_dvd hdp (Int.gcd_dvd_left d ((nth l i).den:Int));omega)
  have m3:=tB (d*(nth l i).den) (Int.gcd d (nth l i).den) (by omega) (by simp only [Y];omega) zg
  rw [←hs]at m3
  rw [YU]at m1 m2
  generalize (Int.gcd d (nth l i).den:Int)=gg at *
  generalize d*((nth l i).den:Int)=dd at *
  generalize Q8:FZ (l.take (i+1))=d2 at *
  generalize S7:nth l i=q at *
  refine kK ?_
  refine W.sr ?_
  simp (disch:=omega) [gw,S7]
  refine bM [0,2,4,5,15,16] ?_
  refine W.LV (fun K hK=>?_)
  simp (disch:=omega) [gw,eU,S7]
  refine aC m1 ?_
  simp (disch:=omega) [gw,eU,S7]
  refine aC m2 ?_
  simp (disch:=omega) [gw,eU,S7]
  refine aC m3 ?_
  simp (disch:=omega) [gw,eU,S7]
  refine cU (by refine⟨?_,?_⟩<;>kernel_rfl) ?_
  simp (disch:=omega) [gw]
  refine W.lw [0,2,4,15,16] hK ?_;clear hK K;simp
  refine W.cG (fun K hK=>?_);simp (disch:=omega) [gw]
  refine hK _ ⟨l.length-(i+1),_,aD _ [0,2,4,15,16],by omega,i+1,d2,_,_,rfl,by simp [dY],by simp,by omega,by omega,Q8.symm⟩
 have hi:i=l.length:=by simp at h;omega
 subst hi
 rw [List.take_length]at XV
 have VG:=hd l.length
 have hdp:=hd1 l.length
 rw [List.take_length,←XV]at VG hdp
 rw [←XV]at hg
 have hqc:MN l=if (nth l (l.length-1)).num<0 then -(cY (O9 d l) d)else cY (O9 d l) d:=by rw [XV];rfl
 refine fC ?_
 refine aA [0,2,4,6] ?_
 refine W.row (id:=6) (els:=[[.nil, .bool false]]) [[aQ aG (aY DD 0), .bool false]] (by simp;first | exact⟨rfl,rfl,rfl⟩ | exact⟨rfl,rfl,rfl,rfl⟩) ⟨⟨.inr ⟨rfl,rfl⟩, .inl rfl,trivial⟩,trivial⟩ ?_
 refine aR [0,2,4,6,36,37] ?_
 refine W.block ?_
 clear XV
 refine W.bC (fun n σ=>∃(i v6:Nat) (g:Int) (rows:Pm.Rows) (clk:Nat),σ=⟨fa [(0,PP l),(2, .ptr 2 0 0 0),(4, .ptr 4 1 0 0),(6, .ptr 6 v6 0 0),(36, .int .i64 l.length),(37, .int .i64 i)],rows,clk⟩ ∧
  rows 2=some ⟨0,31,4,[[.nil, .bool false, .nil, .bool false]]⟩∧rows 4=some ⟨1,29,2,[[aQ aG (aY DD d.natAbs), .bool (decide (d<0))]]⟩ ∧
  rows 6=some ⟨v6,29,2,[[aQ aG (aY DD g.natAbs), .bool (decide (g<0))]]⟩∧n=l.length-i∧i≤l.length∧g=O9 d (l.take i)) l.length ?_ ?_
 ·exact⟨_, .refl,0,_,0,_,_,rfl,by simp [dY],by simp [eU],by simp,by omega,by omega,by simp [O9]⟩
 clear dY eU rows clk
 rintro n _ ⟨i,v6,g,rows,clk,rfl,dY,eU,l8,hn,hi,hgv⟩
 refine cL [0,2,4,6,36,37,38] ?_
 refine bP ?_ ?_<;>intro h
 ·have hi:i<l.length:=by simp at h;omega
  have hq:=hl _ (bR hi)
  have hgi:=hg i
  have hs:=YT (d:=d) hi
  rw [←hgv]at hs hgi
  have m1:=dU (nth l i).num d (by have:=hq.n;simp only [Z];omega) (by simp only [Z];omega)
  have zm:=b5 (b:=2) (by decide) hq.n VG
  have m2:=tB ((nth l i).num*d) (nth l i).den (by have:=(nth l i).den_nz;omega) (by simp only [Y];omega) (by have:=hq.d;simp only [Y];omega)
  have zq:Y (((nth l i).num*d).tdiv (nth l i).den):=y4 (y:=(nth l i).num*d) (by simp only [Y];omega) (by rw [Int.natAbs_tdiv];exact Nat.div_le_self _ _)
  have m3:=y5 g (((nth l i).num*d).tdiv (nth l i).den) (by simp only [Y];omega) zq
  rw [←hs]at m3
  rw [YU]at m2
  generalize ((nth l i).num*d).tdiv (nth l i).den=nq at *
  generalize (nth l i).num*d=nd at *
  generalize sI:O9 d (l.take (i+1))=g2 at *
  generalize S7:nth l i=q at *
  refine kK ?_
  refine W.sr ?_
  simp (disch:=omega) [gw,S7]
  refine bM [0,2,4,6,7,36,37] ?_
  refine W.LV (fun K hK=>?_)
  simp (disch:=omega) [gw,eU,l8,S7]
  refine aC m1 ?_
  simp (disch:=omega) [gw,eU,l8,S7]
  refine aC m2 ?_
  simp (disch:=omega) [gw,eU,l8,S7]
  refine aC m3 ?_
  simp (disch:=omega) [gw,eU,l8,S7]
  refine cU (by kernel_rfl) ?_
  simp (disch:=omega) [gw]
  refine W.lw [0,2,4,6,36,37] hK ?_;clear hK K;simp
  refine W.cG (fun K hK=>?_);simp (disch:=omega) [gw]
  refine hK _ ⟨l.length-(i+1),_,aD _ [0,2,4,6,36,37],by omega,i+1,v6,g2,_,_,rfl,by simp [dY],by simp [eU],by simp,by omega,by omega,sI.symm⟩
 have hi:i=l.length:=by simp at h;omega
 subst hi
 rw [List.take_length]at hgv
 have hgl:=hg l.length
 rw [List.take_length]at hgl
 rw [←hgv]at hgl hqc
 have hMk:=kV g d (by simp only [Y];omega) (by simp only [Y];omega)
 have hNg:=YB (cY g d)
 have hQ:=IA 1 (MN l) ⟨by show sz 2 1≤YY;exact Nat.le_trans (dN (k:=1) (by decide) (by decide)) (by decide),by show sz 2 1≤YY;exact Nat.le_trans (dN (k:=1) (by decide) (by decide)) (by decide)⟩ hc uI
 have hOf:=nN 1 1 (by decide) (by decide)
 rw [kF,show(((1:Int)):Rat)=1 by simp]at hOf
 have hSc:=rO l (1/MN l) ⟨fun q hq=>⟨Nat.le_trans (hl q hq).n hk,Nat.le_trans (hl q hq).d hk⟩,KP⟩ wG
 rw [show jB l (1/MN l)=qpr l from rfl]at hSc
 have e1:((l.length:Int)-1).toNat=l.length-1:=by omega
 generalize qpr l=pr at *
 generalize iZ:(1:Rat)=one at *
 generalize one/MN l=ic at *
 generalize MN l=cc at *
 generalize hqm:cY g d=c0 at *
 generalize S7:nth l (l.length-1)=q at *
 refine fC ?_
 refine W.sr ?_
 simp (disch:=omega) [gw,eU,l8]
 refine cV [0,2,8] hMk ?_
 refine W.iF (fun σ=>∃(v8:Nat) (rows:Pm.Rows) (clk:Nat),σ=⟨fa [(0,PP l),(2, .ptr 2 0 0 0),(8, .ptr 8 v8 0 0)],rows,clk⟩∧rows 2=some ⟨0,31,4,[[.nil, .bool false, .nil, .bool false]]⟩∧rows 8=some ⟨v8,31,4,[re cc]⟩) ?_ ?_
 ·refine W.sr ?_
  simp (disch:=omega) [gw,e1,S7]
  refine bM [0,2,8,66] ?_
  refine W.W3 (q.num<0) rfl (fun h=>?_) (fun h=>?_)
  ·rw [if_pos h]at hqc
   rw [←hqc]at hNg
   refine W.cG (fun K hK=>?_)
   simp (disch:=omega) [gw]
   refine cX hNg ?_
   exact hK _ ⟨_,aD _ [0,2,8],_,_,_,rfl,by simp [dY],by simp⟩
  ·rw [if_neg h]at hqc
   refine W.skip ?_
   exact⟨_,aD _ [0,2,8],_,_,_,rfl,by simp [dY],by simp [hqc]⟩
 clear dY eU l8 rows clk
 rintro _ ⟨v8,rows,clk,rfl,dY,wO⟩
 refine W.sd ?_
 simp (disch:=omega) [gw,wO]
 refine aC hOf ?_
 simp (disch:=omega) [gw,wO]
 refine aC hQ ?_
 simp (disch:=omega) [gw,wO]
 refine aC hSc ?_
 simp (disch:=omega) [gw,dY,wO]
 refine bM [2,3] ?_
 exact cR
theorem acW(x:List Int)(hx:∀c∈x,Z c)(hl:x.length<1099511627776):aL env.P 100 [PI x] (Po x):=by
 refine cH [(0,PI x)] Tryz.func100 ?_
 refine aA [0] ?_
 refine aA [0,3] ?_
 refine W.nil 3 3 38 2 (by simp) (by decide) (fun K hK=>?_)
 refine W.lw [0,3] hK ?_;clear hK K;simp
 refine aR [0,3,6,7] ?_
 refine W.block ?_
 refine W.bC (fun k σ=>∃(i ver:Nat) (rows:Pm.Rows) (clk:Nat),σ=⟨fa [(0,PI x),(3, .own 3 ver 0 i),(6, .int .i64 x.length),(7, .int .i64 i)],rows,clk⟩∧rows 3=some ⟨ver,38,2,emap ie (x.take i)⟩∧k=x.length-i∧i≤x.length) x.length ?_ ?_
 ·exact⟨_, .refl,0,_,_,_,rfl,by simp [emap],by omega,by omega⟩
 rintro k _ ⟨i,ver,rows,clk,rfl,hr,hk,hi⟩
 refine cL [0,3,6,7,8] ?_
 refine W.cond ⟨_,rfl,fun h0=>?_,fun h0=>?_⟩
 ·have h0:i<x.length:=by simp at h0;omega
  have eY:(x.take i).length=i:=by simp;omega
  have hT:=tA (nth x i) (hx _ (bR h0))
  refine kK ?_
  refine aA [0,3,4,6,7] ?_
  refine W.cG (fun K hK=>?_)
  simp (disch:=omega) [gw]
  refine aC hT ?_
  simp (disch:=omega) [gw,hr,eY]
  refine W.lw [0,3,6,7] hK ?_;clear hK K;simp
  refine W.cG (fun K hK=>?_);simp (disch:=omega) [gw]
  refine hK _ ⟨x.length-(i+1),_,aD _ [0,3,6,7],by omega,i+1,_,_,_,rfl,?_,by omega,by omega⟩
  rw [bA h0]
  simp
 ·have kD:i=x.length:=by simp at h0;omega
  subst kD
  rw [List.take_length]at hr
  refine fC ?_
  refine W.sr ?_
  simp (disch:=omega) [gw,hr]
  refine bM [2] ?_
  refine W.ret ?_
  simp [go,hr]
theorem EP(x:List Int):FZ (qs x)=1:=by
 have key:∀l:List Int,(qs l).foldl (fun (d:Int) q=>(d*q.den).tdiv (Int.gcd d q.den)) 1=1:=by
  intro l
  induction l with
  | nil=>rfl
  | cons a l ih =>
   simp only [qs,List.map_cons,List.foldl_cons,Rat.den_intCast]at ih ⊢
   exact ih
 exact key x
theorem YV(x:List Int):O9 1 (qs x)=bH x:=by
 have key:∀(l:List Int) (g:Nat),(qs l).foldl (fun (g:Int) q=>(Int.gcd g ((q.num*1).tdiv q.den):Int)) g=(l.foldl (fun g c=>Nat.gcd g c.natAbs) g:Nat):=by
  intro l
  induction l with
  | nil=>intro g;rfl
  | cons a l ih =>
   intro g
   have:=ih (Nat.gcd g a.natAbs)
   simp only [qs,List.map_cons,List.foldl_cons,Rat.den_intCast,Rat.num_intCast]at this ⊢
   rw [←this]
   congr 1
   simp [Int.gcd]
 exact key x 0
theorem ER(x:List Int)(i:Nat):(qs x).take i=qs (x.take i):=by simp [qs,List.map_take]
theorem zA{x:List Int}(hx:0<x.length):MN (qs x)=(jQ x:Rat):=by
 have e:(nth (qs x) ((qs x).length-1)).num=lead x:=by rw [YE];simp [lead]
 unfold MN jQ
 rw [EP,YV,kF,e]
 split
 ·rw [Rat.intCast_neg]
 ·rfl
theorem aiD{x:List Int}(cx:Cn x)(hx:x ≠ []):qpr (qs x)=qs (o7 x):=by
 have nZ:=List.length_pos_iff.2 hx
 have h0:=lL x
 have gx:=bX cx hx
 have hp:jQ x≠0:=by omega
 have hc:=fF hp
 rw [qpr,zA nZ,jB,o7,←tC]
 congr 1
 simp only [qs,List.map_map]
 refine List.map_congr_left fun v hv=>?_
 simp only [Function.comp_apply]
 have hd:=EK x v hv
 obtain⟨w,rfl⟩:=hd
 have:n8 (jQ x) (jQ x*w)=w:=by
  unfold n8
  rw [if_pos (Int.mul_emod_right _ _)]
  exact Int.mul_ediv_cancel_left _ hp
 rw [this,Rat.intCast_mul]
 grind
theorem kG{x:List Int}{s:Nat}(hs:∀c∈x,sz 2 c≤s):sz 2 (bH x:Int)≤s:=by
 by_cases h:∃c∈x,c≠0
 ·obtain⟨c,hc,h0⟩:=h
  refine Nat.le_trans (cS (by decide) ?_) (hs c hc)
  have:=Int.le_of_dvd (a:=(bH x:Int)) (b:=(c.natAbs:Int)) (by omega) (Int.dvd_natAbs.2 (gD x _ hc))
  omega
 ·have h1:bH x=0:=by
   have h2:(0:Nat)∣bH x:=y8 fun c hc=>by
    have:c=0:=Classical.byContradiction fun h3=>h ⟨c,hc,h3⟩
    rw [this];exact Int.dvd_refl _
   exact Nat.eq_zero_of_zero_dvd h2
  rw [h1];show sz 2 0≤s;rw [i7];omega
theorem zB(x:List Int){s n:Nat}(hx:Bd 2 s n x)(cx:Cn x)(tX:1≤s)(hs:s≤YY)(hn:n<1099511627776):aL env.P 155 [PI x] (.dX [.ag (ri (jQ x)),PI (o7 x)]):=by
 have hlx:=hx.len
 by_cases h0:x = []
 ·subst h0
  have hz:=pU
  rw [show jQ ([]:List Int)=0 by decide,show o7 ([]:List Int) = []from rfl]
  refine cH [(0,PI [])] Tryz.func155 ?_
  refine aA [0,2] ?_
  refine aR [0,2,11] ?_
  refine bP ?_ ?_<;>intro h
  ·refine a7 [2,3] hz ?_
   refine W.ret ?_
   simp [go]
   all_goals rfl
  ·simp at h
 ·have nZ:=List.length_pos_iff.2 h0
  have hp:=lL x
  have gx:=bX cx h0
  have hp0:jQ x≠0:=by omega
  have hgs:∀i,sz 2 (bH (x.take i):Int)≤s:=fun i=>kG fun c hc=>hx.sz c (List.mem_of_mem_take hc)
  have vO:sz 2 (jQ x)≤s:=by
   have:=kG hx.sz
   unfold jQ;split
   ·rw [nD];exact this
   ·exact this
  have s1:sz 2 1≤1:=dN (by decide) (by decide)
  have zc:ZR YY (jQ x:Rat):=o0 (Nat.le_trans vO hs) (by decide)
  have e1:(1:Rat)/(jQ x:Rat)=cY 1 (jQ x):=by rw [eD hp0];simp
  have:=o8 (qs x) hs tX (fun q hq=>by
   simp only [qs,List.mem_map]at hq
   obtain⟨c,hc,rfl⟩:=hq
   exact o0 (hx.sz c hc) tX) (by simp;omega) (by simpa [qs]using h0)
   (fun i=>by rw [ER,EP];omega) (fun i=>by rw [ER,EP];decide) (fun i=>by rw [EP,ER,YV];exact hgs i)
   (by rw [zA nZ];exact zc) (by rw [zA nZ];exact fF hp0) (by rw [zA nZ,e1];exact rP hp0 (by show sz 2 1≤137438953472;omega) (Nat.le_trans vO hs))
  rw [zA nZ,aiD cx h0,qW,qW,RR,jA]at this
  exact this
theorem S8{D a b:Nat}(hD:0<D)(ha:a∣D)(hb:b∣D):Nat.lcm (D/a) (D/b)=D/Nat.gcd a b:=by
 have ha0:0<a:=Nat.pos_of_dvd_of_pos ha hD
 have hb0:0<b:=Nat.pos_of_dvd_of_pos hb hD
 have hg:0<Nat.gcd a b:=Nat.gcd_pos_of_pos_left _ ha0
 obtain⟨a',b',hc,ea,eb⟩:=Nat.exists_coprime a b
 generalize Nat.gcd a b=g at *
 obtain⟨p,hp⟩:=ha
 obtain⟨q,hq⟩:=hb
 have h1:a'*p=b'*q:=by
  have:g*(a'*p)=g*(b'*q):=by rw [ea]at hp;rw [eb]at hq;grind
  exact Nat.eq_of_mul_eq_mul_left hg this
 have h2:a'∣q:=hc.dvd_of_dvd_mul_left (by rw [←h1];exact Nat.dvd_mul_right _ _)
 obtain⟨m,rfl⟩:=h2
 have atO:0<a':=by
  rcases Nat.eq_zero_or_pos a' with h | h
  ·rw [h]at ea;omega
  ·exact h
 have h3:p=b'*m:=by
  have:a'*p=a'*(b'*m):=by rw [h1];grind
  exact Nat.eq_of_mul_eq_mul_left atO this
 subst h3
 have e1:D/a=b'*m:=by rw [hp];exact Nat.mul_div_cancel_left _ ha0
 have e2:D/b=a'*m:=by rw [hq];exact Nat.mul_div_cancel_left _ hb0
 have e3:D/g=a'*b'*m:=by
  rw [hp,ea,show a'*g*(b'*m)=g*(a'*b'*m)by grind]
  exact Nat.mul_div_cancel_left _ hg
 rw [e1,e2,e3,Nat.lcm_mul_right,Nat.lcm_comm,Nat.lcm,show a'.gcd b'=1 from hc,Nat.div_one]
theorem YW(n:Nat)(q:Rat):((n:Int)*q.den).tdiv (Int.gcd n q.den)=(Nat.lcm n q.den:Nat):=by
 have:Int.gcd (n:Int) (q.den:Int)=Nat.gcd n q.den:=rfl
 rw [this,←Int.natCast_mul,←Int.ofNat_tdiv]
 rfl
theorem vR{v:Int}{D:Nat}(hD:0<D):(cY v D).den=D/Nat.gcd D v.natAbs:=by
 have h:=nM v D (by omega)
 have h2:¬(D:Int)<0:=by omega
 simp only [h2,if_false]at h
 have:Int.gcd v (D:Int)=Nat.gcd D v.natAbs:=by rw [Int.gcd,Nat.gcd_comm];rfl
 rw [this]at h
 exact_mod_cast h
theorem vS{v:Int}{D:Nat}(hD:0<D):(cY v D).num=v/(Nat.gcd D v.natAbs:Nat):=by
 have h:=nK v D (by omega)
 have h2:¬(D:Int)<0:=by omega
 simp only [h2,if_false]at h
 have:Int.gcd v (D:Int)=Nat.gcd D v.natAbs:=by rw [Int.gcd,Nat.gcd_comm];rfl
 rw [this]at h
 exact h
def UG(D:Nat)(x:List Int):Nat:=Nat.gcd D (bH x)
theorem ES{D:Nat}(hD:0<D)(x:List Int):FZ (qd x D)=(D/UG D x:Nat):=by
 have key:∀(l:List Int) (g:Nat),g∣D→(qd l D).foldl (fun (d:Int) q=>(d*q.den).tdiv (Int.gcd d q.den)) (D/g:Nat)=(D/(l.foldl (fun g c=>Nat.gcd g c.natAbs) g):Nat):=by
  intro l
  induction l with
  | nil=>intro g _;rfl
  | cons a l ih =>
   intro g hg
   have h1:=ih (Nat.gcd g a.natAbs) (Nat.dvd_trans (Nat.gcd_dvd_left _ _) hg)
   simp only [qd,List.map_cons,List.foldl_cons]at h1 ⊢
   rw [YW,vR hD,S8 hD hg (Nat.gcd_dvd_left _ _)]
   rw [show Nat.gcd g (Nat.gcd D a.natAbs)=Nat.gcd g a.natAbs by rw [←Nat.gcd_assoc,Nat.gcd_eq_left hg]]
   exact h1
 have h2:∀(l:List Int) (g:Nat),l.foldl (fun g c=>Nat.gcd g c.natAbs) g=Nat.gcd g (bH l):=by
  intro l
  unfold bH
  induction l with
  | nil=>intro g;simp
  | cons a l ih =>
   intro g
   simp only [List.foldl_cons]
   rw [ih,ih (Nat.gcd 0 a.natAbs),Nat.gcd_zero_left,Nat.gcd_assoc]
 have h3:=key x D (Nat.dvd_refl _)
 rw [Nat.div_self hD,h2]at h3
 exact h3
theorem YX{D:Nat}(hD:0<D)(x:List Int){G:Nat}(hG:G∣D)(hx:∀c∈x,(G:Int)∣c):O9 (D/G:Nat) (qd x D)=(bH x/G:Nat):=by
 have hG0:0<G:=Nat.pos_of_dvd_of_pos hG hD
 have key:∀(l:List Int) (g:Nat),(∀c∈l,(G:Int)∣c)→G∣g→(qd l D).foldl (fun (g:Int) q=>(Int.gcd g ((q.num*((D/G:Nat):Int)).tdiv q.den):Int)) (g/G:Nat)=((l.foldl (fun g c=>Nat.gcd g c.natAbs) g)/G:Nat):=by
  intro l
  induction l with
  | nil=>intro g _ _;rfl
  | cons a l ih =>
   intro g hl hg
   have ha:G∣a.natAbs:=Int.ofNat_dvd_left.1 (hl a (by simp))
   have h1:=ih (Nat.gcd g a.natAbs) (fun c hc=>hl c (by simp [hc])) (Nat.dvd_gcd hg ha)
   simp only [qd,List.map_cons,List.foldl_cons]at h1 ⊢
   have e:((cY a D).num*((D/G:Nat):Int)).tdiv (cY a D).den=a/(G:Int):=by
    rw [vS hD,vR hD]
    have hd1:Nat.gcd D a.natAbs∣D:=Nat.gcd_dvd_left _ _
    have Q8:Nat.gcd D a.natAbs∣a.natAbs:=Nat.gcd_dvd_right _ _
    have hgp:0<Nat.gcd D a.natAbs:=Nat.gcd_pos_of_pos_left _ hD
    generalize Nat.gcd D a.natAbs=k at *
    obtain⟨m,hm⟩:=hd1
    obtain⟨n,hn⟩:(k:Int)∣a:=Int.ofNat_dvd_left.2 Q8
    obtain⟨p,hp⟩:=hG
    obtain⟨r,hr⟩:=hl a (by simp)
    have JY:0<m:=by
     rcases Nat.eq_zero_or_pos m with h | h
     ·rw [h]at hm;omega
     ·exact h
    rw [show a/(k:Int)=n by rw [hn];exact Int.mul_ediv_cancel_left _ (by omega),show D/G=p by rw [hp];exact Nat.mul_div_cancel_left _ hG0,show D/k=m by rw [hm];exact Nat.mul_div_cancel_left _ hgp,
     show a/(G:Int)=r by rw [hr];exact Int.mul_ediv_cancel_left _ (by omega)]
    have e2:n*(p:Int)=m*r:=by
     have hDI:(k:Int)*m=G*p:=by exact_mod_cast hm.symm.trans hp
     have hk:(k:Int)*n=G*r:=hn.symm.trans hr
     have sL:(k:Int)≠0:=by omega
     have hG1:(G:Int)≠0:=by omega
     have:(k:Int)*G*(n*p)=k*G*(m*r):=by
      have e3:(k:Int)*G*(n*p)=(k*n)*(G*p):=by grind
      rw [e3,hk,←hDI];grind
     exact Int.eq_of_mul_eq_mul_left (Int.mul_ne_zero sL hG1) this
    rw [e2]
    exact Int.mul_tdiv_cancel_left _ (by omega)
   rw [e,show Int.gcd ((g/G:Nat):Int) (a/(G:Int))=Nat.gcd g a.natAbs/G from ?_]
   ·exact h1
   ·rw [Int.gcd,Int.natAbs_natCast,←Nat.gcd_div hg ha]
    congr 1
    obtain⟨r,hr⟩:=hl a (by simp)
    rw [hr,Int.mul_ediv_cancel_left _ (show (G:Int)≠0 by omega),Int.natAbs_mul,Int.natAbs_natCast,Nat.mul_div_cancel_left _ hG0]
 have:=key x 0 hx (Nat.dvd_zero _)
 rw [Nat.zero_div]at this
 exact this
theorem tH(D:Nat)(x:List Int):UG D x∣D:=Nat.gcd_dvd_left _ _
theorem PA{D:Nat}(hD:0<D)(x:List Int):0<UG D x:=Nat.gcd_pos_of_pos_left _ hD
theorem PC(D:Nat)(x:List Int):∀c∈x,((UG D x:Nat):Int)∣c:=fun c hc=>Int.dvd_trans (Int.ofNat_dvd.2 (Nat.gcd_dvd_right _ _)) (gD x c hc)
theorem vT{v:Int}{D:Nat}(hD:0<D):(cY v D).num<0↔v<0:=by
 rw [vS hD]
 have hg:0<Nat.gcd D v.natAbs:=Nat.gcd_pos_of_pos_left _ hD
 obtain⟨n,hn⟩:((Nat.gcd D v.natAbs:Nat):Int)∣v:=Int.ofNat_dvd_left.2 (Nat.gcd_dvd_right _ _)
 generalize Nat.gcd D v.natAbs=g at *
 rw [hn,Int.mul_ediv_cancel_left _ (show (g:Int)≠0 by omega)]
 constructor
 ·intro h;exact Int.mul_neg_of_pos_of_neg (by omega) h
 ·intro h
  rcases Int.lt_or_le n 0 with h1 | h1
  ·exact h1
  ·have:=Int.mul_nonneg (show (0:Int)≤g by omega) h1
   omega
theorem YZ{D:Nat}(hD:0<D){x:List Int}(hx:0<x.length):MN (qd x D)=cY (jQ x) D:=by
 have CN:(D:Int)≠0:=by omega
 have e:(nth (qd x D) ((qd x D).length-1)).num<0↔lead x<0:=by
  rw [EM CN,vT hD];simp [lead]
 have hG:=PA hD x
 have e2:cY (O9 (FZ (qd x D)) (qd x D)) (FZ (qd x D))=cY (bH x) D:=by
  rw [ES hD,YX hD x (tH D x) (PC D x)]
  have h1:D/UG D x*UG D x=D:=Nat.div_mul_cancel (tH D x)
  have h2:bH x/UG D x*UG D x=bH x:=Nat.div_mul_cancel (Nat.gcd_dvd_right _ _)
  have h3:0<D/UG D x:=Nat.div_pos (Nat.le_of_dvd hD (tH D x)) hG
  have h4:=O7 (v:=(bH x/UG D x:Nat)) (D:=(D/UG D x:Nat)) (l:=(UG D x:Nat)) (by omega) (by omega)
  rw [←Int.natCast_mul,←Int.natCast_mul,h1,h2]at h4
  exact h4.symm
 unfold MN jQ
 rw [e2]
 by_cases h:lead x<0
 ·rw [if_pos (e.2 h),if_pos h,←O8 CN];grind
 ·rw [if_neg (fun h2=>h (e.1 h2)),if_neg h]
theorem PE{v D:Int}(hD:D≠0)(hv:v≠0):1/cY v D=cY D v:=by
 rw [eD hD,eD hv]
 have h1:=fF hD
 have h2:=fF hv
 grind
theorem MO{x:List Int}(cx:Cn x)(hx:x ≠ []):jQ x≠0:=by
 have h0:=lL x
 have gx:=bX cx hx
 omega
theorem aiF{D:Nat}(hD:0<D){x:List Int}(cx:Cn x)(hx:x ≠ []):qpr (qd x D)=qs (o7 x):=by
 have nZ:=List.length_pos_iff.2 hx
 have CN:(D:Int)≠0:=by omega
 have hp:=MO cx hx
 have hc:=fF hp
 have hDc:=fF CN
 rw [qpr,YZ hD nZ,PE CN hp,jB,o7,←tC]
 congr 1
 simp only [qd,qs,List.map_map]
 refine List.map_congr_left fun v hv=>?_
 simp only [Function.comp_apply]
 obtain⟨w,rfl⟩:=EK x v hv
 have:n8 (jQ x) (jQ x*w)=w:=by
  unfold n8
  rw [if_pos (Int.mul_emod_right _ _)]
  exact Int.mul_ediv_cancel_left _ hp
 rw [this,eD CN,eD hp,Rat.intCast_mul]
 grind
theorem IM(x:List Int):iX x=if lead x<0 then fK (o7 x)else o7 x:=by
 unfold o7 jQ
 split
 ·have e:∀v,n8 (-(bH x:Int)) v = - n8 (bH x) v:=fun v=>by
   unfold n8
   rw [Int.emod_neg,Int.ediv_neg]
   split<;>simp
  refine Cn.ext (Cn.cut _) (Cn.fK _) fun t=>?_
  rw [yK,cE,iX,cE]
  have h1:=fO (t:=t) (-1) (n8 (bH x)) x
  have h2:(x.map fun v=>n8 (bH x) v * -1)=x.map (n8 (-(bH x:Int))):=List.map_congr_left fun v _=>by rw [e];omega
  rw [h2]at h1
  rw [h1];omega
 ·rfl
theorem MP(x:List Int)(D:Nat)(hD:0<D){s n:Nat}(hx:Bd 2 s n x)(sD:sz 2 D≤s)(cx:Cn x)(h0:x ≠ [])(tX:1≤s)(hs:s≤YY)(hn:n<1099511627776) :
  aL env.P 155 [PP (qd x D)] (.dX [RR (cY (jQ x) D),PI (o7 x)]):=by
 have CN:(D:Int)≠0:=by omega
 have nZ:=List.length_pos_iff.2 h0
 have hp:=MO cx h0
 have hlen:=hx.len
 have sdiv:∀(a b:Nat),sz 2 (a:Int)≤s→sz 2 ((a/b:Nat):Int)≤s:=fun a b h=>Nat.le_trans (cS (by decide) (by rw [Int.natAbs_natCast,Int.natAbs_natCast];exact Nat.div_le_self a b)) h
 have spc:sz 2 (jQ x)≤s:=by
  have:=kG hx.sz
  refine Nat.le_trans (cS (by decide) (Nat.le_of_eq ?_)) this
  rw [lL];rfl
 have tk:∀i,(qd x D).take i=qd (x.take i) D:=fun i=>by simp [qd,List.map_take]
 have hc:=YZ hD nZ
 have h1:=o8 (qd x D) (k:=s) hs tX (fun q hq=>by
   simp only [List.mem_map]at hq
   obtain⟨v,hv,rfl⟩:=hq
   exact rP CN (hx.sz v hv) sD) (by simp;omega) (by simpa using h0)
  (fun i=>by rw [tk,ES hD];exact sdiv _ _ sD)
  (fun i=>by
   rw [tk,ES hD]
   have:=Nat.div_pos (Nat.le_of_dvd hD (tH D (x.take i))) (PA hD _)
   omega)
  (fun i=>by
   rw [tk,ES hD,YX hD (x.take i) (tH D x) (fun c hc=>PC D x c (List.mem_of_mem_take hc))]
   exact sdiv _ _ (kG fun c hc=>hx.sz c (List.mem_of_mem_take hc)))
  (by rw [hc];exact rP CN (Nat.le_trans spc hs) (Nat.le_trans sD hs))
  (by rw [hc];exact fun h=>hp ((vQ CN).1 h))
  (by rw [hc,PE CN hp];exact rP hp (Nat.le_trans sD hs) (Nat.le_trans spc hs))
 rw [hc,aiF hD cx h0,qW]at h1
 exact h1
theorem Y1{x:List Int}{s n:Nat}(hx:Bd 2 s n x):Bd 2 s n (o7 x):=Bd.cut ⟨by simpa using hx.len,fun c hc=>by
 simp only [List.mem_map]at hc
 obtain⟨v,hv,rfl⟩:=hc
 refine Nat.le_trans (cS (by decide) ?_) (hx.sz v hv)
 unfold n8
 split
 ·exact Int.natAbs_ediv_le_natAbs _ _
 ·simp⟩
theorem IP(x:List Int)(D:Nat)(hD:0<D){s n:Nat}(hx:Bd 2 s n x)(sD:sz 2 D≤s)(cx:Cn x)(tX:1≤s)(hs:s≤YY)(hn:n<1099511627776) :
  aL env.P 159 [PP (qd x D)] (PI (iX x)):=by
 have CN:(D:Int)≠0:=by omega
 have bp:=Y1 hx
 have hN:=CK (o7 x) (bp.mono hs (by omega))
 rw [IM]
 have hP:∃q:Rat,aL env.P 155 [PP (qd x D)] (.dX [RR q,PI (o7 x)])∧(q.num<0↔lead x<0):=by
  by_cases h0:x = []
  ·subst h0
   refine⟨(jQ []:Int),?_,?_⟩
   ·have:=zB [] hx cx tX hs hn
    rw [RR,jA]
    exact this
   ·rw [show jQ ([]:List Int)=0 by decide];decide
  ·refine⟨_,MP x D hD hx sD cx h0 tX hs hn,?_⟩
   rw [vT hD]
   have gx:=bX cx h0
   unfold jQ
   split<;>omega
 obtain⟨q,hP,hq⟩:=hP
 generalize o7 x=y at *
 generalize qd x D=l at *
 refine cH [(0,PP l)] Tryz.func159 ?_
 refine aA [0] ?_
 refine a7 [3,4] hP ?_
 refine aR [4,12] ?_
 refine bP ?_ ?_<;>intro h
 ·simp at h
  rw [if_pos (hq.1 h)]
  refine a7 [2] hN ?_
  exact cR
 ·have h:¬q.num<0:=by simpa using h
  rw [if_neg (fun h2=>h (hq.2 h2))]
  refine W.skip ?_
  refine aA [2] ?_
  exact cR
theorem IQ(x y:List Int){s s' N:Nat}(hx:Bd 2 s N x)(hy:Bd 2 s' N y)(cx:Cn x)(cy:Cn y)(L5:0<y.length)(hs:1≤s)(hB:s+(N+1)*(s'+N+2)+s'+N+N+10<137438953472) :
  aL env.P 256 [PP (qs x),PP (qs y)] (.dX [PP (qd (aM (YQ x y).Q) (YQ x y).D),PP (qd (YQ x y).r (YQ x y).D)]):=by
 have hNx:=hx.len
 have hNy:=hy.len
 have hl:=cM cy L5
 have hls:=fE hy
 have hM:x.length+1≤N+1:=by omega
 refine cD (E:=env) (fun id=>if id=17 then 2 else 0) [(0,PP (qs x)),(1,PP (qs y))] Tryz.func256 rfl (by kernel_rfl) (by kernel_rfl) (show 2≤84 by decide) (by simp) ?_
 obtain⟨R0,GN⟩:∃R0,R0=S6 y (x.length+1) ⟨List.replicate (iH x y) 0,x,1⟩:=⟨_,rfl⟩
 rw [show YQ x y=R0 from GN.symm]
 have hkN:iH x y≤N:=by unfold iH;omega
 have hkk:(if (x.length:Int)-(y.length:Int)+1<0 then 0 else(x.length:Int)-(y.length:Int)+1)=(iH x y:Int):=by unfold iH;split<;>omega
 have hI0:rQ x y ⟨List.replicate (iH x y) 0,x,1⟩:=rQ.start cx
 generalize sL:iH x y=k0 at *
 obtain⟨a0,ha0⟩:∃a0,a0=qs x:=⟨_,rfl⟩
 obtain⟨yq,hyq⟩:∃yq,yq=qs y:=⟨_,rfl⟩
 have la0:a0.length=x.length:=by rw [ha0];simp
 have lyq:yq.length=y.length:=by rw [hyq];simp
 rw [←ha0,←hyq]
 refine aA [0,1] ?_
 refine W.sr ?_
 simp (disch:=omega) [gw,la0,lyq,hkk]
 refine bM [0,1,6] ?_
 refine aR [0,1,6,21,22] ?_
 refine W.block ?_
 refine W.bC (fun k σ=>∃(i ver:Nat) (els:List (List PV)) (rows:Pm.Rows) (clk:Nat),σ=⟨fa [(0,PP a0),(1,PP yq),(6, .own 19 ver 0 k0),(21, .int .i64 k0),(22, .int .i64 i)],rows,clk⟩ ∧
  rows 19=some ⟨ver,31,4,els⟩∧els.length=k0∧(∀e∈els,e.length=4)∧els.take i=emap ri (List.replicate i 0)∧k=k0-i∧i≤k0) k0 ?_ ?_
 ·exact⟨_, .refl,0,_,List.replicate k0 [.nil, .bool false, .nil, .bool false],_,_,rfl,by simp,by simp,by simp,by simp [emap],by omega,by omega⟩
 rintro k _ ⟨i,ver,els,rows,clk,rfl,hr,mW,IE,y7,hk,hi⟩
 have L3:bB 4 els=True:=by simp only [bB,eq_iff_iff,iff_true];exact IE
 refine cL [0,1,6,21,22,23] ?_
 refine bP ?_ ?_<;>intro h
 ·have h:i<k0:=by simp at h;omega
  refine kK ?_
  refine aA [0,1,6,7,21,22] ?_
  refine W.cG (fun K hK=>?_)
  simp (disch:=omega) [gw]
  refine aC pU ?_
  have sC:i<els.length:=by omega
  have hE:sP els i 4=True:=by
   simp only [eq_iff_iff,iff_true]
   exact⟨els[i],List.getElem?_eq_getElem sC,by rw [IE _ (List.getElem_mem sC)];omega⟩
  have hS:iN els i 0 [aQ aG (aY DD 0), .bool false,aQ aG (aY DD 1), .bool false]=els.set i (ri 0):=by
   have h4:=IE _ (List.getElem_mem sC)
   rw [iN,List.getElem?_eq_getElem sC]
   simp [List.drop_of_length_le,h4]
  simp (disch:=omega) [gw,hr,hE,hS]
  refine W.lw [0,1,6,21,22] hK ?_;clear hK K;simp
  refine W.cG (fun K hK=>?_);simp (disch:=omega) [gw]
  refine hK _ ⟨k0-(i+1),_,aD _ [0,1,6,21,22],by omega,i+1,ver,els.set i (ri 0),_,_,rfl,by simp,by simpa using mW,fun e he=>?_,?_,by omega,by omega⟩
  ·rcases List.mem_or_eq_of_mem_set he with h1 | h1
   ·exact IE e h1
   ·rw [h1];rfl
  ·rw [kR y7 (by omega),List.replicate_succ']
   simp [emap]
 have h:i=k0:=by simp at h;omega
 subst h
 have rB:els=emap re (qd (List.replicate i 0) 1):=by rw [EN,y9,←y7,bG mW]
 subst rB
 rw [show a0=qd x 1 by rw [ha0,EN]]
 clear y7 IE mW L3 hk hi hkk ha0 la0 a0
 refine fC ?_
 refine W.seq ?_
 refine W.block ?_
 generalize hdd:s'+N+2=d at *
 have YF:∀j,(x.length+1-j)*d≤(N+1)*d:=fun j=>Nat.mul_le_mul_right _ (by omega)
 refine W.bC (fun n σ=>∃(Q r:List Int) (D:Int) (v6:Nat) (rows:Pm.Rows) (clk:Nat),σ=⟨fa [(0,PP (qd r D)),(1,PP yq),(6, .own 19 v6 0 i)],rows,clk⟩ ∧
  rows 19=some ⟨v6,31,4,emap re (qd Q D)⟩∧Q.length=i∧rQ x y ⟨Q,r,D⟩∧r.length<n∧n≤x.length+1∧S6 y n ⟨Q,r,D⟩=R0∧Bd 2 (s+(x.length+1-n)*d) N r∧sz 2 D≤s+(x.length+1-n)*d) (x.length+1) ?_ ?_
 ·exact⟨_,aD _ [0,1,6],_,x,1,_,_,_,rfl,hr,by simp,hI0,by omega,by omega,GN.symm,hx.mono (by omega) (by omega),Nat.le_trans (dN (k:=1) (by decide) (by decide)) (by omega)⟩
 clear hr rows clk ver
 rintro n _ ⟨Q,r,D,v6,rows,clk,rfl,hr,hQ,hI,hrn,hnM,hd,br,bD⟩
 have hD:D≠0:=hI.d
 have hnn:=YF n
 obtain⟨a,ha⟩:∃a,a=qd r D:=⟨_,rfl⟩
 have la:a.length=r.length:=by rw [ha];simp
 rw [←ha]
 refine W.seq ?_
 refine W.sr ?_
 simp (disch:=omega) [gw,la,lyq]
 refine bM [0,1,6,34] ?_
 refine bP ?_ ?_<;>intro h
 ·have h:y.length≤r.length:=by simp at h;omega
  obtain⟨n,rfl⟩:∃m,n=m+1:=⟨n-1,by omega⟩
  obtain⟨k,hk⟩:∃k,k=r.length-y.length:=⟨_,rfl⟩
  have hkI:(r.length:Int)-(y.length:Int)=k:=by omega
  have hki:k<i:=by have:=hI.q.resolve_right (show ¬r.length<y.length by omega);simp only at this;omega
  have hI2:=hI.step cy L5 h
  have hl2:=EO (σ:=⟨Q,r,D⟩) L5 h
  rw [S6,if_neg (show ¬r.length<y.length by omega)]at hd
  simp only [dst,←hk]at hI2 hl2 hd
  have hT:s+(x.length+1-n)*d=s+(x.length+1-(n+1))*d+d:=by
   rw [show x.length+1-n=(x.length+1-(n+1))+1 by omega,Nat.add_mul,Nat.one_mul];omega
  have hn3:=YF n
  generalize hU:s+(x.length+1-(n+1))*d=U at *
  have hlr:=fE br
  have hNr:=br.len
  have SE:D*lead y≠0:=Int.mul_ne_zero hD hl
  have zD2:sz 2 (D*lead y)≤U+s':=b5 (by decide) bD hls
  have hp:nth a (r.length-1)=cY (lead r) D:=by rw [ha,EM hD];rfl
  have J1:nth yq (y.length-1)=(lead y:Rat):=by rw [hyq,YE];rfl
  have aoW:=IA (cY (lead r) D) (lead y:Rat) (rP hD (Nat.le_trans hlr (by show U≤137438953472;omega)) (Nat.le_trans bD (by show U≤137438953472;omega))) (o0 (Nat.le_trans hls (by show s'≤137438953472;omega)) (by decide)) (fF hl)
  rw [acR hD hl]at aoW
  have hSc:=rO yq (cY (lead r) (D*lead y)) (by rw [hyq];exact SV.qs (fun c hc=>Nat.le_trans (hy.sz c hc) (by show s'≤137438953472;omega)) (by omega)) (rP SE (Nat.le_trans hlr (by show U≤137438953472;omega)) (Nat.le_trans zD2 (by show U+s'≤137438953472;omega)))
  rw [hyq,S5 SE,←hyq]at hSc
  have bsc:Bd 2 (U+s') N (aX y (lead r)):=(hy.aX (by decide) hlr).mono (by omega) (by omega)
  have bw:Bd 2 (U+s') N (List.replicate k 0++aX y (lead r)):=⟨by have:=nF y (lead r);simp;omega,fun c hc=>by
   rcases List.mem_append.1 hc with h1 | h1
   ·rw [(List.mem_replicate.1 h1).2,i7];omega
   ·exact bsc.sz c h1⟩
  have brl:Bd 2 (U+s') N (r.map (· * lead y)):=⟨by simpa using br.len,fun c hc=>by
   simp only [List.mem_map]at hc
   obtain⟨v,hv,rfl⟩:=hc
   exact b5 (by decide) (br.sz v hv) hls⟩
  have hSu:=YR (qd (r.map (· * lead y)) (D*lead y)) (qd (List.replicate k 0++aX y (lead r)) (D*lead y)) _
   (MM SE brl zD2 (by show U+s'≤137438953472;omega) (by omega)) (MM SE bw zD2 (by show U+s'≤137438953472;omega) (by omega)) (acT SE _) (MM SE bw.fK zD2 (by show U+s'≤137438953472;omega) (by omega))
  rw [acS SE,ML hD hl,←ha]at hSu
  have er:gB (r.map (· * lead y)) (fK (List.replicate k 0++aX y (lead r)))=tW y (lead y) (lead r) k r:=Cn.ext (Cn.gB _ _) (Cn.eE _ _) fun t=>by
   rw [oT,dE,yK,dK,nW,b8,tW,gO,b8,cQ,lI,List.length_replicate];grind
  have br2:Bd 2 (U+d) N (tW y (lead y) (lead r) k r):=by
   rw [←er]
   exact(Bd.gB (by decide) brl bw.fK).mono (by omega) (by omega)
  rw [er]at hSu
  have ew:qd (List.replicate k 0++aX y (lead r)) (D*lead y)=List.replicate k 0++qd (aX y (lead r)) (D*lead y):=by
   simp only [qd,List.map_append,List.map_replicate,tF SE]
  rw [ew]at hSu
  have lb:(qd (aX y (lead r)) (D*lead y)).length≤N:=by have:=bsc.len;simpa using this
  have YH:(qd Q D).set k (cY (lead r) (D*lead y))=qd ((Q.map (· * lead y)).set k (lead r)) (D*lead y):=by
   rw [←ML hD hl Q,qd,qd,List.map_set]
  have hQl:(qd Q D).length=i:=by simpa using hQ
  refine W.skip ?_
  refine W.block ?_
  generalize hz:qd Q D=z at *
  generalize qd (aX y (lead r)) (D*lead y)=b at *
  generalize UH:cY (lead r) (D*lead y)=c at *
  generalize hp2:cY (lead r) D=p at *
  generalize hlq:(lead y:Rat)=lq at *
  generalize ha2:qd (tW y (lead y) (lead r) k r) (D*lead y)=a2 at *
  refine W.sr ?_
  simp (disch:=omega) [gw,la,lyq,hkI]
  refine bM [0,1,6,8] ?_
  have aym:0<r.length:=by omega
  have e1:((r.length:Int)-1).toNat=r.length-1:=by omega
  have e2:((y.length:Int)-1).toNat=y.length-1:=by omega
  refine W.sd ?_
  simp (disch:=omega) [gw,la,lyq,e1,e2,hp,J1]
  refine cX aoW ?_
  rw [if_pos (by kernel_rfl)]
  simp (disch:=omega) [gw]
  refine bM [0,1,6,8,9] ?_
  have hkl:k<z.length:=by omega
  refine W.sr ?_
  simp (disch:=omega) [gw,hr,hkl]
  refine bM [0,1,6,8,9] ?_
  refine aA [0,1,6,8,9,10] ?_
  refine aR [0,1,6,8,9,10,60,61] ?_
  refine W.block ?_
  refine W.bC (fun m σ=>∃(j v9 v10 v6:Nat) (els:List (List PV)) (rows:Pm.Rows) (clk:Nat),σ=⟨fa [(0,PP a),(1,PP yq),(6, .own 19 v6 0 i),(9, .ptr 9 v9 0 0),(10, .own 58 v10 0 k),(60, .int .i64 k),(61, .int .i64 j)],rows,clk⟩ ∧
   rows 19=some ⟨v6,31,4,emap re (z.set k c)⟩∧rows 9=some ⟨v9,31,4,[[aQ aG (aY DD c.num.natAbs), .bool (decide (c.num<0)),aQ aG (aY DD c.den), .bool false]]⟩ ∧
   rows 58=some ⟨v10,31,4,els⟩∧els.length=k∧(∀e∈els,e.length=4)∧els.take j=emap ri (List.replicate j 0)∧m=k-j∧j≤k) k ?_ ?_
  ·exact⟨_,aD _ [0,1,6,9,10,60,61],0,_,_,_,List.replicate k [.nil, .bool false, .nil, .bool false],_,_,rfl,by simp [hr],by simp,by simp,by simp,by simp,by simp [emap],by omega,by omega⟩
  clear hr rows clk v6
  rintro m _ ⟨j,v9,v10,v6,els,rows,clk,rfl,hr,IU,IG,mW,IE,y7,hm,hj⟩
  have L3:bB 4 els=True:=by simp only [bB,eq_iff_iff,iff_true];exact IE
  refine cL [0,1,6,9,10,60,61,62] ?_
  refine bP ?_ ?_<;>intro h
  ·have h:j<k:=by simp at h;omega
   refine kK ?_
   refine aA [0,1,6,9,10,11,60,61] ?_
   refine W.cG (fun K hK=>?_)
   simp (disch:=omega) [gw]
   refine aC pU ?_
   have sC:j<els.length:=by omega
   have hE:sP els j 4=True:=by
    simp only [eq_iff_iff,iff_true]
    exact⟨els[j],List.getElem?_eq_getElem sC,by rw [IE _ (List.getElem_mem sC)];omega⟩
   have hS:iN els j 0 [aQ aG (aY DD 0), .bool false,aQ aG (aY DD 1), .bool false]=els.set j (ri 0):=by
    have h4:=IE _ (List.getElem_mem sC)
    rw [iN,List.getElem?_eq_getElem sC]
    simp [List.drop_of_length_le,h4]
   simp (disch:=omega) [gw,IG,hE,hS]
   refine W.lw [0,1,6,9,10,60,61] hK ?_;clear hK K;simp
   refine W.cG (fun K hK=>?_);simp (disch:=omega) [gw]
   refine hK _ ⟨k-(j+1),_,aD _ [0,1,6,9,10,60,61],by omega,j+1,v9,v10,v6,els.set j (ri 0),_,_,rfl,by simp [hr],by simp [IU],by simp,by simpa using mW,fun e he=>?_,?_,by omega,by omega⟩
   ·rcases List.mem_or_eq_of_mem_set he with h1 | h1
    ·exact IE e h1
    ·rw [h1];rfl
   ·rw [kR y7 (by omega),List.replicate_succ']
    simp [emap]
  have h:j=k:=by simp at h;omega
  subst h
  have rB:els=emap re (List.replicate j 0):=by
   have h1:emap ri (List.replicate j 0)=emap re (List.replicate j 0):=by simp [emap,jA]
   rw [←h1,←y7,bG mW]
  subst rB
  clear y7 IE mW L3
  refine fC ?_
  refine W.LV (fun K hK=>?_)
  rw [if_pos rfl,eH]
  have hsl:((List.take r.length a).drop 0)=a:=by rw [List.drop_zero,List.take_of_length_le (by omega)]
  simp (disch:=omega) [gw,la,lyq,IU,DU,hsl]
  refine aC hSc ?_
  have wT:List.take (j+b.length) (List.replicate j 0++b)=List.replicate j 0++b:=List.take_of_length_le (by simp)
  simp (disch:=omega) [gw,IG,wT]
  refine cX hSu ?_
  subst ha2
  have dY:rows 19=some ⟨v6,31,4,emap re (qd ((Q.map (· * lead y)).set j (lead r)) (D*lead y))⟩:=by rw [hr,YH]
  refine hK _ ⟨n,_,aD _ [0,1,6],by omega,(Q.map (· * lead y)).set j (lead r),tW y (lead y) (lead r) j r,D*lead y,v6,_,_,rfl,by simp [dY],by simpa using hQ,hI2,by omega,by omega,hd,?_,?_⟩
  ·rw [hT];exact br2
  ·rw [hT];exact Nat.le_trans zD2 (by omega)
 ·have h:r.length<y.length:=by simp at h;omega
  rw [acU h]at hd
  subst hd
  refine fC ?_
  have hcq:=tD (qd Q D) (by simp;omega)
  rw [tG hD]at hcq
  have hQl:(qd Q D).length=i:=by simpa using hQ
  have rL:=bG hQl
  rw [←ha]
  generalize qd Q D=z at *
  generalize qd (aM Q) D=z2 at *
  refine W.sr ?_
  simp (disch:=omega) [gw,hr,rL]
  refine cV [4,5] hcq ?_
  exact cR
theorem IW{x y:List Int}(cy:Cn y)(hy:0<y.length):∀(j:Nat),j≤x.length→YL y j (List.replicate j 0++x.drop j) (bJ (aM (x.take j)) y)=some (x,[])
 | 0,_=>by
  have:bJ (aM (x.take 0)) y = []:=Cn.ext (Cn.bJ _ _) Cn.nil fun t=>by rw [cQ,cE];simp [V]
  rw [YL,this];rfl
 | j+1,h=>by
  have ih:=IW (x:=x) cy hy j (by omega)
  have hly:=cM cy hy
  have ht:=bA (l:=x) (i:=j) (by omega)
  have hdr:x.drop j=nth x j::x.drop (j+1):=by
   rw [List.drop_eq_getElem_cons (l:=x) (i:=j) (by omega),show nth x j=x[j]from bZ (by omega)]
  rw [YL]
  by_cases hv:nth x j=0
  ·have hw:aM (x.take (j+1))=aM (x.take j):=by rw [ht,hv,iP]
   rw [hw]
   have h1:=oV (x:=aM (x.take j)) hy
   have h2:=bN (x.take j)
   rw [List.length_take]at h2
   rw [if_pos (by omega),←ih]
   rw [hdr,hv,List.replicate_succ',List.append_assoc];rfl
  ·have hw:aM (x.take (j+1))=x.take j ++ [nth x j]:=by rw [ht];exact gV hv _
   have cw:Cn (x.take j ++ [nth x j]):=gV hv _
   have hwl:(x.take j ++ [nth x j]).length=j+1:=by simp;omega
   have hlw:lead (x.take j ++ [nth x j])=nth x j:=by
    rw [lead,hwl,Nat.add_sub_cancel,bZ (by omega)]
    have:(x.take j).length=j:=by simp;omega
    simp [List.getElem_append_right,this]
   rw [hw]
   have hl:=iS cw cy (by omega) hy
   have hd:=uH cw cy (by omega) hy
   rw [hwl]at hl
   rw [hlw]at hd
   rw [if_neg (by omega),hd,if_pos (Int.mul_emod_left _ _),Int.mul_ediv_cancel _ hly]
   have e1:eE (bJ (x.take j ++ [nth x j]) y) (bJ (n6 j (nth x j)) y)=bJ (aM (x.take j)) y:=Cn.ext (Cn.eE _ _) (Cn.bJ _ _) fun t=>by
    rw [gO,cQ,cQ,cQ,cE,dK,lB,lI,show(x.take j).length=j by simp;omega]
    grind
   have e2:(List.replicate (j+1) 0++x.drop (j+1)).set j (nth x j)=List.replicate j 0++x.drop j:=by
    rw [hdr,List.replicate_succ',List.append_assoc,List.set_append_right _ _ (by simp)]
    simp
   rw [e1,e2]
   exact ih
theorem MQ{x y:List Int}(cx:Cn x)(cy:Cn y)(hy:0<y.length):exact (bJ x y) y=some x:=by
 have hk:iH (bJ x y) y=x.length:=by
  rcases Nat.eq_zero_or_pos x.length with h | h
  ·have:x = []:=List.eq_nil_of_length_eq_zero h
   have e:bJ x y = []:=Cn.ext (Cn.bJ _ _) Cn.nil fun t=>by rw [cQ,this];simp [V]
   rw [e,this];simp [iH];omega
  ·have:=iS cx cy h hy
   unfold iH;omega
 have h1:=IW (x:=x) cy hy x.length (Nat.le_refl _)
 rw [List.take_length,show aM x=x from cx,List.drop_length,List.append_nil]at h1
 rw [exact,hk,h1,exF,show aM x=x from cx]
theorem ET{y h:List Int}(cy:Cn y)(hy:0<y.length)(e:∀t,V t y*V t h=0):aM h = []:=by
 by_cases hh:aM h = []
 ·exact hh
 ·exfalso
  have h1:bJ y (aM h) = []:=Cn.ext (Cn.bJ _ _) Cn.nil fun t=>by rw [cQ,cE,e];rfl
  have h2:=iS cy (Cn.cut h) hy (List.length_pos_iff.2 hh)
  rw [h1]at h2
  have:=List.length_pos_iff.2 hh
  simp at h2;omega
theorem IX{a b:List Int}(h:aM (eE a b) = [])(t:Int):V t a=V t b:=by
 have h1:=gO (t:=t) a b
 rw [←cE,h]at h1
 have:V t ([]:List Int)=0:=rfl
 omega
theorem S9{D:Int}(h:D≠0)(x:List Int):qd (x.map (· * D)) D=qs x:=by
 have:=ML (D:=1) (l:=D) (by decide) h x
 rw [Int.one_mul,EN]at this
 exact this
theorem Y2{x y q:List Int}(cx:Cn x)(cy:Cn y)(hy:0<y.length)(cq:Cn q)(h:∀t,V t x=V t q*V t y):qd (aM (YQ x y).Q) (YQ x y).D=qs q∧(YQ x y).r = []:=by
 obtain⟨hI,hr⟩:=acV cx cy hy
 generalize YQ x y=σ at *
 have hv:=hI.v
 have e:∀t,V t σ.r=V t y*V t (eE (q.map (· * σ.D)) σ.Q):=fun t=>by
  have h1:=hv t
  rw [h]at h1
  rw [gO,dE]
  grind
 have h1:=B7 hI.c cy hy e hr
 have h2:aM (eE (q.map (· * σ.D)) σ.Q) = []:=ET cy hy fun t=>by rw [←e,h1];rfl
 have e2:aM σ.Q=q.map (· * σ.D):=Cn.ext (Cn.cut _) (jO cq hI.d) fun t=>by rw [cE];exact(IX h2 t).symm
 rw [e2]
 exact⟨S9 hI.d q,h1⟩
end Go.Proofs.YtiobceocpabjdaaGreat
