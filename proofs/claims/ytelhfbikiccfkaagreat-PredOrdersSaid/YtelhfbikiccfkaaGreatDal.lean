import Derived.Test.YtelhfbikiccfkaaGreatDaf
import Derived.Test.YtelhfbikiccfkaaGreatDah
import Derived.Test.YtelhfbikiccfkaaGreatDak
set_option linter.unusedSimpArgs false
set_option linter.unusedVariables false
namespace Go.Proofs.YtelhfbikiccfkaaGreat
open Go Pm
theorem aiP(x:List Int):eX (x.map jD)=aL x:=by simp only [eX,bP]
theorem jZ{x:List Int}(hx:Cn x){m:Int}(hm:m≠0):Cn (x.map (· * m)):=by
 rcases Nat.eq_zero_or_pos x.length with h | h
 ·have:x = []:=List.eq_nil_of_length_eq_zero h
  subst this;rfl
 ·have e:=wG h
  have:x.map (· * m)=(x.take (x.length-1)).map (· * m) ++ [lead x*m]:=by
   conv=>lhs;rw [e]
   simp
  rw [this]
  exact iZ (Int.mul_ne_zero (dK hx h) hm) _
theorem uS{x:List Int}(hx:Cn x){m:Int}(hm:m≠0):aN x m=x.map (· * m):=jZ hx hm
theorem wM{x:List Int}(hx:Cn x):aN x 1=x:=Cn.ext (Cn.aN _ _) hx fun t=>by rw [cR];omega
theorem UP(x:List Int):fU x=aN x (-1):=Cn.ext (Cn.fU _) (Cn.aN _ _) fun t=>by rw [wF,cR];omega
theorem j0(m:Int)(x:List Int):bV (x.map (· * m))=bV x*m.natAbs:=by
 have key:∀(l:List Int) (g:Nat),(l.map (· * m)).foldl (fun g c=>Nat.gcd g c.natAbs) (g*m.natAbs)=l.foldl (fun g c=>Nat.gcd g c.natAbs) g*m.natAbs:=by
  intro l
  induction l with
  | nil=>intro g;rfl
  | cons c l ih =>
   intro g
   simp only [List.map_cons,List.foldl_cons]
   rw [Int.natAbs_mul,Nat.gcd_mul_right,ih]
 have:=key x 0
 rw [Nat.zero_mul]at this
 exact this
theorem aa0{m:Int}(hm:0<m)(g v:Int):k9 (g*m) (v*m)=k9 g v:=by
 unfold k9
 rw [Int.mul_comm v,Int.mul_comm g,Int.mul_emod_mul_of_pos _ _ hm,Int.mul_ediv_mul_of_pos _ _ hm]
 have:m*(v%g)=0↔v%g=0:=by
  constructor
  ·intro h
   rcases Int.mul_eq_zero.1 h with h | h
   ·omega
   ·exact h
  ·intro h;rw [h];simp
 simp only [this]
theorem UQ{m:Int}(hm:0<m)(x:List Int):kK (x.map (· * m))=kK x:=by
 unfold kK
 rw [j0,List.map_map]
 congr 1
 refine List.map_congr_left fun v _=>?_
 simp only [Function.comp_apply]
 have:((bV x*m.natAbs:Nat):Int)=(bV x:Int)*m:=by rw [Int.natCast_mul];congr 1;omega
 rw [this,aa0 hm]
theorem BL{x:List Int}(hx:Cn x){m:Int}(hm:0<m):kK (aN x m)=kK x:=by rw [uS hx (by omega),UQ hm]
def sg(c:Int)(k:Nat):Int:=if k%2=1∧c<0 then -1 else 1
theorem aeB(c:Int):∀k:Nat,c^k=sg c k*(c.natAbs:Int)^k
 | 0=>by simp [sg]
 | k+1=>by
  have ih:=aeB c k
  have hc:c=(if c<0 then -1 else 1)*(c.natAbs:Int):=by split<;>omega
  have hs:sg c (k+1)=sg c k*(if c<0 then -1 else 1):=by
   unfold sg
   by_cases h:c<0
   ·rcases Nat.mod_two_eq_zero_or_one k with h2 | h2
    ·rw [if_pos ⟨by omega,h⟩,if_neg (by omega),if_pos h];rfl
    ·rw [if_neg (by omega),if_pos ⟨h2,h⟩,if_pos h];rfl
   ·rw [if_neg (fun h2=>h h2.2),if_neg (fun h2=>h h2.2),if_neg h];rfl
  rw [Int.pow_succ,Int.pow_succ,ih,hs]
  conv=>lhs;rw [hc]
  generalize (if c<0 then(-1:Int)else 1)=e at *
  have e3:((e*(c.natAbs:Int)).natAbs:Int)=(c.natAbs:Int):=by rw [←hc]
  rw [e3]
  grind
theorem aeC(c:Int)(k:Nat):sg c k*sg c k=1:=by unfold sg;split<;>rfl
theorem aeD{a b:List Int}(ca:Cn a):PM a b=kK (aN (BG a b).2 (sg (lead b) (jW a b))):=by
 have cr:=(EL (b:=b) ca).2
 unfold PM sg
 split
 ·rw [UP]
 ·rw [wM cr]
theorem mQ(x:List Int):(kK x).length≤x.length:=Nat.le_trans (cG _) (by simp)
theorem PQ(x:List Int):(fU x).length≤x.length:=Nat.le_trans (cG _) (by simp)
theorem aiQ{a b:List Int}(hb:0<b.length):(PM a b).length<b.length:=by
 have h1:=KW (a:=a) hb
 unfold PM
 split
 ·have h2:=mQ (fU (BG a b).2)
  have h3:=PQ (BG a b).2
  omega
 ·have h2:=mQ (BG a b).2
  omega
theorem aoV(a b:List Int):Cn (PM a b):=by unfold PM;split<;>exact Cn.cut _
def exs(b:List Int):Nat→List Int→List Int→Option (List Int × List Int)
 | 0,q,a=>some (q,a)
 | i+1,q,a=>if a.length<b.length+i then exs b i q a else if lead a%lead b=0 then exs b i (q.set i (lead a/lead b)) (dJ a (bH (sH i (lead a/lead b)) b))else none
def exF:Option (List Int × List Int)→Option (List Int)
 | some (q,[])=>some (aL q)
 | _=>none
def exact(a b:List Int):Option (List Int):=exF (exs b (jW a b) (List.replicate (jW a b) 0) a)
def exR(o:Option (List Int)):PV:=
 match o with
 | some q => .fE [Po q, .int .i64 0]
 | none => .fE [Po [], .int .i64 3]
theorem Bd.set{B s n:Nat}{x:List Int}(h:Bd B s n x){i:Nat}{v:Int}(hv:Pm.sz B v≤s):Bd B s n (x.set i v):=⟨by simpa using h.len,fun c hc=>by
 rcases List.mem_or_eq_of_mem_set hc with h1 | h1
 ·exact h.sz c h1
 ·rw [h1];exact hv⟩
theorem aa1(a b:RP){s s' N:Nat}(ha:oQ a)(hb:oQ b)(sa:Bd LL s N (a.map gv))(sb:Bd LL s' N (b.map gv))(hB:s+N*(s'+N+1)+s'+N+N+10<1099511627774) :
  aD env.P 222 [Pg a,Pg b] (if eX b = []then .fE [Po [], .int .i64 2]else exR (exact (eX a) (eX b))):=by
 have hA:Bd LL s N (eX a):=sa.cut
 have XW:Bd LL s' N (eX b):=sb.cut
 have ca:Cn (eX a):=Cn.cut _
 have cb:Cn (eX b):=Cn.cut _
 have na:=eY a ha
 have nb:=eY b hb
 rw [show aL (a.map gv)=eX a from rfl]at na
 rw [show aL (b.map gv)=eX b from rfl]at nb
 refine b6 [(0,Pg a),(1,Pg b)] Tryz.func222 ?_
 generalize eX a=x at *
 generalize eX b=y at *
 refine aA [0,1] ?_
 refine iM ?_
 refine bW na ?_
 refine bU [0,1] nb ?_
 refine aM [0,1,17] ?_
 refine bF ?_ ?_<;>intro h
 ·have h:y = []:=by simp at h;exact h
  rw [if_pos h]
  refine aA [4,5] ?_
  refine W.ret ?_
  simp [go]
  rfl
 have hy:y ≠ []:=by simp at h;exact h
 clear h
 rw [if_neg hy]
 have UB:0<y.length:=List.length_pos_iff.2 hy
 have hNx:=hA.len
 have hNy:=XW.len
 have hsy:=gO XW
 have hly:=dK cb UB
 have hL:=mB (PB.of XW (by omega) (by omega)) cb
 have hDy:=lA y (by omega)
 have hkN:jW x y≤N:=by unfold jW;omega
 generalize hdd:s'+N+1=d at *
 have hNN:∀j,j≤N→(N-j)*d≤N*d:=fun j _=>Nat.mul_le_mul_right _ (by omega)
 have hkk:(if (0:Int)<(x.length:Int)-(y.length:Int)+1 then(x.length:Int)-(y.length:Int)+1 else 0)=(jW x y:Int):=by unfold jW;split<;>omega
 refine W.skip ?_
 refine W.sr ?_
 simp (disch:=omega) [gw,hkk]
 refine bN [0,1,6] ?_
 refine W.row (id:=25) (emap ie (List.replicate (jW x y) 0)) (by simp;exact⟨rfl,rfl,rfl⟩) (qW _) ?_
 refine aM [0,1,6,7] ?_
 refine W.block ?_
 obtain⟨R0,NK⟩:∃R0,R0=exs y (jW x y) (List.replicate (jW x y) 0) x:=⟨_,rfl⟩
 have hex:exact x y=exF R0:=by rw [NK];rfl
 rw [hex]
 clear hex
 generalize zI:jW x y=k0 at *
 refine W.bE (fun j σ=>∃(v6:Nat) (z r:List Int) (rows:Pm.Rows) (clk:Nat),σ=⟨fa [(0,Po r),(1,Po y),(6, .own 25 v6 0 k0),(7, .int .i64 ((j:Int)-1))],rows,clk⟩ ∧
  rows 25=some ⟨v6,38,2,emap ie z⟩∧z.length=k0∧j≤k0∧exs y j z r=R0∧Bd LL (s+(N-j)*d) (N+N) z∧Bd LL (s+(N-j)*d) (N+N) r∧Cn r) k0 ?_ ?_
 ·exact⟨_, .refl,_,List.replicate k0 0,x,_,_,rfl,by simp,by simp,by omega,NK.symm,⟨by simp;omega,fun c hc=>by rw [(List.mem_replicate.1 hc).2,jO];omega⟩,hA.mono (by omega) (by omega),ca⟩
 rintro j _ ⟨v6,z,r,rows,clk,rfl,aeF,hz,hj,BK,bz,br,cr⟩
 refine aM [0,1,6,7,30] ?_
 refine bF ?_ ?_<;>intro h
 ·have hj0:0<j:=by simp at h;omega
  obtain⟨i,rfl⟩:∃i,j=i+1:=⟨j-1,by omega⟩
  clear h
  have ei:((i+1:Nat):Int)-1=i:=by omega
  rw [ei]
  have hN1:=hNN (i+1) (by omega)
  have GM:=hNN i (by omega)
  have hT:s+(N-i)*d=s+(N-(i+1))*d+s'+N+1:=by
   rw [show N-i=(N-(i+1))+1 by omega,Nat.add_mul,Nat.one_mul];omega
  have hDr:=lA r (by have:=br.len;omega)
  have hLr:=mB (PB.of br (by omega) (by omega)) cr
  have hlr:=gO br
  rw [exs]at BK
  refine W.skip ?_
  refine W.dV (fun σ=>∃(z r:List Int) (rows:Pm.Rows) (clk:Nat),σ=⟨fa [(0,Po r),(1,Po y),(6, .own 25 v6 0 k0),(7, .int .i64 i)],rows,clk⟩ ∧
   rows 25=some ⟨v6,38,2,emap ie z⟩∧z.length=k0∧exs y i z r=R0∧Bd LL (s+(N-i)*d) (N+N) z∧Bd LL (s+(N-i)*d) (N+N) r∧Cn r) ?_ ?_
  ·
   refine W.seq ?_
   refine iM ?_
   refine bW hDr ?_
   refine bU [0,1,6,7,39] hDy ?_
   by_cases hlen:r.length<y.length+i
   ·rw [if_pos hlen]at BK
    refine bF ?_ ?_<;>intro h
    ·refine eV ?_
     exact⟨_,aC _ [0,1,6,7],z,r,_,_,rfl,aeF,hz,BK,bz.mono (by omega) (by omega),br.mono (by omega) (by omega),cr⟩
    ·exfalso;simp at h;omega
   rw [if_neg hlen]at BK
   refine bF ?_ ?_<;>intro h
   ·exfalso;simp at h;omega
   clear h
   have hE:=yC (v:=lead r) (c:=lead y) (by omega) (by omega) hly
   refine W.skip ?_
   by_cases UF:lead r%lead y=0
   ·rw [if_pos UF]at hE BK
    have hts:sz LL (lead r/lead y)≤s+(N-(i+1))*d:=Nat.le_trans (cK eB (Int.natAbs_ediv_le_natAbs _ _)) hlr
    have bs:=Bd.sH hts i
    have bm:=bs.bH eB XW
    have b2:Bd LL (s+(N-i)*d) (N+N) (dJ r (bH (sH i (lead r/lead y)) y)):=(Bd.dJ eB (br.mono (s':=s+(N-(i+1))*d+s'+N) (n':=N+N) (by omega) (by omega)) (bm.mono (by omega) (by omega))).mono (by omega) (by omega)
    have f4:=qE bs XW (by omega)
    have f5:=qD (PB.of br (by omega) (by omega)) (PB.of bm (by omega) (by omega))
    have cr2:Cn (dJ r (bH (sH i (lead r/lead y)) y)):=Cn.dJ _ _
    have bz2:=Bd.set (i:=i) (bz.mono (s':=s+(N-i)*d) (n':=N+N) (by omega) (by omega)) (Nat.le_trans hts (by omega))
    generalize cC:dJ r (bH (sH i (lead r/lead y)) y)=r2 at *
    generalize bH (sH i (lead r/lead y)) y=pm at *
    generalize lead r/lead y=tt at *
    have aeA:=tM i tt
    have aoU:(sH i tt).length=i+1:=by simp [sH]
    have iP:=bQ aoU
    generalize lead r=lr at *
    generalize lead y=ly at *
    refine iM ?_
    refine bW hLr ?_
    refine bW hL ?_
    refine bU [0,1,6,7,8,9] hE ?_
    refine aM [0,1,6,7,8,49] ?_
    refine bF ?_ ?_<;>intro h
    ·cases h
    refine W.skip ?_
    refine W.sr ?_
    simp (disch:=omega) [gw,aeF,hz]
    refine bN [0,1,6,7,8] ?_
    have e9:((i:Int)+1).toNat=i+1:=by omega
    refine W.sr ?_
    simp (disch:=omega) [gw,e9]
    refine bN [0,1,6,7,8,10] ?_
    refine W.row (id:=56) (emap ie (List.replicate (i+1) 0)) (by simp;exact⟨rfl,rfl,rfl⟩) (qW _) ?_
    refine W.sr ?_
    simp (disch:=omega) [gw,aeA]
    refine bN [0,1,6,7,10] ?_
    refine W.freeze 56 (by simp) (fun K hK=>?_)
    simp [iP]
    refine hK _ ?_;clear hK K
    refine W.cE (fun K hK=>?_)
    simp (disch:=omega) [gw]
    refine bW f4 ?_
    refine bW f5 ?_
    exact hK _ ⟨_,aC _ [0,1,6,7],z.set i tt,r2,_,_,rfl,by simp,by simp [hz],BK,bz2,b2,cr2⟩
   ·rw [if_neg UF]at hE BK
    subst BK
    refine iM ?_
    refine bW hLr ?_
    refine bW hL ?_
    refine bU [0,1,6,7,8,9] hE ?_
    refine aM [0,1,6,7,8,49] ?_
    refine bF ?_ ?_<;>intro h
    ·refine aA [4,5] ?_
     refine W.ret ?_
     simp [go,exR,exF]
     rfl
    ·cases h
  rintro _ ⟨z,r,rows,clk,rfl,aeF,hz,BK,bz,br,cr⟩
  refine W.cE (fun K hK=>?_);simp (disch:=omega) [gw]
  refine hK _ ⟨i,_,aC _ [0,1,6,7],by omega,v6,z,r,_,_,rfl,by simp [aeF],hz,by omega,BK,bz,br,cr⟩
 ·have hj0:j=0:=by simp at h;omega
  subst hj0
  simp only [exs]at BK
  rw [←BK]
  have hN0:=hNN 0 (by omega)
  have hzn:=fR (PB.of bz (by omega) (by omega))
  have hzz:=bQ hz
  refine eV ?_
  refine aM [6,68] ?_
  cases r with
  | nil =>
   refine bF ?_ ?_<;>intro h
   ·exfalso;simp at h
   refine W.skip ?_
   refine W.sr ?_
   simp (disch:=omega) [gw,aeF,hzz]
   refine bU [4,5] hzn ?_
   refine W.ret ?_
   simp [go,exR,exF]
  | cons c r =>
   refine bF ?_ ?_<;>intro h
   ·refine aA [4,5] ?_
    refine W.ret ?_
    simp [go,exR,exF]
    rfl
   ·exfalso;simp at h
theorem tN{d:Nat}{x:List Int}(h:∀c∈x,(d:Int)∣c):d∣bV x:=by
 have key:∀(l:List Int) (g:Nat),d∣g→(∀c∈l,(d:Int)∣c)→d∣l.foldl (fun g c=>Nat.gcd g c.natAbs) g:=by
  intro l
  induction l with
  | nil=>intro g hg _;exact hg
  | cons c l ih =>
   intro g hg hl
   rw [List.foldl_cons]
   exact ih _ (Nat.dvd_gcd hg (Int.ofNat_dvd_left.1 (hl c (by simp)))) fun v hv=>hl v (by simp [hv])
 exact key x 0 (Nat.dvd_zero d) h
theorem C0{x:List Int}{g:Int}(h:∀c∈x,g∣c):(x.map (k9 g)).map (· * g)=x:=by
 rw [List.map_map]
 refine(List.map_congr_left fun v hv=>?_).trans (List.map_id _)
 have h1:v%g=0:=Int.emod_eq_zero_of_dvd (h v hv)
 simp only [Function.comp_apply,k9,id_eq]
 rw [if_pos h1]
 exact Int.ediv_mul_cancel (h v hv)
theorem z6{x y:List Int}{g:Int}(hg:g≠0)(h:y.map (· * g)=x)(e:bV x=g.natAbs):bV y=1:=by
 have:=j0 g y
 rw [h,e]at this
 exact Nat.eq_of_mul_eq_mul_right (show 0<g.natAbs by omega) (by omega)
theorem dY(t:Int)(g:Int)(x:List Int):V t (x.map (· * g))=V t x*g:=by
 have:=iN (t:=t) g id x
 simp only [id_eq,List.map_id_fun]at this
 exact this
theorem aeG{x y:List Int}(cx:Cn x)(cy:Cn y)(hx:x ≠ [])(hy:y ≠ []):bV (bH x y)=bV x*bV y:=by
 have gx:=c7 cx hx
 have gy:=c7 cy hy
 have hp:bV (bH x y)≠0:=c7 (Cn.bH _ _) fun h=>by
  have:=kE cx cy (List.length_pos_iff.2 hx) (List.length_pos_iff.2 hy)
  rw [h]at this
  have h1:=List.length_pos_iff.2 hx
  have h2:=List.length_pos_iff.2 hy
  simp only [List.length_nil]at this
  omega
 obtain⟨x',HO⟩:∃x':List Int,x'.map (· * (bV x:Int))=x:=⟨_,C0 (fD x)⟩
 obtain⟨y',GU⟩:∃y':List Int,y'.map (· * (bV y:Int))=y:=⟨_,C0 (fD y)⟩
 have px:=z6 (by omega) HO (by omega)
 have py:=z6 (by omega) GU (by omega)
 have e:bH x y=(bH x' y').map (· * ((bV x:Int)*bV y)):=by
  rw [←uS (Cn.bH _ _) (Int.mul_ne_zero (by omega) (by omega))]
  refine Cn.ext (Cn.bH _ _) (Cn.aN _ _) fun t=>?_
  have h1:=dY t (bV x) x'
  have h2:=dY t (bV y) y'
  rw [HO]at h1
  rw [GU]at h2
  rw [dP,cR,dP,h1,h2]
  grind
 rw [e,j0]at hp
 rw [e,j0,Int.natAbs_mul]
 have hd:0<bV (bH x' y'):=Nat.pos_of_mul_pos_right (Nat.pos_of_ne_zero hp)
 have hD:=XJ _ (bV (bH x' y')) x' y' (Nat.le_refl _) hd (Dv.of (fD _)) (fun d _ hy=>Nat.dvd_one.1 (py▸tN hy.mem))
 have h1:bV (bH x' y')=1:=Nat.dvd_one.1 (px▸tN hD.mem)
 rw [h1,Nat.one_mul]
 simp
def mC(x:List Int):Int:=if lead x<0 then -(bV x:Int)else bV x
def tO(x:List Int):List Int:=aL (x.map (k9 (mC x)))
theorem o0(x:List Int):(mC x).natAbs=bV x:=by unfold mC;split<;>omega
theorem LA(x:List Int):∀c∈x,mC x∣c:=fun c hc=>by
 have:=fD x c hc
 unfold mC;split
 ·exact Int.neg_dvd.2 this
 ·exact this
theorem LB{x:List Int}(cx:Cn x)(hx:x ≠ []):(tO x).map (· * mC x)=x:=by
 have gx:=c7 cx hx
 have h0:=o0 x
 rw [←uS (show Cn (tO x)from Cn.cut _) (show mC x≠0 by omega)]
 refine Cn.ext (Cn.aN _ _) cx fun t=>?_
 rw [cR,tO,dF,←dY,C0 (LA x)]
theorem aa2{x:List Int}(cx:Cn x)(hx:x ≠ []):aN (tO x) (mC x)=x:=by
 have gx:=c7 cx hx
 have h0:=o0 x
 rw [uS (show Cn (tO x)from Cn.cut _) (show mC x≠0 by omega)]
 exact LB cx hx
theorem aiR{x:List Int}(cx:Cn x)(hx:x ≠ []):bV (tO x)=1:=by
 have gx:=c7 cx hx
 have h0:=o0 x
 exact z6 (by omega) (LB cx hx) h0.symm
theorem aeH{x:List Int}(cx:Cn x)(hx:x ≠ []):0<lead (tO x):=by
 have gx:=c7 cx hx
 have h:=LB cx hx
 have hl:(tO x).length=x.length:=by rw [←congrArg List.length h];simp
 have pL:=List.length_pos_iff.2 hx
 have h1:lead x=lead (tO x)*mC x:=by
  rw [lead,lead,hl,←jX,h]
 have kQ:=dK (x:=tO x) (Cn.cut _) (by omega)
 have hg:(0:Int)<bV x:=by omega
 unfold mC at h1
 rcases Int.lt_trichotomy (lead (tO x)) 0 with h2 | h2 | h2
 ·exfalso
  split at h1
  ·rename_i h3
   have:=Int.mul_pos (show (0:Int) < -lead (tO x)by omega) hg
   rw [Int.mul_neg,←Int.neg_mul]at h1
   omega
  ·rename_i h3
   have:=Int.mul_pos (show (0:Int) < -lead (tO x)by omega) hg
   rw [Int.neg_mul]at this
   omega
 ·exact absurd h2 kQ
 ·exact h2
theorem vQ(a:RP){s n:Nat}(ha:oQ a)(sa:Bd LL s n (a.map gv))(hs:s<1099511627774)(hn:n<1099511627774) :
  aD env.P 153 [Pg a] (.fE [I (mC (eX a)),Po (tO (eX a))]):=by
 have hA:Bd LL s n (eX a):=sa.cut
 have ca:Cn (eX a):=Cn.cut _
 have na:=eY a ha
 rw [show aL (a.map gv)=eX a from rfl]at na
 refine b6 [(0,Pg a)] Tryz.func153 ?_
 generalize eX a=x at *
 refine aA [0,2] ?_
 refine aJ [0,2] na ?_
 refine aM [0,2,9] ?_
 refine bF ?_ ?_<;>intro h
 ·have h:x = []:=by simp at h;exact h
  subst h
  rw [show mC ([]:List Int)=0 by decide,show tO ([]:List Int) = []from rfl]
  refine aA [2,3] ?_
  refine W.ret ?_
  simp [go]
  exact⟨rfl,rfl⟩
 have hx:x ≠ []:=by simp at h;exact h
 clear h
 have pL:=List.length_pos_iff.2 hx
 have gx:=c7 ca hx
 have hp0:=o0 x
 have hC:=yD x (PD.of hA hs hn)
 have hL:=mB (PB.of hA (by omega) (by omega)) ca
 have hgs:=XY (s:=s) hA.sz ca hx
 have MX:sz LL (mC x)≤s:=by
  unfold mC;split
  ·rw [pK];exact hgs
  ·exact hgs
 have hO:=PK x (mC x) (PD.of hA hs hn) (by omega) (by omega)
 rw [show aL (x.map (k9 (mC x)))=tO x from rfl]at hO
 have hN:=adY (x:=(bV x:Int)) (by show sz LL _<_;omega)
 refine W.skip ?_
 refine aJ [0,2,4] hC ?_
 refine W.gJ (fun σ=>∃(rows:Pm.Rows) (clk:Nat),σ=⟨fa [(0,Po x),(2, .ptr 2 0 0 0),(4, .ptr 4 1 0 0)],rows,clk⟩∧rows 2=some ⟨0,38,2,[[.bool false, .nil]]⟩∧rows 4=some ⟨1,38,2,[ie (mC x)]⟩) ?_ ?_
 ·refine W.fY (fun σ=>∃(rows:Pm.Rows) (clk:Nat),σ=⟨fa [(0,Po x),(2, .ptr 2 0 0 0),(4, .ptr 4 1 0 0),(16, .bool (decide (lead x<0)))],rows,clk⟩∧rows 2=some ⟨0,38,2,[[.bool false, .nil]]⟩∧rows 4=some ⟨1,38,2,[ie (bV x)]⟩) (fun K hK=>?_) ?_
  ·simp (disch:=omega) [gw]
   refine bW hL ?_
   refine hK _ _ (aC _ [0,2,4,16]) ⟨_,_,rfl,?_,?_⟩<;>simp [ie]
  rintro _ ⟨rows,clk,rfl,cC,fM⟩
  refine W.adL (lead x<0) rfl (fun h=>?_) (fun h=>?_)
  ·rw [mC,if_pos h]
   refine W.cE (fun K hK=>?_)
   simp (disch:=omega) [gw,fM]
   refine aB hN ?_
   simp (disch:=omega) [gw,fM]
   exact hK _ ⟨_,aC _ [0,2,4],_,_,rfl,by simp [cC],by simp⟩
  ·rw [mC,if_neg h]
   refine W.skip ?_
   exact⟨_,aC _ [0,2,4],_,_,rfl,cC,fM⟩
 rintro _ ⟨rows,clk,rfl,cC,fM⟩
 generalize mC x=c at *
 generalize tO x=p at *
 refine W.sd ?_
 simp (disch:=omega) [gw,fM]
 refine aB hO ?_
 simp (disch:=omega) [gw,cC,fM]
 refine bN [2,3] ?_
 exact b7
abbrev qd(x:List Int)(D:Int):List Rat:=x.map fun v=>dR v D
theorem fH{v D:Int}(h:D≠0):dR v D=(v:Rat)/(D:Rat):=by rw [dR,if_neg h,Rat.divInt_eq_div]
theorem gP{D:Int}(h:D≠0):(D:Rat)≠0:=fun h2=>h (by exact_mod_cast h2)
theorem yE{D:Int}(h:D≠0):dR 0 D=0:=by rw [fH h];simp [Rat.div_def]
theorem BM{v D:Int}(h:D≠0):dR v D=0↔v=0:=by
 constructor
 ·intro h2
  rw [fH h]at h2
  have h3:=gP h
  have:(v:Rat)=0:=by
   have h4:(v:Rat)/(D:Rat)*D=0:=by rw [h2];grind
   rw [Rat.div_mul_cancel h3]at h4
   exact h4
  exact_mod_cast this
 ·rintro rfl;exact yE h
theorem XZ{v D l:Int}(h:D≠0)(hl:l≠0):dR (v*l) (D*l)=dR v D:=by
 rw [fH h,fH (Int.mul_ne_zero h hl),Rat.intCast_mul,Rat.intCast_mul]
 have h1:=gP h
 have h2:=gP hl
 grind
theorem aiS{v w D:Int}(h:D≠0):dR v D+dR w D=dR (v+w) D:=by
 rw [fH h,fH h,fH h,Rat.intCast_add]
 have h1:=gP h
 grind
theorem X0{v D:Int}(h:D≠0):dR v D*(-1)=dR (-v) D:=by
 rw [fH h,fH h,Rat.intCast_neg]
 have h1:=gP h
 grind
theorem aeI{v w D:Int}(h:D≠0):(w:Rat)*dR v D=dR (w*v) D:=by
 rw [fH h,fH h,Rat.intCast_mul]
 have h1:=gP h
 grind
theorem aiT{v D l:Int}(h:D≠0)(hl:l≠0):dR v D/(l:Rat)=dR v (D*l):=by
 rw [fH h,fH (Int.mul_ne_zero h hl),Rat.intCast_mul]
 have h1:=gP h
 have h2:=gP hl
 grind
theorem uT{D:Int}(h:D≠0):∀x:List Int,oR (qd x D)=qd (aL x) D
 | []=>rfl
 | a::x=>by
  have ih:=uT h x
  simp only [qd,List.map_cons]at ih ⊢
  rw [oR,ih,aL]
  by_cases h1:aL x = []∧a=0
  ·simp [h1,yE h]
  ·rw [if_neg h1,if_neg (by simpa [BM h]using h1)];simp
theorem LC{D:Int}(h:D≠0)(x:List Int)(k:Nat):nth (qd x D) k=dR (nth x k) D:=uK (f:=fun v=>dR v D) (yE h) x k
theorem X1{D:Int}(h:D≠0)(x y:List Int):aer (qd x D) (qd y D)=qd (fL x y) D:=by
 rw [aer,fL,←uT h]
 congr 1
 simp only [qd,List.length_map,List.map_map]
 congr 1
 funext k
 simp only [Function.comp_apply]
 rw [show nth (List.map (fun v=>dR v D) x) k=_ from LC h x k,show nth (List.map (fun v=>dR v D) y) k=_ from LC h y k,aiS h]
theorem X3{D:Int}(h:D≠0)(x:List Int):gL (qd x D) (-1)=qd (fU x) D:=by
 rw [gL,fU,←uT h]
 congr 1
 simp only [qd,List.map_map]
 congr 1
 funext k
 simp only [Function.comp_apply]
 exact X0 h
theorem z7{D:Int}(h:D≠0)(y:List Int)(v:Int):gL (qs y) (dR v D)=qd (aN y v) D:=by
 rw [gL,aN,←uT h]
 congr 1
 simp only [qd,qs,List.map_map]
 congr 1
 funext k
 simp only [Function.comp_apply]
 exact aeI h
theorem E7{D l:Int}(h:D≠0)(hl:l≠0)(x:List Int):qd (x.map (· * l)) (D*l)=qd x D:=by
 simp only [qd,List.map_map]
 congr 1
 funext k
 simp only [Function.comp_apply]
 exact XZ h hl
theorem jB(x:List Int):qd x 1=qs x:=by
 simp only [qd,qs,mJ]
theorem tP{v D:Int}{k:Nat}(h:D≠0)(hv:sz 2 v≤k)(hD:sz 2 D≤k):ZR k (dR v D):=by
 refine⟨Nat.le_trans (cK (by decide) ?_) hv,Nat.le_trans (cK (by decide) ?_) hD⟩
 ·rw [rB _ _ h]
  refine Nat.le_trans (Int.natAbs_ediv_le_natAbs _ _) ?_
  split<;>simp
 ·rw [rC _ _ h]
  refine Nat.le_trans (Int.natAbs_ediv_le_natAbs _ _) ?_
  split<;>simp
theorem wN{x:List Int}{D:Int}{k n:Nat}(h:D≠0)(hx:Bd 2 k n x)(hD:sz 2 D≤k)(hk:k≤YY)(hn:n<1099511627776):SD (qd x D):=⟨fun q hq=>by
 simp only [List.mem_map]at hq
 obtain⟨v,hv,rfl⟩:=hq
 exact tP h (Nat.le_trans (hx.sz v hv) hk) (Nat.le_trans hD hk),by have:=hx.len;simp;omega⟩
structure DS where
 Q:List Int
 r:List Int
 D:Int
def dst(y:List Int)(σ:DS):DS:=⟨(σ.Q.map (· * lead y)).set (σ.r.length-y.length) (lead σ.r),zG y (lead y) (lead σ.r) (σ.r.length-y.length) σ.r,σ.D*lead y⟩
def dms(y:List Int):Nat→DS→DS
 | 0,σ=>σ
 | n+1,σ=>if σ.r.length<y.length then σ else dms y n (dst y σ)
def dmd(x y:List Int):DS:=dms y (x.length+1) ⟨List.replicate (jW x y) 0,x,1⟩
theorem LD{y:List Int}{σ:DS}(hy:0<y.length)(h:y.length≤σ.r.length):(dst y σ).r.length<σ.r.length:=by
 have h1:=CU (b:=y) (r:=σ.r) (i:=σ.r.length-y.length) hy (by omega)
 rw [show xU y σ.r (σ.r.length-y.length)=lead σ.r from by rw [xU,if_pos (by omega)]]at h1
 show(zG y (lead y) (lead σ.r) (σ.r.length-y.length) σ.r).length<_
 omega
theorem aiU{y:List Int}{σ:DS}(h:σ.r.length<y.length):∀n,dms y n σ=σ
 | 0=>rfl
 | n+1=>by rw [dms,if_pos h]
structure wO(x y:List Int)(σ:DS):Prop where
 v:∀t,σ.D*V t x=V t σ.Q*V t y+V t σ.r
 z:∀j,j+y.length≤σ.r.length→nth σ.Q j=0
 c:Cn σ.r
 d:σ.D≠0
 q:σ.r.length+1≤σ.Q.length+y.length∨σ.r.length<y.length
theorem wO.step{x y:List Int}{σ:DS}(cy:Cn y)(hy:0<y.length)(h:y.length≤σ.r.length)(hI:wO x y σ):wO x y (dst y σ):=by
 have hl:=dK cy hy
 have c8:=LD hy h
 have hq:=hI.q.resolve_right (by omega)
 have hk:σ.r.length-y.length<(σ.Q.map (· * lead y)).length:=by simp;omega
 have h1:=CU (b:=y) (r:=σ.r) (i:=σ.r.length-y.length) hy (by omega)
 rw [show xU y σ.r (σ.r.length-y.length)=lead σ.r from by rw [xU,if_pos (by omega)]]at h1
 refine⟨fun t=>?_,fun j hj=>?_,Cn.dJ _ _,Int.mul_ne_zero hI.d hl,?_⟩
 ·have h2:=hI.v t
  have h3:=H9 (b:=t) (x:=lead σ.r) hk
  have h4:nth (σ.Q.map (· * lead y)) (σ.r.length-y.length)=0:=by
   rw [jX,hI.z _ (by omega)];simp
  show σ.D*lead y*V t x=V t ((σ.Q.map (· * lead y)).set (σ.r.length-y.length) (lead σ.r))*V t y+V t (zG y (lead y) (lead σ.r) (σ.r.length-y.length) σ.r)
  rw [h3,h4,dY,zG,iH,dP,oZ,cR]
  have h5:σ.D*lead y*V t x=lead y*(σ.D*V t x):=by grind
  rw [h5,h2];grind
 ·have hj:j+y.length≤(zG y (lead y) (lead σ.r) (σ.r.length-y.length) σ.r).length:=hj
  show nth ((σ.Q.map (· * lead y)).set (σ.r.length-y.length) (lead σ.r)) j=0
  rw [iG (by omega),jX,hI.z _ (by omega)];simp
 ·left
  have:(dst y σ).Q.length=σ.Q.length:=by simp [dst]
  omega
theorem wO.dms{x y:List Int}(cy:Cn y)(hy:0<y.length):∀(n:Nat) (σ:DS),σ.r.length<n→wO x y σ→wO x y (dms y n σ)∧(Proofs.YtelhfbikiccfkaaGreat.dms y n σ).r.length<y.length
 | 0,σ,h,_=>by omega
 | n+1,σ,h,hI=>by
  rw [Proofs.YtelhfbikiccfkaaGreat.dms]
  split
  ·rename_i h1;exact⟨hI,h1⟩
  ·rename_i h1
   exact wO.dms cy hy n _ (by have:=LD (σ:=σ) hy (by omega);omega) (hI.step cy hy (by omega))
theorem wO.start{x y:List Int}(cx:Cn x):wO x y ⟨List.replicate (jW x y) 0,x,1⟩:=by
 refine⟨fun t=>?_,fun j hj=>?_,cx,show(1:Int)≠0 by decide,?_⟩
 ·simp [r7]
 ·rcases Nat.lt_or_ge j (jW x y)with h | h
  ·rw [dE (by simpa using h)];simp
  ·rw [iF (by simpa using h)];rfl
 ·simp only [jW,List.length_replicate];omega
theorem aiV{x y:List Int}(cx:Cn x)(cy:Cn y)(hy:0<y.length):wO x y (dmd x y)∧(dmd x y).r.length<y.length:=wO.dms cy hy _ _ (Nat.lt_succ_self _) (wO.start cx)
@[simp] theorem au3{l:List Rat}{i:Nat}{q:Rat}:i5 (emap re l) i 0 [aG aH (aP DD q.num.natAbs), .bool (decide (q.num<0)),aG aH (aP DD q.den), .bool false]=emap re (l.set i q):=CW (n:=4) (fun _=>rfl)
theorem E8(x:List Int):emap re (qs x)=emap ri x:=by simp only [emap,qs,List.map_map,Function.comp_def,gK]
theorem PR(a b n:List Rat)(ha:SD a)(hb:SD b)(hn:gL b (-1)=n)(hn2:SD n):aD env.P 124 [PP a,PP b] (PP (aer a n)):=by
 have h1:=PF b hb
 rw [hn]at h1
 have h2:=aes a n ha hn2
 refine b6 [(0,PP a),(1,PP b)] Tryz.func124 ?_
 refine aA [0,1] ?_
 refine iM ?_
 refine bW h1 ?_
 refine bU [4] h2 ?_
 exact b7
def CL(l:List Rat):Int:=l.foldl (fun d q=>(d*q.den).tdiv (Int.gcd d q.den)) 1
def X4(d:Int)(l:List Rat):Int:=l.foldl (fun (g:Int) q=>(Int.gcd g ((q.num*d).tdiv q.den):Int)) 0
theorem PU{l:List Rat}{i:Nat}(h:i<l.length):CL (l.take (i+1))=(CL (l.take i)*(nth l i).den).tdiv (Int.gcd (CL (l.take i)) (nth l i).den):=by
 unfold CL;rw [aY h,List.foldl_append];rfl
theorem aeK{l:List Rat}{d:Int}{i:Nat}(h:i<l.length):X4 d (l.take (i+1))=(Int.gcd (X4 d (l.take i)) (((nth l i).num*d).tdiv (nth l i).den):Int):=by
 unfold X4;rw [aY h,List.foldl_append];rfl
theorem UR(q:Rat):RI (q.den:Int) = .ag [aG aH (aP DD q.den), .bool false]:=by
 simp [show ¬((q.den:Int)<0)by omega]
def US(l:List Rat):Rat:=if (nth l (l.length-1)).num<0 then -(dR (X4 (CL l) l) (CL l))else dR (X4 (CL l) l) (CL l)
def qpr(l:List Rat):List Rat:=gL l (1/US l)
theorem tQ(l:List Rat){k:Nat}(hk:k≤YY)(XN:1≤k)(hl:∀q∈l,ZR k q)(GS:l.length<1099511627776)(h0:l ≠ [])
  (hd:∀i,sz 2 (CL (l.take i))≤k) (K5:∀i,0<CL (l.take i)) (hg:∀i,sz 2 (X4 (CL l) (l.take i))≤k)
  (hc:ZR YY (US l)) (zY:US l≠0) (xI:ZR YY (1/US l)) :
  aD env.P 168 [PP l] (.fE [RR (US l),PP (qpr l)]):=by
 have hkY:k≤137438953472:=hk
 have CC:0<l.length:=List.length_pos_iff.2 h0
 refine b6 [(0,PP l)] Tryz.func168 ?_
 refine aA [0,2] ?_
 refine aM [0,2,11] ?_
 refine bF ?_ ?_<;>intro h
 ·exfalso;simp at h;exact h0 h
 refine W.skip ?_
 refine iM ?_
 refine aB (i0 1 (by decide) (by decide)) ?_
 simp (disch:=omega) [gw]
 refine bN [0,2,4] ?_
 refine aM [0,2,4,15,16] ?_
 refine W.block ?_
 refine W.bE (fun n σ=>∃(i:Nat) (d:Int) (rows:Pm.Rows) (clk:Nat),σ=⟨fa [(0,PP l),(2, .ptr 2 0 0 0),(4, .ptr 4 1 0 0),(15, .int .i64 l.length),(16, .int .i64 i)],rows,clk⟩ ∧
  rows 2=some ⟨0,31,4,[[.nil, .bool false, .nil, .bool false]]⟩∧rows 4=some ⟨1,29,2,[[aG aH (aP DD d.natAbs), .bool (decide (d<0))]]⟩∧n=l.length-i∧i≤l.length∧d=CL (l.take i)) l.length ?_ ?_
 ·exact⟨_, .refl,0,1,_,_,rfl,by simp,by simp,by omega,by omega,by simp [CL]⟩
 rintro n _ ⟨i,d,rows,clk,rfl,cC,fM,hn,hi,UF⟩
 refine cB [0,2,4,15,16,17] ?_
 refine bF ?_ ?_<;>intro h
 ·have hi:i<l.length:=by simp at h;omega
  have hq:=hl _ (bS hi)
  have hdi:=hd i
  have hdp:=K5 i
  have hs:=PU hi
  rw [←UF]at hs hdi hdp
  have hsn:=hd (i+1)
  have m1:=eT d (nth l i).den (by simp only [Z];omega) (by have:=hq.d;simp only [Z];omega)
  have m2:=x8 d (nth l i).den (by simp only [Y];omega) (by have:=hq.d;simp only [Y];omega)
  have zm:=cO (b:=2) (by decide) hdi hq.d
  have hgp:0<Int.gcd d (nth l i).den:=Int.gcd_pos_of_ne_zero_left _ (by omega)
  have zg:Y (Int.gcd d (nth l i).den:Int):=BI (y:=d) (by simp only [Y];omega) (by
   have:=Int.le_of_dvd hdp (Int.gcd_dvd_left d ((nth l i).den:Int));omega)
  have m3:=tK (d*(nth l i).den) (Int.gcd d (nth l i).den) (by omega) (by simp only [Y];omega) zg
  rw [←hs]at m3
  rw [UR]at m1 m2
  generalize (Int.gcd d (nth l i).den:Int)=gg at *
  generalize d*((nth l i).den:Int)=dd at *
  generalize M0:CL (l.take (i+1))=d2 at *
  generalize M4:nth l i=q at *
  refine jV ?_
  refine W.sr ?_
  simp (disch:=omega) [gw,M4]
  refine bN [0,2,4,5,15,16] ?_
  refine W.H7 (fun K hK=>?_)
  simp (disch:=omega) [gw,fM,M4]
  refine aB m1 ?_
  simp (disch:=omega) [gw,fM,M4]
  refine aB m2 ?_
  simp (disch:=omega) [gw,fM,M4]
  refine aB m3 ?_
  simp (disch:=omega) [gw,fM,M4]
  refine a9 (by refine⟨?_,?_⟩<;>kernel_rfl) ?_
  simp (disch:=omega) [gw]
  refine W.lw [0,2,4,15,16] hK ?_;clear hK K;simp
  refine W.cE (fun K hK=>?_);simp (disch:=omega) [gw]
  refine hK _ ⟨l.length-(i+1),_,aC _ [0,2,4,15,16],by omega,i+1,d2,_,_,rfl,by simp [cC],by simp,by omega,by omega,M0.symm⟩
 have hi:i=l.length:=by simp at h;omega
 subst hi
 rw [List.take_length]at UF
 have hdl:=hd l.length
 have hdp:=K5 l.length
 rw [List.take_length,←UF]at hdl hdp
 rw [←UF]at hg
 have hqc:US l=if (nth l (l.length-1)).num<0 then -(dR (X4 d l) d)else dR (X4 d l) d:=by rw [UF];rfl
 refine eV ?_
 refine aA [0,2,4,6] ?_
 refine W.row (id:=6) (els:=[[.nil, .bool false]]) [[aG aH (aP DD 0), .bool false]] (by simp;first | exact⟨rfl,rfl,rfl⟩ | exact⟨rfl,rfl,rfl,rfl⟩) ⟨⟨.inr ⟨rfl,rfl⟩, .inl rfl,trivial⟩,trivial⟩ ?_
 refine aM [0,2,4,6,36,37] ?_
 refine W.block ?_
 clear UF
 refine W.bE (fun n σ=>∃(i v6:Nat) (g:Int) (rows:Pm.Rows) (clk:Nat),σ=⟨fa [(0,PP l),(2, .ptr 2 0 0 0),(4, .ptr 4 1 0 0),(6, .ptr 6 v6 0 0),(36, .int .i64 l.length),(37, .int .i64 i)],rows,clk⟩ ∧
  rows 2=some ⟨0,31,4,[[.nil, .bool false, .nil, .bool false]]⟩∧rows 4=some ⟨1,29,2,[[aG aH (aP DD d.natAbs), .bool (decide (d<0))]]⟩ ∧
  rows 6=some ⟨v6,29,2,[[aG aH (aP DD g.natAbs), .bool (decide (g<0))]]⟩∧n=l.length-i∧i≤l.length∧g=X4 d (l.take i)) l.length ?_ ?_
 ·exact⟨_, .refl,0,_,0,_,_,rfl,by simp [cC],by simp [fM],by simp,by omega,by omega,by simp [X4]⟩
 clear cC fM rows clk
 rintro n _ ⟨i,v6,g,rows,clk,rfl,cC,fM,lB,hn,hi,hgv⟩
 refine cB [0,2,4,6,36,37,38] ?_
 refine bF ?_ ?_<;>intro h
 ·have hi:i<l.length:=by simp at h;omega
  have hq:=hl _ (bS hi)
  have hgi:=hg i
  have hs:=aeK (d:=d) hi
  rw [←hgv]at hs hgi
  have m1:=eT (nth l i).num d (by have:=hq.n;simp only [Z];omega) (by simp only [Z];omega)
  have zm:=cO (b:=2) (by decide) hq.n hdl
  have m2:=tK ((nth l i).num*d) (nth l i).den (by have:=(nth l i).den_nz;omega) (by simp only [Y];omega) (by have:=hq.d;simp only [Y];omega)
  have zq:Y (((nth l i).num*d).tdiv (nth l i).den):=BI (y:=(nth l i).num*d) (by simp only [Y];omega) (by rw [Int.natAbs_tdiv];exact Nat.div_le_self _ _)
  have m3:=x8 g (((nth l i).num*d).tdiv (nth l i).den) (by simp only [Y];omega) zq
  rw [←hs]at m3
  rw [UR]at m2
  generalize ((nth l i).num*d).tdiv (nth l i).den=nq at *
  generalize (nth l i).num*d=nd at *
  generalize pV:X4 d (l.take (i+1))=g2 at *
  generalize M4:nth l i=q at *
  refine jV ?_
  refine W.sr ?_
  simp (disch:=omega) [gw,M4]
  refine bN [0,2,4,6,7,36,37] ?_
  refine W.H7 (fun K hK=>?_)
  simp (disch:=omega) [gw,fM,lB,M4]
  refine aB m1 ?_
  simp (disch:=omega) [gw,fM,lB,M4]
  refine aB m2 ?_
  simp (disch:=omega) [gw,fM,lB,M4]
  refine aB m3 ?_
  simp (disch:=omega) [gw,fM,lB,M4]
  refine a9 (by kernel_rfl) ?_
  simp (disch:=omega) [gw]
  refine W.lw [0,2,4,6,36,37] hK ?_;clear hK K;simp
  refine W.cE (fun K hK=>?_);simp (disch:=omega) [gw]
  refine hK _ ⟨l.length-(i+1),_,aC _ [0,2,4,6,36,37],by omega,i+1,v6,g2,_,_,rfl,by simp [cC],by simp [fM],by simp,by omega,by omega,pV.symm⟩
 have hi:i=l.length:=by simp at h;omega
 subst hi
 rw [List.take_length]at hgv
 have hgl:=hg l.length
 rw [List.take_length]at hgl
 rw [←hgv]at hgl hqc
 have hMk:=jJ g d (by simp only [Y];omega) (by simp only [Y];omega)
 have hNg:=E4 (dR g d)
 have hQ:=E6 1 (US l) ⟨by show sz 2 1≤YY;exact Nat.le_trans (cQ (k:=1) (by decide) (by decide)) (by decide),by show sz 2 1≤YY;exact Nat.le_trans (cQ (k:=1) (by decide) (by decide)) (by decide)⟩ hc zY
 have hOf:=rD 1 1 (by decide) (by decide)
 rw [mJ,show(((1:Int)):Rat)=1 by simp]at hOf
 have hSc:=mA l (1/US l) ⟨fun q hq=>⟨Nat.le_trans (hl q hq).n hk,Nat.le_trans (hl q hq).d hk⟩,GS⟩ xI
 rw [show gL l (1/US l)=qpr l from rfl]at hSc
 have e1:((l.length:Int)-1).toNat=l.length-1:=by omega
 generalize qpr l=pr at *
 generalize kR:(1:Rat)=one at *
 generalize one/US l=ic at *
 generalize US l=cc at *
 generalize hqm:dR g d=c0 at *
 generalize M4:nth l (l.length-1)=q at *
 refine eV ?_
 refine W.sr ?_
 simp (disch:=omega) [gw,fM,lB]
 refine bU [0,2,8] hMk ?_
 refine W.gJ (fun σ=>∃(v8:Nat) (rows:Pm.Rows) (clk:Nat),σ=⟨fa [(0,PP l),(2, .ptr 2 0 0 0),(8, .ptr 8 v8 0 0)],rows,clk⟩∧rows 2=some ⟨0,31,4,[[.nil, .bool false, .nil, .bool false]]⟩∧rows 8=some ⟨v8,31,4,[re cc]⟩) ?_ ?_
 ·refine W.sr ?_
  simp (disch:=omega) [gw,e1,M4]
  refine bN [0,2,8,66] ?_
  refine W.adL (q.num<0) rfl (fun h=>?_) (fun h=>?_)
  ·rw [if_pos h]at hqc
   rw [←hqc]at hNg
   refine W.cE (fun K hK=>?_)
   simp (disch:=omega) [gw]
   refine bW hNg ?_
   exact hK _ ⟨_,aC _ [0,2,8],_,_,_,rfl,by simp [cC],by simp⟩
  ·rw [if_neg h]at hqc
   refine W.skip ?_
   exact⟨_,aC _ [0,2,8],_,_,_,rfl,by simp [cC],by simp [hqc]⟩
 clear cC fM lB rows clk
 rintro _ ⟨v8,rows,clk,rfl,cC,CK⟩
 refine W.sd ?_
 simp (disch:=omega) [gw,CK]
 refine aB hOf ?_
 simp (disch:=omega) [gw,CK]
 refine aB hQ ?_
 simp (disch:=omega) [gw,CK]
 refine aB hSc ?_
 simp (disch:=omega) [gw,cC,CK]
 refine bN [2,3] ?_
 exact b7
theorem LF(x:List Int)(hx:∀c∈x,Z c)(hl:x.length<1099511627776):aD env.P 33 [PI x] (Po x):=by
 refine b6 [(0,PI x)] Tryz.func33 ?_
 refine aA [0] ?_
 refine aA [0,3] ?_
 refine W.nil 3 3 38 2 (by simp) (by decide) (fun K hK=>?_)
 refine W.lw [0,3] hK ?_;clear hK K;simp
 refine aM [0,3,6,7] ?_
 refine W.block ?_
 refine W.bE (fun k σ=>∃(i ver:Nat) (rows:Pm.Rows) (clk:Nat),σ=⟨fa [(0,PI x),(3, .own 3 ver 0 i),(6, .int .i64 x.length),(7, .int .i64 i)],rows,clk⟩∧rows 3=some ⟨ver,38,2,emap ie (x.take i)⟩∧k=x.length-i∧i≤x.length) x.length ?_ ?_
 ·exact⟨_, .refl,0,_,_,_,rfl,by simp [emap],by omega,by omega⟩
 rintro k _ ⟨i,ver,rows,clk,rfl,hr,hk,hi⟩
 refine cB [0,3,6,7,8] ?_
 refine W.cond ⟨_,rfl,fun h0=>?_,fun h0=>?_⟩
 ·have h0:i<x.length:=by simp at h0;omega
  have gH:(x.take i).length=i:=by simp;omega
  have hT:=CZ (nth x i) (hx _ (bS h0))
  refine jV ?_
  refine aA [0,3,4,6,7] ?_
  refine W.cE (fun K hK=>?_)
  simp (disch:=omega) [gw]
  refine aB hT ?_
  simp (disch:=omega) [gw,hr,gH]
  refine W.lw [0,3,6,7] hK ?_;clear hK K;simp
  refine W.cE (fun K hK=>?_);simp (disch:=omega) [gw]
  refine hK _ ⟨x.length-(i+1),_,aC _ [0,3,6,7],by omega,i+1,_,_,_,rfl,?_,by omega,by omega⟩
  rw [aY h0]
  simp
 ·have kN:i=x.length:=by simp at h0;omega
  subst kN
  rw [List.take_length]at hr
  refine eV ?_
  refine W.sr ?_
  simp (disch:=omega) [gw,hr]
  refine bN [2] ?_
  refine W.ret ?_
  simp [go,hr]
theorem LG(x:List Int):CL (qs x)=1:=by
 have key:∀l:List Int,(qs l).foldl (fun (d:Int) q=>(d*q.den).tdiv (Int.gcd d q.den)) 1=1:=by
  intro l
  induction l with
  | nil=>rfl
  | cons a l ih =>
   simp only [qs,List.map_cons,List.foldl_cons,Rat.den_intCast]at ih ⊢
   exact ih
 exact key x
theorem aeL(x:List Int):X4 1 (qs x)=bV x:=by
 have key:∀(l:List Int) (g:Nat),(qs l).foldl (fun (g:Int) q=>(Int.gcd g ((q.num*1).tdiv q.den):Int)) g=(l.foldl (fun g c=>Nat.gcd g c.natAbs) g:Nat):=by
  intro l
  induction l with
  | nil=>intro g;rfl
  | cons a l ih =>
   intro g
   have:=ih (Nat.gcd g a.natAbs)
   simp only [qs,List.map_cons,List.foldl_cons,Rat.den_intCast,Rat.num_intCast]at this ⊢
   rw [←this]
   congr 1
   simp [Int.gcd]
 exact key x 0
theorem LH(x:List Int)(i:Nat):(qs x).take i=qs (x.take i):=by simp [qs,List.map_take]
theorem E9{x:List Int}(hx:0<x.length):US (qs x)=(mC x:Rat):=by
 have e:(nth (qs x) ((qs x).length-1)).num=lead x:=by rw [aet];simp [lead]
 unfold US mC
 rw [LG,aeL,mJ,e]
 split
 ·rw [Rat.intCast_neg]
 ·rfl
theorem aoZ{x:List Int}(cx:Cn x)(hx:x ≠ []):qpr (qs x)=qs (tO x):=by
 have pL:=List.length_pos_iff.2 hx
 have h0:=o0 x
 have gx:=c7 cx hx
 have hp:mC x≠0:=by omega
 have hc:=gP hp
 rw [qpr,E9 pL,gL,tO,←yA]
 congr 1
 simp only [qs,List.map_map]
 refine List.map_congr_left fun v hv=>?_
 simp only [Function.comp_apply]
 have hd:=LA x v hv
 obtain⟨w,rfl⟩:=hd
 have:k9 (mC x) (mC x*w)=w:=by
  unfold k9
  rw [if_pos (Int.mul_emod_right _ _)]
  exact Int.mul_ediv_cancel_left _ hp
 rw [this,Rat.intCast_mul]
 grind
theorem nO{x:List Int}{s:Nat}(hs:∀c∈x,sz 2 c≤s):sz 2 (bV x:Int)≤s:=by
 by_cases h:∃c∈x,c≠0
 ·obtain⟨c,hc,h0⟩:=h
  refine Nat.le_trans (cK (by decide) ?_) (hs c hc)
  have:=Int.le_of_dvd (a:=(bV x:Int)) (b:=(c.natAbs:Int)) (by omega) (Int.dvd_natAbs.2 (fD x _ hc))
  omega
 ·have h1:bV x=0:=by
   have h2:(0:Nat)∣bV x:=tN fun c hc=>by
    have:c=0:=Classical.byContradiction fun h3=>h ⟨c,hc,h3⟩
    rw [this];exact Int.dvd_refl _
   exact Nat.eq_zero_of_zero_dvd h2
  rw [h1];show sz 2 0≤s;rw [jO];omega
theorem FA(x:List Int){s n:Nat}(hx:Bd 2 s n x)(cx:Cn x)(sO:1≤s)(hs:s≤YY)(hn:n<1099511627776):aD env.P 168 [PI x] (.fE [.ag (ri (mC x)),PI (tO x)]):=by
 have hlx:=hx.len
 by_cases h0:x = []
 ·subst h0
  have hz:=qC
  rw [show mC ([]:List Int)=0 by decide,show tO ([]:List Int) = []from rfl]
  refine b6 [(0,PI [])] Tryz.func168 ?_
  refine aA [0,2] ?_
  refine aM [0,2,11] ?_
  refine bF ?_ ?_<;>intro h
  ·refine aJ [2,3] hz ?_
   refine W.ret ?_
   simp [go]
   all_goals rfl
  ·simp at h
 ·have pL:=List.length_pos_iff.2 h0
  have hp:=o0 x
  have gx:=c7 cx h0
  have hp0:mC x≠0:=by omega
  have hgs:∀i,sz 2 (bV (x.take i):Int)≤s:=fun i=>nO fun c hc=>hx.sz c (List.mem_of_mem_take hc)
  have BK:sz 2 (mC x)≤s:=by
   have:=nO hx.sz
   unfold mC;split
   ·rw [pK];exact this
   ·exact this
  have s1:sz 2 1≤1:=cQ (by decide) (by decide)
  have zc:ZR YY (mC x:Rat):=pN (Nat.le_trans BK hs) (by decide)
  have e1:(1:Rat)/(mC x:Rat)=dR 1 (mC x):=by rw [fH hp0];simp
  have:=tQ (qs x) hs sO (fun q hq=>by
   simp only [qs,List.mem_map]at hq
   obtain⟨c,hc,rfl⟩:=hq
   exact pN (hx.sz c hc) sO) (by simp;omega) (by simpa [qs]using h0)
   (fun i=>by rw [LH,LG];omega) (fun i=>by rw [LH,LG];decide) (fun i=>by rw [LG,LH,aeL];exact hgs i)
   (by rw [E9 pL];exact zc) (by rw [E9 pL];exact gP hp0) (by rw [E9 pL,e1];exact tP hp0 (by show sz 2 1≤137438953472;omega) (Nat.le_trans BK hs))
  rw [E9 pL,aoZ cx h0,nB,nB,RR,gK]at this
  exact this
theorem aa4{D a b:Nat}(hD:0<D)(ha:a∣D)(hb:b∣D):Nat.lcm (D/a) (D/b)=D/Nat.gcd a b:=by
 have ha0:0<a:=Nat.pos_of_dvd_of_pos ha hD
 have hb0:0<b:=Nat.pos_of_dvd_of_pos hb hD
 have hg:0<Nat.gcd a b:=Nat.gcd_pos_of_pos_left _ ha0
 obtain⟨a',b',hc,ea,eb⟩:=Nat.exists_coprime a b
 generalize Nat.gcd a b=g at *
 obtain⟨p,hp⟩:=ha
 obtain⟨q,hq⟩:=hb
 have h1:a'*p=b'*q:=by
  have:g*(a'*p)=g*(b'*q):=by rw [ea]at hp;rw [eb]at hq;grind
  exact Nat.eq_of_mul_eq_mul_left hg this
 have h2:a'∣q:=hc.dvd_of_dvd_mul_left (by rw [←h1];exact Nat.dvd_mul_right _ _)
 obtain⟨m,rfl⟩:=h2
 have aAg:0<a':=by
  rcases Nat.eq_zero_or_pos a' with h | h
  ·rw [h]at ea;omega
  ·exact h
 have h3:p=b'*m:=by
  have:a'*p=a'*(b'*m):=by rw [h1];grind
  exact Nat.eq_of_mul_eq_mul_left aAg this
 subst h3
 have e1:D/a=b'*m:=by rw [hp];exact Nat.mul_div_cancel_left _ ha0
 have e2:D/b=a'*m:=by rw [hq];exact Nat.mul_div_cancel_left _ hb0
 have e3:D/g=a'*b'*m:=by
  rw [hp,ea,show a'*g*(b'*m)=g*(a'*b'*m)by grind]
  exact Nat.mul_div_cancel_left _ hg
 rw [e1,e2,e3,Nat.lcm_mul_right,Nat.lcm_comm,Nat.lcm,show a'.gcd b'=1 from hc,Nat.div_one]
theorem aeM(n:Nat)(q:Rat):((n:Int)*q.den).tdiv (Int.gcd n q.den)=(Nat.lcm n q.den:Nat):=by
 have:Int.gcd (n:Int) (q.den:Int)=Nat.gcd n q.den:=rfl
 rw [this,←Int.natCast_mul,←Int.ofNat_tdiv]
 rfl
theorem tR{v:Int}{D:Nat}(hD:0<D):(dR v D).den=D/Nat.gcd D v.natAbs:=by
 have h:=rC v D (by omega)
 have h2:¬(D:Int)<0:=by omega
 simp only [h2,if_false]at h
 have:Int.gcd v (D:Int)=Nat.gcd D v.natAbs:=by rw [Int.gcd,Nat.gcd_comm];rfl
 rw [this]at h
 exact_mod_cast h
theorem BN{v:Int}{D:Nat}(hD:0<D):(dR v D).num=v/(Nat.gcd D v.natAbs:Nat):=by
 have h:=rB v D (by omega)
 have h2:¬(D:Int)<0:=by omega
 simp only [h2,if_false]at h
 have:Int.gcd v (D:Int)=Nat.gcd D v.natAbs:=by rw [Int.gcd,Nat.gcd_comm];rfl
 rw [this]at h
 exact h
def PW(D:Nat)(x:List Int):Nat:=Nat.gcd D (bV x)
theorem z8{D:Nat}(hD:0<D)(x:List Int):CL (qd x D)=(D/PW D x:Nat):=by
 have key:∀(l:List Int) (g:Nat),g∣D→(qd l D).foldl (fun (d:Int) q=>(d*q.den).tdiv (Int.gcd d q.den)) (D/g:Nat)=(D/(l.foldl (fun g c=>Nat.gcd g c.natAbs) g):Nat):=by
  intro l
  induction l with
  | nil=>intro g _;rfl
  | cons a l ih =>
   intro g hg
   have h1:=ih (Nat.gcd g a.natAbs) (Nat.dvd_trans (Nat.gcd_dvd_left _ _) hg)
   simp only [qd,List.map_cons,List.foldl_cons]at h1 ⊢
   rw [aeM,tR hD,aa4 hD hg (Nat.gcd_dvd_left _ _)]
   rw [show Nat.gcd g (Nat.gcd D a.natAbs)=Nat.gcd g a.natAbs by rw [←Nat.gcd_assoc,Nat.gcd_eq_left hg]]
   exact h1
 have h2:∀(l:List Int) (g:Nat),l.foldl (fun g c=>Nat.gcd g c.natAbs) g=Nat.gcd g (bV l):=by
  intro l
  unfold bV
  induction l with
  | nil=>intro g;simp
  | cons a l ih =>
   intro g
   simp only [List.foldl_cons]
   rw [ih,ih (Nat.gcd 0 a.natAbs),Nat.gcd_zero_left,Nat.gcd_assoc]
 have h3:=key x D (Nat.dvd_refl _)
 rw [Nat.div_self hD,h2]at h3
 exact h3
theorem aeN{D:Nat}(hD:0<D)(x:List Int){G:Nat}(hG:G∣D)(hx:∀c∈x,(G:Int)∣c):X4 (D/G:Nat) (qd x D)=(bV x/G:Nat):=by
 have hG0:0<G:=Nat.pos_of_dvd_of_pos hG hD
 have key:∀(l:List Int) (g:Nat),(∀c∈l,(G:Int)∣c)→G∣g→(qd l D).foldl (fun (g:Int) q=>(Int.gcd g ((q.num*((D/G:Nat):Int)).tdiv q.den):Int)) (g/G:Nat)=((l.foldl (fun g c=>Nat.gcd g c.natAbs) g)/G:Nat):=by
  intro l
  induction l with
  | nil=>intro g _ _;rfl
  | cons a l ih =>
   intro g hl hg
   have ha:G∣a.natAbs:=Int.ofNat_dvd_left.1 (hl a (by simp))
   have h1:=ih (Nat.gcd g a.natAbs) (fun c hc=>hl c (by simp [hc])) (Nat.dvd_gcd hg ha)
   simp only [qd,List.map_cons,List.foldl_cons]at h1 ⊢
   have e:((dR a D).num*((D/G:Nat):Int)).tdiv (dR a D).den=a/(G:Int):=by
    rw [BN hD,tR hD]
    have K5:Nat.gcd D a.natAbs∣D:=Nat.gcd_dvd_left _ _
    have M0:Nat.gcd D a.natAbs∣a.natAbs:=Nat.gcd_dvd_right _ _
    have hgp:0<Nat.gcd D a.natAbs:=Nat.gcd_pos_of_pos_left _ hD
    generalize Nat.gcd D a.natAbs=k at *
    obtain⟨m,hm⟩:=K5
    obtain⟨n,hn⟩:(k:Int)∣a:=Int.ofNat_dvd_left.2 M0
    obtain⟨p,hp⟩:=hG
    obtain⟨r,hr⟩:=hl a (by simp)
    have R4:0<m:=by
     rcases Nat.eq_zero_or_pos m with h | h
     ·rw [h]at hm;omega
     ·exact h
    rw [show a/(k:Int)=n by rw [hn];exact Int.mul_ediv_cancel_left _ (by omega),show D/G=p by rw [hp];exact Nat.mul_div_cancel_left _ hG0,show D/k=m by rw [hm];exact Nat.mul_div_cancel_left _ hgp,
     show a/(G:Int)=r by rw [hr];exact Int.mul_ediv_cancel_left _ (by omega)]
    have e2:n*(p:Int)=m*r:=by
     have hDI:(k:Int)*m=G*p:=by exact_mod_cast hm.symm.trans hp
     have hk:(k:Int)*n=G*r:=hn.symm.trans hr
     have zI:(k:Int)≠0:=by omega
     have hG1:(G:Int)≠0:=by omega
     have:(k:Int)*G*(n*p)=k*G*(m*r):=by
      have e3:(k:Int)*G*(n*p)=(k*n)*(G*p):=by grind
      rw [e3,hk,←hDI];grind
     exact Int.eq_of_mul_eq_mul_left (Int.mul_ne_zero zI hG1) this
    rw [e2]
    exact Int.mul_tdiv_cancel_left _ (by omega)
   rw [e,show Int.gcd ((g/G:Nat):Int) (a/(G:Int))=Nat.gcd g a.natAbs/G from ?_]
   ·exact h1
   ·rw [Int.gcd,Int.natAbs_natCast,←Nat.gcd_div hg ha]
    congr 1
    obtain⟨r,hr⟩:=hl a (by simp)
    rw [hr,Int.mul_ediv_cancel_left _ (show (G:Int)≠0 by omega),Int.natAbs_mul,Int.natAbs_natCast,Nat.mul_div_cancel_left _ hG0]
 have:=key x 0 hx (Nat.dvd_zero _)
 rw [Nat.zero_div]at this
 exact this
theorem yF(D:Nat)(x:List Int):PW D x∣D:=Nat.gcd_dvd_left _ _
theorem X5{D:Nat}(hD:0<D)(x:List Int):0<PW D x:=Nat.gcd_pos_of_pos_left _ hD
theorem X6(D:Nat)(x:List Int):∀c∈x,((PW D x:Nat):Int)∣c:=fun c hc=>Int.dvd_trans (Int.ofNat_dvd.2 (Nat.gcd_dvd_right _ _)) (fD x c hc)
theorem BO{v:Int}{D:Nat}(hD:0<D):(dR v D).num<0↔v<0:=by
 rw [BN hD]
 have hg:0<Nat.gcd D v.natAbs:=Nat.gcd_pos_of_pos_left _ hD
 obtain⟨n,hn⟩:((Nat.gcd D v.natAbs:Nat):Int)∣v:=Int.ofNat_dvd_left.2 (Nat.gcd_dvd_right _ _)
 generalize Nat.gcd D v.natAbs=g at *
 rw [hn,Int.mul_ediv_cancel_left _ (show (g:Int)≠0 by omega)]
 constructor
 ·intro h;exact Int.mul_neg_of_pos_of_neg (by omega) h
 ·intro h
  rcases Int.lt_or_le n 0 with h1 | h1
  ·exact h1
  ·have:=Int.mul_nonneg (show (0:Int)≤g by omega) h1
   omega
theorem aeO{D:Nat}(hD:0<D){x:List Int}(hx:0<x.length):US (qd x D)=dR (mC x) D:=by
 have vA:(D:Int)≠0:=by omega
 have e:(nth (qd x D) ((qd x D).length-1)).num<0↔lead x<0:=by
  rw [LC vA,BO hD];simp [lead]
 have hG:=X5 hD x
 have e2:dR (X4 (CL (qd x D)) (qd x D)) (CL (qd x D))=dR (bV x) D:=by
  rw [z8 hD,aeN hD x (yF D x) (X6 D x)]
  have h1:D/PW D x*PW D x=D:=Nat.div_mul_cancel (yF D x)
  have h2:bV x/PW D x*PW D x=bV x:=Nat.div_mul_cancel (Nat.gcd_dvd_right _ _)
  have h3:0<D/PW D x:=Nat.div_pos (Nat.le_of_dvd hD (yF D x)) hG
  have h4:=XZ (v:=(bV x/PW D x:Nat)) (D:=(D/PW D x:Nat)) (l:=(PW D x:Nat)) (by omega) (by omega)
  rw [←Int.natCast_mul,←Int.natCast_mul,h1,h2]at h4
  exact h4.symm
 unfold US mC
 rw [e2]
 by_cases h:lead x<0
 ·rw [if_pos (e.2 h),if_pos h,←X0 vA];grind
 ·rw [if_neg (fun h2=>h (e.1 h2)),if_neg h]
theorem X7{v D:Int}(hD:D≠0)(hv:v≠0):1/dR v D=dR D v:=by
 rw [fH hD,fH hv]
 have h1:=gP hD
 have h2:=gP hv
 grind
theorem UT{x:List Int}(cx:Cn x)(hx:x ≠ []):mC x≠0:=by
 have h0:=o0 x
 have gx:=c7 cx hx
 omega
theorem ao1{D:Nat}(hD:0<D){x:List Int}(cx:Cn x)(hx:x ≠ []):qpr (qd x D)=qs (tO x):=by
 have pL:=List.length_pos_iff.2 hx
 have vA:(D:Int)≠0:=by omega
 have hp:=UT cx hx
 have hc:=gP hp
 have hDc:=gP vA
 rw [qpr,aeO hD pL,X7 vA hp,gL,tO,←yA]
 congr 1
 simp only [qd,qs,List.map_map]
 refine List.map_congr_left fun v hv=>?_
 simp only [Function.comp_apply]
 obtain⟨w,rfl⟩:=LA x v hv
 have:k9 (mC x) (mC x*w)=w:=by
  unfold k9
  rw [if_pos (Int.mul_emod_right _ _)]
  exact Int.mul_ediv_cancel_left _ hp
 rw [this,fH vA,fH hp,Rat.intCast_mul]
 grind
theorem PY(x:List Int):kK x=if lead x<0 then fU (tO x)else tO x:=by
 unfold tO mC
 split
 ·have e:∀v,k9 (-(bV x:Int)) v = - k9 (bV x) v:=fun v=>by
   unfold k9
   rw [Int.emod_neg,Int.ediv_neg]
   split<;>simp
  refine Cn.ext (Cn.cut _) (Cn.fU _) fun t=>?_
  rw [wF,dF,kK,dF]
  have h1:=iN (t:=t) (-1) (k9 (bV x)) x
  have h2:(x.map fun v=>k9 (bV x) v * -1)=x.map (k9 (-(bV x:Int))):=List.map_congr_left fun v _=>by rw [e];omega
  rw [h2]at h1
  rw [h1];omega
 ·rfl
theorem UU(x:List Int)(D:Nat)(hD:0<D){s n:Nat}(hx:Bd 2 s n x)(sD:sz 2 D≤s)(cx:Cn x)(h0:x ≠ [])(sO:1≤s)(hs:s≤YY)(hn:n<1099511627776) :
  aD env.P 168 [PP (qd x D)] (.fE [RR (dR (mC x) D),PI (tO x)]):=by
 have vA:(D:Int)≠0:=by omega
 have pL:=List.length_pos_iff.2 h0
 have hp:=UT cx h0
 have hlen:=hx.len
 have sdiv:∀(a b:Nat),sz 2 (a:Int)≤s→sz 2 ((a/b:Nat):Int)≤s:=fun a b h=>Nat.le_trans (cK (by decide) (by rw [Int.natAbs_natCast,Int.natAbs_natCast];exact Nat.div_le_self a b)) h
 have spc:sz 2 (mC x)≤s:=by
  have:=nO hx.sz
  refine Nat.le_trans (cK (by decide) (Nat.le_of_eq ?_)) this
  rw [o0];rfl
 have tk:∀i,(qd x D).take i=qd (x.take i) D:=fun i=>by simp [qd,List.map_take]
 have hc:=aeO hD pL
 have h1:=tQ (qd x D) (k:=s) hs sO (fun q hq=>by
   simp only [List.mem_map]at hq
   obtain⟨v,hv,rfl⟩:=hq
   exact tP vA (hx.sz v hv) sD) (by simp;omega) (by simpa using h0)
  (fun i=>by rw [tk,z8 hD];exact sdiv _ _ sD)
  (fun i=>by
   rw [tk,z8 hD]
   have:=Nat.div_pos (Nat.le_of_dvd hD (yF D (x.take i))) (X5 hD _)
   omega)
  (fun i=>by
   rw [tk,z8 hD,aeN hD (x.take i) (yF D x) (fun c hc=>X6 D x c (List.mem_of_mem_take hc))]
   exact sdiv _ _ (nO fun c hc=>hx.sz c (List.mem_of_mem_take hc)))
  (by rw [hc];exact tP vA (Nat.le_trans spc hs) (Nat.le_trans sD hs))
  (by rw [hc];exact fun h=>hp ((BM vA).1 h))
  (by rw [hc,X7 vA hp];exact tP hp (Nat.le_trans sD hs) (Nat.le_trans spc hs))
 rw [hc,ao1 hD cx h0,nB]at h1
 exact h1
theorem aeP{x:List Int}{s n:Nat}(hx:Bd 2 s n x):Bd 2 s n (tO x):=Bd.cut ⟨by simpa using hx.len,fun c hc=>by
 simp only [List.mem_map]at hc
 obtain⟨v,hv,rfl⟩:=hc
 refine Nat.le_trans (cK (by decide) ?_) (hx.sz v hv)
 unfold k9
 split
 ·exact Int.natAbs_ediv_le_natAbs _ _
 ·simp⟩
theorem PZ(x:List Int)(D:Nat)(hD:0<D){s n:Nat}(hx:Bd 2 s n x)(sD:sz 2 D≤s)(cx:Cn x)(sO:1≤s)(hs:s≤YY)(hn:n<1099511627776) :
  aD env.P 171 [PP (qd x D)] (PI (kK x)):=by
 have vA:(D:Int)≠0:=by omega
 have bp:=aeP hx
 have hN:=IM (tO x) (bp.mono hs (by omega))
 rw [PY]
 have hP:∃q:Rat,aD env.P 168 [PP (qd x D)] (.fE [RR q,PI (tO x)])∧(q.num<0↔lead x<0):=by
  by_cases h0:x = []
  ·subst h0
   refine⟨(mC []:Int),?_,?_⟩
   ·have:=FA [] hx cx sO hs hn
    rw [RR,gK]
    exact this
   ·rw [show mC ([]:List Int)=0 by decide];decide
  ·refine⟨_,UU x D hD hx sD cx h0 sO hs hn,?_⟩
   rw [BO hD]
   have gx:=c7 cx h0
   unfold mC
   split<;>omega
 obtain⟨q,hP,hq⟩:=hP
 generalize tO x=y at *
 generalize qd x D=l at *
 refine b6 [(0,PP l)] Tryz.func171 ?_
 refine aA [0] ?_
 refine aJ [3,4] hP ?_
 refine aM [4,12] ?_
 refine bF ?_ ?_<;>intro h
 ·simp at h
  rw [if_pos (hq.1 h)]
  refine aJ [2] hN ?_
  exact b7
 ·have h:¬q.num<0:=by simpa using h
  rw [if_neg (fun h2=>h (hq.2 h2))]
  refine W.skip ?_
  refine aA [2] ?_
  exact b7
end Go.Proofs.YtelhfbikiccfkaaGreat
namespace Pm
open Go Go.RowKit
section
variable {E:Env} {c:Cx} {w0:World} {S0:eG} {m:Nat} {G:Gs}
theorem aiW(hI:Inv w0 S0 c){t e:TypeId}{n bb len:Nat}{z:List PV}(hE:E.ty t = .slice e n bb z){parts:Array (Nat × Operand)}{ρ:Operand→PV}{vρ:Operand→Value}(hρ:∀x,aO c (ρ x) (vρ x))
  {els:List (List PV)} (xH:iS n 0 (parts.toList.map fun x=>(x.1,ρ x.2))=some els) (hlen:len=els.length) (hsm:len≤4096) (hn:n≤4096)
  (kR:∀e∈els,∀p∈e,jF c.rows p) :
  ∃dC,(Instr.buildSlice t len (parts.map fun(i,x)=>(i,vρ x))).run E.P c.w = .ok (.slice (some ⟨c.w.heap.size,0,none⟩) len len) (c.w.alloc (.cells dC e))∧dC.size=len*n∧bO (aV c) els.flatten dC.toList∧(∀u∈dC.toList,u.oneCell'=true)∧(∀e∈els,e.length=n)∧0<n:=by
 obtain⟨hu,hnp,JZ,i,zv,hi,hz,hs,_,SX,_⟩:=gF hE
 obtain⟨g1,g2,g3⟩:=pH xH
 have WV:parts.size=els.length:=by rw [g1];simp
 have ax8:zv.cells.size=n:=by rw [←JZ,←SX];simp
 have HR:∀j (x:Nat × Value),((parts.map fun(i,x)=>(i,vρ x)).toList)[j]? = some x→x.1=0+j ∧ ∃e,els[j]? = some e∧bO (aV c) e x.2.cells.toList ∧ ∀u∈x.2.cells.toList,u.oneCell'=true:=by
  intro j x hx
  simp at hx
  obtain⟨a,b,gW,rfl⟩:=hx
  obtain⟨q1,e,q2,q3⟩:=g3 j (a,ρ b) (by simp;exact⟨a,b,gW,rfl,rfl⟩)
  have q4:=n3 (hρ b) q3 (fun q hq=>kR e (List.mem_of_getElem? q2) q hq)
  exact⟨q1,e,q2,q4.1,q4.2⟩
 obtain⟨dC,f1,f2⟩:=DT (n:=n) (parts.map fun(i,x)=>(i,vρ x)).toList 0 ((Array.range (len*n)).map (zv.cells[· % zv.cells.size]!)) (fun j x hx=>by
  obtain⟨q1,e,q2,q3,_⟩:=HR j x hx
  refine⟨q1,?_⟩
  have:=q3.length
  rw [g2 e (List.mem_of_getElem? q2)]at this
  simpa using this.symm) (by simp [WV,hlen])
 simp only [Nat.zero_mul,List.take_zero,List.nil_append]at f2
 have kS:(Instr.buildSlice t len (parts.map fun(i,x)=>(i,vρ x))).run E.P c.w = .ok (.slice (some ⟨c.w.heap.size,0,none⟩) len len) (c.w.alloc (.cells dC e)):=by
  have hbound:¬(16777216<len*n):=by
   have:len*n≤4096*4096:=Nat.mul_le_mul hsm hn
   omega
  by_cases h0:len*n=0
  ·have CC:len=0:=by
    rcases Nat.mul_eq_zero.1 h0 with h | h
    ·exact h
    ·omega
   have hp0:parts = #[]:=Array.eq_empty_of_size_eq_zero (by omega)
   subst hp0
   subst CC
   simp [Instr.fill]at f1
   subst f1
   have MZ:Array.range 0 = #[]:=rfl
   simp [Instr.buildSlice,run_underlying hu,dW hi,newRow,Instr.fill,MZ]
  ·have f1':Instr.fill (fun i=>some (i*n,n)) ((Array.range (len*n)).map (zv.cells[· % zv.cells.size]!)) (parts.toList.map fun x=>(x.1,vρ x.2))=some dC:=by simpa using f1
   simp only [Instr.buildSlice,Sem.run_bind,run_underlying hu,Result.andThen_ok,dW hi,hs]
   simp [h0,hbound,newRow,zeroValue,typeInfo,hi,hz,f1']
 have e3:dC.toList=((parts.map fun(i,x)=>(i,vρ x)).toList.map fun x=>x.2.cells.toList).flatten:=by rw [f2,List.flatMap_def]
 have key:∀(vs:List (Nat × Value)) (es:List (List PV)),vs.length=es.length→(∀(j:Nat) (x:Nat × Value),vs[j]? = some x → ∃e,es[j]? = some e∧bO (aV c) e x.2.cells.toList ∧ ∀u∈x.2.cells.toList,u.oneCell'=true) →
   bO (aV c) es.flatten (vs.map fun x=>x.2.cells.toList).flatten ∧ ∀u∈(vs.map fun x=>x.2.cells.toList).flatten,u.oneCell'=true:=by
  intro vs
  induction vs with
  | nil =>
   intro es hl _
   have:es = []:=List.eq_nil_of_length_eq_zero hl.symm
   subst this
   exact⟨trivial,by simp⟩
  | cons v vs ih =>
   intro es hl h
   match es,hl with
   | e::es,hl =>
    obtain⟨h1,h2⟩:=ih es (by simpa using hl) fun j x hx=>by simpa using h (j+1) x (by simpa using hx)
    obtain⟨e',q1,q2,q3⟩:=h 0 v (by simp)
    simp at q1;subst q1
    simp only [List.flatten_cons,List.map_cons]
    refine⟨bO.append q2 h1,fun u hu=>?_⟩
    rcases List.mem_append.1 hu with hu | hu
    ·exact q3 u hu
    ·exact h2 u hu
 obtain⟨k1,k2⟩:=key (parts.map fun(i,x)=>(i,vρ x)).toList els (by simp [WV]) fun j x hx=>(HR j x hx).2
 rw [←e3]at k1 k2
 refine⟨dC,kS,?_,k1,k2,g2,hnp⟩
 have h5:=k1.length
 have fl:∀ {l:List (List PV)},(∀e∈l,e.length=n)→l.flatten.length=l.length*n:=by
  intro l
  induction l with
  | nil=>intro _;simp
  | cons e l ih=>intro h;rw [List.flatten_cons,List.length_append,ih (fun e he=>h e (by simp [he])),h e (by simp),List.length_cons,Nat.add_mul];omega
 rw [fl g2,Array.length_toList]at h5
 rw [hlen];exact h5.symm
def G8(E:Env)(o:Oper)(K:PS→Prop)(σ:PS):Prop:=
 match o.op with
 | .buildSlice t len parts =>
  match E.ty t with
  | .slice e n _ _=>∃els,iS n 0 (parts.toList.map fun x=>(x.1,aX σ.f x.2))=some els∧len=els.length∧len≤4096∧n≤4096∧(∀x∈els,∀p∈x,jF σ.rows p) ∧
    J0 K σ o.dst (.own (o.dst.getD 0) σ.clock 0 els.length) (o.dst.getD 0) e n els
  | _=>False
 | _=>False
theorem wP{o:Oper}{a:Act}{w:World}{σ:PS}{K:PS→Prop}(h:G8 E o K σ)(hR:Rel w0 S0 m G σ a w)(hd:∀t,o.dst=some t→t<m)
  {K':Act→World→Prop} {Q:Exit→Act→World→Prop} (hK:∀σ' a' w',K σ'→Rel w0 S0 m G σ' a' w'→K' a' w'):o.wp E.P a w K' Q:=by
 obtain⟨⟨c,rfl,hr,gH,hI,hf,hG⟩,hn,gG⟩:=hR
 have hρ:=nI hf
 obtain⟨dst,op,type,pos,after,guard⟩:=o
 simp only at hd
 unfold G8 at h
 simp only at h
 split at h
 ·rename_i t len parts
  split at h
  ·rename_i e n b z hE
   obtain⟨els,h1,h2,h3,h4,h5,h⟩:=h
   rw [←hr]at h5
   obtain⟨dC,g1,g2,g3,g4,g5,g6⟩:=aiW hI hE hρ h1 h2 h3 h4 h5
   obtain⟨zE,hA⟩:=zO hI (ver:=σ.clock) (fun hu=>Nat.lt_irrefl _ (gH _ hu)) (dst.getD 0) e n els.length els.length els dC rfl (Nat.le_refl _) (by simp only [maxLen];omega) (by rw [g2,h2]) (by
    rw [List.take_of_length_le (by rw [Array.length_toList,g2,h2];exact Nat.le_refl _)];exact g3) g4 g5 g6
   obtain⟨f',rows',zB,DW⟩:=sY (K:=fun f' r'=>K ⟨f',r',σ.clock+1⟩) hr gH hf hG hn gG h zE hA (mL (r:=⟨σ.clock,e,n,els⟩) (A:=some ⟨c.w.heap.size,0,none⟩) (cap:=els.length) (by simp [eQ]) rfl (Or.inl rfl) (by simp [eQ])) hd
   unfold Oper.wp
   have:(execOp a.eval { dst:=dst,op:=.buildSlice t len parts,type:=type,pos:=pos,after:=after,guard:=guard }).run E.P c.w = .ok (.value (.slice (some ⟨c.w.heap.size,0,none⟩) els.length els.length)) (c.w.alloc (.cells dC e)):=by
    rw [h2]at g1
    simp only [execOp,Sem.run_bind,h2,g1,Result.andThen_ok,Sem.run_pure]
   rw [this]
   refine hK _ _ _ zB (DW.mono fun v hv=>?_)
   show v<σ.clock+1
   rcases hv with rfl | hv
   ·omega
   ·have:v<σ.clock:=hv
    omega
  ·exact h.elim
 ·exact h.elim
theorem o6{ops:Array Oper}{K:PS→Prop}{Q:Exit→Act→World→Prop}{l2:List Oper}(hK:∀σ' a' w',K σ'→Rel w0 S0 m G σ' a' w'→wpList E.P ops Q l2 a' w') :
  ∀(l:List Oper) (σ:PS) (a:Act) (w:World),(∀o∈l,∀t,o.dst=some t→t<m)→aQ E ops.toList l K σ→Rel w0 S0 m G σ a w→wpList E.P ops Q (l++l2) a w
 | [],σ,a,w,_,h,hR=>hK _ _ _ h hR
 | o::os,σ,a,w,hd,h,hR=>by
  have hdo:=hd o (by simp)
  have hds:∀o∈os,∀t,o.dst=some t→t<m:=fun o ho=>hd o (by simp [ho])
  have wanted:∀ {σ},fN E o (aQ E ops.toList os K) σ→Rel w0 S0 m G σ a w→o.wp E.P a w (wpList E.P ops Q (os++l2)) Q:=fun hp hR =>
   A9 hp hR hdo fun σ' a' w' hk mM=>o6 hK os σ' a' w' hds hk mM
  show wpList E.P ops Q (o::(os++l2)) a w
  unfold wpList
  simp only [aQ]at h
  split at h
  ·rename_i hg
   rw [if_pos (by simp [Region.wanted,hg])]
   exact .inl (wanted h hR)
  ·rename_i j want hg
   split at h
   ·exact h.elim
   ·rename_i d M0
    have hd3:(ops[j]?).bind (·.dst)=some d:=by simpa using M0
    have skip:yielded ops a.tmps j≠some want→aQ E ops.toList os K (σ.put o.dst (.fE []))→(if Region.wanted o (yielded ops a.tmps)=true then o.wp E.P a w (wpList E.P ops Q (os++l2)) Q∨(o.asks E.P a w∧LetsOut Q)else wpList E.P ops Q (os++l2) (a.put o.dst undef) w):=by
     intro hy h2
     rw [if_neg (by simpa [Region.wanted,hg]using hy)]
     refine o6 hK os _ _ w hds h2 ?_
     obtain⟨⟨c,rfl,hr,gH,hI,hf,hG⟩,hn,gG⟩:=hR
     exact oU hf hG hn gG (vT.refl c) hI S9 hdo rfl (by simp [PS.put,hr]) gH
    obtain⟨c,_,_,_,_,hf,_⟩:=hR.ex
    have hx:=hf d
    rcases h with ⟨h1,h2⟩ | ⟨h1 | h1,h2⟩
    ·rw [h1]at hx
     rw [if_pos (by simp [Region.wanted,hg,iY hd3 hx])]
     exact .inl (wanted h2 hR)
    ·rw [h1]at hx
     exact skip (by rw [iY hd3 hx];cases want<;>simp) h2
    ·rw [h1]at hx
     exact skip (by rw [wC hd3 hx];simp) h2
end
theorem W.X8{E:Env}{n:Nat}{tl:Nat→Nat}{Q:PX→PS→Prop}{σ:PS}{id:Nat}{ops:List Oper}{y:Code}(i:Nat){o:Oper}(ho:ops=ops.take i++o::ops.drop (i+1))(hg:o.guard=none)
  (h:∀K:PS→Prop,(∀σ,W E n tl y Q σ→K σ)→go (aQ E ops (ops.take i) (fun σ=>G8 E o (aQ E ops (ops.drop (i+1)) K) σ) σ)):W E n tl (.seq (.region id ops.toArray false) y) Q σ:=by
 refine W.seq ?_
 intro iI w0 S0 G a w Q' hR hQ
 simp only [fO,s6,Bool.and_eq_true]at iI
 have hd:∀o∈ops,∀t,o.dst=some t→t<n:=fun o ho t ht=>by
  have:=Array.all_eq_true_iff_forall_mem.1 iI.1 o (by simpa using ho)
  simpa [ht]using this
 refine wp_region_list ?_
 show wpList E.P ops.toArray Q' ops a w
 have h1:=h (fun σ=>W E n tl y Q σ) fun _ h=>h
 have vZ:o∈ops:=by rw [ho];simp
 have:=o6 (E:=E) (w0:=w0) (S0:=S0) (m:=n) (G:=G) (ops:=ops.toArray) (Q:=Q') (l2:=o::ops.drop (i+1)) (K:=fun σ=>G8 E o (aQ E ops (ops.drop (i+1)) (fun σ=>W E n tl y Q σ)) σ) (fun σ' a' w' hl mM=>by
  unfold wpList
  rw [if_pos (by simp [Region.wanted,hg])]
  refine .inl (wP hl mM (hd o vZ) fun σ2 a2 w2 hk hR2=>?_)
  exact iT (E:=E) (ops:=ops.toArray) (fun σ3 a3 w3 hk3 hR3=>hQ .normal σ3 a3 w3 hk3 hR3) _ σ2 a2 w2 (fun o ho=>hd o (List.mem_of_mem_drop ho)) hk hR2) (ops.take i) σ a w (fun o ho=>hd o (List.mem_of_mem_take ho)) h1 hR
 rwa [←ho]at this
def FB(ti:TI)(rows:Rows)(len:Nat)(ps:List (Nat × PV))(K:TypeId→Nat→List (List PV)→Prop):Prop:=
 match ti with
 | .slice e n _ _=>jU n 0 ps fun els=>aK (len=els.length∧len≤4096∧n≤4096∧iU rows els.flatten) (K e n els)
 | _=>False
@[congr] theorem aiX{t t':TI}{rows rows':Rows}{len:Nat}{ps XD:List (Nat × PV)}{K:TypeId→Nat→List (List PV)→Prop}(h:t=t')(h2:ps=XD)(h3:rows=rows'):FB t rows len ps K=FB t' rows' len XD K:=by rw [h,h2,h3]
@[simp] theorem aiY{e n b:Nat}{z:List PV}{rows:Rows}{len:Nat}{ps:List (Nat × PV)}{K:TypeId→Nat→List (List PV)→Prop}:FB (.slice e n b z) rows len ps K=jU n 0 ps fun els=>aK (len=els.length∧len≤4096∧n≤4096∧iU rows els.flatten) (K e n els):=rfl
@[simp] theorem axu{E:Env}{K:PS→Prop}{f:Nat→PV}{rows:Rows}{clk:Nat}{d:Option Tmp}{ty:TypeId}{pos:String}{af:Array Edge}{t:TypeId}{len:Nat}{parts:Array (Nat × Operand)} :
  G8 E ⟨d, .buildSlice t len parts,ty,pos,af,none⟩ K ⟨f,rows,clk⟩=FB (E.ty t) rows len (parts.toList.map fun x=>(x.1,aX f x.2)) fun e n els=>K ⟨put f d (.own (d.getD 0) clk 0 els.length),eQ rows (d.getD 0) (some ⟨clk,e,n,els⟩),clk+1⟩:=by
 simp only [G8,FB]
 generalize E.ty t=T
 cases T with
 | slice e n b z =>
  simp only
  rw [←zS]
  simp only [aK,J0,iU]
  apply propext
  constructor
  ·rintro⟨els,h1,h2,h3,h4,h5,h6⟩
   exact⟨els,h1,⟨h2,h3,h4,fun q hq=>by obtain⟨x,hx,hq⟩:=List.mem_flatten.1 hq;exact h5 x hx q hq⟩,h6⟩
  ·rintro⟨els,h1,⟨h2,h3,h4,h5⟩,h6⟩
   exact⟨els,h1,h2,h3,h4,fun x hx q hq=>h5 q (List.mem_flatten.2 ⟨x,hx,hq⟩),h6⟩
 | _=>rfl
end Pm
namespace Go.Proofs.YtelhfbikiccfkaaGreat
open Go Pm
theorem IU(x:List Int)(c:Int)(hx:PD x)(hc:sz LL c<1099511627774)(h0:c≠0):aD env.P 260 [Po x,I c] (Po (aL (x.map (k9 c)))):=by
 have hxl:=hx.len
 refine b6 [(0,Po x),(1,I c)] Tryz.func260 ?_
 refine aA [0,3] ?_
 refine aA [0,3,5] ?_
 refine W.row (id:=10) (emap ie (List.replicate x.length 0)) (by simp;exact⟨rfl,rfl,rfl⟩) (qW _) ?_
 refine aM [3,5,11,12,13] ?_
 refine W.block ?_
 refine W.bE (fun q σ=>∃(i:Nat) (z:List Int) (v10:Nat) (rows:Pm.Rows) (clk:Nat),σ=⟨fa [(3, .ptr 3 0 0 0),(5, .own 10 v10 0 x.length),(11,Po x),(12, .int .i64 x.length),(13, .int .i64 i)],rows,clk⟩ ∧
  rows 3=some ⟨0,38,2,[ie c]⟩∧rows 10=some ⟨v10,38,2,emap ie z⟩∧q=x.length-i∧i≤x.length∧z.length=x.length∧z.take i=(x.take i).map (k9 c)) x.length ?_ ?_
 ·exact⟨_, .refl,0,List.replicate x.length 0,_,_,_,rfl,by simp,by simp,by omega,by omega,by simp,by simp⟩
 rintro q _ ⟨i,z,v10,rows,clk,rfl,cM,lO,hq,hi,hz,hv⟩
 refine cB [3,5,11,12,13,14] ?_
 refine bF ?_ ?_<;>intro h
 ·have hi:i<x.length:=by simp at h;omega
  have hE:=yC (hx.sz _ (bS hi)) hc h0
  have hE2:aD env.P 235 [I (nth x i),I c] (.fE [I (k9 c (nth x i)), .int .i64 (if nth x i%c=0 then 0 else 3)]):=by
   unfold k9
   split at hE
   ·rename_i h1;rw [if_pos h1,if_pos h1];exact hE
   ·rename_i h1;rw [if_neg h1,if_neg h1];exact hE
  have hts:(x.take (i+1)).map (k9 c)=(x.take i).map (k9 c) ++ [k9 c (nth x i)]:=by rw [aY hi];simp
  generalize (if nth x i%c=0 then(0:Int)else 3)=er at *
  generalize k9 c (nth x i)=ev at *
  generalize hxe:nth x i=xi at *
  refine jV ?_
  refine W.sr ?_
  simp (disch:=omega) [gw,hxe]
  refine bN [3,5,6,7,11,12,13] ?_
  refine W.cE (fun K hK=>?_)
  simp (disch:=omega) [gw,cM]
  refine aB hE2 ?_
  simp (disch:=omega) [gw,lO,hz]
  refine W.lw [3,5,11,12,13] hK ?_;clear hK K;simp
  refine W.cE (fun K hK=>?_);simp (disch:=omega) [gw]
  refine hK _ ⟨x.length-(i+1),_,aC _ [3,5,11,12,13],by omega,i+1,z.set i ev,v10,_,_,rfl,by simp [cM],by simp,by omega,by omega,by simp [hz],?_⟩
  rw [kY hv (by omega),hts]
 ·have hi:i=x.length:=by simp at h;omega
  subst hi
  rw [bQ hz,List.take_length]at hv
  have uN:=bQ hz
  refine eV ?_
  have hzb:PB z:=by
   rw [hv]
   refine⟨fun v hv=>?_,by simpa using by omega⟩
   simp only [List.mem_map]at hv
   obtain⟨w,hw,rfl⟩:=hv
   have h1:=hx.sz w hw
   show sz LL (k9 c w)<1099511627776
   refine Nat.lt_of_le_of_lt (cK eB (y:=w) ?_) (by omega)
   unfold k9;split
   ·exact Int.natAbs_ediv_le_natAbs _ _
   ·simp
  have hN:=fR hzb
  rw [hv]at hN lO uN
  generalize x.map (k9 c)=y at *
  have OW:y.length=x.length:=by rw [←hv];exact hz
  refine W.sr ?_
  simp (disch:=omega) [gw,lO,uN]
  refine bU [4] hN ?_
  exact b7
structure CV where
 x:List Int
 y:List Int
 d:Int
def CV.cells(c:CV):List PV:=[Po c.x,Po c.y, .bool (decide (c.d<0)),aG u32 (aP LL c.d.natAbs)]
@[simp] theorem CV.cA{c:CV}:c.cells = [Po c.x,Po c.y, .bool (decide (c.d<0)),aG u32 (aP LL c.d.natAbs)]:=rfl
structure RC where
 x:RP
 y:RP
 s:Bool
 l:List Int
def RC.cells(c:RC):List PV:=[Pg c.x,Pg c.y, .bool c.s,aG u32 c.l]
@[simp] theorem RC.cA{c:RC}:c.cells = [Pg c.x,Pg c.y, .bool c.s,aG u32 c.l]:=rfl
def RC.cut(c:RC)(k n:Nat):RC:=⟨kZ k n c.x,kZ k n c.y,c.s,c.l.take n⟩
theorem aa5(c:RC)(k n:Nat)(hx:c.x.length<9223372036854775808)(hxc:∀e∈c.x,e.2.length<9223372036854775808)(hy:c.y.length<9223372036854775808)(hyc:∀e∈c.y,e.2.length<9223372036854775808)(hl:c.l.length<9223372036854775808)(hk:k<1099511627776)(hn:n<9223372036854775808) :
  aD env.P 116 [.ag c.cells, .int .i64 k, .int .i64 n] (.ag (c.cut k n).cells):=by
 have h1:=II c.x k n hx hxc hk hn
 have h2:=II c.y k n hy hyc hk hn
 have h3:=OZ c.s c.l n hl hn
 obtain⟨x,y,s,l⟩:=c
 simp only [RC.cut,RC.cA]at *
 generalize kZ k n x=x' at *
 generalize kZ k n y=y' at *
 generalize l.take n=l' at *
 refine b6 [(0, .ag [Pg x,Pg y, .bool s,aG u32 l]),(1, .int .i64 k),(2, .int .i64 n)] Tryz.func116 ?_
 refine aA [1,2,3,6] ?_
 refine iQ ?_
 refine bW h1 ?_
 refine bW h2 ?_
 refine bU [6] h3 ?_
 exact b7
def dN(d:Int):Int:=if d=0 then 1 else d
theorem yG(d:Int):dN d≠0:=by unfold dN;split<;>omega
def cg(x y:List Int)(d:Int):Int:=if dN d<0 then -(bV (dN d::(x++y)):Int)else bV (dN d::(x++y))
def nC(x y:List Int)(d:Int):CV:=⟨aL (x.map (k9 (cg x y d))),aL (y.map (k9 (cg x y d))),dN d/cg x y d⟩
theorem z9(x y:List Int)(d:Int){v:Int}(h:v∈dN d::(x++y)):cg x y d∣v:=by
 have:=fD _ v h
 unfold cg
 split
 ·exact Int.neg_dvd.2 this
 ·exact this
theorem X9(x y:List Int)(d:Int):cg x y d≠0:=fun h=>by
 have:=z9 x y d (List.mem_cons_self ..)
 rw [h]at this
 exact yG d (Int.zero_dvd.1 this)
theorem LI:sz LL 1≤1:=cQ eB (by decide)
theorem aeQ{a b:Int}(h:a∣b)(hb:b≠0):sz LL a≤sz LL b:=cK eB (Nat.le_of_dvd (by omega) (Int.natAbs_dvd_natAbs.2 h))
theorem AA(d:Int):aD env.P 140 [I d] (.bool (decide (d=0))):=by
 have:=EP (decide (d<0)) (aP LL d.natAbs)
 rw [show decide ((aP LL d.natAbs).length=0)=decide (d=0)from by
  by_cases h:d=0
  ·subst h;rfl
  ·have:aP LL d.natAbs ≠ []:=fun h2=>h (by have:=jG eB d.natAbs;rw [h2]at this;simp [V]at this;omega)
   have h3:=List.length_pos_iff.2 this
   simp [h];omega]at this
 exact this
theorem aa6(c:RC){s n:Nat}(hx:oQ c.x)(hy:oQ c.y)(hl:qI c.l)(bx:Bd LL s n (c.x.map gv))(pP:Bd LL s n (c.y.map gv))(bd:sz LL (iv c.s c.l)≤s)(h1:1≤s)(hs:s<1099511627774)(hn:n<500000000000) :
  aD env.P 243 [.ag c.cells] (.ag (nC (eX c.x) (eX c.y) (iv c.s c.l)).cells):=by
 have p1:=eY c.x hx
 have p2:=eY c.y hy
 have p3:=p8 c.s c.l hl
 have bX:Bd LL s n (eX c.x):=bx.cut
 have bY:Bd LL s n (eX c.y):=pP.cut
 obtain⟨x,y,sg,l⟩:=c
 simp only [RC.cA]at *
 rw [show aL (x.map gv)=eX x from rfl]at p1
 rw [show aL (y.map gv)=eX y from rfl]at p2
 generalize eX x=X at *
 generalize eX y=Y at *
 generalize iv sg l=d at *
 have z0:=AA d
 have o1:=wH 1 (by decide) (by decide)
 have bD:sz LL (dN d)≤s:=by
  unfold dN;split
  ·exact Nat.le_trans LI h1
  ·exact bd
 have kQ:=yG d
 have hcg:=X9 X Y d
 have hcd:=z9 X Y d (List.mem_cons_self ..)
 have bG:sz LL (cg X Y d)≤s:=Nat.le_trans (aeQ hcd kQ) bD
 have lX:=bX.len
 have lY:=bY.len
 have g1:=EY ((dN d::(X++Y)).map jD) s hs (fun e he=>by
  simp only [List.mem_map]at he
  obtain⟨v,hv,rfl⟩:=he
  refine⟨eN eB _,?_⟩
  rcases List.mem_cons.1 hv with rfl | hv
  ·exact bD
  ·rcases List.mem_append.1 hv with hv | hv
   ·exact bX.sz v hv
   ·exact bY.sz v hv) (by simp;omega)
 rw [bP,←fI]at g1
 have n1:=adY (x:=(bV (dN d::(X++Y)):Int)) (by
  refine Nat.lt_of_le_of_lt ?_ (show s<_ by omega)
  exact Nat.le_trans (aeQ (fD _ _ (List.mem_cons_self ..)) kQ) bD)
 have e1:=yC (v:=dN d) (c:=cg X Y d) (by omega) (by omega) hcg
 rw [if_pos (Int.emod_eq_zero_of_dvd hcd)]at e1
 have v1:=IU X (cg X Y d) (PD.of bX (by omega) (by omega)) (by omega) hcg
 have v2':=IU Y (cg X Y d) (PD.of bY (by omega) (by omega)) (by omega) hcg
 unfold nC
 simp only [CV.cA]
 generalize aL (X.map (k9 (cg X Y d)))=X' at *
 generalize aL (Y.map (k9 (cg X Y d)))=Y' at *
 have hgd:cg X Y d=if dN d<0 then -(bV (dN d::(X++Y)):Int)else bV (dN d::(X++Y)):=rfl
 generalize (bV (dN d::(X++Y)):Int)=G at *
 generalize cg X Y d=g at *
 have hdN:dN d=if d=0 then 1 else d:=rfl
 generalize dN d=D at *
 generalize hD':D/g=D' at *
 refine b6 [(0, .ag [Pg x,Pg y, .bool sg,aG u32 l])] Tryz.func243 ?_
 refine aA [1,2] ?_
 refine iQ ?_
 refine bW p1 ?_
 refine bW p2 ?_
 refine bW p3 ?_
 rw [if_pos (by kernel_rfl)]
 simp (disch:=omega) [gw]
 refine bN [2,3,4,5] ?_
 refine W.gJ (fun σ=>∃(v2 v5:Nat) (rows:Pm.Rows) (clk:Nat),σ=⟨fa [(2, .ptr 2 v2 0 0),(3,Po X),(4,Po Y),(5, .ptr 5 v5 0 0)],rows,clk⟩∧rows 2=some ⟨v2,86,4,[[.nil, .nil, .bool false, .nil]]⟩∧rows 5=some ⟨v5,38,2,[ie D]⟩) ?_ ?_
 ·refine aJ [2,3,4,5,17] z0 ?_
  refine bF ?_ ?_<;>intro h
  ·simp at h
   rw [if_pos h]at hdN
   subst hdN
   refine W.cE (fun K hK=>?_)
   simp (disch:=omega) [gw]
   refine bW o1 ?_
   exact hK _ ⟨_,aC _ [2,3,4,5],_,_,_,_,rfl,by simp,by simp⟩
  ·simp at h
   rw [if_neg h]at hdN
   subst hdN
   refine W.skip ?_
   exact⟨_,aC _ [2,3,4,5],_,_,_,_,rfl,by simp,by simp⟩
 rintro _ ⟨v2,v5,rows,clk,rfl,cC,eW⟩
 obtain⟨W0,hW⟩:∃W0,W0=D::(X++Y):=⟨_,rfl⟩
 rw [←hW]at g1
 have hE:[PV.bool (decide (D<0)),us (aP LL D.natAbs)]::emap ie (X++Y)=emap ie W0:=by rw [hW];rfl
 have hlW:1+X.length+Y.length=W0.length:=by rw [hW];simp;omega
 refine W.X8 1 rfl rfl (fun K hK=>?_)
 simp (disch:=omega) [gw,eW]
 simp only [hE,hlW]
 simp (disch:=omega) [gw]
 refine bW g1 ?_
 refine W.lw [2,3,4,5,6] hK ?_;clear hK K;simp
 refine W.gJ (fun σ=>∃(v2 v5 v6:Nat) (rows:Pm.Rows) (clk:Nat),σ=⟨fa [(2, .ptr 2 v2 0 0),(3,Po X),(4,Po Y),(5, .ptr 5 v5 0 0),(6, .ptr 6 v6 0 0)],rows,clk⟩∧rows 2=some ⟨v2,86,4,[[.nil, .nil, .bool false, .nil]]⟩∧rows 5=some ⟨v5,38,2,[ie D]⟩∧rows 6=some ⟨v6,38,2,[ie g]⟩) ?_ ?_
 ·refine W.sr ?_
  simp (disch:=omega) [gw,eW]
  refine bN [2,3,4,5,6,27] ?_
  refine bF ?_ ?_<;>intro h
  ·simp at h
   rw [if_pos h]at hgd
   subst hgd
   refine W.cE (fun K hK=>?_)
   simp (disch:=omega) [gw]
   refine bW n1 ?_
   exact hK _ ⟨_,aC _ [2,3,4,5,6],_,_,_,_,_,rfl,by simp [cC],by simp [eW],by simp⟩
  ·simp at h
   rw [if_neg (by omega)]at hgd
   subst hgd
   refine W.skip ?_
   exact⟨_,aC _ [2,3,4,5,6],_,_,_,_,_,rfl,by simp [cC],by simp [eW],by simp⟩
 rintro _ ⟨v2,v5,v6,rows,clk,rfl,cC,eW,lB⟩
 refine W.sr ?_
 simp (disch:=omega) [gw,eW,lB]
 refine aB e1 ?_
 simp (disch:=omega) [gw,eW]
 refine bN [2,3,4,5,6] ?_
 refine W.sd ?_
 simp (disch:=omega) [gw,lB]
 refine aB v1 ?_
 simp (disch:=omega) [gw,lB]
 refine aB v2' ?_
 simp (disch:=omega) [gw,cC]
 refine bN [2] ?_
 exact b7
structure RC.OK(c:RC)(s n:Nat):Prop where
 hx:oQ c.x
 hy:oQ c.y
 hl:qI c.l
 bx:Bd LL s n (c.x.map gv)
 pP:Bd LL s n (c.y.map gv)
 bd:sz LL (iv c.s c.l)≤s
 h1:1≤s
 hs:s<1099511627774
 hn:n<500000000000
def RC.nc(c:RC):CV:=nC (eX c.x) (eX c.y) (iv c.s c.l)
theorem RC.OK.norm{c:RC}{s n:Nat}(h:c.OK s n):aD env.P 243 [.ag c.cells] (.ag c.nc.cells):=aa6 c h.hx h.hy h.hl h.bx h.pP h.bd h.h1 h.hs h.hn
theorem aa7{c:RC}{s n:Nat}(h:c.OK s n)(h0:iv c.s c.l≠0):aD env.P 244 [Pg c.x,Pg c.y,IV c.s c.l] (.fE [.ag c.nc.cells, .int .i64 0]):=by
 have p1:=p8 c.s c.l h.hl
 have z0:=AA (iv c.s c.l)
 rw [decide_eq_false h0]at z0
 have hn:=h.norm
 generalize iv c.s c.l=d at *
 generalize c.nc=r at *
 obtain⟨x,y,sg,l⟩:=c
 simp only [RC.cA,CV.cA]at *
 refine b6 [(0,Pg x),(1,Pg y),(2,IV sg l)] Tryz.func244 ?_
 refine aA [0,1,5,6,7] ?_
 refine W.seq ?_
 refine iM ?_
 refine bW p1 ?_
 refine bU [0,1,5,6,10] z0 ?_
 refine bF ?_ ?_<;>intro h
 ·cases h
 refine W.skip ?_
 refine aJ [6,7] hn ?_
 exact b7
theorem RC.OK.dNc{c:RC}{s n:Nat}(h:c.OK s n){sg:Bool}{l:List Int}(hl:qI l)(e:iv sg l=dN (iv c.s c.l)):(RC.mk c.x c.y sg l).OK s n∧(RC.mk c.x c.y sg l).nc=c.nc:=by
 refine⟨⟨h.hx,h.hy,hl,h.bx,h.pP,?_,h.h1,h.hs,h.hn⟩,?_⟩
 ·show sz LL (iv sg l)≤s
  rw [e]
  unfold dN;split
  ·exact Nat.le_trans LI h.h1
  ·exact h.bd
 ·show nC (eX c.x) (eX c.y) (iv sg l)=nC (eX c.x) (eX c.y) (iv c.s c.l)
  rw [e]
  generalize iv c.s c.l=d
  have hd:dN (dN d)=dN d:=by
   show(if _=0 then _ else _)=_
   rw [if_neg (yG d)]
  unfold nC cg
  rw [hd]
theorem nW{c:RC}{s n:Nat}(h:c.OK s n):aD env.P 197 [.ag c.cells] (.ag c.nc.cells):=by
 have p1:=p8 c.s c.l h.hl
 have z0:=AA (iv c.s c.l)
 have o1:=wH 1 (by decide) (by decide)
 have hM:∀(sg:Bool) (l:List Int),qI l→iv sg l=dN (iv c.s c.l)→aD env.P 244 [Pg c.x,Pg c.y,IV sg l] (.fE [.ag c.nc.cells, .int .i64 0]):=fun sg l hl e=>by
  obtain⟨h1,h2⟩:=h.dNc hl e
  have:=aa7 h1 (by show iv sg l≠0;rw [e];exact yG _)
  rw [h2]at this
  exact this
 have hl:=h.hl
 have i1:iv false (aP LL 1)=1:=tG 1
 have L1:qI (aP LL 1):=Sz.SA (x:=1) (Nat.lt_of_le_of_lt LI (by decide))
 have hdN:dN (iv c.s c.l)=if iv c.s c.l=0 then 1 else iv c.s c.l:=rfl
 generalize dN (iv c.s c.l)=D at *
 generalize hd:iv c.s c.l=d at *
 generalize c.nc=r at *
 obtain⟨x,y,sg,l⟩:=c
 simp only [RC.cA,CV.cA]at *
 refine b6 [(0, .ag [Pg x,Pg y, .bool sg,aG u32 l])] Tryz.func197 ?_
 refine aA [1,2] ?_
 refine aA [1,2,3] ?_
 refine W.gJ (fun σ=>∃(s':Bool) (l':List Int) (v1 v2 v3:Nat) (rows:Pm.Rows) (clk:Nat),σ=⟨fa [(1, .ptr 1 v1 0 0),(2, .ptr 2 v2 0 0),(3, .ptr 3 v3 0 0)],rows,clk⟩∧rows 1=some ⟨v1,86,4,[[Pg x,Pg y, .bool sg,aG u32 l]]⟩∧rows 2=some ⟨v2,86,4,[[.nil, .nil, .bool false, .nil]]⟩ ∧
  rows 3=some ⟨v3,38,2,[[.bool s',us l']]⟩∧qI l'∧iv s' l'=D) ?_ ?_
 ·refine iM ?_
  refine bW p1 ?_
  refine bU [1,2,3,10] z0 ?_
  refine bF ?_ ?_<;>intro h
  ·simp at h
   rw [if_pos h]at hdN
   refine W.cE (fun K hK=>?_)
   simp (disch:=omega) [gw]
   refine bW o1 ?_
   exact hK _ ⟨_,aC _ [1,2,3],false,aP LL 1,_,_,_,_,_,rfl,by simp,by simp,by simp,L1,by omega⟩
  ·simp at h
   rw [if_neg h]at hdN
   refine W.skip ?_
   exact⟨_,aC _ [1,2,3],sg,l,_,_,_,_,_,rfl,by simp,by simp,by simp,hl,by omega⟩
 rintro _ ⟨s',l',v1,v2,v3,rows,clk,rfl,uJ,cC,cM,hl',he⟩
 have hM:=hM s' l' hl' he
 refine W.sr ?_
 simp (disch:=omega) [gw,uJ,cM]
 refine bU [2,4] hM ?_
 refine W.sr ?_
 simp (disch:=omega) [gw,cC]
 refine bN [2] ?_
 exact b7
theorem ao2(c v:Int):sz LL (k9 c v)≤sz LL v:=cK eB (by
 unfold k9;split
 ·exact Int.natAbs_ediv_le_natAbs _ _
 ·simp)
theorem aeR{s n:Nat}{x:List Int}(c:Int)(h:Bd LL s n x):Bd LL s n (aL (x.map (k9 c))):=Bd.cut ⟨by simpa using h.len,fun v hv=>by
 simp only [List.mem_map]at hv
 obtain⟨w,hw,rfl⟩:=hv
 exact Nat.le_trans (ao2 c w) (h.sz w hw)⟩
theorem RC.OK.BP{c:RC}{s n:Nat}(h:c.OK s n):Bd LL s n c.nc.x∧Bd LL s n c.nc.y∧sz LL c.nc.d≤s:=by
 refine⟨aeR _ h.bx.cut,aeR _ h.pP.cut,?_⟩
 show sz LL (_/_)≤s
 refine Nat.le_trans (cK eB (Int.natAbs_ediv_le_natAbs _ _)) ?_
 unfold dN;split
 ·exact Nat.le_trans LI h.h1
 ·exact h.bd
theorem UW{a b:RC}{s n:Nat}(ha:a.OK s n)(hb:b.OK s n)(hs:s<500000000000):aD env.P 127 [.ag a.cells, .ag b.cells] (Po (dJ (aN b.nc.x a.nc.d) (aN a.nc.x b.nc.d))):=by
 have n1:=nW ha
 have n2:=nW hb
 obtain⟨x1,y1,d1⟩:=ha.BP
 obtain⟨x2,y2,d2⟩:=hb.BP
 have hn:=ha.hn
 have s1:=iB (x:=b.nc.x) (c:=a.nc.d) (PB.of x2 (by omega) (by omega)) (Nat.lt_of_le_of_lt d1 (by omega))
 have s2:=iB (x:=a.nc.x) (c:=b.nc.d) (PB.of x1 (by omega) (by omega)) (Nat.lt_of_le_of_lt d2 (by omega))
 have s3:=qD (PB.of (Bd.aN eB x2 d1) (by omega) (by omega)) (PB.of (Bd.aN eB x1 d2) (by omega) (by omega))
 generalize dJ (aN b.nc.x a.nc.d) (aN a.nc.x b.nc.d)=r at *
 generalize aN b.nc.x a.nc.d=k1 at *
 generalize aN a.nc.x b.nc.d=k2 at *
 clear ha hb x1 y1 d1 x2 y2 d2 hn hs
 generalize a.nc=na at *
 generalize b.nc=nb at *
 simp only [RC.cA,CV.cA]at *
 refine b6 [(0, .ag [Pg a.x,Pg a.y, .bool a.s,aG u32 a.l]),(1, .ag [Pg b.x,Pg b.y, .bool b.s,aG u32 b.l])] Tryz.func127 ?_
 refine aA [2,3] ?_
 refine iQ ?_
 refine bW n1 ?_
 refine bW n2 ?_
 refine a9 (by kernel_rfl) ?_
 simp (disch:=omega) [gw]
 rw [if_pos (by kernel_rfl)]
 simp (disch:=omega) [gw]
 refine a9 (by kernel_rfl) ?_
 simp (disch:=omega) [gw]
 refine bN [2,3] ?_
 refine iQ ?_
 refine bW s1 ?_
 refine bW s2 ?_
 refine bU [4] s3 ?_
 exact b7
theorem UX{a b:RC}{s n:Nat}(ha:a.OK s n)(hb:b.OK s n)(hs:s<500000000000):aD env.P 128 [.ag a.cells, .ag b.cells] (Po (dJ (aN b.nc.y a.nc.d) (aN a.nc.y b.nc.d))):=by
 have n1:=nW ha
 have n2:=nW hb
 obtain⟨x1,y1,d1⟩:=ha.BP
 obtain⟨x2,y2,d2⟩:=hb.BP
 have hn:=ha.hn
 have s1:=iB (x:=b.nc.y) (c:=a.nc.d) (PB.of y2 (by omega) (by omega)) (Nat.lt_of_le_of_lt d1 (by omega))
 have s2:=iB (x:=a.nc.y) (c:=b.nc.d) (PB.of y1 (by omega) (by omega)) (Nat.lt_of_le_of_lt d2 (by omega))
 have s3:=qD (PB.of (Bd.aN eB y2 d1) (by omega) (by omega)) (PB.of (Bd.aN eB y1 d2) (by omega) (by omega))
 generalize dJ (aN b.nc.y a.nc.d) (aN a.nc.y b.nc.d)=r at *
 generalize aN b.nc.y a.nc.d=k1 at *
 generalize aN a.nc.y b.nc.d=k2 at *
 clear ha hb y1 x1 d1 y2 x2 d2 hn hs
 generalize a.nc=na at *
 generalize b.nc=nb at *
 simp only [RC.cA,CV.cA]at *
 refine b6 [(0, .ag [Pg a.x,Pg a.y, .bool a.s,aG u32 a.l]),(1, .ag [Pg b.x,Pg b.y, .bool b.s,aG u32 b.l])] Tryz.func128 ?_
 refine aA [2,3] ?_
 refine iQ ?_
 refine bW n1 ?_
 refine bW n2 ?_
 refine a9 (by kernel_rfl) ?_
 simp (disch:=omega) [gw]
 rw [if_pos (by kernel_rfl)]
 simp (disch:=omega) [gw]
 refine a9 (by kernel_rfl) ?_
 simp (disch:=omega) [gw]
 refine bN [2,3] ?_
 refine iQ ?_
 refine bW s1 ?_
 refine bW s2 ?_
 refine bU [4] s3 ?_
 exact b7
end Go.Proofs.YtelhfbikiccfkaaGreat
