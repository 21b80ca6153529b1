import Derived.Test.YtelhfbikiccfkaaGreatCaf
import Derived.Test.YtelhfbikiccfkaaGreatCak
set_option linter.unusedSimpArgs false
set_option linter.unusedVariables false
namespace Go.Proofs.YtelhfbikiccfkaaGreat
open Go Pm
theorem ahw(x:List Int):mY (x.map tN)=aP x:=by simp only [mY,cG]
theorem lI{x:List Int}(hx:Cn x){m:Int}(hm:m≠0):Cn (x.map (· * m)):=by
 rcases Nat.eq_zero_or_pos x.length with h | h
 ·have:x = []:=List.eq_nil_of_length_eq_zero h
  subst this;rfl
 ·have e:=uP h
  have:x.map (· * m)=(x.take (x.length-1)).map (· * m) ++ [lead x*m]:=by
   conv=>lhs;rw [e]
   simp
  rw [this]
  exact iA (Int.mul_ne_zero (cX hx h) hm) _
theorem s9{x:List Int}(hx:Cn x){m:Int}(hm:m≠0):bB x m=x.map (· * m):=lI hx hm
theorem SO{x:List Int}(hx:Cn x):bB x 1=x:=Cn.ext (Cn.bB _ _) hx fun t=>by rw [cM];omega
theorem SP(x:List Int):gV x=bB x (-1):=Cn.ext (Cn.gV _) (Cn.bB _ _) fun t=>by rw [CN,cM];omega
theorem lJ(m:Int)(x:List Int):bQ (x.map (· * m))=bQ x*m.natAbs:=by
 have key:∀(l:List Int) (g:Nat),(l.map (· * m)).foldl (fun g c=>Nat.gcd g c.natAbs) (g*m.natAbs)=l.foldl (fun g c=>Nat.gcd g c.natAbs) g*m.natAbs:=by
  intro l
  induction l with
  | nil=>intro g;rfl
  | cons c l ih =>
   intro g
   simp only [List.map_cons,List.foldl_cons]
   rw [Int.natAbs_mul,Nat.gcd_mul_right,ih]
 have:=key x 0
 rw [Nat.zero_mul]at this
 exact this
theorem ZI{m:Int}(hm:0<m)(g v:Int):rE (g*m) (v*m)=rE g v:=by
 unfold rE
 rw [Int.mul_comm v,Int.mul_comm g,Int.mul_emod_mul_of_pos _ _ hm,Int.mul_ediv_mul_of_pos _ _ hm]
 have:m*(v%g)=0↔v%g=0:=by
  constructor
  ·intro h
   rcases Int.mul_eq_zero.1 h with h | h
   ·omega
   ·exact h
  ·intro h;rw [h];simp
 simp only [this]
theorem SR{m:Int}(hm:0<m)(x:List Int):j6 (x.map (· * m))=j6 x:=by
 unfold j6
 rw [lJ,List.map_map]
 congr 1
 refine List.map_congr_left fun v _=>?_
 simp only [Function.comp_apply]
 have:((bQ x*m.natAbs:Nat):Int)=(bQ x:Int)*m:=by rw [Int.natCast_mul];congr 1;omega
 rw [this,ZI hm]
theorem zO{x:List Int}(hx:Cn x){m:Int}(hm:0<m):j6 (bB x m)=j6 x:=by rw [s9 hx (by omega),SR hm]
def sg(c:Int)(k:Nat):Int:=if k%2=1∧c<0 then -1 else 1
theorem ada(c:Int):∀k:Nat,c^k=sg c k*(c.natAbs:Int)^k
 | 0=>by simp [sg]
 | k+1=>by
  have ih:=ada c k
  have hc:c=(if c<0 then -1 else 1)*(c.natAbs:Int):=by split<;>omega
  have hs:sg c (k+1)=sg c k*(if c<0 then -1 else 1):=by
   unfold sg
   by_cases h:c<0
   ·rcases Nat.mod_two_eq_zero_or_one k with h2 | h2
    ·rw [if_pos ⟨by omega,h⟩,if_neg (by omega),if_pos h];rfl
    ·rw [if_neg (by omega),if_pos ⟨h2,h⟩,if_pos h];rfl
   ·rw [if_neg (fun h2=>h h2.2),if_neg (fun h2=>h h2.2),if_neg h];rfl
  rw [Int.pow_succ,Int.pow_succ,ih,hs]
  conv=>lhs;rw [hc]
  generalize (if c<0 then(-1:Int)else 1)=e at *
  have e3:((e*(c.natAbs:Int)).natAbs:Int)=(c.natAbs:Int):=by rw [←hc]
  rw [e3]
  grind
theorem adb(c:Int)(k:Nat):sg c k*sg c k=1:=by unfold sg;split<;>rfl
theorem ade{a b:List Int}(ca:Cn a):NT a b=j6 (bB (zH a b).2 (sg (lead b) (jJ a b))):=by
 have cr:=(CQ (b:=b) ca).2
 unfold NT sg
 split
 ·rw [SP]
 ·rw [SO cr]
theorem l9(x:List Int):(j6 x).length≤x.length:=Nat.le_trans (bZ _) (by simp)
theorem NW(x:List Int):(gV x).length≤x.length:=Nat.le_trans (bZ _) (by simp)
theorem ahx{a b:List Int}(hb:0<b.length):(NT a b).length<b.length:=by
 have h1:=JC (a:=a) hb
 unfold NT
 split
 ·have h2:=l9 (gV (zH a b).2)
  have h3:=NW (zH a b).2
  omega
 ·have h2:=l9 (zH a b).2
  omega
theorem ans(a b:List Int):Cn (NT a b):=by unfold NT;split<;>exact Cn.cut _
def exs(b:List Int):Nat→List Int→List Int→Option (List Int × List Int)
 | 0,q,a=>some (q,a)
 | i+1,q,a=>if a.length<b.length+i then exs b i q a else if lead a%lead b=0 then exs b i (q.set i (lead a/lead b)) (fF a (bT (q9 i (lead a/lead b)) b))else none
def exF:Option (List Int × List Int)→Option (List Int)
 | some (q,[])=>some (aP q)
 | _=>none
def exact(a b:List Int):Option (List Int):=exF (exs b (jJ a b) (List.replicate (jJ a b) 0) a)
def exR(o:Option (List Int)):PV:=
 match o with
 | some q => .eB [Po q, .int .i64 0]
 | none => .eB [Po [], .int .i64 3]
theorem Bd.set{B s n:Nat}{x:List Int}(h:Bd B s n x){i:Nat}{v:Int}(hv:Pm.sz B v≤s):Bd B s n (x.set i v):=⟨by simpa using h.len,fun c hc=>by
 rcases List.mem_or_eq_of_mem_set hc with h1 | h1
 ·exact h.sz c h1
 ·rw [h1];exact hv⟩
theorem ZJ(a b:RP){s s' N:Nat}(ha:tO a)(hb:tO b)(sa:Bd LL s N (a.map gv))(sb:Bd LL s' N (b.map gv))(hB:s+N*(s'+N+1)+s'+N+N+10<1099511627774) :
  aD env.P 222 [Pg a,Pg b] (if mY b = []then .eB [Po [], .int .i64 2]else exR (exact (mY a) (mY b))):=by
 have hA:Bd LL s N (mY a):=sa.cut
 have VT:Bd LL s' N (mY b):=sb.cut
 have ca:Cn (mY a):=Cn.cut _
 have cb:Cn (mY b):=Cn.cut _
 have na:=iO a ha
 have nb:=iO b hb
 rw [show aP (a.map gv)=mY a from rfl]at na
 rw [show aP (b.map gv)=mY b from rfl]at nb
 refine bY [(0,Pg a),(1,Pg b)] Tryz.func222 ?_
 generalize mY a=x at *
 generalize mY b=y at *
 refine aA [0,1] ?_
 refine iB ?_
 refine cB na ?_
 refine bS [0,1] nb ?_
 refine aL [0,1,17] ?_
 refine bC ?_ ?_<;>intro h
 ·have h:y = []:=by simp at h;exact h
  rw [if_pos h]
  refine aA [4,5] ?_
  refine W.ret ?_
  simp [go]
  rfl
 have hy:y ≠ []:=by simp at h;exact h
 clear h
 rw [if_neg hy]
 have SB:0<y.length:=List.length_pos_iff.2 hy
 have hNx:=hA.len
 have hNy:=VT.len
 have hsy:=fX VT
 have hly:=cX cb SB
 have hL:=lH (PB.of VT (by omega) (by omega)) cb
 have hDy:=kO y (by omega)
 have hkN:jJ x y≤N:=by unfold jJ;omega
 generalize hdd:s'+N+1=d at *
 have hNN:∀j,j≤N→(N-j)*d≤N*d:=fun j _=>Nat.mul_le_mul_right _ (by omega)
 have hkk:(if (0:Int)<(x.length:Int)-(y.length:Int)+1 then(x.length:Int)-(y.length:Int)+1 else 0)=(jJ x y:Int):=by unfold jJ;split<;>omega
 refine W.skip ?_
 refine W.sr ?_
 simp (disch:=omega) [gw,hkk]
 refine bL [0,1,6] ?_
 refine W.row (id:=25) (emap ie (List.replicate (jJ x y) 0)) (by simp;exact⟨rfl,rfl,rfl⟩) (rY _) ?_
 refine aL [0,1,6,7] ?_
 refine W.block ?_
 obtain⟨R0,LW⟩:∃R0,R0=exs y (jJ x y) (List.replicate (jJ x y) 0) x:=⟨_,rfl⟩
 have hex:exact x y=exF R0:=by rw [LW];rfl
 rw [hex]
 clear hex
 generalize zK:jJ x y=k0 at *
 refine W.bG (fun j σ=>∃(v6:Nat) (z r:List Int) (rows:Pm.Rows) (clk:Nat),σ=⟨fa [(0,Po r),(1,Po y),(6, .own 25 v6 0 k0),(7, .int .i64 ((j:Int)-1))],rows,clk⟩ ∧
  rows 25=some ⟨v6,38,2,emap ie z⟩∧z.length=k0∧j≤k0∧exs y j z r=R0∧Bd LL (s+(N-j)*d) (N+N) z∧Bd LL (s+(N-j)*d) (N+N) r∧Cn r) k0 ?_ ?_
 ·exact⟨_, .refl,_,List.replicate k0 0,x,_,_,rfl,by simp,by simp,by omega,LW.symm,⟨by simp;omega,fun c hc=>by rw [(List.mem_replicate.1 hc).2,kI];omega⟩,hA.mono (by omega) (by omega),ca⟩
 rintro j _ ⟨v6,z,r,rows,clk,rfl,adg,hz,hj,zN,bz,br,cr⟩
 refine aL [0,1,6,7,30] ?_
 refine bC ?_ ?_<;>intro h
 ·have hj0:0<j:=by simp at h;omega
  obtain⟨i,rfl⟩:∃i,j=i+1:=⟨j-1,by omega⟩
  clear h
  have ei:((i+1:Nat):Int)-1=i:=by omega
  rw [ei]
  have hN1:=hNN (i+1) (by omega)
  have JO:=hNN i (by omega)
  have hT:s+(N-i)*d=s+(N-(i+1))*d+s'+N+1:=by
   rw [show N-i=(N-(i+1))+1 by omega,Nat.add_mul,Nat.one_mul];omega
  have hDr:=kO r (by have:=br.len;omega)
  have hLr:=lH (PB.of br (by omega) (by omega)) cr
  have hlr:=fX br
  rw [exs]at zN
  refine W.skip ?_
  refine W.dK (fun σ=>∃(z r:List Int) (rows:Pm.Rows) (clk:Nat),σ=⟨fa [(0,Po r),(1,Po y),(6, .own 25 v6 0 k0),(7, .int .i64 i)],rows,clk⟩ ∧
   rows 25=some ⟨v6,38,2,emap ie z⟩∧z.length=k0∧exs y i z r=R0∧Bd LL (s+(N-i)*d) (N+N) z∧Bd LL (s+(N-i)*d) (N+N) r∧Cn r) ?_ ?_
  ·
   refine W.seq ?_
   refine iB ?_
   refine cB hDr ?_
   refine bS [0,1,6,7,39] hDy ?_
   by_cases hlen:r.length<y.length+i
   ·rw [if_pos hlen]at zN
    refine bC ?_ ?_<;>intro h
    ·refine eV ?_
     exact⟨_,aC _ [0,1,6,7],z,r,_,_,rfl,adg,hz,zN,bz.mono (by omega) (by omega),br.mono (by omega) (by omega),cr⟩
    ·exfalso;simp at h;omega
   rw [if_neg hlen]at zN
   refine bC ?_ ?_<;>intro h
   ·exfalso;simp at h;omega
   clear h
   have hE:=JN (v:=lead r) (c:=lead y) (by omega) (by omega) hly
   refine W.skip ?_
   by_cases hdv:lead r%lead y=0
   ·rw [if_pos hdv]at hE zN
    have hts:sz LL (lead r/lead y)≤s+(N-(i+1))*d:=Nat.le_trans (c7 fV (Int.natAbs_ediv_le_natAbs _ _)) hlr
    have bs:=Bd.q9 hts i
    have bm:=bs.bT fV VT
    have b2:Bd LL (s+(N-i)*d) (N+N) (fF r (bT (q9 i (lead r/lead y)) y)):=(Bd.fF fV (br.mono (s':=s+(N-(i+1))*d+s'+N) (n':=N+N) (by omega) (by omega)) (bm.mono (by omega) (by omega))).mono (by omega) (by omega)
    have f4:=yB bs VT (by omega)
    have f5:=G0 (PB.of br (by omega) (by omega)) (PB.of bm (by omega) (by omega))
    have cr2:Cn (fF r (bT (q9 i (lead r/lead y)) y)):=Cn.fF _ _
    have bz2:=Bd.set (i:=i) (bz.mono (s':=s+(N-i)*d) (n':=N+N) (by omega) (by omega)) (Nat.le_trans hts (by omega))
    generalize bR:fF r (bT (q9 i (lead r/lead y)) y)=r2 at *
    generalize bT (q9 i (lead r/lead y)) y=pm at *
    generalize lead r/lead y=tt at *
    have ac9:=r8 i tt
    have anr:(q9 i tt).length=i+1:=by simp [q9]
    have jD:=bO anr
    generalize lead r=lr at *
    generalize lead y=ly at *
    refine iB ?_
    refine cB hLr ?_
    refine cB hL ?_
    refine bS [0,1,6,7,8,9] hE ?_
    refine aL [0,1,6,7,8,49] ?_
    refine bC ?_ ?_<;>intro h
    ·cases h
    refine W.skip ?_
    refine W.sr ?_
    simp (disch:=omega) [gw,adg,hz]
    refine bL [0,1,6,7,8] ?_
    have e9:((i:Int)+1).toNat=i+1:=by omega
    refine W.sr ?_
    simp (disch:=omega) [gw,e9]
    refine bL [0,1,6,7,8,10] ?_
    refine W.row (id:=56) (emap ie (List.replicate (i+1) 0)) (by simp;exact⟨rfl,rfl,rfl⟩) (rY _) ?_
    refine W.sr ?_
    simp (disch:=omega) [gw,ac9]
    refine bL [0,1,6,7,10] ?_
    refine W.freeze 56 (by simp) (fun K hK=>?_)
    simp [jD]
    refine hK _ ?_;clear hK K
    refine W.cC (fun K hK=>?_)
    simp (disch:=omega) [gw]
    refine cB f4 ?_
    refine cB f5 ?_
    exact hK _ ⟨_,aC _ [0,1,6,7],z.set i tt,r2,_,_,rfl,by simp,by simp [hz],zN,bz2,b2,cr2⟩
   ·rw [if_neg hdv]at hE zN
    subst zN
    refine iB ?_
    refine cB hLr ?_
    refine cB hL ?_
    refine bS [0,1,6,7,8,9] hE ?_
    refine aL [0,1,6,7,8,49] ?_
    refine bC ?_ ?_<;>intro h
    ·refine aA [4,5] ?_
     refine W.ret ?_
     simp [go,exR,exF]
     rfl
    ·cases h
  rintro _ ⟨z,r,rows,clk,rfl,adg,hz,zN,bz,br,cr⟩
  refine W.cC (fun K hK=>?_);simp (disch:=omega) [gw]
  refine hK _ ⟨i,_,aC _ [0,1,6,7],by omega,v6,z,r,_,_,rfl,by simp [adg],hz,by omega,zN,bz,br,cr⟩
 ·have hj0:j=0:=by simp at h;omega
  subst hj0
  simp only [exs]at zN
  rw [←zN]
  have hN0:=hNN 0 (by omega)
  have hzn:=fU (PB.of bz (by omega) (by omega))
  have hzz:=bO hz
  refine eV ?_
  refine aL [6,68] ?_
  cases r with
  | nil =>
   refine bC ?_ ?_<;>intro h
   ·exfalso;simp at h
   refine W.skip ?_
   refine W.sr ?_
   simp (disch:=omega) [gw,adg,hzz]
   refine bS [4,5] hzn ?_
   refine W.ret ?_
   simp [go,exR,exF]
  | cons c r =>
   refine bC ?_ ?_<;>intro h
   ·refine aA [4,5] ?_
    refine W.ret ?_
    simp [go,exR,exF]
    rfl
   ·exfalso;simp at h
theorem DC{d:Nat}{x:List Int}(h:∀c∈x,(d:Int)∣c):d∣bQ x:=by
 have key:∀(l:List Int) (g:Nat),d∣g→(∀c∈l,(d:Int)∣c)→d∣l.foldl (fun g c=>Nat.gcd g c.natAbs) g:=by
  intro l
  induction l with
  | nil=>intro g hg _;exact hg
  | cons c l ih =>
   intro g hg hl
   rw [List.foldl_cons]
   exact ih _ (Nat.dvd_gcd hg (Int.ofNat_dvd_left.1 (hl c (by simp)))) fun v hv=>hl v (by simp [hv])
 exact key x 0 (Nat.dvd_zero d) h
theorem A7{x:List Int}{g:Int}(h:∀c∈x,g∣c):(x.map (rE g)).map (· * g)=x:=by
 rw [List.map_map]
 refine(List.map_congr_left fun v hv=>?_).trans (List.map_id _)
 have h1:v%g=0:=Int.emod_eq_zero_of_dvd (h v hv)
 simp only [Function.comp_apply,rE,id_eq]
 rw [if_pos h1]
 exact Int.ediv_mul_cancel (h v hv)
theorem yC{x y:List Int}{g:Int}(hg:g≠0)(h:y.map (· * g)=x)(e:bQ x=g.natAbs):bQ y=1:=by
 have:=lJ g y
 rw [h,e]at this
 exact Nat.eq_of_mul_eq_mul_right (show 0<g.natAbs by omega) (by omega)
theorem eA(t:Int)(g:Int)(x:List Int):V t (x.map (· * g))=V t x*g:=by
 have:=gZ (t:=t) g id x
 simp only [id_eq,List.map_id_fun]at this
 exact this
theorem adh{x y:List Int}(cx:Cn x)(cy:Cn y)(hx:x ≠ [])(hy:y ≠ []):bQ (bT x y)=bQ x*bQ y:=by
 have gx:=cN cx hx
 have gy:=cN cy hy
 have hp:bQ (bT x y)≠0:=cN (Cn.bT _ _) fun h=>by
  have:=jZ cx cy (List.length_pos_iff.2 hx) (List.length_pos_iff.2 hy)
  rw [h]at this
  have h1:=List.length_pos_iff.2 hx
  have h2:=List.length_pos_iff.2 hy
  simp only [List.length_nil]at this
  omega
 obtain⟨x',FW⟩:∃x':List Int,x'.map (· * (bQ x:Int))=x:=⟨_,A7 (iJ x)⟩
 obtain⟨y',EV⟩:∃y':List Int,y'.map (· * (bQ y:Int))=y:=⟨_,A7 (iJ y)⟩
 have px:=yC (by omega) FW (by omega)
 have py:=yC (by omega) EV (by omega)
 have e:bT x y=(bT x' y').map (· * ((bQ x:Int)*bQ y)):=by
  rw [←s9 (Cn.bT _ _) (Int.mul_ne_zero (by omega) (by omega))]
  refine Cn.ext (Cn.bT _ _) (Cn.bB _ _) fun t=>?_
  have h1:=eA t (bQ x) x'
  have h2:=eA t (bQ y) y'
  rw [FW]at h1
  rw [EV]at h2
  rw [dI,cM,dI,h1,h2]
  grind
 rw [e,lJ]at hp
 rw [e,lJ,Int.natAbs_mul]
 have hd:0<bQ (bT x' y'):=Nat.pos_of_mul_pos_right (Nat.pos_of_ne_zero hp)
 have hD:=VG _ (bQ (bT x' y')) x' y' (Nat.le_refl _) hd (Dv.of (iJ _)) (fun d _ hy=>Nat.dvd_one.1 (py▸DC hy.mem))
 have h1:bQ (bT x' y')=1:=Nat.dvd_one.1 (px▸DC hD.mem)
 rw [h1,Nat.one_mul]
 simp
def lK(x:List Int):Int:=if lead x<0 then -(bQ x:Int)else bQ x
def r9(x:List Int):List Int:=aP (x.map (rE (lK x)))
theorem oC(x:List Int):(lK x).natAbs=bQ x:=by unfold lK;split<;>omega
theorem JP(x:List Int):∀c∈x,lK x∣c:=fun c hc=>by
 have:=iJ x c hc
 unfold lK;split
 ·exact Int.neg_dvd.2 this
 ·exact this
theorem JQ{x:List Int}(cx:Cn x)(hx:x ≠ []):(r9 x).map (· * lK x)=x:=by
 have gx:=cN cx hx
 have h0:=oC x
 rw [←s9 (show Cn (r9 x)from Cn.cut _) (show lK x≠0 by omega)]
 refine Cn.ext (Cn.bB _ _) cx fun t=>?_
 rw [cM,r9,c9,←eA,A7 (JP x)]
theorem ZK{x:List Int}(cx:Cn x)(hx:x ≠ []):bB (r9 x) (lK x)=x:=by
 have gx:=cN cx hx
 have h0:=oC x
 rw [s9 (show Cn (r9 x)from Cn.cut _) (show lK x≠0 by omega)]
 exact JQ cx hx
theorem ahy{x:List Int}(cx:Cn x)(hx:x ≠ []):bQ (r9 x)=1:=by
 have gx:=cN cx hx
 have h0:=oC x
 exact yC (by omega) (JQ cx hx) h0.symm
theorem adi{x:List Int}(cx:Cn x)(hx:x ≠ []):0<lead (r9 x):=by
 have gx:=cN cx hx
 have h:=JQ cx hx
 have hl:(r9 x).length=x.length:=by rw [←congrArg List.length h];simp
 have oT:=List.length_pos_iff.2 hx
 have h1:lead x=lead (r9 x)*lK x:=by
  rw [lead,lead,hl,←jK,h]
 have nT:=cX (x:=r9 x) (Cn.cut _) (by omega)
 have hg:(0:Int)<bQ x:=by omega
 unfold lK at h1
 rcases Int.lt_trichotomy (lead (r9 x)) 0 with h2 | h2 | h2
 ·exfalso
  split at h1
  ·rename_i h3
   have:=Int.mul_pos (show (0:Int) < -lead (r9 x)by omega) hg
   rw [Int.mul_neg,←Int.neg_mul]at h1
   omega
  ·rename_i h3
   have:=Int.mul_pos (show (0:Int) < -lead (r9 x)by omega) hg
   rw [Int.neg_mul]at this
   omega
 ·exact absurd h2 nT
 ·exact h2
theorem uC(a:RP){s n:Nat}(ha:tO a)(sa:Bd LL s n (a.map gv))(hs:s<1099511627774)(hn:n<1099511627774) :
  aD env.P 153 [Pg a] (.eB [I (lK (mY a)),Po (r9 (mY a))]):=by
 have hA:Bd LL s n (mY a):=sa.cut
 have ca:Cn (mY a):=Cn.cut _
 have na:=iO a ha
 rw [show aP (a.map gv)=mY a from rfl]at na
 refine bY [(0,Pg a)] Tryz.func153 ?_
 generalize mY a=x at *
 refine aA [0,2] ?_
 refine aJ [0,2] na ?_
 refine aL [0,2,9] ?_
 refine bC ?_ ?_<;>intro h
 ·have h:x = []:=by simp at h;exact h
  subst h
  rw [show lK ([]:List Int)=0 by decide,show r9 ([]:List Int) = []from rfl]
  refine aA [2,3] ?_
  refine W.ret ?_
  simp [go]
  exact⟨rfl,rfl⟩
 have hx:x ≠ []:=by simp at h;exact h
 clear h
 have oT:=List.length_pos_iff.2 hx
 have gx:=cN ca hx
 have hp0:=oC x
 have hC:=wO x (PD.of hA hs hn)
 have hL:=lH (PB.of hA (by omega) (by omega)) ca
 have hgs:=VU (s:=s) hA.sz ca hx
 have K9:sz LL (lK x)≤s:=by
  unfold lK;split
  ·rw [oR];exact hgs
  ·exact hgs
 have hO:=NR x (lK x) (PD.of hA hs hn) (by omega) (by omega)
 rw [show aP (x.map (rE (lK x)))=r9 x from rfl]at hO
 have hN:=ajV (x:=(bQ x:Int)) (by show sz LL _<_;omega)
 refine W.skip ?_
 refine aJ [0,2,4] hC ?_
 refine W.gD (fun σ=>∃(rows:Pm.Rows) (clk:Nat),σ=⟨fa [(0,Po x),(2, .ptr 2 0 0 0),(4, .ptr 4 1 0 0)],rows,clk⟩∧rows 2=some ⟨0,38,2,[[.bool false, .nil]]⟩∧rows 4=some ⟨1,38,2,[ie (lK x)]⟩) ?_ ?_
 ·refine W.fG (fun σ=>∃(rows:Pm.Rows) (clk:Nat),σ=⟨fa [(0,Po x),(2, .ptr 2 0 0 0),(4, .ptr 4 1 0 0),(16, .bool (decide (lead x<0)))],rows,clk⟩∧rows 2=some ⟨0,38,2,[[.bool false, .nil]]⟩∧rows 4=some ⟨1,38,2,[ie (bQ x)]⟩) (fun K hK=>?_) ?_
  ·simp (disch:=omega) [gw]
   refine cB hL ?_
   refine hK _ _ (aC _ [0,2,4,16]) ⟨_,_,rfl,?_,?_⟩<;>simp [ie]
  rintro _ ⟨rows,clk,rfl,bR,dS⟩
  refine W.ack (lead x<0) rfl (fun h=>?_) (fun h=>?_)
  ·rw [lK,if_pos h]
   refine W.cC (fun K hK=>?_)
   simp (disch:=omega) [gw,dS]
   refine aB hN ?_
   simp (disch:=omega) [gw,dS]
   exact hK _ ⟨_,aC _ [0,2,4],_,_,rfl,by simp [bR],by simp⟩
  ·rw [lK,if_neg h]
   refine W.skip ?_
   exact⟨_,aC _ [0,2,4],_,_,rfl,bR,dS⟩
 rintro _ ⟨rows,clk,rfl,bR,dS⟩
 generalize lK x=c at *
 generalize r9 x=p at *
 refine W.sd ?_
 simp (disch:=omega) [gw,dS]
 refine aB hO ?_
 simp (disch:=omega) [gw,bR,dS]
 refine bL [2,3] ?_
 exact bV
abbrev qd(x:List Int)(D:Int):List Rat:=x.map fun v=>dM v D
theorem fE{v D:Int}(h:D≠0):dM v D=(v:Rat)/(D:Rat):=by rw [dM,if_neg h,Rat.divInt_eq_div]
theorem gR{D:Int}(h:D≠0):(D:Rat)≠0:=fun h2=>h (by exact_mod_cast h2)
theorem wP{D:Int}(h:D≠0):dM 0 D=0:=by rw [fE h];simp [Rat.div_def]
theorem zP{v D:Int}(h:D≠0):dM v D=0↔v=0:=by
 constructor
 ·intro h2
  rw [fE h]at h2
  have h3:=gR h
  have:(v:Rat)=0:=by
   have h4:(v:Rat)/(D:Rat)*D=0:=by rw [h2];grind
   rw [Rat.div_mul_cancel h3]at h4
   exact h4
  exact_mod_cast this
 ·rintro rfl;exact wP h
theorem VV{v D l:Int}(h:D≠0)(hl:l≠0):dM (v*l) (D*l)=dM v D:=by
 rw [fE h,fE (Int.mul_ne_zero h hl),Rat.intCast_mul,Rat.intCast_mul]
 have h1:=gR h
 have h2:=gR hl
 grind
theorem ahz{v w D:Int}(h:D≠0):dM v D+dM w D=dM (v+w) D:=by
 rw [fE h,fE h,fE h,Rat.intCast_add]
 have h1:=gR h
 grind
theorem VW{v D:Int}(h:D≠0):dM v D*(-1)=dM (-v) D:=by
 rw [fE h,fE h,Rat.intCast_neg]
 have h1:=gR h
 grind
theorem adj{v w D:Int}(h:D≠0):(w:Rat)*dM v D=dM (w*v) D:=by
 rw [fE h,fE h,Rat.intCast_mul]
 have h1:=gR h
 grind
theorem ahA{v D l:Int}(h:D≠0)(hl:l≠0):dM v D/(l:Rat)=dM v (D*l):=by
 rw [fE h,fE (Int.mul_ne_zero h hl),Rat.intCast_mul]
 have h1:=gR h
 have h2:=gR hl
 grind
theorem wQ{D:Int}(h:D≠0):∀x:List Int,nV (qd x D)=qd (aP x) D
 | []=>rfl
 | a::x=>by
  have ih:=wQ h x
  simp only [qd,List.map_cons]at ih ⊢
  rw [nV,ih,aP]
  by_cases h1:aP x = []∧a=0
  ·simp [h1,wP h]
  ·rw [if_neg h1,if_neg (by simpa [zP h]using h1)];simp
theorem JR{D:Int}(h:D≠0)(x:List Int)(k:Nat):nth (qd x D) k=dM (nth x k) D:=A3 (f:=fun v=>dM v D) (wP h) x k
theorem ahB{D:Int}(h:D≠0)(x y:List Int):ac5 (qd x D) (qd y D)=qd (iI x y) D:=by
 rw [ac5,iI,←wQ h]
 congr 1
 simp only [qd,List.length_map,List.map_map]
 congr 1
 funext k
 simp only [Function.comp_apply]
 rw [show nth (List.map (fun v=>dM v D) x) k=_ from JR h x k,show nth (List.map (fun v=>dM v D) y) k=_ from JR h y k,ahz h]
theorem ahC{D:Int}(h:D≠0)(x:List Int):kN (qd x D) (-1)=qd (gV x) D:=by
 rw [kN,gV,←wQ h]
 congr 1
 simp only [qd,List.map_map]
 congr 1
 funext k
 simp only [Function.comp_apply]
 exact VW h
theorem ZL{D:Int}(h:D≠0)(y:List Int)(v:Int):kN (qs y) (dM v D)=qd (bB y v) D:=by
 rw [kN,bB,←wQ h]
 congr 1
 simp only [qd,qs,List.map_map]
 congr 1
 funext k
 simp only [Function.comp_apply]
 exact adj h
theorem SS{D l:Int}(h:D≠0)(hl:l≠0)(x:List Int):qd (x.map (· * l)) (D*l)=qd x D:=by
 simp only [qd,List.map_map]
 congr 1
 funext k
 simp only [Function.comp_apply]
 exact VV h hl
theorem JS(x:List Int):qd x 1=qs x:=by
 simp only [qd,qs,lW]
theorem uU{v D:Int}{k:Nat}(h:D≠0)(hv:sz 2 v≤k)(hD:sz 2 D≤k):ZR k (dM v D):=by
 refine⟨Nat.le_trans (c7 (by decide) ?_) hv,Nat.le_trans (c7 (by decide) ?_) hD⟩
 ·rw [p0 _ _ h]
  refine Nat.le_trans (Int.natAbs_ediv_le_natAbs _ _) ?_
  split<;>simp
 ·rw [p7 _ _ h]
  refine Nat.le_trans (Int.natAbs_ediv_le_natAbs _ _) ?_
  split<;>simp
theorem SU{x:List Int}{D:Int}{k n:Nat}(h:D≠0)(hx:Bd 2 k n x)(hD:sz 2 D≤k)(hk:k≤YY)(hn:n<1099511627776):ZF (qd x D):=⟨fun q hq=>by
 simp only [List.mem_map]at hq
 obtain⟨v,hv,rfl⟩:=hq
 exact uU h (Nat.le_trans (hx.sz v hv) hk) (Nat.le_trans hD hk),by have:=hx.len;simp;omega⟩
structure DS where
 Q:List Int
 r:List Int
 D:Int
def dst(y:List Int)(σ:DS):DS:=⟨(σ.Q.map (· * lead y)).set (σ.r.length-y.length) (lead σ.r),xM y (lead y) (lead σ.r) (σ.r.length-y.length) σ.r,σ.D*lead y⟩
def ZM(y:List Int):Nat→DS→DS
 | 0,σ=>σ
 | n+1,σ=>if σ.r.length<y.length then σ else ZM y n (dst y σ)
def dmd(x y:List Int):DS:=ZM y (x.length+1) ⟨List.replicate (jJ x y) 0,x,1⟩
theorem JT{y:List Int}{σ:DS}(hy:0<y.length)(h:y.length≤σ.r.length):(dst y σ).r.length<σ.r.length:=by
 have h1:=A5 (b:=y) (r:=σ.r) (i:=σ.r.length-y.length) hy (by omega)
 rw [show wB y σ.r (σ.r.length-y.length)=lead σ.r from by rw [wB,if_pos (by omega)]]at h1
 show(xM y (lead y) (lead σ.r) (σ.r.length-y.length) σ.r).length<_
 omega
theorem ahD{y:List Int}{σ:DS}(h:σ.r.length<y.length):∀n,ZM y n σ=σ
 | 0=>rfl
 | n+1=>by rw [ZM,if_pos h]
structure uV(x y:List Int)(σ:DS):Prop where
 v:∀t,σ.D*V t x=V t σ.Q*V t y+V t σ.r
 z:∀j,j+y.length≤σ.r.length→nth σ.Q j=0
 c:Cn σ.r
 d:σ.D≠0
 q:σ.r.length+1≤σ.Q.length+y.length∨σ.r.length<y.length
theorem uV.step{x y:List Int}{σ:DS}(cy:Cn y)(hy:0<y.length)(h:y.length≤σ.r.length)(hI:uV x y σ):uV x y (dst y σ):=by
 have hl:=cX cy hy
 have dA:=JT hy h
 have hq:=hI.q.resolve_right (by omega)
 have hk:σ.r.length-y.length<(σ.Q.map (· * lead y)).length:=by simp;omega
 have h1:=A5 (b:=y) (r:=σ.r) (i:=σ.r.length-y.length) hy (by omega)
 rw [show wB y σ.r (σ.r.length-y.length)=lead σ.r from by rw [wB,if_pos (by omega)]]at h1
 refine⟨fun t=>?_,fun j hj=>?_,Cn.fF _ _,Int.mul_ne_zero hI.d hl,?_⟩
 ·have h2:=hI.v t
  have h3:=GI (b:=t) (x:=lead σ.r) hk
  have h4:nth (σ.Q.map (· * lead y)) (σ.r.length-y.length)=0:=by
   rw [jK,hI.z _ (by omega)];simp
  show σ.D*lead y*V t x=V t ((σ.Q.map (· * lead y)).set (σ.r.length-y.length) (lead σ.r))*V t y+V t (xM y (lead y) (lead σ.r) (σ.r.length-y.length) σ.r)
  rw [h3,h4,eA,xM,iY,dI,oA,cM]
  have h5:σ.D*lead y*V t x=lead y*(σ.D*V t x):=by grind
  rw [h5,h2];grind
 ·have hj:j+y.length≤(xM y (lead y) (lead σ.r) (σ.r.length-y.length) σ.r).length:=hj
  show nth ((σ.Q.map (· * lead y)).set (σ.r.length-y.length) (lead σ.r)) j=0
  rw [gQ (by omega),jK,hI.z _ (by omega)];simp
 ·left
  have:(dst y σ).Q.length=σ.Q.length:=by simp [dst]
  omega
theorem uV.ZM{x y:List Int}(cy:Cn y)(hy:0<y.length):∀(n:Nat) (σ:DS),σ.r.length<n→uV x y σ→uV x y (ZM y n σ)∧(Proofs.YtelhfbikiccfkaaGreat.ZM y n σ).r.length<y.length
 | 0,σ,h,_=>by omega
 | n+1,σ,h,hI=>by
  rw [Proofs.YtelhfbikiccfkaaGreat.ZM]
  split
  ·rename_i h1;exact⟨hI,h1⟩
  ·rename_i h1
   exact uV.ZM cy hy n _ (by have:=JT (σ:=σ) hy (by omega);omega) (hI.step cy hy (by omega))
theorem uV.start{x y:List Int}(cx:Cn x):uV x y ⟨List.replicate (jJ x y) 0,x,1⟩:=by
 refine⟨fun t=>?_,fun j hj=>?_,cx,show(1:Int)≠0 by decide,?_⟩
 ·simp [qT]
 ·rcases Nat.lt_or_ge j (jJ x y)with h | h
  ·rw [dD (by simpa using h)];simp
  ·rw [iG (by simpa using h)];rfl
 ·simp only [jJ,List.length_replicate];omega
theorem ahE{x y:List Int}(cx:Cn x)(cy:Cn y)(hy:0<y.length):uV x y (dmd x y)∧(dmd x y).r.length<y.length:=uV.ZM cy hy _ _ (Nat.lt_succ_self _) (uV.start cx)
@[simp] theorem aty{l:List Rat}{i:Nat}{q:Rat}:iT (emap re l) i 0 [aI aG (aN DD q.num.natAbs), .bool (decide (q.num<0)),aI aG (aN DD q.den), .bool false]=emap re (l.set i q):=A6 (n:=4) (fun _=>rfl)
theorem DE(x:List Int):emap re (qs x)=emap ri x:=by simp only [emap,qs,List.map_map,Function.comp_def,fT]
theorem adl(a b n:List Rat)(ha:ZF a)(hb:ZF b)(hn:kN b (-1)=n)(hn2:ZF n):aD env.P 124 [PP a,PP b] (PP (ac5 a n)):=by
 have h1:=NO b hb
 rw [hn]at h1
 have h2:=ac6 a n ha hn2
 refine bY [(0,PP a),(1,PP b)] Tryz.func124 ?_
 refine aA [0,1] ?_
 refine iB ?_
 refine cB h1 ?_
 refine bS [4] h2 ?_
 exact bV
def LC(l:List Rat):Int:=l.foldl (fun d q=>(d*q.den).tdiv (Int.gcd d q.den)) 1
def VX(d:Int)(l:List Rat):Int:=l.foldl (fun (g:Int) q=>(Int.gcd g ((q.num*d).tdiv q.den):Int)) 0
theorem adm{l:List Rat}{i:Nat}(h:i<l.length):LC (l.take (i+1))=(LC (l.take i)*(nth l i).den).tdiv (Int.gcd (LC (l.take i)) (nth l i).den):=by
 unfold LC;rw [bI h,List.foldl_append];rfl
theorem adn{l:List Rat}{d:Int}{i:Nat}(h:i<l.length):VX d (l.take (i+1))=(Int.gcd (VX d (l.take i)) (((nth l i).num*d).tdiv (nth l i).den):Int):=by
 unfold VX;rw [bI h,List.foldl_append];rfl
theorem ado(q:Rat):RI (q.den:Int) = .ag [aI aG (aN DD q.den), .bool false]:=by
 simp [show ¬((q.den:Int)<0)by omega]
def SV(l:List Rat):Rat:=if (nth l (l.length-1)).num<0 then -(dM (VX (LC l) l) (LC l))else dM (VX (LC l) l) (LC l)
def qpr(l:List Rat):List Rat:=kN l (1/SV l)
theorem sA(l:List Rat){k:Nat}(hk:k≤YY)(hk1:1≤k)(hl:∀q∈l,ZR k q)(EU:l.length<1099511627776)(h0:l ≠ [])
  (hd:∀i,sz 2 (LC (l.take i))≤k) (JK:∀i,0<LC (l.take i)) (hg:∀i,sz 2 (VX (LC l) (l.take i))≤k)
  (hc:ZR YY (SV l)) (x9:SV l≠0) (vI:ZR YY (1/SV l)) :
  aD env.P 168 [PP l] (.eB [RR (SV l),PP (qpr l)]):=by
 have hkY:k≤137438953472:=hk
 have y7:0<l.length:=List.length_pos_iff.2 h0
 refine bY [(0,PP l)] Tryz.func168 ?_
 refine aA [0,2] ?_
 refine aL [0,2,11] ?_
 refine bC ?_ ?_<;>intro h
 ·exfalso;simp at h;exact h0 h
 refine W.skip ?_
 refine iB ?_
 refine aB (oB 1 (by decide) (by decide)) ?_
 simp (disch:=omega) [gw]
 refine bL [0,2,4] ?_
 refine aL [0,2,4,15,16] ?_
 refine W.block ?_
 refine W.bG (fun n σ=>∃(i:Nat) (d:Int) (rows:Pm.Rows) (clk:Nat),σ=⟨fa [(0,PP l),(2, .ptr 2 0 0 0),(4, .ptr 4 1 0 0),(15, .int .i64 l.length),(16, .int .i64 i)],rows,clk⟩ ∧
  rows 2=some ⟨0,31,4,[[.nil, .bool false, .nil, .bool false]]⟩∧rows 4=some ⟨1,29,2,[[aI aG (aN DD d.natAbs), .bool (decide (d<0))]]⟩∧n=l.length-i∧i≤l.length∧d=LC (l.take i)) l.length ?_ ?_
 ·exact⟨_, .refl,0,1,_,_,rfl,by simp,by simp,by omega,by omega,by simp [LC]⟩
 rintro n _ ⟨i,d,rows,clk,rfl,bR,dS,hn,hi,hdv⟩
 refine b9 [0,2,4,15,16,17] ?_
 refine bC ?_ ?_<;>intro h
 ·have hi:i<l.length:=by simp at h;omega
  have hq:=hl _ (bP hi)
  have hdi:=hd i
  have hdp:=JK i
  have hs:=adm hi
  rw [←hdv]at hs hdi hdp
  have hsn:=hd (i+1)
  have m1:=eO d (nth l i).den (by simp only [Z];omega) (by have:=hq.d;simp only [Z];omega)
  have m2:=C7 d (nth l i).den (by simp only [Y];omega) (by have:=hq.d;simp only [Y];omega)
  have zm:=cD (b:=2) (by decide) hdi hq.d
  have hgp:0<Int.gcd d (nth l i).den:=Int.gcd_pos_of_ne_zero_left _ (by omega)
  have zg:Y (Int.gcd d (nth l i).den:Int):=C6 (y:=d) (by simp only [Y];omega) (by
   have:=Int.le_of_dvd hdp (Int.gcd_dvd_left d ((nth l i).den:Int));omega)
  have m3:=wJ (d*(nth l i).den) (Int.gcd d (nth l i).den) (by omega) (by simp only [Y];omega) zg
  rw [←hs]at m3
  rw [ado]at m1 m2
  generalize (Int.gcd d (nth l i).den:Int)=gg at *
  generalize d*((nth l i).den:Int)=dd at *
  generalize Q6:LC (l.take (i+1))=d2 at *
  generalize ZN:nth l i=q at *
  refine kW ?_
  refine W.sr ?_
  simp (disch:=omega) [gw,ZN]
  refine bL [0,2,4,5,15,16] ?_
  refine W.P5 (fun K hK=>?_)
  simp (disch:=omega) [gw,dS,ZN]
  refine aB m1 ?_
  simp (disch:=omega) [gw,dS,ZN]
  refine aB m2 ?_
  simp (disch:=omega) [gw,dS,ZN]
  refine aB m3 ?_
  simp (disch:=omega) [gw,dS,ZN]
  refine a9 (by refine⟨?_,?_⟩<;>kernel_rfl) ?_
  simp (disch:=omega) [gw]
  refine W.lw [0,2,4,15,16] hK ?_;clear hK K;simp
  refine W.cC (fun K hK=>?_);simp (disch:=omega) [gw]
  refine hK _ ⟨l.length-(i+1),_,aC _ [0,2,4,15,16],by omega,i+1,d2,_,_,rfl,by simp [bR],by simp,by omega,by omega,Q6.symm⟩
 have hi:i=l.length:=by simp at h;omega
 subst hi
 rw [List.take_length]at hdv
 have hdl:=hd l.length
 have hdp:=JK l.length
 rw [List.take_length,←hdv]at hdl hdp
 rw [←hdv]at hg
 have hqc:SV l=if (nth l (l.length-1)).num<0 then -(dM (VX d l) d)else dM (VX d l) d:=by rw [hdv];rfl
 refine eV ?_
 refine aA [0,2,4,6] ?_
 refine W.row (id:=6) (els:=[[.nil, .bool false]]) [[aI aG (aN DD 0), .bool false]] (by simp;first | exact⟨rfl,rfl,rfl⟩ | exact⟨rfl,rfl,rfl,rfl⟩) ⟨⟨.inr ⟨rfl,rfl⟩, .inl rfl,trivial⟩,trivial⟩ ?_
 refine aL [0,2,4,6,36,37] ?_
 refine W.block ?_
 clear hdv
 refine W.bG (fun n σ=>∃(i v6:Nat) (g:Int) (rows:Pm.Rows) (clk:Nat),σ=⟨fa [(0,PP l),(2, .ptr 2 0 0 0),(4, .ptr 4 1 0 0),(6, .ptr 6 v6 0 0),(36, .int .i64 l.length),(37, .int .i64 i)],rows,clk⟩ ∧
  rows 2=some ⟨0,31,4,[[.nil, .bool false, .nil, .bool false]]⟩∧rows 4=some ⟨1,29,2,[[aI aG (aN DD d.natAbs), .bool (decide (d<0))]]⟩ ∧
  rows 6=some ⟨v6,29,2,[[aI aG (aN DD g.natAbs), .bool (decide (g<0))]]⟩∧n=l.length-i∧i≤l.length∧g=VX d (l.take i)) l.length ?_ ?_
 ·exact⟨_, .refl,0,_,0,_,_,rfl,by simp [bR],by simp [dS],by simp,by omega,by omega,by simp [VX]⟩
 clear bR dS rows clk
 rintro n _ ⟨i,v6,g,rows,clk,rfl,bR,dS,pG,hn,hi,hgv⟩
 refine b9 [0,2,4,6,36,37,38] ?_
 refine bC ?_ ?_<;>intro h
 ·have hi:i<l.length:=by simp at h;omega
  have hq:=hl _ (bP hi)
  have hgi:=hg i
  have hs:=adn (d:=d) hi
  rw [←hgv]at hs hgi
  have m1:=eO (nth l i).num d (by have:=hq.n;simp only [Z];omega) (by simp only [Z];omega)
  have zm:=cD (b:=2) (by decide) hq.n hdl
  have m2:=wJ ((nth l i).num*d) (nth l i).den (by have:=(nth l i).den_nz;omega) (by simp only [Y];omega) (by have:=hq.d;simp only [Y];omega)
  have zq:Y (((nth l i).num*d).tdiv (nth l i).den):=C6 (y:=(nth l i).num*d) (by simp only [Y];omega) (by rw [Int.natAbs_tdiv];exact Nat.div_le_self _ _)
  have m3:=C7 g (((nth l i).num*d).tdiv (nth l i).den) (by simp only [Y];omega) zq
  rw [←hs]at m3
  rw [ado]at m2
  generalize ((nth l i).num*d).tdiv (nth l i).den=nq at *
  generalize (nth l i).num*d=nd at *
  generalize oO:VX d (l.take (i+1))=g2 at *
  generalize ZN:nth l i=q at *
  refine kW ?_
  refine W.sr ?_
  simp (disch:=omega) [gw,ZN]
  refine bL [0,2,4,6,7,36,37] ?_
  refine W.P5 (fun K hK=>?_)
  simp (disch:=omega) [gw,dS,pG,ZN]
  refine aB m1 ?_
  simp (disch:=omega) [gw,dS,pG,ZN]
  refine aB m2 ?_
  simp (disch:=omega) [gw,dS,pG,ZN]
  refine aB m3 ?_
  simp (disch:=omega) [gw,dS,pG,ZN]
  refine a9 (by kernel_rfl) ?_
  simp (disch:=omega) [gw]
  refine W.lw [0,2,4,6,36,37] hK ?_;clear hK K;simp
  refine W.cC (fun K hK=>?_);simp (disch:=omega) [gw]
  refine hK _ ⟨l.length-(i+1),_,aC _ [0,2,4,6,36,37],by omega,i+1,v6,g2,_,_,rfl,by simp [bR],by simp [dS],by simp,by omega,by omega,oO.symm⟩
 have hi:i=l.length:=by simp at h;omega
 subst hi
 rw [List.take_length]at hgv
 have hgl:=hg l.length
 rw [List.take_length]at hgl
 rw [←hgv]at hgl hqc
 have hMk:=kK g d (by simp only [Y];omega) (by simp only [Y];omega)
 have hNg:=C9 (dM g d)
 have hQ:=DB 1 (SV l) ⟨by show sz 2 1≤YY;exact Nat.le_trans (dE (k:=1) (by decide) (by decide)) (by decide),by show sz 2 1≤YY;exact Nat.le_trans (dE (k:=1) (by decide) (by decide)) (by decide)⟩ hc x9
 have hOf:=p8 1 1 (by decide) (by decide)
 rw [lW,show(((1:Int)):Rat)=1 by simp]at hOf
 have hSc:=p9 l (1/SV l) ⟨fun q hq=>⟨Nat.le_trans (hl q hq).n hk,Nat.le_trans (hl q hq).d hk⟩,EU⟩ vI
 rw [show kN l (1/SV l)=qpr l from rfl]at hSc
 have e1:((l.length:Int)-1).toNat=l.length-1:=by omega
 generalize qpr l=pr at *
 generalize i5:(1:Rat)=one at *
 generalize one/SV l=ic at *
 generalize SV l=cc at *
 generalize hqm:dM g d=c0 at *
 generalize ZN:nth l (l.length-1)=q at *
 refine eV ?_
 refine W.sr ?_
 simp (disch:=omega) [gw,dS,pG]
 refine bS [0,2,8] hMk ?_
 refine W.gD (fun σ=>∃(v8:Nat) (rows:Pm.Rows) (clk:Nat),σ=⟨fa [(0,PP l),(2, .ptr 2 0 0 0),(8, .ptr 8 v8 0 0)],rows,clk⟩∧rows 2=some ⟨0,31,4,[[.nil, .bool false, .nil, .bool false]]⟩∧rows 8=some ⟨v8,31,4,[re cc]⟩) ?_ ?_
 ·refine W.sr ?_
  simp (disch:=omega) [gw,e1,ZN]
  refine bL [0,2,8,66] ?_
  refine W.ack (q.num<0) rfl (fun h=>?_) (fun h=>?_)
  ·rw [if_pos h]at hqc
   rw [←hqc]at hNg
   refine W.cC (fun K hK=>?_)
   simp (disch:=omega) [gw]
   refine cB hNg ?_
   exact hK _ ⟨_,aC _ [0,2,8],_,_,_,rfl,by simp [bR],by simp⟩
  ·rw [if_neg h]at hqc
   refine W.skip ?_
   exact⟨_,aC _ [0,2,8],_,_,_,rfl,by simp [bR],by simp [hqc]⟩
 clear bR dS pG rows clk
 rintro _ ⟨v8,rows,clk,rfl,bR,AO⟩
 refine W.sd ?_
 simp (disch:=omega) [gw,AO]
 refine aB hOf ?_
 simp (disch:=omega) [gw,AO]
 refine aB hQ ?_
 simp (disch:=omega) [gw,AO]
 refine aB hSc ?_
 simp (disch:=omega) [gw,bR,AO]
 refine bL [2,3] ?_
 exact bV
theorem ahF(x:List Int)(hx:∀c∈x,Z c)(hl:x.length<1099511627776):aD env.P 33 [PI x] (Po x):=by
 refine bY [(0,PI x)] Tryz.func33 ?_
 refine aA [0] ?_
 refine aA [0,3] ?_
 refine W.nil 3 3 38 2 (by simp) (by decide) (fun K hK=>?_)
 refine W.lw [0,3] hK ?_;clear hK K;simp
 refine aL [0,3,6,7] ?_
 refine W.block ?_
 refine W.bG (fun k σ=>∃(i ver:Nat) (rows:Pm.Rows) (clk:Nat),σ=⟨fa [(0,PI x),(3, .own 3 ver 0 i),(6, .int .i64 x.length),(7, .int .i64 i)],rows,clk⟩∧rows 3=some ⟨ver,38,2,emap ie (x.take i)⟩∧k=x.length-i∧i≤x.length) x.length ?_ ?_
 ·exact⟨_, .refl,0,_,_,_,rfl,by simp [emap],by omega,by omega⟩
 rintro k _ ⟨i,ver,rows,clk,rfl,hr,hk,hi⟩
 refine b9 [0,3,6,7,8] ?_
 refine W.cond ⟨_,rfl,fun h0=>?_,fun h0=>?_⟩
 ·have h0:i<x.length:=by simp at h0;omega
  have gC:(x.take i).length=i:=by simp;omega
  have hT:=JL (nth x i) (hx _ (bP h0))
  refine kW ?_
  refine aA [0,3,4,6,7] ?_
  refine W.cC (fun K hK=>?_)
  simp (disch:=omega) [gw]
  refine aB hT ?_
  simp (disch:=omega) [gw,hr,gC]
  refine W.lw [0,3,6,7] hK ?_;clear hK K;simp
  refine W.cC (fun K hK=>?_);simp (disch:=omega) [gw]
  refine hK _ ⟨x.length-(i+1),_,aC _ [0,3,6,7],by omega,i+1,_,_,_,rfl,?_,by omega,by omega⟩
  rw [bI h0]
  simp
 ·have lT:i=x.length:=by simp at h0;omega
  subst lT
  rw [List.take_length]at hr
  refine eV ?_
  refine W.sr ?_
  simp (disch:=omega) [gw,hr]
  refine bL [2] ?_
  refine W.ret ?_
  simp [go,hr]
theorem JU(x:List Int):LC (qs x)=1:=by
 have key:∀l:List Int,(qs l).foldl (fun (d:Int) q=>(d*q.den).tdiv (Int.gcd d q.den)) 1=1:=by
  intro l
  induction l with
  | nil=>rfl
  | cons a l ih =>
   simp only [qs,List.map_cons,List.foldl_cons,Rat.den_intCast]at ih ⊢
   exact ih
 exact key x
theorem adp(x:List Int):VX 1 (qs x)=bQ x:=by
 have key:∀(l:List Int) (g:Nat),(qs l).foldl (fun (g:Int) q=>(Int.gcd g ((q.num*1).tdiv q.den):Int)) g=(l.foldl (fun g c=>Nat.gcd g c.natAbs) g:Nat):=by
  intro l
  induction l with
  | nil=>intro g;rfl
  | cons a l ih =>
   intro g
   have:=ih (Nat.gcd g a.natAbs)
   simp only [qs,List.map_cons,List.foldl_cons,Rat.den_intCast,Rat.num_intCast]at this ⊢
   rw [←this]
   congr 1
   simp [Int.gcd]
 exact key x 0
theorem JV(x:List Int)(i:Nat):(qs x).take i=qs (x.take i):=by simp [qs,List.map_take]
theorem DF{x:List Int}(hx:0<x.length):SV (qs x)=(lK x:Rat):=by
 have e:(nth (qs x) ((qs x).length-1)).num=lead x:=by rw [ac7];simp [lead]
 unfold SV lK
 rw [JU,adp,lW,e]
 split
 ·rw [Rat.intCast_neg]
 ·rfl
theorem anv{x:List Int}(cx:Cn x)(hx:x ≠ []):qpr (qs x)=qs (r9 x):=by
 have oT:=List.length_pos_iff.2 hx
 have h0:=oC x
 have gx:=cN cx hx
 have hp:lK x≠0:=by omega
 have hc:=gR hp
 rw [qpr,DF oT,kN,r9,←wL]
 congr 1
 simp only [qs,List.map_map]
 refine List.map_congr_left fun v hv=>?_
 simp only [Function.comp_apply]
 have hd:=JP x v hv
 obtain⟨w,rfl⟩:=hd
 have:rE (lK x) (lK x*w)=w:=by
  unfold rE
  rw [if_pos (Int.mul_emod_right _ _)]
  exact Int.mul_ediv_cancel_left _ hp
 rw [this,Rat.intCast_mul]
 grind
theorem mS{x:List Int}{s:Nat}(hs:∀c∈x,sz 2 c≤s):sz 2 (bQ x:Int)≤s:=by
 by_cases h:∃c∈x,c≠0
 ·obtain⟨c,hc,h0⟩:=h
  refine Nat.le_trans (c7 (by decide) ?_) (hs c hc)
  have:=Int.le_of_dvd (a:=(bQ x:Int)) (b:=(c.natAbs:Int)) (by omega) (Int.dvd_natAbs.2 (iJ x _ hc))
  omega
 ·have h1:bQ x=0:=by
   have h2:(0:Nat)∣bQ x:=DC fun c hc=>by
    have:c=0:=Classical.byContradiction fun h3=>h ⟨c,hc,h3⟩
    rw [this];exact Int.dvd_refl _
   exact Nat.eq_zero_of_zero_dvd h2
  rw [h1];show sz 2 0≤s;rw [kI];omega
theorem DG(x:List Int){s n:Nat}(hx:Bd 2 s n x)(cx:Cn x)(pY:1≤s)(hs:s≤YY)(hn:n<1099511627776):aD env.P 168 [PI x] (.eB [.ag (ri (lK x)),PI (r9 x)]):=by
 have hlx:=hx.len
 by_cases h0:x = []
 ·subst h0
  have hz:=pE
  rw [show lK ([]:List Int)=0 by decide,show r9 ([]:List Int) = []from rfl]
  refine bY [(0,PI [])] Tryz.func168 ?_
  refine aA [0,2] ?_
  refine aL [0,2,11] ?_
  refine bC ?_ ?_<;>intro h
  ·refine aJ [2,3] hz ?_
   refine W.ret ?_
   simp [go]
   all_goals rfl
  ·simp at h
 ·have oT:=List.length_pos_iff.2 h0
  have hp:=oC x
  have gx:=cN cx h0
  have hp0:lK x≠0:=by omega
  have hgs:∀i,sz 2 (bQ (x.take i):Int)≤s:=fun i=>mS fun c hc=>hx.sz c (List.mem_of_mem_take hc)
  have zN:sz 2 (lK x)≤s:=by
   have:=mS hx.sz
   unfold lK;split
   ·rw [oR];exact this
   ·exact this
  have s1:sz 2 1≤1:=dE (by decide) (by decide)
  have zc:ZR YY (lK x:Rat):=oU (Nat.le_trans zN hs) (by decide)
  have e1:(1:Rat)/(lK x:Rat)=dM 1 (lK x):=by rw [fE hp0];simp
  have:=sA (qs x) hs pY (fun q hq=>by
   simp only [qs,List.mem_map]at hq
   obtain⟨c,hc,rfl⟩:=hq
   exact oU (hx.sz c hc) pY) (by simp;omega) (by simpa [qs]using h0)
   (fun i=>by rw [JV,JU];omega) (fun i=>by rw [JV,JU];decide) (fun i=>by rw [JU,JV,adp];exact hgs i)
   (by rw [DF oT];exact zc) (by rw [DF oT];exact gR hp0) (by rw [DF oT,e1];exact uU hp0 (by show sz 2 1≤137438953472;omega) (Nat.le_trans zN hs))
  rw [DF oT,anv cx h0,qV,qV,RR,fT]at this
  exact this
theorem ZO{D a b:Nat}(hD:0<D)(ha:a∣D)(hb:b∣D):Nat.lcm (D/a) (D/b)=D/Nat.gcd a b:=by
 have ha0:0<a:=Nat.pos_of_dvd_of_pos ha hD
 have hb0:0<b:=Nat.pos_of_dvd_of_pos hb hD
 have hg:0<Nat.gcd a b:=Nat.gcd_pos_of_pos_left _ ha0
 obtain⟨a',b',hc,ea,eb⟩:=Nat.exists_coprime a b
 generalize Nat.gcd a b=g at *
 obtain⟨p,hp⟩:=ha
 obtain⟨q,hq⟩:=hb
 have h1:a'*p=b'*q:=by
  have:g*(a'*p)=g*(b'*q):=by rw [ea]at hp;rw [eb]at hq;grind
  exact Nat.eq_of_mul_eq_mul_left hg this
 have h2:a'∣q:=hc.dvd_of_dvd_mul_left (by rw [←h1];exact Nat.dvd_mul_right _ _)
 obtain⟨m,rfl⟩:=h2
 have ayO:0<a':=by
  rcases Nat.eq_zero_or_pos a' with h | h
  ·rw [h]at ea;omega
  ·exact h
 have h3:p=b'*m:=by
  have:a'*p=a'*(b'*m):=by rw [h1];grind
  exact Nat.eq_of_mul_eq_mul_left ayO this
 subst h3
 have e1:D/a=b'*m:=by rw [hp];exact Nat.mul_div_cancel_left _ ha0
 have e2:D/b=a'*m:=by rw [hq];exact Nat.mul_div_cancel_left _ hb0
 have e3:D/g=a'*b'*m:=by
  rw [hp,ea,show a'*g*(b'*m)=g*(a'*b'*m)by grind]
  exact Nat.mul_div_cancel_left _ hg
 rw [e1,e2,e3,Nat.lcm_mul_right,Nat.lcm_comm,Nat.lcm,show a'.gcd b'=1 from hc,Nat.div_one]
theorem adq(n:Nat)(q:Rat):((n:Int)*q.den).tdiv (Int.gcd n q.den)=(Nat.lcm n q.den:Nat):=by
 have:Int.gcd (n:Int) (q.den:Int)=Nat.gcd n q.den:=rfl
 rw [this,←Int.natCast_mul,←Int.ofNat_tdiv]
 rfl
theorem zS{v:Int}{D:Nat}(hD:0<D):(dM v D).den=D/Nat.gcd D v.natAbs:=by
 have h:=p7 v D (by omega)
 have h2:¬(D:Int)<0:=by omega
 simp only [h2,if_false]at h
 have:Int.gcd v (D:Int)=Nat.gcd D v.natAbs:=by rw [Int.gcd,Nat.gcd_comm];rfl
 rw [this]at h
 exact_mod_cast h
theorem zT{v:Int}{D:Nat}(hD:0<D):(dM v D).num=v/(Nat.gcd D v.natAbs:Nat):=by
 have h:=p0 v D (by omega)
 have h2:¬(D:Int)<0:=by omega
 simp only [h2,if_false]at h
 have:Int.gcd v (D:Int)=Nat.gcd D v.natAbs:=by rw [Int.gcd,Nat.gcd_comm];rfl
 rw [this]at h
 exact h
def gcD(D:Nat)(x:List Int):Nat:=Nat.gcd D (bQ x)
theorem JW{D:Nat}(hD:0<D)(x:List Int):LC (qd x D)=(D/gcD D x:Nat):=by
 have key:∀(l:List Int) (g:Nat),g∣D→(qd l D).foldl (fun (d:Int) q=>(d*q.den).tdiv (Int.gcd d q.den)) (D/g:Nat)=(D/(l.foldl (fun g c=>Nat.gcd g c.natAbs) g):Nat):=by
  intro l
  induction l with
  | nil=>intro g _;rfl
  | cons a l ih =>
   intro g hg
   have h1:=ih (Nat.gcd g a.natAbs) (Nat.dvd_trans (Nat.gcd_dvd_left _ _) hg)
   simp only [qd,List.map_cons,List.foldl_cons]at h1 ⊢
   rw [adq,zS hD,ZO hD hg (Nat.gcd_dvd_left _ _)]
   rw [show Nat.gcd g (Nat.gcd D a.natAbs)=Nat.gcd g a.natAbs by rw [←Nat.gcd_assoc,Nat.gcd_eq_left hg]]
   exact h1
 have h2:∀(l:List Int) (g:Nat),l.foldl (fun g c=>Nat.gcd g c.natAbs) g=Nat.gcd g (bQ l):=by
  intro l
  unfold bQ
  induction l with
  | nil=>intro g;simp
  | cons a l ih =>
   intro g
   simp only [List.foldl_cons]
   rw [ih,ih (Nat.gcd 0 a.natAbs),Nat.gcd_zero_left,Nat.gcd_assoc]
 have h3:=key x D (Nat.dvd_refl _)
 rw [Nat.div_self hD,h2]at h3
 exact h3
theorem adr{D:Nat}(hD:0<D)(x:List Int){G:Nat}(hG:G∣D)(hx:∀c∈x,(G:Int)∣c):VX (D/G:Nat) (qd x D)=(bQ x/G:Nat):=by
 have hG0:0<G:=Nat.pos_of_dvd_of_pos hG hD
 have key:∀(l:List Int) (g:Nat),(∀c∈l,(G:Int)∣c)→G∣g→(qd l D).foldl (fun (g:Int) q=>(Int.gcd g ((q.num*((D/G:Nat):Int)).tdiv q.den):Int)) (g/G:Nat)=((l.foldl (fun g c=>Nat.gcd g c.natAbs) g)/G:Nat):=by
  intro l
  induction l with
  | nil=>intro g _ _;rfl
  | cons a l ih =>
   intro g hl hg
   have ha:G∣a.natAbs:=Int.ofNat_dvd_left.1 (hl a (by simp))
   have h1:=ih (Nat.gcd g a.natAbs) (fun c hc=>hl c (by simp [hc])) (Nat.dvd_gcd hg ha)
   simp only [qd,List.map_cons,List.foldl_cons]at h1 ⊢
   have e:((dM a D).num*((D/G:Nat):Int)).tdiv (dM a D).den=a/(G:Int):=by
    rw [zT hD,zS hD]
    have JK:Nat.gcd D a.natAbs∣D:=Nat.gcd_dvd_left _ _
    have Q6:Nat.gcd D a.natAbs∣a.natAbs:=Nat.gcd_dvd_right _ _
    have hgp:0<Nat.gcd D a.natAbs:=Nat.gcd_pos_of_pos_left _ hD
    generalize Nat.gcd D a.natAbs=k at *
    obtain⟨m,hm⟩:=JK
    obtain⟨n,hn⟩:(k:Int)∣a:=Int.ofNat_dvd_left.2 Q6
    obtain⟨p,hp⟩:=hG
    obtain⟨r,hr⟩:=hl a (by simp)
    have PZ:0<m:=by
     rcases Nat.eq_zero_or_pos m with h | h
     ·rw [h]at hm;omega
     ·exact h
    rw [show a/(k:Int)=n by rw [hn];exact Int.mul_ediv_cancel_left _ (by omega),show D/G=p by rw [hp];exact Nat.mul_div_cancel_left _ hG0,show D/k=m by rw [hm];exact Nat.mul_div_cancel_left _ hgp,
     show a/(G:Int)=r by rw [hr];exact Int.mul_ediv_cancel_left _ (by omega)]
    have e2:n*(p:Int)=m*r:=by
     have hDI:(k:Int)*m=G*p:=by exact_mod_cast hm.symm.trans hp
     have hk:(k:Int)*n=G*r:=hn.symm.trans hr
     have zK:(k:Int)≠0:=by omega
     have hG1:(G:Int)≠0:=by omega
     have:(k:Int)*G*(n*p)=k*G*(m*r):=by
      have e3:(k:Int)*G*(n*p)=(k*n)*(G*p):=by grind
      rw [e3,hk,←hDI];grind
     exact Int.eq_of_mul_eq_mul_left (Int.mul_ne_zero zK hG1) this
    rw [e2]
    exact Int.mul_tdiv_cancel_left _ (by omega)
   rw [e,show Int.gcd ((g/G:Nat):Int) (a/(G:Int))=Nat.gcd g a.natAbs/G from ?_]
   ·exact h1
   ·rw [Int.gcd,Int.natAbs_natCast,←Nat.gcd_div hg ha]
    congr 1
    obtain⟨r,hr⟩:=hl a (by simp)
    rw [hr,Int.mul_ediv_cancel_left _ (show (G:Int)≠0 by omega),Int.natAbs_mul,Int.natAbs_natCast,Nat.mul_div_cancel_left _ hG0]
 have:=key x 0 hx (Nat.dvd_zero _)
 rw [Nat.zero_div]at this
 exact this
theorem wR(D:Nat)(x:List Int):gcD D x∣D:=Nat.gcd_dvd_left _ _
theorem VY{D:Nat}(hD:0<D)(x:List Int):0<gcD D x:=Nat.gcd_pos_of_pos_left _ hD
theorem VZ(D:Nat)(x:List Int):∀c∈x,((gcD D x:Nat):Int)∣c:=fun c hc=>Int.dvd_trans (Int.ofNat_dvd.2 (Nat.gcd_dvd_right _ _)) (iJ x c hc)
theorem zU{v:Int}{D:Nat}(hD:0<D):(dM v D).num<0↔v<0:=by
 rw [zT hD]
 have hg:0<Nat.gcd D v.natAbs:=Nat.gcd_pos_of_pos_left _ hD
 obtain⟨n,hn⟩:((Nat.gcd D v.natAbs:Nat):Int)∣v:=Int.ofNat_dvd_left.2 (Nat.gcd_dvd_right _ _)
 generalize Nat.gcd D v.natAbs=g at *
 rw [hn,Int.mul_ediv_cancel_left _ (show (g:Int)≠0 by omega)]
 constructor
 ·intro h;exact Int.mul_neg_of_pos_of_neg (by omega) h
 ·intro h
  rcases Int.lt_or_le n 0 with h1 | h1
  ·exact h1
  ·have:=Int.mul_nonneg (show (0:Int)≤g by omega) h1
   omega
theorem ads{D:Nat}(hD:0<D){x:List Int}(hx:0<x.length):SV (qd x D)=dM (lK x) D:=by
 have xO:(D:Int)≠0:=by omega
 have e:(nth (qd x D) ((qd x D).length-1)).num<0↔lead x<0:=by
  rw [JR xO,zU hD];simp [lead]
 have hG:=VY hD x
 have e2:dM (VX (LC (qd x D)) (qd x D)) (LC (qd x D))=dM (bQ x) D:=by
  rw [JW hD,adr hD x (wR D x) (VZ D x)]
  have h1:D/gcD D x*gcD D x=D:=Nat.div_mul_cancel (wR D x)
  have h2:bQ x/gcD D x*gcD D x=bQ x:=Nat.div_mul_cancel (Nat.gcd_dvd_right _ _)
  have h3:0<D/gcD D x:=Nat.div_pos (Nat.le_of_dvd hD (wR D x)) hG
  have h4:=VV (v:=(bQ x/gcD D x:Nat)) (D:=(D/gcD D x:Nat)) (l:=(gcD D x:Nat)) (by omega) (by omega)
  rw [←Int.natCast_mul,←Int.natCast_mul,h1,h2]at h4
  exact h4.symm
 unfold SV lK
 rw [e2]
 by_cases h:lead x<0
 ·rw [if_pos (e.2 h),if_pos h,←VW xO];grind
 ·rw [if_neg (fun h2=>h (e.1 h2)),if_neg h]
theorem V0{v D:Int}(hD:D≠0)(hv:v≠0):1/dM v D=dM D v:=by
 rw [fE hD,fE hv]
 have h1:=gR hD
 have h2:=gR hv
 grind
theorem SW{x:List Int}(cx:Cn x)(hx:x ≠ []):lK x≠0:=by
 have h0:=oC x
 have gx:=cN cx hx
 omega
theorem anx{D:Nat}(hD:0<D){x:List Int}(cx:Cn x)(hx:x ≠ []):qpr (qd x D)=qs (r9 x):=by
 have oT:=List.length_pos_iff.2 hx
 have xO:(D:Int)≠0:=by omega
 have hp:=SW cx hx
 have hc:=gR hp
 have hDc:=gR xO
 rw [qpr,ads hD oT,V0 xO hp,kN,r9,←wL]
 congr 1
 simp only [qd,qs,List.map_map]
 refine List.map_congr_left fun v hv=>?_
 simp only [Function.comp_apply]
 obtain⟨w,rfl⟩:=JP x v hv
 have:rE (lK x) (lK x*w)=w:=by
  unfold rE
  rw [if_pos (Int.mul_emod_right _ _)]
  exact Int.mul_ediv_cancel_left _ hp
 rw [this,fE xO,fE hp,Rat.intCast_mul]
 grind
theorem NX(x:List Int):j6 x=if lead x<0 then gV (r9 x)else r9 x:=by
 unfold r9 lK
 split
 ·have e:∀v,rE (-(bQ x:Int)) v = - rE (bQ x) v:=fun v=>by
   unfold rE
   rw [Int.emod_neg,Int.ediv_neg]
   split<;>simp
  refine Cn.ext (Cn.cut _) (Cn.gV _) fun t=>?_
  rw [CN,c9,j6,c9]
  have h1:=gZ (t:=t) (-1) (rE (bQ x)) x
  have h2:(x.map fun v=>rE (bQ x) v * -1)=x.map (rE (-(bQ x:Int))):=List.map_congr_left fun v _=>by rw [e];omega
  rw [h2]at h1
  rw [h1];omega
 ·rfl
theorem SX(x:List Int)(D:Nat)(hD:0<D){s n:Nat}(hx:Bd 2 s n x)(sD:sz 2 D≤s)(cx:Cn x)(h0:x ≠ [])(pY:1≤s)(hs:s≤YY)(hn:n<1099511627776) :
  aD env.P 168 [PP (qd x D)] (.eB [RR (dM (lK x) D),PI (r9 x)]):=by
 have xO:(D:Int)≠0:=by omega
 have oT:=List.length_pos_iff.2 h0
 have hp:=SW cx h0
 have hlen:=hx.len
 have sdiv:∀(a b:Nat),sz 2 (a:Int)≤s→sz 2 ((a/b:Nat):Int)≤s:=fun a b h=>Nat.le_trans (c7 (by decide) (by rw [Int.natAbs_natCast,Int.natAbs_natCast];exact Nat.div_le_self a b)) h
 have spc:sz 2 (lK x)≤s:=by
  have:=mS hx.sz
  refine Nat.le_trans (c7 (by decide) (Nat.le_of_eq ?_)) this
  rw [oC];rfl
 have tk:∀i,(qd x D).take i=qd (x.take i) D:=fun i=>by simp [qd,List.map_take]
 have hc:=ads hD oT
 have h1:=sA (qd x D) (k:=s) hs pY (fun q hq=>by
   simp only [List.mem_map]at hq
   obtain⟨v,hv,rfl⟩:=hq
   exact uU xO (hx.sz v hv) sD) (by simp;omega) (by simpa using h0)
  (fun i=>by rw [tk,JW hD];exact sdiv _ _ sD)
  (fun i=>by
   rw [tk,JW hD]
   have:=Nat.div_pos (Nat.le_of_dvd hD (wR D (x.take i))) (VY hD _)
   omega)
  (fun i=>by
   rw [tk,JW hD,adr hD (x.take i) (wR D x) (fun c hc=>VZ D x c (List.mem_of_mem_take hc))]
   exact sdiv _ _ (mS fun c hc=>hx.sz c (List.mem_of_mem_take hc)))
  (by rw [hc];exact uU xO (Nat.le_trans spc hs) (Nat.le_trans sD hs))
  (by rw [hc];exact fun h=>hp ((zP xO).1 h))
  (by rw [hc,V0 xO hp];exact uU hp (Nat.le_trans sD hs) (Nat.le_trans spc hs))
 rw [hc,anx hD cx h0,qV]at h1
 exact h1
theorem adt{x:List Int}{s n:Nat}(hx:Bd 2 s n x):Bd 2 s n (r9 x):=Bd.cut ⟨by simpa using hx.len,fun c hc=>by
 simp only [List.mem_map]at hc
 obtain⟨v,hv,rfl⟩:=hc
 refine Nat.le_trans (c7 (by decide) ?_) (hx.sz v hv)
 unfold rE
 split
 ·exact Int.natAbs_ediv_le_natAbs _ _
 ·simp⟩
theorem NY(x:List Int)(D:Nat)(hD:0<D){s n:Nat}(hx:Bd 2 s n x)(sD:sz 2 D≤s)(cx:Cn x)(pY:1≤s)(hs:s≤YY)(hn:n<1099511627776) :
  aD env.P 171 [PP (qd x D)] (PI (j6 x)):=by
 have xO:(D:Int)≠0:=by omega
 have bp:=adt hx
 have hN:=GZ (r9 x) (bp.mono hs (by omega))
 rw [NX]
 have hP:∃q:Rat,aD env.P 168 [PP (qd x D)] (.eB [RR q,PI (r9 x)])∧(q.num<0↔lead x<0):=by
  by_cases h0:x = []
  ·subst h0
   refine⟨(lK []:Int),?_,?_⟩
   ·have:=DG [] hx cx pY hs hn
    rw [RR,fT]
    exact this
   ·rw [show lK ([]:List Int)=0 by decide];decide
  ·refine⟨_,SX x D hD hx sD cx h0 pY hs hn,?_⟩
   rw [zU hD]
   have gx:=cN cx h0
   unfold lK
   split<;>omega
 obtain⟨q,hP,hq⟩:=hP
 generalize r9 x=y at *
 generalize qd x D=l at *
 refine bY [(0,PP l)] Tryz.func171 ?_
 refine aA [0] ?_
 refine aJ [3,4] hP ?_
 refine aL [4,12] ?_
 refine bC ?_ ?_<;>intro h
 ·simp at h
  rw [if_pos (hq.1 h)]
  refine aJ [2] hN ?_
  exact bV
 ·have h:¬q.num<0:=by simpa using h
  rw [if_neg (fun h2=>h (hq.2 h2))]
  refine W.skip ?_
  refine aA [2] ?_
  exact bV
theorem NZ(x y:List Int){s s' N:Nat}(hx:Bd 2 s N x)(hy:Bd 2 s' N y)(cx:Cn x)(cy:Cn y)(SB:0<y.length)(hs:1≤s)(hB:s+(N+1)*(s'+N+2)+s'+N+N+10<137438953472) :
  aD env.P 240 [PP (qs x),PP (qs y)] (.eB [PP (qd (aP (dmd x y).Q) (dmd x y).D),PP (qd (dmd x y).r (dmd x y).D)]):=by
 have hNx:=hx.len
 have hNy:=hy.len
 have hl:=cX cy SB
 have hls:=fX hy
 have hM:x.length+1≤N+1:=by omega
 refine cY (E:=env) (fun id=>if id=17 then 2 else 0) [(0,PP (qs x)),(1,PP (qs y))] Tryz.func240 rfl (by kernel_rfl) (by kernel_rfl) (show 2≤84 by decide) (by simp) ?_
 obtain⟨R0,LW⟩:∃R0,R0=ZM y (x.length+1) ⟨List.replicate (jJ x y) 0,x,1⟩:=⟨_,rfl⟩
 rw [show dmd x y=R0 from LW.symm]
 have hkN:jJ x y≤N:=by unfold jJ;omega
 have hkk:(if (x.length:Int)-(y.length:Int)+1<0 then 0 else(x.length:Int)-(y.length:Int)+1)=(jJ x y:Int):=by unfold jJ;split<;>omega
 have hI0:uV x y ⟨List.replicate (jJ x y) 0,x,1⟩:=uV.start cx
 generalize zK:jJ x y=k0 at *
 obtain⟨a0,ha0⟩:∃a0,a0=qs x:=⟨_,rfl⟩
 obtain⟨yq,hyq⟩:∃yq,yq=qs y:=⟨_,rfl⟩
 have la0:a0.length=x.length:=by rw [ha0];simp
 have lyq:yq.length=y.length:=by rw [hyq];simp
 rw [←ha0,←hyq]
 refine aA [0,1] ?_
 refine W.sr ?_
 simp (disch:=omega) [gw,la0,lyq,hkk]
 refine bL [0,1,6] ?_
 refine aL [0,1,6,21,22] ?_
 refine W.block ?_
 refine W.bG (fun k σ=>∃(i ver:Nat) (els:List (List PV)) (rows:Pm.Rows) (clk:Nat),σ=⟨fa [(0,PP a0),(1,PP yq),(6, .own 19 ver 0 k0),(21, .int .i64 k0),(22, .int .i64 i)],rows,clk⟩ ∧
  rows 19=some ⟨ver,31,4,els⟩∧els.length=k0∧(∀e∈els,e.length=4)∧els.take i=emap ri (List.replicate i 0)∧k=k0-i∧i≤k0) k0 ?_ ?_
 ·exact⟨_, .refl,0,_,List.replicate k0 [.nil, .bool false, .nil, .bool false],_,_,rfl,by simp,by simp,by simp,by simp [emap],by omega,by omega⟩
 rintro k _ ⟨i,ver,els,rows,clk,rfl,hr,mW,NQ,rA,hk,hi⟩
 have R9:bM 4 els=True:=by simp only [bM,eq_iff_iff,iff_true];exact NQ
 refine b9 [0,1,6,21,22,23] ?_
 refine bC ?_ ?_<;>intro h
 ·have h:i<k0:=by simp at h;omega
  refine kW ?_
  refine aA [0,1,6,7,21,22] ?_
  refine W.cC (fun K hK=>?_)
  simp (disch:=omega) [gw]
  refine aB pE ?_
  have uT:i<els.length:=by omega
  have hE:uA els i 4=True:=by
   simp only [eq_iff_iff,iff_true]
   exact⟨els[i],List.getElem?_eq_getElem uT,by rw [NQ _ (List.getElem_mem uT)];omega⟩
  have hS:iT els i 0 [aI aG (aN DD 0), .bool false,aI aG (aN DD 1), .bool false]=els.set i (ri 0):=by
   have h4:=NQ _ (List.getElem_mem uT)
   rw [iT,List.getElem?_eq_getElem uT]
   simp [List.drop_of_length_le,h4]
  simp (disch:=omega) [gw,hr,hE,hS]
  refine W.lw [0,1,6,21,22] hK ?_;clear hK K;simp
  refine W.cC (fun K hK=>?_);simp (disch:=omega) [gw]
  refine hK _ ⟨k0-(i+1),_,aC _ [0,1,6,21,22],by omega,i+1,ver,els.set i (ri 0),_,_,rfl,by simp,by simpa using mW,fun e he=>?_,?_,by omega,by omega⟩
  ·rcases List.mem_or_eq_of_mem_set he with h1 | h1
   ·exact NQ e h1
   ·rw [h1];rfl
  ·rw [l7 rA (by omega),List.replicate_succ']
   simp [emap]
 have h:i=k0:=by simp at h;omega
 subst h
 have mJ:els=emap re (qd (List.replicate i 0) 1):=by rw [JS,DE,←rA,bO mW]
 subst mJ
 rw [show a0=qd x 1 by rw [ha0,JS]]
 clear rA NQ mW R9 hk hi hkk ha0 la0 a0
 refine eV ?_
 refine W.seq ?_
 refine W.block ?_
 generalize hdd:s'+N+2=d at *
 have hNN:∀j,(x.length+1-j)*d≤(N+1)*d:=fun j=>Nat.mul_le_mul_right _ (by omega)
 refine W.bG (fun n σ=>∃(Q r:List Int) (D:Int) (v6:Nat) (rows:Pm.Rows) (clk:Nat),σ=⟨fa [(0,PP (qd r D)),(1,PP yq),(6, .own 19 v6 0 i)],rows,clk⟩ ∧
  rows 19=some ⟨v6,31,4,emap re (qd Q D)⟩∧Q.length=i∧uV x y ⟨Q,r,D⟩∧r.length<n∧n≤x.length+1∧ZM y n ⟨Q,r,D⟩=R0∧Bd 2 (s+(x.length+1-n)*d) N r∧sz 2 D≤s+(x.length+1-n)*d) (x.length+1) ?_ ?_
 ·exact⟨_,aC _ [0,1,6],_,x,1,_,_,_,rfl,hr,by simp,hI0,by omega,by omega,LW.symm,hx.mono (by omega) (by omega),Nat.le_trans (dE (k:=1) (by decide) (by decide)) (by omega)⟩
 clear hr rows clk ver
 rintro n _ ⟨Q,r,D,v6,rows,clk,rfl,hr,hQ,hI,hrn,hnM,hd,br,bD⟩
 have hD:D≠0:=hI.d
 have YZ:=hNN n
 obtain⟨a,ha⟩:∃a,a=qd r D:=⟨_,rfl⟩
 have la:a.length=r.length:=by rw [ha];simp
 rw [←ha]
 refine W.seq ?_
 refine W.sr ?_
 simp (disch:=omega) [gw,la,lyq]
 refine bL [0,1,6,34] ?_
 refine bC ?_ ?_<;>intro h
 ·have h:y.length≤r.length:=by simp at h;omega
  obtain⟨n,rfl⟩:∃m,n=m+1:=⟨n-1,by omega⟩
  obtain⟨k,hk⟩:∃k,k=r.length-y.length:=⟨_,rfl⟩
  have hkI:(r.length:Int)-(y.length:Int)=k:=by omega
  have hki:k<i:=by have:=hI.q.resolve_right (show ¬r.length<y.length by omega);simp only at this;omega
  have hI2:=hI.step cy SB h
  have MZ:=JT (σ:=⟨Q,r,D⟩) SB h
  rw [ZM,if_neg (show ¬r.length<y.length by omega)]at hd
  simp only [dst,←hk]at hI2 MZ hd
  have hT:s+(x.length+1-n)*d=s+(x.length+1-(n+1))*d+d:=by
   rw [show x.length+1-n=(x.length+1-(n+1))+1 by omega,Nat.add_mul,Nat.one_mul];omega
  have hn3:=hNN n
  generalize hU:s+(x.length+1-(n+1))*d=U at *
  have hlr:=fX br
  have hNr:=br.len
  have AL:D*lead y≠0:=Int.mul_ne_zero hD hl
  have zD2:sz 2 (D*lead y)≤U+s':=cD (by decide) bD hls
  have hp:nth a (r.length-1)=dM (lead r) D:=by rw [ha,JR hD];rfl
  have P6:nth yq (y.length-1)=(lead y:Rat):=by rw [hyq,ac7];rfl
  have atD:=DB (dM (lead r) D) (lead y:Rat) (uU hD (Nat.le_trans hlr (by show U≤137438953472;omega)) (Nat.le_trans bD (by show U≤137438953472;omega))) (oU (Nat.le_trans hls (by show s'≤137438953472;omega)) (by decide)) (gR hl)
  rw [ahA hD hl]at atD
  have hSc:=p9 yq (dM (lead r) (D*lead y)) (by rw [hyq];exact ZF.qs (fun c hc=>Nat.le_trans (hy.sz c hc) (by show s'≤137438953472;omega)) (by omega)) (uU AL (Nat.le_trans hlr (by show U≤137438953472;omega)) (Nat.le_trans zD2 (by show U+s'≤137438953472;omega)))
  rw [hyq,ZL AL,←hyq]at hSc
  have bsc:Bd 2 (U+s') N (bB y (lead r)):=(hy.bB (by decide) hlr).mono (by omega) (by omega)
  have bw:Bd 2 (U+s') N (List.replicate k 0++bB y (lead r)):=⟨by have:=pW y (lead r);simp;omega,fun c hc=>by
   rcases List.mem_append.1 hc with h1 | h1
   ·rw [(List.mem_replicate.1 h1).2,kI];omega
   ·exact bsc.sz c h1⟩
  have brl:Bd 2 (U+s') N (r.map (· * lead y)):=⟨by simpa using br.len,fun c hc=>by
   simp only [List.mem_map]at hc
   obtain⟨v,hv,rfl⟩:=hc
   exact cD (by decide) (br.sz v hv) hls⟩
  have hSu:=adl (qd (r.map (· * lead y)) (D*lead y)) (qd (List.replicate k 0++bB y (lead r)) (D*lead y)) _
   (SU AL brl zD2 (by show U+s'≤137438953472;omega) (by omega)) (SU AL bw zD2 (by show U+s'≤137438953472;omega) (by omega)) (ahC AL _) (SU AL bw.gV zD2 (by show U+s'≤137438953472;omega) (by omega))
  rw [ahB AL,SS hD hl,←ha]at hSu
  have er:iI (r.map (· * lead y)) (gV (List.replicate k 0++bB y (lead r)))=xM y (lead y) (lead r) k r:=Cn.ext (Cn.iI _ _) (Cn.fF _ _) fun t=>by
   rw [rV,eA,CN,dZ,qT,cM,xM,iY,cM,dI,oA,List.length_replicate];grind
  have br2:Bd 2 (U+d) N (xM y (lead y) (lead r) k r):=by
   rw [←er]
   exact(Bd.iI (by decide) brl bw.gV).mono (by omega) (by omega)
  rw [er]at hSu
  have ew:qd (List.replicate k 0++bB y (lead r)) (D*lead y)=List.replicate k 0++qd (bB y (lead r)) (D*lead y):=by
   simp only [qd,List.map_append,List.map_replicate,wP AL]
  rw [ew]at hSu
  have lb:(qd (bB y (lead r)) (D*lead y)).length≤N:=by have:=bsc.len;simpa using this
  have ac9:(qd Q D).set k (dM (lead r) (D*lead y))=qd ((Q.map (· * lead y)).set k (lead r)) (D*lead y):=by
   rw [←SS hD hl Q,qd,qd,List.map_set]
  have hQl:(qd Q D).length=i:=by simpa using hQ
  refine W.skip ?_
  refine W.block ?_
  generalize hz:qd Q D=z at *
  generalize qd (bB y (lead r)) (D*lead y)=b at *
  generalize SY:dM (lead r) (D*lead y)=c at *
  generalize hp2:dM (lead r) D=p at *
  generalize hlq:(lead y:Rat)=lq at *
  generalize ha2:qd (xM y (lead y) (lead r) k r) (D*lead y)=a2 at *
  refine W.sr ?_
  simp (disch:=omega) [gw,la,lyq,hkI]
  refine bL [0,1,6,8] ?_
  have aDX:0<r.length:=by omega
  have e1:((r.length:Int)-1).toNat=r.length-1:=by omega
  have e2:((y.length:Int)-1).toNat=y.length-1:=by omega
  refine W.sd ?_
  simp (disch:=omega) [gw,la,lyq,e1,e2,hp,P6]
  refine cB atD ?_
  rw [if_pos (by kernel_rfl)]
  simp (disch:=omega) [gw]
  refine bL [0,1,6,8,9] ?_
  have hkl:k<z.length:=by omega
  refine W.sr ?_
  simp (disch:=omega) [gw,hr,hkl]
  refine bL [0,1,6,8,9] ?_
  refine aA [0,1,6,8,9,10] ?_
  refine aL [0,1,6,8,9,10,60,61] ?_
  refine W.block ?_
  refine W.bG (fun m σ=>∃(j v9 v10 v6:Nat) (els:List (List PV)) (rows:Pm.Rows) (clk:Nat),σ=⟨fa [(0,PP a),(1,PP yq),(6, .own 19 v6 0 i),(9, .ptr 9 v9 0 0),(10, .own 58 v10 0 k),(60, .int .i64 k),(61, .int .i64 j)],rows,clk⟩ ∧
   rows 19=some ⟨v6,31,4,emap re (z.set k c)⟩∧rows 9=some ⟨v9,31,4,[[aI aG (aN DD c.num.natAbs), .bool (decide (c.num<0)),aI aG (aN DD c.den), .bool false]]⟩ ∧
   rows 58=some ⟨v10,31,4,els⟩∧els.length=k∧(∀e∈els,e.length=4)∧els.take j=emap ri (List.replicate j 0)∧m=k-j∧j≤k) k ?_ ?_
  ·exact⟨_,aC _ [0,1,6,9,10,60,61],0,_,_,_,List.replicate k [.nil, .bool false, .nil, .bool false],_,_,rfl,by simp [hr],by simp,by simp,by simp,by simp,by simp [emap],by omega,by omega⟩
  clear hr rows clk v6
  rintro m _ ⟨j,v9,v10,v6,els,rows,clk,rfl,hr,hr9,jN,mW,NQ,rA,hm,hj⟩
  have R9:bM 4 els=True:=by simp only [bM,eq_iff_iff,iff_true];exact NQ
  refine b9 [0,1,6,9,10,60,61,62] ?_
  refine bC ?_ ?_<;>intro h
  ·have h:j<k:=by simp at h;omega
   refine kW ?_
   refine aA [0,1,6,9,10,11,60,61] ?_
   refine W.cC (fun K hK=>?_)
   simp (disch:=omega) [gw]
   refine aB pE ?_
   have uT:j<els.length:=by omega
   have hE:uA els j 4=True:=by
    simp only [eq_iff_iff,iff_true]
    exact⟨els[j],List.getElem?_eq_getElem uT,by rw [NQ _ (List.getElem_mem uT)];omega⟩
   have hS:iT els j 0 [aI aG (aN DD 0), .bool false,aI aG (aN DD 1), .bool false]=els.set j (ri 0):=by
    have h4:=NQ _ (List.getElem_mem uT)
    rw [iT,List.getElem?_eq_getElem uT]
    simp [List.drop_of_length_le,h4]
   simp (disch:=omega) [gw,jN,hE,hS]
   refine W.lw [0,1,6,9,10,60,61] hK ?_;clear hK K;simp
   refine W.cC (fun K hK=>?_);simp (disch:=omega) [gw]
   refine hK _ ⟨k-(j+1),_,aC _ [0,1,6,9,10,60,61],by omega,j+1,v9,v10,v6,els.set j (ri 0),_,_,rfl,by simp [hr],by simp [hr9],by simp,by simpa using mW,fun e he=>?_,?_,by omega,by omega⟩
   ·rcases List.mem_or_eq_of_mem_set he with h1 | h1
    ·exact NQ e h1
    ·rw [h1];rfl
   ·rw [l7 rA (by omega),List.replicate_succ']
    simp [emap]
  have h:j=k:=by simp at h;omega
  subst h
  have mJ:els=emap re (List.replicate j 0):=by
   have h1:emap ri (List.replicate j 0)=emap re (List.replicate j 0):=by simp [emap,fT]
   rw [←h1,←rA,bO mW]
  subst mJ
  clear rA NQ mW R9
  refine eV ?_
  refine W.P5 (fun K hK=>?_)
  rw [if_pos rfl,eQ]
  have hsl:((List.take r.length a).drop 0)=a:=by rw [List.drop_zero,List.take_of_length_le (by omega)]
  simp (disch:=omega) [gw,la,lyq,hr9,IU,hsl]
  refine aB hSc ?_
  have xL:List.take (j+b.length) (List.replicate j 0++b)=List.replicate j 0++b:=List.take_of_length_le (by simp)
  simp (disch:=omega) [gw,jN,xL]
  refine cB hSu ?_
  subst ha2
  have bR:rows 19=some ⟨v6,31,4,emap re (qd ((Q.map (· * lead y)).set j (lead r)) (D*lead y))⟩:=by rw [hr,ac9]
  refine hK _ ⟨n,_,aC _ [0,1,6],by omega,(Q.map (· * lead y)).set j (lead r),xM y (lead y) (lead r) j r,D*lead y,v6,_,_,rfl,by simp [bR],by simpa using hQ,hI2,by omega,by omega,hd,?_,?_⟩
  ·rw [hT];exact br2
  ·rw [hT];exact Nat.le_trans zD2 (by omega)
 ·have h:r.length<y.length:=by simp at h;omega
  rw [ahD h]at hd
  subst hd
  refine eV ?_
  have SZ:=wM (qd Q D) (by simp;omega)
  rw [wQ hD]at SZ
  have hQl:(qd Q D).length=i:=by simpa using hQ
  have uQ:=bO hQl
  rw [←ha]
  generalize qd Q D=z at *
  generalize qd (aP Q) D=z2 at *
  refine W.sr ?_
  simp (disch:=omega) [gw,hr,uQ]
  refine bS [4,5] SZ ?_
  exact bV
theorem N4{x y:List Int}(cy:Cn y)(hy:0<y.length):∀(j:Nat),j≤x.length→exs y j (List.replicate j 0++x.drop j) (bT (aP (x.take j)) y)=some (x,[])
 | 0,_=>by
  have:bT (aP (x.take 0)) y = []:=Cn.ext (Cn.bT _ _) Cn.nil fun t=>by rw [dI,c9];simp [V]
  rw [exs,this];rfl
 | j+1,h=>by
  have ih:=N4 (x:=x) cy hy j (by omega)
  have hly:=cX cy hy
  have ht:=bI (l:=x) (i:=j) (by omega)
  have hdr:x.drop j=nth x j::x.drop (j+1):=by
   rw [List.drop_eq_getElem_cons (l:=x) (i:=j) (by omega),show nth x j=x[j]from dD (by omega)]
  rw [exs]
  by_cases hv:nth x j=0
  ·have hw:aP (x.take (j+1))=aP (x.take j):=by rw [ht,hv,jV]
   rw [hw]
   have h1:=rW (x:=aP (x.take j)) hy
   have h2:=bZ (x.take j)
   rw [List.length_take]at h2
   rw [if_pos (by omega),←ih]
   rw [hdr,hv,List.replicate_succ',List.append_assoc];rfl
  ·have hw:aP (x.take (j+1))=x.take j ++ [nth x j]:=by rw [ht];exact iA hv _
   have cw:Cn (x.take j ++ [nth x j]):=iA hv _
   have hwl:(x.take j ++ [nth x j]).length=j+1:=by simp;omega
   have hlw:lead (x.take j ++ [nth x j])=nth x j:=by
    rw [lead,hwl,Nat.add_sub_cancel,dD (by omega)]
    have:(x.take j).length=j:=by simp;omega
    simp [List.getElem_append_right,this]
   rw [hw]
   have hl:=jZ cw cy (by omega) hy
   have hd:=x7 cw cy (by omega) hy
   rw [hwl]at hl
   rw [hlw]at hd
   rw [if_neg (by omega),hd,if_pos (Int.mul_emod_left _ _),Int.mul_ediv_cancel _ hly]
   have e1:fF (bT (x.take j ++ [nth x j]) y) (bT (q9 j (nth x j)) y)=bT (aP (x.take j)) y:=Cn.ext (Cn.fF _ _) (Cn.bT _ _) fun t=>by
    rw [iY,dI,dI,dI,c9,dZ,n6,oA,show(x.take j).length=j by simp;omega]
    grind
   have e2:(List.replicate (j+1) 0++x.drop (j+1)).set j (nth x j)=List.replicate j 0++x.drop j:=by
    rw [hdr,List.replicate_succ',List.append_assoc,List.set_append_right _ _ (by simp)]
    simp
   rw [e1,e2]
   exact ih
theorem S3{x y:List Int}(cx:Cn x)(cy:Cn y)(hy:0<y.length):exact (bT x y) y=some x:=by
 have hk:jJ (bT x y) y=x.length:=by
  rcases Nat.eq_zero_or_pos x.length with h | h
  ·have:x = []:=List.eq_nil_of_length_eq_zero h
   have e:bT x y = []:=Cn.ext (Cn.bT _ _) Cn.nil fun t=>by rw [dI,this];simp [V]
   rw [e,this];simp [jJ];omega
  ·have:=jZ cx cy h hy
   unfold jJ;omega
 have h1:=N4 (x:=x) cy hy x.length (Nat.le_refl _)
 rw [List.take_length,show aP x=x from cx,List.drop_length,List.append_nil]at h1
 rw [exact,hk,h1,exF,show aP x=x from cx]
theorem JX{y h:List Int}(cy:Cn y)(hy:0<y.length)(e:∀t,V t y*V t h=0):aP h = []:=by
 by_cases hh:aP h = []
 ·exact hh
 ·exfalso
  have h1:bT y (aP h) = []:=Cn.ext (Cn.bT _ _) Cn.nil fun t=>by rw [dI,c9,e];rfl
  have h2:=jZ cy (Cn.cut h) hy (List.length_pos_iff.2 hh)
  rw [h1]at h2
  have:=List.length_pos_iff.2 hh
  simp at h2;omega
theorem N5{a b:List Int}(h:aP (fF a b) = [])(t:Int):V t a=V t b:=by
 have h1:=iY (t:=t) a b
 rw [←c9,h]at h1
 have:V t ([]:List Int)=0:=rfl
 omega
theorem ZP{D:Int}(h:D≠0)(x:List Int):qd (x.map (· * D)) D=qs x:=by
 have:=SS (D:=1) (l:=D) (by decide) h x
 rw [Int.one_mul,JS]at this
 exact this
theorem adu{x y q:List Int}(cx:Cn x)(cy:Cn y)(hy:0<y.length)(cq:Cn q)(h:∀t,V t x=V t q*V t y):qd (aP (dmd x y).Q) (dmd x y).D=qs q∧(dmd x y).r = []:=by
 obtain⟨hI,hr⟩:=ahE cx cy hy
 generalize dmd x y=σ at *
 have hv:=hI.v
 have e:∀t,V t σ.r=V t y*V t (fF (q.map (· * σ.D)) σ.Q):=fun t=>by
  have h1:=hv t
  rw [h]at h1
  rw [iY,eA]
  grind
 have h1:=GK hI.c cy hy e hr
 have h2:aP (fF (q.map (· * σ.D)) σ.Q) = []:=JX cy hy fun t=>by rw [←e,h1];rfl
 have e2:aP σ.Q=q.map (· * σ.D):=Cn.ext (Cn.cut _) (lI cq hI.d) fun t=>by rw [c9];exact(N5 h2 t).symm
 rw [e2]
 exact⟨ZP hI.d q,h1⟩
end Go.Proofs.YtelhfbikiccfkaaGreat
