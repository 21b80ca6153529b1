import Derived.Test.YtiobceocpabjdaaGreatNae
import Derived.Test.YtiobceocpabjdaaGreatNai
set_option linter.unusedSimpArgs false
set_option linter.unusedVariables false
namespace Go.Proofs.YtiobceocpabjdaaGreat
open Go Pm
variable {x a b y:List Int}{m v g D l w:Int}{s n i s' k:Nat}
theorem amf(x:List Int):pV (x.map xZ)=aZ x:=by simp only [pV,cZ]
theorem oC(hx:Cn x)(hm:m≠0):Cn (x.map (· * m)):=by
 rcases Nat.eq_zero_or_pos x.length with h | h
 ·have:x = []:=List.eq_nil_of_length_eq_zero h
  subst this;rfl
 ·have e:=zE h
  have:x.map (· * m)=(x.take (x.length-1)).map (· * m) ++ [lead x*m]:=by
   conv=>lhs;rw [e]
   simp
  rw [this]
  exact kS (Int.mul_ne_zero (dO hx h) hm) _
theorem xI(hx:Cn x)(hm:m≠0):bJ x m=x.map (· * m):=oC hx hm
theorem Y1(hx:Cn x):bJ x 1=x:=Cn.ext (Cn.bJ _ _) hx fun t=>by rw [dA];omega
theorem Y2(x:List Int):jP x=bJ x (-1):=Cn.ext (Cn.jP _) (Cn.bJ _ _) fun t=>by rw [HV,dA];omega
theorem oD(m:Int)(x:List Int):bX (x.map (· * m))=bX x*m.natAbs:=by
 have key:∀(l:List Int) (g:Nat),(l.map (· * m)).foldl (fun g c=>Nat.gcd g c.natAbs) (g*m.natAbs)=l.foldl (fun g c=>Nat.gcd g c.natAbs) g*m.natAbs:=by
  intro l
  induction l with
  | nil=>intro g;rfl
  | cons c l ih =>
   intro g
   simp only [List.map_cons,List.foldl_cons]
   rw [Int.natAbs_mul,Nat.gcd_mul_right,ih]
 have:=key x 0
 rw [Nat.zero_mul]at this
 exact this
theorem ad2(hm:0<m)(g v:Int):tT (g*m) (v*m)=tT g v:=by
 unfold tT
 rw [Int.mul_comm v,Int.mul_comm g,Int.mul_emod_mul_of_pos _ _ hm,Int.mul_ediv_mul_of_pos _ _ hm]
 have:m*(v%g)=0↔v%g=0:=by
  constructor
  ·intro h
   rcases Int.mul_eq_zero.1 h with h | h
   ·omega
   ·exact h
  ·intro h;rw [h];simp
 simp only [this]
theorem Y3(hm:0<m)(x:List Int):mS (x.map (· * m))=mS x:=by
 unfold mS
 rw [oD,List.map_map]
 congr 1
 refine List.map_congr_left fun v _=>?_
 simp only [Function.comp_apply]
 have:((bX x*m.natAbs:Nat):Int)=(bX x:Int)*m:=by rw [Int.natCast_mul];congr 1;omega
 rw [this,ad2 hm]
theorem ET(hx:Cn x)(hm:0<m):mS (bJ x m)=mS x:=by rw [xI hx aA,Y3 hm]
def sg(c:Int)(k:Nat):Int:=if k%2=1∧c<0 then -1 else 1
theorem ahQ(c:Int):∀k:Nat,c^k=sg c k*(c.natAbs:Int)^k
 | 0=>by simp [sg]
 | k+1=>by
  have ih:=ahQ c k
  have hc:c=(if c<0 then -1 else 1)*(c.natAbs:Int):=by split<;>omega
  have hs:sg c (k+1)=sg c k*(if c<0 then -1 else 1):=by
   unfold sg
   by_cases h:c<0
   ·rcases Nat.mod_two_eq_zero_or_one k with h2 | h2
    ·rw [if_pos ⟨aA,h⟩,if_neg aA,if_pos h];rfl
    ·rw [if_neg aA,if_pos ⟨h2,h⟩,if_pos h];rfl
   ·rw [if_neg (fun h2=>h h2.2),if_neg (fun h2=>h h2.2),if_neg h];rfl
  rw [Int.pow_succ,Int.pow_succ,ih,hs]
  conv=>lhs;rw [hc]
  generalize (if c<0 then(-1:Int)else 1)=e at *
  have e3:((e*(c.natAbs:Int)).natAbs:Int)=(c.natAbs:Int):=by rw [<-hc]
  rw [e3]
  grind
theorem ahR(c:Int)(k:Nat):sg c k*sg c k=1:=by unfold sg;split<;>rfl
theorem ahS(ca:Cn a):UK a b=mS (bJ (EL a b).2 (sg (lead b) (mA a b))):=by
 have cr:=(HY (b:=b) ca).2
 unfold UK sg
 split
 ·rw [Y2]
 ·rw [Y1 cr]
theorem oV(x:List Int):(mS x).length<=x.length:=Nat.le_trans (cL _) aG
theorem UN(x:List Int):(jP x).length<=x.length:=Nat.le_trans (cL _) aG
theorem amg(hb:0<b.length):(UK a b).length<b.length:=by
 have h1:=O3 (a:=a) hb
 unfold UK
 split
 ·have h2:=oV (jP (EL a b).2)
  have h3:=UN (EL a b).2
  omega
 ·have h2:=oV (EL a b).2
  omega
theorem asF(a b:List Int):Cn (UK a b):=by unfold UK;split<;>exact Cn.cut _
def exs(b:List Int):Nat->List Int->List Int->Option (List Int × List Int)
 | 0,q,a=>some (q,a)
 | i+1,q,a=>if a.length<b.length+i then exs b i q a else if lead a%lead b=0 then exs b i (q.set i (lead a/lead b)) (iB a (cB (uX i (lead a/lead b)) b))else none
def exF:Option (List Int × List Int)->Option (List Int)
 | some (q,[])=>some (aZ q)
 | _=>none
def exact(a b:List Int):Option (List Int):=exF (exs b (mA a b) (List.replicate (mA a b) 0) a)
def exR(o:Option (List Int)):PV:=
 match o with
 | some q => .dK [Po q,aB 0]
 | none => .dK [Po [],aB 3]
theorem Bd.set{B:Nat}(h:Bd B s n x)(hv:Pm.sz B v<=s):Bd B s n (x.set i v):=⟨by simpa using h.len,fun c hc=>by
 rcases List.mem_or_eq_of_mem_set hc with h1 | h1
 ·exact h.sz c h1
 ·rw [h1];exact hv⟩
theorem ad3(a b:RP){N:Nat}(ha:x6 a)(hb:x6 b)(sa:Bd LL s N (a.map gv))(sb:Bd LL s' N (b.map gv))(hB:s+N*(s'+N+1)+s'+N+N+10<1099511627774) :
  aC 217 [Pg a,Pg b] (if pV b = []then .dK [Po [],aB 2]else exR (exact (pV a) (pV b))):=by
 have hA:Bd LL s N (pV a):=sa.cut
 have hBb:Bd LL s' N (pV b):=sb.cut
 have ca:Cn (pV a):=Cn.cut _
 have cb:Cn (pV b):=Cn.cut _
 have na:=kT a ha
 have nb:=kT b hb
 rw [show aZ (a.map gv)=pV a from rfl]at na
 rw [show aZ (b.map gv)=pV b from rfl]at nb
 apply cG [(0,Pg a),(1,Pg b)] Tryz.func217
 generalize pV a=x at *
 generalize pV b=y at *
 apply aQ [0,1]
 apply n7 na nb
 apply bT [0,1]
 apply cQ [0,1,17]
 refine W.cond ⟨_,rfl,fun h=>?_,fun h=>?_⟩
 ·have h:y = []:=by simp at h;exact h
  rw [if_pos h]
  apply aQ [4,5]
  apply W.ret
  simp [go]
  rfl
 have hy:y ≠ []:=by simp at h;exact h
 clear h
 rw [if_neg hy]
 have YL:0<y.length:=List.length_pos_iff.2 hy
 have hNx:=hA.len
 have hNy:=hBb.len
 have hsy:=iX hBb
 have hly:=dO cb YL
 have hL:=oB (PB.of hBb aA aA) cb
 have hDy:=nM y aA
 have hkN:mA x y<=N:=by unfold mA;omega
 generalize hdd:s'+N+1=d at *
 have hNN:∀j,j<=N->(N-j)*d<=N*d:=fun j _=>Nat.mul_le_mul_right _ aA
 have hkk:(if (0:Int)<(x.length:Int)-(y.length:Int)+1 then(x.length:Int)-(y.length:Int)+1 else 0)=(mA x y:Int):=by unfold mA;split<;>omega
 apply W.skip
 apply fJ hkk [0,1,6]
 refine W.row (id:=25) (emap ie (List.replicate (mA x y) 0)) (by simp;exact⟨rfl,rfl,rfl⟩) (vY _) ?_
 apply eE [0,1,6,7]
 obtain⟨R0,KR⟩:∃R0,R0=exs y (mA x y) (List.replicate (mA x y) 0) x:=⟨_,rfl⟩
 have hex:exact x y=exF R0:=by rw [KR];rfl
 rw [hex]
 clear hex
 generalize CP:mA x y=k0 at *
 refine W.bB (fun j σ=>∃(v6:Nat) (z r:List Int),bF σ [(0,Po r),(1,Po y),(6, .own 25 v6 0 k0),(7,aB ((j:Int)-1))] fun rows clk =>
  rows 25=some ⟨v6,38,2,emap ie z⟩∧z.length=k0∧j<=k0∧exs y j z r=R0∧Bd LL (s+(N-j)*d) (N+N) z∧Bd LL (s+(N-j)*d) (N+N) r∧Cn r) k0 ?_ ?_
 ·exact⟨_, .refl,_,List.replicate k0 0,x,_,_,rfl,aG,aG,aA,KR.symm,⟨by simp;omega,fun c hc=>by rw [(List.mem_replicate.1 hc).2,nG];omega⟩,hA.mono aA aA,ca⟩
 rintro j _ ⟨v6,z,r,rows,clk,rfl,ahU,hz,hj,ES,bz,br,cr⟩
 apply cQ [0,1,6,7,30]
 refine W.cond ⟨_,rfl,fun h=>?_,fun h=>?_⟩
 ·have hj0:0<j:=by simp at h;omega
  obtain⟨i,rfl⟩:∃i,j=i+1:=⟨j-1,aA⟩
  clear h
  have ei:((i+1:Nat):Int)-1=i:=aA
  rw [ei]
  have hN1:=hNN (i+1) aA
  have K5:=hNN i aA
  have hT:s+(N-i)*d=s+(N-(i+1))*d+s'+N+1:=by
   rw [show N-i=(N-(i+1))+1 by omega,Nat.add_mul,Nat.one_mul];omega
  have hDr:=nM r (by have:=br.len;omega)
  have hLr:=oB (PB.of br aA aA) cr
  have hlr:=iX br
  rw [exs]at ES
  apply W.skip
  refine W.dS (fun σ=>∃(z r:List Int),bF σ [(0,Po r),(1,Po y),(6, .own 25 v6 0 k0),(7,aB i)] fun rows clk =>
   rows 25=some ⟨v6,38,2,emap ie z⟩∧z.length=k0∧exs y i z r=R0∧Bd LL (s+(N-i)*d) (N+N) z∧Bd LL (s+(N-i)*d) (N+N) r∧Cn r) ?_ ?_
  ·
   apply W.seq
   apply n7 hDr hDy
   apply bT [0,1,6,7,39]
   by_cases hlen:r.length<y.length+i
   ·rw [if_pos hlen]at ES
    refine W.cond ⟨_,rfl,fun h=>?_,fun h=>?_⟩
    ·apply (gK)
     exact⟨_,aD _ [0,1,6,7],z,r,_,_,rfl,ahU,hz,ES,bz.mono aA aA,br.mono aA aA,cr⟩
    ·exfalso;simp at h;omega
   rw [if_neg hlen]at ES
   refine W.cond ⟨_,rfl,fun h=>?_,fun h=>?_⟩
   ·exfalso;simp at h;omega
   clear h
   have hE:=PH (v:=lead r) (c:=lead y) aA aA hly
   apply W.skip
   by_cases hdv:lead r%lead y=0
   ·rw [if_pos hdv]at hE ES
    have hts:sz LL (lead r/lead y)<=s+(N-(i+1))*d:=Nat.le_trans (dN iT (Int.natAbs_ediv_le_natAbs _ _)) hlr
    have bs:=Bd.uX hts i
    have bm:=bs.cB iT hBb
    have b2:Bd LL (s+(N-i)*d) (N+N) (iB r (cB (uX i (lead r/lead y)) y)):=(Bd.iB iT (br.mono (s':=s+(N-(i+1))*d+s'+N) (n':=N+N) aA aA) (bm.mono aA aA)).mono aA aA
    have f4:=DF bs hBb aA
    have f5:=MR (PB.of br aA aA) (PB.of bm aA aA)
    have cr2:Cn (iB r (cB (uX i (lead r/lead y)) y)):=Cn.iB _ _
    have bz2:=Bd.set (i:=i) (bz.mono (s':=s+(N-i)*d) (n':=N+N) aA aA) (Nat.le_trans hts aA)
    generalize bS:iB r (cB (uX i (lead r/lead y)) y)=r2 at *
    generalize cB (uX i (lead r/lead y)) y=pm at *
    generalize lead r/lead y=tt at *
    have ahP:=wD i tt
    have asE:(uX i tt).length=i+1:=by simp [uX]
    have j2:=bW asE
    generalize lead r=lr at *
    generalize lead y=ly at *
    apply nB hLr
    apply fV hL hE
    apply bT [0,1,6,7,8,9]
    apply cQ [0,1,6,7,8,49]
    refine W.cond ⟨_,rfl,fun h=>?_,fun h=>?_⟩
    ·cases h
    apply W.skip
    apply qY ahU hz [0,1,6,7,8]
    have e9:((i:Int)+1).toNat=i+1:=aA
    apply W.sr
    simp (disch:=omega) [gw,e9]
    apply cO [0,1,6,7,8,10]
    refine W.row (id:=56) (emap ie (List.replicate (i+1) 0)) (by simp;exact⟨rfl,rfl,rfl⟩) (vY _) ?_
    apply fJ ahP [0,1,6,7,10]
    refine W.freeze 56 aG fun K hK=>?_
    simp [j2]
    refine hK _ ?_;clear hK K
    refine W.bY fun K hK=>?_
    apply fV f4 f5
    apply (cV)
    exact hK _ ⟨_,aD _ [0,1,6,7],z.set i tt,r2,_,_,rfl,aG,by simp [hz],ES,bz2,b2,cr2⟩
   ·rw [if_neg hdv]at hE ES
    subst ES
    apply nB hLr
    apply fV hL hE
    apply bT [0,1,6,7,8,9]
    apply cQ [0,1,6,7,8,49]
    refine W.cond ⟨_,rfl,fun h=>?_,fun h=>?_⟩
    ·apply aQ [4,5]
     apply W.ret
     simp [go,exR,exF]
     rfl
    ·cases h
  rintro _ ⟨z,r,rows,clk,rfl,ahU,hz,ES,bz,br,cr⟩
  refine W.bY (fun K hK=>?_);simp (disch:=omega) [gw]
  refine hK _ ⟨i,_,aD _ [0,1,6,7],aA,v6,z,r,_,_,rfl,by simp [ahU],hz,aA,ES,bz,br,cr⟩
 ·have hj0:j=0:=by simp at h;omega
  subst hj0
  simp only [exs]at ES
  rw [<-ES]
  have hN0:=hNN 0 aA
  have hzn:=fG (PB.of bz aA aA)
  have hzz:=bW hz
  apply (gK)
  apply cQ [6,68]
  cases r with
  | nil =>
   refine W.cond ⟨_,rfl,fun h=>?_,fun h=>?_⟩
   ·exfalso;simp at h
   apply W.skip
   apply qE ahU hzz hzn
   apply bT [4,5]
   apply W.ret
   simp [go,exR,exF]
  | cons c r =>
   refine W.cond ⟨_,rfl,fun h=>?_,fun h=>?_⟩
   ·apply aQ [4,5]
    apply W.ret
    simp [go,exR,exF]
    rfl
   ·exfalso;simp at h
theorem IW{d:Nat}(h:∀c∈x,(d:Int)∣c):d∣bX x:=by
 have key:∀(l:List Int) (g:Nat),d∣g->(∀c∈l,(d:Int)∣c)->d∣l.foldl (fun g c=>Nat.gcd g c.natAbs) g:=by
  intro l
  induction l with
  | nil=>intro g hg _;exact hg
  | cons c l ih =>
   intro g hg hl
   rw [List.foldl_cons]
   exact ih _ (Nat.dvd_gcd hg (Int.ofNat_dvd_left.1 (hl c aG))) fun v hv=>hl v (by simp [hv])
 exact key x 0 (Nat.dvd_zero d) h
theorem F3(h:∀c∈x,g∣c):(x.map (tT g)).map (· * g)=x:=by
 rw [List.map_map]
 refine(List.map_congr_left fun v hv=>?_).trans (List.map_id _)
 have h1:v%g=0:=Int.emod_eq_zero_of_dvd (h v hv)
 simp only [Function.comp_apply,tT,id_eq]
 rw [if_pos h1]
 exact Int.ediv_mul_cancel (h v hv)
theorem DH(hg:g≠0)(h:y.map (· * g)=x)(e:bX x=g.natAbs):bX y=1:=by
 have:=oD g y
 rw [h,e]at this
 exact Nat.eq_of_mul_eq_mul_right (show 0<g.natAbs by omega) aA
theorem fB(t:Int)(g:Int)(x:List Int):V t (x.map (· * g))=V t x*g:=by
 have:=jR (t:=t) g id x
 simp only [id_eq,List.map_id_fun]at this
 exact this
theorem ahV(cx:Cn x)(cy:Cn y)(hx:x ≠ [])(hy:y ≠ []):bX (cB x y)=bX x*bX y:=by
 have gx:=dB cx hx
 have gy:=dB cy hy
 have hp:bX (cB x y)≠0:=dB (Cn.cB _ _) fun h=>by
  have:=mL cx cy (List.length_pos_iff.2 hx) (List.length_pos_iff.2 hy)
  rw [h]at this
  have h1:=List.length_pos_iff.2 hx
  have h2:=List.length_pos_iff.2 hy
  simp only [List.length_nil]at this
  omega
 obtain⟨x',LK⟩:∃x':List Int,x'.map (· * (bX x:Int))=x:=⟨_,F3 (kF x)⟩
 obtain⟨y',C0⟩:∃y':List Int,y'.map (· * (bX y:Int))=y:=⟨_,F3 (kF y)⟩
 have px:=DH aA LK aA
 have py:=DH aA C0 aA
 have e:cB x y=(cB x' y').map (· * ((bX x:Int)*bX y)):=by
  rw [<-xI (Cn.cB _ _) (Int.mul_ne_zero aA aA)]
  refine Cn.ext (Cn.cB _ _) (Cn.bJ _ _) fun t=>?_
  have h1:=fB t (bX x) x'
  have h2:=fB t (bX y) y'
  rw [LK]at h1
  rw [C0]at h2
  rw [eF,dA,eF,h1,h2]
  grind
 rw [e,oD]at hp
 rw [e,oD,Int.natAbs_mul]
 have hd:0<bX (cB x' y'):=Nat.pos_of_mul_pos_right (Nat.pos_of_ne_zero hp)
 have hD:=abh _ (bX (cB x' y')) x' y' (Nat.le_refl _) hd (Dv.of (kF _)) (fun d _ hy=>Nat.dvd_one.1 (py▸IW hy.mem))
 have h1:bX (cB x' y')=1:=Nat.dvd_one.1 (px▸IW hD.mem)
 rw [h1,Nat.one_mul]
 simp
def oE(x:List Int):Int:=if lead x<0 then -(bX x:Int)else bX x
def wE(x:List Int):List Int:=aZ (x.map (tT (oE x)))
theorem rO(x:List Int):(oE x).natAbs=bX x:=by unfold oE;split<;>omega
theorem PK(x:List Int):∀c∈x,oE x∣c:=fun c hc=>by
 have:=kF x c hc
 unfold oE;split
 ·exact Int.neg_dvd.2 this
 ·exact this
theorem PM(cx:Cn x)(hx:x ≠ []):(wE x).map (· * oE x)=x:=by
 have gx:=dB cx hx
 have h0:=rO x
 rw [<-xI (show Cn (wE x)from Cn.cut _) (show oE x≠0 by omega)]
 refine Cn.ext (Cn.bJ _ _) cx fun t=>?_
 rw [dA,wE,dU,<-fB,F3 (PK x)]
theorem ad4(cx:Cn x)(hx:x ≠ []):bJ (wE x) (oE x)=x:=by
 have gx:=dB cx hx
 have h0:=rO x
 rw [xI (show Cn (wE x)from Cn.cut _) (show oE x≠0 by omega)]
 exact PM cx hx
theorem amh(cx:Cn x)(hx:x ≠ []):bX (wE x)=1:=by
 have gx:=dB cx hx
 have h0:=rO x
 exact DH aA (PM cx hx) h0.symm
theorem ahW(cx:Cn x)(hx:x ≠ []):0<lead (wE x):=by
 have gx:=dB cx hx
 have h:=PM cx hx
 have hl:(wE x).length=x.length:=by rw [<-congrArg List.length h];simp
 have sB:=List.length_pos_iff.2 hx
 have h1:lead x=lead (wE x)*oE x:=by
  rw [lead,lead,hl,<-mB,h]
 have o7:=dO (x:=wE x) (Cn.cut _) aA
 have hg:(0:Int)<bX x:=aA
 unfold oE at h1
 rcases Int.lt_trichotomy (lead (wE x)) 0 with h2 | h2 | h2
 ·exfalso
  split at h1
  ·rename_i h3
   have:=Int.mul_pos (show (0:Int) < -lead (wE x)by omega) hg
   rw [Int.mul_neg,<-Int.neg_mul]at h1
   omega
  ·rename_i h3
   have:=Int.mul_pos (show (0:Int) < -lead (wE x)by omega) hg
   rw [Int.neg_mul]at this
   omega
 ·exact absurd h2 o7
 ·exact h2
theorem yR(a:RP)(ha:x6 a)(sa:Bd LL s n (a.map gv))(hs:s<1099511627774)(hn:n<1099511627774) :
  aC 137 [Pg a] (.dK [I (oE (pV a)),Po (wE (pV a))]):=by
 have hA:Bd LL s n (pV a):=sa.cut
 have ca:Cn (pV a):=Cn.cut _
 have na:=kT a ha
 rw [show aZ (a.map gv)=pV a from rfl]at na
 apply cG [(0,Pg a)] Tryz.func137
 generalize pV a=x at *
 apply gJ [0,2] na [0,2]
 apply cQ [0,2,9]
 refine W.cond ⟨_,rfl,fun h=>?_,fun h=>?_⟩
 ·have h:x = []:=by simp at h;exact h
  subst h
  rw [show oE ([]:List Int)=0 by decide,show wE ([]:List Int) = []from rfl]
  apply aQ [2,3]
  apply W.ret
  simp [go]
  exact⟨rfl,rfl⟩
 have hx:x ≠ []:=by simp at h;exact h
 clear h
 have sB:=List.length_pos_iff.2 hx
 have gx:=dB ca hx
 have hp0:=rO x
 have hC:=BQ x (PD.of hA hs hn)
 have hL:=oB (PB.of hA aA aA) ca
 have hgs:=aby (s:=s) hA.sz ca hx
 have GZ:sz LL (oE x)<=s:=by
  unfold oE;split
  ·rw [r9];exact hgs
  ·exact hgs
 have hO:=UI x (oE x) (PD.of hA hs hn) aA aA
 rw [show aZ (x.map (tT (oE x)))=wE x from rfl]at hO
 have hN:=aoO (x:=(bX x:Int)) (by show sz LL _<_;omega)
 apply W.skip
 apply cK hC [0,2,4]
 refine W.iS (fun σ=>bF σ [(0,Po x),(2, .ptr 2 0 0 0),(4, .ptr 4 1 0 0)] fun rows clk=>rows 2=some ⟨0,38,2,[[.bool false, .nil]]⟩∧rows 4=some ⟨1,38,2,[ie (oE x)]⟩) ?_ ?_
 ·refine W.fI (fun σ=>bF σ [(0,Po x),(2, .ptr 2 0 0 0),(4, .ptr 4 1 0 0),(16, .bool (decide (lead x<0)))] fun rows clk=>rows 2=some ⟨0,38,2,[[.bool false, .nil]]⟩∧rows 4=some ⟨1,38,2,[ie (bX x)]⟩) (fun K hK=>?_) ?_
  ·apply o9 hL
   refine hK _ _ (aD _ [0,2,4,16]) ⟨_,_,rfl,?_,?_⟩<;>simp [ie]
  rintro _ ⟨rows,clk,rfl,bS,dW⟩
  refine W.agY (lead x<0) rfl (fun h=>?_) (fun h=>?_)
  ·rw [oE,if_pos h]
   refine W.bY fun K hK=>?_
   apply j0 dW hN
   apply eV dW
   exact hK _ ⟨_,aD _ [0,2,4],_,_,rfl,by simp [bS],aG⟩
  ·rw [oE,if_neg h]
   apply W.skip
   exact⟨_,aD _ [0,2,4],_,_,rfl,bS,dW⟩
 rintro _ ⟨rows,clk,rfl,bS,dW⟩
 generalize oE x=c at *
 generalize wE x=p at *
 apply W.sd
 apply j0 dW hO
 exact FL bS dW [2,3]
abbrev qd(x:List Int)(D:Int):List Rat:=x.map fun v=>eH v D
theorem g9(h:D≠0):eH v D=(v:Rat)/(D:Rat):=by rw [eH,if_neg h,Rat.divInt_eq_div]
theorem jN(h:D≠0):(D:Rat)≠0:=fun h2=>h (by exact_mod_cast h2)
theorem BR(h:D≠0):eH 0 D=0:=by rw [g9 h];simp [Rat.div_def]
theorem EU(h:D≠0):eH v D=0↔v=0:=by
 constructor
 ·intro h2
  rw [g9 h]at h2
  have h3:=jN h
  have:(v:Rat)=0:=by
   have h4:(v:Rat)/(D:Rat)*D=0:=by rw [h2];grind
   rw [Rat.div_mul_cancel h3]at h4
   exact h4
  exact_mod_cast this
 ·rintro rfl;exact BR h
theorem abz(h:D≠0)(hl:l≠0):eH (v*l) (D*l)=eH v D:=by
 rw [g9 h,g9 (Int.mul_ne_zero h hl),Rat.intCast_mul,Rat.intCast_mul]
 have h1:=jN h
 have h2:=jN hl
 grind
theorem ami(h:D≠0):eH v D+eH w D=eH (v+w) D:=by
 rw [g9 h,g9 h,g9 h,Rat.intCast_add]
 have h1:=jN h
 grind
theorem abA(h:D≠0):eH v D*(-1)=eH (-v) D:=by
 rw [g9 h,g9 h,Rat.intCast_neg]
 have h1:=jN h
 grind
theorem ahX(h:D≠0):(w:Rat)*eH v D=eH (w*v) D:=by
 rw [g9 h,g9 h,Rat.intCast_mul]
 have h1:=jN h
 grind
theorem amj(h:D≠0)(hl:l≠0):eH v D/(l:Rat)=eH v (D*l):=by
 rw [g9 h,g9 (Int.mul_ne_zero h hl),Rat.intCast_mul]
 have h1:=jN h
 have h2:=jN hl
 grind
theorem BS{D:Int}(h:D≠0):∀x:List Int,q9 (qd x D)=qd (aZ x) D
 | []=>rfl
 | a::x=>by
  have ih:=BS h x
  simp only [qd,List.map_cons]at ih |-
  rw [q9,ih,aZ]
  by_cases h1:aZ x = []∧a=0
  ·simp [h1,BR h]
  ·rw [if_neg h1,if_neg (by simpa [EU h]using h1)];simp
theorem PN(h:D≠0)(x:List Int)(k:Nat):nth (qd x D) k=eH (nth x k) D:=FX (f:=fun v=>eH v D) (BR h) x k
theorem amk(h:D≠0)(x y:List Int):ahz (qd x D) (qd y D)=qd (kC x y) D:=by
 rw [ahz,kC,<-BS h]
 congr 1
 simp only [qd,List.length_map,List.map_map]
 congr 1
 funext k
 simp only [Function.comp_apply]
 rw [show nth (List.map (fun v=>eH v D) x) k=_ from PN h x k,show nth (List.map (fun v=>eH v D) y) k=_ from PN h y k,ami h]
theorem aml(h:D≠0)(x:List Int):nK (qd x D) (-1)=qd (jP x) D:=by
 rw [nK,jP,<-BS h]
 congr 1
 simp only [qd,List.map_map]
 congr 1
 funext k
 simp only [Function.comp_apply]
 exact abA h
theorem ad5(h:D≠0)(y:List Int)(v:Int):nK (qs y) (eH v D)=qd (bJ y v) D:=by
 rw [nK,bJ,<-BS h]
 congr 1
 simp only [qd,qs,List.map_map]
 congr 1
 funext k
 simp only [Function.comp_apply]
 exact ahX h
theorem Y4(h:D≠0)(hl:l≠0)(x:List Int):qd (x.map (· * l)) (D*l)=qd x D:=by
 simp only [qd,List.map_map]
 congr 1
 funext k
 simp only [Function.comp_apply]
 exact abz h hl
theorem PO(x:List Int):qd x 1=qs x:=by
 simp only [qd,qs,oM]
theorem zK(h:D≠0)(hv:sz 2 v<=k)(hD:sz 2 D<=k):ZR k (eH v D):=by
 refine⟨Nat.le_trans (dN aF ?_) hv,Nat.le_trans (dN aF ?_) hD⟩
 ·rw [tN _ _ h]
  refine Nat.le_trans (Int.natAbs_ediv_le_natAbs _ _) ?_
  split<;>simp
 ·rw [tP _ _ h]
  refine Nat.le_trans (Int.natAbs_ediv_le_natAbs _ _) ?_
  split<;>simp
theorem Y5(h:D≠0)(hx:Bd 2 k n x)(hD:sz 2 D<=k)(hk:k<=YY)(hn:n<1099511627776):QOK (qd x D):=⟨fun q hq=>by
 simp only [List.mem_map]at hq
 obtain⟨v,hv,rfl⟩:=hq
 exact zK h (Nat.le_trans (hx.sz v hv) hk) (Nat.le_trans hD hk),by have:=hx.len;simp;omega⟩
structure DS where
 Q:List Int
 r:List Int
 D:Int
variable {σ:DS}
def dst(y:List Int)(σ:DS):DS:=⟨(σ.Q.map (· * lead y)).set (σ.r.length-y.length) (lead σ.r),CR y (lead y) (lead σ.r) (σ.r.length-y.length) σ.r,σ.D*lead y⟩
def dms(y:List Int):Nat->DS->DS
 | 0,σ=>σ
 | n+1,σ=>if σ.r.length<y.length then σ else dms y n (dst y σ)
def dmd(x y:List Int):DS:=dms y (x.length+1) ⟨List.replicate (mA x y) 0,x,1⟩
theorem PQ(hy:0<y.length)(h:y.length<=σ.r.length):(dst y σ).r.length<σ.r.length:=by
 have h1:=FZ (b:=y) (r:=σ.r) (i:=σ.r.length-y.length) hy aA
 rw [show BB y σ.r (σ.r.length-y.length)=lead σ.r from by rw [BB,if_pos aA]]at h1
 show(CR y (lead y) (lead σ.r) (σ.r.length-y.length) σ.r).length<_
 omega
theorem amm(h:σ.r.length<y.length):∀n,dms y n σ=σ
 | 0=>rfl
 | n+1=>by rw [dms,if_pos h]
structure zL(x y:List Int)(σ:DS):Prop where
 v:∀t,σ.D*V t x=V t σ.Q*V t y+V t σ.r
 z:∀j,j+y.length<=σ.r.length->nth σ.Q j=0
 c:Cn σ.r
 d:σ.D≠0
 q:σ.r.length+1<=σ.Q.length+y.length∨σ.r.length<y.length
theorem zL.step(cy:Cn y)(hy:0<y.length)(h:y.length<=σ.r.length)(hI:zL x y σ):zL x y (dst y σ):=by
 have hl:=dO cy hy
 have c8:=PQ hy h
 have hq:=hI.q.resolve_right aA
 have hk:σ.r.length-y.length<(σ.Q.map (· * lead y)).length:=by simp;omega
 have h1:=FZ (b:=y) (r:=σ.r) (i:=σ.r.length-y.length) hy aA
 rw [show BB y σ.r (σ.r.length-y.length)=lead σ.r from by rw [BB,if_pos aA]]at h1
 refine⟨fun t=>?_,fun j hj=>?_,Cn.iB _ _,Int.mul_ne_zero hI.d hl,?_⟩
 ·have h2:=hI.v t
  have h3:=L9 (b:=t) (x:=lead σ.r) hk
  have h4:nth (σ.Q.map (· * lead y)) (σ.r.length-y.length)=0:=by
   rw [mB,hI.z _ aA];simp
  show σ.D*lead y*V t x=V t ((σ.Q.map (· * lead y)).set (σ.r.length-y.length) (lead σ.r))*V t y+V t (CR y (lead y) (lead σ.r) (σ.r.length-y.length) σ.r)
  rw [h3,h4,fB,CR,k8,eF,rM,dA]
  have h5:σ.D*lead y*V t x=lead y*(σ.D*V t x):=aT
  rw [h5,h2];grind
 ·have hj:j+y.length<=(CR y (lead y) (lead σ.r) (σ.r.length-y.length) σ.r).length:=hj
  show nth ((σ.Q.map (· * lead y)).set (σ.r.length-y.length) (lead σ.r)) j=0
  rw [jL aA,mB,hI.z _ aA];simp
 ·left
  have:(dst y σ).Q.length=σ.Q.length:=by simp [dst]
  omega
theorem zL.dms{x y:List Int}(cy:Cn y)(hy:0<y.length):∀(n:Nat) (σ:DS),σ.r.length<n->zL x y σ->zL x y (dms y n σ)∧(Proofs.YtiobceocpabjdaaGreat.dms y n σ).r.length<y.length
 | 0,σ,h,_=>by omega
 | n+1,σ,h,hI=>by
  rw [Proofs.YtiobceocpabjdaaGreat.dms]
  split
  ·rename_i h1;exact⟨hI,h1⟩
  ·rename_i h1
   exact zL.dms cy hy n _ (by have:=PQ (σ:=σ) hy aA;omega) (hI.step cy hy aA)
theorem zL.start(cx:Cn x):zL x y ⟨List.replicate (mA x y) 0,x,1⟩:=by
 refine⟨fun t=>?_,fun j hj=>?_,cx,show(1:Int)≠0 by decide,?_⟩
 ·simp [uN]
 ·rcases Nat.lt_or_ge j (mA x y)with h | h
  ·rw [bZ (by simpa using h)];simp
  ·rw [kA (by simpa using h)];rfl
 ·simp only [mA,List.length_replicate];omega
theorem amn(cx:Cn x)(cy:Cn y)(hy:0<y.length):zL x y (dmd x y)∧(dmd x y).r.length<y.length:=zL.dms cy hy _ _ (Nat.lt_succ_self _) (zL.start cx)
@[simp] theorem ay3{l:List Rat}{q:Rat}:iP (emap re l) i 0 [aJ aI (aV DD q.num.natAbs), .bool (decide (q.num<0)),aJ aI (aV DD q.den), .bool false]=emap re (l.set i q):=F0 (n:=4) (fun _=>rfl)
theorem IX(x:List Int):emap re (qs x)=emap ri x:=by simp only [emap,qs,List.map_map,Function.comp_def,iO]
theorem ahZ(a b n:List Rat)(ha:QOK a)(hb:QOK b)(hn:nK b (-1)=n)(hn2:QOK n):aC 266 [PP a,PP b] (PP (ahz a n)):=by
 have h1:=T4 b hb
 rw [hn]at h1
 have h2:=ahA a n ha hn2
 apply cG [(0,PP a),(1,PP b)] Tryz.func266
 apply aQ [0,1]
 apply n7 h1 h2
 exact gI [4]
def RV(l:List Rat):Int:=l.foldl (fun d q=>(d*q.den).tdiv (Int.gcd d q.den)) 1
def gnF(d:Int)(l:List Rat):Int:=l.foldl (fun (g:Int) q=>(Int.gcd g ((q.num*d).tdiv q.den):Int)) 0
theorem ah0{l:List Rat}(h:i<l.length):RV (l.take (i+1))=(RV (l.take i)*(nth l i).den).tdiv (Int.gcd (RV (l.take i)) (nth l i).den):=by
 unfold RV;rw [bQ h,List.foldl_append];rfl
theorem ah1{l:List Rat}{d:Int}(h:i<l.length):gnF d (l.take (i+1))=(Int.gcd (gnF d (l.take i)) (((nth l i).num*d).tdiv (nth l i).den):Int):=by
 unfold gnF;rw [bQ h,List.foldl_append];rfl
theorem ah2(q:Rat):RI (q.den:Int) = .ag [aJ aI (aV DD q.den), .bool false]:=by
 simp [show ¬((q.den:Int)<0)by omega]
def Y6(l:List Rat):Rat:=if (nth l (l.length-1)).num<0 then -(eH (gnF (RV l) l) (RV l))else eH (gnF (RV l) l) (RV l)
def qpr(l:List Rat):List Rat:=nK l (1/Y6 l)
theorem wF(l:List Rat)(hk:k<=YY)(hk1:1<=k)(hl:∀q∈l,ZR k q)(D8:l.length<1099511627776)(h0:l ≠ [])
  (hd:∀i,sz 2 (RV (l.take i))<=k) (PA:∀i,0<RV (l.take i)) (hg:∀i,sz 2 (gnF (RV l) (l.take i))<=k)
  (hc:ZR YY (Y6 l)) (zF:Y6 l≠0) (AE:ZR YY (1/Y6 l)) :
  aC 155 [PP l] (.dK [RR (Y6 l),PP (qpr l)]):=by
 have hkY:k<=137438953472:=hk
 have AF:0<l.length:=List.length_pos_iff.2 h0
 apply cG [(0,PP l)] Tryz.func155
 apply aQ [0,2]
 apply cQ [0,2,11]
 refine W.cond ⟨_,rfl,fun h=>?_,fun h=>?_⟩
 ·exfalso;simp at h;exact h0 h
 apply W.skip
 apply (tI)
 refine bC (rN 1 aF aF) ?_
 apply bT [0,2,4]
 apply eE [0,2,4,15,16]
 refine W.bB (fun n σ=>∃(i:Nat) (d:Int),bF σ [(0,PP l),(2, .ptr 2 0 0 0),(4, .ptr 4 1 0 0),(15,aB l.length),(16,aB i)] fun rows clk =>
  rows 2=some ⟨0,31,4,[[.nil, .bool false, .nil, .bool false]]⟩∧rows 4=some ⟨1,29,2,[[aJ aI (aV DD d.natAbs), .bool (decide (d<0))]]⟩∧n=l.length-i∧i<=l.length∧d=RV (l.take i)) l.length ?_ ?_
 ·exact⟨_, .refl,0,1,_,_,rfl,aG,aG,aA,aA,by simp [RV]⟩
 rintro n _ ⟨i,d,rows,clk,rfl,bS,dW,hn,hi,hdv⟩
 apply cN [0,2,4,15,16,17]
 refine W.cond ⟨_,rfl,fun h=>?_,fun h=>?_⟩
 ·have hi:i<l.length:=by simp at h;omega
  have hq:=hl _ (bO hi)
  have hdi:=hd i
  have hdp:=PA i
  have hs:=ah0 hi
  rw [<-hdv]at hs hdi hdp
  have hsn:=hd (i+1)
  have m1:=gL d (nth l i).den (by simp only [Z];omega) (by have:=hq.d;simp only [Z];omega)
  have m2:=ID d (nth l i).den (by simp only [Y];omega) (by have:=hq.d;simp only [Y];omega)
  have zm:=cW (b:=2) aF hdi hq.d
  have hgp:0<Int.gcd d (nth l i).den:=Int.gcd_pos_of_ne_zero_left _ aA
  have zg:Y (Int.gcd d (nth l i).den:Int):=IB (y:=d) (by simp only [Y];omega) (by
   have:=Int.le_of_dvd hdp (Int.gcd_dvd_left d ((nth l i).den:Int));omega)
  have m3:=BJ (d*(nth l i).den) (Int.gcd d (nth l i).den) aA (by simp only [Y];omega) zg
  rw [<-hs]at m3
  rw [ah2]at m1 m2
  generalize (Int.gcd d (nth l i).den:Int)=gg at *
  generalize d*((nth l i).den:Int)=dd at *
  generalize XL:RV (l.take (i+1))=d2 at *
  generalize hqe:nth l i=q at *
  apply (iE)
  apply fJ hqe [0,2,4,5,15,16]
  refine W.K1 fun K hK=>?_
  apply j7 dW hqe m1
  apply j7 dW hqe m2
  apply j7 dW hqe m3
  apply j1 dW hqe
  refine aY (by refine⟨?_,?_⟩<;>kernel_rfl) ?_
  apply (cV)
  refine W.lw [0,2,4,15,16] hK ?_;clear hK K;simp
  refine W.bY (fun K hK=>?_);simp (disch:=omega) [gw]
  refine hK _ ⟨l.length-(i+1),_,aD _ [0,2,4,15,16],aA,i+1,d2,_,_,rfl,by simp [bS],aG,aA,aA,XL.symm⟩
 have hi:i=l.length:=by simp at h;omega
 subst hi
 rw [List.take_length]at hdv
 have hdl:=hd l.length
 have hdp:=PA l.length
 rw [List.take_length,<-hdv]at hdl hdp
 rw [<-hdv]at hg
 have hqc:Y6 l=if (nth l (l.length-1)).num<0 then -(eH (gnF d l) d)else eH (gnF d l) d:=by rw [hdv];rfl
 apply xY [0,2,4,6]
 refine W.row (id:=6) (els:=[[.nil, .bool false]]) [[aJ aI (aV DD 0), .bool false]] (by simp;first | exact⟨rfl,rfl,rfl⟩ | exact⟨rfl,rfl,rfl,rfl⟩) ⟨⟨.inr ⟨rfl,rfl⟩, .inl rfl,trivial⟩,trivial⟩ ?_
 apply eE [0,2,4,6,36,37]
 clear hdv
 refine W.bB (fun n σ=>∃(i v6:Nat) (g:Int),bF σ [(0,PP l),(2, .ptr 2 0 0 0),(4, .ptr 4 1 0 0),(6, .ptr 6 v6 0 0),(36,aB l.length),(37,aB i)] fun rows clk =>
  rows 2=some ⟨0,31,4,[[.nil, .bool false, .nil, .bool false]]⟩∧rows 4=some ⟨1,29,2,[[aJ aI (aV DD d.natAbs), .bool (decide (d<0))]]⟩ ∧
  rows 6=some ⟨v6,29,2,[[aJ aI (aV DD g.natAbs), .bool (decide (g<0))]]⟩∧n=l.length-i∧i<=l.length∧g=gnF d (l.take i)) l.length ?_ ?_
 ·exact⟨_, .refl,0,_,0,_,_,rfl,by simp [bS],by simp [dW],aG,aA,aA,by simp [gnF]⟩
 clear bS dW rows clk
 rintro n _ ⟨i,v6,g,rows,clk,rfl,bS,dW,mT,hn,hi,hgv⟩
 apply cN [0,2,4,6,36,37,38]
 refine W.cond ⟨_,rfl,fun h=>?_,fun h=>?_⟩
 ·have hi:i<l.length:=by simp at h;omega
  have hq:=hl _ (bO hi)
  have hgi:=hg i
  have hs:=ah1 (d:=d) hi
  rw [<-hgv]at hs hgi
  have m1:=gL (nth l i).num d (by have:=hq.n;simp only [Z];omega) (by simp only [Z];omega)
  have zm:=cW (b:=2) aF hq.n hdl
  have m2:=BJ ((nth l i).num*d) (nth l i).den (by have:=(nth l i).den_nz;omega) (by simp only [Y];omega) (by have:=hq.d;simp only [Y];omega)
  have zq:Y (((nth l i).num*d).tdiv (nth l i).den):=IB (y:=(nth l i).num*d) (by simp only [Y];omega) (by rw [Int.natAbs_tdiv];exact Nat.div_le_self _ _)
  have m3:=ID g (((nth l i).num*d).tdiv (nth l i).den) (by simp only [Y];omega) zq
  rw [<-hs]at m3
  rw [ah2]at m2
  generalize ((nth l i).num*d).tdiv (nth l i).den=nq at *
  generalize (nth l i).num*d=nd at *
  generalize r5:gnF d (l.take (i+1))=g2 at *
  generalize hqe:nth l i=q at *
  apply (iE)
  apply fJ hqe [0,2,4,6,7,36,37]
  refine W.K1 fun K hK=>?_
  apply C6 dW mT hqe m1
  apply C6 dW mT hqe m2
  apply C6 dW mT hqe m3
  apply zD dW mT hqe
  refine aY cT ?_
  apply (cV)
  refine W.lw [0,2,4,6,36,37] hK ?_;clear hK K;simp
  refine W.bY (fun K hK=>?_);simp (disch:=omega) [gw]
  refine hK _ ⟨l.length-(i+1),_,aD _ [0,2,4,6,36,37],aA,i+1,v6,g2,_,_,rfl,by simp [bS],by simp [dW],aG,aA,aA,r5.symm⟩
 have hi:i=l.length:=by simp at h;omega
 subst hi
 rw [List.take_length]at hgv
 have hgl:=hg l.length
 rw [List.take_length]at hgl
 rw [<-hgv]at hgl hqc
 have hMk:=nJ g d (by simp only [Y];omega) (by simp only [Y];omega)
 have hNg:=IF (eH g d)
 have hQ:=II 1 (Y6 l) ⟨by show sz 2 1<=YY;exact Nat.le_trans (dZ (k:=1) aF aF) aF,by show sz 2 1<=YY;exact Nat.le_trans (dZ (k:=1) aF aF) aF⟩ hc zF
 have hOf:=pN 1 1 aF aF
 rw [oM,show(((1:Int)):Rat)=1 by simp]at hOf
 have hSc:=tQ l (1/Y6 l) ⟨fun q hq=>⟨Nat.le_trans (hl q hq).n hk,Nat.le_trans (hl q hq).d hk⟩,D8⟩ AE
 rw [show nK l (1/Y6 l)=qpr l from rfl]at hSc
 have e1:((l.length:Int)-1).toNat=l.length-1:=aA
 generalize qpr l=pr at *
 generalize lI:(1:Rat)=one at *
 generalize one/Y6 l=ic at *
 generalize Y6 l=cc at *
 generalize hqm:eH g d=c0 at *
 generalize hqe:nth l (l.length-1)=q at *
 apply (jV)
 apply j7 dW mT hMk
 apply bT [0,2,8]
 refine W.iS (fun σ=>∃(v8:Nat),bF σ [(0,PP l),(2, .ptr 2 0 0 0),(8, .ptr 8 v8 0 0)] fun rows clk=>rows 2=some ⟨0,31,4,[[.nil, .bool false, .nil, .bool false]]⟩∧rows 8=some ⟨v8,31,4,[re cc]⟩) ?_ ?_
 ·apply W.sr
  simp (disch:=omega) [gw,e1,hqe]
  apply cO [0,2,8,66]
  refine W.agY (q.num<0) rfl (fun h=>?_) (fun h=>?_)
  ·rw [if_pos h]at hqc
   rw [<-hqc]at hNg
   refine W.bY fun K hK=>?_
   apply o9 hNg
   exact hK _ ⟨_,aD _ [0,2,8],_,_,_,rfl,by simp [bS],aG⟩
  ·rw [if_neg h]at hqc
   apply W.skip
   exact⟨_,aD _ [0,2,8],_,_,_,rfl,by simp [bS],by simp [hqc]⟩
 clear bS dW mT rows clk
 rintro _ ⟨v8,rows,clk,rfl,bS,uZ⟩
 apply W.sd
 apply j0 uZ hOf
 apply j0 uZ hQ
 apply j0 uZ hSc
 exact FL bS uZ [2,3]
theorem abC(x:List Int)(hx:∀c∈x,Z c)(hl:x.length<1099511627776):aC 100 [PI x] (Po x):=by
 apply cG [(0,PI x)] Tryz.func100
 apply fK [0] [0,3]
 refine W.nil 3 3 38 2 aG aF fun K hK=>?_
 refine W.lw [0,3] hK ?_;clear hK K;simp
 apply eE [0,3,6,7]
 refine W.bB (fun k σ=>∃(i ver:Nat),bF σ [(0,PI x),(3, .own 3 ver 0 i),(6,aB x.length),(7,aB i)] fun rows clk=>rows 3=some ⟨ver,38,2,emap ie (x.take i)⟩∧k=x.length-i∧i<=x.length) x.length ?_ ?_
 ·exact⟨_, .refl,0,_,_,_,rfl,by simp [emap],aA,aA⟩
 rintro k _ ⟨i,ver,rows,clk,rfl,hr,hk,hi⟩
 apply cN [0,3,6,7,8]
 refine W.cond ⟨_,rfl,fun h0=>?_,fun h0=>?_⟩
 ·have h0:i<x.length:=by simp at h0;omega
  have gS:(x.take i).length=i:=by simp;omega
  have hT:=PC (nth x i) (hx _ (bO h0))
  apply oR [0,3,4,6,7]
  refine W.bY fun K hK=>?_
  apply kZ hT
  apply j1 hr gS
  refine W.lw [0,3,6,7] hK ?_;clear hK K;simp
  refine W.bY (fun K hK=>?_);simp (disch:=omega) [gw]
  refine hK _ ⟨x.length-(i+1),_,aD _ [0,3,6,7],aA,i+1,_,_,_,rfl,?_,aA,aA⟩
  rw [bQ h0]
  simp
 ·have jF:i=x.length:=by simp at h0;omega
  subst jF
  rw [List.take_length]at hr
  apply (jV)
  apply sS hr [2]
  apply W.ret
  simp [go,hr]
theorem PR(x:List Int):RV (qs x)=1:=by
 have key:∀l:List Int,(qs l).foldl (fun (d:Int) q=>(d*q.den).tdiv (Int.gcd d q.den)) 1=1:=by
  intro l
  induction l with
  | nil=>rfl
  | cons a l ih =>
   simp only [qs,List.map_cons,List.foldl_cons,Rat.den_intCast]at ih |-
   exact ih
 exact key x
theorem ah3(x:List Int):gnF 1 (qs x)=bX x:=by
 have key:∀(l:List Int) (g:Nat),(qs l).foldl (fun (g:Int) q=>(Int.gcd g ((q.num*1).tdiv q.den):Int)) g=(l.foldl (fun g c=>Nat.gcd g c.natAbs) g:Nat):=by
  intro l
  induction l with
  | nil=>intro g;rfl
  | cons a l ih =>
   intro g
   have:=ih (Nat.gcd g a.natAbs)
   simp only [qs,List.map_cons,List.foldl_cons,Rat.den_intCast,Rat.num_intCast]at this |-
   rw [<-this]
   congr 1
   simp [Int.gcd]
 exact key x 0
theorem PT(x:List Int)(i:Nat):(qs x).take i=qs (x.take i):=by simp [qs,List.map_take]
theorem IY(hx:0<x.length):Y6 (qs x)=(oE x:Rat):=by
 have e:(nth (qs x) ((qs x).length-1)).num=lead x:=by rw [ahB];simp [lead]
 unfold Y6 oE
 rw [PR,ah3,oM,e]
 split
 ·rw [Rat.intCast_neg]
 ·rfl
theorem asJ(cx:Cn x)(hx:x ≠ []):qpr (qs x)=qs (wE x):=by
 have sB:=List.length_pos_iff.2 hx
 have h0:=rO x
 have gx:=dB cx hx
 have hp:oE x≠0:=aA
 have hc:=jN hp
 rw [qpr,IY sB,nK,wE,<-BL]
 congr 1
 simp only [qs,List.map_map]
 refine List.map_congr_left fun v hv=>?_
 simp only [Function.comp_apply]
 have hd:=PK x v hv
 obtain⟨w,rfl⟩:=hd
 have:tT (oE x) (oE x*w)=w:=by
  unfold tT
  rw [if_pos (Int.mul_emod_right _ _)]
  exact Int.mul_ediv_cancel_left _ hp
 rw [this,Rat.intCast_mul]
 grind
theorem pO(hs:∀c∈x,sz 2 c<=s):sz 2 (bX x:Int)<=s:=by
 by_cases h:∃c∈x,c≠0
 ·obtain⟨c,hc,h0⟩:=h
  refine Nat.le_trans (dN aF ?_) (hs c hc)
  have:=Int.le_of_dvd (a:=(bX x:Int)) (b:=(c.natAbs:Int)) aA (Int.dvd_natAbs.2 (kF x _ hc))
  omega
 ·have h1:bX x=0:=by
   have h2:(0:Nat)∣bX x:=IW fun c hc=>by
    have:c=0:=Classical.byContradiction fun h3=>h ⟨c,hc,h3⟩
    rw [this];exact Int.dvd_refl _
   exact Nat.eq_zero_of_zero_dvd h2
  rw [h1];show sz 2 0<=s;rw [nG];omega
theorem IZ(x:List Int)(hx:Bd 2 s n x)(cx:Cn x)(sX:1<=s)(hs:s<=YY)(hn:n<1099511627776):aC 155 [PI x] (.dK [.ag (ri (oE x)),PI (wE x)]):=by
 have hlx:=hx.len
 by_cases h0:x = []
 ·subst h0
  have hz:=s6
  rw [show oE ([]:List Int)=0 by decide,show wE ([]:List Int) = []from rfl]
  apply cG [(0,PI [])] Tryz.func155
  apply aQ [0,2]
  apply cQ [0,2,11]
  refine W.cond ⟨_,rfl,fun h=>?_,fun h=>?_⟩
  ·apply cK hz [2,3]
   apply W.ret
   simp [go]
   all_goals rfl
  ·simp at h
 ·have sB:=List.length_pos_iff.2 h0
  have hp:=rO x
  have gx:=dB cx h0
  have hp0:oE x≠0:=aA
  have hgs:∀i,sz 2 (bX (x.take i):Int)<=s:=fun i=>pO fun c hc=>hx.sz c (List.mem_of_mem_take hc)
  have ES:sz 2 (oE x)<=s:=by
   have:=pO hx.sz
   unfold oE;split
   ·rw [r9];exact this
   ·exact this
  have s1:sz 2 1<=1:=dZ aF aF
  have zc:ZR YY (oE x:Rat):=sC (Nat.le_trans ES hs) aF
  have e1:(1:Rat)/(oE x:Rat)=eH 1 (oE x):=by rw [g9 hp0];simp
  have:=wF (qs x) hs sX (fun q hq=>by
   simp only [qs,List.mem_map]at hq
   obtain⟨c,hc,rfl⟩:=hq
   exact sC (hx.sz c hc) sX) (by simp;omega) (by simpa [qs]using h0)
   (fun i=>by rw [PT,PR];omega) (fun i=>by rw [PT,PR];decide) (fun i=>by rw [PR,PT,ah3];exact hgs i)
   (by rw [IY sB];exact zc) (by rw [IY sB];exact jN hp0) (by rw [IY sB,e1];exact zK hp0 (by show sz 2 1<=137438953472;omega) (Nat.le_trans ES hs))
  rw [IY sB,asJ cx h0,uP,uP,RR,iO]at this
  exact this
theorem ad8{D a b:Nat}(hD:0<D)(ha:a∣D)(hb:b∣D):Nat.lcm (D/a) (D/b)=D/Nat.gcd a b:=by
 have ha0:0<a:=Nat.pos_of_dvd_of_pos ha hD
 have hb0:0<b:=Nat.pos_of_dvd_of_pos hb hD
 have hg:0<Nat.gcd a b:=Nat.gcd_pos_of_pos_left _ ha0
 obtain⟨a',b',hc,ea,eb⟩:=Nat.exists_coprime a b
 generalize Nat.gcd a b=g at *
 obtain⟨p,hp⟩:=ha
 obtain⟨q,hq⟩:=hb
 have h1:a'*p=b'*q:=by
  have:g*(a'*p)=g*(b'*q):=by rw [ea]at hp;rw [eb]at hq;grind
  exact Nat.eq_of_mul_eq_mul_left hg this
 have h2:a'∣q:=hc.dvd_of_dvd_mul_left (by rw [<-h1];exact Nat.dvd_mul_right _ _)
 obtain⟨m,rfl⟩:=h2
 have aEw:0<a':=by
  rcases Nat.eq_zero_or_pos a' with h | h
  ·rw [h]at ea;omega
  ·exact h
 have h3:p=b'*m:=by
  have:a'*p=a'*(b'*m):=by rw [h1];grind
  exact Nat.eq_of_mul_eq_mul_left aEw this
 subst h3
 have e1:D/a=b'*m:=by rw [hp];exact Nat.mul_div_cancel_left _ ha0
 have e2:D/b=a'*m:=by rw [hq];exact Nat.mul_div_cancel_left _ hb0
 have e3:D/g=a'*b'*m:=by
  rw [hp,ea,show a'*g*(b'*m)=g*(a'*b'*m)by grind]
  exact Nat.mul_div_cancel_left _ hg
 rw [e1,e2,e3,Nat.lcm_mul_right,Nat.lcm_comm,Nat.lcm,show a'.gcd b'=1 from hc,Nat.div_one]
theorem ah4(n:Nat)(q:Rat):((n:Int)*q.den).tdiv (Int.gcd n q.den)=(Nat.lcm n q.den:Nat):=by
 have:Int.gcd (n:Int) (q.den:Int)=Nat.gcd n q.den:=rfl
 rw [this,<-Int.natCast_mul,<-Int.ofNat_tdiv]
 rfl
theorem EV{D:Nat}(hD:0<D):(eH v D).den=D/Nat.gcd D v.natAbs:=by
 have h:=tP v D aA
 have h2:¬(D:Int)<0:=aA
 simp only [h2,if_false]at h
 have:Int.gcd v (D:Int)=Nat.gcd D v.natAbs:=by rw [Int.gcd,Nat.gcd_comm];rfl
 rw [this]at h
 exact_mod_cast h
theorem EW{D:Nat}(hD:0<D):(eH v D).num=v/(Nat.gcd D v.natAbs:Nat):=by
 have h:=tN v D aA
 have h2:¬(D:Int)<0:=aA
 simp only [h2,if_false]at h
 have:Int.gcd v (D:Int)=Nat.gcd D v.natAbs:=by rw [Int.gcd,Nat.gcd_comm];rfl
 rw [this]at h
 exact h
def gcD(D:Nat)(x:List Int):Nat:=Nat.gcd D (bX x)
theorem PU{D:Nat}(hD:0<D)(x:List Int):RV (qd x D)=(D/gcD D x:Nat):=by
 have key:∀(l:List Int) (g:Nat),g∣D->(qd l D).foldl (fun (d:Int) q=>(d*q.den).tdiv (Int.gcd d q.den)) (D/g:Nat)=(D/(l.foldl (fun g c=>Nat.gcd g c.natAbs) g):Nat):=by
  intro l
  induction l with
  | nil=>intro g _;rfl
  | cons a l ih =>
   intro g hg
   have h1:=ih (Nat.gcd g a.natAbs) (Nat.dvd_trans (Nat.gcd_dvd_left _ _) hg)
   simp only [qd,List.map_cons,List.foldl_cons]at h1 |-
   rw [ah4,EV hD,ad8 hD hg (Nat.gcd_dvd_left _ _)]
   rw [show Nat.gcd g (Nat.gcd D a.natAbs)=Nat.gcd g a.natAbs by rw [<-Nat.gcd_assoc,Nat.gcd_eq_left hg]]
   exact h1
 have h2:∀(l:List Int) (g:Nat),l.foldl (fun g c=>Nat.gcd g c.natAbs) g=Nat.gcd g (bX l):=by
  intro l
  unfold bX
  induction l with
  | nil=>intro g;simp
  | cons a l ih =>
   intro g
   simp only [List.foldl_cons]
   rw [ih,ih (Nat.gcd 0 a.natAbs),Nat.gcd_zero_left,Nat.gcd_assoc]
 have h3:=key x D (Nat.dvd_refl _)
 rw [Nat.div_self hD,h2]at h3
 exact h3
theorem ah5{D:Nat}(hD:0<D)(x:List Int){G:Nat}(hG:G∣D)(hx:∀c∈x,(G:Int)∣c):gnF (D/G:Nat) (qd x D)=(bX x/G:Nat):=by
 have hG0:0<G:=Nat.pos_of_dvd_of_pos hG hD
 have key:∀(l:List Int) (g:Nat),(∀c∈l,(G:Int)∣c)->G∣g->(qd l D).foldl (fun (g:Int) q=>(Int.gcd g ((q.num*((D/G:Nat):Int)).tdiv q.den):Int)) (g/G:Nat)=((l.foldl (fun g c=>Nat.gcd g c.natAbs) g)/G:Nat):=by
  intro l
  induction l with
  | nil=>intro g _ _;rfl
  | cons a l ih =>
   intro g hl hg
   have ha:G∣a.natAbs:=Int.ofNat_dvd_left.1 (hl a aG)
   have h1:=ih (Nat.gcd g a.natAbs) (fun c hc=>hl c (by simp [hc])) (Nat.dvd_gcd hg ha)
   simp only [qd,List.map_cons,List.foldl_cons]at h1 |-
   have e:((eH a D).num*((D/G:Nat):Int)).tdiv (eH a D).den=a/(G:Int):=by
    rw [EW hD,EV hD]
    have PA:Nat.gcd D a.natAbs∣D:=Nat.gcd_dvd_left _ _
    have XL:Nat.gcd D a.natAbs∣a.natAbs:=Nat.gcd_dvd_right _ _
    have hgp:0<Nat.gcd D a.natAbs:=Nat.gcd_pos_of_pos_left _ hD
    generalize Nat.gcd D a.natAbs=k at *
    obtain⟨m,hm⟩:=PA
    obtain⟨n,hn⟩:(k:Int)∣a:=Int.ofNat_dvd_left.2 XL
    obtain⟨p,hp⟩:=hG
    obtain⟨r,hr⟩:=hl a aG
    have WI:0<m:=by
     rcases Nat.eq_zero_or_pos m with h | h
     ·rw [h]at hm;omega
     ·exact h
    rw [show a/(k:Int)=n by rw [hn];exact Int.mul_ediv_cancel_left _ aA,show D/G=p by rw [hp];exact Nat.mul_div_cancel_left _ hG0,show D/k=m by rw [hm];exact Nat.mul_div_cancel_left _ hgp,
     show a/(G:Int)=r by rw [hr];exact Int.mul_ediv_cancel_left _ aA]
    have e2:n*(p:Int)=m*r:=by
     have hDI:(k:Int)*m=G*p:=by exact_mod_cast hm.symm.trans hp
     have hk:(k:Int)*n=G*r:=hn.symm.trans hr
     have CP:(k:Int)≠0:=aA
     have hG1:(G:Int)≠0:=aA
     have:(k:Int)*G*(n*p)=k*G*(m*r):=by
      have e3:(k:Int)*G*(n*p)=(k*n)*(G*p):=aT
      rw [e3,hk,<-hDI];grind
     exact Int.eq_of_mul_eq_mul_left (Int.mul_ne_zero CP hG1) this
    rw [e2]
    exact Int.mul_tdiv_cancel_left _ aA
   rw [e,show Int.gcd ((g/G:Nat):Int) (a/(G:Int))=Nat.gcd g a.natAbs/G from ?_]
   ·exact h1
   ·rw [Int.gcd,Int.natAbs_natCast,<-Nat.gcd_div hg ha]
    congr 1
    obtain⟨r,hr⟩:=hl a aG
    rw [hr,Int.mul_ediv_cancel_left _ (show (G:Int)≠0 by omega),Int.natAbs_mul,Int.natAbs_natCast,Nat.mul_div_cancel_left _ hG0]
 have:=key x 0 hx (Nat.dvd_zero _)
 rw [Nat.zero_div]at this
 exact this
theorem BT(D:Nat)(x:List Int):gcD D x∣D:=Nat.gcd_dvd_left _ _
theorem abD{D:Nat}(hD:0<D)(x:List Int):0<gcD D x:=Nat.gcd_pos_of_pos_left _ hD
theorem abE(D:Nat)(x:List Int):∀c∈x,((gcD D x:Nat):Int)∣c:=fun c hc=>Int.dvd_trans (Int.ofNat_dvd.2 (Nat.gcd_dvd_right _ _)) (kF x c hc)
theorem EX{D:Nat}(hD:0<D):(eH v D).num<0↔v<0:=by
 rw [EW hD]
 have hg:0<Nat.gcd D v.natAbs:=Nat.gcd_pos_of_pos_left _ hD
 obtain⟨n,hn⟩:((Nat.gcd D v.natAbs:Nat):Int)∣v:=Int.ofNat_dvd_left.2 (Nat.gcd_dvd_right _ _)
 generalize Nat.gcd D v.natAbs=g at *
 rw [hn,Int.mul_ediv_cancel_left _ (show (g:Int)≠0 by omega)]
 constructor
 ·intro h;exact Int.mul_neg_of_pos_of_neg aA h
 ·intro h
  rcases Int.lt_or_le n 0 with h1 | h1
  ·exact h1
  ·have:=Int.mul_nonneg (show (0:Int)<=g by omega) h1
   omega
theorem ah6{D:Nat}(hD:0<D)(hx:0<x.length):Y6 (qd x D)=eH (oE x) D:=by
 have CT:(D:Int)≠0:=aA
 have e:(nth (qd x D) ((qd x D).length-1)).num<0↔lead x<0:=by
  rw [PN CT,EX hD];simp [lead]
 have hG:=abD hD x
 have e2:eH (gnF (RV (qd x D)) (qd x D)) (RV (qd x D))=eH (bX x) D:=by
  rw [PU hD,ah5 hD x (BT D x) (abE D x)]
  have h1:D/gcD D x*gcD D x=D:=Nat.div_mul_cancel (BT D x)
  have h2:bX x/gcD D x*gcD D x=bX x:=Nat.div_mul_cancel (Nat.gcd_dvd_right _ _)
  have h3:0<D/gcD D x:=Nat.div_pos (Nat.le_of_dvd hD (BT D x)) hG
  have h4:=abz (v:=(bX x/gcD D x:Nat)) (D:=(D/gcD D x:Nat)) (l:=(gcD D x:Nat)) aA aA
  rw [<-Int.natCast_mul,<-Int.natCast_mul,h1,h2]at h4
  exact h4.symm
 unfold Y6 oE
 rw [e2]
 by_cases h:lead x<0
 ·rw [if_pos (e.2 h),if_pos h,<-abA CT];grind
 ·rw [if_neg (fun h2=>h (e.1 h2)),if_neg h]
theorem abF(hD:D≠0)(hv:v≠0):1/eH v D=eH D v:=by
 rw [g9 hD,g9 hv]
 have h1:=jN hD
 have h2:=jN hv
 grind
theorem Y7(cx:Cn x)(hx:x ≠ []):oE x≠0:=by
 have h0:=rO x
 have gx:=dB cx hx
 omega
theorem asL{D:Nat}(hD:0<D)(cx:Cn x)(hx:x ≠ []):qpr (qd x D)=qs (wE x):=by
 have sB:=List.length_pos_iff.2 hx
 have CT:(D:Int)≠0:=aA
 have hp:=Y7 cx hx
 have hc:=jN hp
 have hDc:=jN CT
 rw [qpr,ah6 hD sB,abF CT hp,nK,wE,<-BL]
 congr 1
 simp only [qd,qs,List.map_map]
 refine List.map_congr_left fun v hv=>?_
 simp only [Function.comp_apply]
 obtain⟨w,rfl⟩:=PK x v hv
 have:tT (oE x) (oE x*w)=w:=by
  unfold tT
  rw [if_pos (Int.mul_emod_right _ _)]
  exact Int.mul_ediv_cancel_left _ hp
 rw [this,g9 CT,g9 hp,Rat.intCast_mul]
 grind
theorem UO(x:List Int):mS x=if lead x<0 then jP (wE x)else wE x:=by
 unfold wE oE
 split
 ·have e:∀v,tT (-(bX x:Int)) v = - tT (bX x) v:=fun v=>by
   unfold tT
   rw [Int.emod_neg,Int.ediv_neg]
   split<;>simp
  refine Cn.ext (Cn.cut _) (Cn.jP _) fun t=>?_
  rw [HV,dU,mS,dU]
  have h1:=jR (t:=t) (-1) (tT (bX x)) x
  have h2:(x.map fun v=>tT (bX x) v * -1)=x.map (tT (-(bX x:Int))):=List.map_congr_left fun v _=>by rw [e];omega
  rw [h2]at h1
  rw [h1];omega
 ·rfl
theorem Y8(x:List Int)(D:Nat)(hD:0<D)(hx:Bd 2 s n x)(sD:sz 2 D<=s)(cx:Cn x)(h0:x ≠ [])(sX:1<=s)(hs:s<=YY)(hn:n<1099511627776) :
  aC 155 [PP (qd x D)] (.dK [RR (eH (oE x) D),PI (wE x)]):=by
 have CT:(D:Int)≠0:=aA
 have sB:=List.length_pos_iff.2 h0
 have hp:=Y7 cx h0
 have hlen:=hx.len
 have sdiv:∀(a b:Nat),sz 2 (a:Int)<=s->sz 2 ((a/b:Nat):Int)<=s:=fun a b h=>Nat.le_trans (dN aF (by rw [Int.natAbs_natCast,Int.natAbs_natCast];exact Nat.div_le_self a b)) h
 have spc:sz 2 (oE x)<=s:=by
  have:=pO hx.sz
  refine Nat.le_trans (dN aF (Nat.le_of_eq ?_)) this
  rw [rO];rfl
 have tk:∀i,(qd x D).take i=qd (x.take i) D:=fun i=>by simp [qd,List.map_take]
 have hc:=ah6 hD sB
 have h1:=wF (qd x D) (k:=s) hs sX (fun q hq=>by
   simp only [List.mem_map]at hq
   obtain⟨v,hv,rfl⟩:=hq
   exact zK CT (hx.sz v hv) sD) (by simp;omega) (by simpa using h0)
  (fun i=>by rw [tk,PU hD];exact sdiv _ _ sD)
  (fun i=>by
   rw [tk,PU hD]
   have:=Nat.div_pos (Nat.le_of_dvd hD (BT D (x.take i))) (abD hD _)
   omega)
  (fun i=>by
   rw [tk,PU hD,ah5 hD (x.take i) (BT D x) (fun c hc=>abE D x c (List.mem_of_mem_take hc))]
   exact sdiv _ _ (pO fun c hc=>hx.sz c (List.mem_of_mem_take hc)))
  (by rw [hc];exact zK CT (Nat.le_trans spc hs) (Nat.le_trans sD hs))
  (by rw [hc];exact fun h=>hp ((EU CT).1 h))
  (by rw [hc,abF CT hp];exact zK hp (Nat.le_trans sD hs) (Nat.le_trans spc hs))
 rw [hc,asL hD cx h0,uP]at h1
 exact h1
theorem ah7(hx:Bd 2 s n x):Bd 2 s n (wE x):=Bd.cut ⟨by simpa using hx.len,fun c hc=>by
 simp only [List.mem_map]at hc
 obtain⟨v,hv,rfl⟩:=hc
 refine Nat.le_trans (dN aF ?_) (hx.sz v hv)
 unfold tT
 split
 ·exact Int.natAbs_ediv_le_natAbs _ _
 ·simp⟩
theorem UP(x:List Int)(D:Nat)(hD:0<D)(hx:Bd 2 s n x)(sD:sz 2 D<=s)(cx:Cn x)(sX:1<=s)(hs:s<=YY)(hn:n<1099511627776) :
  aC 159 [PP (qd x D)] (PI (mS x)):=by
 have CT:(D:Int)≠0:=aA
 have bp:=ah7 hx
 have hN:=MQ (wE x) (bp.mono hs aA)
 rw [UO]
 have hP:∃q:Rat,aC 155 [PP (qd x D)] (.dK [RR q,PI (wE x)])∧(q.num<0↔lead x<0):=by
  by_cases h0:x = []
  ·subst h0
   refine⟨(oE []:Int),?_,?_⟩
   ·have:=IZ [] hx cx sX hs hn
    rw [RR,iO]
    exact this
   ·rw [show oE ([]:List Int)=0 by decide];decide
  ·refine⟨_,Y8 x D hD hx sD cx h0 sX hs hn,?_⟩
   rw [EX hD]
   have gx:=dB cx h0
   unfold oE
   split<;>omega
 obtain⟨q,hP,hq⟩:=hP
 generalize wE x=y at *
 generalize qd x D=l at *
 apply cG [(0,PP l)] Tryz.func159
 apply gJ [0] hP [3,4]
 apply cQ [4,12]
 refine W.cond ⟨_,rfl,fun h=>?_,fun h=>?_⟩
 ·simp at h
  rw [if_pos (hq.1 h)]
  exact C7 hN [2]
 ·have h:¬q.num<0:=by simpa using h
  rw [if_neg (fun h2=>h (hq.2 h2))]
  apply W.skip
  exact eY [2]
theorem UQ(x y:List Int){N:Nat}(hx:Bd 2 s N x)(hy:Bd 2 s' N y)(cx:Cn x)(cy:Cn y)(YL:0<y.length)(hs:1<=s)(hB:s+(N+1)*(s'+N+2)+s'+N+N+10<137438953472) :
  aC 256 [PP (qs x),PP (qs y)] (.dK [PP (qd (aZ (dmd x y).Q) (dmd x y).D),PP (qd (dmd x y).r (dmd x y).D)]):=by
 have hNx:=hx.len
 have hNy:=hy.len
 have hl:=dO cy YL
 have hls:=iX hy
 have hM:x.length+1<=N+1:=aA
 refine dJ (E:=env) (fun id=>if id=17 then 2 else 0) [(0,PP (qs x)),(1,PP (qs y))] Tryz.func256 rfl cT cT (show 2<=84 by decide) aG ?_
 obtain⟨R0,KR⟩:∃R0,R0=dms y (x.length+1) ⟨List.replicate (mA x y) 0,x,1⟩:=⟨_,rfl⟩
 rw [show dmd x y=R0 from KR.symm]
 have hkN:mA x y<=N:=by unfold mA;omega
 have hkk:(if (x.length:Int)-(y.length:Int)+1<0 then 0 else(x.length:Int)-(y.length:Int)+1)=(mA x y:Int):=by unfold mA;split<;>omega
 have hI0:zL x y ⟨List.replicate (mA x y) 0,x,1⟩:=zL.start cx
 generalize CP:mA x y=k0 at *
 obtain⟨a0,ha0⟩:∃a0,a0=qs x:=⟨_,rfl⟩
 obtain⟨yq,hyq⟩:∃yq,yq=qs y:=⟨_,rfl⟩
 have la0:a0.length=x.length:=by rw [ha0];simp
 have lyq:yq.length=y.length:=by rw [hyq];simp
 rw [<-ha0,<-hyq]
 apply aQ [0,1]
 apply W.sr
 simp (disch:=omega) [gw,la0,lyq,hkk]
 apply cO [0,1,6]
 apply eE [0,1,6,21,22]
 refine W.bB (fun k σ=>∃(i ver:Nat) (els:List (List PV)) (rows:Pm.Rows) (clk:Nat),σ=⟨fa [(0,PP a0),(1,PP yq),(6, .own 19 ver 0 k0),(21,aB k0),(22,aB i)],rows,clk⟩ ∧
  rows 19=some ⟨ver,31,4,els⟩∧els.length=k0∧(∀e∈els,e.length=4)∧els.take i=emap ri (List.replicate i 0)∧k=k0-i∧i<=k0) k0 ?_ ?_
 ·exact⟨_, .refl,0,_,List.replicate k0 [.nil, .bool false, .nil, .bool false],_,_,rfl,aG,aG,aG,by simp [emap],aA,aA⟩
 rintro k _ ⟨i,ver,els,rows,clk,rfl,hr,pS,T6,uY,hk,hi⟩
 have YJ:bP 4 els=True:=by simp only [bP,eq_iff_iff,iff_true];exact T6
 apply cN [0,1,6,21,22,23]
 refine W.cond ⟨_,rfl,fun h=>?_,fun h=>?_⟩
 ·have h:i<k0:=by simp at h;omega
  apply oR [0,1,6,7,21,22]
  refine W.bY fun K hK=>?_
  apply kZ s6
  have zI:i<els.length:=aA
  have hE:yO els i 4=True:=by
   simp only [eq_iff_iff,iff_true]
   exact⟨els[i],List.getElem?_eq_getElem zI,by rw [T6 _ (List.getElem_mem zI)];omega⟩
  have hS:iP els i 0 [aJ aI (aV DD 0), .bool false,aJ aI (aV DD 1), .bool false]=els.set i (ri 0):=by
   have h4:=T6 _ (List.getElem_mem zI)
   rw [iP,List.getElem?_eq_getElem zI]
   simp [List.drop_of_length_le,h4]
  apply zD hr hE hS
  refine W.lw [0,1,6,21,22] hK ?_;clear hK K;simp
  refine W.bY (fun K hK=>?_);simp (disch:=omega) [gw]
  refine hK _ ⟨k0-(i+1),_,aD _ [0,1,6,21,22],aA,i+1,ver,els.set i (ri 0),_,_,rfl,aG,by simpa using pS,fun e he=>?_,?_,aA,aA⟩
  ·rcases List.mem_or_eq_of_mem_set he with h1 | h1
   ·exact T6 e h1
   ·rw [h1];rfl
  ·rw [oT uY aA,List.replicate_succ']
   simp [emap]
 have h:i=k0:=by simp at h;omega
 subst h
 have oY:els=emap re (qd (List.replicate i 0) 1):=by rw [PO,IX,<-uY,bW pS]
 subst oY
 rw [show a0=qd x 1 by rw [ha0,PO]]
 clear uY T6 pS YJ hk hi hkk ha0 la0 a0
 apply (gK)
 apply (nC)
 generalize hdd:s'+N+2=d at *
 have hNN:∀j,(x.length+1-j)*d<=(N+1)*d:=fun j=>Nat.mul_le_mul_right _ aA
 refine W.bB (fun n σ=>∃(Q r:List Int) (D:Int) (v6:Nat),bF σ [(0,PP (qd r D)),(1,PP yq),(6, .own 19 v6 0 i)] fun rows clk =>
  rows 19=some ⟨v6,31,4,emap re (qd Q D)⟩∧Q.length=i∧zL x y ⟨Q,r,D⟩∧r.length<n∧n<=x.length+1∧dms y n ⟨Q,r,D⟩=R0∧Bd 2 (s+(x.length+1-n)*d) N r∧sz 2 D<=s+(x.length+1-n)*d) (x.length+1) ?_ ?_
 ·exact⟨_,aD _ [0,1,6],_,x,1,_,_,_,rfl,hr,aG,hI0,aA,aA,KR.symm,hx.mono aA aA,Nat.le_trans (dZ (k:=1) aF aF) aA⟩
 clear hr rows clk ver
 rintro n _ ⟨Q,r,D,v6,rows,clk,rfl,hr,hQ,hI,hrn,hnM,hd,br,bD⟩
 have hD:D≠0:=hI.d
 have hnn:=hNN n
 obtain⟨a,ha⟩:∃a,a=qd r D:=⟨_,rfl⟩
 have la:a.length=r.length:=by rw [ha];simp
 rw [<-ha]
 apply W.seq
 apply W.sr
 simp (disch:=omega) [gw,la,lyq]
 apply cO [0,1,6,34]
 refine W.cond ⟨_,rfl,fun h=>?_,fun h=>?_⟩
 ·have h:y.length<=r.length:=by simp at h;omega
  obtain⟨n,rfl⟩:∃m,n=m+1:=⟨n-1,aA⟩
  obtain⟨k,hk⟩:∃k,k=r.length-y.length:=⟨_,rfl⟩
  have hkI:(r.length:Int)-(y.length:Int)=k:=aA
  have hki:k<i:=by have:=hI.q.resolve_right (show ¬r.length<y.length by omega);simp only at this;omega
  have hI2:=hI.step cy YL h
  have J9:=PQ (σ:=⟨Q,r,D⟩) YL h
  rw [dms,if_neg (show ¬r.length<y.length by omega)]at hd
  simp only [dst,<-hk]at hI2 J9 hd
  have hT:s+(x.length+1-n)*d=s+(x.length+1-(n+1))*d+d:=by
   rw [show x.length+1-n=(x.length+1-(n+1))+1 by omega,Nat.add_mul,Nat.one_mul];omega
  have hn3:=hNN n
  generalize hU:s+(x.length+1-(n+1))*d=U at *
  have hlr:=iX br
  have hNr:=br.len
  have AG:D*lead y≠0:=Int.mul_ne_zero hD hl
  have zD2:sz 2 (D*lead y)<=U+s':=cW aF bD hls
  have hp:nth a (r.length-1)=eH (lead r) D:=by rw [ha,PN hD];rfl
  have WN:nth yq (y.length-1)=(lead y:Rat):=by rw [hyq,ahB];rfl
  have ay7:=II (eH (lead r) D) (lead y:Rat) (zK hD (Nat.le_trans hlr (by show U<=137438953472;omega)) (Nat.le_trans bD (by show U<=137438953472;omega))) (sC (Nat.le_trans hls (by show s'<=137438953472;omega)) aF) (jN hl)
  rw [amj hD hl]at ay7
  have hSc:=tQ yq (eH (lead r) (D*lead y)) (by rw [hyq];exact QOK.qs (fun c hc=>Nat.le_trans (hy.sz c hc) (by show s'<=137438953472;omega)) aA) (zK AG (Nat.le_trans hlr (by show U<=137438953472;omega)) (Nat.le_trans zD2 (by show U+s'<=137438953472;omega)))
  rw [hyq,ad5 AG,<-hyq]at hSc
  have bsc:Bd 2 (U+s') N (bJ y (lead r)):=(hy.bJ aF hlr).mono aA aA
  have bw:Bd 2 (U+s') N (List.replicate k 0++bJ y (lead r)):=⟨by have:=tL y (lead r);simp;omega,fun c hc=>by
   rcases List.mem_append.1 hc with h1 | h1
   ·rw [(List.mem_replicate.1 h1).2,nG];omega
   ·exact bsc.sz c h1⟩
  have brl:Bd 2 (U+s') N (r.map (· * lead y)):=⟨by simpa using br.len,fun c hc=>by
   simp only [List.mem_map]at hc
   obtain⟨v,hv,rfl⟩:=hc
   exact cW aF (br.sz v hv) hls⟩
  have hSu:=ahZ (qd (r.map (· * lead y)) (D*lead y)) (qd (List.replicate k 0++bJ y (lead r)) (D*lead y)) _
   (Y5 AG brl zD2 (by show U+s'<=137438953472;omega) aA) (Y5 AG bw zD2 (by show U+s'<=137438953472;omega) aA) (aml AG _) (Y5 AG bw.jP zD2 (by show U+s'<=137438953472;omega) aA)
  rw [amk AG,Y4 hD hl,<-ha]at hSu
  have er:kC (r.map (· * lead y)) (jP (List.replicate k 0++bJ y (lead r)))=CR y (lead y) (lead r) k r:=Cn.ext (Cn.kC _ _) (Cn.iB _ _) fun t=>by
   rw [vS,fB,HV,eZ,uN,dA,CR,k8,dA,eF,rM,List.length_replicate];grind
  have br2:Bd 2 (U+d) N (CR y (lead y) (lead r) k r):=by
   rw [<-er]
   exact(Bd.kC aF brl bw.jP).mono aA aA
  rw [er]at hSu
  have ew:qd (List.replicate k 0++bJ y (lead r)) (D*lead y)=List.replicate k 0++qd (bJ y (lead r)) (D*lead y):=by
   simp only [qd,List.map_append,List.map_replicate,BR AG]
  rw [ew]at hSu
  have lb:(qd (bJ y (lead r)) (D*lead y)).length<=N:=by have:=bsc.len;simpa using this
  have ahP:(qd Q D).set k (eH (lead r) (D*lead y))=qd ((Q.map (· * lead y)).set k (lead r)) (D*lead y):=by
   rw [<-Y4 hD hl Q,qd,qd,List.map_set]
  have hQl:(qd Q D).length=i:=by simpa using hQ
  apply (uV)
  generalize hz:qd Q D=z at *
  generalize qd (bJ y (lead r)) (D*lead y)=b at *
  generalize Y9:eH (lead r) (D*lead y)=c at *
  generalize WO:eH (lead r) D=p at *
  generalize hlq:(lead y:Rat)=lq at *
  generalize ha2:qd (CR y (lead y) (lead r) k r) (D*lead y)=a2 at *
  apply W.sr
  simp (disch:=omega) [gw,la,lyq,hkI]
  apply cO [0,1,6,8]
  have aJG:0<r.length:=aA
  have e1:((r.length:Int)-1).toNat=r.length-1:=aA
  have e2:((y.length:Int)-1).toNat=y.length-1:=aA
  apply W.sd
  simp (disch:=omega) [gw,la,lyq,e1,e2,hp,WN]
  apply jW ay7
  rw [if_pos cT]
  apply bT [0,1,6,8,9]
  have hkl:k<z.length:=aA
  apply qY hr hkl [0,1,6,8,9]
  apply aQ [0,1,6,8,9,10]
  apply eE [0,1,6,8,9,10,60,61]
  refine W.bB (fun m σ=>∃(j v9 v10 v6:Nat) (els:List (List PV)) (rows:Pm.Rows) (clk:Nat),σ=⟨fa [(0,PP a),(1,PP yq),(6, .own 19 v6 0 i),(9, .ptr 9 v9 0 0),(10, .own 58 v10 0 k),(60,aB k),(61,aB j)],rows,clk⟩ ∧
   rows 19=some ⟨v6,31,4,emap re (z.set k c)⟩∧rows 9=some ⟨v9,31,4,[[aJ aI (aV DD c.num.natAbs), .bool (decide (c.num<0)),aJ aI (aV DD c.den), .bool false]]⟩ ∧
   rows 58=some ⟨v10,31,4,els⟩∧els.length=k∧(∀e∈els,e.length=4)∧els.take j=emap ri (List.replicate j 0)∧m=k-j∧j<=k) k ?_ ?_
  ·exact⟨_,aD _ [0,1,6,9,10,60,61],0,_,_,_,List.replicate k [.nil, .bool false, .nil, .bool false],_,_,rfl,by simp [hr],aG,aG,aG,aG,by simp [emap],aA,aA⟩
  clear hr rows clk v6
  rintro m _ ⟨j,v9,v10,v6,els,rows,clk,rfl,hr,hr9,tU,pS,T6,uY,hm,hj⟩
  have YJ:bP 4 els=True:=by simp only [bP,eq_iff_iff,iff_true];exact T6
  apply cN [0,1,6,9,10,60,61,62]
  refine W.cond ⟨_,rfl,fun h=>?_,fun h=>?_⟩
  ·have h:j<k:=by simp at h;omega
   apply oR [0,1,6,9,10,11,60,61]
   refine W.bY fun K hK=>?_
   apply kZ s6
   have zI:j<els.length:=aA
   have hE:yO els j 4=True:=by
    simp only [eq_iff_iff,iff_true]
    exact⟨els[j],List.getElem?_eq_getElem zI,by rw [T6 _ (List.getElem_mem zI)];omega⟩
   have hS:iP els j 0 [aJ aI (aV DD 0), .bool false,aJ aI (aV DD 1), .bool false]=els.set j (ri 0):=by
    have h4:=T6 _ (List.getElem_mem zI)
    rw [iP,List.getElem?_eq_getElem zI]
    simp [List.drop_of_length_le,h4]
   apply zD tU hE hS
   refine W.lw [0,1,6,9,10,60,61] hK ?_;clear hK K;simp
   refine W.bY (fun K hK=>?_);simp (disch:=omega) [gw]
   refine hK _ ⟨k-(j+1),_,aD _ [0,1,6,9,10,60,61],aA,j+1,v9,v10,v6,els.set j (ri 0),_,_,rfl,by simp [hr],by simp [hr9],aG,by simpa using pS,fun e he=>?_,?_,aA,aA⟩
   ·rcases List.mem_or_eq_of_mem_set he with h1 | h1
    ·exact T6 e h1
    ·rw [h1];rfl
   ·rw [oT uY aA,List.replicate_succ']
    simp [emap]
  have h:j=k:=by simp at h;omega
  subst h
  have oY:els=emap re (List.replicate j 0):=by
   have h1:emap ri (List.replicate j 0)=emap re (List.replicate j 0):=by simp [emap,iO]
   rw [<-h1,<-uY,bW pS]
  subst oY
  clear uY T6 pS YJ
  apply (gK)
  refine W.K1 fun K hK=>?_
  rw [if_pos rfl,gO]
  have AZ:((List.take r.length a).drop 0)=a:=by rw [List.drop_zero,List.take_of_length_le aA]
  simp (disch:=omega) [gw,la,lyq,hr9,OL,AZ]
  apply j9 hSc
  have CQ:List.take (j+b.length) (List.replicate j 0++b)=List.replicate j 0++b:=List.take_of_length_le aG
  apply j7 tU CQ hSu
  apply (cV)
  subst ha2
  have bS:rows 19=some ⟨v6,31,4,emap re (qd ((Q.map (· * lead y)).set j (lead r)) (D*lead y))⟩:=by rw [hr,ahP]
  refine hK _ ⟨n,_,aD _ [0,1,6],aA,(Q.map (· * lead y)).set j (lead r),CR y (lead y) (lead r) j r,D*lead y,v6,_,_,rfl,by simp [bS],by simpa using hQ,hI2,aA,aA,hd,?_,?_⟩
  ·rw [hT];exact br2
  ·rw [hT];exact Nat.le_trans zD2 aA
 ·have h:r.length<y.length:=by simp at h;omega
  rw [amm h]at hd
  subst hd
  apply (gK)
  have hcq:=BM (qd Q D) (by simp;omega)
  rw [BS hD]at hcq
  have hQl:(qd Q D).length=i:=by simpa using hQ
  have xF:=bW hQl
  rw [<-ha]
  generalize qd Q D=z at *
  generalize qd (aZ Q) D=z2 at *
  apply qE hr xF hcq
  exact gI [4,5]
theorem UR{x y:List Int}(cy:Cn y)(hy:0<y.length):∀(j:Nat),j<=x.length->exs y j (List.replicate j 0++x.drop j) (cB (aZ (x.take j)) y)=some (x,[])
 | 0,_=>by
  have:cB (aZ (x.take 0)) y = []:=Cn.ext (Cn.cB _ _) Cn.nil fun t=>by rw [eF,dU];simp [V]
  rw [exs,this];rfl
 | j+1,h=>by
  have ih:=UR (x:=x) cy hy j aA
  have hly:=dO cy hy
  have ht:=bQ (l:=x) (i:=j) aA
  have hdr:x.drop j=nth x j::x.drop (j+1):=by
   rw [List.drop_eq_getElem_cons (l:=x) (i:=j) aA,show nth x j=x[j]from bZ aA]
  rw [exs]
  by_cases hv:nth x j=0
  ·have hw:aZ (x.take (j+1))=aZ (x.take j):=by rw [ht,hv,mH]
   rw [hw]
   have h1:=vT (x:=aZ (x.take j)) hy
   have h2:=cL (x.take j)
   rw [List.length_take]at h2
   rw [if_pos aA,<-ih]
   rw [hdr,hv,List.replicate_succ',List.append_assoc];rfl
  ·have hw:aZ (x.take (j+1))=x.take j ++ [nth x j]:=by rw [ht];exact kS hv _
   have cw:Cn (x.take j ++ [nth x j]):=kS hv _
   have hwl:(x.take j ++ [nth x j]).length=j+1:=by simp;omega
   have hlw:lead (x.take j ++ [nth x j])=nth x j:=by
    rw [lead,hwl,Nat.add_sub_cancel,bZ aA]
    have:(x.take j).length=j:=by simp;omega
    simp [List.getElem_append_right,this]
   rw [hw]
   have hl:=mL cw cy aA hy
   have hd:=DA cw cy aA hy
   rw [hwl]at hl
   rw [hlw]at hd
   rw [if_neg aA,hd,if_pos (Int.mul_emod_left _ _),Int.mul_ediv_cancel _ hly]
   have e1:iB (cB (x.take j ++ [nth x j]) y) (cB (uX j (nth x j)) y)=cB (aZ (x.take j)) y:=Cn.ext (Cn.iB _ _) (Cn.cB _ _) fun t=>by
    rw [k8,eF,eF,eF,dU,eZ,rJ,rM,show(x.take j).length=j by simp;omega]
    grind
   have e2:(List.replicate (j+1) 0++x.drop (j+1)).set j (nth x j)=List.replicate j 0++x.drop j:=by
    rw [hdr,List.replicate_succ',List.append_assoc,List.set_append_right _ _ aG]
    simp
   rw [e1,e2]
   exact ih
theorem ZA(cx:Cn x)(cy:Cn y)(hy:0<y.length):exact (cB x y) y=some x:=by
 have hk:mA (cB x y) y=x.length:=by
  rcases Nat.eq_zero_or_pos x.length with h | h
  ·have:x = []:=List.eq_nil_of_length_eq_zero h
   have e:cB x y = []:=Cn.ext (Cn.cB _ _) Cn.nil fun t=>by rw [eF,this];simp [V]
   rw [e,this];simp [mA];omega
  ·have:=mL cx cy h hy
   unfold mA;omega
 have h1:=UR (x:=x) cy hy x.length (Nat.le_refl _)
 rw [List.take_length,show aZ x=x from cx,List.drop_length,List.append_nil]at h1
 rw [exact,hk,h1,exF,show aZ x=x from cx]
theorem PW{h:List Int}(cy:Cn y)(hy:0<y.length)(e:∀t,V t y*V t h=0):aZ h = []:=by
 by_cases hh:aZ h = []
 ·exact hh
 ·exfalso
  have h1:cB y (aZ h) = []:=Cn.ext (Cn.cB _ _) Cn.nil fun t=>by rw [eF,dU,e];rfl
  have h2:=mL cy (Cn.cut h) hy (List.length_pos_iff.2 hh)
  rw [h1]at h2
  have:=List.length_pos_iff.2 hh
  simp at h2;omega
theorem US(h:aZ (iB a b) = [])(t:Int):V t a=V t b:=by
 have h1:=k8 (t:=t) a b
 rw [<-dU,h]at h1
 have:V t ([]:List Int)=0:=rfl
 omega
theorem aea(h:D≠0)(x:List Int):qd (x.map (· * D)) D=qs x:=by
 have:=Y4 (D:=1) (l:=D) aF h x
 rw [Int.one_mul,PO]at this
 exact this
theorem ah8{q:List Int}(cx:Cn x)(cy:Cn y)(hy:0<y.length)(cq:Cn q)(h:∀t,V t x=V t q*V t y):qd (aZ (dmd x y).Q) (dmd x y).D=qs q∧(dmd x y).r = []:=by
 obtain⟨hI,hr⟩:=amn cx cy hy
 generalize dmd x y=σ at *
 have hv:=hI.v
 have e:∀t,V t σ.r=V t y*V t (iB (q.map (· * σ.D)) σ.Q):=fun t=>by
  have h1:=hv t
  rw [h]at h1
  rw [k8,fB]
  grind
 have h1:=MB hI.c cy hy e hr
 have h2:aZ (iB (q.map (· * σ.D)) σ.Q) = []:=PW cy hy fun t=>by rw [<-e,h1];rfl
 have e2:aZ σ.Q=q.map (· * σ.D):=Cn.ext (Cn.cut _) (oC cq hI.d) fun t=>by rw [dU];exact(US h2 t).symm
 rw [e2]
 exact⟨aea hI.d q,h1⟩
end Go.Proofs.YtiobceocpabjdaaGreat
namespace Pm
variable {c:Int}{k n h:Nat}
structure ZX where
 l:List Int
 c:Cn l
variable {x y z q w b g a r p:ZX}
namespace ZX
theorem ext{x y:ZX}(h:∀t,V t x.l=V t y.l):x=y:=by
 obtain⟨x,hx⟩:=x
 obtain⟨y,hy⟩:=y
 have:=Cn.ext hx hy h
 subst this
 rfl
def of(x:List Int):ZX:=⟨aZ x,Cn.cut x⟩
def K(c:Int):ZX:=of [c]
instance:Zero ZX:=⟨⟨[],Cn.nil⟩⟩
instance:One ZX:=⟨K 1⟩
instance:Add ZX:=⟨fun x y=>⟨kC x.l y.l,Cn.kC _ _⟩⟩
instance:Mul ZX:=⟨fun x y=>⟨cB x.l y.l,Cn.cB _ _⟩⟩
instance:Neg ZX:=⟨fun x=>⟨jP x.l,Cn.jP _⟩⟩
instance:Sub ZX:=⟨fun x y=>⟨iB x.l y.l,Cn.iB _ _⟩⟩
def pow(x:ZX):Nat->ZX
 | 0=>1
 | n+1=>pow x n*x
instance:HPow ZX Nat ZX:=⟨pow⟩
instance:NatCast ZX:=⟨fun n=>K n⟩
instance (n:Nat):OfNat ZX n:=⟨K n⟩
instance:IntCast ZX:=⟨fun n=>K n⟩
instance:SMul Nat ZX:=⟨fun n x=>K n*x⟩
instance:SMul Int ZX:=⟨fun n x=>K n*x⟩
variable {t:Int}
theorem ZB(x:List Int):V t (of x).l=V t x:=dU x
theorem AH(c:Int):V t (K c).l=c:=by rw [K,ZB];simp [V]
theorem zM:V t (0:ZX).l=0:=AH 0
theorem MU:V t (1:ZX).l=1:=AH 1
theorem pG(x y:ZX):V t (x+y).l=V t x.l+V t y.l:=vS _ _
theorem fC(x y:ZX):V t (x*y).l=V t x.l*V t y.l:=eF _ _
theorem MV(x:ZX):V t (-x).l = -V t x.l:=HV _
theorem ay8(x y:ZX):V t (x-y).l=V t x.l-V t y.l:=k8 _ _
theorem abG(x:ZX):∀n:Nat,V t (x^n).l=V t x.l^n
 | 0=>by show V t (1:ZX).l=_;rw [MU,Int.pow_zero]
 | n+1=>by show V t ((x^n)*x).l=_;rw [fC,abG x n,Int.pow_succ]
theorem abH(n:Nat):V t (OfNat.ofNat n:ZX).l=n:=AH n
theorem ao7(n:Int):V t (n:ZX).l=n:=AH n
theorem abI(n:Int)(x:ZX):V t (n • x).l=n*V t x.l:=by show V t (K n*x).l=_;rw [fC,AH]
instance:Lean.Grind.CommRing ZX where
 add_zero x:=ext fun t=>by rw [pG,zM];omega
 add_comm x y:=ext fun t=>by rw [pG,pG];omega
 add_assoc x y z:=ext fun t=>by simp only [pG];omega
 mul_assoc x y z:=ext fun t=>by simp only [fC];grind
 mul_one x:=ext fun t=>by rw [fC,MU];omega
 one_mul x:=ext fun t=>by rw [fC,MU];omega
 left_distrib x y z:=ext fun t=>by simp only [fC,pG];grind
 right_distrib x y z:=ext fun t=>by simp only [fC,pG];grind
 zero_mul x:=ext fun t=>by rw [fC,zM];omega
 mul_zero x:=ext fun t=>by rw [fC,zM];omega
 pow_zero x:=ext fun t=>by rw [abG,MU,Int.pow_zero]
 pow_succ x n:=ext fun t=>by rw [fC,abG,abG,Int.pow_succ]
 ofNat_succ n:=ext fun t=>by rw [pG,abH,abH,MU];omega
 ofNat_eq_natCast n:=rfl
 nsmul_eq_natCast_mul n x:=rfl
 neg_add_cancel x:=ext fun t=>by rw [pG,MV,zM];omega
 sub_eq_add_neg x y:=ext fun t=>by rw [ay8,pG,MV];omega
 neg_zsmul n x:=ext fun t=>by rw [abI,MV,abI];grind
 zsmul_natCast_eq_nsmul n x:=rfl
 intCast_ofNat n:=rfl
 intCast_neg n:=ext fun t=>by rw [ao7,MV,ao7]
 mul_comm x y:=ext fun t=>by rw [fC,fC,Int.mul_comm]
def N(x:ZX):Nat:=x.l.length
theorem aH:x≠0↔0<N x:=by
 constructor
 ·intro h
  rcases Nat.eq_zero_or_pos (N x)with h1 | h1
  ·exfalso
   apply h
   have:x.l = []:=List.eq_nil_of_length_eq_zero h1
   exact ext fun t=>by rw [this,zM];rfl
  ·exact h1
 ·rintro h rfl
  have:N (0:ZX)=0:=aF
  omega
theorem ahI:N (0:ZX)=0:=by decide
theorem lN(hx:x≠0)(hy:y≠0):N (x*y)=N x+N y-1:=mL x.c y.c (aH.1 hx) (aH.1 hy)
theorem oF(hx:x≠0)(hy:y≠0):x*y≠0:=by
 rw [aH,lN hx hy]
 have:=aH.1 hx
 have:=aH.1 hy
 omega
theorem wG(h:x*y=0):x=0∨y=0:=by
 by_cases hx:x=0
 ·exact .inl hx
 ·by_cases hy:y=0
  ·exact .inr hy
  ·exact absurd h (oF hx hy)
theorem MW(x y:ZX):x*y=y*x:=by grind
theorem cancel(hz:z≠0)(h:z*x=z*y):x=y:=by
 have h1:z*(x-y)=0:=aT
 rcases wG h1 with h2 | h2
 ·exact absurd h2 hz
 ·grind
theorem sE(h:c≠0):K c≠0:=fun e=>h (by
 have:=AH (t:=0) c
 rw [e,zM]at this;omega)
theorem N_K(h:c≠0):N (K c)=1:=by
 show(aZ [c]).length=1
 rw [show aZ [c] = [c]from kS h []];rfl
theorem s9(c d:Int):K c*K d=K (c*d):=ext fun t=>by rw [fC,AH,AH,AH]
theorem nO(h:N x=1):∃c,c≠0∧x=K c:=by
 obtain⟨l,hl⟩:=x
 match l,hl,h with
 | [c],hl,_ =>
  have hc:c≠0:=by
   have:=dO hl aG
   simpa [lead,xE]using this
  exact⟨c,hc,ext fun t=>by rw [AH];simp [V]⟩
theorem pP(hc:c≠0)(hx:x≠0)(h:K c*x=q*y):q≠0∧y≠0:=by
 have h1:=oF (sE hc) hx
 rw [h]at h1
 constructor
 ·rintro rfl;apply h1;grind
 ·rintro rfl;apply h1;grind
theorem qM:(1:ZX)≠0:=sE aF
theorem wH:N (1:ZX)=1:=N_K aF
def dv(y x:ZX):Prop:=∃c:Int,c≠0 ∧ ∃q,K c*x=q*y
theorem dv.refl(x:ZX):dv x x:=⟨1,aF,K 1,rfl⟩
theorem dv.zero(x:ZX):dv x 0:=⟨1,aF,0,aT⟩
theorem dv.trans(h1:dv x y)(h2:dv y z):dv x z:=by
 obtain⟨c,hc,q,h1⟩:=h1
 obtain⟨d,hd,r,h2⟩:=h2
 exact⟨c*d,Int.mul_ne_zero hc hd,q*r,by rw [<-s9];grind⟩
theorem dv.mul_right(h:dv x y)(z:ZX):dv x (y*z):=by
 obtain⟨c,hc,q,h⟩:=h
 exact⟨c,hc,q*z,aT⟩
theorem dv.mul_left(h:dv x y)(z:ZX):dv x (z*y):=by
 obtain⟨c,hc,q,h⟩:=h
 exact⟨c,hc,q*z,aT⟩
theorem dv.mul(h1:dv x y)(h2:dv z w):dv (x*z) (y*w):=by
 obtain⟨c,hc,q,h1⟩:=h1
 obtain⟨d,hd,r,h2⟩:=h2
 exact⟨c*d,Int.mul_ne_zero hc hd,q*r,by rw [<-s9];grind⟩
theorem dv.add(h1:dv x y)(h2:dv x z):dv x (y+z):=by
 obtain⟨c,hc,q,h1⟩:=h1
 obtain⟨d,hd,r,h2⟩:=h2
 exact⟨c*d,Int.mul_ne_zero hc hd,K d*q+K c*r,by rw [<-s9];grind⟩
theorem dv.K6(hc:c≠0)(h:dv x (K c*y)):dv x y:=by
 obtain⟨d,hd,q,h⟩:=h
 exact⟨d*c,Int.mul_ne_zero hd hc,q,by rw [<-s9];grind⟩
theorem dv.nP(h:dv x y)(hy:y≠0):N x<=N y:=by
 obtain⟨c,hc,q,h⟩:=h
 obtain⟨h1,h2⟩:=pP hc hy h
 have h3:N (K c*y)=N y:=by rw [lN (sE hc) hy,N_K hc];have:=aH.1 hy;omega
 rw [h,lN h1 h2]at h3
 have:=aH.1 h1
 omega
theorem dv.ne(h:dv x y)(hy:y≠0):x≠0:=by
 obtain⟨c,hc,q,h⟩:=h
 exact(pP hc hy h).2
theorem F4(h:dv 0 x):x=0:=by
 obtain⟨c,hc,q,h⟩:=h
 have h2:K c*x=0:=aT
 exact(wG h2).resolve_left (sE hc)
theorem ay9(hc:c≠0)(x:ZX):dv (K c) x:=⟨c,hc,x,aT⟩
theorem amo(h:dv x y)(hy:y≠0)(hN:N x=N y):dv y x:=by
 obtain⟨c,hc,q,h⟩:=h
 obtain⟨h1,h2⟩:=pP hc hy h
 have h3:N (K c*y)=N y:=by rw [lN (sE hc) hy,N_K hc];have:=aH.1 hy;omega
 rw [h,lN h1 h2]at h3
 have h4:=aH.1 h1
 have h5:=aH.1 h2
 obtain⟨d,hd,rfl⟩:=nO (x:=q) aA
 exact⟨d,hd,K c,by rw [h]⟩
theorem ah9(a:ZX)(hb:b≠0):∃c:Int,c≠0 ∧ ∃q r,K c*a=q*b+r∧N r<N b:=by
 have h0:=aH.1 hb
 obtain⟨c1,c2⟩:=HY (b:=b.l) a.c
 refine⟨lead b.l^mA a.l b.l,Int.pow_ne_zero (dO b.c h0),⟨_,c1⟩,⟨_,c2⟩,ext fun t=>?_,?_⟩
 ·rw [fC,AH,pG,fC]
  exact(ag9 t a.l b.l).symm
 ·have:=O3 (a:=a.l) h0
  show(EL a.l b.l).2.length<b.l.length
  have:0<b.l.length:=h0
  omega
structure u3(g a b:ZX):Prop where
 l:dv g a
 r:dv g b
 uv:∃c:Int,c≠0 ∧ ∃u v,K c*g=u*a+v*b
theorem u3.least{d:ZX}(h:u3 g a b)(ha:dv d a)(hb:dv d b):dv d g:=by
 obtain⟨c,hc,u,v,e⟩:=h.uv
 refine dv.K6 hc ?_
 rw [e]
 exact(ha.mul_left u).add (hb.mul_left v)
theorem u3.ne(h:u3 g a b)(ha:a≠0∨b≠0):g≠0:=by
 rintro rfl
 rcases ha with h1 | h1
 ·exact h1 (F4 h.l)
 ·exact h1 (F4 h.r)
theorem u3.zero(a:ZX):u3 a a 0:=⟨dv.refl a,dv.zero a,1,aF,1,0,by show(1:ZX)*a=_;grind⟩
theorem u3.symm(h:u3 g a b):u3 g b a:=by
 obtain⟨c,hc,u,v,e⟩:=h.uv
 exact⟨h.r,h.l,c,hc,v,u,aT⟩
theorem u3.step(hc:c≠0)(e:K c*a=q*b+r)(h:u3 g b r):u3 g a b:=by
 obtain⟨d,hd,u,v,e2⟩:=h.uv
 refine⟨dv.K6 hc ?_,h.l,d,hd,v*K c,u-v*q,aT⟩
 rw [e]
 exact(h.l.mul_left q).add h.r
theorem mD:∀(n:Nat) (a b:ZX),N b<=n -> ∃g,u3 g a b
 | 0,a,b,h=>by
  have:b=0:=Classical.byContradiction fun hb=>by have:=aH.1 hb;omega
  subst this
  exact⟨a,u3.zero a⟩
 | n+1,a,b,h=>by
  by_cases hb:b=0
  ·subst hb;exact⟨a,u3.zero a⟩
  ·obtain⟨c,hc,q,r,e,hr⟩:=ah9 a hb
   obtain⟨g,hg⟩:=mD n b r aA
   exact⟨g,hg.step hc e⟩
structure sF(p:ZX):Prop where
 deg:2<=N p
 irr:∀d,dv d p->N d=1∨N d=N p
theorem sF.ne(h:sF p):p≠0:=aH.2 (by have:=h.deg;omega)
theorem sF.ao8(hp:sF p)(h:dv p (a*b)):dv p a∨dv p b:=by
 obtain⟨g,hg⟩:=mD _ p a (Nat.le_refl _)
 rcases hp.irr g hg.l with h1 | h1
 ·right
  obtain⟨k,hk,rfl⟩:=nO h1
  obtain⟨c,hc,u,v,e⟩:=hg.uv
  refine dv.K6 (c:=c*k) (Int.mul_ne_zero hc hk) ?_
  have e2:K (c*k)*b=(u*b)*p+v*(a*b):=by rw [<-s9];grind
  rw [e2]
  exact((dv.refl p).mul_left _).add (h.mul_left v)
 ·left
  exact(amo hg.l hp.ne h1).trans hg.r
theorem qN:∀(n:Nat) (a:ZX),N a<=n->2<=N a -> ∃p,sF p∧dv p a
 | 0,a,h,h2=>by omega
 | n+1,a,h,h2=>by
  by_cases hi:∃d,dv d a∧N d≠1∧N d≠N a
  ·obtain⟨d,hd,h3,h4⟩:=hi
   have h5:=hd.nP (aH.2 aA)
   have h6:=aH.1 (hd.ne (aH.2 aA))
   obtain⟨p,hp,hpd⟩:=qN n d aA aA
   exact⟨p,hp,hpd.trans hd⟩
  ·refine⟨a,⟨h2,fun d hd=>?_⟩,dv.refl a⟩
   by_cases h3:N d=1
   ·exact .inl h3
   ·by_cases h4:N d=N a
    ·exact .inr h4
    ·exact absurd ⟨d,hd,h3,h4⟩ hi
theorem pow_succ'(p:ZX)(k:Nat):p^(k+1)=p^k*p:=rfl
theorem fH(p:ZX):p^0=1:=rfl
theorem pow_add'(p:ZX)(j:Nat):∀k,p^(j+k)=p^j*p^k
 | 0=>by rw [Nat.add_zero,fH];grind
 | k+1=>by rw [<-Nat.add_assoc,pow_succ',pow_succ',pow_add' p j k];grind
theorem PY{p:ZX}(hp:p≠0):∀k:Nat,p^k≠0
 | 0=>qM
 | k+1=>oF (PY hp k) hp
theorem aia{p:ZX}(hp:sF p):∀k:Nat,k<N (p^k)
 | 0=>by rw [fH,wH];omega
 | k+1=>by
  rw [pow_succ',lN (PY hp.ne k) hp.ne]
  have:=aia hp k
  have:=hp.deg
  omega
theorem aib{j:Nat}(h:j<=k):dv (p^j) (p^k):=by
 obtain⟨d,rfl⟩:=Nat.exists_eq_add_of_le h
 rw [pow_add']
 exact(dv.refl _).mul_right _
theorem aeb(hp:sF p)(ha:a≠0):∃k,dv (p^k) a∧¬dv (p^(k+1)) a:=by
 have key:∀n,(∃k,k<=n∧dv (p^k) a∧¬dv (p^(k+1)) a)∨dv (p^(n+1)) a:=by
  intro n
  induction n with
  | zero =>
   by_cases h:dv (p^1) a
   ·exact .inr h
   ·exact .inl ⟨0,Nat.le_refl _,ay9 aF a,h⟩
  | succ n ih =>
   rcases ih with ⟨k,h1,h2⟩ | ih
   ·exact .inl ⟨k,aA,h2⟩
   ·by_cases h:dv (p^(n+2)) a
    ·exact .inr h
    ·exact .inl ⟨n+1,Nat.le_refl _,ih,h⟩
 rcases key (N a)with ⟨k,_,h⟩ | h
 ·exact⟨k,h⟩
 ·have h1:=h.nP ha
  have h2:=aia hp (N a+1)
  omega
open Classical in
noncomputable def mu(p a:ZX):Nat:=if h:∃k,dv (p^k) a∧¬dv (p^(k+1)) a then h.choose else 0
theorem abJ(hp:sF p)(ha:a≠0):dv (p^mu p a) a∧¬dv (p^(mu p a+1)) a:=by
 have h:=aeb hp ha
 unfold mu
 rw [dif_pos h]
 exact h.choose_spec
theorem lP(hp:sF p)(ha:a≠0):k<=mu p a↔dv (p^k) a:=by
 obtain⟨h1,h2⟩:=abJ hp ha
 constructor
 ·intro h;exact(aib h).trans h1
 ·intro h
  rcases Nat.lt_or_ge (mu p a) k with h3 | h3
  ·exact absurd ((aib h3).trans h) h2
  ·exact h3
theorem I0(hp:sF p)(ha:a≠0):∃c:Int,c≠0 ∧ ∃b,b≠0∧K c*a=b*p^mu p a∧¬dv p b:=by
 obtain⟨⟨c,hc,b,e⟩,h2⟩:=abJ hp ha
 refine⟨c,hc,b,(pP hc ha e).1,e,fun h=>h2 (dv.K6 hc ?_)⟩
 rw [e,pow_succ']
 have:=h.mul (dv.refl (p^mu p a))
 rw [show p^mu p a*p=p*p^mu p a by grind]
 exact this
theorem DI(hp:sF p)(ha:a≠0)(hc:c≠0)(e:K c*a=b*p^k)(h:¬dv p b):mu p a=k:=by
 have h1:k<=mu p a:=(lP hp ha).2 ⟨c,hc,b,e⟩
 rcases Nat.lt_or_ge k (mu p a)with h2 | h2
 ·exfalso
  obtain⟨d,hd,r,e2⟩:=(lP hp ha).1 h2
  apply h
  refine⟨d,hd,K c*r,ZX.cancel (PY hp.ne k) ?_⟩
  rw [pow_succ']at e2
  grind
 ·omega
theorem wI(hp:sF p)(ha:a≠0)(hb:b≠0):mu p (a*b)=mu p a+mu p b:=by
 obtain⟨c,hc,x,_,e1,h1⟩:=I0 hp ha
 obtain⟨d,hd,y,_,e2,h2⟩:=I0 hp hb
 refine DI (b:=x*y) hp (oF ha hb) (Int.mul_ne_zero hc hd) ?_ fun h=>?_
 ·rw [pow_add',<-s9];grind
 ·rcases hp.ao8 h with h3 | h3
  ·exact h1 h3
  ·exact h2 h3
theorem aec(hp:sF p)(hc:c≠0):mu p (K c)=0:=by
 refine DI (b:=K c) (c:=1) hp (sE hc) aF (by rw [fH];show(1:ZX)*K c=_;grind) fun h=>?_
 have:=h.nP (sE hc)
 rw [N_K hc]at this
 have:=hp.deg
 omega
theorem abK(hp:sF p)(hb:b≠0)(h:dv a b):mu p a<=mu p b:=(lP hp hb).2 (((lP hp (h.ne hb)).1 (Nat.le_refl _)).trans h)
theorem ao9(hp:sF p)(hc:c≠0)(ha:a≠0)(e:K c*a=q*b):mu p a=mu p q+mu p b:=by
 obtain⟨h1,h2⟩:=pP hc ha e
 rw [<-wI hp h1 h2,<-e,wI hp (sE hc) ha,aec hp hc];omega
theorem UT:∀(n:Nat) (a b:ZX),N a<=n->a≠0->b≠0->(∀p,sF p->mu p a<=mu p b)->dv a b
 | 0,a,b,hn,ha,_,_=>by have:=aH.1 ha;omega
 | n+1,a,b,hn,ha,hb,h=>by
  rcases Nat.lt_or_ge (N a) 2 with h1 | h1
  ·obtain⟨c,hc,rfl⟩:=nO (x:=a) (by have:=aH.1 ha;omega)
   exact ay9 hc b
  ·obtain⟨p,hp,hpa⟩:=qN _ a (Nat.le_refl _) h1
   have h2:1<=mu p a:=(lP hp ha).2 (by rw [show p^1=p by rw [pow_succ',fH];grind];exact hpa)
   have h3:dv p b:=by
    have:=(lP hp hb).1 (Nat.le_trans h2 (h p hp))
    rwa [show p^1=p by rw [pow_succ',fH];grind]at this
   obtain⟨c,hc,a',ea⟩:=hpa
   obtain⟨d,hd,b',eb⟩:=h3
   obtain⟨RN,_⟩:=pP hc ha ea
   obtain⟨jH,_⟩:=pP hd hb eb
   have h4:N (K c*a)=N a:=by rw [lN (sE hc) ha,N_K hc];have:=aH.1 ha;omega
   have h5:dv a' b':=UT n a' b' (by
    rw [ea,lN RN hp.ne]at h4
    have:=hp.deg
    omega) RN jH fun r hr=>by
    have h6:=h r hr
    rw [ao9 hr hc ha ea,ao9 hr hd hb eb]at h6
    omega
   refine dv.K6 hd ?_
   rw [eb]
   have h7:=h5.mul (dv.refl p)
   rw [<-ea]at h7
   obtain⟨e,he,q,e3⟩:=h7
   exact⟨e,he,q*K c,aT⟩
theorem mN(ha:a≠0)(hb:b≠0):dv a b ↔ ∀p,sF p->mu p a<=mu p b:=⟨fun h p hp=>abK hp hb h,UT _ a b (Nat.le_refl _) ha hb⟩
theorem u3.mu{g a b p:ZX}(h:u3 g a b)(ha:a≠0)(hb:b≠0)(hp:sF p):mu p g=min (ZX.mu p a) (ZX.mu p b):=by
 have hg:=h.ne (.inl ha)
 have h1:=abK hp ha h.l
 have h2:=abK hp hb h.r
 have h3:min (ZX.mu p a) (ZX.mu p b)<=ZX.mu p g:=(lP hp hg).2 (h.least ((lP hp ha).1 (Nat.min_le_left _ _)) ((lP hp hb).1 (Nat.min_le_right _ _)))
 omega
def DJ(x:List Int):List Int:=(List.range (x.length-1)).map fun i=>nth x (i+1)*((i+1:Nat):Int)
def u0:Nat->List Int->List Int
 | _,[]=>[]
 | k,a::l=>a*(k:Int)::u0 (k+1) l
def W(t:Int):List Int->Int
 | []=>0
 | _::l=>V t l+t*W t l
theorem abL:∀(l:List Int) (k:Nat),u0 k l=(List.range l.length).map fun i=>nth l i*((k+i:Nat):Int)
 | [],k=>rfl
 | a::l,k=>by
  rw [u0,abL l (k+1),List.length_cons,List.range_succ_eq_map,List.map_cons,List.map_map]
  congr 1
  refine List.map_congr_left fun i _=>?_
  simp only [Function.comp_apply,mM]
  rw [show k+1+i=k+(i+1)by omega]
theorem MX(a:Int)(l:List Int):DJ (a::l)=u0 1 l:=by
 rw [abL,DJ,List.length_cons,Nat.add_sub_cancel]
 refine List.map_congr_left fun i _=>?_
 rw [mM,show i+1=1+i by omega]
theorem EY(t:Int):∀(l:List Int) (k:Nat),V t (u0 (k+1) l)=V t (u0 k l)+V t l
 | [],k=>by simp [u0,V]
 | a::l,k=>by
  simp only [u0,V]
  rw [EY t l (k+1)]
  have:((k+1:Nat):Int)=(k:Int)+1:=aA
  rw [this];grind
theorem I1(t:Int):∀l:List Int,V t (u0 1 l)=V t l+t*W t l
 | []=>by simp [u0,V,W]
 | b::m=>by
  rw [u0]
  simp only [V,W]
  rw [EY,I1 t m]
  rw [show((1:Nat):Int)=1 from rfl]
  grind
theorem asN(t:Int):∀x:List Int,V t (DJ x)=W t x
 | []=>rfl
 | a::l=>by rw [MX,I1];rfl
def cD(x:ZX):ZX:=of (DJ x.l)
theorem UU(x:ZX):V t (cD x).l=W t x.l:=by rw [cD,ZB,asN]
theorem PZ(t h:Int):∀x:List Int,∃R:Int,V (t+h) x=V t x+h*W t x+h*h*R
 | []=>⟨0,by simp [V,W]⟩
 | a::l=>by
  obtain⟨R,hR⟩:=PZ t h l
  refine⟨W t l+(t+h)*R,?_⟩
  simp only [V,W]
  rw [hR];grind
theorem ZC{t A:Int}{z:List Int}(hA:∀h,∃R:Int,V (t+h) z=V t z+h*A+h*h*R):W t z=A:=by
 have key:∀h:Int,h≠0->h∣W t z-A:=fun h hh=>by
  obtain⟨R,hR⟩:=hA h
  obtain⟨S,hS⟩:=PZ t h z
  refine⟨R-S,Int.eq_of_mul_eq_mul_left hh ?_⟩
  grind
 have h1:=key (((W t z-A).natAbs:Int)+1) aA
 have h2:=Int.natAbs_dvd_natAbs.2 h1
 rcases Nat.eq_zero_or_pos (W t z-A).natAbs with h3 | h3
 ·omega
 ·have:=Nat.le_of_dvd h3 h2
  omega
theorem xJ(x y:ZX):cD (x*y)=cD x*y+x*cD y:=ext fun t=>by
 rw [UU,pG,fC,fC,UU,UU]
 refine ZC fun h=>?_
 obtain⟨R,hR⟩:=PZ t h x.l
 obtain⟨S,hS⟩:=PZ t h y.l
 refine⟨V t x.l*S+R*V t y.l+W t x.l*W t y.l+h*(W t x.l*S+R*W t y.l)+h*h*R*S,?_⟩
 rw [fC,fC,hR,hS];grind
theorem apa(c:Int):cD (K c)=0:=ext fun t=>by
 rw [UU,zM]
 refine ZC fun h=>⟨0,?_⟩
 rw [AH,AH];grind
theorem aic(c:Int)(x:ZX):cD (K c*x)=K c*cD x:=by rw [xJ,apa];grind
theorem abM:cD (1:ZX)=0:=apa 1
theorem abN(p:ZX):∀m:Nat,cD (p^(m+1))=K ((m+1:Nat):Int)*p^m*cD p
 | 0=>by
  rw [pow_succ',xJ,fH,abM]
  show _=(1:ZX)*1*cD p
  grind
 | m+1=>by
  rw [pow_succ',xJ,abN p m]
  have:K ((m+1+1:Nat):Int)=K ((m+1:Nat):Int)+1:=ext fun t=>by rw [pG,AH,AH,MU];omega
  rw [this,pow_succ'];grind
theorem qO(a:ZX):N (cD a)<=N a-1:=Nat.le_trans (cL _) (by simp [DJ,N])
theorem P5(h:2<=N a):cD a≠0:=by
 have h1:a.l.length=N a:=rfl
 have hl:=dO a.c aA
 intro h0
 have h2:nth (cD a).l (N a-2)=nth a.l (N a-1)*((N a-1:Nat):Int):=by
  show nth (aZ (DJ a.l)) _=_
  rw [lL,DJ,bZ (by simp;omega)]
  simp only [List.getElem_map,List.getElem_range]
  rw [show N a-2+1=N a-1 by omega]
 rw [h0]at h2
 have h3:nth (0:ZX).l (N a-2)=0:=kA (by show(0:ZX).l.length<=_;exact Nat.zero_le _)
 rw [h3]at h2
 have h4:nth a.l (N a-1)=lead a.l:=by rw [lead,h1]
 rw [h4]at h2
 exact Int.mul_ne_zero hl aA h2.symm
theorem sF.ZD(hp:sF p):¬dv p (cD p):=fun h=>by
 have h1:=h.nP (P5 hp.deg)
 have h2:=qO p
 have:=hp.deg
 omega
theorem DK(hp:sF p)(ha:a≠0){m:Nat}(h:mu p a=m+1):cD a≠0∧mu p (cD a)=m:=by
 obtain⟨c,hc,b,hb,e,hn⟩:=I0 hp ha
 rw [h]at e
 have e2:K c*cD a=(cD b*p+K ((m+1:Nat):Int)*(b*cD p))*p^m:=by
  rw [<-aic,e,xJ,abN,pow_succ'];grind
 have SK:¬dv p (cD b*p+K ((m+1:Nat):Int)*(b*cD p)):=fun h1=>by
  have h2:dv p (K ((m+1:Nat):Int)*(b*cD p)):=by
   have h3:=h1.add ((dv.refl p).mul_left (-cD b))
   rwa [show cD b*p+K ((m+1:Nat):Int)*(b*cD p) + -cD b*p=K ((m+1:Nat):Int)*(b*cD p)by grind]at h3
  have h4:=dv.K6 aA h2
  rcases hp.ao8 h4 with h5 | h5
  ·exact hn h5
  ·exact hp.ZD h5
 have h6:cD a≠0:=fun h0=>by
  rw [h0]at e2
  have h7:(cD b*p+K ((m+1:Nat):Int)*(b*cD p))*p^m=0:=by rw [<-e2];grind
  rcases wG h7 with h8 | h8
  ·rw [h8]at SK;exact SK (dv.zero p)
  ·exact PY hp.ne m h8
 exact⟨h6,DI hp h6 hc e2 SK⟩
theorem u3.DK{g a p:ZX}(h:u3 g a (cD a))(ha:a≠0)(hp:sF p):ZX.mu p g=ZX.mu p a-1:=by
 rcases Nat.eq_zero_or_pos (ZX.mu p a)with h1 | h1
 ·have:=abK hp ha h.l
  omega
 ·obtain⟨m,hm⟩:∃m,ZX.mu p a=m+1:=⟨ZX.mu p a-1,aA⟩
  obtain⟨h2,h3⟩:=ZX.DK hp ha hm
  rw [h.mu ha h2 hp,h3,hm];omega
theorem P6(hp:sF p):mu p 1=0:=aec hp aF
theorem u3.aza{k:Int}(hc:c≠0)(hk:k≠0)(e:K c*a=q*b+K k*r)(h:u3 g b r):u3 g a b:=by
 obtain⟨d,hd,u,v,e2⟩:=h.uv
 refine⟨dv.K6 hc ?_,h.l,k*d,Int.mul_ne_zero hk hd,v*K c,K k*u-v*q,by rw [<-s9];grind⟩
 rw [e]
 exact(h.l.mul_left q).add (h.r.mul_left _)
theorem u3.assoc{g':ZX}(h:u3 g a b)(h':u3 g' a b):dv g g'∧dv g' g:=⟨h'.least h.l h.r,h.least h'.l h'.r⟩
theorem u3.congr{a' b':ZX}(h:u3 g a b)(h1:dv a a')(h2:dv a' a)(h3:dv b b')(h4:dv b' b):u3 g a' b':=by
 obtain⟨g',hg'⟩:=mD _ a' b' (Nat.le_refl _)
 obtain⟨c,hc,u,v,e⟩:=hg'.uv
 have h5:dv g g':=hg'.least (h.l.trans h1) (h.r.trans h3)
 have h6:dv g' g:=h.least (hg'.l.trans h2) (hg'.r.trans h4)
 obtain⟨d,hd,w,e2⟩:=h6
 refine⟨h.l.trans h1,h.r.trans h3,c*d,Int.mul_ne_zero hc hd,w*u,w*v,by rw [<-s9];grind⟩
end ZX
theorem UW{H t:Nat}:∀ {x:List Int},(∀c∈x,c.natAbs<=H)->(V (t:Int) x).natAbs<=H*(1+t)^x.length
 | [],_=>by simp [V]
 | a::l,h=>by
  have h1:=UW (t:=t) (x:=l) fun c hc=>h c (by simp [hc])
  have h2:=h a aG
  simp only [V]
  have h3:(a+(t:Int)*V t l).natAbs<=a.natAbs+t*(V (t:Int) l).natAbs:=by
   have:=Int.natAbs_add_le a ((t:Int)*V t l)
   rwa [Int.natAbs_mul,Int.natAbs_natCast]at this
  have h4:t*(V (t:Int) l).natAbs<=t*(H*(1+t)^l.length):=Nat.mul_le_mul_left _ h1
  have h5:H*1<=H*(1+t)^l.length:=Nat.mul_le_mul_left _ (Nat.one_le_pow _ _ aA)
  rw [List.length_cons,Nat.pow_succ]
  have h6:H*((1+t)^l.length*(1+t))=H*(1+t)^l.length+t*(H*(1+t)^l.length):=aT
  omega
def sdv(s:Int):List Int->List Int
 | []=>[]
 | _::l=>V s l::sdv s l
theorem apb(s t:Int):∀x:List Int,V t x=V s x+(t-s)*V t (sdv s x)
 | []=>by simp [V,sdv]
 | a::l=>by
  have:=apb s t l
  simp only [V,sdv]
  have h2:t*V t l=t*(V s l+(t-s)*V t (sdv s l)):=by rw [<-this]
  grind
theorem UX(s:Int):∀x:List Int,x ≠ [] -> ∃y,sdv s x=y ++ [0]∧y.length=x.length-1
 | [],h=>absurd rfl h
 | [a],_=>⟨[],by simp [sdv,V],rfl⟩
 | a::b::l,_=>by
  obtain⟨y,h1,h2⟩:=UX s (b::l) aG
  refine⟨V s (b::l)::y,by rw [sdv,h1];rfl,by simp at h2 |-;omega⟩
theorem I2{s:Nat}{M:Nat}:∀ {x:List Int},(V (s:Int) x).natAbs<=M->(∀c∈sdv s x,c.natAbs<=M) -> ∀c∈x,c.natAbs<=M*(1+s)
 | [],_,_,c,hc=>by cases hc
 | a::l,h0,h,c,hc=>by
  have h1:(V (s:Int) l).natAbs<=M:=h _ (by simp [sdv])
  have h2:∀c∈sdv s l,c.natAbs<=M:=fun c hc=>h c (by simp [sdv,hc])
  rcases List.mem_cons.1 hc with rfl | hc
  ·simp only [V]at h0
   have h3:c.natAbs<=(c+(s:Int)*V s l).natAbs+s*(V (s:Int) l).natAbs:=by
    have h4:c=(c+(s:Int)*V s l)+(-((s:Int)*V s l)):=aA
    have h5:=Int.natAbs_add_le (c+(s:Int)*V s l) (-((s:Int)*V s l))
    rw [<-h4,Int.natAbs_neg,Int.natAbs_mul,Int.natAbs_natCast]at h5
    exact h5
   have h4:s*(V (s:Int) l).natAbs<=s*M:=Nat.mul_le_mul_left _ h1
   rw [Nat.mul_add,Nat.mul_one,Nat.mul_comm M s];omega
  ·exact I2 h1 h2 c hc
theorem P7(K:Nat):∀(P:List Nat) (A:Nat) (x:List Int),P.Nodup->(∀p∈P,p<=K)->x.length<=P.length->(∀p∈P,(V (p:Int) x).natAbs<=A) -> ∀c∈x,c.natAbs<=A*(2*(K+1))^P.length
 | [],A,x,_,_,hl,_,c,hc=>by
  have:x = []:=List.eq_nil_of_length_eq_zero (by simpa using hl)
  rw [this]at hc;cases hc
 | s::P,A,x,hd,hK,hl,hv,c,hc=>by
  have hx:x ≠ []:=fun h=>by rw [h]at hc;cases hc
  have h0:=hv s (List.mem_cons_self ..)
  obtain⟨hs,hd⟩:=List.nodup_cons.1 hd
  obtain⟨y,h1,h2⟩:=UX s x hx
  have hy:∀t:Int,V t (sdv s x)=V t y:=fun t=>by rw [h1,eZ];simp [V]
  have h3:∀p∈P,(V (p:Int) y).natAbs<=2*A:=fun p hp=>by
   have h4:=apb s (p:Int) x
   rw [hy]at h4
   have h5:=hv p (List.mem_cons_of_mem _ hp)
   have o7:p≠s:=fun h=>hs (h▸hp)
   have h6:(((p:Int)-s)*V (p:Int) y).natAbs<=2*A:=by
    have:((p:Int)-s)*V (p:Int) y=V (p:Int) x-V (s:Int) x:=aA
    rw [this]
    omega
   rw [Int.natAbs_mul]at h6
   exact Nat.le_trans (Nat.le_mul_of_pos_left _ aA) h6
  rw [List.length_cons]at hl |-
  have h4:=P7 K P (2*A) y hd (fun p hp=>hK p (List.mem_cons_of_mem _ hp)) aA h3
  have hP:1<=(2*(K+1))^P.length:=Nat.one_le_pow _ _ aA
  have h5:=I2 (s:=s) (M:=2*A*(2*(K+1))^P.length) (x:=x) (by
   have:A*1<=2*A*(2*(K+1))^P.length:=Nat.mul_le_mul aA hP
   omega) (fun d hd=>by
   rw [h1]at hd
   rcases List.mem_append.1 hd with hd | hd
   ·exact h4 d hd
   ·simp at hd;subst hd;simp) c hc
  refine Nat.le_trans h5 ?_
  rw [Nat.pow_succ]
  have h6:A*((2*(K+1))^P.length*(2*(K+1)))=(2*A*(2*(K+1))^P.length)*(K+1):=aT
  rw [h6]
  exact Nat.mul_le_mul_left _ (by have:=hK s (List.mem_cons_self ..);omega)
theorem I3{α:Type}(p:α->Bool):∀l:List α,(l.filter p).length+(l.filter fun x => !p x).length=l.length
 | []=>rfl
 | a::l=>by
  have:=I3 p l
  cases h:p a<;>simp [h]<;>omega
theorem amq{x:List Int}(hx:aZ x ≠ [])(hl:x.length<=n):∃P:List Nat,P.Nodup∧(∀p∈P,p<=2*n-1)∧P.length=n ∧ ∀p∈P,V (p:Int) x≠0:=by
 have h1:=I3 (fun p:Nat=>decide (V (p:Int) x=0)) (List.range (2*n))
 have h2:((List.range (2*n)).filter fun p:Nat=>decide (V (p:Int) x=0)).length<n:=Nat.not_le.1 fun h=>hx (by
  have h3:=P7 (2*n) ((List.range (2*n)).filter fun p:Nat=>decide (V (p:Int) x=0)) 0 x (List.nodup_range.filter _) (fun p hp=>by have:=List.mem_range.1 (List.mem_filter.1 hp).1;omega) aA (fun p hp=>by have:=of_decide_eq_true (List.mem_filter.1 hp).2;rw [this];decide)
  have h4:∀l:List Int,(∀c∈l,c.natAbs<=0*(2*(2*n+1))^((List.range (2*n)).filter fun p:Nat=>decide (V (p:Int) x=0)).length)->aZ l = []:=fun l=>by
   induction l with
   | nil=>intro _;rfl
   | cons a l ih =>
    intro h
    have h5:=h a (List.mem_cons_self ..)
    rw [Nat.zero_mul]at h5
    rw [aZ,ih fun c hc=>h c (List.mem_cons_of_mem _ hc),if_pos ⟨rfl,aA⟩]
  exact h4 x h3)
 rw [List.length_range]at h1
 have h3:n<=((List.range (2*n)).filter fun p:Nat => !decide (V (p:Int) x=0)).length:=aA
 refine⟨((List.range (2*n)).filter fun p:Nat => !decide (V (p:Int) x=0)).take n,(List.take_sublist _ _).nodup (List.nodup_range.filter _),fun p hp=>?_,by rw [List.length_take];omega,fun p hp=>?_⟩
 ·have:=List.mem_range.1 (List.mem_filter.1 (List.mem_of_mem_take hp)).1;omega
 ·have:=(List.mem_filter.1 (List.mem_of_mem_take hp)).2
  simpa using this
namespace ZX
theorem aid{l:Nat}(ha:a≠0)(e:a=w*g)(hH:∀d∈a.l,d.natAbs<=2^h)(hN:N a<=n)(hn:n<=2^l):∀c∈g.l,c.natAbs<=2^(h+n*(2*l+3)):=by
 intro c hc
 have hw:w≠0∧g≠0:=⟨fun h0=>ha (by rw [e,h0];grind),fun h0=>ha (by rw [e,h0];grind)⟩
 have hlen:g.l.length<=n:=by
  have h1:N a=N w+N g-1:=by rw [e,lN hw.1 hw.2]
  have h2:=aH.1 hw.1
  show N g<=n
  omega
 have hn0:1<=n:=by have:=aH.1 ha;omega
 obtain⟨P,p1,p2,p3,p4⟩:=amq (x:=a.l) (n:=n) (by
  rw [show aZ a.l=a.l from a.c]
  have:=aH.1 ha
  intro h0
  have h3:N a=a.l.length:=rfl
  rw [h3,h0]at this;simp at this) hN
 have hv:∀p∈P,(V (p:Int) g.l).natAbs<=2^h*(2^(l+1))^n:=fun p hp=>by
  have h1:V (p:Int) a.l=V (p:Int) w.l*V (p:Int) g.l:=by
   conv=>lhs;rw [e]
   rw [fC]
  have h2:=p4 p hp
  have h3:(V (p:Int) g.l).natAbs<=(V (p:Int) a.l).natAbs:=by
   rw [h1,Int.natAbs_mul]
   have:V (p:Int) w.l≠0:=fun h0=>h2 (by rw [h1,h0,Int.zero_mul])
   exact Nat.le_mul_of_pos_left _ aA
  refine Nat.le_trans h3 (Nat.le_trans (UW hH) (Nat.mul_le_mul_left _ ?_))
  have h4:1+p<=2^(l+1):=by have:=p2 p hp;rw [Nat.pow_succ];omega
  exact Nat.le_trans (Nat.pow_le_pow_left h4 _) (Nat.pow_le_pow_right (Nat.two_pow_pos _) hN)
 have h5:=P7 (2*n-1) P _ g.l p1 p2 aA hv c hc
 refine Nat.le_trans h5 ?_
 rw [p3]
 have h7:2*(2*n-1+1)<=2^(l+2):=by rw [Nat.pow_add];omega
 have h8:(2*(2*n-1+1))^n<=(2^(l+2))^n:=Nat.pow_le_pow_left h7 _
 refine Nat.le_trans (Nat.mul_le_mul_left _ h8) (Nat.le_of_eq ?_)
 rw [<-Nat.pow_mul,<-Nat.pow_mul,<-Nat.pow_add,<-Nat.pow_add]
 congr 1
 grind
theorem aie(ha:a≠0)(e:a=w*g)(hb:Bd 2 h n a.l)(hn:n+1<=2^h):Bd 2 (h+n*(2*h+5)+1) n g.l:=by
 have hw:w≠0∧g≠0:=⟨fun h0=>ha (by rw [e,h0];grind),fun h0=>ha (by rw [e,h0];grind)⟩
 refine⟨?_,fun c hc=>?_⟩
 ·have h1:N a=N w+N g-1:=by rw [e,lN hw.1 hw.2]
  have h2:=aH.1 hw.1
  have h3:N a<=n:=hb.len
  show N g<=n
  omega
 ·have h1:=aid (h:=h) (n:=n) (l:=h) ha e (fun d hd=>by
   have h1:=kB (b:=2) aF d
   have h2:=A8 (b:=2) aF (hb.sz d hd)
   omega) hb.len aA c hc
  refine dZ aF (Nat.lt_of_le_of_lt h1 (Nat.pow_lt_pow_right aF ?_))
  have:n*(2*h+3)<=n*(2*h+5):=Nat.mul_le_mul_left _ aA
  omega
end ZX
end Pm
namespace Go.Proofs.YtiobceocpabjdaaGreat
open Go Pm
open ZX hiding N W
variable {a b g:ZX}{c d:Int}
structure Nf(a:ZX):Prop where
 ne:a≠0
 g:bX a.l=1
 l:0<lead a.l
theorem x7(h:a≠0):a.l ≠ []:=fun e=>by
 have:=aH.1 h
 have h2:ZX.N a=a.l.length:=rfl
 rw [h2,e]at this;simp at this
theorem asO(x:List Int):Cn (wE x):=Cn.cut _
def nf(a:ZX):ZX:=⟨wE a.l,asO _⟩
theorem nQ:nf 0=0:=ZX.ext fun t=>rfl
theorem UY(ha:a≠0):K (oE a.l)*nf a=a:=ZX.ext fun t=>by
 rw [fC,AH]
 conv=>rhs;rw [<-ad4 a.c (x7 ha)]
 rw [dA,Int.mul_comm];rfl
theorem tV(ha:a≠0):oE a.l≠0:=Y7 a.c (x7 ha)
theorem apc(ha:a≠0):nf a≠0:=fun h=>ha (by rw [<-UY ha,h];grind)
theorem kG(ha:a≠0):Nf (nf a):=⟨apc ha,amh a.c (x7 ha),ahW a.c (x7 ha)⟩
theorem Nf.nfe(h:Nf a):nf a=a:=by
 have h1:oE a.l=1:=by
  unfold oE
  rw [if_neg (by have:=h.l;omega),h.g];rfl
 have:=UY h.ne
 rw [h1]at this
 rw [<-this]
 conv=>lhs;rw [this]
 show _=(1:ZX)*_
 grind
theorem aih(hc:c≠0)(a:ZX):ZX.N (K c*a)=ZX.N a:=by
 by_cases ha:a=0
 ·rw [ha,show K c*(0:ZX)=0 by grind]
 ·rw [lN (sE hc) ha,N_K hc];have:=aH.1 ha;omega
theorem BU(a:ZX):ZX.N (nf a)=ZX.N a:=by
 by_cases ha:a=0
 ·rw [ha,nQ]
 ·have:=aih (tV ha) (nf a)
  rw [UY ha]at this
  exact this.symm
theorem K_l(hc:c≠0)(a:ZX):(K c*a).l=a.l.map (· * c):=by
 refine Cn.ext (K c*a).c (oC a.c hc) fun t=>?_
 rw [fC,AH,fB,Int.mul_comm]
theorem aii(hc:c≠0)(ha:a≠0):lead (K c*a).l=c*lead a.l:=by
 have h:(K c*a).l=cB (K c).l a.l:=rfl
 have hK:(K c).l = [c]:=by show aZ [c] = [c];exact kS hc []
 rw [h,DA (K c).c a.c (by rw [hK];simp) (aH.1 ha),hK]
 rfl
theorem Nf.P8(ha:Nf a)(hb:Nf b)(hc:c≠0)(hd:d≠0)(e:K c*a=K d*b):a=b:=by
 have h1:c.natAbs=d.natAbs:=by
  have h2:bX (K c*a).l=bX (K d*b).l:=by rw [e]
  rw [K_l hc,K_l hd,oD,oD,ha.g,hb.g]at h2
  omega
 have h3:c*lead a.l=d*lead b.l:=by rw [<-aii hc ha.ne,<-aii hd hb.ne,e]
 have h4:c=d:=by
  rcases Int.natAbs_eq_natAbs_iff.1 h1 with h5 | h5
  ·exact h5
  ·exfalso
   subst h5
   have hl:=ha.l
   have J9:=hb.l
   rcases Int.lt_or_gt_of_ne hd with h6 | h6
   ·have:=Int.mul_pos (show 0 < -d by omega) hl
    have:=Int.mul_neg_of_neg_of_pos h6 J9
    omega
   ·have:=Int.mul_neg_of_neg_of_pos (show -d<0 by omega) hl
    have:=Int.mul_pos h6 J9
    omega
 subst h4
 exact ZX.cancel (sE hc) e
theorem amr(ha:a≠0)(hc:c≠0)(hd:d≠0)(e:K c*a=K d*b):nf a=nf b:=by
 have hb:b≠0:=fun h=>by
  rw [h,show K d*(0:ZX)=0 by grind]at e
  exact oF (sE hc) ha e
 refine Nf.P8 (kG ha) (kG hb) (c:=c*oE a.l) (d:=d*oE b.l) (Int.mul_ne_zero hc (tV ha)) (Int.mul_ne_zero hd (tV hb)) ?_
 rw [<-s9,<-s9]
 have h1:=UY ha
 have h2:=UY hb
 grind
theorem UZ(a:ZX):nf (nf a)=nf a:=by
 by_cases ha:a=0
 ·rw [ha,nQ,nQ]
 ·exact(kG ha).nfe
theorem MY(a:ZX):dv a (nf a)∧dv (nf a) a:=by
 by_cases ha:a=0
 ·rw [ha,nQ];exact⟨dv.refl 0,dv.refl 0⟩
 ·have h:=UY ha
  exact⟨⟨oE a.l,tV ha,1,by rw [h];grind⟩,⟨1,aF,K (oE a.l),by rw [h];show(1:ZX)*a=a;grind⟩⟩
theorem wJ(h1:dv a b)(h2:dv b a):nf a=nf b:=by
 by_cases ha:a=0
 ·subst ha;rw [F4 h1]
 ·obtain⟨c,hc,q,e⟩:=h2
  have h3:=h1.nP (fun hb=>ha (by subst hb;exact F4 ⟨c,hc,q,e⟩))
  have h4:=dv.nP ⟨c,hc,q,e⟩ ha
  obtain⟨hq,hb⟩:=pP hc ha e
  have h5:=aih hc a
  rw [e,lN hq hb]at h5
  have:=aH.1 hq
  have:=aH.1 hb
  obtain⟨d,hd,rfl⟩:=nO (x:=q) aA
  exact amr ha hc hd e
theorem Nf.one:Nf 1:=⟨qM,aF,aF⟩
theorem Nf.mul(ha:Nf a)(hb:Nf b):Nf (a*b):=by
 refine⟨oF ha.ne hb.ne,?_,?_⟩
 ·show bX (cB a.l b.l)=1
  rw [ahV a.c b.c (x7 ha.ne) (x7 hb.ne),ha.g,hb.g]
 ·show 0<lead (cB a.l b.l)
  rw [DA a.c b.c (aH.1 ha.ne) (aH.1 hb.ne)]
  exact Int.mul_pos ha.l hb.l
theorem abO{p:ZX}(hp:sF p)(ha:a≠0):mu p (nf a)=mu p a:=by
 conv=>rhs;rw [<-UY ha]
 rw [wI hp (sE (tV ha)) (apc ha),aec hp (tV ha)];omega
theorem Nf.wK(ha:Nf a)(hb:Nf b)(h:∀p,sF p->mu p a=mu p b):a=b:=by
 rw [<-ha.nfe,<-hb.nfe]
 exact wJ ((mN ha.ne hb.ne).2 fun p hp=>by have:=h p hp;omega) ((mN hb.ne ha.ne).2 fun p hp=>by have:=h p hp;omega)
theorem Nf.quo(ha:Nf a)(hb:Nf b)(h:dv b a):∃w,Nf w∧a=w*b:=by
 obtain⟨c,hc,q,e⟩:=h
 obtain⟨hq,_⟩:=pP hc ha.ne e
 refine⟨nf q,kG hq,Nf.P8 ha ((kG hq).mul hb) hc (tV hq) ?_⟩
 have:=UY hq
 grind
theorem Nf.exact{a b w:ZX}(hb:Nf b)(e:a=w*b):exact a.l b.l=some w.l:=by
 subst e
 exact ZA w.c b.c (aH.1 hb.ne)
theorem Nf.N1(ha:Nf a)(h:ZX.N a<=1):a=1:=by
 obtain⟨c,hc,rfl⟩:=nO (x:=a) (by have:=aH.1 ha.ne;omega)
 exact Nf.P8 ha Nf.one (show (1:Int)≠0 by decide) hc (by show(1:ZX)*_=K c*1;grind)
noncomputable def gz(a b:ZX):ZX:=nf (Classical.choose (mD _ a b (Nat.le_refl _)))
theorem xK(a b:ZX):∃g,u3 g a b∧gz a b=nf g:=⟨_,Classical.choose_spec (mD _ a b (Nat.le_refl _)),rfl⟩
theorem abP(h:u3 g a b):gz a b=nf g:=by
 obtain⟨g',h',e⟩:=xK a b
 rw [e]
 obtain⟨h1,h2⟩:=h'.assoc h
 exact wJ h1 h2
theorem u3.azb{g':ZX}(h:u3 g a b)(h1:dv g g')(h2:dv g' g):u3 g' a b:=by
 obtain⟨c,hc,u,v,e⟩:=h.uv
 obtain⟨d,hd,w,e2⟩:=h1
 exact⟨h2.trans h.l,h2.trans h.r,c*d,Int.mul_ne_zero hc hd,w*u,w*v,by rw [<-s9];grind⟩
theorem fS(a b:ZX):u3 (gz a b) a b:=by
 obtain⟨g,h,e⟩:=xK a b
 rw [e]
 obtain⟨h1,h2⟩:=MY g
 exact u3.azb h h1 h2
theorem apd(h:a≠0∨b≠0):gz a b≠0:=(fS a b).ne h
theorem EZ(h:a≠0∨b≠0):Nf (gz a b):=by
 have h0:=apd h
 obtain⟨g,h,e⟩:=xK a b
 rw [e]at h0 |-
 exact kG (fun hg=>h0 (by rw [hg,nQ]))
theorem tW(a b:ZX):gz a b=gz b a:=by
 have h:=fS a b
 rw [abP h.symm]
 obtain⟨g,_,e⟩:=xK a b
 rw [e,UZ]
theorem xL(a:ZX):gz a 0=nf a:=abP (u3.zero a)
theorem U0(a:ZX):gz 0 a=nf a:=by rw [tW,xL]
theorem I4{a' b':ZX}(h1:dv a a')(h2:dv a' a)(h3:dv b b')(h4:dv b' b):gz a b=gz a' b':=by
 obtain⟨g,hg,e⟩:=xK a b
 rw [e,abP (hg.congr h1 h2 h3 h4)]
theorem abQ(a b:ZX):gz (nf a) b=gz a b:=I4 (MY a).2 (MY a).1 (dv.refl b) (dv.refl b)
theorem ZE(a b:ZX):gz a (nf b)=gz a b:=I4 (dv.refl a) (dv.refl a) (MY b).2 (MY b).1
theorem P9{q r:ZX}{k:Int}(hc:c≠0)(hk:k≠0)(e:K c*a=q*b+K k*r):gz a b=gz b r:=by
 obtain⟨g,hg,e2⟩:=xK b r
 rw [e2,abP (hg.aza hc hk e)]
end Go.Proofs.YtiobceocpabjdaaGreat
namespace Go.Proofs.YtiobceocpabjdaaGreat
open Go Pm
open ZX hiding N W
variable {a b p:ZX}{k:Nat}
open Classical in
noncomputable def qz(a b:ZX):ZX:=if h:∃w,Nf w∧a=w*b then h.choose else 0
theorem rP(ha:Nf a)(hb:Nf b)(h:dv b a):Nf (qz a b)∧a=qz a b*b:=by
 have h:=ha.quo hb h
 unfold qz
 rw [dif_pos h]
 exact h.choose_spec
theorem ape{w:ZX}(hb:Nf b)(hw:Nf w)(e:a=w*b):qz a b=w:=by
 have ha:Nf a:=by rw [e];exact hw.mul hb
 obtain⟨h1,h2⟩:=rP ha hb ⟨1,aF,w,by rw [e];show(1:ZX)*_=_;grind⟩
 refine ZX.cancel hb.ne ?_
 have:qz a b*b=w*b:=by rw [<-h2,e]
 grind
theorem aij(ha:Nf a)(hb:Nf b)(h:dv b a):exact a.l b.l=some (qz a b).l:=Nf.exact hb (rP ha hb h).2
theorem apf(ha:Nf a)(hb:Nf b)(h:dv b a)(hp:sF p):mu p (qz a b)=mu p a-mu p b:=by
 obtain⟨h1,h2⟩:=rP ha hb h
 have h3:mu p a=mu p (qz a b)+mu p b:=by
  conv=>lhs;rw [h2]
  exact wI hp h1.ne hb.ne
 omega
theorem Nf.self(ha:Nf a):qz a a=1:=ape ha Nf.one aT
theorem Nf.aEC(ha:Nf a):qz a 1=a:=ape Nf.one ha aT
noncomputable def gd(a:ZX):ZX:=gz a (cD a)
theorem abR(ha:a≠0):Nf (gd a):=EZ (.inl ha)
theorem E0(a:ZX):dv (gd a) a:=(fS a (cD a)).l
theorem apg(ha:a≠0)(hp:sF p):mu p (gd a)=mu p a-1:=(fS a (cD a)).DK ha hp
theorem aED(h:2<=ZX.N a):ZX.N (gd a)<ZX.N a:=by
 have h1:=(fS a (cD a)).r.nP (P5 h)
 have h2:=qO a
 have:ZX.N (gd a)=ZX.N (gz a (cD a)):=rfl
 omega
theorem aik:gd 1=1:=by
 unfold gd
 rw [abM,xL,Nf.one.nfe]
noncomputable def gs(a:ZX):Nat->ZX
 | 0=>a
 | k+1=>gd (gs a k)
theorem qP{a:ZX}(ha:Nf a):∀k,Nf (gs a k)
 | 0=>ha
 | k+1=>abR (qP ha k).ne
theorem MZ(a:ZX):∀k,dv (gs a k) a
 | 0=>dv.refl a
 | k+1=>(E0 _).trans (MZ a k)
theorem abS{a p:ZX}(ha:Nf a)(hp:sF p):∀k,mu p (gs a k)=mu p a-k
 | 0=>rfl
 | k+1=>by
  show mu p (gd (gs a k))=_
  rw [apg (qP ha k).ne hp,abS ha hp k];omega
theorem ams{a:ZX}:∀k,ZX.N (gs a k)<=1∨ZX.N (gs a k)+k<=ZX.N a
 | 0 => .inr (Nat.le_refl _)
 | k+1=>by
  rcases ams (a:=a) k with h | h
  ·left
   show ZX.N (gz (gs a k) (cD (gs a k)))<=1
   by_cases h0:gs a k=0
   ·rw [h0,show cD (0:ZX)=0 from ZX.ext fun t=>rfl,xL,nQ];decide
   ·exact Nat.le_trans ((fS _ _).l.nP h0) h
  ·rcases Nat.lt_or_ge (ZX.N (gs a k)) 2 with h2 | h2
   ·left
    show ZX.N (gz (gs a k) (cD (gs a k)))<=1
    by_cases h0:gs a k=0
    ·rw [h0,show cD (0:ZX)=0 from ZX.ext fun t=>rfl,xL,nQ];decide
    ·exact Nat.le_trans ((fS _ _).l.nP h0) aA
   ·right
    have:=aED h2
    show ZX.N (gd (gs a k))+(k+1)<=_
    omega
open Classical in
noncomputable def nl(a:ZX):Nat:=if h:∃m,ZX.N (gs a m)<=1 ∧ ∀k,k<m->2<=ZX.N (gs a k)then h.choose else 0
theorem nR(a:ZX):ZX.N (gs a (nl a))<=1 ∧ ∀k,k<nl a->2<=ZX.N (gs a k):=by
 have h:∃m,ZX.N (gs a m)<=1 ∧ ∀k,k<m->2<=ZX.N (gs a k):=by
  have key:∀n,(∃m,m<=n∧ZX.N (gs a m)<=1 ∧ ∀k,k<m->2<=ZX.N (gs a k)) ∨ ∀k,k<=n->2<=ZX.N (gs a k):=by
   intro n
   induction n with
   | zero =>
    rcases Nat.lt_or_ge (ZX.N (gs a 0)) 2 with h | h
    ·exact .inl ⟨0,Nat.le_refl _,aA,fun k hk=>by omega⟩
    ·exact .inr fun k hk=>by rw [show k=0 by omega];exact h
   | succ n ih =>
    rcases ih with ⟨m,h1,h2⟩ | ih
    ·exact .inl ⟨m,aA,h2⟩
    ·rcases Nat.lt_or_ge (ZX.N (gs a (n+1))) 2 with h | h
     ·exact .inl ⟨n+1,Nat.le_refl _,aA,fun k hk=>ih k aA⟩
     ·refine .inr fun k hk=>?_
      rcases Nat.lt_or_ge k (n+1)with h3 | h3
      ·exact ih k aA
      ·rw [show k=n+1 by omega];exact h
  rcases key (ZX.N a)with ⟨m,_,h⟩ | h
  ·exact⟨m,h⟩
  ·have h1:=h (ZX.N a) (Nat.le_refl _)
   rcases ams (a:=a) (ZX.N a)with h2 | h2<;>omega
 unfold nl
 rw [dif_pos h]
 exact h.choose_spec
theorem M0(a:ZX):nl a<=ZX.N a:=by
 rcases Nat.eq_zero_or_pos (nl a)with h | h
 ·omega
 ·have h1:=(nR a).2 (nl a-1) aA
  rcases ams (a:=a) (nl a-1)with h2 | h2<;>omega
theorem azc(h:∀j,j<=k->2<=ZX.N (gs a j)):k<nl a:=by
 rcases Nat.lt_or_ge k (nl a)with h1 | h1
 ·exact h1
 ·have:=h _ h1
  have:=(nR a).1
  omega
theorem U1{a:ZX}(ha:Nf a):∀j,gs a (nl a+j)=1
 | 0=>(qP ha _).N1 (nR a).1
 | j+1=>by
  show gd (gs a (nl a+j))=1
  rw [U1 ha j,aik]
noncomputable def wz(a:ZX)(k:Nat):ZX:=qz (gs a k) (gs a (k+1))
theorem iZ(ha:Nf a)(k:Nat):Nf (wz a k)∧gs a k=wz a k*gs a (k+1):=rP (qP ha k) (qP ha (k+1)) (E0 _)
theorem U2(ha:Nf a)(hp:sF p)(k:Nat):mu p (wz a k)=if k<mu p a then 1 else 0:=by
 rw [wz,apf (qP ha k) (qP ha (k+1)) (E0 _) hp,abS ha hp,abS ha hp]
 split<;>omega
theorem azd(ha:Nf a)(j:Nat):wz a (nl a+j)=1:=by
 rw [wz,U1 ha j,Nat.add_assoc,U1 ha (j+1),Nf.one.self]
theorem U3(ha:Nf a)(k:Nat):dv (wz a (k+1)) (wz a k):=(mN (iZ ha _).1.ne (iZ ha _).1.ne).2 fun p hp=>by
 rw [U2 ha hp,U2 ha hp]
 split<;>split<;>omega
noncomputable def oZ(a:ZX)(k:Nat):ZX:=qz (wz a k) (wz a (k+1))
theorem BV(ha:Nf a)(k:Nat):Nf (oZ a k)∧wz a k=oZ a k*wz a (k+1):=rP (iZ ha k).1 (iZ ha (k+1)).1 (U3 ha k)
theorem aze(ha:Nf a)(hp:sF p)(k:Nat):mu p (oZ a k)=if mu p a=k+1 then 1 else 0:=by
 rw [oZ,apf (iZ ha k).1 (iZ ha (k+1)).1 (U3 ha k) hp,U2 ha hp,U2 ha hp]
 split<;>split<;>split<;>omega
theorem amt(ha:Nf a)(h:k+1=nl a):oZ a k=wz a k:=by
 rw [oZ,h,show nl a=nl a+0 from rfl,azd ha 0,(iZ ha k).1.aEC]
noncomputable def fl(a:ZX):List ZX:=(List.range (nl a)).map (oZ a)
theorem asP(a:ZX):(fl a).length=nl a:=by simp [fl]
theorem U4(ha:Nf a)(hp:sF p):mu p a<=nl a:=by
 have h:=abS ha hp (nl a)
 have h1:=U1 ha 0
 rw [Nat.add_zero]at h1
 rw [h1,P6 hp]at h
 omega
noncomputable def pf(a:ZX)(c:Nat->Bool):Nat->ZX
 | 0=>1
 | k+1=>if c k then pf a c k*oZ a k else pf a c k
theorem BW{a:ZX}(ha:Nf a)(c:Nat->Bool):∀k,Nf (pf a c k)
 | 0=>Nf.one
 | k+1=>by
  rw [pf]
  split
  ·exact(BW ha c k).mul (BV ha k).1
  ·exact BW ha c k
theorem abT{a p:ZX}(ha:Nf a)(hp:sF p)(c:Nat->Bool):∀k,mu p (pf a c k)=if 1<=mu p a∧mu p a<=k∧c (mu p a-1)=true then 1 else 0
 | 0=>by
  rw [pf,P6 hp,if_neg aA]
 | k+1=>by
  have ih:=abT ha hp c k
  have hf:=aze ha hp k
  rw [pf]
  by_cases hc:c k=true
  ·rw [if_pos hc,wI hp (BW ha c k).ne (BV ha k).1.ne,ih,hf]
   by_cases h1:mu p a=k+1
   ·rw [if_pos h1,h1,Nat.add_sub_cancel,if_neg aA,if_pos ⟨aA,Nat.le_refl _,hc⟩]
   ·rw [if_neg h1]
    by_cases h2:1<=mu p a∧mu p a<=k∧c (mu p a-1)=true
    ·rw [if_pos h2,if_pos ⟨h2.1,aA,h2.2.2⟩]
    ·rw [if_neg h2,if_neg (fun h3=>h2 ⟨h3.1,aA,h3.2.2⟩)]
  ·rw [if_neg hc,ih]
   by_cases h1:mu p a=k+1
   ·rw [h1,Nat.add_sub_cancel,if_neg aA,if_neg (fun h3=>hc h3.2.2)]
   ·by_cases h2:1<=mu p a∧mu p a<=k∧c (mu p a-1)=true
    ·rw [if_pos h2,if_pos ⟨h2.1,aA,h2.2.2⟩]
    ·rw [if_neg h2,if_neg (fun h3=>h2 ⟨h3.1,aA,h3.2.2⟩)]
noncomputable def oz(a:ZX):ZX:=pf a (fun k=>k%2==0) (nl a)
noncomputable def sz'(a:ZX):ZX:=wz a 0
theorem ail(ha:Nf a):Nf (oz a):=BW ha _ _
theorem aim(ha:Nf a):Nf (sz' a):=(iZ ha 0).1
theorem api(ha:Nf a)(hp:sF p):mu p (oz a)=mu p a%2:=by
 have h:=U4 ha hp
 rw [oz,abT ha hp]
 by_cases h1:1<=mu p a∧mu p a<=nl a∧((mu p a-1)%2==0)=true
 ·rw [if_pos h1]
  have:=h1.2.2
  simp only [beq_iff_eq]at this
  omega
 ·rw [if_neg h1]
  simp only [beq_iff_eq]at h1
  omega
theorem ain(ha:Nf a)(hp:sF p):mu p (sz' a)=min (mu p a) 1:=by
 rw [sz',U2 ha hp]
 split<;>omega
theorem asQ(ha:Nf a):pf a (fun _=>true) (nl a)=sz' a:=Nf.wK (BW ha _ _) (aim ha) fun p hp=>by
 have h:=U4 ha hp
 rw [abT ha hp,ain ha hp]
 by_cases h1:1<=mu p a
 ·rw [if_pos ⟨h1,h,rfl⟩];omega
 ·rw [if_neg (fun h2=>h1 h2.1)];omega
theorem U5(h:ZX.N a<=1):nl a=0:=by
 rcases Nat.eq_zero_or_pos (nl a)with h1 | h1
 ·exact h1
 ·have:=(nR a).2 0 h1
  have:ZX.N (gs a 0)=ZX.N a:=rfl
  omega
def qb(h n:Nat):Nat:=h+n*(2*h+5)+1
theorem azf(ha:Nf a)(hb:Nf b)(hd:dv b a){h n:Nat}(hx:Bd 2 h n a.l)(hn:n+1<=2^h):Bd 2 (qb h n) n b.l:=by
 obtain⟨w,_,e⟩:=ha.quo hb hd
 exact aie ha.ne e hx hn
theorem aio(ha:Nf a)(hb:Nf b)(h:dv b a):dv (qz a b) a:=by
 obtain⟨_,h2⟩:=rP ha hb h
 exact⟨1,aF,b,by rw [ZX.MW b,<-h2];show(1:ZX)*_=_;grind⟩
theorem F5(ha:Nf a)(k:Nat):dv (wz a k) a:=(aio (qP ha k) (qP ha (k+1)) (E0 _)).trans (MZ a k)
theorem QB(ha:Nf a)(k:Nat):dv (oZ a k) a:=(aio (iZ ha k).1 (iZ ha (k+1)).1 (U3 ha k)).trans (F5 ha k)
theorem F6(ha:Nf a)(c:Nat->Bool)(k:Nat):dv (pf a c k) a:=(mN (BW ha c k).ne ha.ne).2 fun p hp=>by
 rw [abT ha hp]
 split<;>omega
end Go.Proofs.YtiobceocpabjdaaGreat
