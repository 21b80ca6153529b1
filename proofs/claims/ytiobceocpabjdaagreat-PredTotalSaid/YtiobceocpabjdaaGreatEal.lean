import Derived.Test.YtiobceocpabjdaaGreatEaf
import Derived.Test.YtiobceocpabjdaaGreatEah
import Derived.Test.YtiobceocpabjdaaGreatEak
set_option linter.unusedSimpArgs false
set_option linter.unusedVariables false
namespace Go.Proofs.YtiobceocpabjdaaGreat
open Go Pm
theorem afT(x:List Int):eF (x.map iM)=aI x:=by simp only [eF,bK]
theorem i6{x:List Int}(hx:Cn x){m:Int}(hm:m≠0):Cn (x.map (· * m)):=by
 rcases Nat.eq_zero_or_pos x.length with h | h
 ·have:x = []:=List.eq_nil_of_length_eq_zero h
  subst this;rfl
 ·have e:=tL h
  have:x.map (· * m)=(x.take (x.length-1)).map (· * m) ++ [lead x*m]:=by
   conv=>lhs;rw [e]
   simp
  rw [this]
  exact iE (Int.mul_ne_zero (dB hx h) hm) _
theorem sB{x:List Int}(hx:Cn x){m:Int}(hm:m≠0):aL x m=x.map (· * m):=i6 hx hm
theorem tR{x:List Int}(hx:Cn x):aL x 1=x:=Cn.ext (Cn.aL _ _) hx fun t=>by rw [cG];omega
theorem P4(x:List Int):fW x=aL x (-1):=Cn.ext (Cn.fW _) (Cn.aL _ _) fun t=>by rw [w8,cG];omega
theorem i7(m:Int)(x:List Int):bL (x.map (· * m))=bL x*m.natAbs:=by
 have key:∀(l:List Int) (g:Nat),(l.map (· * m)).foldl (fun g c=>Nat.gcd g c.natAbs) (g*m.natAbs)=l.foldl (fun g c=>Nat.gcd g c.natAbs) g*m.natAbs:=by
  intro l
  induction l with
  | nil=>intro g;rfl
  | cons c l ih =>
   intro g
   simp only [List.map_cons,List.foldl_cons]
   rw [Int.natAbs_mul,Nat.gcd_mul_right,ih]
 have:=key x 0
 rw [Nat.zero_mul]at this
 exact this
theorem XA{m:Int}(hm:0<m)(g v:Int):j1 (g*m) (v*m)=j1 g v:=by
 unfold j1
 rw [Int.mul_comm v,Int.mul_comm g,Int.mul_emod_mul_of_pos _ _ hm,Int.mul_ediv_mul_of_pos _ _ hm]
 have:m*(v%g)=0↔v%g=0:=by
  constructor
  ·intro h
   rcases Int.mul_eq_zero.1 h with h | h
   ·omega
   ·exact h
  ·intro h;rw [h];simp
 simp only [this]
theorem P5{m:Int}(hm:0<m)(x:List Int):jQ (x.map (· * m))=jQ x:=by
 unfold jQ
 rw [i7,List.map_map]
 congr 1
 refine List.map_congr_left fun v _=>?_
 simp only [Function.comp_apply]
 have:((bL x*m.natAbs:Nat):Int)=(bL x:Int)*m:=by rw [Int.natCast_mul];congr 1;omega
 rw [this,XA hm]
theorem yS{x:List Int}(hx:Cn x){m:Int}(hm:0<m):jQ (aL x m)=jQ x:=by rw [sB hx (by omega),P5 hm]
def sg(c:Int)(k:Nat):Int:=if k%2=1∧c<0 then -1 else 1
theorem abP(c:Int):∀k:Nat,c^k=sg c k*(c.natAbs:Int)^k
 | 0=>by simp [sg]
 | k+1=>by
  have ih:=abP c k
  have hc:c=(if c<0 then -1 else 1)*(c.natAbs:Int):=by split<;>omega
  have hs:sg c (k+1)=sg c k*(if c<0 then -1 else 1):=by
   unfold sg
   by_cases h:c<0
   ·rcases Nat.mod_two_eq_zero_or_one k with h2 | h2
    ·rw [if_pos ⟨by omega,h⟩,if_neg (by omega),if_pos h];rfl
    ·rw [if_neg (by omega),if_pos ⟨h2,h⟩,if_pos h];rfl
   ·rw [if_neg (fun h2=>h h2.2),if_neg (fun h2=>h h2.2),if_neg h];rfl
  rw [Int.pow_succ,Int.pow_succ,ih,hs]
  conv=>lhs;rw [hc]
  generalize (if c<0 then(-1:Int)else 1)=e at *
  have e3:((e*(c.natAbs:Int)).natAbs:Int)=(c.natAbs:Int):=by rw [←hc]
  rw [e3]
  grind
theorem abQ(c:Int)(k:Nat):sg c k*sg c k=1:=by unfold sg;split<;>rfl
theorem abR{a b:List Int}(ca:Cn a):LI a b=jQ (aL (yO a b).2 (sg (lead b) (i4 a b))):=by
 have cr:=(BO (b:=b) ca).2
 unfold LI sg
 split
 ·rw [P4]
 ·rw [tR cr]
theorem kZ(x:List Int):(jQ x).length≤x.length:=Nat.le_trans (bU _) (by simp)
theorem LM(x:List Int):(fW x).length≤x.length:=Nat.le_trans (bU _) (by simp)
theorem afV{a b:List Int}(hb:0<b.length):(LI a b).length<b.length:=by
 have h1:=G5 (a:=a) hb
 unfold LI
 split
 ·have h2:=kZ (fW (yO a b).2)
  have h3:=LM (yO a b).2
  omega
 ·have h2:=kZ (yO a b).2
  omega
theorem alU(a b:List Int):Cn (LI a b):=by unfold LI;split<;>exact Cn.cut _
def exs(b:List Int):Nat→List Int→List Int→Option (List Int × List Int)
 | 0,q,a=>some (q,a)
 | i+1,q,a=>if a.length<b.length+i then exs b i q a else if lead a%lead b=0 then exs b i (q.set i (lead a/lead b)) (dA a (bA (p8 i (lead a/lead b)) b))else none
def exF:Option (List Int × List Int)→Option (List Int)
 | some (q,[])=>some (aI q)
 | _=>none
def exact(a b:List Int):Option (List Int):=exF (exs b (i4 a b) (List.replicate (i4 a b) 0) a)
def exR(o:Option (List Int)):PV:=
 match o with
 | some q => .fG [Po q, .int .i64 0]
 | none => .fG [Po [], .int .i64 3]
theorem Bd.set{B s n:Nat}{x:List Int}(h:Bd B s n x){i:Nat}{v:Int}(hv:Pm.sz B v≤s):Bd B s n (x.set i v):=⟨by simpa using h.len,fun c hc=>by
 rcases List.mem_or_eq_of_mem_set hc with h1 | h1
 ·exact h.sz c h1
 ·rw [h1];exact hv⟩
theorem XB(a b:RP){s s' N:Nat}(ha:mL a)(hb:mL b)(sa:Bd LL s N (a.map gv))(sb:Bd LL s' N (b.map gv))(hB:s+N*(s'+N+1)+s'+N+N+10<1099511627774) :
  aH env.P 217 [Pg a,Pg b] (if eF b = []then .fG [Po [], .int .i64 2]else exR (exact (eF a) (eF b))):=by
 have hA:Bd LL s N (eF a):=sa.cut
 have TA:Bd LL s' N (eF b):=sb.cut
 have ca:Cn (eF a):=Cn.cut _
 have cb:Cn (eF b):=Cn.cut _
 have na:=eG a ha
 have nb:=eG b hb
 rw [show aI (a.map gv)=eF a from rfl]at na
 rw [show aI (b.map gv)=eF b from rfl]at nb
 refine cA [(0,Pg a),(1,Pg b)] Tryz.func217 ?_
 generalize eF a=x at *
 generalize eF b=y at *
 refine aA [0,1] ?_
 refine j4 ?_
 refine b8 na ?_
 refine cI [0,1] nb ?_
 refine aM [0,1,17] ?_
 refine bP ?_ ?_<;>intro h
 ·have h:y = []:=by simp at h;exact h
  rw [if_pos h]
  refine aA [4,5] ?_
  refine W.ret ?_
  simp [go]
  rfl
 have hy:y ≠ []:=by simp at h;exact h
 clear h
 rw [if_neg hy]
 have PJ:0<y.length:=List.length_pos_iff.2 hy
 have hNx:=hA.len
 have hNy:=TA.len
 have hsy:=gH TA
 have hly:=dB cb PJ
 have hL:=oM (PB.of TA (by omega) (by omega)) cb
 have hDy:=mC y (by omega)
 have hkN:i4 x y≤N:=by unfold i4;omega
 generalize hdd:s'+N+1=d at *
 have hNN:∀j,j≤N→(N-j)*d≤N*d:=fun j _=>Nat.mul_le_mul_right _ (by omega)
 have hkk:(if (0:Int)<(x.length:Int)-(y.length:Int)+1 then(x.length:Int)-(y.length:Int)+1 else 0)=(i4 x y:Int):=by unfold i4;split<;>omega
 refine W.skip ?_
 refine W.sr ?_
 simp (disch:=omega) [gw,hkk]
 refine bO [0,1,6] ?_
 refine W.row (id:=25) (emap ie (List.replicate (i4 x y) 0)) (by simp;exact⟨rfl,rfl,rfl⟩) (pC _) ?_
 refine aM [0,1,6,7] ?_
 refine W.block ?_
 obtain⟨R0,OJ⟩:∃R0,R0=exs y (i4 x y) (List.replicate (i4 x y) 0) x:=⟨_,rfl⟩
 have hex:exact x y=exF R0:=by rw [OJ];rfl
 rw [hex]
 clear hex
 generalize uR:i4 x y=k0 at *
 refine W.a8 (fun j σ=>∃(v6:Nat) (z r:List Int) (rows:Pm.Rows) (clk:Nat),σ=⟨fa [(0,Po r),(1,Po y),(6, .own 25 v6 0 k0),(7, .int .i64 ((j:Int)-1))],rows,clk⟩ ∧
  rows 25=some ⟨v6,38,2,emap ie z⟩∧z.length=k0∧j≤k0∧exs y j z r=R0∧Bd LL (s+(N-j)*d) (N+N) z∧Bd LL (s+(N-j)*d) (N+N) r∧Cn r) k0 ?_ ?_
 ·exact⟨_, .refl,_,List.replicate k0 0,x,_,_,rfl,by simp,by simp,by omega,OJ.symm,⟨by simp;omega,fun c hc=>by rw [(List.mem_replicate.1 hc).2,iU];omega⟩,hA.mono (by omega) (by omega),ca⟩
 rintro j _ ⟨v6,z,r,rows,clk,rfl,abT,hz,hj,yR,bz,br,cr⟩
 refine aM [0,1,6,7,30] ?_
 refine bP ?_ ?_<;>intro h
 ·have hj0:0<j:=by simp at h;omega
  obtain⟨i,rfl⟩:∃i,j=i+1:=⟨j-1,by omega⟩
  clear h
  have ei:((i+1:Nat):Int)-1=i:=by omega
  rw [ei]
  have hN1:=hNN (i+1) (by omega)
  have D5:=hNN i (by omega)
  have hT:s+(N-i)*d=s+(N-(i+1))*d+s'+N+1:=by
   rw [show N-i=(N-(i+1))+1 by omega,Nat.add_mul,Nat.one_mul];omega
  have hDr:=mC r (by have:=br.len;omega)
  have hLr:=oM (PB.of br (by omega) (by omega)) cr
  have hlr:=gH br
  rw [exs]at yR
  refine W.skip ?_
  refine W.fM (fun σ=>∃(z r:List Int) (rows:Pm.Rows) (clk:Nat),σ=⟨fa [(0,Po r),(1,Po y),(6, .own 25 v6 0 k0),(7, .int .i64 i)],rows,clk⟩ ∧
   rows 25=some ⟨v6,38,2,emap ie z⟩∧z.length=k0∧exs y i z r=R0∧Bd LL (s+(N-i)*d) (N+N) z∧Bd LL (s+(N-i)*d) (N+N) r∧Cn r) ?_ ?_
  ·
   refine W.seq ?_
   refine j4 ?_
   refine b8 hDr ?_
   refine cI [0,1,6,7,39] hDy ?_
   by_cases hlen:r.length<y.length+i
   ·rw [if_pos hlen]at yR
    refine bP ?_ ?_<;>intro h
    ·refine eJ ?_
     exact⟨_,aC _ [0,1,6,7],z,r,_,_,rfl,abT,hz,yR,bz.mono (by omega) (by omega),br.mono (by omega) (by omega),cr⟩
    ·exfalso;simp at h;omega
   rw [if_neg hlen]at yR
   refine bP ?_ ?_<;>intro h
   ·exfalso;simp at h;omega
   clear h
   have hE:=vM (v:=lead r) (c:=lead y) (by omega) (by omega) hly
   refine W.skip ?_
   by_cases PN:lead r%lead y=0
   ·rw [if_pos PN]at hE yR
    have hts:sz LL (lead r/lead y)≤s+(N-(i+1))*d:=Nat.le_trans (cB eB (Int.natAbs_ediv_le_natAbs _ _)) hlr
    have bs:=Bd.p8 hts i
    have bm:=bs.bA eB TA
    have b2:Bd LL (s+(N-i)*d) (N+N) (dA r (bA (p8 i (lead r/lead y)) y)):=(Bd.dA eB (br.mono (s':=s+(N-(i+1))*d+s'+N) (n':=N+N) (by omega) (by omega)) (bm.mono (by omega) (by omega))).mono (by omega) (by omega)
    have f4:=r9 bs TA (by omega)
    have f5:=oL (PB.of br (by omega) (by omega)) (PB.of bm (by omega) (by omega))
    have cr2:Cn (dA r (bA (p8 i (lead r/lead y)) y)):=Cn.dA _ _
    have bz2:=Bd.set (i:=i) (bz.mono (s':=s+(N-i)*d) (n':=N+N) (by omega) (by omega)) (Nat.le_trans hts (by omega))
    generalize cR:dA r (bA (p8 i (lead r/lead y)) y)=r2 at *
    generalize bA (p8 i (lead r/lead y)) y=pm at *
    generalize lead r/lead y=tt at *
    have abO:=rD i tt
    have alT:(p8 i tt).length=i+1:=by simp [p8]
    have j3:=bJ alT
    generalize lead r=lr at *
    generalize lead y=ly at *
    refine j4 ?_
    refine b8 hLr ?_
    refine b8 hL ?_
    refine cI [0,1,6,7,8,9] hE ?_
    refine aM [0,1,6,7,8,49] ?_
    refine bP ?_ ?_<;>intro h
    ·cases h
    refine W.skip ?_
    refine W.sr ?_
    simp (disch:=omega) [gw,abT,hz]
    refine bO [0,1,6,7,8] ?_
    have e9:((i:Int)+1).toNat=i+1:=by omega
    refine W.sr ?_
    simp (disch:=omega) [gw,e9]
    refine bO [0,1,6,7,8,10] ?_
    refine W.row (id:=56) (emap ie (List.replicate (i+1) 0)) (by simp;exact⟨rfl,rfl,rfl⟩) (pC _) ?_
    refine W.sr ?_
    simp (disch:=omega) [gw,abO]
    refine bO [0,1,6,7,10] ?_
    refine W.freeze 56 (by simp) (fun K hK=>?_)
    simp [j3]
    refine hK _ ?_;clear hK K
    refine W.b9 (fun K hK=>?_)
    simp (disch:=omega) [gw]
    refine b8 f4 ?_
    refine b8 f5 ?_
    exact hK _ ⟨_,aC _ [0,1,6,7],z.set i tt,r2,_,_,rfl,by simp,by simp [hz],yR,bz2,b2,cr2⟩
   ·rw [if_neg PN]at hE yR
    subst yR
    refine j4 ?_
    refine b8 hLr ?_
    refine b8 hL ?_
    refine cI [0,1,6,7,8,9] hE ?_
    refine aM [0,1,6,7,8,49] ?_
    refine bP ?_ ?_<;>intro h
    ·refine aA [4,5] ?_
     refine W.ret ?_
     simp [go,exR,exF]
     rfl
    ·cases h
  rintro _ ⟨z,r,rows,clk,rfl,abT,hz,yR,bz,br,cr⟩
  refine W.b9 (fun K hK=>?_);simp (disch:=omega) [gw]
  refine hK _ ⟨i,_,aC _ [0,1,6,7],by omega,v6,z,r,_,_,rfl,by simp [abT],hz,by omega,yR,bz,br,cr⟩
 ·have hj0:j=0:=by simp at h;omega
  subst hj0
  simp only [exs]at yR
  rw [←yR]
  have hN0:=hNN 0 (by omega)
  have hzn:=gY (PB.of bz (by omega) (by omega))
  have hzz:=bJ hz
  refine eJ ?_
  refine aM [6,68] ?_
  cases r with
  | nil =>
   refine bP ?_ ?_<;>intro h
   ·exfalso;simp at h
   refine W.skip ?_
   refine W.sr ?_
   simp (disch:=omega) [gw,abT,hzz]
   refine cI [4,5] hzn ?_
   refine W.ret ?_
   simp [go,exR,exF]
  | cons c r =>
   refine bP ?_ ?_<;>intro h
   ·refine aA [4,5] ?_
    refine W.ret ?_
    simp [go,exR,exF]
    rfl
   ·exfalso;simp at h
theorem rE{d:Nat}{x:List Int}(h:∀c∈x,(d:Int)∣c):d∣bL x:=by
 have key:∀(l:List Int) (g:Nat),d∣g→(∀c∈l,(d:Int)∣c)→d∣l.foldl (fun g c=>Nat.gcd g c.natAbs) g:=by
  intro l
  induction l with
  | nil=>intro g hg _;exact hg
  | cons c l ih =>
   intro g hg hl
   rw [List.foldl_cons]
   exact ih _ (Nat.dvd_gcd hg (Int.ofNat_dvd_left.1 (hl c (by simp)))) fun v hv=>hl v (by simp [hv])
 exact key x 0 (Nat.dvd_zero d) h
theorem z6{x:List Int}{g:Int}(h:∀c∈x,g∣c):(x.map (j1 g)).map (· * g)=x:=by
 rw [List.map_map]
 refine(List.map_congr_left fun v hv=>?_).trans (List.map_id _)
 have h1:v%g=0:=Int.emod_eq_zero_of_dvd (h v hv)
 simp only [Function.comp_apply,j1,id_eq]
 rw [if_pos h1]
 exact Int.ediv_mul_cancel (h v hv)
theorem xF{x y:List Int}{g:Int}(hg:g≠0)(h:y.map (· * g)=x)(e:bL x=g.natAbs):bL y=1:=by
 have:=i7 g y
 rw [h,e]at this
 exact Nat.eq_of_mul_eq_mul_right (show 0<g.natAbs by omega) (by omega)
theorem dH(t:Int)(g:Int)(x:List Int):V t (x.map (· * g))=V t x*g:=by
 have:=gM (t:=t) g id x
 simp only [id_eq,List.map_id_fun]at this
 exact this
theorem abU{x y:List Int}(cx:Cn x)(cy:Cn y)(hx:x ≠ [])(hy:y ≠ []):bL (bA x y)=bL x*bL y:=by
 have gx:=cQ cx hx
 have gy:=cQ cy hy
 have hp:bL (bA x y)≠0:=cQ (Cn.bA _ _) fun h=>by
  have:=jL cx cy (List.length_pos_iff.2 hx) (List.length_pos_iff.2 hy)
  rw [h]at this
  have h1:=List.length_pos_iff.2 hx
  have h2:=List.length_pos_iff.2 hy
  simp only [List.length_nil]at this
  omega
 obtain⟨x',VJ⟩:∃x':List Int,x'.map (· * (bL x:Int))=x:=⟨_,z6 (eN x)⟩
 obtain⟨y',NB⟩:∃y':List Int,y'.map (· * (bL y:Int))=y:=⟨_,z6 (eN y)⟩
 have px:=xF (by omega) VJ (by omega)
 have py:=xF (by omega) NB (by omega)
 have e:bA x y=(bA x' y').map (· * ((bL x:Int)*bL y)):=by
  rw [←sB (Cn.bA _ _) (Int.mul_ne_zero (by omega) (by omega))]
  refine Cn.ext (Cn.bA _ _) (Cn.aL _ _) fun t=>?_
  have h1:=dH t (bL x) x'
  have h2:=dH t (bL y) y'
  rw [VJ]at h1
  rw [NB]at h2
  rw [c7,cG,c7,h1,h2]
  grind
 rw [e,i7]at hp
 rw [e,i7,Int.natAbs_mul]
 have hd:0<bL (bA x' y'):=Nat.pos_of_mul_pos_right (Nat.pos_of_ne_zero hp)
 have hD:=SY _ (bL (bA x' y')) x' y' (Nat.le_refl _) hd (Dv.of (eN _)) (fun d _ hy=>Nat.dvd_one.1 (py▸rE hy.mem))
 have h1:bL (bA x' y')=1:=Nat.dvd_one.1 (px▸rE hD.mem)
 rw [h1,Nat.one_mul]
 simp
def kL(x:List Int):Int:=if lead x<0 then -(bL x:Int)else bL x
def rF(x:List Int):List Int:=aI (x.map (j1 (kL x)))
theorem mX(x:List Int):(kL x).natAbs=bL x:=by unfold kL;split<;>omega
theorem HI(x:List Int):∀c∈x,kL x∣c:=fun c hc=>by
 have:=eN x c hc
 unfold kL;split
 ·exact Int.neg_dvd.2 this
 ·exact this
theorem HJ{x:List Int}(cx:Cn x)(hx:x ≠ []):(rF x).map (· * kL x)=x:=by
 have gx:=cQ cx hx
 have h0:=mX x
 rw [←sB (show Cn (rF x)from Cn.cut _) (show kL x≠0 by omega)]
 refine Cn.ext (Cn.aL _ _) cx fun t=>?_
 rw [cG,rF,cV,←dH,z6 (HI x)]
theorem XC{x:List Int}(cx:Cn x)(hx:x ≠ []):aL (rF x) (kL x)=x:=by
 have gx:=cQ cx hx
 have h0:=mX x
 rw [sB (show Cn (rF x)from Cn.cut _) (show kL x≠0 by omega)]
 exact HJ cx hx
theorem afW{x:List Int}(cx:Cn x)(hx:x ≠ []):bL (rF x)=1:=by
 have gx:=cQ cx hx
 have h0:=mX x
 exact xF (by omega) (HJ cx hx) h0.symm
theorem abV{x:List Int}(cx:Cn x)(hx:x ≠ []):0<lead (rF x):=by
 have gx:=cQ cx hx
 have h:=HJ cx hx
 have hl:(rF x).length=x.length:=by rw [←congrArg List.length h];simp
 have oF:=List.length_pos_iff.2 hx
 have h1:lead x=lead (rF x)*kL x:=by
  rw [lead,lead,hl,←i5,h]
 have pS:=dB (x:=rF x) (Cn.cut _) (by omega)
 have hg:(0:Int)<bL x:=by omega
 unfold kL at h1
 rcases Int.lt_trichotomy (lead (rF x)) 0 with h2 | h2 | h2
 ·exfalso
  split at h1
  ·rename_i h3
   have:=Int.mul_pos (show (0:Int) < -lead (rF x)by omega) hg
   rw [Int.mul_neg,←Int.neg_mul]at h1
   omega
  ·rename_i h3
   have:=Int.mul_pos (show (0:Int) < -lead (rF x)by omega) hg
   rw [Int.neg_mul]at this
   omega
 ·exact absurd h2 pS
 ·exact h2
theorem s9(a:RP){s n:Nat}(ha:mL a)(sa:Bd LL s n (a.map gv))(hs:s<1099511627774)(hn:n<1099511627774) :
  aH env.P 137 [Pg a] (.fG [I (kL (eF a)),Po (rF (eF a))]):=by
 have hA:Bd LL s n (eF a):=sa.cut
 have ca:Cn (eF a):=Cn.cut _
 have na:=eG a ha
 rw [show aI (a.map gv)=eF a from rfl]at na
 refine cA [(0,Pg a)] Tryz.func137 ?_
 generalize eF a=x at *
 refine aA [0,2] ?_
 refine aY [0,2] na ?_
 refine aM [0,2,9] ?_
 refine bP ?_ ?_<;>intro h
 ·have h:x = []:=by simp at h;exact h
  subst h
  rw [show kL ([]:List Int)=0 by decide,show rF ([]:List Int) = []from rfl]
  refine aA [2,3] ?_
  refine W.ret ?_
  simp [go]
  exact⟨rfl,rfl⟩
 have hx:x ≠ []:=by simp at h;exact h
 clear h
 have oF:=List.length_pos_iff.2 hx
 have gx:=cQ ca hx
 have hp0:=mX x
 have hC:=vN x (PD.of hA hs hn)
 have hL:=oM (PB.of hA (by omega) (by omega)) ca
 have hgs:=TB (s:=s) hA.sz ca hx
 have I0:sz LL (kL x)≤s:=by
  unfold kL;split
  ·rw [o6];exact hgs
  ·exact hgs
 have hO:=LG x (kL x) (PD.of hA hs hn) (by omega) (by omega)
 rw [show aI (x.map (j1 (kL x)))=rF x from rfl]at hO
 have hN:=aij (x:=(bL x:Int)) (by show sz LL _<_;omega)
 refine W.skip ?_
 refine aY [0,2,4] hC ?_
 refine W.gD (fun σ=>∃(rows:Pm.Rows) (clk:Nat),σ=⟨fa [(0,Po x),(2, .ptr 2 0 0 0),(4, .ptr 4 1 0 0)],rows,clk⟩∧rows 2=some ⟨0,38,2,[[.bool false, .nil]]⟩∧rows 4=some ⟨1,38,2,[ie (kL x)]⟩) ?_ ?_
 ·refine W.gK (fun σ=>∃(rows:Pm.Rows) (clk:Nat),σ=⟨fa [(0,Po x),(2, .ptr 2 0 0 0),(4, .ptr 4 1 0 0),(16, .bool (decide (lead x<0)))],rows,clk⟩∧rows 2=some ⟨0,38,2,[[.bool false, .nil]]⟩∧rows 4=some ⟨1,38,2,[ie (bL x)]⟩) (fun K hK=>?_) ?_
  ·simp (disch:=omega) [gw]
   refine b8 hL ?_
   refine hK _ _ (aC _ [0,2,4,16]) ⟨_,_,rfl,?_,?_⟩<;>simp [ie]
  rintro _ ⟨rows,clk,rfl,cR,gN⟩
  refine W.aa3 (lead x<0) rfl (fun h=>?_) (fun h=>?_)
  ·rw [kL,if_pos h]
   refine W.b9 (fun K hK=>?_)
   simp (disch:=omega) [gw,gN]
   refine aD hN ?_
   simp (disch:=omega) [gw,gN]
   exact hK _ ⟨_,aC _ [0,2,4],_,_,rfl,by simp [cR],by simp⟩
  ·rw [kL,if_neg h]
   refine W.skip ?_
   exact⟨_,aC _ [0,2,4],_,_,rfl,cR,gN⟩
 rintro _ ⟨rows,clk,rfl,cR,gN⟩
 generalize kL x=c at *
 generalize rF x=p at *
 refine W.sd ?_
 simp (disch:=omega) [gw,gN]
 refine aD hO ?_
 simp (disch:=omega) [gw,cR,gN]
 refine bO [2,3] ?_
 exact cP
abbrev qd(x:List Int)(D:Int):List Rat:=x.map fun v=>dJ v D
theorem eR{v D:Int}(h:D≠0):dJ v D=(v:Rat)/(D:Rat):=by rw [dJ,if_neg h,Rat.divInt_eq_div]
theorem fP{D:Int}(h:D≠0):(D:Rat)≠0:=fun h2=>h (by exact_mod_cast h2)
theorem vO{D:Int}(h:D≠0):dJ 0 D=0:=by rw [eR h];simp [Rat.div_def]
theorem yT{v D:Int}(h:D≠0):dJ v D=0↔v=0:=by
 constructor
 ·intro h2
  rw [eR h]at h2
  have h3:=fP h
  have:(v:Rat)=0:=by
   have h4:(v:Rat)/(D:Rat)*D=0:=by rw [h2];grind
   rw [Rat.div_mul_cancel h3]at h4
   exact h4
  exact_mod_cast this
 ·rintro rfl;exact vO h
theorem TC{v D l:Int}(h:D≠0)(hl:l≠0):dJ (v*l) (D*l)=dJ v D:=by
 rw [eR h,eR (Int.mul_ne_zero h hl),Rat.intCast_mul,Rat.intCast_mul]
 have h1:=fP h
 have h2:=fP hl
 grind
theorem afX{v w D:Int}(h:D≠0):dJ v D+dJ w D=dJ (v+w) D:=by
 rw [eR h,eR h,eR h,Rat.intCast_add]
 have h1:=fP h
 grind
theorem TD{v D:Int}(h:D≠0):dJ v D*(-1)=dJ (-v) D:=by
 rw [eR h,eR h,Rat.intCast_neg]
 have h1:=fP h
 grind
theorem abW{v w D:Int}(h:D≠0):(w:Rat)*dJ v D=dJ (w*v) D:=by
 rw [eR h,eR h,Rat.intCast_mul]
 have h1:=fP h
 grind
theorem afY{v D l:Int}(h:D≠0)(hl:l≠0):dJ v D/(l:Rat)=dJ v (D*l):=by
 rw [eR h,eR (Int.mul_ne_zero h hl),Rat.intCast_mul]
 have h1:=fP h
 have h2:=fP hl
 grind
theorem sC{D:Int}(h:D≠0):∀x:List Int,mM (qd x D)=qd (aI x) D
 | []=>rfl
 | a::x=>by
  have ih:=sC h x
  simp only [qd,List.map_cons]at ih ⊢
  rw [mM,ih,aI]
  by_cases h1:aI x = []∧a=0
  ·simp [h1,vO h]
  ·rw [if_neg h1,if_neg (by simpa [yT h]using h1)];simp
theorem HK{D:Int}(h:D≠0)(x:List Int)(k:Nat):nth (qd x D) k=dJ (nth x k) D:=rW (f:=fun v=>dJ v D) (vO h) x k
theorem afZ{D:Int}(h:D≠0)(x y:List Int):abJ (qd x D) (qd y D)=qd (eV x y) D:=by
 rw [abJ,eV,←sC h]
 congr 1
 simp only [qd,List.length_map,List.map_map]
 congr 1
 funext k
 simp only [Function.comp_apply]
 rw [show nth (List.map (fun v=>dJ v D) x) k=_ from HK h x k,show nth (List.map (fun v=>dJ v D) y) k=_ from HK h y k,afX h]
theorem af1{D:Int}(h:D≠0)(x:List Int):fR (qd x D) (-1)=qd (fW x) D:=by
 rw [fR,fW,←sC h]
 congr 1
 simp only [qd,List.map_map]
 congr 1
 funext k
 simp only [Function.comp_apply]
 exact TD h
theorem xG{D:Int}(h:D≠0)(y:List Int)(v:Int):fR (qs y) (dJ v D)=qd (aL y v) D:=by
 rw [fR,aL,←sC h]
 congr 1
 simp only [qd,qs,List.map_map]
 congr 1
 funext k
 simp only [Function.comp_apply]
 exact abW h
theorem CA{D l:Int}(h:D≠0)(hl:l≠0)(x:List Int):qd (x.map (· * l)) (D*l)=qd x D:=by
 simp only [qd,List.map_map]
 congr 1
 funext k
 simp only [Function.comp_apply]
 exact TC h hl
theorem tS(x:List Int):qd x 1=qs x:=by
 simp only [qd,qs,kR]
theorem rG{v D:Int}{k:Nat}(h:D≠0)(hv:sz 2 v≤k)(hD:sz 2 D≤k):ZR k (dJ v D):=by
 refine⟨Nat.le_trans (cB (by decide) ?_) hv,Nat.le_trans (cB (by decide) ?_) hD⟩
 ·rw [pG _ _ h]
  refine Nat.le_trans (Int.natAbs_ediv_le_natAbs _ _) ?_
  split<;>simp
 ·rw [pH _ _ h]
  refine Nat.le_trans (Int.natAbs_ediv_le_natAbs _ _) ?_
  split<;>simp
theorem xH{x:List Int}{D:Int}{k n:Nat}(h:D≠0)(hx:Bd 2 k n x)(hD:sz 2 D≤k)(hk:k≤YY)(hn:n<1099511627776):PZ (qd x D):=⟨fun q hq=>by
 simp only [List.mem_map]at hq
 obtain⟨v,hv,rfl⟩:=hq
 exact rG h (Nat.le_trans (hx.sz v hv) hk) (Nat.le_trans hD hk),by have:=hx.len;simp;omega⟩
structure DS where
 Q:List Int
 r:List Int
 D:Int
def dst(y:List Int)(σ:DS):DS:=⟨(σ.Q.map (· * lead y)).set (σ.r.length-y.length) (lead σ.r),wO y (lead y) (lead σ.r) (σ.r.length-y.length) σ.r,σ.D*lead y⟩
def XD(y:List Int):Nat→DS→DS
 | 0,σ=>σ
 | n+1,σ=>if σ.r.length<y.length then σ else XD y n (dst y σ)
def dmd(x y:List Int):DS:=XD y (x.length+1) ⟨List.replicate (i4 x y) 0,x,1⟩
theorem HL{y:List Int}{σ:DS}(hy:0<y.length)(h:y.length≤σ.r.length):(dst y σ).r.length<σ.r.length:=by
 have h1:=zY (b:=y) (r:=σ.r) (i:=σ.r.length-y.length) hy (by omega)
 rw [show u9 y σ.r (σ.r.length-y.length)=lead σ.r from by rw [u9,if_pos (by omega)]]at h1
 show(wO y (lead y) (lead σ.r) (σ.r.length-y.length) σ.r).length<_
 omega
theorem af2{y:List Int}{σ:DS}(h:σ.r.length<y.length):∀n,XD y n σ=σ
 | 0=>rfl
 | n+1=>by rw [XD,if_pos h]
structure tT(x y:List Int)(σ:DS):Prop where
 v:∀t,σ.D*V t x=V t σ.Q*V t y+V t σ.r
 z:∀j,j+y.length≤σ.r.length→nth σ.Q j=0
 c:Cn σ.r
 d:σ.D≠0
 q:σ.r.length+1≤σ.Q.length+y.length∨σ.r.length<y.length
theorem tT.step{x y:List Int}{σ:DS}(cy:Cn y)(hy:0<y.length)(h:y.length≤σ.r.length)(hI:tT x y σ):tT x y (dst y σ):=by
 have hl:=dB cy hy
 have dM:=HL hy h
 have hq:=hI.q.resolve_right (by omega)
 have hk:σ.r.length-y.length<(σ.Q.map (· * lead y)).length:=by simp;omega
 have h1:=zY (b:=y) (r:=σ.r) (i:=σ.r.length-y.length) hy (by omega)
 rw [show u9 y σ.r (σ.r.length-y.length)=lead σ.r from by rw [u9,if_pos (by omega)]]at h1
 refine⟨fun t=>?_,fun j hj=>?_,Cn.dA _ _,Int.mul_ne_zero hI.d hl,?_⟩
 ·have h2:=hI.v t
  have h3:=EZ (b:=t) (x:=lead σ.r) hk
  have h4:nth (σ.Q.map (· * lead y)) (σ.r.length-y.length)=0:=by
   rw [i5,hI.z _ (by omega)];simp
  show σ.D*lead y*V t x=V t ((σ.Q.map (· * lead y)).set (σ.r.length-y.length) (lead σ.r))*V t y+V t (wO y (lead y) (lead σ.r) (σ.r.length-y.length) σ.r)
  rw [h3,h4,dH,wO,gG,c7,mV,cG]
  have h5:σ.D*lead y*V t x=lead y*(σ.D*V t x):=by grind
  rw [h5,h2];grind
 ·have hj:j+y.length≤(wO y (lead y) (lead σ.r) (σ.r.length-y.length) σ.r).length:=hj
  show nth ((σ.Q.map (· * lead y)).set (σ.r.length-y.length) (lead σ.r)) j=0
  rw [gF (by omega),i5,hI.z _ (by omega)];simp
 ·left
  have:(dst y σ).Q.length=σ.Q.length:=by simp [dst]
  omega
theorem tT.XD{x y:List Int}(cy:Cn y)(hy:0<y.length):∀(n:Nat) (σ:DS),σ.r.length<n→tT x y σ→tT x y (XD y n σ)∧(Proofs.YtiobceocpabjdaaGreat.XD y n σ).r.length<y.length
 | 0,σ,h,_=>by omega
 | n+1,σ,h,hI=>by
  rw [Proofs.YtiobceocpabjdaaGreat.XD]
  split
  ·rename_i h1;exact⟨hI,h1⟩
  ·rename_i h1
   exact tT.XD cy hy n _ (by have:=HL (σ:=σ) hy (by omega);omega) (hI.step cy hy (by omega))
theorem tT.start{x y:List Int}(cx:Cn x):tT x y ⟨List.replicate (i4 x y) 0,x,1⟩:=by
 refine⟨fun t=>?_,fun j hj=>?_,cx,show(1:Int)≠0 by decide,?_⟩
 ·simp [pY]
 ·rcases Nat.lt_or_ge j (i4 x y)with h | h
  ·rw [c9 (by simpa using h)];simp
  ·rw [gE (by simpa using h)];rfl
 ·simp only [i4,List.length_replicate];omega
theorem af3{x y:List Int}(cx:Cn x)(cy:Cn y)(hy:0<y.length):tT x y (dmd x y)∧(dmd x y).r.length<y.length:=tT.XD cy hy _ _ (Nat.lt_succ_self _) (tT.start cx)
@[simp] theorem asd{l:List Rat}{i:Nat}{q:Rat}:jF (emap re l) i 0 [aJ aF (aU DD q.num.natAbs), .bool (decide (q.num<0)),aJ aF (aU DD q.den), .bool false]=emap re (l.set i q):=zZ (n:=4) (fun _=>rfl)
theorem CB(x:List Int):emap re (qs x)=emap ri x:=by simp only [emap,qs,List.map_map,Function.comp_def,fN]
theorem abY(a b n:List Rat)(ha:PZ a)(hb:PZ b)(hn:fR b (-1)=n)(hn2:PZ n):aH env.P 266 [PP a,PP b] (PP (abJ a n)):=by
 have h1:=LC b hb
 rw [hn]at h1
 have h2:=abK a n ha hn2
 refine cA [(0,PP a),(1,PP b)] Tryz.func266 ?_
 refine aA [0,1] ?_
 refine j4 ?_
 refine b8 h1 ?_
 refine cI [4] h2 ?_
 exact cP
def zN(l:List Rat):Int:=l.foldl (fun d q=>(d*q.den).tdiv (Int.gcd d q.den)) 1
def TE(d:Int)(l:List Rat):Int:=l.foldl (fun (g:Int) q=>(Int.gcd g ((q.num*d).tdiv q.den):Int)) 0
theorem LN{l:List Rat}{i:Nat}(h:i<l.length):zN (l.take (i+1))=(zN (l.take i)*(nth l i).den).tdiv (Int.gcd (zN (l.take i)) (nth l i).den):=by
 unfold zN;rw [aT h,List.foldl_append];rfl
theorem abZ{l:List Rat}{d:Int}{i:Nat}(h:i<l.length):TE d (l.take (i+1))=(Int.gcd (TE d (l.take i)) (((nth l i).num*d).tdiv (nth l i).den):Int):=by
 unfold TE;rw [aT h,List.foldl_append];rfl
theorem P6(q:Rat):RI (q.den:Int) = .ag [aJ aF (aU DD q.den), .bool false]:=by
 simp [show ¬((q.den:Int)<0)by omega]
def P7(l:List Rat):Rat:=if (nth l (l.length-1)).num<0 then -(dJ (TE (zN l) l) (zN l))else dJ (TE (zN l) l) (zN l)
def qpr(l:List Rat):List Rat:=fR l (1/P7 l)
theorem rH(l:List Rat){k:Nat}(hk:k≤YY)(S3:1≤k)(hl:∀q∈l,ZR k q)(N8:l.length<1099511627776)(h0:l ≠ [])
  (hd:∀i,sz 2 (zN (l.take i))≤k) (HE:∀i,0<zN (l.take i)) (hg:∀i,sz 2 (TE (zN l) (l.take i))≤k)
  (hc:ZR YY (P7 l)) (xA:P7 l≠0) (uP:ZR YY (1/P7 l)) :
  aH env.P 155 [PP l] (.fG [RR (P7 l),PP (qpr l)]):=by
 have hkY:k≤137438953472:=hk
 have DK:0<l.length:=List.length_pos_iff.2 h0
 refine cA [(0,PP l)] Tryz.func155 ?_
 refine aA [0,2] ?_
 refine aM [0,2,11] ?_
 refine bP ?_ ?_<;>intro h
 ·exfalso;simp at h;exact h0 h
 refine W.skip ?_
 refine j4 ?_
 refine aD (iF 1 (by decide) (by decide)) ?_
 simp (disch:=omega) [gw]
 refine bO [0,2,4] ?_
 refine aM [0,2,4,15,16] ?_
 refine W.block ?_
 refine W.a8 (fun n σ=>∃(i:Nat) (d:Int) (rows:Pm.Rows) (clk:Nat),σ=⟨fa [(0,PP l),(2, .ptr 2 0 0 0),(4, .ptr 4 1 0 0),(15, .int .i64 l.length),(16, .int .i64 i)],rows,clk⟩ ∧
  rows 2=some ⟨0,31,4,[[.nil, .bool false, .nil, .bool false]]⟩∧rows 4=some ⟨1,29,2,[[aJ aF (aU DD d.natAbs), .bool (decide (d<0))]]⟩∧n=l.length-i∧i≤l.length∧d=zN (l.take i)) l.length ?_ ?_
 ·exact⟨_, .refl,0,1,_,_,rfl,by simp,by simp,by omega,by omega,by simp [zN]⟩
 rintro n _ ⟨i,d,rows,clk,rfl,cR,gN,hn,hi,PN⟩
 refine cC [0,2,4,15,16,17] ?_
 refine bP ?_ ?_<;>intro h
 ·have hi:i<l.length:=by simp at h;omega
  have hq:=hl _ (bI hi)
  have hdi:=hd i
  have hdp:=HE i
  have hs:=LN hi
  rw [←PN]at hs hdi hdp
  have hsn:=hd (i+1)
  have m1:=eE d (nth l i).den (by simp only [Z];omega) (by have:=hq.d;simp only [Z];omega)
  have m2:=vI d (nth l i).den (by simp only [Y];omega) (by have:=hq.d;simp only [Y];omega)
  have zm:=cE (b:=2) (by decide) hdi hq.d
  have hgp:0<Int.gcd d (nth l i).den:=Int.gcd_pos_of_ne_zero_left _ (by omega)
  have zg:Y (Int.gcd d (nth l i).den:Int):=yP (y:=d) (by simp only [Y];omega) (by
   have:=Int.le_of_dvd hdp (Int.gcd_dvd_left d ((nth l i).den:Int));omega)
  have m3:=rC (d*(nth l i).den) (Int.gcd d (nth l i).den) (by omega) (by simp only [Y];omega) zg
  rw [←hs]at m3
  rw [P6]at m1 m2
  generalize (Int.gcd d (nth l i).den:Int)=gg at *
  generalize d*((nth l i).den:Int)=dd at *
  generalize I3:zN (l.take (i+1))=d2 at *
  generalize I5:nth l i=q at *
  refine iT ?_
  refine W.sr ?_
  simp (disch:=omega) [gw,I5]
  refine bO [0,2,4,5,15,16] ?_
  refine W.BI (fun K hK=>?_)
  simp (disch:=omega) [gw,gN,I5]
  refine aD m1 ?_
  simp (disch:=omega) [gw,gN,I5]
  refine aD m2 ?_
  simp (disch:=omega) [gw,gN,I5]
  refine aD m3 ?_
  simp (disch:=omega) [gw,gN,I5]
  refine bF (by refine⟨?_,?_⟩<;>kernel_rfl) ?_
  simp (disch:=omega) [gw]
  refine W.lw [0,2,4,15,16] hK ?_;clear hK K;simp
  refine W.b9 (fun K hK=>?_);simp (disch:=omega) [gw]
  refine hK _ ⟨l.length-(i+1),_,aC _ [0,2,4,15,16],by omega,i+1,d2,_,_,rfl,by simp [cR],by simp,by omega,by omega,I3.symm⟩
 have hi:i=l.length:=by simp at h;omega
 subst hi
 rw [List.take_length]at PN
 have hdl:=hd l.length
 have hdp:=HE l.length
 rw [List.take_length,←PN]at hdl hdp
 rw [←PN]at hg
 have hqc:P7 l=if (nth l (l.length-1)).num<0 then -(dJ (TE d l) d)else dJ (TE d l) d:=by rw [PN];rfl
 refine eJ ?_
 refine aA [0,2,4,6] ?_
 refine W.row (id:=6) (els:=[[.nil, .bool false]]) [[aJ aF (aU DD 0), .bool false]] (by simp;first | exact⟨rfl,rfl,rfl⟩ | exact⟨rfl,rfl,rfl,rfl⟩) ⟨⟨.inr ⟨rfl,rfl⟩, .inl rfl,trivial⟩,trivial⟩ ?_
 refine aM [0,2,4,6,36,37] ?_
 refine W.block ?_
 clear PN
 refine W.a8 (fun n σ=>∃(i v6:Nat) (g:Int) (rows:Pm.Rows) (clk:Nat),σ=⟨fa [(0,PP l),(2, .ptr 2 0 0 0),(4, .ptr 4 1 0 0),(6, .ptr 6 v6 0 0),(36, .int .i64 l.length),(37, .int .i64 i)],rows,clk⟩ ∧
  rows 2=some ⟨0,31,4,[[.nil, .bool false, .nil, .bool false]]⟩∧rows 4=some ⟨1,29,2,[[aJ aF (aU DD d.natAbs), .bool (decide (d<0))]]⟩ ∧
  rows 6=some ⟨v6,29,2,[[aJ aF (aU DD g.natAbs), .bool (decide (g<0))]]⟩∧n=l.length-i∧i≤l.length∧g=TE d (l.take i)) l.length ?_ ?_
 ·exact⟨_, .refl,0,_,0,_,_,rfl,by simp [cR],by simp [gN],by simp,by omega,by omega,by simp [TE]⟩
 clear cR gN rows clk
 rintro n _ ⟨i,v6,g,rows,clk,rfl,cR,gN,kS,hn,hi,hgv⟩
 refine cC [0,2,4,6,36,37,38] ?_
 refine bP ?_ ?_<;>intro h
 ·have hi:i<l.length:=by simp at h;omega
  have hq:=hl _ (bI hi)
  have hgi:=hg i
  have hs:=abZ (d:=d) hi
  rw [←hgv]at hs hgi
  have m1:=eE (nth l i).num d (by have:=hq.n;simp only [Z];omega) (by simp only [Z];omega)
  have zm:=cE (b:=2) (by decide) hq.n hdl
  have m2:=rC ((nth l i).num*d) (nth l i).den (by have:=(nth l i).den_nz;omega) (by simp only [Y];omega) (by have:=hq.d;simp only [Y];omega)
  have zq:Y (((nth l i).num*d).tdiv (nth l i).den):=yP (y:=(nth l i).num*d) (by simp only [Y];omega) (by rw [Int.natAbs_tdiv];exact Nat.div_le_self _ _)
  have m3:=vI g (((nth l i).num*d).tdiv (nth l i).den) (by simp only [Y];omega) zq
  rw [←hs]at m3
  rw [P6]at m2
  generalize ((nth l i).num*d).tdiv (nth l i).den=nq at *
  generalize (nth l i).num*d=nd at *
  generalize tF:TE d (l.take (i+1))=g2 at *
  generalize I5:nth l i=q at *
  refine iT ?_
  refine W.sr ?_
  simp (disch:=omega) [gw,I5]
  refine bO [0,2,4,6,7,36,37] ?_
  refine W.BI (fun K hK=>?_)
  simp (disch:=omega) [gw,gN,kS,I5]
  refine aD m1 ?_
  simp (disch:=omega) [gw,gN,kS,I5]
  refine aD m2 ?_
  simp (disch:=omega) [gw,gN,kS,I5]
  refine aD m3 ?_
  simp (disch:=omega) [gw,gN,kS,I5]
  refine bF (by kernel_rfl) ?_
  simp (disch:=omega) [gw]
  refine W.lw [0,2,4,6,36,37] hK ?_;clear hK K;simp
  refine W.b9 (fun K hK=>?_);simp (disch:=omega) [gw]
  refine hK _ ⟨l.length-(i+1),_,aC _ [0,2,4,6,36,37],by omega,i+1,v6,g2,_,_,rfl,by simp [cR],by simp [gN],by simp,by omega,by omega,tF.symm⟩
 have hi:i=l.length:=by simp at h;omega
 subst hi
 rw [List.take_length]at hgv
 have hgl:=hg l.length
 rw [List.take_length]at hgl
 rw [←hgv]at hgl hqc
 have hMk:=j0 g d (by simp only [Y];omega) (by simp only [Y];omega)
 have hNg:=B6 (dJ g d)
 have hQ:=B8 1 (P7 l) ⟨by show sz 2 1≤YY;exact Nat.le_trans (cK (k:=1) (by decide) (by decide)) (by decide),by show sz 2 1≤YY;exact Nat.le_trans (cK (k:=1) (by decide) (by decide)) (by decide)⟩ hc xA
 have Y6:=pI 1 1 (by decide) (by decide)
 rw [kR,show(((1:Int)):Rat)=1 by simp]at Y6
 have hSc:=kK l (1/P7 l) ⟨fun q hq=>⟨Nat.le_trans (hl q hq).n hk,Nat.le_trans (hl q hq).d hk⟩,N8⟩ uP
 rw [show fR l (1/P7 l)=qpr l from rfl]at hSc
 have e1:((l.length:Int)-1).toNat=l.length-1:=by omega
 generalize qpr l=pr at *
 generalize jS:(1:Rat)=one at *
 generalize one/P7 l=ic at *
 generalize P7 l=cc at *
 generalize hqm:dJ g d=c0 at *
 generalize I5:nth l (l.length-1)=q at *
 refine eJ ?_
 refine W.sr ?_
 simp (disch:=omega) [gw,gN,kS]
 refine cI [0,2,8] hMk ?_
 refine W.gD (fun σ=>∃(v8:Nat) (rows:Pm.Rows) (clk:Nat),σ=⟨fa [(0,PP l),(2, .ptr 2 0 0 0),(8, .ptr 8 v8 0 0)],rows,clk⟩∧rows 2=some ⟨0,31,4,[[.nil, .bool false, .nil, .bool false]]⟩∧rows 8=some ⟨v8,31,4,[re cc]⟩) ?_ ?_
 ·refine W.sr ?_
  simp (disch:=omega) [gw,e1,I5]
  refine bO [0,2,8,66] ?_
  refine W.aa3 (q.num<0) rfl (fun h=>?_) (fun h=>?_)
  ·rw [if_pos h]at hqc
   rw [←hqc]at hNg
   refine W.b9 (fun K hK=>?_)
   simp (disch:=omega) [gw]
   refine b8 hNg ?_
   exact hK _ ⟨_,aC _ [0,2,8],_,_,_,rfl,by simp [cR],by simp⟩
  ·rw [if_neg h]at hqc
   refine W.skip ?_
   exact⟨_,aC _ [0,2,8],_,_,_,rfl,by simp [cR],by simp [hqc]⟩
 clear cR gN kS rows clk
 rintro _ ⟨v8,rows,clk,rfl,cR,zM⟩
 refine W.sd ?_
 simp (disch:=omega) [gw,zM]
 refine aD Y6 ?_
 simp (disch:=omega) [gw,zM]
 refine aD hQ ?_
 simp (disch:=omega) [gw,zM]
 refine aD hSc ?_
 simp (disch:=omega) [gw,cR,zM]
 refine bO [2,3] ?_
 exact cP
theorem HM(x:List Int)(hx:∀c∈x,Z c)(hl:x.length<1099511627776):aH env.P 100 [PI x] (Po x):=by
 refine cA [(0,PI x)] Tryz.func100 ?_
 refine aA [0] ?_
 refine aA [0,3] ?_
 refine W.nil 3 3 38 2 (by simp) (by decide) (fun K hK=>?_)
 refine W.lw [0,3] hK ?_;clear hK K;simp
 refine aM [0,3,6,7] ?_
 refine W.block ?_
 refine W.a8 (fun k σ=>∃(i ver:Nat) (rows:Pm.Rows) (clk:Nat),σ=⟨fa [(0,PI x),(3, .own 3 ver 0 i),(6, .int .i64 x.length),(7, .int .i64 i)],rows,clk⟩∧rows 3=some ⟨ver,38,2,emap ie (x.take i)⟩∧k=x.length-i∧i≤x.length) x.length ?_ ?_
 ·exact⟨_, .refl,0,_,_,_,rfl,by simp [emap],by omega,by omega⟩
 rintro k _ ⟨i,ver,rows,clk,rfl,hr,hk,hi⟩
 refine cC [0,3,6,7,8] ?_
 refine W.cond ⟨_,rfl,fun h0=>?_,fun h0=>?_⟩
 ·have h0:i<x.length:=by simp at h0;omega
  have fF:(x.take i).length=i:=by simp;omega
  have hT:=vH (nth x i) (hx _ (bI h0))
  refine iT ?_
  refine aA [0,3,4,6,7] ?_
  refine W.b9 (fun K hK=>?_)
  simp (disch:=omega) [gw]
  refine aD hT ?_
  simp (disch:=omega) [gw,hr,fF]
  refine W.lw [0,3,6,7] hK ?_;clear hK K;simp
  refine W.b9 (fun K hK=>?_);simp (disch:=omega) [gw]
  refine hK _ ⟨x.length-(i+1),_,aC _ [0,3,6,7],by omega,i+1,_,_,_,rfl,?_,by omega,by omega⟩
  rw [aT h0]
  simp
 ·have mQ:i=x.length:=by simp at h0;omega
  subst mQ
  rw [List.take_length]at hr
  refine eJ ?_
  refine W.sr ?_
  simp (disch:=omega) [gw,hr]
  refine bO [2] ?_
  refine W.ret ?_
  simp [go,hr]
theorem HN(x:List Int):zN (qs x)=1:=by
 have key:∀l:List Int,(qs l).foldl (fun (d:Int) q=>(d*q.den).tdiv (Int.gcd d q.den)) 1=1:=by
  intro l
  induction l with
  | nil=>rfl
  | cons a l ih =>
   simp only [qs,List.map_cons,List.foldl_cons,Rat.den_intCast]at ih ⊢
   exact ih
 exact key x
theorem ab0(x:List Int):TE 1 (qs x)=bL x:=by
 have key:∀(l:List Int) (g:Nat),(qs l).foldl (fun (g:Int) q=>(Int.gcd g ((q.num*1).tdiv q.den):Int)) g=(l.foldl (fun g c=>Nat.gcd g c.natAbs) g:Nat):=by
  intro l
  induction l with
  | nil=>intro g;rfl
  | cons a l ih =>
   intro g
   have:=ih (Nat.gcd g a.natAbs)
   simp only [qs,List.map_cons,List.foldl_cons,Rat.den_intCast,Rat.num_intCast]at this ⊢
   rw [←this]
   congr 1
   simp [Int.gcd]
 exact key x 0
theorem HO(x:List Int)(i:Nat):(qs x).take i=qs (x.take i):=by simp [qs,List.map_take]
theorem CC{x:List Int}(hx:0<x.length):P7 (qs x)=(kL x:Rat):=by
 have e:(nth (qs x) ((qs x).length-1)).num=lead x:=by rw [abL];simp [lead]
 unfold P7 kL
 rw [HN,ab0,kR,e]
 split
 ·rw [Rat.intCast_neg]
 ·rfl
theorem alY{x:List Int}(cx:Cn x)(hx:x ≠ []):qpr (qs x)=qs (rF x):=by
 have oF:=List.length_pos_iff.2 hx
 have h0:=mX x
 have gx:=cQ cx hx
 have hp:kL x≠0:=by omega
 have hc:=fP hp
 rw [qpr,CC oF,fR,rF,←vK]
 congr 1
 simp only [qs,List.map_map]
 refine List.map_congr_left fun v hv=>?_
 simp only [Function.comp_apply]
 have hd:=HI x v hv
 obtain⟨w,rfl⟩:=hd
 have:j1 (kL x) (kL x*w)=w:=by
  unfold j1
  rw [if_pos (Int.mul_emod_right _ _)]
  exact Int.mul_ediv_cancel_left _ hp
 rw [this,Rat.intCast_mul]
 grind
theorem lN{x:List Int}{s:Nat}(hs:∀c∈x,sz 2 c≤s):sz 2 (bL x:Int)≤s:=by
 by_cases h:∃c∈x,c≠0
 ·obtain⟨c,hc,h0⟩:=h
  refine Nat.le_trans (cB (by decide) ?_) (hs c hc)
  have:=Int.le_of_dvd (a:=(bL x:Int)) (b:=(c.natAbs:Int)) (by omega) (Int.dvd_natAbs.2 (eN x _ hc))
  omega
 ·have h1:bL x=0:=by
   have h2:(0:Nat)∣bL x:=rE fun c hc=>by
    have:c=0:=Classical.byContradiction fun h3=>h ⟨c,hc,h3⟩
    rw [this];exact Int.dvd_refl _
   exact Nat.eq_zero_of_zero_dvd h2
  rw [h1];show sz 2 0≤s;rw [iU];omega
theorem CD(x:List Int){s n:Nat}(hx:Bd 2 s n x)(cx:Cn x)(uK:1≤s)(hs:s≤YY)(hn:n<1099511627776):aH env.P 155 [PI x] (.fG [.ag (ri (kL x)),PI (rF x)]):=by
 have hlx:=hx.len
 by_cases h0:x = []
 ·subst h0
  have hz:=oK
  rw [show kL ([]:List Int)=0 by decide,show rF ([]:List Int) = []from rfl]
  refine cA [(0,PI [])] Tryz.func155 ?_
  refine aA [0,2] ?_
  refine aM [0,2,11] ?_
  refine bP ?_ ?_<;>intro h
  ·refine aY [2,3] hz ?_
   refine W.ret ?_
   simp [go]
   all_goals rfl
  ·simp at h
 ·have oF:=List.length_pos_iff.2 h0
  have hp:=mX x
  have gx:=cQ cx h0
  have hp0:kL x≠0:=by omega
  have hgs:∀i,sz 2 (bL (x.take i):Int)≤s:=fun i=>lN fun c hc=>hx.sz c (List.mem_of_mem_take hc)
  have yR:sz 2 (kL x)≤s:=by
   have:=lN hx.sz
   unfold kL;split
   ·rw [o6];exact this
   ·exact this
  have s1:sz 2 1≤1:=cK (by decide) (by decide)
  have zc:ZR YY (kL x:Rat):=nQ (Nat.le_trans yR hs) (by decide)
  have e1:(1:Rat)/(kL x:Rat)=dJ 1 (kL x):=by rw [eR hp0];simp
  have:=rH (qs x) hs uK (fun q hq=>by
   simp only [qs,List.mem_map]at hq
   obtain⟨c,hc,rfl⟩:=hq
   exact nQ (hx.sz c hc) uK) (by simp;omega) (by simpa [qs]using h0)
   (fun i=>by rw [HO,HN];omega) (fun i=>by rw [HO,HN];decide) (fun i=>by rw [HN,HO,ab0];exact hgs i)
   (by rw [CC oF];exact zc) (by rw [CC oF];exact fP hp0) (by rw [CC oF,e1];exact rG hp0 (by show sz 2 1≤137438953472;omega) (Nat.le_trans yR hs))
  rw [CC oF,alY cx h0,oI,oI,RR,fN]at this
  exact this
theorem XE{D a b:Nat}(hD:0<D)(ha:a∣D)(hb:b∣D):Nat.lcm (D/a) (D/b)=D/Nat.gcd a b:=by
 have ha0:0<a:=Nat.pos_of_dvd_of_pos ha hD
 have hb0:0<b:=Nat.pos_of_dvd_of_pos hb hD
 have hg:0<Nat.gcd a b:=Nat.gcd_pos_of_pos_left _ ha0
 obtain⟨a',b',hc,ea,eb⟩:=Nat.exists_coprime a b
 generalize Nat.gcd a b=g at *
 obtain⟨p,hp⟩:=ha
 obtain⟨q,hq⟩:=hb
 have h1:a'*p=b'*q:=by
  have:g*(a'*p)=g*(b'*q):=by rw [ea]at hp;rw [eb]at hq;grind
  exact Nat.eq_of_mul_eq_mul_left hg this
 have h2:a'∣q:=hc.dvd_of_dvd_mul_left (by rw [←h1];exact Nat.dvd_mul_right _ _)
 obtain⟨m,rfl⟩:=h2
 have axa:0<a':=by
  rcases Nat.eq_zero_or_pos a' with h | h
  ·rw [h]at ea;omega
  ·exact h
 have h3:p=b'*m:=by
  have:a'*p=a'*(b'*m):=by rw [h1];grind
  exact Nat.eq_of_mul_eq_mul_left axa this
 subst h3
 have e1:D/a=b'*m:=by rw [hp];exact Nat.mul_div_cancel_left _ ha0
 have e2:D/b=a'*m:=by rw [hq];exact Nat.mul_div_cancel_left _ hb0
 have e3:D/g=a'*b'*m:=by
  rw [hp,ea,show a'*g*(b'*m)=g*(a'*b'*m)by grind]
  exact Nat.mul_div_cancel_left _ hg
 rw [e1,e2,e3,Nat.lcm_mul_right,Nat.lcm_comm,Nat.lcm,show a'.gcd b'=1 from hc,Nat.div_one]
theorem ab1(n:Nat)(q:Rat):((n:Int)*q.den).tdiv (Int.gcd n q.den)=(Nat.lcm n q.den:Nat):=by
 have:Int.gcd (n:Int) (q.den:Int)=Nat.gcd n q.den:=rfl
 rw [this,←Int.natCast_mul,←Int.ofNat_tdiv]
 rfl
theorem rI{v:Int}{D:Nat}(hD:0<D):(dJ v D).den=D/Nat.gcd D v.natAbs:=by
 have h:=pH v D (by omega)
 have h2:¬(D:Int)<0:=by omega
 simp only [h2,if_false]at h
 have:Int.gcd v (D:Int)=Nat.gcd D v.natAbs:=by rw [Int.gcd,Nat.gcd_comm];rfl
 rw [this]at h
 exact_mod_cast h
theorem yU{v:Int}{D:Nat}(hD:0<D):(dJ v D).num=v/(Nat.gcd D v.natAbs:Nat):=by
 have h:=pG v D (by omega)
 have h2:¬(D:Int)<0:=by omega
 simp only [h2,if_false]at h
 have:Int.gcd v (D:Int)=Nat.gcd D v.natAbs:=by rw [Int.gcd,Nat.gcd_comm];rfl
 rw [this]at h
 exact h
def LO(D:Nat)(x:List Int):Nat:=Nat.gcd D (bL x)
theorem xI{D:Nat}(hD:0<D)(x:List Int):zN (qd x D)=(D/LO D x:Nat):=by
 have key:∀(l:List Int) (g:Nat),g∣D→(qd l D).foldl (fun (d:Int) q=>(d*q.den).tdiv (Int.gcd d q.den)) (D/g:Nat)=(D/(l.foldl (fun g c=>Nat.gcd g c.natAbs) g):Nat):=by
  intro l
  induction l with
  | nil=>intro g _;rfl
  | cons a l ih =>
   intro g hg
   have h1:=ih (Nat.gcd g a.natAbs) (Nat.dvd_trans (Nat.gcd_dvd_left _ _) hg)
   simp only [qd,List.map_cons,List.foldl_cons]at h1 ⊢
   rw [ab1,rI hD,XE hD hg (Nat.gcd_dvd_left _ _)]
   rw [show Nat.gcd g (Nat.gcd D a.natAbs)=Nat.gcd g a.natAbs by rw [←Nat.gcd_assoc,Nat.gcd_eq_left hg]]
   exact h1
 have h2:∀(l:List Int) (g:Nat),l.foldl (fun g c=>Nat.gcd g c.natAbs) g=Nat.gcd g (bL l):=by
  intro l
  unfold bL
  induction l with
  | nil=>intro g;simp
  | cons a l ih =>
   intro g
   simp only [List.foldl_cons]
   rw [ih,ih (Nat.gcd 0 a.natAbs),Nat.gcd_zero_left,Nat.gcd_assoc]
 have h3:=key x D (Nat.dvd_refl _)
 rw [Nat.div_self hD,h2]at h3
 exact h3
theorem ab2{D:Nat}(hD:0<D)(x:List Int){G:Nat}(hG:G∣D)(hx:∀c∈x,(G:Int)∣c):TE (D/G:Nat) (qd x D)=(bL x/G:Nat):=by
 have hG0:0<G:=Nat.pos_of_dvd_of_pos hG hD
 have key:∀(l:List Int) (g:Nat),(∀c∈l,(G:Int)∣c)→G∣g→(qd l D).foldl (fun (g:Int) q=>(Int.gcd g ((q.num*((D/G:Nat):Int)).tdiv q.den):Int)) (g/G:Nat)=((l.foldl (fun g c=>Nat.gcd g c.natAbs) g)/G:Nat):=by
  intro l
  induction l with
  | nil=>intro g _ _;rfl
  | cons a l ih =>
   intro g hl hg
   have ha:G∣a.natAbs:=Int.ofNat_dvd_left.1 (hl a (by simp))
   have h1:=ih (Nat.gcd g a.natAbs) (fun c hc=>hl c (by simp [hc])) (Nat.dvd_gcd hg ha)
   simp only [qd,List.map_cons,List.foldl_cons]at h1 ⊢
   have e:((dJ a D).num*((D/G:Nat):Int)).tdiv (dJ a D).den=a/(G:Int):=by
    rw [yU hD,rI hD]
    have HE:Nat.gcd D a.natAbs∣D:=Nat.gcd_dvd_left _ _
    have I3:Nat.gcd D a.natAbs∣a.natAbs:=Nat.gcd_dvd_right _ _
    have hgp:0<Nat.gcd D a.natAbs:=Nat.gcd_pos_of_pos_left _ hD
    generalize Nat.gcd D a.natAbs=k at *
    obtain⟨m,hm⟩:=HE
    obtain⟨n,hn⟩:(k:Int)∣a:=Int.ofNat_dvd_left.2 I3
    obtain⟨p,hp⟩:=hG
    obtain⟨r,hr⟩:=hl a (by simp)
    have NA:0<m:=by
     rcases Nat.eq_zero_or_pos m with h | h
     ·rw [h]at hm;omega
     ·exact h
    rw [show a/(k:Int)=n by rw [hn];exact Int.mul_ediv_cancel_left _ (by omega),show D/G=p by rw [hp];exact Nat.mul_div_cancel_left _ hG0,show D/k=m by rw [hm];exact Nat.mul_div_cancel_left _ hgp,
     show a/(G:Int)=r by rw [hr];exact Int.mul_ediv_cancel_left _ (by omega)]
    have e2:n*(p:Int)=m*r:=by
     have hDI:(k:Int)*m=G*p:=by exact_mod_cast hm.symm.trans hp
     have hk:(k:Int)*n=G*r:=hn.symm.trans hr
     have uR:(k:Int)≠0:=by omega
     have hG1:(G:Int)≠0:=by omega
     have:(k:Int)*G*(n*p)=k*G*(m*r):=by
      have e3:(k:Int)*G*(n*p)=(k*n)*(G*p):=by grind
      rw [e3,hk,←hDI];grind
     exact Int.eq_of_mul_eq_mul_left (Int.mul_ne_zero uR hG1) this
    rw [e2]
    exact Int.mul_tdiv_cancel_left _ (by omega)
   rw [e,show Int.gcd ((g/G:Nat):Int) (a/(G:Int))=Nat.gcd g a.natAbs/G from ?_]
   ·exact h1
   ·rw [Int.gcd,Int.natAbs_natCast,←Nat.gcd_div hg ha]
    congr 1
    obtain⟨r,hr⟩:=hl a (by simp)
    rw [hr,Int.mul_ediv_cancel_left _ (show (G:Int)≠0 by omega),Int.natAbs_mul,Int.natAbs_natCast,Nat.mul_div_cancel_left _ hG0]
 have:=key x 0 hx (Nat.dvd_zero _)
 rw [Nat.zero_div]at this
 exact this
theorem vP(D:Nat)(x:List Int):LO D x∣D:=Nat.gcd_dvd_left _ _
theorem TF{D:Nat}(hD:0<D)(x:List Int):0<LO D x:=Nat.gcd_pos_of_pos_left _ hD
theorem TG(D:Nat)(x:List Int):∀c∈x,((LO D x:Nat):Int)∣c:=fun c hc=>Int.dvd_trans (Int.ofNat_dvd.2 (Nat.gcd_dvd_right _ _)) (eN x c hc)
theorem yV{v:Int}{D:Nat}(hD:0<D):(dJ v D).num<0↔v<0:=by
 rw [yU hD]
 have hg:0<Nat.gcd D v.natAbs:=Nat.gcd_pos_of_pos_left _ hD
 obtain⟨n,hn⟩:((Nat.gcd D v.natAbs:Nat):Int)∣v:=Int.ofNat_dvd_left.2 (Nat.gcd_dvd_right _ _)
 generalize Nat.gcd D v.natAbs=g at *
 rw [hn,Int.mul_ediv_cancel_left _ (show (g:Int)≠0 by omega)]
 constructor
 ·intro h;exact Int.mul_neg_of_pos_of_neg (by omega) h
 ·intro h
  rcases Int.lt_or_le n 0 with h1 | h1
  ·exact h1
  ·have:=Int.mul_nonneg (show (0:Int)≤g by omega) h1
   omega
theorem ab3{D:Nat}(hD:0<D){x:List Int}(hx:0<x.length):P7 (qd x D)=dJ (kL x) D:=by
 have xJ:(D:Int)≠0:=by omega
 have e:(nth (qd x D) ((qd x D).length-1)).num<0↔lead x<0:=by
  rw [HK xJ,yV hD];simp [lead]
 have hG:=TF hD x
 have e2:dJ (TE (zN (qd x D)) (qd x D)) (zN (qd x D))=dJ (bL x) D:=by
  rw [xI hD,ab2 hD x (vP D x) (TG D x)]
  have h1:D/LO D x*LO D x=D:=Nat.div_mul_cancel (vP D x)
  have h2:bL x/LO D x*LO D x=bL x:=Nat.div_mul_cancel (Nat.gcd_dvd_right _ _)
  have h3:0<D/LO D x:=Nat.div_pos (Nat.le_of_dvd hD (vP D x)) hG
  have h4:=TC (v:=(bL x/LO D x:Nat)) (D:=(D/LO D x:Nat)) (l:=(LO D x:Nat)) (by omega) (by omega)
  rw [←Int.natCast_mul,←Int.natCast_mul,h1,h2]at h4
  exact h4.symm
 unfold P7 kL
 rw [e2]
 by_cases h:lead x<0
 ·rw [if_pos (e.2 h),if_pos h,←TD xJ];grind
 ·rw [if_neg (fun h2=>h (e.1 h2)),if_neg h]
theorem TH{v D:Int}(hD:D≠0)(hv:v≠0):1/dJ v D=dJ D v:=by
 rw [eR hD,eR hv]
 have h1:=fP hD
 have h2:=fP hv
 grind
theorem P8{x:List Int}(cx:Cn x)(hx:x ≠ []):kL x≠0:=by
 have h0:=mX x
 have gx:=cQ cx hx
 omega
theorem al0{D:Nat}(hD:0<D){x:List Int}(cx:Cn x)(hx:x ≠ []):qpr (qd x D)=qs (rF x):=by
 have oF:=List.length_pos_iff.2 hx
 have xJ:(D:Int)≠0:=by omega
 have hp:=P8 cx hx
 have hc:=fP hp
 have hDc:=fP xJ
 rw [qpr,ab3 hD oF,TH xJ hp,fR,rF,←vK]
 congr 1
 simp only [qd,qs,List.map_map]
 refine List.map_congr_left fun v hv=>?_
 simp only [Function.comp_apply]
 obtain⟨w,rfl⟩:=HI x v hv
 have:j1 (kL x) (kL x*w)=w:=by
  unfold j1
  rw [if_pos (Int.mul_emod_right _ _)]
  exact Int.mul_ediv_cancel_left _ hp
 rw [this,eR xJ,eR hp,Rat.intCast_mul]
 grind
theorem LP(x:List Int):jQ x=if lead x<0 then fW (rF x)else rF x:=by
 unfold rF kL
 split
 ·have e:∀v,j1 (-(bL x:Int)) v = - j1 (bL x) v:=fun v=>by
   unfold j1
   rw [Int.emod_neg,Int.ediv_neg]
   split<;>simp
  refine Cn.ext (Cn.cut _) (Cn.fW _) fun t=>?_
  rw [w8,cV,jQ,cV]
  have h1:=gM (t:=t) (-1) (j1 (bL x)) x
  have h2:(x.map fun v=>j1 (bL x) v * -1)=x.map (j1 (-(bL x:Int))):=List.map_congr_left fun v _=>by rw [e];omega
  rw [h2]at h1
  rw [h1];omega
 ·rfl
theorem P9(x:List Int)(D:Nat)(hD:0<D){s n:Nat}(hx:Bd 2 s n x)(sD:sz 2 D≤s)(cx:Cn x)(h0:x ≠ [])(uK:1≤s)(hs:s≤YY)(hn:n<1099511627776) :
  aH env.P 155 [PP (qd x D)] (.fG [RR (dJ (kL x) D),PI (rF x)]):=by
 have xJ:(D:Int)≠0:=by omega
 have oF:=List.length_pos_iff.2 h0
 have hp:=P8 cx h0
 have hlen:=hx.len
 have sdiv:∀(a b:Nat),sz 2 (a:Int)≤s→sz 2 ((a/b:Nat):Int)≤s:=fun a b h=>Nat.le_trans (cB (by decide) (by rw [Int.natAbs_natCast,Int.natAbs_natCast];exact Nat.div_le_self a b)) h
 have spc:sz 2 (kL x)≤s:=by
  have:=lN hx.sz
  refine Nat.le_trans (cB (by decide) (Nat.le_of_eq ?_)) this
  rw [mX];rfl
 have tk:∀i,(qd x D).take i=qd (x.take i) D:=fun i=>by simp [qd,List.map_take]
 have hc:=ab3 hD oF
 have h1:=rH (qd x D) (k:=s) hs uK (fun q hq=>by
   simp only [List.mem_map]at hq
   obtain⟨v,hv,rfl⟩:=hq
   exact rG xJ (hx.sz v hv) sD) (by simp;omega) (by simpa using h0)
  (fun i=>by rw [tk,xI hD];exact sdiv _ _ sD)
  (fun i=>by
   rw [tk,xI hD]
   have:=Nat.div_pos (Nat.le_of_dvd hD (vP D (x.take i))) (TF hD _)
   omega)
  (fun i=>by
   rw [tk,xI hD,ab2 hD (x.take i) (vP D x) (fun c hc=>TG D x c (List.mem_of_mem_take hc))]
   exact sdiv _ _ (lN fun c hc=>hx.sz c (List.mem_of_mem_take hc)))
  (by rw [hc];exact rG xJ (Nat.le_trans spc hs) (Nat.le_trans sD hs))
  (by rw [hc];exact fun h=>hp ((yT xJ).1 h))
  (by rw [hc,TH xJ hp];exact rG hp (Nat.le_trans sD hs) (Nat.le_trans spc hs))
 rw [hc,al0 hD cx h0,oI]at h1
 exact h1
theorem ab4{x:List Int}{s n:Nat}(hx:Bd 2 s n x):Bd 2 s n (rF x):=Bd.cut ⟨by simpa using hx.len,fun c hc=>by
 simp only [List.mem_map]at hc
 obtain⟨v,hv,rfl⟩:=hc
 refine Nat.le_trans (cB (by decide) ?_) (hx.sz v hv)
 unfold j1
 split
 ·exact Int.natAbs_ediv_le_natAbs _ _
 ·simp⟩
theorem LQ(x:List Int)(D:Nat)(hD:0<D){s n:Nat}(hx:Bd 2 s n x)(sD:sz 2 D≤s)(cx:Cn x)(uK:1≤s)(hs:s≤YY)(hn:n<1099511627776) :
  aH env.P 159 [PP (qd x D)] (PI (jQ x)):=by
 have xJ:(D:Int)≠0:=by omega
 have bp:=ab4 hx
 have hN:=FD (rF x) (bp.mono hs (by omega))
 rw [LP]
 have hP:∃q:Rat,aH env.P 155 [PP (qd x D)] (.fG [RR q,PI (rF x)])∧(q.num<0↔lead x<0):=by
  by_cases h0:x = []
  ·subst h0
   refine⟨(kL []:Int),?_,?_⟩
   ·have:=CD [] hx cx uK hs hn
    rw [RR,fN]
    exact this
   ·rw [show kL ([]:List Int)=0 by decide];decide
  ·refine⟨_,P9 x D hD hx sD cx h0 uK hs hn,?_⟩
   rw [yV hD]
   have gx:=cQ cx h0
   unfold kL
   split<;>omega
 obtain⟨q,hP,hq⟩:=hP
 generalize rF x=y at *
 generalize qd x D=l at *
 refine cA [(0,PP l)] Tryz.func159 ?_
 refine aA [0] ?_
 refine aY [3,4] hP ?_
 refine aM [4,12] ?_
 refine bP ?_ ?_<;>intro h
 ·simp at h
  rw [if_pos (hq.1 h)]
  refine aY [2] hN ?_
  exact cP
 ·have h:¬q.num<0:=by simpa using h
  rw [if_neg (fun h2=>h (hq.2 h2))]
  refine W.skip ?_
  refine aA [2] ?_
  exact cP
end Go.Proofs.YtiobceocpabjdaaGreat
namespace Pm
open Go Go.RowKit
section
variable {E:Env} {c:Cx} {w0:World} {S0:dV} {m:Nat} {G:Gs}
theorem af4(hI:Inv w0 S0 c){t e:TypeId}{n bb len:Nat}{z:List PV}(hE:E.ty t = .slice e n bb z){parts:Array (Nat × Operand)}{ρ:Operand→PV}{vρ:Operand→Value}(hρ:∀x,aK c (ρ x) (vρ x))
  {els:List (List PV)} (AO:gV n 0 (parts.toList.map fun x=>(x.1,ρ x.2))=some els) (hlen:len=els.length) (hsm:len≤4096) (hn:n≤4096)
  (jS:∀e∈els,∀p∈e,iP c.rows p) :
  ∃cU,(Instr.buildSlice t len (parts.map fun(i,x)=>(i,vρ x))).run E.P c.w = .ok (.slice (some ⟨c.w.heap.size,0,none⟩) len len) (c.w.alloc (.cells cU e))∧cU.size=len*n∧bE (aQ c) els.flatten cU.toList∧(∀u∈cU.toList,u.oneCell'=true)∧(∀e∈els,e.length=n)∧0<n:=by
 obtain⟨hu,hnp,GB,i,zv,hi,hz,hs,_,N6,_⟩:=fK hE
 obtain⟨g1,g2,g3⟩:=nJ AO
 have R7:parts.size=els.length:=by rw [g1];simp
 have au0:zv.cells.size=n:=by rw [←GB,←N6];simp
 have EJ:∀j (x:Nat × Value),((parts.map fun(i,x)=>(i,vρ x)).toList)[j]? = some x→x.1=0+j ∧ ∃e,els[j]? = some e∧bE (aQ c) e x.2.cells.toList ∧ ∀u∈x.2.cells.toList,u.oneCell'=true:=by
  intro j x hx
  simp at hx
  obtain⟨a,b,iJ,rfl⟩:=hx
  obtain⟨q1,e,q2,q3⟩:=g3 j (a,ρ b) (by simp;exact⟨a,b,iJ,rfl,rfl⟩)
  have q4:=lW (hρ b) q3 (fun q hq=>jS e (List.mem_of_getElem? q2) q hq)
  exact⟨q1,e,q2,q4.1,q4.2⟩
 obtain⟨cU,f1,f2⟩:=AS (n:=n) (parts.map fun(i,x)=>(i,vρ x)).toList 0 ((Array.range (len*n)).map (zv.cells[· % zv.cells.size]!)) (fun j x hx=>by
  obtain⟨q1,e,q2,q3,_⟩:=EJ j x hx
  refine⟨q1,?_⟩
  have:=q3.length
  rw [g2 e (List.mem_of_getElem? q2)]at this
  simpa using this.symm) (by simp [R7,hlen])
 simp only [Nat.zero_mul,List.take_zero,List.nil_append]at f2
 have iZ:(Instr.buildSlice t len (parts.map fun(i,x)=>(i,vρ x))).run E.P c.w = .ok (.slice (some ⟨c.w.heap.size,0,none⟩) len len) (c.w.alloc (.cells cU e)):=by
  have hbound:¬(16777216<len*n):=by
   have:len*n≤4096*4096:=Nat.mul_le_mul hsm hn
   omega
  by_cases h0:len*n=0
  ·have DK:len=0:=by
    rcases Nat.mul_eq_zero.1 h0 with h | h
    ·exact h
    ·omega
   have hp0:parts = #[]:=Array.eq_empty_of_size_eq_zero (by omega)
   subst hp0
   subst DK
   simp [Instr.fill]at f1
   subst f1
   have I2:Array.range 0 = #[]:=rfl
   simp [Instr.buildSlice,run_underlying hu,dF hi,newRow,Instr.fill,I2]
  ·have f1':Instr.fill (fun i=>some (i*n,n)) ((Array.range (len*n)).map (zv.cells[· % zv.cells.size]!)) (parts.toList.map fun x=>(x.1,vρ x.2))=some cU:=by simpa using f1
   simp only [Instr.buildSlice,Sem.run_bind,run_underlying hu,Result.andThen_ok,dF hi,hs]
   simp [h0,hbound,newRow,zeroValue,typeInfo,hi,hz,f1']
 have e3:cU.toList=((parts.map fun(i,x)=>(i,vρ x)).toList.map fun x=>x.2.cells.toList).flatten:=by rw [f2,List.flatMap_def]
 have key:∀(vs:List (Nat × Value)) (es:List (List PV)),vs.length=es.length→(∀(j:Nat) (x:Nat × Value),vs[j]? = some x → ∃e,es[j]? = some e∧bE (aQ c) e x.2.cells.toList ∧ ∀u∈x.2.cells.toList,u.oneCell'=true) →
   bE (aQ c) es.flatten (vs.map fun x=>x.2.cells.toList).flatten ∧ ∀u∈(vs.map fun x=>x.2.cells.toList).flatten,u.oneCell'=true:=by
  intro vs
  induction vs with
  | nil =>
   intro es hl _
   have:es = []:=List.eq_nil_of_length_eq_zero hl.symm
   subst this
   exact⟨trivial,by simp⟩
  | cons v vs ih =>
   intro es hl h
   match es,hl with
   | e::es,hl =>
    obtain⟨h1,h2⟩:=ih es (by simpa using hl) fun j x hx=>by simpa using h (j+1) x (by simpa using hx)
    obtain⟨e',q1,q2,q3⟩:=h 0 v (by simp)
    simp at q1;subst q1
    simp only [List.flatten_cons,List.map_cons]
    refine⟨bE.append q2 h1,fun u hu=>?_⟩
    rcases List.mem_append.1 hu with hu | hu
    ·exact q3 u hu
    ·exact h2 u hu
 obtain⟨k1,k2⟩:=key (parts.map fun(i,x)=>(i,vρ x)).toList els (by simp [R7]) fun j x hx=>(EJ j x hx).2
 rw [←e3]at k1 k2
 refine⟨cU,iZ,?_,k1,k2,g2,hnp⟩
 have h5:=k1.length
 have fl:∀ {l:List (List PV)},(∀e∈l,e.length=n)→l.flatten.length=l.length*n:=by
  intro l
  induction l with
  | nil=>intro _;simp
  | cons e l ih=>intro h;rw [List.flatten_cons,List.length_append,ih (fun e he=>h e (by simp [he])),h e (by simp),List.length_cons,Nat.add_mul];omega
 rw [fl g2,Array.length_toList]at h5
 rw [hlen];exact h5.symm
def LR(E:Env)(o:Oper)(K:PS→Prop)(σ:PS):Prop:=
 match o.op with
 | .buildSlice t len parts =>
  match E.ty t with
  | .slice e n _ _=>∃els,gV n 0 (parts.toList.map fun x=>(x.1,aS σ.f x.2))=some els∧len=els.length∧len≤4096∧n≤4096∧(∀x∈els,∀p∈x,iP σ.rows p) ∧
    GC K σ o.dst (.own (o.dst.getD 0) σ.clock 0 els.length) (o.dst.getD 0) e n els
  | _=>False
 | _=>False
theorem CE{o:Oper}{a:Act}{w:World}{σ:PS}{K:PS→Prop}(h:LR E o K σ)(hR:Rel w0 S0 m G σ a w)(hd:∀t,o.dst=some t→t<m)
  {K':Act→World→Prop} {Q:Exit→Act→World→Prop} (hK:∀σ' a' w',K σ'→Rel w0 S0 m G σ' a' w'→K' a' w'):o.wp E.P a w K' Q:=by
 obtain⟨⟨c,rfl,hr,fF,hI,hf,hG⟩,hn,fC⟩:=hR
 have hρ:=lJ hf
 obtain⟨dst,op,type,pos,after,guard⟩:=o
 simp only at hd
 unfold LR at h
 simp only at h
 split at h
 ·rename_i t len parts
  split at h
  ·rename_i e n b z hE
   obtain⟨els,h1,h2,h3,h4,h5,h⟩:=h
   rw [←hr]at h5
   obtain⟨cU,g1,g2,g3,g4,g5,g6⟩:=af4 hI hE hρ h1 h2 h3 h4 h5
   obtain⟨wN,hA⟩:=wW hI (ver:=σ.clock) (fun hu=>Nat.lt_irrefl _ (fF _ hu)) (dst.getD 0) e n els.length els.length els cU rfl (Nat.le_refl _) (by simp only [maxLen];omega) (by rw [g2,h2]) (by
    rw [List.take_of_length_le (by rw [Array.length_toList,g2,h2];exact Nat.le_refl _)];exact g3) g4 g5 g6
   obtain⟨f',rows',wM,AW⟩:=qK (K:=fun f' r'=>K ⟨f',r',σ.clock+1⟩) hr fF hf hG hn fC h wN hA (kU (r:=⟨σ.clock,e,n,els⟩) (A:=some ⟨c.w.heap.size,0,none⟩) (cap:=els.length) (by simp [dX]) rfl (Or.inl rfl) (by simp [dX])) hd
   unfold Oper.wp
   have:(execOp a.eval { dst:=dst,op:=.buildSlice t len parts,type:=type,pos:=pos,after:=after,guard:=guard }).run E.P c.w = .ok (.value (.slice (some ⟨c.w.heap.size,0,none⟩) els.length els.length)) (c.w.alloc (.cells cU e)):=by
    rw [h2]at g1
    simp only [execOp,Sem.run_bind,h2,g1,Result.andThen_ok,Sem.run_pure]
   rw [this]
   refine hK _ _ _ wM (AW.mono fun v hv=>?_)
   show v<σ.clock+1
   rcases hv with rfl | hv
   ·omega
   ·have:v<σ.clock:=hv
    omega
  ·exact h.elim
 ·exact h.elim
theorem mY{ops:Array Oper}{K:PS→Prop}{Q:Exit→Act→World→Prop}{l2:List Oper}(hK:∀σ' a' w',K σ'→Rel w0 S0 m G σ' a' w'→wpList E.P ops Q l2 a' w') :
  ∀(l:List Oper) (σ:PS) (a:Act) (w:World),(∀o∈l,∀t,o.dst=some t→t<m)→aN E ops.toList l K σ→Rel w0 S0 m G σ a w→wpList E.P ops Q (l++l2) a w
 | [],σ,a,w,_,h,hR=>hK _ _ _ h hR
 | o::os,σ,a,w,hd,h,hR=>by
  have hdo:=hd o (by simp)
  have hds:∀o∈os,∀t,o.dst=some t→t<m:=fun o ho=>hd o (by simp [ho])
  have wanted:∀ {σ},eW E o (aN E ops.toList os K) σ→Rel w0 S0 m G σ a w→o.wp E.P a w (wpList E.P ops Q (os++l2)) Q:=fun hp hR =>
   yG hp hR hdo fun σ' a' w' hk lM=>mY hK os σ' a' w' hds hk lM
  show wpList E.P ops Q (o::(os++l2)) a w
  unfold wpList
  simp only [aN]at h
  split at h
  ·rename_i hg
   rw [if_pos (by simp [Region.wanted,hg])]
   exact .inl (wanted h hR)
  ·rename_i j want hg
   split at h
   ·exact h.elim
   ·rename_i d I3
    have hd3:(ops[j]?).bind (·.dst)=some d:=by simpa using I3
    have skip:yielded ops a.tmps j≠some want→aN E ops.toList os K (σ.put o.dst (.fG []))→(if Region.wanted o (yielded ops a.tmps)=true then o.wp E.P a w (wpList E.P ops Q (os++l2)) Q∨(o.asks E.P a w∧LetsOut Q)else wpList E.P ops Q (os++l2) (a.put o.dst undef) w):=by
     intro hy h2
     rw [if_neg (by simpa [Region.wanted,hg]using hy)]
     refine mY hK os _ _ w hds h2 ?_
     obtain⟨⟨c,rfl,hr,fF,hI,hf,hG⟩,hn,fC⟩:=hR
     exact lL hf hG hn fC (sR.refl c) hI OH hdo rfl (by simp [PS.put,hr]) fF
    obtain⟨c,_,_,_,_,hf,_⟩:=hR.ex
    have hx:=hf d
    rcases h with ⟨h1,h2⟩ | ⟨h1 | h1,h2⟩
    ·rw [h1]at hx
     rw [if_pos (by simp [Region.wanted,hg,iD hd3 hx])]
     exact .inl (wanted h2 hR)
    ·rw [h1]at hx
     exact skip (by rw [iD hd3 hx];cases want<;>simp) h2
    ·rw [h1]at hx
     exact skip (by rw [tI hd3 hx];simp) h2
end
theorem W.TJ{E:Env}{n:Nat}{tl:Nat→Nat}{Q:PX→PS→Prop}{σ:PS}{id:Nat}{ops:List Oper}{y:Code}(i:Nat){o:Oper}(ho:ops=ops.take i++o::ops.drop (i+1))(hg:o.guard=none)
  (h:∀K:PS→Prop,(∀σ,W E n tl y Q σ→K σ)→go (aN E ops (ops.take i) (fun σ=>LR E o (aN E ops (ops.drop (i+1)) K) σ) σ)):W E n tl (.seq (.region id ops.toArray false) y) Q σ:=by
 refine W.seq ?_
 intro iC w0 S0 G a w Q' hR hQ
 simp only [fB,A6,Bool.and_eq_true]at iC
 have hd:∀o∈ops,∀t,o.dst=some t→t<n:=fun o ho t ht=>by
  have:=Array.all_eq_true_iff_forall_mem.1 iC.1 o (by simpa using ho)
  simpa [ht]using this
 refine wp_region_list ?_
 show wpList E.P ops.toArray Q' ops a w
 have h1:=h (fun σ=>W E n tl y Q σ) fun _ h=>h
 have zE:o∈ops:=by rw [ho];simp
 have:=mY (E:=E) (w0:=w0) (S0:=S0) (m:=n) (G:=G) (ops:=ops.toArray) (Q:=Q') (l2:=o::ops.drop (i+1)) (K:=fun σ=>LR E o (aN E ops (ops.drop (i+1)) (fun σ=>W E n tl y Q σ)) σ) (fun σ' a' w' hl lM=>by
  unfold wpList
  rw [if_pos (by simp [Region.wanted,hg])]
  refine .inl (CE hl lM (hd o zE) fun σ2 a2 w2 hk hR2=>?_)
  exact i0 (E:=E) (ops:=ops.toArray) (fun σ3 a3 w3 hk3 hR3=>hQ .normal σ3 a3 w3 hk3 hR3) _ σ2 a2 w2 (fun o ho=>hd o (List.mem_of_mem_drop ho)) hk hR2) (ops.take i) σ a w (fun o ho=>hd o (List.mem_of_mem_take ho)) h1 hR
 rwa [←ho]at this
def CF(ti:TI)(rows:Rows)(len:Nat)(ps:List (Nat × PV))(K:TypeId→Nat→List (List PV)→Prop):Prop:=
 match ti with
 | .slice e n _ _=>i3 n 0 ps fun els=>aG (len=els.length∧len≤4096∧n≤4096∧gW rows els.flatten) (K e n els)
 | _=>False
@[congr] theorem af5{t t':TI}{rows rows':Rows}{len:Nat}{ps SR:List (Nat × PV)}{K:TypeId→Nat→List (List PV)→Prop}(h:t=t')(h2:ps=SR)(h3:rows=rows'):CF t rows len ps K=CF t' rows' len SR K:=by rw [h,h2,h3]
@[simp] theorem af6{e n b:Nat}{z:List PV}{rows:Rows}{len:Nat}{ps:List (Nat × PV)}{K:TypeId→Nat→List (List PV)→Prop}:CF (.slice e n b z) rows len ps K=i3 n 0 ps fun els=>aG (len=els.length∧len≤4096∧n≤4096∧gW rows els.flatten) (K e n els):=rfl
@[simp] theorem aup{E:Env}{K:PS→Prop}{f:Nat→PV}{rows:Rows}{clk:Nat}{d:Option Tmp}{ty:TypeId}{pos:String}{af:Array Edge}{t:TypeId}{len:Nat}{parts:Array (Nat × Operand)} :
  LR E ⟨d, .buildSlice t len parts,ty,pos,af,none⟩ K ⟨f,rows,clk⟩=CF (E.ty t) rows len (parts.toList.map fun x=>(x.1,aS f x.2)) fun e n els=>K ⟨put f d (.own (d.getD 0) clk 0 els.length),dX rows (d.getD 0) (some ⟨clk,e,n,els⟩),clk+1⟩:=by
 simp only [LR,CF]
 generalize E.ty t=T
 cases T with
 | slice e n b z =>
  simp only
  rw [←wZ]
  simp only [aG,GC,gW]
  apply propext
  constructor
  ·rintro⟨els,h1,h2,h3,h4,h5,h6⟩
   exact⟨els,h1,⟨h2,h3,h4,fun q hq=>by obtain⟨x,hx,hq⟩:=List.mem_flatten.1 hq;exact h5 x hx q hq⟩,h6⟩
  ·rintro⟨els,h1,⟨h2,h3,h4,h5⟩,h6⟩
   exact⟨els,h1,h2,h3,h4,fun x hx q hq=>h5 q (List.mem_flatten.2 ⟨x,hx,hq⟩),h6⟩
 | _=>rfl
end Pm
namespace Go.Proofs.YtiobceocpabjdaaGreat
open Go Pm
theorem FG(x:List Int)(c:Int)(hx:PD x)(hc:sz LL c<1099511627774)(h0:c≠0):aH env.P 262 [Po x,I c] (Po (aI (x.map (j1 c)))):=by
 have hxl:=hx.len
 refine cA [(0,Po x),(1,I c)] Tryz.func262 ?_
 refine aA [0,3] ?_
 refine aA [0,3,5] ?_
 refine W.row (id:=10) (emap ie (List.replicate x.length 0)) (by simp;exact⟨rfl,rfl,rfl⟩) (pC _) ?_
 refine aM [3,5,11,12,13] ?_
 refine W.block ?_
 refine W.a8 (fun q σ=>∃(i:Nat) (z:List Int) (v10:Nat) (rows:Pm.Rows) (clk:Nat),σ=⟨fa [(3, .ptr 3 0 0 0),(5, .own 10 v10 0 x.length),(11,Po x),(12, .int .i64 x.length),(13, .int .i64 i)],rows,clk⟩ ∧
  rows 3=some ⟨0,38,2,[ie c]⟩∧rows 10=some ⟨v10,38,2,emap ie z⟩∧q=x.length-i∧i≤x.length∧z.length=x.length∧z.take i=(x.take i).map (j1 c)) x.length ?_ ?_
 ·exact⟨_, .refl,0,List.replicate x.length 0,_,_,_,rfl,by simp,by simp,by omega,by omega,by simp,by simp⟩
 rintro q _ ⟨i,z,v10,rows,clk,rfl,fU,j7,hq,hi,hz,hv⟩
 refine cC [3,5,11,12,13,14] ?_
 refine bP ?_ ?_<;>intro h
 ·have hi:i<x.length:=by simp at h;omega
  have hE:=vM (hx.sz _ (bI hi)) hc h0
  have hE2:aH env.P 234 [I (nth x i),I c] (.fG [I (j1 c (nth x i)), .int .i64 (if nth x i%c=0 then 0 else 3)]):=by
   unfold j1
   split at hE
   ·rename_i h1;rw [if_pos h1,if_pos h1];exact hE
   ·rename_i h1;rw [if_neg h1,if_neg h1];exact hE
  have hts:(x.take (i+1)).map (j1 c)=(x.take i).map (j1 c) ++ [j1 c (nth x i)]:=by rw [aT hi];simp
  generalize (if nth x i%c=0 then(0:Int)else 3)=er at *
  generalize j1 c (nth x i)=ev at *
  generalize hxe:nth x i=xi at *
  refine iT ?_
  refine W.sr ?_
  simp (disch:=omega) [gw,hxe]
  refine bO [3,5,6,7,11,12,13] ?_
  refine W.b9 (fun K hK=>?_)
  simp (disch:=omega) [gw,fU]
  refine aD hE2 ?_
  simp (disch:=omega) [gw,j7,hz]
  refine W.lw [3,5,11,12,13] hK ?_;clear hK K;simp
  refine W.b9 (fun K hK=>?_);simp (disch:=omega) [gw]
  refine hK _ ⟨x.length-(i+1),_,aC _ [3,5,11,12,13],by omega,i+1,z.set i ev,v10,_,_,rfl,by simp [fU],by simp,by omega,by omega,by simp [hz],?_⟩
  rw [kX hv (by omega),hts]
 ·have hi:i=x.length:=by simp at h;omega
  subst hi
  rw [bJ hz,List.take_length]at hv
  have tM:=bJ hz
  refine eJ ?_
  have hzb:PB z:=by
   rw [hv]
   refine⟨fun v hv=>?_,by simpa using by omega⟩
   simp only [List.mem_map]at hv
   obtain⟨w,hw,rfl⟩:=hv
   have h1:=hx.sz w hw
   show sz LL (j1 c w)<1099511627776
   refine Nat.lt_of_le_of_lt (cB eB (y:=w) ?_) (by omega)
   unfold j1;split
   ·exact Int.natAbs_ediv_le_natAbs _ _
   ·simp
  have hN:=gY hzb
  rw [hv]at hN j7 tM
  generalize x.map (j1 c)=y at *
  have KT:y.length=x.length:=by rw [←hv];exact hz
  refine W.sr ?_
  simp (disch:=omega) [gw,j7,tM]
  refine cI [4] hN ?_
  exact cP
structure CV where
 x:List Int
 y:List Int
 d:Int
def CV.cells(c:CV):List PV:=[Po c.x,Po c.y, .bool (decide (c.d<0)),aJ u32 (aU LL c.d.natAbs)]
@[simp] theorem CV.bQ{c:CV}:c.cells = [Po c.x,Po c.y, .bool (decide (c.d<0)),aJ u32 (aU LL c.d.natAbs)]:=rfl
structure RC where
 x:RP
 y:RP
 s:Bool
 l:List Int
def RC.cells(c:RC):List PV:=[Pg c.x,Pg c.y, .bool c.s,aJ u32 c.l]
@[simp] theorem RC.bQ{c:RC}:c.cells = [Pg c.x,Pg c.y, .bool c.s,aJ u32 c.l]:=rfl
def RC.cut(c:RC)(k n:Nat):RC:=⟨mW k n c.x,mW k n c.y,c.s,c.l.take n⟩
theorem XF(c:RC)(k n:Nat)(hx:c.x.length<9223372036854775808)(hxc:∀e∈c.x,e.2.length<9223372036854775808)(hy:c.y.length<9223372036854775808)(hyc:∀e∈c.y,e.2.length<9223372036854775808)(hl:c.l.length<9223372036854775808)(hk:k<1099511627776)(hn:n<9223372036854775808) :
  aH env.P 92 [.ag c.cells, .int .i64 k, .int .i64 n] (.ag (c.cut k n).cells):=by
 have h1:=E7 c.x k n hx hxc hk hn
 have h2:=E7 c.y k n hy hyc hk hn
 have h3:=KW c.s c.l n hl hn
 obtain⟨x,y,s,l⟩:=c
 simp only [RC.cut,RC.bQ]at *
 generalize mW k n x=x' at *
 generalize mW k n y=y' at *
 generalize l.take n=l' at *
 refine cA [(0, .ag [Pg x,Pg y, .bool s,aJ u32 l]),(1, .int .i64 k),(2, .int .i64 n)] Tryz.func92 ?_
 refine aA [1,2,3,6] ?_
 refine kB ?_
 refine b8 h1 ?_
 refine b8 h2 ?_
 refine cI [6] h3 ?_
 exact cP
def dN(d:Int):Int:=if d=0 then 1 else d
theorem vQ(d:Int):dN d≠0:=by unfold dN;split<;>omega
def cg(x y:List Int)(d:Int):Int:=if dN d<0 then -(bL (dN d::(x++y)):Int)else bL (dN d::(x++y))
def nC(x y:List Int)(d:Int):CV:=⟨aI (x.map (j1 (cg x y d))),aI (y.map (j1 (cg x y d))),dN d/cg x y d⟩
theorem xK(x y:List Int)(d:Int){v:Int}(h:v∈dN d::(x++y)):cg x y d∣v:=by
 have:=eN _ v h
 unfold cg
 split
 ·exact Int.neg_dvd.2 this
 ·exact this
theorem TK(x y:List Int)(d:Int):cg x y d≠0:=fun h=>by
 have:=xK x y d (List.mem_cons_self ..)
 rw [h]at this
 exact vQ d (Int.zero_dvd.1 this)
theorem HP:sz LL 1≤1:=cK eB (by decide)
theorem ab5{a b:Int}(h:a∣b)(hb:b≠0):sz LL a≤sz LL b:=cB eB (Nat.le_of_dvd (by omega) (Int.natAbs_dvd_natAbs.2 h))
theorem xL(d:Int):aH env.P 124 [I d] (.bool (decide (d=0))):=by
 have:=BS (decide (d<0)) (aU LL d.natAbs)
 rw [show decide ((aU LL d.natAbs).length=0)=decide (d=0)from by
  by_cases h:d=0
  ·subst h;rfl
  ·have:aU LL d.natAbs ≠ []:=fun h2=>h (by have:=jX eB d.natAbs;rw [h2]at this;simp [V]at this;omega)
   have h3:=List.length_pos_iff.2 this
   simp [h];omega]at this
 exact this
theorem XG(c:RC){s n:Nat}(hx:mL c.x)(hy:mL c.y)(hl:pB c.l)(bx:Bd LL s n (c.x.map gv))(nR:Bd LL s n (c.y.map gv))(bd:sz LL (iv c.s c.l)≤s)(h1:1≤s)(hs:s<1099511627774)(hn:n<500000000000) :
  aH env.P 237 [.ag c.cells] (.ag (nC (eF c.x) (eF c.y) (iv c.s c.l)).cells):=by
 have p1:=eG c.x hx
 have p2:=eG c.y hy
 have p3:=oE c.s c.l hl
 have bX:Bd LL s n (eF c.x):=bx.cut
 have bY:Bd LL s n (eF c.y):=nR.cut
 obtain⟨x,y,sg,l⟩:=c
 simp only [RC.bQ]at *
 rw [show aI (x.map gv)=eF x from rfl]at p1
 rw [show aI (y.map gv)=eF y from rfl]at p2
 generalize eF x=X at *
 generalize eF y=Y at *
 generalize iv sg l=d at *
 have z0:=xL d
 have o1:=tN 1 (by decide) (by decide)
 have bD:sz LL (dN d)≤s:=by
  unfold dN;split
  ·exact Nat.le_trans HP h1
  ·exact bd
 have pS:=vQ d
 have hcg:=TK X Y d
 have hcd:=xK X Y d (List.mem_cons_self ..)
 have bG:sz LL (cg X Y d)≤s:=Nat.le_trans (ab5 hcd pS) bD
 have lX:=bX.len
 have lY:=bY.len
 have g1:=B0 ((dN d::(X++Y)).map iM) s hs (fun e he=>by
  simp only [List.mem_map]at he
  obtain⟨v,hv,rfl⟩:=he
  refine⟨eQ eB _,?_⟩
  rcases List.mem_cons.1 hv with rfl | hv
  ·exact bD
  ·rcases List.mem_append.1 hv with hv | hv
   ·exact bX.sz v hv
   ·exact bY.sz v hv) (by simp;omega)
 rw [bK,←eT]at g1
 have n1:=aij (x:=(bL (dN d::(X++Y)):Int)) (by
  refine Nat.lt_of_le_of_lt ?_ (show s<_ by omega)
  exact Nat.le_trans (ab5 (eN _ _ (List.mem_cons_self ..)) pS) bD)
 have e1:=vM (v:=dN d) (c:=cg X Y d) (by omega) (by omega) hcg
 rw [if_pos (Int.emod_eq_zero_of_dvd hcd)]at e1
 have v1:=FG X (cg X Y d) (PD.of bX (by omega) (by omega)) (by omega) hcg
 have v2':=FG Y (cg X Y d) (PD.of bY (by omega) (by omega)) (by omega) hcg
 unfold nC
 simp only [CV.bQ]
 generalize aI (X.map (j1 (cg X Y d)))=X' at *
 generalize aI (Y.map (j1 (cg X Y d)))=Y' at *
 have YW:cg X Y d=if dN d<0 then -(bL (dN d::(X++Y)):Int)else bL (dN d::(X++Y)):=rfl
 generalize (bL (dN d::(X++Y)):Int)=G at *
 generalize cg X Y d=g at *
 have Y7:dN d=if d=0 then 1 else d:=rfl
 generalize dN d=D at *
 generalize hD':D/g=D' at *
 refine cA [(0, .ag [Pg x,Pg y, .bool sg,aJ u32 l])] Tryz.func237 ?_
 refine aA [1,2] ?_
 refine kB ?_
 refine b8 p1 ?_
 refine b8 p2 ?_
 refine b8 p3 ?_
 rw [if_pos (by kernel_rfl)]
 simp (disch:=omega) [gw]
 refine bO [2,3,4,5] ?_
 refine W.gD (fun σ=>∃(v2 v5:Nat) (rows:Pm.Rows) (clk:Nat),σ=⟨fa [(2, .ptr 2 v2 0 0),(3,Po X),(4,Po Y),(5, .ptr 5 v5 0 0)],rows,clk⟩∧rows 2=some ⟨v2,71,4,[[.nil, .nil, .bool false, .nil]]⟩∧rows 5=some ⟨v5,38,2,[ie D]⟩) ?_ ?_
 ·refine aY [2,3,4,5,17] z0 ?_
  refine bP ?_ ?_<;>intro h
  ·simp at h
   rw [if_pos h]at Y7
   subst Y7
   refine W.b9 (fun K hK=>?_)
   simp (disch:=omega) [gw]
   refine b8 o1 ?_
   exact hK _ ⟨_,aC _ [2,3,4,5],_,_,_,_,rfl,by simp,by simp⟩
  ·simp at h
   rw [if_neg h]at Y7
   subst Y7
   refine W.skip ?_
   exact⟨_,aC _ [2,3,4,5],_,_,_,_,rfl,by simp,by simp⟩
 rintro _ ⟨v2,v5,rows,clk,rfl,cR,dY⟩
 obtain⟨W0,hW⟩:∃W0,W0=D::(X++Y):=⟨_,rfl⟩
 rw [←hW]at g1
 have hE:[PV.bool (decide (D<0)),us (aU LL D.natAbs)]::emap ie (X++Y)=emap ie W0:=by rw [hW];rfl
 have hlW:1+X.length+Y.length=W0.length:=by rw [hW];simp;omega
 refine W.TJ 1 rfl rfl (fun K hK=>?_)
 simp (disch:=omega) [gw,gP,dY]
 simp only [hE,hlW]
 simp (disch:=omega) [gw]
 refine b8 g1 ?_
 refine W.lw [2,3,4,5,6] hK ?_;clear hK K;simp
 refine W.gD (fun σ=>∃(v2 v5 v6:Nat) (rows:Pm.Rows) (clk:Nat),σ=⟨fa [(2, .ptr 2 v2 0 0),(3,Po X),(4,Po Y),(5, .ptr 5 v5 0 0),(6, .ptr 6 v6 0 0)],rows,clk⟩∧rows 2=some ⟨v2,71,4,[[.nil, .nil, .bool false, .nil]]⟩∧rows 5=some ⟨v5,38,2,[ie D]⟩∧rows 6=some ⟨v6,38,2,[ie g]⟩) ?_ ?_
 ·refine W.sr ?_
  simp (disch:=omega) [gw,dY]
  refine bO [2,3,4,5,6,27] ?_
  refine bP ?_ ?_<;>intro h
  ·simp at h
   rw [if_pos h]at YW
   subst YW
   refine W.b9 (fun K hK=>?_)
   simp (disch:=omega) [gw]
   refine b8 n1 ?_
   exact hK _ ⟨_,aC _ [2,3,4,5,6],_,_,_,_,_,rfl,by simp [cR],by simp [dY],by simp⟩
  ·simp at h
   rw [if_neg (by omega)]at YW
   subst YW
   refine W.skip ?_
   exact⟨_,aC _ [2,3,4,5,6],_,_,_,_,_,rfl,by simp [cR],by simp [dY],by simp⟩
 rintro _ ⟨v2,v5,v6,rows,clk,rfl,cR,dY,kS⟩
 refine W.sr ?_
 simp (disch:=omega) [gw,dY,kS]
 refine aD e1 ?_
 simp (disch:=omega) [gw,dY]
 refine bO [2,3,4,5,6] ?_
 refine W.sd ?_
 simp (disch:=omega) [gw,kS]
 refine aD v1 ?_
 simp (disch:=omega) [gw,kS]
 refine aD v2' ?_
 simp (disch:=omega) [gw,cR]
 refine bO [2] ?_
 exact cP
structure RC.OK(c:RC)(s n:Nat):Prop where
 hx:mL c.x
 hy:mL c.y
 hl:pB c.l
 bx:Bd LL s n (c.x.map gv)
 nR:Bd LL s n (c.y.map gv)
 bd:sz LL (iv c.s c.l)≤s
 h1:1≤s
 hs:s<1099511627774
 hn:n<500000000000
def RC.nc(c:RC):CV:=nC (eF c.x) (eF c.y) (iv c.s c.l)
theorem RC.OK.norm{c:RC}{s n:Nat}(h:c.OK s n):aH env.P 237 [.ag c.cells] (.ag c.nc.cells):=XG c h.hx h.hy h.hl h.bx h.nR h.bd h.h1 h.hs h.hn
theorem XH{c:RC}{s n:Nat}(h:c.OK s n)(h0:iv c.s c.l≠0):aH env.P 238 [Pg c.x,Pg c.y,IV c.s c.l] (.fG [.ag c.nc.cells, .int .i64 0]):=by
 have p1:=oE c.s c.l h.hl
 have z0:=xL (iv c.s c.l)
 rw [decide_eq_false h0]at z0
 have hn:=h.norm
 generalize iv c.s c.l=d at *
 generalize c.nc=r at *
 obtain⟨x,y,sg,l⟩:=c
 simp only [RC.bQ,CV.bQ]at *
 refine cA [(0,Pg x),(1,Pg y),(2,IV sg l)] Tryz.func238 ?_
 refine aA [0,1,5,6,7] ?_
 refine W.seq ?_
 refine j4 ?_
 refine b8 p1 ?_
 refine cI [0,1,5,6,10] z0 ?_
 refine bP ?_ ?_<;>intro h
 ·cases h
 refine W.skip ?_
 refine aY [6,7] hn ?_
 exact cP
theorem RC.OK.dNc{c:RC}{s n:Nat}(h:c.OK s n){sg:Bool}{l:List Int}(hl:pB l)(e:iv sg l=dN (iv c.s c.l)):(RC.mk c.x c.y sg l).OK s n∧(RC.mk c.x c.y sg l).nc=c.nc:=by
 refine⟨⟨h.hx,h.hy,hl,h.bx,h.nR,?_,h.h1,h.hs,h.hn⟩,?_⟩
 ·show sz LL (iv sg l)≤s
  rw [e]
  unfold dN;split
  ·exact Nat.le_trans HP h.h1
  ·exact h.bd
 ·show nC (eF c.x) (eF c.y) (iv sg l)=nC (eF c.x) (eF c.y) (iv c.s c.l)
  rw [e]
  generalize iv c.s c.l=d
  have hd:dN (dN d)=dN d:=by
   show(if _=0 then _ else _)=_
   rw [if_neg (vQ d)]
  unfold nC cg
  rw [hd]
theorem lU{c:RC}{s n:Nat}(h:c.OK s n):aH env.P 177 [.ag c.cells] (.ag c.nc.cells):=by
 have p1:=oE c.s c.l h.hl
 have z0:=xL (iv c.s c.l)
 have o1:=tN 1 (by decide) (by decide)
 have hM:∀(sg:Bool) (l:List Int),pB l→iv sg l=dN (iv c.s c.l)→aH env.P 238 [Pg c.x,Pg c.y,IV sg l] (.fG [.ag c.nc.cells, .int .i64 0]):=fun sg l hl e=>by
  obtain⟨h1,h2⟩:=h.dNc hl e
  have:=XH h1 (by show iv sg l≠0;rw [e];exact vQ _)
  rw [h2]at this
  exact this
 have hl:=h.hl
 have i1:iv false (aU LL 1)=1:=vD 1
 have L1:pB (aU LL 1):=Sz.WJ (x:=1) (Nat.lt_of_le_of_lt HP (by decide))
 have Y7:dN (iv c.s c.l)=if iv c.s c.l=0 then 1 else iv c.s c.l:=rfl
 generalize dN (iv c.s c.l)=D at *
 generalize hd:iv c.s c.l=d at *
 generalize c.nc=r at *
 obtain⟨x,y,sg,l⟩:=c
 simp only [RC.bQ,CV.bQ]at *
 refine cA [(0, .ag [Pg x,Pg y, .bool sg,aJ u32 l])] Tryz.func177 ?_
 refine aA [1,2] ?_
 refine aA [1,2,3] ?_
 refine W.gD (fun σ=>∃(s':Bool) (l':List Int) (v1 v2 v3:Nat) (rows:Pm.Rows) (clk:Nat),σ=⟨fa [(1, .ptr 1 v1 0 0),(2, .ptr 2 v2 0 0),(3, .ptr 3 v3 0 0)],rows,clk⟩∧rows 1=some ⟨v1,71,4,[[Pg x,Pg y, .bool sg,aJ u32 l]]⟩∧rows 2=some ⟨v2,71,4,[[.nil, .nil, .bool false, .nil]]⟩ ∧
  rows 3=some ⟨v3,38,2,[[.bool s',us l']]⟩∧pB l'∧iv s' l'=D) ?_ ?_
 ·refine j4 ?_
  refine b8 p1 ?_
  refine cI [1,2,3,10] z0 ?_
  refine bP ?_ ?_<;>intro h
  ·simp at h
   rw [if_pos h]at Y7
   refine W.b9 (fun K hK=>?_)
   simp (disch:=omega) [gw]
   refine b8 o1 ?_
   exact hK _ ⟨_,aC _ [1,2,3],false,aU LL 1,_,_,_,_,_,rfl,by simp,by simp,by simp,L1,by omega⟩
  ·simp at h
   rw [if_neg h]at Y7
   refine W.skip ?_
   exact⟨_,aC _ [1,2,3],sg,l,_,_,_,_,_,rfl,by simp,by simp,by simp,hl,by omega⟩
 rintro _ ⟨s',l',v1,v2,v3,rows,clk,rfl,yN,cR,fU,hl',he⟩
 have hM:=hM s' l' hl' he
 refine W.sr ?_
 simp (disch:=omega) [gw,yN,fU]
 refine cI [2,4] hM ?_
 refine W.sr ?_
 simp (disch:=omega) [gw,cR]
 refine bO [2] ?_
 exact cP
theorem al1(c v:Int):sz LL (j1 c v)≤sz LL v:=cB eB (by
 unfold j1;split
 ·exact Int.natAbs_ediv_le_natAbs _ _
 ·simp)
theorem ab6{s n:Nat}{x:List Int}(c:Int)(h:Bd LL s n x):Bd LL s n (aI (x.map (j1 c))):=Bd.cut ⟨by simpa using h.len,fun v hv=>by
 simp only [List.mem_map]at hv
 obtain⟨w,hw,rfl⟩:=hv
 exact Nat.le_trans (al1 c w) (h.sz w hw)⟩
theorem RC.OK.yW{c:RC}{s n:Nat}(h:c.OK s n):Bd LL s n c.nc.x∧Bd LL s n c.nc.y∧sz LL c.nc.d≤s:=by
 refine⟨ab6 _ h.bx.cut,ab6 _ h.nR.cut,?_⟩
 show sz LL (_/_)≤s
 refine Nat.le_trans (cB eB (Int.natAbs_ediv_le_natAbs _ _)) ?_
 unfold dN;split
 ·exact Nat.le_trans HP h.h1
 ·exact h.bd
theorem QB{a b:RC}{s n:Nat}(ha:a.OK s n)(hb:b.OK s n)(hs:s<500000000000):aH env.P 103 [.ag a.cells, .ag b.cells] (Po (dA (aL b.nc.x a.nc.d) (aL a.nc.x b.nc.d))):=by
 have n1:=lU ha
 have n2:=lU hb
 obtain⟨x1,y1,d1⟩:=ha.yW
 obtain⟨x2,y2,d2⟩:=hb.yW
 have hn:=ha.hn
 have s1:=fY (x:=b.nc.x) (c:=a.nc.d) (PB.of x2 (by omega) (by omega)) (Nat.lt_of_le_of_lt d1 (by omega))
 have s2:=fY (x:=a.nc.x) (c:=b.nc.d) (PB.of x1 (by omega) (by omega)) (Nat.lt_of_le_of_lt d2 (by omega))
 have s3:=oL (PB.of (Bd.aL eB x2 d1) (by omega) (by omega)) (PB.of (Bd.aL eB x1 d2) (by omega) (by omega))
 generalize dA (aL b.nc.x a.nc.d) (aL a.nc.x b.nc.d)=r at *
 generalize aL b.nc.x a.nc.d=k1 at *
 generalize aL a.nc.x b.nc.d=k2 at *
 clear ha hb x1 y1 d1 x2 y2 d2 hn hs
 generalize a.nc=na at *
 generalize b.nc=nb at *
 simp only [RC.bQ,CV.bQ]at *
 refine cA [(0, .ag [Pg a.x,Pg a.y, .bool a.s,aJ u32 a.l]),(1, .ag [Pg b.x,Pg b.y, .bool b.s,aJ u32 b.l])] Tryz.func103 ?_
 refine aA [2,3] ?_
 refine kB ?_
 refine b8 n1 ?_
 refine b8 n2 ?_
 refine bF (by kernel_rfl) ?_
 simp (disch:=omega) [gw]
 rw [if_pos (by kernel_rfl)]
 simp (disch:=omega) [gw]
 refine bF (by kernel_rfl) ?_
 simp (disch:=omega) [gw]
 refine bO [2,3] ?_
 refine kB ?_
 refine b8 s1 ?_
 refine b8 s2 ?_
 refine cI [4] s3 ?_
 exact cP
theorem QC{a b:RC}{s n:Nat}(ha:a.OK s n)(hb:b.OK s n)(hs:s<500000000000):aH env.P 104 [.ag a.cells, .ag b.cells] (Po (dA (aL b.nc.y a.nc.d) (aL a.nc.y b.nc.d))):=by
 have n1:=lU ha
 have n2:=lU hb
 obtain⟨x1,y1,d1⟩:=ha.yW
 obtain⟨x2,y2,d2⟩:=hb.yW
 have hn:=ha.hn
 have s1:=fY (x:=b.nc.y) (c:=a.nc.d) (PB.of y2 (by omega) (by omega)) (Nat.lt_of_le_of_lt d1 (by omega))
 have s2:=fY (x:=a.nc.y) (c:=b.nc.d) (PB.of y1 (by omega) (by omega)) (Nat.lt_of_le_of_lt d2 (by omega))
 have s3:=oL (PB.of (Bd.aL eB y2 d1) (by omega) (by omega)) (PB.of (Bd.aL eB y1 d2) (by omega) (by omega))
 generalize dA (aL b.nc.y a.nc.d) (aL a.nc.y b.nc.d)=r at *
 generalize aL b.nc.y a.nc.d=k1 at *
 generalize aL a.nc.y b.nc.d=k2 at *
 clear ha hb y1 x1 d1 y2 x2 d2 hn hs
 generalize a.nc=na at *
 generalize b.nc=nb at *
 simp only [RC.bQ,CV.bQ]at *
 refine cA [(0, .ag [Pg a.x,Pg a.y, .bool a.s,aJ u32 a.l]),(1, .ag [Pg b.x,Pg b.y, .bool b.s,aJ u32 b.l])] Tryz.func104 ?_
 refine aA [2,3] ?_
 refine kB ?_
 refine b8 n1 ?_
 refine b8 n2 ?_
 refine bF (by kernel_rfl) ?_
 simp (disch:=omega) [gw]
 rw [if_pos (by kernel_rfl)]
 simp (disch:=omega) [gw]
 refine bF (by kernel_rfl) ?_
 simp (disch:=omega) [gw]
 refine bO [2,3] ?_
 refine kB ?_
 refine b8 s1 ?_
 refine b8 s2 ?_
 refine cI [4] s3 ?_
 exact cP
end Go.Proofs.YtiobceocpabjdaaGreat
