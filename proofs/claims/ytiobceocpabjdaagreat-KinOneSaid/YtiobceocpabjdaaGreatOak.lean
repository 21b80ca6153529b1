import Derived.Test.YtiobceocpabjdaaGreatOae
import Derived.Test.YtiobceocpabjdaaGreatOai
import Derived.Test.YtiobceocpabjdaaGreatOaj
set_option linter.unusedSimpArgs false
set_option linter.unusedVariables false
namespace Go.Proofs.YtiobceocpabjdaaGreat
open Go Pm
structure PD(x:List Int):Prop where
 sz:∀v∈x,sz LL v<1099511627774
 len:x.length<1099511627774
theorem PD.of{s n:Nat}{x:List Int}(h:Bd LL s n x)(hs:s<1099511627774)(hn:n<1099511627774):PD x:=⟨fun v hv=>Nat.lt_of_le_of_lt (h.sz v hv) hs,Nat.lt_of_le_of_lt h.len hn⟩
theorem an8(v:Int):V 4294967296 (aS LL v.natAbs)=v.natAbs:=kP gF v.natAbs
theorem JG{v c:Int}(hv:sz LL v<1099511627774)(hc:sz LL c<1099511627774)(h0:c≠0):aE env.P 234 [I v,I c] (if v%c=0 then .dU [I (v/c), .int .i64 0]else .dU [I 0, .int .i64 3]):=by
 have:=SM (decide (v<0)) (decide (c<0)) (aS LL v.natAbs) (aS LL c.natAbs) ⟨fI gF _,by unfold sz at hv;omega⟩ ⟨fI gF _,by unfold sz at hc;omega⟩ hv hc (by rw [an8];omega)
 rwa [x7,x7]at this
def qL(c v:Int):Int:=if v%c=0 then v/c else 0
theorem NX(x:List Int)(c:Int)(hx:PD x)(hc:sz LL c<1099511627774)(h0:c≠0):aE env.P 214 [Po x,I c] (Po (aO (x.map (qL c)))):=by
 have hxl:=hx.len
 refine cD [(0,Po x),(1,I c)] Tryz.func214 ?_
 refine aA [0,3] ?_
 refine aA [0,3,5] ?_
 refine W.row (id:=10) (emap ie (List.replicate x.length 0)) (by simp;exact⟨rfl,rfl,rfl⟩) (sA _) ?_
 refine aQ [3,5,11,12,13] ?_
 refine W.block ?_
 refine W.bE (fun q σ=>∃(i:Nat) (z:List Int) (v10:Nat) (rows:Pm.Rows) (clk:Nat),σ=⟨fa [(3, .ptr 3 0 0 0),(5, .own 10 v10 0 x.length),(11,Po x),(12, .int .i64 x.length),(13, .int .i64 i)],rows,clk⟩ ∧
  rows 3=some ⟨0,38,2,[ie c]⟩∧rows 10=some ⟨v10,38,2,emap ie z⟩∧q=x.length-i∧i≤x.length∧z.length=x.length∧z.take i=(x.take i).map (qL c)) x.length ?_ ?_
 ·exact⟨_, .refl,0,List.replicate x.length 0,_,_,_,rfl,by simp,by simp,by omega,by omega,by simp,by simp⟩
 rintro q _ ⟨i,z,v10,rows,clk,rfl,cH,NY,hq,hi,hz,hv⟩
 refine bU [3,5,11,12,13,14] ?_
 refine bJ ?_ ?_<;>intro h
 ·have hi:i<x.length:=by simp at h;omega
  have hE:=JG (hx.sz _ (bN hi)) hc h0
  have hE2:aE env.P 234 [I (nth x i),I c] (.dU [I (qL c (nth x i)), .int .i64 (if nth x i%c=0 then 0 else 3)]):=by
   unfold qL
   split at hE
   ·rename_i h1;rw [if_pos h1,if_pos h1];exact hE
   ·rename_i h1;rw [if_neg h1,if_neg h1];exact hE
  have hts:(x.take (i+1)).map (qL c)=(x.take i).map (qL c) ++ [qL c (nth x i)]:=by rw [bF hi];simp
  generalize (if nth x i%c=0 then(0:Int)else 3)=er at *
  generalize qL c (nth x i)=ev at *
  generalize hxe:nth x i=xi at *
  refine lF ?_
  refine W.sr ?_
  simp (disch:=omega) [gw,hxe]
  refine bH [3,5,6,7,11,12,13] ?_
  refine W.b7 (fun K hK=>?_)
  simp (disch:=omega) [gw,cH]
  refine aC hE2 ?_
  simp (disch:=omega) [gw,NY,hz]
  refine W.lw [3,5,11,12,13] hK ?_;clear hK K;simp
  refine W.b7 (fun K hK=>?_);simp (disch:=omega) [gw]
  refine hK _ ⟨x.length-(i+1),_,aB _ [3,5,11,12,13],by omega,i+1,z.set i ev,v10,_,_,rfl,by simp [cH],by simp,by omega,by omega,by simp [hz],?_⟩
  rw [mG hv (by omega),hts]
 ·have hi:i=x.length:=by simp at h;omega
  subst hi
  rw [bL hz,List.take_length]at hv
  have uT:=bL hz
  refine fA ?_
  have hzb:PB z:=by
   rw [hv]
   refine⟨fun v hv=>?_,by simpa using by omega⟩
   simp only [List.mem_map]at hv
   obtain⟨w,hw,rfl⟩:=hv
   have h1:=hx.sz w hw
   show sz LL (qL c w)<1099511627776
   refine Nat.lt_of_le_of_lt (dP gF (y:=w) ?_) (by omega)
   unfold qL;split
   ·exact Int.natAbs_ediv_le_natAbs _ _
   ·simp
  have hN:=eQ hzb
  rw [hv]at hN NY uT
  generalize x.map (qL c)=y at *
  have P3:y.length=x.length:=by rw [←hv];exact hz
  refine W.sr ?_
  simp (disch:=omega) [gw,NY,uT]
  refine cN [4] hN ?_
  exact cC
theorem NZ(l:List RP)(K0:Nat)(hK0:K0<1099511627774)(hp:∀p∈l,∀c∈p,cV 4294967296 c.2∧c.2.length≤K0)(hl:l.length<1099511627776)(hf:l.flatten.length<1099511627776) :
  aE env.P 213 [aJ pe l] (I (bO (l.flatten.map gv))):=by
 refine cD [(0,aJ pe l)] Tryz.func213 ?_
 refine aA [0,2] ?_
 refine aA [0,2,3] ?_
 refine W.nil 3 3 38 2 (by simp) (by decide) (fun K hK=>?_)
 refine W.lw [0,2,3] hK ?_;clear hK K;simp
 refine aQ [2,3,6,7,8] ?_
 refine W.block ?_
 refine W.bE (fun q σ=>∃(i v3:Nat) (A:RP) (rows:Pm.Rows) (clk:Nat),σ=⟨fa [(2, .ptr 2 0 0 0),(3, .own 3 v3 0 A.length),(6,aJ pe l),(7, .int .i64 l.length),(8, .int .i64 i)],rows,clk⟩ ∧
  rows 2=some ⟨0,38,2,[[.bool false, .nil]]⟩∧rows 3=some ⟨v3,38,2,emap ge A⟩∧q=l.length-i∧i≤l.length∧A=(l.take i).flatten) l.length ?_ ?_
 ·exact⟨_, .refl,0,_,[],_,_,rfl,by simp,by simp [emap],by omega,by omega,by simp⟩
 rintro q _ ⟨i,v3,A,rows,clk,rfl,bX,cH,hq,hi,hA⟩
 refine bU [2,3,6,7,8,9] ?_
 refine bJ ?_ ?_<;>intro h
 ·have hi:i<l.length:=by simp at h;omega
  have hfs:(l.take (i+1)).flatten=(l.take i).flatten++nth l i:=by rw [bF hi];simp
  have hfl:(l.take (i+1)).flatten.length≤l.flatten.length:=by
   have e:=List.take_append_drop (i+1) l
   have e2:l.flatten=(l.take (i+1)).flatten++(l.drop (i+1)).flatten:=by rw [←List.flatten_append,e]
   rw [e2,List.length_append];omega
  have LA:(l.take i).flatten.length+(nth l i).length<1099511627776:=by
   rw [hfs,List.length_append]at hfl;omega
  have hls:(l.take (i+1)).flatten.length=(l.take i).flatten.length+(nth l i).length:=by rw [hfs,List.length_append]
  rw [←hA]at hfs LA hls
  generalize hpe:nth l i=p at *
  refine lF ?_
  refine W.sr ?_
  simp (disch:=omega) [gw,hpe]
  refine bH [2,3,5,6,7,8] ?_
  refine W.b7 (fun K hK=>?_)
  simp (disch:=omega) [gw,cH]
  refine W.lw [2,3,6,7,8] hK ?_;clear hK K;simp
  refine W.b7 (fun K hK=>?_);simp (disch:=omega) [gw]
  refine hK _ ⟨l.length-(i+1),_,Gh.fr [(2, .ptr 2 0 0 0),(3, .own 3 _ 0 (A++p).length),(6,aJ pe l),(7, .int .i64 l.length),(8, .int .i64 ((i+1:Nat):Int))] (by simp;exact rfl),by omega,i+1,_,A++p,_,_,rfl,by simp [bX],by simp,by omega,by omega,hfs.symm⟩
 ·have hi:i=l.length:=by simp at h;omega
  subst hi
  rw [List.take_length]at hA
  have hG:=NV l.flatten K0 hK0 (fun c hc=>by
   obtain⟨p,hpl,K4⟩:=List.mem_flatten.1 hc
   exact hp p hpl c K4) hf
  rw [←hA]at hG ⊢
  generalize (bO (A.map gv):Int)=g at *
  refine fA ?_
  refine W.sr ?_
  simp (disch:=omega) [gw,cH]
  refine aC hG ?_
  simp (disch:=omega) [gw,bX]
  refine bH [2] ?_
  exact cC
theorem lP{x:List Int}(hx:PB x)(hc:Cn x):aE env.P 145 [Po x] (I (lead x)):=by
 have:=NS (x.map tN) hx.DB
 rw [show m7 (x.map tN)=aO x by simp only [m7,b8],show aO x=x from hc,←iL]at this
 exact this
theorem kX(x:List Int)(hx:x.length<9223372036854775808):aE env.P 83 [Po x] (.int .i64 ((x.length:Int)-1)):=by
 have:=ahJ (x.map tN) (by simpa using hx)
 rw [List.length_map,←iL]at this
 exact this
theorem zJ{x:List Int}{c:Int}(hx:PB x)(hc:Sz c):aE env.P 181 [Po x,I c] (Po (bB x c)):=by
 have:=SA (x.map tN) hx.DB (decide (c<0)) (aS LL c.natAbs) hc.VG
 rw [b8,x7,←iL]at this
 exact this
theorem sF(i:Nat)(x:Int):(List.replicate (i+1) (0:Int)).set i x=rA i x:=by
 rw [List.replicate_succ',List.set_append]
 simp [rA]
theorem SO(a b:RP){s s' N:Nat}(ha:rB a)(hb:rB b)(sa:Bd LL s N (a.map gv))(sb:Bd LL s' N (b.map gv))(hB:s+N*(s'+N+1)+s'+N+N+10<1099511627774) :
  aE env.P 215 [Pg a,Pg b] (if m7 b = []then .dU [Po [],Po [], .int .i64 0, .int .i64 2]else .dU [Po (zF (m7 a) (m7 b)).1,Po (zF (m7 a) (m7 b)).2, .int .i64 (jU (m7 a) (m7 b)), .int .i64 0]):=by
 have hA:Bd LL s N (m7 a):=sa.cut
 have VU:Bd LL s' N (m7 b):=sb.cut
 have ca:Cn (m7 a):=Cn.cut _
 have cb:Cn (m7 b):=Cn.cut _
 have na:=gK a ha
 have nb:=gK b hb
 rw [show aO (a.map gv)=m7 a from rfl]at na
 rw [show aO (b.map gv)=m7 b from rfl]at nb
 refine cD [(0,Pg a),(1,Pg b)] Tryz.func215 ?_
 generalize m7 a=x at *
 generalize m7 b=y at *
 refine aA [0,1,4] ?_
 refine W.R3 4 (Po []) (by simp) rfl (fun K hK=>?_)
 refine W.lw [0,1,4] hK ?_;clear hK K;simp
 refine jC ?_
 refine cS na ?_
 refine cN [1,4,5] nb ?_
 refine aQ [1,4,5,18] ?_
 refine bJ ?_ ?_<;>intro h
 ·have h:y = []:=by simp at h;exact h
  rw [if_pos h]
  refine aA [4,5,6,7] ?_
  refine W.ret ?_
  simp [go]
  rfl
 have hy:y ≠ []:=by simp at h;exact h
 clear h
 rw [if_neg hy]
 have SB:0<y.length:=List.length_pos_iff.2 hy
 have hNx:=hA.len
 have hNy:=VU.len
 have hsy:=gT VU
 have hmN:N*(s'+N+1)≥0:=Nat.zero_le _
 have hL:=lP (PB.of VU (by omega) (by omega)) cb
 have hDx:=kX x (by omega)
 have hDy:=kX y (by omega)
 refine W.skip ?_
 refine aR [1,4,5,8] hL ?_
 have hkk:(if (0:Int)<(x.length:Int)-1-((y.length:Int)-1)+1 then(x.length:Int)-1-((y.length:Int)-1)+1 else 0)=(jU x y:Int):=by unfold jU;split<;>omega
 refine jC ?_
 refine cS hDx ?_
 refine aC hDy ?_
 simp (disch:=omega) [gw,hkk]
 refine bH [1,4,5,6,8] ?_
 have hkN:jU x y≤N:=by unfold jU;omega
 have hsl:=hsy
 generalize hdd:s'+N+1=d at *
 have hNN:∀j,j≤N→(N-j)*d≤N*d:=fun j _=>Nat.mul_le_mul_right _ (by omega)
 refine aQ [1,4,5,6,8,9] ?_
 refine W.block ?_
 refine W.bE (fun j σ=>∃(q r:List Int) (rows:Pm.Rows) (clk:Nat),σ=⟨fa [(1,Po y),(4,Po q),(5,Po r),(6, .int .i64 (jU x y)),(8, .ptr 8 0 0 0),(9, .int .i64 ((j:Int)-1))],rows,clk⟩ ∧
  rows 8=some ⟨0,38,2,[ie (lead y)]⟩∧j≤jU x y∧ps y (lead y) j q r=zF x y∧Bd LL (s+(N-j)*d) (N+N) q∧Bd LL (s+(N-j)*d) (N+N) r∧Cn r) (jU x y) ?_ ?_
 ·exact⟨_, .refl,[],x,_,_,rfl,by simp,by omega,rfl,⟨by simp,fun c hc=>by cases hc⟩,hA.mono (by omega) (by omega),ca⟩
 rintro j _ ⟨q,r,rows,clk,rfl,nP,hj,zK,bq,br,cr⟩
 refine aQ [1,4,5,6,8,9,31] ?_
 refine bJ ?_ ?_<;>intro h
 ·have hj0:0<j:=by simp at h;omega
  obtain⟨i,rfl⟩:∃i,j=i+1:=⟨j-1,by omega⟩
  clear h
  have ei:((i+1:Nat):Int)-1=i:=by omega
  rw [ei]
  have hN1:=hNN (i+1) (by omega)
  have hT:s+(N-i)*d=s+(N-(i+1))*d+s'+N+1:=by
   rw [show N-i=(N-(i+1))+1 by omega,Nat.add_mul,Nat.one_mul];omega
  obtain⟨b1,b2⟩:=CT gF VU bq br (show i<N by omega)
  rw [←hT]at b1 b2
  have GX:=hNN i (by omega)
  have hx:=acL (y:=y) (i:=i) br
  have bs:=Bd.rA hx i
  have hLr:=lP (PB.of br (by omega) (by omega)) cr
  have hDr:=kX r (by have:=br.len;omega)
  have bqs:=bq.bB gF hsy
  have brs:=br.bB gF hsy
  have bm:=bs.bR gF VU
  have f1:=zJ (c:=lead y) (PB.of bq (by omega) (by omega)) (show sz LL (lead y)<1099511627776 by omega)
  have f2:=zJ (c:=lead y) (PB.of br (by omega) (by omega)) (show sz LL (lead y)<1099511627776 by omega)
  have f3:=ZQ (PB.of bqs (by omega) (by omega)) (PB.of bs (by omega) (by omega))
  have f4:=s9 bs VU (by omega)
  have f5:=GR (PB.of brs (by omega) (by omega)) (PB.of bm (by omega) (by omega))
  rw [show iJ (bB q (lead y)) (rA i (wC y r i))=psq (lead y) (wC y r i) i q from rfl]at f3
  rw [show fL (bB r (lead y)) (bR (rA i (wC y r i)) y)=xO y (lead y) (wC y r i) i r from rfl]at f5
  have cr2:Cn (xO y (lead y) (wC y r i) i r):=Cn.fL _ _
  have hpx:wC y r i=if r.length=y.length+i then lead r else 0:=rfl
  rw [ps]at zK
  generalize hq2:psq (lead y) (wC y r i) i q=q2 at *
  generalize bX:xO y (lead y) (wC y r i) i r=r2 at *
  generalize bR (rA i (wC y r i)) y=pm at *
  generalize bB q (lead y)=pq at *
  generalize bB r (lead y)=pr at *
  generalize wC y r i=xx at *
  have adA:=sF i xx
  have an9:(rA i xx).length=i+1:=by simp [rA]
  generalize lead r=lr at *
  generalize lead y=ly at *
  refine lF ?_
  refine aA [1,4,5,6,8,9,10] ?_
  refine W.row (id:=10) (els:=[[.bool false, .nil]]) [ie 0] (by simp;exact⟨rfl,rfl,rfl⟩) ⟨⟨.inl (by simp), .inr ⟨rfl,rfl⟩,trivial⟩,trivial⟩ ?_
  refine W.iB (fun σ=>∃(v10:Nat) (rows:Pm.Rows) (clk:Nat),σ=⟨fa [(1,Po y),(4,Po q),(5,Po r),(6, .int .i64 (jU x y)),(8, .ptr 8 0 0 0),(9, .int .i64 i),(10, .ptr 10 v10 0 0)],rows,clk⟩∧rows 8=some ⟨0,38,2,[ie ly]⟩∧rows 10=some ⟨v10,38,2,[ie xx]⟩) ?_ ?_
  ·
   refine jC ?_
   refine cS hDr ?_
   refine cN [1,4,5,6,8,9,10,40] hDy ?_
   by_cases Y4:r.length=y.length+i
   ·rw [if_pos Y4]at hpx
    subst hpx
    refine bJ ?_ ?_<;>intro h
    ·refine W.b7 (fun K hK=>?_)
     simp (disch:=omega) [gw]
     refine cS hLr ?_
     exact hK _ ⟨_,aB _ [1,4,5,6,8,9,10],_,_,_,rfl,by simp [nP],by simp⟩
    ·exfalso;simp at h;omega
   ·rw [if_neg Y4]at hpx
    subst hpx
    refine bJ ?_ ?_<;>intro h
    ·exfalso;simp at h;omega
    ·refine W.skip ?_
     exact⟨_,aB _ [1,4,5,6,8,9,10],_,_,_,rfl,by simp [nP],by simp⟩
  rintro _ ⟨v10,rows,clk,rfl,nP,NY⟩
  have e9:((i:Int)+1).toNat=i+1:=by omega
  refine W.sr ?_
  simp (disch:=omega) [gw,e9]
  refine bH [1,4,5,6,8,9,10,11] ?_
  refine W.row (id:=45) (emap ie (List.replicate (i+1) 0)) (by simp;exact⟨rfl,rfl,rfl⟩) (sA _) ?_
  refine W.sr ?_
  simp (disch:=omega) [gw,NY,adA]
  refine bH [1,4,5,6,8,9,11] ?_
  have iX:=bL an9
  refine W.freeze 45 (by simp) (fun K hK=>?_)
  simp [iX]
  refine hK _ ?_;clear hK K
  refine W.sr ?_
  simp (disch:=omega) [gw,nP]
  refine cS f1 ?_
  refine cN [1,4,5,6,8,9,11] f3 ?_
  refine W.b7 (fun K hK=>?_)
  simp (disch:=omega) [gw,nP]
  refine cS f2 ?_
  refine cS f4 ?_
  refine cS f5 ?_
  refine W.lw [1,4,5,6,8,9] hK ?_;clear hK K;simp
  refine W.b7 (fun K hK=>?_);simp (disch:=omega) [gw]
  refine hK _ ⟨i,_,aB _ [1,4,5,6,8,9],by omega,q2,r2,_,_,rfl,by simp [nP],by omega,zK,b1,b2,cr2⟩
 ·have hj0:j=0:=by simp at h;omega
  subst hj0
  simp only [ps]at zK
  rw [←zK]
  refine fA ?_
  refine aA [4,5,6,7] ?_
  exact cC
def kC(x:List Int):List Int:=aO (x.map (qL (bO x)))
def N4(a b:List Int):List Int:=if jU a b%2=1∧lead b<0 then kC (gV (zF a b).2)else kC (zF a b).2
theorem iN(x:List Int):∀c∈x,((bO x:Nat):Int)∣c:=by
 have key:∀(l:List Int) (g:Nat),(∀c∈l,((l.foldl (fun g c=>Nat.gcd g c.natAbs) g:Nat):Int)∣c)∧l.foldl (fun g c=>Nat.gcd g c.natAbs) g∣g:=by
  intro l
  induction l with
  | nil=>intro g;exact⟨fun c hc=>(by cases hc),Nat.dvd_refl _⟩
  | cons c l ih =>
   intro g
   obtain⟨h1,h2⟩:=ih (Nat.gcd g c.natAbs)
   simp only [List.foldl_cons]
   refine⟨fun d hd=>?_,Nat.dvd_trans h2 (Nat.gcd_dvd_left _ _)⟩
   rcases List.mem_cons.1 hd with rfl | hd
   ·exact Int.ofNat_dvd_left.2 (Nat.dvd_trans h2 (Nat.gcd_dvd_right _ _))
   ·exact h1 d hd
 exact(key x 0).1
theorem N6{x:List Int}{c:Int}(hc:c∈x)(h:c≠0):bO x≠0:=by
 intro h0
 have:=iN x c hc
 rw [h0]at this
 obtain⟨k,hk⟩:=this
 simp at hk
 exact h hk
theorem cO{x:List Int}(hc:Cn x)(h:x ≠ []):bO x≠0:=by
 have hl:0<x.length:=List.length_pos_iff.2 h
 exact N6 (c:=lead x) (bN (by omega)) (dC hc hl)
theorem VV{x:List Int}{s:Nat}(hx:∀c∈x,sz LL c≤s)(hc:Cn x)(h:x ≠ []):sz LL (bO x:Int)≤s:=by
 have hl:0<x.length:=List.length_pos_iff.2 h
 have hm:lead x∈x:=bN (by omega)
 refine Nat.le_trans (dP gF ?_) (hx _ hm)
 have:=Int.le_of_dvd (a:=(bO x:Int)) (b:=((lead x).natAbs:Int)) (by have:=dC hc hl;omega) (Int.dvd_natAbs.2 (iN x _ hm))
 omega
theorem wR(x:List Int)(hx:PD x):aE env.P 213 [.sl [[Po x]]] (I (bO x)):=by
 have hl:=hx.len
 have:=NZ [x.map tN] 1099511627773 (by decide) (fun p hp c hc=>by
  simp only [List.mem_singleton]at hp
  subst hp
  simp only [List.mem_map]at hc
  obtain⟨v,hv,rfl⟩:=hc
  have h1:=hx.sz v hv
  exact⟨fI gF _,by unfold sz at h1;show(aS LL v.natAbs).length≤_;omega⟩) (by simp) (by simp;omega)
 have e:([x.map tN].flatten.map gv)=x:=by simp only [List.flatten_cons,List.flatten_nil,List.append_nil,b8]
 rw [e]at this
 have e2:aJ pe [x.map tN] = .sl [[Po x]]:=by rw [iL];rfl
 rw [e2]at this
 exact this
theorem N7(a b:RP){s s' N:Nat}(ha:rB a)(hb:rB b)(sa:Bd LL s N (a.map gv))(sb:Bd LL s' N (b.map gv))(hB:s+N*(s'+N+1)+s'+N+N+10<1099511627774) :
  aE env.P 138 [Pg a,Pg b] (if m7 b = []then .dU [Po [], .int .i64 2]else .dU [Po (N4 (m7 a) (m7 b)), .int .i64 0]):=by
 have hP:=SO a b ha hb sa sb hB
 have hL:=NS b hb
 have hA:Bd LL s N (m7 a):=sa.cut
 have VU:Bd LL s' N (m7 b):=sb.cut
 have ca:Cn (m7 a):=Cn.cut _
 refine cD [(0,Pg a),(1,Pg b)] Tryz.func138 ?_
 generalize m7 a=x at *
 generalize m7 b=y at *
 refine aA [0,1] ?_
 by_cases hy:y = []
 ·rw [if_pos hy]at hP ⊢
  refine aR [1,7,8,9] hP ?_
  refine aQ [1,7,8,9,19] ?_
  refine bJ ?_ ?_<;>intro h
  ·refine aA [4,5] ?_
   refine W.ret ?_
   simp [go]
   rfl
  ·cases h
 rw [if_neg hy]at hP ⊢
 have SB:0<y.length:=List.length_pos_iff.2 hy
 have hkN:jU x y≤N:=by unfold jU;have:=hA.len;omega
 obtain⟨_,B4⟩:=acM gF VU (jU x y) s [] x hkN ⟨by simp,fun c hc=>by cases hc⟩ (hA.mono (by omega) (by omega))
 obtain⟨_,cr⟩:=CU (b:=y) ca
 rw [show(ps y (lead y) (jU x y) [] x)=zF x y from rfl]at B4
 have hmul:=Nat.mul_le_mul_right (s'+N+1) hkN
 have adp:=GS (PB.of B4 (by omega) (by omega))
 refine aR [1,7,8,9] hP ?_
 refine aQ [1,7,8,9,19] ?_
 refine bJ ?_ ?_<;>intro h
 ·cases h
 refine W.skip ?_
 obtain⟨r2,bX⟩:∃r2,r2=if jU x y%2=1∧lead y<0 then gV (zF x y).2 else(zF x y).2:=⟨_,rfl⟩
 have auJ:N4 x y=kC r2:=by rw [bX,N4];split<;>rfl
 have hbr:PD r2:=by
  rw [bX];split
  ·exact PD.of B4.gV (by omega) (by omega)
  ·exact PD.of B4 (by omega) (by omega)
 have hcr:Cn r2:=by
  rw [bX];split
  ·exact Cn.gV _
  ·exact cr
 rw [auJ]
 refine W.iB (fun σ=>∃(rows:Pm.Rows) (clk:Nat),σ=⟨fa [(7,Po r2)],rows,clk⟩) ?_ ?_
 ·
  by_cases hk:jU x y%2=1
  ·refine W.eJ (fun σ=>∃(rows:Pm.Rows) (clk:Nat),σ=⟨fa [(7,Po (zF x y).2),(28, .bool (decide (lead y<0)))],rows,clk⟩) (fun K hK=>?_) ?_
   ·have xL:(jU x y:Int)%2=1:=by omega
    simp (disch:=omega) [gw,xL]
    refine cS hL ?_
    exact hK _ _ (aB _ [7,28]) ⟨_,_,rfl⟩
   rintro _ ⟨rows,clk,rfl⟩
   refine W.acB (lead y<0) rfl (fun h=>?_) (fun h=>?_)
   ·rw [if_pos ⟨hk,h⟩]at bX
    subst bX
    refine W.b7 (fun K hK=>?_)
    simp (disch:=omega) [gw]
    refine cS adp ?_
    exact hK _ ⟨_,aB _ [7],_,_,rfl⟩
   ·rw [if_neg (fun h2=>h h2.2)]at bX
    subst bX
    refine W.skip ?_
    exact⟨_,aB _ [7],_,_,rfl⟩
  ·rw [if_neg (fun h2=>hk h2.1)]at bX
   subst bX
   refine W.eJ (fun σ=>∃(rows:Pm.Rows) (clk:Nat),σ=⟨fa [(7,Po (zF x y).2),(28, .bool false)],rows,clk⟩) (fun K hK=>?_) ?_
   ·have xL:((jU x y:Int)%2==1)=false:=by simp;omega
    simp (disch:=omega) [gw,xL]
    exact hK _ _ (aB _ [7,28]) ⟨_,_,rfl⟩
   rintro _ ⟨rows,clk,rfl⟩
   refine bJ ?_ ?_<;>intro h
   ·cases h
   ·refine W.skip ?_
    exact⟨_,aB _ [7],_,_,rfl⟩
 rintro _ ⟨rows,clk,rfl⟩
 clear bX auJ
 refine aQ [7,33] ?_
 refine bJ ?_ ?_<;>intro h
 ·have h:r2 = []:=by simp at h;exact h
  subst h
  refine aA [4,5] ?_
  refine W.ret ?_
  simp [go]
  rfl
 ·have h:r2 ≠ []:=by simp at h;exact h
  have hC:=wR r2 hbr
  have hgp:=cO hcr h
  have hO:=NX r2 (bO r2) hbr (Nat.lt_of_le_of_lt (VV (s:=1099511627773) (fun c hc=>by have:=hbr.sz c hc;omega) hcr h) (by decide)) (by omega)
  rw [show aO (r2.map (qL (bO r2)))=kC r2 from rfl]at hO
  generalize (bO r2:Int)=g at *
  generalize kC r2=pr at *
  refine W.skip ?_
  refine jC ?_
  refine cS hC ?_
  refine cN [4,5] hO ?_
  exact cC
theorem ahN(x:List Int):m7 (x.map tN)=aO x:=by simp only [m7,b8]
theorem lS{x:List Int}(hx:Cn x){m:Int}(hm:m≠0):Cn (x.map (· * m)):=by
 rcases Nat.eq_zero_or_pos x.length with h | h
 ·have:x = []:=List.eq_nil_of_length_eq_zero h
  subst this;rfl
 ·have e:=uR h
  have:x.map (· * m)=(x.take (x.length-1)).map (· * m) ++ [lead x*m]:=by
   conv=>lhs;rw [e]
   simp
  rw [this]
  exact jL (Int.mul_ne_zero (dC hx h) hm) _
theorem tA{x:List Int}(hx:Cn x){m:Int}(hm:m≠0):bB x m=x.map (· * m):=lS hx hm
theorem SP{x:List Int}(hx:Cn x):bB x 1=x:=Cn.ext (Cn.bB _ _) hx fun t=>by rw [cW];omega
theorem SR(x:List Int):gV x=bB x (-1):=Cn.ext (Cn.gV _) (Cn.bB _ _) fun t=>by rw [CQ,cW];omega
theorem lT(m:Int)(x:List Int):bO (x.map (· * m))=bO x*m.natAbs:=by
 have key:∀(l:List Int) (g:Nat),(l.map (· * m)).foldl (fun g c=>Nat.gcd g c.natAbs) (g*m.natAbs)=l.foldl (fun g c=>Nat.gcd g c.natAbs) g*m.natAbs:=by
  intro l
  induction l with
  | nil=>intro g;rfl
  | cons c l ih =>
   intro g
   simp only [List.map_cons,List.foldl_cons]
   rw [Int.natAbs_mul,Nat.gcd_mul_right,ih]
 have:=key x 0
 rw [Nat.zero_mul]at this
 exact this
theorem Z0{m:Int}(hm:0<m)(g v:Int):qL (g*m) (v*m)=qL g v:=by
 unfold qL
 rw [Int.mul_comm v,Int.mul_comm g,Int.mul_emod_mul_of_pos _ _ hm,Int.mul_ediv_mul_of_pos _ _ hm]
 have:m*(v%g)=0↔v%g=0:=by
  constructor
  ·intro h
   rcases Int.mul_eq_zero.1 h with h | h
   ·omega
   ·exact h
  ·intro h;rw [h];simp
 simp only [this]
theorem SS{m:Int}(hm:0<m)(x:List Int):kC (x.map (· * m))=kC x:=by
 unfold kC
 rw [lT,List.map_map]
 congr 1
 refine List.map_congr_left fun v _=>?_
 simp only [Function.comp_apply]
 have:((bO x*m.natAbs:Nat):Int)=(bO x:Int)*m:=by rw [Int.natCast_mul];congr 1;omega
 rw [this,Z0 hm]
theorem zL{x:List Int}(hx:Cn x){m:Int}(hm:0<m):kC (bB x m)=kC x:=by rw [tA hx (by omega),SS hm]
def sg(c:Int)(k:Nat):Int:=if k%2=1∧c<0 then -1 else 1
theorem adB(c:Int):∀k:Nat,c^k=sg c k*(c.natAbs:Int)^k
 | 0=>by simp [sg]
 | k+1=>by
  have ih:=adB c k
  have hc:c=(if c<0 then -1 else 1)*(c.natAbs:Int):=by split<;>omega
  have hs:sg c (k+1)=sg c k*(if c<0 then -1 else 1):=by
   unfold sg
   by_cases h:c<0
   ·rcases Nat.mod_two_eq_zero_or_one k with h2 | h2
    ·rw [if_pos ⟨by omega,h⟩,if_neg (by omega),if_pos h];rfl
    ·rw [if_neg (by omega),if_pos ⟨h2,h⟩,if_pos h];rfl
   ·rw [if_neg (fun h2=>h h2.2),if_neg (fun h2=>h h2.2),if_neg h];rfl
  rw [Int.pow_succ,Int.pow_succ,ih,hs]
  conv=>lhs;rw [hc]
  generalize (if c<0 then(-1:Int)else 1)=e at *
  have e3:((e*(c.natAbs:Int)).natAbs:Int)=(c.natAbs:Int):=by rw [←hc]
  rw [e3]
  grind
theorem adC(c:Int)(k:Nat):sg c k*sg c k=1:=by unfold sg;split<;>rfl
theorem adD{a b:List Int}(ca:Cn a):N4 a b=kC (bB (zF a b).2 (sg (lead b) (jU a b))):=by
 have cr:=(CU (b:=b) ca).2
 unfold N4 sg
 split
 ·rw [SR]
 ·rw [SP cr]
theorem mI(x:List Int):(kC x).length≤x.length:=Nat.le_trans (bV _) (by simp)
theorem N8(x:List Int):(gV x).length≤x.length:=Nat.le_trans (bV _) (by simp)
theorem ahO{a b:List Int}(hb:0<b.length):(N4 a b).length<b.length:=by
 have h1:=I6 (a:=a) hb
 unfold N4
 split
 ·have h2:=mI (gV (zF a b).2)
  have h3:=N8 (zF a b).2
  omega
 ·have h2:=mI (zF a b).2
  omega
theorem aob(a b:List Int):Cn (N4 a b):=by unfold N4;split<;>exact Cn.cut _
def exs(b:List Int):Nat→List Int→List Int→Option (List Int × List Int)
 | 0,q,a=>some (q,a)
 | i+1,q,a=>if a.length<b.length+i then exs b i q a else if lead a%lead b=0 then exs b i (q.set i (lead a/lead b)) (fL a (bR (rA i (lead a/lead b)) b))else none
def exF:Option (List Int × List Int)→Option (List Int)
 | some (q,[])=>some (aO q)
 | _=>none
def exact(a b:List Int):Option (List Int):=exF (exs b (jU a b) (List.replicate (jU a b) 0) a)
def exR(o:Option (List Int)):PV:=
 match o with
 | some q => .dU [Po q, .int .i64 0]
 | none => .dU [Po [], .int .i64 3]
theorem Bd.set{B s n:Nat}{x:List Int}(h:Bd B s n x){i:Nat}{v:Int}(hv:Pm.sz B v≤s):Bd B s n (x.set i v):=⟨by simpa using h.len,fun c hc=>by
 rcases List.mem_or_eq_of_mem_set hc with h1 | h1
 ·exact h.sz c h1
 ·rw [h1];exact hv⟩
theorem Z1(a b:RP){s s' N:Nat}(ha:rB a)(hb:rB b)(sa:Bd LL s N (a.map gv))(sb:Bd LL s' N (b.map gv))(hB:s+N*(s'+N+1)+s'+N+N+10<1099511627774) :
  aE env.P 217 [Pg a,Pg b] (if m7 b = []then .dU [Po [], .int .i64 2]else exR (exact (m7 a) (m7 b))):=by
 have hA:Bd LL s N (m7 a):=sa.cut
 have VU:Bd LL s' N (m7 b):=sb.cut
 have ca:Cn (m7 a):=Cn.cut _
 have cb:Cn (m7 b):=Cn.cut _
 have na:=gK a ha
 have nb:=gK b hb
 rw [show aO (a.map gv)=m7 a from rfl]at na
 rw [show aO (b.map gv)=m7 b from rfl]at nb
 refine cD [(0,Pg a),(1,Pg b)] Tryz.func217 ?_
 generalize m7 a=x at *
 generalize m7 b=y at *
 refine aA [0,1] ?_
 refine jC ?_
 refine cS na ?_
 refine cN [0,1] nb ?_
 refine aQ [0,1,17] ?_
 refine bJ ?_ ?_<;>intro h
 ·have h:y = []:=by simp at h;exact h
  rw [if_pos h]
  refine aA [4,5] ?_
  refine W.ret ?_
  simp [go]
  rfl
 have hy:y ≠ []:=by simp at h;exact h
 clear h
 rw [if_neg hy]
 have SB:0<y.length:=List.length_pos_iff.2 hy
 have hNx:=hA.len
 have hNy:=VU.len
 have hsy:=gT VU
 have hly:=dC cb SB
 have hL:=lP (PB.of VU (by omega) (by omega)) cb
 have hDy:=kX y (by omega)
 have hkN:jU x y≤N:=by unfold jU;omega
 generalize hdd:s'+N+1=d at *
 have hNN:∀j,j≤N→(N-j)*d≤N*d:=fun j _=>Nat.mul_le_mul_right _ (by omega)
 have hkk:(if (0:Int)<(x.length:Int)-(y.length:Int)+1 then(x.length:Int)-(y.length:Int)+1 else 0)=(jU x y:Int):=by unfold jU;split<;>omega
 refine W.skip ?_
 refine W.sr ?_
 simp (disch:=omega) [gw,hkk]
 refine bH [0,1,6] ?_
 refine W.row (id:=25) (emap ie (List.replicate (jU x y) 0)) (by simp;exact⟨rfl,rfl,rfl⟩) (sA _) ?_
 refine aQ [0,1,6,7] ?_
 refine W.block ?_
 obtain⟨R0,IE⟩:∃R0,R0=exs y (jU x y) (List.replicate (jU x y) 0) x:=⟨_,rfl⟩
 have hex:exact x y=exF R0:=by rw [IE];rfl
 rw [hex]
 clear hex
 generalize xU:jU x y=k0 at *
 refine W.bE (fun j σ=>∃(v6:Nat) (z r:List Int) (rows:Pm.Rows) (clk:Nat),σ=⟨fa [(0,Po r),(1,Po y),(6, .own 25 v6 0 k0),(7, .int .i64 ((j:Int)-1))],rows,clk⟩ ∧
  rows 25=some ⟨v6,38,2,emap ie z⟩∧z.length=k0∧j≤k0∧exs y j z r=R0∧Bd LL (s+(N-j)*d) (N+N) z∧Bd LL (s+(N-j)*d) (N+N) r∧Cn r) k0 ?_ ?_
 ·exact⟨_, .refl,_,List.replicate k0 0,x,_,_,rfl,by simp,by simp,by omega,IE.symm,⟨by simp;omega,fun c hc=>by rw [(List.mem_replicate.1 hc).2,kR];omega⟩,hA.mono (by omega) (by omega),ca⟩
 rintro j _ ⟨v6,z,r,rows,clk,rfl,adF,hz,hj,zK,bz,br,cr⟩
 refine aQ [0,1,6,7,30] ?_
 refine bJ ?_ ?_<;>intro h
 ·have hj0:0<j:=by simp at h;omega
  obtain⟨i,rfl⟩:∃i,j=i+1:=⟨j-1,by omega⟩
  clear h
  have ei:((i+1:Nat):Int)-1=i:=by omega
  rw [ei]
  have hN1:=hNN (i+1) (by omega)
  have GX:=hNN i (by omega)
  have hT:s+(N-i)*d=s+(N-(i+1))*d+s'+N+1:=by
   rw [show N-i=(N-(i+1))+1 by omega,Nat.add_mul,Nat.one_mul];omega
  have hDr:=kX r (by have:=br.len;omega)
  have hLr:=lP (PB.of br (by omega) (by omega)) cr
  have hlr:=gT br
  rw [exs]at zK
  refine W.skip ?_
  refine W.dO (fun σ=>∃(z r:List Int) (rows:Pm.Rows) (clk:Nat),σ=⟨fa [(0,Po r),(1,Po y),(6, .own 25 v6 0 k0),(7, .int .i64 i)],rows,clk⟩ ∧
   rows 25=some ⟨v6,38,2,emap ie z⟩∧z.length=k0∧exs y i z r=R0∧Bd LL (s+(N-i)*d) (N+N) z∧Bd LL (s+(N-i)*d) (N+N) r∧Cn r) ?_ ?_
  ·
   refine W.seq ?_
   refine jC ?_
   refine cS hDr ?_
   refine cN [0,1,6,7,39] hDy ?_
   by_cases hlen:r.length<y.length+i
   ·rw [if_pos hlen]at zK
    refine bJ ?_ ?_<;>intro h
    ·refine fA ?_
     exact⟨_,aB _ [0,1,6,7],z,r,_,_,rfl,adF,hz,zK,bz.mono (by omega) (by omega),br.mono (by omega) (by omega),cr⟩
    ·exfalso;simp at h;omega
   rw [if_neg hlen]at zK
   refine bJ ?_ ?_<;>intro h
   ·exfalso;simp at h;omega
   clear h
   have hE:=JG (v:=lead r) (c:=lead y) (by omega) (by omega) hly
   refine W.skip ?_
   by_cases hdv:lead r%lead y=0
   ·rw [if_pos hdv]at hE zK
    have hts:sz LL (lead r/lead y)≤s+(N-(i+1))*d:=Nat.le_trans (dP gF (Int.natAbs_ediv_le_natAbs _ _)) hlr
    have bs:=Bd.rA hts i
    have bm:=bs.bR gF VU
    have b2:Bd LL (s+(N-i)*d) (N+N) (fL r (bR (rA i (lead r/lead y)) y)):=(Bd.fL gF (br.mono (s':=s+(N-(i+1))*d+s'+N) (n':=N+N) (by omega) (by omega)) (bm.mono (by omega) (by omega))).mono (by omega) (by omega)
    have f4:=s9 bs VU (by omega)
    have f5:=GR (PB.of br (by omega) (by omega)) (PB.of bm (by omega) (by omega))
    have cr2:Cn (fL r (bR (rA i (lead r/lead y)) y)):=Cn.fL _ _
    have bz2:=Bd.set (i:=i) (bz.mono (s':=s+(N-i)*d) (n':=N+N) (by omega) (by omega)) (Nat.le_trans hts (by omega))
    generalize bX:fL r (bR (rA i (lead r/lead y)) y)=r2 at *
    generalize bR (rA i (lead r/lead y)) y=pm at *
    generalize lead r/lead y=tt at *
    have adA:=sF i tt
    have an9:(rA i tt).length=i+1:=by simp [rA]
    have iX:=bL an9
    generalize lead r=lr at *
    generalize lead y=ly at *
    refine jC ?_
    refine cS hLr ?_
    refine cS hL ?_
    refine cN [0,1,6,7,8,9] hE ?_
    refine aQ [0,1,6,7,8,49] ?_
    refine bJ ?_ ?_<;>intro h
    ·cases h
    refine W.skip ?_
    refine W.sr ?_
    simp (disch:=omega) [gw,adF,hz]
    refine bH [0,1,6,7,8] ?_
    have e9:((i:Int)+1).toNat=i+1:=by omega
    refine W.sr ?_
    simp (disch:=omega) [gw,e9]
    refine bH [0,1,6,7,8,10] ?_
    refine W.row (id:=56) (emap ie (List.replicate (i+1) 0)) (by simp;exact⟨rfl,rfl,rfl⟩) (sA _) ?_
    refine W.sr ?_
    simp (disch:=omega) [gw,adA]
    refine bH [0,1,6,7,10] ?_
    refine W.freeze 56 (by simp) (fun K hK=>?_)
    simp [iX]
    refine hK _ ?_;clear hK K
    refine W.b7 (fun K hK=>?_)
    simp (disch:=omega) [gw]
    refine cS f4 ?_
    refine cS f5 ?_
    exact hK _ ⟨_,aB _ [0,1,6,7],z.set i tt,r2,_,_,rfl,by simp,by simp [hz],zK,bz2,b2,cr2⟩
   ·rw [if_neg hdv]at hE zK
    subst zK
    refine jC ?_
    refine cS hLr ?_
    refine cS hL ?_
    refine cN [0,1,6,7,8,9] hE ?_
    refine aQ [0,1,6,7,8,49] ?_
    refine bJ ?_ ?_<;>intro h
    ·refine aA [4,5] ?_
     refine W.ret ?_
     simp [go,exR,exF]
     rfl
    ·cases h
  rintro _ ⟨z,r,rows,clk,rfl,adF,hz,zK,bz,br,cr⟩
  refine W.b7 (fun K hK=>?_);simp (disch:=omega) [gw]
  refine hK _ ⟨i,_,aB _ [0,1,6,7],by omega,v6,z,r,_,_,rfl,by simp [adF],hz,by omega,zK,bz,br,cr⟩
 ·have hj0:j=0:=by simp at h;omega
  subst hj0
  simp only [exs]at zK
  rw [←zK]
  have hN0:=hNN 0 (by omega)
  have hzn:=eQ (PB.of bz (by omega) (by omega))
  have hzz:=bL hz
  refine fA ?_
  refine aQ [6,68] ?_
  cases r with
  | nil =>
   refine bJ ?_ ?_<;>intro h
   ·exfalso;simp at h
   refine W.skip ?_
   refine W.sr ?_
   simp (disch:=omega) [gw,adF,hzz]
   refine cN [4,5] hzn ?_
   refine W.ret ?_
   simp [go,exR,exF]
  | cons c r =>
   refine bJ ?_ ?_<;>intro h
   ·refine aA [4,5] ?_
    refine W.ret ?_
    simp [go,exR,exF]
    rfl
   ·exfalso;simp at h
theorem DL{d:Nat}{x:List Int}(h:∀c∈x,(d:Int)∣c):d∣bO x:=by
 have key:∀(l:List Int) (g:Nat),d∣g→(∀c∈l,(d:Int)∣c)→d∣l.foldl (fun g c=>Nat.gcd g c.natAbs) g:=by
  intro l
  induction l with
  | nil=>intro g hg _;exact hg
  | cons c l ih =>
   intro g hg hl
   rw [List.foldl_cons]
   exact ih _ (Nat.dvd_gcd hg (Int.ofNat_dvd_left.1 (hl c (by simp)))) fun v hv=>hl v (by simp [hv])
 exact key x 0 (Nat.dvd_zero d) h
theorem AY{x:List Int}{g:Int}(h:∀c∈x,g∣c):(x.map (qL g)).map (· * g)=x:=by
 rw [List.map_map]
 refine(List.map_congr_left fun v hv=>?_).trans (List.map_id _)
 have h1:v%g=0:=Int.emod_eq_zero_of_dvd (h v hv)
 simp only [Function.comp_apply,qL,id_eq]
 rw [if_pos h1]
 exact Int.ediv_mul_cancel (h v hv)
theorem x9{x y:List Int}{g:Int}(hg:g≠0)(h:y.map (· * g)=x)(e:bO x=g.natAbs):bO y=1:=by
 have:=lT g y
 rw [h,e]at this
 exact Nat.eq_of_mul_eq_mul_right (show 0<g.natAbs by omega) (by omega)
theorem eC(t:Int)(g:Int)(x:List Int):V t (x.map (· * g))=V t x*g:=by
 have:=gW (t:=t) g id x
 simp only [id_eq,List.map_id_fun]at this
 exact this
theorem adG{x y:List Int}(cx:Cn x)(cy:Cn y)(hx:x ≠ [])(hy:y ≠ []):bO (bR x y)=bO x*bO y:=by
 have gx:=cO cx hx
 have gy:=cO cy hy
 have hp:bO (bR x y)≠0:=cO (Cn.bR _ _) fun h=>by
  have:=j6 cx cy (List.length_pos_iff.2 hx) (List.length_pos_iff.2 hy)
  rw [h]at this
  have h1:=List.length_pos_iff.2 hx
  have h2:=List.length_pos_iff.2 hy
  simp only [List.length_nil]at this
  omega
 obtain⟨x',FQ⟩:∃x':List Int,x'.map (· * (bO x:Int))=x:=⟨_,AY (iN x)⟩
 obtain⟨y',xS⟩:∃y':List Int,y'.map (· * (bO y:Int))=y:=⟨_,AY (iN y)⟩
 have px:=x9 (by omega) FQ (by omega)
 have py:=x9 (by omega) xS (by omega)
 have e:bR x y=(bR x' y').map (· * ((bO x:Int)*bO y)):=by
  rw [←tA (Cn.bR _ _) (Int.mul_ne_zero (by omega) (by omega))]
  refine Cn.ext (Cn.bR _ _) (Cn.bB _ _) fun t=>?_
  have h1:=eC t (bO x) x'
  have h2:=eC t (bO y) y'
  rw [FQ]at h1
  rw [xS]at h2
  rw [dJ,cW,dJ,h1,h2]
  grind
 rw [e,lT]at hp
 rw [e,lT,Int.natAbs_mul]
 have hd:0<bO (bR x' y'):=Nat.pos_of_mul_pos_right (Nat.pos_of_ne_zero hp)
 have hD:=VD _ (bO (bR x' y')) x' y' (Nat.le_refl _) hd (Dv.of (iN _)) (fun d _ hy=>Nat.dvd_one.1 (py▸DL hy.mem))
 have h1:bO (bR x' y')=1:=Nat.dvd_one.1 (px▸DL hD.mem)
 rw [h1,Nat.one_mul]
 simp
def lU(x:List Int):Int:=if lead x<0 then -(bO x:Int)else bO x
def sG(x:List Int):List Int:=aO (x.map (qL (lU x)))
theorem oF(x:List Int):(lU x).natAbs=bO x:=by unfold lU;split<;>omega
theorem JH(x:List Int):∀c∈x,lU x∣c:=fun c hc=>by
 have:=iN x c hc
 unfold lU;split
 ·exact Int.neg_dvd.2 this
 ·exact this
theorem JI{x:List Int}(cx:Cn x)(hx:x ≠ []):(sG x).map (· * lU x)=x:=by
 have gx:=cO cx hx
 have h0:=oF x
 rw [←tA (show Cn (sG x)from Cn.cut _) (show lU x≠0 by omega)]
 refine Cn.ext (Cn.bB _ _) cx fun t=>?_
 rw [cW,sG,c8,←eC,AY (JH x)]
theorem Z2{x:List Int}(cx:Cn x)(hx:x ≠ []):bB (sG x) (lU x)=x:=by
 have gx:=cO cx hx
 have h0:=oF x
 rw [tA (show Cn (sG x)from Cn.cut _) (show lU x≠0 by omega)]
 exact JI cx hx
theorem ahP{x:List Int}(cx:Cn x)(hx:x ≠ []):bO (sG x)=1:=by
 have gx:=cO cx hx
 have h0:=oF x
 exact x9 (by omega) (JI cx hx) h0.symm
theorem adH{x:List Int}(cx:Cn x)(hx:x ≠ []):0<lead (sG x):=by
 have gx:=cO cx hx
 have h:=JI cx hx
 have hl:(sG x).length=x.length:=by rw [←congrArg List.length h];simp
 have pM:=List.length_pos_iff.2 hx
 have h1:lead x=lead (sG x)*lU x:=by
  rw [lead,lead,hl,←jV,h]
 have mZ:=dC (x:=sG x) (Cn.cut _) (by omega)
 have hg:(0:Int)<bO x:=by omega
 unfold lU at h1
 rcases Int.lt_trichotomy (lead (sG x)) 0 with h2 | h2 | h2
 ·exfalso
  split at h1
  ·rename_i h3
   have:=Int.mul_pos (show (0:Int) < -lead (sG x)by omega) hg
   rw [Int.mul_neg,←Int.neg_mul]at h1
   omega
  ·rename_i h3
   have:=Int.mul_pos (show (0:Int) < -lead (sG x)by omega) hg
   rw [Int.neg_mul]at this
   omega
 ·exact absurd h2 mZ
 ·exact h2
theorem uG(a:RP){s n:Nat}(ha:rB a)(sa:Bd LL s n (a.map gv))(hs:s<1099511627774)(hn:n<1099511627774) :
  aE env.P 137 [Pg a] (.dU [I (lU (m7 a)),Po (sG (m7 a))]):=by
 have hA:Bd LL s n (m7 a):=sa.cut
 have ca:Cn (m7 a):=Cn.cut _
 have na:=gK a ha
 rw [show aO (a.map gv)=m7 a from rfl]at na
 refine cD [(0,Pg a)] Tryz.func137 ?_
 generalize m7 a=x at *
 refine aA [0,2] ?_
 refine aR [0,2] na ?_
 refine aQ [0,2,9] ?_
 refine bJ ?_ ?_<;>intro h
 ·have h:x = []:=by simp at h;exact h
  subst h
  rw [show lU ([]:List Int)=0 by decide,show sG ([]:List Int) = []from rfl]
  refine aA [2,3] ?_
  refine W.ret ?_
  simp [go]
  exact⟨rfl,rfl⟩
 have hx:x ≠ []:=by simp at h;exact h
 clear h
 have pM:=List.length_pos_iff.2 hx
 have gx:=cO ca hx
 have QT:=oF x
 have hC:=wR x (PD.of hA hs hn)
 have hL:=lP (PB.of hA (by omega) (by omega)) ca
 have hgs:=VV (s:=s) hA.sz ca hx
 have EW:sz LL (lU x)≤s:=by
  unfold lU;split
  ·rw [oT];exact hgs
  ·exact hgs
 have hO:=NX x (lU x) (PD.of hA hs hn) (by omega) (by omega)
 rw [show aO (x.map (qL (lU x)))=sG x from rfl]at hO
 have hN:=acQ (x:=(bO x:Int)) (by show sz LL _<_;omega)
 refine W.skip ?_
 refine aR [0,2,4] hC ?_
 refine W.iB (fun σ=>∃(rows:Pm.Rows) (clk:Nat),σ=⟨fa [(0,Po x),(2, .ptr 2 0 0 0),(4, .ptr 4 1 0 0)],rows,clk⟩∧rows 2=some ⟨0,38,2,[[.bool false, .nil]]⟩∧rows 4=some ⟨1,38,2,[ie (lU x)]⟩) ?_ ?_
 ·refine W.eJ (fun σ=>∃(rows:Pm.Rows) (clk:Nat),σ=⟨fa [(0,Po x),(2, .ptr 2 0 0 0),(4, .ptr 4 1 0 0),(16, .bool (decide (lead x<0)))],rows,clk⟩∧rows 2=some ⟨0,38,2,[[.bool false, .nil]]⟩∧rows 4=some ⟨1,38,2,[ie (bO x)]⟩) (fun K hK=>?_) ?_
  ·simp (disch:=omega) [gw]
   refine cS hL ?_
   refine hK _ _ (aB _ [0,2,4,16]) ⟨_,_,rfl,?_,?_⟩<;>simp [ie]
  rintro _ ⟨rows,clk,rfl,bX,c9⟩
  refine W.acB (lead x<0) rfl (fun h=>?_) (fun h=>?_)
  ·rw [lU,if_pos h]
   refine W.b7 (fun K hK=>?_)
   simp (disch:=omega) [gw,c9]
   refine aC hN ?_
   simp (disch:=omega) [gw,c9]
   exact hK _ ⟨_,aB _ [0,2,4],_,_,rfl,by simp [bX],by simp⟩
  ·rw [lU,if_neg h]
   refine W.skip ?_
   exact⟨_,aB _ [0,2,4],_,_,rfl,bX,c9⟩
 rintro _ ⟨rows,clk,rfl,bX,c9⟩
 generalize lU x=c at *
 generalize sG x=p at *
 refine W.sd ?_
 simp (disch:=omega) [gw,c9]
 refine aC hO ?_
 simp (disch:=omega) [gw,bX,c9]
 refine bH [2,3] ?_
 exact cC
abbrev qd(x:List Int)(D:Int):List Rat:=x.map fun v=>dR v D
theorem fJ{v D:Int}(h:D≠0):dR v D=(v:Rat)/(D:Rat):=by rw [dR,if_neg h,Rat.divInt_eq_div]
theorem gU{D:Int}(h:D≠0):(D:Rat)≠0:=fun h2=>h (by exact_mod_cast h2)
theorem wS{D:Int}(h:D≠0):dR 0 D=0:=by rw [fJ h];simp [Rat.div_def]
theorem zM{v D:Int}(h:D≠0):dR v D=0↔v=0:=by
 constructor
 ·intro h2
  rw [fJ h]at h2
  have h3:=gU h
  have:(v:Rat)=0:=by
   have h4:(v:Rat)/(D:Rat)*D=0:=by rw [h2];grind
   rw [Rat.div_mul_cancel h3]at h4
   exact h4
  exact_mod_cast this
 ·rintro rfl;exact wS h
theorem VW{v D l:Int}(h:D≠0)(hl:l≠0):dR (v*l) (D*l)=dR v D:=by
 rw [fJ h,fJ (Int.mul_ne_zero h hl),Rat.intCast_mul,Rat.intCast_mul]
 have h1:=gU h
 have h2:=gU hl
 grind
theorem ahQ{v w D:Int}(h:D≠0):dR v D+dR w D=dR (v+w) D:=by
 rw [fJ h,fJ h,fJ h,Rat.intCast_add]
 have h1:=gU h
 grind
theorem VX{v D:Int}(h:D≠0):dR v D*(-1)=dR (-v) D:=by
 rw [fJ h,fJ h,Rat.intCast_neg]
 have h1:=gU h
 grind
theorem adI{v w D:Int}(h:D≠0):(w:Rat)*dR v D=dR (w*v) D:=by
 rw [fJ h,fJ h,Rat.intCast_mul]
 have h1:=gU h
 grind
theorem ahR{v D l:Int}(h:D≠0)(hl:l≠0):dR v D/(l:Rat)=dR v (D*l):=by
 rw [fJ h,fJ (Int.mul_ne_zero h hl),Rat.intCast_mul]
 have h1:=gU h
 have h2:=gU hl
 grind
theorem wT{D:Int}(h:D≠0):∀x:List Int,nW (qd x D)=qd (aO x) D
 | []=>rfl
 | a::x=>by
  have ih:=wT h x
  simp only [qd,List.map_cons]at ih ⊢
  rw [nW,ih,aO]
  by_cases h1:aO x = []∧a=0
  ·simp [h1,wS h]
  ·rw [if_neg h1,if_neg (by simpa [zM h]using h1)];simp
theorem JJ{D:Int}(h:D≠0)(x:List Int)(k:Nat):nth (qd x D) k=dR (nth x k) D:=AS (f:=fun v=>dR v D) (wS h) x k
theorem ahS{D:Int}(h:D≠0)(x y:List Int):ac7 (qd x D) (qd y D)=qd (iJ x y) D:=by
 rw [ac7,iJ,←wT h]
 congr 1
 simp only [qd,List.length_map,List.map_map]
 congr 1
 funext k
 simp only [Function.comp_apply]
 rw [show nth (List.map (fun v=>dR v D) x) k=_ from JJ h x k,show nth (List.map (fun v=>dR v D) y) k=_ from JJ h y k,ahQ h]
theorem ahT{D:Int}(h:D≠0)(x:List Int):kU (qd x D) (-1)=qd (gV x) D:=by
 rw [kU,gV,←wT h]
 congr 1
 simp only [qd,List.map_map]
 congr 1
 funext k
 simp only [Function.comp_apply]
 exact VX h
theorem Z3{D:Int}(h:D≠0)(y:List Int)(v:Int):kU (qs y) (dR v D)=qd (bB y v) D:=by
 rw [kU,bB,←wT h]
 congr 1
 simp only [qd,qs,List.map_map]
 congr 1
 funext k
 simp only [Function.comp_apply]
 exact adI h
theorem SU{D l:Int}(h:D≠0)(hl:l≠0)(x:List Int):qd (x.map (· * l)) (D*l)=qd x D:=by
 simp only [qd,List.map_map]
 congr 1
 funext k
 simp only [Function.comp_apply]
 exact VW h hl
theorem JK(x:List Int):qd x 1=qs x:=by
 simp only [qd,qs,l7]
theorem uX{v D:Int}{k:Nat}(h:D≠0)(hv:sz 2 v≤k)(hD:sz 2 D≤k):ZR k (dR v D):=by
 refine⟨Nat.le_trans (dP (by decide) ?_) hv,Nat.le_trans (dP (by decide) ?_) hD⟩
 ·rw [qH _ _ h]
  refine Nat.le_trans (Int.natAbs_ediv_le_natAbs _ _) ?_
  split<;>simp
 ·rw [qI _ _ h]
  refine Nat.le_trans (Int.natAbs_ediv_le_natAbs _ _) ?_
  split<;>simp
theorem SV{x:List Int}{D:Int}{k n:Nat}(h:D≠0)(hx:Bd 2 k n x)(hD:sz 2 D≤k)(hk:k≤YY)(hn:n<1099511627776):ZN (qd x D):=⟨fun q hq=>by
 simp only [List.mem_map]at hq
 obtain⟨v,hv,rfl⟩:=hq
 exact uX h (Nat.le_trans (hx.sz v hv) hk) (Nat.le_trans hD hk),by have:=hx.len;simp;omega⟩
structure DS where
 Q:List Int
 r:List Int
 D:Int
def dst(y:List Int)(σ:DS):DS:=⟨(σ.Q.map (· * lead y)).set (σ.r.length-y.length) (lead σ.r),xO y (lead y) (lead σ.r) (σ.r.length-y.length) σ.r,σ.D*lead y⟩
def Z4(y:List Int):Nat→DS→DS
 | 0,σ=>σ
 | n+1,σ=>if σ.r.length<y.length then σ else Z4 y n (dst y σ)
def dmd(x y:List Int):DS:=Z4 y (x.length+1) ⟨List.replicate (jU x y) 0,x,1⟩
theorem JL{y:List Int}{σ:DS}(hy:0<y.length)(h:y.length≤σ.r.length):(dst y σ).r.length<σ.r.length:=by
 have h1:=AV (b:=y) (r:=σ.r) (i:=σ.r.length-y.length) hy (by omega)
 rw [show wC y σ.r (σ.r.length-y.length)=lead σ.r from by rw [wC,if_pos (by omega)]]at h1
 show(xO y (lead y) (lead σ.r) (σ.r.length-y.length) σ.r).length<_
 omega
theorem ahU{y:List Int}{σ:DS}(h:σ.r.length<y.length):∀n,Z4 y n σ=σ
 | 0=>rfl
 | n+1=>by rw [Z4,if_pos h]
structure uY(x y:List Int)(σ:DS):Prop where
 v:∀t,σ.D*V t x=V t σ.Q*V t y+V t σ.r
 z:∀j,j+y.length≤σ.r.length→nth σ.Q j=0
 c:Cn σ.r
 d:σ.D≠0
 q:σ.r.length+1≤σ.Q.length+y.length∨σ.r.length<y.length
theorem uY.step{x y:List Int}{σ:DS}(cy:Cn y)(hy:0<y.length)(h:y.length≤σ.r.length)(hI:uY x y σ):uY x y (dst y σ):=by
 have hl:=dC cy hy
 have dK:=JL hy h
 have hq:=hI.q.resolve_right (by omega)
 have hk:σ.r.length-y.length<(σ.Q.map (· * lead y)).length:=by simp;omega
 have h1:=AV (b:=y) (r:=σ.r) (i:=σ.r.length-y.length) hy (by omega)
 rw [show wC y σ.r (σ.r.length-y.length)=lead σ.r from by rw [wC,if_pos (by omega)]]at h1
 refine⟨fun t=>?_,fun j hj=>?_,Cn.fL _ _,Int.mul_ne_zero hI.d hl,?_⟩
 ·have h2:=hI.v t
  have h3:=GB (b:=t) (x:=lead σ.r) hk
  have h4:nth (σ.Q.map (· * lead y)) (σ.r.length-y.length)=0:=by
   rw [jV,hI.z _ (by omega)];simp
  show σ.D*lead y*V t x=V t ((σ.Q.map (· * lead y)).set (σ.r.length-y.length) (lead σ.r))*V t y+V t (xO y (lead y) (lead σ.r) (σ.r.length-y.length) σ.r)
  rw [h3,h4,eC,xO,i7,dJ,oC,cW]
  have h5:σ.D*lead y*V t x=lead y*(σ.D*V t x):=by grind
  rw [h5,h2];grind
 ·have hj:j+y.length≤(xO y (lead y) (lead σ.r) (σ.r.length-y.length) σ.r).length:=hj
  show nth ((σ.Q.map (· * lead y)).set (σ.r.length-y.length) (lead σ.r)) j=0
  rw [gS (by omega),jV,hI.z _ (by omega)];simp
 ·left
  have:(dst y σ).Q.length=σ.Q.length:=by simp [dst]
  omega
theorem uY.Z4{x y:List Int}(cy:Cn y)(hy:0<y.length):∀(n:Nat) (σ:DS),σ.r.length<n→uY x y σ→uY x y (Z4 y n σ)∧(Proofs.YtiobceocpabjdaaGreat.Z4 y n σ).r.length<y.length
 | 0,σ,h,_=>by omega
 | n+1,σ,h,hI=>by
  rw [Proofs.YtiobceocpabjdaaGreat.Z4]
  split
  ·rename_i h1;exact⟨hI,h1⟩
  ·rename_i h1
   exact uY.Z4 cy hy n _ (by have:=JL (σ:=σ) hy (by omega);omega) (hI.step cy hy (by omega))
theorem uY.start{x y:List Int}(cx:Cn x):uY x y ⟨List.replicate (jU x y) 0,x,1⟩:=by
 refine⟨fun t=>?_,fun j hj=>?_,cx,show(1:Int)≠0 by decide,?_⟩
 ·simp [qW]
 ·rcases Nat.lt_or_ge j (jU x y)with h | h
  ·rw [bW (by simpa using h)];simp
  ·rw [iI (by simpa using h)];rfl
 ·simp only [jU,List.length_replicate];omega
theorem ahV{x y:List Int}(cx:Cn x)(cy:Cn y)(hy:0<y.length):uY x y (dmd x y)∧(dmd x y).r.length<y.length:=uY.Z4 cy hy _ _ (Nat.lt_succ_self _) (uY.start cx)
@[simp] theorem auL{l:List Rat}{i:Nat}{q:Rat}:iA (emap re l) i 0 [aJ aI (aS DD q.num.natAbs), .bool (decide (q.num<0)),aJ aI (aS DD q.den), .bool false]=emap re (l.set i q):=AW (n:=4) (fun _=>rfl)
theorem DM(x:List Int):emap re (qs x)=emap ri x:=by simp only [emap,qs,List.map_map,Function.comp_def,iM]
theorem adK(a b n:List Rat)(ha:ZN a)(hb:ZN b)(hn:kU b (-1)=n)(hn2:ZN n):aE env.P 266 [PP a,PP b] (PP (ac7 a n)):=by
 have h1:=NN b hb
 rw [hn]at h1
 have h2:=ac8 a n ha hn2
 refine cD [(0,PP a),(1,PP b)] Tryz.func266 ?_
 refine aA [0,1] ?_
 refine jC ?_
 refine cS h1 ?_
 refine cN [4] h2 ?_
 exact cC
def LD(l:List Rat):Int:=l.foldl (fun d q=>(d*q.den).tdiv (Int.gcd d q.den)) 1
def VY(d:Int)(l:List Rat):Int:=l.foldl (fun (g:Int) q=>(Int.gcd g ((q.num*d).tdiv q.den):Int)) 0
theorem adL{l:List Rat}{i:Nat}(h:i<l.length):LD (l.take (i+1))=(LD (l.take i)*(nth l i).den).tdiv (Int.gcd (LD (l.take i)) (nth l i).den):=by
 unfold LD;rw [bF h,List.foldl_append];rfl
theorem adM{l:List Rat}{d:Int}{i:Nat}(h:i<l.length):VY d (l.take (i+1))=(Int.gcd (VY d (l.take i)) (((nth l i).num*d).tdiv (nth l i).den):Int):=by
 unfold VY;rw [bF h,List.foldl_append];rfl
theorem adN(q:Rat):RI (q.den:Int) = .ag [aJ aI (aS DD q.den), .bool false]:=by
 simp [show ¬((q.den:Int)<0)by omega]
def SW(l:List Rat):Rat:=if (nth l (l.length-1)).num<0 then -(dR (VY (LD l) l) (LD l))else dR (VY (LD l) l) (LD l)
def qpr(l:List Rat):List Rat:=kU l (1/SW l)
theorem sH(l:List Rat){k:Nat}(hk:k≤YY)(hk1:1≤k)(hl:∀q∈l,ZR k q)(EM:l.length<1099511627776)(h0:l ≠ [])
  (hd:∀i,sz 2 (LD (l.take i))≤k) (VM:∀i,0<LD (l.take i)) (hg:∀i,sz 2 (VY (LD l) (l.take i))≤k)
  (hc:ZR YY (SW l)) (xY:SW l≠0) (vP:ZR YY (1/SW l)) :
  aE env.P 155 [PP l] (.dU [RR (SW l),PP (qpr l)]):=by
 have hkY:k≤137438953472:=hk
 have LQ:0<l.length:=List.length_pos_iff.2 h0
 refine cD [(0,PP l)] Tryz.func155 ?_
 refine aA [0,2] ?_
 refine aQ [0,2,11] ?_
 refine bJ ?_ ?_<;>intro h
 ·exfalso;simp at h;exact h0 h
 refine W.skip ?_
 refine jC ?_
 refine aC (oD 1 (by decide) (by decide)) ?_
 simp (disch:=omega) [gw]
 refine bH [0,2,4] ?_
 refine aQ [0,2,4,15,16] ?_
 refine W.block ?_
 refine W.bE (fun n σ=>∃(i:Nat) (d:Int) (rows:Pm.Rows) (clk:Nat),σ=⟨fa [(0,PP l),(2, .ptr 2 0 0 0),(4, .ptr 4 1 0 0),(15, .int .i64 l.length),(16, .int .i64 i)],rows,clk⟩ ∧
  rows 2=some ⟨0,31,4,[[.nil, .bool false, .nil, .bool false]]⟩∧rows 4=some ⟨1,29,2,[[aJ aI (aS DD d.natAbs), .bool (decide (d<0))]]⟩∧n=l.length-i∧i≤l.length∧d=LD (l.take i)) l.length ?_ ?_
 ·exact⟨_, .refl,0,1,_,_,rfl,by simp,by simp,by omega,by omega,by simp [LD]⟩
 rintro n _ ⟨i,d,rows,clk,rfl,bX,c9,hn,hi,hdv⟩
 refine bU [0,2,4,15,16,17] ?_
 refine bJ ?_ ?_<;>intro h
 ·have hi:i<l.length:=by simp at h;omega
  have hq:=hl _ (bN hi)
  have hdi:=hd i
  have hdp:=VM i
  have hs:=adL hi
  rw [←hdv]at hs hdi hdp
  have hsn:=hd (i+1)
  have m1:=eV d (nth l i).den (by simp only [Z];omega) (by have:=hq.d;simp only [Z];omega)
  have m2:=C9 d (nth l i).den (by simp only [Y];omega) (by have:=hq.d;simp only [Y];omega)
  have zm:=cG (b:=2) (by decide) hdi hq.d
  have hgp:0<Int.gcd d (nth l i).den:=Int.gcd_pos_of_ne_zero_left _ (by omega)
  have zg:Y (Int.gcd d (nth l i).den:Int):=C8 (y:=d) (by simp only [Y];omega) (by
   have:=Int.le_of_dvd hdp (Int.gcd_dvd_left d ((nth l i).den:Int));omega)
  have m3:=wM (d*(nth l i).den) (Int.gcd d (nth l i).den) (by omega) (by simp only [Y];omega) zg
  rw [←hs]at m3
  rw [adN]at m1 m2
  generalize (Int.gcd d (nth l i).den:Int)=gg at *
  generalize d*((nth l i).den:Int)=dd at *
  generalize Q4:LD (l.take (i+1))=d2 at *
  generalize Z5:nth l i=q at *
  refine lF ?_
  refine W.sr ?_
  simp (disch:=omega) [gw,Z5]
  refine bH [0,2,4,5,15,16] ?_
  refine W.I2 (fun K hK=>?_)
  simp (disch:=omega) [gw,c9,Z5]
  refine aC m1 ?_
  simp (disch:=omega) [gw,c9,Z5]
  refine aC m2 ?_
  simp (disch:=omega) [gw,c9,Z5]
  refine aC m3 ?_
  simp (disch:=omega) [gw,c9,Z5]
  refine bA (by refine⟨?_,?_⟩<;>kernel_rfl) ?_
  simp (disch:=omega) [gw]
  refine W.lw [0,2,4,15,16] hK ?_;clear hK K;simp
  refine W.b7 (fun K hK=>?_);simp (disch:=omega) [gw]
  refine hK _ ⟨l.length-(i+1),_,aB _ [0,2,4,15,16],by omega,i+1,d2,_,_,rfl,by simp [bX],by simp,by omega,by omega,Q4.symm⟩
 have hi:i=l.length:=by simp at h;omega
 subst hi
 rw [List.take_length]at hdv
 have hdl:=hd l.length
 have hdp:=VM l.length
 rw [List.take_length,←hdv]at hdl hdp
 rw [←hdv]at hg
 have hqc:SW l=if (nth l (l.length-1)).num<0 then -(dR (VY d l) d)else dR (VY d l) d:=by rw [hdv];rfl
 refine fA ?_
 refine aA [0,2,4,6] ?_
 refine W.row (id:=6) (els:=[[.nil, .bool false]]) [[aJ aI (aS DD 0), .bool false]] (by simp;first | exact⟨rfl,rfl,rfl⟩ | exact⟨rfl,rfl,rfl,rfl⟩) ⟨⟨.inr ⟨rfl,rfl⟩, .inl rfl,trivial⟩,trivial⟩ ?_
 refine aQ [0,2,4,6,36,37] ?_
 refine W.block ?_
 clear hdv
 refine W.bE (fun n σ=>∃(i v6:Nat) (g:Int) (rows:Pm.Rows) (clk:Nat),σ=⟨fa [(0,PP l),(2, .ptr 2 0 0 0),(4, .ptr 4 1 0 0),(6, .ptr 6 v6 0 0),(36, .int .i64 l.length),(37, .int .i64 i)],rows,clk⟩ ∧
  rows 2=some ⟨0,31,4,[[.nil, .bool false, .nil, .bool false]]⟩∧rows 4=some ⟨1,29,2,[[aJ aI (aS DD d.natAbs), .bool (decide (d<0))]]⟩ ∧
  rows 6=some ⟨v6,29,2,[[aJ aI (aS DD g.natAbs), .bool (decide (g<0))]]⟩∧n=l.length-i∧i≤l.length∧g=VY d (l.take i)) l.length ?_ ?_
 ·exact⟨_, .refl,0,_,0,_,_,rfl,by simp [bX],by simp [c9],by simp,by omega,by omega,by simp [VY]⟩
 clear bX c9 rows clk
 rintro n _ ⟨i,v6,g,rows,clk,rfl,bX,c9,l8,hn,hi,hgv⟩
 refine bU [0,2,4,6,36,37,38] ?_
 refine bJ ?_ ?_<;>intro h
 ·have hi:i<l.length:=by simp at h;omega
  have hq:=hl _ (bN hi)
  have hgi:=hg i
  have hs:=adM (d:=d) hi
  rw [←hgv]at hs hgi
  have m1:=eV (nth l i).num d (by have:=hq.n;simp only [Z];omega) (by simp only [Z];omega)
  have zm:=cG (b:=2) (by decide) hq.n hdl
  have m2:=wM ((nth l i).num*d) (nth l i).den (by have:=(nth l i).den_nz;omega) (by simp only [Y];omega) (by have:=hq.d;simp only [Y];omega)
  have zq:Y (((nth l i).num*d).tdiv (nth l i).den):=C8 (y:=(nth l i).num*d) (by simp only [Y];omega) (by rw [Int.natAbs_tdiv];exact Nat.div_le_self _ _)
  have m3:=C9 g (((nth l i).num*d).tdiv (nth l i).den) (by simp only [Y];omega) zq
  rw [←hs]at m3
  rw [adN]at m2
  generalize ((nth l i).num*d).tdiv (nth l i).den=nq at *
  generalize (nth l i).num*d=nd at *
  generalize qZ:VY d (l.take (i+1))=g2 at *
  generalize Z5:nth l i=q at *
  refine lF ?_
  refine W.sr ?_
  simp (disch:=omega) [gw,Z5]
  refine bH [0,2,4,6,7,36,37] ?_
  refine W.I2 (fun K hK=>?_)
  simp (disch:=omega) [gw,c9,l8,Z5]
  refine aC m1 ?_
  simp (disch:=omega) [gw,c9,l8,Z5]
  refine aC m2 ?_
  simp (disch:=omega) [gw,c9,l8,Z5]
  refine aC m3 ?_
  simp (disch:=omega) [gw,c9,l8,Z5]
  refine bA (by kernel_rfl) ?_
  simp (disch:=omega) [gw]
  refine W.lw [0,2,4,6,36,37] hK ?_;clear hK K;simp
  refine W.b7 (fun K hK=>?_);simp (disch:=omega) [gw]
  refine hK _ ⟨l.length-(i+1),_,aB _ [0,2,4,6,36,37],by omega,i+1,v6,g2,_,_,rfl,by simp [bX],by simp [c9],by simp,by omega,by omega,qZ.symm⟩
 have hi:i=l.length:=by simp at h;omega
 subst hi
 rw [List.take_length]at hgv
 have hgl:=hg l.length
 rw [List.take_length]at hgl
 rw [←hgv]at hgl hqc
 have hMk:=kT g d (by simp only [Y];omega) (by simp only [Y];omega)
 have hNg:=NH (dR g d)
 have hQ:=NK 1 (SW l) ⟨by show sz 2 1≤YY;exact Nat.le_trans (dY (k:=1) (by decide) (by decide)) (by decide),by show sz 2 1≤YY;exact Nat.le_trans (dY (k:=1) (by decide) (by decide)) (by decide)⟩ hc xY
 have hOf:=oE 1 1 (by decide) (by decide)
 rw [l7,show(((1:Int)):Rat)=1 by simp]at hOf
 have hSc:=uW l (1/SW l) ⟨fun q hq=>⟨Nat.le_trans (hl q hq).n hk,Nat.le_trans (hl q hq).d hk⟩,EM⟩ vP
 rw [show kU l (1/SW l)=qpr l from rfl]at hSc
 have e1:((l.length:Int)-1).toNat=l.length-1:=by omega
 generalize qpr l=pr at *
 generalize kH:(1:Rat)=one at *
 generalize one/SW l=ic at *
 generalize SW l=cc at *
 generalize hqm:dR g d=c0 at *
 generalize Z5:nth l (l.length-1)=q at *
 refine fA ?_
 refine W.sr ?_
 simp (disch:=omega) [gw,c9,l8]
 refine cN [0,2,8] hMk ?_
 refine W.iB (fun σ=>∃(v8:Nat) (rows:Pm.Rows) (clk:Nat),σ=⟨fa [(0,PP l),(2, .ptr 2 0 0 0),(8, .ptr 8 v8 0 0)],rows,clk⟩∧rows 2=some ⟨0,31,4,[[.nil, .bool false, .nil, .bool false]]⟩∧rows 8=some ⟨v8,31,4,[re cc]⟩) ?_ ?_
 ·refine W.sr ?_
  simp (disch:=omega) [gw,e1,Z5]
  refine bH [0,2,8,66] ?_
  refine W.acB (q.num<0) rfl (fun h=>?_) (fun h=>?_)
  ·rw [if_pos h]at hqc
   rw [←hqc]at hNg
   refine W.b7 (fun K hK=>?_)
   simp (disch:=omega) [gw]
   refine cS hNg ?_
   exact hK _ ⟨_,aB _ [0,2,8],_,_,_,rfl,by simp [bX],by simp⟩
  ·rw [if_neg h]at hqc
   refine W.skip ?_
   exact⟨_,aB _ [0,2,8],_,_,_,rfl,by simp [bX],by simp [hqc]⟩
 clear bX c9 l8 rows clk
 rintro _ ⟨v8,rows,clk,rfl,bX,nP⟩
 refine W.sd ?_
 simp (disch:=omega) [gw,nP]
 refine aC hOf ?_
 simp (disch:=omega) [gw,nP]
 refine aC hQ ?_
 simp (disch:=omega) [gw,nP]
 refine aC hSc ?_
 simp (disch:=omega) [gw,bX,nP]
 refine bH [2,3] ?_
 exact cC
theorem VZ(x:List Int)(hx:∀c∈x,Z c)(hl:x.length<1099511627776):aE env.P 100 [PI x] (Po x):=by
 refine cD [(0,PI x)] Tryz.func100 ?_
 refine aA [0] ?_
 refine aA [0,3] ?_
 refine W.nil 3 3 38 2 (by simp) (by decide) (fun K hK=>?_)
 refine W.lw [0,3] hK ?_;clear hK K;simp
 refine aQ [0,3,6,7] ?_
 refine W.block ?_
 refine W.bE (fun k σ=>∃(i ver:Nat) (rows:Pm.Rows) (clk:Nat),σ=⟨fa [(0,PI x),(3, .own 3 ver 0 i),(6, .int .i64 x.length),(7, .int .i64 i)],rows,clk⟩∧rows 3=some ⟨ver,38,2,emap ie (x.take i)⟩∧k=x.length-i∧i≤x.length) x.length ?_ ?_
 ·exact⟨_, .refl,0,_,_,_,rfl,by simp [emap],by omega,by omega⟩
 rintro k _ ⟨i,ver,rows,clk,rfl,hr,hk,hi⟩
 refine bU [0,3,6,7,8] ?_
 refine W.cond ⟨_,rfl,fun h0=>?_,fun h0=>?_⟩
 ·have h0:i<x.length:=by simp at h0;omega
  have gB:(x.take i).length=i:=by simp;omega
  have hT:=wL (nth x i) (hx _ (bN h0))
  refine lF ?_
  refine aA [0,3,4,6,7] ?_
  refine W.b7 (fun K hK=>?_)
  simp (disch:=omega) [gw]
  refine aC hT ?_
  simp (disch:=omega) [gw,hr,gB]
  refine W.lw [0,3,6,7] hK ?_;clear hK K;simp
  refine W.b7 (fun K hK=>?_);simp (disch:=omega) [gw]
  refine hK _ ⟨x.length-(i+1),_,aB _ [0,3,6,7],by omega,i+1,_,_,_,rfl,?_,by omega,by omega⟩
  rw [bF h0]
  simp
 ·have iQ:i=x.length:=by simp at h0;omega
  subst iQ
  rw [List.take_length]at hr
  refine fA ?_
  refine W.sr ?_
  simp (disch:=omega) [gw,hr]
  refine bH [2] ?_
  refine W.ret ?_
  simp [go,hr]
theorem JM(x:List Int):LD (qs x)=1:=by
 have key:∀l:List Int,(qs l).foldl (fun (d:Int) q=>(d*q.den).tdiv (Int.gcd d q.den)) 1=1:=by
  intro l
  induction l with
  | nil=>rfl
  | cons a l ih =>
   simp only [qs,List.map_cons,List.foldl_cons,Rat.den_intCast]at ih ⊢
   exact ih
 exact key x
theorem adO(x:List Int):VY 1 (qs x)=bO x:=by
 have key:∀(l:List Int) (g:Nat),(qs l).foldl (fun (g:Int) q=>(Int.gcd g ((q.num*1).tdiv q.den):Int)) g=(l.foldl (fun g c=>Nat.gcd g c.natAbs) g:Nat):=by
  intro l
  induction l with
  | nil=>intro g;rfl
  | cons a l ih =>
   intro g
   have:=ih (Nat.gcd g a.natAbs)
   simp only [qs,List.map_cons,List.foldl_cons,Rat.den_intCast,Rat.num_intCast]at this ⊢
   rw [←this]
   congr 1
   simp [Int.gcd]
 exact key x 0
theorem JN(x:List Int)(i:Nat):(qs x).take i=qs (x.take i):=by simp [qs,List.map_take]
theorem DN{x:List Int}(hx:0<x.length):SW (qs x)=(lU x:Rat):=by
 have e:(nth (qs x) ((qs x).length-1)).num=lead x:=by rw [ac9];simp [lead]
 unfold SW lU
 rw [JM,adO,l7,e]
 split
 ·rw [Rat.intCast_neg]
 ·rfl
theorem aoe{x:List Int}(cx:Cn x)(hx:x ≠ []):qpr (qs x)=qs (sG x):=by
 have pM:=List.length_pos_iff.2 hx
 have h0:=oF x
 have gx:=cO cx hx
 have hp:lU x≠0:=by omega
 have hc:=gU hp
 rw [qpr,DN pM,kU,sG,←wN]
 congr 1
 simp only [qs,List.map_map]
 refine List.map_congr_left fun v hv=>?_
 simp only [Function.comp_apply]
 have hd:=JH x v hv
 obtain⟨w,rfl⟩:=hd
 have:qL (lU x) (lU x*w)=w:=by
  unfold qL
  rw [if_pos (Int.mul_emod_right _ _)]
  exact Int.mul_ediv_cancel_left _ hp
 rw [this,Rat.intCast_mul]
 grind
theorem mS{x:List Int}{s:Nat}(hs:∀c∈x,sz 2 c≤s):sz 2 (bO x:Int)≤s:=by
 by_cases h:∃c∈x,c≠0
 ·obtain⟨c,hc,h0⟩:=h
  refine Nat.le_trans (dP (by decide) ?_) (hs c hc)
  have:=Int.le_of_dvd (a:=(bO x:Int)) (b:=(c.natAbs:Int)) (by omega) (Int.dvd_natAbs.2 (iN x _ hc))
  omega
 ·have h1:bO x=0:=by
   have h2:(0:Nat)∣bO x:=DL fun c hc=>by
    have:c=0:=Classical.byContradiction fun h3=>h ⟨c,hc,h3⟩
    rw [this];exact Int.dvd_refl _
   exact Nat.eq_zero_of_zero_dvd h2
  rw [h1];show sz 2 0≤s;rw [kR];omega
theorem DO(x:List Int){s n:Nat}(hx:Bd 2 s n x)(cx:Cn x)(wH:1≤s)(hs:s≤YY)(hn:n<1099511627776):aE env.P 155 [PI x] (.dU [.ag (ri (lU x)),PI (sG x)]):=by
 have hlx:=hx.len
 by_cases h0:x = []
 ·subst h0
  have hz:=s8
  rw [show lU ([]:List Int)=0 by decide,show sG ([]:List Int) = []from rfl]
  refine cD [(0,PI [])] Tryz.func155 ?_
  refine aA [0,2] ?_
  refine aQ [0,2,11] ?_
  refine bJ ?_ ?_<;>intro h
  ·refine aR [2,3] hz ?_
   refine W.ret ?_
   simp [go]
   all_goals rfl
  ·simp at h
 ·have pM:=List.length_pos_iff.2 h0
  have hp:=oF x
  have gx:=cO cx h0
  have QT:lU x≠0:=by omega
  have hgs:∀i,sz 2 (bO (x.take i):Int)≤s:=fun i=>mS fun c hc=>hx.sz c (List.mem_of_mem_take hc)
  have zK:sz 2 (lU x)≤s:=by
   have:=mS hx.sz
   unfold lU;split
   ·rw [oT];exact this
   ·exact this
  have s1:sz 2 1≤1:=dY (by decide) (by decide)
  have zc:ZR YY (lU x:Rat):=sE (Nat.le_trans zK hs) (by decide)
  have e1:(1:Rat)/(lU x:Rat)=dR 1 (lU x):=by rw [fJ QT];simp
  have:=sH (qs x) hs wH (fun q hq=>by
   simp only [qs,List.mem_map]at hq
   obtain⟨c,hc,rfl⟩:=hq
   exact sE (hx.sz c hc) wH) (by simp;omega) (by simpa [qs]using h0)
   (fun i=>by rw [JN,JM];omega) (fun i=>by rw [JN,JM];decide) (fun i=>by rw [JM,JN,adO];exact hgs i)
   (by rw [DN pM];exact zc) (by rw [DN pM];exact gU QT) (by rw [DN pM,e1];exact uX QT (by show sz 2 1≤137438953472;omega) (Nat.le_trans zK hs))
  rw [DN pM,aoe cx h0,uF,uF,RR,iM]at this
  exact this
theorem Z6{D a b:Nat}(hD:0<D)(ha:a∣D)(hb:b∣D):Nat.lcm (D/a) (D/b)=D/Nat.gcd a b:=by
 have ha0:0<a:=Nat.pos_of_dvd_of_pos ha hD
 have hb0:0<b:=Nat.pos_of_dvd_of_pos hb hD
 have hg:0<Nat.gcd a b:=Nat.gcd_pos_of_pos_left _ ha0
 obtain⟨a',b',hc,ea,eb⟩:=Nat.exists_coprime a b
 generalize Nat.gcd a b=g at *
 obtain⟨p,hp⟩:=ha
 obtain⟨q,hq⟩:=hb
 have h1:a'*p=b'*q:=by
  have:g*(a'*p)=g*(b'*q):=by rw [ea]at hp;rw [eb]at hq;grind
  exact Nat.eq_of_mul_eq_mul_left hg this
 have h2:a'∣q:=hc.dvd_of_dvd_mul_left (by rw [←h1];exact Nat.dvd_mul_right _ _)
 obtain⟨m,rfl⟩:=h2
 have az8:0<a':=by
  rcases Nat.eq_zero_or_pos a' with h | h
  ·rw [h]at ea;omega
  ·exact h
 have h3:p=b'*m:=by
  have:a'*p=a'*(b'*m):=by rw [h1];grind
  exact Nat.eq_of_mul_eq_mul_left az8 this
 subst h3
 have e1:D/a=b'*m:=by rw [hp];exact Nat.mul_div_cancel_left _ ha0
 have e2:D/b=a'*m:=by rw [hq];exact Nat.mul_div_cancel_left _ hb0
 have e3:D/g=a'*b'*m:=by
  rw [hp,ea,show a'*g*(b'*m)=g*(a'*b'*m)by grind]
  exact Nat.mul_div_cancel_left _ hg
 rw [e1,e2,e3,Nat.lcm_mul_right,Nat.lcm_comm,Nat.lcm,show a'.gcd b'=1 from hc,Nat.div_one]
theorem adP(n:Nat)(q:Rat):((n:Int)*q.den).tdiv (Int.gcd n q.den)=(Nat.lcm n q.den:Nat):=by
 have:Int.gcd (n:Int) (q.den:Int)=Nat.gcd n q.den:=rfl
 rw [this,←Int.natCast_mul,←Int.ofNat_tdiv]
 rfl
theorem zN{v:Int}{D:Nat}(hD:0<D):(dR v D).den=D/Nat.gcd D v.natAbs:=by
 have h:=qI v D (by omega)
 have h2:¬(D:Int)<0:=by omega
 simp only [h2,if_false]at h
 have:Int.gcd v (D:Int)=Nat.gcd D v.natAbs:=by rw [Int.gcd,Nat.gcd_comm];rfl
 rw [this]at h
 exact_mod_cast h
theorem zO{v:Int}{D:Nat}(hD:0<D):(dR v D).num=v/(Nat.gcd D v.natAbs:Nat):=by
 have h:=qH v D (by omega)
 have h2:¬(D:Int)<0:=by omega
 simp only [h2,if_false]at h
 have:Int.gcd v (D:Int)=Nat.gcd D v.natAbs:=by rw [Int.gcd,Nat.gcd_comm];rfl
 rw [this]at h
 exact h
def gcD(D:Nat)(x:List Int):Nat:=Nat.gcd D (bO x)
theorem JO{D:Nat}(hD:0<D)(x:List Int):LD (qd x D)=(D/gcD D x:Nat):=by
 have key:∀(l:List Int) (g:Nat),g∣D→(qd l D).foldl (fun (d:Int) q=>(d*q.den).tdiv (Int.gcd d q.den)) (D/g:Nat)=(D/(l.foldl (fun g c=>Nat.gcd g c.natAbs) g):Nat):=by
  intro l
  induction l with
  | nil=>intro g _;rfl
  | cons a l ih =>
   intro g hg
   have h1:=ih (Nat.gcd g a.natAbs) (Nat.dvd_trans (Nat.gcd_dvd_left _ _) hg)
   simp only [qd,List.map_cons,List.foldl_cons]at h1 ⊢
   rw [adP,zN hD,Z6 hD hg (Nat.gcd_dvd_left _ _)]
   rw [show Nat.gcd g (Nat.gcd D a.natAbs)=Nat.gcd g a.natAbs by rw [←Nat.gcd_assoc,Nat.gcd_eq_left hg]]
   exact h1
 have h2:∀(l:List Int) (g:Nat),l.foldl (fun g c=>Nat.gcd g c.natAbs) g=Nat.gcd g (bO l):=by
  intro l
  unfold bO
  induction l with
  | nil=>intro g;simp
  | cons a l ih =>
   intro g
   simp only [List.foldl_cons]
   rw [ih,ih (Nat.gcd 0 a.natAbs),Nat.gcd_zero_left,Nat.gcd_assoc]
 have h3:=key x D (Nat.dvd_refl _)
 rw [Nat.div_self hD,h2]at h3
 exact h3
theorem adQ{D:Nat}(hD:0<D)(x:List Int){G:Nat}(hG:G∣D)(hx:∀c∈x,(G:Int)∣c):VY (D/G:Nat) (qd x D)=(bO x/G:Nat):=by
 have hG0:0<G:=Nat.pos_of_dvd_of_pos hG hD
 have key:∀(l:List Int) (g:Nat),(∀c∈l,(G:Int)∣c)→G∣g→(qd l D).foldl (fun (g:Int) q=>(Int.gcd g ((q.num*((D/G:Nat):Int)).tdiv q.den):Int)) (g/G:Nat)=((l.foldl (fun g c=>Nat.gcd g c.natAbs) g)/G:Nat):=by
  intro l
  induction l with
  | nil=>intro g _ _;rfl
  | cons a l ih =>
   intro g hl hg
   have ha:G∣a.natAbs:=Int.ofNat_dvd_left.1 (hl a (by simp))
   have h1:=ih (Nat.gcd g a.natAbs) (fun c hc=>hl c (by simp [hc])) (Nat.dvd_gcd hg ha)
   simp only [qd,List.map_cons,List.foldl_cons]at h1 ⊢
   have e:((dR a D).num*((D/G:Nat):Int)).tdiv (dR a D).den=a/(G:Int):=by
    rw [zO hD,zN hD]
    have VM:Nat.gcd D a.natAbs∣D:=Nat.gcd_dvd_left _ _
    have Q4:Nat.gcd D a.natAbs∣a.natAbs:=Nat.gcd_dvd_right _ _
    have hgp:0<Nat.gcd D a.natAbs:=Nat.gcd_pos_of_pos_left _ hD
    generalize Nat.gcd D a.natAbs=k at *
    obtain⟨m,hm⟩:=VM
    obtain⟨n,hn⟩:(k:Int)∣a:=Int.ofNat_dvd_left.2 Q4
    obtain⟨p,hp⟩:=hG
    obtain⟨r,hr⟩:=hl a (by simp)
    have PW:0<m:=by
     rcases Nat.eq_zero_or_pos m with h | h
     ·rw [h]at hm;omega
     ·exact h
    rw [show a/(k:Int)=n by rw [hn];exact Int.mul_ediv_cancel_left _ (by omega),show D/G=p by rw [hp];exact Nat.mul_div_cancel_left _ hG0,show D/k=m by rw [hm];exact Nat.mul_div_cancel_left _ hgp,
     show a/(G:Int)=r by rw [hr];exact Int.mul_ediv_cancel_left _ (by omega)]
    have e2:n*(p:Int)=m*r:=by
     have hDI:(k:Int)*m=G*p:=by exact_mod_cast hm.symm.trans hp
     have hk:(k:Int)*n=G*r:=hn.symm.trans hr
     have xU:(k:Int)≠0:=by omega
     have hG1:(G:Int)≠0:=by omega
     have:(k:Int)*G*(n*p)=k*G*(m*r):=by
      have e3:(k:Int)*G*(n*p)=(k*n)*(G*p):=by grind
      rw [e3,hk,←hDI];grind
     exact Int.eq_of_mul_eq_mul_left (Int.mul_ne_zero xU hG1) this
    rw [e2]
    exact Int.mul_tdiv_cancel_left _ (by omega)
   rw [e,show Int.gcd ((g/G:Nat):Int) (a/(G:Int))=Nat.gcd g a.natAbs/G from ?_]
   ·exact h1
   ·rw [Int.gcd,Int.natAbs_natCast,←Nat.gcd_div hg ha]
    congr 1
    obtain⟨r,hr⟩:=hl a (by simp)
    rw [hr,Int.mul_ediv_cancel_left _ (show (G:Int)≠0 by omega),Int.natAbs_mul,Int.natAbs_natCast,Nat.mul_div_cancel_left _ hG0]
 have:=key x 0 hx (Nat.dvd_zero _)
 rw [Nat.zero_div]at this
 exact this
theorem wU(D:Nat)(x:List Int):gcD D x∣D:=Nat.gcd_dvd_left _ _
theorem V0{D:Nat}(hD:0<D)(x:List Int):0<gcD D x:=Nat.gcd_pos_of_pos_left _ hD
theorem V1(D:Nat)(x:List Int):∀c∈x,((gcD D x:Nat):Int)∣c:=fun c hc=>Int.dvd_trans (Int.ofNat_dvd.2 (Nat.gcd_dvd_right _ _)) (iN x c hc)
theorem zP{v:Int}{D:Nat}(hD:0<D):(dR v D).num<0↔v<0:=by
 rw [zO hD]
 have hg:0<Nat.gcd D v.natAbs:=Nat.gcd_pos_of_pos_left _ hD
 obtain⟨n,hn⟩:((Nat.gcd D v.natAbs:Nat):Int)∣v:=Int.ofNat_dvd_left.2 (Nat.gcd_dvd_right _ _)
 generalize Nat.gcd D v.natAbs=g at *
 rw [hn,Int.mul_ediv_cancel_left _ (show (g:Int)≠0 by omega)]
 constructor
 ·intro h;exact Int.mul_neg_of_pos_of_neg (by omega) h
 ·intro h
  rcases Int.lt_or_le n 0 with h1 | h1
  ·exact h1
  ·have:=Int.mul_nonneg (show (0:Int)≤g by omega) h1
   omega
theorem adR{D:Nat}(hD:0<D){x:List Int}(hx:0<x.length):SW (qd x D)=dR (lU x) D:=by
 have G0:(D:Int)≠0:=by omega
 have e:(nth (qd x D) ((qd x D).length-1)).num<0↔lead x<0:=by
  rw [JJ G0,zP hD];simp [lead]
 have hG:=V0 hD x
 have e2:dR (VY (LD (qd x D)) (qd x D)) (LD (qd x D))=dR (bO x) D:=by
  rw [JO hD,adQ hD x (wU D x) (V1 D x)]
  have h1:D/gcD D x*gcD D x=D:=Nat.div_mul_cancel (wU D x)
  have h2:bO x/gcD D x*gcD D x=bO x:=Nat.div_mul_cancel (Nat.gcd_dvd_right _ _)
  have h3:0<D/gcD D x:=Nat.div_pos (Nat.le_of_dvd hD (wU D x)) hG
  have h4:=VW (v:=(bO x/gcD D x:Nat)) (D:=(D/gcD D x:Nat)) (l:=(gcD D x:Nat)) (by omega) (by omega)
  rw [←Int.natCast_mul,←Int.natCast_mul,h1,h2]at h4
  exact h4.symm
 unfold SW lU
 rw [e2]
 by_cases h:lead x<0
 ·rw [if_pos (e.2 h),if_pos h,←VX G0];grind
 ·rw [if_neg (fun h2=>h (e.1 h2)),if_neg h]
theorem V2{v D:Int}(hD:D≠0)(hv:v≠0):1/dR v D=dR D v:=by
 rw [fJ hD,fJ hv]
 have h1:=gU hD
 have h2:=gU hv
 grind
theorem SX{x:List Int}(cx:Cn x)(hx:x ≠ []):lU x≠0:=by
 have h0:=oF x
 have gx:=cO cx hx
 omega
theorem aog{D:Nat}(hD:0<D){x:List Int}(cx:Cn x)(hx:x ≠ []):qpr (qd x D)=qs (sG x):=by
 have pM:=List.length_pos_iff.2 hx
 have G0:(D:Int)≠0:=by omega
 have hp:=SX cx hx
 have hc:=gU hp
 have hDc:=gU G0
 rw [qpr,adR hD pM,V2 G0 hp,kU,sG,←wN]
 congr 1
 simp only [qd,qs,List.map_map]
 refine List.map_congr_left fun v hv=>?_
 simp only [Function.comp_apply]
 obtain⟨w,rfl⟩:=JH x v hv
 have:qL (lU x) (lU x*w)=w:=by
  unfold qL
  rw [if_pos (Int.mul_emod_right _ _)]
  exact Int.mul_ediv_cancel_left _ hp
 rw [this,fJ G0,fJ hp,Rat.intCast_mul]
 grind
theorem N9(x:List Int):kC x=if lead x<0 then gV (sG x)else sG x:=by
 unfold sG lU
 split
 ·have e:∀v,qL (-(bO x:Int)) v = - qL (bO x) v:=fun v=>by
   unfold qL
   rw [Int.emod_neg,Int.ediv_neg]
   split<;>simp
  refine Cn.ext (Cn.cut _) (Cn.gV _) fun t=>?_
  rw [CQ,c8,kC,c8]
  have h1:=gW (t:=t) (-1) (qL (bO x)) x
  have h2:(x.map fun v=>qL (bO x) v * -1)=x.map (qL (-(bO x:Int))):=List.map_congr_left fun v _=>by rw [e];omega
  rw [h2]at h1
  rw [h1];omega
 ·rfl
theorem SY(x:List Int)(D:Nat)(hD:0<D){s n:Nat}(hx:Bd 2 s n x)(sD:sz 2 D≤s)(cx:Cn x)(h0:x ≠ [])(wH:1≤s)(hs:s≤YY)(hn:n<1099511627776) :
  aE env.P 155 [PP (qd x D)] (.dU [RR (dR (lU x) D),PI (sG x)]):=by
 have G0:(D:Int)≠0:=by omega
 have pM:=List.length_pos_iff.2 h0
 have hp:=SX cx h0
 have hlen:=hx.len
 have sdiv:∀(a b:Nat),sz 2 (a:Int)≤s→sz 2 ((a/b:Nat):Int)≤s:=fun a b h=>Nat.le_trans (dP (by decide) (by rw [Int.natAbs_natCast,Int.natAbs_natCast];exact Nat.div_le_self a b)) h
 have spc:sz 2 (lU x)≤s:=by
  have:=mS hx.sz
  refine Nat.le_trans (dP (by decide) (Nat.le_of_eq ?_)) this
  rw [oF];rfl
 have tk:∀i,(qd x D).take i=qd (x.take i) D:=fun i=>by simp [qd,List.map_take]
 have hc:=adR hD pM
 have h1:=sH (qd x D) (k:=s) hs wH (fun q hq=>by
   simp only [List.mem_map]at hq
   obtain⟨v,hv,rfl⟩:=hq
   exact uX G0 (hx.sz v hv) sD) (by simp;omega) (by simpa using h0)
  (fun i=>by rw [tk,JO hD];exact sdiv _ _ sD)
  (fun i=>by
   rw [tk,JO hD]
   have:=Nat.div_pos (Nat.le_of_dvd hD (wU D (x.take i))) (V0 hD _)
   omega)
  (fun i=>by
   rw [tk,JO hD,adQ hD (x.take i) (wU D x) (fun c hc=>V1 D x c (List.mem_of_mem_take hc))]
   exact sdiv _ _ (mS fun c hc=>hx.sz c (List.mem_of_mem_take hc)))
  (by rw [hc];exact uX G0 (Nat.le_trans spc hs) (Nat.le_trans sD hs))
  (by rw [hc];exact fun h=>hp ((zM G0).1 h))
  (by rw [hc,V2 G0 hp];exact uX hp (Nat.le_trans sD hs) (Nat.le_trans spc hs))
 rw [hc,aog hD cx h0,uF]at h1
 exact h1
theorem adS{x:List Int}{s n:Nat}(hx:Bd 2 s n x):Bd 2 s n (sG x):=Bd.cut ⟨by simpa using hx.len,fun c hc=>by
 simp only [List.mem_map]at hc
 obtain⟨v,hv,rfl⟩:=hc
 refine Nat.le_trans (dP (by decide) ?_) (hx.sz v hv)
 unfold qL
 split
 ·exact Int.natAbs_ediv_le_natAbs _ _
 ·simp⟩
theorem OA(x:List Int)(D:Nat)(hD:0<D){s n:Nat}(hx:Bd 2 s n x)(sD:sz 2 D≤s)(cx:Cn x)(wH:1≤s)(hs:s≤YY)(hn:n<1099511627776) :
  aE env.P 159 [PP (qd x D)] (PI (kC x)):=by
 have G0:(D:Int)≠0:=by omega
 have bp:=adS hx
 have hN:=GQ (sG x) (bp.mono hs (by omega))
 rw [N9]
 have hP:∃q:Rat,aE env.P 155 [PP (qd x D)] (.dU [RR q,PI (sG x)])∧(q.num<0↔lead x<0):=by
  by_cases h0:x = []
  ·subst h0
   refine⟨(lU []:Int),?_,?_⟩
   ·have:=DO [] hx cx wH hs hn
    rw [RR,iM]
    exact this
   ·rw [show lU ([]:List Int)=0 by decide];decide
  ·refine⟨_,SY x D hD hx sD cx h0 wH hs hn,?_⟩
   rw [zP hD]
   have gx:=cO cx h0
   unfold lU
   split<;>omega
 obtain⟨q,hP,hq⟩:=hP
 generalize sG x=y at *
 generalize qd x D=l at *
 refine cD [(0,PP l)] Tryz.func159 ?_
 refine aA [0] ?_
 refine aR [3,4] hP ?_
 refine aQ [4,12] ?_
 refine bJ ?_ ?_<;>intro h
 ·simp at h
  rw [if_pos (hq.1 h)]
  refine aR [2] hN ?_
  exact cC
 ·have h:¬q.num<0:=by simpa using h
  rw [if_neg (fun h2=>h (hq.2 h2))]
  refine W.skip ?_
  refine aA [2] ?_
  exact cC
theorem OB(x y:List Int){s s' N:Nat}(hx:Bd 2 s N x)(hy:Bd 2 s' N y)(cx:Cn x)(cy:Cn y)(SB:0<y.length)(hs:1≤s)(hB:s+(N+1)*(s'+N+2)+s'+N+N+10<137438953472) :
  aE env.P 256 [PP (qs x),PP (qs y)] (.dU [PP (qd (aO (dmd x y).Q) (dmd x y).D),PP (qd (dmd x y).r (dmd x y).D)]):=by
 have hNx:=hx.len
 have hNy:=hy.len
 have hl:=dC cy SB
 have hls:=gT hy
 have hM:x.length+1≤N+1:=by omega
 refine cX (E:=env) (fun id=>if id=17 then 2 else 0) [(0,PP (qs x)),(1,PP (qs y))] Tryz.func256 rfl (by kernel_rfl) (by kernel_rfl) (show 2≤84 by decide) (by simp) ?_
 obtain⟨R0,IE⟩:∃R0,R0=Z4 y (x.length+1) ⟨List.replicate (jU x y) 0,x,1⟩:=⟨_,rfl⟩
 rw [show dmd x y=R0 from IE.symm]
 have hkN:jU x y≤N:=by unfold jU;omega
 have hkk:(if (x.length:Int)-(y.length:Int)+1<0 then 0 else(x.length:Int)-(y.length:Int)+1)=(jU x y:Int):=by unfold jU;split<;>omega
 have hI0:uY x y ⟨List.replicate (jU x y) 0,x,1⟩:=uY.start cx
 generalize xU:jU x y=k0 at *
 obtain⟨a0,ha0⟩:∃a0,a0=qs x:=⟨_,rfl⟩
 obtain⟨yq,hyq⟩:∃yq,yq=qs y:=⟨_,rfl⟩
 have la0:a0.length=x.length:=by rw [ha0];simp
 have lyq:yq.length=y.length:=by rw [hyq];simp
 rw [←ha0,←hyq]
 refine aA [0,1] ?_
 refine W.sr ?_
 simp (disch:=omega) [gw,la0,lyq,hkk]
 refine bH [0,1,6] ?_
 refine aQ [0,1,6,21,22] ?_
 refine W.block ?_
 refine W.bE (fun k σ=>∃(i ver:Nat) (els:List (List PV)) (rows:Pm.Rows) (clk:Nat),σ=⟨fa [(0,PP a0),(1,PP yq),(6, .own 19 ver 0 k0),(21, .int .i64 k0),(22, .int .i64 i)],rows,clk⟩ ∧
  rows 19=some ⟨ver,31,4,els⟩∧els.length=k0∧(∀e∈els,e.length=4)∧els.take i=emap ri (List.replicate i 0)∧k=k0-i∧i≤k0) k0 ?_ ?_
 ·exact⟨_, .refl,0,_,List.replicate k0 [.nil, .bool false, .nil, .bool false],_,_,rfl,by simp,by simp,by simp,by simp [emap],by omega,by omega⟩
 rintro k _ ⟨i,ver,els,rows,clk,rfl,hr,mY,NO,rC,hk,hi⟩
 have Y9:bG 4 els=True:=by simp only [bG,eq_iff_iff,iff_true];exact NO
 refine bU [0,1,6,21,22,23] ?_
 refine bJ ?_ ?_<;>intro h
 ·have h:i<k0:=by simp at h;omega
  refine lF ?_
  refine aA [0,1,6,7,21,22] ?_
  refine W.b7 (fun K hK=>?_)
  simp (disch:=omega) [gw]
  refine aC s8 ?_
  have tO:i<els.length:=by omega
  have hE:uE els i 4=True:=by
   simp only [eq_iff_iff,iff_true]
   exact⟨els[i],List.getElem?_eq_getElem tO,by rw [NO _ (List.getElem_mem tO)];omega⟩
  have hS:iA els i 0 [aJ aI (aS DD 0), .bool false,aJ aI (aS DD 1), .bool false]=els.set i (ri 0):=by
   have h4:=NO _ (List.getElem_mem tO)
   rw [iA,List.getElem?_eq_getElem tO]
   simp [List.drop_of_length_le,h4]
  simp (disch:=omega) [gw,hr,hE,hS]
  refine W.lw [0,1,6,21,22] hK ?_;clear hK K;simp
  refine W.b7 (fun K hK=>?_);simp (disch:=omega) [gw]
  refine hK _ ⟨k0-(i+1),_,aB _ [0,1,6,21,22],by omega,i+1,ver,els.set i (ri 0),_,_,rfl,by simp,by simpa using mY,fun e he=>?_,?_,by omega,by omega⟩
  ·rcases List.mem_or_eq_of_mem_set he with h1 | h1
   ·exact NO e h1
   ·rw [h1];rfl
  ·rw [mG rC (by omega),List.replicate_succ']
   simp [emap]
 have h:i=k0:=by simp at h;omega
 subst h
 have n6:els=emap re (qd (List.replicate i 0) 1):=by rw [JK,DM,←rC,bL mY]
 subst n6
 rw [show a0=qd x 1 by rw [ha0,JK]]
 clear rC NO mY Y9 hk hi hkk ha0 la0 a0
 refine fA ?_
 refine W.seq ?_
 refine W.block ?_
 generalize hdd:s'+N+2=d at *
 have hNN:∀j,(x.length+1-j)*d≤(N+1)*d:=fun j=>Nat.mul_le_mul_right _ (by omega)
 refine W.bE (fun n σ=>∃(Q r:List Int) (D:Int) (v6:Nat) (rows:Pm.Rows) (clk:Nat),σ=⟨fa [(0,PP (qd r D)),(1,PP yq),(6, .own 19 v6 0 i)],rows,clk⟩ ∧
  rows 19=some ⟨v6,31,4,emap re (qd Q D)⟩∧Q.length=i∧uY x y ⟨Q,r,D⟩∧r.length<n∧n≤x.length+1∧Z4 y n ⟨Q,r,D⟩=R0∧Bd 2 (s+(x.length+1-n)*d) N r∧sz 2 D≤s+(x.length+1-n)*d) (x.length+1) ?_ ?_
 ·exact⟨_,aB _ [0,1,6],_,x,1,_,_,_,rfl,hr,by simp,hI0,by omega,by omega,IE.symm,hx.mono (by omega) (by omega),Nat.le_trans (dY (k:=1) (by decide) (by decide)) (by omega)⟩
 clear hr rows clk ver
 rintro n _ ⟨Q,r,D,v6,rows,clk,rfl,hr,hQ,hI,hrn,hnM,hd,br,bD⟩
 have hD:D≠0:=hI.d
 have hnn:=hNN n
 obtain⟨a,ha⟩:∃a,a=qd r D:=⟨_,rfl⟩
 have la:a.length=r.length:=by rw [ha];simp
 rw [←ha]
 refine W.seq ?_
 refine W.sr ?_
 simp (disch:=omega) [gw,la,lyq]
 refine bH [0,1,6,34] ?_
 refine bJ ?_ ?_<;>intro h
 ·have h:y.length≤r.length:=by simp at h;omega
  obtain⟨n,rfl⟩:∃m,n=m+1:=⟨n-1,by omega⟩
  obtain⟨k,hk⟩:∃k,k=r.length-y.length:=⟨_,rfl⟩
  have hkI:(r.length:Int)-(y.length:Int)=k:=by omega
  have hki:k<i:=by have:=hI.q.resolve_right (show ¬r.length<y.length by omega);simp only at this;omega
  have hI2:=hI.step cy SB h
  have LA:=JL (σ:=⟨Q,r,D⟩) SB h
  rw [Z4,if_neg (show ¬r.length<y.length by omega)]at hd
  simp only [dst,←hk]at hI2 LA hd
  have hT:s+(x.length+1-n)*d=s+(x.length+1-(n+1))*d+d:=by
   rw [show x.length+1-n=(x.length+1-(n+1))+1 by omega,Nat.add_mul,Nat.one_mul];omega
  have hn3:=hNN n
  generalize hU:s+(x.length+1-(n+1))*d=U at *
  have hlr:=gT br
  have hNr:=br.len
  have GZ:D*lead y≠0:=Int.mul_ne_zero hD hl
  have zD2:sz 2 (D*lead y)≤U+s':=cG (by decide) bD hls
  have hp:nth a (r.length-1)=dR (lead r) D:=by rw [ha,JJ hD];rfl
  have P3:nth yq (y.length-1)=(lead y:Rat):=by rw [hyq,ac9];rfl
  have auQ:=NK (dR (lead r) D) (lead y:Rat) (uX hD (Nat.le_trans hlr (by show U≤137438953472;omega)) (Nat.le_trans bD (by show U≤137438953472;omega))) (sE (Nat.le_trans hls (by show s'≤137438953472;omega)) (by decide)) (gU hl)
  rw [ahR hD hl]at auQ
  have hSc:=uW yq (dR (lead r) (D*lead y)) (by rw [hyq];exact ZN.qs (fun c hc=>Nat.le_trans (hy.sz c hc) (by show s'≤137438953472;omega)) (by omega)) (uX GZ (Nat.le_trans hlr (by show U≤137438953472;omega)) (Nat.le_trans zD2 (by show U+s'≤137438953472;omega)))
  rw [hyq,Z3 GZ,←hyq]at hSc
  have bsc:Bd 2 (U+s') N (bB y (lead r)):=(hy.bB (by decide) hlr).mono (by omega) (by omega)
  have bw:Bd 2 (U+s') N (List.replicate k 0++bB y (lead r)):=⟨by have:=qE y (lead r);simp;omega,fun c hc=>by
   rcases List.mem_append.1 hc with h1 | h1
   ·rw [(List.mem_replicate.1 h1).2,kR];omega
   ·exact bsc.sz c h1⟩
  have brl:Bd 2 (U+s') N (r.map (· * lead y)):=⟨by simpa using br.len,fun c hc=>by
   simp only [List.mem_map]at hc
   obtain⟨v,hv,rfl⟩:=hc
   exact cG (by decide) (br.sz v hv) hls⟩
  have hSu:=adK (qd (r.map (· * lead y)) (D*lead y)) (qd (List.replicate k 0++bB y (lead r)) (D*lead y)) _
   (SV GZ brl zD2 (by show U+s'≤137438953472;omega) (by omega)) (SV GZ bw zD2 (by show U+s'≤137438953472;omega) (by omega)) (ahT GZ _) (SV GZ bw.gV zD2 (by show U+s'≤137438953472;omega) (by omega))
  rw [ahS GZ,SU hD hl,←ha]at hSu
  have er:iJ (r.map (· * lead y)) (gV (List.replicate k 0++bB y (lead r)))=xO y (lead y) (lead r) k r:=Cn.ext (Cn.iJ _ _) (Cn.fL _ _) fun t=>by
   rw [r6,eC,CQ,eB,qW,cW,xO,i7,cW,dJ,oC,List.length_replicate];grind
  have br2:Bd 2 (U+d) N (xO y (lead y) (lead r) k r):=by
   rw [←er]
   exact(Bd.iJ (by decide) brl bw.gV).mono (by omega) (by omega)
  rw [er]at hSu
  have ew:qd (List.replicate k 0++bB y (lead r)) (D*lead y)=List.replicate k 0++qd (bB y (lead r)) (D*lead y):=by
   simp only [qd,List.map_append,List.map_replicate,wS GZ]
  rw [ew]at hSu
  have lb:(qd (bB y (lead r)) (D*lead y)).length≤N:=by have:=bsc.len;simpa using this
  have adA:(qd Q D).set k (dR (lead r) (D*lead y))=qd ((Q.map (· * lead y)).set k (lead r)) (D*lead y):=by
   rw [←SU hD hl Q,qd,qd,List.map_set]
  have hQl:(qd Q D).length=i:=by simpa using hQ
  refine W.skip ?_
  refine W.block ?_
  generalize hz:qd Q D=z at *
  generalize qd (bB y (lead r)) (D*lead y)=b at *
  generalize hcc:dR (lead r) (D*lead y)=c at *
  generalize P4:dR (lead r) D=p at *
  generalize hlq:(lead y:Rat)=lq at *
  generalize ha2:qd (xO y (lead y) (lead r) k r) (D*lead y)=a2 at *
  refine W.sr ?_
  simp (disch:=omega) [gw,la,lyq,hkI]
  refine bH [0,1,6,8] ?_
  have aFj:0<r.length:=by omega
  have e1:((r.length:Int)-1).toNat=r.length-1:=by omega
  have e2:((y.length:Int)-1).toNat=y.length-1:=by omega
  refine W.sd ?_
  simp (disch:=omega) [gw,la,lyq,e1,e2,hp,P3]
  refine cS auQ ?_
  rw [if_pos (by kernel_rfl)]
  simp (disch:=omega) [gw]
  refine bH [0,1,6,8,9] ?_
  have hkl:k<z.length:=by omega
  refine W.sr ?_
  simp (disch:=omega) [gw,hr,hkl]
  refine bH [0,1,6,8,9] ?_
  refine aA [0,1,6,8,9,10] ?_
  refine aQ [0,1,6,8,9,10,60,61] ?_
  refine W.block ?_
  refine W.bE (fun m σ=>∃(j v9 v10 v6:Nat) (els:List (List PV)) (rows:Pm.Rows) (clk:Nat),σ=⟨fa [(0,PP a),(1,PP yq),(6, .own 19 v6 0 i),(9, .ptr 9 v9 0 0),(10, .own 58 v10 0 k),(60, .int .i64 k),(61, .int .i64 j)],rows,clk⟩ ∧
   rows 19=some ⟨v6,31,4,emap re (z.set k c)⟩∧rows 9=some ⟨v9,31,4,[[aJ aI (aS DD c.num.natAbs), .bool (decide (c.num<0)),aJ aI (aS DD c.den), .bool false]]⟩ ∧
   rows 58=some ⟨v10,31,4,els⟩∧els.length=k∧(∀e∈els,e.length=4)∧els.take j=emap ri (List.replicate j 0)∧m=k-j∧j≤k) k ?_ ?_
  ·exact⟨_,aB _ [0,1,6,9,10,60,61],0,_,_,_,List.replicate k [.nil, .bool false, .nil, .bool false],_,_,rfl,by simp [hr],by simp,by simp,by simp,by simp,by simp [emap],by omega,by omega⟩
  clear hr rows clk v6
  rintro m _ ⟨j,v9,v10,v6,els,rows,clk,rfl,hr,hr9,NY,mY,NO,rC,hm,hj⟩
  have Y9:bG 4 els=True:=by simp only [bG,eq_iff_iff,iff_true];exact NO
  refine bU [0,1,6,9,10,60,61,62] ?_
  refine bJ ?_ ?_<;>intro h
  ·have h:j<k:=by simp at h;omega
   refine lF ?_
   refine aA [0,1,6,9,10,11,60,61] ?_
   refine W.b7 (fun K hK=>?_)
   simp (disch:=omega) [gw]
   refine aC s8 ?_
   have tO:j<els.length:=by omega
   have hE:uE els j 4=True:=by
    simp only [eq_iff_iff,iff_true]
    exact⟨els[j],List.getElem?_eq_getElem tO,by rw [NO _ (List.getElem_mem tO)];omega⟩
   have hS:iA els j 0 [aJ aI (aS DD 0), .bool false,aJ aI (aS DD 1), .bool false]=els.set j (ri 0):=by
    have h4:=NO _ (List.getElem_mem tO)
    rw [iA,List.getElem?_eq_getElem tO]
    simp [List.drop_of_length_le,h4]
   simp (disch:=omega) [gw,NY,hE,hS]
   refine W.lw [0,1,6,9,10,60,61] hK ?_;clear hK K;simp
   refine W.b7 (fun K hK=>?_);simp (disch:=omega) [gw]
   refine hK _ ⟨k-(j+1),_,aB _ [0,1,6,9,10,60,61],by omega,j+1,v9,v10,v6,els.set j (ri 0),_,_,rfl,by simp [hr],by simp [hr9],by simp,by simpa using mY,fun e he=>?_,?_,by omega,by omega⟩
   ·rcases List.mem_or_eq_of_mem_set he with h1 | h1
    ·exact NO e h1
    ·rw [h1];rfl
   ·rw [mG rC (by omega),List.replicate_succ']
    simp [emap]
  have h:j=k:=by simp at h;omega
  subst h
  have n6:els=emap re (List.replicate j 0):=by
   have h1:emap ri (List.replicate j 0)=emap re (List.replicate j 0):=by simp [emap,iM]
   rw [←h1,←rC,bL mY]
  subst n6
  clear rC NO mY Y9
  refine fA ?_
  refine W.I2 (fun K hK=>?_)
  rw [if_pos rfl,fR]
  have hsl:((List.take r.length a).drop 0)=a:=by rw [List.drop_zero,List.take_of_length_le (by omega)]
  simp (disch:=omega) [gw,la,lyq,hr9,IK,hsl]
  refine aC hSc ?_
  have xN:List.take (j+b.length) (List.replicate j 0++b)=List.replicate j 0++b:=List.take_of_length_le (by simp)
  simp (disch:=omega) [gw,NY,xN]
  refine cS hSu ?_
  subst ha2
  have bX:rows 19=some ⟨v6,31,4,emap re (qd ((Q.map (· * lead y)).set j (lead r)) (D*lead y))⟩:=by rw [hr,adA]
  refine hK _ ⟨n,_,aB _ [0,1,6],by omega,(Q.map (· * lead y)).set j (lead r),xO y (lead y) (lead r) j r,D*lead y,v6,_,_,rfl,by simp [bX],by simpa using hQ,hI2,by omega,by omega,hd,?_,?_⟩
  ·rw [hT];exact br2
  ·rw [hT];exact Nat.le_trans zD2 (by omega)
 ·have h:r.length<y.length:=by simp at h;omega
  rw [ahU h]at hd
  subst hd
  refine fA ?_
  have hcq:=wO (qd Q D) (by simp;omega)
  rw [wT hD]at hcq
  have hQl:(qd Q D).length=i:=by simpa using hQ
  have uT:=bL hQl
  rw [←ha]
  generalize qd Q D=z at *
  generalize qd (aO Q) D=z2 at *
  refine W.sr ?_
  simp (disch:=omega) [gw,hr,uT]
  refine cN [4,5] hcq ?_
  exact cC
end Go.Proofs.YtiobceocpabjdaaGreat
