import Derived.Test.YtiobceocpabjdaaGreatCae
import Derived.Test.YtiobceocpabjdaaGreatCai
import Derived.Test.YtiobceocpabjdaaGreatCaj
set_option linter.unusedSimpArgs false
set_option linter.unusedVariables false
namespace Go.Proofs.YtiobceocpabjdaaGreat
open Go Pm
structure PD(x:List Int):Prop where
 sz:∀v∈x,sz LL v<1099511627774
 len:x.length<1099511627774
theorem PD.of{s n:Nat}{x:List Int}(h:Bd LL s n x)(hs:s<1099511627774)(hn:n<1099511627774):PD x:=⟨fun v hv=>Nat.lt_of_le_of_lt (h.sz v hv) hs,Nat.lt_of_le_of_lt h.len hn⟩
theorem aeC(v:Int):V 4294967296 (a5 LL v.natAbs)=v.natAbs:=iT eV v.natAbs
theorem qO{v c:Int}(hv:sz LL v<1099511627774)(hc:sz LL c<1099511627774)(h0:c≠0):aZ env.P 234 [I v,I c] (if v%c=0 then .eQ [I (v/c), .int .i64 0]else .eQ [I 0, .int .i64 3]):=by
 have:=HG (decide (v<0)) (decide (c<0)) (a5 LL v.natAbs) (a5 LL c.natAbs) ⟨eN eV _,by unfold sz at hv;omega⟩ ⟨eN eV _,by unfold sz at hc;omega⟩ hv hc (by rw [aeC];omega)
 rwa [qG,qG]at this
def i6(c v:Int):Int:=if v%c=0 then v/c else 0
theorem D4(x:List Int)(c:Int)(hx:PD x)(hc:sz LL c<1099511627774)(h0:c≠0):aZ env.P 214 [Po x,I c] (Po (aG (x.map (i6 c)))):=by
 have N2:=hx.len
 refine cL [(0,Po x),(1,I c)] Tryz.func214 ?_
 refine aB [0,3] ?_
 refine aB [0,3,5] ?_
 refine W.row (id:=10) (emap ie (List.replicate x.length 0)) (by simp;exact⟨rfl,rfl,rfl⟩) (lS _) ?_
 refine aQ [3,5,11,12,13] ?_
 refine W.block ?_
 refine W.a9 (fun q σ=>∃(i:Nat) (z:List Int) (v10:Nat) (rows:Pm.Rows) (clk:Nat),σ=⟨fa [(3, .ptr 3 0 0 0),(5, .own 10 v10 0 x.length),(11,Po x),(12, .int .i64 x.length),(13, .int .i64 i)],rows,clk⟩ ∧
  rows 3=some ⟨0,38,2,[ie c]⟩∧rows 10=some ⟨v10,38,2,emap ie z⟩∧q=x.length-i∧i≤x.length∧z.length=x.length∧z.take i=(x.take i).map (i6 c)) x.length ?_ ?_
 ·exact⟨_, .refl,0,List.replicate x.length 0,_,_,_,rfl,by simp,by simp,by omega,by omega,by simp,by simp⟩
 rintro q _ ⟨i,z,v10,rows,clk,rfl,c5,tF,hq,hi,hz,hv⟩
 refine cH [3,5,11,12,13,14] ?_
 refine bO ?_ ?_<;>intro h
 ·have hi:i<x.length:=by simp at h;omega
  have hE:=qO (hx.sz _ (cP hi)) hc h0
  have hE2:aZ env.P 234 [I (nth x i),I c] (.eQ [I (i6 c (nth x i)), .int .i64 (if nth x i%c=0 then 0 else 3)]):=by
   unfold i6
   split at hE
   ·rename_i h1;rw [if_pos h1,if_pos h1];exact hE
   ·rename_i h1;rw [if_neg h1,if_neg h1];exact hE
  have hts:(x.take (i+1)).map (i6 c)=(x.take i).map (i6 c) ++ [i6 c (nth x i)]:=by rw [aU hi];simp
  generalize (if nth x i%c=0 then(0:Int)else 3)=er at *
  generalize i6 c (nth x i)=ev at *
  generalize hxe:nth x i=xi at *
  refine iS ?_
  refine W.sr ?_
  simp (disch:=omega) [gw,hxe]
  refine bF [3,5,6,7,11,12,13] ?_
  refine W.cA (fun K hK=>?_)
  simp (disch:=omega) [gw,c5]
  refine aD hE2 ?_
  simp (disch:=omega) [gw,tF,hz]
  refine W.lw [3,5,11,12,13] hK ?_;clear hK K;simp
  refine W.cA (fun K hK=>?_);simp (disch:=omega) [gw]
  refine hK _ ⟨x.length-(i+1),_,aC _ [3,5,11,12,13],by omega,i+1,z.set i ev,v10,_,_,rfl,by simp [c5],by simp,by omega,by omega,by simp [hz],?_⟩
  rw [jC hv (by omega),hts]
 ·have hi:i=x.length:=by simp at h;omega
  subst hi
  rw [bA hz,List.take_length]at hv
  have pJ:=bA hz
  refine eH ?_
  have hzb:PB z:=by
   rw [hv]
   refine⟨fun v hv=>?_,by simpa using by omega⟩
   simp only [List.mem_map]at hv
   obtain⟨w,hw,rfl⟩:=hv
   have h1:=hx.sz w hw
   show sz LL (i6 c w)<1099511627776
   refine Nat.lt_of_le_of_lt (cQ eV (y:=w) ?_) (by omega)
   unfold i6;split
   ·exact Int.natAbs_ediv_le_natAbs _ _
   ·simp
  have hN:=fK hzb
  rw [hv]at hN tF pJ
  generalize x.map (i6 c)=y at *
  have DY:y.length=x.length:=by rw [←hv];exact hz
  refine W.sr ?_
  simp (disch:=omega) [gw,tF,pJ]
  refine c7 [4] hN ?_
  exact cV
theorem D5(l:List RP)(K0:Nat)(hK0:K0<1099511627774)(hp:∀p∈l,∀c∈p,b6 4294967296 c.2∧c.2.length≤K0)(hl:l.length<1099511627776)(hf:l.flatten.length<1099511627776) :
  aZ env.P 213 [aX pe l] (I (bB (l.flatten.map gv))):=by
 refine cL [(0,aX pe l)] Tryz.func213 ?_
 refine aB [0,2] ?_
 refine aB [0,2,3] ?_
 refine W.nil 3 3 38 2 (by simp) (by decide) (fun K hK=>?_)
 refine W.lw [0,2,3] hK ?_;clear hK K;simp
 refine aQ [2,3,6,7,8] ?_
 refine W.block ?_
 refine W.a9 (fun q σ=>∃(i v3:Nat) (A:RP) (rows:Pm.Rows) (clk:Nat),σ=⟨fa [(2, .ptr 2 0 0 0),(3, .own 3 v3 0 A.length),(6,aX pe l),(7, .int .i64 l.length),(8, .int .i64 i)],rows,clk⟩ ∧
  rows 2=some ⟨0,38,2,[[.bool false, .nil]]⟩∧rows 3=some ⟨v3,38,2,emap ge A⟩∧q=l.length-i∧i≤l.length∧A=(l.take i).flatten) l.length ?_ ?_
 ·exact⟨_, .refl,0,_,[],_,_,rfl,by simp,by simp [emap],by omega,by omega,by simp⟩
 rintro q _ ⟨i,v3,A,rows,clk,rfl,dB,c5,hq,hi,hA⟩
 refine cH [2,3,6,7,8,9] ?_
 refine bO ?_ ?_<;>intro h
 ·have hi:i<l.length:=by simp at h;omega
  have hfs:(l.take (i+1)).flatten=(l.take i).flatten++nth l i:=by rw [aU hi];simp
  have hfl:(l.take (i+1)).flatten.length≤l.flatten.length:=by
   have e:=List.take_append_drop (i+1) l
   have e2:l.flatten=(l.take (i+1)).flatten++(l.drop (i+1)).flatten:=by rw [←List.flatten_append,e]
   rw [e2,List.length_append];omega
  have N9:(l.take i).flatten.length+(nth l i).length<1099511627776:=by
   rw [hfs,List.length_append]at hfl;omega
  have YN:(l.take (i+1)).flatten.length=(l.take i).flatten.length+(nth l i).length:=by rw [hfs,List.length_append]
  rw [←hA]at hfs N9 YN
  generalize hpe:nth l i=p at *
  refine iS ?_
  refine W.sr ?_
  simp (disch:=omega) [gw,hpe]
  refine bF [2,3,5,6,7,8] ?_
  refine W.cA (fun K hK=>?_)
  simp (disch:=omega) [gw,c5]
  refine W.lw [2,3,6,7,8] hK ?_;clear hK K;simp
  refine W.cA (fun K hK=>?_);simp (disch:=omega) [gw]
  refine hK _ ⟨l.length-(i+1),_,Gh.fr [(2, .ptr 2 0 0 0),(3, .own 3 _ 0 (A++p).length),(6,aX pe l),(7, .int .i64 l.length),(8, .int .i64 ((i+1:Nat):Int))] (by simp;exact rfl),by omega,i+1,_,A++p,_,_,rfl,by simp [dB],by simp,by omega,by omega,hfs.symm⟩
 ·have hi:i=l.length:=by simp at h;omega
  subst hi
  rw [List.take_length]at hA
  have hG:=vT l.flatten K0 hK0 (fun c hc=>by
   obtain⟨p,ZY,hcp⟩:=List.mem_flatten.1 hc
   exact hp p ZY c hcp) hf
  rw [←hA]at hG ⊢
  generalize (bB (A.map gv):Int)=g at *
  refine eH ?_
  refine W.sr ?_
  simp (disch:=omega) [gw,c5]
  refine aD hG ?_
  simp (disch:=omega) [gw,dB]
  refine bF [2] ?_
  exact cV
theorem k8{x:List Int}(hx:PB x)(hc:Cn x):aZ env.P 145 [Po x] (I (lead x)):=by
 have:=D0 (x.map jU) hx.tP
 rw [show fP (x.map jU)=aG x by simp only [fP,bC],show aG x=x from hc,←fB]at this
 exact this
theorem k9(x:List Int)(hx:x.length<9223372036854775808):aZ env.P 83 [Po x] (.int .i64 ((x.length:Int)-1)):=by
 have:=YL (x.map jU) (by simpa using hx)
 rw [List.length_map,←fB]at this
 exact this
theorem gY{x:List Int}{c:Int}(hx:PB x)(hc:Sz c):aZ env.P 181 [Po x,I c] (Po (aL x c)):=by
 have:=G5 (x.map jU) hx.tP (decide (c<0)) (a5 LL c.natAbs) hc.L4
 rw [bC,qG,←fB]at this
 exact this
theorem nP(i:Nat)(x:Int):(List.replicate (i+1) (0:Int)).set i x=nE i x:=by
 rw [List.replicate_succ',List.set_append]
 simp [nE]
theorem HI(a b:RP){s s' N:Nat}(ha:mG a)(hb:mG b)(sa:Bd LL s N (a.map gv))(sb:Bd LL s' N (b.map gv))(hB:s+N*(s'+N+1)+s'+N+N+10<1099511627774) :
  aZ env.P 215 [Pg a,Pg b] (if fP b = []then .eQ [Po [],Po [], .int .i64 0, .int .i64 2]else .eQ [Po (sG (fP a) (fP b)).1,Po (sG (fP a) (fP b)).2, .int .i64 (gM (fP a) (fP b)), .int .i64 0]):=by
 have hA:Bd LL s N (fP a):=sa.cut
 have JP:Bd LL s' N (fP b):=sb.cut
 have ca:Cn (fP a):=Cn.cut _
 have cb:Cn (fP b):=Cn.cut _
 have na:=eE a ha
 have nb:=eE b hb
 rw [show aG (a.map gv)=fP a from rfl]at na
 rw [show aG (b.map gv)=fP b from rfl]at nb
 refine cL [(0,Pg a),(1,Pg b)] Tryz.func215 ?_
 generalize fP a=x at *
 generalize fP b=y at *
 refine aB [0,1,4] ?_
 refine W.Q8 4 (Po []) (by simp) rfl (fun K hK=>?_)
 refine W.lw [0,1,4] hK ?_;clear hK K;simp
 refine j1 ?_
 refine cM na ?_
 refine c7 [1,4,5] nb ?_
 refine aQ [1,4,5,18] ?_
 refine bO ?_ ?_<;>intro h
 ·have h:y = []:=by simp at h;exact h
  rw [if_pos h]
  refine aB [4,5,6,7] ?_
  refine W.ret ?_
  simp [go]
  rfl
 have hy:y ≠ []:=by simp at h;exact h
 clear h
 rw [if_neg hy]
 have G6:0<y.length:=List.length_pos_iff.2 hy
 have hNx:=hA.len
 have hNy:=JP.len
 have hsy:=iJ JP
 have hmN:N*(s'+N+1)≥0:=Nat.zero_le _
 have hL:=k8 (PB.of JP (by omega) (by omega)) cb
 have hDx:=k9 x (by omega)
 have hDy:=k9 y (by omega)
 refine W.skip ?_
 refine bT [1,4,5,8] hL ?_
 have hkk:(if (0:Int)<(x.length:Int)-1-((y.length:Int)-1)+1 then(x.length:Int)-1-((y.length:Int)-1)+1 else 0)=(gM x y:Int):=by unfold gM;split<;>omega
 refine j1 ?_
 refine cM hDx ?_
 refine aD hDy ?_
 simp (disch:=omega) [gw,hkk]
 refine bF [1,4,5,6,8] ?_
 have hkN:gM x y≤N:=by unfold gM;omega
 have uH:=hsy
 generalize hdd:s'+N+1=d at *
 have SP:∀j,j≤N→(N-j)*d≤N*d:=fun j _=>Nat.mul_le_mul_right _ (by omega)
 refine aQ [1,4,5,6,8,9] ?_
 refine W.block ?_
 refine W.a9 (fun j σ=>∃(q r:List Int) (rows:Pm.Rows) (clk:Nat),σ=⟨fa [(1,Po y),(4,Po q),(5,Po r),(6, .int .i64 (gM x y)),(8, .ptr 8 0 0 0),(9, .int .i64 ((j:Int)-1))],rows,clk⟩ ∧
  rows 8=some ⟨0,38,2,[ie (lead y)]⟩∧j≤gM x y∧ps y (lead y) j q r=sG x y∧Bd LL (s+(N-j)*d) (N+N) q∧Bd LL (s+(N-j)*d) (N+N) r∧Cn r) (gM x y) ?_ ?_
 ·exact⟨_, .refl,[],x,_,_,rfl,by simp,by omega,rfl,⟨by simp,fun c hc=>by cases hc⟩,hA.mono (by omega) (by omega),ca⟩
 rintro j _ ⟨q,r,rows,clk,rfl,lA,hj,yR,bq,br,cr⟩
 refine aQ [1,4,5,6,8,9,31] ?_
 refine bO ?_ ?_<;>intro h
 ·have hj0:0<j:=by simp at h;omega
  obtain⟨i,rfl⟩:∃i,j=i+1:=⟨j-1,by omega⟩
  clear h
  have ei:((i+1:Nat):Int)-1=i:=by omega
  rw [ei]
  have hN1:=SP (i+1) (by omega)
  have hT:s+(N-i)*d=s+(N-(i+1))*d+s'+N+1:=by
   rw [show N-i=(N-(i+1))+1 by omega,Nat.add_mul,Nat.one_mul];omega
  obtain⟨b1,b2⟩:=u5 eV JP bq br (show i<N by omega)
  rw [←hT]at b1 b2
  have JQ:=SP i (by omega)
  have hx:=RJ (y:=y) (i:=i) br
  have bs:=Bd.nE hx i
  have hLr:=k8 (PB.of br (by omega) (by omega)) cr
  have hDr:=k9 r (by have:=br.len;omega)
  have bqs:=bq.aL eV hsy
  have brs:=br.aL eV hsy
  have bm:=bs.bK eV JP
  have f1:=gY (c:=lead y) (PB.of bq (by omega) (by omega)) (show sz LL (lead y)<1099511627776 by omega)
  have f2:=gY (c:=lead y) (PB.of br (by omega) (by omega)) (show sz LL (lead y)<1099511627776 by omega)
  have f3:=MP (PB.of bqs (by omega) (by omega)) (PB.of bs (by omega) (by omega))
  have f4:=yP bs JP (by omega)
  have f5:=n9 (PB.of brs (by omega) (by omega)) (PB.of bm (by omega) (by omega))
  rw [show iP (aL q (lead y)) (nE i (qB y r i))=psq (lead y) (qB y r i) i q from rfl]at f3
  rw [show dJ (aL r (lead y)) (bK (nE i (qB y r i)) y)=rC y (lead y) (qB y r i) i r from rfl]at f5
  have cr2:Cn (rC y (lead y) (qB y r i) i r):=Cn.dJ _ _
  have hpx:qB y r i=if r.length=y.length+i then lead r else 0:=rfl
  rw [ps]at yR
  generalize X0:psq (lead y) (qB y r i) i q=q2 at *
  generalize dB:rC y (lead y) (qB y r i) i r=r2 at *
  generalize bK (nE i (qB y r i)) y=pm at *
  generalize aL q (lead y)=pq at *
  generalize aL r (lead y)=pr at *
  generalize qB y r i=xx at *
  have SR:=nP i xx
  have aeD:(nE i xx).length=i+1:=by simp [nE]
  generalize lead r=lr at *
  generalize lead y=ly at *
  refine iS ?_
  refine aB [1,4,5,6,8,9,10] ?_
  refine W.row (id:=10) (els:=[[.bool false, .nil]]) [ie 0] (by simp;exact⟨rfl,rfl,rfl⟩) ⟨⟨.inl (by simp), .inr ⟨rfl,rfl⟩,trivial⟩,trivial⟩ ?_
  refine W.gK (fun σ=>∃(v10:Nat) (rows:Pm.Rows) (clk:Nat),σ=⟨fa [(1,Po y),(4,Po q),(5,Po r),(6, .int .i64 (gM x y)),(8, .ptr 8 0 0 0),(9, .int .i64 i),(10, .ptr 10 v10 0 0)],rows,clk⟩∧rows 8=some ⟨0,38,2,[ie ly]⟩∧rows 10=some ⟨v10,38,2,[ie xx]⟩) ?_ ?_
  ·
   refine j1 ?_
   refine cM hDr ?_
   refine c7 [1,4,5,6,8,9,10,40] hDy ?_
   by_cases RG:r.length=y.length+i
   ·rw [if_pos RG]at hpx
    subst hpx
    refine bO ?_ ?_<;>intro h
    ·refine W.cA (fun K hK=>?_)
     simp (disch:=omega) [gw]
     refine cM hLr ?_
     exact hK _ ⟨_,aC _ [1,4,5,6,8,9,10],_,_,_,rfl,by simp [lA],by simp⟩
    ·exfalso;simp at h;omega
   ·rw [if_neg RG]at hpx
    subst hpx
    refine bO ?_ ?_<;>intro h
    ·exfalso;simp at h;omega
    ·refine W.skip ?_
     exact⟨_,aC _ [1,4,5,6,8,9,10],_,_,_,rfl,by simp [lA],by simp⟩
  rintro _ ⟨v10,rows,clk,rfl,lA,tF⟩
  have e9:((i:Int)+1).toNat=i+1:=by omega
  refine W.sr ?_
  simp (disch:=omega) [gw,e9]
  refine bF [1,4,5,6,8,9,10,11] ?_
  refine W.row (id:=45) (emap ie (List.replicate (i+1) 0)) (by simp;exact⟨rfl,rfl,rfl⟩) (lS _) ?_
  refine W.sr ?_
  simp (disch:=omega) [gw,tF,SR]
  refine bF [1,4,5,6,8,9,11] ?_
  have FX:=bA aeD
  refine W.freeze 45 (by simp) (fun K hK=>?_)
  simp [FX]
  refine hK _ ?_;clear hK K
  refine W.sr ?_
  simp (disch:=omega) [gw,lA]
  refine cM f1 ?_
  refine c7 [1,4,5,6,8,9,11] f3 ?_
  refine W.cA (fun K hK=>?_)
  simp (disch:=omega) [gw,lA]
  refine cM f2 ?_
  refine cM f4 ?_
  refine cM f5 ?_
  refine W.lw [1,4,5,6,8,9] hK ?_;clear hK K;simp
  refine W.cA (fun K hK=>?_);simp (disch:=omega) [gw]
  refine hK _ ⟨i,_,aC _ [1,4,5,6,8,9],by omega,q2,r2,_,_,rfl,by simp [lA],by omega,yR,b1,b2,cr2⟩
 ·have hj0:j=0:=by simp at h;omega
  subst hj0
  simp only [ps]at yR
  rw [←yR]
  refine eH ?_
  refine aB [4,5,6,7] ?_
  exact cV
def jL(x:List Int):List Int:=aG (x.map (i6 (bB x)))
def D6(a b:List Int):List Int:=if gM a b%2=1∧lead b<0 then jL (fC (sG a b).2)else jL (sG a b).2
theorem eG(x:List Int):∀c∈x,((bB x:Nat):Int)∣c:=by
 have key:∀(l:List Int) (g:Nat),(∀c∈l,((l.foldl (fun g c=>Nat.gcd g c.natAbs) g:Nat):Int)∣c)∧l.foldl (fun g c=>Nat.gcd g c.natAbs) g∣g:=by
  intro l
  induction l with
  | nil=>intro g;exact⟨fun c hc=>(by cases hc),Nat.dvd_refl _⟩
  | cons c l ih =>
   intro g
   obtain⟨h1,h2⟩:=ih (Nat.gcd g c.natAbs)
   simp only [List.foldl_cons]
   refine⟨fun d hd=>?_,Nat.dvd_trans h2 (Nat.gcd_dvd_left _ _)⟩
   rcases List.mem_cons.1 hd with rfl | hd
   ·exact Int.ofNat_dvd_left.2 (Nat.dvd_trans h2 (Nat.gcd_dvd_right _ _))
   ·exact h1 d hd
 exact(key x 0).1
theorem D7{x:List Int}{c:Int}(hc:c∈x)(h:c≠0):bB x≠0:=by
 intro h0
 have:=eG x c hc
 rw [h0]at this
 obtain⟨k,hk⟩:=this
 simp at hk
 exact h hk
theorem cE{x:List Int}(hc:Cn x)(h:x ≠ []):bB x≠0:=by
 have hl:0<x.length:=List.length_pos_iff.2 h
 exact D7 (c:=lead x) (cP (by omega)) (dR hc hl)
theorem JR{x:List Int}{s:Nat}(hx:∀c∈x,sz LL c≤s)(hc:Cn x)(h:x ≠ []):sz LL (bB x:Int)≤s:=by
 have hl:0<x.length:=List.length_pos_iff.2 h
 have hm:lead x∈x:=cP (by omega)
 refine Nat.le_trans (cQ eV ?_) (hx _ hm)
 have:=Int.le_of_dvd (a:=(bB x:Int)) (b:=((lead x).natAbs:Int)) (by have:=dR hc hl;omega) (Int.dvd_natAbs.2 (eG x _ hm))
 omega
theorem qP(x:List Int)(hx:PD x):aZ env.P 213 [.sl [[Po x]]] (I (bB x)):=by
 have hl:=hx.len
 have:=D5 [x.map jU] 1099511627773 (by decide) (fun p hp c hc=>by
  simp only [List.mem_singleton]at hp
  subst hp
  simp only [List.mem_map]at hc
  obtain⟨v,hv,rfl⟩:=hc
  have h1:=hx.sz v hv
  exact⟨eN eV _,by unfold sz at h1;show(a5 LL v.natAbs).length≤_;omega⟩) (by simp) (by simp;omega)
 have e:([x.map jU].flatten.map gv)=x:=by simp only [List.flatten_cons,List.flatten_nil,List.append_nil,bC]
 rw [e]at this
 have e2:aX pe [x.map jU] = .sl [[Po x]]:=by rw [fB];rfl
 rw [e2]at this
 exact this
theorem D8(a b:RP){s s' N:Nat}(ha:mG a)(hb:mG b)(sa:Bd LL s N (a.map gv))(sb:Bd LL s' N (b.map gv))(hB:s+N*(s'+N+1)+s'+N+N+10<1099511627774) :
  aZ env.P 138 [Pg a,Pg b] (if fP b = []then .eQ [Po [], .int .i64 2]else .eQ [Po (D6 (fP a) (fP b)), .int .i64 0]):=by
 have hP:=HI a b ha hb sa sb hB
 have hL:=D0 b hb
 have hA:Bd LL s N (fP a):=sa.cut
 have JP:Bd LL s' N (fP b):=sb.cut
 have ca:Cn (fP a):=Cn.cut _
 refine cL [(0,Pg a),(1,Pg b)] Tryz.func138 ?_
 generalize fP a=x at *
 generalize fP b=y at *
 refine aB [0,1] ?_
 by_cases hy:y = []
 ·rw [if_pos hy]at hP ⊢
  refine bT [1,7,8,9] hP ?_
  refine aQ [1,7,8,9,19] ?_
  refine bO ?_ ?_<;>intro h
  ·refine aB [4,5] ?_
   refine W.ret ?_
   simp [go]
   rfl
  ·cases h
 rw [if_neg hy]at hP ⊢
 have G6:0<y.length:=List.length_pos_iff.2 hy
 have hkN:gM x y≤N:=by unfold gM;have:=hA.len;omega
 obtain⟨_,F3⟩:=RK eV JP (gM x y) s [] x hkN ⟨by simp,fun c hc=>by cases hc⟩ (hA.mono (by omega) (by omega))
 obtain⟨_,cr⟩:=u6 (b:=y) ca
 rw [show(ps y (lead y) (gM x y) [] x)=sG x y from rfl]at F3
 have hmul:=Nat.mul_le_mul_right (s'+N+1) hkN
 have SK:=yO (PB.of F3 (by omega) (by omega))
 refine bT [1,7,8,9] hP ?_
 refine aQ [1,7,8,9,19] ?_
 refine bO ?_ ?_<;>intro h
 ·cases h
 refine W.skip ?_
 obtain⟨r2,dB⟩:∃r2,r2=if gM x y%2=1∧lead y<0 then fC (sG x y).2 else(sG x y).2:=⟨_,rfl⟩
 have akD:D6 x y=jL r2:=by rw [dB,D6];split<;>rfl
 have hbr:PD r2:=by
  rw [dB];split
  ·exact PD.of F3.fC (by omega) (by omega)
  ·exact PD.of F3 (by omega) (by omega)
 have hcr:Cn r2:=by
  rw [dB];split
  ·exact Cn.fC _
  ·exact cr
 rw [akD]
 refine W.gK (fun σ=>∃(rows:Pm.Rows) (clk:Nat),σ=⟨fa [(7,Po r2)],rows,clk⟩) ?_ ?_
 ·
  by_cases hk:gM x y%2=1
  ·refine W.fW (fun σ=>∃(rows:Pm.Rows) (clk:Nat),σ=⟨fa [(7,Po (sG x y).2),(28, .bool (decide (lead y<0)))],rows,clk⟩) (fun K hK=>?_) ?_
   ·have rW:(gM x y:Int)%2=1:=by omega
    simp (disch:=omega) [gw,rW]
    refine cM hL ?_
    exact hK _ _ (aC _ [7,28]) ⟨_,_,rfl⟩
   rintro _ ⟨rows,clk,rfl⟩
   refine W.Q4 (lead y<0) rfl (fun h=>?_) (fun h=>?_)
   ·rw [if_pos ⟨hk,h⟩]at dB
    subst dB
    refine W.cA (fun K hK=>?_)
    simp (disch:=omega) [gw]
    refine cM SK ?_
    exact hK _ ⟨_,aC _ [7],_,_,rfl⟩
   ·rw [if_neg (fun h2=>h h2.2)]at dB
    subst dB
    refine W.skip ?_
    exact⟨_,aC _ [7],_,_,rfl⟩
  ·rw [if_neg (fun h2=>hk h2.1)]at dB
   subst dB
   refine W.fW (fun σ=>∃(rows:Pm.Rows) (clk:Nat),σ=⟨fa [(7,Po (sG x y).2),(28, .bool false)],rows,clk⟩) (fun K hK=>?_) ?_
   ·have rW:((gM x y:Int)%2==1)=false:=by simp;omega
    simp (disch:=omega) [gw,rW]
    exact hK _ _ (aC _ [7,28]) ⟨_,_,rfl⟩
   rintro _ ⟨rows,clk,rfl⟩
   refine bO ?_ ?_<;>intro h
   ·cases h
   ·refine W.skip ?_
    exact⟨_,aC _ [7],_,_,rfl⟩
 rintro _ ⟨rows,clk,rfl⟩
 clear dB akD
 refine aQ [7,33] ?_
 refine bO ?_ ?_<;>intro h
 ·have h:r2 = []:=by simp at h;exact h
  subst h
  refine aB [4,5] ?_
  refine W.ret ?_
  simp [go]
  rfl
 ·have h:r2 ≠ []:=by simp at h;exact h
  have hC:=qP r2 hbr
  have hgp:=cE hcr h
  have hO:=D4 r2 (bB r2) hbr (Nat.lt_of_le_of_lt (JR (s:=1099511627773) (fun c hc=>by have:=hbr.sz c hc;omega) hcr h) (by decide)) (by omega)
  rw [show aG (r2.map (i6 (bB r2)))=jL r2 from rfl]at hO
  generalize (bB r2:Int)=g at *
  generalize jL r2=pr at *
  refine W.skip ?_
  refine j1 ?_
  refine cM hC ?_
  refine c7 [4,5] hO ?_
  exact cV
end Go.Proofs.YtiobceocpabjdaaGreat
namespace Pm
open Go Go.RowKit
section
variable {E:Env} {c:Cx} {w0:World} {S0:cY} {m:Nat} {G:Gs}
theorem YO(hI:Inv w0 S0 c){t e:TypeId}{n bb len:Nat}{z:List PV}(hE:E.ty t = .slice e n bb z){parts:Array (Nat × Operand)}{ρ:Operand→PV}{vρ:Operand→Value}(hρ:∀x,aF c (ρ x) (vρ x))
  {els:List (List PV)} (uB:fF n 0 (parts.toList.map fun x=>(x.1,ρ x.2))=some els) (hlen:len=els.length) (hsm:len≤4096) (hn:n≤4096)
  (g9:∀e∈els,∀p∈e,eZ c.rows p) :
  ∃bZ,(Instr.buildSlice t len (parts.map fun(i,x)=>(i,vρ x))).run E.P c.w = .ok (.slice (some ⟨c.w.heap.size,0,none⟩) len len) (c.w.alloc (.cells bZ e))∧bZ.size=len*n∧a6 (aM c) els.flatten bZ.toList∧(∀u∈bZ.toList,u.oneCell'=true)∧(∀e∈els,e.length=n)∧0<n:=by
 obtain⟨hu,hnp,y9,i,zv,hi,hz,hs,_,FQ,_⟩:=eA hE
 obtain⟨g1,g2,g3⟩:=kN uB
 have IE:parts.size=els.length:=by rw [g1];simp
 have am7:zv.cells.size=n:=by rw [←y9,←FQ];simp
 have xQ:∀j (x:Nat × Value),((parts.map fun(i,x)=>(i,vρ x)).toList)[j]? = some x→x.1=0+j ∧ ∃e,els[j]? = some e∧a6 (aM c) e x.2.cells.toList ∧ ∀u∈x.2.cells.toList,u.oneCell'=true:=by
  intro j x hx
  simp at hx
  obtain⟨a,b,l3,rfl⟩:=hx
  obtain⟨q1,e,q2,q3⟩:=g3 j (a,ρ b) (by simp;exact⟨a,b,l3,rfl,rfl⟩)
  have q4:=jY (hρ b) q3 (fun q hq=>g9 e (List.mem_of_getElem? q2) q hq)
  exact⟨q1,e,q2,q4.1,q4.2⟩
 obtain⟨bZ,f1,f2⟩:=uE (n:=n) (parts.map fun(i,x)=>(i,vρ x)).toList 0 ((Array.range (len*n)).map (zv.cells[· % zv.cells.size]!)) (fun j x hx=>by
  obtain⟨q1,e,q2,q3,_⟩:=xQ j x hx
  refine⟨q1,?_⟩
  have:=q3.length
  rw [g2 e (List.mem_of_getElem? q2)]at this
  simpa using this.symm) (by simp [IE,hlen])
 simp only [Nat.zero_mul,List.take_zero,List.nil_append]at f2
 have gG:(Instr.buildSlice t len (parts.map fun(i,x)=>(i,vρ x))).run E.P c.w = .ok (.slice (some ⟨c.w.heap.size,0,none⟩) len len) (c.w.alloc (.cells bZ e)):=by
  have hbound:¬(16777216<len*n):=by
   have:len*n≤4096*4096:=Nat.mul_le_mul hsm hn
   omega
  by_cases h0:len*n=0
  ·have IF:len=0:=by
    rcases Nat.mul_eq_zero.1 h0 with h | h
    ·exact h
    ·omega
   have Z2:parts = #[]:=Array.eq_empty_of_size_eq_zero (by omega)
   subst Z2
   subst IF
   simp [Instr.fill]at f1
   subst f1
   have E3:Array.range 0 = #[]:=rfl
   simp [Instr.buildSlice,run_underlying hu,cC hi,newRow,Instr.fill,E3]
  ·have f1':Instr.fill (fun i=>some (i*n,n)) ((Array.range (len*n)).map (zv.cells[· % zv.cells.size]!)) (parts.toList.map fun x=>(x.1,vρ x.2))=some bZ:=by simpa using f1
   simp only [Instr.buildSlice,Sem.run_bind,run_underlying hu,Result.andThen_ok,cC hi,hs]
   simp [h0,hbound,newRow,zeroValue,typeInfo,hi,hz,f1']
 have e3:bZ.toList=((parts.map fun(i,x)=>(i,vρ x)).toList.map fun x=>x.2.cells.toList).flatten:=by rw [f2,List.flatMap_def]
 have key:∀(vs:List (Nat × Value)) (es:List (List PV)),vs.length=es.length→(∀(j:Nat) (x:Nat × Value),vs[j]? = some x → ∃e,es[j]? = some e∧a6 (aM c) e x.2.cells.toList ∧ ∀u∈x.2.cells.toList,u.oneCell'=true) →
   a6 (aM c) es.flatten (vs.map fun x=>x.2.cells.toList).flatten ∧ ∀u∈(vs.map fun x=>x.2.cells.toList).flatten,u.oneCell'=true:=by
  intro vs
  induction vs with
  | nil =>
   intro es hl _
   have:es = []:=List.eq_nil_of_length_eq_zero hl.symm
   subst this
   exact⟨trivial,by simp⟩
  | cons v vs ih =>
   intro es hl h
   match es,hl with
   | e::es,hl =>
    obtain⟨h1,h2⟩:=ih es (by simpa using hl) fun j x hx=>by simpa using h (j+1) x (by simpa using hx)
    obtain⟨e',q1,q2,q3⟩:=h 0 v (by simp)
    simp at q1;subst q1
    simp only [List.flatten_cons,List.map_cons]
    refine⟨a6.append q2 h1,fun u hu=>?_⟩
    rcases List.mem_append.1 hu with hu | hu
    ·exact q3 u hu
    ·exact h2 u hu
 obtain⟨k1,k2⟩:=key (parts.map fun(i,x)=>(i,vρ x)).toList els (by simp [IE]) fun j x hx=>(xQ j x hx).2
 rw [←e3]at k1 k2
 refine⟨bZ,gG,?_,k1,k2,g2,hnp⟩
 have h5:=k1.length
 have fl:∀ {l:List (List PV)},(∀e∈l,e.length=n)→l.flatten.length=l.length*n:=by
  intro l
  induction l with
  | nil=>intro _;simp
  | cons e l ih=>intro h;rw [List.flatten_cons,List.length_append,ih (fun e he=>h e (by simp [he])),h e (by simp),List.length_cons,Nat.add_mul];omega
 rw [fl g2,Array.length_toList]at h5
 rw [hlen];exact h5.symm
def D9(E:Env)(o:Oper)(K:PS→Prop)(σ:PS):Prop:=
 match o.op with
 | .buildSlice t len parts =>
  match E.ty t with
  | .slice e n _ _=>∃els,fF n 0 (parts.toList.map fun x=>(x.1,aN σ.f x.2))=some els∧len=els.length∧len≤4096∧n≤4096∧(∀x∈els,∀p∈x,eZ σ.rows p) ∧
    zD K σ o.dst (.own (o.dst.getD 0) σ.clock 0 els.length) (o.dst.getD 0) e n els
  | _=>False
 | _=>False
theorem vU{o:Oper}{a:Act}{w:World}{σ:PS}{K:PS→Prop}(h:D9 E o K σ)(hR:Rel w0 S0 m G σ a w)(hd:∀t,o.dst=some t→t<m)
  {K':Act→World→Prop} {Q:Exit→Act→World→Prop} (hK:∀σ' a' w',K σ'→Rel w0 S0 m G σ' a' w'→K' a' w'):o.wp E.P a w K' Q:=by
 obtain⟨⟨c,rfl,hr,eX,hI,hf,hG⟩,hn,eC⟩:=hR
 have hρ:=jN hf
 obtain⟨dst,op,type,pos,after,guard⟩:=o
 simp only at hd
 unfold D9 at h
 simp only at h
 split at h
 ·rename_i t len parts
  split at h
  ·rename_i e n b z hE
   obtain⟨els,h1,h2,h3,h4,h5,h⟩:=h
   rw [←hr]at h5
   obtain⟨bZ,g1,g2,g3,g4,g5,g6⟩:=YO hI hE hρ h1 h2 h3 h4 h5
   obtain⟨rB,hA⟩:=rF hI (ver:=σ.clock) (fun hu=>Nat.lt_irrefl _ (eX _ hu)) (dst.getD 0) e n els.length els.length els bZ rfl (Nat.le_refl _) (by simp only [maxLen];omega) (by rw [g2,h2]) (by
    rw [List.take_of_length_le (by rw [Array.length_toList,g2,h2];exact Nat.le_refl _)];exact g3) g4 g5 g6
   obtain⟨f',rows',rW,uI⟩:=mU (K:=fun f' r'=>K ⟨f',r',σ.clock+1⟩) hr eX hf hG hn eC h rB hA (jA (r:=⟨σ.clock,e,n,els⟩) (A:=some ⟨c.w.heap.size,0,none⟩) (cap:=els.length) (by simp [c4]) rfl (Or.inl rfl) (by simp [c4])) hd
   unfold Oper.wp
   have:(execOp a.eval { dst:=dst,op:=.buildSlice t len parts,type:=type,pos:=pos,after:=after,guard:=guard }).run E.P c.w = .ok (.value (.slice (some ⟨c.w.heap.size,0,none⟩) els.length els.length)) (c.w.alloc (.cells bZ e)):=by
    rw [h2]at g1
    simp only [execOp,Sem.run_bind,h2,g1,Result.andThen_ok,Sem.run_pure]
   rw [this]
   refine hK _ _ _ rW (uI.mono fun v hv=>?_)
   show v<σ.clock+1
   rcases hv with rfl | hv
   ·omega
   ·have:v<σ.clock:=hv
    omega
  ·exact h.elim
 ·exact h.elim
theorem kI{ops:Array Oper}{K:PS→Prop}{Q:Exit→Act→World→Prop}{l2:List Oper}(hK:∀σ' a' w',K σ'→Rel w0 S0 m G σ' a' w'→wpList E.P ops Q l2 a' w') :
  ∀(l:List Oper) (σ:PS) (a:Act) (w:World),(∀o∈l,∀t,o.dst=some t→t<m)→aH E ops.toList l K σ→Rel w0 S0 m G σ a w→wpList E.P ops Q (l++l2) a w
 | [],σ,a,w,_,h,hR=>hK _ _ _ h hR
 | o::os,σ,a,w,hd,h,hR=>by
  have V3:=hd o (by simp)
  have hds:∀o∈os,∀t,o.dst=some t→t<m:=fun o ho=>hd o (by simp [ho])
  have wanted:∀ {σ},dO E o (aH E ops.toList os K) σ→Rel w0 S0 m G σ a w→o.wp E.P a w (wpList E.P ops Q (os++l2)) Q:=fun hp hR =>
   r7 hp hR V3 fun σ' a' w' hk jP=>kI hK os σ' a' w' hds hk jP
  show wpList E.P ops Q (o::(os++l2)) a w
  unfold wpList
  simp only [aH]at h
  split at h
  ·rename_i hg
   rw [if_pos (by simp [Region.wanted,hg])]
   exact .inl (wanted h hR)
  ·rename_i j want hg
   split at h
   ·exact h.elim
   ·rename_i d K4
    have U3:(ops[j]?).bind (·.dst)=some d:=by simpa using K4
    have skip:yielded ops a.tmps j≠some want→aH E ops.toList os K (σ.put o.dst (.eQ []))→(if Region.wanted o (yielded ops a.tmps)=true then o.wp E.P a w (wpList E.P ops Q (os++l2)) Q∨(o.asks E.P a w∧LetsOut Q)else wpList E.P ops Q (os++l2) (a.put o.dst undef) w):=by
     intro hy h2
     rw [if_neg (by simpa [Region.wanted,hg]using hy)]
     refine kI hK os _ _ w hds h2 ?_
     obtain⟨⟨c,rfl,hr,eX,hI,hf,hG⟩,hn,eC⟩:=hR
     exact lH hf hG hn eC (oF.refl c) hI F4 V3 rfl (by simp [PS.put,hr]) eX
    obtain⟨c,_,_,_,_,hf,_⟩:=hR.ex
    have hx:=hf d
    rcases h with ⟨h1,h2⟩ | ⟨h1 | h1,h2⟩
    ·rw [h1]at hx
     rw [if_pos (by simp [Region.wanted,hg,fM U3 hx])]
     exact .inl (wanted h2 hR)
    ·rw [h1]at hx
     exact skip (by rw [fM U3 hx];cases want<;>simp) h2
    ·rw [h1]at hx
     exact skip (by rw [pC U3 hx];simp) h2
end
theorem W.SS{E:Env}{n:Nat}{tl:Nat→Nat}{Q:PX→PS→Prop}{σ:PS}{id:Nat}{ops:List Oper}{y:Code}(i:Nat){o:Oper}(ho:ops=ops.take i++o::ops.drop (i+1))(hg:o.guard=none)
  (h:∀K:PS→Prop,(∀σ,W E n tl y Q σ→K σ)→go (aH E ops (ops.take i) (fun σ=>D9 E o (aH E ops (ops.drop (i+1)) K) σ) σ)):W E n tl (.seq (.region id ops.toArray false) y) Q σ:=by
 refine W.seq ?_
 intro fD w0 S0 G a w Q' hR hQ
 simp only [dU,uQ,Bool.and_eq_true]at fD
 have hd:∀o∈ops,∀t,o.dst=some t→t<n:=fun o ho t ht=>by
  have:=Array.all_eq_true_iff_forall_mem.1 fD.1 o (by simpa using ho)
  simpa [ht]using this
 refine wp_region_list ?_
 show wpList E.P ops.toArray Q' ops a w
 have h1:=h (fun σ=>W E n tl y Q σ) fun _ h=>h
 have s6:o∈ops:=by rw [ho];simp
 have:=kI (E:=E) (w0:=w0) (S0:=S0) (m:=n) (G:=G) (ops:=ops.toArray) (Q:=Q') (l2:=o::ops.drop (i+1)) (K:=fun σ=>D9 E o (aH E ops (ops.drop (i+1)) (fun σ=>W E n tl y Q σ)) σ) (fun σ' a' w' hl jP=>by
  unfold wpList
  rw [if_pos (by simp [Region.wanted,hg])]
  refine .inl (vU hl jP (hd o s6) fun σ2 a2 w2 hk hR2=>?_)
  exact gI (E:=E) (ops:=ops.toArray) (fun σ3 a3 w3 hk3 hR3=>hQ .normal σ3 a3 w3 hk3 hR3) _ σ2 a2 w2 (fun o ho=>hd o (List.mem_of_mem_drop ho)) hk hR2) (ops.take i) σ a w (fun o ho=>hd o (List.mem_of_mem_take ho)) h1 hR
 rwa [←ho]at this
def vV(ti:TI)(rows:Rows)(len:Nat)(ps:List (Nat × PV))(K:TypeId→Nat→List (List PV)→Prop):Prop:=
 match ti with
 | .slice e n _ _=>gJ n 0 ps fun els=>aE (len=els.length∧len≤4096∧n≤4096∧fG rows els.flatten) (K e n els)
 | _=>False
@[congr] theorem YP{t t':TI}{rows rows':Rows}{len:Nat}{ps I4:List (Nat × PV)}{K:TypeId→Nat→List (List PV)→Prop}(h:t=t')(h2:ps=I4)(h3:rows=rows'):vV t rows len ps K=vV t' rows' len I4 K:=by rw [h,h2,h3]
@[simp] theorem YQ{e n b:Nat}{z:List PV}{rows:Rows}{len:Nat}{ps:List (Nat × PV)}{K:TypeId→Nat→List (List PV)→Prop}:vV (.slice e n b z) rows len ps K=gJ n 0 ps fun els=>aE (len=els.length∧len≤4096∧n≤4096∧fG rows els.flatten) (K e n els):=rfl
@[simp] theorem amB{E:Env}{K:PS→Prop}{f:Nat→PV}{rows:Rows}{clk:Nat}{d:Option Tmp}{ty:TypeId}{pos:String}{af:Array Edge}{t:TypeId}{len:Nat}{parts:Array (Nat × Operand)} :
  D9 E ⟨d, .buildSlice t len parts,ty,pos,af,none⟩ K ⟨f,rows,clk⟩=vV (E.ty t) rows len (parts.toList.map fun x=>(x.1,aN f x.2)) fun e n els=>K ⟨put f d (.own (d.getD 0) clk 0 els.length),c4 rows (d.getD 0) (some ⟨clk,e,n,els⟩),clk+1⟩:=by
 simp only [D9,vV]
 generalize E.ty t=T
 cases T with
 | slice e n b z =>
  simp only
  rw [←rI]
  simp only [aE,zD,fG]
  apply propext
  constructor
  ·rintro⟨els,h1,h2,h3,h4,h5,h6⟩
   exact⟨els,h1,⟨h2,h3,h4,fun q hq=>by obtain⟨x,hx,hq⟩:=List.mem_flatten.1 hq;exact h5 x hx q hq⟩,h6⟩
  ·rintro⟨els,h1,⟨h2,h3,h4,h5⟩,h6⟩
   exact⟨els,h1,h2,h3,h4,fun x hx q hq=>h5 q (List.mem_flatten.2 ⟨x,hx,hq⟩),h6⟩
 | _=>rfl
end Pm
namespace Go.Proofs.YtiobceocpabjdaaGreat
open Go Pm
theorem yS(x:List Int)(c:Int)(hx:PD x)(hc:sz LL c<1099511627774)(h0:c≠0):aZ env.P 262 [Po x,I c] (Po (aG (x.map (i6 c)))):=by
 have N2:=hx.len
 refine cL [(0,Po x),(1,I c)] Tryz.func262 ?_
 refine aB [0,3] ?_
 refine aB [0,3,5] ?_
 refine W.row (id:=10) (emap ie (List.replicate x.length 0)) (by simp;exact⟨rfl,rfl,rfl⟩) (lS _) ?_
 refine aQ [3,5,11,12,13] ?_
 refine W.block ?_
 refine W.a9 (fun q σ=>∃(i:Nat) (z:List Int) (v10:Nat) (rows:Pm.Rows) (clk:Nat),σ=⟨fa [(3, .ptr 3 0 0 0),(5, .own 10 v10 0 x.length),(11,Po x),(12, .int .i64 x.length),(13, .int .i64 i)],rows,clk⟩ ∧
  rows 3=some ⟨0,38,2,[ie c]⟩∧rows 10=some ⟨v10,38,2,emap ie z⟩∧q=x.length-i∧i≤x.length∧z.length=x.length∧z.take i=(x.take i).map (i6 c)) x.length ?_ ?_
 ·exact⟨_, .refl,0,List.replicate x.length 0,_,_,_,rfl,by simp,by simp,by omega,by omega,by simp,by simp⟩
 rintro q _ ⟨i,z,v10,rows,clk,rfl,c5,tF,hq,hi,hz,hv⟩
 refine cH [3,5,11,12,13,14] ?_
 refine bO ?_ ?_<;>intro h
 ·have hi:i<x.length:=by simp at h;omega
  have hE:=qO (hx.sz _ (cP hi)) hc h0
  have hE2:aZ env.P 234 [I (nth x i),I c] (.eQ [I (i6 c (nth x i)), .int .i64 (if nth x i%c=0 then 0 else 3)]):=by
   unfold i6
   split at hE
   ·rename_i h1;rw [if_pos h1,if_pos h1];exact hE
   ·rename_i h1;rw [if_neg h1,if_neg h1];exact hE
  have hts:(x.take (i+1)).map (i6 c)=(x.take i).map (i6 c) ++ [i6 c (nth x i)]:=by rw [aU hi];simp
  generalize (if nth x i%c=0 then(0:Int)else 3)=er at *
  generalize i6 c (nth x i)=ev at *
  generalize hxe:nth x i=xi at *
  refine iS ?_
  refine W.sr ?_
  simp (disch:=omega) [gw,hxe]
  refine bF [3,5,6,7,11,12,13] ?_
  refine W.cA (fun K hK=>?_)
  simp (disch:=omega) [gw,c5]
  refine aD hE2 ?_
  simp (disch:=omega) [gw,tF,hz]
  refine W.lw [3,5,11,12,13] hK ?_;clear hK K;simp
  refine W.cA (fun K hK=>?_);simp (disch:=omega) [gw]
  refine hK _ ⟨x.length-(i+1),_,aC _ [3,5,11,12,13],by omega,i+1,z.set i ev,v10,_,_,rfl,by simp [c5],by simp,by omega,by omega,by simp [hz],?_⟩
  rw [jC hv (by omega),hts]
 ·have hi:i=x.length:=by simp at h;omega
  subst hi
  rw [bA hz,List.take_length]at hv
  have pJ:=bA hz
  refine eH ?_
  have hzb:PB z:=by
   rw [hv]
   refine⟨fun v hv=>?_,by simpa using by omega⟩
   simp only [List.mem_map]at hv
   obtain⟨w,hw,rfl⟩:=hv
   have h1:=hx.sz w hw
   show sz LL (i6 c w)<1099511627776
   refine Nat.lt_of_le_of_lt (cQ eV (y:=w) ?_) (by omega)
   unfold i6;split
   ·exact Int.natAbs_ediv_le_natAbs _ _
   ·simp
  have hN:=fK hzb
  rw [hv]at hN tF pJ
  generalize x.map (i6 c)=y at *
  have DY:y.length=x.length:=by rw [←hv];exact hz
  refine W.sr ?_
  simp (disch:=omega) [gw,tF,pJ]
  refine c7 [4] hN ?_
  exact cV
structure CV where
 x:List Int
 y:List Int
 d:Int
def CV.cells(c:CV):List PV:=[Po c.x,Po c.y, .bool (decide (c.d<0)),aX u32 (a5 LL c.d.natAbs)]
@[simp] theorem CV.cS{c:CV}:c.cells = [Po c.x,Po c.y, .bool (decide (c.d<0)),aX u32 (a5 LL c.d.natAbs)]:=rfl
structure RC where
 x:RP
 y:RP
 s:Bool
 l:List Int
def RC.cells(c:RC):List PV:=[Pg c.x,Pg c.y, .bool c.s,aX u32 c.l]
@[simp] theorem RC.cS{c:RC}:c.cells = [Pg c.x,Pg c.y, .bool c.s,aX u32 c.l]:=rfl
def dN(d:Int):Int:=if d=0 then 1 else d
theorem JS(d:Int):dN d≠0:=by unfold dN;split<;>omega
def cg(x y:List Int)(d:Int):Int:=if dN d<0 then -(bB (dN d::(x++y)):Int)else bB (dN d::(x++y))
def nC(x y:List Int)(d:Int):CV:=⟨aG (x.map (i6 (cg x y d))),aG (y.map (i6 (cg x y d))),dN d/cg x y d⟩
theorem SU(x y:List Int)(d:Int){v:Int}(h:v∈dN d::(x++y)):cg x y d∣v:=by
 have:=eG _ v h
 unfold cg
 split
 ·exact Int.neg_dvd.2 this
 ·exact this
theorem akE(x y:List Int)(d:Int):cg x y d≠0:=fun h=>by
 have:=SU x y d (List.mem_cons_self ..)
 rw [h]at this
 exact JS d (Int.zero_dvd.1 this)
theorem AN:sz LL 1≤1:=cX eV (by decide)
theorem SV{a b:Int}(h:a∣b)(hb:b≠0):sz LL a≤sz LL b:=cQ eV (Nat.le_of_dvd (by omega) (Int.natAbs_dvd_natAbs.2 h))
theorem rN(d:Int):aZ env.P 124 [I d] (.bool (decide (d=0))):=by
 have:=vF (decide (d<0)) (a5 LL d.natAbs)
 rw [show decide ((a5 LL d.natAbs).length=0)=decide (d=0)from by
  by_cases h:d=0
  ·subst h;rfl
  ·have:a5 LL d.natAbs ≠ []:=fun h2=>h (by have:=iT eV d.natAbs;rw [h2]at this;simp [V]at this;omega)
   have h3:=List.length_pos_iff.2 this
   simp [h];omega]at this
 exact this
theorem M0(c:RC){s n:Nat}(hx:mG c.x)(hy:mG c.y)(hl:lR c.l)(bx:Bd LL s n (c.x.map gv))(mH:Bd LL s n (c.y.map gv))(bd:sz LL (iv c.s c.l)≤s)(h1:1≤s)(hs:s<1099511627774)(hn:n<500000000000) :
  aZ env.P 237 [.ag c.cells] (.ag (nC (fP c.x) (fP c.y) (iv c.s c.l)).cells):=by
 have p1:=eE c.x hx
 have p2:=eE c.y hy
 have p3:=kZ c.s c.l hl
 have bX:Bd LL s n (fP c.x):=bx.cut
 have bY:Bd LL s n (fP c.y):=mH.cut
 obtain⟨x,y,sg,l⟩:=c
 simp only [RC.cS]at *
 rw [show aG (x.map gv)=fP x from rfl]at p1
 rw [show aG (y.map gv)=fP y from rfl]at p2
 generalize fP x=X at *
 generalize fP y=Y at *
 generalize iv sg l=d at *
 have z0:=rN d
 have o1:=rM 1 (by decide) (by decide)
 have bD:sz LL (dN d)≤s:=by
  unfold dN;split
  ·exact Nat.le_trans AN h1
  ·exact bd
 have wV:=JS d
 have hcg:=akE X Y d
 have hcd:=SU X Y d (List.mem_cons_self ..)
 have bG:sz LL (cg X Y d)≤s:=Nat.le_trans (SV hcd wV) bD
 have lX:=bX.len
 have lY:=bY.len
 have g1:=vT ((dN d::(X++Y)).map jU) s hs (fun e he=>by
  simp only [List.mem_map]at he
  obtain⟨v,hv,rfl⟩:=he
  refine⟨eN eV _,?_⟩
  rcases List.mem_cons.1 hv with rfl | hv
  ·exact bD
  ·rcases List.mem_append.1 hv with hv | hv
   ·exact bX.sz v hv
   ·exact bY.sz v hv) (by simp;omega)
 rw [bC,←fB]at g1
 have n1:=abm (x:=(bB (dN d::(X++Y)):Int)) (by
  refine Nat.lt_of_le_of_lt ?_ (show s<_ by omega)
  exact Nat.le_trans (SV (eG _ _ (List.mem_cons_self ..)) wV) bD)
 have e1:=qO (v:=dN d) (c:=cg X Y d) (by omega) (by omega) hcg
 rw [if_pos (Int.emod_eq_zero_of_dvd hcd)]at e1
 have v1:=yS X (cg X Y d) (PD.of bX (by omega) (by omega)) (by omega) hcg
 have v2':=yS Y (cg X Y d) (PD.of bY (by omega) (by omega)) (by omega) hcg
 unfold nC
 simp only [CV.cS]
 generalize aG (X.map (i6 (cg X Y d)))=X' at *
 generalize aG (Y.map (i6 (cg X Y d)))=Y' at *
 have V4:cg X Y d=if dN d<0 then -(bB (dN d::(X++Y)):Int)else bB (dN d::(X++Y)):=rfl
 generalize (bB (dN d::(X++Y)):Int)=G at *
 generalize cg X Y d=g at *
 have hdN:dN d=if d=0 then 1 else d:=rfl
 generalize dN d=D at *
 generalize hD':D/g=D' at *
 refine cL [(0, .ag [Pg x,Pg y, .bool sg,aX u32 l])] Tryz.func237 ?_
 refine aB [1,2] ?_
 refine oW ?_
 refine cM p1 ?_
 refine cM p2 ?_
 refine cM p3 ?_
 rw [if_pos (by kernel_rfl)]
 simp (disch:=omega) [gw]
 refine bF [2,3,4,5] ?_
 refine W.gK (fun σ=>∃(v2 v5:Nat) (rows:Pm.Rows) (clk:Nat),σ=⟨fa [(2, .ptr 2 v2 0 0),(3,Po X),(4,Po Y),(5, .ptr 5 v5 0 0)],rows,clk⟩∧rows 2=some ⟨v2,71,4,[[.nil, .nil, .bool false, .nil]]⟩∧rows 5=some ⟨v5,38,2,[ie D]⟩) ?_ ?_
 ·refine bT [2,3,4,5,17] z0 ?_
  refine bO ?_ ?_<;>intro h
  ·simp at h
   rw [if_pos h]at hdN
   subst hdN
   refine W.cA (fun K hK=>?_)
   simp (disch:=omega) [gw]
   refine cM o1 ?_
   exact hK _ ⟨_,aC _ [2,3,4,5],_,_,_,_,rfl,by simp,by simp⟩
  ·simp at h
   rw [if_neg h]at hdN
   subst hdN
   refine W.skip ?_
   exact⟨_,aC _ [2,3,4,5],_,_,_,_,rfl,by simp,by simp⟩
 rintro _ ⟨v2,v5,rows,clk,rfl,dB,gX⟩
 obtain⟨W0,hW⟩:∃W0,W0=D::(X++Y):=⟨_,rfl⟩
 rw [←hW]at g1
 have hE:[PV.bool (decide (D<0)),us (a5 LL D.natAbs)]::emap ie (X++Y)=emap ie W0:=by rw [hW];rfl
 have hlW:1+X.length+Y.length=W0.length:=by rw [hW];simp;omega
 refine W.SS 1 rfl rfl (fun K hK=>?_)
 simp (disch:=omega) [gw,gP,gX]
 simp only [hE,hlW]
 simp (disch:=omega) [gw]
 refine cM g1 ?_
 refine W.lw [2,3,4,5,6] hK ?_;clear hK K;simp
 refine W.gK (fun σ=>∃(v2 v5 v6:Nat) (rows:Pm.Rows) (clk:Nat),σ=⟨fa [(2, .ptr 2 v2 0 0),(3,Po X),(4,Po Y),(5, .ptr 5 v5 0 0),(6, .ptr 6 v6 0 0)],rows,clk⟩∧rows 2=some ⟨v2,71,4,[[.nil, .nil, .bool false, .nil]]⟩∧rows 5=some ⟨v5,38,2,[ie D]⟩∧rows 6=some ⟨v6,38,2,[ie g]⟩) ?_ ?_
 ·refine W.sr ?_
  simp (disch:=omega) [gw,gX]
  refine bF [2,3,4,5,6,27] ?_
  refine bO ?_ ?_<;>intro h
  ·simp at h
   rw [if_pos h]at V4
   subst V4
   refine W.cA (fun K hK=>?_)
   simp (disch:=omega) [gw]
   refine cM n1 ?_
   exact hK _ ⟨_,aC _ [2,3,4,5,6],_,_,_,_,_,rfl,by simp [dB],by simp [gX],by simp⟩
  ·simp at h
   rw [if_neg (by omega)]at V4
   subst V4
   refine W.skip ?_
   exact⟨_,aC _ [2,3,4,5,6],_,_,_,_,_,rfl,by simp [dB],by simp [gX],by simp⟩
 rintro _ ⟨v2,v5,v6,rows,clk,rfl,dB,gX,mI⟩
 refine W.sr ?_
 simp (disch:=omega) [gw,gX,mI]
 refine aD e1 ?_
 simp (disch:=omega) [gw,gX]
 refine bF [2,3,4,5,6] ?_
 refine W.sd ?_
 simp (disch:=omega) [gw,mI]
 refine aD v1 ?_
 simp (disch:=omega) [gw,mI]
 refine aD v2' ?_
 simp (disch:=omega) [gw,dB]
 refine bF [2] ?_
 exact cV
structure RC.OK(c:RC)(s n:Nat):Prop where
 hx:mG c.x
 hy:mG c.y
 hl:lR c.l
 bx:Bd LL s n (c.x.map gv)
 mH:Bd LL s n (c.y.map gv)
 bd:sz LL (iv c.s c.l)≤s
 h1:1≤s
 hs:s<1099511627774
 hn:n<500000000000
def RC.nc(c:RC):CV:=nC (fP c.x) (fP c.y) (iv c.s c.l)
theorem RC.OK.norm{c:RC}{s n:Nat}(h:c.OK s n):aZ env.P 237 [.ag c.cells] (.ag c.nc.cells):=M0 c h.hx h.hy h.hl h.bx h.mH h.bd h.h1 h.hs h.hn
theorem M1{c:RC}{s n:Nat}(h:c.OK s n)(h0:iv c.s c.l≠0):aZ env.P 238 [Pg c.x,Pg c.y,IV c.s c.l] (.eQ [.ag c.nc.cells, .int .i64 0]):=by
 have p1:=kZ c.s c.l h.hl
 have z0:=rN (iv c.s c.l)
 rw [decide_eq_false h0]at z0
 have hn:=h.norm
 generalize iv c.s c.l=d at *
 generalize c.nc=r at *
 obtain⟨x,y,sg,l⟩:=c
 simp only [RC.cS,CV.cS]at *
 refine cL [(0,Pg x),(1,Pg y),(2,IV sg l)] Tryz.func238 ?_
 refine aB [0,1,5,6,7] ?_
 refine W.seq ?_
 refine j1 ?_
 refine cM p1 ?_
 refine c7 [0,1,5,6,10] z0 ?_
 refine bO ?_ ?_<;>intro h
 ·cases h
 refine W.skip ?_
 refine bT [6,7] hn ?_
 exact cV
theorem RC.OK.dNc{c:RC}{s n:Nat}(h:c.OK s n){sg:Bool}{l:List Int}(hl:lR l)(e:iv sg l=dN (iv c.s c.l)):(RC.mk c.x c.y sg l).OK s n∧(RC.mk c.x c.y sg l).nc=c.nc:=by
 refine⟨⟨h.hx,h.hy,hl,h.bx,h.mH,?_,h.h1,h.hs,h.hn⟩,?_⟩
 ·show sz LL (iv sg l)≤s
  rw [e]
  unfold dN;split
  ·exact Nat.le_trans AN h.h1
  ·exact h.bd
 ·show nC (fP c.x) (fP c.y) (iv sg l)=nC (fP c.x) (fP c.y) (iv c.s c.l)
  rw [e]
  generalize iv c.s c.l=d
  have hd:dN (dN d)=dN d:=by
   show(if _=0 then _ else _)=_
   rw [if_neg (JS d)]
  unfold nC cg
  rw [hd]
theorem oB{c:RC}{s n:Nat}(h:c.OK s n):aZ env.P 177 [.ag c.cells] (.ag c.nc.cells):=by
 have p1:=kZ c.s c.l h.hl
 have z0:=rN (iv c.s c.l)
 have o1:=rM 1 (by decide) (by decide)
 have hM:∀(sg:Bool) (l:List Int),lR l→iv sg l=dN (iv c.s c.l)→aZ env.P 238 [Pg c.x,Pg c.y,IV sg l] (.eQ [.ag c.nc.cells, .int .i64 0]):=fun sg l hl e=>by
  obtain⟨h1,h2⟩:=h.dNc hl e
  have:=M1 h1 (by show iv sg l≠0;rw [e];exact JS _)
  rw [h2]at this
  exact this
 have hl:=h.hl
 have i1:iv false (a5 LL 1)=1:=qG 1
 have L1:lR (a5 LL 1):=Sz.L4 (x:=1) (Nat.lt_of_le_of_lt AN (by decide))
 have hdN:dN (iv c.s c.l)=if iv c.s c.l=0 then 1 else iv c.s c.l:=rfl
 generalize dN (iv c.s c.l)=D at *
 generalize hd:iv c.s c.l=d at *
 generalize c.nc=r at *
 obtain⟨x,y,sg,l⟩:=c
 simp only [RC.cS,CV.cS]at *
 refine cL [(0, .ag [Pg x,Pg y, .bool sg,aX u32 l])] Tryz.func177 ?_
 refine aB [1,2] ?_
 refine aB [1,2,3] ?_
 refine W.gK (fun σ=>∃(s':Bool) (l':List Int) (v1 v2 v3:Nat) (rows:Pm.Rows) (clk:Nat),σ=⟨fa [(1, .ptr 1 v1 0 0),(2, .ptr 2 v2 0 0),(3, .ptr 3 v3 0 0)],rows,clk⟩∧rows 1=some ⟨v1,71,4,[[Pg x,Pg y, .bool sg,aX u32 l]]⟩∧rows 2=some ⟨v2,71,4,[[.nil, .nil, .bool false, .nil]]⟩ ∧
  rows 3=some ⟨v3,38,2,[[.bool s',us l']]⟩∧lR l'∧iv s' l'=D) ?_ ?_
 ·refine j1 ?_
  refine cM p1 ?_
  refine c7 [1,2,3,10] z0 ?_
  refine bO ?_ ?_<;>intro h
  ·simp at h
   rw [if_pos h]at hdN
   refine W.cA (fun K hK=>?_)
   simp (disch:=omega) [gw]
   refine cM o1 ?_
   exact hK _ ⟨_,aC _ [1,2,3],false,a5 LL 1,_,_,_,_,_,rfl,by simp,by simp,by simp,L1,by omega⟩
  ·simp at h
   rw [if_neg h]at hdN
   refine W.skip ?_
   exact⟨_,aC _ [1,2,3],sg,l,_,_,_,_,_,rfl,by simp,by simp,by simp,hl,by omega⟩
 rintro _ ⟨s',l',v1,v2,v3,rows,clk,rfl,I8,dB,c5,hl',he⟩
 have hM:=hM s' l' hl' he
 refine W.sr ?_
 simp (disch:=omega) [gw,I8,c5]
 refine c7 [2,4] hM ?_
 refine W.sr ?_
 simp (disch:=omega) [gw,dB]
 refine bF [2] ?_
 exact cV
theorem aeF(c v:Int):sz LL (i6 c v)≤sz LL v:=cQ eV (by
 unfold i6;split
 ·exact Int.natAbs_ediv_le_natAbs _ _
 ·simp)
theorem SW{s n:Nat}{x:List Int}(c:Int)(h:Bd LL s n x):Bd LL s n (aG (x.map (i6 c))):=Bd.cut ⟨by simpa using h.len,fun v hv=>by
 simp only [List.mem_map]at hv
 obtain⟨w,hw,rfl⟩:=hv
 exact Nat.le_trans (aeF c w) (h.sz w hw)⟩
theorem RC.OK.JT{c:RC}{s n:Nat}(h:c.OK s n):Bd LL s n c.nc.x∧Bd LL s n c.nc.y∧sz LL c.nc.d≤s:=by
 refine⟨SW _ h.bx.cut,SW _ h.mH.cut,?_⟩
 show sz LL (_/_)≤s
 refine Nat.le_trans (cQ eV (Int.natAbs_ediv_le_natAbs _ _)) ?_
 unfold dN;split
 ·exact Nat.le_trans AN h.h1
 ·exact h.bd
theorem HJ{a b:RC}{s n:Nat}(ha:a.OK s n)(hb:b.OK s n)(hs:s<500000000000):aZ env.P 103 [.ag a.cells, .ag b.cells] (Po (dJ (aL b.nc.x a.nc.d) (aL a.nc.x b.nc.d))):=by
 have n1:=oB ha
 have n2:=oB hb
 obtain⟨x1,y1,d1⟩:=ha.JT
 obtain⟨x2,y2,d2⟩:=hb.JT
 have hn:=ha.hn
 have s1:=gY (x:=b.nc.x) (c:=a.nc.d) (PB.of x2 (by omega) (by omega)) (Nat.lt_of_le_of_lt d1 (by omega))
 have s2:=gY (x:=a.nc.x) (c:=b.nc.d) (PB.of x1 (by omega) (by omega)) (Nat.lt_of_le_of_lt d2 (by omega))
 have s3:=n9 (PB.of (Bd.aL eV x2 d1) (by omega) (by omega)) (PB.of (Bd.aL eV x1 d2) (by omega) (by omega))
 generalize dJ (aL b.nc.x a.nc.d) (aL a.nc.x b.nc.d)=r at *
 generalize aL b.nc.x a.nc.d=k1 at *
 generalize aL a.nc.x b.nc.d=k2 at *
 clear ha hb x1 y1 d1 x2 y2 d2 hn hs
 generalize a.nc=na at *
 generalize b.nc=nb at *
 simp only [RC.cS,CV.cS]at *
 refine cL [(0, .ag [Pg a.x,Pg a.y, .bool a.s,aX u32 a.l]),(1, .ag [Pg b.x,Pg b.y, .bool b.s,aX u32 b.l])] Tryz.func103 ?_
 refine aB [2,3] ?_
 refine oW ?_
 refine cM n1 ?_
 refine cM n2 ?_
 refine bU (by kernel_rfl) ?_
 simp (disch:=omega) [gw]
 rw [if_pos (by kernel_rfl)]
 simp (disch:=omega) [gw]
 refine bU (by kernel_rfl) ?_
 simp (disch:=omega) [gw]
 refine bF [2,3] ?_
 refine oW ?_
 refine cM s1 ?_
 refine cM s2 ?_
 refine c7 [4] s3 ?_
 exact cV
theorem HK{a b:RC}{s n:Nat}(ha:a.OK s n)(hb:b.OK s n)(hs:s<500000000000):aZ env.P 104 [.ag a.cells, .ag b.cells] (Po (dJ (aL b.nc.y a.nc.d) (aL a.nc.y b.nc.d))):=by
 have n1:=oB ha
 have n2:=oB hb
 obtain⟨x1,y1,d1⟩:=ha.JT
 obtain⟨x2,y2,d2⟩:=hb.JT
 have hn:=ha.hn
 have s1:=gY (x:=b.nc.y) (c:=a.nc.d) (PB.of y2 (by omega) (by omega)) (Nat.lt_of_le_of_lt d1 (by omega))
 have s2:=gY (x:=a.nc.y) (c:=b.nc.d) (PB.of y1 (by omega) (by omega)) (Nat.lt_of_le_of_lt d2 (by omega))
 have s3:=n9 (PB.of (Bd.aL eV y2 d1) (by omega) (by omega)) (PB.of (Bd.aL eV y1 d2) (by omega) (by omega))
 generalize dJ (aL b.nc.y a.nc.d) (aL a.nc.y b.nc.d)=r at *
 generalize aL b.nc.y a.nc.d=k1 at *
 generalize aL a.nc.y b.nc.d=k2 at *
 clear ha hb y1 x1 d1 y2 x2 d2 hn hs
 generalize a.nc=na at *
 generalize b.nc=nb at *
 simp only [RC.cS,CV.cS]at *
 refine cL [(0, .ag [Pg a.x,Pg a.y, .bool a.s,aX u32 a.l]),(1, .ag [Pg b.x,Pg b.y, .bool b.s,aX u32 b.l])] Tryz.func104 ?_
 refine aB [2,3] ?_
 refine oW ?_
 refine cM n1 ?_
 refine cM n2 ?_
 refine bU (by kernel_rfl) ?_
 simp (disch:=omega) [gw]
 rw [if_pos (by kernel_rfl)]
 simp (disch:=omega) [gw]
 refine bU (by kernel_rfl) ?_
 simp (disch:=omega) [gw]
 refine bF [2,3] ?_
 refine oW ?_
 refine cM s1 ?_
 refine cM s2 ?_
 refine c7 [4] s3 ?_
 exact cV
def okM(m:List (List RP)):Prop:=(∀r∈m,r.length=m.length)∧m.length≤4
instance (m:List (List RP)):Decidable (okM m):=by unfold okM;infer_instance
def ql(x:List Int):List PV:=[PI x]
def qm(r:List (List Int)):List PV:=[aX ql r]
@[simp] theorem apv{x:List Int}:ql x = [aX ri x]:=rfl
@[simp] theorem apw{r:List (List Int)}:qm r = [aX ql r]:=rfl
@[simp] theorem ag2{l:List (List Int)}:a8 1 (emap ql l)=True:=bQ fun _=>rfl
@[simp] theorem ag3{l:List (List (List Int))}:a8 1 (emap qm l)=True:=bQ fun _=>rfl
@[simp] theorem aeG{v e n:Nat}{l:List (List Int)}:cB (some ⟨v,e,n,emap ql l⟩)=True:=bR fun _=>rfl
@[simp] theorem aeH{v e n:Nat}{l:List (List (List Int))}:cB (some ⟨v,e,n,emap qm l⟩)=True:=bR fun _=>rfl
@[simp] theorem apx{l:List (List Int)}{x:List Int}:emap ql l ++ [[aX ri x]]=emap ql (l ++ [x]):=by simp [emap]
@[simp] theorem apy{l:List (List (List Int))}{x:List (List Int)}:emap qm l ++ [[aX ql x]]=emap qm (l ++ [x]):=by simp [emap]
theorem tQ(x:List Int):fP (x.map jU)=aG x:=by simp only [fP,bC]
theorem YR(x:List Int):fP (x.map jU)=aG x:=by simp only [fP,bC]
theorem i0{x:List Int}(hx:Cn x){m:Int}(hm:m≠0):Cn (x.map (· * m)):=by
 rcases Nat.eq_zero_or_pos x.length with h | h
 ·have:x = []:=List.eq_nil_of_length_eq_zero h
  subst this;rfl
 ·have e:=pI h
  have:x.map (· * m)=(x.take (x.length-1)).map (· * m) ++ [lead x*m]:=by
   conv=>lhs;rw [e]
   simp
  rw [this]
  exact fA (Int.mul_ne_zero (dR hx h) hm) _
theorem oC{x:List Int}(hx:Cn x){m:Int}(hm:m≠0):aL x m=x.map (· * m):=i0 hx hm
theorem HL{x:List Int}(hx:Cn x):aL x 1=x:=Cn.ext (Cn.aL _ _) hx fun t=>by rw [b7];omega
theorem HM(x:List Int):fC x=aL x (-1):=Cn.ext (Cn.fC _) (Cn.aL _ _) fun t=>by rw [z8,b7];omega
theorem i2(m:Int)(x:List Int):bB (x.map (· * m))=bB x*m.natAbs:=by
 have key:∀(l:List Int) (g:Nat),(l.map (· * m)).foldl (fun g c=>Nat.gcd g c.natAbs) (g*m.natAbs)=l.foldl (fun g c=>Nat.gcd g c.natAbs) g*m.natAbs:=by
  intro l
  induction l with
  | nil=>intro g;rfl
  | cons c l ih =>
   intro g
   simp only [List.map_cons,List.foldl_cons]
   rw [Int.natAbs_mul,Nat.gcd_mul_right,ih]
 have:=key x 0
 rw [Nat.zero_mul]at this
 exact this
theorem M3{m:Int}(hm:0<m)(g v:Int):i6 (g*m) (v*m)=i6 g v:=by
 unfold i6
 rw [Int.mul_comm v,Int.mul_comm g,Int.mul_emod_mul_of_pos _ _ hm,Int.mul_ediv_mul_of_pos _ _ hm]
 have:m*(v%g)=0↔v%g=0:=by
  constructor
  ·intro h
   rcases Int.mul_eq_zero.1 h with h | h
   ·omega
   ·exact h
  ·intro h;rw [h];simp
 simp only [this]
theorem HN{m:Int}(hm:0<m)(x:List Int):jL (x.map (· * m))=jL x:=by
 unfold jL
 rw [i2,List.map_map]
 congr 1
 refine List.map_congr_left fun v _=>?_
 simp only [Function.comp_apply]
 have:((bB x*m.natAbs:Nat):Int)=(bB x:Int)*m:=by rw [Int.natCast_mul];congr 1;omega
 rw [this,M3 hm]
theorem sL{x:List Int}(hx:Cn x){m:Int}(hm:0<m):jL (aL x m)=jL x:=by rw [oC hx (by omega),HN hm]
def sg(c:Int)(k:Nat):Int:=if k%2=1∧c<0 then -1 else 1
theorem SX(c:Int):∀k:Nat,c^k=sg c k*(c.natAbs:Int)^k
 | 0=>by simp [sg]
 | k+1=>by
  have ih:=SX c k
  have hc:c=(if c<0 then -1 else 1)*(c.natAbs:Int):=by split<;>omega
  have hs:sg c (k+1)=sg c k*(if c<0 then -1 else 1):=by
   unfold sg
   by_cases h:c<0
   ·rcases Nat.mod_two_eq_zero_or_one k with h2 | h2
    ·rw [if_pos ⟨by omega,h⟩,if_neg (by omega),if_pos h];rfl
    ·rw [if_neg (by omega),if_pos ⟨h2,h⟩,if_pos h];rfl
   ·rw [if_neg (fun h2=>h h2.2),if_neg (fun h2=>h h2.2),if_neg h];rfl
  rw [Int.pow_succ,Int.pow_succ,ih,hs]
  conv=>lhs;rw [hc]
  generalize (if c<0 then(-1:Int)else 1)=e at *
  have e3:((e*(c.natAbs:Int)).natAbs:Int)=(c.natAbs:Int):=by rw [←hc]
  rw [e3]
  grind
theorem SY(c:Int)(k:Nat):sg c k*sg c k=1:=by unfold sg;split<;>rfl
theorem SZ{a b:List Int}(ca:Cn a):D6 a b=jL (aL (sG a b).2 (sg (lead b) (gM a b))):=by
 have cr:=(u6 (b:=b) ca).2
 unfold D6 sg
 split
 ·rw [HM]
 ·rw [HL cr]
theorem lB(x:List Int):(jL x).length≤x.length:=Nat.le_trans (bN _) (by simp)
theorem EA(x:List Int):(fC x).length≤x.length:=Nat.le_trans (bN _) (by simp)
theorem YS{a b:List Int}(hb:0<b.length):(D6 a b).length<b.length:=by
 have h1:=AA (a:=a) hb
 unfold D6
 split
 ·have h2:=lB (fC (sG a b).2)
  have h3:=EA (sG a b).2
  omega
 ·have h2:=lB (sG a b).2
  omega
theorem aeI(a b:List Int):Cn (D6 a b):=by unfold D6;split<;>exact Cn.cut _
def S1(b:List Int):Nat→List Int→List Int→Option (List Int × List Int)
 | 0,q,a=>some (q,a)
 | i+1,q,a=>if a.length<b.length+i then S1 b i q a else if lead a%lead b=0 then S1 b i (q.set i (lead a/lead b)) (dJ a (bK (nE i (lead a/lead b)) b))else none
def exF:Option (List Int × List Int)→Option (List Int)
 | some (q,[])=>some (aG q)
 | _=>none
def exact(a b:List Int):Option (List Int):=exF (S1 b (gM a b) (List.replicate (gM a b) 0) a)
def exR(o:Option (List Int)):PV:=
 match o with
 | some q => .eQ [Po q, .int .i64 0]
 | none => .eQ [Po [], .int .i64 3]
theorem Bd.set{B s n:Nat}{x:List Int}(h:Bd B s n x){i:Nat}{v:Int}(hv:Pm.sz B v≤s):Bd B s n (x.set i v):=⟨by simpa using h.len,fun c hc=>by
 rcases List.mem_or_eq_of_mem_set hc with h1 | h1
 ·exact h.sz c h1
 ·rw [h1];exact hv⟩
theorem M4(a b:RP){s s' N:Nat}(ha:mG a)(hb:mG b)(sa:Bd LL s N (a.map gv))(sb:Bd LL s' N (b.map gv))(hB:s+N*(s'+N+1)+s'+N+N+10<1099511627774) :
  aZ env.P 217 [Pg a,Pg b] (if fP b = []then .eQ [Po [], .int .i64 2]else exR (exact (fP a) (fP b))):=by
 have hA:Bd LL s N (fP a):=sa.cut
 have JP:Bd LL s' N (fP b):=sb.cut
 have ca:Cn (fP a):=Cn.cut _
 have cb:Cn (fP b):=Cn.cut _
 have na:=eE a ha
 have nb:=eE b hb
 rw [show aG (a.map gv)=fP a from rfl]at na
 rw [show aG (b.map gv)=fP b from rfl]at nb
 refine cL [(0,Pg a),(1,Pg b)] Tryz.func217 ?_
 generalize fP a=x at *
 generalize fP b=y at *
 refine aB [0,1] ?_
 refine j1 ?_
 refine cM na ?_
 refine c7 [0,1] nb ?_
 refine aQ [0,1,17] ?_
 refine bO ?_ ?_<;>intro h
 ·have h:y = []:=by simp at h;exact h
  rw [if_pos h]
  refine aB [4,5] ?_
  refine W.ret ?_
  simp [go]
  rfl
 have hy:y ≠ []:=by simp at h;exact h
 clear h
 rw [if_neg hy]
 have G6:0<y.length:=List.length_pos_iff.2 hy
 have hNx:=hA.len
 have hNy:=JP.len
 have hsy:=iJ JP
 have hly:=dR cb G6
 have hL:=k8 (PB.of JP (by omega) (by omega)) cb
 have hDy:=k9 y (by omega)
 have hkN:gM x y≤N:=by unfold gM;omega
 generalize hdd:s'+N+1=d at *
 have SP:∀j,j≤N→(N-j)*d≤N*d:=fun j _=>Nat.mul_le_mul_right _ (by omega)
 have hkk:(if (0:Int)<(x.length:Int)-(y.length:Int)+1 then(x.length:Int)-(y.length:Int)+1 else 0)=(gM x y:Int):=by unfold gM;split<;>omega
 refine W.skip ?_
 refine W.sr ?_
 simp (disch:=omega) [gw,hkk]
 refine bF [0,1,6] ?_
 refine W.row (id:=25) (emap ie (List.replicate (gM x y) 0)) (by simp;exact⟨rfl,rfl,rfl⟩) (lS _) ?_
 refine aQ [0,1,6,7] ?_
 refine W.block ?_
 obtain⟨R0,F6⟩:∃R0,R0=S1 y (gM x y) (List.replicate (gM x y) 0) x:=⟨_,rfl⟩
 have hex:exact x y=exF R0:=by rw [F6];rfl
 rw [hex]
 clear hex
 generalize wQ:gM x y=k0 at *
 refine W.a9 (fun j σ=>∃(v6:Nat) (z r:List Int) (rows:Pm.Rows) (clk:Nat),σ=⟨fa [(0,Po r),(1,Po y),(6, .own 25 v6 0 k0),(7, .int .i64 ((j:Int)-1))],rows,clk⟩ ∧
  rows 25=some ⟨v6,38,2,emap ie z⟩∧z.length=k0∧j≤k0∧S1 y j z r=R0∧Bd LL (s+(N-j)*d) (N+N) z∧Bd LL (s+(N-j)*d) (N+N) r∧Cn r) k0 ?_ ?_
 ·exact⟨_, .refl,_,List.replicate k0 0,x,_,_,rfl,by simp,by simp,by omega,F6.symm,⟨by simp;omega,fun c hc=>by rw [(List.mem_replicate.1 hc).2,iH];omega⟩,hA.mono (by omega) (by omega),ca⟩
 rintro j _ ⟨v6,z,r,rows,clk,rfl,S2,hz,hj,yR,bz,br,cr⟩
 refine aQ [0,1,6,7,30] ?_
 refine bO ?_ ?_<;>intro h
 ·have hj0:0<j:=by simp at h;omega
  obtain⟨i,rfl⟩:∃i,j=i+1:=⟨j-1,by omega⟩
  clear h
  have ei:((i+1:Nat):Int)-1=i:=by omega
  rw [ei]
  have hN1:=SP (i+1) (by omega)
  have JQ:=SP i (by omega)
  have hT:s+(N-i)*d=s+(N-(i+1))*d+s'+N+1:=by
   rw [show N-i=(N-(i+1))+1 by omega,Nat.add_mul,Nat.one_mul];omega
  have hDr:=k9 r (by have:=br.len;omega)
  have hLr:=k8 (PB.of br (by omega) (by omega)) cr
  have hlr:=iJ br
  rw [S1]at yR
  refine W.skip ?_
  refine W.pF (fun σ=>∃(z r:List Int) (rows:Pm.Rows) (clk:Nat),σ=⟨fa [(0,Po r),(1,Po y),(6, .own 25 v6 0 k0),(7, .int .i64 i)],rows,clk⟩ ∧
   rows 25=some ⟨v6,38,2,emap ie z⟩∧z.length=k0∧S1 y i z r=R0∧Bd LL (s+(N-i)*d) (N+N) z∧Bd LL (s+(N-i)*d) (N+N) r∧Cn r) ?_ ?_
  ·
   refine W.seq ?_
   refine j1 ?_
   refine cM hDr ?_
   refine c7 [0,1,6,7,39] hDy ?_
   by_cases hlen:r.length<y.length+i
   ·rw [if_pos hlen]at yR
    refine bO ?_ ?_<;>intro h
    ·refine eH ?_
     exact⟨_,aC _ [0,1,6,7],z,r,_,_,rfl,S2,hz,yR,bz.mono (by omega) (by omega),br.mono (by omega) (by omega),cr⟩
    ·exfalso;simp at h;omega
   rw [if_neg hlen]at yR
   refine bO ?_ ?_<;>intro h
   ·exfalso;simp at h;omega
   clear h
   have hE:=qO (v:=lead r) (c:=lead y) (by omega) (by omega) hly
   refine W.skip ?_
   by_cases SJ:lead r%lead y=0
   ·rw [if_pos SJ]at hE yR
    have hts:sz LL (lead r/lead y)≤s+(N-(i+1))*d:=Nat.le_trans (cQ eV (Int.natAbs_ediv_le_natAbs _ _)) hlr
    have bs:=Bd.nE hts i
    have bm:=bs.bK eV JP
    have b2:Bd LL (s+(N-i)*d) (N+N) (dJ r (bK (nE i (lead r/lead y)) y)):=(Bd.dJ eV (br.mono (s':=s+(N-(i+1))*d+s'+N) (n':=N+N) (by omega) (by omega)) (bm.mono (by omega) (by omega))).mono (by omega) (by omega)
    have f4:=yP bs JP (by omega)
    have f5:=n9 (PB.of br (by omega) (by omega)) (PB.of bm (by omega) (by omega))
    have cr2:Cn (dJ r (bK (nE i (lead r/lead y)) y)):=Cn.dJ _ _
    have bz2:=Bd.set (i:=i) (bz.mono (s':=s+(N-i)*d) (n':=N+N) (by omega) (by omega)) (Nat.le_trans hts (by omega))
    generalize dB:dJ r (bK (nE i (lead r/lead y)) y)=r2 at *
    generalize bK (nE i (lead r/lead y)) y=pm at *
    generalize lead r/lead y=tt at *
    have SR:=nP i tt
    have aeD:(nE i tt).length=i+1:=by simp [nE]
    have FX:=bA aeD
    generalize lead r=lr at *
    generalize lead y=ly at *
    refine j1 ?_
    refine cM hLr ?_
    refine cM hL ?_
    refine c7 [0,1,6,7,8,9] hE ?_
    refine aQ [0,1,6,7,8,49] ?_
    refine bO ?_ ?_<;>intro h
    ·cases h
    refine W.skip ?_
    refine W.sr ?_
    simp (disch:=omega) [gw,S2,hz]
    refine bF [0,1,6,7,8] ?_
    have e9:((i:Int)+1).toNat=i+1:=by omega
    refine W.sr ?_
    simp (disch:=omega) [gw,e9]
    refine bF [0,1,6,7,8,10] ?_
    refine W.row (id:=56) (emap ie (List.replicate (i+1) 0)) (by simp;exact⟨rfl,rfl,rfl⟩) (lS _) ?_
    refine W.sr ?_
    simp (disch:=omega) [gw,SR]
    refine bF [0,1,6,7,10] ?_
    refine W.freeze 56 (by simp) (fun K hK=>?_)
    simp [FX]
    refine hK _ ?_;clear hK K
    refine W.cA (fun K hK=>?_)
    simp (disch:=omega) [gw]
    refine cM f4 ?_
    refine cM f5 ?_
    exact hK _ ⟨_,aC _ [0,1,6,7],z.set i tt,r2,_,_,rfl,by simp,by simp [hz],yR,bz2,b2,cr2⟩
   ·rw [if_neg SJ]at hE yR
    subst yR
    refine j1 ?_
    refine cM hLr ?_
    refine cM hL ?_
    refine c7 [0,1,6,7,8,9] hE ?_
    refine aQ [0,1,6,7,8,49] ?_
    refine bO ?_ ?_<;>intro h
    ·refine aB [4,5] ?_
     refine W.ret ?_
     simp [go,exR,exF]
     rfl
    ·cases h
  rintro _ ⟨z,r,rows,clk,rfl,S2,hz,yR,bz,br,cr⟩
  refine W.cA (fun K hK=>?_);simp (disch:=omega) [gw]
  refine hK _ ⟨i,_,aC _ [0,1,6,7],by omega,v6,z,r,_,_,rfl,by simp [S2],hz,by omega,yR,bz,br,cr⟩
 ·have hj0:j=0:=by simp at h;omega
  subst hj0
  simp only [S1]at yR
  rw [←yR]
  have hN0:=SP 0 (by omega)
  have hzn:=fK (PB.of bz (by omega) (by omega))
  have hzz:=bA hz
  refine eH ?_
  refine aQ [6,68] ?_
  cases r with
  | nil =>
   refine bO ?_ ?_<;>intro h
   ·exfalso;simp at h
   refine W.skip ?_
   refine W.sr ?_
   simp (disch:=omega) [gw,S2,hzz]
   refine c7 [4,5] hzn ?_
   refine W.ret ?_
   simp [go,exR,exF]
  | cons c r =>
   refine bO ?_ ?_<;>intro h
   ·refine aB [4,5] ?_
    refine W.ret ?_
    simp [go,exR,exF]
    rfl
   ·exfalso;simp at h
theorem vW{d:Nat}{x:List Int}(h:∀c∈x,(d:Int)∣c):d∣bB x:=by
 have key:∀(l:List Int) (g:Nat),d∣g→(∀c∈l,(d:Int)∣c)→d∣l.foldl (fun g c=>Nat.gcd g c.natAbs) g:=by
  intro l
  induction l with
  | nil=>intro g hg _;exact hg
  | cons c l ih =>
   intro g hg hl
   rw [List.foldl_cons]
   exact ih _ (Nat.dvd_gcd hg (Int.ofNat_dvd_left.1 (hl c (by simp)))) fun v hv=>hl v (by simp [hv])
 exact key x 0 (Nat.dvd_zero d) h
theorem tR{x:List Int}{g:Int}(h:∀c∈x,g∣c):(x.map (i6 g)).map (· * g)=x:=by
 rw [List.map_map]
 refine(List.map_congr_left fun v hv=>?_).trans (List.map_id _)
 have h1:v%g=0:=Int.emod_eq_zero_of_dvd (h v hv)
 simp only [Function.comp_apply,i6,id_eq]
 rw [if_pos h1]
 exact Int.ediv_mul_cancel (h v hv)
theorem rO{x y:List Int}{g:Int}(hg:g≠0)(h:y.map (· * g)=x)(e:bB x=g.natAbs):bB y=1:=by
 have:=i2 g y
 rw [h,e]at this
 exact Nat.eq_of_mul_eq_mul_right (show 0<g.natAbs by omega) (by omega)
theorem dH(t:Int)(g:Int)(x:List Int):V t (x.map (· * g))=V t x*g:=by
 have:=eY (t:=t) g id x
 simp only [id_eq,List.map_id_fun]at this
 exact this
theorem S3{x y:List Int}(cx:Cn x)(cy:Cn y)(hx:x ≠ [])(hy:y ≠ []):bB (bK x y)=bB x*bB y:=by
 have gx:=cE cx hx
 have gy:=cE cy hy
 have hp:bB (bK x y)≠0:=cE (Cn.bK _ _) fun h=>by
  have:=gW cx cy (List.length_pos_iff.2 hx) (List.length_pos_iff.2 hy)
  rw [h]at this
  have h1:=List.length_pos_iff.2 hx
  have h2:=List.length_pos_iff.2 hy
  simp only [List.length_nil]at this
  omega
 obtain⟨x',UY⟩:∃x':List Int,x'.map (· * (bB x:Int))=x:=⟨_,tR (eG x)⟩
 obtain⟨y',E4⟩:∃y':List Int,y'.map (· * (bB y:Int))=y:=⟨_,tR (eG y)⟩
 have px:=rO (by omega) UY (by omega)
 have py:=rO (by omega) E4 (by omega)
 have e:bK x y=(bK x' y').map (· * ((bB x:Int)*bB y)):=by
  rw [←oC (Cn.bK _ _) (Int.mul_ne_zero (by omega) (by omega))]
  refine Cn.ext (Cn.bK _ _) (Cn.aL _ _) fun t=>?_
  have h1:=dH t (bB x) x'
  have h2:=dH t (bB y) y'
  rw [UY]at h1
  rw [E4]at h2
  rw [cK,b7,cK,h1,h2]
  grind
 rw [e,i2]at hp
 rw [e,i2,Int.natAbs_mul]
 have hd:0<bB (bK x' y'):=Nat.pos_of_mul_pos_right (Nat.pos_of_ne_zero hp)
 have hD:=JB _ (bB (bK x' y')) x' y' (Nat.le_refl _) hd (Dv.of (eG _)) (fun d _ hy=>Nat.dvd_one.1 (py▸vW hy.mem))
 have h1:bB (bK x' y')=1:=Nat.dvd_one.1 (px▸vW hD.mem)
 rw [h1,Nat.one_mul]
 simp
def i3(x:List Int):Int:=if lead x<0 then -(bB x:Int)else bB x
def nQ(x:List Int):List Int:=aG (x.map (i6 (i3 x)))
theorem kJ(x:List Int):(i3 x).natAbs=bB x:=by unfold i3;split<;>omega
theorem AO(x:List Int):∀c∈x,i3 x∣c:=fun c hc=>by
 have:=eG x c hc
 unfold i3;split
 ·exact Int.neg_dvd.2 this
 ·exact this
theorem AQ{x:List Int}(cx:Cn x)(hx:x ≠ []):(nQ x).map (· * i3 x)=x:=by
 have gx:=cE cx hx
 have h0:=kJ x
 rw [←oC (show Cn (nQ x)from Cn.cut _) (show i3 x≠0 by omega)]
 refine Cn.ext (Cn.aL _ _) cx fun t=>?_
 rw [b7,nQ,cD,←dH,tR (AO x)]
theorem M5{x:List Int}(cx:Cn x)(hx:x ≠ []):aL (nQ x) (i3 x)=x:=by
 have gx:=cE cx hx
 have h0:=kJ x
 rw [oC (show Cn (nQ x)from Cn.cut _) (show i3 x≠0 by omega)]
 exact AQ cx hx
theorem YT{x:List Int}(cx:Cn x)(hx:x ≠ []):bB (nQ x)=1:=by
 have gx:=cE cx hx
 have h0:=kJ x
 exact rO (by omega) (AQ cx hx) h0.symm
theorem S4{x:List Int}(cx:Cn x)(hx:x ≠ []):0<lead (nQ x):=by
 have gx:=cE cx hx
 have h:=AQ cx hx
 have hl:(nQ x).length=x.length:=by rw [←congrArg List.length h];simp
 have vG:=List.length_pos_iff.2 hx
 have h1:lead x=lead (nQ x)*i3 x:=by
  rw [lead,lead,hl,←gN,h]
 have wV:=dR (x:=nQ x) (Cn.cut _) (by omega)
 have hg:(0:Int)<bB x:=by omega
 unfold i3 at h1
 rcases Int.lt_trichotomy (lead (nQ x)) 0 with h2 | h2 | h2
 ·exfalso
  split at h1
  ·rename_i h3
   have:=Int.mul_pos (show (0:Int) < -lead (nQ x)by omega) hg
   rw [Int.mul_neg,←Int.neg_mul]at h1
   omega
  ·rename_i h3
   have:=Int.mul_pos (show (0:Int) < -lead (nQ x)by omega) hg
   rw [Int.neg_mul]at this
   omega
 ·exact absurd h2 wV
 ·exact h2
theorem oZ(a:RP){s n:Nat}(ha:mG a)(sa:Bd LL s n (a.map gv))(hs:s<1099511627774)(hn:n<1099511627774) :
  aZ env.P 137 [Pg a] (.eQ [I (i3 (fP a)),Po (nQ (fP a))]):=by
 have hA:Bd LL s n (fP a):=sa.cut
 have ca:Cn (fP a):=Cn.cut _
 have na:=eE a ha
 rw [show aG (a.map gv)=fP a from rfl]at na
 refine cL [(0,Pg a)] Tryz.func137 ?_
 generalize fP a=x at *
 refine aB [0,2] ?_
 refine bT [0,2] na ?_
 refine aQ [0,2,9] ?_
 refine bO ?_ ?_<;>intro h
 ·have h:x = []:=by simp at h;exact h
  subst h
  rw [show i3 ([]:List Int)=0 by decide,show nQ ([]:List Int) = []from rfl]
  refine aB [2,3] ?_
  refine W.ret ?_
  simp [go]
  exact⟨rfl,rfl⟩
 have hx:x ≠ []:=by simp at h;exact h
 clear h
 have vG:=List.length_pos_iff.2 hx
 have gx:=cE ca hx
 have Z2:=kJ x
 have hC:=qP x (PD.of hA hs hn)
 have hL:=k8 (PB.of hA (by omega) (by omega)) ca
 have hgs:=JR (s:=s) hA.sz ca hx
 have FO:sz LL (i3 x)≤s:=by
  unfold i3;split
  ·rw [nD];exact hgs
  ·exact hgs
 have hO:=D4 x (i3 x) (PD.of hA hs hn) (by omega) (by omega)
 rw [show aG (x.map (i6 (i3 x)))=nQ x from rfl]at hO
 have hN:=abm (x:=(bB x:Int)) (by show sz LL _<_;omega)
 refine W.skip ?_
 refine bT [0,2,4] hC ?_
 refine W.gK (fun σ=>∃(rows:Pm.Rows) (clk:Nat),σ=⟨fa [(0,Po x),(2, .ptr 2 0 0 0),(4, .ptr 4 1 0 0)],rows,clk⟩∧rows 2=some ⟨0,38,2,[[.bool false, .nil]]⟩∧rows 4=some ⟨1,38,2,[ie (i3 x)]⟩) ?_ ?_
 ·refine W.fW (fun σ=>∃(rows:Pm.Rows) (clk:Nat),σ=⟨fa [(0,Po x),(2, .ptr 2 0 0 0),(4, .ptr 4 1 0 0),(16, .bool (decide (lead x<0)))],rows,clk⟩∧rows 2=some ⟨0,38,2,[[.bool false, .nil]]⟩∧rows 4=some ⟨1,38,2,[ie (bB x)]⟩) (fun K hK=>?_) ?_
  ·simp (disch:=omega) [gw]
   refine cM hL ?_
   refine hK _ _ (aC _ [0,2,4,16]) ⟨_,_,rfl,?_,?_⟩<;>simp [ie]
  rintro _ ⟨rows,clk,rfl,dB,fT⟩
  refine W.Q4 (lead x<0) rfl (fun h=>?_) (fun h=>?_)
  ·rw [i3,if_pos h]
   refine W.cA (fun K hK=>?_)
   simp (disch:=omega) [gw,fT]
   refine aD hN ?_
   simp (disch:=omega) [gw,fT]
   exact hK _ ⟨_,aC _ [0,2,4],_,_,rfl,by simp [dB],by simp⟩
  ·rw [i3,if_neg h]
   refine W.skip ?_
   exact⟨_,aC _ [0,2,4],_,_,rfl,dB,fT⟩
 rintro _ ⟨rows,clk,rfl,dB,fT⟩
 generalize i3 x=c at *
 generalize nQ x=p at *
 refine W.sd ?_
 simp (disch:=omega) [gw,fT]
 refine aD hO ?_
 simp (disch:=omega) [gw,dB,fT]
 refine bF [2,3] ?_
 exact cV
abbrev qd(x:List Int)(D:Int):List Rat:=x.map fun v=>dA v D
theorem dS{v D:Int}(h:D≠0):dA v D=(v:Rat)/(D:Rat):=by rw [dA,if_neg h,Rat.divInt_eq_div]
theorem eP{D:Int}(h:D≠0):(D:Rat)≠0:=fun h2=>h (by exact_mod_cast h2)
theorem qQ{D:Int}(h:D≠0):dA 0 D=0:=by rw [dS h];simp [Rat.div_def]
theorem sM{v D:Int}(h:D≠0):dA v D=0↔v=0:=by
 constructor
 ·intro h2
  rw [dS h]at h2
  have h3:=eP h
  have:(v:Rat)=0:=by
   have h4:(v:Rat)/(D:Rat)*D=0:=by rw [h2];grind
   rw [Rat.div_mul_cancel h3]at h4
   exact h4
  exact_mod_cast this
 ·rintro rfl;exact qQ h
theorem JU{v D l:Int}(h:D≠0)(hl:l≠0):dA (v*l) (D*l)=dA v D:=by
 rw [dS h,dS (Int.mul_ne_zero h hl),Rat.intCast_mul,Rat.intCast_mul]
 have h1:=eP h
 have h2:=eP hl
 grind
theorem YU{v w D:Int}(h:D≠0):dA v D+dA w D=dA (v+w) D:=by
 rw [dS h,dS h,dS h,Rat.intCast_add]
 have h1:=eP h
 grind
theorem JV{v D:Int}(h:D≠0):dA v D*(-1)=dA (-v) D:=by
 rw [dS h,dS h,Rat.intCast_neg]
 have h1:=eP h
 grind
theorem S5{v w D:Int}(h:D≠0):(w:Rat)*dA v D=dA (w*v) D:=by
 rw [dS h,dS h,Rat.intCast_mul]
 have h1:=eP h
 grind
theorem YV{v D l:Int}(h:D≠0)(hl:l≠0):dA v D/(l:Rat)=dA v (D*l):=by
 rw [dS h,dS (Int.mul_ne_zero h hl),Rat.intCast_mul]
 have h1:=eP h
 have h2:=eP hl
 grind
theorem qR{D:Int}(h:D≠0):∀x:List Int,j7 (qd x D)=qd (aG x) D
 | []=>rfl
 | a::x=>by
  have ih:=qR h x
  simp only [qd,List.map_cons]at ih ⊢
  rw [j7,ih,aG]
  by_cases h1:aG x = []∧a=0
  ·simp [h1,qQ h]
  ·rw [if_neg h1,if_neg (by simpa [sM h]using h1)];simp
theorem AR{D:Int}(h:D≠0)(x:List Int)(k:Nat):nth (qd x D) k=dA (nth x k) D:=tI (f:=fun v=>dA v D) (qQ h) x k
theorem YW{D:Int}(h:D≠0)(x y:List Int):SB (qd x D) (qd y D)=qd (iP x y) D:=by
 rw [SB,iP,←qR h]
 congr 1
 simp only [qd,List.length_map,List.map_map]
 congr 1
 funext k
 simp only [Function.comp_apply]
 rw [show nth (List.map (fun v=>dA v D) x) k=_ from AR h x k,show nth (List.map (fun v=>dA v D) y) k=_ from AR h y k,YU h]
theorem YX{D:Int}(h:D≠0)(x:List Int):iM (qd x D) (-1)=qd (fC x) D:=by
 rw [iM,fC,←qR h]
 congr 1
 simp only [qd,List.map_map]
 congr 1
 funext k
 simp only [Function.comp_apply]
 exact JV h
theorem M6{D:Int}(h:D≠0)(y:List Int)(v:Int):iM (qs y) (dA v D)=qd (aL y v) D:=by
 rw [iM,aL,←qR h]
 congr 1
 simp only [qd,qs,List.map_map]
 congr 1
 funext k
 simp only [Function.comp_apply]
 exact S5 h
theorem HO{D l:Int}(h:D≠0)(hl:l≠0)(x:List Int):qd (x.map (· * l)) (D*l)=qd x D:=by
 simp only [qd,List.map_map]
 congr 1
 funext k
 simp only [Function.comp_apply]
 exact JU h hl
theorem AS(x:List Int):qd x 1=qs x:=by
 simp only [qd,qs,i5]
theorem pO{v D:Int}{k:Nat}(h:D≠0)(hv:sz 2 v≤k)(hD:sz 2 D≤k):ZR k (dA v D):=by
 refine⟨Nat.le_trans (cQ (by decide) ?_) hv,Nat.le_trans (cQ (by decide) ?_) hD⟩
 ·rw [tN _ _ h]
  refine Nat.le_trans (Int.natAbs_ediv_le_natAbs _ _) ?_
  split<;>simp
 ·rw [tO _ _ h]
  refine Nat.le_trans (Int.natAbs_ediv_le_natAbs _ _) ?_
  split<;>simp
theorem HP{x:List Int}{D:Int}{k n:Nat}(h:D≠0)(hx:Bd 2 k n x)(hD:sz 2 D≤k)(hk:k≤YY)(hn:n<1099511627776):MM (qd x D):=⟨fun q hq=>by
 simp only [List.mem_map]at hq
 obtain⟨v,hv,rfl⟩:=hq
 exact pO h (Nat.le_trans (hx.sz v hv) hk) (Nat.le_trans hD hk),by have:=hx.len;simp;omega⟩
structure DS where
 Q:List Int
 r:List Int
 D:Int
def dst(y:List Int)(σ:DS):DS:=⟨(σ.Q.map (· * lead y)).set (σ.r.length-y.length) (lead σ.r),rC y (lead y) (lead σ.r) (σ.r.length-y.length) σ.r,σ.D*lead y⟩
def M7(y:List Int):Nat→DS→DS
 | 0,σ=>σ
 | n+1,σ=>if σ.r.length<y.length then σ else M7 y n (dst y σ)
def S6(x y:List Int):DS:=M7 y (x.length+1) ⟨List.replicate (gM x y) 0,x,1⟩
theorem AU{y:List Int}{σ:DS}(hy:0<y.length)(h:y.length≤σ.r.length):(dst y σ).r.length<σ.r.length:=by
 have h1:=tK (b:=y) (r:=σ.r) (i:=σ.r.length-y.length) hy (by omega)
 rw [show qB y σ.r (σ.r.length-y.length)=lead σ.r from by rw [qB,if_pos (by omega)]]at h1
 show(rC y (lead y) (lead σ.r) (σ.r.length-y.length) σ.r).length<_
 omega
theorem YZ{y:List Int}{σ:DS}(h:σ.r.length<y.length):∀n,M7 y n σ=σ
 | 0=>rfl
 | n+1=>by rw [M7,if_pos h]
structure pP(x y:List Int)(σ:DS):Prop where
 v:∀t,σ.D*V t x=V t σ.Q*V t y+V t σ.r
 z:∀j,j+y.length≤σ.r.length→nth σ.Q j=0
 c:Cn σ.r
 d:σ.D≠0
 q:σ.r.length+1≤σ.Q.length+y.length∨σ.r.length<y.length
theorem pP.step{x y:List Int}{σ:DS}(cy:Cn y)(hy:0<y.length)(h:y.length≤σ.r.length)(hI:pP x y σ):pP x y (dst y σ):=by
 have hl:=dR cy hy
 have jH:=AU hy h
 have hq:=hI.q.resolve_right (by omega)
 have hk:σ.r.length-y.length<(σ.Q.map (· * lead y)).length:=by simp;omega
 have h1:=tK (b:=y) (r:=σ.r) (i:=σ.r.length-y.length) hy (by omega)
 rw [show qB y σ.r (σ.r.length-y.length)=lead σ.r from by rw [qB,if_pos (by omega)]]at h1
 refine⟨fun t=>?_,fun j hj=>?_,Cn.dJ _ _,Int.mul_ne_zero hI.d hl,?_⟩
 ·have h2:=hI.v t
  have h3:=yB (b:=t) (x:=lead σ.r) hk
  have h4:nth (σ.Q.map (· * lead y)) (σ.r.length-y.length)=0:=by
   rw [gN,hI.z _ (by omega)];simp
  show σ.D*lead y*V t x=V t ((σ.Q.map (· * lead y)).set (σ.r.length-y.length) (lead σ.r))*V t y+V t (rC y (lead y) (lead σ.r) (σ.r.length-y.length) σ.r)
  rw [h3,h4,dH,rC,fS,cK,kX,b7]
  have h5:σ.D*lead y*V t x=lead y*(σ.D*V t x):=by grind
  rw [h5,h2];grind
 ·have hj:j+y.length≤(rC y (lead y) (lead σ.r) (σ.r.length-y.length) σ.r).length:=hj
  show nth ((σ.Q.map (· * lead y)).set (σ.r.length-y.length) (lead σ.r)) j=0
  rw [eM (by omega),gN,hI.z _ (by omega)];simp
 ·left
  have:(dst y σ).Q.length=σ.Q.length:=by simp [dst]
  omega
theorem pP.M7{x y:List Int}(cy:Cn y)(hy:0<y.length):∀(n:Nat) (σ:DS),σ.r.length<n→pP x y σ→pP x y (M7 y n σ)∧(Proofs.YtiobceocpabjdaaGreat.M7 y n σ).r.length<y.length
 | 0,σ,h,_=>by omega
 | n+1,σ,h,hI=>by
  rw [Proofs.YtiobceocpabjdaaGreat.M7]
  split
  ·rename_i h1;exact⟨hI,h1⟩
  ·rename_i h1
   exact pP.M7 cy hy n _ (by have:=AU (σ:=σ) hy (by omega);omega) (hI.step cy hy (by omega))
theorem pP.start{x y:List Int}(cx:Cn x):pP x y ⟨List.replicate (gM x y) 0,x,1⟩:=by
 refine⟨fun t=>?_,fun j hj=>?_,cx,show(1:Int)≠0 by decide,?_⟩
 ·simp [l9]
 ·rcases Nat.lt_or_ge j (gM x y)with h | h
  ·rw [dP (by simpa using h)];simp
  ·rw [gL (by simpa using h)];rfl
 ·simp only [gM,List.length_replicate];omega
theorem Y1{x y:List Int}(cx:Cn x)(cy:Cn y)(hy:0<y.length):pP x y (S6 x y)∧(S6 x y).r.length<y.length:=pP.M7 cy hy _ _ (Nat.lt_succ_self _) (pP.start cx)
@[simp] theorem akG{l:List Rat}{i:Nat}{q:Rat}:fO (emap re l) i 0 [aX aO (a5 DD q.num.natAbs), .bool (decide (q.num<0)),aX aO (a5 DD q.den), .bool false]=emap re (l.set i q):=tL (n:=4) (fun _=>rfl)
theorem vX(x:List Int):emap re (qs x)=emap ri x:=by simp only [emap,qs,List.map_map,Function.comp_def,fJ]
theorem S7(a b n:List Rat)(ha:MM a)(hb:MM b)(hn:iM b (-1)=n)(hn2:MM n):aZ env.P 266 [PP a,PP b] (PP (SB a n)):=by
 have h1:=DO b hb
 rw [hn]at h1
 have h2:=SC a n ha hn2
 refine cL [(0,PP a),(1,PP b)] Tryz.func266 ?_
 refine aB [0,1] ?_
 refine j1 ?_
 refine cM h1 ?_
 refine c7 [4] h2 ?_
 exact cV
end Go.Proofs.YtiobceocpabjdaaGreat
