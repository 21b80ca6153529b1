import Derived.Test.YtiobceocpabjdaaGreatEak
import Derived.Test.YtiobceocpabjdaaGreatEal
import Derived.Test.YtiobceocpabjdaaGreatEan
set_option linter.unusedSimpArgs false
set_option linter.unusedVariables false
namespace Go.Proofs.YtiobceocpabjdaaGreat
open Go Pm
def rz(a c:ZX):ZX:=ZX.of (rq c.l (a.l.length+1) a.l)
theorem sK{a c:ZX}(hc:c≠0):(rz a c).l=rq c.l (a.l.length+1) a.l∧ZX.N (rz a c)<ZX.N c ∧ ∃(m:Int) (q:ZX),m≠0∧ZX.K m*a=q*c+ZX.K 1*rz a c:=by
 obtain⟨h1,h2,m,q,hm,h3⟩:=T9 c.c (ZX.aE.1 hc) (a.l.length+1) a.l a.c (by omega)
 have e:(rz a c).l=rq c.l (a.l.length+1) a.l:=h1
 refine⟨e,by show(rz a c).l.length<c.l.length;rw [e];exact h2,m,ZX.of q,hm,ZX.ext fun t=>?_⟩
 rw [ZX.dZ,ZX.vV,ZX.lG,ZX.dZ,ZX.dZ,ZX.vV,ZX.XO,e,h3 t];omega
theorem UA{s n:Nat}{a c:ZX}(ha:BZ s n a)(hb:BZ s n c)(hc:c≠0):BZ (s+(ZX.N a+1-ZX.N c)*(s+n+1)) n (rz a c):=by
 have h:=aiO hb (ZX.aE.1 hc) (a.l.length+1) (ZX.N a+1-ZX.N c) s a.l ha (by show ZX.N a+1≤ZX.N c+_;omega)
 rw [←(sK hc).1]at h
 exact h
theorem XW{s n C:Nat}{a c:ZX}(b:BZ s n a)(b':BZ s n c)(hP:zO C n s (nf a) (nf c))(hn:n≤20)(hC:C≤4500000000)(h1:1≤s):aH env.P 203 [PI a.l,PI c.l] (PI (gz a c).l):=by
 have hs:=hP.le
 have p1:=mH b h1 (by show s≤137438953472;omega) (by omega)
 have p2:=mH b' h1 (by show s≤137438953472;omega) (by omega)
 have b1:=b.nf
 have b2:=b'.nf
 have hg:gz (nf a) (nf c)=gz a c:=by rw [T1,QL]
 have hx1:=TZ a
 rw [←hg]
 generalize oF:nf a=x0 at *
 generalize PJ:nf c=y0 at *
 generalize hG:gz x0 y0=G at *
 refine cA [(0,PI a.l),(1,PI c.l)] Tryz.func203 ?_
 generalize a.l=al at *
 generalize c.l=cl at *
 refine aA [0,1] ?_
 refine j4 ?_
 refine b8 p1 ?_
 refine cI [0,1] p2 ?_
 refine W.seq ?_
 refine W.block ?_
 refine W.a8 (fun k σ=>∃(x y:ZX) (s:Nat) (rows:Pm.Rows) (clk:Nat),σ=⟨fa [(0,PI x.l),(1,PI y.l)],rows,clk⟩∧BZ s n x∧BZ s n y∧1≤s∧zO C n s x y∧gz x y=G∧nf x=x∧nf y=y∧k=ZX.N y) (ZX.N y0) ?_ ?_
 ·exact⟨_, .refl,x0,y0,s,_,_,rfl,b1,b2,h1,hP,hG,hx1,by rw [←PJ,TZ],rfl⟩
 rintro k _ ⟨x,y,s,rows,clk,rfl,bx,nR,h1,hp,hgz,hnx,hny,rfl⟩
 have hs:=hp.le
 have hlx:=bx.len
 have hly:=nR.len
 refine aM [0,1,11] ?_
 refine bP ?_ ?_<;>intro h
 ·have hy:y≠0:=ZX.aE.2 (by show 0<y.l.length;simp at h;omega)
  obtain⟨ND,hN,m,q,hm,e⟩:=sK (a:=x) hy
  have br:=UA bx nR hy
  have hmul:(x.l.length+1-y.l.length+1)*(s+n+1)≤22*4500000000:=Nat.mul_le_mul (by omega) (by omega)
  have aiP:(ZX.N x+1-ZX.N y)*(s+n+1)≤22*4500000000:=Nat.mul_le_mul (by have:ZX.N x=x.l.length:=rfl;omega) (by omega)
  have hR:=FN (s:=s) (s':=s) (N:=n) bx nR x.c y.c (ZX.aE.1 hy) (by omega) (by show _<137438953472;omega)
  rw [←ND]at hR
  have pr:=mH br (by omega) (by show _≤137438953472;omega) (by omega)
  have D5:ZX.N (nf (rz x y))<ZX.N y:=by rw [vX];exact hN
  have WR:=hp.step D5
  have tF:=H0 hm (show (1:Int)≠0 by decide) e
  rw [←QL y (rz x y)]at tF
  have br2:=br.nf
  have S2:=TZ (rz x y)
  generalize (rz x y).l=rl at *
  generalize nf (rz x y)=r2 at *
  refine W.skip ?_
  refine W.block ?_
  refine W.b9 (fun K hK=>?_)
  simp (disch:=omega) [gw]
  refine b8 hR ?_
  refine b8 pr ?_
  refine hK _ ⟨ZX.N r2,_,aC _ [0,1],D5,y,r2,_,_,_,rfl,nR.mono (by omega) (Nat.le_refl _),br2,by omega,WR,by rw [←tF,hgz],hny,S2,rfl⟩
 ·have hy:y=0:=by
   refine Classical.byContradiction fun h0=>?_
   have h1:=ZX.aE.1 h0
   have h2:ZX.N y=y.l.length:=rfl
   simp at h;rw [h2,h]at h1;simp at h1
  subst hy
  rw [sH,hnx]at hgz
  subst hgz
  refine eJ ?_
  refine aA [4] ?_
  exact cP
theorem XY{h h' n:Nat}{a c:ZX}(b:BZ h n a)(b':BZ h' n c)(h1:1≤h)(ha:Nf a)(hc:Nf c)(hd:ZX.dv c a)(hB:h+(n+1)*(h'+n+2)+h'+n+n+10<137438953472):aH env.P 256 [PI a.l,PI c.l] (.fG [PI (qz a c).l,PI []]):=by
 obtain⟨hw,e⟩:=m9 ha hc hd
 have hD:=LX a.l c.l b b' a.c c.c (ZX.aE.1 hc.ne) h1 hB
 obtain⟨e1,e2⟩:=acd (q:=(qz a c).l) a.c c.c (ZX.aE.1 hc.ne) (qz a c).c fun t=>by
  conv=>lhs;rw [e]
  rw [ZX.dZ]
 rw [e1,e2,oI,oI,oI]at hD
 exact hD
def zq(a:ZX):List PV:=[PI a.l]
@[simp] theorem axB{a:ZX}:zq a = [PI a.l]:=rfl
@[simp] theorem aoL{l:List ZX}:bM 1 (emap zq l)=True:=cN fun _=>rfl
@[simp] theorem amm{v e n:Nat}{l:List ZX}:cX (some ⟨v,e,n,emap zq l⟩)=True:=b7 fun _=>rfl
@[simp] theorem axC{l:List ZX}{a:ZX}:emap zq l ++ [[aJ ri a.l]]=emap zq (l ++ [a]):=by simp [emap]
theorem wR.qd{s n:Nat}{a c d:ZX}(h:wR s n a)(h1:1≤s)(ha:Nf a)(hc:Nf c)(hd:Nf d)(hca:ZX.dv c a)(hdc:ZX.dv d c):aH env.P 256 [PI c.l,PI d.l] (.fG [PI (qz c d).l,PI []])∧aH env.P 78 [PI (qz c d).l] (PI (qz c d).l):=by
 have b:=h.dv ha hc hca
 have b2:=h.dv ha hd (hdc.trans hca)
 have hq:=h.y6
 have hn:=h.hn
 obtain⟨hw,e⟩:=m9 hc hd hdc
 have bq:=h.dv ha hw ((acs hc hd hdc).trans hca)
 have hm:(n+1)*(qb s n+n+2)≤21*4500000000:=Nat.mul_le_mul (by omega) (by omega)
 have amn:1≤qb s n:=by unfold qb;omega
 refine⟨XY b b2 amn hc hd hdc (by omega),?_⟩
 have:=mH bq amn (by show _≤137438953472;omega) (by omega)
 rwa [hw.nfe]at this
theorem wR.qgd{s n:Nat}{a c:ZX}(h:wR s n a)(ha:Nf a)(hc:Nf c)(hd:ZX.dv c a):aH env.P 160 [PI c.l] (PI (ZX.bS c).l)∧aH env.P 203 [PI c.l,PI (ZX.bS c).l] (PI (gd c).l):=by
 have b:=h.dv ha hc hd
 have b2:=b.bS (by have:=h.hn;omega)
 have hq:=h.y6
 have hn:=h.hn
 have amn:1≤qb s n:=by unfold qb;omega
 refine⟨vZ b (by show _≤137438953472;omega) (by omega),XW (s:=qb s n+5) (b.mono (by omega) (Nat.le_refl _)) b2 ?_ h.hn (C:=4500000000) (Nat.le_refl _) (by omega)⟩
 have hN:=ZX.mG c
 have h1:ZX.N c≤n:=b.N
 have h2:=ZX.aE.1 hc.ne
 unfold zO
 rw [vX,vX,if_pos (by omega)]
 refine Nat.le_trans (Nat.mul_le_mul (show qb s n+5+n+1≤qb s n+n+6 by omega) (Nat.pow_le_pow_right (by decide) h1)) h.hC
theorem H4{s n:Nat}{a:ZX}(h:wR s n a)(h1:1≤s):aH env.P 207 [PI a.l] (aJ zq (fl (nf a))):=by
 have hqb:=h.y6
 have hn:=h.hn
 have uK:s≤4500000000:=by unfold qb at hqb;omega
 have p1:=mH h.bz h1 (by show s≤137438953472;omega) (by omega)
 have hA:=h.nfz
 have hNa:ZX.N a=a.l.length:=rfl
 have hNN:=vX a
 have hle:=aiM (nf a)
 have hNA:ZX.N (nf a)≤n:=hA.bz.N
 refine cA [(0,PI a.l)] Tryz.func207 ?_
 refine aA [0] ?_
 refine aM [0,2,15] ?_
 refine bP ?_ ?_<;>intro h
 ·have h2:ZX.N a≤1:=by simp at h;omega
  have h3:fl (nf a) = []:=by unfold fl;rw [MB (by rw [hNN];exact h2)];rfl
  rw [h3]
  refine aA [2] ?_
  refine W.KB 2 (aJ zq []) (by simp) rfl (fun K hK=>?_)
  refine W.lw [2] hK ?_;clear hK K;simp
  exact cP
 have h2:2≤ZX.N a:=by simp at h;omega
 have nA:Nf (nf a):=lH (ZX.aE.2 (by omega))
 clear h
 generalize nf a=A at *
 obtain⟨m,hm⟩:∃m,m=nl A:=⟨_,rfl⟩
 have hfl:fl A=(List.range m).map (CQ A):=by rw [hm];rfl
 rw [hfl]
 refine W.skip ?_
 refine aY [0] p1 ?_
 refine aA [0,3] ?_
 refine W.TJ 1 rfl rfl (fun K hK=>?_)
 simp (disch:=omega) [gw]
 refine W.lw [3,4] hK ?_;clear hK K;simp
 refine W.seq ?_
 refine W.block ?_
 refine W.a8 (fun k σ=>∃(i ver:Nat) (rows:Pm.Rows) (clk:Nat),σ=⟨fa [(3, .nil),(4, .own 19 ver 0 (i+1))],rows,clk⟩∧rows 19=some ⟨ver,46,1,emap zq ((List.range (i+1)).map (gs A))⟩∧i+k=m) m ?_ ?_
 ·exact⟨_, .refl,0,_,_,_,rfl,by simp [emap,gs],by omega⟩
 rintro k _ ⟨i,ver,rows,clk,rfl,hr,KX⟩
 have wQ:((List.range (i+1)).map (gs A)).length=i+1:=by simp
 have CW:nth ((List.range (i+1)).map (gs A)) i=gs A i:=nT _ (by omega)
 have er:(List.range (i+1+1)).map (gs A)=(List.range (i+1)).map (gs A) ++ [gs A (i+1)]:=by rw [List.range_succ,List.map_append];rfl
 have e1:((i:Int)+1-1).toNat=i:=by omega
 generalize hL:(List.range (i+1)).map (gs A)=L at *
 refine W.seq ?_
 refine W.sr ?_
 simp (disch:=omega) [gw,hr,wQ,CW]
 refine bO [3,4,27] ?_
 refine bP ?_ ?_<;>intro h
 ·have h3:2≤ZX.N (gs A i):=by
   have h4:ZX.N (gs A i)=(gs A i).l.length:=rfl
   simp at h;omega
  clear h
  have hi:i<nl A:=by
   rcases Nat.lt_or_ge i (nl A)with h4 | h4
   ·exact h4
   ·have h5:=(vY A).1
    rw [show nl A=i by omega]at h5;omega
  obtain⟨t1,t2⟩:=hA.qgd nA (nB nA i) (L9 A i)
  rw [show gd (gs A i)=gs A (i+1)from rfl]at t2
  generalize hg:(gs A i).l=g at *
  generalize tF:gs A (i+1)=g2 at *
  refine W.skip ?_
  refine W.block ?_
  refine W.sr ?_
  simp (disch:=omega) [gw,hr,wQ,CW,hg]
  refine bO [3,4,5] ?_
  refine W.b9 (fun K hK=>?_)
  simp (disch:=omega) [gw]
  refine b8 t1 ?_
  refine aD t2 ?_
  simp (disch:=omega) [gw,hr,wQ]
  refine hK _ ⟨k-1,_,aC _ [3,4],by omega,i+1,_,_,_,rfl,by rw [er];simp,by omega⟩
 have h3:ZX.N (gs A i)≤1:=by
  have h4:ZX.N (gs A i)=(gs A i).l.length:=rfl
  simp at h;omega
 clear h
 have hi:i=m:=by
  rcases Nat.lt_or_ge i (nl A)with h4 | h4
  ·have:=(vY A).2 i h4;omega
  ·omega
 subst hi
 have hR:L ++ [(1:ZX)]=(List.range (i+2)).map (gs A):=by
  rw [show(1:ZX)=gs A (i+1)by rw [hm,acn nA 1]]
  exact er.symm
 have jS:=MD
 generalize hz:(1:ZX)=z1 at *
 refine eJ ?_
 refine j4 ?_
 refine aD jS ?_
 simp (disch:=omega) [gw,hr,wQ]
 refine bO [3,4] ?_
 clear hr CW e1 er hL wQ
 have hRl:(L ++ [z1]).length=i+2:=by rw [hR];simp
 have CW:∀j,j<i+2→nth (L ++ [z1]) j=gs A j:=fun j hj=>by rw [hR];exact nT _ hj
 generalize L ++ [z1]=R at *
 have hRt:List.take (i+2) R=R:=List.take_of_length_le (by omega)
 refine W.freeze 19 (by simp) (fun K hK=>?_)
 simp [hRt]
 refine hK _ ?_;clear hK K
 refine W.nil 3 3 46 1 (by simp) (by decide) (fun K hK=>?_)
 refine W.lw [3,4] hK ?_;clear hK K;simp
 refine aM [3,4,6] ?_
 refine W.block ?_
 refine W.a8 (fun k σ=>∃(j ver:Nat) (rows:Pm.Rows) (clk:Nat),σ=⟨fa [(3, .own 3 ver 0 j),(4,aJ zq R),(6, .int .i64 j)],rows,clk⟩∧rows 3=some ⟨ver,46,1,emap zq ((List.range j).map (CQ A))⟩∧j+k=i) i ?_ ?_
 ·exact⟨_, .refl,0,_,_,_,rfl,by simp [emap],by omega⟩
 clear rows clk ver KX k
 rintro k _ ⟨j,ver,rows,clk,rfl,hr,hjk⟩
 have hjl:((List.range j).map (CQ A)).length=j:=by simp
 refine W.seq ?_
 refine W.sr ?_
 simp (disch:=omega) [gw,hRl]
 refine bO [3,4,6,50] ?_
 refine bP ?_ ?_<;>intro h
 ·have hj:j<i:=by simp at h;omega
  clear h
  have er:(List.range (j+1)).map (CQ A)=(List.range j).map (CQ A) ++ [CQ A j]:=by rw [List.range_succ,List.map_append];rfl
  have n0:=CW j (by omega)
  have n1:=CW (j+1) (by omega)
  have n2:=CW (j+2) (by omega)
  have l0:j<R.length:=by omega
  have l1:j+1<R.length:=by omega
  have l2:j+2<R.length:=by omega
  have e1:((j:Int)+1).toNat=j+1:=by omega
  have e2:((j:Int)+2).toNat=j+2:=by omega
  obtain⟨d1,q1⟩:=hA.qd h1 nA (nB nA j) (nB nA (j+1)) (L9 A j) (y4 _)
  obtain⟨d2,q2⟩:=hA.qd h1 nA (nB nA (j+1)) (nB nA (j+2)) (L9 A (j+1)) (y4 _)
  obtain⟨d3,q3⟩:=hA.qd h1 nA (iV nA j).1 (iV nA (j+1)).1 (H3 nA j) (T5 nA j)
  rw [show qz (gs A j) (gs A (j+1))=wz A j from rfl]at d1 q1
  rw [show qz (gs A (j+1)) (gs A (j+2))=wz A (j+1)from rfl]at d2 q2
  rw [show qz (wz A j) (wz A (j+1))=CQ A j from rfl]at d3 q3
  have h0:(nth R j).l=(gs A j).l:=by rw [n0]
  have YU:(nth R (j+1)).l=(gs A (j+1)).l:=by rw [n1]
  have h2':(nth R (j+2)).l=(gs A (j+2)).l:=by rw [n2]
  generalize (gs A j).l=g0 at *
  generalize (gs A (j+1)).l=g1 at *
  generalize (gs A (j+2)).l=g2 at *
  generalize (wz A j).l=w0 at *
  generalize (wz A (j+1)).l=w1 at *
  generalize hF:CQ A j=F at *
  generalize hac:(List.range j).map (CQ A)=acc at *
  refine iT ?_
  refine W.sd ?_
  simp (disch:=omega) [gw,h0,YU,e1]
  refine cI [3,4,6,7] d1 ?_
  refine W.sd ?_
  simp (disch:=omega) [gw,YU,h2',e1,e2]
  refine cI [3,4,6,7,9] d2 ?_
  refine j4 ?_
  refine b8 q1 ?_
  refine b8 q2 ?_
  refine cI [3,4,6,11] d3 ?_
  refine W.b9 (fun K hK=>?_)
  simp (disch:=omega) [gw]
  refine aD q3 ?_
  simp (disch:=omega) [gw,hr,hjl]
  refine W.lw [3,4,6] hK ?_;clear hK K;simp
  refine W.b9 (fun K hK=>?_);simp (disch:=omega) [gw]
  refine hK _ ⟨k-1,_,aC _ [3,4,6],by omega,j+1,_,_,_,rfl,by rw [er];simp,by omega⟩
 ·have hj:j=i:=by simp at h;omega
  subst hj
  generalize (List.range j).map (CQ A)=acc at *
  have DW:List.take j acc=acc:=List.take_of_length_le (by omega)
  refine eJ ?_
  refine W.sr ?_
  simp (disch:=omega) [gw,hr,DW]
  refine bO [2] ?_
  refine W.ret ?_
  simp [go,hr,DW]
theorem wB{s n:Nat}{a:ZX}(h:wR s n a)(h1:1≤s):aH env.P 158 [PI a.l] (PI (sq a).l):=by
 have hqb:=h.y6
 have hn:=h.hn
 have hF:=H4 h h1
 have hA:=h.nfz
 have hNa:ZX.N a=a.l.length:=rfl
 have hsq:ZX.N a≠0→sq a=pf (nf a) (fun _=>true) (nl (nf a)):=fun h0=>by
  have nA:=lH (ZX.aE.2 (Nat.pos_of_ne_zero h0))
  unfold sq
  split
  ·rename_i h2
   rw [MB (by rw [vX];exact h2),nA.N1 (by rw [vX];exact h2)];rfl
  ·rw [ame nA]
 have hNf:ZX.N a≠0→Nf (nf a):=fun h0=>lH (ZX.aE.2 (Nat.pos_of_ne_zero h0))
 have hle:=aiM (nf a)
 have hNA:ZX.N (nf a)≤n:=hA.bz.N
 have asw:ZX.N a=0→(sq a).l = []:=fun h0=>by
  have h2:a=0:=Classical.byContradiction fun h3=>by have:=ZX.aE.1 h3;omega
  unfold sq
  rw [if_pos (by omega),h2,lP];rfl
 generalize nf a=A at *
 refine cA [(0,PI a.l)] Tryz.func158 ?_
 refine aA [0] ?_
 refine aM [0,2,8] ?_
 refine W.cond ⟨_,rfl,fun h3=>?_,fun h3=>?_⟩
 ·have h0:ZX.N a=0:=by rw [hNa];simp at h3;rw [h3];rfl
  rw [asw h0]
  refine aA [2] ?_
  refine W.KB 2 (PI []) (by simp) rfl (fun K hK=>?_)
  refine W.lw [2] hK ?_;clear hK K;simp
  exact cP
 have h0:ZX.N a≠0:=by rw [hNa];simp at h3;intro h4;exact h3 (List.eq_nil_of_length_eq_zero h4)
 have nA:=hNf h0
 rw [hsq h0]
 clear h3 hsq asw hNf
 have hmul:∀i,aH env.P 199 [PI (pf A (fun _=>true) i).l,PI (CQ A i).l] (PI (pf A (fun _=>true) (i+1)).l):=fun i=>by
  have b1:=hA.dv nA (FM nA (fun _=>true) i) (agl nA _ i)
  have b2:=hA.dv nA (H2 nA i).1 (agk nA i)
  exact W9 _ _ _ _ _ _ b1 b2 (by show _<137438953472;omega)
 obtain⟨m,hm⟩:∃m,m=nl A:=⟨_,rfl⟩
 have hfl:fl A=(List.range m).map (CQ A):=by rw [hm];rfl
 rw [←hm]at hle ⊢
 rw [hfl]at hF
 have N8:((List.range m).map (CQ A)).length=m:=by simp
 have CW:∀i,i<m→(nth ((List.range m).map (CQ A)) i).l=(CQ A i).l:=fun i hi=>by rw [nT _ hi]
 generalize (List.range m).map (CQ A)=L at *
 have h1:=MD
 rw [show(1:ZX)=pf A (fun _=>true) 0 from rfl]at h1
 generalize hg:pf A (fun _=>true) 0=g0 at *
 refine W.skip ?_
 refine aY [0,3] h1 ?_
 refine aY [3,4] hF ?_
 refine W.seq ?_
 refine W.sr ?_
 simp (disch:=omega) [gw,N8]
 refine bO [3,4,14,15] ?_
 subst hg
 refine W.block ?_
 refine W.a8 (fun k σ=>∃(i:Nat) (rows:Pm.Rows) (clk:Nat),σ=⟨fa [(3,PI (pf A (fun _=>true) i).l),(4,aJ zq L),(14, .int .i64 m),(15, .int .i64 i)],rows,clk⟩∧i+k=m) m ?_ ?_
 ·exact⟨_, .refl,0,_,_,rfl,by omega⟩
 rintro k _ ⟨i,rows,clk,rfl,KX⟩
 refine cC [3,4,14,15,16] ?_
 refine bP ?_ ?_<;>intro h
 ·have hi:i<m:=by simp at h;omega
  have hiL:i<L.length:=by omega
  have ht:=hmul i
  have n3:=CW i hi
  generalize tF:pf A (fun _=>true) (i+1)=g2 at *
  generalize pf A (fun _=>true) i=g at *
  refine iT ?_
  refine aA [3,4,5,14,15] ?_
  refine W.b9 (fun K hK=>?_)
  simp (disch:=omega) [gw,n3]
  refine b8 ht ?_
  refine W.lw [3,4,14,15] hK ?_;clear hK K;simp
  subst tF
  refine W.b9 (fun K hK=>?_);simp (disch:=omega) [gw]
  refine hK _ ⟨k-1,_,aC _ [3,4,14,15],by omega,i+1,_,_,rfl,by omega⟩
 ·have hi:i=m:=by simp at h;omega
  subst hi
  refine eJ ?_
  refine aA [2] ?_
  exact cP
abbrev R2(n d:Int):PV:=.ag [aJ aF (aU DD n.natAbs), .bool (decide (n<0)),aJ aF (aU DD d.natAbs), .bool (decide (d<0))]
theorem gR(q:Rat):RR q=R2 q.num q.den:=by
 have:decide ((q.den:Int)<0)=false:=decide_eq_false (by omega)
 show PV.ag (re q)=PV.ag _
 rw [this];rfl
def hm(n d:Int):List Int→Int × Int
 | []=>(0,1)
 | a::l=>((hm n d l).1*n+a*(hm n d l).2,(hm n d l).2*d)
def H5(x:List Int)(n d:Int):Int:=(hm n d x).1.sign
theorem aiQ{s k u:Nat}{n d:Int}(hn:sz 2 n≤u)(hd:sz 2 d≤u)(hu:1≤u):∀ {x:List Int},Bd 2 s k x→sz 2 (hm n d x).1≤s+x.length*(u+1)∧sz 2 (hm n d x).2≤x.length*u+1
 | [],_=>⟨by show sz 2 0≤_;rw [show sz 2 0=0 by decide];omega,by show sz 2 1≤_;exact Nat.le_trans (cK (k:=1) (by decide) (by decide)) (by omega)⟩
 | a::l,h=>by
  obtain⟨h1,h2⟩:=aiQ hn hd hu (x:=l) ⟨Nat.le_trans (by simp) h.len,fun c hc=>h.sz c (by simp [hc])⟩
  have ha:=h.sz a (by simp)
  have e:(a::l).length*u=l.length*u+u:=by rw [List.length_cons,Nat.add_mul];omega
  have e':(a::l).length*(u+1)=l.length*u+l.length+u+1:=by rw [List.length_cons,Nat.add_mul,Nat.mul_add];omega
  have e'':l.length*(u+1)=l.length*u+l.length:=by rw [Nat.mul_add];omega
  refine⟨?_,?_⟩
  ·have g1:=cE (b:=2) (by decide) h1 hn
   have g2:=cE (b:=2) (by decide) ha h2
   have:=o0 (b:=2) (by decide) (Nat.le_trans g1 (Nat.le_max_left _ (s+(l.length*u+1)))) (Nat.le_trans g2 (Nat.le_max_right (s+l.length*(u+1)+u) _))
   refine Nat.le_trans this ?_
   rw [e',e'']
   omega
  ·have:=cE (b:=2) (by decide) h2 hd
   rw [e]
   exact Nat.le_trans this (by omega)
theorem xO(p q p' q':Int)(hp:sz 2 p≤YY)(hq:sz 2 q≤YY)(uJ:sz 2 p'≤YY)(hq':sz 2 q'≤YY):aH env.P 14 [R2 p q,R2 p' q'] (.int .i64 (eD (p*q') (p'*q))):=by
 have zz:∀ {x:Int},sz 2 x≤YY→Z x:=fun h=>by simp only [Z,YY]at *;omega
 have s1:=cE (b:=2) (by decide) hp hq'
 have s2:=cE (b:=2) (by decide) uJ hq
 have m1:=eE p q' (zz hp) (zz hq')
 have m2:=eE p' q (zz uJ) (zz hq)
 have c1:=K8 (p*q') (p'*q) (by simp only [Z,YY]at *;omega) (by simp only [Z,YY]at *;omega)
 generalize eD (p*q') (p'*q)=r at *
 generalize p*q'=x1 at *
 generalize p'*q=x2 at *
 refine cA [(0,R2 p q),(1,R2 p' q')] Tryz.func14 ?_
 refine aA [2,3] ?_
 refine kB ?_
 refine b8 m1 ?_
 refine b8 m2 ?_
 refine cI [4] c1 ?_
 exact cP
theorem acz(p q:Rat)(hp:ZR YY p)(hq:ZR YY q):aH env.P 14 [RR p,RR q] (.int .i64 (eD (p.num*q.den) (q.num*p.den))):=by
 rw [gR,gR];exact xO _ _ _ _ hp.n hp.d hq.n hq.d
@[simp] theorem H6:aU DD 1 = [1]:=by decide
theorem XZ(x:List Int)(hl:x.length<9223372036854775808):aH env.P 152 [PI x] (.bool true):=by
 refine cA [(0,PI x)] Tryz.func152 ?_
 refine aA [0] ?_
 refine aM [0,5,6] ?_
 refine W.block ?_
 refine W.a8 (fun k σ=>∃(i:Nat) (rows:Pm.Rows) (clk:Nat),σ=⟨fa [(0,PI x),(5, .int .i64 x.length),(6, .int .i64 i)],rows,clk⟩∧i+k=x.length) x.length ?_ ?_
 ·exact⟨_, .refl,0,_,_,rfl,by omega⟩
 rintro k _ ⟨i,rows,clk,rfl,hI⟩
 refine cC [0,5,6,7] ?_
 refine bP ?_ ?_<;>intro h
 ·have hi:i<x.length:=by simp at h;omega
  refine iT ?_
  refine aA [0,3,5,6] ?_
  refine W.sr ?_
  simp (disch:=omega) [gw,hi]
  refine bO [0,5,6,27] ?_
  refine bP ?_ ?_<;>intro h
  ·simp at h
   exact absurd rfl h
  ·refine W.skip ?_
   refine W.b9 (fun K hK=>?_);simp (disch:=omega) [gw]
   refine hK _ ⟨k-1,_,aC _ [0,5,6],by omega,i+1,_,_,rfl,by omega⟩
 ·refine eJ ?_
  refine aA [2] ?_
  exact cP
theorem FO{x:List Int}{n d:Int}{s k u:Nat}(hx:Bd 2 s k x)(hn:sz 2 n≤u)(hd:sz 2 d≤u)(hu:1≤u)(hk:k<1099511627776)(hB:s+k*(u+1)+u<YY):aH env.P 77 [PI x,R2 n d] (.int .i64 (H5 x n d)):=by
 have hl:=hx.len
 have hW:=XZ x (by omega)
 have hO:=iF 1 (by decide) (by decide)
 have zz:∀ {x:Int},sz 2 x≤YY→Z x:=fun h=>by simp only [Z,YY]at *;omega
 have hY:YY=137438953472:=rfl
 have bd:=fun i=>aiQ (s:=s) (k:=k) (x:=x.drop i) hn hd hu ⟨by simp;omega,fun c hc=>hx.sz c (List.mem_of_mem_drop hc)⟩
 have hle:∀i,(x.drop i).length*(u+1)≤k*(u+1):=fun i=>Nat.mul_le_mul_right _ (by simp;omega)
 have acA:∀i,(x.drop i).length*u≤(x.drop i).length*(u+1):=fun i=>Nat.mul_le_mul_left _ (by omega)
 have step:∀i,i<x.length→hm n d (x.drop i)=((hm n d (x.drop (i+1))).1*n+nth x i*(hm n d (x.drop (i+1))).2,(hm n d (x.drop (i+1))).2*d):=fun i hi=>by
  rw [List.drop_eq_getElem_cons hi,c9 hi];rfl
 have QE:hm n d (x.drop x.length)=(0,1):=by rw [List.drop_length];rfl
 have hS:=E9 (hm n d x).1
 have h0:hm n d (x.drop 0)=hm n d x:=rfl
 have hs:H5 x n d=(hm n d x).1.sign:=rfl
 rw [hs]
 have M:∀i,i<x.length→aH env.P 63 [RI (hm n d (x.drop (i+1))).1,RI n] (RI ((hm n d (x.drop (i+1))).1*n))∧aH env.P 63 [RI (nth x i),RI (hm n d (x.drop (i+1))).2] (RI (nth x i*(hm n d (x.drop (i+1))).2)) ∧
   aH env.P 154 [RI ((hm n d (x.drop (i+1))).1*n),RI (nth x i*(hm n d (x.drop (i+1))).2)] (RI (hm n d (x.drop i)).1)∧aH env.P 63 [RI (hm n d (x.drop (i+1))).2,RI d] (RI (hm n d (x.drop i)).2):=fun i hi=>by
  obtain⟨b1,b2⟩:=bd (i+1)
  have l1:=hle (i+1)
  have l2:=acA (i+1)
  have ha:=hx.sz _ (bI hi)
  have g1:=cE (b:=2) (by decide) b1 hn
  have g2:=cE (b:=2) (by decide) ha b2
  have e:=step i hi
  rw [e]
  exact⟨eE _ _ (zz (by omega)) (zz (by omega)),eE _ _ (zz (by omega)) (zz (by omega)),B4 _ _ (by simp only [Z];omega) (by simp only [Z];omega),eE _ _ (zz (by omega)) (zz (by omega))⟩
 clear bd hle acA step
 generalize hm n d x=r0 at *
 refine cA [(0,PI x),(1,R2 n d)] Tryz.func77 ?_
 refine aA [0,3] ?_
 refine W.seq ?_
 refine aY [0,3,10] hW ?_
 refine bP ?_ ?_<;>intro h
 ·simp at h
 refine W.skip ?_
 refine aA [0,3,5] ?_
 refine aY [0,3,5,6] hO ?_
 refine aM [0,3,5,6,7] ?_
 refine W.row (id:=5) (els:=[[.nil, .bool false]]) [[aJ aF (aU DD (0:Int).natAbs), .bool (decide ((0:Int)<0))]] (by simp;first | exact⟨rfl,rfl,rfl⟩ | exact⟨rfl,rfl⟩ | rfl) ⟨⟨.inr ⟨rfl,rfl⟩, .inl rfl,trivial⟩,trivial⟩ ?_
 refine W.block ?_
 refine W.a8 (fun k σ=>∃(v3 v5 v6 e3 e5 e6:Nat) (rows:Pm.Rows) (clk:Nat),σ=⟨fa [(0,PI x),(3, .ptr 3 v3 0 0),(5, .ptr 5 v5 0 0),(6, .ptr 6 v6 0 0),(7, .int .i64 ((k:Int)-1))],rows,clk⟩∧k≤x.length ∧
  rows 3=some ⟨v3,e3,4,[[aJ aF (aU DD n.natAbs), .bool (decide (n<0)),aJ aF (aU DD d.natAbs), .bool (decide (d<0))]]⟩ ∧
  rows 5=some ⟨v5,e5,2,[[aJ aF (aU DD (hm n d (x.drop k)).1.natAbs), .bool (decide ((hm n d (x.drop k)).1<0))]]⟩ ∧
  rows 6=some ⟨v6,e6,2,[[aJ aF (aU DD (hm n d (x.drop k)).2.natAbs), .bool (decide ((hm n d (x.drop k)).2<0))]]⟩) x.length ?_ ?_
 ·exact⟨_, .refl,_,_,_,_,_,_,_,_,rfl,Nat.le_refl _,by simp;(first | exact⟨rfl,rfl,rfl⟩ | exact⟨rfl,rfl⟩ | rfl),by rw [QE];simp;(first | exact⟨rfl,rfl,rfl⟩ | exact⟨rfl,rfl⟩ | rfl),by rw [QE];simp;(first | exact⟨rfl,rfl,rfl⟩ | exact⟨rfl,rfl⟩ | rfl)⟩
 rintro k _ ⟨v3,v5,v6,e3,e5,e6,rows,clk,rfl,hkl,fU,dY,kS⟩
 refine aM [0,3,5,6,7,21] ?_
 refine bP ?_ ?_<;>intro h
 ·have uR:0<k:=by simp at h;omega
  obtain⟨k,rfl⟩:∃j,k=j+1:=⟨k-1,by omega⟩
  obtain⟨m1,m2,m3,m4⟩:=M k (by omega)
  generalize hm n d (x.drop (k+1))=A at *
  have e1:(((k+1:Nat):Int)-1).toNat=k:=by omega
  refine iT ?_
  refine W.sd ?_
  simp (disch:=omega) [gw,fU,dY,kS]
  refine aD m1 ?_
  simp (disch:=omega) [gw,e1]
  try simp (disch:=omega) [gw,e1,kS]
  refine b8 m2 ?_
  refine aD m3 ?_
  simp (disch:=omega) [gw,dY]
  try (refine bF (by kernel_rfl) ?_)
  try simp (disch:=omega) [gw,dY]
  refine bO [0,3,5,6,7] ?_
  refine W.b9 (fun K hK=>?_)
  simp (disch:=omega) [gw,fU,kS]
  refine aD m4 ?_
  simp (disch:=omega) [gw,kS]
  refine W.lw [0,3,5,6,7] hK ?_;clear hK K;simp
  refine W.b9 (fun K hK=>?_);simp (disch:=omega) [gw]
  refine hK _ ⟨k,_,aC _ [0,3,5,6,7],by omega,v3,v5,v6,_,_,_,_,_,rfl,by omega,by simp [fU];exact rfl,by simp;exact rfl,by simp;exact rfl⟩
 ·have uR:k=0:=by simp at h;omega
  subst uR
  rw [h0]at dY
  refine eJ ?_
  refine W.sr ?_
  simp (disch:=omega) [gw,dY]
  refine cI [4] hS ?_
  exact cP
end Go.Proofs.YtiobceocpabjdaaGreat
namespace Go.Proofs.YtiobceocpabjdaaGreat
open Go Pm
open ZX hiding N W
theorem acB{y:List Int}(cy:Cn y)(hy:0<y.length):∀(n:Nat) (x:List Int),Cn x→x.length<n → ∃(m:Int) (q:List Int),0<m ∧ ∀t,m*V t x=V t q*V t y+V t (rq y n x)
 | 0,x,_,h=>by omega
 | n+1,x,cx,h=>by
  rw [rq]
  split
  ·exact⟨1,[],by decide,fun t=>by simp [V]⟩
  ·rename_i h1
   have hl:=sJ hy (show y.length≤x.length by omega)
   obtain⟨m,q,hm,h4⟩:=acB cy hy n (T7 y x) (Cn.dA _ _) (by omega)
   have DK:=dB cy hy
   refine⟨m*(lead y).natAbs,eV q (aL (p8 (x.length-y.length) (wS (lead y)*lead x)) m),Int.mul_pos hm (by omega),fun t=>?_⟩
   have h5:=acy t y x
   have h6:=h4 t
   rw [o8,cG,mV]
   have:m*((lead y).natAbs:Int)*V t x=m*(((lead y).natAbs:Int)*V t x):=by grind
   rw [this,h5]
   grind
theorem acC{x y s q:List Int}{D:Int}(cx:Cn x)(cy:Cn y)(hy:0<y.length)(cs:Cn s)(hs:s.length<y.length)(hD:0<D)(hv:∀t,D*V t x=V t q*V t y+V t s):LI x y=jQ s:=by
 have hV:=fun t=>abf t x y
 have hl:=G5 (a:=x) hy
 obtain⟨c1,c2⟩:=BO (b:=y) cx
 rw [abR cx]
 have DK:=dB cy hy
 have xA:lead y^i4 x y≠0:=Int.pow_ne_zero DK
 have XU:=abP (lead y) (i4 x y)
 have hsq:=abQ (lead y) (i4 x y)
 generalize sg (lead y) (i4 x y)=g at *
 generalize (yO x y).1=p at *
 generalize (yO x y).2=r at *
 generalize hc:lead y^i4 x y=c at *
 have hm:0<((lead y).natAbs:Int)^i4 x y:=Int.pow_pos (by omega)
 generalize ((lead y).natAbs:Int)^i4 x y=m at *
 have e:∀t,V t (dA (s.map (· * c)) (r.map (· * D)))=V t y*V t (dA (p.map (· * D)) (q.map (· * c))):=fun t=>by
  have h1:=hv t
  have h2:=hV t
  rw [gG,gG,dH,dH,dH,dH]
  have h3:c*(D*V t x)=c*(V t q*V t y+V t s):=by rw [h1]
  have h4:D*(V t p*V t y+V t r)=D*(c*V t x):=by rw [h2]
  grind
 have h1:=E1 (Cn.dA _ _) cy hy e (by
  have:=u7 (s.map (· * c)) (r.map (· * D))
  simp only [List.length_map]at this
  omega)
 have xJ:D≠0:=by omega
 have e1:s.map (· * c)=r.map (· * D):=Cn.ext (i6 cs xA) (i6 c2 xJ) fun t=>LZ (by rw [h1];rfl) t
 rw [←yS cs hm,←yS (Cn.aL r g) hD]
 congr 1
 refine Cn.ext (Cn.aL _ _) (Cn.aL _ _) fun t=>?_
 have e2:V t s*c=V t r*D:=by rw [←dH,e1,dH]
 rw [cG,cG,cG]
 have h5:m=g*c:=by rw [XU];grind
 rw [h5]
 have:V t s*(g*c)=g*(V t s*c):=by grind
 rw [this,e2];grind
def p0(a:ZX):ZX:=⟨jQ a.l,Cn.cut _⟩
def nx(a b:ZX):ZX:=⟨fW (jQ (rz a b).l),Cn.fW _⟩
theorem X0{a b:ZX}(hb:b≠0):ZX.N (nx a b)<ZX.N b:=by
 obtain⟨_,hN,_⟩:=sK (a:=a) hb
 have h1:=LM (jQ (rz a b).l)
 have h2:=kZ (rz a b).l
 have h3:ZX.N (nx a b)=(fW (jQ (rz a b).l)).length:=rfl
 have h4:ZX.N (rz a b)=(rz a b).l.length:=rfl
 omega
theorem UB{s n:Nat}{a b:ZX}(ha:BZ s n a)(hb:BZ s n b)(h0:b≠0):BZ (s+(ZX.N a+1-ZX.N b)*(s+n+1)) n (nx a b):=Bd.fW (iS (UA ha hb h0))
def tZ:Nat→ZX→ZX→List ZX
 | 0,_,_=>[]
 | k+1,a,b=>if ZX.N b=0 then []else b::tZ k b (nx a b)
theorem j2(k:Nat)(a:ZX):tZ k a 0 = []:=by cases k<;>simp [tZ,show ZX.N 0=0 by decide]
theorem CX:∀ {k j:Nat} {a b:ZX},ZX.N b≤k→ZX.N b≤j→tZ k a b=tZ j a b
 | 0,j,a,b,h,_=>by
  have:b=0:=Classical.byContradiction fun h0=>by have:=ZX.aE.1 h0;omega
  rw [this,j2,j2]
 | k+1,0,a,b,_,h=>by
  have:b=0:=Classical.byContradiction fun h0=>by have:=ZX.aE.1 h0;omega
  rw [this,j2,j2]
 | k+1,j+1,a,b,h1,h2=>by
  rw [tZ,tZ]
  split
  ·rfl
  ·rename_i h0
   have:=X0 (a:=a) (ZX.aE.2 (Nat.pos_of_ne_zero h0))
   rw [CX (k:=k) (j:=j) (by omega) (by omega)]
def cH(f:ZX):List ZX:=f::tZ (ZX.N f) f (p0 (bS f))
theorem amo(x:List Int):PP (qd x 1)=PI x:=by rw [tS];show PV.sl (emap re (qs x))=PV.sl (emap ri x);rw [CB]
theorem y7{s n:Nat}{a:ZX}(b:BZ s n a)(uK:1≤s)(hs:s≤YY)(hn:n<1099511627776):aH env.P 159 [PI a.l] (PI (p0 a).l):=by
 have:=LQ a.l 1 (by decide) b (by exact Nat.le_trans (cK (k:=1) (by decide) (by decide)) uK) a.c uK hs hn
 rw [show((1:Nat):Int)=1 from rfl,amo]at this
 exact this
structure Ch(s n:Nat)(f:ZX):Prop where
 bz:BZ s n f
 hn:n≤20
 n3:1≤n
 hC:(s+5+n+1)*4^n≤4500000000
theorem Ch.pot{s n:Nat}{f:ZX}(h:Ch s n f):zO 4500000000 n (s+5) f (p0 (bS f)):=by
 have h1:=mG f
 have h2:ZX.N (p0 (bS f))≤ZX.N (bS f):=kZ _
 have h3:=h.bz.N
 have hn:=h.n3
 unfold zO
 split
 ·exact Nat.le_trans (Nat.mul_le_mul_left _ (Nat.pow_le_pow_right (by decide) h3)) h.hC
 ·have h4:ZX.N (p0 (bS f))=0:=by omega
  have h5:=h.hC
  rw [h4,Nat.pow_zero,Nat.mul_one]
  exact Nat.le_trans (Nat.mul_le_mul_left _ (show 2≤4^n from Nat.le_trans (by decide) (Nat.pow_le_pow_right (n:=4) (by decide) hn))) h5
theorem acD{l:List ZX}{a:ZX}{i:Nat}(h:i<l.length):nth (l ++ [a]) i=nth l i:=by
 simp only [nth,List.getElem?_append_left h]
theorem ME{s n:Nat}{a f:ZX}(hS:aH env.P 158 [PI a.l] (PI f.l))(h:Ch s n f)(h1:1≤s):aH env.P 81 [PI a.l] (aJ zq (cH f)):=by
 have hn:=h.hn
 have hp:=h.pot
 have hs:=hp.le
 have bd:BZ (s+5) n (bS f):=h.bz.bS (by omega)
 have d1:=vZ h.bz (by show s≤137438953472;omega) (by omega)
 have d2:=y7 bd (by omega) (by show s+5≤137438953472;omega) (by omega)
 have b2:BZ (s+5) n (p0 (bS f)):=iS bd
 have b1:BZ (s+5) n f:=h.bz.mono (by omega) (Nat.le_refl _)
 have D5:ZX.N (p0 (bS f))≤ZX.N f:=Nat.le_trans (kZ _) (Nat.le_trans (mG f) (by omega))
 have hc:cH f=f::tZ (ZX.N f) f (p0 (bS f)):=rfl
 rw [CX D5 (Nat.le_refl _)]at hc
 generalize hC:cH f=C at *
 generalize p0 (bS f)=g0 at *
 generalize (bS f).l=dl at *
 have hfl:f.l=f.l:=rfl
 refine cA [(0,PI a.l)] Tryz.func81 ?_
 refine aA [0] ?_
 refine aY [3] hS ?_
 refine W.TJ 1 rfl rfl (fun K hK=>?_)
 simp (disch:=omega) [gw]
 refine W.lw [3,4] hK ?_;clear hK K;simp
 refine j4 ?_
 refine b8 d1 ?_
 refine cI [4,5] d2 ?_
 refine W.seq ?_
 refine W.block ?_
 refine W.a8 (fun k σ=>∃(L:List ZX) (x g:ZX) (i ver s:Nat) (rows:Pm.Rows) (clk:Nat),σ=⟨fa [(4, .own 9 ver 0 (i+1)),(5,PI g.l)],rows,clk⟩∧rows 9=some ⟨ver,46,1,emap zq L⟩∧L.length=i+1∧nth L i=x ∧
  L++tZ k x g=C∧k=ZX.N g∧BZ s n x∧BZ s n g∧1≤s∧zO 4500000000 n s x g∧i+ZX.N g≤20) (ZX.N g0) ?_ ?_
 ·exact⟨_, .refl,[f],f,g0,0,_,s+5,_,_,rfl,by simp [emap],rfl,rfl,hc.symm,rfl,b1,b2,by omega,hp,by have:=b2.N;omega⟩
 rintro k _ ⟨L,x,g,i,ver,s,rows,clk,rfl,hr,hL,hx,Y8,rfl,bx,bg,h1,hp,hiN⟩
 have hs:=hp.le
 have hlx:=bx.len
 have hlg:=bg.len
 have hLl:(emap zq L).length=i+1:=by simp [emap,hL]
 refine aM [4,5,15] ?_
 refine bP ?_ ?_<;>intro h
 ·have hg:g≠0:=ZX.aE.2 (by show 0<g.l.length;simp at h;omega)
  obtain⟨ND,hN,_⟩:=sK (a:=x) hg
  have br:=UA bx bg hg
  have hmul:(x.l.length+1-g.l.length+1)*(s+n+1)≤22*4500000000:=Nat.mul_le_mul (by omega) (by omega)
  have aiP:(ZX.N x+1-ZX.N g)*(s+n+1)≤22*4500000000:=Nat.mul_le_mul (by have:ZX.N x=x.l.length:=rfl;omega) (by omega)
  have hR:=FN (s:=s) (s':=s) (N:=n) bx bg x.c g.c (ZX.aE.1 hg) (by omega) (by show _<137438953472;omega)
  rw [←ND]at hR
  have hZ:=y7 br (by omega) (by show _≤137438953472;omega) (by omega)
  have hNg:=FD (p0 (rz x g)).l ((iS br).mono (by show _≤137438953472;omega) (by omega))
  have e3:fW (p0 (rz x g)).l=(nx x g).l:=rfl
  rw [e3]at hNg
  have D5:=X0 (a:=x) hg
  have WR:=hp.step D5
  have bn:=UB bx bg hg
  have hi:i<L.length:=by omega
  have hx2:nth (L ++ [g]) i=x:=by rw [acD hi];exact hx
  have asz:i<(L ++ [g]).length:=by simp;omega
  have hch:L ++ [g]++tZ (ZX.N (nx x g)) g (nx x g)=C:=by
   rw [←Y8]
   obtain⟨j,hj⟩:∃j,ZX.N g=j+1:=⟨ZX.N g-1,by have:=ZX.aE.1 hg;have:ZX.N g=g.l.length:=rfl;omega⟩
   rw [hj,tZ,if_neg (by omega),CX (k:=j) (j:=ZX.N (nx x g)) (by omega) (Nat.le_refl _)]
   simp
  generalize (rz x g).l=rl at *
  generalize (p0 (rz x g)).l=pl at *
  generalize hnx:nx x g=nn at *
  have hnl:nn.l=nn.l:=rfl
  refine W.skip ?_
  refine W.block ?_
  refine W.sr ?_
  simp (disch:=omega) [gw,hr,hLl]
  refine bO [4,5] ?_
  have e1:((i:Int)+1+1-2).toNat=i:=by omega
  refine W.b9 (fun K hK=>?_)
  simp (disch:=omega) [gw,e1,asz,hx2]
  refine b8 hR ?_
  refine b8 hZ ?_
  refine b8 hNg ?_
  refine hK _ ⟨ZX.N nn,_,aC _ [4,5],D5,L ++ [g],g,nn,i+1,_,_,_,_,rfl,by simp,by simp [hL],?_,hch,rfl,bg.mono (by omega) (Nat.le_refl _),bn,by omega,WR,by omega⟩
  rw [c9 (by simp;omega)]
  simp [←hL]
 ·have hg:g=0:=by
   refine Classical.byContradiction fun h0=>?_
   have h1:=ZX.aE.1 h0
   have h2:ZX.N g=g.l.length:=rfl
   simp at h;rw [h2,h]at h1;simp at h1
  subst hg
  rw [j2,List.append_nil]at Y8
  subst Y8
  have DW:List.take (i+1) L=L:=List.take_of_length_le (by omega)
  refine eJ ?_
  refine aA [2] ?_
  refine W.ret ?_
  simp [go,hr,hLl,DW]
end Go.Proofs.YtiobceocpabjdaaGreat
namespace Pm
def qv(t:Rat):List Int→Rat
 | []=>0
 | a::l=>(a:Rat)+t*qv t l
section
variable {t:Rat}
theorem uA{α:Type}(f g:α→Int):∀l:List α,qv t (l.map fun k=>f k+g k)=qv t (l.map f)+qv t (l.map g)
 | []=>by simp only [List.map_nil,qv];grind
 | x::l=>by simp only [List.map_cons,qv,uA f g l,Rat.intCast_add];grind
theorem CY{α:Type}(c:Int)(f:α→Int):∀l:List α,qv t (l.map fun k=>f k*c)=qv t (l.map f)*c
 | []=>by simp only [List.map_nil,qv];grind
 | x::l=>by simp only [List.map_cons,qv,CY c f l,Rat.intCast_mul];grind
theorem nU:∀(a:List Int) (n:Nat),qv t (a++List.replicate n 0)=qv t a
 | [],0=>rfl
 | [],n+1=>by
  have:=nU [] n
  simp only [List.nil_append]at this
  simp only [List.nil_append,List.replicate_succ,qv,this,Rat.intCast_zero];grind
 | x::a,n=>by simp only [List.cons_append,qv,nU a n]
theorem wC:∀l:List Int,qv t (aI l)=qv t l
 | []=>rfl
 | x::l=>by
  have ih:=wC l
  simp only [aI]
  split
  ·rename_i h
   rw [h.1]at ih
   simp only [qv]at ih ⊢
   rw [←ih,h.2,Rat.intCast_zero];grind
  ·simp only [qv,ih]
theorem lR{x:List Int}{n:Nat}(h:x.length≤n):qv t ((List.range n).map (nth x))=qv t x:=by
 rw [w6 h,nU]
theorem UC(x y:List Int):qv t (eV x y)=qv t x+qv t y:=by
 rw [eV,wC,uA,lR (by omega),lR (by omega)]
theorem agr(x y:List Int):qv t (dA x y)=qv t x-qv t y:=by
 rw [dA,wC]
 have h1:=uA (t:=t) (fun k=>nth x k-nth y k) (nth y) (List.range (max x.length y.length))
 have h2:(fun k=>nth x k-nth y k+nth y k)=nth x:=by funext k;omega
 rw [h2,lR (by omega),lR (by omega)]at h1
 grind
theorem MF:∀x y:List Int,qv t (iI x y)=qv t x*qv t y
 | [],y=>by simp only [iI,qv];grind
 | a::x,y=>by
  have:=CY (t:=t) a id y
  simp only [id_eq,List.map_id_fun]at this
  rw [iI,UC,this]
  simp only [qv,MF x y,Rat.intCast_zero]
  grind
theorem ags(x y:List Int):qv t (bA x y)=qv t x*qv t y:=by rw [bA,wC,MF]
end
namespace ZX
section
variable {t:Rat}
def e(t:Rat)(x:ZX):Rat:=qv t x.l
theorem asA(x y:ZX):e t (x+y)=e t x+e t y:=UC _ _
theorem lI(x y:ZX):e t (x*y)=e t x*e t y:=ags _ _
theorem acE(x y:ZX):e t (x-y)=e t x-e t y:=agr _ _
theorem amp(x:List Int):e t (of x)=qv t x:=wC x
theorem z9(c:Int):e t (K c)=c:=by
 rw [K,amp]
 simp only [qv];grind
end
end ZX
def Ab(x M:Rat):Prop := -M≤x∧x≤M
def kD(e x:Rat):Prop:=x ≤ -e∨e≤x
theorem Ab.mono{x M N:Rat}(h:Ab x M)(hMN:M≤N):Ab x N:=by
 obtain⟨h1,h2⟩:=h
 exact⟨by grind,by grind⟩
theorem Ab.add{x y M N:Rat}(h:Ab x M)(h':Ab y N):Ab (x+y) (M+N):=by
 obtain⟨h1,h2⟩:=h
 obtain⟨h3,h4⟩:=h'
 exact⟨by grind,by grind⟩
theorem Ab.mul{x y M N:Rat}(h:Ab x M)(h':Ab y N):Ab (x*y) (M*N):=by
 obtain⟨h1,h2⟩:=h
 obtain⟨h3,h4⟩:=h'
 have p1:=Rat.mul_nonneg (show 0≤M-x by grind) (show 0≤N-y by grind)
 have p2:=Rat.mul_nonneg (show 0≤M+x by grind) (show 0≤N+y by grind)
 have p3:=Rat.mul_nonneg (show 0≤M-x by grind) (show 0≤N+y by grind)
 have p4:=Rat.mul_nonneg (show 0≤M+x by grind) (show 0≤N-y by grind)
 exact⟨by grind,by grind⟩
theorem kD.mono{x e f:Rat}(h:kD e x)(hf:f≤e):kD f x:=by
 rcases h with h | h
 ·left;grind
 ·right;grind
theorem H7{x e:Rat}(h:¬kD e x) : -e<x∧x<e:=by
 constructor
 ·exact Rat.not_le.1 fun h1=>h (.inl h1)
 ·exact Rat.not_le.1 fun h1=>h (.inr h1)
theorem D8{x e:Rat}(h:¬kD e x):Ab x e:=by
 obtain⟨h1,h2⟩:=H7 h
 exact⟨Rat.le_of_lt h1,Rat.le_of_lt h2⟩
def bT(x:Rat):Int:=if x<0 then -1 else if 0<x then 1 else 0
theorem gS{x:Rat}(h:x<0):bT x = -1:=if_pos h
theorem eZ{x:Rat}(h:0<x):bT x=1:=by
 rw [bT,if_neg (by grind),if_pos h]
theorem fS:bT 0=0:=by decide
theorem bZ(x:Rat):(x<0∧bT x = -1)∨(x=0∧bT x=0)∨(0<x∧bT x=1):=by
 by_cases h:x<0
 ·exact .inl ⟨h,gS h⟩
 ·by_cases h2:0<x
  ·exact .inr (.inr ⟨h2,eZ h2⟩)
  ·have:x=0:=by grind
   subst this
   exact .inr (.inl ⟨rfl,fS⟩)
theorem lS(x:Rat):bT x = -1∨bT x=0∨bT x=1:=by
 rcases bZ x with h | h | h
 ·exact .inl h.2
 ·exact .inr (.inl h.2)
 ·exact .inr (.inr h.2)
theorem CZ{x:Rat}:bT x = -1↔x<0:=by
 rcases bZ x with ⟨h,e⟩ | ⟨h,e⟩ | ⟨h,e⟩<;>rw [e]<;>constructor<;>intro h2<;>first | omega | grind
theorem C0{x:Rat}:bT x=1↔0<x:=by
 rcases bZ x with ⟨h,e⟩ | ⟨h,e⟩ | ⟨h,e⟩<;>rw [e]<;>constructor<;>intro h2<;>first | omega | grind
theorem eU{x:Rat}:bT x=0↔x=0:=by
 rcases bZ x with ⟨h,e⟩ | ⟨h,e⟩ | ⟨h,e⟩<;>rw [e]<;>constructor<;>intro h2<;>first | omega | grind
theorem sL(x y:Rat):bT (x*y)=bT x*bT y:=by
 rcases bZ x with ⟨h,e⟩ | ⟨h,e⟩ | ⟨h,e⟩<;>rcases bZ y with ⟨h',e'⟩ | ⟨h',e'⟩ | ⟨h',e'⟩<;>rw [e,e']
 ·have:=Rat.mul_pos (show 0 < -x by grind) (show 0 < -y by grind)
  rw [eZ (by grind)];rfl
 ·rw [h',Rat.mul_zero];rfl
 ·have:=Rat.mul_pos (show 0 < -x by grind) h'
  rw [gS (by grind)];rfl
 ·rw [h,Rat.zero_mul];rfl
 ·rw [h,Rat.zero_mul];rfl
 ·rw [h,Rat.zero_mul];rfl
 ·have:=Rat.mul_pos h (show 0 < -y by grind)
  rw [gS (by grind)];rfl
 ·rw [h',Rat.mul_zero];rfl
 ·rw [eZ (Rat.mul_pos h h')];rfl
theorem fT{x y e:Rat}(h:kD e x)(he:0<e)(sO:¬kD e (y-x)):bT y=bT x∧bT x≠0:=by
 obtain⟨h1,h2⟩:=H7 sO
 rcases h with h | h
 ·rw [gS (show x<0 by grind),gS (show y<0 by grind)];decide
 ·rw [eZ (show 0<x by grind),eZ (show 0<y by grind)];decide
def dd(s t:Rat):List Int→Rat
 | []=>0
 | _::l=>qv t l+s*dd s t l
def cc(s t:Rat):List Int→Rat
 | []=>0
 | _::l=>dd s t l+s*cc s t l
theorem mI(s t:Rat):∀x:List Int,qv t x-qv s x=(t-s)*dd s t x
 | []=>by simp only [qv,dd];grind
 | a::l=>by
  have:=mI s t l
  simp only [qv,dd];grind
theorem H8(s t:Rat):∀x:List Int,dd s t x-dd s s x=(t-s)*cc s t x
 | []=>by simp only [dd,cc];grind
 | a::l=>by
  have:=H8 s t l
  have:=mI s t l
  simp only [dd,cc];grind
section
variable {S B s t:Rat} (hS:0≤S) (hB:1≤B) (hs:Ab s B) (ht:Ab t B)
def xP(S B:Rat):Nat→Rat
 | 0=>S
 | k+1=>xP S B k*(4*B)
include hS hB in
theorem pP:∀k,0≤xP S B k∧S≤xP S B k
 | 0=>⟨hS,Rat.le_refl⟩
 | k+1=>by
  obtain⟨h1,h2⟩:=pP k
  have h3:=Rat.mul_le_mul_of_nonneg_left (show (1:Rat)≤4*B by grind) h1
  rw [xP]
  exact⟨by grind,by grind⟩
include hS hB ht in
theorem UD:∀x:List Int,(∀c∈x,Ab (c:Rat) S)→Ab (qv t x) (xP S B x.length)
 | [],_=>by
  show Ab 0 S
  exact⟨by grind,hS⟩
 | a::l,h=>by
  have h1:=UD l fun c hc=>h c (List.mem_cons_of_mem _ hc)
  have h2:=(h a (List.mem_cons_self ..)).add (ht.mul h1)
  obtain⟨h3,h4⟩:=pP hS hB l.length
  have h5:=Rat.mul_le_mul_of_nonneg_left hB h3
  refine h2.mono ?_
  rw [List.length_cons,xP]
  grind
include hS hB hs ht in
theorem MG:∀x:List Int,(∀c∈x,Ab (c:Rat) S)→Ab (dd s t x) (xP S B x.length)
 | [],_=>by
  show Ab 0 S
  exact⟨by grind,hS⟩
 | a::l,h=>by
  have h1:=MG l fun c hc=>h c (List.mem_cons_of_mem _ hc)
  have h0:=UD hS hB ht l fun c hc=>h c (List.mem_cons_of_mem _ hc)
  have h2:=h0.add (hs.mul h1)
  obtain⟨h3,h4⟩:=pP hS hB l.length
  have h5:=Rat.mul_le_mul_of_nonneg_left hB h3
  refine h2.mono ?_
  rw [List.length_cons,xP]
  grind
include hS hB hs ht in
theorem UE:∀x:List Int,(∀c∈x,Ab (c:Rat) S)→Ab (cc s t x) (xP S B x.length)
 | [],_=>by
  show Ab 0 S
  exact⟨by grind,hS⟩
 | a::l,h=>by
  have h1:=UE l fun c hc=>h c (List.mem_cons_of_mem _ hc)
  have h0:=MG hS hB hs ht l fun c hc=>h c (List.mem_cons_of_mem _ hc)
  have h2:=h0.add (hs.mul h1)
  obtain⟨h3,h4⟩:=pP hS hB l.length
  have h5:=Rat.mul_le_mul_of_nonneg_left hB h3
  refine h2.mono ?_
  rw [List.length_cons,xP]
  grind
end
theorem wD(t:Rat):∀(l:List Int) (k:Nat),qv t (ZX.qA (k+1) l)=qv t (ZX.qA k l)+qv t l
 | [],k=>by simp only [ZX.qA,qv];grind
 | a::l,k=>by
  simp only [ZX.qA,qv]
  rw [wD t l (k+1)]
  have:((k+1:Nat):Int)=(k:Int)+1:=by omega
  rw [this,Rat.intCast_mul,Rat.intCast_mul,Rat.intCast_add,Rat.intCast_one];grind
theorem y8(t:Rat):∀l:List Int,qv t (ZX.qA 1 l)=qv t l+t*dd t t l
 | []=>by simp only [ZX.qA,qv,dd];grind
 | b::m=>by
  rw [ZX.qA]
  simp only [qv,dd]
  rw [wD,y8 t m]
  rw [show((1:Nat):Int)=1 from rfl,Int.mul_one]
  grind
theorem acF(t:Rat)(x:ZX):(ZX.bS x).e t=dd t t x.l:=by
 rw [ZX.bS,ZX.amp]
 obtain⟨l,hl⟩:=x
 show qv t (ZX.xN l)=dd t t l
 match l with
 | []=>rfl
 | a::l=>rw [ZX.FJ,y8];rfl
end Pm
namespace Pm
def D9(p:Int):List Int→Nat
 | []=>0
 | s::l=>if s=0 then D9 p l else(if p≠0∧s≠p then 1 else 0)+D9 s l
def cl:List Int→List Int→Prop
 | [],[]=>True
 | [x],[y]=>x=y∧x≠0
 | [_,x],[_,y]=>x=y∧x≠0
 | x0::x1::x2::x,y0::y1::y2::y=>cl (x1::x2::x) (y1::y2::y)∧((x1=y1∧x1≠0)∨(x0=y0∧x2=y2∧x0 = -x2∧x2≠0))
 | _,_=>False
theorem H9:∀(n:Nat) (p:Int) (x y:List Int),x.length≤n→p≠0→(p = -1∨p=1)→(∀s∈x,s = -1∨s=0∨s=1)→(∀s∈y,s = -1∨s=0∨s=1)→cl (p::x) (p::y)→D9 p x=D9 p y
 | _,p,[],[],_,_,_,_,_,_=>rfl
 | _,p,[x1],[y1],_,_,_,_,_,h=>by
  obtain⟨rfl,h2⟩:=h
  rfl
 | _,p,[],[y1],_,_,_,_,_,h=>by simp [cl]at h
 | _,p,[x1],[],_,_,_,_,_,h=>by simp [cl]at h
 | _,p,[],_::_::_,_,_,_,_,_,h=>by simp [cl]at h
 | _,p,_::_::_,[],_,_,_,_,_,h=>by simp [cl]at h
 | _,p,[_],_::_::_,_,_,_,_,_,h=>by simp [cl]at h
 | _,p,_::_::_,[_],_,_,_,_,_,h=>by simp [cl]at h
 | 0,p,x1::x2::x,y1::y2::y,hn,_,_,_,_,_=>by simp at hn
 | n+1,p,x1::x2::x,y1::y2::y,hn,hp,hp1,hx,hy,h=>by
  obtain⟨h1,h2⟩:=h
  rcases h2 with ⟨rfl,h2⟩ | ⟨_,rfl,h3,h4⟩
  ·have ih:=H9 n x1 (x2::x) (y2::y) (by simp at hn ⊢;omega) h2 (by have:=hx x1 (by simp);omega) (fun s hs=>hx s (List.mem_cons_of_mem _ hs)) (fun s hs=>hy s (List.mem_cons_of_mem _ hs)) h1
   simp only [D9]at ih ⊢
   rw [if_neg h2,if_neg h2,ih]
  ·have ht:D9 x2 x=D9 x2 y:=by
    refine H9 n x2 x y (by simp at hn ⊢;omega) h4 (by have:=hx x2 (by simp);omega) (fun s hs=>hx s (by simp [hs])) (fun s hs=>hy s (by simp [hs])) ?_
    match x,y,h1 with
    | [],[],_=>exact⟨rfl,h4⟩
    | [],_::_,h1=>simp [cl]at h1
    | _::_,[],h1=>simp [cl]at h1
    | _::_,_::_,h1=>exact h1.1
   have key:∀z:Int,(z = -1∨z=0∨z=1) → ∀w:List Int,D9 p (z::x2::w)=1+D9 x2 w:=fun z hz w=>by
    simp only [D9]
    rcases hz with rfl | rfl | rfl
    ·rw [if_neg (by decide),if_neg h4]
     rcases hp1 with rfl | rfl
     ·rw [if_neg (by omega),if_pos (by omega)];omega
     ·rw [if_pos (by omega),if_neg (by omega)];omega
    ·rw [if_pos rfl,if_neg h4,if_pos (by omega)]
    ·rw [if_neg (by decide),if_neg h4]
     rcases hp1 with rfl | rfl
     ·rw [if_pos (by omega),if_neg (by omega)];omega
     ·rw [if_neg (by omega),if_pos (by omega)];omega
   rw [key x1 (hx x1 (by simp)),key y1 (hy y1 (by simp)),ht]
open ZX
def UF(ε t:Rat):List ZX→Prop
 | []=>False
 | [a]=>kD ε (e t a)
 | [_,b]=>kD ε (e t b)
 | a::b::c::l=>UF ε t (b::c::l)∧(kD ε (e t b)∨(kD ε (e t a)∧kD ε (e t c)∧bT (e t a) = -bT (e t c)))
theorem UF.mono{ε δ t:Rat}(h:δ≤ε):∀ {l:List ZX},UF ε t l→UF δ t l
 | [],g=>g
 | [a],g=>kD.mono g h
 | [a,b],g=>kD.mono (x:=e t b) g h
 | a::b::c::l,g=>⟨UF.mono h g.1,by
  rcases g.2 with g | ⟨g1,g2,g3⟩
  ·exact .inl (g.mono h)
  ·exact .inr ⟨g1.mono h,g2.mono h,g3⟩⟩
theorem UF.two{ε t:Rat}{a b:ZX}:∀ {l:List ZX},UF ε t (a::b::l)→kD ε (e t a)∨kD ε (e t b)
 | [],g => .inr g
 | c::l,g=>by
  rcases g.2 with g | ⟨g1,g2,g3⟩
  ·exact .inr g
  ·exact .inl g1
def IA(t:Rat)(l:List ZX):List Int:=l.map fun p=>bT (e t p)
theorem AA{t:Rat}{l:List ZX}:∀s∈IA t l,s = -1∨s=0∨s=1:=fun s hs=>by
 simp only [IA,List.mem_map]at hs
 obtain⟨p,_,rfl⟩:=hs
 exact lS _
theorem acG{ε s t:Rat}(hε:0<ε):∀ {l:List ZX},UF ε s l→(∀p∈l,¬kD ε (e t p-e s p))→cl (IA s l) (IA t l)
 | [],g,_=>g.elim
 | [a],g,h=>by
  obtain⟨h1,h2⟩:=fT g hε (h a (by simp))
  exact⟨h1.symm,h2⟩
 | [a,b],g,h=>by
  obtain⟨h1,h2⟩:=fT (x:=e s b) g hε (h b (by simp))
  exact⟨h1.symm,h2⟩
 | a::b::c::l,g,h=>by
  refine⟨acG hε g.1 fun p hp=>h p (List.mem_cons_of_mem _ hp),?_⟩
  rcases g.2 with g | ⟨g1,g2,g3⟩
  ·obtain⟨h1,h2⟩:=fT g hε (h b (by simp))
   exact .inl ⟨h1.symm,h2⟩
  ·obtain⟨h1,h2⟩:=fT g1 hε (h a (by simp))
   obtain⟨h3,h4⟩:=fT g2 hε (h c (by simp))
   exact .inr ⟨h1.symm,h3.symm,g3,h4⟩
def vt(l:List ZX)(t:Rat):Nat:=D9 0 (IA t l)
def ind(a:ZX)(s t:Rat):Nat:=if e s a≠0∧bT (e t a)≠bT (e s a)then 1 else 0
theorem agt{ε s t:Rat}(hε:0<ε){a:ZX}{l:List ZX}(g:UF ε s (a::l))(h:∀p∈a::l,¬kD ε (e t p-e s p))
  (hm:∀b k,l=b::k→kD ε (e s b)→bT (e t a-e s a)=bT (e s b)):vt (a::l) s=vt (a::l) t+ind a s t:=by
 have hc:=acG hε g h
 have hA:kD ε (e s a)→vt (a::l) s=vt (a::l) t+ind a s t:=fun ha=>by
  obtain⟨h1,h2⟩:=fT ha hε (h a (by simp))
  have h3:ind a s t=0:=if_neg fun h=>h.2 h1
  rw [h3]
  have VI:cl (bT (e s a)::IA s l) (bT (e s a)::IA t l):=by
   have:IA t (a::l)=bT (e s a)::IA t l:=by rw [←h1];rfl
   rw [this]at hc
   exact hc
  have h4:=H9 _ _ _ _ (Nat.le_refl _) h2 (by have:=lS (e s a);omega) AA AA VI
  show D9 0 (bT (e s a)::IA s l)=D9 0 (bT (e t a)::IA t l)+0
  rw [h1]
  simp only [D9]
  rw [if_neg h2,if_neg h2,h4];omega
 match l,g,h,hc,hm,hA with
 | [],g,h,hc,hm,hA=>exact hA g
 | b::l,g,h,hc,hm,hA =>
  rcases g.two with ha | hb
  ·exact hA ha
  ·obtain⟨h1,h2⟩:=fT hb hε (h b (by simp))
   have h3:=hm b l rfl hb
   have VI:cl (bT (e s b)::IA s l) (bT (e s b)::IA t l):=by
    match l,hc with
    | [],hc=>exact⟨rfl,h2⟩
    | c::l,hc =>
     have h8:cl (bT (e s b)::IA s (c::l)) (bT (e t b)::IA t (c::l)):=hc.1
     rw [h1]at h8
     exact h8
   have h4:=H9 _ _ _ _ (Nat.le_refl _) h2 (by have:=lS (e s b);omega) AA AA VI
   show D9 0 (bT (e s a)::bT (e s b)::IA s l)=D9 0 (bT (e t a)::bT (e t b)::IA t l)+ind a s t
   rw [h1]
   simp only [D9]
   rw [if_neg h2,if_neg h2,h4]
   have hi:ind a s t=if bT (e s a)≠0∧bT (e t a)≠bT (e s a)then 1 else 0:=by
    unfold ind
    by_cases h6:e s a=0
    ·rw [if_neg (fun h7=>h7.1 h6),if_neg (fun h7=>h7.1 (eU.2 h6))]
    ·have h7:bT (e s a)≠0:=fun h8=>h6 (eU.1 h8)
     simp only [ne_eq,h6,h7,not_false_eq_true,true_and]
   rw [hi]
   have hd:(bT (e s b) = -1→bT (e t a)≤bT (e s a)∧(bT (e t a)=bT (e s a)→bT (e s a)≠0))∧(bT (e s b)=1→bT (e s a)≤bT (e t a)∧(bT (e t a)=bT (e s a)→bT (e s a)≠0)):=by
    refine⟨fun h6=>?_,fun h6=>?_⟩
    ·have h5:=CZ.1 (h3.trans h6)
     rcases bZ (e s a)with ⟨q1,r1⟩ | ⟨q1,r1⟩ | ⟨q1,r1⟩<;>rcases bZ (e t a)with ⟨q2,r2⟩ | ⟨q2,r2⟩ | ⟨q2,r2⟩<;>rw [r1,r2]<;>first | decide | (exfalso;grind)
    ·have h5:=C0.1 (h3.trans h6)
     rcases bZ (e s a)with ⟨q1,r1⟩ | ⟨q1,r1⟩ | ⟨q1,r1⟩<;>rcases bZ (e t a)with ⟨q2,r2⟩ | ⟨q2,r2⟩ | ⟨q2,r2⟩<;>rw [r1,r2]<;>first | decide | (exfalso;grind)
   have m1:=lS (e s a)
   have m2:=lS (e t a)
   have m3:=lS (e s b)
   generalize bT (e s a)=σ at *
   generalize bT (e t a)=τ at *
   generalize bT (e s b)=γ at *
   generalize D9 γ (IA t l)=T at *
   obtain⟨d1,d2⟩:=hd
   clear hc VI h1 h3 hm hA h g hb hi
   rcases m3 with rfl | rfl | rfl
   ·obtain⟨d3,d4⟩:=d1 rfl
    rcases m1 with rfl | rfl | rfl<;>rcases m2 with rfl | rfl | rfl<;>first | (exfalso;omega) | (simp;try omega)
   ·exact absurd rfl h2
   ·obtain⟨d3,d4⟩:=d2 rfl
    rcases m1 with rfl | rfl | rfl<;>rcases m2 with rfl | rfl | rfl<;>first | (exfalso;omega) | (simp;try omega)
end Pm
namespace Pm
open ZX hiding N W
def StC(M B:Rat):List ZX→Prop
 | []=>False
 | [a]=>∃c:Int,c≠0∧a=K c
 | [_,b]=>∃c:Int,c≠0∧b=K c
 | a::b::c::l=>StC M B (b::c::l) ∧ ∃(m k:Int) (q:ZX),0<m∧0<k∧K m*a=q*b-K k*c∧2*(m:Rat)≤M ∧ ∀t,Ab t B→Ab (2*e t q) M
def zP(M:Rat):Nat→Rat
 | 0=>1
 | k+1=>zP M k/M
theorem IB{M:Rat}(hM:2≤M)(k:Nat):M*zP M (k+1)=zP M k:=by
 rw [zP,Rat.mul_comm,Rat.div_mul_cancel (by grind)]
theorem wE{M:Rat}(hM:2≤M):∀k,0<zP M k
 | 0=>by show(0:Rat)<1;decide
 | k+1=>by
  have h1:=wE hM k
  have h2:=IB hM k
  refine Rat.not_le.1 fun h=>?_
  have h3:=Rat.mul_nonneg (show 0≤M by grind) (show 0 ≤ -zP M (k+1)by grind)
  grind
theorem IC{M:Rat}(hM:2≤M)(k:Nat):zP M (k+1)≤zP M k:=by
 have h1:=wE hM (k+1)
 have h2:=IB hM k
 have h3:=Rat.mul_le_mul_of_nonneg_right (show 1≤M by grind) (Rat.le_of_lt h1)
 grind
theorem uB{M:Rat}(hM:2≤M):∀k,zP M k≤1
 | 0=>Rat.le_refl
 | k+1=>Rat.le_trans (IC hM k) (uB hM k)
theorem wF{c:Int}(h:c≠0):kD 1 (c:Rat):=by
 rcases Int.lt_trichotomy c 0 with h1 | h1 | h1
 ·left
  have:((c:Int):Rat)≤((-1:Int):Rat):=Rat.intCast_le_intCast.2 (by omega)
  rw [Rat.intCast_neg,Rat.intCast_one]at this
  exact this
 ·exact absurd h1 h
 ·right
  have:((1:Int):Rat)≤((c:Int):Rat):=Rat.intCast_le_intCast.2 (by omega)
  rw [Rat.intCast_one]at this
  exact this
theorem fZ{c:Int}(h:0<c):(1:Rat)≤(c:Rat):=by
 have:((1:Int):Rat)≤((c:Int):Rat):=Rat.intCast_le_intCast.2 (by omega)
 rwa [Rat.intCast_one]at this
theorem acH{M ε ε' x y z q m k:Rat}(hM:2≤M)(he:M*ε'=ε)(hp:0<ε')(hm:1≤m)(hk:1≤k)(hmM:2*m≤M)(hq:Ab (2*q) M)(e:m*x=q*y-k*z)(hy:¬kD ε' y)(hz:kD ε z):kD ε' x∧bT x = -bT z:=by
 have h1:=hq.mul (D8 hy)
 rw [he]at h1
 obtain⟨h2,h3⟩:=h1
 have hε:0<ε:=by rw [←he];exact Rat.mul_pos (by grind) hp
 have h6:=Rat.mul_le_mul_of_nonneg_right hmM (Rat.le_of_lt hp)
 rcases hz with hz | hz
 ·have h4:=Rat.mul_le_mul_of_nonneg_right hk (show 0 ≤ -z by grind)
  have h5:ε≤2*(m*x):=by grind
  have h7:ε'≤x:=Rat.not_lt.1 fun h=>by
   have:=Rat.mul_lt_mul_of_pos_left h (show 0<m by grind)
   grind
  refine⟨.inr h7,?_⟩
  rw [gS (x:=z) (by grind),eZ (x:=x) (by grind)];rfl
 ·have h4:=Rat.mul_le_mul_of_nonneg_right hk (show 0≤z by grind)
  have h5:2*(m*x) ≤ -ε:=by grind
  have h7:x ≤ -ε':=Rat.not_lt.1 fun h=>by
   have:=Rat.mul_lt_mul_of_pos_left h (show 0<m by grind)
   grind
  refine⟨.inl h7,?_⟩
  rw [eZ (x:=z) (by grind),gS (x:=x) (by grind)]
theorem StC.UF{M B t:Rat}(hM:2≤M)(ht:Ab t B):∀ {l:List ZX},StC M B l→UF (zP M l.length) t l
 | [],h=>h
 | [a],h=>by
  obtain⟨c,hc,rfl⟩:=h
  show kD _ (e t (K c))
  rw [z9]
  exact(wF hc).mono (uB hM _)
 | [a,b],h=>by
  obtain⟨c,hc,rfl⟩:=h
  show kD _ (e t (K c))
  rw [z9]
  exact(wF hc).mono (uB hM _)
 | a::b::c::l,h=>by
  obtain⟨h1,m,k,q,hm,hk,he,hmM,hq⟩:=h
  have ih:=StC.UF hM ht h1
  refine⟨ih.mono (IC hM _),?_⟩
  by_cases hb:kD (zP M (a::b::c::l).length) (e t b)
  ·exact .inl hb
  ·have hc:kD (zP M (b::c::l).length) (e t c):=by
    rcases ih.two with h2 | h2
    ·exact absurd (h2.mono (IC hM _)) hb
    ·exact h2
   have Y5:(m:Rat)*e t a=e t q*e t b-k*e t c:=by
    rw [←z9 (t:=t) m,←lI,he,acE,lI,lI,z9]
   obtain⟨g1,g2⟩:=acH hM (IB hM _) (wE hM _) (fZ hm) (fZ hk) hmM (hq t ht) Y5 hb hc
   exact .inr ⟨g1,hc.mono (IC hM _),g2⟩
structure Lcl(L:List ZX)(f:ZX)(B δ:Rat):Prop where
 turns:∀s t,Ab s B→Ab t B→s<t→t-s≤δ→vt L s=vt L t+ind f s t
 simple:∀s t,Ab s B→Ab t B→s<t→t-s≤δ→e s f=0→e t f≠0
theorem MH{h x Q ε:Rat}(hh:0≤h)(hx:Ab x Q)(hQ:h*Q<ε):¬kD ε (h*x):=fun hb=>by
 obtain⟨h1,h2⟩:=(Ab.mul (x:=h) (M:=h) ⟨by grind,Rat.le_refl⟩ hx)
 rcases hb with hb | hb<;>grind
theorem X1{h x Q ε c y d1 d2:Rat}(hh:0<h)(hε:0<ε)(hc:1≤c)(hx:Ab x Q)(hQ:h*Q<ε)(hy:kD ε y)(e1:d1=c*y)(e2:d2-d1=h*x):bT (h*d2)=bT y:=by
 obtain⟨h1,h2⟩:=(Ab.mul (x:=h) (M:=h) ⟨by grind,Rat.le_refl⟩ hx)
 have hs:bT (h*d2)=bT d2:=by rw [sL,eZ hh];omega
 rw [hs]
 rcases hy with hy | hy
 ·have:=Rat.mul_le_mul_of_nonneg_right hc (show 0 ≤ -y by grind)
  rw [gS (show y<0 by grind),gS (show d2<0 by grind)]
 ·have:=Rat.mul_le_mul_of_nonneg_right hc (show 0≤y by grind)
  rw [eZ (show 0<y by grind),eZ (show 0<d2 by grind)]
theorem StC.loc{M B S Q δ:Rat}{f:ZX}{l:List ZX}(hM:2≤M)(hB:1≤B)(hS:0≤S)(h:StC M B (f::l))(hb:∀p∈f::l,(∀c∈p.l,Ab (c:Rat) S)∧xP S B p.l.length≤Q)(hd:∀g k,l=g::k → ∃c:Int,0<c∧bS f=K c*g)
  (hδ:δ*Q<zP M (f::l).length):Lcl (f::l) f B δ:=by
 have hQ0:0≤Q:=by
  obtain⟨h1,h2⟩:=hb f (by simp)
  obtain⟨h3,h4⟩:=pP hS hB f.l.length
  grind
 have hε:=wE hM (f::l).length
 have zL:∀s t:Rat,s<t→t-s≤δ→(t-s)*Q<zP M (f::l).length:=fun s t j3 hd=>by
  have:=Rat.mul_le_mul_of_nonneg_right hd hQ0
  grind
 have key:∀s t,Ab s B→Ab t B→s<t→t-s≤δ→(∀p∈f::l,¬kD (zP M (f::l).length) (e t p-e s p)) ∧ ∀b k,l=b::k→kD (zP M (f::l).length) (e s b)→bT (e t f-e s f)=bT (e s b):=fun s t hs ht j3 hsd=>by
  refine⟨fun p hp=>?_,fun b k hbk JH=>?_⟩
  ·obtain⟨h1,h2⟩:=hb p hp
   show ¬kD _ (qv t p.l-qv s p.l)
   rw [mI]
   exact MH (by grind) ((MG hS hB hs ht p.l h1).mono h2) (zL s t j3 hsd)
  ·obtain⟨c,hc,he⟩:=hd b k hbk
   obtain⟨h1,h2⟩:=hb f (by simp)
   show bT (qv t f.l-qv s f.l)=_
   rw [mI]
   exact X1 (d1:=dd s s f.l) (by grind) hε (fZ hc) ((UE hS hB hs ht f.l h1).mono h2) (zL s t j3 hsd) JH (by rw [←acF,he,lI,z9]) (H8 s t f.l)
 refine⟨fun s t hs ht j3 hsd=>?_,fun s t hs ht j3 hsd h0=>?_⟩
 ·obtain⟨k1,k2⟩:=key s t hs ht j3 hsd
  exact agt hε (h.UF hM hs) k1 k2
 ·obtain⟨k1,k2⟩:=key s t hs ht j3 hsd
  have g:=h.UF hM hs
  have nb:¬kD (zP M (f::l).length) (e s f):=by
   rw [h0]
   rintro(h1 | h1)<;>grind
  match l,g,k2 with
  | [],g,_=>exact absurd g nb
  | b::k,g,k2 =>
   have JH:=g.two.resolve_left nb
   have h2:=k2 b k rfl JH
   intro h3
   rw [h0,h3,show(0:Rat)-0=0 by grind,fS]at h2
   have h4:=eU.1 h2.symm
   rw [h4]at JH
   rcases JH with h1 | h1<;>grind
theorem asB{B δ:Rat}(hδ:0<δ){P:Rat→Rat→Prop}(ht:∀a b c,a<b→b<c→P a b→P b c→P a c)(hs:∀a b,Ab a B→Ab b B→a<b→b-a≤δ→P a b){a b:Rat}(ha:Ab a B)(hb:Ab b B)(iJ:a<b):P a b:=by
 have key:∀(n:Nat) (a b:Rat),Ab a B→Ab b B→a<b→b-a≤(n:Rat)*δ→P a b:=by
  intro n
  induction n with
  | zero=>intro a b _ _ h1 h2;exfalso;rw [show((0:Nat):Rat)=0 from rfl]at h2;grind
  | succ n ih =>
   intro a b ha hb h1 h2
   by_cases h3:b-a≤δ
   ·exact hs a b ha hb h1 h3
   ·have h3:=Rat.not_le.1 h3
    obtain⟨a1,a2⟩:=ha
    obtain⟨b1,b2⟩:=hb
    have hm:Ab (a+δ) B:=⟨by grind,by grind⟩
    refine ht a (a+δ) b (by grind) (by grind) (hs _ _ ⟨a1,a2⟩ hm (by grind) (by grind)) (ih _ _ hm ⟨b1,b2⟩ (by grind) ?_)
    rw [show((n+1:Nat):Rat)=(n:Rat)+1 from by rw [Rat.natCast_add];rfl]at h2
    grind
 have h1:=Rat.lt_floor_add_one ((b-a)/δ)
 have h2:0≤((b-a)/δ).floor:=Rat.le_floor_iff.2 (by
  have:=(Rat.lt_div_iff (a:=0) (b:=b-a) hδ).2 (by grind)
  show((0:Int):Rat)≤_
  rw [Rat.intCast_zero];exact Rat.le_of_lt this)
 refine key ((((b-a)/δ).floor+1).toNat) a b ha hb iJ ?_
 have h3:(((((b-a)/δ).floor+1).toNat:Nat):Rat)=((((b-a)/δ).floor+1:Int):Rat):=by
  rw [←Rat.intCast_natCast,Int.toNat_of_nonneg (by omega)]
 rw [h3]
 have h4:=(Rat.div_lt_iff hδ).1 h1
 exact Rat.le_of_lt h4
structure QO(L:List ZX)(f:ZX):Prop where
 loc:∀B:Rat,1≤B → ∃δ,0<δ∧Lcl L f B δ
theorem mJ(a b:Rat):∃B:Rat,1≤B∧Ab a B∧Ab b B:=by
 have h1:∀x:Rat,∃B:Rat,1≤B∧Ab x B:=fun x=>by
  by_cases h:0≤x
  ·exact⟨x+1,by grind,by grind,by grind⟩
  ·exact⟨-x+1,by grind,by grind,by grind⟩
 obtain⟨A,hA,ha⟩:=h1 a
 obtain⟨B,hB,hb⟩:=h1 b
 exact⟨A+B,by grind,ha.mono (by grind),hb.mono (by grind)⟩
namespace QO
variable {L:List ZX} {f:ZX} (h:QO L f)
include h
theorem agv{P:Rat→Rat→Prop}(ht:∀a b c,a<b→b<c→P a b→P b c→P a c)(hs:∀B δ,Lcl L f B δ → ∀a b,Ab a B→Ab b B→a<b→b-a≤δ→P a b){a b:Rat}(iJ:a<b):P a b:=by
 obtain⟨B,hB,ha,hb⟩:=mJ a b
 obtain⟨δ,hδ,hl⟩:=h.loc B hB
 exact asB hδ ht (hs B δ hl) ha hb iJ
theorem dK{a b:Rat}(iJ:a≤b):vt L b≤vt L a:=by
 rcases Rat.le_iff_lt_or_eq.1 iJ with h1 | rfl
 ·refine h.agv (P:=fun a b=>vt L b≤vt L a) (fun a b c _ _ h1 h2=>Nat.le_trans h2 h1) (fun B δ hl a b ha hb iJ hd=>?_) h1
  rw [hl.turns a b ha hb iJ hd];omega
 ·exact Nat.le_refl _
theorem flat{a b:Rat}(iJ:a<b)(he:vt L a=vt L b):e b f≠0∧(e a f≠0→bT (e b f)=bT (e a f)):=by
 refine h.agv (P:=fun a b=>vt L a=vt L b→e b f≠0∧(e a f≠0→bT (e b f)=bT (e a f))) (fun a b c h1 h2 p1 p2 hac=>?_) (fun B δ hl a b ha hb iJ hd heq=>?_) iJ he
 ·have:=h.dK (Rat.le_of_lt h1)
  have:=h.dK (Rat.le_of_lt h2)
  obtain⟨q1,q2⟩:=p1 (by omega)
  obtain⟨q3,q4⟩:=p2 (by omega)
  exact⟨q3,fun ha=>by rw [q4 q1,q2 ha]⟩
 ·have h1:=hl.turns a b ha hb iJ hd
  have h2:ind f a b=0:=by omega
  unfold ind at h2
  by_cases h0:e a f=0
  ·exact⟨hl.simple a b ha hb iJ hd h0,fun h3=>absurd h0 h3⟩
  ·have h3:bT (e b f)=bT (e a f):=Classical.byContradiction fun h3=>by rw [if_pos ⟨h0,h3⟩]at h2;omega
   refine⟨fun h4=>h0 (eU.1 ?_),fun _=>h3⟩
   rw [←h3,h4,fS]
theorem const{a b:Rat}(iJ:a<b){σ:Int}(h0:e a f=0∨bT (e a f)=σ)(h1:∀x,a<x→x≤b→bT (e x f)=σ):vt L a=vt L b:=by
 refine h.agv (P:=fun x y=>a≤x→y≤b→vt L x=vt L y) (fun x y z sO hyz p1 p2 hax hzb=>(p1 hax (by grind)).trans (p2 (by grind) hzb)) (fun B δ hl x y hx hy sO hd hax hyb=>?_) iJ Rat.le_refl Rat.le_refl
 rw [hl.turns x y hx hy sO hd]
 have h2:ind f x y=0:=if_neg fun h3=>by
  obtain⟨h4,h5⟩:=h3
  rw [h1 y (by grind) hyb]at h5
  rcases Rat.le_iff_lt_or_eq.1 hax with h6 | rfl
  ·exact h5 (h1 x h6 (by grind)).symm
  ·rcases h0 with h0 | h0
   ·exact h4 h0
   ·exact h5 h0.symm
 omega
theorem root{s t:Rat}(j3:s<t)(h0:e t f=0):vt L t<vt L s:=by
 have h1:=h.dK (Rat.le_of_lt j3)
 refine Nat.lt_of_le_of_ne h1 fun h2=>?_
 exact(h.flat j3 h2.symm).1 h0
end QO
theorem UG{a b:Int}{l:List Int}(h:Cn (a::b::l)):Cn (b::l):=by
 unfold Cn at h ⊢
 rw [aI]at h
 split at h
 ·simp at h
 ·simpa using h
theorem X3{a b:Int}{l:List Int}:lead (a::b::l)=lead (b::l):=by
 unfold lead
 simp only [List.length_cons,Nat.add_sub_cancel]
 rw [jM]
end Pm
namespace Pm
open ZX hiding N W
theorem kD.mul{x y η θ:Rat}(hη:0<η)(hθ:0<θ)(h:kD η x)(h':kD θ y):kD (η*θ) (x*y):=by
 have key:∀ {u v:Rat},η≤u→θ≤v→η*θ≤u*v:=fun {u v} h1 h2=>by
  have p1:=Rat.mul_le_mul_of_nonneg_left h2 (Rat.le_of_lt hη)
  have p2:=Rat.mul_le_mul_of_nonneg_right h1 (show 0≤v by grind)
  grind
 rcases h with h | h<;>rcases h' with h' | h'
 ·right;have:=key (show η ≤ -x by grind) (show θ ≤ -y by grind);grind
 ·left;have:=key (show η ≤ -x by grind) h';grind
 ·left;have:=key h (show θ ≤ -y by grind);grind
 ·right;exact key h h'
def Bg(a b:Rat)(p:ZX):Prop:=∃η:Rat,0<η ∧ ∀x,a≤x→x≤b→kD η (e x p)
theorem Bg.mono{a b c d:Rat}{p:ZX}(h:Bg a b p)(hc:a≤c)(hd:d≤b):Bg c d p:=by
 obtain⟨η,h1,h2⟩:=h
 exact⟨η,h1,fun x hx hy=>h2 x (by grind) (by grind)⟩
theorem asC(t:Rat)(n d:Int):e t (of [n,d])=n+d*t:=by
 rw [amp]
 simp only [qv];grind
theorem UH(l:List Int):∃S:Rat,0≤S ∧ ∀c∈l,Ab (c:Rat) S:=by
 induction l with
 | nil=>exact⟨0,Rat.le_refl,fun c hc=>by cases hc⟩
 | cons a l ih =>
  obtain⟨S,hS,h⟩:=ih
  obtain⟨A,hA,ha,_⟩:=mJ a a
  refine⟨S+A,by grind,fun c hc=>?_⟩
  rcases List.mem_cons.1 hc with rfl | hc
  ·exact ha.mono (by grind)
  ·exact(h c hc).mono (by grind)
theorem dE{a b x B:Rat}(ha:Ab a B)(hb:Ab b B)(hx:a≤x)(hy:x≤b):Ab x B:=by
 obtain⟨h1,h2⟩:=ha
 obtain⟨h3,h4⟩:=hb
 exact⟨by grind,by grind⟩
end Pm
namespace Go.Proofs.YtiobceocpabjdaaGreat
open Go Pm
abbrev T2(n d:Int):PV:=.ag [.bool (decide (n<0)),us (aU LL n.natAbs), .bool (decide (d<0)),us (aU LL d.natAbs)]
abbrev RT(q:Rat):PV:=T2 q.num q.den
theorem amq(n d:Int):((bL [n,d]:Nat):Int)=Int.gcd n d:=by
 simp only [bL,List.foldl_cons,List.foldl_nil,Nat.gcd_zero_left]
 rfl
theorem amr{n d:Int}(h:d≠0):(dJ n d).num=(if d<0 then -n else n)/(bL [n,d]:Nat)∧((dJ n d).den:Int)=(if d<0 then -d else d)/(bL [n,d]:Nat):=by
 have e:∀m k:Int,(m=n∨m = -n)→(k=d∨k = -d)→((Int.gcd m k:Nat):Int)=(bL [n,d]:Nat):=fun m k hm hk=>by
  rw [amq]
  rcases hm with rfl | rfl<;>rcases hk with rfl | rfl<;>simp
 rw [pG n d h,pH n d h]
 constructor
 ·rw [e _ _ (by split<;>simp) (by split<;>simp)]
 ·rw [e _ _ (by split<;>simp) (by split<;>simp)]
theorem C2{n d:Int}(hn:sz LL n<1099511627770)(hd:sz LL d<1099511627770)(h0:d≠0):aH env.P 169 [I n,I d] (RT (dJ n d)):=by
 have sn:Sz n:=by show _<_;omega
 have sd:Sz d:=by show _<_;omega
 have g0:=B0 [iM n,iM d] 1099511627770 (by decide) (fun c hc=>by
  simp only [List.mem_cons,List.not_mem_nil,or_false]at hc
  rcases hc with rfl | rfl
  ·exact⟨eQ eB _,by unfold sz at hn;show(aU LL n.natAbs).length≤_;omega⟩
  ·exact⟨eQ eB _,by unfold sz at hd;show(aU LL d.natAbs).length≤_;omega⟩) (by simp)
 rw [show [iM n,iM d].map gv = [n,d]by simp [S1]]at g0
 obtain⟨q1,q2⟩:=amr (n:=n) h0
 have gd1:((bL [n,d]:Nat):Int)∣n:=eN _ n (by simp)
 have gd2:((bL [n,d]:Nat):Int)∣d:=eN _ d (by simp)
 have gne:((bL [n,d]:Nat):Int)≠0:=by
  have:=LJ (x:=[n,d]) (c:=d) (by simp) h0;omega
 have gle:((bL [n,d]:Nat):Int).natAbs≤d.natAbs:=Nat.le_of_dvd (by omega) (Int.natAbs_dvd_natAbs.2 gd2)
 have gsz:sz LL ((bL [n,d]:Nat):Int)<1099511627774:=Nat.lt_of_le_of_lt (cB eB gle) (by omega)
 have nn:∀v,pB (aU LL v)↔pB (aU LL v):=fun _=>Iff.rfl
 have neg:∀v:Int,Sz v→aH env.P 148 [I v] (I (-v)):=fun v hv=>by
  have:=BQ (decide (v<0)) (aU LL v.natAbs) hv.WJ
  rw [show iv (decide (v<0)) (aU LL v.natAbs)=v from S1 v]at this
  exact this
 generalize hg:((bL [n,d]:Nat):Int)=g at *
 have ex:∀v:Int,g∣v→sz LL v<1099511627774→aH env.P 234 [I v,I g] (.fG [I (v/g), .int .i64 0]):=fun v hv hs=>by
  have:=vM hs gsz gne
  rw [if_pos (Int.emod_eq_zero_of_dvd hv)]at this
  exact this
 have n1:=neg n sn
 have n2:=neg d sd
 have asD:∀v:Int,sz LL (-v)=sz LL v:=fun v=>by unfold sz;rw [Int.natAbs_neg]
 have e1:=ex (if d<0 then -n else n) (by split;exact(Int.dvd_neg.2 gd1);exact gd1) (by split;rw [asD];omega;omega)
 have e2:=ex (if d<0 then -d else d) (by split;exact(Int.dvd_neg.2 gd2);exact gd2) (by split;rw [asD];omega;omega)
 rw [←q1]at e1
 rw [←q2]at e2
 have eg:Pg [iM n,iM d] = .sl [[.bool (decide (n<0)),us (aU LL n.natAbs)],[.bool (decide (d<0)),us (aU LL d.natAbs)]]:=rfl
 rw [eg]at g0
 show aH env.P _ _ (T2 (dJ n d).num (dJ n d).den)
 generalize (dJ n d).num=rn at *
 generalize ((dJ n d).den:Int)=rd at *
 refine cA [(0,I n),(1,I d)] Tryz.func169 ?_
 refine aA [2,3,4] ?_
 refine aY [2,3,4,5] g0 ?_
 generalize EL:(if d<0 then -n else n)=n' at *
 generalize Z8:(if d<0 then -d else d)=d' at *
 refine W.gD (fun σ=>∃(rows:Pm.Rows) (clk:Nat),σ=⟨fa [(2, .ptr 2 0 0 0),(3, .ptr 3 1 0 0),(4, .ptr 4 2 0 0),(5, .ptr 5 3 0 0)],rows,clk⟩∧rows 2=some ⟨0,38,2,[ie n']⟩∧rows 3=some ⟨1,38,2,[ie d']⟩∧rows 4=some ⟨2,52,4,[[.bool false, .nil, .bool false, .nil]]⟩∧rows 5=some ⟨3,38,2,[ie g]⟩) ?_ ?_
 ·refine aA [2,3,4,5,11] ?_
  refine bP ?_ ?_<;>intro h
  ·have h:d<0:=by simpa using h
   rw [if_pos h]at EL Z8
   subst EL Z8
   refine W.BI (fun K hK=>?_)
   simp (disch:=omega) [gw]
   refine b8 n1 ?_
   refine b8 n2 ?_
   (try (refine bF (of_decide_eq_true (by kernel_rfl)) ?_));(try simp (maxSteps:=4000000) (disch:=omega) [gw]);(repeat rw [if_pos (by kernel_rfl)]);(try simp (maxSteps:=4000000) (disch:=omega) [gw])
   (try (refine bF (of_decide_eq_true (by kernel_rfl)) ?_));(try simp (maxSteps:=4000000) (disch:=omega) [gw]);(repeat rw [if_pos (by kernel_rfl)]);(try simp (maxSteps:=4000000) (disch:=omega) [gw])
   exact hK _ ⟨_,aC _ [2,3,4,5],_,_,rfl,by simp,by simp,by simp,by simp⟩
  ·have h:¬d<0:=by simpa using h
   rw [if_neg h]at EL Z8
   subst EL Z8
   refine W.skip ?_
   exact⟨_,aC _ [2,3,4,5],_,_,rfl,by simp,by simp,by simp,by simp⟩
 rintro _ ⟨rows,clk,rfl,cR,fU,gN,dY⟩
 simp only [ie]at cR fU dY
 refine W.sr ?_
 simp (disch:=omega) [gw,cR,dY]
 refine aD e1 ?_
 simp (disch:=omega) [gw,cR]
 refine bO [2,3,4,5] ?_
 refine W.sr ?_
 simp (disch:=omega) [gw,fU,dY]
 refine aD e2 ?_
 simp (disch:=omega) [gw,fU]
 refine bO [2,3,4] ?_
 refine W.sr ?_
 simp (disch:=omega) [gw,gN]
 refine bO [4] ?_
 exact cP
theorem X4(d:Int):aH env.P 124 [I d] (.bool (decide (d=0))):=by
 have:=BS (decide (d<0)) (aU LL d.natAbs)
 rw [show decide ((aU LL d.natAbs).length=0)=decide (d=0)from by
  by_cases h:d=0
  ·subst h;rfl
  ·have:aU LL d.natAbs ≠ []:=fun h2=>h (by have:=jX eB d.natAbs;rw [h2]at this;simp [V]at this;omega)
   have h3:=List.length_pos_iff.2 this
   simp [h];omega]at this
 exact this
theorem QP(n:Int):dJ n 0=dJ n 1:=by rw [kR,dJ,if_pos rfl]
theorem xQ{n d:Int}(hn:sz LL n<1099511627770)(hd:sz LL d<1099511627770):aH env.P 147 [T2 n d] (RT (dJ n d)):=by
 have sn:Sz n:=by show _<_;omega
 have sd:Sz d:=by show _<_;omega
 have n1:=abj sn
 have n2:=abj sd
 have z1:=X4 d
 have o1:=tN 1 (by decide) (by decide)
 obtain⟨e,he,hed⟩:∃e,e=(if d=0 then 1 else d)∧dJ n e=dJ n d:=by
  refine⟨_,rfl,?_⟩
  split
  ·rename_i h;rw [h,QP]
  ·rfl
 have he1:sz LL e<1099511627770:=by
  rw [he]
  split
  ·exact Nat.lt_of_le_of_lt (cK (k:=1) eB (by decide)) (by decide)
  ·exact hd
 have Y5:e≠0:=by
  rw [he]
  split
  ·decide
  ·assumption
 have l1:=C2 (n:=n) (d:=e) hn he1 Y5
 rw [hed]at l1
 show aH env.P _ _ (T2 (dJ n d).num (dJ n d).den)
 replace l1:aH env.P 169 [I n,I e] (T2 (dJ n d).num (dJ n d).den):=l1
 clear hed he1 Y5
 generalize (dJ n d).num=rn at *
 generalize ((dJ n d).den:Int)=rd at *
 refine cA [(0,T2 n d)] Tryz.func147 ?_
 refine aA [1,2] ?_
 refine aY [1,2,3] n2 ?_
 refine W.gD (fun σ=>∃(rows:Pm.Rows) (clk:Nat),σ=⟨fa [(1, .ptr 1 0 0 0),(2, .ptr 2 1 0 0),(3, .ptr 3 2 0 0)],rows,clk⟩∧rows 1=some ⟨0,52,4,[[.bool (decide (n<0)),us (aU LL n.natAbs), .bool (decide (d<0)),us (aU LL d.natAbs)]]⟩∧rows 2=some ⟨1,52,4,[[.bool false, .nil, .bool false, .nil]]⟩∧rows 3=some ⟨2,38,2,[[.bool (decide (e<0)),us (aU LL e.natAbs)]]⟩) ?_ ?_
 ·refine aY [1,2,3,8] z1 ?_
  refine bP ?_ ?_<;>intro h
  ·have h:d=0:=by simpa using h
   rw [if_pos h]at he
   subst he
   refine W.b9 (fun K hK=>?_)
   simp (disch:=omega) [gw]
   refine b8 o1 ?_
   exact hK _ ⟨_,aC _ [1,2,3],_,_,rfl,by simp,by simp,by simp⟩
  ·have h:¬d=0:=by simpa using h
   rw [if_neg h]at he
   subst he
   refine W.skip ?_
   exact⟨_,aC _ [1,2,3],_,_,rfl,by simp,by simp,by simp⟩
 rintro _ ⟨rows,clk,rfl,yN,cR,fU⟩
 refine W.sd ?_
 simp (disch:=omega) [gw,yN]
 refine aD n1 ?_
 simp (disch:=omega) [gw,fU]
 refine aD l1 ?_
 simp (disch:=omega) [gw,cR]
 (try (refine bF (of_decide_eq_true (by kernel_rfl)) ?_));(try simp (maxSteps:=4000000) (disch:=omega) [gw,cR]);(repeat rw [if_pos (by kernel_rfl)]);(try simp (maxSteps:=4000000) (disch:=omega) [gw,cR])
 refine bO [2] ?_
 exact cP
theorem FP{n d m e:Int}{k:Nat}(hn:sz LL n≤k)(hd:sz LL d≤k)(hm:sz LL m≤k)(he:sz LL e≤k)(hk:k≤500000000000){p q:Rat}(hp:dJ n d=p)(hq:dJ m e=q)(sp:sz LL p.num≤k∧sz LL (p.den:Int)≤k)(sq:sz LL q.num≤k∧sz LL (q.den:Int)≤k) :
  aH env.P 165 [T2 n d,T2 m e] (.fG [I (p.num*q.den),I (q.num*p.den),I ((p.den:Int)*q.den)]):=by
 have n1:=xQ (n:=n) (d:=d) (by omega) (by omega)
 have n2:=xQ (n:=m) (d:=e) (by omega) (by omega)
 rw [hp]at n1
 rw [hq]at n2
 have z:∀ {v:Int},sz LL v≤k→Sz v:=fun h=>by show _<_;omega
 have m1:=s8 (z sp.1) (z sq.2)
 have m2:=s8 (z sq.1) (z sp.2)
 have m3:=s8 (z sp.2) (z sq.2)
 replace n1:aH env.P 147 [T2 n d] (T2 p.num p.den):=n1
 replace n2:aH env.P 147 [T2 m e] (T2 q.num q.den):=n2
 clear sp sq hp hq
 generalize p.num*(q.den:Int)=x1 at *
 generalize q.num*(p.den:Int)=x2 at *
 generalize (p.den:Int)*(q.den:Int)=x3 at *
 generalize p.num=pn at *
 generalize (p.den:Int)=pd at *
 generalize q.num=qn at *
 generalize (q.den:Int)=qd at *
 refine cA [(0,T2 n d),(1,T2 m e)] Tryz.func165 ?_
 refine aA [2,3,4,5,6] ?_
 refine kB ?_
 refine b8 n1 ?_
 refine b8 n2 ?_
 (try (refine bF (of_decide_eq_true (by kernel_rfl)) ?_));(try simp (maxSteps:=4000000) (disch:=omega) [gw]);(repeat rw [if_pos (by kernel_rfl)]);(try simp (maxSteps:=4000000) (disch:=omega) [gw])
 (try (refine bF (of_decide_eq_true (by kernel_rfl)) ?_));(try simp (maxSteps:=4000000) (disch:=omega) [gw]);(repeat rw [if_pos (by kernel_rfl)]);(try simp (maxSteps:=4000000) (disch:=omega) [gw])
 refine bO [2,3,4,5,6] ?_
 refine W.sd ?_
 simp (maxSteps:=4000000) (disch:=omega) [gw]
 refine aD m1 ?_
 simp (maxSteps:=4000000) (disch:=omega) [gw]
 refine aD m2 ?_
 simp (maxSteps:=4000000) (disch:=omega) [gw]
 refine aD m3 ?_
 simp (maxSteps:=4000000) (disch:=omega) [gw]
 (try (refine bF (of_decide_eq_true (by kernel_rfl)) ?_));(try simp (maxSteps:=4000000) (disch:=omega) [gw]);(repeat rw [if_pos (by kernel_rfl)]);(try simp (maxSteps:=4000000) (disch:=omega) [gw])
 (try (refine bF (of_decide_eq_true (by kernel_rfl)) ?_));(try simp (maxSteps:=4000000) (disch:=omega) [gw]);(repeat rw [if_pos (by kernel_rfl)]);(try simp (maxSteps:=4000000) (disch:=omega) [gw])
 (try (refine bF (of_decide_eq_true (by kernel_rfl)) ?_));(try simp (maxSteps:=4000000) (disch:=omega) [gw]);(repeat rw [if_pos (by kernel_rfl)]);(try simp (maxSteps:=4000000) (disch:=omega) [gw])
 refine bO [4,5,6] ?_
 exact cP
theorem kM{n d m e:Int}{k:Nat}(hn:sz LL n≤k)(hd:sz LL d≤k)(hm:sz LL m≤k)(he:sz LL e≤k)(hk:k≤500000000000){p q:Rat}(hp:dJ n d=p)(hq:dJ m e=q)(sp:sz LL p.num≤k∧sz LL (p.den:Int)≤k)(sq:sz LL q.num≤k∧sz LL (q.den:Int)≤k) :
  aH env.P 86 [T2 n d,T2 m e] (.int .i64 (eD (p.num*q.den) (q.num*p.den))):=by
 have c1:=FP hn hd hm he hk hp hq sp sq
 have g1:=cE (b:=LL) eB sp.1 sq.2
 have g2:=cE (b:=LL) eB sq.1 sp.2
 have w1:=ain (x:=p.num*q.den) (y:=q.num*p.den) (by show _<_;omega) (by show _<_;omega)
 clear sp sq hp hq g1 g2
 generalize eD (p.num*(q.den:Int)) (q.num*(p.den:Int))=r at *
 generalize p.num*(q.den:Int)=x1 at *
 generalize q.num*(p.den:Int)=x2 at *
 generalize (p.den:Int)*(q.den:Int)=x3 at *
 refine cA [(0,T2 n d),(1,T2 m e)] Tryz.func86 ?_
 refine aA [2,3] ?_
 refine aY [5,6] c1 ?_
 refine aY [4] w1 ?_
 exact cP
theorem MI{n d:Int}(hn:sz LL n<1099511627770)(hd:sz LL d<1099511627770):aH env.P 90 [T2 n d, .sl []] (RT (dJ n d)):=by
 have n1:=xQ hn hd
 show aH env.P _ _ (T2 (dJ n d).num (dJ n d).den)
 replace n1:aH env.P 147 [T2 n d] (T2 (dJ n d).num (dJ n d).den):=n1
 generalize (dJ n d).num=rn at *
 generalize ((dJ n d).den:Int)=rd at *
 refine cA [(0,T2 n d),(1, .sl [])] Tryz.func90 ?_
 refine aA [1,2,4] ?_
 refine aY [1,4,5] n1 ?_
 refine aM [4,5,10,11,12] ?_
 refine W.block ?_
 refine W.a8 (fun k σ=>∃(rows:Pm.Rows) (clk:Nat),σ=⟨fa [(4, .ptr 4 1 0 0),(5, .ptr 5 2 0 0),(11, .int .i64 0),(12, .int .i64 0)],rows,clk⟩∧rows 4=some ⟨1,52,4,[[.bool false, .nil, .bool false, .nil]]⟩∧rows 5=some ⟨2,52,4,[[.bool (decide (rn<0)),us (aU LL rn.natAbs), .bool (decide (rd<0)),us (aU LL rd.natAbs)]]⟩) 0 ?_ ?_
 ·exact⟨_,aC _ [4,5,11,12],_,_,rfl,by simp,by simp⟩
 rintro k _ ⟨rows,clk,rfl,gN,dY⟩
 refine cC [4,5,11,12,13] ?_
 refine bP ?_ ?_<;>intro h
 ·simp at h
 ·refine eJ ?_
  refine W.sr ?_
  simp (disch:=omega) [gw,gN,dY]
  refine bO [4] ?_
  exact cP
theorem X5{n d:Int}(hn:sz LL n<1099511627770)(hd:sz LL d<1099511627770):aH env.P 166 [T2 n d] (RT (dJ n d)):=by
 have n1:=MI hn hd
 show aH env.P _ _ (T2 (dJ n d).num (dJ n d).den)
 replace n1:aH env.P 90 [T2 n d, .sl []] (T2 (dJ n d).num (dJ n d).den):=n1
 generalize (dJ n d).num=rn at *
 generalize ((dJ n d).den:Int)=rd at *
 refine cA [(0,T2 n d)] Tryz.func166 ?_
 refine aA [1,2] ?_
 refine aY [2] n1 ?_
 exact cP
end Go.Proofs.YtiobceocpabjdaaGreat
