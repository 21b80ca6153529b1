import Derived.Test.YtiobceocpabjdaaGreatZai
import Derived.Test.YtiobceocpabjdaaGreatZal
import Derived.Test.YtiobceocpabjdaaGreatZam
set_option linter.unusedSimpArgs false
set_option linter.unusedVariables false
namespace Go.Proofs.YtiobceocpabjdaaGreat
open Go Pm
def rz(a c:ZX):ZX:=ZX.of (rq c.l (a.l.length+1) a.l)
theorem sS{a c:ZX}(hc:c≠0):(rz a c).l=rq c.l (a.l.length+1) a.l∧ZX.N (rz a c)<ZX.N c ∧ ∃(m:Int) (q:ZX),m≠0∧ZX.K m*a=q*c+ZX.K 1*rz a c:=by
 obtain⟨h1,h2,m,q,hm,h3⟩:=VS c.c (ZX.aE.1 hc) (a.l.length+1) a.l a.c (by omega)
 have e:(rz a c).l=rq c.l (a.l.length+1) a.l:=h1
 refine⟨e,by show(rz a c).l.length<c.l.length;rw [e];exact h2,m,ZX.of q,hm,ZX.ext fun t=>?_⟩
 rw [ZX.eD,ZX.wB,ZX.mG,ZX.eD,ZX.eD,ZX.wB,ZX.ZC,e,h3 t];omega
theorem VT{s n:Nat}{a c:ZX}(ha:BZ s n a)(hb:BZ s n c)(hc:c≠0):BZ (s+(ZX.N a+1-ZX.N c)*(s+n+1)) n (rz a c):=by
 have h:=aj7 hb (ZX.aE.1 hc) (a.l.length+1) (ZX.N a+1-ZX.N c) s a.l ha (by show ZX.N a+1≤ZX.N c+_;omega)
 rw [←(sS hc).1]at h
 exact h
theorem ZI{s n C:Nat}{a c:ZX}(b:BZ s n a)(b':BZ s n c)(hP:zU C n s (nf a) (nf c))(hn:n≤20)(hC:C≤4500000000)(h1:1≤s):aF env.P 203 [PI a.l,PI c.l] (PI (gz a c).l):=by
 have hs:=hP.le
 have p1:=lM b h1 (by show s≤137438953472;omega) (by omega)
 have p2:=lM b' h1 (by show s≤137438953472;omega) (by omega)
 have b1:=b.nf
 have b2:=b'.nf
 have hg:gz (nf a) (nf c)=gz a c:=by rw [VJ,SA]
 have hx1:=NQ a
 rw [←hg]
 generalize o7:nf a=x0 at *
 generalize RB:nf c=y0 at *
 generalize hG:gz x0 y0=G at *
 refine cD [(0,PI a.l),(1,PI c.l)] Tryz.func203 ?_
 generalize a.l=al at *
 generalize c.l=cl at *
 refine aA [0,1] ?_
 refine jG ?_
 refine cU p1 ?_
 refine cQ [0,1] p2 ?_
 refine W.seq ?_
 refine W.block ?_
 refine W.bE (fun k σ=>∃(x y:ZX) (s:Nat) (rows:Pm.Rows) (clk:Nat),σ=⟨fa [(0,PI x.l),(1,PI y.l)],rows,clk⟩∧BZ s n x∧BZ s n y∧1≤s∧zU C n s x y∧gz x y=G∧nf x=x∧nf y=y∧k=ZX.N y) (ZX.N y0) ?_ ?_
 ·exact⟨_, .refl,x0,y0,s,_,_,rfl,b1,b2,h1,hP,hG,hx1,by rw [←RB,NQ],rfl⟩
 rintro k _ ⟨x,y,s,rows,clk,rfl,bx,sP,h1,hp,hgz,hnx,hny,rfl⟩
 have hs:=hp.le
 have hlx:=bx.len
 have hly:=sP.len
 refine aP [0,1,11] ?_
 refine bJ ?_ ?_<;>intro h
 ·have hy:y≠0:=ZX.aE.2 (by show 0<y.l.length;simp at h;omega)
  obtain⟨XZ,hN,m,q,hm,e⟩:=sS (a:=x) hy
  have br:=VT bx sP hy
  have hmul:(x.l.length+1-y.l.length+1)*(s+n+1)≤22*4500000000:=Nat.mul_le_mul (by omega) (by omega)
  have aj9:(ZX.N x+1-ZX.N y)*(s+n+1)≤22*4500000000:=Nat.mul_le_mul (by have:ZX.N x=x.l.length:=rfl;omega) (by omega)
  have hR:=GP (s:=s) (s':=s) (N:=n) bx sP x.c y.c (ZX.aE.1 hy) (by omega) (by show _<137438953472;omega)
  rw [←XZ]at hR
  have pr:=lM br (by omega) (by show _≤137438953472;omega) (by omega)
  have D5:ZX.N (nf (rz x y))<ZX.N y:=by rw [xT];exact hN
  have D6:=hp.step D5
  have qT:=JA hm (show (1:Int)≠0 by decide) e
  rw [←SA y (rz x y)]at qT
  have br2:=br.nf
  have hnn:=NQ (rz x y)
  generalize (rz x y).l=rl at *
  generalize nf (rz x y)=r2 at *
  refine W.skip ?_
  refine W.block ?_
  refine W.cA (fun K hK=>?_)
  simp (disch:=omega) [gw]
  refine cU hR ?_
  refine cU pr ?_
  refine hK _ ⟨ZX.N r2,_,aB _ [0,1],D5,y,r2,_,_,_,rfl,sP.mono (by omega) (Nat.le_refl _),br2,by omega,D6,by rw [←qT,hgz],hny,hnn,rfl⟩
 ·have hy:y=0:=by
   refine Classical.byContradiction fun h0=>?_
   have h1:=ZX.aE.1 h0
   have h2:ZX.N y=y.l.length:=rfl
   simp at h;rw [h2,h]at h1;simp at h1
  subst hy
  rw [sO,hnx]at hgz
  subst hgz
  refine fH ?_
  refine aA [4] ?_
  exact cC
theorem ZJ{h h' n:Nat}{a c:ZX}(b:BZ h n a)(b':BZ h' n c)(h1:1≤h)(ha:Nf a)(hc:Nf c)(hd:ZX.dv c a)(hB:h+(n+1)*(h'+n+2)+h'+n+n+10<137438953472):aF env.P 256 [PI a.l,PI c.l] (.dU [PI (qz a c).l,PI []]):=by
 obtain⟨hw,e⟩:=n6 ha hc hd
 have hD:=NI a.l c.l b b' a.c c.c (ZX.aE.1 hc.ne) h1 hB
 obtain⟨e1,e2⟩:=adg (q:=(qz a c).l) a.c c.c (ZX.aE.1 hc.ne) (qz a c).c fun t=>by
  conv=>lhs;rw [e]
  rw [ZX.eD]
 rw [e1,e2,tN,tN,tN]at hD
 exact hD
def zq(a:ZX):List PV:=[PI a.l]
@[simp] theorem azd{a:ZX}:zq a = [PI a.l]:=rfl
@[simp] theorem aqi{l:List ZX}:bH 1 (emap zq l)=True:=cH fun _=>rfl
@[simp] theorem anO{v e n:Nat}{l:List ZX}:cW (some ⟨v,e,n,emap zq l⟩)=True:=bU fun _=>rfl
@[simp] theorem aze{l:List ZX}{a:ZX}:emap zq l ++ [[aN ri a.l]]=emap zq (l ++ [a]):=by simp [emap]
theorem qL.qd{s n:Nat}{a c d:ZX}(h:qL s n a)(h1:1≤s)(ha:Nf a)(hc:Nf c)(hd:Nf d)(hca:ZX.dv c a)(hdc:ZX.dv d c):aF env.P 256 [PI c.l,PI d.l] (.dU [PI (qz c d).l,PI []])∧aF env.P 78 [PI (qz c d).l] (PI (qz c d).l):=by
 have b:=h.dv ha hc hca
 have b2:=h.dv ha hd (hdc.trans hca)
 have hq:=h.rW
 have hn:=h.hn
 obtain⟨hw,e⟩:=n6 hc hd hdc
 have bq:=h.dv ha hw ((adt hc hd hdc).trans hca)
 have hm:(n+1)*(qb s n+n+2)≤21*4500000000:=Nat.mul_le_mul (by omega) (by omega)
 have anP:1≤qb s n:=by unfold qb;omega
 refine⟨ZJ b b2 anP hc hd hdc (by omega),?_⟩
 have:=lM bq anP (by show _≤137438953472;omega) (by omega)
 rwa [hw.nfe]at this
theorem qL.qgd{s n:Nat}{a c:ZX}(h:qL s n a)(ha:Nf a)(hc:Nf c)(hd:ZX.dv c a):aF env.P 160 [PI c.l] (PI (ZX.bT c).l)∧aF env.P 203 [PI c.l,PI (ZX.bT c).l] (PI (gd c).l):=by
 have b:=h.dv ha hc hd
 have b2:=b.bT (by have:=h.hn;omega)
 have hq:=h.rW
 have hn:=h.hn
 have anP:1≤qb s n:=by unfold qb;omega
 refine⟨wC b (by show _≤137438953472;omega) (by omega),ZI (s:=qb s n+5) (b.mono (by omega) (Nat.le_refl _)) b2 ?_ h.hn (C:=4500000000) (Nat.le_refl _) (by omega)⟩
 have hN:=ZX.n5 c
 have h1:ZX.N c≤n:=b.N
 have h2:=ZX.aE.1 hc.ne
 unfold zU
 rw [xT,xT,if_pos (by omega)]
 refine Nat.le_trans (Nat.mul_le_mul (show qb s n+5+n+1≤qb s n+n+6 by omega) (Nat.pow_le_pow_right (by decide) h1)) h.hC
theorem JD{s n:Nat}{a:ZX}(h:qL s n a)(h1:1≤s):aF env.P 207 [PI a.l] (aN zq (fl (nf a))):=by
 have hqb:=h.rW
 have hn:=h.hn
 have vO:s≤4500000000:=by unfold qb at hqb;omega
 have p1:=lM h.bz h1 (by show s≤137438953472;omega) (by omega)
 have hA:=h.nfz
 have hNa:ZX.N a=a.l.length:=rfl
 have hNN:=xT a
 have hle:=NS (nf a)
 have hNA:ZX.N (nf a)≤n:=hA.bz.N
 refine cD [(0,PI a.l)] Tryz.func207 ?_
 refine aA [0] ?_
 refine aP [0,2,15] ?_
 refine bJ ?_ ?_<;>intro h
 ·have h2:ZX.N a≤1:=by simp at h;omega
  have h3:fl (nf a) = []:=by unfold fl;rw [NX (by rw [hNN];exact h2)];rfl
  rw [h3]
  refine aA [2] ?_
  refine W.L0 2 (aN zq []) (by simp) rfl (fun K hK=>?_)
  refine W.lw [2] hK ?_;clear hK K;simp
  exact cC
 have h2:2≤ZX.N a:=by simp at h;omega
 have nA:Nf (nf a):=jB (ZX.aE.2 (by omega))
 clear h
 generalize nf a=A at *
 obtain⟨m,hm⟩:∃m,m=nl A:=⟨_,rfl⟩
 have hfl:fl A=(List.range m).map (nP A):=by rw [hm];rfl
 rw [hfl]
 refine W.skip ?_
 refine aR [0] p1 ?_
 refine aA [0,3] ?_
 refine W.aj8 1 rfl rfl (fun K hK=>?_)
 simp (disch:=omega) [gw]
 refine W.lw [3,4] hK ?_;clear hK K;simp
 refine W.seq ?_
 refine W.block ?_
 refine W.bE (fun k σ=>∃(i ver:Nat) (rows:Pm.Rows) (clk:Nat),σ=⟨fa [(3, .nil),(4, .own 19 ver 0 (i+1))],rows,clk⟩∧rows 19=some ⟨ver,46,1,emap zq ((List.range (i+1)).map (gs A))⟩∧i+k=m) m ?_ ?_
 ·exact⟨_, .refl,0,_,_,_,rfl,by simp [emap,gs],by omega⟩
 rintro k _ ⟨i,ver,rows,clk,rfl,hr,zT⟩
 have uC:((List.range (i+1)).map (gs A)).length=i+1:=by simp
 have xU:nth ((List.range (i+1)).map (gs A)) i=gs A i:=gB _ (by omega)
 have er:(List.range (i+1+1)).map (gs A)=(List.range (i+1)).map (gs A) ++ [gs A (i+1)]:=by rw [List.range_succ,List.map_append];rfl
 have e1:((i:Int)+1-1).toNat=i:=by omega
 generalize hL:(List.range (i+1)).map (gs A)=L at *
 refine W.seq ?_
 refine W.sr ?_
 simp (disch:=omega) [gw,hr,uC,xU]
 refine bG [3,4,27] ?_
 refine bJ ?_ ?_<;>intro h
 ·have h3:2≤ZX.N (gs A i):=by
   have h4:ZX.N (gs A i)=(gs A i).l.length:=rfl
   simp at h;omega
  clear h
  have hi:i<nl A:=by
   rcases Nat.lt_or_ge i (nl A)with h4 | h4
   ·exact h4
   ·have h5:=(mO A).1
    rw [show nl A=i by omega]at h5;omega
  obtain⟨t1,t2⟩:=hA.qgd nA (nG nA i) (GO A i)
  rw [show gd (gs A i)=gs A (i+1)from rfl]at t2
  generalize hg:(gs A i).l=g at *
  generalize qT:gs A (i+1)=g2 at *
  refine W.skip ?_
  refine W.block ?_
  refine W.sr ?_
  simp (disch:=omega) [gw,hr,uC,xU,hg]
  refine bG [3,4,5] ?_
  refine W.cA (fun K hK=>?_)
  simp (disch:=omega) [gw]
  refine cU t1 ?_
  refine aC t2 ?_
  simp (disch:=omega) [gw,hr,uC]
  refine hK _ ⟨k-1,_,aB _ [3,4],by omega,i+1,_,_,_,rfl,by rw [er];simp,by omega⟩
 have h3:ZX.N (gs A i)≤1:=by
  have h4:ZX.N (gs A i)=(gs A i).l.length:=rfl
  simp at h;omega
 clear h
 have hi:i=m:=by
  rcases Nat.lt_or_ge i (nl A)with h4 | h4
  ·have:=(mO A).2 i h4;omega
  ·omega
 subst hi
 have hR:L ++ [(1:ZX)]=(List.range (i+2)).map (gs A):=by
  rw [show(1:ZX)=gs A (i+1)by rw [hm,NT nA 1]]
  exact er.symm
 have kA:=N7
 generalize hz:(1:ZX)=z1 at *
 refine fH ?_
 refine jG ?_
 refine aC kA ?_
 simp (disch:=omega) [gw,hr,uC]
 refine bG [3,4] ?_
 clear hr xU e1 er hL uC
 have hRl:(L ++ [z1]).length=i+2:=by rw [hR];simp
 have xU:∀j,j<i+2→nth (L ++ [z1]) j=gs A j:=fun j hj=>by rw [hR];exact gB _ hj
 generalize L ++ [z1]=R at *
 have hRt:List.take (i+2) R=R:=List.take_of_length_le (by omega)
 refine W.freeze 19 (by simp) (fun K hK=>?_)
 simp [hRt]
 refine hK _ ?_;clear hK K
 refine W.nil 3 3 46 1 (by simp) (by decide) (fun K hK=>?_)
 refine W.lw [3,4] hK ?_;clear hK K;simp
 refine aP [3,4,6] ?_
 refine W.block ?_
 refine W.bE (fun k σ=>∃(j ver:Nat) (rows:Pm.Rows) (clk:Nat),σ=⟨fa [(3, .own 3 ver 0 j),(4,aN zq R),(6, .int .i64 j)],rows,clk⟩∧rows 3=some ⟨ver,46,1,emap zq ((List.range j).map (nP A))⟩∧j+k=i) i ?_ ?_
 ·exact⟨_, .refl,0,_,_,_,rfl,by simp [emap],by omega⟩
 clear rows clk ver zT k
 rintro k _ ⟨j,ver,rows,clk,rfl,hr,hjk⟩
 have hjl:((List.range j).map (nP A)).length=j:=by simp
 refine W.seq ?_
 refine W.sr ?_
 simp (disch:=omega) [gw,hRl]
 refine bG [3,4,6,50] ?_
 refine bJ ?_ ?_<;>intro h
 ·have hj:j<i:=by simp at h;omega
  clear h
  have er:(List.range (j+1)).map (nP A)=(List.range j).map (nP A) ++ [nP A j]:=by rw [List.range_succ,List.map_append];rfl
  have n0:=xU j (by omega)
  have n1:=xU (j+1) (by omega)
  have n2:=xU (j+2) (by omega)
  have l0:j<R.length:=by omega
  have l1:j+1<R.length:=by omega
  have l2:j+2<R.length:=by omega
  have e1:((j:Int)+1).toNat=j+1:=by omega
  have e2:((j:Int)+2).toNat=j+2:=by omega
  obtain⟨d1,q1⟩:=hA.qd h1 nA (nG nA j) (nG nA (j+1)) (GO A j) (zA _)
  obtain⟨d2,q2⟩:=hA.qd h1 nA (nG nA (j+1)) (nG nA (j+2)) (GO A (j+1)) (zA _)
  obtain⟨d3,q3⟩:=hA.qd h1 nA (gH nA j).1 (gH nA (j+1)).1 (AF nA j) (NV nA j)
  rw [show qz (gs A j) (gs A (j+1))=wz A j from rfl]at d1 q1
  rw [show qz (gs A (j+1)) (gs A (j+2))=wz A (j+1)from rfl]at d2 q2
  rw [show qz (wz A j) (wz A (j+1))=nP A j from rfl]at d3 q3
  have h0:(nth R j).l=(gs A j).l:=by rw [n0]
  have PR:(nth R (j+1)).l=(gs A (j+1)).l:=by rw [n1]
  have h2':(nth R (j+2)).l=(gs A (j+2)).l:=by rw [n2]
  generalize (gs A j).l=g0 at *
  generalize (gs A (j+1)).l=g1 at *
  generalize (gs A (j+2)).l=g2 at *
  generalize (wz A j).l=w0 at *
  generalize (wz A (j+1)).l=w1 at *
  generalize hF:nP A j=F at *
  generalize hac:(List.range j).map (nP A)=acc at *
  refine kY ?_
  refine W.sd ?_
  simp (disch:=omega) [gw,h0,PR,e1]
  refine cQ [3,4,6,7] d1 ?_
  refine W.sd ?_
  simp (disch:=omega) [gw,PR,h2',e1,e2]
  refine cQ [3,4,6,7,9] d2 ?_
  refine jG ?_
  refine cU q1 ?_
  refine cU q2 ?_
  refine cQ [3,4,6,11] d3 ?_
  refine W.cA (fun K hK=>?_)
  simp (disch:=omega) [gw]
  refine aC q3 ?_
  simp (disch:=omega) [gw,hr,hjl]
  refine W.lw [3,4,6] hK ?_;clear hK K;simp
  refine W.cA (fun K hK=>?_);simp (disch:=omega) [gw]
  refine hK _ ⟨k-1,_,aB _ [3,4,6],by omega,j+1,_,_,_,rfl,by rw [er];simp,by omega⟩
 ·have hj:j=i:=by simp at h;omega
  subst hj
  generalize (List.range j).map (nP A)=acc at *
  have wZ:List.take j acc=acc:=List.take_of_length_le (by omega)
  refine fH ?_
  refine W.sr ?_
  simp (disch:=omega) [gw,hr,wZ]
  refine bG [2] ?_
  refine W.ret ?_
  simp [go,hr,wZ]
theorem wD{s n:Nat}{a:ZX}(h:qL s n a)(h1:1≤s):aF env.P 158 [PI a.l] (PI (sq a).l):=by
 have hqb:=h.rW
 have hn:=h.hn
 have hF:=JD h h1
 have hA:=h.nfz
 have hNa:ZX.N a=a.l.length:=rfl
 have hsq:ZX.N a≠0→sq a=pf (nf a) (fun _=>true) (nl (nf a)):=fun h0=>by
  have nA:=jB (ZX.aE.2 (Nat.pos_of_ne_zero h0))
  unfold sq
  split
  ·rename_i h2
   rw [NX (by rw [xT];exact h2),nA.N1 (by rw [xT];exact h2)];rfl
  ·rw [anH nA]
 have hNf:ZX.N a≠0→Nf (nf a):=fun h0=>jB (ZX.aE.2 (Nat.pos_of_ne_zero h0))
 have hle:=NS (nf a)
 have hNA:ZX.N (nf a)≤n:=hA.bz.N
 have aui:ZX.N a=0→(sq a).l = []:=fun h0=>by
  have h2:a=0:=Classical.byContradiction fun h3=>by have:=ZX.aE.1 h3;omega
  unfold sq
  rw [if_pos (by omega),h2,kR];rfl
 generalize nf a=A at *
 refine cD [(0,PI a.l)] Tryz.func158 ?_
 refine aA [0] ?_
 refine aP [0,2,8] ?_
 refine W.cond ⟨_,rfl,fun h3=>?_,fun h3=>?_⟩
 ·have h0:ZX.N a=0:=by rw [hNa];simp at h3;rw [h3];rfl
  rw [aui h0]
  refine aA [2] ?_
  refine W.L0 2 (PI []) (by simp) rfl (fun K hK=>?_)
  refine W.lw [2] hK ?_;clear hK K;simp
  exact cC
 have h0:ZX.N a≠0:=by rw [hNa];simp at h3;intro h4;exact h3 (List.eq_nil_of_length_eq_zero h4)
 have nA:=hNf h0
 rw [hsq h0]
 clear h3 hsq aui hNf
 have hmul:∀i,aF env.P 199 [PI (pf A (fun _=>true) i).l,PI (nP A i).l] (PI (pf A (fun _=>true) (i+1)).l):=fun i=>by
  have b1:=hA.dv nA (zB nA (fun _=>true) i) (JB nA _ i)
  have b2:=hA.dv nA (AE nA i).1 (VN nA i)
  exact YM _ _ _ _ _ _ b1 b2 (by show _<137438953472;omega)
 obtain⟨m,hm⟩:∃m,m=nl A:=⟨_,rfl⟩
 have hfl:fl A=(List.range m).map (nP A):=by rw [hm];rfl
 rw [←hm]at hle ⊢
 rw [hfl]at hF
 have D3:((List.range m).map (nP A)).length=m:=by simp
 have xU:∀i,i<m→(nth ((List.range m).map (nP A)) i).l=(nP A i).l:=fun i hi=>by rw [gB _ hi]
 generalize (List.range m).map (nP A)=L at *
 have h1:=N7
 rw [show(1:ZX)=pf A (fun _=>true) 0 from rfl]at h1
 generalize hg:pf A (fun _=>true) 0=g0 at *
 refine W.skip ?_
 refine aR [0,3] h1 ?_
 refine aR [3,4] hF ?_
 refine W.seq ?_
 refine W.sr ?_
 simp (disch:=omega) [gw,D3]
 refine bG [3,4,14,15] ?_
 subst hg
 refine W.block ?_
 refine W.bE (fun k σ=>∃(i:Nat) (rows:Pm.Rows) (clk:Nat),σ=⟨fa [(3,PI (pf A (fun _=>true) i).l),(4,aN zq L),(14, .int .i64 m),(15, .int .i64 i)],rows,clk⟩∧i+k=m) m ?_ ?_
 ·exact⟨_, .refl,0,_,_,rfl,by omega⟩
 rintro k _ ⟨i,rows,clk,rfl,zT⟩
 refine bV [3,4,14,15,16] ?_
 refine bJ ?_ ?_<;>intro h
 ·have hi:i<m:=by simp at h;omega
  have hiL:i<L.length:=by omega
  have ht:=hmul i
  have AG:=xU i hi
  generalize qT:pf A (fun _=>true) (i+1)=g2 at *
  generalize pf A (fun _=>true) i=g at *
  refine kY ?_
  refine aA [3,4,5,14,15] ?_
  refine W.cA (fun K hK=>?_)
  simp (disch:=omega) [gw,AG]
  refine cU ht ?_
  refine W.lw [3,4,14,15] hK ?_;clear hK K;simp
  subst qT
  refine W.cA (fun K hK=>?_);simp (disch:=omega) [gw]
  refine hK _ ⟨k-1,_,aB _ [3,4,14,15],by omega,i+1,_,_,rfl,by omega⟩
 ·have hi:i=m:=by simp at h;omega
  subst hi
  refine fH ?_
  refine aA [2] ?_
  exact cC
abbrev R2(n d:Int):PV:=.ag [aN aI (aU DD n.natAbs), .bool (decide (n<0)),aN aI (aU DD d.natAbs), .bool (decide (d<0))]
theorem gR(q:Rat):RR q=R2 q.num q.den:=by
 have:decide ((q.den:Int)<0)=false:=decide_eq_false (by omega)
 show PV.ag (re q)=PV.ag _
 rw [this];rfl
def hm(n d:Int):List Int→Int × Int
 | []=>(0,1)
 | a::l=>((hm n d l).1*n+a*(hm n d l).2,(hm n d l).2*d)
def JE(x:List Int)(n d:Int):Int:=(hm n d x).1.sign
theorem aka{s k u:Nat}{n d:Int}(hn:sz 2 n≤u)(hd:sz 2 d≤u)(hu:1≤u):∀ {x:List Int},Bd 2 s k x→sz 2 (hm n d x).1≤s+x.length*(u+1)∧sz 2 (hm n d x).2≤x.length*u+1
 | [],_=>⟨by show sz 2 0≤_;rw [show sz 2 0=0 by decide];omega,by show sz 2 1≤_;exact Nat.le_trans (dW (k:=1) (by decide) (by decide)) (by omega)⟩
 | a::l,h=>by
  obtain⟨h1,h2⟩:=aka hn hd hu (x:=l) ⟨Nat.le_trans (by simp) h.len,fun c hc=>h.sz c (by simp [hc])⟩
  have ha:=h.sz a (by simp)
  have e:(a::l).length*u=l.length*u+u:=by rw [List.length_cons,Nat.add_mul];omega
  have e':(a::l).length*(u+1)=l.length*u+l.length+u+1:=by rw [List.length_cons,Nat.add_mul,Nat.mul_add];omega
  have e'':l.length*(u+1)=l.length*u+l.length:=by rw [Nat.mul_add];omega
  refine⟨?_,?_⟩
  ·have g1:=cG (b:=2) (by decide) h1 hn
   have g2:=cG (b:=2) (by decide) ha h2
   have:=m7 (b:=2) (by decide) (Nat.le_trans g1 (Nat.le_max_left _ (s+(l.length*u+1)))) (Nat.le_trans g2 (Nat.le_max_right (s+l.length*(u+1)+u) _))
   refine Nat.le_trans this ?_
   rw [e',e'']
   omega
  ·have:=cG (b:=2) (by decide) h2 hd
   rw [e]
   exact Nat.le_trans this (by omega)
theorem GQ(p q p' q':Int)(hp:sz 2 p≤YY)(hq:sz 2 q≤YY)(wY:sz 2 p'≤YY)(hq':sz 2 q'≤YY):aF env.P 14 [R2 p q,R2 p' q'] (.int .i64 (dH (p*q') (p'*q))):=by
 have zz:∀ {x:Int},sz 2 x≤YY→Z x:=fun h=>by simp only [Z,YY]at *;omega
 have s1:=cG (b:=2) (by decide) hp hq'
 have s2:=cG (b:=2) (by decide) wY hq
 have m1:=eT p q' (zz hp) (zz hq')
 have m2:=eT p' q (zz wY) (zz hq)
 have c1:=acz (p*q') (p'*q) (by simp only [Z,YY]at *;omega) (by simp only [Z,YY]at *;omega)
 generalize dH (p*q') (p'*q)=r at *
 generalize p*q'=x1 at *
 generalize p'*q=x2 at *
 refine cD [(0,R2 p q),(1,R2 p' q')] Tryz.func14 ?_
 refine aA [2,3] ?_
 refine nK ?_
 refine cU m1 ?_
 refine cU m2 ?_
 refine cQ [4] c1 ?_
 exact cC
theorem rX(p q:Rat)(hp:ZR YY p)(hq:ZR YY q):aF env.P 14 [RR p,RR q] (.int .i64 (dH (p.num*q.den) (q.num*p.den))):=by
 rw [gR,gR];exact GQ _ _ _ _ hp.n hp.d hq.n hq.d
@[simp] theorem ahA:aU DD 1 = [1]:=by decide
theorem ZK(x:List Int)(hl:x.length<9223372036854775808):aF env.P 152 [PI x] (.bool true):=by
 refine cD [(0,PI x)] Tryz.func152 ?_
 refine aA [0] ?_
 refine aP [0,5,6] ?_
 refine W.block ?_
 refine W.bE (fun k σ=>∃(i:Nat) (rows:Pm.Rows) (clk:Nat),σ=⟨fa [(0,PI x),(5, .int .i64 x.length),(6, .int .i64 i)],rows,clk⟩∧i+k=x.length) x.length ?_ ?_
 ·exact⟨_, .refl,0,_,_,rfl,by omega⟩
 rintro k _ ⟨i,rows,clk,rfl,hI⟩
 refine bV [0,5,6,7] ?_
 refine bJ ?_ ?_<;>intro h
 ·have hi:i<x.length:=by simp at h;omega
  refine kY ?_
  refine aA [0,3,5,6] ?_
  refine W.sr ?_
  simp (disch:=omega) [gw,hi]
  refine bG [0,5,6,27] ?_
  refine bJ ?_ ?_<;>intro h
  ·simp at h
   exact absurd rfl h
  ·refine W.skip ?_
   refine W.cA (fun K hK=>?_);simp (disch:=omega) [gw]
   refine hK _ ⟨k-1,_,aB _ [0,5,6],by omega,i+1,_,_,rfl,by omega⟩
 ·refine fH ?_
  refine aA [2] ?_
  exact cC
theorem xV{x:List Int}{n d:Int}{s k u:Nat}(hx:Bd 2 s k x)(hn:sz 2 n≤u)(hd:sz 2 d≤u)(hu:1≤u)(hk:k<1099511627776)(hB:s+k*(u+1)+u<YY):aF env.P 77 [PI x,R2 n d] (.int .i64 (JE x n d)):=by
 have hl:=hx.len
 have hW:=ZK x (by omega)
 have hO:=nZ 1 (by decide) (by decide)
 have zz:∀ {x:Int},sz 2 x≤YY→Z x:=fun h=>by simp only [Z,YY]at *;omega
 have hY:YY=137438953472:=rfl
 have bd:=fun i=>aka (s:=s) (k:=k) (x:=x.drop i) hn hd hu ⟨by simp;omega,fun c hc=>hx.sz c (List.mem_of_mem_drop hc)⟩
 have hle:∀i,(x.drop i).length*(u+1)≤k*(u+1):=fun i=>Nat.mul_le_mul_right _ (by simp;omega)
 have adB:∀i,(x.drop i).length*u≤(x.drop i).length*(u+1):=fun i=>Nat.mul_le_mul_left _ (by omega)
 have step:∀i,i<x.length→hm n d (x.drop i)=((hm n d (x.drop (i+1))).1*n+nth x i*(hm n d (x.drop (i+1))).2,(hm n d (x.drop (i+1))).2*d):=fun i hi=>by
  rw [List.drop_eq_getElem_cons hi,cB hi];rfl
 have adC:hm n d (x.drop x.length)=(0,1):=by rw [List.drop_length];rfl
 have hS:=F4 (hm n d x).1
 have h0:hm n d (x.drop 0)=hm n d x:=rfl
 have hs:JE x n d=(hm n d x).1.sign:=rfl
 rw [hs]
 have M:∀i,i<x.length→aF env.P 63 [RI (hm n d (x.drop (i+1))).1,RI n] (RI ((hm n d (x.drop (i+1))).1*n))∧aF env.P 63 [RI (nth x i),RI (hm n d (x.drop (i+1))).2] (RI (nth x i*(hm n d (x.drop (i+1))).2)) ∧
   aF env.P 154 [RI ((hm n d (x.drop (i+1))).1*n),RI (nth x i*(hm n d (x.drop (i+1))).2)] (RI (hm n d (x.drop i)).1)∧aF env.P 63 [RI (hm n d (x.drop (i+1))).2,RI d] (RI (hm n d (x.drop i)).2):=fun i hi=>by
  obtain⟨b1,b2⟩:=bd (i+1)
  have l1:=hle (i+1)
  have l2:=adB (i+1)
  have ha:=hx.sz _ (b7 hi)
  have g1:=cG (b:=2) (by decide) b1 hn
  have g2:=cG (b:=2) (by decide) ha b2
  have e:=step i hi
  rw [e]
  exact⟨eT _ _ (zz (by omega)) (zz (by omega)),eT _ _ (zz (by omega)) (zz (by omega)),CO _ _ (by simp only [Z];omega) (by simp only [Z];omega),eT _ _ (zz (by omega)) (zz (by omega))⟩
 clear bd hle adB step
 generalize hm n d x=r0 at *
 refine cD [(0,PI x),(1,R2 n d)] Tryz.func77 ?_
 refine aA [0,3] ?_
 refine W.seq ?_
 refine aR [0,3,10] hW ?_
 refine bJ ?_ ?_<;>intro h
 ·simp at h
 refine W.skip ?_
 refine aA [0,3,5] ?_
 refine aR [0,3,5,6] hO ?_
 refine aP [0,3,5,6,7] ?_
 refine W.row (id:=5) (els:=[[.nil, .bool false]]) [[aN aI (aU DD (0:Int).natAbs), .bool (decide ((0:Int)<0))]] (by simp;first | exact⟨rfl,rfl,rfl⟩ | exact⟨rfl,rfl⟩ | rfl) ⟨⟨.inr ⟨rfl,rfl⟩, .inl rfl,trivial⟩,trivial⟩ ?_
 refine W.block ?_
 refine W.bE (fun k σ=>∃(v3 v5 v6 e3 e5 e6:Nat) (rows:Pm.Rows) (clk:Nat),σ=⟨fa [(0,PI x),(3, .ptr 3 v3 0 0),(5, .ptr 5 v5 0 0),(6, .ptr 6 v6 0 0),(7, .int .i64 ((k:Int)-1))],rows,clk⟩∧k≤x.length ∧
  rows 3=some ⟨v3,e3,4,[[aN aI (aU DD n.natAbs), .bool (decide (n<0)),aN aI (aU DD d.natAbs), .bool (decide (d<0))]]⟩ ∧
  rows 5=some ⟨v5,e5,2,[[aN aI (aU DD (hm n d (x.drop k)).1.natAbs), .bool (decide ((hm n d (x.drop k)).1<0))]]⟩ ∧
  rows 6=some ⟨v6,e6,2,[[aN aI (aU DD (hm n d (x.drop k)).2.natAbs), .bool (decide ((hm n d (x.drop k)).2<0))]]⟩) x.length ?_ ?_
 ·exact⟨_, .refl,_,_,_,_,_,_,_,_,rfl,Nat.le_refl _,by simp;(first | exact⟨rfl,rfl,rfl⟩ | exact⟨rfl,rfl⟩ | rfl),by rw [adC];simp;(first | exact⟨rfl,rfl,rfl⟩ | exact⟨rfl,rfl⟩ | rfl),by rw [adC];simp;(first | exact⟨rfl,rfl,rfl⟩ | exact⟨rfl,rfl⟩ | rfl)⟩
 rintro k _ ⟨v3,v5,v6,e3,e5,e6,rows,clk,rfl,hkl,b8,eB,pH⟩
 refine aP [0,3,5,6,7,21] ?_
 refine bJ ?_ ?_<;>intro h
 ·have xC:0<k:=by simp at h;omega
  obtain⟨k,rfl⟩:∃j,k=j+1:=⟨k-1,by omega⟩
  obtain⟨m1,m2,m3,m4⟩:=M k (by omega)
  generalize hm n d (x.drop (k+1))=A at *
  have e1:(((k+1:Nat):Int)-1).toNat=k:=by omega
  refine kY ?_
  refine W.sd ?_
  simp (disch:=omega) [gw,b8,eB,pH]
  refine aC m1 ?_
  simp (disch:=omega) [gw,e1]
  try simp (disch:=omega) [gw,e1,pH]
  refine cU m2 ?_
  refine aC m3 ?_
  simp (disch:=omega) [gw,eB]
  try (refine bC (by kernel_rfl) ?_)
  try simp (disch:=omega) [gw,eB]
  refine bG [0,3,5,6,7] ?_
  refine W.cA (fun K hK=>?_)
  simp (disch:=omega) [gw,b8,pH]
  refine aC m4 ?_
  simp (disch:=omega) [gw,pH]
  refine W.lw [0,3,5,6,7] hK ?_;clear hK K;simp
  refine W.cA (fun K hK=>?_);simp (disch:=omega) [gw]
  refine hK _ ⟨k,_,aB _ [0,3,5,6,7],by omega,v3,v5,v6,_,_,_,_,_,rfl,by omega,by simp [b8];exact rfl,by simp;exact rfl,by simp;exact rfl⟩
 ·have xC:k=0:=by simp at h;omega
  subst xC
  rw [h0]at eB
  refine fH ?_
  refine W.sr ?_
  simp (disch:=omega) [gw,eB]
  refine cQ [4] hS ?_
  exact cC
end Go.Proofs.YtiobceocpabjdaaGreat
namespace Go.Proofs.YtiobceocpabjdaaGreat
open Go Pm
open ZX hiding N W
theorem adD{y:List Int}(cy:Cn y)(hy:0<y.length):∀(n:Nat) (x:List Int),Cn x→x.length<n → ∃(m:Int) (q:List Int),0<m ∧ ∀t,m*V t x=V t q*V t y+V t (rq y n x)
 | 0,x,_,h=>by omega
 | n+1,x,cx,h=>by
  rw [rq]
  split
  ·exact⟨1,[],by decide,fun t=>by simp [V]⟩
  ·rename_i h1
   have hl:=sR hy (show y.length≤x.length by omega)
   obtain⟨m,q,hm,h4⟩:=adD cy hy n (VQ y x) (Cn.fM _ _) (by omega)
   have KU:=dA cy hy
   refine⟨m*(lead y).natAbs,iG q (bA (qF (x.length-y.length) (w6 (lead y)*lead x)) m),Int.mul_pos hm (by omega),fun t=>?_⟩
   have h5:=adA t y x
   have h6:=h4 t
   rw [rG,cV,nY]
   have:m*((lead y).natAbs:Int)*V t x=m*(((lead y).natAbs:Int)*V t x):=by grind
   rw [this,h5]
   grind
theorem adE{x y s q:List Int}{D:Int}(cx:Cn x)(cy:Cn y)(hy:0<y.length)(cs:Cn s)(hs:s.length<y.length)(hD:0<D)(hv:∀t,D*V t x=V t q*V t y+V t s):NB x y=j6 s:=by
 have hV:=fun t=>ace t x y
 have hl:=IE (a:=x) hy
 obtain⟨c1,c2⟩:=CB (b:=y) cx
 rw [acY cx]
 have KU:=dA cy hy
 have xI:lead y^jP x y≠0:=Int.pow_ne_zero KU
 have SC:=acW (lead y) (jP x y)
 have hsq:=acX (lead y) (jP x y)
 generalize sg (lead y) (jP x y)=g at *
 generalize (yS x y).1=p at *
 generalize (yS x y).2=r at *
 generalize hc:lead y^jP x y=c at *
 have hm:0<((lead y).natAbs:Int)^jP x y:=Int.pow_pos (by omega)
 generalize ((lead y).natAbs:Int)^jP x y=m at *
 have e:∀t,V t (fM (s.map (· * c)) (r.map (· * D)))=V t y*V t (fM (p.map (· * D)) (q.map (· * c))):=fun t=>by
  have h1:=hv t
  have h2:=hV t
  rw [iZ,iZ,eA,eA,eA,eA]
  have h3:c*(D*V t x)=c*(V t q*V t y+V t s):=by rw [h1]
  have h4:D*(V t p*V t y+V t r)=D*(c*V t x):=by rw [h2]
  grind
 have h1:=FV (Cn.fM _ _) cy hy e (by
  have:=vI (s.map (· * c)) (r.map (· * D))
  simp only [List.length_map]at this
  omega)
 have GH:D≠0:=by omega
 have e1:s.map (· * c)=r.map (· * D):=Cn.ext (lJ cs xI) (lJ c2 GH) fun t=>NK (by rw [h1];rfl) t
 rw [←yY cs hm,←yY (Cn.bA r g) hD]
 congr 1
 refine Cn.ext (Cn.bA _ _) (Cn.bA _ _) fun t=>?_
 have e2:V t s*c=V t r*D:=by rw [←eA,e1,eA]
 rw [cV,cV,cV]
 have h5:m=g*c:=by rw [SC];grind
 rw [h5]
 have:V t s*(g*c)=g*(V t s*c):=by grind
 rw [this,e2];grind
def qD(a:ZX):ZX:=⟨j6 a.l,Cn.cut _⟩
def nx(a b:ZX):ZX:=⟨gW (j6 (rz a b).l),Cn.gW _⟩
theorem ZL{a b:ZX}(hb:b≠0):ZX.N (nx a b)<ZX.N b:=by
 obtain⟨_,hN,_⟩:=sS (a:=a) hb
 have h1:=NF (j6 (rz a b).l)
 have h2:=l7 (rz a b).l
 have h3:ZX.N (nx a b)=(gW (j6 (rz a b).l)).length:=rfl
 have h4:ZX.N (rz a b)=(rz a b).l.length:=rfl
 omega
theorem VU{s n:Nat}{a b:ZX}(ha:BZ s n a)(hb:BZ s n b)(h0:b≠0):BZ (s+(ZX.N a+1-ZX.N b)*(s+n+1)) n (nx a b):=Bd.gW (jC (VT ha hb h0))
def uL:Nat→ZX→ZX→List ZX
 | 0,_,_=>[]
 | k+1,a,b=>if ZX.N b=0 then []else b::uL k b (nx a b)
theorem kS(k:Nat)(a:ZX):uL k a 0 = []:=by cases k<;>simp [uL,show ZX.N 0=0 by decide]
theorem DI:∀ {k j:Nat} {a b:ZX},ZX.N b≤k→ZX.N b≤j→uL k a b=uL j a b
 | 0,j,a,b,h,_=>by
  have:b=0:=Classical.byContradiction fun h0=>by have:=ZX.aE.1 h0;omega
  rw [this,kS,kS]
 | k+1,0,a,b,_,h=>by
  have:b=0:=Classical.byContradiction fun h0=>by have:=ZX.aE.1 h0;omega
  rw [this,kS,kS]
 | k+1,j+1,a,b,h1,h2=>by
  rw [uL,uL]
  split
  ·rfl
  ·rename_i h0
   have:=ZL (a:=a) (ZX.aE.2 (Nat.pos_of_ne_zero h0))
   rw [DI (k:=k) (j:=j) (by omega) (by omega)]
def bK(f:ZX):List ZX:=f::uL (ZX.N f) f (qD (bT f))
theorem anQ(x:List Int):PP (qd x 1)=PI x:=by rw [IX];show PV.sl (emap re (qs x))=PV.sl (emap ri x);rw [C4]
theorem zE{s n:Nat}{a:ZX}(b:BZ s n a)(vO:1≤s)(hs:s≤YY)(hn:n<1099511627776):aF env.P 159 [PI a.l] (PI (qD a).l):=by
 have:=NH a.l 1 (by decide) b (by exact Nat.le_trans (dW (k:=1) (by decide) (by decide)) vO) a.c vO hs hn
 rw [show((1:Nat):Int)=1 from rfl,anQ]at this
 exact this
structure Ch(s n:Nat)(f:ZX):Prop where
 bz:BZ s n f
 hn:n≤20
 AG:1≤n
 hC:(s+5+n+1)*4^n≤4500000000
theorem Ch.pot{s n:Nat}{f:ZX}(h:Ch s n f):zU 4500000000 n (s+5) f (qD (bT f)):=by
 have h1:=n5 f
 have h2:ZX.N (qD (bT f))≤ZX.N (bT f):=l7 _
 have h3:=h.bz.N
 have hn:=h.AG
 unfold zU
 split
 ·exact Nat.le_trans (Nat.mul_le_mul_left _ (Nat.pow_le_pow_right (by decide) h3)) h.hC
 ·have h4:ZX.N (qD (bT f))=0:=by omega
  have h5:=h.hC
  rw [h4,Nat.pow_zero,Nat.mul_one]
  exact Nat.le_trans (Nat.mul_le_mul_left _ (show 2≤4^n from Nat.le_trans (by decide) (Nat.pow_le_pow_right (n:=4) (by decide) hn))) h5
theorem adF{l:List ZX}{a:ZX}{i:Nat}(h:i<l.length):nth (l ++ [a]) i=nth l i:=by
 simp only [nth,List.getElem?_append_left h]
theorem zF{s n:Nat}{a f:ZX}(hS:aF env.P 158 [PI a.l] (PI f.l))(h:Ch s n f)(h1:1≤s):aF env.P 81 [PI a.l] (aN zq (bK f)):=by
 have hn:=h.hn
 have hp:=h.pot
 have hs:=hp.le
 have bd:BZ (s+5) n (bT f):=h.bz.bT (by omega)
 have d1:=wC h.bz (by show s≤137438953472;omega) (by omega)
 have d2:=zE bd (by omega) (by show s+5≤137438953472;omega) (by omega)
 have b2:BZ (s+5) n (qD (bT f)):=jC bd
 have b1:BZ (s+5) n f:=h.bz.mono (by omega) (Nat.le_refl _)
 have D5:ZX.N (qD (bT f))≤ZX.N f:=Nat.le_trans (l7 _) (Nat.le_trans (n5 f) (by omega))
 have hc:bK f=f::uL (ZX.N f) f (qD (bT f)):=rfl
 rw [DI D5 (Nat.le_refl _)]at hc
 generalize hC:bK f=C at *
 generalize qD (bT f)=g0 at *
 generalize (bT f).l=dl at *
 have hfl:f.l=f.l:=rfl
 refine cD [(0,PI a.l)] Tryz.func81 ?_
 refine aA [0] ?_
 refine aR [3] hS ?_
 refine W.aj8 1 rfl rfl (fun K hK=>?_)
 simp (disch:=omega) [gw]
 refine W.lw [3,4] hK ?_;clear hK K;simp
 refine jG ?_
 refine cU d1 ?_
 refine cQ [4,5] d2 ?_
 refine W.seq ?_
 refine W.block ?_
 refine W.bE (fun k σ=>∃(L:List ZX) (x g:ZX) (i ver s:Nat) (rows:Pm.Rows) (clk:Nat),σ=⟨fa [(4, .own 9 ver 0 (i+1)),(5,PI g.l)],rows,clk⟩∧rows 9=some ⟨ver,46,1,emap zq L⟩∧L.length=i+1∧nth L i=x ∧
  L++uL k x g=C∧k=ZX.N g∧BZ s n x∧BZ s n g∧1≤s∧zU 4500000000 n s x g∧i+ZX.N g≤20) (ZX.N g0) ?_ ?_
 ·exact⟨_, .refl,[f],f,g0,0,_,s+5,_,_,rfl,by simp [emap],rfl,rfl,hc.symm,rfl,b1,b2,by omega,hp,by have:=b2.N;omega⟩
 rintro k _ ⟨L,x,g,i,ver,s,rows,clk,rfl,hr,hL,hx,hcc,rfl,bx,bg,h1,hp,hiN⟩
 have hs:=hp.le
 have hlx:=bx.len
 have hlg:=bg.len
 have hLl:(emap zq L).length=i+1:=by simp [emap,hL]
 refine aP [4,5,15] ?_
 refine bJ ?_ ?_<;>intro h
 ·have hg:g≠0:=ZX.aE.2 (by show 0<g.l.length;simp at h;omega)
  obtain⟨XZ,hN,_⟩:=sS (a:=x) hg
  have br:=VT bx bg hg
  have hmul:(x.l.length+1-g.l.length+1)*(s+n+1)≤22*4500000000:=Nat.mul_le_mul (by omega) (by omega)
  have aj9:(ZX.N x+1-ZX.N g)*(s+n+1)≤22*4500000000:=Nat.mul_le_mul (by have:ZX.N x=x.l.length:=rfl;omega) (by omega)
  have hR:=GP (s:=s) (s':=s) (N:=n) bx bg x.c g.c (ZX.aE.1 hg) (by omega) (by show _<137438953472;omega)
  rw [←XZ]at hR
  have hZ:=zE br (by omega) (by show _≤137438953472;omega) (by omega)
  have hNg:=F8 (qD (rz x g)).l ((jC br).mono (by show _≤137438953472;omega) (by omega))
  have e3:gW (qD (rz x g)).l=(nx x g).l:=rfl
  rw [e3]at hNg
  have D5:=ZL (a:=x) hg
  have D6:=hp.step D5
  have bn:=VU bx bg hg
  have hi:i<L.length:=by omega
  have hx2:nth (L ++ [g]) i=x:=by rw [adF hi];exact hx
  have auk:i<(L ++ [g]).length:=by simp;omega
  have hch:L ++ [g]++uL (ZX.N (nx x g)) g (nx x g)=C:=by
   rw [←hcc]
   obtain⟨j,hj⟩:∃j,ZX.N g=j+1:=⟨ZX.N g-1,by have:=ZX.aE.1 hg;have:ZX.N g=g.l.length:=rfl;omega⟩
   rw [hj,uL,if_neg (by omega),DI (k:=j) (j:=ZX.N (nx x g)) (by omega) (Nat.le_refl _)]
   simp
  generalize (rz x g).l=rl at *
  generalize (qD (rz x g)).l=pl at *
  generalize hnx:nx x g=nn at *
  have hnl:nn.l=nn.l:=rfl
  refine W.skip ?_
  refine W.block ?_
  refine W.sr ?_
  simp (disch:=omega) [gw,hr,hLl]
  refine bG [4,5] ?_
  have e1:((i:Int)+1+1-2).toNat=i:=by omega
  refine W.cA (fun K hK=>?_)
  simp (disch:=omega) [gw,e1,auk,hx2]
  refine cU hR ?_
  refine cU hZ ?_
  refine cU hNg ?_
  refine hK _ ⟨ZX.N nn,_,aB _ [4,5],D5,L ++ [g],g,nn,i+1,_,_,_,_,rfl,by simp,by simp [hL],?_,hch,rfl,bg.mono (by omega) (Nat.le_refl _),bn,by omega,D6,by omega⟩
  rw [cB (by simp;omega)]
  simp [←hL]
 ·have hg:g=0:=by
   refine Classical.byContradiction fun h0=>?_
   have h1:=ZX.aE.1 h0
   have h2:ZX.N g=g.l.length:=rfl
   simp at h;rw [h2,h]at h1;simp at h1
  subst hg
  rw [kS,List.append_nil]at hcc
  subst hcc
  have wZ:List.take (i+1) L=L:=List.take_of_length_le (by omega)
  refine fH ?_
  refine aA [2] ?_
  refine W.ret ?_
  simp [go,hr,hLl,wZ]
end Go.Proofs.YtiobceocpabjdaaGreat
namespace Pm
def qv(t:Rat):List Int→Rat
 | []=>0
 | a::l=>(a:Rat)+t*qv t l
section
variable {t:Rat}
theorem uM{α:Type}(f g:α→Int):∀l:List α,qv t (l.map fun k=>f k+g k)=qv t (l.map f)+qv t (l.map g)
 | []=>by simp only [List.map_nil,qv];grind
 | x::l=>by simp only [List.map_cons,qv,uM f g l,Rat.intCast_add];grind
theorem DJ{α:Type}(c:Int)(f:α→Int):∀l:List α,qv t (l.map fun k=>f k*c)=qv t (l.map f)*c
 | []=>by simp only [List.map_nil,qv];grind
 | x::l=>by simp only [List.map_cons,qv,DJ c f l,Rat.intCast_mul];grind
theorem oM:∀(a:List Int) (n:Nat),qv t (a++List.replicate n 0)=qv t a
 | [],0=>rfl
 | [],n+1=>by
  have:=oM [] n
  simp only [List.nil_append]at this
  simp only [List.nil_append,List.replicate_succ,qv,this,Rat.intCast_zero];grind
 | x::a,n=>by simp only [List.cons_append,qv,oM a n]
theorem wE:∀l:List Int,qv t (aQ l)=qv t l
 | []=>rfl
 | x::l=>by
  have ih:=wE l
  simp only [aQ]
  split
  ·rename_i h
   rw [h.1]at ih
   simp only [qv]at ih ⊢
   rw [←ih,h.2,Rat.intCast_zero];grind
  ·simp only [qv,ih]
theorem mP{x:List Int}{n:Nat}(h:x.length≤n):qv t ((List.range n).map (nth x))=qv t x:=by
 rw [oZ h,oM]
theorem VV(x y:List Int):qv t (iG x y)=qv t x+qv t y:=by
 rw [iG,wE,uM,mP (by omega),mP (by omega)]
theorem ahB(x y:List Int):qv t (fM x y)=qv t x-qv t y:=by
 rw [fM,wE]
 have h1:=uM (t:=t) (fun k=>nth x k-nth y k) (nth y) (List.range (max x.length y.length))
 have h2:(fun k=>nth x k-nth y k+nth y k)=nth x:=by funext k;omega
 rw [h2,mP (by omega),mP (by omega)]at h1
 grind
theorem N8:∀x y:List Int,qv t (gQ x y)=qv t x*qv t y
 | [],y=>by simp only [gQ,qv];grind
 | a::x,y=>by
  have:=DJ (t:=t) a id y
  simp only [id_eq,List.map_id_fun]at this
  rw [gQ,VV,this]
  simp only [qv,N8 x y,Rat.intCast_zero]
  grind
theorem ahC(x y:List Int):qv t (bQ x y)=qv t x*qv t y:=by rw [bQ,wE,N8]
end
namespace ZX
section
variable {t:Rat}
def e(t:Rat)(x:ZX):Rat:=qv t x.l
theorem akb(x y:ZX):e t (x+y)=e t x+e t y:=VV _ _
theorem iJ(x y:ZX):e t (x*y)=e t x*e t y:=ahC _ _
theorem aul(x y:ZX):e t (x-y)=e t x-e t y:=ahB _ _
theorem anR(x:List Int):e t (of x)=qv t x:=wE x
theorem zV(c:Int):e t (K c)=c:=by
 rw [K,anR]
 simp only [qv];grind
end
end ZX
def Ab(x M:Rat):Prop := -M≤x∧x≤M
def j7(e x:Rat):Prop:=x ≤ -e∨e≤x
theorem Ab.mono{x M N:Rat}(h:Ab x M)(hMN:M≤N):Ab x N:=by
 obtain⟨h1,h2⟩:=h
 exact⟨by grind,by grind⟩
theorem Ab.add{x y M N:Rat}(h:Ab x M)(h':Ab y N):Ab (x+y) (M+N):=by
 obtain⟨h1,h2⟩:=h
 obtain⟨h3,h4⟩:=h'
 exact⟨by grind,by grind⟩
theorem Ab.mul{x y M N:Rat}(h:Ab x M)(h':Ab y N):Ab (x*y) (M*N):=by
 obtain⟨h1,h2⟩:=h
 obtain⟨h3,h4⟩:=h'
 have p1:=Rat.mul_nonneg (show 0≤M-x by grind) (show 0≤N-y by grind)
 have p2:=Rat.mul_nonneg (show 0≤M+x by grind) (show 0≤N+y by grind)
 have p3:=Rat.mul_nonneg (show 0≤M-x by grind) (show 0≤N+y by grind)
 have p4:=Rat.mul_nonneg (show 0≤M+x by grind) (show 0≤N-y by grind)
 exact⟨by grind,by grind⟩
theorem j7.mono{x e f:Rat}(h:j7 e x)(hf:f≤e):j7 f x:=by
 rcases h with h | h
 ·left;grind
 ·right;grind
theorem AH{x e:Rat}(h:¬j7 e x) : -e<x∧x<e:=by
 constructor
 ·exact Rat.not_le.1 fun h1=>h (.inl h1)
 ·exact Rat.not_le.1 fun h1=>h (.inr h1)
theorem EZ{x e:Rat}(h:¬j7 e x):Ab x e:=by
 obtain⟨h1,h2⟩:=AH h
 exact⟨Rat.le_of_lt h1,Rat.le_of_lt h2⟩
def bZ(x:Rat):Int:=if x<0 then -1 else if 0<x then 1 else 0
theorem gI{x:Rat}(h:x<0):bZ x = -1:=if_pos h
theorem eM{x:Rat}(h:0<x):bZ x=1:=by
 rw [bZ,if_neg (by grind),if_pos h]
theorem jD:bZ 0=0:=by decide
theorem cY(x:Rat):(x<0∧bZ x = -1)∨(x=0∧bZ x=0)∨(0<x∧bZ x=1):=by
 by_cases h:x<0
 ·exact .inl ⟨h,gI h⟩
 ·by_cases h2:0<x
  ·exact .inr (.inr ⟨h2,eM h2⟩)
  ·have:x=0:=by grind
   subst this
   exact .inr (.inl ⟨rfl,jD⟩)
theorem n9(x:Rat):bZ x = -1∨bZ x=0∨bZ x=1:=by
 rcases cY x with h | h | h
 ·exact .inl h.2
 ·exact .inr (.inl h.2)
 ·exact .inr (.inr h.2)
theorem SG{x:Rat}:bZ x = -1↔x<0:=by
 rcases cY x with ⟨h,e⟩ | ⟨h,e⟩ | ⟨h,e⟩<;>rw [e]<;>constructor<;>intro h2<;>first | omega | grind
theorem SH{x:Rat}:bZ x=1↔0<x:=by
 rcases cY x with ⟨h,e⟩ | ⟨h,e⟩ | ⟨h,e⟩<;>rw [e]<;>constructor<;>intro h2<;>first | omega | grind
theorem eX{x:Rat}:bZ x=0↔x=0:=by
 rcases cY x with ⟨h,e⟩ | ⟨h,e⟩ | ⟨h,e⟩<;>rw [e]<;>constructor<;>intro h2<;>first | omega | grind
theorem sU(x y:Rat):bZ (x*y)=bZ x*bZ y:=by
 rcases cY x with ⟨h,e⟩ | ⟨h,e⟩ | ⟨h,e⟩<;>rcases cY y with ⟨h',e'⟩ | ⟨h',e'⟩ | ⟨h',e'⟩<;>rw [e,e']
 ·have:=Rat.mul_pos (show 0 < -x by grind) (show 0 < -y by grind)
  rw [eM (by grind)];rfl
 ·rw [h',Rat.mul_zero];rfl
 ·have:=Rat.mul_pos (show 0 < -x by grind) h'
  rw [gI (by grind)];rfl
 ·rw [h,Rat.zero_mul];rfl
 ·rw [h,Rat.zero_mul];rfl
 ·rw [h,Rat.zero_mul];rfl
 ·have:=Rat.mul_pos h (show 0 < -y by grind)
  rw [gI (by grind)];rfl
 ·rw [h',Rat.mul_zero];rfl
 ·rw [eM (Rat.mul_pos h h')];rfl
theorem fS{x y e:Rat}(h:j7 e x)(he:0<e)(r8:¬j7 e (y-x)):bZ y=bZ x∧bZ x≠0:=by
 obtain⟨h1,h2⟩:=AH r8
 rcases h with h | h
 ·rw [gI (show x<0 by grind),gI (show y<0 by grind)];decide
 ·rw [eM (show 0<x by grind),eM (show 0<y by grind)];decide
def dd(s t:Rat):List Int→Rat
 | []=>0
 | _::l=>qv t l+s*dd s t l
def cc(s t:Rat):List Int→Rat
 | []=>0
 | _::l=>dd s t l+s*cc s t l
theorem nH(s t:Rat):∀x:List Int,qv t x-qv s x=(t-s)*dd s t x
 | []=>by simp only [qv,dd];grind
 | a::l=>by
  have:=nH s t l
  simp only [qv,dd];grind
theorem SI(s t:Rat):∀x:List Int,dd s t x-dd s s x=(t-s)*cc s t x
 | []=>by simp only [dd,cc];grind
 | a::l=>by
  have:=SI s t l
  have:=nH s t l
  simp only [dd,cc];grind
section
variable {S B s t:Rat} (hS:0≤S) (hB:1≤B) (hs:Ab s B) (ht:Ab t B)
def D7(S B:Rat):Nat→Rat
 | 0=>S
 | k+1=>D7 S B k*(4*B)
include hS hB in
theorem oA:∀k,0≤D7 S B k∧S≤D7 S B k
 | 0=>⟨hS,Rat.le_refl⟩
 | k+1=>by
  obtain⟨h1,h2⟩:=oA k
  have h3:=Rat.mul_le_mul_of_nonneg_left (show (1:Rat)≤4*B by grind) h1
  rw [D7]
  exact⟨by grind,by grind⟩
include hS hB ht in
theorem N9:∀x:List Int,(∀c∈x,Ab (c:Rat) S)→Ab (qv t x) (D7 S B x.length)
 | [],_=>by
  show Ab 0 S
  exact⟨by grind,hS⟩
 | a::l,h=>by
  have h1:=N9 l fun c hc=>h c (List.mem_cons_of_mem _ hc)
  have h2:=(h a (List.mem_cons_self ..)).add (ht.mul h1)
  obtain⟨h3,h4⟩:=oA hS hB l.length
  have h5:=Rat.mul_le_mul_of_nonneg_left hB h3
  refine h2.mono ?_
  rw [List.length_cons,D7]
  grind
include hS hB hs ht in
theorem GR:∀x:List Int,(∀c∈x,Ab (c:Rat) S)→Ab (dd s t x) (D7 S B x.length)
 | [],_=>by
  show Ab 0 S
  exact⟨by grind,hS⟩
 | a::l,h=>by
  have h1:=GR l fun c hc=>h c (List.mem_cons_of_mem _ hc)
  have h0:=N9 hS hB ht l fun c hc=>h c (List.mem_cons_of_mem _ hc)
  have h2:=h0.add (hs.mul h1)
  obtain⟨h3,h4⟩:=oA hS hB l.length
  have h5:=Rat.mul_le_mul_of_nonneg_left hB h3
  refine h2.mono ?_
  rw [List.length_cons,D7]
  grind
include hS hB hs ht in
theorem adG:∀x:List Int,(∀c∈x,Ab (c:Rat) S)→Ab (cc s t x) (D7 S B x.length)
 | [],_=>by
  show Ab 0 S
  exact⟨by grind,hS⟩
 | a::l,h=>by
  have h1:=adG l fun c hc=>h c (List.mem_cons_of_mem _ hc)
  have h0:=GR hS hB hs ht l fun c hc=>h c (List.mem_cons_of_mem _ hc)
  have h2:=h0.add (hs.mul h1)
  obtain⟨h3,h4⟩:=oA hS hB l.length
  have h5:=Rat.mul_le_mul_of_nonneg_left hB h3
  refine h2.mono ?_
  rw [List.length_cons,D7]
  grind
end
theorem wF(t:Rat):∀(l:List Int) (k:Nat),qv t (ZX.qI (k+1) l)=qv t (ZX.qI k l)+qv t l
 | [],k=>by simp only [ZX.qI,qv];grind
 | a::l,k=>by
  simp only [ZX.qI,qv]
  rw [wF t l (k+1)]
  have:((k+1:Nat):Int)=(k:Int)+1:=by omega
  rw [this,Rat.intCast_mul,Rat.intCast_mul,Rat.intCast_add,Rat.intCast_one];grind
theorem zG(t:Rat):∀l:List Int,qv t (ZX.qI 1 l)=qv t l+t*dd t t l
 | []=>by simp only [ZX.qI,qv,dd];grind
 | b::m=>by
  rw [ZX.qI]
  simp only [qv,dd]
  rw [wF,zG t m]
  rw [show((1:Nat):Int)=1 from rfl,Int.mul_one]
  grind
theorem akc(t:Rat)(x:ZX):(ZX.bT x).e t=dd t t x.l:=by
 rw [ZX.bT,ZX.anR]
 obtain⟨l,hl⟩:=x
 show qv t (ZX.xR l)=dd t t l
 match l with
 | []=>rfl
 | a::l=>rw [ZX.GL,zG];rfl
end Pm
namespace Pm
def E0(p:Int):List Int→Nat
 | []=>0
 | s::l=>if s=0 then E0 p l else(if p≠0∧s≠p then 1 else 0)+E0 s l
def cl:List Int→List Int→Prop
 | [],[]=>True
 | [x],[y]=>x=y∧x≠0
 | [_,x],[_,y]=>x=y∧x≠0
 | x0::x1::x2::x,y0::y1::y2::y=>cl (x1::x2::x) (y1::y2::y)∧((x1=y1∧x1≠0)∨(x0=y0∧x2=y2∧x0 = -x2∧x2≠0))
 | _,_=>False
theorem JF:∀(n:Nat) (p:Int) (x y:List Int),x.length≤n→p≠0→(p = -1∨p=1)→(∀s∈x,s = -1∨s=0∨s=1)→(∀s∈y,s = -1∨s=0∨s=1)→cl (p::x) (p::y)→E0 p x=E0 p y
 | _,p,[],[],_,_,_,_,_,_=>rfl
 | _,p,[x1],[y1],_,_,_,_,_,h=>by
  obtain⟨rfl,h2⟩:=h
  rfl
 | _,p,[],[y1],_,_,_,_,_,h=>by simp [cl]at h
 | _,p,[x1],[],_,_,_,_,_,h=>by simp [cl]at h
 | _,p,[],_::_::_,_,_,_,_,_,h=>by simp [cl]at h
 | _,p,_::_::_,[],_,_,_,_,_,h=>by simp [cl]at h
 | _,p,[_],_::_::_,_,_,_,_,_,h=>by simp [cl]at h
 | _,p,_::_::_,[_],_,_,_,_,_,h=>by simp [cl]at h
 | 0,p,x1::x2::x,y1::y2::y,hn,_,_,_,_,_=>by simp at hn
 | n+1,p,x1::x2::x,y1::y2::y,hn,hp,GF,hx,hy,h=>by
  obtain⟨h1,h2⟩:=h
  rcases h2 with ⟨rfl,h2⟩ | ⟨_,rfl,h3,h4⟩
  ·have ih:=JF n x1 (x2::x) (y2::y) (by simp at hn ⊢;omega) h2 (by have:=hx x1 (by simp);omega) (fun s hs=>hx s (List.mem_cons_of_mem _ hs)) (fun s hs=>hy s (List.mem_cons_of_mem _ hs)) h1
   simp only [E0]at ih ⊢
   rw [if_neg h2,if_neg h2,ih]
  ·have ht:E0 x2 x=E0 x2 y:=by
    refine JF n x2 x y (by simp at hn ⊢;omega) h4 (by have:=hx x2 (by simp);omega) (fun s hs=>hx s (by simp [hs])) (fun s hs=>hy s (by simp [hs])) ?_
    match x,y,h1 with
    | [],[],_=>exact⟨rfl,h4⟩
    | [],_::_,h1=>simp [cl]at h1
    | _::_,[],h1=>simp [cl]at h1
    | _::_,_::_,h1=>exact h1.1
   have key:∀z:Int,(z = -1∨z=0∨z=1) → ∀w:List Int,E0 p (z::x2::w)=1+E0 x2 w:=fun z hz w=>by
    simp only [E0]
    rcases hz with rfl | rfl | rfl
    ·rw [if_neg (by decide),if_neg h4]
     rcases GF with rfl | rfl
     ·rw [if_neg (by omega),if_pos (by omega)];omega
     ·rw [if_pos (by omega),if_neg (by omega)];omega
    ·rw [if_pos rfl,if_neg h4,if_pos (by omega)]
    ·rw [if_neg (by decide),if_neg h4]
     rcases GF with rfl | rfl
     ·rw [if_pos (by omega),if_neg (by omega)];omega
     ·rw [if_neg (by omega),if_pos (by omega)];omega
   rw [key x1 (hx x1 (by simp)),key y1 (hy y1 (by simp)),ht]
open ZX
def VW(ε t:Rat):List ZX→Prop
 | []=>False
 | [a]=>j7 ε (e t a)
 | [_,b]=>j7 ε (e t b)
 | a::b::c::l=>VW ε t (b::c::l)∧(j7 ε (e t b)∨(j7 ε (e t a)∧j7 ε (e t c)∧bZ (e t a) = -bZ (e t c)))
theorem VW.mono{ε δ t:Rat}(h:δ≤ε):∀ {l:List ZX},VW ε t l→VW δ t l
 | [],g=>g
 | [a],g=>j7.mono g h
 | [a,b],g=>j7.mono (x:=e t b) g h
 | a::b::c::l,g=>⟨VW.mono h g.1,by
  rcases g.2 with g | ⟨g1,g2,g3⟩
  ·exact .inl (g.mono h)
  ·exact .inr ⟨g1.mono h,g2.mono h,g3⟩⟩
theorem VW.two{ε t:Rat}{a b:ZX}:∀ {l:List ZX},VW ε t (a::b::l)→j7 ε (e t a)∨j7 ε (e t b)
 | [],g => .inr g
 | c::l,g=>by
  rcases g.2 with g | ⟨g1,g2,g3⟩
  ·exact .inr g
  ·exact .inl g1
def E1(t:Rat)(l:List ZX):List Int:=l.map fun p=>bZ (e t p)
theorem AJ{t:Rat}{l:List ZX}:∀s∈E1 t l,s = -1∨s=0∨s=1:=fun s hs=>by
 simp only [E1,List.mem_map]at hs
 obtain⟨p,_,rfl⟩:=hs
 exact n9 _
theorem adH{ε s t:Rat}(hε:0<ε):∀ {l:List ZX},VW ε s l→(∀p∈l,¬j7 ε (e t p-e s p))→cl (E1 s l) (E1 t l)
 | [],g,_=>g.elim
 | [a],g,h=>by
  obtain⟨h1,h2⟩:=fS g hε (h a (by simp))
  exact⟨h1.symm,h2⟩
 | [a,b],g,h=>by
  obtain⟨h1,h2⟩:=fS (x:=e s b) g hε (h b (by simp))
  exact⟨h1.symm,h2⟩
 | a::b::c::l,g,h=>by
  refine⟨adH hε g.1 fun p hp=>h p (List.mem_cons_of_mem _ hp),?_⟩
  rcases g.2 with g | ⟨g1,g2,g3⟩
  ·obtain⟨h1,h2⟩:=fS g hε (h b (by simp))
   exact .inl ⟨h1.symm,h2⟩
  ·obtain⟨h1,h2⟩:=fS g1 hε (h a (by simp))
   obtain⟨h3,h4⟩:=fS g2 hε (h c (by simp))
   exact .inr ⟨h1.symm,h3.symm,g3,h4⟩
def vt(l:List ZX)(t:Rat):Nat:=E0 0 (E1 t l)
def ind(a:ZX)(s t:Rat):Nat:=if e s a≠0∧bZ (e t a)≠bZ (e s a)then 1 else 0
theorem ahD{ε s t:Rat}(hε:0<ε){a:ZX}{l:List ZX}(g:VW ε s (a::l))(h:∀p∈a::l,¬j7 ε (e t p-e s p))
  (hm:∀b k,l=b::k→j7 ε (e s b)→bZ (e t a-e s a)=bZ (e s b)):vt (a::l) s=vt (a::l) t+ind a s t:=by
 have hc:=adH hε g h
 have hA:j7 ε (e s a)→vt (a::l) s=vt (a::l) t+ind a s t:=fun ha=>by
  obtain⟨h1,h2⟩:=fS ha hε (h a (by simp))
  have h3:ind a s t=0:=if_neg fun h=>h.2 h1
  rw [h3]
  have EC:cl (bZ (e s a)::E1 s l) (bZ (e s a)::E1 t l):=by
   have:E1 t (a::l)=bZ (e s a)::E1 t l:=by rw [←h1];rfl
   rw [this]at hc
   exact hc
  have h4:=JF _ _ _ _ (Nat.le_refl _) h2 (by have:=n9 (e s a);omega) AJ AJ EC
  show E0 0 (bZ (e s a)::E1 s l)=E0 0 (bZ (e t a)::E1 t l)+0
  rw [h1]
  simp only [E0]
  rw [if_neg h2,if_neg h2,h4];omega
 match l,g,h,hc,hm,hA with
 | [],g,h,hc,hm,hA=>exact hA g
 | b::l,g,h,hc,hm,hA =>
  rcases g.two with ha | hb
  ·exact hA ha
  ·obtain⟨h1,h2⟩:=fS hb hε (h b (by simp))
   have h3:=hm b l rfl hb
   have EC:cl (bZ (e s b)::E1 s l) (bZ (e s b)::E1 t l):=by
    match l,hc with
    | [],hc=>exact⟨rfl,h2⟩
    | c::l,hc =>
     have h8:cl (bZ (e s b)::E1 s (c::l)) (bZ (e t b)::E1 t (c::l)):=hc.1
     rw [h1]at h8
     exact h8
   have h4:=JF _ _ _ _ (Nat.le_refl _) h2 (by have:=n9 (e s b);omega) AJ AJ EC
   show E0 0 (bZ (e s a)::bZ (e s b)::E1 s l)=E0 0 (bZ (e t a)::bZ (e t b)::E1 t l)+ind a s t
   rw [h1]
   simp only [E0]
   rw [if_neg h2,if_neg h2,h4]
   have hi:ind a s t=if bZ (e s a)≠0∧bZ (e t a)≠bZ (e s a)then 1 else 0:=by
    unfold ind
    by_cases h6:e s a=0
    ·rw [if_neg (fun h7=>h7.1 h6),if_neg (fun h7=>h7.1 (eX.2 h6))]
    ·have h7:bZ (e s a)≠0:=fun h8=>h6 (eX.1 h8)
     simp only [ne_eq,h6,h7,not_false_eq_true,true_and]
   rw [hi]
   have hd:(bZ (e s b) = -1→bZ (e t a)≤bZ (e s a)∧(bZ (e t a)=bZ (e s a)→bZ (e s a)≠0))∧(bZ (e s b)=1→bZ (e s a)≤bZ (e t a)∧(bZ (e t a)=bZ (e s a)→bZ (e s a)≠0)):=by
    refine⟨fun h6=>?_,fun h6=>?_⟩
    ·have h5:=SG.1 (h3.trans h6)
     rcases cY (e s a)with ⟨q1,r1⟩ | ⟨q1,r1⟩ | ⟨q1,r1⟩<;>rcases cY (e t a)with ⟨q2,r2⟩ | ⟨q2,r2⟩ | ⟨q2,r2⟩<;>rw [r1,r2]<;>first | decide | (exfalso;grind)
    ·have h5:=SH.1 (h3.trans h6)
     rcases cY (e s a)with ⟨q1,r1⟩ | ⟨q1,r1⟩ | ⟨q1,r1⟩<;>rcases cY (e t a)with ⟨q2,r2⟩ | ⟨q2,r2⟩ | ⟨q2,r2⟩<;>rw [r1,r2]<;>first | decide | (exfalso;grind)
   have m1:=n9 (e s a)
   have m2:=n9 (e t a)
   have m3:=n9 (e s b)
   generalize bZ (e s a)=σ at *
   generalize bZ (e t a)=τ at *
   generalize bZ (e s b)=γ at *
   generalize E0 γ (E1 t l)=T at *
   obtain⟨d1,d2⟩:=hd
   clear hc EC h1 h3 hm hA h g hb hi
   rcases m3 with rfl | rfl | rfl
   ·obtain⟨d3,d4⟩:=d1 rfl
    rcases m1 with rfl | rfl | rfl<;>rcases m2 with rfl | rfl | rfl<;>first | (exfalso;omega) | (simp;try omega)
   ·exact absurd rfl h2
   ·obtain⟨d3,d4⟩:=d2 rfl
    rcases m1 with rfl | rfl | rfl<;>rcases m2 with rfl | rfl | rfl<;>first | (exfalso;omega) | (simp;try omega)
end Pm
namespace Pm
open ZX hiding N W
def StC(M B:Rat):List ZX→Prop
 | []=>False
 | [a]=>∃c:Int,c≠0∧a=K c
 | [_,b]=>∃c:Int,c≠0∧b=K c
 | a::b::c::l=>StC M B (b::c::l) ∧ ∃(m k:Int) (q:ZX),0<m∧0<k∧K m*a=q*b-K k*c∧2*(m:Rat)≤M ∧ ∀t,Ab t B→Ab (2*e t q) M
def zW(M:Rat):Nat→Rat
 | 0=>1
 | k+1=>zW M k/M
theorem JG{M:Rat}(hM:2≤M)(k:Nat):M*zW M (k+1)=zW M k:=by
 rw [zW,Rat.mul_comm,Rat.div_mul_cancel (by grind)]
theorem wG{M:Rat}(hM:2≤M):∀k,0<zW M k
 | 0=>by show(0:Rat)<1;decide
 | k+1=>by
  have h1:=wG hM k
  have h2:=JG hM k
  refine Rat.not_le.1 fun h=>?_
  have h3:=Rat.mul_nonneg (show 0≤M by grind) (show 0 ≤ -zW M (k+1)by grind)
  grind
theorem JH{M:Rat}(hM:2≤M)(k:Nat):zW M (k+1)≤zW M k:=by
 have h1:=wG hM (k+1)
 have h2:=JG hM k
 have h3:=Rat.mul_le_mul_of_nonneg_right (show 1≤M by grind) (Rat.le_of_lt h1)
 grind
theorem uN{M:Rat}(hM:2≤M):∀k,zW M k≤1
 | 0=>Rat.le_refl
 | k+1=>Rat.le_trans (JH hM k) (uN hM k)
theorem wH{c:Int}(h:c≠0):j7 1 (c:Rat):=by
 rcases Int.lt_trichotomy c 0 with h1 | h1 | h1
 ·left
  have:((c:Int):Rat)≤((-1:Int):Rat):=Rat.intCast_le_intCast.2 (by omega)
  rw [Rat.intCast_neg,Rat.intCast_one]at this
  exact this
 ·exact absurd h1 h
 ·right
  have:((1:Int):Rat)≤((c:Int):Rat):=Rat.intCast_le_intCast.2 (by omega)
  rw [Rat.intCast_one]at this
  exact this
theorem eH{c:Int}(h:0<c):(1:Rat)≤(c:Rat):=by
 have:((1:Int):Rat)≤((c:Int):Rat):=Rat.intCast_le_intCast.2 (by omega)
 rwa [Rat.intCast_one]at this
theorem adI{M ε ε' x y z q m k:Rat}(hM:2≤M)(he:M*ε'=ε)(hp:0<ε')(hm:1≤m)(hk:1≤k)(hmM:2*m≤M)(hq:Ab (2*q) M)(e:m*x=q*y-k*z)(hy:¬j7 ε' y)(hz:j7 ε z):j7 ε' x∧bZ x = -bZ z:=by
 have h1:=hq.mul (EZ hy)
 rw [he]at h1
 obtain⟨h2,h3⟩:=h1
 have hε:0<ε:=by rw [←he];exact Rat.mul_pos (by grind) hp
 have h6:=Rat.mul_le_mul_of_nonneg_right hmM (Rat.le_of_lt hp)
 rcases hz with hz | hz
 ·have h4:=Rat.mul_le_mul_of_nonneg_right hk (show 0 ≤ -z by grind)
  have h5:ε≤2*(m*x):=by grind
  have h7:ε'≤x:=Rat.not_lt.1 fun h=>by
   have:=Rat.mul_lt_mul_of_pos_left h (show 0<m by grind)
   grind
  refine⟨.inr h7,?_⟩
  rw [gI (x:=z) (by grind),eM (x:=x) (by grind)];rfl
 ·have h4:=Rat.mul_le_mul_of_nonneg_right hk (show 0≤z by grind)
  have h5:2*(m*x) ≤ -ε:=by grind
  have h7:x ≤ -ε':=Rat.not_lt.1 fun h=>by
   have:=Rat.mul_lt_mul_of_pos_left h (show 0<m by grind)
   grind
  refine⟨.inl h7,?_⟩
  rw [eM (x:=z) (by grind),gI (x:=x) (by grind)]
theorem StC.VW{M B t:Rat}(hM:2≤M)(ht:Ab t B):∀ {l:List ZX},StC M B l→VW (zW M l.length) t l
 | [],h=>h
 | [a],h=>by
  obtain⟨c,hc,rfl⟩:=h
  show j7 _ (e t (K c))
  rw [zV]
  exact(wH hc).mono (uN hM _)
 | [a,b],h=>by
  obtain⟨c,hc,rfl⟩:=h
  show j7 _ (e t (K c))
  rw [zV]
  exact(wH hc).mono (uN hM _)
 | a::b::c::l,h=>by
  obtain⟨h1,m,k,q,hm,hk,he,hmM,hq⟩:=h
  have ih:=StC.VW hM ht h1
  refine⟨ih.mono (JH hM _),?_⟩
  by_cases hb:j7 (zW M (a::b::c::l).length) (e t b)
  ·exact .inl hb
  ·have hc:j7 (zW M (b::c::l).length) (e t c):=by
    rcases ih.two with h2 | h2
    ·exact absurd (h2.mono (JH hM _)) hb
    ·exact h2
   have JC:(m:Rat)*e t a=e t q*e t b-k*e t c:=by
    rw [←zV (t:=t) m,←iJ,he,aul,iJ,iJ,zV]
   obtain⟨g1,g2⟩:=adI hM (JG hM _) (wG hM _) (eH hm) (eH hk) hmM (hq t ht) JC hb hc
   exact .inr ⟨g1,hc.mono (JH hM _),g2⟩
structure Lcl(L:List ZX)(f:ZX)(B δ:Rat):Prop where
 turns:∀s t,Ab s B→Ab t B→s<t→t-s≤δ→vt L s=vt L t+ind f s t
 simple:∀s t,Ab s B→Ab t B→s<t→t-s≤δ→e s f=0→e t f≠0
theorem zH{h x Q ε:Rat}(hh:0≤h)(hx:Ab x Q)(hQ:h*Q<ε):¬j7 ε (h*x):=fun hb=>by
 obtain⟨h1,h2⟩:=(Ab.mul (x:=h) (M:=h) ⟨by grind,Rat.le_refl⟩ hx)
 rcases hb with hb | hb<;>grind
theorem ZM{h x Q ε c y d1 d2:Rat}(hh:0<h)(hε:0<ε)(hc:1≤c)(hx:Ab x Q)(hQ:h*Q<ε)(hy:j7 ε y)(e1:d1=c*y)(e2:d2-d1=h*x):bZ (h*d2)=bZ y:=by
 obtain⟨h1,h2⟩:=(Ab.mul (x:=h) (M:=h) ⟨by grind,Rat.le_refl⟩ hx)
 have hs:bZ (h*d2)=bZ d2:=by rw [sU,eM hh];omega
 rw [hs]
 rcases hy with hy | hy
 ·have:=Rat.mul_le_mul_of_nonneg_right hc (show 0 ≤ -y by grind)
  rw [gI (show y<0 by grind),gI (show d2<0 by grind)]
 ·have:=Rat.mul_le_mul_of_nonneg_right hc (show 0≤y by grind)
  rw [eM (show 0<y by grind),eM (show 0<d2 by grind)]
theorem StC.loc{M B S Q δ:Rat}{f:ZX}{l:List ZX}(hM:2≤M)(hB:1≤B)(hS:0≤S)(h:StC M B (f::l))(hb:∀p∈f::l,(∀c∈p.l,Ab (c:Rat) S)∧D7 S B p.l.length≤Q)(hd:∀g k,l=g::k → ∃c:Int,0<c∧bT f=K c*g)
  (hδ:δ*Q<zW M (f::l).length):Lcl (f::l) f B δ:=by
 have hQ0:0≤Q:=by
  obtain⟨h1,h2⟩:=hb f (by simp)
  obtain⟨h3,h4⟩:=oA hS hB f.l.length
  grind
 have hε:=wG hM (f::l).length
 have sZ:∀s t:Rat,s<t→t-s≤δ→(t-s)*Q<zW M (f::l).length:=fun s t iQ hd=>by
  have:=Rat.mul_le_mul_of_nonneg_right hd hQ0
  grind
 have key:∀s t,Ab s B→Ab t B→s<t→t-s≤δ→(∀p∈f::l,¬j7 (zW M (f::l).length) (e t p-e s p)) ∧ ∀b k,l=b::k→j7 (zW M (f::l).length) (e s b)→bZ (e t f-e s f)=bZ (e s b):=fun s t hs ht iQ hsd=>by
  refine⟨fun p hp=>?_,fun b k hbk KX=>?_⟩
  ·obtain⟨h1,h2⟩:=hb p hp
   show ¬j7 _ (qv t p.l-qv s p.l)
   rw [nH]
   exact zH (by grind) ((GR hS hB hs ht p.l h1).mono h2) (sZ s t iQ hsd)
  ·obtain⟨c,hc,he⟩:=hd b k hbk
   obtain⟨h1,h2⟩:=hb f (by simp)
   show bZ (qv t f.l-qv s f.l)=_
   rw [nH]
   exact ZM (d1:=dd s s f.l) (by grind) hε (eH hc) ((adG hS hB hs ht f.l h1).mono h2) (sZ s t iQ hsd) KX (by rw [←akc,he,iJ,zV]) (SI s t f.l)
 refine⟨fun s t hs ht iQ hsd=>?_,fun s t hs ht iQ hsd h0=>?_⟩
 ·obtain⟨k1,k2⟩:=key s t hs ht iQ hsd
  exact ahD hε (h.VW hM hs) k1 k2
 ·obtain⟨k1,k2⟩:=key s t hs ht iQ hsd
  have g:=h.VW hM hs
  have nb:¬j7 (zW M (f::l).length) (e s f):=by
   rw [h0]
   rintro(h1 | h1)<;>grind
  match l,g,k2 with
  | [],g,_=>exact absurd g nb
  | b::k,g,k2 =>
   have KX:=g.two.resolve_left nb
   have h2:=k2 b k rfl KX
   intro h3
   rw [h0,h3,show(0:Rat)-0=0 by grind,jD]at h2
   have h4:=eX.1 h2.symm
   rw [h4]at KX
   rcases KX with h1 | h1<;>grind
theorem anS{B δ:Rat}(hδ:0<δ){P:Rat→Rat→Prop}(ht:∀a b c,a<b→b<c→P a b→P b c→P a c)(hs:∀a b,Ab a B→Ab b B→a<b→b-a≤δ→P a b){a b:Rat}(ha:Ab a B)(hb:Ab b B)(fK:a<b):P a b:=by
 have key:∀(n:Nat) (a b:Rat),Ab a B→Ab b B→a<b→b-a≤(n:Rat)*δ→P a b:=by
  intro n
  induction n with
  | zero=>intro a b _ _ h1 h2;exfalso;rw [show((0:Nat):Rat)=0 from rfl]at h2;grind
  | succ n ih =>
   intro a b ha hb h1 h2
   by_cases h3:b-a≤δ
   ·exact hs a b ha hb h1 h3
   ·have h3:=Rat.not_le.1 h3
    obtain⟨a1,a2⟩:=ha
    obtain⟨b1,b2⟩:=hb
    have hm:Ab (a+δ) B:=⟨by grind,by grind⟩
    refine ht a (a+δ) b (by grind) (by grind) (hs _ _ ⟨a1,a2⟩ hm (by grind) (by grind)) (ih _ _ hm ⟨b1,b2⟩ (by grind) ?_)
    rw [show((n+1:Nat):Rat)=(n:Rat)+1 from by rw [Rat.natCast_add];rfl]at h2
    grind
 have h1:=Rat.lt_floor_add_one ((b-a)/δ)
 have h2:0≤((b-a)/δ).floor:=Rat.le_floor_iff.2 (by
  have:=(Rat.lt_div_iff (a:=0) (b:=b-a) hδ).2 (by grind)
  show((0:Int):Rat)≤_
  rw [Rat.intCast_zero];exact Rat.le_of_lt this)
 refine key ((((b-a)/δ).floor+1).toNat) a b ha hb fK ?_
 have h3:(((((b-a)/δ).floor+1).toNat:Nat):Rat)=((((b-a)/δ).floor+1:Int):Rat):=by
  rw [←Rat.intCast_natCast,Int.toNat_of_nonneg (by omega)]
 rw [h3]
 have h4:=(Rat.div_lt_iff hδ).1 h1
 exact Rat.le_of_lt h4
structure wI(L:List ZX)(f:ZX):Prop where
 loc:∀B:Rat,1≤B → ∃δ,0<δ∧Lcl L f B δ
theorem kT(a b:Rat):∃B:Rat,1≤B∧Ab a B∧Ab b B:=by
 have h1:∀x:Rat,∃B:Rat,1≤B∧Ab x B:=fun x=>by
  by_cases h:0≤x
  ·exact⟨x+1,by grind,by grind,by grind⟩
  ·exact⟨-x+1,by grind,by grind,by grind⟩
 obtain⟨A,hA,ha⟩:=h1 a
 obtain⟨B,hB,hb⟩:=h1 b
 exact⟨A+B,by grind,ha.mono (by grind),hb.mono (by grind)⟩
namespace wI
variable {L:List ZX} {f:ZX} (h:wI L f)
include h
theorem adJ{P:Rat→Rat→Prop}(ht:∀a b c,a<b→b<c→P a b→P b c→P a c)(hs:∀B δ,Lcl L f B δ → ∀a b,Ab a B→Ab b B→a<b→b-a≤δ→P a b){a b:Rat}(fK:a<b):P a b:=by
 obtain⟨B,hB,ha,hb⟩:=kT a b
 obtain⟨δ,hδ,hl⟩:=h.loc B hB
 exact anS hδ ht (hs B δ hl) ha hb fK
theorem cR{a b:Rat}(fK:a≤b):vt L b≤vt L a:=by
 rcases Rat.le_iff_lt_or_eq.1 fK with h1 | rfl
 ·refine h.adJ (P:=fun a b=>vt L b≤vt L a) (fun a b c _ _ h1 h2=>Nat.le_trans h2 h1) (fun B δ hl a b ha hb fK hd=>?_) h1
  rw [hl.turns a b ha hb fK hd];omega
 ·exact Nat.le_refl _
theorem flat{a b:Rat}(fK:a<b)(he:vt L a=vt L b):e b f≠0∧(e a f≠0→bZ (e b f)=bZ (e a f)):=by
 refine h.adJ (P:=fun a b=>vt L a=vt L b→e b f≠0∧(e a f≠0→bZ (e b f)=bZ (e a f))) (fun a b c h1 h2 p1 p2 hac=>?_) (fun B δ hl a b ha hb fK hd heq=>?_) fK he
 ·have:=h.cR (Rat.le_of_lt h1)
  have:=h.cR (Rat.le_of_lt h2)
  obtain⟨q1,q2⟩:=p1 (by omega)
  obtain⟨q3,q4⟩:=p2 (by omega)
  exact⟨q3,fun ha=>by rw [q4 q1,q2 ha]⟩
 ·have h1:=hl.turns a b ha hb fK hd
  have h2:ind f a b=0:=by omega
  unfold ind at h2
  by_cases h0:e a f=0
  ·exact⟨hl.simple a b ha hb fK hd h0,fun h3=>absurd h0 h3⟩
  ·have h3:bZ (e b f)=bZ (e a f):=Classical.byContradiction fun h3=>by rw [if_pos ⟨h0,h3⟩]at h2;omega
   refine⟨fun h4=>h0 (eX.1 ?_),fun _=>h3⟩
   rw [←h3,h4,jD]
theorem const{a b:Rat}(fK:a<b){σ:Int}(h0:e a f=0∨bZ (e a f)=σ)(h1:∀x,a<x→x≤b→bZ (e x f)=σ):vt L a=vt L b:=by
 refine h.adJ (P:=fun x y=>a≤x→y≤b→vt L x=vt L y) (fun x y z r8 hyz p1 p2 hax hzb=>(p1 hax (by grind)).trans (p2 (by grind) hzb)) (fun B δ hl x y hx hy r8 hd hax hyb=>?_) fK Rat.le_refl Rat.le_refl
 rw [hl.turns x y hx hy r8 hd]
 have h2:ind f x y=0:=if_neg fun h3=>by
  obtain⟨h4,h5⟩:=h3
  rw [h1 y (by grind) hyb]at h5
  rcases Rat.le_iff_lt_or_eq.1 hax with h6 | rfl
  ·exact h5 (h1 x h6 (by grind)).symm
  ·rcases h0 with h0 | h0
   ·exact h4 h0
   ·exact h5 h0.symm
 omega
theorem root{s t:Rat}(iQ:s<t)(h0:e t f=0):vt L t<vt L s:=by
 have h1:=h.cR (Rat.le_of_lt iQ)
 refine Nat.lt_of_le_of_ne h1 fun h2=>?_
 exact(h.flat iQ h2.symm).1 h0
theorem count{roots:List Rat}(hn:roots.Nodup)(hr:∀r∈roots,e r f=0)(hc:∀a b,a<b→(∀r∈roots,a<r→b<r)→vt L a=vt L b){a b:Rat}(fK:a<b):vt L a=vt L b+(roots.countP fun r=>decide (a<r∧r≤b)):=by
 refine h.adJ (P:=fun a b=>vt L a=vt L b+(roots.countP fun r=>decide (a<r∧r≤b))) (fun a b c h1 h2 p1 p2=>?_) (fun B δ hl a b ha hb fK hd=>?_) fK
 ·rw [p1,p2]
  have:∀l:List Rat,(l.countP fun r=>decide (a<r∧r≤c))=(l.countP fun r=>decide (a<r∧r≤b))+(l.countP fun r=>decide (b<r∧r≤c)):=fun l=>by
   induction l with
   | nil=>rfl
   | cons x l ih =>
    rw [List.countP_cons,List.countP_cons,List.countP_cons,ih]
    by_cases q1:a<x∧x≤b
    ·have q2:¬(b<x∧x≤c):=fun q=>by grind
     have q3:a<x∧x≤c:=⟨q1.1,by grind⟩
     rw [if_pos (decide_eq_true q3),if_pos (decide_eq_true q1),if_neg (fun h=>q2 (of_decide_eq_true h))];omega
    ·by_cases q2:b<x∧x≤c
     ·have q3:a<x∧x≤c:=⟨by grind,q2.2⟩
      rw [if_pos (decide_eq_true q3),if_neg (fun h=>q1 (of_decide_eq_true h)),if_pos (decide_eq_true q2)];omega
     ·have q3:¬(a<x∧x≤c):=fun q=>by
       by_cases q4:x≤b
       ·exact q1 ⟨q.1,q4⟩
       ·exact q2 ⟨Rat.not_le.1 q4,q.2⟩
      rw [if_neg (fun h=>q3 (of_decide_eq_true h)),if_neg (fun h=>q1 (of_decide_eq_true h)),if_neg (fun h=>q2 (of_decide_eq_true h))];omega
  rw [this roots];omega
 ·have h1:=hl.turns a b ha hb fK hd
  have h2:ind f a b≤1:=by unfold ind;split<;>omega
  have hm:∀r,r∈roots.filter (fun r=>decide (a<r∧r≤b))↔r∈roots∧a<r∧r≤b:=fun r=>by simp [List.mem_filter]
  have K8:(roots.filter (fun r=>decide (a<r∧r≤b))).Nodup:=hn.filter _
  rw [List.countP_eq_length_filter]
  match hF:roots.filter (fun r=>decide (a<r∧r≤b)),hm,K8 with
  | [],hm,_ =>
   rw [List.length_nil,Nat.add_zero]
   refine hc a b fK fun r hr h3=>Rat.not_le.1 fun h4=>?_
   have:=(hm r).2 ⟨hr,h3,h4⟩
   simp at this
  | [r],hm,_ =>
   obtain⟨g1,g2,g3⟩:=(hm r).1 (by simp)
   have:=h.root g2 (hr r g1)
   have:=h.cR g3
   simp only [List.length_cons,List.length_nil]
   omega
  | r::q::l,hm,K8 =>
   exfalso
   obtain⟨g1,g2,g3⟩:=(hm r).1 (by simp)
   obtain⟨k1,k2,k3⟩:=(hm q).1 (by simp)
   have nJ:r≠q:=by
    simp only [List.nodup_cons,List.mem_cons,not_or]at K8
    exact K8.1.1
   rcases Rat.le_total (a:=r) (b:=q)with h5 | h5
   ·have:=h.root (Rat.lt_of_le_of_ne h5 nJ) (hr q k1)
    have:=h.root g2 (hr r g1)
    have:=h.cR k3
    omega
   ·have:=h.root (Rat.lt_of_le_of_ne h5 (Ne.symm nJ)) (hr r g1)
    have:=h.root k2 (hr q k1)
    have:=h.cR g3
    omega
end wI
theorem AK{a b:Int}{l:List Int}(h:Cn (a::b::l)):Cn (b::l):=by
 unfold Cn at h ⊢
 rw [aQ]at h
 split at h
 ·simp at h
 ·simpa using h
theorem xW{a b:Int}{l:List Int}:lead (a::b::l)=lead (b::l):=by
 unfold lead
 simp only [List.length_cons,Nat.add_sub_cancel]
 rw [j1]
theorem GS{S t:Rat}(hS:0≤S)(ht:S+1≤t):∀ {x:List Int},Cn x→0<x.length→(∀c∈x,Ab (c:Rat) S)→(0<lead x→1≤qv t x)∧(lead x<0→qv t x ≤ -1)
 | [a],hc,_,_=>by
  have e1:qv t [a]=(a:Rat):=by simp only [qv];grind
  have e2:lead [a]=a:=rfl
  rw [e1,e2]
  refine⟨fun h=>eH h,fun h=>?_⟩
  have:((a:Int):Rat)≤((-1:Int):Rat):=Rat.intCast_le_intCast.2 (by omega)
  rwa [Rat.intCast_neg,Rat.intCast_one]at this
 | a::b::l,hc,_,hb=>by
  obtain⟨h1,h2⟩:=GS hS ht (AK hc) (by simp) fun c hc=>hb c (List.mem_cons_of_mem _ hc)
  obtain⟨h3,h4⟩:=hb a (by simp)
  have e1:qv t (a::b::l)=a+t*qv t (b::l):=rfl
  rw [xW,e1]
  refine⟨fun h=>?_,fun h=>?_⟩
  ·have:=Rat.mul_le_mul_of_nonneg_left (h1 h) (show 0≤t by grind)
   grind
  ·have:=Rat.mul_le_mul_of_nonneg_left (show 1 ≤ -qv t (b::l)by have:=h2 h;grind) (show 0≤t by grind)
   grind
theorem OA{S t:Rat}(hS:0≤S)(ht:t ≤ -(S+1)):∀ {x:List Int},Cn x→0<x.length→(∀c∈x,Ab (c:Rat) S)→(0<(if x.length%2=0 then -lead x else lead x)→1≤qv t x)∧((if x.length%2=0 then -lead x else lead x)<0→qv t x ≤ -1)
 | [a],hc,_,_=>by
  have e1:qv t [a]=(a:Rat):=by simp only [qv];grind
  have e2:lead [a]=a:=rfl
  rw [e1,e2,if_neg (by simp)]
  refine⟨fun h=>eH h,fun h=>?_⟩
  have:((a:Int):Rat)≤((-1:Int):Rat):=Rat.intCast_le_intCast.2 (by omega)
  rwa [Rat.intCast_neg,Rat.intCast_one]at this
 | a::b::l,hc,_,hb=>by
  obtain⟨h1,h2⟩:=OA hS ht (AK hc) (by simp) fun c hc=>hb c (List.mem_cons_of_mem _ hc)
  obtain⟨h3,h4⟩:=hb a (by simp)
  have e1:qv t (a::b::l)=a+t*qv t (b::l):=rfl
  have e2:(if (a::b::l).length%2=0 then -lead (a::b::l)else lead (a::b::l)) = -(if (b::l).length%2=0 then -lead (b::l)else lead (b::l)):=by
   rw [xW]
   simp only [List.length_cons]
   split<;>split<;>omega
  rw [e2,e1]
  generalize (if (b::l).length%2=0 then -lead (b::l)else lead (b::l))=z at *
  refine⟨fun h=>?_,fun h=>?_⟩
  ·have:=Rat.mul_le_mul_of_nonneg_left (show 1 ≤ -qv t (b::l)by have:=h2 (by omega);grind) (show 0 ≤ -t by grind)
   grind
  ·have:=Rat.mul_le_mul_of_nonneg_left (h1 (by omega)) (show 0 ≤ -t by grind)
   grind
theorem GU{S t:Rat}(hS:0≤S){x:List Int}(hc:Cn x)(hb:∀c∈x,Ab (c:Rat) S):(S+1≤t→bZ (qv t x)=(lead x).sign)∧(t ≤ -(S+1)→bZ (qv t x)=if x.length%2=0 then -(lead x).sign else(lead x).sign):=by
 rcases Nat.eq_zero_or_pos x.length with h0 | h0
 ·have:x = []:=List.eq_nil_of_length_eq_zero h0
  subst this
  refine⟨fun _=>?_,fun _=>?_⟩<;>simp only [qv]<;>decide
 ·have hl:=dA hc h0
  refine⟨fun ht=>?_,fun ht=>?_⟩
  ·obtain⟨h1,h2⟩:=GS hS ht hc h0 hb
   rcases Int.lt_trichotomy (lead x) 0 with h | h | h
   ·have:=h2 h
    rw [Int.sign_eq_neg_one_of_neg h,gI (by grind)]
   ·exact absurd h hl
   ·have:=h1 h
    rw [Int.sign_eq_one_of_pos h,eM (by grind)]
  ·obtain⟨h1,h2⟩:=OA hS ht hc h0 hb
   rcases Int.lt_trichotomy (lead x) 0 with h | h | h
   ·rw [Int.sign_eq_neg_one_of_neg h]
    split
    ·rw [if_pos (by assumption)]at h1
     have:=h1 (by omega)
     rw [eM (by grind)];rfl
    ·rw [if_neg (by assumption)]at h2
     have:=h2 h
     rw [gI (by grind)]
   ·exact absurd h hl
   ·rw [Int.sign_eq_one_of_pos h]
    split
    ·rw [if_pos (by assumption)]at h2
     have:=h2 (by omega)
     rw [gI (by grind)]
    ·rw [if_neg (by assumption)]at h1
     have:=h1 h
     rw [eM (by grind)]
end Pm
namespace Pm
open ZX hiding N W
theorem j7.mul{x y η θ:Rat}(hη:0<η)(hθ:0<θ)(h:j7 η x)(h':j7 θ y):j7 (η*θ) (x*y):=by
 have key:∀ {u v:Rat},η≤u→θ≤v→η*θ≤u*v:=fun {u v} h1 h2=>by
  have p1:=Rat.mul_le_mul_of_nonneg_left h2 (Rat.le_of_lt hη)
  have p2:=Rat.mul_le_mul_of_nonneg_right h1 (show 0≤v by grind)
  grind
 rcases h with h | h<;>rcases h' with h' | h'
 ·right;have:=key (show η ≤ -x by grind) (show θ ≤ -y by grind);grind
 ·left;have:=key (show η ≤ -x by grind) h';grind
 ·left;have:=key h (show θ ≤ -y by grind);grind
 ·right;exact key h h'
def Bg(a b:Rat)(p:ZX):Prop:=∃η:Rat,0<η ∧ ∀x,a≤x→x≤b→j7 η (e x p)
theorem Bg.mul{a b:Rat}{p q:ZX}(h:Bg a b p)(h':Bg a b q):Bg a b (p*q):=by
 obtain⟨η,h1,h2⟩:=h
 obtain⟨θ,h3,h4⟩:=h'
 exact⟨η*θ,Rat.mul_pos h1 h3,fun x hx hy=>by rw [iJ];exact j7.mul h1 h3 (h2 x hx hy) (h4 x hx hy)⟩
theorem Bg.K{a b:Rat}{c:Int}(hc:c≠0):Bg a b (ZX.K c):=⟨1,by decide,fun x _ _=>by rw [zV];exact wH hc⟩
theorem GV(t:Rat)(n d:Int):e t (of [n,d])=n+d*t:=by
 rw [anR]
 simp only [qv];grind
theorem Bg.lin{a b:Rat}{n d:Int}(h:(0<(n:Rat)+d*a∧0<(n:Rat)+d*b)∨((n:Rat)+d*a<0∧(n:Rat)+d*b<0)):Bg a b (of [n,d]):=by
 have key:∀x,a≤x→x≤b→((n:Rat)+d*a≤n+d*x∧(n:Rat)+d*x≤n+d*b)∨((n:Rat)+d*b≤n+d*x∧(n:Rat)+d*x≤n+d*a):=fun x hx hy=>by
  by_cases hd:(0:Rat)≤d
  ·left
   have:=Rat.mul_le_mul_of_nonneg_left hx hd
   have:=Rat.mul_le_mul_of_nonneg_left hy hd
   grind
  ·right
   have:=Rat.mul_le_mul_of_nonneg_left hx (show (0:Rat) ≤ -d by grind)
   have:=Rat.mul_le_mul_of_nonneg_left hy (show (0:Rat) ≤ -d by grind)
   grind
 generalize (n:Rat)+d*a=u at *
 generalize (n:Rat)+d*b=v at *
 rcases h with ⟨h1,h2⟩ | ⟨h1,h2⟩
 ·by_cases huv:u≤v
  ·exact⟨u,h1,fun x hx hy=>by rw [GV];have:=key x hx hy;right;grind⟩
  ·exact⟨v,h2,fun x hx hy=>by rw [GV];have:=key x hx hy;right;grind⟩
 ·by_cases huv:u≤v
  ·exact⟨-v,by grind,fun x hx hy=>by rw [GV];have:=key x hx hy;left;grind⟩
  ·exact⟨-u,by grind,fun x hx hy=>by rw [GV];have:=key x hx hy;left;grind⟩
theorem AL(l:List Int):∃S:Rat,0≤S ∧ ∀c∈l,Ab (c:Rat) S:=by
 induction l with
 | nil=>exact⟨0,Rat.le_refl,fun c hc=>by cases hc⟩
 | cons a l ih =>
  obtain⟨S,hS,h⟩:=ih
  obtain⟨A,hA,ha,_⟩:=kT a a
  refine⟨S+A,by grind,fun c hc=>?_⟩
  rcases List.mem_cons.1 hc with rfl | hc
  ·exact ha.mono (by grind)
  ·exact(h c hc).mono (by grind)
theorem cK{a b x B:Rat}(ha:Ab a B)(hb:Ab b B)(hx:a≤x)(hy:x≤b):Ab x B:=by
 obtain⟨h1,h2⟩:=ha
 obtain⟨h3,h4⟩:=hb
 exact⟨by grind,by grind⟩
theorem ahG(a b:Rat)(p:ZX):∃W:Rat,0<W ∧ ∀x,a≤x→x≤b→Ab (e x p) W:=by
 obtain⟨B,hB,ha,hb⟩:=kT a b
 obtain⟨S,hS,h⟩:=AL p.l
 obtain⟨h3,_⟩:=oA hS hB p.l.length
 exact⟨D7 S B p.l.length+1,by grind,fun x hx hy=>(N9 hS hB (cK ha hb hx hy) p.l h).mono (by grind)⟩
theorem Bg.dv{a b:Rat}{f p:ZX}(h:Bg a b p)(hd:ZX.dv f p):Bg a b f:=by
 obtain⟨c,hc,q,he⟩:=hd
 obtain⟨η,h1,h2⟩:=(Bg.K (a:=a) (b:=b) hc).mul h
 obtain⟨W,hW,h3⟩:=ahG a b q
 refine⟨η/W,(Rat.lt_div_iff hW).2 (by grind),fun x hx hy=>?_⟩
 have h4:=h2 x hx hy
 rw [he,iJ]at h4
 have h5:η/W*W=η:=Rat.div_mul_cancel (Rat.ne_of_gt hW)
 refine Classical.byContradiction fun hn=>?_
 obtain⟨g1,g2⟩:=AH hn
 obtain⟨k1,k2⟩:=h3 x hx hy
 generalize η/W=θ at *
 generalize e x q=u at *
 generalize e x f=v at *
 have key:∀ {w z:Rat}, -W≤w→w≤W → -θ<z→z<θ→w*z<θ*W:=fun {w z} a1 a2 a3 a4=>by
  by_cases hw:0≤w
  ·by_cases hz:0≤z
   ·have p1:=Rat.mul_le_mul_of_nonneg_right a2 hz
    have p2:=Rat.mul_lt_mul_of_pos_left a4 hW
    grind
   ·have p1:=Rat.mul_nonneg hw (show 0 ≤ -z by grind)
    grind
  ·by_cases hz:0≤z
   ·have p1:=Rat.mul_nonneg (show 0 ≤ -w by grind) hz
    grind
   ·have p1:=Rat.mul_le_mul_of_nonneg_right (show -w≤W by grind) (show 0 ≤ -z by grind)
    have p2:=Rat.mul_lt_mul_of_pos_left (show -z<θ by grind) hW
    grind
 rcases h4 with h4 | h4
 ·have:=key (w := -u) (z:=v) (by grind) (by grind) g1 g2
  grind
 ·have:=key (w:=u) (z:=v) k1 k2 g1 g2
  grind
theorem Bg.same{a b:Rat}{f:ZX}(h:Bg a b f){x y:Rat}(hx:a≤x)(r8:x<y)(hy:y≤b):bZ (e y f)=bZ (e x f)∧bZ (e x f)≠0:=by
 obtain⟨η,hη,h2⟩:=h
 obtain⟨B,hB,ha,hb⟩:=kT a b
 obtain⟨S,hS,hc⟩:=AL f.l
 obtain⟨h3,_⟩:=oA hS hB f.l.length
 generalize hQ:D7 S B f.l.length=Q at *
 have hQ1:0<Q+1:=by grind
 have hδ:η/(Q+1)*(Q+1)=η:=Rat.div_mul_cancel (Rat.ne_of_gt hQ1)
 have hδ0:0<η/(Q+1):=(Rat.lt_div_iff hQ1).2 (by grind)
 generalize η/(Q+1)=δ at *
 refine anS (B:=B) hδ0 (P:=fun x y=>a≤x→y≤b→bZ (e y f)=bZ (e x f)∧bZ (e x f)≠0) (fun x y z h1 h2 p1 p2 hx hz=>?_) (fun x y hx hy r8 hd hax hyb=>?_) (cK ha hb hx (by grind)) (cK ha hb (by grind) hy) r8 hx hy
 ·obtain⟨q1,q2⟩:=p1 hx (by grind)
  obtain⟨q3,q4⟩:=p2 (by grind) hz
  exact⟨q3.trans q1,q2⟩
 ·refine fS (h2 x hax (by grind)) hη ?_
  show ¬j7 η (qv y f.l-qv x f.l)
  rw [nH]
  refine zH (Q:=Q) (by grind) (hQ▸GR hS hB hx hy f.l hc) ?_
  have:=Rat.mul_le_mul_of_nonneg_right hd h3
  grind
theorem wI.bg{L:List ZX}{f:ZX}(h:wI L f){a b:Rat}(hb:Bg a b f)(fK:a<b):vt L a=vt L b:=by
 refine h.const fK (σ:=bZ (e a f)) (.inr rfl) fun x hx hy=>?_
 exact(hb.same Rat.le_refl hx hy).1
theorem wI.ZN{L:List ZX}{f:ZX}(h:wI L f){a b:Rat}(fK:a<b)(h0:e a f=0):∃c,a<c∧c≤b∧vt L a=vt L c:=by
 obtain⟨B,hB,ha,hb⟩:=kT a b
 obtain⟨δ,hδ,hl⟩:=h.loc B hB
 by_cases hd:b-a≤δ
 ·refine⟨b,fK,Rat.le_refl,?_⟩
  rw [hl.turns a b ha hb fK hd]
  have:ind f a b=0:=if_neg fun h=>h.1 h0
  omega
 ·refine⟨a+δ,by grind,by grind,?_⟩
  rw [hl.turns a (a+δ) ha (cK ha hb (by grind) (by grind)) (by grind) (by grind)]
  have:ind f a (a+δ)=0:=if_neg fun h=>h.1 h0
  omega
end Pm
