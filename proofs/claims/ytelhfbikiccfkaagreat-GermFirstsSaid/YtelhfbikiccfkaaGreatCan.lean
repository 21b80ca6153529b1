import Derived.Test.YtelhfbikiccfkaaGreatCah
import Derived.Test.YtelhfbikiccfkaaGreatCak
import Derived.Test.YtelhfbikiccfkaaGreatCam
set_option linter.unusedSimpArgs false
set_option linter.unusedVariables false
namespace Go.Proofs.YtelhfbikiccfkaaGreat
open Go Pm
def xP(l:Int):Int:=if l<0 then -1 else 1
theorem ahR(l:Int):xP l*l=l.natAbs:=by unfold xP;split<;>omega
def WH(y x:List Int):List Int:=xM y (lead y).natAbs (xP (lead y)*lead x) (x.length-y.length) x
def WI(y x:List Int)(i:Nat):Int:=nth x i*((lead y).natAbs:Int)-if x.length-y.length≤i then xP (lead y)*lead x*nth y (i-(x.length-y.length))else 0
theorem adO{y x:List Int}(h:y.length≤x.length):aP ((List.range x.length).map (WI y x))=WH y x:=by
 refine Cn.ext (Cn.cut _) (Cn.fF _ _) fun t=>?_
 unfold WH
 rw [c9,xM,iY,cM,dI,oA]
 obtain⟨k,hk⟩:∃k,x.length=k+y.length:=⟨x.length-y.length,by omega⟩
 have e1:(List.range x.length).map (WI y x)=(List.range x.length).map fun i=>nth x i*((lead y).natAbs:Int)+(-(if x.length-y.length≤i then xP (lead y)*lead x*nth y (i-(x.length-y.length))else 0)):=List.map_congr_left fun i _=>by unfold WI;omega
 rw [e1,s6,gZ,jY (Nat.le_refl _)]
 generalize xP (lead y)*lead x=T at *
 have e2:((List.range x.length).map fun i => -(if x.length-y.length≤i then T*nth y (i-(x.length-y.length))else 0))=List.replicate k 0++y.map fun v=>v*(-T):=by
  have hk2:x.length-y.length=k:=by omega
  rw [hk2,hk,List.range_add,List.map_append,List.map_map]
  congr 1
  ·rw [List.eq_replicate_iff]
   refine⟨by simp,fun v hv=>?_⟩
   simp only [List.mem_map,List.mem_range]at hv
   obtain⟨i,hi,rfl⟩:=hv
   rw [if_neg (by omega)];rfl
  ·have h2:=o9 (x:=y) (n:=y.length) (Nat.le_refl _)
   rw [Nat.sub_self,List.replicate_zero,List.append_nil]at h2
   conv=>rhs;rw [←h2]
   rw [List.map_map]
   refine List.map_congr_left fun i _=>?_
   simp only [Function.comp_apply]
   rw [if_pos (by omega),Nat.add_sub_cancel_left];grind
 rw [e2,dZ,qT]
 have h3:=gZ (t:=t) (-T) id y
 simp only [id_eq,List.map_id_fun]at h3
 rw [h3,List.length_replicate,show x.length-y.length=k by omega]
 grind
theorem tE{y x:List Int}(hy:0<y.length)(h:y.length≤x.length):(WH y x).length<x.length:=by
 have h1:=A5 (b:=y) (r:=x) (i:=x.length-y.length) hy (by omega)
 rw [show wB y x (x.length-y.length)=lead x from by rw [wB,if_pos (by omega)]]at h1
 have e:WH y x=bB (xM y (lead y) (lead x) (x.length-y.length) x) (xP (lead y)):=Cn.ext (Cn.fF _ _) (Cn.bB _ _) fun t=>by
  unfold WH
  rw [cM,xM,xM,iY,iY,cM,cM,dI,dI,oA,oA,←ahR]
  grind
 rw [e]
 have:=pW (xM y (lead y) (lead x) (x.length-y.length) x) (xP (lead y))
 omega
theorem adP(t:Int)(y x:List Int):((lead y).natAbs:Int)*V t x=t^(x.length-y.length)*(xP (lead y)*lead x)*V t y+V t (WH y x):=by
 unfold WH
 rw [xM,iY,cM,dI,oA];grind
def rq(y:List Int):Nat→List Int→List Int
 | 0,x=>x
 | n+1,x=>if x.length<y.length then x else rq y n (WH y x)
theorem anH{y x:List Int}(h:x.length<y.length):∀n,rq y n x=x
 | 0=>rfl
 | n+1=>by rw [rq,if_pos h]
theorem WJ{y:List Int}(cy:Cn y)(hy:0<y.length):∀(n:Nat) (x:List Int),Cn x→x.length<n→Cn (rq y n x)∧(rq y n x).length<y.length ∧ ∃(m:Int) (q:List Int),m≠0 ∧ ∀t,m*V t x=V t q*V t y+V t (rq y n x)
 | 0,x,_,h=>by omega
 | n+1,x,cx,h=>by
  rw [rq]
  split
  ·rename_i h1
   exact⟨cx,h1,1,[],by decide,fun t=>by simp [V]⟩
  ·rename_i h1
   have hl:=tE hy (show y.length≤x.length by omega)
   obtain⟨h2,h3,m,q,hm,h4⟩:=WJ cy hy n (WH y x) (Cn.fF _ _) (by omega)
   have y7:=cX cy hy
   refine⟨h2,h3,m*(lead y).natAbs,iI q (bB (q9 (x.length-y.length) (xP (lead y)*lead x)) m),Int.mul_ne_zero hm (by omega),fun t=>?_⟩
   have h5:=adP t y x
   have h6:=h4 t
   rw [rV,cM,oA]
   have:m*((lead y).natAbs:Int)*V t x=m*(((lead y).natAbs:Int)*V t x):=by grind
   rw [this,h5]
   grind
theorem TA{s s' N:Nat}{y x:List Int}(tD:Bd 2 s' N y)(bx:Bd 2 s N x)(hy:0<y.length)(h:y.length≤x.length):Bd 2 (s+(s'+N+1)) N (WH y x):=by
 have hl:=tE hy h
 have hlx:=bx.len
 have hls:sz 2 ((lead y).natAbs:Int)≤s':=Nat.le_trans (c7 (by decide) (by rw [Int.natAbs_natCast];exact Nat.le_refl _)) (fX tD)
 have hlr:sz 2 (xP (lead y)*lead x)≤s:=Nat.le_trans (c7 (by decide) (by
  rw [Int.natAbs_mul]
  have:(xP (lead y)).natAbs=1:=by unfold xP;split<;>rfl
  rw [this,Nat.one_mul];exact Nat.le_refl _)) (fX bx)
 have b1:Bd 2 (s+s'+N) (max N (x.length-y.length+1+N)) (bB x ((lead y).natAbs:Int)):=(bx.bB (by decide) hls).mono (by omega) (by omega)
 have b2:Bd 2 (s+s'+N) (max N (x.length-y.length+1+N)) (bT (q9 (x.length-y.length) (xP (lead y)*lead x)) y):=((Bd.q9 hlr (x.length-y.length)).bT (by decide) tD).mono (by omega) (by omega)
 exact⟨by omega,fun c hc=>by
  have h6:=(Bd.fF (by decide) b1 b2).sz c hc
  omega⟩
theorem akn{s' N:Nat}{y:List Int}(tD:Bd 2 s' N y)(hy:0<y.length):∀(n j s:Nat) (x:List Int),Bd 2 s N x→x.length+1≤y.length+j→Bd 2 (s+j*(s'+N+1)) N (rq y n x)
 | 0,j,s,x,bx,_=>bx.mono (by simp) (Nat.le_refl _)
 | n+1,j,s,x,bx,hj=>by
  rw [rq]
  split
  ·exact bx.mono (by simp) (Nat.le_refl _)
  ·rename_i h1
   obtain⟨i,rfl⟩:∃i,j=i+1:=⟨j-1,by omega⟩
   have hl:=tE hy (show y.length≤x.length by omega)
   have:=akn tD hy n i (s+(s'+N+1)) (WH y x) (TA tD bx hy (by omega)) (by omega)
   rw [Nat.add_mul,Nat.one_mul]
   exact this.mono (by omega) (Nat.le_refl _)
theorem anI(n:Nat):RI (n:Int) = .ag [aI aG (aN DD n), .bool false]:=by
 simp [show ¬((n:Int)<0)by omega]
set_option maxHeartbeats 2000000 in
theorem HD{s s' N:Nat}{x0 y:List Int}(bx0:Bd 2 s N x0)(tD:Bd 2 s' N y)(cx0:Cn x0)(cy:Cn y)(SB:0<y.length)(hN:N≤1000)(hB:s+(x0.length+1-y.length+1)*(s'+N+1)<YY) :
  aD env.P 173 [PI x0,PI y] (PI (rq y (x0.length+1) x0)):=by
 have hlN:=bx0.len
 have hNy:=tD.len
 obtain⟨R,hR⟩:∃R,R=rq y (x0.length+1) x0:=⟨_,rfl⟩
 rw [←hR]
 obtain⟨M,hM⟩:∃M,M=s+(x0.length+1-y.length+1)*(s'+N+1):=⟨_,rfl⟩
 rw [←hM]at hB
 have hB:M<137438953472:=hB
 have hls:sz 2 ((lead y).natAbs:Int)≤s':=Nat.le_trans (c7 (by decide) (by rw [Int.natAbs_natCast];exact Nat.le_refl _)) (fX tD)
 have e2:((y.length:Int)-1).toNat=y.length-1:=by omega
 have P6:nth y (y.length-1)=lead y:=rfl
 refine cY (E:=env) (fun id=>if id=16 then 2 else 0) [(0,PI x0),(1,PI y)] Tryz.func173 rfl (by kernel_rfl) (by kernel_rfl) (show 2≤78 by decide) (by simp) ?_
 refine aA [0,1] ?_
 refine W.sr ?_
 simp (disch:=omega) [gw,e2,P6]
 refine bL [0,1,5] ?_
 refine aA [0,1,5,6] ?_
 refine b9 [0,1,5,6] ?_
 refine W.block ?_
 refine W.bG (fun n σ=>∃(x:List Int) (j u:Nat) (rows:Pm.Rows) (clk:Nat),σ=⟨fa [(0,PI x),(1,PI y),(5, .ptr 5 0 0 0),(6, .ptr 6 1 0 0)],rows,clk⟩ ∧
  rows 5=some ⟨0,29,2,[[aI aG (aN DD (lead y).natAbs), .bool (decide (lead y<0))]]⟩∧rows 6=some ⟨1,29,2,[[aI aG (aN DD (lead y).natAbs), .bool false]]⟩ ∧
  Cn x∧x.length<n∧rq y n x=R∧Bd 2 u N x∧x.length+1≤y.length+j∧u+(j+1)*(s'+N+1)≤M) (x0.length+1) ?_ ?_
 ·exact⟨_, .refl,x0,x0.length+1-y.length,s,_,_,rfl,by simp,by simp,cx0,by omega,hR.symm,bx0,by omega,by omega⟩
 rintro n _ ⟨x,j,u,rows,clk,rfl,fM,pG,cx,hxn,hxR,bx,hj,hu⟩
 have hlx:=bx.len
 refine aL [0,1,5,6,25] ?_
 refine bC ?_ ?_<;>intro h
 ·have h:y.length≤x.length:=by simp at h;omega
  obtain⟨n,rfl⟩:∃m,n=m+1:=⟨n-1,by omega⟩
  rw [rq,if_neg (by omega)]at hxR
  have MZ:=tE SB h
  obtain⟨k,hk⟩:∃k,k=x.length-y.length:=⟨_,rfl⟩
  have hkI:(x.length:Int)-(y.length:Int)=k:=by omega
  have e1:((x.length:Int)-1).toNat=x.length-1:=by omega
  have hxl:nth x (x.length-1)=lead x:=rfl
  have atQ:=adO h
  have b2:=TA tD bx SB h
  have hlX:sz 2 (lead x)≤u:=fX bx
  have hu1:u+(s'+N+1)≤M:=by
   have:=Nat.le_mul_of_pos_left (s'+N+1) (show 0<j+1 by omega)
   omega
  refine W.skip ?_
  refine W.block ?_
  refine W.sr ?_
  simp (disch:=omega) [gw,hkI]
  refine bL [0,1,5,6,7] ?_
  refine W.sr ?_
  simp (disch:=omega) [gw,e1,hxl]
  refine bL [0,1,5,6,7,8] ?_
  obtain⟨T,hT⟩:∃T,T=xP (lead y)*lead x:=⟨_,rfl⟩
  have hTs:sz 2 T≤u:=Nat.le_trans (c7 (by decide) (by
   rw [hT,Int.natAbs_mul]
   have:(xP (lead y)).natAbs=1:=by unfold xP;split<;>rfl
   rw [this,Nat.one_mul];exact Nat.le_refl _)) hlX
  have hTp:(lead y<0→T = -lead x)∧(¬lead y<0→T=lead x):=by
   rw [hT];unfold xP
   constructor
   ·intro h;rw [if_pos h];omega
   ·intro h;rw [if_neg h];omega
  refine W.gD (fun σ=>∃(v:Nat) (rows:Pm.Rows) (clk:Nat),σ=⟨fa [(0,PI x),(1,PI y),(5, .ptr 5 0 0 0),(6, .ptr 6 1 0 0),(7, .int .i64 k),(8, .ptr 8 v 0 0)],rows,clk⟩ ∧
   rows 5=some ⟨0,29,2,[[aI aG (aN DD (lead y).natAbs), .bool (decide (lead y<0))]]⟩∧rows 6=some ⟨1,29,2,[[aI aG (aN DD (lead y).natAbs), .bool false]]⟩ ∧
   rows 8=some ⟨v,29,2,[[aI aG (aN DD T.natAbs), .bool (decide (T<0))]]⟩) ?_ ?_
  ·refine W.sr ?_
   simp (disch:=omega) [gw,fM]
   refine bL [0,1,5,6,7,8,39] ?_
   refine bC ?_ ?_<;>intro h
   ·have h:lead y<0:=by simpa using h
    have acM:=r7 (lead x)
    rw [←hTp.1 h]at acM
    refine W.cC (fun K hK=>?_)
    simp (disch:=omega) [gw]
    refine cB acM ?_
    exact hK _ ⟨_,aC _ [0,1,5,6,7,8],_,_,_,rfl,by simp [fM],by simp [pG],by simp⟩
   ·have h:¬lead y<0:=by simpa using h
    rw [hTp.2 h]
    refine W.skip ?_
    exact⟨_,aC _ [0,1,5,6,7,8],_,_,_,rfl,by simp [fM],by simp [pG],by simp⟩
  clear fM pG rows clk
  rintro _ ⟨v8,rows,clk,rfl,fM,pG,AO⟩
  refine aA [0,1,5,6,7,8,9] ?_
  refine W.nil 9 9 31 4 (by simp) (by decide) (fun K hK=>?_)
  refine W.lw [0,1,5,6,7,8,9] hK ?_;clear hK K;simp
  refine aL [0,1,5,6,7,8,9,43,44] ?_
  refine W.block ?_
  refine W.bG (fun m σ=>∃(i v9:Nat) (rows:Pm.Rows) (clk:Nat),σ=⟨fa [(0,PI x),(1,PI y),(5, .ptr 5 0 0 0),(6, .ptr 6 1 0 0),(7, .int .i64 k),(8, .ptr 8 v8 0 0),(9, .own 9 v9 0 i),(43, .int .i64 x.length),(44, .int .i64 i)],rows,clk⟩ ∧
   rows 5=some ⟨0,29,2,[[aI aG (aN DD (lead y).natAbs), .bool (decide (lead y<0))]]⟩∧rows 6=some ⟨1,29,2,[[aI aG (aN DD (lead y).natAbs), .bool false]]⟩ ∧
   rows 8=some ⟨v8,29,2,[[aI aG (aN DD T.natAbs), .bool (decide (T<0))]]⟩∧rows 9=some ⟨v9,31,4,emap ri ((List.range i).map (WI y x))⟩∧i+m=x.length) x.length ?_ ?_
  ·exact⟨_,aC _ [0,1,5,6,7,8,9,43,44],0,_,_,_,rfl,by simp [fM],by simp [pG],by simp [AO],by simp [emap],by omega⟩
  clear fM pG AO rows clk
  rintro m _ ⟨i,v9,rows,clk,rfl,fM,pG,AO,hr9,him⟩
  have uT:((List.range i).map (WI y x)).length=i:=by simp
  refine b9 [0,1,5,6,7,8,9,43,44,45] ?_
  refine bC ?_ ?_<;>intro h
  ·have hi:i<x.length:=by simp at h;omega
   have hxi:=bx.nth i
   have m1:=eO (nth x i) ((lead y).natAbs:Int) (by show sz 2 _<1099511627776;omega) (by show sz 2 _<1099511627776;omega)
   rw [anI]at m1
   have s1:sz 2 (nth x i*((lead y).natAbs:Int))≤u+s':=cD (by decide) hxi hls
   have er:(List.range (i+1)).map (WI y x)=(List.range i).map (WI y x) ++ [WI y x i]:=by
    rw [List.range_succ,List.map_append];rfl
   have hF:WI y x i=nth x i*((lead y).natAbs:Int)-if k≤i then T*nth y (i-k)else 0:=by unfold WI;rw [hk,hT]
   generalize (List.range i).map (WI y x)=acc at *
   generalize hP:nth x i*((lead y).natAbs:Int)=P at *
   refine kW ?_
   refine aA [0,1,5,6,7,8,9,10,43,44] ?_
   refine W.sd ?_
   simp (disch:=omega) [gw,pG]
   refine cB m1 ?_
   rw [if_pos (by kernel_rfl)]
   simp (disch:=omega) [gw]
   refine bL [0,1,5,6,7,8,9,10,11,43,44] ?_
   generalize hQ:WI y x i=Q at *
   have sQ:sz 2 Q≤u+(s'+N+1):=by
    have X1:sz 2 (nth y (i-k))≤s':=tD.nth _
    rw [hF]
    split
    ·have:=cD (b:=2) (by decide) hTs X1
     have h1:=nE (b:=2) (by decide) (x:=P) (y := -(T*nth y (i-k))) (k:=u+s') s1 (by rw [oR];exact this)
     rw [←Int.sub_eq_add_neg]at h1
     omega
    ·rw [Int.sub_zero];omega
   refine W.gD (fun σ=>∃(v11:Nat) (rows:Pm.Rows) (clk:Nat),σ=⟨fa [(0,PI x),(1,PI y),(5, .ptr 5 0 0 0),(6, .ptr 6 1 0 0),(7, .int .i64 k),(8, .ptr 8 v8 0 0),(9, .own 9 v9 0 i),(11, .ptr 11 v11 0 0),(43, .int .i64 x.length),(44, .int .i64 i)],rows,clk⟩ ∧
    rows 5=some ⟨0,29,2,[[aI aG (aN DD (lead y).natAbs), .bool (decide (lead y<0))]]⟩∧rows 6=some ⟨1,29,2,[[aI aG (aN DD (lead y).natAbs), .bool false]]⟩ ∧
    rows 8=some ⟨v8,29,2,[[aI aG (aN DD T.natAbs), .bool (decide (T<0))]]⟩∧rows 9=some ⟨v9,31,4,emap ri acc⟩ ∧
    rows 11=some ⟨v11,29,2,[[aI aG (aN DD Q.natAbs), .bool (decide (Q<0))]]⟩) ?_ ?_
   ·refine aA [0,1,5,6,7,8,9,10,11,43,44,56] ?_
    refine bC ?_ ?_<;>intro h
    ·have hki:k≤i:=by simp at h;omega
     rw [if_pos hki]at hF
     have eik:(i:Int)-(k:Int)=((i-k:Nat):Int):=by omega
     have hyb:i-k<y.length:=by omega
     have m2:=eO T (nth y (i-k)) (by show sz 2 _<1099511627776;omega) (by have:=tD.nth (i-k);show sz 2 _<1099511627776;omega)
     have s2:=cD (b:=2) (by decide) hTs (tD.nth (i-k))
     have m3:=NK P (T*nth y (i-k)) (by show sz 2 _<1099511627776;omega) (by show sz 2 _<1099511627776;omega)
     rw [←hF]at m3
     generalize T*nth y (i-k)=P2 at *
     refine W.P5 (fun K hK=>?_)
     simp (disch:=omega) [gw,AO,eik]
     refine cB m2 ?_
     refine cB m3 ?_
     refine a9 (by kernel_rfl) ?_
     simp (disch:=omega) [gw]
     exact hK _ ⟨_,aC _ [0,1,5,6,7,8,9,11,43,44],_,_,_,rfl,by simp [fM],by simp [pG],by simp [AO],by simp [hr9],by simp⟩
    ·have hki:¬k≤i:=by simp at h;omega
     rw [if_neg hki,Int.sub_zero]at hF
     rw [hF]
     refine W.skip ?_
     exact⟨_,aC _ [0,1,5,6,7,8,9,11,43,44],_,_,_,rfl,by simp [fM],by simp [pG],by simp [AO],by simp [hr9],by simp⟩
   clear fM pG AO hr9 rows clk
   rintro _ ⟨v11,rows,clk,rfl,fM,pG,AO,hr9,mU⟩
   have o1:=oB 1 (by decide) (by decide)
   have mk:=GW Q (by show sz 2 Q<549755813888;omega)
   refine W.P5 (fun K hK=>?_)
   rw [if_pos rfl,eQ]
   simp (disch:=omega) [gw,mU]
   refine cB o1 ?_
   refine aB mk ?_
   simp (disch:=omega) [gw,hr9,uT]
   refine W.lw [0,1,5,6,7,8,9,43,44] hK ?_;clear hK K;simp
   refine W.cC (fun K hK=>?_);simp (disch:=omega) [gw]
   refine hK _ ⟨m-1,_,aC _ [0,1,5,6,7,8,9,43,44],by omega,i+1,_,_,_,rfl,by simp [fM],by simp [pG],by simp [AO],by rw [er];simp,by omega⟩
  ·have hi:i=x.length:=by simp at h;omega
   subst hi
   have gC:((List.range x.length).map (WI y x)).length=x.length:=by simp
   generalize (List.range x.length).map (WI y x)=acc at *
   have ez:=bO gC
   have nU:=pD acc (by omega)
   rw [atQ]at nU
   refine eV ?_
   refine W.cC (fun K hK=>?_)
   simp (disch:=omega) [gw,hr9,ez]
   refine cB nU ?_
   obtain⟨j,rfl⟩:∃i,j=i+1:=⟨j-1,by omega⟩
   rw [Nat.add_mul,Nat.one_mul]at hu
   refine hK _ ⟨n,_,aC _ [0,1,5,6],by omega,WH y x,j,u+(s'+N+1),_,_,rfl,by simp [fM],by simp [pG],Cn.fF _ _,by omega,hxR,b2,by omega,by omega⟩
 ·have h:x.length<y.length:=by simp at h;omega
  rw [anH h]at hxR
  subst hxR
  refine eV ?_
  refine aA [4] ?_
  exact bV
end Go.Proofs.YtelhfbikiccfkaaGreat
namespace Pm
open Go Go.RowKit
section
variable {E:Env} {c:Cx} {w0:World} {S0:eC} {m:Nat} {G:Gs}
theorem ahS(hI:Inv w0 S0 c){t e:TypeId}{n bb len:Nat}{z:List PV}(hE:E.ty t = .slice e n bb z){parts:Array (Nat × Operand)}{ρ:Operand→PV}{vρ:Operand→Value}(hρ:∀x,aM c (ρ x) (vρ x))
  {els:List (List PV)} (BR:iD n 0 (parts.toList.map fun x=>(x.1,ρ x.2))=some els) (hlen:len=els.length) (hsm:len≤4096) (hn:n≤4096)
  (i5:∀e∈els,∀p∈e,i0 c.rows p) :
  ∃cS,(Instr.buildSlice t len (parts.map fun(i,x)=>(i,vρ x))).run E.P c.w = .ok (.slice (some ⟨c.w.heap.size,0,none⟩) len len) (c.w.alloc (.cells cS e))∧cS.size=len*n∧bK (aU c) els.flatten cS.toList∧(∀u∈cS.toList,u.oneCell'=true)∧(∀e∈els,e.length=n)∧0<n:=by
 obtain⟨hu,hnp,IC,i,zv,hi,hz,hs,_,QR,_⟩:=fQ hE
 obtain⟨g1,g2,g3⟩:=oP BR
 have UT:parts.size=els.length:=by rw [g1];simp
 have awL:zv.cells.size=n:=by rw [←IC,←QR];simp
 have FZ:∀j (x:Nat × Value),((parts.map fun(i,x)=>(i,vρ x)).toList)[j]? = some x→x.1=0+j ∧ ∃e,els[j]? = some e∧bK (aU c) e x.2.cells.toList ∧ ∀u∈x.2.cells.toList,u.oneCell'=true:=by
  intro j x hx
  simp at hx
  obtain⟨a,b,gJ,rfl⟩:=hx
  obtain⟨q1,e,q2,q3⟩:=g3 j (a,ρ b) (by simp;exact⟨a,b,gJ,rfl,rfl⟩)
  have q4:=m7 (hρ b) q3 (fun q hq=>i5 e (List.mem_of_getElem? q2) q hq)
  exact⟨q1,e,q2,q4.1,q4.2⟩
 obtain⟨cS,f1,f2⟩:=BU (n:=n) (parts.map fun(i,x)=>(i,vρ x)).toList 0 ((Array.range (len*n)).map (zv.cells[· % zv.cells.size]!)) (fun j x hx=>by
  obtain⟨q1,e,q2,q3,_⟩:=FZ j x hx
  refine⟨q1,?_⟩
  have:=q3.length
  rw [g2 e (List.mem_of_getElem? q2)]at this
  simpa using this.symm) (by simp [UT,hlen])
 simp only [Nat.zero_mul,List.take_zero,List.nil_append]at f2
 have kA:(Instr.buildSlice t len (parts.map fun(i,x)=>(i,vρ x))).run E.P c.w = .ok (.slice (some ⟨c.w.heap.size,0,none⟩) len len) (c.w.alloc (.cells cS e)):=by
  have hbound:¬(16777216<len*n):=by
   have:len*n≤4096*4096:=Nat.mul_le_mul hsm hn
   omega
  by_cases h0:len*n=0
  ·have y7:len=0:=by
    rcases Nat.mul_eq_zero.1 h0 with h | h
    ·exact h
    ·omega
   have hp0:parts = #[]:=Array.eq_empty_of_size_eq_zero (by omega)
   subst hp0
   subst y7
   simp [Instr.fill]at f1
   subst f1
   have PW:Array.range 0 = #[]:=rfl
   simp [Instr.buildSlice,run_underlying hu,dN hi,newRow,Instr.fill,PW]
  ·have f1':Instr.fill (fun i=>some (i*n,n)) ((Array.range (len*n)).map (zv.cells[· % zv.cells.size]!)) (parts.toList.map fun x=>(x.1,vρ x.2))=some cS:=by simpa using f1
   simp only [Instr.buildSlice,Sem.run_bind,run_underlying hu,Result.andThen_ok,dN hi,hs]
   simp [h0,hbound,newRow,zeroValue,typeInfo,hi,hz,f1']
 have e3:cS.toList=((parts.map fun(i,x)=>(i,vρ x)).toList.map fun x=>x.2.cells.toList).flatten:=by rw [f2,List.flatMap_def]
 have key:∀(vs:List (Nat × Value)) (es:List (List PV)),vs.length=es.length→(∀(j:Nat) (x:Nat × Value),vs[j]? = some x → ∃e,es[j]? = some e∧bK (aU c) e x.2.cells.toList ∧ ∀u∈x.2.cells.toList,u.oneCell'=true) →
   bK (aU c) es.flatten (vs.map fun x=>x.2.cells.toList).flatten ∧ ∀u∈(vs.map fun x=>x.2.cells.toList).flatten,u.oneCell'=true:=by
  intro vs
  induction vs with
  | nil =>
   intro es hl _
   have:es = []:=List.eq_nil_of_length_eq_zero hl.symm
   subst this
   exact⟨trivial,by simp⟩
  | cons v vs ih =>
   intro es hl h
   match es,hl with
   | e::es,hl =>
    obtain⟨h1,h2⟩:=ih es (by simpa using hl) fun j x hx=>by simpa using h (j+1) x (by simpa using hx)
    obtain⟨e',q1,q2,q3⟩:=h 0 v (by simp)
    simp at q1;subst q1
    simp only [List.flatten_cons,List.map_cons]
    refine⟨bK.append q2 h1,fun u hu=>?_⟩
    rcases List.mem_append.1 hu with hu | hu
    ·exact q3 u hu
    ·exact h2 u hu
 obtain⟨k1,k2⟩:=key (parts.map fun(i,x)=>(i,vρ x)).toList els (by simp [UT]) fun j x hx=>(FZ j x hx).2
 rw [←e3]at k1 k2
 refine⟨cS,kA,?_,k1,k2,g2,hnp⟩
 have h5:=k1.length
 have fl:∀ {l:List (List PV)},(∀e∈l,e.length=n)→l.flatten.length=l.length*n:=by
  intro l
  induction l with
  | nil=>intro _;simp
  | cons e l ih=>intro h;rw [List.flatten_cons,List.length_append,ih (fun e he=>h e (by simp [he])),h e (by simp),List.length_cons,Nat.add_mul];omega
 rw [fl g2,Array.length_toList]at h5
 rw [hlen];exact h5.symm
def FH(E:Env)(o:Oper)(K:PS→Prop)(σ:PS):Prop:=
 match o.op with
 | .buildSlice t len parts =>
  match E.ty t with
  | .slice e n _ _=>∃els,iD n 0 (parts.toList.map fun x=>(x.1,aV σ.f x.2))=some els∧len=els.length∧len≤4096∧n≤4096∧(∀x∈els,∀p∈x,i0 σ.rows p) ∧
    ID K σ o.dst (.own (o.dst.getD 0) σ.clock 0 els.length) (o.dst.getD 0) e n els
  | _=>False
 | _=>False
theorem uY{o:Oper}{a:Act}{w:World}{σ:PS}{K:PS→Prop}(h:FH E o K σ)(hR:Rel w0 S0 m G σ a w)(hd:∀t,o.dst=some t→t<m)
  {K':Act→World→Prop} {Q:Exit→Act→World→Prop} (hK:∀σ' a' w',K σ'→Rel w0 S0 m G σ' a' w'→K' a' w'):o.wp E.P a w K' Q:=by
 obtain⟨⟨c,rfl,hr,gC,hI,hf,hG⟩,hn,fR⟩:=hR
 have hρ:=mM hf
 obtain⟨dst,op,type,pos,after,guard⟩:=o
 simp only at hd
 unfold FH at h
 simp only at h
 split at h
 ·rename_i t len parts
  split at h
  ·rename_i e n b z hE
   obtain⟨els,h1,h2,h3,h4,h5,h⟩:=h
   rw [←hr]at h5
   obtain⟨cS,g1,g2,g3,g4,g5,g6⟩:=ahS hI hE hρ h1 h2 h3 h4 h5
   obtain⟨xK,hA⟩:=xU hI (ver:=σ.clock) (fun hu=>Nat.lt_irrefl _ (gC _ hu)) (dst.getD 0) e n els.length els.length els cS rfl (Nat.le_refl _) (by simp only [maxLen];omega) (by rw [g2,h2]) (by
    rw [List.take_of_length_le (by rw [Array.length_toList,g2,h2];exact Nat.le_refl _)];exact g3) g4 g5 g6
   obtain⟨f',rows',vH,BX⟩:=rL (K:=fun f' r'=>K ⟨f',r',σ.clock+1⟩) hr gC hf hG hn fR h xK hA (lZ (r:=⟨σ.clock,e,n,els⟩) (A:=some ⟨c.w.heap.size,0,none⟩) (cap:=els.length) (by simp [eE]) rfl (Or.inl rfl) (by simp [eE])) hd
   unfold Oper.wp
   have:(execOp a.eval { dst:=dst,op:=.buildSlice t len parts,type:=type,pos:=pos,after:=after,guard:=guard }).run E.P c.w = .ok (.value (.slice (some ⟨c.w.heap.size,0,none⟩) els.length els.length)) (c.w.alloc (.cells cS e)):=by
    rw [h2]at g1
    simp only [execOp,Sem.run_bind,h2,g1,Result.andThen_ok,Sem.run_pure]
   rw [this]
   refine hK _ _ _ vH (BX.mono fun v hv=>?_)
   show v<σ.clock+1
   rcases hv with rfl | hv
   ·omega
   ·have:v<σ.clock:=hv
    omega
  ·exact h.elim
 ·exact h.elim
theorem oF{ops:Array Oper}{K:PS→Prop}{Q:Exit→Act→World→Prop}{l2:List Oper}(hK:∀σ' a' w',K σ'→Rel w0 S0 m G σ' a' w'→wpList E.P ops Q l2 a' w') :
  ∀(l:List Oper) (σ:PS) (a:Act) (w:World),(∀o∈l,∀t,o.dst=some t→t<m)→aO E ops.toList l K σ→Rel w0 S0 m G σ a w→wpList E.P ops Q (l++l2) a w
 | [],σ,a,w,_,h,hR=>hK _ _ _ h hR
 | o::os,σ,a,w,hd,h,hR=>by
  have hdo:=hd o (by simp)
  have hds:∀o∈os,∀t,o.dst=some t→t<m:=fun o ho=>hd o (by simp [ho])
  have wanted:∀ {σ},eZ E o (aO E ops.toList os K) σ→Rel w0 S0 m G σ a w→o.wp E.P a w (wpList E.P ops Q (os++l2)) Q:=fun hp hR =>
   zA hp hR hdo fun σ' a' w' hk l5=>oF hK os σ' a' w' hds hk l5
  show wpList E.P ops Q (o::(os++l2)) a w
  unfold wpList
  simp only [aO]at h
  split at h
  ·rename_i hg
   rw [if_pos (by simp [Region.wanted,hg])]
   exact .inl (wanted h hR)
  ·rename_i j want hg
   split at h
   ·exact h.elim
   ·rename_i d Q6
    have hd3:(ops[j]?).bind (·.dst)=some d:=by simpa using Q6
    have skip:yielded ops a.tmps j≠some want→aO E ops.toList os K (σ.put o.dst (.eB []))→(if Region.wanted o (yielded ops a.tmps)=true then o.wp E.P a w (wpList E.P ops Q (os++l2)) Q∨(o.asks E.P a w∧LetsOut Q)else wpList E.P ops Q (os++l2) (a.put o.dst undef) w):=by
     intro hy h2
     rw [if_neg (by simpa [Region.wanted,hg]using hy)]
     refine oF hK os _ _ w hds h2 ?_
     obtain⟨⟨c,rfl,hr,gC,hI,hf,hG⟩,hn,fR⟩:=hR
     exact n4 hf hG hn fR (uE.refl c) hI Q0 hdo rfl (by simp [PS.put,hr]) gC
    obtain⟨c,_,_,_,_,hf,_⟩:=hR.ex
    have hx:=hf d
    rcases h with ⟨h1,h2⟩ | ⟨h1 | h1,h2⟩
    ·rw [h1]at hx
     rw [if_pos (by simp [Region.wanted,hg,iN hd3 hx])]
     exact .inl (wanted h2 hR)
    ·rw [h1]at hx
     exact skip (by rw [iN hd3 hx];cases want<;>simp) h2
    ·rw [h1]at hx
     exact skip (by rw [uM hd3 hx];simp) h2
end
theorem W.adR{E:Env}{n:Nat}{tl:Nat→Nat}{Q:PX→PS→Prop}{σ:PS}{id:Nat}{ops:List Oper}{y:Code}(i:Nat){o:Oper}(ho:ops=ops.take i++o::ops.drop (i+1))(hg:o.guard=none)
  (h:∀K:PS→Prop,(∀σ,W E n tl y Q σ→K σ)→go (aO E ops (ops.take i) (fun σ=>FH E o (aO E ops (ops.drop (i+1)) K) σ) σ)):W E n tl (.seq (.region id ops.toArray false) y) Q σ:=by
 refine W.seq ?_
 intro gT w0 S0 G a w Q' hR hQ
 simp only [fA,rO,Bool.and_eq_true]at gT
 have hd:∀o∈ops,∀t,o.dst=some t→t<n:=fun o ho t ht=>by
  have:=Array.all_eq_true_iff_forall_mem.1 gT.1 o (by simpa using ho)
  simpa [ht]using this
 refine wp_region_list ?_
 show wpList E.P ops.toArray Q' ops a w
 have h1:=h (fun σ=>W E n tl y Q σ) fun _ h=>h
 have uK:o∈ops:=by rw [ho];simp
 have:=oF (E:=E) (w0:=w0) (S0:=S0) (m:=n) (G:=G) (ops:=ops.toArray) (Q:=Q') (l2:=o::ops.drop (i+1)) (K:=fun σ=>FH E o (aO E ops (ops.drop (i+1)) (fun σ=>W E n tl y Q σ)) σ) (fun σ' a' w' hl l5=>by
  unfold wpList
  rw [if_pos (by simp [Region.wanted,hg])]
  refine .inl (uY hl l5 (hd o uK) fun σ2 a2 w2 hk hR2=>?_)
  exact iE (E:=E) (ops:=ops.toArray) (fun σ3 a3 w3 hk3 hR3=>hQ .normal σ3 a3 w3 hk3 hR3) _ σ2 a2 w2 (fun o ho=>hd o (List.mem_of_mem_drop ho)) hk hR2) (ops.take i) σ a w (fun o ho=>hd o (List.mem_of_mem_take ho)) h1 hR
 rwa [←ho]at this
def DQ(ti:TI)(rows:Rows)(len:Nat)(ps:List (Nat × PV))(K:TypeId→Nat→List (List PV)→Prop):Prop:=
 match ti with
 | .slice e n _ _=>jI n 0 ps fun els=>aK (len=els.length∧len≤4096∧n≤4096∧iF rows els.flatten) (K e n els)
 | _=>False
@[congr] theorem ahT{t t':TI}{rows rows':Rows}{len:Nat}{ps VA:List (Nat × PV)}{K:TypeId→Nat→List (List PV)→Prop}(h:t=t')(h2:ps=VA)(h3:rows=rows'):DQ t rows len ps K=DQ t' rows' len VA K:=by rw [h,h2,h3]
@[simp] theorem ahU{e n b:Nat}{z:List PV}{rows:Rows}{len:Nat}{ps:List (Nat × PV)}{K:TypeId→Nat→List (List PV)→Prop}:DQ (.slice e n b z) rows len ps K=jI n 0 ps fun els=>aK (len=els.length∧len≤4096∧n≤4096∧iF rows els.flatten) (K e n els):=rfl
@[simp] theorem av1{E:Env}{K:PS→Prop}{f:Nat→PV}{rows:Rows}{clk:Nat}{d:Option Tmp}{ty:TypeId}{pos:String}{af:Array Edge}{t:TypeId}{len:Nat}{parts:Array (Nat × Operand)} :
  FH E ⟨d, .buildSlice t len parts,ty,pos,af,none⟩ K ⟨f,rows,clk⟩=DQ (E.ty t) rows len (parts.toList.map fun x=>(x.1,aV f x.2)) fun e n els=>K ⟨put f d (.own (d.getD 0) clk 0 els.length),eE rows (d.getD 0) (some ⟨clk,e,n,els⟩),clk+1⟩:=by
 simp only [FH,DQ]
 generalize E.ty t=T
 cases T with
 | slice e n b z =>
  simp only
  rw [←xY]
  simp only [aK,ID,iF]
  apply propext
  constructor
  ·rintro⟨els,h1,h2,h3,h4,h5,h6⟩
   exact⟨els,h1,⟨h2,h3,h4,fun q hq=>by obtain⟨x,hx,hq⟩:=List.mem_flatten.1 hq;exact h5 x hx q hq⟩,h6⟩
  ·rintro⟨els,h1,⟨h2,h3,h4,h5⟩,h6⟩
   exact⟨els,h1,h2,h3,h4,fun x hx q hq=>h5 q (List.mem_flatten.2 ⟨x,hx,hq⟩),h6⟩
 | _=>rfl
end Pm
namespace Go.Proofs.YtelhfbikiccfkaaGreat
open Go Pm
def rz(a c:ZX):ZX:=ZX.of (rq c.l (a.l.length+1) a.l)
theorem tF{a c:ZX}(hc:c≠0):(rz a c).l=rq c.l (a.l.length+1) a.l∧ZX.N (rz a c)<ZX.N c ∧ ∃(m:Int) (q:ZX),m≠0∧ZX.K m*a=q*c+ZX.K 1*rz a c:=by
 obtain⟨h1,h2,m,q,hm,h3⟩:=WJ c.c (ZX.aH.1 hc) (a.l.length+1) a.l a.c (by omega)
 have e:(rz a c).l=rq c.l (a.l.length+1) a.l:=h1
 refine⟨e,by show(rz a c).l.length<c.l.length;rw [e];exact h2,m,ZX.of q,hm,ZX.ext fun t=>?_⟩
 rw [ZX.dR,ZX.vJ,ZX.mL,ZX.dR,ZX.dR,ZX.vJ,ZX.FF,e,h3 t];omega
theorem WK{s n:Nat}{a c:ZX}(ha:BZ s n a)(hb:BZ s n c)(hc:c≠0):BZ (s+(ZX.N a+1-ZX.N c)*(s+n+1)) n (rz a c):=by
 have h:=akn hb (ZX.aH.1 hc) (a.l.length+1) (ZX.N a+1-ZX.N c) s a.l ha (by show ZX.N a+1≤ZX.N c+_;omega)
 rw [←(tF hc).1]at h
 exact h
theorem yH{s n C:Nat}{a c:ZX}(b:BZ s n a)(b':BZ s n c)(hP:yG C n s (nf a) (nf c))(hn:n≤20)(hC:C≤4500000000)(h1:1≤s):aD env.P 208 [PI a.l,PI c.l] (PI (gz a c).l):=by
 have hs:=hP.le
 have p1:=lN b h1 (by show s≤137438953472;omega) (by omega)
 have p2:=lN b' h1 (by show s≤137438953472;omega) (by omega)
 have b1:=b.nf
 have b2:=b'.nf
 have hg:gz (nf a) (nf c)=gz a c:=by rw [V9,S7]
 have hx1:=OB a
 rw [←hg]
 generalize oT:nf a=x0 at *
 generalize SB:nf c=y0 at *
 generalize hG:gz x0 y0=G at *
 refine bY [(0,PI a.l),(1,PI c.l)] Tryz.func208 ?_
 generalize a.l=al at *
 generalize c.l=cl at *
 refine aA [0,1] ?_
 refine iB ?_
 refine cB p1 ?_
 refine bS [0,1] p2 ?_
 refine W.seq ?_
 refine W.block ?_
 refine W.bG (fun k σ=>∃(x y:ZX) (s:Nat) (rows:Pm.Rows) (clk:Nat),σ=⟨fa [(0,PI x.l),(1,PI y.l)],rows,clk⟩∧BZ s n x∧BZ s n y∧1≤s∧yG C n s x y∧gz x y=G∧nf x=x∧nf y=y∧k=ZX.N y) (ZX.N y0) ?_ ?_
 ·exact⟨_, .refl,x0,y0,s,_,_,rfl,b1,b2,h1,hP,hG,hx1,by rw [←SB,OB],rfl⟩
 rintro k _ ⟨x,y,s,rows,clk,rfl,bx,tD,h1,hp,hgz,hnx,hny,rfl⟩
 have hs:=hp.le
 have hlx:=bx.len
 have hly:=tD.len
 refine aL [0,1,11] ?_
 refine bC ?_ ?_<;>intro h
 ·have hy:y≠0:=ZX.aH.2 (by show 0<y.l.length;simp at h;omega)
  obtain⟨YT,hN,m,q,hm,e⟩:=tF (a:=x) hy
  have br:=WK bx tD hy
  have hmul:(x.l.length+1-y.l.length+1)*(s+n+1)≤22*4500000000:=Nat.mul_le_mul (by omega) (by omega)
  have ako:(ZX.N x+1-ZX.N y)*(s+n+1)≤22*4500000000:=Nat.mul_le_mul (by have:ZX.N x=x.l.length:=rfl;omega) (by omega)
  have hR:=HD (s:=s) (s':=s) (N:=n) bx tD x.c y.c (ZX.aH.1 hy) (by omega) (by show _<137438953472;omega)
  rw [←YT]at hR
  have pr:=lN br (by omega) (by show _≤137438953472;omega) (by omega)
  have JO:ZX.N (nf (rz x y))<ZX.N y:=by rw [wT];exact hN
  have hp2:=hp.step JO
  have oO:=J7 hm (show (1:Int)≠0 by decide) e
  rw [←S7 y (rz x y)]at oO
  have br2:=br.nf
  have YZ:=OB (rz x y)
  generalize (rz x y).l=rl at *
  generalize nf (rz x y)=r2 at *
  refine W.skip ?_
  refine W.block ?_
  refine W.cC (fun K hK=>?_)
  simp (disch:=omega) [gw]
  refine cB hR ?_
  refine cB pr ?_
  refine hK _ ⟨ZX.N r2,_,aC _ [0,1],JO,y,r2,_,_,_,rfl,tD.mono (by omega) (Nat.le_refl _),br2,by omega,hp2,by rw [←oO,hgz],hny,YZ,rfl⟩
 ·have hy:y=0:=by
   refine Classical.byContradiction fun h0=>?_
   have h1:=ZX.aH.1 h0
   have h2:ZX.N y=y.l.length:=rfl
   simp at h;rw [h2,h]at h1;simp at h1
  subst hy
  rw [tC,hnx]at hgz
  subst hgz
  refine eV ?_
  refine aA [4] ?_
  exact bV
theorem ZY{h h' n:Nat}{a c:ZX}(b:BZ h n a)(b':BZ h' n c)(h1:1≤h)(ha:Nf a)(hc:Nf c)(hd:ZX.dv c a)(hB:h+(n+1)*(h'+n+2)+h'+n+n+10<137438953472):aD env.P 240 [PI a.l,PI c.l] (.eB [PI (qz a c).l,PI []]):=by
 obtain⟨hw,e⟩:=oE ha hc hd
 have hD:=NZ a.l c.l b b' a.c c.c (ZX.aH.1 hc.ne) h1 hB
 obtain⟨e1,e2⟩:=adu (q:=(qz a c).l) a.c c.c (ZX.aH.1 hc.ne) (qz a c).c fun t=>by
  conv=>lhs;rw [e]
  rw [ZX.dR]
 rw [e1,e2,qV,qV,qV]at hD
 exact hD
def zq(a:ZX):List PV:=[PI a.l]
@[simp] theorem ay2{a:ZX}:zq a = [PI a.l]:=rfl
@[simp] theorem aqb{l:List ZX}:bM 1 (emap zq l)=True:=dO fun _=>rfl
@[simp] theorem anK{v e n:Nat}{l:List ZX}:dJ (some ⟨v,e,n,emap zq l⟩)=True:=dC fun _=>rfl
@[simp] theorem ay3{l:List ZX}{a:ZX}:emap zq l ++ [[aI ri a.l]]=emap zq (l ++ [a]):=by simp [emap]
theorem nX.qd{s n:Nat}{a c d:ZX}(h:nX s n a)(h1:1≤s)(ha:Nf a)(hc:Nf c)(hd:Nf d)(hca:ZX.dv c a)(hdc:ZX.dv d c):aD env.P 240 [PI c.l,PI d.l] (.eB [PI (qz c d).l,PI []])∧aD env.P 82 [PI (qz c d).l] (PI (qz c d).l):=by
 have b:=h.dv ha hc hca
 have b2:=h.dv ha hd (hdc.trans hca)
 have hq:=h.qW
 have hn:=h.hn
 obtain⟨hw,e⟩:=oE hc hd hdc
 have bq:=h.dv ha hw ((adI hc hd hdc).trans hca)
 have hm:(n+1)*(qb s n+n+2)≤21*4500000000:=Nat.mul_le_mul (by omega) (by omega)
 have anL:1≤qb s n:=by unfold qb;omega
 refine⟨ZY b b2 anL hc hd hdc (by omega),?_⟩
 have:=lN bq anL (by show _≤137438953472;omega) (by omega)
 rwa [hw.ZU]at this
theorem nX.qgd{s n:Nat}{a c:ZX}(h:nX s n a)(ha:Nf a)(hc:Nf c)(hd:ZX.dv c a):aD env.P 107 [PI c.l] (PI (ZX.bX c).l)∧aD env.P 208 [PI c.l,PI (ZX.bX c).l] (PI (gd c).l):=by
 have b:=h.dv ha hc hd
 have b2:=b.bX (by have:=h.hn;omega)
 have hq:=h.qW
 have hn:=h.hn
 have anL:1≤qb s n:=by unfold qb;omega
 refine⟨wX b (by show _≤137438953472;omega) (by omega),yH (s:=qb s n+5) (b.mono (by omega) (Nat.le_refl _)) b2 ?_ h.hn (C:=4500000000) (Nat.le_refl _) (by omega)⟩
 have hN:=ZX.oD c
 have h1:ZX.N c≤n:=b.N
 have h2:=ZX.aH.1 hc.ne
 unfold yG
 rw [wT,wT,if_pos (by omega)]
 refine Nat.le_trans (Nat.mul_le_mul (show qb s n+5+n+1≤qb s n+n+6 by omega) (Nat.pow_le_pow_right (by decide) h1)) h.hC
theorem qG{s n:Nat}{a:ZX}(h:nX s n a)(h1:1≤s):aD env.P 189 [PI a.l] (aI zq (fl (nf a))):=by
 have hqb:=h.qW
 have hn:=h.hn
 have pY:s≤4500000000:=by unfold qb at hqb;omega
 have p1:=lN h.bz h1 (by show s≤137438953472;omega) (by omega)
 have hA:=h.nfz
 have hNa:ZX.N a=a.l.length:=rfl
 have hNN:=wT a
 have hle:=G8 (nf a)
 have hNA:ZX.N (nf a)≤n:=hA.bz.N
 refine bY [(0,PI a.l)] Tryz.func189 ?_
 refine aA [0] ?_
 refine aL [0,2,15] ?_
 refine bC ?_ ?_<;>intro h
 ·have h2:ZX.N a≤1:=by simp at h;omega
  have h3:fl (nf a) = []:=by unfold fl;rw [OK (by rw [hNN];exact h2)];rfl
  rw [h3]
  refine aA [2] ?_
  refine W.R4 2 (aI zq []) (by simp) rfl (fun K hK=>?_)
  refine W.lw [2] hK ?_;clear hK K;simp
  exact bV
 have h2:2≤ZX.N a:=by simp at h;omega
 have nA:Nf (nf a):=gW (ZX.aH.2 (by omega))
 clear h
 generalize nf a=A at *
 obtain⟨m,hm⟩:∃m,m=nl A:=⟨_,rfl⟩
 have VS:fl A=(List.range m).map (mC A):=by rw [hm];rfl
 rw [VS]
 refine W.skip ?_
 refine aJ [0] p1 ?_
 refine aA [0,3] ?_
 refine W.adR 1 rfl rfl (fun K hK=>?_)
 simp (disch:=omega) [gw]
 refine W.lw [3,4] hK ?_;clear hK K;simp
 refine W.seq ?_
 refine W.block ?_
 refine W.bG (fun k σ=>∃(i ver:Nat) (rows:Pm.Rows) (clk:Nat),σ=⟨fa [(3, .nil),(4, .own 19 ver 0 (i+1))],rows,clk⟩∧rows 19=some ⟨ver,46,1,emap zq ((List.range (i+1)).map (gs A))⟩∧i+k=m) m ?_ ?_
 ·exact⟨_, .refl,0,_,_,_,rfl,by simp [emap,gs],by omega⟩
 rintro k _ ⟨i,ver,rows,clk,rfl,hr,AM⟩
 have uT:((List.range (i+1)).map (gs A)).length=i+1:=by simp
 have uX:nth ((List.range (i+1)).map (gs A)) i=gs A i:=eW _ (by omega)
 have er:(List.range (i+1+1)).map (gs A)=(List.range (i+1)).map (gs A) ++ [gs A (i+1)]:=by rw [List.range_succ,List.map_append];rfl
 have e1:((i:Int)+1-1).toNat=i:=by omega
 generalize hL:(List.range (i+1)).map (gs A)=L at *
 refine W.seq ?_
 refine W.sr ?_
 simp (disch:=omega) [gw,hr,uT,uX]
 refine bL [3,4,27] ?_
 refine bC ?_ ?_<;>intro h
 ·have h3:2≤ZX.N (gs A i):=by
   have h4:ZX.N (gs A i)=(gs A i).l.length:=rfl
   simp at h;omega
  clear h
  have hi:i<nl A:=by
   rcases Nat.lt_or_ge i (nl A)with h4 | h4
   ·exact h4
   ·have h5:=(kP A).1
    rw [show nl A=i by omega]at h5;omega
  obtain⟨t1,t2⟩:=hA.qgd nA (nM nA i) (G7 A i)
  rw [show gd (gs A i)=gs A (i+1)from rfl]at t2
  generalize hg:(gs A i).l=g at *
  generalize oO:gs A (i+1)=g2 at *
  refine W.skip ?_
  refine W.block ?_
  refine W.sr ?_
  simp (disch:=omega) [gw,hr,uT,uX,hg]
  refine bL [3,4,5] ?_
  refine W.cC (fun K hK=>?_)
  simp (disch:=omega) [gw]
  refine cB t1 ?_
  refine aB t2 ?_
  simp (disch:=omega) [gw,hr,uT]
  refine hK _ ⟨k-1,_,aC _ [3,4],by omega,i+1,_,_,_,rfl,by rw [er];simp,by omega⟩
 have h3:ZX.N (gs A i)≤1:=by
  have h4:ZX.N (gs A i)=(gs A i).l.length:=rfl
  simp at h;omega
 clear h
 have hi:i=m:=by
  rcases Nat.lt_or_ge i (nl A)with h4 | h4
  ·have:=(kP A).2 i h4;omega
  ·omega
 subst hi
 have hR:L ++ [(1:ZX)]=(List.range (i+2)).map (gs A):=by
  rw [show(1:ZX)=gs A (i+1)by rw [hm,OG nA 1]]
  exact er.symm
 have i5:=sG
 generalize hz:(1:ZX)=z1 at *
 refine eV ?_
 refine iB ?_
 refine aB i5 ?_
 simp (disch:=omega) [gw,hr,uT]
 refine bL [3,4] ?_
 clear hr uX e1 er hL uT
 have hRl:(L ++ [z1]).length=i+2:=by rw [hR];simp
 have uX:∀j,j<i+2→nth (L ++ [z1]) j=gs A j:=fun j hj=>by rw [hR];exact eW _ hj
 generalize L ++ [z1]=R at *
 have hRt:List.take (i+2) R=R:=List.take_of_length_le (by omega)
 refine W.freeze 19 (by simp) (fun K hK=>?_)
 simp [hRt]
 refine hK _ ?_;clear hK K
 refine W.nil 3 3 46 1 (by simp) (by decide) (fun K hK=>?_)
 refine W.lw [3,4] hK ?_;clear hK K;simp
 refine aL [3,4,6] ?_
 refine W.block ?_
 refine W.bG (fun k σ=>∃(j ver:Nat) (rows:Pm.Rows) (clk:Nat),σ=⟨fa [(3, .own 3 ver 0 j),(4,aI zq R),(6, .int .i64 j)],rows,clk⟩∧rows 3=some ⟨ver,46,1,emap zq ((List.range j).map (mC A))⟩∧j+k=i) i ?_ ?_
 ·exact⟨_, .refl,0,_,_,_,rfl,by simp [emap],by omega⟩
 clear rows clk ver AM k
 rintro k _ ⟨j,ver,rows,clk,rfl,hr,hjk⟩
 have hjl:((List.range j).map (mC A)).length=j:=by simp
 refine W.seq ?_
 refine W.sr ?_
 simp (disch:=omega) [gw,hRl]
 refine bL [3,4,6,50] ?_
 refine bC ?_ ?_<;>intro h
 ·have hj:j<i:=by simp at h;omega
  clear h
  have er:(List.range (j+1)).map (mC A)=(List.range j).map (mC A) ++ [mC A j]:=by rw [List.range_succ,List.map_append];rfl
  have n0:=uX j (by omega)
  have n1:=uX (j+1) (by omega)
  have n2:=uX (j+2) (by omega)
  have l0:j<R.length:=by omega
  have l1:j+1<R.length:=by omega
  have l2:j+2<R.length:=by omega
  have e1:((j:Int)+1).toNat=j+1:=by omega
  have e2:((j:Int)+2).toNat=j+2:=by omega
  obtain⟨d1,q1⟩:=hA.qd h1 nA (nM nA j) (nM nA (j+1)) (G7 A j) (zW _)
  obtain⟨d2,q2⟩:=hA.qd h1 nA (nM nA (j+1)) (nM nA (j+2)) (G7 A (j+1)) (zW _)
  obtain⟨d3,q3⟩:=hA.qd h1 nA (fY nA j).1 (fY nA (j+1)).1 (A9 nA j) (OI nA j)
  rw [show qz (gs A j) (gs A (j+1))=wz A j from rfl]at d1 q1
  rw [show qz (gs A (j+1)) (gs A (j+2))=wz A (j+1)from rfl]at d2 q2
  rw [show qz (wz A j) (wz A (j+1))=mC A j from rfl]at d3 q3
  have h0:(nth R j).l=(gs A j).l:=by rw [n0]
  have h1':(nth R (j+1)).l=(gs A (j+1)).l:=by rw [n1]
  have h2':(nth R (j+2)).l=(gs A (j+2)).l:=by rw [n2]
  generalize (gs A j).l=g0 at *
  generalize (gs A (j+1)).l=g1 at *
  generalize (gs A (j+2)).l=g2 at *
  generalize (wz A j).l=w0 at *
  generalize (wz A (j+1)).l=w1 at *
  generalize hF:mC A j=F at *
  generalize hac:(List.range j).map (mC A)=acc at *
  refine kW ?_
  refine W.sd ?_
  simp (disch:=omega) [gw,h0,h1',e1]
  refine bS [3,4,6,7] d1 ?_
  refine W.sd ?_
  simp (disch:=omega) [gw,h1',h2',e1,e2]
  refine bS [3,4,6,7,9] d2 ?_
  refine iB ?_
  refine cB q1 ?_
  refine cB q2 ?_
  refine bS [3,4,6,11] d3 ?_
  refine W.cC (fun K hK=>?_)
  simp (disch:=omega) [gw]
  refine aB q3 ?_
  simp (disch:=omega) [gw,hr,hjl]
  refine W.lw [3,4,6] hK ?_;clear hK K;simp
  refine W.cC (fun K hK=>?_);simp (disch:=omega) [gw]
  refine hK _ ⟨k-1,_,aC _ [3,4,6],by omega,j+1,_,_,_,rfl,by rw [er];simp,by omega⟩
 ·have hj:j=i:=by simp at h;omega
  subst hj
  generalize (List.range j).map (mC A)=acc at *
  have xL:List.take j acc=acc:=List.take_of_length_le (by omega)
  refine eV ?_
  refine W.sr ?_
  simp (disch:=omega) [gw,hr,xL]
  refine bL [2] ?_
  refine W.ret ?_
  simp [go,hr,xL]
theorem qH{s n:Nat}{a:ZX}(h:nX s n a)(h1:1≤s):aD env.P 170 [PI a.l] (PI (sq a).l):=by
 have hqb:=h.qW
 have hn:=h.hn
 have hF:=qG h h1
 have hA:=h.nfz
 have hNa:ZX.N a=a.l.length:=rfl
 have hsq:ZX.N a≠0→sq a=pf (nf a) (fun _=>true) (nl (nf a)):=fun h0=>by
  have nA:=gW (ZX.aH.2 (Nat.pos_of_ne_zero h0))
  unfold sq
  split
  ·rename_i h2
   rw [OK (by rw [wT];exact h2),nA.N1 (by rw [wT];exact h2)];rfl
  ·rw [anD nA]
 have hNf:ZX.N a≠0→Nf (nf a):=fun h0=>gW (ZX.aH.2 (Nat.pos_of_ne_zero h0))
 have hle:=G8 (nf a)
 have hNA:ZX.N (nf a)≤n:=hA.bz.N
 have atU:ZX.N a=0→(sq a).l = []:=fun h0=>by
  have h2:a=0:=Classical.byContradiction fun h3=>by have:=ZX.aH.1 h3;omega
  unfold sq
  rw [if_pos (by omega),h2,iP];rfl
 generalize nf a=A at *
 refine bY [(0,PI a.l)] Tryz.func170 ?_
 refine aA [0] ?_
 refine aL [0,2,8] ?_
 refine W.cond ⟨_,rfl,fun h3=>?_,fun h3=>?_⟩
 ·have h0:ZX.N a=0:=by rw [hNa];simp at h3;rw [h3];rfl
  rw [atU h0]
  refine aA [2] ?_
  refine W.R4 2 (PI []) (by simp) rfl (fun K hK=>?_)
  refine W.lw [2] hK ?_;clear hK K;simp
  exact bV
 have h0:ZX.N a≠0:=by rw [hNa];simp at h3;intro h4;exact h3 (List.eq_nil_of_length_eq_zero h4)
 have nA:=hNf h0
 rw [hsq h0]
 clear h3 hsq atU hNf
 have hmul:∀i,aD env.P 30 [PI (pf A (fun _=>true) i).l,PI (mC A i).l] (PI (pf A (fun _=>true) (i+1)).l):=fun i=>by
  have b1:=hA.dv nA (wV nA (fun _=>true) i) (BA nA _ i)
  have b2:=hA.dv nA (wU nA i).1 (J8 nA i)
  exact pF _ _ _ _ _ _ b1 b2 (by show _<137438953472;omega)
 obtain⟨m,hm⟩:∃m,m=nl A:=⟨_,rfl⟩
 have VS:fl A=(List.range m).map (mC A):=by rw [hm];rfl
 rw [←hm]at hle ⊢
 rw [VS]at hF
 have EU:((List.range m).map (mC A)).length=m:=by simp
 have uX:∀i,i<m→(nth ((List.range m).map (mC A)) i).l=(mC A i).l:=fun i hi=>by rw [eW _ hi]
 generalize (List.range m).map (mC A)=L at *
 have h1:=sG
 rw [show(1:ZX)=pf A (fun _=>true) 0 from rfl]at h1
 generalize hg:pf A (fun _=>true) 0=g0 at *
 refine W.skip ?_
 refine aJ [0,3] h1 ?_
 refine aJ [3,4] hF ?_
 refine W.seq ?_
 refine W.sr ?_
 simp (disch:=omega) [gw,EU]
 refine bL [3,4,14,15] ?_
 subst hg
 refine W.block ?_
 refine W.bG (fun k σ=>∃(i:Nat) (rows:Pm.Rows) (clk:Nat),σ=⟨fa [(3,PI (pf A (fun _=>true) i).l),(4,aI zq L),(14, .int .i64 m),(15, .int .i64 i)],rows,clk⟩∧i+k=m) m ?_ ?_
 ·exact⟨_, .refl,0,_,_,rfl,by omega⟩
 rintro k _ ⟨i,rows,clk,rfl,AM⟩
 refine b9 [3,4,14,15,16] ?_
 refine bC ?_ ?_<;>intro h
 ·have hi:i<m:=by simp at h;omega
  have hiL:i<L.length:=by omega
  have ht:=hmul i
  have qF:=uX i hi
  generalize oO:pf A (fun _=>true) (i+1)=g2 at *
  generalize pf A (fun _=>true) i=g at *
  refine kW ?_
  refine aA [3,4,5,14,15] ?_
  refine W.cC (fun K hK=>?_)
  simp (disch:=omega) [gw,qF]
  refine cB ht ?_
  refine W.lw [3,4,14,15] hK ?_;clear hK K;simp
  subst oO
  refine W.cC (fun K hK=>?_);simp (disch:=omega) [gw]
  refine hK _ ⟨k-1,_,aC _ [3,4,14,15],by omega,i+1,_,_,rfl,by omega⟩
 ·have hi:i=m:=by simp at h;omega
  subst hi
  refine eV ?_
  refine aA [2] ?_
  exact bV
theorem HE{s n:Nat}{a:ZX}(h:nX s n a)(h1:1≤s)(h0:a≠0):aD env.P 109 [PI a.l] (PI (oz (nf a)).l):=by
 have hqb:=h.qW
 have hn:=h.hn
 have hF:=qG h h1
 have hA:=h.nfz
 have nA:=gW h0
 have nT:a.l.length≠0:=fun h1=>by have h2:=ZX.aH.1 h0;have h3:ZX.N a=a.l.length:=rfl;omega
 have hle:=G8 (nf a)
 have hNA:ZX.N (nf a)≤n:=hA.bz.N
 generalize nf a=A at *
 obtain⟨c,hc⟩:∃c:Nat→Bool,c=fun k=>k%2==0:=⟨_,rfl⟩
 have hoz:oz A=pf A c (nl A):=by rw [hc];rfl
 rw [hoz]
 have hmul:∀i,i%2=0→aD env.P 30 [PI (pf A c i).l,PI (mC A i).l] (PI (pf A c (i+2)).l):=fun i hi=>by
  have b1:=hA.dv nA (wV nA c i) (BA nA _ i)
  have b2:=hA.dv nA (wU nA i).1 (J8 nA i)
  have e:pf A c (i+2)=pf A c i*mC A i:=by
   have c1:c (i+1)=false:=by rw [hc];simp;omega
   have c2:c i=true:=by rw [hc];simp;omega
   rw [pf,if_neg (by rw [c1];decide),pf,if_pos c2]
  rw [e]
  exact pF _ _ _ _ _ _ b1 b2 (by show _<137438953472;omega)
 obtain⟨m,hm⟩:∃m,m=nl A:=⟨_,rfl⟩
 have VS:fl A=(List.range m).map (mC A):=by rw [hm];rfl
 have TB:∀i,m≤i→i≤m+1→i%2=0→pf A c i=pf A c m:=fun i hi EH hi3=>by
  rcases Nat.lt_or_ge m i with h4 | h4
  ·obtain rfl:i=m+1:=by omega
   rw [pf,if_neg (by rw [hc];simp;omega)]
  ·rw [show i=m by omega]
 rw [←hm]at hle ⊢
 rw [VS]at hF
 have EU:((List.range m).map (mC A)).length=m:=by simp
 have uX:∀i,i<m→(nth ((List.range m).map (mC A)) i).l=(mC A i).l:=fun i hi=>by rw [eW _ hi]
 generalize (List.range m).map (mC A)=L at *
 have h1:=sG
 rw [show(1:ZX)=pf A c 0 from rfl]at h1
 generalize hg:pf A c 0=g0 at *
 refine bY [(0,PI a.l)] Tryz.func109 ?_
 refine aA [0] ?_
 refine aL [0,2,8] ?_
 refine W.cond ⟨_,rfl,fun h3=>?_,fun h3=>?_⟩
 ·simp at h3;exact absurd (by rw [h3];rfl) nT
 clear h3
 refine W.skip ?_
 refine aJ [0,3] h1 ?_
 refine aJ [3,4] hF ?_
 refine aL [3,4,5] ?_
 subst hg
 refine W.block ?_
 refine W.bG (fun k σ=>∃(i:Nat) (rows:Pm.Rows) (clk:Nat),σ=⟨fa [(3,PI (pf A c i).l),(4,aI zq L),(5, .int .i64 i)],rows,clk⟩∧k=m-i∧i≤m+1∧i%2=0) m ?_ ?_
 ·exact⟨_, .refl,0,_,_,rfl,by omega,by omega,rfl⟩
 rintro k _ ⟨i,rows,clk,rfl,AM,him,EH⟩
 refine W.seq ?_
 refine W.sr ?_
 simp (disch:=omega) [gw,EU]
 refine bL [3,4,5,16] ?_
 refine bC ?_ ?_<;>intro h
 ·have hi:i<m:=by simp at h;omega
  have hiL:i<L.length:=by omega
  have ht:=hmul i EH
  have qF:=uX i hi
  generalize oO:pf A c (i+2)=g2 at *
  generalize pf A c i=g at *
  refine kW ?_
  refine W.cC (fun K hK=>?_)
  simp (disch:=omega) [gw,qF]
  refine cB ht ?_
  refine W.lw [3,4,5] hK ?_;clear hK K;simp
  subst oO
  refine W.cC (fun K hK=>?_);simp (disch:=omega) [gw]
  refine hK _ ⟨m-(i+2),_,aC _ [3,4,5],by omega,i+2,_,_,rfl,rfl,by omega,by omega⟩
 ·have hi:m≤i:=by simp at h;omega
  rw [TB i hi him EH]
  refine eV ?_
  refine aA [2] ?_
  exact bV
abbrev R2(n d:Int):PV:=.ag [aI aG (aN DD n.natAbs), .bool (decide (n<0)),aI aG (aN DD d.natAbs), .bool (decide (d<0))]
theorem cW(q:Rat):RR q=R2 q.num q.den:=by
 have:decide ((q.den:Int)<0)=false:=decide_eq_false (by omega)
 show PV.ag (re q)=PV.ag _
 rw [this];rfl
def hm(n d:Int):List Int→Int × Int
 | []=>(0,1)
 | a::l=>((hm n d l).1*n+a*(hm n d l).2,(hm n d l).2*d)
def AQ(x:List Int)(n d:Int):Int:=(hm n d x).1.sign
theorem akp{s k u:Nat}{n d:Int}(hn:sz 2 n≤u)(hd:sz 2 d≤u)(hu:1≤u):∀ {x:List Int},Bd 2 s k x→sz 2 (hm n d x).1≤s+x.length*(u+1)∧sz 2 (hm n d x).2≤x.length*u+1
 | [],_=>⟨by show sz 2 0≤_;rw [show sz 2 0=0 by decide];omega,by show sz 2 1≤_;exact Nat.le_trans (dE (k:=1) (by decide) (by decide)) (by omega)⟩
 | a::l,h=>by
  obtain⟨h1,h2⟩:=akp hn hd hu (x:=l) ⟨Nat.le_trans (by simp) h.len,fun c hc=>h.sz c (by simp [hc])⟩
  have ha:=h.sz a (by simp)
  have e:(a::l).length*u=l.length*u+u:=by rw [List.length_cons,Nat.add_mul];omega
  have e':(a::l).length*(u+1)=l.length*u+l.length+u+1:=by rw [List.length_cons,Nat.add_mul,Nat.mul_add];omega
  have e'':l.length*(u+1)=l.length*u+l.length:=by rw [Nat.mul_add];omega
  refine⟨?_,?_⟩
  ·have g1:=cD (b:=2) (by decide) h1 hn
   have g2:=cD (b:=2) (by decide) ha h2
   have:=nE (b:=2) (by decide) (Nat.le_trans g1 (Nat.le_max_left _ (s+(l.length*u+1)))) (Nat.le_trans g2 (Nat.le_max_right (s+l.length*(u+1)+u) _))
   refine Nat.le_trans this ?_
   rw [e',e'']
   omega
  ·have:=cD (b:=2) (by decide) h2 hd
   rw [e]
   exact Nat.le_trans this (by omega)
theorem yI(p q p' q':Int)(hp:sz 2 p≤YY)(hq:sz 2 q≤YY)(xJ:sz 2 p'≤YY)(hq':sz 2 q'≤YY):aD env.P 15 [R2 p q,R2 p' q'] (.int .i64 (dF (p*q') (p'*q))):=by
 have zz:∀ {x:Int},sz 2 x≤YY→Z x:=fun h=>by simp only [Z,YY]at *;omega
 have s1:=cD (b:=2) (by decide) hp hq'
 have s2:=cD (b:=2) (by decide) xJ hq
 have m1:=eO p q' (zz hp) (zz hq')
 have m2:=eO p' q (zz xJ) (zz hq)
 have c1:=ac2 (p*q') (p'*q) (by simp only [Z,YY]at *;omega) (by simp only [Z,YY]at *;omega)
 generalize dF (p*q') (p'*q)=r at *
 generalize p*q'=x1 at *
 generalize p'*q=x2 at *
 refine bY [(0,R2 p q),(1,R2 p' q')] Tryz.func15 ?_
 refine aA [2,3] ?_
 refine mP ?_
 refine cB m1 ?_
 refine cB m2 ?_
 refine bS [4] c1 ?_
 exact bV
theorem mB(p q:Rat)(hp:ZR YY p)(hq:ZR YY q):aD env.P 15 [RR p,RR q] (.int .i64 (dF (p.num*q.den) (q.num*p.den))):=by
 rw [cW,cW];exact yI _ _ _ _ hp.n hp.d hq.n hq.d
@[simp] theorem J9:aN DD 1 = [1]:=by decide
theorem ZZ(x:List Int)(hl:x.length<9223372036854775808):aD env.P 165 [PI x] (.bool true):=by
 refine bY [(0,PI x)] Tryz.func165 ?_
 refine aA [0] ?_
 refine aL [0,5,6] ?_
 refine W.block ?_
 refine W.bG (fun k σ=>∃(i:Nat) (rows:Pm.Rows) (clk:Nat),σ=⟨fa [(0,PI x),(5, .int .i64 x.length),(6, .int .i64 i)],rows,clk⟩∧i+k=x.length) x.length ?_ ?_
 ·exact⟨_, .refl,0,_,_,rfl,by omega⟩
 rintro k _ ⟨i,rows,clk,rfl,hI⟩
 refine b9 [0,5,6,7] ?_
 refine bC ?_ ?_<;>intro h
 ·have hi:i<x.length:=by simp at h;omega
  refine kW ?_
  refine aA [0,3,5,6] ?_
  refine W.sr ?_
  simp (disch:=omega) [gw,hi]
  refine bL [0,5,6,27] ?_
  refine bC ?_ ?_<;>intro h
  ·simp at h
   exact absurd rfl h
  ·refine W.skip ?_
   refine W.cC (fun K hK=>?_);simp (disch:=omega) [gw]
   refine hK _ ⟨k-1,_,aC _ [0,5,6],by omega,i+1,_,_,rfl,by omega⟩
 ·refine eV ?_
  refine aA [2] ?_
  exact bV
theorem yJ{x:List Int}{n d:Int}{s k u:Nat}(hx:Bd 2 s k x)(hn:sz 2 n≤u)(hd:sz 2 d≤u)(hu:1≤u)(hk:k<1099511627776)(hB:s+k*(u+1)+u<YY):aD env.P 81 [PI x,R2 n d] (.int .i64 (AQ x n d)):=by
 have hl:=hx.len
 have hW:=ZZ x (by omega)
 have hO:=oB 1 (by decide) (by decide)
 have zz:∀ {x:Int},sz 2 x≤YY→Z x:=fun h=>by simp only [Z,YY]at *;omega
 have hY:YY=137438953472:=rfl
 have bd:=fun i=>akp (s:=s) (k:=k) (x:=x.drop i) hn hd hu ⟨by simp;omega,fun c hc=>hx.sz c (List.mem_of_mem_drop hc)⟩
 have hle:∀i,(x.drop i).length*(u+1)≤k*(u+1):=fun i=>Nat.mul_le_mul_right _ (by simp;omega)
 have adS:∀i,(x.drop i).length*u≤(x.drop i).length*(u+1):=fun i=>Nat.mul_le_mul_left _ (by omega)
 have step:∀i,i<x.length→hm n d (x.drop i)=((hm n d (x.drop (i+1))).1*n+nth x i*(hm n d (x.drop (i+1))).2,(hm n d (x.drop (i+1))).2*d):=fun i hi=>by
  rw [List.drop_eq_getElem_cons hi,dD hi];rfl
 have TB:hm n d (x.drop x.length)=(0,1):=by rw [List.drop_length];rfl
 have hS:=GU (hm n d x).1
 have h0:hm n d (x.drop 0)=hm n d x:=rfl
 have hs:AQ x n d=(hm n d x).1.sign:=rfl
 rw [hs]
 have M:∀i,i<x.length→aD env.P 67 [RI (hm n d (x.drop (i+1))).1,RI n] (RI ((hm n d (x.drop (i+1))).1*n))∧aD env.P 67 [RI (nth x i),RI (hm n d (x.drop (i+1))).2] (RI (nth x i*(hm n d (x.drop (i+1))).2)) ∧
   aD env.P 167 [RI ((hm n d (x.drop (i+1))).1*n),RI (nth x i*(hm n d (x.drop (i+1))).2)] (RI (hm n d (x.drop i)).1)∧aD env.P 67 [RI (hm n d (x.drop (i+1))).2,RI d] (RI (hm n d (x.drop i)).2):=fun i hi=>by
  obtain⟨b1,b2⟩:=bd (i+1)
  have l1:=hle (i+1)
  have l2:=adS (i+1)
  have ha:=hx.sz _ (bP hi)
  have g1:=cD (b:=2) (by decide) b1 hn
  have g2:=cD (b:=2) (by decide) ha b2
  have e:=step i hi
  rw [e]
  exact⟨eO _ _ (zz (by omega)) (zz (by omega)),eO _ _ (zz (by omega)) (zz (by omega)),C5 _ _ (by simp only [Z];omega) (by simp only [Z];omega),eO _ _ (zz (by omega)) (zz (by omega))⟩
 clear bd hle adS step
 generalize hm n d x=r0 at *
 refine bY [(0,PI x),(1,R2 n d)] Tryz.func81 ?_
 refine aA [0,3] ?_
 refine W.seq ?_
 refine aJ [0,3,10] hW ?_
 refine bC ?_ ?_<;>intro h
 ·simp at h
 refine W.skip ?_
 refine aA [0,3,5] ?_
 refine aJ [0,3,5,6] hO ?_
 refine aL [0,3,5,6,7] ?_
 refine W.row (id:=5) (els:=[[.nil, .bool false]]) [[aI aG (aN DD (0:Int).natAbs), .bool (decide ((0:Int)<0))]] (by simp;first | exact⟨rfl,rfl,rfl⟩ | exact⟨rfl,rfl⟩ | rfl) ⟨⟨.inr ⟨rfl,rfl⟩, .inl rfl,trivial⟩,trivial⟩ ?_
 refine W.block ?_
 refine W.bG (fun k σ=>∃(v3 v5 v6 e3 e5 e6:Nat) (rows:Pm.Rows) (clk:Nat),σ=⟨fa [(0,PI x),(3, .ptr 3 v3 0 0),(5, .ptr 5 v5 0 0),(6, .ptr 6 v6 0 0),(7, .int .i64 ((k:Int)-1))],rows,clk⟩∧k≤x.length ∧
  rows 3=some ⟨v3,e3,4,[[aI aG (aN DD n.natAbs), .bool (decide (n<0)),aI aG (aN DD d.natAbs), .bool (decide (d<0))]]⟩ ∧
  rows 5=some ⟨v5,e5,2,[[aI aG (aN DD (hm n d (x.drop k)).1.natAbs), .bool (decide ((hm n d (x.drop k)).1<0))]]⟩ ∧
  rows 6=some ⟨v6,e6,2,[[aI aG (aN DD (hm n d (x.drop k)).2.natAbs), .bool (decide ((hm n d (x.drop k)).2<0))]]⟩) x.length ?_ ?_
 ·exact⟨_, .refl,_,_,_,_,_,_,_,_,rfl,Nat.le_refl _,by simp;(first | exact⟨rfl,rfl,rfl⟩ | exact⟨rfl,rfl⟩ | rfl),by rw [TB];simp;(first | exact⟨rfl,rfl,rfl⟩ | exact⟨rfl,rfl⟩ | rfl),by rw [TB];simp;(first | exact⟨rfl,rfl,rfl⟩ | exact⟨rfl,rfl⟩ | rfl)⟩
 rintro k _ ⟨v3,v5,v6,e3,e5,e6,rows,clk,rfl,hkl,cO,fM,pG⟩
 refine aL [0,3,5,6,7,21] ?_
 refine bC ?_ ?_<;>intro h
 ·have zK:0<k:=by simp at h;omega
  obtain⟨k,rfl⟩:∃j,k=j+1:=⟨k-1,by omega⟩
  obtain⟨m1,m2,m3,m4⟩:=M k (by omega)
  generalize hm n d (x.drop (k+1))=A at *
  have e1:(((k+1:Nat):Int)-1).toNat=k:=by omega
  refine kW ?_
  refine W.sd ?_
  simp (disch:=omega) [gw,cO,fM,pG]
  refine aB m1 ?_
  simp (disch:=omega) [gw,e1]
  try simp (disch:=omega) [gw,e1,pG]
  refine cB m2 ?_
  refine aB m3 ?_
  simp (disch:=omega) [gw,fM]
  try (refine a9 (by kernel_rfl) ?_)
  try simp (disch:=omega) [gw,fM]
  refine bL [0,3,5,6,7] ?_
  refine W.cC (fun K hK=>?_)
  simp (disch:=omega) [gw,cO,pG]
  refine aB m4 ?_
  simp (disch:=omega) [gw,pG]
  refine W.lw [0,3,5,6,7] hK ?_;clear hK K;simp
  refine W.cC (fun K hK=>?_);simp (disch:=omega) [gw]
  refine hK _ ⟨k,_,aC _ [0,3,5,6,7],by omega,v3,v5,v6,_,_,_,_,_,rfl,by omega,by simp [cO];exact rfl,by simp;exact rfl,by simp;exact rfl⟩
 ·have zK:k=0:=by simp at h;omega
  subst zK
  rw [h0]at fM
  refine eV ?_
  refine W.sr ?_
  simp (disch:=omega) [gw,fM]
  refine bS [4] hS ?_
  exact bV
end Go.Proofs.YtelhfbikiccfkaaGreat
namespace Go.Proofs.YtelhfbikiccfkaaGreat
open Go Pm
open ZX hiding N W
theorem adT{y:List Int}(cy:Cn y)(hy:0<y.length):∀(n:Nat) (x:List Int),Cn x→x.length<n → ∃(m:Int) (q:List Int),0<m ∧ ∀t,m*V t x=V t q*V t y+V t (rq y n x)
 | 0,x,_,h=>by omega
 | n+1,x,cx,h=>by
  rw [rq]
  split
  ·exact⟨1,[],by decide,fun t=>by simp [V]⟩
  ·rename_i h1
   have hl:=tE hy (show y.length≤x.length by omega)
   obtain⟨m,q,hm,h4⟩:=adT cy hy n (WH y x) (Cn.fF _ _) (by omega)
   have y7:=cX cy hy
   refine⟨m*(lead y).natAbs,iI q (bB (q9 (x.length-y.length) (xP (lead y)*lead x)) m),Int.mul_pos hm (by omega),fun t=>?_⟩
   have h5:=adP t y x
   have h6:=h4 t
   rw [rV,cM,oA]
   have:m*((lead y).natAbs:Int)*V t x=m*(((lead y).natAbs:Int)*V t x):=by grind
   rw [this,h5]
   grind
theorem adU{x y s q:List Int}{D:Int}(cx:Cn x)(cy:Cn y)(hy:0<y.length)(cs:Cn s)(hs:s.length<y.length)(hD:0<D)(hv:∀t,D*V t x=V t q*V t y+V t s):NT x y=j6 s:=by
 have hV:=fun t=>acx t x y
 have hl:=JC (a:=x) hy
 obtain⟨c1,c2⟩:=CQ (b:=y) cx
 rw [ade cx]
 have y7:=cX cy hy
 have x9:lead y^jJ x y≠0:=Int.pow_ne_zero y7
 have OL:=ada (lead y) (jJ x y)
 have hsq:=adb (lead y) (jJ x y)
 generalize sg (lead y) (jJ x y)=g at *
 generalize (zH x y).1=p at *
 generalize (zH x y).2=r at *
 generalize hc:lead y^jJ x y=c at *
 have hm:0<((lead y).natAbs:Int)^jJ x y:=Int.pow_pos (by omega)
 generalize ((lead y).natAbs:Int)^jJ x y=m at *
 have e:∀t,V t (fF (s.map (· * c)) (r.map (· * D)))=V t y*V t (fF (p.map (· * D)) (q.map (· * c))):=fun t=>by
  have h1:=hv t
  have h2:=hV t
  rw [iY,iY,eA,eA,eA,eA]
  have h3:c*(D*V t x)=c*(V t q*V t y+V t s):=by rw [h1]
  have h4:D*(V t p*V t y+V t r)=D*(c*V t x):=by rw [h2]
  grind
 have h1:=GK (Cn.fF _ _) cy hy e (by
  have:=vZ (s.map (· * c)) (r.map (· * D))
  simp only [List.length_map]at this
  omega)
 have xO:D≠0:=by omega
 have e1:s.map (· * c)=r.map (· * D):=Cn.ext (lI cs x9) (lI c2 xO) fun t=>N5 (by rw [h1];rfl) t
 rw [←zO cs hm,←zO (Cn.bB r g) hD]
 congr 1
 refine Cn.ext (Cn.bB _ _) (Cn.bB _ _) fun t=>?_
 have e2:V t s*c=V t r*D:=by rw [←eA,e1,eA]
 rw [cM,cM,cM]
 have h5:m=g*c:=by rw [OL];grind
 rw [h5]
 have:V t s*(g*c)=g*(V t s*c):=by grind
 rw [this,e2];grind
def qX(a:ZX):ZX:=⟨j6 a.l,Cn.cut _⟩
def nx(a b:ZX):ZX:=⟨gV (j6 (rz a b).l),Cn.gV _⟩
theorem Z0{a b:ZX}(hb:b≠0):ZX.N (nx a b)<ZX.N b:=by
 obtain⟨_,hN,_⟩:=tF (a:=a) hb
 have h1:=NW (j6 (rz a b).l)
 have h2:=l9 (rz a b).l
 have h3:ZX.N (nx a b)=(gV (j6 (rz a b).l)).length:=rfl
 have h4:ZX.N (rz a b)=(rz a b).l.length:=rfl
 omega
theorem WL{s n:Nat}{a b:ZX}(ha:BZ s n a)(hb:BZ s n b)(h0:b≠0):BZ (s+(ZX.N a+1-ZX.N b)*(s+n+1)) n (nx a b):=Bd.gV (jA (WK ha hb h0))
def uZ:Nat→ZX→ZX→List ZX
 | 0,_,_=>[]
 | k+1,a,b=>if ZX.N b=0 then []else b::uZ k b (nx a b)
theorem kQ(k:Nat)(a:ZX):uZ k a 0 = []:=by cases k<;>simp [uZ,show ZX.N 0=0 by decide]
theorem DR:∀ {k j:Nat} {a b:ZX},ZX.N b≤k→ZX.N b≤j→uZ k a b=uZ j a b
 | 0,j,a,b,h,_=>by
  have:b=0:=Classical.byContradiction fun h0=>by have:=ZX.aH.1 h0;omega
  rw [this,kQ,kQ]
 | k+1,0,a,b,_,h=>by
  have:b=0:=Classical.byContradiction fun h0=>by have:=ZX.aH.1 h0;omega
  rw [this,kQ,kQ]
 | k+1,j+1,a,b,h1,h2=>by
  rw [uZ,uZ]
  split
  ·rfl
  ·rename_i h0
   have:=Z0 (a:=a) (ZX.aH.2 (Nat.pos_of_ne_zero h0))
   rw [DR (k:=k) (j:=j) (by omega) (by omega)]
def aT(f:ZX):List ZX:=f::uZ (ZX.N f) f (qX (bX f))
theorem anM(x:List Int):PP (qd x 1)=PI x:=by rw [JS];show PV.sl (emap re (qs x))=PV.sl (emap ri x);rw [DE]
theorem zZ{s n:Nat}{a:ZX}(b:BZ s n a)(pY:1≤s)(hs:s≤YY)(hn:n<1099511627776):aD env.P 171 [PI a.l] (PI (qX a).l):=by
 have:=NY a.l 1 (by decide) b (by exact Nat.le_trans (dE (k:=1) (by decide) (by decide)) pY) a.c pY hs hn
 rw [show((1:Nat):Int)=1 from rfl,anM]at this
 exact this
structure Ch(s n:Nat)(f:ZX):Prop where
 bz:BZ s n f
 hn:n≤20
 qF:1≤n
 hC:(s+5+n+1)*4^n≤4500000000
theorem Ch.pot{s n:Nat}{f:ZX}(h:Ch s n f):yG 4500000000 n (s+5) f (qX (bX f)):=by
 have h1:=oD f
 have h2:ZX.N (qX (bX f))≤ZX.N (bX f):=l9 _
 have h3:=h.bz.N
 have hn:=h.qF
 unfold yG
 split
 ·exact Nat.le_trans (Nat.mul_le_mul_left _ (Nat.pow_le_pow_right (by decide) h3)) h.hC
 ·have h4:ZX.N (qX (bX f))=0:=by omega
  have h5:=h.hC
  rw [h4,Nat.pow_zero,Nat.mul_one]
  exact Nat.le_trans (Nat.mul_le_mul_left _ (show 2≤4^n from Nat.le_trans (by decide) (Nat.pow_le_pow_right (n:=4) (by decide) hn))) h5
theorem adV{l:List ZX}{a:ZX}{i:Nat}(h:i<l.length):nth (l ++ [a]) i=nth l i:=by
 simp only [nth,List.getElem?_append_left h]
theorem z5{s n:Nat}{a f:ZX}(hS:aD env.P 170 [PI a.l] (PI f.l))(h:Ch s n f)(h1:1≤s):aD env.P 85 [PI a.l] (aI zq (aT f)):=by
 have hn:=h.hn
 have hp:=h.pot
 have hs:=hp.le
 have bd:BZ (s+5) n (bX f):=h.bz.bX (by omega)
 have d1:=wX h.bz (by show s≤137438953472;omega) (by omega)
 have d2:=zZ bd (by omega) (by show s+5≤137438953472;omega) (by omega)
 have b2:BZ (s+5) n (qX (bX f)):=jA bd
 have b1:BZ (s+5) n f:=h.bz.mono (by omega) (Nat.le_refl _)
 have JO:ZX.N (qX (bX f))≤ZX.N f:=Nat.le_trans (l9 _) (Nat.le_trans (oD f) (by omega))
 have hc:aT f=f::uZ (ZX.N f) f (qX (bX f)):=rfl
 rw [DR JO (Nat.le_refl _)]at hc
 generalize hC:aT f=C at *
 generalize qX (bX f)=g0 at *
 generalize (bX f).l=dl at *
 have VS:f.l=f.l:=rfl
 refine bY [(0,PI a.l)] Tryz.func85 ?_
 refine aA [0] ?_
 refine aJ [3] hS ?_
 refine W.adR 1 rfl rfl (fun K hK=>?_)
 simp (disch:=omega) [gw]
 refine W.lw [3,4] hK ?_;clear hK K;simp
 refine iB ?_
 refine cB d1 ?_
 refine bS [4,5] d2 ?_
 refine W.seq ?_
 refine W.block ?_
 refine W.bG (fun k σ=>∃(L:List ZX) (x g:ZX) (i ver s:Nat) (rows:Pm.Rows) (clk:Nat),σ=⟨fa [(4, .own 9 ver 0 (i+1)),(5,PI g.l)],rows,clk⟩∧rows 9=some ⟨ver,46,1,emap zq L⟩∧L.length=i+1∧nth L i=x ∧
  L++uZ k x g=C∧k=ZX.N g∧BZ s n x∧BZ s n g∧1≤s∧yG 4500000000 n s x g∧i+ZX.N g≤20) (ZX.N g0) ?_ ?_
 ·exact⟨_, .refl,[f],f,g0,0,_,s+5,_,_,rfl,by simp [emap],rfl,rfl,hc.symm,rfl,b1,b2,by omega,hp,by have:=b2.N;omega⟩
 rintro k _ ⟨L,x,g,i,ver,s,rows,clk,rfl,hr,hL,hx,SY,rfl,bx,bg,h1,hp,hiN⟩
 have hs:=hp.le
 have hlx:=bx.len
 have hlg:=bg.len
 have hLl:(emap zq L).length=i+1:=by simp [emap,hL]
 refine aL [4,5,15] ?_
 refine bC ?_ ?_<;>intro h
 ·have hg:g≠0:=ZX.aH.2 (by show 0<g.l.length;simp at h;omega)
  obtain⟨YT,hN,_⟩:=tF (a:=x) hg
  have br:=WK bx bg hg
  have hmul:(x.l.length+1-g.l.length+1)*(s+n+1)≤22*4500000000:=Nat.mul_le_mul (by omega) (by omega)
  have ako:(ZX.N x+1-ZX.N g)*(s+n+1)≤22*4500000000:=Nat.mul_le_mul (by have:ZX.N x=x.l.length:=rfl;omega) (by omega)
  have hR:=HD (s:=s) (s':=s) (N:=n) bx bg x.c g.c (ZX.aH.1 hg) (by omega) (by show _<137438953472;omega)
  rw [←YT]at hR
  have hZ:=zZ br (by omega) (by show _≤137438953472;omega) (by omega)
  have hNg:=GZ (qX (rz x g)).l ((jA br).mono (by show _≤137438953472;omega) (by omega))
  have e3:gV (qX (rz x g)).l=(nx x g).l:=rfl
  rw [e3]at hNg
  have JO:=Z0 (a:=x) hg
  have hp2:=hp.step JO
  have bn:=WL bx bg hg
  have hi:i<L.length:=by omega
  have hx2:nth (L ++ [g]) i=x:=by rw [adV hi];exact hx
  have atW:i<(L ++ [g]).length:=by simp;omega
  have hch:L ++ [g]++uZ (ZX.N (nx x g)) g (nx x g)=C:=by
   rw [←SY]
   obtain⟨j,hj⟩:∃j,ZX.N g=j+1:=⟨ZX.N g-1,by have:=ZX.aH.1 hg;have:ZX.N g=g.l.length:=rfl;omega⟩
   rw [hj,uZ,if_neg (by omega),DR (k:=j) (j:=ZX.N (nx x g)) (by omega) (Nat.le_refl _)]
   simp
  generalize (rz x g).l=rl at *
  generalize (qX (rz x g)).l=pl at *
  generalize hnx:nx x g=nn at *
  have hnl:nn.l=nn.l:=rfl
  refine W.skip ?_
  refine W.block ?_
  refine W.sr ?_
  simp (disch:=omega) [gw,hr,hLl]
  refine bL [4,5] ?_
  have e1:((i:Int)+1+1-2).toNat=i:=by omega
  refine W.cC (fun K hK=>?_)
  simp (disch:=omega) [gw,e1,atW,hx2]
  refine cB hR ?_
  refine cB hZ ?_
  refine cB hNg ?_
  refine hK _ ⟨ZX.N nn,_,aC _ [4,5],JO,L ++ [g],g,nn,i+1,_,_,_,_,rfl,by simp,by simp [hL],?_,hch,rfl,bg.mono (by omega) (Nat.le_refl _),bn,by omega,hp2,by omega⟩
  rw [dD (by simp;omega)]
  simp [←hL]
 ·have hg:g=0:=by
   refine Classical.byContradiction fun h0=>?_
   have h1:=ZX.aH.1 h0
   have h2:ZX.N g=g.l.length:=rfl
   simp at h;rw [h2,h]at h1;simp at h1
  subst hg
  rw [kQ,List.append_nil]at SY
  subst SY
  have xL:List.take (i+1) L=L:=List.take_of_length_le (by omega)
  refine eV ?_
  refine aA [2] ?_
  refine W.ret ?_
  simp [go,hr,hLl,xL]
end Go.Proofs.YtelhfbikiccfkaaGreat
