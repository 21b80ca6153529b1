import Derived.Test.YtelhfbikiccfkaaGreatDak
import Derived.Test.YtelhfbikiccfkaaGreatDal
import Derived.Test.YtelhfbikiccfkaaGreatDan
set_option linter.unusedSimpArgs false
set_option linter.unusedVariables false
namespace Go.Proofs.YtelhfbikiccfkaaGreat
open Go Pm
def zJ(l:Int):Int:=if l<0 then -1 else 1
theorem ajg(l:Int):zJ l*l=l.natAbs:=by unfold zJ;split<;>omega
def YV(y x:List Int):List Int:=zG y (lead y).natAbs (zJ (lead y)*lead x) (x.length-y.length) x
def YW(y x:List Int)(i:Nat):Int:=nth x i*((lead y).natAbs:Int)-if x.length-y.length≤i then zJ (lead y)*lead x*nth y (i-(x.length-y.length))else 0
theorem afe{y x:List Int}(h:y.length≤x.length):aL ((List.range x.length).map (YW y x))=YV y x:=by
 refine Cn.ext (Cn.cut _) (Cn.dJ _ _) fun t=>?_
 unfold YV
 rw [dF,zG,iH,cR,dP,oZ]
 obtain⟨k,hk⟩:∃k,x.length=k+y.length:=⟨x.length-y.length,by omega⟩
 have e1:(List.range x.length).map (YW y x)=(List.range x.length).map fun i=>nth x i*((lead y).natAbs:Int)+(-(if x.length-y.length≤i then zJ (lead y)*lead x*nth y (i-(x.length-y.length))else 0)):=List.map_congr_left fun i _=>by unfold YW;omega
 rw [e1,uL,iN,kC (Nat.le_refl _)]
 generalize zJ (lead y)*lead x=T at *
 have e2:((List.range x.length).map fun i => -(if x.length-y.length≤i then T*nth y (i-(x.length-y.length))else 0))=List.replicate k 0++y.map fun v=>v*(-T):=by
  have hk2:x.length-y.length=k:=by omega
  rw [hk2,hk,List.range_add,List.map_append,List.map_map]
  congr 1
  ·rw [List.eq_replicate_iff]
   refine⟨by simp,fun v hv=>?_⟩
   simp only [List.mem_map,List.mem_range]at hv
   obtain⟨i,hi,rfl⟩:=hv
   rw [if_neg (by omega)];rfl
  ·have h2:=zU (x:=y) (n:=y.length) (Nat.le_refl _)
   rw [Nat.sub_self,List.replicate_zero,List.append_nil]at h2
   conv=>rhs;rw [←h2]
   rw [List.map_map]
   refine List.map_congr_left fun i _=>?_
   simp only [Function.comp_apply]
   rw [if_pos (by omega),Nat.add_sub_cancel_left];grind
 rw [e2,eH,r7]
 have h3:=iN (t:=t) (-T) id y
 simp only [id_eq,List.map_id_fun]at h3
 rw [h3,List.length_replicate,show x.length-y.length=k by omega]
 grind
theorem uZ{y x:List Int}(hy:0<y.length)(h:y.length≤x.length):(YV y x).length<x.length:=by
 have h1:=CU (b:=y) (r:=x) (i:=x.length-y.length) hy (by omega)
 rw [show xU y x (x.length-y.length)=lead x from by rw [xU,if_pos (by omega)]]at h1
 have e:YV y x=aN (zG y (lead y) (lead x) (x.length-y.length) x) (zJ (lead y)):=Cn.ext (Cn.dJ _ _) (Cn.aN _ _) fun t=>by
  unfold YV
  rw [cR,zG,zG,iH,iH,cR,cR,dP,dP,oZ,oZ,←ajg]
  grind
 rw [e]
 have:=qV (zG y (lead y) (lead x) (x.length-y.length) x) (zJ (lead y))
 omega
theorem aff(t:Int)(y x:List Int):((lead y).natAbs:Int)*V t x=t^(x.length-y.length)*(zJ (lead y)*lead x)*V t y+V t (YV y x):=by
 unfold YV
 rw [zG,iH,cR,dP,oZ];grind
def rq(y:List Int):Nat→List Int→List Int
 | 0,x=>x
 | n+1,x=>if x.length<y.length then x else rq y n (YV y x)
theorem api{y x:List Int}(h:x.length<y.length):∀n,rq y n x=x
 | 0=>rfl
 | n+1=>by rw [rq,if_pos h]
theorem YX{y:List Int}(cy:Cn y)(hy:0<y.length):∀(n:Nat) (x:List Int),Cn x→x.length<n→Cn (rq y n x)∧(rq y n x).length<y.length ∧ ∃(m:Int) (q:List Int),m≠0 ∧ ∀t,m*V t x=V t q*V t y+V t (rq y n x)
 | 0,x,_,h=>by omega
 | n+1,x,cx,h=>by
  rw [rq]
  split
  ·rename_i h1
   exact⟨cx,h1,1,[],by decide,fun t=>by simp [V]⟩
  ·rename_i h1
   have hl:=uZ hy (show y.length≤x.length by omega)
   obtain⟨h2,h3,m,q,hm,h4⟩:=YX cy hy n (YV y x) (Cn.dJ _ _) (by omega)
   have CC:=dK cy hy
   refine⟨h2,h3,m*(lead y).natAbs,fL q (aN (sH (x.length-y.length) (zJ (lead y)*lead x)) m),Int.mul_ne_zero hm (by omega),fun t=>?_⟩
   have h5:=aff t y x
   have h6:=h4 t
   rw [qS,cR,oZ]
   have:m*((lead y).natAbs:Int)*V t x=m*(((lead y).natAbs:Int)*V t x):=by grind
   rw [this,h5]
   grind
theorem VA{s s' N:Nat}{y x:List Int}(pP:Bd 2 s' N y)(bx:Bd 2 s N x)(hy:0<y.length)(h:y.length≤x.length):Bd 2 (s+(s'+N+1)) N (YV y x):=by
 have hl:=uZ hy h
 have hlx:=bx.len
 have hls:sz 2 ((lead y).natAbs:Int)≤s':=Nat.le_trans (cK (by decide) (by rw [Int.natAbs_natCast];exact Nat.le_refl _)) (gO pP)
 have hlr:sz 2 (zJ (lead y)*lead x)≤s:=Nat.le_trans (cK (by decide) (by
  rw [Int.natAbs_mul]
  have:(zJ (lead y)).natAbs=1:=by unfold zJ;split<;>rfl
  rw [this,Nat.one_mul];exact Nat.le_refl _)) (gO bx)
 have b1:Bd 2 (s+s'+N) (max N (x.length-y.length+1+N)) (aN x ((lead y).natAbs:Int)):=(bx.aN (by decide) hls).mono (by omega) (by omega)
 have b2:Bd 2 (s+s'+N) (max N (x.length-y.length+1+N)) (bH (sH (x.length-y.length) (zJ (lead y)*lead x)) y):=((Bd.sH hlr (x.length-y.length)).bH (by decide) pP).mono (by omega) (by omega)
 exact⟨by omega,fun c hc=>by
  have h6:=(Bd.dJ (by decide) b1 b2).sz c hc
  omega⟩
theorem alK{s' N:Nat}{y:List Int}(pP:Bd 2 s' N y)(hy:0<y.length):∀(n j s:Nat) (x:List Int),Bd 2 s N x→x.length+1≤y.length+j→Bd 2 (s+j*(s'+N+1)) N (rq y n x)
 | 0,j,s,x,bx,_=>bx.mono (by simp) (Nat.le_refl _)
 | n+1,j,s,x,bx,hj=>by
  rw [rq]
  split
  ·exact bx.mono (by simp) (Nat.le_refl _)
  ·rename_i h1
   obtain⟨i,rfl⟩:∃i,j=i+1:=⟨j-1,by omega⟩
   have hl:=uZ hy (show y.length≤x.length by omega)
   have:=alK pP hy n i (s+(s'+N+1)) (YV y x) (VA pP bx hy (by omega)) (by omega)
   rw [Nat.add_mul,Nat.one_mul]
   exact this.mono (by omega) (Nat.le_refl _)
theorem apj(n:Nat):RI (n:Int) = .ag [aG aH (aP DD n), .bool false]:=by
 simp [show ¬((n:Int)<0)by omega]
set_option maxHeartbeats 2000000 in
theorem I4{s s' N:Nat}{x0 y:List Int}(bx0:Bd 2 s N x0)(pP:Bd 2 s' N y)(cx0:Cn x0)(cy:Cn y)(UB:0<y.length)(hN:N≤1000)(hB:s+(x0.length+1-y.length+1)*(s'+N+1)<YY) :
  aD env.P 173 [PI x0,PI y] (PI (rq y (x0.length+1) x0)):=by
 have hlN:=bx0.len
 have hNy:=pP.len
 obtain⟨R,hR⟩:∃R,R=rq y (x0.length+1) x0:=⟨_,rfl⟩
 rw [←hR]
 obtain⟨M,hM⟩:∃M,M=s+(x0.length+1-y.length+1)*(s'+N+1):=⟨_,rfl⟩
 rw [←hM]at hB
 have hB:M<137438953472:=hB
 have hls:sz 2 ((lead y).natAbs:Int)≤s':=Nat.le_trans (cK (by decide) (by rw [Int.natAbs_natCast];exact Nat.le_refl _)) (gO pP)
 have e2:((y.length:Int)-1).toNat=y.length-1:=by omega
 have OW:nth y (y.length-1)=lead y:=rfl
 refine dH (E:=env) (fun id=>if id=16 then 2 else 0) [(0,PI x0),(1,PI y)] Tryz.func173 rfl (by kernel_rfl) (by kernel_rfl) (show 2≤78 by decide) (by simp) ?_
 refine aA [0,1] ?_
 refine W.sr ?_
 simp (disch:=omega) [gw,e2,OW]
 refine bN [0,1,5] ?_
 refine aA [0,1,5,6] ?_
 refine cB [0,1,5,6] ?_
 refine W.block ?_
 refine W.bE (fun n σ=>∃(x:List Int) (j u:Nat) (rows:Pm.Rows) (clk:Nat),σ=⟨fa [(0,PI x),(1,PI y),(5, .ptr 5 0 0 0),(6, .ptr 6 1 0 0)],rows,clk⟩ ∧
  rows 5=some ⟨0,29,2,[[aG aH (aP DD (lead y).natAbs), .bool (decide (lead y<0))]]⟩∧rows 6=some ⟨1,29,2,[[aG aH (aP DD (lead y).natAbs), .bool false]]⟩ ∧
  Cn x∧x.length<n∧rq y n x=R∧Bd 2 u N x∧x.length+1≤y.length+j∧u+(j+1)*(s'+N+1)≤M) (x0.length+1) ?_ ?_
 ·exact⟨_, .refl,x0,x0.length+1-y.length,s,_,_,rfl,by simp,by simp,cx0,by omega,hR.symm,bx0,by omega,by omega⟩
 rintro n _ ⟨x,j,u,rows,clk,rfl,eW,lB,cx,hxn,hxR,bx,hj,hu⟩
 have hlx:=bx.len
 refine aM [0,1,5,6,25] ?_
 refine bF ?_ ?_<;>intro h
 ·have h:y.length≤x.length:=by simp at h;omega
  obtain⟨n,rfl⟩:∃m,n=m+1:=⟨n-1,by omega⟩
  rw [rq,if_neg (by omega)]at hxR
  have GJ:=uZ UB h
  obtain⟨k,hk⟩:∃k,k=x.length-y.length:=⟨_,rfl⟩
  have hkI:(x.length:Int)-(y.length:Int)=k:=by omega
  have e1:((x.length:Int)-1).toNat=x.length-1:=by omega
  have hxl:nth x (x.length-1)=lead x:=rfl
  have avr:=afe h
  have b2:=VA pP bx UB h
  have hlX:sz 2 (lead x)≤u:=gO bx
  have hu1:u+(s'+N+1)≤M:=by
   have:=Nat.le_mul_of_pos_left (s'+N+1) (show 0<j+1 by omega)
   omega
  refine W.skip ?_
  refine W.block ?_
  refine W.sr ?_
  simp (disch:=omega) [gw,hkI]
  refine bN [0,1,5,6,7] ?_
  refine W.sr ?_
  simp (disch:=omega) [gw,e1,hxl]
  refine bN [0,1,5,6,7,8] ?_
  obtain⟨T,hT⟩:∃T,T=zJ (lead y)*lead x:=⟨_,rfl⟩
  have hTs:sz 2 T≤u:=Nat.le_trans (cK (by decide) (by
   rw [hT,Int.natAbs_mul]
   have:(zJ (lead y)).natAbs=1:=by unfold zJ;split<;>rfl
   rw [this,Nat.one_mul];exact Nat.le_refl _)) hlX
  have hTp:(lead y<0→T = -lead x)∧(¬lead y<0→T=lead x):=by
   rw [hT];unfold zJ
   constructor
   ·intro h;rw [if_pos h];omega
   ·intro h;rw [if_neg h];omega
  refine W.gJ (fun σ=>∃(v:Nat) (rows:Pm.Rows) (clk:Nat),σ=⟨fa [(0,PI x),(1,PI y),(5, .ptr 5 0 0 0),(6, .ptr 6 1 0 0),(7, .int .i64 k),(8, .ptr 8 v 0 0)],rows,clk⟩ ∧
   rows 5=some ⟨0,29,2,[[aG aH (aP DD (lead y).natAbs), .bool (decide (lead y<0))]]⟩∧rows 6=some ⟨1,29,2,[[aG aH (aP DD (lead y).natAbs), .bool false]]⟩ ∧
   rows 8=some ⟨v,29,2,[[aG aH (aP DD T.natAbs), .bool (decide (T<0))]]⟩) ?_ ?_
  ·refine W.sr ?_
   simp (disch:=omega) [gw,eW]
   refine bN [0,1,5,6,7,8,39] ?_
   refine bF ?_ ?_<;>intro h
   ·have h:lead y<0:=by simpa using h
    have OY:=tJ (lead x)
    rw [←hTp.1 h]at OY
    refine W.cE (fun K hK=>?_)
    simp (disch:=omega) [gw]
    refine bW OY ?_
    exact hK _ ⟨_,aC _ [0,1,5,6,7,8],_,_,_,rfl,by simp [eW],by simp [lB],by simp⟩
   ·have h:¬lead y<0:=by simpa using h
    rw [hTp.2 h]
    refine W.skip ?_
    exact⟨_,aC _ [0,1,5,6,7,8],_,_,_,rfl,by simp [eW],by simp [lB],by simp⟩
  clear eW lB rows clk
  rintro _ ⟨v8,rows,clk,rfl,eW,lB,CK⟩
  refine aA [0,1,5,6,7,8,9] ?_
  refine W.nil 9 9 31 4 (by simp) (by decide) (fun K hK=>?_)
  refine W.lw [0,1,5,6,7,8,9] hK ?_;clear hK K;simp
  refine aM [0,1,5,6,7,8,9,43,44] ?_
  refine W.block ?_
  refine W.bE (fun m σ=>∃(i v9:Nat) (rows:Pm.Rows) (clk:Nat),σ=⟨fa [(0,PI x),(1,PI y),(5, .ptr 5 0 0 0),(6, .ptr 6 1 0 0),(7, .int .i64 k),(8, .ptr 8 v8 0 0),(9, .own 9 v9 0 i),(43, .int .i64 x.length),(44, .int .i64 i)],rows,clk⟩ ∧
   rows 5=some ⟨0,29,2,[[aG aH (aP DD (lead y).natAbs), .bool (decide (lead y<0))]]⟩∧rows 6=some ⟨1,29,2,[[aG aH (aP DD (lead y).natAbs), .bool false]]⟩ ∧
   rows 8=some ⟨v8,29,2,[[aG aH (aP DD T.natAbs), .bool (decide (T<0))]]⟩∧rows 9=some ⟨v9,31,4,emap ri ((List.range i).map (YW y x))⟩∧i+m=x.length) x.length ?_ ?_
  ·exact⟨_,aC _ [0,1,5,6,7,8,9,43,44],0,_,_,_,rfl,by simp [eW],by simp [lB],by simp [CK],by simp [emap],by omega⟩
  clear eW lB CK rows clk
  rintro m _ ⟨i,v9,rows,clk,rfl,eW,lB,CK,U2,him⟩
  have wL:((List.range i).map (YW y x)).length=i:=by simp
  refine cB [0,1,5,6,7,8,9,43,44,45] ?_
  refine bF ?_ ?_<;>intro h
  ·have hi:i<x.length:=by simp at h;omega
   have hxi:=bx.nth i
   have m1:=eT (nth x i) ((lead y).natAbs:Int) (by show sz 2 _<1099511627776;omega) (by show sz 2 _<1099511627776;omega)
   rw [apj]at m1
   have s1:sz 2 (nth x i*((lead y).natAbs:Int))≤u+s':=cO (by decide) hxi hls
   have er:(List.range (i+1)).map (YW y x)=(List.range i).map (YW y x) ++ [YW y x i]:=by
    rw [List.range_succ,List.map_append];rfl
   have hF:YW y x i=nth x i*((lead y).natAbs:Int)-if k≤i then T*nth y (i-k)else 0:=by unfold YW;rw [hk,hT]
   generalize (List.range i).map (YW y x)=acc at *
   generalize hP:nth x i*((lead y).natAbs:Int)=P at *
   refine jV ?_
   refine aA [0,1,5,6,7,8,9,10,43,44] ?_
   refine W.sd ?_
   simp (disch:=omega) [gw,lB]
   refine bW m1 ?_
   rw [if_pos (by kernel_rfl)]
   simp (disch:=omega) [gw]
   refine bN [0,1,5,6,7,8,9,10,11,43,44] ?_
   generalize hQ:YW y x i=Q at *
   have sQ:sz 2 Q≤u+(s'+N+1):=by
    have R5:sz 2 (nth y (i-k))≤s':=pP.nth _
    rw [hF]
    split
    ·have:=cO (b:=2) (by decide) hTs R5
     have h1:=n9 (b:=2) (by decide) (x:=P) (y := -(T*nth y (i-k))) (k:=u+s') s1 (by rw [pK];exact this)
     rw [←Int.sub_eq_add_neg]at h1
     omega
    ·rw [Int.sub_zero];omega
   refine W.gJ (fun σ=>∃(v11:Nat) (rows:Pm.Rows) (clk:Nat),σ=⟨fa [(0,PI x),(1,PI y),(5, .ptr 5 0 0 0),(6, .ptr 6 1 0 0),(7, .int .i64 k),(8, .ptr 8 v8 0 0),(9, .own 9 v9 0 i),(11, .ptr 11 v11 0 0),(43, .int .i64 x.length),(44, .int .i64 i)],rows,clk⟩ ∧
    rows 5=some ⟨0,29,2,[[aG aH (aP DD (lead y).natAbs), .bool (decide (lead y<0))]]⟩∧rows 6=some ⟨1,29,2,[[aG aH (aP DD (lead y).natAbs), .bool false]]⟩ ∧
    rows 8=some ⟨v8,29,2,[[aG aH (aP DD T.natAbs), .bool (decide (T<0))]]⟩∧rows 9=some ⟨v9,31,4,emap ri acc⟩ ∧
    rows 11=some ⟨v11,29,2,[[aG aH (aP DD Q.natAbs), .bool (decide (Q<0))]]⟩) ?_ ?_
   ·refine aA [0,1,5,6,7,8,9,10,11,43,44,56] ?_
    refine bF ?_ ?_<;>intro h
    ·have hki:k≤i:=by simp at h;omega
     rw [if_pos hki]at hF
     have eik:(i:Int)-(k:Int)=((i-k:Nat):Int):=by omega
     have hyb:i-k<y.length:=by omega
     have m2:=eT T (nth y (i-k)) (by show sz 2 _<1099511627776;omega) (by have:=pP.nth (i-k);show sz 2 _<1099511627776;omega)
     have s2:=cO (b:=2) (by decide) hTs (pP.nth (i-k))
     have m3:=O8 P (T*nth y (i-k)) (by show sz 2 _<1099511627776;omega) (by show sz 2 _<1099511627776;omega)
     rw [←hF]at m3
     generalize T*nth y (i-k)=P2 at *
     refine W.H7 (fun K hK=>?_)
     simp (disch:=omega) [gw,CK,eik]
     refine bW m2 ?_
     refine bW m3 ?_
     refine a9 (by kernel_rfl) ?_
     simp (disch:=omega) [gw]
     exact hK _ ⟨_,aC _ [0,1,5,6,7,8,9,11,43,44],_,_,_,rfl,by simp [eW],by simp [lB],by simp [CK],by simp [U2],by simp⟩
    ·have hki:¬k≤i:=by simp at h;omega
     rw [if_neg hki,Int.sub_zero]at hF
     rw [hF]
     refine W.skip ?_
     exact⟨_,aC _ [0,1,5,6,7,8,9,11,43,44],_,_,_,rfl,by simp [eW],by simp [lB],by simp [CK],by simp [U2],by simp⟩
   clear eW lB CK U2 rows clk
   rintro _ ⟨v11,rows,clk,rfl,eW,lB,CK,U2,aAJ⟩
   have o1:=i0 1 (by decide) (by decide)
   have mk:=uP Q (by show sz 2 Q<549755813888;omega)
   refine W.H7 (fun K hK=>?_)
   rw [if_pos rfl,fF]
   simp (disch:=omega) [gw,aAJ]
   refine bW o1 ?_
   refine aB mk ?_
   simp (disch:=omega) [gw,U2,wL]
   refine W.lw [0,1,5,6,7,8,9,43,44] hK ?_;clear hK K;simp
   refine W.cE (fun K hK=>?_);simp (disch:=omega) [gw]
   refine hK _ ⟨m-1,_,aC _ [0,1,5,6,7,8,9,43,44],by omega,i+1,_,_,_,rfl,by simp [eW],by simp [lB],by simp [CK],by rw [er];simp,by omega⟩
  ·have hi:i=x.length:=by simp at h;omega
   subst hi
   have gH:((List.range x.length).map (YW y x)).length=x.length:=by simp
   generalize (List.range x.length).map (YW y x)=acc at *
   have ez:=bQ gH
   have q9:=qB acc (by omega)
   rw [avr]at q9
   refine eV ?_
   refine W.cE (fun K hK=>?_)
   simp (disch:=omega) [gw,U2,ez]
   refine bW q9 ?_
   obtain⟨j,rfl⟩:∃i,j=i+1:=⟨j-1,by omega⟩
   rw [Nat.add_mul,Nat.one_mul]at hu
   refine hK _ ⟨n,_,aC _ [0,1,5,6],by omega,YV y x,j,u+(s'+N+1),_,_,rfl,by simp [eW],by simp [lB],Cn.dJ _ _,by omega,hxR,b2,by omega,by omega⟩
 ·have h:x.length<y.length:=by simp at h;omega
  rw [api h]at hxR
  subst hxR
  refine eV ?_
  refine aA [4] ?_
  exact b7
def rz(a c:ZX):ZX:=ZX.of (rq c.l (a.l.length+1) a.l)
theorem u0{a c:ZX}(hc:c≠0):(rz a c).l=rq c.l (a.l.length+1) a.l∧ZX.N (rz a c)<ZX.N c ∧ ∃(m:Int) (q:ZX),m≠0∧ZX.K m*a=q*c+ZX.K 1*rz a c:=by
 obtain⟨h1,h2,m,q,hm,h3⟩:=YX c.c (ZX.aI.1 hc) (a.l.length+1) a.l a.c (by omega)
 have e:(rz a c).l=rq c.l (a.l.length+1) a.l:=h1
 refine⟨e,by show(rz a c).l.length<c.l.length;rw [e];exact h2,m,ZX.of q,hm,ZX.ext fun t=>?_⟩
 rw [ZX.eK,ZX.yL,ZX.nD,ZX.eK,ZX.eK,ZX.yL,ZX.abf,e,h3 t];omega
theorem YZ{s n:Nat}{a c:ZX}(ha:BZ s n a)(hb:BZ s n c)(hc:c≠0):BZ (s+(ZX.N a+1-ZX.N c)*(s+n+1)) n (rz a c):=by
 have h:=alK hb (ZX.aI.1 hc) (a.l.length+1) (ZX.N a+1-ZX.N c) s a.l ha (by show ZX.N a+1≤ZX.N c+_;omega)
 rw [←(u0 hc).1]at h
 exact h
theorem AF{s n C:Nat}{a c:ZX}(b:BZ s n a)(b':BZ s n c)(hP:BX C n s (nf a) (nf c))(hn:n≤20)(hC:C≤4500000000)(h1:1≤s):aD env.P 208 [PI a.l,PI c.l] (PI (gz a c).l):=by
 have hs:=hP.le
 have p1:=mE b h1 (by show s≤137438953472;omega) (by omega)
 have p2:=mE b' h1 (by show s≤137438953472;omega) (by omega)
 have b1:=b.nf
 have b2:=b'.nf
 have hg:gz (nf a) (nf c)=gz a c:=by rw [YP,U7]
 have hx1:=QI a
 rw [←hg]
 generalize pL:nf a=x0 at *
 generalize UB:nf c=y0 at *
 generalize hG:gz x0 y0=G at *
 refine b6 [(0,PI a.l),(1,PI c.l)] Tryz.func208 ?_
 generalize a.l=al at *
 generalize c.l=cl at *
 refine aA [0,1] ?_
 refine iM ?_
 refine bW p1 ?_
 refine bU [0,1] p2 ?_
 refine W.seq ?_
 refine W.block ?_
 refine W.bE (fun k σ=>∃(x y:ZX) (s:Nat) (rows:Pm.Rows) (clk:Nat),σ=⟨fa [(0,PI x.l),(1,PI y.l)],rows,clk⟩∧BZ s n x∧BZ s n y∧1≤s∧BX C n s x y∧gz x y=G∧nf x=x∧nf y=y∧k=ZX.N y) (ZX.N y0) ?_ ?_
 ·exact⟨_, .refl,x0,y0,s,_,_,rfl,b1,b2,h1,hP,hG,hx1,by rw [←UB,QI],rfl⟩
 rintro k _ ⟨x,y,s,rows,clk,rfl,bx,pP,h1,hp,hgz,hnx,hny,rfl⟩
 have hs:=hp.le
 have hlx:=bx.len
 have hly:=pP.len
 refine aM [0,1,11] ?_
 refine bF ?_ ?_<;>intro h
 ·have hy:y≠0:=ZX.aI.2 (by show 0<y.l.length;simp at h;omega)
  obtain⟨R8,hN,m,q,hm,e⟩:=u0 (a:=x) hy
  have br:=YZ bx pP hy
  have hmul:(x.l.length+1-y.l.length+1)*(s+n+1)≤22*4500000000:=Nat.mul_le_mul (by omega) (by omega)
  have alM:(ZX.N x+1-ZX.N y)*(s+n+1)≤22*4500000000:=Nat.mul_le_mul (by have:ZX.N x=x.l.length:=rfl;omega) (by omega)
  have hR:=I4 (s:=s) (s':=s) (N:=n) bx pP x.c y.c (ZX.aI.1 hy) (by omega) (by show _<137438953472;omega)
  rw [←R8]at hR
  have pr:=mE br (by omega) (by show _≤137438953472;omega) (by omega)
  have GM:ZX.N (nf (rz x y))<ZX.N y:=by rw [yM];exact hN
  have UI:=hp.step GM
  have pV:=LV hm (show (1:Int)≠0 by decide) e
  rw [←U7 y (rz x y)]at pV
  have br2:=br.nf
  have OX:=QI (rz x y)
  generalize (rz x y).l=rl at *
  generalize nf (rz x y)=r2 at *
  refine W.skip ?_
  refine W.block ?_
  refine W.cE (fun K hK=>?_)
  simp (disch:=omega) [gw]
  refine bW hR ?_
  refine bW pr ?_
  refine hK _ ⟨ZX.N r2,_,aC _ [0,1],GM,y,r2,_,_,_,rfl,pP.mono (by omega) (Nat.le_refl _),br2,by omega,UI,by rw [←pV,hgz],hny,OX,rfl⟩
 ·have hy:y=0:=by
   refine Classical.byContradiction fun h0=>?_
   have h1:=ZX.aI.1 h0
   have h2:ZX.N y=y.l.length:=rfl
   simp at h;rw [h2,h]at h1;simp at h1
  subst hy
  rw [uY,hnx]at hgz
  subst hgz
  refine eV ?_
  refine aA [4] ?_
  exact b7
theorem abk{h h' n:Nat}{a c:ZX}(b:BZ h n a)(b':BZ h' n c)(h1:1≤h)(ha:Nf a)(hc:Nf c)(hd:ZX.dv c a)(hB:h+(n+1)*(h'+n+2)+h'+n+n+10<137438953472):aD env.P 240 [PI a.l,PI c.l] (.fE [PI (qz a c).l,PI []]):=by
 obtain⟨hw,e⟩:=o8 ha hc hd
 have hD:=P9 a.l c.l b b' a.c c.c (ZX.aI.1 hc.ne) h1 hB
 obtain⟨e1,e2⟩:=aeW (q:=(qz a c).l) a.c c.c (ZX.aI.1 hc.ne) (qz a c).c fun t=>by
  conv=>lhs;rw [e]
  rw [ZX.eK]
 rw [e1,e2,nB,nB,nB]at hD
 exact hD
def zq(a:ZX):List PV:=[PI a.l]
@[simp] theorem aAK{a:ZX}:zq a = [PI a.l]:=rfl
@[simp] theorem arM{l:List ZX}:bT 1 (emap zq l)=True:=cY fun _=>rfl
@[simp] theorem apl{v e n:Nat}{l:List ZX}:dG (some ⟨v,e,n,emap zq l⟩)=True:=cN fun _=>rfl
@[simp] theorem aAL{l:List ZX}{a:ZX}:emap zq l ++ [[aG ri a.l]]=emap zq (l ++ [a]):=by simp [emap]
theorem sM.qd{s n:Nat}{a c d:ZX}(h:sM s n a)(h1:1≤s)(ha:Nf a)(hc:Nf c)(hd:Nf d)(hca:ZX.dv c a)(hdc:ZX.dv d c):aD env.P 240 [PI c.l,PI d.l] (.fE [PI (qz c d).l,PI []])∧aD env.P 82 [PI (qz c d).l] (PI (qz c d).l):=by
 have b:=h.dv ha hc hca
 have b2:=h.dv ha hd (hdc.trans hca)
 have hq:=h.sA
 have hn:=h.hn
 obtain⟨hw,e⟩:=o8 hc hd hdc
 have bq:=h.dv ha hw ((ae8 hc hd hdc).trans hca)
 have hm:(n+1)*(qb s n+n+2)≤21*4500000000:=Nat.mul_le_mul (by omega) (by omega)
 have apm:1≤qb s n:=by unfold qb;omega
 refine⟨abk b b2 apm hc hd hdc (by omega),?_⟩
 have:=mE bq apm (by show _≤137438953472;omega) (by omega)
 rwa [hw.nfe]at this
theorem sM.qgd{s n:Nat}{a c:ZX}(h:sM s n a)(ha:Nf a)(hc:Nf c)(hd:ZX.dv c a):aD env.P 107 [PI c.l] (PI (ZX.b9 c).l)∧aD env.P 208 [PI c.l,PI (ZX.b9 c).l] (PI (gd c).l):=by
 have b:=h.dv ha hc hd
 have b2:=b.b9 (by have:=h.hn;omega)
 have hq:=h.sA
 have hn:=h.hn
 have apm:1≤qb s n:=by unfold qb;omega
 refine⟨rK b (by show _≤137438953472;omega) (by omega),AF (s:=qb s n+5) (b.mono (by omega) (Nat.le_refl _)) b2 ?_ h.hn (C:=4500000000) (Nat.le_refl _) (by omega)⟩
 have hN:=ZX.nG c
 have h1:ZX.N c≤n:=b.N
 have h2:=ZX.aI.1 hc.ne
 unfold BX
 rw [yM,yM,if_pos (by omega)]
 refine Nat.le_trans (Nat.mul_le_mul (show qb s n+5+n+1≤qb s n+n+6 by omega) (Nat.pow_le_pow_right (by decide) h1)) h.hC
theorem rL{s n:Nat}{a:ZX}(h:sM s n a)(h1:1≤s):aD env.P 189 [PI a.l] (aG zq (fl (nf a))):=by
 have hqb:=h.sA
 have hn:=h.hn
 have sO:s≤4500000000:=by unfold qb at hqb;omega
 have p1:=mE h.bz h1 (by show s≤137438953472;omega) (by omega)
 have hA:=h.nfz
 have hNa:ZX.N a=a.l.length:=rfl
 have hNN:=yM a
 have hle:=I3 (nf a)
 have hNA:ZX.N (nf a)≤n:=hA.bz.N
 refine b6 [(0,PI a.l)] Tryz.func189 ?_
 refine aA [0] ?_
 refine aM [0,2,15] ?_
 refine bF ?_ ?_<;>intro h
 ·have h2:ZX.N a≤1:=by simp at h;omega
  have h3:fl (nf a) = []:=by unfold fl;rw [QP (by rw [hNN];exact h2)];rfl
  rw [h3]
  refine aA [2] ?_
  refine W.KS 2 (aG zq []) (by simp) rfl (fun K hK=>?_)
  refine W.lw [2] hK ?_;clear hK K;simp
  exact b7
 have h2:2≤ZX.N a:=by simp at h;omega
 have nA:Nf (nf a):=jK (ZX.aI.2 (by omega))
 clear h
 generalize nf a=A at *
 obtain⟨m,hm⟩:∃m,m=nl A:=⟨_,rfl⟩
 have XV:fl A=(List.range m).map (mT A):=by rw [hm];rfl
 rw [XV]
 refine W.skip ?_
 refine aJ [0] p1 ?_
 refine aA [0,3] ?_
 refine W.X8 1 rfl rfl (fun K hK=>?_)
 simp (disch:=omega) [gw]
 refine W.lw [3,4] hK ?_;clear hK K;simp
 refine W.seq ?_
 refine W.block ?_
 refine W.bE (fun k σ=>∃(i ver:Nat) (rows:Pm.Rows) (clk:Nat),σ=⟨fa [(3, .nil),(4, .own 19 ver 0 (i+1))],rows,clk⟩∧rows 19=some ⟨ver,46,1,emap zq ((List.range (i+1)).map (gs A))⟩∧i+k=m) m ?_ ?_
 ·exact⟨_, .refl,0,_,_,_,rfl,by simp [emap,gs],by omega⟩
 rintro k _ ⟨i,ver,rows,clk,rfl,hr,EV⟩
 have wL:((List.range (i+1)).map (gs A)).length=i+1:=by simp
 have wU:nth ((List.range (i+1)).map (gs A)) i=gs A i:=fJ _ (by omega)
 have er:(List.range (i+1+1)).map (gs A)=(List.range (i+1)).map (gs A) ++ [gs A (i+1)]:=by rw [List.range_succ,List.map_append];rfl
 have e1:((i:Int)+1-1).toNat=i:=by omega
 generalize hL:(List.range (i+1)).map (gs A)=L at *
 refine W.seq ?_
 refine W.sr ?_
 simp (disch:=omega) [gw,hr,wL,wU]
 refine bN [3,4,27] ?_
 refine bF ?_ ?_<;>intro h
 ·have h3:2≤ZX.N (gs A i):=by
   have h4:ZX.N (gs A i)=(gs A i).l.length:=rfl
   simp at h;omega
  clear h
  have hi:i<nl A:=by
   rcases Nat.lt_or_ge i (nl A)with h4 | h4
   ·exact h4
   ·have h5:=(lF A).1
    rw [show nl A=i by omega]at h5;omega
  obtain⟨t1,t2⟩:=hA.qgd nA (oK nA i) (I2 A i)
  rw [show gd (gs A i)=gs A (i+1)from rfl]at t2
  generalize hg:(gs A i).l=g at *
  generalize pV:gs A (i+1)=g2 at *
  refine W.skip ?_
  refine W.block ?_
  refine W.sr ?_
  simp (disch:=omega) [gw,hr,wL,wU,hg]
  refine bN [3,4,5] ?_
  refine W.cE (fun K hK=>?_)
  simp (disch:=omega) [gw]
  refine bW t1 ?_
  refine aB t2 ?_
  simp (disch:=omega) [gw,hr,wL]
  refine hK _ ⟨k-1,_,aC _ [3,4],by omega,i+1,_,_,_,rfl,by rw [er];simp,by omega⟩
 have h3:ZX.N (gs A i)≤1:=by
  have h4:ZX.N (gs A i)=(gs A i).l.length:=rfl
  simp at h;omega
 clear h
 have hi:i=m:=by
  rcases Nat.lt_or_ge i (nl A)with h4 | h4
  ·have:=(lF A).2 i h4;omega
  ·omega
 subst hi
 have hR:L ++ [(1:ZX)]=(List.range (i+2)).map (gs A):=by
  rw [show(1:ZX)=gs A (i+1)by rw [hm,QL nA 1]]
  exact er.symm
 have kR:=FN
 generalize hz:(1:ZX)=z1 at *
 refine eV ?_
 refine iM ?_
 refine aB kR ?_
 simp (disch:=omega) [gw,hr,wL]
 refine bN [3,4] ?_
 clear hr wU e1 er hL wL
 have hRl:(L ++ [z1]).length=i+2:=by rw [hR];simp
 have wU:∀j,j<i+2→nth (L ++ [z1]) j=gs A j:=fun j hj=>by rw [hR];exact fJ _ hj
 generalize L ++ [z1]=R at *
 have hRt:List.take (i+2) R=R:=List.take_of_length_le (by omega)
 refine W.freeze 19 (by simp) (fun K hK=>?_)
 simp [hRt]
 refine hK _ ?_;clear hK K
 refine W.nil 3 3 46 1 (by simp) (by decide) (fun K hK=>?_)
 refine W.lw [3,4] hK ?_;clear hK K;simp
 refine aM [3,4,6] ?_
 refine W.block ?_
 refine W.bE (fun k σ=>∃(j ver:Nat) (rows:Pm.Rows) (clk:Nat),σ=⟨fa [(3, .own 3 ver 0 j),(4,aG zq R),(6, .int .i64 j)],rows,clk⟩∧rows 3=some ⟨ver,46,1,emap zq ((List.range j).map (mT A))⟩∧j+k=i) i ?_ ?_
 ·exact⟨_, .refl,0,_,_,_,rfl,by simp [emap],by omega⟩
 clear rows clk ver EV k
 rintro k _ ⟨j,ver,rows,clk,rfl,hr,hjk⟩
 have hjl:((List.range j).map (mT A)).length=j:=by simp
 refine W.seq ?_
 refine W.sr ?_
 simp (disch:=omega) [gw,hRl]
 refine bN [3,4,6,50] ?_
 refine bF ?_ ?_<;>intro h
 ·have hj:j<i:=by simp at h;omega
  clear h
  have er:(List.range (j+1)).map (mT A)=(List.range j).map (mT A) ++ [mT A j]:=by rw [List.range_succ,List.map_append];rfl
  have n0:=wU j (by omega)
  have n1:=wU (j+1) (by omega)
  have n2:=wU (j+2) (by omega)
  have l0:j<R.length:=by omega
  have l1:j+1<R.length:=by omega
  have l2:j+2<R.length:=by omega
  have e1:((j:Int)+1).toNat=j+1:=by omega
  have e2:((j:Int)+2).toNat=j+2:=by omega
  obtain⟨d1,q1⟩:=hA.qd h1 nA (oK nA j) (oK nA (j+1)) (I2 A j) (BV _)
  obtain⟨d2,q2⟩:=hA.qd h1 nA (oK nA (j+1)) (oK nA (j+2)) (I2 A (j+1)) (BV _)
  obtain⟨d3,q3⟩:=hA.qd h1 nA (gQ nA j).1 (gQ nA (j+1)).1 (C5 nA j) (QN nA j)
  rw [show qz (gs A j) (gs A (j+1))=wz A j from rfl]at d1 q1
  rw [show qz (gs A (j+1)) (gs A (j+2))=wz A (j+1)from rfl]at d2 q2
  rw [show qz (wz A j) (wz A (j+1))=mT A j from rfl]at d3 q3
  have h0:(nth R j).l=(gs A j).l:=by rw [n0]
  have h1':(nth R (j+1)).l=(gs A (j+1)).l:=by rw [n1]
  have h2':(nth R (j+2)).l=(gs A (j+2)).l:=by rw [n2]
  generalize (gs A j).l=g0 at *
  generalize (gs A (j+1)).l=g1 at *
  generalize (gs A (j+2)).l=g2 at *
  generalize (wz A j).l=w0 at *
  generalize (wz A (j+1)).l=w1 at *
  generalize hF:mT A j=F at *
  generalize hac:(List.range j).map (mT A)=acc at *
  refine jV ?_
  refine W.sd ?_
  simp (disch:=omega) [gw,h0,h1',e1]
  refine bU [3,4,6,7] d1 ?_
  refine W.sd ?_
  simp (disch:=omega) [gw,h1',h2',e1,e2]
  refine bU [3,4,6,7,9] d2 ?_
  refine iM ?_
  refine bW q1 ?_
  refine bW q2 ?_
  refine bU [3,4,6,11] d3 ?_
  refine W.cE (fun K hK=>?_)
  simp (disch:=omega) [gw]
  refine aB q3 ?_
  simp (disch:=omega) [gw,hr,hjl]
  refine W.lw [3,4,6] hK ?_;clear hK K;simp
  refine W.cE (fun K hK=>?_);simp (disch:=omega) [gw]
  refine hK _ ⟨k-1,_,aC _ [3,4,6],by omega,j+1,_,_,_,rfl,by rw [er];simp,by omega⟩
 ·have hj:j=i:=by simp at h;omega
  subst hj
  generalize (List.range j).map (mT A)=acc at *
  have zF:List.take j acc=acc:=List.take_of_length_le (by omega)
  refine eV ?_
  refine W.sr ?_
  simp (disch:=omega) [gw,hr,zF]
  refine bN [2] ?_
  refine W.ret ?_
  simp [go,hr,zF]
theorem rM{s n:Nat}{a:ZX}(h:sM s n a)(h1:1≤s):aD env.P 170 [PI a.l] (PI (sq a).l):=by
 have hqb:=h.sA
 have hn:=h.hn
 have hF:=rL h h1
 have hA:=h.nfz
 have hNa:ZX.N a=a.l.length:=rfl
 have hsq:ZX.N a≠0→sq a=pf (nf a) (fun _=>true) (nl (nf a)):=fun h0=>by
  have nA:=jK (ZX.aI.2 (Nat.pos_of_ne_zero h0))
  unfold sq
  split
  ·rename_i h2
   rw [QP (by rw [yM];exact h2),nA.N1 (by rw [yM];exact h2)];rfl
  ·rw [ape nA]
 have hNf:ZX.N a≠0→Nf (nf a):=fun h0=>jK (ZX.aI.2 (Nat.pos_of_ne_zero h0))
 have hle:=I3 (nf a)
 have hNA:ZX.N (nf a)≤n:=hA.bz.N
 have avt:ZX.N a=0→(sq a).l = []:=fun h0=>by
  have h2:a=0:=Classical.byContradiction fun h3=>by have:=ZX.aI.1 h3;omega
  unfold sq
  rw [if_pos (by omega),h2,lE];rfl
 generalize nf a=A at *
 refine b6 [(0,PI a.l)] Tryz.func170 ?_
 refine aA [0] ?_
 refine aM [0,2,8] ?_
 refine W.cond ⟨_,rfl,fun h3=>?_,fun h3=>?_⟩
 ·have h0:ZX.N a=0:=by rw [hNa];simp at h3;rw [h3];rfl
  rw [avt h0]
  refine aA [2] ?_
  refine W.KS 2 (PI []) (by simp) rfl (fun K hK=>?_)
  refine W.lw [2] hK ?_;clear hK K;simp
  exact b7
 have h0:ZX.N a≠0:=by rw [hNa];simp at h3;intro h4;exact h3 (List.eq_nil_of_length_eq_zero h4)
 have nA:=hNf h0
 rw [hsq h0]
 clear h3 hsq avt hNf
 have hmul:∀i,aD env.P 30 [PI (pf A (fun _=>true) i).l,PI (mT A i).l] (PI (pf A (fun _=>true) (i+1)).l):=fun i=>by
  have b1:=hA.dv nA (yO nA (fun _=>true) i) (C6 nA _ i)
  have b2:=hA.dv nA (yN nA i).1 (LW nA i)
  exact nV _ _ _ _ _ _ b1 b2 (by show _<137438953472;omega)
 obtain⟨m,hm⟩:∃m,m=nl A:=⟨_,rfl⟩
 have XV:fl A=(List.range m).map (mT A):=by rw [hm];rfl
 rw [←hm]at hle ⊢
 rw [XV]at hF
 have GS:((List.range m).map (mT A)).length=m:=by simp
 have wU:∀i,i<m→(nth ((List.range m).map (mT A)) i).l=(mT A i).l:=fun i hi=>by rw [fJ _ hi]
 generalize (List.range m).map (mT A)=L at *
 have h1:=FN
 rw [show(1:ZX)=pf A (fun _=>true) 0 from rfl]at h1
 generalize hg:pf A (fun _=>true) 0=g0 at *
 refine W.skip ?_
 refine aJ [0,3] h1 ?_
 refine aJ [3,4] hF ?_
 refine W.seq ?_
 refine W.sr ?_
 simp (disch:=omega) [gw,GS]
 refine bN [3,4,14,15] ?_
 subst hg
 refine W.block ?_
 refine W.bE (fun k σ=>∃(i:Nat) (rows:Pm.Rows) (clk:Nat),σ=⟨fa [(3,PI (pf A (fun _=>true) i).l),(4,aG zq L),(14, .int .i64 m),(15, .int .i64 i)],rows,clk⟩∧i+k=m) m ?_ ?_
 ·exact⟨_, .refl,0,_,_,rfl,by omega⟩
 rintro k _ ⟨i,rows,clk,rfl,EV⟩
 refine cB [3,4,14,15,16] ?_
 refine bF ?_ ?_<;>intro h
 ·have hi:i<m:=by simp at h;omega
  have hiL:i<L.length:=by omega
  have ht:=hmul i
  have lT:=wU i hi
  generalize pV:pf A (fun _=>true) (i+1)=g2 at *
  generalize pf A (fun _=>true) i=g at *
  refine jV ?_
  refine aA [3,4,5,14,15] ?_
  refine W.cE (fun K hK=>?_)
  simp (disch:=omega) [gw,lT]
  refine bW ht ?_
  refine W.lw [3,4,14,15] hK ?_;clear hK K;simp
  subst pV
  refine W.cE (fun K hK=>?_);simp (disch:=omega) [gw]
  refine hK _ ⟨k-1,_,aC _ [3,4,14,15],by omega,i+1,_,_,rfl,by omega⟩
 ·have hi:i=m:=by simp at h;omega
  subst hi
  refine eV ?_
  refine aA [2] ?_
  exact b7
theorem abl{s n:Nat}{a:ZX}(h:sM s n a)(h1:1≤s)(h0:a≠0):aD env.P 109 [PI a.l] (PI (oz (nf a)).l):=by
 have hqb:=h.sA
 have hn:=h.hn
 have hF:=rL h h1
 have hA:=h.nfz
 have nA:=jK h0
 have kQ:a.l.length≠0:=fun h1=>by have h2:=ZX.aI.1 h0;have h3:ZX.N a=a.l.length:=rfl;omega
 have hle:=I3 (nf a)
 have hNA:ZX.N (nf a)≤n:=hA.bz.N
 generalize nf a=A at *
 obtain⟨c,hc⟩:∃c:Nat→Bool,c=fun k=>k%2==0:=⟨_,rfl⟩
 have hoz:oz A=pf A c (nl A):=by rw [hc];rfl
 rw [hoz]
 have hmul:∀i,i%2=0→aD env.P 30 [PI (pf A c i).l,PI (mT A i).l] (PI (pf A c (i+2)).l):=fun i hi=>by
  have b1:=hA.dv nA (yO nA c i) (C6 nA _ i)
  have b2:=hA.dv nA (yN nA i).1 (LW nA i)
  have e:pf A c (i+2)=pf A c i*mT A i:=by
   have c1:c (i+1)=false:=by rw [hc];simp;omega
   have c2:c i=true:=by rw [hc];simp;omega
   rw [pf,if_neg (by rw [c1];decide),pf,if_pos c2]
  rw [e]
  exact nV _ _ _ _ _ _ b1 b2 (by show _<137438953472;omega)
 obtain⟨m,hm⟩:∃m,m=nl A:=⟨_,rfl⟩
 have XV:fl A=(List.range m).map (mT A):=by rw [hm];rfl
 have LK:∀i,m≤i→i≤m+1→i%2=0→pf A c i=pf A c m:=fun i hi CR hi3=>by
  rcases Nat.lt_or_ge m i with h4 | h4
  ·obtain rfl:i=m+1:=by omega
   rw [pf,if_neg (by rw [hc];simp;omega)]
  ·rw [show i=m by omega]
 rw [←hm]at hle ⊢
 rw [XV]at hF
 have GS:((List.range m).map (mT A)).length=m:=by simp
 have wU:∀i,i<m→(nth ((List.range m).map (mT A)) i).l=(mT A i).l:=fun i hi=>by rw [fJ _ hi]
 generalize (List.range m).map (mT A)=L at *
 have h1:=FN
 rw [show(1:ZX)=pf A c 0 from rfl]at h1
 generalize hg:pf A c 0=g0 at *
 refine b6 [(0,PI a.l)] Tryz.func109 ?_
 refine aA [0] ?_
 refine aM [0,2,8] ?_
 refine W.cond ⟨_,rfl,fun h3=>?_,fun h3=>?_⟩
 ·simp at h3;exact absurd (by rw [h3];rfl) kQ
 clear h3
 refine W.skip ?_
 refine aJ [0,3] h1 ?_
 refine aJ [3,4] hF ?_
 refine aM [3,4,5] ?_
 subst hg
 refine W.block ?_
 refine W.bE (fun k σ=>∃(i:Nat) (rows:Pm.Rows) (clk:Nat),σ=⟨fa [(3,PI (pf A c i).l),(4,aG zq L),(5, .int .i64 i)],rows,clk⟩∧k=m-i∧i≤m+1∧i%2=0) m ?_ ?_
 ·exact⟨_, .refl,0,_,_,rfl,by omega,by omega,rfl⟩
 rintro k _ ⟨i,rows,clk,rfl,EV,him,CR⟩
 refine W.seq ?_
 refine W.sr ?_
 simp (disch:=omega) [gw,GS]
 refine bN [3,4,5,16] ?_
 refine bF ?_ ?_<;>intro h
 ·have hi:i<m:=by simp at h;omega
  have hiL:i<L.length:=by omega
  have ht:=hmul i CR
  have lT:=wU i hi
  generalize pV:pf A c (i+2)=g2 at *
  generalize pf A c i=g at *
  refine jV ?_
  refine W.cE (fun K hK=>?_)
  simp (disch:=omega) [gw,lT]
  refine bW ht ?_
  refine W.lw [3,4,5] hK ?_;clear hK K;simp
  subst pV
  refine W.cE (fun K hK=>?_);simp (disch:=omega) [gw]
  refine hK _ ⟨m-(i+2),_,aC _ [3,4,5],by omega,i+2,_,_,rfl,rfl,by omega,by omega⟩
 ·have hi:m≤i:=by simp at h;omega
  rw [LK i hi him CR]
  refine eV ?_
  refine aA [2] ?_
  exact b7
abbrev R2(n d:Int):PV:=.ag [aG aH (aP DD n.natAbs), .bool (decide (n<0)),aG aH (aP DD d.natAbs), .bool (decide (d<0))]
theorem cS(q:Rat):RR q=R2 q.num q.den:=by
 have:decide ((q.den:Int)<0)=false:=decide_eq_false (by omega)
 show PV.ag (re q)=PV.ag _
 rw [this];rfl
def hm(n d:Int):List Int→Int × Int
 | []=>(0,1)
 | a::l=>((hm n d l).1*n+a*(hm n d l).2,(hm n d l).2*d)
def LX(x:List Int)(n d:Int):Int:=(hm n d x).1.sign
theorem alN{s k u:Nat}{n d:Int}(hn:sz 2 n≤u)(hd:sz 2 d≤u)(hu:1≤u):∀ {x:List Int},Bd 2 s k x→sz 2 (hm n d x).1≤s+x.length*(u+1)∧sz 2 (hm n d x).2≤x.length*u+1
 | [],_=>⟨by show sz 2 0≤_;rw [show sz 2 0=0 by decide];omega,by show sz 2 1≤_;exact Nat.le_trans (cQ (k:=1) (by decide) (by decide)) (by omega)⟩
 | a::l,h=>by
  obtain⟨h1,h2⟩:=alN hn hd hu (x:=l) ⟨Nat.le_trans (by simp) h.len,fun c hc=>h.sz c (by simp [hc])⟩
  have ha:=h.sz a (by simp)
  have e:(a::l).length*u=l.length*u+u:=by rw [List.length_cons,Nat.add_mul];omega
  have e':(a::l).length*(u+1)=l.length*u+l.length+u+1:=by rw [List.length_cons,Nat.add_mul,Nat.mul_add];omega
  have e'':l.length*(u+1)=l.length*u+l.length:=by rw [Nat.mul_add];omega
  refine⟨?_,?_⟩
  ·have g1:=cO (b:=2) (by decide) h1 hn
   have g2:=cO (b:=2) (by decide) ha h2
   have:=n9 (b:=2) (by decide) (Nat.le_trans g1 (Nat.le_max_left _ (s+(l.length*u+1)))) (Nat.le_trans g2 (Nat.le_max_right (s+l.length*(u+1)+u) _))
   refine Nat.le_trans this ?_
   rw [e',e'']
   omega
  ·have:=cO (b:=2) (by decide) h2 hd
   rw [e]
   exact Nat.le_trans this (by omega)
theorem AG(p q p' q':Int)(hp:sz 2 p≤YY)(hq:sz 2 q≤YY)(xA:sz 2 p'≤YY)(hq':sz 2 q'≤YY):aD env.P 15 [R2 p q,R2 p' q'] (.int .i64 (dQ (p*q') (p'*q))):=by
 have zz:∀ {x:Int},sz 2 x≤YY→Z x:=fun h=>by simp only [Z,YY]at *;omega
 have s1:=cO (b:=2) (by decide) hp hq'
 have s2:=cO (b:=2) (by decide) xA hq
 have m1:=eT p q' (zz hp) (zz hq')
 have m2:=eT p' q (zz xA) (zz hq)
 have c1:=O9 (p*q') (p'*q) (by simp only [Z,YY]at *;omega) (by simp only [Z,YY]at *;omega)
 generalize dQ (p*q') (p'*q)=r at *
 generalize p*q'=x1 at *
 generalize p'*q=x2 at *
 refine b6 [(0,R2 p q),(1,R2 p' q')] Tryz.func15 ?_
 refine aA [2,3] ?_
 refine iQ ?_
 refine bW m1 ?_
 refine bW m2 ?_
 refine bU [4] c1 ?_
 exact b7
theorem mR(p q:Rat)(hp:ZR YY p)(hq:ZR YY q):aD env.P 15 [RR p,RR q] (.int .i64 (dQ (p.num*q.den) (q.num*p.den))):=by
 rw [cS,cS];exact AG _ _ _ _ hp.n hp.d hq.n hq.d
@[simp] theorem LY:aP DD 1 = [1]:=by decide
theorem abm(x:List Int)(hl:x.length<9223372036854775808):aD env.P 165 [PI x] (.bool true):=by
 refine b6 [(0,PI x)] Tryz.func165 ?_
 refine aA [0] ?_
 refine aM [0,5,6] ?_
 refine W.block ?_
 refine W.bE (fun k σ=>∃(i:Nat) (rows:Pm.Rows) (clk:Nat),σ=⟨fa [(0,PI x),(5, .int .i64 x.length),(6, .int .i64 i)],rows,clk⟩∧i+k=x.length) x.length ?_ ?_
 ·exact⟨_, .refl,0,_,_,rfl,by omega⟩
 rintro k _ ⟨i,rows,clk,rfl,hI⟩
 refine cB [0,5,6,7] ?_
 refine bF ?_ ?_<;>intro h
 ·have hi:i<x.length:=by simp at h;omega
  refine jV ?_
  refine aA [0,3,5,6] ?_
  refine W.sr ?_
  simp (disch:=omega) [gw,hi]
  refine bN [0,5,6,27] ?_
  refine bF ?_ ?_<;>intro h
  ·simp at h
   exact absurd rfl h
  ·refine W.skip ?_
   refine W.cE (fun K hK=>?_);simp (disch:=omega) [gw]
   refine hK _ ⟨k-1,_,aC _ [0,5,6],by omega,i+1,_,_,rfl,by omega⟩
 ·refine eV ?_
  refine aA [2] ?_
  exact b7
theorem u3{x:List Int}{n d:Int}{s k u:Nat}(hx:Bd 2 s k x)(hn:sz 2 n≤u)(hd:sz 2 d≤u)(hu:1≤u)(hk:k<1099511627776)(hB:s+k*(u+1)+u<YY):aD env.P 81 [PI x,R2 n d] (.int .i64 (LX x n d)):=by
 have hl:=hx.len
 have hW:=abm x (by omega)
 have hO:=i0 1 (by decide) (by decide)
 have zz:∀ {x:Int},sz 2 x≤YY→Z x:=fun h=>by simp only [Z,YY]at *;omega
 have hY:YY=137438953472:=rfl
 have bd:=fun i=>alN (s:=s) (k:=k) (x:=x.drop i) hn hd hu ⟨by simp;omega,fun c hc=>hx.sz c (List.mem_of_mem_drop hc)⟩
 have hle:∀i,(x.drop i).length*(u+1)≤k*(u+1):=fun i=>Nat.mul_le_mul_right _ (by simp;omega)
 have afg:∀i,(x.drop i).length*u≤(x.drop i).length*(u+1):=fun i=>Nat.mul_le_mul_left _ (by omega)
 have step:∀i,i<x.length→hm n d (x.drop i)=((hm n d (x.drop (i+1))).1*n+nth x i*(hm n d (x.drop (i+1))).2,(hm n d (x.drop (i+1))).2*d):=fun i hi=>by
  rw [List.drop_eq_getElem_cons hi,dE hi];rfl
 have LK:hm n d (x.drop x.length)=(0,1):=by rw [List.drop_length];rfl
 have hS:=IJ (hm n d x).1
 have h0:hm n d (x.drop 0)=hm n d x:=rfl
 have hs:LX x n d=(hm n d x).1.sign:=rfl
 rw [hs]
 have M:∀i,i<x.length→aD env.P 67 [RI (hm n d (x.drop (i+1))).1,RI n] (RI ((hm n d (x.drop (i+1))).1*n))∧aD env.P 67 [RI (nth x i),RI (hm n d (x.drop (i+1))).2] (RI (nth x i*(hm n d (x.drop (i+1))).2)) ∧
   aD env.P 167 [RI ((hm n d (x.drop (i+1))).1*n),RI (nth x i*(hm n d (x.drop (i+1))).2)] (RI (hm n d (x.drop i)).1)∧aD env.P 67 [RI (hm n d (x.drop (i+1))).2,RI d] (RI (hm n d (x.drop i)).2):=fun i hi=>by
  obtain⟨b1,b2⟩:=bd (i+1)
  have l1:=hle (i+1)
  have l2:=afg (i+1)
  have ha:=hx.sz _ (bS hi)
  have g1:=cO (b:=2) (by decide) b1 hn
  have g2:=cO (b:=2) (by decide) ha b2
  have e:=step i hi
  rw [e]
  exact⟨eT _ _ (zz (by omega)) (zz (by omega)),eT _ _ (zz (by omega)) (zz (by omega)),E2 _ _ (by simp only [Z];omega) (by simp only [Z];omega),eT _ _ (zz (by omega)) (zz (by omega))⟩
 clear bd hle afg step
 generalize hm n d x=r0 at *
 refine b6 [(0,PI x),(1,R2 n d)] Tryz.func81 ?_
 refine aA [0,3] ?_
 refine W.seq ?_
 refine aJ [0,3,10] hW ?_
 refine bF ?_ ?_<;>intro h
 ·simp at h
 refine W.skip ?_
 refine aA [0,3,5] ?_
 refine aJ [0,3,5,6] hO ?_
 refine aM [0,3,5,6,7] ?_
 refine W.row (id:=5) (els:=[[.nil, .bool false]]) [[aG aH (aP DD (0:Int).natAbs), .bool (decide ((0:Int)<0))]] (by simp;first | exact⟨rfl,rfl,rfl⟩ | exact⟨rfl,rfl⟩ | rfl) ⟨⟨.inr ⟨rfl,rfl⟩, .inl rfl,trivial⟩,trivial⟩ ?_
 refine W.block ?_
 refine W.bE (fun k σ=>∃(v3 v5 v6 e3 e5 e6:Nat) (rows:Pm.Rows) (clk:Nat),σ=⟨fa [(0,PI x),(3, .ptr 3 v3 0 0),(5, .ptr 5 v5 0 0),(6, .ptr 6 v6 0 0),(7, .int .i64 ((k:Int)-1))],rows,clk⟩∧k≤x.length ∧
  rows 3=some ⟨v3,e3,4,[[aG aH (aP DD n.natAbs), .bool (decide (n<0)),aG aH (aP DD d.natAbs), .bool (decide (d<0))]]⟩ ∧
  rows 5=some ⟨v5,e5,2,[[aG aH (aP DD (hm n d (x.drop k)).1.natAbs), .bool (decide ((hm n d (x.drop k)).1<0))]]⟩ ∧
  rows 6=some ⟨v6,e6,2,[[aG aH (aP DD (hm n d (x.drop k)).2.natAbs), .bool (decide ((hm n d (x.drop k)).2<0))]]⟩) x.length ?_ ?_
 ·exact⟨_, .refl,_,_,_,_,_,_,_,_,rfl,Nat.le_refl _,by simp;(first | exact⟨rfl,rfl,rfl⟩ | exact⟨rfl,rfl⟩ | rfl),by rw [LK];simp;(first | exact⟨rfl,rfl,rfl⟩ | exact⟨rfl,rfl⟩ | rfl),by rw [LK];simp;(first | exact⟨rfl,rfl,rfl⟩ | exact⟨rfl,rfl⟩ | rfl)⟩
 rintro k _ ⟨v3,v5,v6,e3,e5,e6,rows,clk,rfl,hkl,cM,eW,lB⟩
 refine aM [0,3,5,6,7,21] ?_
 refine bF ?_ ?_<;>intro h
 ·have zI:0<k:=by simp at h;omega
  obtain⟨k,rfl⟩:∃j,k=j+1:=⟨k-1,by omega⟩
  obtain⟨m1,m2,m3,m4⟩:=M k (by omega)
  generalize hm n d (x.drop (k+1))=A at *
  have e1:(((k+1:Nat):Int)-1).toNat=k:=by omega
  refine jV ?_
  refine W.sd ?_
  simp (disch:=omega) [gw,cM,eW,lB]
  refine aB m1 ?_
  simp (disch:=omega) [gw,e1]
  try simp (disch:=omega) [gw,e1,lB]
  refine bW m2 ?_
  refine aB m3 ?_
  simp (disch:=omega) [gw,eW]
  try (refine a9 (by kernel_rfl) ?_)
  try simp (disch:=omega) [gw,eW]
  refine bN [0,3,5,6,7] ?_
  refine W.cE (fun K hK=>?_)
  simp (disch:=omega) [gw,cM,lB]
  refine aB m4 ?_
  simp (disch:=omega) [gw,lB]
  refine W.lw [0,3,5,6,7] hK ?_;clear hK K;simp
  refine W.cE (fun K hK=>?_);simp (disch:=omega) [gw]
  refine hK _ ⟨k,_,aC _ [0,3,5,6,7],by omega,v3,v5,v6,_,_,_,_,_,rfl,by omega,by simp [cM];exact rfl,by simp;exact rfl,by simp;exact rfl⟩
 ·have zI:k=0:=by simp at h;omega
  subst zI
  rw [h0]at eW
  refine eV ?_
  refine W.sr ?_
  simp (disch:=omega) [gw,eW]
  refine bU [4] hS ?_
  exact b7
end Go.Proofs.YtelhfbikiccfkaaGreat
namespace Go.Proofs.YtelhfbikiccfkaaGreat
open Go Pm
open ZX hiding N W
theorem afh{y:List Int}(cy:Cn y)(hy:0<y.length):∀(n:Nat) (x:List Int),Cn x→x.length<n → ∃(m:Int) (q:List Int),0<m ∧ ∀t,m*V t x=V t q*V t y+V t (rq y n x)
 | 0,x,_,h=>by omega
 | n+1,x,cx,h=>by
  rw [rq]
  split
  ·exact⟨1,[],by decide,fun t=>by simp [V]⟩
  ·rename_i h1
   have hl:=uZ hy (show y.length≤x.length by omega)
   obtain⟨m,q,hm,h4⟩:=afh cy hy n (YV y x) (Cn.dJ _ _) (by omega)
   have CC:=dK cy hy
   refine⟨m*(lead y).natAbs,fL q (aN (sH (x.length-y.length) (zJ (lead y)*lead x)) m),Int.mul_pos hm (by omega),fun t=>?_⟩
   have h5:=aff t y x
   have h6:=h4 t
   rw [qS,cR,oZ]
   have:m*((lead y).natAbs:Int)*V t x=m*(((lead y).natAbs:Int)*V t x):=by grind
   rw [this,h5]
   grind
theorem afi{x y s q:List Int}{D:Int}(cx:Cn x)(cy:Cn y)(hy:0<y.length)(cs:Cn s)(hs:s.length<y.length)(hD:0<D)(hv:∀t,D*V t x=V t q*V t y+V t s):PM x y=kK s:=by
 have hV:=fun t=>adW t x y
 have hl:=KW (a:=x) hy
 obtain⟨c1,c2⟩:=EL (b:=y) cx
 rw [aeD cx]
 have CC:=dK cy hy
 have zY:lead y^jW x y≠0:=Int.pow_ne_zero CC
 have QR:=aeB (lead y) (jW x y)
 have hsq:=aeC (lead y) (jW x y)
 generalize sg (lead y) (jW x y)=g at *
 generalize (BG x y).1=p at *
 generalize (BG x y).2=r at *
 generalize hc:lead y^jW x y=c at *
 have hm:0<((lead y).natAbs:Int)^jW x y:=Int.pow_pos (by omega)
 generalize ((lead y).natAbs:Int)^jW x y=m at *
 have e:∀t,V t (dJ (s.map (· * c)) (r.map (· * D)))=V t y*V t (dJ (p.map (· * D)) (q.map (· * c))):=fun t=>by
  have h1:=hv t
  have h2:=hV t
  rw [iH,iH,dY,dY,dY,dY]
  have h3:c*(D*V t x)=c*(V t q*V t y+V t s):=by rw [h1]
  have h4:D*(V t p*V t y+V t r)=D*(c*V t x):=by rw [h2]
  grind
 have h1:=IB (Cn.dJ _ _) cy hy e (by
  have:=xT (s.map (· * c)) (r.map (· * D))
  simp only [List.length_map]at this
  omega)
 have vA:D≠0:=by omega
 have e1:s.map (· * c)=r.map (· * D):=Cn.ext (jZ cs zY) (jZ c2 vA) fun t=>QC (by rw [h1];rfl) t
 rw [←BL cs hm,←BL (Cn.aN r g) hD]
 congr 1
 refine Cn.ext (Cn.aN _ _) (Cn.aN _ _) fun t=>?_
 have e2:V t s*c=V t r*D:=by rw [←dY,e1,dY]
 rw [cR,cR,cR]
 have h5:m=g*c:=by rw [QR];grind
 rw [h5]
 have:V t s*(g*c)=g*(V t s*c):=by grind
 rw [this,e2];grind
def sB(a:ZX):ZX:=⟨kK a.l,Cn.cut _⟩
def nx(a b:ZX):ZX:=⟨fU (kK (rz a b).l),Cn.fU _⟩
theorem abn{a b:ZX}(hb:b≠0):ZX.N (nx a b)<ZX.N b:=by
 obtain⟨_,hN,_⟩:=u0 (a:=a) hb
 have h1:=PQ (kK (rz a b).l)
 have h2:=mQ (rz a b).l
 have h3:ZX.N (nx a b)=(fU (kK (rz a b).l)).length:=rfl
 have h4:ZX.N (rz a b)=(rz a b).l.length:=rfl
 omega
theorem Y1{s n:Nat}{a b:ZX}(ha:BZ s n a)(hb:BZ s n b)(h0:b≠0):BZ (s+(ZX.N a+1-ZX.N b)*(s+n+1)) n (nx a b):=Bd.fU (jL (YZ ha hb h0))
def wV:Nat→ZX→ZX→List ZX
 | 0,_,_=>[]
 | k+1,a,b=>if ZX.N b=0 then []else b::wV k b (nx a b)
theorem lG(k:Nat)(a:ZX):wV k a 0 = []:=by cases k<;>simp [wV,show ZX.N 0=0 by decide]
theorem FO:∀ {k j:Nat} {a b:ZX},ZX.N b≤k→ZX.N b≤j→wV k a b=wV j a b
 | 0,j,a,b,h,_=>by
  have:b=0:=Classical.byContradiction fun h0=>by have:=ZX.aI.1 h0;omega
  rw [this,lG,lG]
 | k+1,0,a,b,_,h=>by
  have:b=0:=Classical.byContradiction fun h0=>by have:=ZX.aI.1 h0;omega
  rw [this,lG,lG]
 | k+1,j+1,a,b,h1,h2=>by
  rw [wV,wV]
  split
  ·rfl
  ·rename_i h0
   have:=abn (a:=a) (ZX.aI.2 (Nat.pos_of_ne_zero h0))
   rw [FO (k:=k) (j:=j) (by omega) (by omega)]
def aR(f:ZX):List ZX:=f::wV (ZX.N f) f (sB (b9 f))
theorem apn(x:List Int):PP (qd x 1)=PI x:=by rw [jB];show PV.sl (emap re (qs x))=PV.sl (emap ri x);rw [E8]
theorem B2{s n:Nat}{a:ZX}(b:BZ s n a)(sO:1≤s)(hs:s≤YY)(hn:n<1099511627776):aD env.P 171 [PI a.l] (PI (sB a).l):=by
 have:=PZ a.l 1 (by decide) b (by exact Nat.le_trans (cQ (k:=1) (by decide) (by decide)) sO) a.c sO hs hn
 rw [show((1:Nat):Int)=1 from rfl,apn]at this
 exact this
structure Ch(s n:Nat)(f:ZX):Prop where
 bz:BZ s n f
 hn:n≤20
 lT:1≤n
 hC:(s+5+n+1)*4^n≤4500000000
theorem Ch.pot{s n:Nat}{f:ZX}(h:Ch s n f):BX 4500000000 n (s+5) f (sB (b9 f)):=by
 have h1:=nG f
 have h2:ZX.N (sB (b9 f))≤ZX.N (b9 f):=mQ _
 have h3:=h.bz.N
 have hn:=h.lT
 unfold BX
 split
 ·exact Nat.le_trans (Nat.mul_le_mul_left _ (Nat.pow_le_pow_right (by decide) h3)) h.hC
 ·have h4:ZX.N (sB (b9 f))=0:=by omega
  have h5:=h.hC
  rw [h4,Nat.pow_zero,Nat.mul_one]
  exact Nat.le_trans (Nat.mul_le_mul_left _ (show 2≤4^n from Nat.le_trans (by decide) (Nat.pow_le_pow_right (n:=4) (by decide) hn))) h5
theorem afj{l:List ZX}{a:ZX}{i:Nat}(h:i<l.length):nth (l ++ [a]) i=nth l i:=by
 simp only [nth,List.getElem?_append_left h]
theorem B3{s n:Nat}{a f:ZX}(hS:aD env.P 170 [PI a.l] (PI f.l))(h:Ch s n f)(h1:1≤s):aD env.P 85 [PI a.l] (aG zq (aR f)):=by
 have hn:=h.hn
 have hp:=h.pot
 have hs:=hp.le
 have bd:BZ (s+5) n (b9 f):=h.bz.b9 (by omega)
 have d1:=rK h.bz (by show s≤137438953472;omega) (by omega)
 have d2:=B2 bd (by omega) (by show s+5≤137438953472;omega) (by omega)
 have b2:BZ (s+5) n (sB (b9 f)):=jL bd
 have b1:BZ (s+5) n f:=h.bz.mono (by omega) (Nat.le_refl _)
 have GM:ZX.N (sB (b9 f))≤ZX.N f:=Nat.le_trans (mQ _) (Nat.le_trans (nG f) (by omega))
 have hc:aR f=f::wV (ZX.N f) f (sB (b9 f)):=rfl
 rw [FO GM (Nat.le_refl _)]at hc
 generalize hC:aR f=C at *
 generalize sB (b9 f)=g0 at *
 generalize (b9 f).l=dl at *
 have XV:f.l=f.l:=rfl
 refine b6 [(0,PI a.l)] Tryz.func85 ?_
 refine aA [0] ?_
 refine aJ [3] hS ?_
 refine W.X8 1 rfl rfl (fun K hK=>?_)
 simp (disch:=omega) [gw]
 refine W.lw [3,4] hK ?_;clear hK K;simp
 refine iM ?_
 refine bW d1 ?_
 refine bU [4,5] d2 ?_
 refine W.seq ?_
 refine W.block ?_
 refine W.bE (fun k σ=>∃(L:List ZX) (x g:ZX) (i ver s:Nat) (rows:Pm.Rows) (clk:Nat),σ=⟨fa [(4, .own 9 ver 0 (i+1)),(5,PI g.l)],rows,clk⟩∧rows 9=some ⟨ver,46,1,emap zq L⟩∧L.length=i+1∧nth L i=x ∧
  L++wV k x g=C∧k=ZX.N g∧BZ s n x∧BZ s n g∧1≤s∧BX 4500000000 n s x g∧i+ZX.N g≤20) (ZX.N g0) ?_ ?_
 ·exact⟨_, .refl,[f],f,g0,0,_,s+5,_,_,rfl,by simp [emap],rfl,rfl,hc.symm,rfl,b1,b2,by omega,hp,by have:=b2.N;omega⟩
 rintro k _ ⟨L,x,g,i,ver,s,rows,clk,rfl,hr,hL,hx,hcc,rfl,bx,bg,h1,hp,hiN⟩
 have hs:=hp.le
 have hlx:=bx.len
 have hlg:=bg.len
 have hLl:(emap zq L).length=i+1:=by simp [emap,hL]
 refine aM [4,5,15] ?_
 refine bF ?_ ?_<;>intro h
 ·have hg:g≠0:=ZX.aI.2 (by show 0<g.l.length;simp at h;omega)
  obtain⟨R8,hN,_⟩:=u0 (a:=x) hg
  have br:=YZ bx bg hg
  have hmul:(x.l.length+1-g.l.length+1)*(s+n+1)≤22*4500000000:=Nat.mul_le_mul (by omega) (by omega)
  have alM:(ZX.N x+1-ZX.N g)*(s+n+1)≤22*4500000000:=Nat.mul_le_mul (by have:ZX.N x=x.l.length:=rfl;omega) (by omega)
  have hR:=I4 (s:=s) (s':=s) (N:=n) bx bg x.c g.c (ZX.aI.1 hg) (by omega) (by show _<137438953472;omega)
  rw [←R8]at hR
  have hZ:=B2 br (by omega) (by show _≤137438953472;omega) (by omega)
  have hNg:=IM (sB (rz x g)).l ((jL br).mono (by show _≤137438953472;omega) (by omega))
  have e3:fU (sB (rz x g)).l=(nx x g).l:=rfl
  rw [e3]at hNg
  have GM:=abn (a:=x) hg
  have UI:=hp.step GM
  have bn:=Y1 bx bg hg
  have hi:i<L.length:=by omega
  have hx2:nth (L ++ [g]) i=x:=by rw [afj hi];exact hx
  have avv:i<(L ++ [g]).length:=by simp;omega
  have hch:L ++ [g]++wV (ZX.N (nx x g)) g (nx x g)=C:=by
   rw [←hcc]
   obtain⟨j,hj⟩:∃j,ZX.N g=j+1:=⟨ZX.N g-1,by have:=ZX.aI.1 hg;have:ZX.N g=g.l.length:=rfl;omega⟩
   rw [hj,wV,if_neg (by omega),FO (k:=j) (j:=ZX.N (nx x g)) (by omega) (Nat.le_refl _)]
   simp
  generalize (rz x g).l=rl at *
  generalize (sB (rz x g)).l=pl at *
  generalize hnx:nx x g=nn at *
  have hnl:nn.l=nn.l:=rfl
  refine W.skip ?_
  refine W.block ?_
  refine W.sr ?_
  simp (disch:=omega) [gw,hr,hLl]
  refine bN [4,5] ?_
  have e1:((i:Int)+1+1-2).toNat=i:=by omega
  refine W.cE (fun K hK=>?_)
  simp (disch:=omega) [gw,e1,avv,hx2]
  refine bW hR ?_
  refine bW hZ ?_
  refine bW hNg ?_
  refine hK _ ⟨ZX.N nn,_,aC _ [4,5],GM,L ++ [g],g,nn,i+1,_,_,_,_,rfl,by simp,by simp [hL],?_,hch,rfl,bg.mono (by omega) (Nat.le_refl _),bn,by omega,UI,by omega⟩
  rw [dE (by simp;omega)]
  simp [←hL]
 ·have hg:g=0:=by
   refine Classical.byContradiction fun h0=>?_
   have h1:=ZX.aI.1 h0
   have h2:ZX.N g=g.l.length:=rfl
   simp at h;rw [h2,h]at h1;simp at h1
  subst hg
  rw [lG,List.append_nil]at hcc
  subst hcc
  have zF:List.take (i+1) L=L:=List.take_of_length_le (by omega)
  refine eV ?_
  refine aA [2] ?_
  refine W.ret ?_
  simp [go,hr,hLl,zF]
end Go.Proofs.YtelhfbikiccfkaaGreat
