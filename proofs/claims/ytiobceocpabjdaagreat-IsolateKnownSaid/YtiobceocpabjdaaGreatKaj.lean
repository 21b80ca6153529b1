import Derived.Test.YtiobceocpabjdaaGreatKaf
import Derived.Test.YtiobceocpabjdaaGreatKai
set_option linter.unusedSimpArgs false
set_option linter.unusedVariables false
namespace Go.Proofs.YtiobceocpabjdaaGreat
open Go Pm
theorem X0{t:Int}(h0:0<t)(h1:t<4294967296):∃s:Nat,s≤31∧(32:Int)-nb t.toNat=s∧2147483648≤t*2^s∧(t+1)*2^s≤4294967296:=by
 have h2:nb t.toNat≤32:=nX.2 (by omega)
 have h3:1≤nb t.toNat:=by
  rcases Nat.eq_zero_or_pos (nb t.toNat)with h | h
  ·have:=nX.1 (Nat.le_of_eq h);omega
  ·exact h
 obtain⟨k,hk⟩:∃k,nb t.toNat=k+1:=⟨nb t.toNat-1,by omega⟩
 have h4:t.toNat<2^(k+1):=nX.1 (Nat.le_of_eq hk)
 have h5:2^k≤t.toNat:=by
  rcases Nat.lt_or_ge t.toNat (2^k)with h | h
  ·have:=nX.2 h;omega
  ·exact h
 have e1:(2:Int)^(k+1)*2^(31-k)=4294967296:=by rw [←Int.pow_add,show k+1+(31-k)=32 by omega];rfl
 have e2:(2:Int)^k*2^(31-k)=2147483648:=by rw [←Int.pow_add,show k+(31-k)=31 by omega];rfl
 have hp:(0:Int)<2^(31-k):=Int.pow_pos (by decide)
 have q1:((2^k:Nat):Int)=(2:Int)^k:=Int.natCast_pow 2 k
 have q2:((2^(k+1):Nat):Int)=(2:Int)^(k+1):=Int.natCast_pow 2 (k+1)
 refine⟨31-k,by omega,by omega,?_,?_⟩
 ·have:=Int.mul_le_mul_of_nonneg_right (show (2:Int)^k≤t by omega) (Int.le_of_lt hp)
  omega
 ·have:=Int.mul_le_mul_of_nonneg_right (show t+1≤(2:Int)^(k+1)by omega) (Int.le_of_lt hp)
  omega
theorem SG{y:List Int}(hc:aM y=y)(h:y ≠ []):nth y (y.length-1)≠0:=by
 intro h0
 have hl:0<y.length:=List.length_pos_iff.2 h
 have e:y=y.take (y.length-1) ++ [0]:=by
  have:=bA (l:=y) (i:=y.length-1) (by omega)
  rw [h0,show y.length-1+1=y.length by omega,List.take_length]at this
  exact this
 have h1:=iP (y.take (y.length-1))
 rw [←e,hc]at h1
 have h2:=bN (y.take (y.length-1))
 rw [←h1,List.length_take]at h2
 omega
theorem X1:N 0=us []:=rfl
theorem X3{m i:Nat}{X D:List Int}{Y g:Int}(lX:b9 4294967296 X)(lD:b9 4294967296 D)(hYb:Y<4294967296^(m+2))(hY0:0<Y)(sC:i+m+3≤X.length)(hDl:D.length=(X.drop i).length)(hDd:D.drop (m+3)=(X.drop i).drop (m+3))
  (hg:g=V 4294967296 ((X.drop i).take (m+3))/Y) (hDv:V 4294967296 (D.take (m+3))=V 4294967296 ((X.drop i).take (m+3))%Y) (fS:V 4294967296 (X.drop (i+1))<Y) :
  V 4294967296 ((X.take i++D).drop i)<Y∧V 4294967296 (X.take i++D)=V 4294967296 X-4294967296^i*(g*Y):=by
 have hl:(X.take i).length=i:=by simp;omega
 have e1:(X.take i++D).drop i=D:=by rw [List.drop_append,hl,List.drop_of_length_le (by omega)];simp
 have hD3:=i6 (b:=4294967296) D (m+3) (by rw [hDl];simp;omega)
 have hX3:=i6 (b:=4294967296) (X.drop i) (m+3) (by simp;omega)
 have hXi:=i6 (b:=4294967296) X i (by omega)
 have hz:V 4294967296 ((X.drop i).drop (m+3))=0:=by
  have h1:=i6 (b:=4294967296) (X.drop (i+1)) (m+2) (by simp;omega)
  have h2:(X.drop (i+1)).drop (m+2)=(X.drop i).drop (m+3):=by
   rw [List.drop_drop,List.drop_drop];congr 1;omega
  have h3:=bF (b:=4294967296) (by decide) ((lX.drop (i+1)).take (m+2))
  have h4:=bF (b:=4294967296) (by decide) ((lX.drop i).drop (m+3))
  rw [h2]at h1
  rcases Int.lt_or_le 0 (V 4294967296 ((X.drop i).drop (m+3)))with h5 | h5
  ·exfalso
   have:=Int.mul_le_mul_of_nonneg_left (show 1≤V 4294967296 ((X.drop i).drop (m+3))by omega) (show 0≤(4294967296:Int)^(m+2)by omega)
   omega
  ·omega
 rw [hDd,hz,Int.mul_zero,Int.add_zero]at hD3
 rw [hz,Int.mul_zero,Int.add_zero]at hX3
 have hm:=Int.emod_lt_of_pos (V 4294967296 ((X.drop i).take (m+3))) hY0
 have R6:=Int.mul_ediv_add_emod (V 4294967296 ((X.drop i).take (m+3))) Y
 rw [←hg,←hDv,←hX3,←hD3]at R6
 refine⟨by rw [e1,hD3,hDv];exact hm,?_⟩
 rw [dK,hl,hXi,←R6]
 grind
theorem HV(a b:List Int)(ha:pT a)(hb:pT b)(h0:V 4294967296 b=0):aL env.P 259 [us a,us b] (.dX [us [],us [], .int .i64 2]):=by
 have hlb:=hb.len
 have L3:=ha.len
 have hcb:=bN b
 have hy:aM b = []:=by rw [oR fR hb.vL];show aY LL (V 4294967296 b).toNat = [];rw [h0];rfl
 refine cH [(0,us a),(1,us b)] Tryz.func259 ?_
 refine aA [0,1] ?_
 refine jM ?_
 refine aC (cT a (by omega)) ?_
 simp (disch:=omega) [gw]
 refine aC (cT b (by omega)) ?_
 simp (disch:=omega) [gw]
 refine bM [0,1] ?_
 rw [hy]
 refine W.seq ?_
 refine W.block ?_
 refine aA [0,1,18] ?_
 refine bP ?_ ?_<;>intro h
 ·refine aA [4,5,6] ?_
  refine W.ret ?_
  simp [go]
  rfl
 ·cases h
theorem yW(a b:List Int)(ha:pT a)(hb:pT b)(h0:V 4294967296 b≠0)(L3:a.length<1099511627774)(hlb:b.length<1099511627774) :
  aL env.P 259 [us a,us b] (.dX [N (V 4294967296 a/V 4294967296 b),N (V 4294967296 a%V 4294967296 b), .int .i64 0]):=by
 have hca:=bN a
 have hcb:=bN b
 have hVa:=cE (b:=4294967296) a
 have hVb:=cE (b:=4294967296) b
 have lx:=dM ha.vL
 have ly:=dM hb.vL
 have cx:=dP a
 have cy:=dP b
 rw [←hVa,←hVb]
 rw [←hVb]at h0
 refine cH [(0,us a),(1,us b)] Tryz.func259 ?_
 refine aA [0,1] ?_
 refine jM ?_
 refine aC (cT a (by omega)) ?_
 simp (disch:=omega) [gw]
 refine aC (cT b (by omega)) ?_
 simp (disch:=omega) [gw]
 refine bM [0,1] ?_
 have hxl:(aM a).length<1099511627774:=by omega
 have J1:(aM b).length<1099511627774:=by omega
 clear hVa hVb hca hcb
 generalize aM a=x at *
 generalize aM b=y at *
 have hyn:y ≠ []:=fun h=>h0 (by rw [h];rfl)
 have hyp:0<y.length:=List.length_pos_iff.2 hyn
 have hY0:0<V 4294967296 y:=by have:=bF (b:=4294967296) (by decide) ly;omega
 have hX0:=bF (b:=4294967296) (by decide) lx
 refine W.seq ?_
 refine W.block ?_
 refine aA [0,1,18] ?_
 refine bP ?_ ?_<;>intro h
 ·exfalso;simp at h;exact hyn h
 clear h
 refine aA [0,1,22] ?_
 refine bP ?_ ?_<;>intro h
 ·have h:x.length<y.length:=by simp at h;omega
  have vC:=iQ (b:=4294967296) (by decide) lx ly cy h
  rw [Int.ediv_eq_zero_of_lt hX0 vC,Int.emod_eq_of_lt hX0 vC]
  refine jM ?_
  refine aC (kT x (by omega) lx) ?_
  simp (disch:=omega) [gw]
  refine bM [4,5,6] ?_
  refine W.ret ?_
  simp [go]
  rfl
 have vC:y.length≤x.length:=by simp at h;omega
 clear h
 refine aA [0,1,30] ?_
 refine bP ?_ ?_<;>intro h
 ·have h:y.length=1:=by simp at h;omega
  obtain⟨w,rfl⟩:∃w,y = [w]:=match y,h with | [w],_=>⟨w,rfl⟩
  have hw:=(b9.cons.1 ly).1
  have hV1:V 4294967296 [w]=w:=lB
  rw [hV1]at h0 hY0 ⊢
  have JY:=Int.emod_nonneg (V 4294967296 x) h0
  have J0:=Int.emod_lt_of_pos (V 4294967296 x) hY0
  have iZ:=aco x w (by omega) lx hY0 hw.2
  have lr:b9 4294967296 [V 4294967296 x%w]:=b9.cons.2 ⟨⟨JY,by omega⟩,b9.nil⟩
  have nH:=cT [V 4294967296 x%w] (by simp)
  rw [sZ lr,lB]at nH
  have hnw:nth [w] 0=w:=rfl
  generalize V 4294967296 x/w=qq at *
  generalize V 4294967296 x%w=rr at *
  refine W.sr ?_
  simp (disch:=omega) [gw,hnw]
  refine cV [7,8] iZ ?_
  refine a7 [4,5,6] nH ?_
  exact cR
 have hy2:2≤y.length:=by simp at h;omega
 clear h
 obtain⟨m,hm⟩:∃m,y.length=m+2:=⟨y.length-2,by omega⟩
 have htn:=SG cy hyn
 rw [show y.length-1=m+1 by omega]at htn
 have T9:=ly.nth (i:=m+1) (by omega)
 obtain⟨s,acx,hsn,tX,hs2⟩:=X0 (t:=nth y (m+1)) (by omega) T9.2
 have hLZ:=aie (nth y (m+1)) T9.1 T9.2
 rw [hsn]at hLZ
 have hp:(0:Int)<2^s:=Int.pow_pos (by decide)
 have aoz:(2:Int)^s≤2147483648:=by
  have:=Int.ofNat_le.2 (Nat.pow_le_pow_right (show 0<2 by decide) acx)
  simpa using this
 have hbm:(0:Int)<4294967296^(m+1):=Int.pow_pos (by decide)
 have aip:=nC (b:=4294967296) (by decide) lx
 have hVy:=i6 (b:=4294967296) y (m+1) (by omega)
 have hy1:V 4294967296 (y.drop (m+1))=nth y (m+1):=by rw [eB (by omega),List.drop_of_length_le (by omega),lB]
 rw [hy1]at hVy
 have atq:=bF (b:=4294967296) (by decide) (ly.take (m+1))
 have hy3:=nC (b:=4294967296) (by decide) (ly.take (m+1))
 rw [List.length_take,Nat.min_eq_left (by omega)]at hy3
 have hyU:V 4294967296 y*2^s<4294967296^(m+2):=by
  have h1:V 4294967296 y<(nth y (m+1)+1)*4294967296^(m+1):=by rw [hVy];grind
  have h2:=Int.mul_lt_mul_of_pos_right h1 hp
  have h3:=Int.mul_le_mul_of_nonneg_right hs2 (Int.le_of_lt hbm)
  have e:(nth y (m+1)+1)*4294967296^(m+1)*2^s=(nth y (m+1)+1)*2^s*4294967296^(m+1):=by grind
  rw [show m+2=(m+1)+1 from rfl,Int.pow_succ]
  omega
 have hyL:2147483648*4294967296^(m+1)≤V 4294967296 y*2^s:=by
  have h1:nth y (m+1)*4294967296^(m+1)≤V 4294967296 y:=by rw [hVy,Int.mul_comm];omega
  have h2:=Int.mul_le_mul_of_nonneg_right h1 (Int.le_of_lt hp)
  have h3:=Int.mul_le_mul_of_nonneg_right tX (Int.le_of_lt hbm)
  have e:nth y (m+1)*4294967296^(m+1)*2^s=nth y (m+1)*2^s*4294967296^(m+1):=by grind
  omega
 have hxU:V 4294967296 x*2^s<4294967296^(x.length+1):=by
  rw [Int.pow_succ]
  exact Int.lt_of_lt_of_le (Int.mul_lt_mul_of_pos_right aip hp) (Int.mul_le_mul_of_nonneg_left (by omega) (Int.le_of_lt (Int.pow_pos (by decide))))
 obtain⟨x',hwx,axZ,lx',aiq⟩:=HU x s (x.length+1) acx (by omega) lx (by omega) (by omega) hxU
 obtain⟨y',hwy,aoA,ly',SH⟩:=HU y s (m+2) acx (by omega) ly (by omega) (by omega) hyU
 have att:2147483648≤nth y' (m+1):=by
  have h1:=i6 (b:=4294967296) y' (m+1) (by omega)
  have h2:V 4294967296 (y'.drop (m+1))=nth y' (m+1):=by rw [eB (by omega),List.drop_of_length_le (by omega),lB]
  have h3:=nC (b:=4294967296) (by decide) (ly'.take (m+1))
  rw [List.length_take,Nat.min_eq_left (by omega)]at h3
  rw [h2,SH]at h1
  rcases Int.lt_or_le (nth y' (m+1)) 2147483648 with h4 | h4
  ·exfalso
   have:=Int.mul_le_mul_of_nonneg_left (show nth y' (m+1)+1≤2147483648 by omega) (Int.le_of_lt hbm)
   rw [Int.mul_add,Int.mul_comm _ 2147483648]at this
   omega
  ·exact h4
 have acy:0<V 4294967296 y':=by rw [SH];exact Int.mul_pos hY0 hp
 have atu:V 4294967296 y'<4294967296^(m+2):=by rw [SH];exact hyU
 have hxm:m+2≤x.length:=by omega
 have hqx:V 4294967296 x/V 4294967296 y=V 4294967296 x'/V 4294967296 y':=by rw [aiq,SH,Int.mul_ediv_mul_of_pos_left _ _ hp]
 have hrx:V 4294967296 x%V 4294967296 y=V 4294967296 x'%V 4294967296 y'/2^s:=by
  rw [aiq,SH]
  have e1:=Int.emod_def (V 4294967296 x*2^s) (V 4294967296 y*2^s)
  rw [Int.mul_ediv_mul_of_pos_left _ _ hp]at e1
  have e2:=Int.emod_def (V 4294967296 x) (V 4294967296 y)
  rw [e1,e2]
  have e3:V 4294967296 x*2^s-V 4294967296 y*2^s*(V 4294967296 x/V 4294967296 y)=(V 4294967296 x-V 4294967296 y*(V 4294967296 x/V 4294967296 y))*2^s:=by grind
  rw [e3,Int.mul_ediv_cancel _ (by omega)]
 have aoB:V 4294967296 (x'.drop (x.length-m-1))<V 4294967296 y':=by
  have h1:=i6 (b:=4294967296) x' (x.length-m-1) (by omega)
  have h2:=bF (b:=4294967296) (by decide) (lx'.take (x.length-m-1))
  rw [aiq]at h1
  have h3:V 4294967296 x*2^s<4294967296^(x.length-m-1)*(4294967296^(m+1)*2^s):=by
   rw [←Int.mul_assoc,←Int.pow_add,show x.length-m-1+(m+1)=x.length by omega]
   exact Int.mul_lt_mul_of_pos_right aip hp
  have h4:V 4294967296 (x'.drop (x.length-m-1))<4294967296^(m+1)*2^s:=Int.lt_of_mul_lt_mul_left (a:=4294967296^(x.length-m-1)) (by omega) (Int.le_of_lt (Int.pow_pos (by decide)))
  have h5:=Int.mul_le_mul_of_nonneg_left aoz (Int.le_of_lt hbm)
  rw [SH]
  rw [Int.mul_comm _ 2147483648]at h5
  omega
 rw [hqx,hrx]
 refine W.skip ?_
 have a1:((m:Int)+2-1)=((m+1:Nat):Int):=by omega
 refine W.sr ?_
 simp (disch:=omega) [gw,hm,a1]
 refine cV [0,1,9] hLZ ?_
 replace hwx:i0 env.P 270 [us x, .int .i64 s, .int .i64 ((x.length:Int)+1)] 185 1 (emap u32 x'):=hwx
 replace hwy:i0 env.P 270 [us y, .int .i64 s, .int .i64 ((m:Int)+2)] 185 1 (emap u32 y'):=hwy
 refine W.sr ?_
 simp (disch:=omega) [gw,hm]
 refine ae5 hwx 58 (by simp) (by simp) (by simp) ?_
 simp (disch:=omega) [gw,hm]
 refine ae5 hwy 63 (by simp) (by simp) (by simp) ?_
 simp (disch:=omega) [gw]
 refine bM [0,9,10,11] ?_
 refine W.freeze 63 (by simp) (fun K hK=>?_)
 simp
 refine hK _ ?_;clear hK K
 refine W.sr ?_
 simp (disch:=omega) [gw,aoA]
 refine bM [0,9,10,11,12] ?_
 obtain⟨ql,hql⟩:∃ql,x.length=ql+m+1:=⟨x.length-m-1,by omega⟩
 rw [show x.length-m-1=ql by omega]at aoB
 have ae9:x'.length=ql+m+2:=by omega
 have aq:(x.length:Int)-((m:Int)+2)+1=(ql:Int):=by omega
 refine W.sr ?_
 simp (disch:=omega) [gw,aq]
 refine bM [4,9,10,11,12] ?_
 clear hwx hwy hVy hy1 atq hy3 hyU hyL hxU hqx hrx htn T9 tX hs2 hsn hLZ aip hY0 hX0
 refine aR [4,9,10,11,12,13] ?_
 refine W.block ?_
 refine W.bC (fun q σ=>∃(v4:Nat) (X Q:List Int) (rows:Pm.Rows) (clk:Nat),σ=⟨fa [(4, .own 71 v4 0 ql),(9, .int .i64 s),(10, .own 58 0 0 (ql+m+2)),(11,us y'),(12, .int .i64 ((m:Int)+2)),(13, .int .i64 ((q:Int)-1))],rows,clk⟩ ∧
  rows 58=some ⟨0,185,1,emap u32 X⟩∧rows 71=some ⟨v4,185,1,emap u32 Q⟩∧q≤ql∧X.length=ql+m+2∧Q.length=ql∧b9 4294967296 X∧b9 4294967296 Q ∧
  V 4294967296 X+4294967296^q*V 4294967296 (Q.drop q)*V 4294967296 y'=V 4294967296 x'∧V 4294967296 (X.drop q)<V 4294967296 y') ql ?_ ?_
 ·exact⟨_,Gh.fr [(4, .own 71 _ 0 ql),(9, .int .i64 s),(10, .own 58 0 0 (ql+m+2)),(11,us y'),(12, .int .i64 ((m:Int)+2)),(13, .int .i64 ((ql:Int)-1))] (by simp [ae9];exact rfl),_,x',List.replicate ql 0,_,_,rfl,by simp,by simp,by omega,ae9,by simp,lx',b9.rep (by decide) _,by simp [V],aoB⟩
 rintro q _ ⟨v4,X,Q,rows,clk,rfl,acz,air,hq,hXl,hQl,lX,lQ,hVX,hXU⟩
 refine aR [4,9,10,11,12,13,76] ?_
 refine bP ?_ ?_<;>intro h
 ·have hq0:0<q:=by simp at h;omega
  obtain⟨i,rfl⟩:∃i,q=i+1:=⟨q-1,by omega⟩
  clear h
  have ei:((i+1:Nat):Int)-1=i:=by omega
  rw [ei]
  have aoC:V 4294967296 ((X.drop i).take (m+3))<4294967296*V 4294967296 y':=by
   have h1:=i6 (b:=4294967296) (X.drop i) (m+3) (by simp;omega)
   have h2:=bF (b:=4294967296) (by decide) ((lX.drop i).drop (m+3))
   have h3:=Int.mul_nonneg (show (0:Int)≤4294967296^(m+3)from Int.le_of_lt (Int.pow_pos (by decide))) h2
   have h4:V 4294967296 (X.drop i)=nth X i+4294967296*V 4294967296 (X.drop (i+1)):=by rw [eB (by omega)];rfl
   have h5:=lX.nth (i:=i) (by omega)
   omega
  have acB:=fun(rows:Pm.Rows) clk hr=>L9 (id:=58) (ver:=0) (off:=i) (m:=m) X y' rows clk hr aoA (by omega) ly' att lX (by omega) (by omega) aoC
  have e6:(i:Int)+((m:Int)+2)+1=((i+m+3:Nat):Int):=by omega
  have e7:((i:Int)+(m:Int)+3).toNat-i=m+3:=by omega
  refine kK ?_
  refine W.cG (fun K hK=>?_)
  simp (disch:=omega) [gw,acz,hXl,e6,e7]
  refine am1 (acB _ _ acz) ?_
  rintro r rows' fQ ⟨D,rfl,rfl,rfl,hDl,lD,hDd,hDv⟩
  have rD:=X3 (g:=V 4294967296 ((X.drop i).take (m+3))/V 4294967296 y') lX lD atu acy (by omega) hDl hDd rfl hDv hXU
  have hg0:0≤V 4294967296 ((X.drop i).take (m+3))/V 4294967296 y':=Int.ediv_nonneg (bF (by decide) ((lX.drop i).take _)) (Int.le_of_lt acy)
  have VJ:V 4294967296 ((X.drop i).take (m+3))/V 4294967296 y'<4294967296:=Int.ediv_lt_of_lt_mul acy aoC
  generalize V 4294967296 ((X.drop i).take (m+3))/V 4294967296 y'=g at *
  have atw:(X.take i++D).length=ql+m+2:=by simp [hDl];omega
  have lX2:b9 4294967296 (X.take i++D):=b9.append.2 ⟨lX.take i,lD⟩
  obtain⟨atx,aty⟩:=rD
  generalize X.take i++D=X2 at *
  simp (disch:=omega) [gw,air,hQl]
  refine W.lw [4,9,10,11,12,13] hK ?_;clear hK K;simp
  refine W.cG (fun K hK=>?_);simp (disch:=omega) [gw]
  refine hK _ ⟨i,_,aD _ [4,9,10,11,12,13],by omega,v4,X2,Q.set i g,_,_,rfl,by simp,by simp,by omega,atw,by simp [hQl],lX2,lQ.set ⟨hg0,VJ⟩,?_,atx⟩
  rw [aty,eB (l:=Q.set i g) (i:=i) (by simp;omega),dV (by omega),List.drop_set_of_lt (by omega),←hVX]
  simp only [V,Int.pow_succ]
  generalize V 4294967296 (Q.drop (i+1))=vq at *
  grind
 ·have hq0:q=0:=by simp at h;omega
  subst hq0
  simp only [List.drop_zero,Int.pow_zero,Int.one_mul]at hVX hXU
  have hX0:=bF (b:=4294967296) (by decide) lX
  have hQe:V 4294967296 x'/V 4294967296 y'=V 4294967296 Q:=by
   have e:(V 4294967296 Q+1)*V 4294967296 y'=V 4294967296 Q*V 4294967296 y'+V 4294967296 y':=by grind
   rw [Int.ediv_eq_iff_of_pos acy]
   constructor<;>omega
  have hRe:V 4294967296 x'%V 4294967296 y'=V 4294967296 X:=by
   have h3:=Int.emod_def (V 4294967296 x') (V 4294967296 y')
   rw [hQe,Int.mul_comm]at h3
   omega
  have hXt:V 4294967296 (X.take (m+2))=V 4294967296 X:=by
   have h1:=i6 (b:=4294967296) X (m+2) (by omega)
   have h2:=bF (b:=4294967296) (by decide) (lX.drop (m+2))
   have h3:=bF (b:=4294967296) (by decide) (lX.take (m+2))
   have h4:(0:Int)<4294967296^(m+2):=Int.pow_pos (by decide)
   rcases Int.lt_or_le 0 (V 4294967296 (X.drop (m+2)))with h5 | h5
   ·exfalso
    have:=Int.mul_le_mul_of_nonneg_left (show 1≤V 4294967296 (X.drop (m+2))by omega) (Int.le_of_lt h4)
    omega
   ·have:V 4294967296 (X.drop (m+2))=0:=by omega
    rw [this]at h1;omega
  rw [hQe,hRe,←hXt]
  have zQ:=bG hQl
  have zX:=bG hXl
  have nH:=cT Q (by omega)
  rw [sZ lQ]at nH
  have atz:=acp (X.take (m+2)) s acx (by simp;omega) (lX.take _)
  refine fC ?_
  refine W.freeze 71 (by simp [air]) (fun K hK=>?_)
  simp [air,zQ]
  refine hK _ ?_;clear hK K
  refine W.freeze 58 (by simp [acz]) (fun K hK=>?_)
  simp [acz,zX]
  refine hK _ ?_;clear hK K
  have e8:((m:Int)+2).toNat=m+2:=by omega
  refine sB ?_
  refine aC nH ?_
  simp (disch:=omega) [gw,hXl,e8]
  refine cV [4,5,6] atz ?_
  exact cR
theorem EI{A B:Int}(hB:0<B)(hA:0≤A):(A%B=0→(-A)/B = -(A/B)∧(-A)%B=0)∧(0<A%B→(-A)/B = -(A/B+1)∧(-A)%B=B-A%B):=by
 have h1:=Int.mul_ediv_add_emod A B
 have h2:=Int.emod_lt_of_pos A hB
 constructor
 ·intro h
  refine(Int.ediv_emod_unique hB).2 ⟨?_,by omega,by omega⟩
  rw [Int.mul_neg];omega
 ·intro h
  refine(Int.ediv_emod_unique hB).2 ⟨?_,by omega,by omega⟩
  rw [Int.mul_neg,Int.mul_add];omega
theorem X4(n m:Bool){A B:Int}(hB:0<B)(hA:0≤A) :
  (¬(n=true∧0<A%B)→(if n=true then -A else A)/(if m=true then -B else B)=(if (n != m)=true then -(A/B)else A/B)∧(if n=true then -A else A)%(if m=true then -B else B)=A%B) ∧
  (n=true→0<A%B→(if n=true then -A else A)/(if m=true then -B else B)=(if (n != m)=true then -(A/B+1)else A/B+1)∧(if n=true then -A else A)%(if m=true then -B else B)=B-A%B):=by
 obtain⟨p1,p2⟩:=EI hB hA
 have h0:=Int.emod_nonneg A (show B≠0 by omega)
 cases n<;>cases m<;>simp [Int.ediv_neg,Int.emod_neg]
 ·exact⟨fun h=>by have:=p1 (by omega);exact⟨this.1,by omega⟩,p2⟩
 ·exact⟨fun h=>by have:=p1 (by omega);exact⟨by omega,by omega⟩,fun h=>by have:=p2 h;exact⟨by omega,this.2⟩⟩
theorem X5(n:Bool)(l:List Int)(h:pT l):aL env.P 143 [IV n l] (I (V 4294967296 l)):=by
 refine cH [(0,IV n l)] Tryz.func143 ?_
 refine aA [1,2] ?_
 refine jM ?_
 refine cX (kT l h.len h.vL) ?_
 refine aC (eV _ (nY h) false) ?_
 simp (disch:=omega) [gw]
 refine bM [2] ?_
 exact cR
theorem X6(n:Bool)(l:List Int):aL env.P 258 [IV n l] (.int .i64 (if l.length=0 then 0 else if n=true then -1 else 1)):=by
 refine cH [(0,IV n l)] Tryz.func258 ?_
 refine cL [1] ?_
 refine W.block ?_
 refine aA [1,3] ?_
 refine bP ?_ ?_<;>intro h
 ·have h:l = []:=by simp at h;exact h
  subst h
  refine aA [2] ?_
  exact cR
 ·have h:l.length≠0:=by simp at h;simpa using h
  rw [if_neg h]
  refine aA [8] ?_
  refine bP ?_ ?_<;>intro h
  ·subst h
   refine aA [2] ?_
   exact cR
  ·subst h
   refine W.skip ?_
   refine aA [2] ?_
   exact cR
theorem acC(p:RP)(hp:p.length<9223372036854775808):aL env.P 83 [Pg p] (.int .i64 ((p.length:Int)-1)):=by
 refine cH [(0,Pg p)] Tryz.func83 ?_
 refine aA [0] ?_
 refine aA [2] ?_
 exact cR
theorem HW(p:RP)(h:qJ p):aL env.P 145 [Pg p] (I (lead (kM p))):=by
 have hl:=h.len
 have eY:=bN (p.map gv)
 rw [List.length_map]at eY
 refine cH [(0,Pg p)] Tryz.func145 ?_
 refine aA [0,2] ?_
 refine W.seq ?_
 refine a7 [0,2] (gI p h) ?_
 rw [show aM (p.map gv)=kM p from rfl]at eY ⊢
 generalize kM p=x at *
 refine aA [0,2,7] ?_
 refine bP ?_ ?_<;>intro h
 ·have h:x = []:=by simp at h;exact h
  subst h
  refine aA [2] ?_
  refine W.ret ?_
  simp [go]
  exact⟨Int.le_refl 0,rfl⟩
 ·have h:x ≠ []:=by simp at h;exact h
  have nZ:0<x.length:=List.length_pos_iff.2 h
  refine W.skip ?_
  have e1:((x.length:Int)-1).toNat=x.length-1:=by omega
  refine W.sr ?_
  simp (disch:=omega) [gw,e1]
  refine bM [2] ?_
  refine W.ret ?_
  simp [go,lead]
theorem HX{x:Int}{k:Nat}(h0:0≤x)(h:x<4294967296^k):sz LL x≤k:=dN fR (by
 have e:((4294967296^k:Nat):Int)=(4294967296:Int)^k:=Int.natCast_pow 4294967296 k
 show x.natAbs<4294967296^k
 omega)
theorem O0{x:Int}{k:Nat}(h0:0≤x)(h:sz LL x≤k)(hk:k<1099511627776):pT (aY LL x.toNat):=⟨eT fR _,by
 have e:x.natAbs=x.toNat:=by omega
 unfold sz at h
 rw [e]at h
 omega⟩
theorem X7{x:Int}(h0:0≤x):V 4294967296 (aY LL x.toNat)=x:=by
 have:=jH fR x.toNat
 rw [show((LL:Nat):Int)=4294967296 from rfl]at this
 rw [this];omega
theorem acD{x:Int}(h0:0≤x):(0<(aY LL x.toNat).length)↔0<x:=by
 rw [List.length_pos_iff,Ne,dR fR];omega
theorem HY(n m:Bool)(l k:List Int)(BJ:pT l)(h':pT k)(hl:l.length<1099511627774)(hk:k.length<1099511627774) :
  aL env.P 260 [IV n l,IV m k] (if V 4294967296 k=0 then .dX [I 0,I 0, .int .i64 2]else .dX [I (iv n l/iv m k),I (iv n l%iv m k), .int .i64 0]):=by
 have p1:=nY BJ
 have p2:=nY h'
 refine cH [(0,IV n l),(1,IV m k)] Tryz.func260 ?_
 refine aA [2,3,4,5] ?_
 by_cases h0:V 4294967296 k=0
 ·rw [if_pos h0]
  refine a7 [2,3,4,5,6,7,8] (HV l k BJ h' h0) ?_
  refine aR [2,3,4,5,6,7,8,19] ?_
  refine bP ?_ ?_<;>intro h
  ·refine aA [4,5,6] ?_
   refine W.ret ?_
   simp [go]
   rfl
  ·cases h
 ·rw [if_neg h0]
  have hB:0<V 4294967296 k:=by omega
  have N7:=yW l k BJ h' h0 hl hk
  obtain⟨d1,d2⟩:=X4 n m hB p1
  rw [show(if n=true then -V 4294967296 l else V 4294967296 l)=iv n l from rfl,show(if m=true then -V 4294967296 k else V 4294967296 k)=iv m k from rfl]at d1 d2
  have q0:=Int.ediv_nonneg p1 p2
  have r0:=Int.emod_nonneg (V 4294967296 l) h0
  have r1:=Int.emod_lt_of_pos (V 4294967296 l) hB
  have mV:sz LL (V 4294967296 l/V 4294967296 k)≤l.length:=HX q0 (Int.lt_of_le_of_lt (Int.ediv_le_self _ p1) (nC (by decide) BJ.vL))
  have atA:sz LL (V 4294967296 l%V 4294967296 k)≤k.length:=HX r0 (Int.lt_trans r1 (nC (by decide) h'.vL))
  refine a7 [2,3,4,5,6,7,8] N7 ?_
  generalize V 4294967296 l/V 4294967296 k=Q at *
  generalize V 4294967296 l%V 4294967296 k=R at *
  refine aR [2,3,4,5,6,7,8,19] ?_
  refine bP ?_ ?_<;>intro h
  ·cases h
  refine W.skip ?_
  refine jM ?_
  refine cX (eV Q q0 (n != m)) ?_
  refine cV [2,3,4,5,7,8] (eV R r0 false) ?_
  refine W.iF (fun σ=>∃(rows:Pm.Rows) (clk:Nat),σ=⟨fa [(4, .ptr 4 2 0 0),(5, .ptr 5 3 0 0)],rows,clk⟩∧rows 4=some ⟨2,38,2,[ie (iv n l/iv m k)]⟩∧rows 5=some ⟨3,38,2,[ie (iv n l%iv m k)]⟩) ?_ ?_
  ·
   by_cases ais:n=true∧0<R
   ·obtain⟨rfl,hR⟩:=ais
    obtain⟨e1,e2⟩:=d2 rfl hR
    rw [e1,e2]
    have hdp:=(acD r0).2 hR
    have hQl:=O0 q0 mV BJ.len
    have hRl:=O0 r0 atA h'.len
    have aoD:=OW (aY LL Q.toNat) [1] hQl.len (by simp) hQl.vL (b9.cons.2 ⟨by decide,b9.nil⟩)
    rw [X7 q0,lB]at aoD
    have aoE:=EE k (aY LL R.toNat) h'.len hRl.len h'.vL hRl.vL
    rw [X7 r0,L2,if_neg (by omega)]at aoE
    refine W.fX (fun σ=>∃(rows:Pm.Rows) (clk:Nat),σ=⟨fa [(2, .ptr 2 0 0 0),(3, .ptr 3 1 0 0),(4, .ptr 4 2 0 0),(5, .ptr 5 3 0 0),(7,N Q),(8,N R),(38, .bool true)],rows,clk⟩∧rows 2=some ⟨0,38,2,[[.bool true,us l]]⟩∧rows 3=some ⟨1,38,2,[[.bool m,us k]]⟩∧rows 4=some ⟨2,38,2,[ie (if true=m then Q else -Q)]⟩∧rows 5=some ⟨3,38,2,[ie R]⟩) (fun K hK=>?_) ?_
    ·simp (disch:=omega) [gw,hdp]
     exact hK _ _ (aD _ [2,3,4,5,7,8,38]) ⟨_,_,rfl,by simp,by simp,by simp,by simp⟩
    rintro _ ⟨rows,clk,rfl,dY,lJ,eU,lK⟩
    refine bP ?_ ?_<;>intro h
    ·refine a7 [2,3,4,5,7,8] aoD ?_
     refine W.sr ?_
     simp (disch:=omega) [gw,lJ]
     refine cV [2,3,4,5,7,8] aoE ?_
     refine W.cG (fun K hK=>?_)
     simp (disch:=omega) [gw,dY,lJ]
     refine aC (eV (Q+1) (by omega) (!m)) ?_
     simp (disch:=omega) [gw]
     refine aC (eV (V 4294967296 k-R) (by omega) false) ?_
     simp (disch:=omega) [gw,eU,lK]
     exact hK _ ⟨_,aD _ [4,5],_,_,rfl,by cases m<;>simp,by simp⟩
    ·cases h
   ·obtain⟨e1,e2⟩:=d1 ais
    rw [e1,e2]
    refine W.fX (fun σ=>∃(rows:Pm.Rows) (clk:Nat),σ=⟨fa [(4, .ptr 4 2 0 0),(5, .ptr 5 3 0 0),(38, .bool false)],rows,clk⟩∧rows 4=some ⟨2,38,2,[ie (if (n != m)=true then -Q else Q)]⟩∧rows 5=some ⟨3,38,2,[ie R]⟩) (fun K hK=>?_) ?_
    ·cases n with
     | false =>
      simp (disch:=omega) [gw]
      exact hK _ _ (aD _ [4,5,38]) ⟨_,_,rfl,by cases m<;>simp,by simp⟩
     | true =>
      have hR:R=0:=by simp at ais;omega
      subst hR
      simp (disch:=omega) [gw]
      exact hK _ _ (aD _ [4,5,38]) ⟨_,_,rfl,by cases m<;>simp,by simp⟩
    rintro _ ⟨rows,clk,rfl,eU,lK⟩
    refine bP ?_ ?_<;>intro h
    ·cases h
    ·refine W.skip ?_
     exact⟨_,aD _ [4,5],_,_,rfl,eU,lK⟩
  rintro _ ⟨rows,clk,rfl,eU,lK⟩
  generalize iv n l/iv m k=q at *
  generalize iv n l%iv m k=r at *
  refine W.sd ?_
  simp (disch:=omega) [gw,eU,lK]
  refine cU (by kernel_rfl) ?_
  simp (disch:=omega) [gw,eU,lK]
  rw [if_pos (by kernel_rfl)]
  simp (disch:=omega) [gw,eU,lK]
  refine cU (by kernel_rfl) ?_
  simp (disch:=omega) [gw]
  refine bM [4,5,6] ?_
  exact cR
theorem MC(n m:Bool)(l k:List Int)(h:pT l)(h':pT k)(hl:l.length<1099511627774)(hk:k.length<1099511627774)(h0:V 4294967296 k≠0) :
  aL env.P 234 [IV n l,IV m k] (if iv n l%iv m k=0 then .dX [I (iv n l/iv m k), .int .i64 0]else .dX [I 0, .int .i64 3]):=by
 have N7:=HY n m l k h h' hl hk
 rw [if_neg h0]at N7
 have BO:0≤iv n l%iv m k:=Int.emod_nonneg _ (by unfold iv;split<;>omega)
 generalize iv n l/iv m k=q at *
 generalize iv n l%iv m k=r at *
 have hrn:(aY LL r.natAbs = [])↔r=0:=by rw [dR fR];omega
 refine cH [(0,IV n l),(1,IV m k)] Tryz.func234 ?_
 refine aA [2,3,4] ?_
 refine a7 [4,6,7,8] N7 ?_
 refine aR [4,6,7,8,17] ?_
 refine bP ?_ ?_<;>intro h
 ·cases h
 refine W.skip ?_
 refine aR [4,6,23] ?_
 by_cases hr:r=0
 ·rw [if_pos hr]
  refine bP ?_ ?_<;>intro h
  ·exfalso;have h2:=hrn.2 hr;rw [h2]at h;simp at h
  ·refine W.skip ?_
   refine aA [4,5] ?_
   exact cR
 ·rw [if_neg hr]
  refine bP ?_ ?_<;>intro h
  ·refine aA [4,5] ?_
   refine W.ret ?_
   simp [go]
   rfl
  ·exfalso;simp at h;exact hr (hrn.1 h)
def bH(l:List Int):Nat:=l.foldl (fun g c=>Nat.gcd g c.natAbs) 0
theorem gcd_one:∀l:List Int,l.foldl (fun g c=>Nat.gcd g c.natAbs) 1=1
 | []=>rfl
 | c::l=>by simp only [List.foldl_cons,Nat.gcd_one_left];exact gcd_one l
theorem MD(l:List Int)(i:Nat)(h:bH (l.take i)=1):bH l=1:=by
 unfold bH at *
 rw [←List.take_append_drop i l,List.foldl_append,h]
 exact gcd_one _
theorem SI(l:List Int)(i:Nat)(h:i<l.length):bH (l.take (i+1))=Nat.gcd (bH (l.take i)) (nth l i).natAbs:=by
 unfold bH
 rw [bA h,List.foldl_append];rfl
theorem aoF(x:Nat):N (x:Int)=us (aY LL x):=rfl
theorem yX{x k:Nat}(h:x<4294967296^k):(aY LL x).length≤k:=EA fR h
theorem HZ(p:RP)(K0:Nat)(hK0:K0<1099511627774)(hp:∀c∈p,b9 4294967296 c.2∧c.2.length≤K0)(hpl:p.length<1099511627776):aL env.P 233 [Pg p] (I (bH (p.map gv))):=by
 have hng:∀c∈p,(gv c).natAbs=(V 4294967296 c.2).toNat:=fun c hc=>by
  have:=bF (b:=4294967296) (by decide) (hp c hc).1
  unfold gv iv;split<;>omega
 refine cH [(0,Pg p)] Tryz.func233 ?_
 refine aA [0,2] ?_
 refine aA [0,2,3] ?_
 refine W.R3 3 (us []) (by simp) rfl (fun K hK=>?_)
 refine W.lw [0,2,3] hK ?_;clear hK K;simp
 have atB:∀i,i<p.length→(nth (p.map gv) i).natAbs=(V 4294967296 (nth p i).2).toNat:=fun i hi=>by rw [rM];exact hng _ (bR hi)
 refine W.iF (fun σ=>∃(rows:Pm.Rows) (clk:Nat),σ=⟨fa [(2, .ptr 2 0 0 0),(3,us (aY LL (bH (p.map gv))))],rows,clk⟩∧rows 2=some ⟨0,38,2,[[.bool false, .nil]]⟩∧bH (p.map gv)<4294967296^K0) ?_ ?_
 ·
  refine aA [2,3,10,11,12] ?_
  refine W.block ?_
  refine W.bC (fun q σ=>∃(i:Nat) (rows:Pm.Rows) (clk:Nat),σ=⟨fa [(2, .ptr 2 0 0 0),(3,us (aY LL (bH ((p.map gv).take i)))),(10,Pg p),(11, .int .i64 p.length),(12, .int .i64 i)],rows,clk⟩∧rows 2=some ⟨0,38,2,[[.bool false, .nil]]⟩∧q=p.length-i∧i≤p.length∧bH ((p.map gv).take i)<4294967296^K0) p.length ?_ ?_
  ·exact⟨_,Gh.fr [(2, .ptr 2 0 0 0),(3,us (aY LL (bH ((p.map gv).take 0)))),(10,Pg p),(11, .int .i64 p.length),(12, .int .i64 (0:Nat))] (by simp [bH,j0]),0,_,_,rfl,by simp,by omega,by omega,by simp [bH];exact Nat.pow_pos (by decide)⟩
  rintro q _ ⟨i,rows,clk,rfl,dY,hq,hi,FW⟩
  refine cL [2,3,10,11,12,13] ?_
  refine bP ?_ ?_<;>intro h
  ·have hi:i<p.length:=by simp at h;omega
   obtain⟨wG,hc2⟩:=hp _ (bR hi)
   have hV0:=bF (b:=4294967296) (by decide) wG
   have hVl:=nC (b:=4294967296) (by decide) wG
   obtain⟨x0,nZ⟩:=Int.eq_ofNat_of_zero_le hV0
   have H0:=kT (nth p i).2 (by omega) wG
   rw [nZ,aoF]at H0
   have hxb:x0<4294967296^K0:=by
    have e:((4294967296^(nth p i).2.length:Nat):Int)=(4294967296:Int)^(nth p i).2.length:=Int.natCast_pow 4294967296 _
    have e2:4294967296^(nth p i).2.length≤4294967296^K0:=Nat.pow_le_pow_right (by decide) hc2
    omega
   have hgs:=SI (p.map gv) i (by simpa using hi)
   rw [atB i hi,nZ]at hgs
   simp only [Int.toNat_natCast]at hgs
   refine kK ?_
   refine W.sr ?_
   simp (disch:=omega) [gw,dY]
   refine bM [2,3,5,10,11,12] ?_
   refine a7 [2,3,6,10,11,12] H0 ?_
   refine W.seq ?_
   refine W.block ?_
   refine W.bC (fun q σ=>∃(g x:Nat) (rows:Pm.Rows) (clk:Nat),σ=⟨fa [(2, .ptr 2 0 0 0),(3,us (aY LL g)),(6,us (aY LL x)),(10,Pg p),(11, .int .i64 p.length),(12, .int .i64 i)],rows,clk⟩∧rows 2=some ⟨0,38,2,[[.bool false, .nil]]⟩∧q=x∧Nat.gcd g x=bH ((p.map gv).take (i+1))∧g<4294967296^K0∧x<4294967296^K0) x0 ?_ ?_
   ·exact⟨_, .refl,bH ((p.map gv).take i),x0,_,_,rfl,by simp [dY],rfl,hgs.symm,FW,hxb⟩
   rintro q2 _ ⟨g,x,rows,clk,rfl,dY,hq2,hgx,hg,hx⟩
   refine aR [2,3,6,10,11,12,21] ?_
   refine bP ?_ ?_<;>intro h
   ·have h1:aY LL x ≠ []:=by simp at h;exact List.length_pos_iff.1 h
    have nZ:x≠0:=fun h2=>h1 ((dR fR).2 h2)
    have hlg:=yX hg
    have hlx:=yX hx
    have N7:=yW (aY LL g) (aY LL x) ⟨eT fR _,by omega⟩ ⟨eT fR _,by omega⟩ (by rw [show(4294967296:Int)=((LL:Nat):Int)from rfl,jH fR];omega) (by omega) (by omega)
    rw [show(4294967296:Int)=((LL:Nat):Int)from rfl,jH fR,jH fR,←Int.natCast_emod,aoF]at N7
    have hm:=Nat.mod_lt g (show 0<x by omega)
    have hgr:Nat.gcd x (g%x)=Nat.gcd g x:=by rw [Nat.gcd_comm x,←Nat.gcd_rec,Nat.gcd_comm]
    refine W.skip ?_
    refine W.block ?_
    refine a7 [2,6,8,10,11,12] N7 ?_
    refine W.cG (fun K hK=>?_);simp (disch:=omega) [gw]
    refine hK _ ⟨g%x,_,aD _ [2,3,6,10,11,12],by omega,x,g%x,_,_,rfl,by simp [dY],rfl,by rw [hgr,hgx],hx,by omega⟩
   ·have h1:aY LL x = []:=by simp at h;exact h
    have nZ:x=0:=(dR fR).1 h1
    subst nZ
    rw [Nat.gcd_zero_right]at hgx
    refine fC ?_
    refine W.fX (fun σ=>∃(b:Bool) (rows:Pm.Rows) (clk:Nat),σ=⟨fa [(2, .ptr 2 0 0 0),(3,us (aY LL g)),(10,Pg p),(11, .int .i64 p.length),(12, .int .i64 i),(39, .bool b)],rows,clk⟩∧rows 2=some ⟨0,38,2,[[.bool false, .nil]]⟩∧(b=true→g=1)) (fun K hK=>?_) ?_
    ·by_cases h2:(aY LL g).length=1
     ·obtain⟨w,hw⟩:∃w,aY LL g = [w]:=match aY LL g,h2 with | [w],_=>⟨w,rfl⟩
      have hgv:=jH fR g
      rw [hw,lB]at hgv
      rw [hw]at hK ⊢
      have hnw:nth [w] 0=w:=rfl
      simp (disch:=omega) [gw,hnw]
      exact hK _ _ (aD _ [2,3,10,11,12,39]) ⟨_,_,_,rfl,by simp [dY],fun h3=>by simp at h3;omega⟩
     ·have h2':((aY LL g).length:Int)≠1:=by omega
      have hb:(((aY LL g).length:Int)==1)=false:=by simpa using h2'
      simp (disch:=omega) [gw,hb,h2]
      exact hK _ _ (aD _ [2,3,10,11,12,39]) ⟨_,_,_,rfl,by simp [dY],fun h3=>by cases h3⟩
    rintro _ ⟨b,rows,clk,rfl,dY,hb⟩
    refine bP ?_ ?_<;>intro h
    ·have VJ:=hb h
     subst VJ
     have rH:=MD _ _ hgx.symm
     refine fC ?_
     rw [rH]
     exact⟨_,aD _ [2,3],rows,clk,rfl,dY,by rw [rH]at *;exact hg⟩
    ·refine W.skip ?_
     subst hgx
     refine W.cG (fun K hK=>?_);simp (disch:=omega) [gw]
     refine hK _ ⟨p.length-(i+1),_,aD _ [2,3,10,11,12],by omega,i+1,_,_,rfl,by simp [dY],by omega,by omega,hg⟩
  ·have hi:i=p.length:=by simp at h;omega
   rw [List.take_of_length_le (by simp;omega)]at FW ⊢
   refine fC ?_
   exact⟨_,aD _ [2,3],rows,clk,rfl,dY,FW⟩
 rintro _ ⟨rows,clk,rfl,dY,FW⟩
 have hlg:=yX FW
 have H0:=kT (aY LL (bH (p.map gv))) (by omega) (eT fR _)
 rw [show(4294967296:Int)=((LL:Nat):Int)from rfl,jH fR]at H0
 have aoH:=eV (bH (p.map gv):Int) (by omega) false
 refine jM ?_
 refine cX H0 ?_
 refine aC aoH ?_
 simp (disch:=omega) [gw,dY]
 refine bM [2] ?_
 exact cR
theorem oZ:∀ {l:List Int},l.length≤(aM l).length→aM l=l
 | [],_=>rfl
 | x::l,h=>by
  rw [aM]at h ⊢
  split
  ·rename_i h1
   rw [if_pos h1]at h;simp at h
  ·rename_i h1
   rw [if_neg h1]at h
   rw [oZ (by simpa using h)]
theorem H2{b:Int}(hb:1≤b){l:List Int}(hl:b9 b l)(h:l ≠ []→b^(l.length-1)≤V b l):aM l=l:=by
 apply oZ
 rcases Nat.lt_or_ge (aM l).length l.length with h1 | h1
 ·exfalso
  have h2:=h (by intro h0;subst h0;simp at h1)
  have h3:=nC (by omega) (dM hl)
  rw [cE]at h3
  obtain⟨m,hm⟩:∃m,l.length-1=(aM l).length+m:=⟨l.length-1-(aM l).length,by omega⟩
  rw [hm,Int.pow_add]at h2
  have h4:1≤b^m:=Int.pow_pos (by omega)
  have h5:=Int.mul_le_mul_of_nonneg_left h4 (show 0≤b^(aM l).length from Int.le_of_lt (Int.pow_pos (by omega)))
  omega
 ·exact h1
@[simp] theorem acE{l:List Int}{x:Int}:emap u32 l ++ [[.int .u32 x]]=emap u32 (l ++ [x]):=by simp [emap]
theorem CE(x:Int):aL env.P 125 [RI x] (.bool (decide (x=0))):=by
 refine cH [(0,RI x)] Tryz.func125 ?_
 refine aA [1] ?_
 refine aA [2] ?_
 refine W.ret ?_
 simp [go]
 have e:((aY DD x.natAbs).length=0)↔x=0:=by rw [List.length_eq_zero_iff,dR J2];omega
 rw [Bool.eq_iff_iff,decide_eq_true_iff,beq_iff_eq,←e]
 omega
theorem O1{x:Int}:(aY DD x.natAbs).length=0↔x=0:=by rw [List.length_eq_zero_iff,dR J2];omega
theorem CF(x:Int):aL env.P 129 [RI x] (.int .i64 x.sign):=by
 refine cH [(0,RI x)] Tryz.func129 ?_
 refine cL [1] ?_
 refine W.block ?_
 refine aA [1,3] ?_
 refine bP ?_ ?_<;>intro h
 ·have h0:x=0:=by rw [←O1];simp at h;simp [h]
  subst h0
  refine aA [2] ?_
  exact cR
 ·have h0:x≠0:=by rw [Ne,←O1];simp at h;simpa using h
  refine aA [8] ?_
  refine bP ?_ ?_<;>intro h
  ·simp at h
   refine aA [2] ?_
   refine W.ret ?_
   simp [go,Int.sign_eq_neg_one_of_neg h]
  ·simp at h
   refine W.skip ?_
   refine aA [2] ?_
   refine W.ret ?_
   simp [go,Int.sign_eq_one_of_pos (show 0<x by omega)]
theorem mN(x:Int):aL env.P 17 [RI x] (RI (-x)):=by
 refine cH [(0,RI x)] Tryz.func17 ?_
 refine aA [1,2] ?_
 refine jM ?_
 refine aC (mM x.natAbs (by omega) (!decide (x<0))) ?_
 simp (disch:=omega) [gw]
 refine bM [2] ?_
 refine W.ret ?_
 have e:(if 0≤x then -(x.natAbs:Int)else x.natAbs) = -x:=by split<;>omega
 simp only [e]
 simp [go]
theorem SJ(a:List Int)(d:Int)(ha:a.length<1099511627776)(la:b9 10000 a)(hd0:0<d)(hd1:d≤65536):aL env.P 136 [aQ aG a, .int .i64 d] (.dX [Dn (V 10000 a/d), .int .i64 (V 10000 a%d)]):=by
 refine cH [(0,aQ aG a),(1, .int .i64 d)] Tryz.func136 ?_
 refine aA [0,1] ?_
 refine aA [0,1,6] ?_
 refine aA [0,1,6,7] ?_
 refine aR [0,1,6,7,8] ?_
 refine W.block ?_
 refine W.bC (fun k σ=>∃(r:Int) (z:List Int) (ver:Nat) (rows:Pm.Rows) (clk:Nat),σ=⟨fa [(0,aQ aG a),(1, .int .i64 d),(6, .own 12 ver 0 a.length),(7, .int .i64 r),(8, .int .i64 ((k:Int)-1))],rows,clk⟩ ∧
  rows 12=some ⟨ver,3,1,emap aG z⟩∧k≤a.length∧z.length=a.length∧b9 10000 z∧0≤r∧r<d∧V 10000 (a.drop k)=d*V 10000 (z.drop k)+r) a.length ?_ ?_
 ·exact⟨_, .refl,0,List.replicate a.length 0,_,_,_,rfl,by simp,by omega,by simp,b9.rep (by decide) _,by omega,hd0,by simp [V]⟩
 rintro k _ ⟨r,z,ver,rows,clk,rfl,hr,hk,hz,lz,BO,LY,hV⟩
 refine aR [0,1,6,7,8,17] ?_
 refine bP ?_ ?_<;>intro h
 ·simp at h
  obtain⟨j,rfl⟩:∃j,k=j+1:=⟨k-1,by omega⟩
  clear h
  have hx:=la.nth (i:=j) (by omega)
  have R8:0≤r*10000+nth a j:=by omega
  have tX:r*10000+nth a j<d*10000:=by omega
  have hq0:0≤(r*10000+nth a j)/d:=Int.ediv_nonneg R8 (by omega)
  have hq1:(r*10000+nth a j)/d<10000:=Int.ediv_lt_of_lt_mul hd0 (by omega)
  have JY:=Int.emod_nonneg (r*10000+nth a j) (show d≠0 by omega)
  have J0:=Int.emod_lt_of_pos (r*10000+nth a j) hd0
  have hdz:d≠0:=by omega
  refine kK ?_
  refine aA [0,1,6,8,9] ?_
  refine W.sr ?_
  simp (disch:=omega) [gw,hr,hdz]
  refine bM [0,1,6,8,9] ?_
  refine W.cG (fun K hK=>?_);simp (disch:=omega) [gw,hdz]
  refine W.lw [0,1,6,7,8] hK ?_;clear hK K;simp
  refine W.cG (fun K hK=>?_);simp (disch:=omega) [gw]
  refine hK _ ⟨j,_,aD _ [0,1,6,7,8],by omega,_,z.set j ((r*10000+nth a j)/d),ver,_,_,rfl,by simp,by omega,by simpa using hz,lz.set ⟨hq0,hq1⟩,JY,J0,?_⟩
  rw [eB (l:=a) (i:=j) (by omega),eB (l:=z.set j _) (i:=j) (by simp;omega),dV (by omega),List.drop_set_of_lt (by omega)]
  simp only [V]
  rw [hV]
  have:=Int.emod_add_mul_ediv (r*10000+nth a j) d
  grind
 ·simp at h
  have sL:k=0:=by omega
  subst sL
  simp only [List.drop_zero]at hV
  have ez:z.take a.length=z:=bG hz
  have hzn:=bF (by decide) lz
  have e1:V 10000 a/d=V 10000 z:=by
   rw [hV,Int.mul_add_ediv_left _ _ (by omega),Int.ediv_eq_zero_of_lt BO LY];simp
  have e2:V 10000 a%d=r:=by
   rw [hV,Int.mul_add_emod_self_left,Int.emod_eq_of_lt BO LY]
  refine fC ?_
  refine W.sr ?_
  simp (disch:=omega) [gw,hr,ez]
  refine aC (mL z (by omega)) ?_
  simp (disch:=omega) [gw]
  refine bM [4,5] ?_
  refine W.ret ?_
  rw [e1,e2,←rN lz]
  simp [go]
theorem yY(y d:Int)(hy:0≤y)(hz:Z y)(hd0:0<d)(hd1:d≤65536):aL env.P 136 [Dn y, .int .i64 d] (.dX [Dn (y/d), .int .i64 (y%d)]):=by
 have:=SJ (aY DD y.toNat) d (by have:=i9 hy;omega) (j9 _) hd0 hd1
 rwa [s9 hy]at this
theorem acF(n:Nat)(hz:Z (n:Int)):aL env.P 67 [aQ aG (aY DD n)] (us (aY LL n)):=by
 have hln:(aY LL n).length≤sz 2 (n:Int):=OZ fR n
 refine cH [(0,aQ aG (aY DD n))] Tryz.func67 ?_
 refine aA [0] ?_
 refine aA [0,3] ?_
 refine W.nil 3 3 185 1 (by simp) (by decide) (fun K hK=>?_)
 refine W.lw [0,3] hK ?_;clear hK K;simp
 refine W.seq ?_
 refine W.block ?_
 refine W.bC (fun k σ=>∃(i:Nat) (z:List Int) (ver:Nat) (rows:Pm.Rows) (clk:Nat),σ=⟨fa [(0,aQ aG (aY DD k)),(3, .own 3 ver 0 i)],rows,clk⟩∧rows 3=some ⟨ver,185,1,emap u32 z⟩∧z.length=i∧k≤n∧aY LL n=z++aY LL k) n ?_ ?_
 ·exact⟨_, .refl,0,[],_,_,_,rfl,by simp [emap],rfl,by omega,by simp⟩
 rintro k _ ⟨i,z,ver,rows,clk,rfl,hr,DH,hk,hd⟩
 have hzk:Z (k:Int):=Nat.lt_of_le_of_lt (cS (by decide) (y:=(n:Int)) (by omega)) hz
 have sC:i≤(aY LL n).length:=by rw [hd];simp [DH]
 have e0:(aY DD k).length=0↔k=0:=by rw [List.length_eq_zero_iff,dR J2]
 refine aR [0,3,9] ?_
 refine bP ?_ ?_<;>intro h
 ·have sL:k≠0:=by rw [Ne,←e0];simp at h;omega
  have rL:Z ((k:Int)/65536):=Nat.lt_of_le_of_lt (cS (by decide) (y:=(k:Int)) (by omega)) hzk
  refine W.skip ?_
  refine W.block ?_
  refine jM ?_
  refine aC (yY (k:Int) 65536 (by omega) hzk (by decide) (by decide)) ?_
  simp (disch:=omega) [gw]
  refine bM [3,4,5] ?_
  refine jM ?_
  refine aC (yY ((k:Int)/65536) 65536 (by omega) rL (by decide) (by decide)) ?_
  simp (disch:=omega) [gw]
  refine bM [3,4,5,6] ?_
  refine W.sr ?_
  simp (disch:=omega) [gw,hr,DH,wrap_u32']
  have e1:(k:Int)/65536%65536*65536+k%65536=((k%LL:Nat):Int):=by simp;omega
  have e3:k/LL<k:=Nat.div_lt_self (by omega) (by decide)
  obtain⟨dg,e2⟩:∃dg:Int,dg=((k%LL:Nat):Int):=⟨_,rfl⟩
  rw [←e2]at e1
  simp only [e1,acE]
  refine bM [3,4] ?_
  refine W.cG (fun K hK=>?_);simp (disch:=omega) [gw]
  refine hK _ ⟨k/LL,_,Gh.fr [(0,aQ aG (aY DD (k/LL))),(3, .own 3 _ 0 (i+1))] ?_,e3,i+1,z ++ [dg],_,_,_,rfl,by simp;rfl,by simp [DH],by omega,?_⟩
  ·have e2:((k:Int)/65536/65536).toNat=k/LL:=by show _=k/4294967296;omega
   simp only [Dn,e2]
   simp
  ·rw [hd,oQ fR sL,e2];simp
 ·have sL:k=0:=by rw [←e0];simp at h;simp [h]
  subst sL
  refine fC ?_
  refine aA [2] ?_
  refine W.ret ?_
  simp [j0]at hd
  have ez:z.take i=z:=bG DH
  simp [go,hr,ez,hd]
theorem tA(x:Int)(hz:Z x):aL env.P 16 [RI x] (I x):=by
 refine cH [(0,RI x)] Tryz.func16 ?_
 refine aA [1,2] ?_
 refine sB ?_
 refine aC (acF x.natAbs (by simpa [Z,sz]using hz)) ?_
 simp (disch:=omega) [gw]
 refine bM [2] ?_
 exact cR
theorem SK(x y:List Int)(hx:x.length<1099511627776)(hy:y.length<1099511627776)(lx:b9 10000 x)(ly:b9 10000 y)(cx:aM x=x)(cy:aM y=y):aL env.P 228 [aQ aG x,aQ aG y] (.int .i64 (dJ (V 10000 x) (V 10000 y))):=by
 refine cH [(0,aQ aG x),(1,aQ aG y)] Tryz.func228 ?_
 refine aA [0,1] ?_
 refine aR [0,1,10] ?_
 refine bP ?_ ?_<;>intro h
 ·simp at h
  refine aR [15] ?_
  refine bP ?_ ?_<;>intro h
  ·simp at h
   refine aA [4] ?_
   refine W.ret ?_
   simp [lF (iQ (by decide) lx ly cy h)]
  ·simp at h
   refine W.skip ?_
   refine aA [4] ?_
   refine W.ret ?_
   simp [lG (iQ (by decide) ly lx cx (by omega))]
 ·simp at h
  have hlen:x.length=y.length:=by omega
  clear h
  refine W.skip ?_
  refine aR [0,1,5] ?_
  refine W.block ?_
  refine W.bC (fun k σ=>∃(rows:Pm.Rows) (clk:Nat),σ=⟨fa [(0,aQ aG x),(1,aQ aG y),(5, .int .i64 ((k:Int)-1))],rows,clk⟩∧k≤x.length∧x.drop k=y.drop k) x.length ?_ ?_
  ·exact⟨_, .refl,_,_,rfl,by omega,by rw [List.drop_of_length_le (by omega),List.drop_of_length_le (by omega)]⟩
  rintro k _ ⟨rows,clk,rfl,hk,hd⟩
  refine aR [0,1,5,20] ?_
  refine bP ?_ ?_<;>intro h
  ·have h0:0<k:=by simp at h;omega
   obtain⟨j,rfl⟩:∃j,k=j+1:=⟨k-1,by omega⟩
   clear h
   refine kK ?_
   refine sB ?_
   refine bM [0,1,5,31] ?_
   refine bP ?_ ?_<;>intro h
   ·simp at h
    refine W.seq ?_
    refine sB ?_
    refine bM [40] ?_
    refine W.cond ⟨_,rfl,fun h2=>?_,fun h2=>?_⟩
    ·simp at h2
     refine aA [4] ?_
     refine W.ret ?_
     simp [lF (lE (by decide) lx ly hlen (by omega) hd h2)]
    ·simp at h2
     refine W.skip ?_
     refine aA [4] ?_
     refine W.ret ?_
     simp [lG (lE (by decide) ly lx hlen.symm (by omega) hd.symm (by omega))]
   ·simp at h
    refine W.skip ?_
    refine W.cG (fun K hK=>?_);simp (disch:=omega) [gw]
    refine hK _ ⟨j,_,aD _ [0,1,5],by omega,_,_,rfl,by omega,?_⟩
    rw [eB (l:=x) (i:=j) (by omega),eB (l:=y) (i:=j) (by omega),hd,h]
  ·have h0:k=0:=by simp at h;omega
   subst h0
   simp at hd
   subst hd
   refine fC ?_
   refine aA [4] ?_
   refine W.ret ?_
   simp [wU]
theorem H3(x y:Int)(hx:0≤x)(hy:0≤y)(zx:Z x)(zy:Z y):aL env.P 228 [Dn x,Dn y] (.int .i64 (dJ x y)):=by
 have:=SK (aY DD x.toNat) (aY DD y.toNat) (by have:=i9 hx;omega) (by have:=i9 hy;omega) (j9 _) (j9 _) (lC J2 _) (lC J2 _)
 rwa [s9 hx,s9 hy]at this
theorem SL(a b:List Int)(ha:a.length<1099511627776)(hb:b.length<1099511627776)(la:b9 10000 a)(lb:b9 10000 b)(ca:aM a=a)(cb:aM b=b):aL env.P 227 [aQ aG a,aQ aG b] (Dn (V 10000 a+V 10000 b)):=by
 refine cH [(0,aQ aG a),(1,aQ aG b)] Tryz.func227 ?_
 refine aA [0,1] ?_
 refine aA [0,1,5] ?_
 refine W.nil 5 5 3 1 (by simp) (by decide) (fun K hK=>?_)
 refine W.lw [0,1,5] hK ?_;clear hK K;simp
 refine aA [0,1,5,6] ?_
 refine aR [0,1,5,6,7] ?_
 refine W.block ?_
 obtain⟨M,hM⟩:∃M,M=max a.length b.length:=⟨_,rfl⟩
 refine W.bC (fun k σ=>∃(i:Nat) (c:Int) (z:List Int) (ver:Nat) (rows:Pm.Rows) (clk:Nat),σ=⟨fa [(0,aQ aG a),(1,aQ aG b),(5, .own 5 ver 0 i),(6, .int .i64 c),(7, .int .i64 i)],rows,clk⟩ ∧
  rows 5=some ⟨ver,3,1,emap aG z⟩∧k=2*(M-i)+c.toNat∧z.length=i∧(i≤M∨(i=M+1∧c=0∧10000^M≤V 10000 a+V 10000 b))∧b9 10000 z∧0≤c∧c≤1 ∧
  V 10000 z+10000^i*c=V 10000 (a.take i)+V 10000 (b.take i)) (2*M) ?_ ?_
 ·exact⟨_, .refl,0,0,[],_,_,_,rfl,by simp [emap],by simp,rfl,by omega,b9.nil,by omega,by omega,by simp [V]⟩
 rintro k _ ⟨i,c,z,ver,rows,clk,rfl,hr,hk,hz,hi,lz,uI,wG,hV⟩
 refine W.seq ?_
 refine W.fX (fun σ=>∃(t:Bool),σ=⟨fa [(0,aQ aG a),(1,aQ aG b),(5, .own 5 ver 0 i),(6, .int .i64 c),(7, .int .i64 i),(21, .bool t)],rows,clk⟩∧(t=true↔i<M∨0<c)) (fun K hK=>?_) ?_
 ·simp
  by_cases h1:i<a.length
  ·simp (disch:=omega) [gw,h1]
   exact hK _ _ (aD _ [0,1,5,6,7,21]) ⟨_,rfl,by simp;omega⟩
  ·by_cases h2:i<b.length
   ·simp (disch:=omega) [gw,h1,h2]
    exact hK _ _ (aD _ [0,1,5,6,7,21]) ⟨_,rfl,by simp;omega⟩
   ·simp (disch:=omega) [gw,h1,h2]
    exact hK _ _ (aD _ [0,1,5,6,7,21]) ⟨_,rfl,by simp;omega⟩
 rintro _ ⟨t,rfl,ht⟩
 refine bP ?_ ?_<;>intro h
 ·have ht:=ht.1 h
  refine kK ?_
  refine W.iF (fun σ=>∃(s:Int),σ=⟨fa [(0,aQ aG a),(1,aQ aG b),(5, .own 5 ver 0 i),(6, .int .i64 s),(7, .int .i64 i)],rows,clk⟩∧0≤s∧s≤c+9999∧(a.length≤i→s=c) ∧
   V 10000 z+10000^i*s=V 10000 (a.take (i+1))+V 10000 (b.take i)) ?_ ?_
  ·
   refine aA [0,1,5,6,7,27] ?_
   refine bP ?_ ?_<;>intro h
   ·simp at h
    have hx:=la.nth h
    refine W.cG (fun K hK=>?_);simp (disch:=omega) [gw]
    refine hK _ ⟨_,aD _ [0,1,5,6,7],_,rfl,by omega,by omega,by omega,?_⟩
    rw [aS h];grind
   ·simp at h
    refine W.skip ?_
    refine⟨_,aD _ [0,1,5,6,7],_,rfl,by omega,by omega,fun _=>rfl,?_⟩
    rw [aV (l:=a) (by omega)]
    rwa [aV (l:=a) (by omega)]at hV
  rintro _ ⟨s,rfl,R8,tX,hsc,hsV⟩
  refine W.iF (fun σ=>∃(u:Int),σ=⟨fa [(0,aQ aG a),(1,aQ aG b),(5, .own 5 ver 0 i),(6, .int .i64 u),(7, .int .i64 i)],rows,clk⟩∧0≤u∧u≤s+9999∧(b.length≤i→u=s) ∧
   V 10000 z+10000^i*u=V 10000 (a.take (i+1))+V 10000 (b.take (i+1))) ?_ ?_
  ·
   refine aA [0,1,5,6,7,37] ?_
   refine bP ?_ ?_<;>intro h
   ·simp at h
    have hx:=lb.nth h
    refine W.cG (fun K hK=>?_);simp (disch:=omega) [gw]
    refine hK _ ⟨_,aD _ [0,1,5,6,7],_,rfl,by omega,by omega,by omega,?_⟩
    rw [aS h];grind
   ·simp at h
    refine W.skip ?_
    refine⟨_,aD _ [0,1,5,6,7],_,rfl,by omega,by omega,fun _=>rfl,?_⟩
    rw [aV (l:=b) (by omega)]
    rwa [aV (l:=b) (by omega)]at hsV
  rintro _ ⟨u,rfl,hu0,hu1,huc,huV⟩
  refine W.sr ?_
  simp (disch:=omega) [gw,hr,hz]
  refine bM [0,1,5,6,7] ?_
  refine W.cG (fun K hK=>?_);simp (disch:=omega) [gw];refine W.lw [0,1,5,6,7] hK ?_;clear hK K;simp
  refine W.cG (fun K hK=>?_);simp (disch:=omega) [gw]
  refine hK _ ⟨2*(M-(i+1))+(u/10000).toNat,_,aD _ [0,1,5,6,7],?_,i+1,u/10000,z ++ [u%10000],_,_,_,rfl,by simp,rfl,by simp [hz],?_,b9.append.2 ⟨lz,b9.cons.2 ⟨by omega,b9.nil⟩⟩,by omega,by omega,?_⟩
  ·rcases Nat.lt_or_ge i M with h1 | h1
   ·omega
   ·have:=hsc (by omega);have:=huc (by omega);omega
  ·rcases Nat.lt_or_ge i M with h1 | h1
   ·omega
   ·right
    have hc:c=1:=by omega
    have hzn:=bF (by decide) lz
    rw [aV (l:=a) (by omega),aV (l:=b) (by omega),hc]at hV
    have hiM:i=M:=by omega
    rw [←hiM]
    refine⟨rfl,by have:=hsc (by omega);have:=huc (by omega);omega,?_⟩
    rw [←hV]
    omega
  ·rw [dK,lB,hz,←huV,Int.pow_succ]
   have:=Int.emod_add_mul_ediv u 10000
   grind
 ·have ht:¬(i<M∨0<c):=fun h2=>by simp [ht.2 h2]at h
  have hc:c=0:=by omega
  subst hc
  refine fC ?_
  refine aA [4] ?_
  refine W.ret ?_
  rw [aV (l:=a) (by omega),aV (l:=b) (by omega)]at hV
  have e:V 10000 a+V 10000 b=V 10000 z:=by rw [←hV];simp
  have cz:aM z=z:=by
   refine H2 (by decide) lz fun h0=>?_
   rw [hz,←e]
   rcases hi with h1 | ⟨h1,_,h2⟩
   ·have hna:=bF (by decide) la
    have hnb:=bF (by decide) lb
    have sC:0<i:=by rw [←hz];exact List.length_pos_iff.2 h0
    rcases Nat.le_total b.length a.length with h3 | h3
    ·have:=kQ (b:=10000) (by decide) la ca (by intro h5;rw [h5]at h3 hM;simp at h3;simp [h3]at hM;omega)
     rw [show i-1=a.length-1 by omega];omega
    ·have:=kQ (b:=10000) (by decide) lb cb (by intro h5;rw [h5]at h3 hM;simp at h3;simp [h3]at hM;omega)
     rw [show i-1=b.length-1 by omega];omega
   ·rw [h1];exact h2
  have ez:z.take i=z:=bG hz
  rw [e,←rN lz,cz]
  simp [go,hr,ez]
theorem X8(x y:Int)(hx:0≤x)(hy:0≤y)(zx:Z x)(zy:Z y):aL env.P 227 [Dn x,Dn y] (Dn (x+y)):=by
 have:=SL (aY DD x.toNat) (aY DD y.toNat) (by have:=i9 hx;omega) (by have:=i9 hy;omega) (j9 _) (j9 _) (lC J2 _) (lC J2 _)
 rwa [s9 hx,s9 hy]at this
theorem SM(a b:List Int)(ha:a.length<1099511627776)(hb:b.length≤a.length)(la:b9 10000 a)(lb:b9 10000 b)(hle:V 10000 b≤V 10000 a):aL env.P 229 [aQ aG a,aQ aG b] (Dn (V 10000 a-V 10000 b)):=by
 refine cH [(0,aQ aG a),(1,aQ aG b)] Tryz.func229 ?_
 refine aA [0,1] ?_
 refine aA [0,1,5] ?_
 refine aA [0,1,5,6] ?_
 refine aR [0,1,5,6,13,14] ?_
 refine W.block ?_
 refine W.bC (fun k σ=>∃(i:Nat) (c:Int) (z:List Int) (ver:Nat) (rows:Pm.Rows) (clk:Nat),σ=⟨fa [(0,aQ aG a),(1,aQ aG b),(5, .own 11 ver 0 a.length),(6, .int .i64 c),(13, .int .i64 a.length),(14, .int .i64 i)],rows,clk⟩ ∧
  rows 11=some ⟨ver,3,1,emap aG z⟩∧k=a.length-i∧i≤a.length∧z.length=a.length∧b9 10000 z∧0≤c∧c≤1 ∧
  V 10000 (z.take i)-10000^i*c=V 10000 (a.take i)-V 10000 (b.take i)) a.length ?_ ?_
 ·exact⟨_, .refl,0,0,List.replicate a.length 0,_,_,_,rfl,by simp,by omega,by omega,by simp,b9.rep (by decide) _,by omega,by omega,by simp [V]⟩
 rintro k _ ⟨i,c,z,ver,rows,clk,rfl,hr,hk,hi,hz,lz,uI,wG,hV⟩
 refine cL [0,1,5,6,13,14,15] ?_
 refine bP ?_ ?_<;>intro h
 ·simp at h
  have hx:=la.nth h
  refine kK ?_
  refine aA [0,1,5,6,7,13,14] ?_
  refine aA [0,1,5,7,8,13,14] ?_
  refine W.iF (fun σ=>∃(s:Int),σ=⟨fa [(0,aQ aG a),(1,aQ aG b),(5, .own 11 ver 0 a.length),(7, .int .i64 i),(8, .int .i64 s),(13, .int .i64 a.length),(14, .int .i64 i)],rows,clk⟩ ∧ -10000≤s∧s≤9999 ∧
   V 10000 (z.take i)+10000^i*s=V 10000 (a.take (i+1))-V 10000 (b.take (i+1))) ?_ ?_
  ·
   refine aA [0,1,5,7,8,13,14,26] ?_
   refine bP ?_ ?_<;>intro h
   ·simp at h
    have hy:=lb.nth h
    refine W.cG (fun K hK=>?_);simp (disch:=omega) [gw]
    refine hK _ ⟨_,aD _ [0,1,5,7,8,13,14],_,rfl,by omega,by omega,?_⟩
    rw [aS (l:=a) (by omega),aS h];grind
   ·simp at h
    refine W.skip ?_
    refine⟨_,aD _ [0,1,5,7,8,13,14],_,rfl,by omega,by omega,?_⟩
    rw [aS (l:=a) (by omega),aV (l:=b) (by omega)]
    rw [aV (l:=b) (by omega)]at hV
    grind
  rintro _ ⟨s,rfl,R8,tX,hsV⟩
  refine aA [0,1,5,6,7,8,13,14] ?_
  refine W.iF (fun σ=>∃(u c:Int),σ=⟨fa [(0,aQ aG a),(1,aQ aG b),(5, .own 11 ver 0 a.length),(6, .int .i64 c),(7, .int .i64 i),(8, .int .i64 u),(13, .int .i64 a.length),(14, .int .i64 i)],rows,clk⟩∧0≤u∧u≤9999∧0≤c∧c≤1∧s=u-10000*c) ?_ ?_
  ·
   refine aA [0,1,5,6,7,8,13,14,34] ?_
   refine bP ?_ ?_<;>intro h
   ·simp at h
    refine aA [0,1,5,7,8,13,14] ?_
    refine W.cG (fun K hK=>?_);simp (disch:=omega) [gw]
    exact hK _ ⟨_,aD _ [0,1,5,6,7,8,13,14],_,1,rfl,by omega,by omega,by omega,by omega,by omega⟩
   ·simp at h
    refine W.skip ?_
    exact⟨_,aD _ [0,1,5,6,7,8,13,14],_,0,rfl,by omega,by omega,by omega,by omega,by omega⟩
  rintro _ ⟨u,c',rfl,hu0,hu1,atC,atD,hu⟩
  refine W.cG (fun K hK=>?_);simp (disch:=omega) [gw,hr]
  refine W.lw [0,1,5,6,13,14] hK ?_;clear hK K;simp
  refine W.cG (fun K hK=>?_);simp (disch:=omega) [gw]
  refine hK _ ⟨a.length-(i+1),_,aD _ [0,1,5,6,13,14],by omega,i+1,c',z.set i u,ver,_,_,rfl,by simp,by omega,by omega,by simpa using hz,lz.set (by omega),atC,atD,?_⟩
  rw [eC (by omega),←hsV,hu,Int.pow_succ]
  grind
 ·simp at h
  have kD:i=a.length:=by omega
  subst kD
  have ez:z.take a.length=z:=bG hz
  refine fC ?_
  refine W.sr ?_
  simp (disch:=omega) [gw,hr,ez]
  refine aC (mL z (by omega)) ?_
  simp (disch:=omega) [gw]
  refine bM [4] ?_
  refine W.ret ?_
  rw [ez,aV (l:=a) (by omega),aV (l:=b) (by omega)]at hV
  have h1:=nC (by decide) lz
  rw [hz]at h1
  have hc:c=0:=by
   rcases(show c=0∨c=1 by omega)with h2 | h2
   ·exact h2
   ·subst h2;omega
  subst hc
  have e:V 10000 a-V 10000 b=V 10000 z:=by rw [←hV];simp
  rw [e,←rN lz]
  simp [go]
theorem yZ(x y:Int)(hy:0≤y)(hle:y≤x)(zx:Z x):aL env.P 229 [Dn x,Dn y] (Dn (x-y)):=by
 have hlen:(aY DD y.toNat).length≤(aY DD x.toNat).length:=by
  have h1:=cS (b:=DD) J2 (x:=y) (y:=x) (by omega)
  simp only [sz]at h1
  rwa [show y.natAbs=y.toNat by omega,show x.natAbs=x.toNat by omega]at h1
 have:=SM (aY DD x.toNat) (aY DD y.toNat) (by have:=i9 (show 0≤x by omega);omega) hlen (j9 _) (j9 _) (by rw [s9 hy,s9 (by omega)];exact hle)
 rwa [s9 hy,s9 (by omega)]at this
theorem aiu{a b:Int}(ha:0≤a∧a<10000)(hb:0≤b∧b<10000):0≤a*b∧a*b≤99980001:=by
 refine⟨Int.mul_nonneg ha.1 hb.1,?_⟩
 have:=Int.mul_le_mul (show a≤9999 by omega) (show b≤9999 by omega) hb.1 (by decide)
 simpa using this
theorem SN(x y:List Int)(hx:x.length<1099511627776)(hy:y.length<1099511627776)(lx:b9 10000 x)(ly:b9 10000 y):aL env.P 131 [aQ aG x,aQ aG y] (Dn (V 10000 x*V 10000 y)):=by
 refine cH [(0,aQ aG x),(1,aQ aG y)] Tryz.func131 ?_
 refine aA [0,1] ?_
 have e:((x.length:Int)+(y.length:Int)).toNat=x.length+y.length:=by omega
 refine W.sr ?_
 simp (disch:=omega) [gw,e]
 refine bM [0,1,5] ?_
 refine aR [0,1,5,17,18] ?_
 refine W.block ?_
 refine W.bC (fun k σ=>∃(i:Nat) (z:List Int) (ver:Nat) (rows:Pm.Rows) (clk:Nat),σ=⟨fa [(0,aQ aG x),(1,aQ aG y),(5, .own 15 ver 0 (x.length+y.length)),(17, .int .i64 x.length),(18, .int .i64 i)],rows,clk⟩ ∧
   rows 15=some ⟨ver,3,1,emap aG z⟩∧k=x.length-i∧i≤x.length∧z.length=x.length+y.length∧b9 10000 z∧(∀j,i+y.length≤j→nth z j=0) ∧
   V 10000 z=V 10000 (x.take i)*V 10000 y) x.length ?_ ?_
 ·refine⟨_, .refl,0,List.replicate (x.length+y.length) 0,_,_,_,rfl,by simp [e],by omega,by omega,by simp,b9.rep (by decide) _,fun j _=>?_,by simp [V,nW]⟩
  unfold nth
  cases h:(List.replicate (x.length+y.length) (0:Int))[j]? with
  | none=>rfl
  | some v=>have:=List.mem_of_getElem? h;simp at this;simp [this]
 rintro k _ ⟨i,z,ver,rows,clk,rfl,hr,hk,hi,hz,lz,rB,hV⟩
 refine cL [0,1,5,17,18,19] ?_
 refine bP ?_ ?_<;>intro h
 ·simp at h
  have hxi:=lx.nth h
  refine kK ?_
  refine aA [0,1,5,6,17,18] ?_
  refine aA [0,1,5,6,7,17,18] ?_
  refine aA [0,1,5,6,7,8,17,18] ?_
  refine W.block ?_
  refine W.bC (fun m σ=>∃(k:Nat) (c:Int) (z:List Int) (ver:Nat) (rows:Pm.Rows) (clk:Nat),σ=⟨fa [(0,aQ aG x),(1,aQ aG y),(5, .own 15 ver 0 (x.length+y.length)),(6, .int .i64 i),(7, .int .i64 c),(8, .int .i64 k),(17, .int .i64 x.length),(18, .int .i64 i)],rows,clk⟩ ∧
   rows 15=some ⟨ver,3,1,emap aG z⟩∧m=y.length+1-k∧(k≤y.length∧(∀j,i+y.length≤j→nth z j=0)∨k=y.length+1∧c=0)∧z.length=x.length+y.length∧b9 10000 z∧(∀j,i+1+y.length≤j→nth z j=0)∧0≤c∧c≤9999 ∧
   V 10000 z+10000^(i+k)*c=V 10000 (x.take i)*V 10000 y+10000^i*nth x i*V 10000 (y.take k)) (y.length+1) ?_ ?_
  ·exact⟨_, .refl,0,0,z,ver,_,_,rfl,by simpa using hr,by omega, .inl ⟨by omega,rB⟩,hz,lz,fun j hj=>rB j (by omega),by omega,by omega,by simp [V,hV]⟩
  clear hV rB lz hz hr z ver rows clk
  rintro m _ ⟨k,c,z,ver,rows,clk,rfl,hr,hm,hky,hz,lz,rB,uI,wG,hV⟩
  refine W.seq ?_
  refine W.fX (fun σ=>∃(t:Bool),σ=⟨fa [(0,aQ aG x),(1,aQ aG y),(5, .own 15 ver 0 (x.length+y.length)),(6, .int .i64 i),(7, .int .i64 c),(8, .int .i64 k),(17, .int .i64 x.length),(18, .int .i64 i),(28, .bool t)],rows,clk⟩∧(t=true↔k<y.length∨0<c)) (fun K hK=>?_) ?_
  ·simp
   by_cases h2:k<y.length
   ·simp (disch:=omega) [gw,h2]
    exact hK _ _ (aD _ [0,1,5,6,7,8,17,18,28]) ⟨_,rfl,by simp [h2]⟩
   ·simp (disch:=omega) [gw,h2]
    exact hK _ _ (aD _ [0,1,5,6,7,8,17,18,28]) ⟨_,rfl,by simp [h2]⟩
  rintro _ ⟨t,rfl,ht⟩
  refine W.cond ⟨_,rfl,fun h2=>?_,fun h2=>?_⟩
  ·have ht:=ht.1 h2
   obtain⟨sL,hk1⟩:k≤y.length∧(∀j,i+y.length≤j→nth z j=0):=by
    rcases hky with h3 | h3
    ·exact h3
    ·omega
   have hzk:=lz.nth (i:=i+k) (by omega)
   have e0:((i:Int)+(k:Int)).toNat=i+k:=by omega
   refine kK ?_
   refine W.sr ?_
   simp (disch:=omega) [gw,hr,e0]
   refine bM [0,1,5,6,8,9,17,18] ?_
   refine W.iF (fun σ=>∃(s:Int),σ=⟨fa [(0,aQ aG x),(1,aQ aG y),(5, .own 15 ver 0 (x.length+y.length)),(6, .int .i64 i),(8, .int .i64 k),(9, .int .i64 s),(17, .int .i64 x.length),(18, .int .i64 i)],rows,clk⟩∧0≤s∧s≤99999999∧(k=y.length→s=c) ∧
    V 10000 z-10000^(i+k)*nth z (i+k)+10000^(i+k)*s=V 10000 (x.take i)*V 10000 y+10000^i*nth x i*V 10000 (y.take (k+1))) ?_ ?_
   ·
    refine aA [0,1,5,6,8,9,17,18,42] ?_
    refine bP ?_ ?_<;>intro h
    ·simp at h
     have hyk:=ly.nth h
     have hp:=aiu hxi hyk
     refine W.LV (fun K hK=>?_);simp (disch:=omega) [gw]
     refine hK _ ⟨_,aD _ [0,1,5,6,8,9,17,18],_,rfl,by omega,by omega,by omega,?_⟩
     rw [aS h,Int.pow_add]
     rw [Int.pow_add]at hV
     grind
    ·simp at h
     have hkl:k=y.length:=by omega
     have h0:=hk1 (i+k) (by omega)
     refine W.skip ?_
     refine⟨_,aD _ [0,1,5,6,8,9,17,18],_,rfl,by omega,by omega,by omega,?_⟩
     rw [aV (l:=y) (by omega)]
     rw [aV (l:=y) (by omega)]at hV
     rw [h0]
     grind
   rintro _ ⟨s,rfl,R8,tX,hsc,hsV⟩
   refine W.sr ?_
   simp (disch:=omega) [gw,hr,e0]
   refine bM [0,1,5,6,8,9,17,18] ?_
   refine W.cG (fun K hK=>?_);simp (disch:=omega) [gw];refine W.lw [0,1,5,6,7,8,17,18] hK ?_;clear hK K;simp
   refine W.cG (fun K hK=>?_);simp (disch:=omega) [gw]
   have R9:=B5 (b:=10000) (l:=z) (i:=i+k) (x:=s%10000) (by omega)
   refine hK _ ⟨y.length+1-(k+1),_,aD _ [0,1,5,6,7,8,17,18],by omega,k+1,s/10000,z.set (i+k) (s%10000),ver,_,_,rfl,by simp,rfl,?_,by simpa using hz,lz.set (by omega),fun j hj=>?_,by omega,by omega,?_⟩
   ·rcases Nat.lt_or_ge k y.length with h3 | h3
    ·left
     refine⟨by omega,fun j hj=>?_⟩
     rw [fD (by omega)];exact hk1 j hj
    ·right
     have:=hsc (by omega)
     exact⟨by omega,by omega⟩
   ·rw [fD (by omega)];exact rB j hj
   ·rw [R9,←hsV,show i+(k+1)=(i+k)+1 by omega,Int.pow_succ]
    have:=Int.emod_add_mul_ediv s 10000
    grind
  ·have ht:¬(k<y.length∨0<c):=fun h3=>by simp [ht.2 h3]at h2
   have hc:c=0:=by omega
   subst hc
   refine fC ?_
   refine W.cG (fun K hK=>?_);simp (disch:=omega) [gw]
   refine hK _ ⟨x.length-(i+1),_,aD _ [0,1,5,17,18],by omega,i+1,z,ver,_,_,rfl,hr,by omega,by omega,hz,lz,rB,?_⟩
   rw [aS h]
   rw [aV (l:=y) (by omega)]at hV
   grind
 ·simp at h
  have kD:i=x.length:=by omega
  subst kD
  have rL:List.take (x.length+y.length) z=z:=List.take_of_length_le (by omega)
  refine fC ?_
  refine W.sr ?_
  simp (disch:=omega) [gw,hr,rL]
  refine aC (mL z (by omega)) ?_
  simp (disch:=omega) [gw]
  refine bM [4] ?_
  refine W.ret ?_
  rw [aV (Nat.le_refl _)]at hV
  rw [←hV,←rN lz]
  simp
theorem X9(x y:Int)(hx:0≤x)(hy:0≤y)(zx:Z x)(zy:Z y):aL env.P 131 [Dn x,Dn y] (Dn (x*y)):=by
 have:=SN (aY DD x.toNat) (aY DD y.toNat) (by have:=i9 hx;omega) (by have:=i9 hy;omega) (j9 _) (j9 _)
 rwa [s9 hx,s9 hy]at this
theorem H4{x:Int}(h:Z x):Z (x.natAbs:Int):=by simpa [Z,sz]using h
theorem kU(n:Nat)(neg:Bool):aL env.P 68 [aQ aG (aY DD n), .bool neg] (RI (if neg=true then -(n:Int)else n)):=mM n (by omega) neg
theorem SO(x y:Int):(if decide (x<0) != decide (y<0)then -((x.natAbs*y.natAbs:Nat):Int)else((x.natAbs*y.natAbs:Nat):Int))=x*y:=by
 rw [Int.natCast_mul]
 by_cases h1:x<0<;>by_cases h2:y<0
 ·simp only [h1,h2,show(x.natAbs:Int) = -x by omega,show(y.natAbs:Int) = -y by omega];simp<;>grind
 ·simp only [h1,h2,show(x.natAbs:Int) = -x by omega,show(y.natAbs:Int)=y by omega];simp<;>grind
 ·simp only [h1,h2,show(x.natAbs:Int)=x by omega,show(y.natAbs:Int) = -y by omega];simp<;>grind
 ·simp only [h1,h2,show(x.natAbs:Int)=x by omega,show(y.natAbs:Int)=y by omega];simp<;>grind
theorem dU(x y:Int)(zx:Z x)(zy:Z y):aL env.P 63 [RI x,RI y] (RI (x*y)):=by
 refine cH [(0,RI x),(1,RI y)] Tryz.func63 ?_
 refine aA [2,3,4] ?_
 refine sB ?_
 refine aC (X9 x.natAbs y.natAbs (by omega) (by omega) (H4 zx) (H4 zy)) ?_
 have e:((x.natAbs:Int)*y.natAbs).toNat=x.natAbs*y.natAbs:=by rw [←Int.natCast_mul];exact Int.toNat_natCast _
 simp only [Dn,e]
 obtain⟨m,hm⟩:∃m,m=x.natAbs*y.natAbs:=⟨_,rfl⟩
 rw [←hm]
 simp (disch:=omega) [gw]
 refine aC (kU m (decide (x<0) != decide (y<0))) ?_
 have e2:=SO x y
 rw [←hm]at e2
 rw [e2]
 simp (disch:=omega) [gw]
 refine bM [4] ?_
 exact cR
theorem y3(x y:Int)(zx:Z x)(zy:Z y):aL env.P 154 [RI x,RI y] (RI (x+y)):=by
 refine cH [(0,RI x),(1,RI y)] Tryz.func154 ?_
 refine aA [2,3,4] ?_
 refine aR [2,3,4,9] ?_
 refine bP ?_ ?_<;>intro h
 ·simp at h
  refine sB ?_
  refine aC (X8 x.natAbs y.natAbs (by omega) (by omega) (H4 zx) (H4 zy)) ?_
  have e:((x.natAbs:Int)+y.natAbs).toNat=x.natAbs+y.natAbs:=by omega
  simp only [Dn,e]
  obtain⟨m,hm⟩:∃m,m=x.natAbs+y.natAbs:=⟨_,rfl⟩
  rw [←hm]
  simp (disch:=omega) [gw]
  refine aC (kU m _) ?_
  have e2:(if decide (x<0)=true then -(m:Int)else m)=x+y:=by by_cases h1:x<0<;>simp [h1]<;>omega
  rw [e2]
  simp (disch:=omega) [gw]
  refine bM [4] ?_
  exact cR
 ·simp at h
  refine W.skip ?_
  refine W.seq ?_
  refine jM ?_
  refine aC (H3 x.natAbs y.natAbs (by omega) (by omega) (H4 zx) (H4 zy)) ?_
  simp (disch:=omega) [gw]
  refine bM [2,3,4,23] ?_
  refine W.cond ⟨_,rfl,fun h2=>?_,fun h2=>?_⟩
  ·have h2:(y.natAbs:Int)≤x.natAbs:=oS.1 (of_decide_eq_true h2)
   refine sB ?_
   refine aC (yZ x.natAbs y.natAbs (by omega) h2 (H4 zx)) ?_
   have e:((x.natAbs:Int)-y.natAbs).toNat=x.natAbs-y.natAbs:=by omega
   simp only [Dn,e]
   obtain⟨m,hm⟩:∃m,m=x.natAbs-y.natAbs:=⟨_,rfl⟩
   rw [←hm]
   simp (disch:=omega) [gw]
   refine aC (kU m _) ?_
   have e2:(if decide (x<0)=true then -(m:Int)else m)=x+y:=by by_cases h1:x<0<;>simp [h1]<;>omega
   rw [e2]
   simp (disch:=omega) [gw]
   refine bM [4] ?_
   exact cR
  ·have h2:(x.natAbs:Int)<y.natAbs:=by
    have h3:=of_decide_eq_false h2
    rw [oS]at h3;omega
   refine W.skip ?_
   refine sB ?_
   refine aC (yZ y.natAbs x.natAbs (by omega) (by omega) (H4 zy)) ?_
   have e:((y.natAbs:Int)-x.natAbs).toNat=y.natAbs-x.natAbs:=by omega
   simp only [Dn,e]
   obtain⟨m,hm⟩:∃m,m=y.natAbs-x.natAbs:=⟨_,rfl⟩
   rw [←hm]
   simp (disch:=omega) [gw]
   refine aC (kU m _) ?_
   have e2:(if decide (y<0)=true then -(m:Int)else m)=x+y:=by by_cases h1:y<0<;>simp [h1]<;>omega
   rw [e2]
   simp (disch:=omega) [gw]
   refine bM [4] ?_
   exact cR
theorem atE{x:Int}(h:Z x):Z (-x):=by simpa [Z,nD]using h
theorem H5(x y:Int)(zx:Z x)(zy:Z y):aL env.P 130 [RI x,RI y] (RI (x-y)):=by
 have hn:=mN y
 have zn:=atE zy
 obtain⟨m,hm⟩:∃m,m = -y:=⟨_,rfl⟩
 rw [←hm]at hn zn
 have e:x-y=x+m:=by omega
 rw [e]
 refine cH [(0,RI x),(1,RI y)] Tryz.func130 ?_
 refine aA [2,3,4] ?_
 refine sB ?_
 refine cX hn ?_
 refine cV [4] (y3 x m zx zn) ?_
 exact cR
theorem SP(x y:Int):(x-y).sign=dJ x y:=by
 rcases Int.lt_trichotomy x y with h | h | h
 ·rw [lF h,Int.sign_eq_neg_one_of_neg (by omega)]
 ·subst h;simp [wU]
 ·rw [lG h,Int.sign_eq_one_of_pos (by omega)]
theorem YA(x y:Int)(zx:Z x)(zy:Z y):aL env.P 62 [RI x,RI y] (.int .i64 (dJ x y)):=by
 refine cH [(0,RI x),(1,RI y)] Tryz.func62 ?_
 refine aA [2,3] ?_
 refine jM ?_
 refine cX (H5 x y zx zy) ?_
 refine aC (CF (x-y)) ?_
 rw [SP]
 simp (disch:=omega) [gw]
 refine bM [4] ?_
 exact cR
end Go.Proofs.YtiobceocpabjdaaGreat
