import Derived.Test.YtiobceocpabjdaaGreatZae
import Derived.Test.YtiobceocpabjdaaGreatZah
import Derived.Test.YtiobceocpabjdaaGreatZai
import Derived.Test.YtiobceocpabjdaaGreatZaj
set_option linter.unusedSimpArgs false
set_option linter.unusedVariables false
namespace Go.Proofs.YtiobceocpabjdaaGreat
open Go Pm
theorem acN{t:Int}(h0:0<t)(h1:t<4294967296):∃s:Nat,s≤31∧(32:Int)-nb t.toNat=s∧2147483648≤t*2^s∧(t+1)*2^s≤4294967296:=by
 have h2:nb t.toNat≤32:=nX.2 (by omega)
 have h3:1≤nb t.toNat:=by
  rcases Nat.eq_zero_or_pos (nb t.toNat)with h | h
  ·have:=nX.1 (Nat.le_of_eq h);omega
  ·exact h
 obtain⟨k,hk⟩:∃k,nb t.toNat=k+1:=⟨nb t.toNat-1,by omega⟩
 have h4:t.toNat<2^(k+1):=nX.1 (Nat.le_of_eq hk)
 have h5:2^k≤t.toNat:=by
  rcases Nat.lt_or_ge t.toNat (2^k)with h | h
  ·have:=nX.2 h;omega
  ·exact h
 have e1:(2:Int)^(k+1)*2^(31-k)=4294967296:=by rw [←Int.pow_add,show k+1+(31-k)=32 by omega];rfl
 have e2:(2:Int)^k*2^(31-k)=2147483648:=by rw [←Int.pow_add,show k+(31-k)=31 by omega];rfl
 have hp:(0:Int)<2^(31-k):=Int.pow_pos (by decide)
 have q1:((2^k:Nat):Int)=(2:Int)^k:=Int.natCast_pow 2 k
 have q2:((2^(k+1):Nat):Int)=(2:Int)^(k+1):=Int.natCast_pow 2 (k+1)
 refine⟨31-k,by omega,by omega,?_,?_⟩
 ·have:=Int.mul_le_mul_of_nonneg_right (show (2:Int)^k≤t by omega) (Int.le_of_lt hp)
  omega
 ·have:=Int.mul_le_mul_of_nonneg_right (show t+1≤(2:Int)^(k+1)by omega) (Int.le_of_lt hp)
  omega
theorem Y1{y:List Int}(hc:aQ y=y)(h:y ≠ []):nth y (y.length-1)≠0:=by
 intro h0
 have hl:0<y.length:=List.length_pos_iff.2 h
 have e:y=y.take (y.length-1) ++ [0]:=by
  have:=bF (l:=y) (i:=y.length-1) (by omega)
  rw [h0,show y.length-1+1=y.length by omega,List.take_length]at this
  exact this
 have h1:=jW (y.take (y.length-1))
 rw [←e,hc]at h1
 have h2:=bX (y.take (y.length-1))
 rw [←h1,List.length_take]at h2
 omega
theorem acO:N 0=us []:=rfl
theorem acP{m i:Nat}{X D:List Int}{Y g:Int}(lX:cX 4294967296 X)(lD:cX 4294967296 D)(hYb:Y<4294967296^(m+2))(hY0:0<Y)(uC:i+m+3≤X.length)(hDl:D.length=(X.drop i).length)(hDd:D.drop (m+3)=(X.drop i).drop (m+3))
  (hg:g=V 4294967296 ((X.drop i).take (m+3))/Y) (hDv:V 4294967296 (D.take (m+3))=V 4294967296 ((X.drop i).take (m+3))%Y) (dN:V 4294967296 (X.drop (i+1))<Y) :
  V 4294967296 ((X.take i++D).drop i)<Y∧V 4294967296 (X.take i++D)=V 4294967296 X-4294967296^i*(g*Y):=by
 have hl:(X.take i).length=i:=by simp;omega
 have e1:(X.take i++D).drop i=D:=by rw [List.drop_append,hl,List.drop_of_length_le (by omega)];simp
 have hD3:=kI (b:=4294967296) D (m+3) (by rw [hDl];simp;omega)
 have hX3:=kI (b:=4294967296) (X.drop i) (m+3) (by simp;omega)
 have hXi:=kI (b:=4294967296) X i (by omega)
 have hz:V 4294967296 ((X.drop i).drop (m+3))=0:=by
  have h1:=kI (b:=4294967296) (X.drop (i+1)) (m+2) (by simp;omega)
  have h2:(X.drop (i+1)).drop (m+2)=(X.drop i).drop (m+3):=by
   rw [List.drop_drop,List.drop_drop];congr 1;omega
  have h3:=bL (b:=4294967296) (by decide) ((lX.drop (i+1)).take (m+2))
  have h4:=bL (b:=4294967296) (by decide) ((lX.drop i).drop (m+3))
  rw [h2]at h1
  rcases Int.lt_or_le 0 (V 4294967296 ((X.drop i).drop (m+3)))with h5 | h5
  ·exfalso
   have:=Int.mul_le_mul_of_nonneg_left (show 1≤V 4294967296 ((X.drop i).drop (m+3))by omega) (show 0≤(4294967296:Int)^(m+2)by omega)
   omega
  ·omega
 rw [hDd,hz,Int.mul_zero,Int.add_zero]at hD3
 rw [hz,Int.mul_zero,Int.add_zero]at hX3
 have hm:=Int.emod_lt_of_pos (V 4294967296 ((X.drop i).take (m+3))) hY0
 have XY:=Int.mul_ediv_add_emod (V 4294967296 ((X.drop i).take (m+3))) Y
 rw [←hg,←hDv,←hX3,←hD3]at XY
 refine⟨by rw [e1,hD3,hDv];exact hm,?_⟩
 rw [dZ,hl,hXi,←XY]
 grind
theorem M0(a b:List Int)(ha:sH a)(hb:sH b)(h0:V 4294967296 b=0):aF env.P 259 [us a,us b] (.dU [us [],us [], .int .i64 2]):=by
 have hlb:=hb.len
 have X6:=ha.len
 have hcb:=bX b
 have hy:aQ b = []:=by rw [rD gF hb.yU];show aU LL (V 4294967296 b).toNat = [];rw [h0];rfl
 refine cD [(0,us a),(1,us b)] Tryz.func259 ?_
 refine aA [0,1] ?_
 refine jG ?_
 refine aC (dK a (by omega)) ?_
 simp (disch:=omega) [gw]
 refine aC (dK b (by omega)) ?_
 simp (disch:=omega) [gw]
 refine bG [0,1] ?_
 rw [hy]
 refine W.seq ?_
 refine W.block ?_
 refine aA [0,1,18] ?_
 refine bJ ?_ ?_<;>intro h
 ·refine aA [4,5,6] ?_
  refine W.ret ?_
  simp [go]
  rfl
 ·cases h
theorem CZ(a b:List Int)(ha:sH a)(hb:sH b)(h0:V 4294967296 b≠0)(X6:a.length<1099511627774)(hlb:b.length<1099511627774) :
  aF env.P 259 [us a,us b] (.dU [N (V 4294967296 a/V 4294967296 b),N (V 4294967296 a%V 4294967296 b), .int .i64 0]):=by
 have hca:=bX a
 have hcb:=bX b
 have hVa:=c8 (b:=4294967296) a
 have hVb:=c8 (b:=4294967296) b
 have lx:=eG ha.yU
 have ly:=eG hb.yU
 have cx:=eI a
 have cy:=eI b
 rw [←hVa,←hVb]
 rw [←hVb]at h0
 refine cD [(0,us a),(1,us b)] Tryz.func259 ?_
 refine aA [0,1] ?_
 refine jG ?_
 refine aC (dK a (by omega)) ?_
 simp (disch:=omega) [gw]
 refine aC (dK b (by omega)) ?_
 simp (disch:=omega) [gw]
 refine bG [0,1] ?_
 have hxl:(aQ a).length<1099511627774:=by omega
 have O4:(aQ b).length<1099511627774:=by omega
 clear hVa hVb hca hcb
 generalize aQ a=x at *
 generalize aQ b=y at *
 have hyn:y ≠ []:=fun h=>h0 (by rw [h];rfl)
 have hyp:0<y.length:=List.length_pos_iff.2 hyn
 have hY0:0<V 4294967296 y:=by have:=bL (b:=4294967296) (by decide) ly;omega
 have hX0:=bL (b:=4294967296) (by decide) lx
 refine W.seq ?_
 refine W.block ?_
 refine aA [0,1,18] ?_
 refine bJ ?_ ?_<;>intro h
 ·exfalso;simp at h;exact hyn h
 clear h
 refine aA [0,1,22] ?_
 refine bJ ?_ ?_<;>intro h
 ·have h:x.length<y.length:=by simp at h;omega
  have r8:=jY (b:=4294967296) (by decide) lx ly cy h
  rw [Int.ediv_eq_zero_of_lt hX0 r8,Int.emod_eq_of_lt hX0 r8]
  refine jG ?_
  refine aC (nB x (by omega) lx) ?_
  simp (disch:=omega) [gw]
  refine bG [4,5,6] ?_
  refine W.ret ?_
  simp [go]
  rfl
 have r8:y.length≤x.length:=by simp at h;omega
 clear h
 refine aA [0,1,30] ?_
 refine bJ ?_ ?_<;>intro h
 ·have h:y.length=1:=by simp at h;omega
  obtain⟨w,rfl⟩:∃w,y = [w]:=match y,h with | [w],_=>⟨w,rfl⟩
  have hw:=(cX.cons.1 ly).1
  have hV1:V 4294967296 [w]=w:=nV
  rw [hV1]at h0 hY0 ⊢
  have O1:=Int.emod_nonneg (V 4294967296 x) h0
  have KG:=Int.emod_lt_of_pos (V 4294967296 x) hY0
  have kA:=agV x w (by omega) lx hY0 hw.2
  have lr:cX 4294967296 [V 4294967296 x%w]:=cX.cons.2 ⟨⟨O1,by omega⟩,cX.nil⟩
  have pT:=dK [V 4294967296 x%w] (by simp)
  rw [vN lr,nV]at pT
  have hnw:nth [w] 0=w:=rfl
  generalize V 4294967296 x/w=qq at *
  generalize V 4294967296 x%w=rr at *
  refine W.sr ?_
  simp (disch:=omega) [gw,hnw]
  refine cQ [7,8] kA ?_
  refine aR [4,5,6] pT ?_
  exact cC
 have hy2:2≤y.length:=by simp at h;omega
 clear h
 obtain⟨m,hm⟩:∃m,y.length=m+2:=⟨y.length-2,by omega⟩
 have htn:=Y1 cy hyn
 rw [show y.length-1=m+1 by omega]at htn
 have htl:=ly.nth (i:=m+1) (by omega)
 obtain⟨s,ag1,hsn,vO,hs2⟩:=acN (t:=nth y (m+1)) (by omega) htl.2
 have hLZ:=ann (nth y (m+1)) htl.1 htl.2
 rw [hsn]at hLZ
 have hp:(0:Int)<2^s:=Int.pow_pos (by decide)
 have atF:(2:Int)^s≤2147483648:=by
  have:=Int.ofNat_le.2 (Nat.pow_le_pow_right (show 0<2 by decide) ag1)
  simpa using this
 have hbm:(0:Int)<4294967296^(m+1):=Int.pow_pos (by decide)
 have anq:=oY (b:=4294967296) (by decide) lx
 have hVy:=kI (b:=4294967296) y (m+1) (by omega)
 have hy1:V 4294967296 (y.drop (m+1))=nth y (m+1):=by rw [fB (by omega),List.drop_of_length_le (by omega),nV]
 rw [hy1]at hVy
 have ayO:=bL (b:=4294967296) (by decide) (ly.take (m+1))
 have hy3:=oY (b:=4294967296) (by decide) (ly.take (m+1))
 rw [List.length_take,Nat.min_eq_left (by omega)]at hy3
 have hyU:V 4294967296 y*2^s<4294967296^(m+2):=by
  have h1:V 4294967296 y<(nth y (m+1)+1)*4294967296^(m+1):=by rw [hVy];grind
  have h2:=Int.mul_lt_mul_of_pos_right h1 hp
  have h3:=Int.mul_le_mul_of_nonneg_right hs2 (Int.le_of_lt hbm)
  have e:(nth y (m+1)+1)*4294967296^(m+1)*2^s=(nth y (m+1)+1)*2^s*4294967296^(m+1):=by grind
  rw [show m+2=(m+1)+1 from rfl,Int.pow_succ]
  omega
 have hyL:2147483648*4294967296^(m+1)≤V 4294967296 y*2^s:=by
  have h1:nth y (m+1)*4294967296^(m+1)≤V 4294967296 y:=by rw [hVy,Int.mul_comm];omega
  have h2:=Int.mul_le_mul_of_nonneg_right h1 (Int.le_of_lt hp)
  have h3:=Int.mul_le_mul_of_nonneg_right vO (Int.le_of_lt hbm)
  have e:nth y (m+1)*4294967296^(m+1)*2^s=nth y (m+1)*2^s*4294967296^(m+1):=by grind
  omega
 have hxU:V 4294967296 x*2^s<4294967296^(x.length+1):=by
  rw [Int.pow_succ]
  exact Int.lt_of_lt_of_le (Int.mul_lt_mul_of_pos_right anq hp) (Int.mul_le_mul_of_nonneg_left (by omega) (Int.le_of_lt (Int.pow_pos (by decide))))
 obtain⟨x',hwx,aD1,lx',anr⟩:=MZ x s (x.length+1) ag1 (by omega) lx (by omega) (by omega) hxU
 obtain⟨y',hwy,atG,ly',Y2⟩:=MZ y s (m+2) ag1 (by omega) ly (by omega) (by omega) hyU
 have ayQ:2147483648≤nth y' (m+1):=by
  have h1:=kI (b:=4294967296) y' (m+1) (by omega)
  have h2:V 4294967296 (y'.drop (m+1))=nth y' (m+1):=by rw [fB (by omega),List.drop_of_length_le (by omega),nV]
  have h3:=oY (b:=4294967296) (by decide) (ly'.take (m+1))
  rw [List.length_take,Nat.min_eq_left (by omega)]at h3
  rw [h2,Y2]at h1
  rcases Int.lt_or_le (nth y' (m+1)) 2147483648 with h4 | h4
  ·exfalso
   have:=Int.mul_le_mul_of_nonneg_left (show nth y' (m+1)+1≤2147483648 by omega) (Int.le_of_lt hbm)
   rw [Int.mul_add,Int.mul_comm _ 2147483648]at this
   omega
  ·exact h4
 have ag2:0<V 4294967296 y':=by rw [Y2];exact Int.mul_pos hY0 hp
 have ayR:V 4294967296 y'<4294967296^(m+2):=by rw [Y2];exact hyU
 have hxm:m+2≤x.length:=by omega
 have hqx:V 4294967296 x/V 4294967296 y=V 4294967296 x'/V 4294967296 y':=by rw [anr,Y2,Int.mul_ediv_mul_of_pos_left _ _ hp]
 have hrx:V 4294967296 x%V 4294967296 y=V 4294967296 x'%V 4294967296 y'/2^s:=by
  rw [anr,Y2]
  have e1:=Int.emod_def (V 4294967296 x*2^s) (V 4294967296 y*2^s)
  rw [Int.mul_ediv_mul_of_pos_left _ _ hp]at e1
  have e2:=Int.emod_def (V 4294967296 x) (V 4294967296 y)
  rw [e1,e2]
  have e3:V 4294967296 x*2^s-V 4294967296 y*2^s*(V 4294967296 x/V 4294967296 y)=(V 4294967296 x-V 4294967296 y*(V 4294967296 x/V 4294967296 y))*2^s:=by grind
  rw [e3,Int.mul_ediv_cancel _ (by omega)]
 have atH:V 4294967296 (x'.drop (x.length-m-1))<V 4294967296 y':=by
  have h1:=kI (b:=4294967296) x' (x.length-m-1) (by omega)
  have h2:=bL (b:=4294967296) (by decide) (lx'.take (x.length-m-1))
  rw [anr]at h1
  have h3:V 4294967296 x*2^s<4294967296^(x.length-m-1)*(4294967296^(m+1)*2^s):=by
   rw [←Int.mul_assoc,←Int.pow_add,show x.length-m-1+(m+1)=x.length by omega]
   exact Int.mul_lt_mul_of_pos_right anq hp
  have h4:V 4294967296 (x'.drop (x.length-m-1))<4294967296^(m+1)*2^s:=Int.lt_of_mul_lt_mul_left (a:=4294967296^(x.length-m-1)) (by omega) (Int.le_of_lt (Int.pow_pos (by decide)))
  have h5:=Int.mul_le_mul_of_nonneg_left atF (Int.le_of_lt hbm)
  rw [Y2]
  rw [Int.mul_comm _ 2147483648]at h5
  omega
 rw [hqx,hrx]
 refine W.skip ?_
 have a1:((m:Int)+2-1)=((m+1:Nat):Int):=by omega
 refine W.sr ?_
 simp (disch:=omega) [gw,hm,a1]
 refine cQ [0,1,9] hLZ ?_
 replace hwx:lY env.P 270 [us x, .int .i64 s, .int .i64 ((x.length:Int)+1)] 185 1 (emap u32 x'):=hwx
 replace hwy:lY env.P 270 [us y, .int .i64 s, .int .i64 ((m:Int)+2)] 185 1 (emap u32 y'):=hwy
 refine W.sr ?_
 simp (disch:=omega) [gw,hm]
 refine ajd hwx 58 (by simp) (by simp) (by simp) ?_
 simp (disch:=omega) [gw,hm]
 refine ajd hwy 63 (by simp) (by simp) (by simp) ?_
 simp (disch:=omega) [gw]
 refine bG [0,9,10,11] ?_
 refine W.freeze 63 (by simp) (fun K hK=>?_)
 simp
 refine hK _ ?_;clear hK K
 refine W.sr ?_
 simp (disch:=omega) [gw,atG]
 refine bG [0,9,10,11,12] ?_
 obtain⟨ql,hql⟩:∃ql,x.length=ql+m+1:=⟨x.length-m-1,by omega⟩
 rw [show x.length-m-1=ql by omega]at atH
 have ajO:x'.length=ql+m+2:=by omega
 have aq:(x.length:Int)-((m:Int)+2)+1=(ql:Int):=by omega
 refine W.sr ?_
 simp (disch:=omega) [gw,aq]
 refine bG [4,9,10,11,12] ?_
 clear hwx hwy hVy hy1 ayO hy3 hyU hyL hxU hqx hrx htn htl vO hs2 hsn hLZ anq hY0 hX0
 refine aP [4,9,10,11,12,13] ?_
 refine W.block ?_
 refine W.bE (fun q σ=>∃(v4:Nat) (X Q:List Int) (rows:Pm.Rows) (clk:Nat),σ=⟨fa [(4, .own 71 v4 0 ql),(9, .int .i64 s),(10, .own 58 0 0 (ql+m+2)),(11,us y'),(12, .int .i64 ((m:Int)+2)),(13, .int .i64 ((q:Int)-1))],rows,clk⟩ ∧
  rows 58=some ⟨0,185,1,emap u32 X⟩∧rows 71=some ⟨v4,185,1,emap u32 Q⟩∧q≤ql∧X.length=ql+m+2∧Q.length=ql∧cX 4294967296 X∧cX 4294967296 Q ∧
  V 4294967296 X+4294967296^q*V 4294967296 (Q.drop q)*V 4294967296 y'=V 4294967296 x'∧V 4294967296 (X.drop q)<V 4294967296 y') ql ?_ ?_
 ·exact⟨_,Gh.fr [(4, .own 71 _ 0 ql),(9, .int .i64 s),(10, .own 58 0 0 (ql+m+2)),(11,us y'),(12, .int .i64 ((m:Int)+2)),(13, .int .i64 ((ql:Int)-1))] (by simp [ajO];exact rfl),_,x',List.replicate ql 0,_,_,rfl,by simp,by simp,by omega,ajO,by simp,lx',cX.rep (by decide) _,by simp [V],atH⟩
 rintro q _ ⟨v4,X,Q,rows,clk,rfl,ag3,ans,hq,hXl,hQl,lX,lQ,hVX,hXU⟩
 refine aP [4,9,10,11,12,13,76] ?_
 refine bJ ?_ ?_<;>intro h
 ·have O3:0<q:=by simp at h;omega
  obtain⟨i,rfl⟩:∃i,q=i+1:=⟨q-1,by omega⟩
  clear h
  have ei:((i+1:Nat):Int)-1=i:=by omega
  rw [ei]
  have atI:V 4294967296 ((X.drop i).take (m+3))<4294967296*V 4294967296 y':=by
   have h1:=kI (b:=4294967296) (X.drop i) (m+3) (by simp;omega)
   have h2:=bL (b:=4294967296) (by decide) ((lX.drop i).drop (m+3))
   have h3:=Int.mul_nonneg (show (0:Int)≤4294967296^(m+3)from Int.le_of_lt (Int.pow_pos (by decide))) h2
   have h4:V 4294967296 (X.drop i)=nth X i+4294967296*V 4294967296 (X.drop (i+1)):=by rw [fB (by omega)];rfl
   have h5:=lX.nth (i:=i) (by omega)
   omega
  have ag5:=fun(rows:Pm.Rows) clk hr=>RN (id:=58) (ver:=0) (off:=i) (m:=m) X y' rows clk hr atG (by omega) ly' ayQ lX (by omega) (by omega) atI
  have e6:(i:Int)+((m:Int)+2)+1=((i+m+3:Nat):Int):=by omega
  have e7:((i:Int)+(m:Int)+3).toNat-i=m+3:=by omega
  refine kY ?_
  refine W.cA (fun K hK=>?_)
  simp (disch:=omega) [gw,ag3,hXl,e6,e7]
  refine ar2 (ag5 _ _ ag3) ?_
  rintro r rows' gY ⟨D,rfl,rfl,rfl,hDl,lD,hDd,hDv⟩
  have iQ:=acP (g:=V 4294967296 ((X.drop i).take (m+3))/V 4294967296 y') lX lD ayR ag2 (by omega) hDl hDd rfl hDv hXU
  have hg0:0≤V 4294967296 ((X.drop i).take (m+3))/V 4294967296 y':=Int.ediv_nonneg (bL (by decide) ((lX.drop i).take _)) (Int.le_of_lt ag2)
  have hg1:V 4294967296 ((X.drop i).take (m+3))/V 4294967296 y'<4294967296:=Int.ediv_lt_of_lt_mul ag2 atI
  generalize V 4294967296 ((X.drop i).take (m+3))/V 4294967296 y'=g at *
  have ayT:(X.take i++D).length=ql+m+2:=by simp [hDl];omega
  have lX2:cX 4294967296 (X.take i++D):=cX.append.2 ⟨lX.take i,lD⟩
  obtain⟨ayU,ayV⟩:=iQ
  generalize X.take i++D=X2 at *
  simp (disch:=omega) [gw,ans,hQl]
  refine W.lw [4,9,10,11,12,13] hK ?_;clear hK K;simp
  refine W.cA (fun K hK=>?_);simp (disch:=omega) [gw]
  refine hK _ ⟨i,_,aB _ [4,9,10,11,12,13],by omega,v4,X2,Q.set i g,_,_,rfl,by simp,by simp,by omega,ayT,by simp [hQl],lX2,lQ.set ⟨hg0,hg1⟩,?_,ayU⟩
  rw [ayV,fB (l:=Q.set i g) (i:=i) (by simp;omega),eW (by omega),List.drop_set_of_lt (by omega),←hVX]
  simp only [V,Int.pow_succ]
  generalize V 4294967296 (Q.drop (i+1))=vq at *
  grind
 ·have O3:q=0:=by simp at h;omega
  subst O3
  simp only [List.drop_zero,Int.pow_zero,Int.one_mul]at hVX hXU
  have hX0:=bL (b:=4294967296) (by decide) lX
  have hQe:V 4294967296 x'/V 4294967296 y'=V 4294967296 Q:=by
   have e:(V 4294967296 Q+1)*V 4294967296 y'=V 4294967296 Q*V 4294967296 y'+V 4294967296 y':=by grind
   rw [Int.ediv_eq_iff_of_pos ag2]
   constructor<;>omega
  have hRe:V 4294967296 x'%V 4294967296 y'=V 4294967296 X:=by
   have h3:=Int.emod_def (V 4294967296 x') (V 4294967296 y')
   rw [hQe,Int.mul_comm]at h3
   omega
  have hXt:V 4294967296 (X.take (m+2))=V 4294967296 X:=by
   have h1:=kI (b:=4294967296) X (m+2) (by omega)
   have h2:=bL (b:=4294967296) (by decide) (lX.drop (m+2))
   have h3:=bL (b:=4294967296) (by decide) (lX.take (m+2))
   have h4:(0:Int)<4294967296^(m+2):=Int.pow_pos (by decide)
   rcases Int.lt_or_le 0 (V 4294967296 (X.drop (m+2)))with h5 | h5
   ·exfalso
    have:=Int.mul_le_mul_of_nonneg_left (show 1≤V 4294967296 (X.drop (m+2))by omega) (Int.le_of_lt h4)
    omega
   ·have:V 4294967296 (X.drop (m+2))=0:=by omega
    rw [this]at h1;omega
  rw [hQe,hRe,←hXt]
  have zQ:=bM hQl
  have zX:=bM hXl
  have pT:=dK Q (by omega)
  rw [vN lQ]at pT
  have ayW:=agW (X.take (m+2)) s ag1 (by simp;omega) (lX.take _)
  refine fH ?_
  refine W.freeze 71 (by simp [ans]) (fun K hK=>?_)
  simp [ans,zQ]
  refine hK _ ?_;clear hK K
  refine W.freeze 58 (by simp [ag3]) (fun K hK=>?_)
  simp [ag3,zX]
  refine hK _ ?_;clear hK K
  have e8:((m:Int)+2).toNat=m+2:=by omega
  refine nK ?_
  refine aC pT ?_
  simp (disch:=omega) [gw,hXl,e8]
  refine cQ [4,5,6] ayW ?_
  exact cC
theorem IM{A B:Int}(hB:0<B)(hA:0≤A):(A%B=0→(-A)/B = -(A/B)∧(-A)%B=0)∧(0<A%B→(-A)/B = -(A/B+1)∧(-A)%B=B-A%B):=by
 have h1:=Int.mul_ediv_add_emod A B
 have h2:=Int.emod_lt_of_pos A hB
 constructor
 ·intro h
  refine(Int.ediv_emod_unique hB).2 ⟨?_,by omega,by omega⟩
  rw [Int.mul_neg];omega
 ·intro h
  refine(Int.ediv_emod_unique hB).2 ⟨?_,by omega,by omega⟩
  rw [Int.mul_neg,Int.mul_add];omega
theorem acQ(n m:Bool){A B:Int}(hB:0<B)(hA:0≤A) :
  (¬(n=true∧0<A%B)→(if n=true then -A else A)/(if m=true then -B else B)=(if (n != m)=true then -(A/B)else A/B)∧(if n=true then -A else A)%(if m=true then -B else B)=A%B) ∧
  (n=true→0<A%B→(if n=true then -A else A)/(if m=true then -B else B)=(if (n != m)=true then -(A/B+1)else A/B+1)∧(if n=true then -A else A)%(if m=true then -B else B)=B-A%B):=by
 obtain⟨p1,p2⟩:=IM hB hA
 have h0:=Int.emod_nonneg A (show B≠0 by omega)
 cases n<;>cases m<;>simp [Int.ediv_neg,Int.emod_neg]
 ·exact⟨fun h=>by have:=p1 (by omega);exact⟨this.1,by omega⟩,p2⟩
 ·exact⟨fun h=>by have:=p1 (by omega);exact⟨by omega,by omega⟩,fun h=>by have:=p2 h;exact⟨by omega,this.2⟩⟩
theorem acR(n:Bool)(l:List Int)(h:sH l):aF env.P 143 [IV n l] (I (V 4294967296 l)):=by
 refine cD [(0,IV n l)] Tryz.func143 ?_
 refine aA [1,2] ?_
 refine jG ?_
 refine cU (nB l h.len h.yU) ?_
 refine aC (gJ _ (qC h) false) ?_
 simp (disch:=omega) [gw]
 refine bG [2] ?_
 exact cC
theorem acS(n:Bool)(l:List Int):aF env.P 258 [IV n l] (.int .i64 (if l.length=0 then 0 else if n=true then -1 else 1)):=by
 refine cD [(0,IV n l)] Tryz.func258 ?_
 refine bV [1] ?_
 refine W.block ?_
 refine aA [1,3] ?_
 refine bJ ?_ ?_<;>intro h
 ·have h:l = []:=by simp at h;exact h
  subst h
  refine aA [2] ?_
  exact cC
 ·have h:l.length≠0:=by simp at h;simpa using h
  rw [if_neg h]
  refine aA [8] ?_
  refine bJ ?_ ?_<;>intro h
  ·subst h
   refine aA [2] ?_
   exact cC
  ·subst h
   refine W.skip ?_
   refine aA [2] ?_
   exact cC
theorem ag6(p:RP)(hp:p.length<9223372036854775808):aF env.P 83 [Pg p] (.int .i64 ((p.length:Int)-1)):=by
 refine cD [(0,Pg p)] Tryz.func83 ?_
 refine aA [0] ?_
 refine aA [2] ?_
 exact cC
theorem M3(p:RP)(h:s6 p):aF env.P 145 [Pg p] (I (lead (mS p))):=by
 have hl:=h.len
 have gC:=bX (p.map gv)
 rw [List.length_map]at gC
 refine cD [(0,Pg p)] Tryz.func145 ?_
 refine aA [0,2] ?_
 refine W.seq ?_
 refine aR [0,2] (iO p h) ?_
 rw [show aQ (p.map gv)=mS p from rfl]at gC ⊢
 generalize mS p=x at *
 refine aA [0,2,7] ?_
 refine bJ ?_ ?_<;>intro h
 ·have h:x = []:=by simp at h;exact h
  subst h
  refine aA [2] ?_
  refine W.ret ?_
  simp [go]
  exact⟨Int.le_refl 0,rfl⟩
 ·have h:x ≠ []:=by simp at h;exact h
  have o7:0<x.length:=List.length_pos_iff.2 h
  refine W.skip ?_
  have e1:((x.length:Int)-1).toNat=x.length-1:=by omega
  refine W.sr ?_
  simp (disch:=omega) [gw,e1]
  refine bG [2] ?_
  refine W.ret ?_
  simp [go,lead]
theorem M4{x:Int}{k:Nat}(h0:0≤x)(h:x<4294967296^k):sz LL x≤k:=dW gF (by
 have e:((4294967296^k:Nat):Int)=(4294967296:Int)^k:=Int.natCast_pow 4294967296 k
 show x.natAbs<4294967296^k
 omega)
theorem UZ{x:Int}{k:Nat}(h0:0≤x)(h:sz LL x≤k)(hk:k<1099511627776):sH (aU LL x.toNat):=⟨fI gF _,by
 have e:x.natAbs=x.toNat:=by omega
 unfold sz at h
 rw [e]at h
 omega⟩
theorem acT{x:Int}(h0:0≤x):V 4294967296 (aU LL x.toNat)=x:=by
 have:=kH gF x.toNat
 rw [show((LL:Nat):Int)=4294967296 from rfl]at this
 rw [this];omega
theorem ag7{x:Int}(h0:0≤x):(0<(aU LL x.toNat).length)↔0<x:=by
 rw [List.length_pos_iff,Ne,eO gF];omega
theorem M5(n m:Bool)(l k:List Int)(EB:sH l)(h':sH k)(hl:l.length<1099511627774)(hk:k.length<1099511627774) :
  aF env.P 260 [IV n l,IV m k] (if V 4294967296 k=0 then .dU [I 0,I 0, .int .i64 2]else .dU [I (iv n l/iv m k),I (iv n l%iv m k), .int .i64 0]):=by
 have p1:=qC EB
 have p2:=qC h'
 refine cD [(0,IV n l),(1,IV m k)] Tryz.func260 ?_
 refine aA [2,3,4,5] ?_
 by_cases h0:V 4294967296 k=0
 ·rw [if_pos h0]
  refine aR [2,3,4,5,6,7,8] (M0 l k EB h' h0) ?_
  refine aP [2,3,4,5,6,7,8,19] ?_
  refine bJ ?_ ?_<;>intro h
  ·refine aA [4,5,6] ?_
   refine W.ret ?_
   simp [go]
   rfl
  ·cases h
 ·rw [if_neg h0]
  have hB:0<V 4294967296 k:=by omega
  have TS:=CZ l k EB h' h0 hl hk
  obtain⟨d1,d2⟩:=acQ n m hB p1
  rw [show(if n=true then -V 4294967296 l else V 4294967296 l)=iv n l from rfl,show(if m=true then -V 4294967296 k else V 4294967296 k)=iv m k from rfl]at d1 d2
  have q0:=Int.ediv_nonneg p1 p2
  have r0:=Int.emod_nonneg (V 4294967296 l) h0
  have r1:=Int.emod_lt_of_pos (V 4294967296 l) hB
  have pG:sz LL (V 4294967296 l/V 4294967296 k)≤l.length:=M4 q0 (Int.lt_of_le_of_lt (Int.ediv_le_self _ p1) (oY (by decide) EB.yU))
  have ayX:sz LL (V 4294967296 l%V 4294967296 k)≤k.length:=M4 r0 (Int.lt_trans r1 (oY (by decide) h'.yU))
  refine aR [2,3,4,5,6,7,8] TS ?_
  generalize V 4294967296 l/V 4294967296 k=Q at *
  generalize V 4294967296 l%V 4294967296 k=R at *
  refine aP [2,3,4,5,6,7,8,19] ?_
  refine bJ ?_ ?_<;>intro h
  ·cases h
  refine W.skip ?_
  refine jG ?_
  refine cU (gJ Q q0 (n != m)) ?_
  refine cQ [2,3,4,5,7,8] (gJ R r0 false) ?_
  refine W.iE (fun σ=>∃(rows:Pm.Rows) (clk:Nat),σ=⟨fa [(4, .ptr 4 2 0 0),(5, .ptr 5 3 0 0)],rows,clk⟩∧rows 4=some ⟨2,38,2,[ie (iv n l/iv m k)]⟩∧rows 5=some ⟨3,38,2,[ie (iv n l%iv m k)]⟩) ?_ ?_
  ·
   by_cases ant:n=true∧0<R
   ·obtain⟨rfl,hR⟩:=ant
    obtain⟨e1,e2⟩:=d2 rfl hR
    rw [e1,e2]
    have hdp:=(ag7 r0).2 hR
    have hQl:=UZ q0 pG EB.len
    have hRl:=UZ r0 ayX h'.len
    have atJ:=UK (aU LL Q.toNat) [1] hQl.len (by simp) hQl.yU (cX.cons.2 ⟨by decide,cX.nil⟩)
    rw [acT q0,nV]at atJ
    have atK:=II k (aU LL R.toNat) h'.len hRl.len h'.yU hRl.yU
    rw [acT r0,Q9,if_neg (by omega)]at atK
    refine W.fA (fun σ=>∃(rows:Pm.Rows) (clk:Nat),σ=⟨fa [(2, .ptr 2 0 0 0),(3, .ptr 3 1 0 0),(4, .ptr 4 2 0 0),(5, .ptr 5 3 0 0),(7,N Q),(8,N R),(38, .bool true)],rows,clk⟩∧rows 2=some ⟨0,38,2,[[.bool true,us l]]⟩∧rows 3=some ⟨1,38,2,[[.bool m,us k]]⟩∧rows 4=some ⟨2,38,2,[ie (if true=m then Q else -Q)]⟩∧rows 5=some ⟨3,38,2,[ie R]⟩) (fun K hK=>?_) ?_
    ·simp (disch:=omega) [gw,hdp]
     exact hK _ _ (aB _ [2,3,4,5,7,8,38]) ⟨_,_,rfl,by simp,by simp,by simp,by simp⟩
    rintro _ ⟨rows,clk,rfl,bS,b8,dS,eB⟩
    refine bJ ?_ ?_<;>intro h
    ·refine aR [2,3,4,5,7,8] atJ ?_
     refine W.sr ?_
     simp (disch:=omega) [gw,b8]
     refine cQ [2,3,4,5,7,8] atK ?_
     refine W.cA (fun K hK=>?_)
     simp (disch:=omega) [gw,bS,b8]
     refine aC (gJ (Q+1) (by omega) (!m)) ?_
     simp (disch:=omega) [gw]
     refine aC (gJ (V 4294967296 k-R) (by omega) false) ?_
     simp (disch:=omega) [gw,dS,eB]
     exact hK _ ⟨_,aB _ [4,5],_,_,rfl,by cases m<;>simp,by simp⟩
    ·cases h
   ·obtain⟨e1,e2⟩:=d1 ant
    rw [e1,e2]
    refine W.fA (fun σ=>∃(rows:Pm.Rows) (clk:Nat),σ=⟨fa [(4, .ptr 4 2 0 0),(5, .ptr 5 3 0 0),(38, .bool false)],rows,clk⟩∧rows 4=some ⟨2,38,2,[ie (if (n != m)=true then -Q else Q)]⟩∧rows 5=some ⟨3,38,2,[ie R]⟩) (fun K hK=>?_) ?_
    ·cases n with
     | false =>
      simp (disch:=omega) [gw]
      exact hK _ _ (aB _ [4,5,38]) ⟨_,_,rfl,by cases m<;>simp,by simp⟩
     | true =>
      have hR:R=0:=by simp at ant;omega
      subst hR
      simp (disch:=omega) [gw]
      exact hK _ _ (aB _ [4,5,38]) ⟨_,_,rfl,by cases m<;>simp,by simp⟩
    rintro _ ⟨rows,clk,rfl,dS,eB⟩
    refine bJ ?_ ?_<;>intro h
    ·cases h
    ·refine W.skip ?_
     exact⟨_,aB _ [4,5],_,_,rfl,dS,eB⟩
  rintro _ ⟨rows,clk,rfl,dS,eB⟩
  generalize iv n l/iv m k=q at *
  generalize iv n l%iv m k=r at *
  refine W.sd ?_
  simp (disch:=omega) [gw,dS,eB]
  refine bC (by kernel_rfl) ?_
  simp (disch:=omega) [gw,dS,eB]
  rw [if_pos (by kernel_rfl)]
  simp (disch:=omega) [gw,dS,eB]
  refine bC (by kernel_rfl) ?_
  simp (disch:=omega) [gw]
  refine bG [4,5,6] ?_
  exact cC
theorem RQ(n m:Bool)(l k:List Int)(h:sH l)(h':sH k)(hl:l.length<1099511627774)(hk:k.length<1099511627774)(h0:V 4294967296 k≠0) :
  aF env.P 234 [IV n l,IV m k] (if iv n l%iv m k=0 then .dU [I (iv n l/iv m k), .int .i64 0]else .dU [I 0, .int .i64 3]):=by
 have TS:=M5 n m l k h h' hl hk
 rw [if_neg h0]at TS
 have FE:0≤iv n l%iv m k:=Int.emod_nonneg _ (by unfold iv;split<;>omega)
 generalize iv n l/iv m k=q at *
 generalize iv n l%iv m k=r at *
 have hrn:(aU LL r.natAbs = [])↔r=0:=by rw [eO gF];omega
 refine cD [(0,IV n l),(1,IV m k)] Tryz.func234 ?_
 refine aA [2,3,4] ?_
 refine aR [4,6,7,8] TS ?_
 refine aP [4,6,7,8,17] ?_
 refine bJ ?_ ?_<;>intro h
 ·cases h
 refine W.skip ?_
 refine aP [4,6,23] ?_
 by_cases hr:r=0
 ·rw [if_pos hr]
  refine bJ ?_ ?_<;>intro h
  ·exfalso;have h2:=hrn.2 hr;rw [h2]at h;simp at h
  ·refine W.skip ?_
   refine aA [4,5] ?_
   exact cC
 ·rw [if_neg hr]
  refine bJ ?_ ?_<;>intro h
  ·refine aA [4,5] ?_
   refine W.ret ?_
   simp [go]
   rfl
  ·exfalso;simp at h;exact hr (hrn.1 h)
def bN(l:List Int):Nat:=l.foldl (fun g c=>Nat.gcd g c.natAbs) 0
theorem gcd_one:∀l:List Int,l.foldl (fun g c=>Nat.gcd g c.natAbs) 1=1
 | []=>rfl
 | c::l=>by simp only [List.foldl_cons,Nat.gcd_one_left];exact gcd_one l
theorem RS(l:List Int)(i:Nat)(h:bN (l.take i)=1):bN l=1:=by
 unfold bN at *
 rw [←List.take_append_drop i l,List.foldl_append,h]
 exact gcd_one _
theorem Y3(l:List Int)(i:Nat)(h:i<l.length):bN (l.take (i+1))=Nat.gcd (bN (l.take i)) (nth l i).natAbs:=by
 unfold bN
 rw [bF h,List.foldl_append];rfl
theorem atL(x:Nat):N (x:Int)=us (aU LL x):=rfl
theorem C0{x k:Nat}(h:x<4294967296^k):(aU LL x).length≤k:=z5 gF h
theorem M6(p:RP)(K0:Nat)(hK0:K0<1099511627774)(hp:∀c∈p,cX 4294967296 c.2∧c.2.length≤K0)(hpl:p.length<1099511627776):aF env.P 233 [Pg p] (I (bN (p.map gv))):=by
 have hng:∀c∈p,(gv c).natAbs=(V 4294967296 c.2).toNat:=fun c hc=>by
  have:=bL (b:=4294967296) (by decide) (hp c hc).1
  unfold gv iv;split<;>omega
 refine cD [(0,Pg p)] Tryz.func233 ?_
 refine aA [0,2] ?_
 refine aA [0,2,3] ?_
 refine W.L0 3 (us []) (by simp) rfl (fun K hK=>?_)
 refine W.lw [0,2,3] hK ?_;clear hK K;simp
 have ayY:∀i,i<p.length→(nth (p.map gv) i).natAbs=(V 4294967296 (nth p i).2).toNat:=fun i hi=>by rw [uA];exact hng _ (b7 hi)
 refine W.iE (fun σ=>∃(rows:Pm.Rows) (clk:Nat),σ=⟨fa [(2, .ptr 2 0 0 0),(3,us (aU LL (bN (p.map gv))))],rows,clk⟩∧rows 2=some ⟨0,38,2,[[.bool false, .nil]]⟩∧bN (p.map gv)<4294967296^K0) ?_ ?_
 ·
  refine aA [2,3,10,11,12] ?_
  refine W.block ?_
  refine W.bE (fun q σ=>∃(i:Nat) (rows:Pm.Rows) (clk:Nat),σ=⟨fa [(2, .ptr 2 0 0 0),(3,us (aU LL (bN ((p.map gv).take i)))),(10,Pg p),(11, .int .i64 p.length),(12, .int .i64 i)],rows,clk⟩∧rows 2=some ⟨0,38,2,[[.bool false, .nil]]⟩∧q=p.length-i∧i≤p.length∧bN ((p.map gv).take i)<4294967296^K0) p.length ?_ ?_
  ·exact⟨_,Gh.fr [(2, .ptr 2 0 0 0),(3,us (aU LL (bN ((p.map gv).take 0)))),(10,Pg p),(11, .int .i64 p.length),(12, .int .i64 (0:Nat))] (by simp [bN,lZ]),0,_,_,rfl,by simp,by omega,by omega,by simp [bN];exact Nat.pow_pos (by decide)⟩
  rintro q _ ⟨i,rows,clk,rfl,bS,hq,hi,KC⟩
  refine bV [2,3,10,11,12,13] ?_
  refine bJ ?_ ?_<;>intro h
  ·have hi:i<p.length:=by simp at h;omega
   obtain⟨uW,hc2⟩:=hp _ (b7 hi)
   have hV0:=bL (b:=4294967296) (by decide) uW
   have hVl:=oY (b:=4294967296) (by decide) uW
   obtain⟨x0,o7⟩:=Int.eq_ofNat_of_zero_le hV0
   have M7:=nB (nth p i).2 (by omega) uW
   rw [o7,atL]at M7
   have hxb:x0<4294967296^K0:=by
    have e:((4294967296^(nth p i).2.length:Nat):Int)=(4294967296:Int)^(nth p i).2.length:=Int.natCast_pow 4294967296 _
    have e2:4294967296^(nth p i).2.length≤4294967296^K0:=Nat.pow_le_pow_right (by decide) hc2
    omega
   have hgs:=Y3 (p.map gv) i (by simpa using hi)
   rw [ayY i hi,o7]at hgs
   simp only [Int.toNat_natCast]at hgs
   refine kY ?_
   refine W.sr ?_
   simp (disch:=omega) [gw,bS]
   refine bG [2,3,5,10,11,12] ?_
   refine aR [2,3,6,10,11,12] M7 ?_
   refine W.seq ?_
   refine W.block ?_
   refine W.bE (fun q σ=>∃(g x:Nat) (rows:Pm.Rows) (clk:Nat),σ=⟨fa [(2, .ptr 2 0 0 0),(3,us (aU LL g)),(6,us (aU LL x)),(10,Pg p),(11, .int .i64 p.length),(12, .int .i64 i)],rows,clk⟩∧rows 2=some ⟨0,38,2,[[.bool false, .nil]]⟩∧q=x∧Nat.gcd g x=bN ((p.map gv).take (i+1))∧g<4294967296^K0∧x<4294967296^K0) x0 ?_ ?_
   ·exact⟨_, .refl,bN ((p.map gv).take i),x0,_,_,rfl,by simp [bS],rfl,hgs.symm,KC,hxb⟩
   rintro q2 _ ⟨g,x,rows,clk,rfl,bS,hq2,hgx,hg,hx⟩
   refine aP [2,3,6,10,11,12,21] ?_
   refine bJ ?_ ?_<;>intro h
   ·have h1:aU LL x ≠ []:=by simp at h;exact List.length_pos_iff.1 h
    have o7:x≠0:=fun h2=>h1 ((eO gF).2 h2)
    have hlg:=C0 hg
    have hlx:=C0 hx
    have TS:=CZ (aU LL g) (aU LL x) ⟨fI gF _,by omega⟩ ⟨fI gF _,by omega⟩ (by rw [show(4294967296:Int)=((LL:Nat):Int)from rfl,kH gF];omega) (by omega) (by omega)
    rw [show(4294967296:Int)=((LL:Nat):Int)from rfl,kH gF,kH gF,←Int.natCast_emod,atL]at TS
    have hm:=Nat.mod_lt g (show 0<x by omega)
    have hgr:Nat.gcd x (g%x)=Nat.gcd g x:=by rw [Nat.gcd_comm x,←Nat.gcd_rec,Nat.gcd_comm]
    refine W.skip ?_
    refine W.block ?_
    refine aR [2,6,8,10,11,12] TS ?_
    refine W.cA (fun K hK=>?_);simp (disch:=omega) [gw]
    refine hK _ ⟨g%x,_,aB _ [2,3,6,10,11,12],by omega,x,g%x,_,_,rfl,by simp [bS],rfl,by rw [hgr,hgx],hx,by omega⟩
   ·have h1:aU LL x = []:=by simp at h;exact h
    have o7:x=0:=(eO gF).1 h1
    subst o7
    rw [Nat.gcd_zero_right]at hgx
    refine fH ?_
    refine W.fA (fun σ=>∃(b:Bool) (rows:Pm.Rows) (clk:Nat),σ=⟨fa [(2, .ptr 2 0 0 0),(3,us (aU LL g)),(10,Pg p),(11, .int .i64 p.length),(12, .int .i64 i),(39, .bool b)],rows,clk⟩∧rows 2=some ⟨0,38,2,[[.bool false, .nil]]⟩∧(b=true→g=1)) (fun K hK=>?_) ?_
    ·by_cases h2:(aU LL g).length=1
     ·obtain⟨w,hw⟩:∃w,aU LL g = [w]:=match aU LL g,h2 with | [w],_=>⟨w,rfl⟩
      have hgv:=kH gF g
      rw [hw,nV]at hgv
      rw [hw]at hK ⊢
      have hnw:nth [w] 0=w:=rfl
      simp (disch:=omega) [gw,hnw]
      exact hK _ _ (aB _ [2,3,10,11,12,39]) ⟨_,_,_,rfl,by simp [bS],fun h3=>by simp at h3;omega⟩
     ·have h2':((aU LL g).length:Int)≠1:=by omega
      have hb:(((aU LL g).length:Int)==1)=false:=by simpa using h2'
      simp (disch:=omega) [gw,hb,h2]
      exact hK _ _ (aB _ [2,3,10,11,12,39]) ⟨_,_,_,rfl,by simp [bS],fun h3=>by cases h3⟩
    rintro _ ⟨b,rows,clk,rfl,bS,hb⟩
    refine bJ ?_ ?_<;>intro h
    ·have hg1:=hb h
     subst hg1
     have tW:=RS _ _ hgx.symm
     refine fH ?_
     rw [tW]
     exact⟨_,aB _ [2,3],rows,clk,rfl,bS,by rw [tW]at *;exact hg⟩
    ·refine W.skip ?_
     subst hgx
     refine W.cA (fun K hK=>?_);simp (disch:=omega) [gw]
     refine hK _ ⟨p.length-(i+1),_,aB _ [2,3,10,11,12],by omega,i+1,_,_,rfl,by simp [bS],by omega,by omega,hg⟩
  ·have hi:i=p.length:=by simp at h;omega
   rw [List.take_of_length_le (by simp;omega)]at KC ⊢
   refine fH ?_
   exact⟨_,aB _ [2,3],rows,clk,rfl,bS,KC⟩
 rintro _ ⟨rows,clk,rfl,bS,KC⟩
 have hlg:=C0 KC
 have M7:=nB (aU LL (bN (p.map gv))) (by omega) (fI gF _)
 rw [show(4294967296:Int)=((LL:Nat):Int)from rfl,kH gF]at M7
 have atO:=gJ (bN (p.map gv):Int) (by omega) false
 refine jG ?_
 refine cU M7 ?_
 refine aC atO ?_
 simp (disch:=omega) [gw,bS]
 refine bG [2] ?_
 exact cC
structure PD(x:List Int):Prop where
 sz:∀v∈x,sz LL v<1099511627774
 len:x.length<1099511627774
theorem PD.of{s n:Nat}{x:List Int}(h:Bd LL s n x)(hs:s<1099511627774)(hn:n<1099511627774):PD x:=⟨fun v hv=>Nat.lt_of_le_of_lt (h.sz v hv) hs,Nat.lt_of_le_of_lt h.len hn⟩
theorem anu(v:Int):V 4294967296 (aU LL v.natAbs)=v.natAbs:=kH gF v.natAbs
theorem IP{v c:Int}(hv:sz LL v<1099511627774)(hc:sz LL c<1099511627774)(h0:c≠0):aF env.P 234 [I v,I c] (if v%c=0 then .dU [I (v/c), .int .i64 0]else .dU [I 0, .int .i64 3]):=by
 have:=RQ (decide (v<0)) (decide (c<0)) (aU LL v.natAbs) (aU LL c.natAbs) ⟨fI gF _,by unfold sz at hv;omega⟩ ⟨fI gF _,by unfold sz at hc;omega⟩ hv hc (by rw [anu];omega)
 rwa [xM,xM]at this
def pV(c v:Int):Int:=if v%c=0 then v/c else 0
theorem M8(x:List Int)(c:Int)(hx:PD x)(hc:sz LL c<1099511627774)(h0:c≠0):aF env.P 214 [Po x,I c] (Po (aQ (x.map (pV c)))):=by
 have hxl:=hx.len
 refine cD [(0,Po x),(1,I c)] Tryz.func214 ?_
 refine aA [0,3] ?_
 refine aA [0,3,5] ?_
 refine W.row (id:=10) (emap ie (List.replicate x.length 0)) (by simp;exact⟨rfl,rfl,rfl⟩) (rK _) ?_
 refine aP [3,5,11,12,13] ?_
 refine W.block ?_
 refine W.bE (fun q σ=>∃(i:Nat) (z:List Int) (v10:Nat) (rows:Pm.Rows) (clk:Nat),σ=⟨fa [(3, .ptr 3 0 0 0),(5, .own 10 v10 0 x.length),(11,Po x),(12, .int .i64 x.length),(13, .int .i64 i)],rows,clk⟩ ∧
  rows 3=some ⟨0,38,2,[ie c]⟩∧rows 10=some ⟨v10,38,2,emap ie z⟩∧q=x.length-i∧i≤x.length∧z.length=x.length∧z.take i=(x.take i).map (pV c)) x.length ?_ ?_
 ·exact⟨_, .refl,0,List.replicate x.length 0,_,_,_,rfl,by simp,by simp,by omega,by omega,by simp,by simp⟩
 rintro q _ ⟨i,z,v10,rows,clk,rfl,b8,M9,hq,hi,hz,hv⟩
 refine bV [3,5,11,12,13,14] ?_
 refine bJ ?_ ?_<;>intro h
 ·have hi:i<x.length:=by simp at h;omega
  have hE:=IP (hx.sz _ (b7 hi)) hc h0
  have hE2:aF env.P 234 [I (nth x i),I c] (.dU [I (pV c (nth x i)), .int .i64 (if nth x i%c=0 then 0 else 3)]):=by
   unfold pV
   split at hE
   ·rename_i h1;rw [if_pos h1,if_pos h1];exact hE
   ·rename_i h1;rw [if_neg h1,if_neg h1];exact hE
  have hts:(x.take (i+1)).map (pV c)=(x.take i).map (pV c) ++ [pV c (nth x i)]:=by rw [bF hi];simp
  generalize (if nth x i%c=0 then(0:Int)else 3)=er at *
  generalize pV c (nth x i)=ev at *
  generalize hxe:nth x i=xi at *
  refine kY ?_
  refine W.sr ?_
  simp (disch:=omega) [gw,hxe]
  refine bG [3,5,6,7,11,12,13] ?_
  refine W.cA (fun K hK=>?_)
  simp (disch:=omega) [gw,b8]
  refine aC hE2 ?_
  simp (disch:=omega) [gw,M9,hz]
  refine W.lw [3,5,11,12,13] hK ?_;clear hK K;simp
  refine W.cA (fun K hK=>?_);simp (disch:=omega) [gw]
  refine hK _ ⟨x.length-(i+1),_,aB _ [3,5,11,12,13],by omega,i+1,z.set i ev,v10,_,_,rfl,by simp [b8],by simp,by omega,by omega,by simp [hz],?_⟩
  rw [l5 hv (by omega),hts]
 ·have hi:i=x.length:=by simp at h;omega
  subst hi
  rw [bM hz,List.take_length]at hv
  have tZ:=bM hz
  refine fH ?_
  have hzb:PB z:=by
   rw [hv]
   refine⟨fun v hv=>?_,by simpa using by omega⟩
   simp only [List.mem_map]at hv
   obtain⟨w,hw,rfl⟩:=hv
   have h1:=hx.sz w hw
   show sz LL (pV c w)<1099511627776
   refine Nat.lt_of_le_of_lt (dJ gF (y:=w) ?_) (by omega)
   unfold pV;split
   ·exact Int.natAbs_ediv_le_natAbs _ _
   ·simp
  have hN:=fE hzb
  rw [hv]at hN M9 tZ
  generalize x.map (pV c)=y at *
  have O4:y.length=x.length:=by rw [←hv];exact hz
  refine W.sr ?_
  simp (disch:=omega) [gw,M9,tZ]
  refine cQ [4] hN ?_
  exact cC
theorem NA(l:List RP)(K0:Nat)(hK0:K0<1099511627774)(hp:∀p∈l,∀c∈p,cX 4294967296 c.2∧c.2.length≤K0)(hl:l.length<1099511627776)(hf:l.flatten.length<1099511627776) :
  aF env.P 213 [aN pe l] (I (bN (l.flatten.map gv))):=by
 refine cD [(0,aN pe l)] Tryz.func213 ?_
 refine aA [0,2] ?_
 refine aA [0,2,3] ?_
 refine W.nil 3 3 38 2 (by simp) (by decide) (fun K hK=>?_)
 refine W.lw [0,2,3] hK ?_;clear hK K;simp
 refine aP [2,3,6,7,8] ?_
 refine W.block ?_
 refine W.bE (fun q σ=>∃(i v3:Nat) (A:RP) (rows:Pm.Rows) (clk:Nat),σ=⟨fa [(2, .ptr 2 0 0 0),(3, .own 3 v3 0 A.length),(6,aN pe l),(7, .int .i64 l.length),(8, .int .i64 i)],rows,clk⟩ ∧
  rows 2=some ⟨0,38,2,[[.bool false, .nil]]⟩∧rows 3=some ⟨v3,38,2,emap ge A⟩∧q=l.length-i∧i≤l.length∧A=(l.take i).flatten) l.length ?_ ?_
 ·exact⟨_, .refl,0,_,[],_,_,rfl,by simp,by simp [emap],by omega,by omega,by simp⟩
 rintro q _ ⟨i,v3,A,rows,clk,rfl,bS,b8,hq,hi,hA⟩
 refine bV [2,3,6,7,8,9] ?_
 refine bJ ?_ ?_<;>intro h
 ·have hi:i<l.length:=by simp at h;omega
  have hfs:(l.take (i+1)).flatten=(l.take i).flatten++nth l i:=by rw [bF hi];simp
  have hfl:(l.take (i+1)).flatten.length≤l.flatten.length:=by
   have e:=List.take_append_drop (i+1) l
   have e2:l.flatten=(l.take (i+1)).flatten++(l.drop (i+1)).flatten:=by rw [←List.flatten_append,e]
   rw [e2,List.length_append];omega
  have KH:(l.take i).flatten.length+(nth l i).length<1099511627776:=by
   rw [hfs,List.length_append]at hfl;omega
  have hls:(l.take (i+1)).flatten.length=(l.take i).flatten.length+(nth l i).length:=by rw [hfs,List.length_append]
  rw [←hA]at hfs KH hls
  generalize hpe:nth l i=p at *
  refine kY ?_
  refine W.sr ?_
  simp (disch:=omega) [gw,hpe]
  refine bG [2,3,5,6,7,8] ?_
  refine W.cA (fun K hK=>?_)
  simp (disch:=omega) [gw,b8]
  refine W.lw [2,3,6,7,8] hK ?_;clear hK K;simp
  refine W.cA (fun K hK=>?_);simp (disch:=omega) [gw]
  refine hK _ ⟨l.length-(i+1),_,Gh.fr [(2, .ptr 2 0 0 0),(3, .own 3 _ 0 (A++p).length),(6,aN pe l),(7, .int .i64 l.length),(8, .int .i64 ((i+1:Nat):Int))] (by simp;exact rfl),by omega,i+1,_,A++p,_,_,rfl,by simp [bS],by simp,by omega,by omega,hfs.symm⟩
 ·have hi:i=l.length:=by simp at h;omega
  subst hi
  rw [List.take_length]at hA
  have hG:=M6 l.flatten K0 hK0 (fun c hc=>by
   obtain⟨p,hpl,E7⟩:=List.mem_flatten.1 hc
   exact hp p hpl c E7) hf
  rw [←hA]at hG ⊢
  generalize (bN (A.map gv):Int)=g at *
  refine fH ?_
  refine W.sr ?_
  simp (disch:=omega) [gw,b8]
  refine aC hG ?_
  simp (disch:=omega) [gw,bS]
  refine bG [2] ?_
  exact cC
theorem lI{x:List Int}(hx:PB x)(hc:Cn x):aF env.P 145 [Po x] (I (lead x)):=by
 have:=M3 (x.map s5) hx.EV
 rw [show mS (x.map s5)=aQ x by simp only [mS,cI],show aQ x=x from hc,←i7]at this
 exact this
theorem kQ(x:List Int)(hx:x.length<9223372036854775808):aF env.P 83 [Po x] (.int .i64 ((x.length:Int)-1)):=by
 have:=ag6 (x.map s5) (by simpa using hx)
 rw [List.length_map,←i7]at this
 exact this
theorem yW{x:List Int}{c:Int}(hx:PB x)(hc:Sz c):aF env.P 181 [Po x,I c] (Po (bA x c)):=by
 have:=RA (x.map s5) hx.EV (decide (c<0)) (aU LL c.natAbs) hc.UM
 rw [cI,xM,←i7]at this
 exact this
theorem rP(i:Nat)(x:Int):(List.replicate (i+1) (0:Int)).set i x=qF i x:=by
 rw [List.replicate_succ',List.set_append]
 simp [qF]
theorem RU(a b:RP){s s' N:Nat}(ha:s6 a)(hb:s6 b)(sa:Bd LL s N (a.map gv))(sb:Bd LL s' N (b.map gv))(hB:s+N*(s'+N+1)+s'+N+N+10<1099511627774) :
  aF env.P 215 [Pg a,Pg b] (if mS b = []then .dU [Po [],Po [], .int .i64 0, .int .i64 2]else .dU [Po (yS (mS a) (mS b)).1,Po (yS (mS a) (mS b)).2, .int .i64 (jP (mS a) (mS b)), .int .i64 0]):=by
 have hA:Bd LL s N (mS a):=sa.cut
 have U0:Bd LL s' N (mS b):=sb.cut
 have ca:Cn (mS a):=Cn.cut _
 have cb:Cn (mS b):=Cn.cut _
 have na:=iO a ha
 have nb:=iO b hb
 rw [show aQ (a.map gv)=mS a from rfl]at na
 rw [show aQ (b.map gv)=mS b from rfl]at nb
 refine cD [(0,Pg a),(1,Pg b)] Tryz.func215 ?_
 generalize mS a=x at *
 generalize mS b=y at *
 refine aA [0,1,4] ?_
 refine W.L0 4 (Po []) (by simp) rfl (fun K hK=>?_)
 refine W.lw [0,1,4] hK ?_;clear hK K;simp
 refine jG ?_
 refine cU na ?_
 refine cQ [1,4,5] nb ?_
 refine aP [1,4,5,18] ?_
 refine bJ ?_ ?_<;>intro h
 ·have h:y = []:=by simp at h;exact h
  rw [if_pos h]
  refine aA [4,5,6,7] ?_
  refine W.ret ?_
  simp [go]
  rfl
 have hy:y ≠ []:=by simp at h;exact h
 clear h
 rw [if_neg hy]
 have RB:0<y.length:=List.length_pos_iff.2 hy
 have hNx:=hA.len
 have hNy:=U0.len
 have hsy:=gU U0
 have hmN:N*(s'+N+1)≥0:=Nat.zero_le _
 have hL:=lI (PB.of U0 (by omega) (by omega)) cb
 have hDx:=kQ x (by omega)
 have hDy:=kQ y (by omega)
 refine W.skip ?_
 refine aR [1,4,5,8] hL ?_
 have hkk:(if (0:Int)<(x.length:Int)-1-((y.length:Int)-1)+1 then(x.length:Int)-1-((y.length:Int)-1)+1 else 0)=(jP x y:Int):=by unfold jP;split<;>omega
 refine jG ?_
 refine cU hDx ?_
 refine aC hDy ?_
 simp (disch:=omega) [gw,hkk]
 refine bG [1,4,5,6,8] ?_
 have hkN:jP x y≤N:=by unfold jP;omega
 have hsl:=hsy
 generalize hdd:s'+N+1=d at *
 have hNN:∀j,j≤N→(N-j)*d≤N*d:=fun j _=>Nat.mul_le_mul_right _ (by omega)
 refine aP [1,4,5,6,8,9] ?_
 refine W.block ?_
 refine W.bE (fun j σ=>∃(q r:List Int) (rows:Pm.Rows) (clk:Nat),σ=⟨fa [(1,Po y),(4,Po q),(5,Po r),(6, .int .i64 (jP x y)),(8, .ptr 8 0 0 0),(9, .int .i64 ((j:Int)-1))],rows,clk⟩ ∧
  rows 8=some ⟨0,38,2,[ie (lead y)]⟩∧j≤jP x y∧ps y (lead y) j q r=yS x y∧Bd LL (s+(N-j)*d) (N+N) q∧Bd LL (s+(N-j)*d) (N+N) r∧Cn r) (jP x y) ?_ ?_
 ·exact⟨_, .refl,[],x,_,_,rfl,by simp,by omega,rfl,⟨by simp,fun c hc=>by cases hc⟩,hA.mono (by omega) (by omega),ca⟩
 rintro j _ ⟨q,r,rows,clk,rfl,qH,hj,yX,bq,br,cr⟩
 refine aP [1,4,5,6,8,9,31] ?_
 refine bJ ?_ ?_<;>intro h
 ·have hj0:0<j:=by simp at h;omega
  obtain⟨i,rfl⟩:∃i,j=i+1:=⟨j-1,by omega⟩
  clear h
  have ei:((i+1:Nat):Int)-1=i:=by omega
  rw [ei]
  have RV:=hNN (i+1) (by omega)
  have hT:s+(N-i)*d=s+(N-(i+1))*d+s'+N+1:=by
   rw [show N-i=(N-(i+1))+1 by omega,Nat.add_mul,Nat.one_mul];omega
  obtain⟨b1,b2⟩:=CA gF U0 bq br (show i<N by omega)
  rw [←hT]at b1 b2
  have D5:=hNN i (by omega)
  have hx:=acb (y:=y) (i:=i) br
  have bs:=Bd.qF hx i
  have hLr:=lI (PB.of br (by omega) (by omega)) cr
  have hDr:=kQ r (by have:=br.len;omega)
  have bqs:=bq.bA gF hsy
  have brs:=br.bA gF hsy
  have bm:=bs.bQ gF U0
  have f1:=yW (c:=lead y) (PB.of bq (by omega) (by omega)) (show sz LL (lead y)<1099511627776 by omega)
  have f2:=yW (c:=lead y) (PB.of br (by omega) (by omega)) (show sz LL (lead y)<1099511627776 by omega)
  have f3:=YN (PB.of bqs (by omega) (by omega)) (PB.of bs (by omega) (by omega))
  have f4:=xN bs U0 (by omega)
  have f5:=F9 (PB.of brs (by omega) (by omega)) (PB.of bm (by omega) (by omega))
  rw [show iG (bA q (lead y)) (qF i (vJ y r i))=psq (lead y) (vJ y r i) i q from rfl]at f3
  rw [show fM (bA r (lead y)) (bQ (qF i (vJ y r i)) y)=w5 y (lead y) (vJ y r i) i r from rfl]at f5
  have cr2:Cn (w5 y (lead y) (vJ y r i) i r):=Cn.fM _ _
  have hpx:vJ y r i=if r.length=y.length+i then lead r else 0:=rfl
  rw [ps]at yX
  generalize hq2:psq (lead y) (vJ y r i) i q=q2 at *
  generalize bS:w5 y (lead y) (vJ y r i) i r=r2 at *
  generalize bQ (qF i (vJ y r i)) y=pm at *
  generalize bA q (lead y)=pq at *
  generalize bA r (lead y)=pr at *
  generalize vJ y r i=xx at *
  have acV:=rP i xx
  have anv:(qF i xx).length=i+1:=by simp [qF]
  generalize lead r=lr at *
  generalize lead y=ly at *
  refine kY ?_
  refine aA [1,4,5,6,8,9,10] ?_
  refine W.row (id:=10) (els:=[[.bool false, .nil]]) [ie 0] (by simp;exact⟨rfl,rfl,rfl⟩) ⟨⟨.inl (by simp), .inr ⟨rfl,rfl⟩,trivial⟩,trivial⟩ ?_
  refine W.iE (fun σ=>∃(v10:Nat) (rows:Pm.Rows) (clk:Nat),σ=⟨fa [(1,Po y),(4,Po q),(5,Po r),(6, .int .i64 (jP x y)),(8, .ptr 8 0 0 0),(9, .int .i64 i),(10, .ptr 10 v10 0 0)],rows,clk⟩∧rows 8=some ⟨0,38,2,[ie ly]⟩∧rows 10=some ⟨v10,38,2,[ie xx]⟩) ?_ ?_
  ·
   refine jG ?_
   refine cU hDr ?_
   refine cQ [1,4,5,6,8,9,10,40] hDy ?_
   by_cases XZ:r.length=y.length+i
   ·rw [if_pos XZ]at hpx
    subst hpx
    refine bJ ?_ ?_<;>intro h
    ·refine W.cA (fun K hK=>?_)
     simp (disch:=omega) [gw]
     refine cU hLr ?_
     exact hK _ ⟨_,aB _ [1,4,5,6,8,9,10],_,_,_,rfl,by simp [qH],by simp⟩
    ·exfalso;simp at h;omega
   ·rw [if_neg XZ]at hpx
    subst hpx
    refine bJ ?_ ?_<;>intro h
    ·exfalso;simp at h;omega
    ·refine W.skip ?_
     exact⟨_,aB _ [1,4,5,6,8,9,10],_,_,_,rfl,by simp [qH],by simp⟩
  rintro _ ⟨v10,rows,clk,rfl,qH,M9⟩
  have e9:((i:Int)+1).toNat=i+1:=by omega
  refine W.sr ?_
  simp (disch:=omega) [gw,e9]
  refine bG [1,4,5,6,8,9,10,11] ?_
  refine W.row (id:=45) (emap ie (List.replicate (i+1) 0)) (by simp;exact⟨rfl,rfl,rfl⟩) (rK _) ?_
  refine W.sr ?_
  simp (disch:=omega) [gw,M9,acV]
  refine bG [1,4,5,6,8,9,11] ?_
  have iQ:=bM anv
  refine W.freeze 45 (by simp) (fun K hK=>?_)
  simp [iQ]
  refine hK _ ?_;clear hK K
  refine W.sr ?_
  simp (disch:=omega) [gw,qH]
  refine cU f1 ?_
  refine cQ [1,4,5,6,8,9,11] f3 ?_
  refine W.cA (fun K hK=>?_)
  simp (disch:=omega) [gw,qH]
  refine cU f2 ?_
  refine cU f4 ?_
  refine cU f5 ?_
  refine W.lw [1,4,5,6,8,9] hK ?_;clear hK K;simp
  refine W.cA (fun K hK=>?_);simp (disch:=omega) [gw]
  refine hK _ ⟨i,_,aB _ [1,4,5,6,8,9],by omega,q2,r2,_,_,rfl,by simp [qH],by omega,yX,b1,b2,cr2⟩
 ·have hj0:j=0:=by simp at h;omega
  subst hj0
  simp only [ps]at yX
  rw [←yX]
  refine fH ?_
  refine aA [4,5,6,7] ?_
  exact cC
def j6(x:List Int):List Int:=aQ (x.map (pV (bN x)))
def NB(a b:List Int):List Int:=if jP a b%2=1∧lead b<0 then j6 (gW (yS a b).2)else j6 (yS a b).2
theorem iI(x:List Int):∀c∈x,((bN x:Nat):Int)∣c:=by
 have key:∀(l:List Int) (g:Nat),(∀c∈l,((l.foldl (fun g c=>Nat.gcd g c.natAbs) g:Nat):Int)∣c)∧l.foldl (fun g c=>Nat.gcd g c.natAbs) g∣g:=by
  intro l
  induction l with
  | nil=>intro g;exact⟨fun c hc=>(by cases hc),Nat.dvd_refl _⟩
  | cons c l ih =>
   intro g
   obtain⟨h1,h2⟩:=ih (Nat.gcd g c.natAbs)
   simp only [List.foldl_cons]
   refine⟨fun d hd=>?_,Nat.dvd_trans h2 (Nat.gcd_dvd_left _ _)⟩
   rcases List.mem_cons.1 hd with rfl | hd
   ·exact Int.ofNat_dvd_left.2 (Nat.dvd_trans h2 (Nat.gcd_dvd_right _ _))
   ·exact h1 d hd
 exact(key x 0).1
theorem NC{x:List Int}{c:Int}(hc:c∈x)(h:c≠0):bN x≠0:=by
 intro h0
 have:=iI x c hc
 rw [h0]at this
 obtain⟨k,hk⟩:=this
 simp at hk
 exact h hk
theorem cO{x:List Int}(hc:Cn x)(h:x ≠ []):bN x≠0:=by
 have hl:0<x.length:=List.length_pos_iff.2 h
 exact NC (c:=lead x) (b7 (by omega)) (dA hc hl)
theorem U1{x:List Int}{s:Nat}(hx:∀c∈x,sz LL c≤s)(hc:Cn x)(h:x ≠ []):sz LL (bN x:Int)≤s:=by
 have hl:0<x.length:=List.length_pos_iff.2 h
 have hm:lead x∈x:=b7 (by omega)
 refine Nat.le_trans (dJ gF ?_) (hx _ hm)
 have:=Int.le_of_dvd (a:=(bN x:Int)) (b:=((lead x).natAbs:Int)) (by have:=dA hc hl;omega) (Int.dvd_natAbs.2 (iI x _ hm))
 omega
theorem vW(x:List Int)(hx:PD x):aF env.P 213 [.sl [[Po x]]] (I (bN x)):=by
 have hl:=hx.len
 have:=NA [x.map s5] 1099511627773 (by decide) (fun p hp c hc=>by
  simp only [List.mem_singleton]at hp
  subst hp
  simp only [List.mem_map]at hc
  obtain⟨v,hv,rfl⟩:=hc
  have h1:=hx.sz v hv
  exact⟨fI gF _,by unfold sz at h1;show(aU LL v.natAbs).length≤_;omega⟩) (by simp) (by simp;omega)
 have e:([x.map s5].flatten.map gv)=x:=by simp only [List.flatten_cons,List.flatten_nil,List.append_nil,cI]
 rw [e]at this
 have e2:aN pe [x.map s5] = .sl [[Po x]]:=by rw [i7];rfl
 rw [e2]at this
 exact this
theorem ND(a b:RP){s s' N:Nat}(ha:s6 a)(hb:s6 b)(sa:Bd LL s N (a.map gv))(sb:Bd LL s' N (b.map gv))(hB:s+N*(s'+N+1)+s'+N+N+10<1099511627774) :
  aF env.P 138 [Pg a,Pg b] (if mS b = []then .dU [Po [], .int .i64 2]else .dU [Po (NB (mS a) (mS b)), .int .i64 0]):=by
 have hP:=RU a b ha hb sa sb hB
 have hL:=M3 b hb
 have hA:Bd LL s N (mS a):=sa.cut
 have U0:Bd LL s' N (mS b):=sb.cut
 have ca:Cn (mS a):=Cn.cut _
 refine cD [(0,Pg a),(1,Pg b)] Tryz.func138 ?_
 generalize mS a=x at *
 generalize mS b=y at *
 refine aA [0,1] ?_
 by_cases hy:y = []
 ·rw [if_pos hy]at hP ⊢
  refine aR [1,7,8,9] hP ?_
  refine aP [1,7,8,9,19] ?_
  refine bJ ?_ ?_<;>intro h
  ·refine aA [4,5] ?_
   refine W.ret ?_
   simp [go]
   rfl
  ·cases h
 rw [if_neg hy]at hP ⊢
 have RB:0<y.length:=List.length_pos_iff.2 hy
 have hkN:jP x y≤N:=by unfold jP;have:=hA.len;omega
 obtain⟨_,BJ⟩:=acd gF U0 (jP x y) s [] x hkN ⟨by simp,fun c hc=>by cases hc⟩ (hA.mono (by omega) (by omega))
 obtain⟨_,cr⟩:=CB (b:=y) ca
 rw [show(ps y (lead y) (jP x y) [] x)=yS x y from rfl]at BJ
 have hmul:=Nat.mul_le_mul_right (s'+N+1) hkN
 have acM:=GB (PB.of BJ (by omega) (by omega))
 refine aR [1,7,8,9] hP ?_
 refine aP [1,7,8,9,19] ?_
 refine bJ ?_ ?_<;>intro h
 ·cases h
 refine W.skip ?_
 obtain⟨r2,bS⟩:∃r2,r2=if jP x y%2=1∧lead y<0 then gW (yS x y).2 else(yS x y).2:=⟨_,rfl⟩
 have atU:NB x y=j6 r2:=by rw [bS,NB];split<;>rfl
 have hbr:PD r2:=by
  rw [bS];split
  ·exact PD.of BJ.gW (by omega) (by omega)
  ·exact PD.of BJ (by omega) (by omega)
 have hcr:Cn r2:=by
  rw [bS];split
  ·exact Cn.gW _
  ·exact cr
 rw [atU]
 refine W.iE (fun σ=>∃(rows:Pm.Rows) (clk:Nat),σ=⟨fa [(7,Po r2)],rows,clk⟩) ?_ ?_
 ·
  by_cases hk:jP x y%2=1
  ·refine W.fA (fun σ=>∃(rows:Pm.Rows) (clk:Nat),σ=⟨fa [(7,Po (yS x y).2),(28, .bool (decide (lead y<0)))],rows,clk⟩) (fun K hK=>?_) ?_
   ·have wX:(jP x y:Int)%2=1:=by omega
    simp (disch:=omega) [gw,wX]
    refine cU hL ?_
    exact hK _ _ (aB _ [7,28]) ⟨_,_,rfl⟩
   rintro _ ⟨rows,clk,rfl⟩
   refine W.ab0 (lead y<0) rfl (fun h=>?_) (fun h=>?_)
   ·rw [if_pos ⟨hk,h⟩]at bS
    subst bS
    refine W.cA (fun K hK=>?_)
    simp (disch:=omega) [gw]
    refine cU acM ?_
    exact hK _ ⟨_,aB _ [7],_,_,rfl⟩
   ·rw [if_neg (fun h2=>h h2.2)]at bS
    subst bS
    refine W.skip ?_
    exact⟨_,aB _ [7],_,_,rfl⟩
  ·rw [if_neg (fun h2=>hk h2.1)]at bS
   subst bS
   refine W.fA (fun σ=>∃(rows:Pm.Rows) (clk:Nat),σ=⟨fa [(7,Po (yS x y).2),(28, .bool false)],rows,clk⟩) (fun K hK=>?_) ?_
   ·have wX:((jP x y:Int)%2==1)=false:=by simp;omega
    simp (disch:=omega) [gw,wX]
    exact hK _ _ (aB _ [7,28]) ⟨_,_,rfl⟩
   rintro _ ⟨rows,clk,rfl⟩
   refine bJ ?_ ?_<;>intro h
   ·cases h
   ·refine W.skip ?_
    exact⟨_,aB _ [7],_,_,rfl⟩
 rintro _ ⟨rows,clk,rfl⟩
 clear bS atU
 refine aP [7,33] ?_
 refine bJ ?_ ?_<;>intro h
 ·have h:r2 = []:=by simp at h;exact h
  subst h
  refine aA [4,5] ?_
  refine W.ret ?_
  simp [go]
  rfl
 ·have h:r2 ≠ []:=by simp at h;exact h
  have hC:=vW r2 hbr
  have hgp:=cO hcr h
  have hO:=M8 r2 (bN r2) hbr (Nat.lt_of_le_of_lt (U1 (s:=1099511627773) (fun c hc=>by have:=hbr.sz c hc;omega) hcr h) (by decide)) (by omega)
  rw [show aQ (r2.map (pV (bN r2)))=j6 r2 from rfl]at hO
  generalize (bN r2:Int)=g at *
  generalize j6 r2=pr at *
  refine W.skip ?_
  refine jG ?_
  refine cU hC ?_
  refine cQ [4,5] hO ?_
  exact cC
theorem ag9(x:List Int):mS (x.map s5)=aQ x:=by simp only [mS,cI]
theorem lJ{x:List Int}(hx:Cn x){m:Int}(hm:m≠0):Cn (x.map (· * m)):=by
 rcases Nat.eq_zero_or_pos x.length with h | h
 ·have:x = []:=List.eq_nil_of_length_eq_zero h
  subst this;rfl
 ·have e:=tY h
  have:x.map (· * m)=(x.take (x.length-1)).map (· * m) ++ [lead x*m]:=by
   conv=>lhs;rw [e]
   simp
  rw [this]
  exact jH (Int.mul_ne_zero (dA hx h) hm) _
theorem sL{x:List Int}(hx:Cn x){m:Int}(hm:m≠0):bA x m=x.map (· * m):=lJ hx hm
theorem RW{x:List Int}(hx:Cn x):bA x 1=x:=Cn.ext (Cn.bA _ _) hx fun t=>by rw [cV];omega
theorem RX(x:List Int):gW x=bA x (-1):=Cn.ext (Cn.gW _) (Cn.bA _ _) fun t=>by rw [B8,cV];omega
theorem lK(m:Int)(x:List Int):bN (x.map (· * m))=bN x*m.natAbs:=by
 have key:∀(l:List Int) (g:Nat),(l.map (· * m)).foldl (fun g c=>Nat.gcd g c.natAbs) (g*m.natAbs)=l.foldl (fun g c=>Nat.gcd g c.natAbs) g*m.natAbs:=by
  intro l
  induction l with
  | nil=>intro g;rfl
  | cons c l ih =>
   intro g
   simp only [List.map_cons,List.foldl_cons]
   rw [Int.natAbs_mul,Nat.gcd_mul_right,ih]
 have:=key x 0
 rw [Nat.zero_mul]at this
 exact this
theorem Y4{m:Int}(hm:0<m)(g v:Int):pV (g*m) (v*m)=pV g v:=by
 unfold pV
 rw [Int.mul_comm v,Int.mul_comm g,Int.mul_emod_mul_of_pos _ _ hm,Int.mul_ediv_mul_of_pos _ _ hm]
 have:m*(v%g)=0↔v%g=0:=by
  constructor
  ·intro h
   rcases Int.mul_eq_zero.1 h with h | h
   ·omega
   ·exact h
  ·intro h;rw [h];simp
 simp only [this]
theorem RY{m:Int}(hm:0<m)(x:List Int):j6 (x.map (· * m))=j6 x:=by
 unfold j6
 rw [lK,List.map_map]
 congr 1
 refine List.map_congr_left fun v _=>?_
 simp only [Function.comp_apply]
 have:((bN x*m.natAbs:Nat):Int)=(bN x:Int)*m:=by rw [Int.natCast_mul];congr 1;omega
 rw [this,Y4 hm]
theorem yY{x:List Int}(hx:Cn x){m:Int}(hm:0<m):j6 (bA x m)=j6 x:=by rw [sL hx (by omega),RY hm]
def sg(c:Int)(k:Nat):Int:=if k%2=1∧c<0 then -1 else 1
theorem acW(c:Int):∀k:Nat,c^k=sg c k*(c.natAbs:Int)^k
 | 0=>by simp [sg]
 | k+1=>by
  have ih:=acW c k
  have hc:c=(if c<0 then -1 else 1)*(c.natAbs:Int):=by split<;>omega
  have hs:sg c (k+1)=sg c k*(if c<0 then -1 else 1):=by
   unfold sg
   by_cases h:c<0
   ·rcases Nat.mod_two_eq_zero_or_one k with h2 | h2
    ·rw [if_pos ⟨by omega,h⟩,if_neg (by omega),if_pos h];rfl
    ·rw [if_neg (by omega),if_pos ⟨h2,h⟩,if_pos h];rfl
   ·rw [if_neg (fun h2=>h h2.2),if_neg (fun h2=>h h2.2),if_neg h];rfl
  rw [Int.pow_succ,Int.pow_succ,ih,hs]
  conv=>lhs;rw [hc]
  generalize (if c<0 then(-1:Int)else 1)=e at *
  have e3:((e*(c.natAbs:Int)).natAbs:Int)=(c.natAbs:Int):=by rw [←hc]
  rw [e3]
  grind
theorem acX(c:Int)(k:Nat):sg c k*sg c k=1:=by unfold sg;split<;>rfl
theorem acY{a b:List Int}(ca:Cn a):NB a b=j6 (bA (yS a b).2 (sg (lead b) (jP a b))):=by
 have cr:=(CB (b:=b) ca).2
 unfold NB sg
 split
 ·rw [RX]
 ·rw [RW cr]
theorem l7(x:List Int):(j6 x).length≤x.length:=Nat.le_trans (bX _) (by simp)
theorem NF(x:List Int):(gW x).length≤x.length:=Nat.le_trans (bX _) (by simp)
theorem aha{a b:List Int}(hb:0<b.length):(NB a b).length<b.length:=by
 have h1:=IE (a:=a) hb
 unfold NB
 split
 ·have h2:=l7 (gW (yS a b).2)
  have h3:=NF (yS a b).2
  omega
 ·have h2:=l7 (yS a b).2
  omega
theorem anw(a b:List Int):Cn (NB a b):=by unfold NB;split<;>exact Cn.cut _
def exs(b:List Int):Nat→List Int→List Int→Option (List Int × List Int)
 | 0,q,a=>some (q,a)
 | i+1,q,a=>if a.length<b.length+i then exs b i q a else if lead a%lead b=0 then exs b i (q.set i (lead a/lead b)) (fM a (bQ (qF i (lead a/lead b)) b))else none
def exF:Option (List Int × List Int)→Option (List Int)
 | some (q,[])=>some (aQ q)
 | _=>none
def exact(a b:List Int):Option (List Int):=exF (exs b (jP a b) (List.replicate (jP a b) 0) a)
def exR(o:Option (List Int)):PV:=
 match o with
 | some q => .dU [Po q, .int .i64 0]
 | none => .dU [Po [], .int .i64 3]
theorem Bd.set{B s n:Nat}{x:List Int}(h:Bd B s n x){i:Nat}{v:Int}(hv:Pm.sz B v≤s):Bd B s n (x.set i v):=⟨by simpa using h.len,fun c hc=>by
 rcases List.mem_or_eq_of_mem_set hc with h1 | h1
 ·exact h.sz c h1
 ·rw [h1];exact hv⟩
theorem Y5(a b:RP){s s' N:Nat}(ha:s6 a)(hb:s6 b)(sa:Bd LL s N (a.map gv))(sb:Bd LL s' N (b.map gv))(hB:s+N*(s'+N+1)+s'+N+N+10<1099511627774) :
  aF env.P 217 [Pg a,Pg b] (if mS b = []then .dU [Po [], .int .i64 2]else exR (exact (mS a) (mS b))):=by
 have hA:Bd LL s N (mS a):=sa.cut
 have U0:Bd LL s' N (mS b):=sb.cut
 have ca:Cn (mS a):=Cn.cut _
 have cb:Cn (mS b):=Cn.cut _
 have na:=iO a ha
 have nb:=iO b hb
 rw [show aQ (a.map gv)=mS a from rfl]at na
 rw [show aQ (b.map gv)=mS b from rfl]at nb
 refine cD [(0,Pg a),(1,Pg b)] Tryz.func217 ?_
 generalize mS a=x at *
 generalize mS b=y at *
 refine aA [0,1] ?_
 refine jG ?_
 refine cU na ?_
 refine cQ [0,1] nb ?_
 refine aP [0,1,17] ?_
 refine bJ ?_ ?_<;>intro h
 ·have h:y = []:=by simp at h;exact h
  rw [if_pos h]
  refine aA [4,5] ?_
  refine W.ret ?_
  simp [go]
  rfl
 have hy:y ≠ []:=by simp at h;exact h
 clear h
 rw [if_neg hy]
 have RB:0<y.length:=List.length_pos_iff.2 hy
 have hNx:=hA.len
 have hNy:=U0.len
 have hsy:=gU U0
 have hly:=dA cb RB
 have hL:=lI (PB.of U0 (by omega) (by omega)) cb
 have hDy:=kQ y (by omega)
 have hkN:jP x y≤N:=by unfold jP;omega
 generalize hdd:s'+N+1=d at *
 have hNN:∀j,j≤N→(N-j)*d≤N*d:=fun j _=>Nat.mul_le_mul_right _ (by omega)
 have hkk:(if (0:Int)<(x.length:Int)-(y.length:Int)+1 then(x.length:Int)-(y.length:Int)+1 else 0)=(jP x y:Int):=by unfold jP;split<;>omega
 refine W.skip ?_
 refine W.sr ?_
 simp (disch:=omega) [gw,hkk]
 refine bG [0,1,6] ?_
 refine W.row (id:=25) (emap ie (List.replicate (jP x y) 0)) (by simp;exact⟨rfl,rfl,rfl⟩) (rK _) ?_
 refine aP [0,1,6,7] ?_
 refine W.block ?_
 obtain⟨R0,HT⟩:∃R0,R0=exs y (jP x y) (List.replicate (jP x y) 0) x:=⟨_,rfl⟩
 have hex:exact x y=exF R0:=by rw [HT];rfl
 rw [hex]
 clear hex
 generalize xC:jP x y=k0 at *
 refine W.bE (fun j σ=>∃(v6:Nat) (z r:List Int) (rows:Pm.Rows) (clk:Nat),σ=⟨fa [(0,Po r),(1,Po y),(6, .own 25 v6 0 k0),(7, .int .i64 ((j:Int)-1))],rows,clk⟩ ∧
  rows 25=some ⟨v6,38,2,emap ie z⟩∧z.length=k0∧j≤k0∧exs y j z r=R0∧Bd LL (s+(N-j)*d) (N+N) z∧Bd LL (s+(N-j)*d) (N+N) r∧Cn r) k0 ?_ ?_
 ·exact⟨_, .refl,_,List.replicate k0 0,x,_,_,rfl,by simp,by simp,by omega,HT.symm,⟨by simp;omega,fun c hc=>by rw [(List.mem_replicate.1 hc).2,kJ];omega⟩,hA.mono (by omega) (by omega),ca⟩
 rintro j _ ⟨v6,z,r,rows,clk,rfl,ac0,hz,hj,yX,bz,br,cr⟩
 refine aP [0,1,6,7,30] ?_
 refine bJ ?_ ?_<;>intro h
 ·have hj0:0<j:=by simp at h;omega
  obtain⟨i,rfl⟩:∃i,j=i+1:=⟨j-1,by omega⟩
  clear h
  have ei:((i+1:Nat):Int)-1=i:=by omega
  rw [ei]
  have RV:=hNN (i+1) (by omega)
  have D5:=hNN i (by omega)
  have hT:s+(N-i)*d=s+(N-(i+1))*d+s'+N+1:=by
   rw [show N-i=(N-(i+1))+1 by omega,Nat.add_mul,Nat.one_mul];omega
  have hDr:=kQ r (by have:=br.len;omega)
  have hLr:=lI (PB.of br (by omega) (by omega)) cr
  have hlr:=gU br
  rw [exs]at yX
  refine W.skip ?_
  refine W.eN (fun σ=>∃(z r:List Int) (rows:Pm.Rows) (clk:Nat),σ=⟨fa [(0,Po r),(1,Po y),(6, .own 25 v6 0 k0),(7, .int .i64 i)],rows,clk⟩ ∧
   rows 25=some ⟨v6,38,2,emap ie z⟩∧z.length=k0∧exs y i z r=R0∧Bd LL (s+(N-i)*d) (N+N) z∧Bd LL (s+(N-i)*d) (N+N) r∧Cn r) ?_ ?_
  ·
   refine W.seq ?_
   refine jG ?_
   refine cU hDr ?_
   refine cQ [0,1,6,7,39] hDy ?_
   by_cases hlen:r.length<y.length+i
   ·rw [if_pos hlen]at yX
    refine bJ ?_ ?_<;>intro h
    ·refine fH ?_
     exact⟨_,aB _ [0,1,6,7],z,r,_,_,rfl,ac0,hz,yX,bz.mono (by omega) (by omega),br.mono (by omega) (by omega),cr⟩
    ·exfalso;simp at h;omega
   rw [if_neg hlen]at yX
   refine bJ ?_ ?_<;>intro h
   ·exfalso;simp at h;omega
   clear h
   have hE:=IP (v:=lead r) (c:=lead y) (by omega) (by omega) hly
   refine W.skip ?_
   by_cases hdv:lead r%lead y=0
   ·rw [if_pos hdv]at hE yX
    have hts:sz LL (lead r/lead y)≤s+(N-(i+1))*d:=Nat.le_trans (dJ gF (Int.natAbs_ediv_le_natAbs _ _)) hlr
    have bs:=Bd.qF hts i
    have bm:=bs.bQ gF U0
    have b2:Bd LL (s+(N-i)*d) (N+N) (fM r (bQ (qF i (lead r/lead y)) y)):=(Bd.fM gF (br.mono (s':=s+(N-(i+1))*d+s'+N) (n':=N+N) (by omega) (by omega)) (bm.mono (by omega) (by omega))).mono (by omega) (by omega)
    have f4:=xN bs U0 (by omega)
    have f5:=F9 (PB.of br (by omega) (by omega)) (PB.of bm (by omega) (by omega))
    have cr2:Cn (fM r (bQ (qF i (lead r/lead y)) y)):=Cn.fM _ _
    have bz2:=Bd.set (i:=i) (bz.mono (s':=s+(N-i)*d) (n':=N+N) (by omega) (by omega)) (Nat.le_trans hts (by omega))
    generalize bS:fM r (bQ (qF i (lead r/lead y)) y)=r2 at *
    generalize bQ (qF i (lead r/lead y)) y=pm at *
    generalize lead r/lead y=tt at *
    have acV:=rP i tt
    have anv:(qF i tt).length=i+1:=by simp [qF]
    have iQ:=bM anv
    generalize lead r=lr at *
    generalize lead y=ly at *
    refine jG ?_
    refine cU hLr ?_
    refine cU hL ?_
    refine cQ [0,1,6,7,8,9] hE ?_
    refine aP [0,1,6,7,8,49] ?_
    refine bJ ?_ ?_<;>intro h
    ·cases h
    refine W.skip ?_
    refine W.sr ?_
    simp (disch:=omega) [gw,ac0,hz]
    refine bG [0,1,6,7,8] ?_
    have e9:((i:Int)+1).toNat=i+1:=by omega
    refine W.sr ?_
    simp (disch:=omega) [gw,e9]
    refine bG [0,1,6,7,8,10] ?_
    refine W.row (id:=56) (emap ie (List.replicate (i+1) 0)) (by simp;exact⟨rfl,rfl,rfl⟩) (rK _) ?_
    refine W.sr ?_
    simp (disch:=omega) [gw,acV]
    refine bG [0,1,6,7,10] ?_
    refine W.freeze 56 (by simp) (fun K hK=>?_)
    simp [iQ]
    refine hK _ ?_;clear hK K
    refine W.cA (fun K hK=>?_)
    simp (disch:=omega) [gw]
    refine cU f4 ?_
    refine cU f5 ?_
    exact hK _ ⟨_,aB _ [0,1,6,7],z.set i tt,r2,_,_,rfl,by simp,by simp [hz],yX,bz2,b2,cr2⟩
   ·rw [if_neg hdv]at hE yX
    subst yX
    refine jG ?_
    refine cU hLr ?_
    refine cU hL ?_
    refine cQ [0,1,6,7,8,9] hE ?_
    refine aP [0,1,6,7,8,49] ?_
    refine bJ ?_ ?_<;>intro h
    ·refine aA [4,5] ?_
     refine W.ret ?_
     simp [go,exR,exF]
     rfl
    ·cases h
  rintro _ ⟨z,r,rows,clk,rfl,ac0,hz,yX,bz,br,cr⟩
  refine W.cA (fun K hK=>?_);simp (disch:=omega) [gw]
  refine hK _ ⟨i,_,aB _ [0,1,6,7],by omega,v6,z,r,_,_,rfl,by simp [ac0],hz,by omega,yX,bz,br,cr⟩
 ·have hj0:j=0:=by simp at h;omega
  subst hj0
  simp only [exs]at yX
  rw [←yX]
  have hN0:=hNN 0 (by omega)
  have hzn:=fE (PB.of bz (by omega) (by omega))
  have hzz:=bM hz
  refine fH ?_
  refine aP [6,68] ?_
  cases r with
  | nil =>
   refine bJ ?_ ?_<;>intro h
   ·exfalso;simp at h
   refine W.skip ?_
   refine W.sr ?_
   simp (disch:=omega) [gw,ac0,hzz]
   refine cQ [4,5] hzn ?_
   refine W.ret ?_
   simp [go,exR,exF]
  | cons c r =>
   refine bJ ?_ ?_<;>intro h
   ·refine aA [4,5] ?_
    refine W.ret ?_
    simp [go,exR,exF]
    rfl
   ·exfalso;simp at h
theorem C3{d:Nat}{x:List Int}(h:∀c∈x,(d:Int)∣c):d∣bN x:=by
 have key:∀(l:List Int) (g:Nat),d∣g→(∀c∈l,(d:Int)∣c)→d∣l.foldl (fun g c=>Nat.gcd g c.natAbs) g:=by
  intro l
  induction l with
  | nil=>intro g hg _;exact hg
  | cons c l ih =>
   intro g hg hl
   rw [List.foldl_cons]
   exact ih _ (Nat.dvd_gcd hg (Int.ofNat_dvd_left.1 (hl c (by simp)))) fun v hv=>hl v (by simp [hv])
 exact key x 0 (Nat.dvd_zero d) h
theorem AB{x:List Int}{g:Int}(h:∀c∈x,g∣c):(x.map (pV g)).map (· * g)=x:=by
 rw [List.map_map]
 refine(List.map_congr_left fun v hv=>?_).trans (List.map_id _)
 have h1:v%g=0:=Int.emod_eq_zero_of_dvd (h v hv)
 simp only [Function.comp_apply,pV,id_eq]
 rw [if_pos h1]
 exact Int.ediv_mul_cancel (h v hv)
theorem xO{x y:List Int}{g:Int}(hg:g≠0)(h:y.map (· * g)=x)(e:bN x=g.natAbs):bN y=1:=by
 have:=lK g y
 rw [h,e]at this
 exact Nat.eq_of_mul_eq_mul_right (show 0<g.natAbs by omega) (by omega)
theorem eA(t:Int)(g:Int)(x:List Int):V t (x.map (· * g))=V t x*g:=by
 have:=gX (t:=t) g id x
 simp only [id_eq,List.map_id_fun]at this
 exact this
theorem ac1{x y:List Int}(cx:Cn x)(cy:Cn y)(hx:x ≠ [])(hy:y ≠ []):bN (bQ x y)=bN x*bN y:=by
 have gx:=cO cx hx
 have gy:=cO cy hy
 have hp:bN (bQ x y)≠0:=cO (Cn.bQ _ _) fun h=>by
  have:=j0 cx cy (List.length_pos_iff.2 hx) (List.length_pos_iff.2 hy)
  rw [h]at this
  have h1:=List.length_pos_iff.2 hx
  have h2:=List.length_pos_iff.2 hy
  simp only [List.length_nil]at this
  omega
 obtain⟨x',FA⟩:∃x':List Int,x'.map (· * (bN x:Int))=x:=⟨_,AB (iI x)⟩
 obtain⟨y',xA⟩:∃y':List Int,y'.map (· * (bN y:Int))=y:=⟨_,AB (iI y)⟩
 have px:=xO (by omega) FA (by omega)
 have py:=xO (by omega) xA (by omega)
 have e:bQ x y=(bQ x' y').map (· * ((bN x:Int)*bN y)):=by
  rw [←sL (Cn.bQ _ _) (Int.mul_ne_zero (by omega) (by omega))]
  refine Cn.ext (Cn.bQ _ _) (Cn.bA _ _) fun t=>?_
  have h1:=eA t (bN x) x'
  have h2:=eA t (bN y) y'
  rw [FA]at h1
  rw [xA]at h2
  rw [dG,cV,dG,h1,h2]
  grind
 rw [e,lK]at hp
 rw [e,lK,Int.natAbs_mul]
 have hd:0<bN (bQ x' y'):=Nat.pos_of_mul_pos_right (Nat.pos_of_ne_zero hp)
 have hD:=UJ _ (bN (bQ x' y')) x' y' (Nat.le_refl _) hd (Dv.of (iI _)) (fun d _ hy=>Nat.dvd_one.1 (py▸C3 hy.mem))
 have h1:bN (bQ x' y')=1:=Nat.dvd_one.1 (px▸C3 hD.mem)
 rw [h1,Nat.one_mul]
 simp
def lL(x:List Int):Int:=if lead x<0 then -(bN x:Int)else bN x
def rQ(x:List Int):List Int:=aQ (x.map (pV (lL x)))
theorem n4(x:List Int):(lL x).natAbs=bN x:=by unfold lL;split<;>omega
theorem IQ(x:List Int):∀c∈x,lL x∣c:=fun c hc=>by
 have:=iI x c hc
 unfold lL;split
 ·exact Int.neg_dvd.2 this
 ·exact this
theorem IU{x:List Int}(cx:Cn x)(hx:x ≠ []):(rQ x).map (· * lL x)=x:=by
 have gx:=cO cx hx
 have h0:=n4 x
 rw [←sL (show Cn (rQ x)from Cn.cut _) (show lL x≠0 by omega)]
 refine Cn.ext (Cn.bA _ _) cx fun t=>?_
 rw [cV,rQ,c8,←eA,AB (IQ x)]
theorem Y6{x:List Int}(cx:Cn x)(hx:x ≠ []):bA (rQ x) (lL x)=x:=by
 have gx:=cO cx hx
 have h0:=n4 x
 rw [sL (show Cn (rQ x)from Cn.cut _) (show lL x≠0 by omega)]
 exact IU cx hx
theorem ahb{x:List Int}(cx:Cn x)(hx:x ≠ []):bN (rQ x)=1:=by
 have gx:=cO cx hx
 have h0:=n4 x
 exact xO (by omega) (IU cx hx) h0.symm
theorem ac2{x:List Int}(cx:Cn x)(hx:x ≠ []):0<lead (rQ x):=by
 have gx:=cO cx hx
 have h:=IU cx hx
 have hl:(rQ x).length=x.length:=by rw [←congrArg List.length h];simp
 have o7:=List.length_pos_iff.2 hx
 have h1:lead x=lead (rQ x)*lL x:=by
  rw [lead,lead,hl,←jQ,h]
 have nJ:=dA (x:=rQ x) (Cn.cut _) (by omega)
 have hg:(0:Int)<bN x:=by omega
 unfold lL at h1
 rcases Int.lt_trichotomy (lead (rQ x)) 0 with h2 | h2 | h2
 ·exfalso
  split at h1
  ·rename_i h3
   have:=Int.mul_pos (show (0:Int) < -lead (rQ x)by omega) hg
   rw [Int.mul_neg,←Int.neg_mul]at h1
   omega
  ·rename_i h3
   have:=Int.mul_pos (show (0:Int) < -lead (rQ x)by omega) hg
   rw [Int.neg_mul]at this
   omega
 ·exact absurd h2 nJ
 ·exact h2
theorem tO(a:RP){s n:Nat}(ha:s6 a)(sa:Bd LL s n (a.map gv))(hs:s<1099511627774)(hn:n<1099511627774) :
  aF env.P 137 [Pg a] (.dU [I (lL (mS a)),Po (rQ (mS a))]):=by
 have hA:Bd LL s n (mS a):=sa.cut
 have ca:Cn (mS a):=Cn.cut _
 have na:=iO a ha
 rw [show aQ (a.map gv)=mS a from rfl]at na
 refine cD [(0,Pg a)] Tryz.func137 ?_
 generalize mS a=x at *
 refine aA [0,2] ?_
 refine aR [0,2] na ?_
 refine aP [0,2,9] ?_
 refine bJ ?_ ?_<;>intro h
 ·have h:x = []:=by simp at h;exact h
  subst h
  rw [show lL ([]:List Int)=0 by decide,show rQ ([]:List Int) = []from rfl]
  refine aA [2,3] ?_
  refine W.ret ?_
  simp [go]
  exact⟨rfl,rfl⟩
 have hx:x ≠ []:=by simp at h;exact h
 clear h
 have o7:=List.length_pos_iff.2 hx
 have gx:=cO ca hx
 have hp0:=n4 x
 have hC:=vW x (PD.of hA hs hn)
 have hL:=lI (PB.of hA (by omega) (by omega)) ca
 have hgs:=U1 (s:=s) hA.sz ca hx
 have ED:sz LL (lL x)≤s:=by
  unfold lL;split
  ·rw [oI];exact hgs
  ·exact hgs
 have hO:=M8 x (lL x) (PD.of hA hs hn) (by omega) (by omega)
 rw [show aQ (x.map (pV (lL x)))=rQ x from rfl]at hO
 have hN:=ach (x:=(bN x:Int)) (by show sz LL _<_;omega)
 refine W.skip ?_
 refine aR [0,2,4] hC ?_
 refine W.iE (fun σ=>∃(rows:Pm.Rows) (clk:Nat),σ=⟨fa [(0,Po x),(2, .ptr 2 0 0 0),(4, .ptr 4 1 0 0)],rows,clk⟩∧rows 2=some ⟨0,38,2,[[.bool false, .nil]]⟩∧rows 4=some ⟨1,38,2,[ie (lL x)]⟩) ?_ ?_
 ·refine W.fA (fun σ=>∃(rows:Pm.Rows) (clk:Nat),σ=⟨fa [(0,Po x),(2, .ptr 2 0 0 0),(4, .ptr 4 1 0 0),(16, .bool (decide (lead x<0)))],rows,clk⟩∧rows 2=some ⟨0,38,2,[[.bool false, .nil]]⟩∧rows 4=some ⟨1,38,2,[ie (bN x)]⟩) (fun K hK=>?_) ?_
  ·simp (disch:=omega) [gw]
   refine cU hL ?_
   refine hK _ _ (aB _ [0,2,4,16]) ⟨_,_,rfl,?_,?_⟩<;>simp [ie]
  rintro _ ⟨rows,clk,rfl,bS,dS⟩
  refine W.ab0 (lead x<0) rfl (fun h=>?_) (fun h=>?_)
  ·rw [lL,if_pos h]
   refine W.cA (fun K hK=>?_)
   simp (disch:=omega) [gw,dS]
   refine aC hN ?_
   simp (disch:=omega) [gw,dS]
   exact hK _ ⟨_,aB _ [0,2,4],_,_,rfl,by simp [bS],by simp⟩
  ·rw [lL,if_neg h]
   refine W.skip ?_
   exact⟨_,aB _ [0,2,4],_,_,rfl,bS,dS⟩
 rintro _ ⟨rows,clk,rfl,bS,dS⟩
 generalize lL x=c at *
 generalize rQ x=p at *
 refine W.sd ?_
 simp (disch:=omega) [gw,dS]
 refine aC hO ?_
 simp (disch:=omega) [gw,bS,dS]
 refine bG [2,3] ?_
 exact cC
abbrev qd(x:List Int)(D:Int):List Rat:=x.map fun v=>dM v D
theorem fJ{v D:Int}(h:D≠0):dM v D=(v:Rat)/(D:Rat):=by rw [dM,if_neg h,Rat.divInt_eq_div]
theorem gV{D:Int}(h:D≠0):(D:Rat)≠0:=fun h2=>h (by exact_mod_cast h2)
theorem vX{D:Int}(h:D≠0):dM 0 D=0:=by rw [fJ h];simp [Rat.div_def]
theorem yZ{v D:Int}(h:D≠0):dM v D=0↔v=0:=by
 constructor
 ·intro h2
  rw [fJ h]at h2
  have h3:=gV h
  have:(v:Rat)=0:=by
   have h4:(v:Rat)/(D:Rat)*D=0:=by rw [h2];grind
   rw [Rat.div_mul_cancel h3]at h4
   exact h4
  exact_mod_cast this
 ·rintro rfl;exact vX h
theorem U2{v D l:Int}(h:D≠0)(hl:l≠0):dM (v*l) (D*l)=dM v D:=by
 rw [fJ h,fJ (Int.mul_ne_zero h hl),Rat.intCast_mul,Rat.intCast_mul]
 have h1:=gV h
 have h2:=gV hl
 grind
theorem ahc{v w D:Int}(h:D≠0):dM v D+dM w D=dM (v+w) D:=by
 rw [fJ h,fJ h,fJ h,Rat.intCast_add]
 have h1:=gV h
 grind
theorem U3{v D:Int}(h:D≠0):dM v D*(-1)=dM (-v) D:=by
 rw [fJ h,fJ h,Rat.intCast_neg]
 have h1:=gV h
 grind
theorem ac3{v w D:Int}(h:D≠0):(w:Rat)*dM v D=dM (w*v) D:=by
 rw [fJ h,fJ h,Rat.intCast_mul]
 have h1:=gV h
 grind
theorem ahd{v D l:Int}(h:D≠0)(hl:l≠0):dM v D/(l:Rat)=dM v (D*l):=by
 rw [fJ h,fJ (Int.mul_ne_zero h hl),Rat.intCast_mul]
 have h1:=gV h
 have h2:=gV hl
 grind
theorem vY{D:Int}(h:D≠0):∀x:List Int,nO (qd x D)=qd (aQ x) D
 | []=>rfl
 | a::x=>by
  have ih:=vY h x
  simp only [qd,List.map_cons]at ih ⊢
  rw [nO,ih,aQ]
  by_cases h1:aQ x = []∧a=0
  ·simp [h1,vX h]
  ·rw [if_neg h1,if_neg (by simpa [yZ h]using h1)];simp
theorem IW{D:Int}(h:D≠0)(x:List Int)(k:Nat):nth (qd x D) k=dM (nth x k) D:=z7 (f:=fun v=>dM v D) (vX h) x k
theorem ahe{D:Int}(h:D≠0)(x y:List Int):acA (qd x D) (qd y D)=qd (iG x y) D:=by
 rw [acA,iG,←vY h]
 congr 1
 simp only [qd,List.length_map,List.map_map]
 congr 1
 funext k
 simp only [Function.comp_apply]
 rw [show nth (List.map (fun v=>dM v D) x) k=_ from IW h x k,show nth (List.map (fun v=>dM v D) y) k=_ from IW h y k,ahc h]
theorem ahf{D:Int}(h:D≠0)(x:List Int):kO (qd x D) (-1)=qd (gW x) D:=by
 rw [kO,gW,←vY h]
 congr 1
 simp only [qd,List.map_map]
 congr 1
 funext k
 simp only [Function.comp_apply]
 exact U3 h
theorem Y7{D:Int}(h:D≠0)(y:List Int)(v:Int):kO (qs y) (dM v D)=qd (bA y v) D:=by
 rw [kO,bA,←vY h]
 congr 1
 simp only [qd,qs,List.map_map]
 congr 1
 funext k
 simp only [Function.comp_apply]
 exact ac3 h
theorem RZ{D l:Int}(h:D≠0)(hl:l≠0)(x:List Int):qd (x.map (· * l)) (D*l)=qd x D:=by
 simp only [qd,List.map_map]
 congr 1
 funext k
 simp only [Function.comp_apply]
 exact U2 h hl
theorem IX(x:List Int):qd x 1=qs x:=by
 simp only [qd,qs,lS]
theorem uF{v D:Int}{k:Nat}(h:D≠0)(hv:sz 2 v≤k)(hD:sz 2 D≤k):ZR k (dM v D):=by
 refine⟨Nat.le_trans (dJ (by decide) ?_) hv,Nat.le_trans (dJ (by decide) ?_) hD⟩
 ·rw [sI _ _ h]
  refine Nat.le_trans (Int.natAbs_ediv_le_natAbs _ _) ?_
  split<;>simp
 ·rw [sJ _ _ h]
  refine Nat.le_trans (Int.natAbs_ediv_le_natAbs _ _) ?_
  split<;>simp
theorem R3{x:List Int}{D:Int}{k n:Nat}(h:D≠0)(hx:Bd 2 k n x)(hD:sz 2 D≤k)(hk:k≤YY)(hn:n<1099511627776):YK (qd x D):=⟨fun q hq=>by
 simp only [List.mem_map]at hq
 obtain⟨v,hv,rfl⟩:=hq
 exact uF h (Nat.le_trans (hx.sz v hv) hk) (Nat.le_trans hD hk),by have:=hx.len;simp;omega⟩
structure DS where
 Q:List Int
 r:List Int
 D:Int
def dst(y:List Int)(σ:DS):DS:=⟨(σ.Q.map (· * lead y)).set (σ.r.length-y.length) (lead σ.r),w5 y (lead y) (lead σ.r) (σ.r.length-y.length) σ.r,σ.D*lead y⟩
def Y8(y:List Int):Nat→DS→DS
 | 0,σ=>σ
 | n+1,σ=>if σ.r.length<y.length then σ else Y8 y n (dst y σ)
def dmd(x y:List Int):DS:=Y8 y (x.length+1) ⟨List.replicate (jP x y) 0,x,1⟩
theorem IY{y:List Int}{σ:DS}(hy:0<y.length)(h:y.length≤σ.r.length):(dst y σ).r.length<σ.r.length:=by
 have h1:=z9 (b:=y) (r:=σ.r) (i:=σ.r.length-y.length) hy (by omega)
 rw [show vJ y σ.r (σ.r.length-y.length)=lead σ.r from by rw [vJ,if_pos (by omega)]]at h1
 show(w5 y (lead y) (lead σ.r) (σ.r.length-y.length) σ.r).length<_
 omega
theorem ahg{y:List Int}{σ:DS}(h:σ.r.length<y.length):∀n,Y8 y n σ=σ
 | 0=>rfl
 | n+1=>by rw [Y8,if_pos h]
structure uG(x y:List Int)(σ:DS):Prop where
 v:∀t,σ.D*V t x=V t σ.Q*V t y+V t σ.r
 z:∀j,j+y.length≤σ.r.length→nth σ.Q j=0
 c:Cn σ.r
 d:σ.D≠0
 q:σ.r.length+1≤σ.Q.length+y.length∨σ.r.length<y.length
theorem uG.step{x y:List Int}{σ:DS}(cy:Cn y)(hy:0<y.length)(h:y.length≤σ.r.length)(hI:uG x y σ):uG x y (dst y σ):=by
 have hl:=dA cy hy
 have dN:=IY hy h
 have hq:=hI.q.resolve_right (by omega)
 have hk:σ.r.length-y.length<(σ.Q.map (· * lead y)).length:=by simp;omega
 have h1:=z9 (b:=y) (r:=σ.r) (i:=σ.r.length-y.length) hy (by omega)
 rw [show vJ y σ.r (σ.r.length-y.length)=lead σ.r from by rw [vJ,if_pos (by omega)]]at h1
 refine⟨fun t=>?_,fun j hj=>?_,Cn.fM _ _,Int.mul_ne_zero hI.d hl,?_⟩
 ·have h2:=hI.v t
  have h3:=FT (b:=t) (x:=lead σ.r) hk
  have h4:nth (σ.Q.map (· * lead y)) (σ.r.length-y.length)=0:=by
   rw [jQ,hI.z _ (by omega)];simp
  show σ.D*lead y*V t x=V t ((σ.Q.map (· * lead y)).set (σ.r.length-y.length) (lead σ.r))*V t y+V t (w5 y (lead y) (lead σ.r) (σ.r.length-y.length) σ.r)
  rw [h3,h4,eA,w5,iZ,dG,nY,cV]
  have h5:σ.D*lead y*V t x=lead y*(σ.D*V t x):=by grind
  rw [h5,h2];grind
 ·have hj:j+y.length≤(w5 y (lead y) (lead σ.r) (σ.r.length-y.length) σ.r).length:=hj
  show nth ((σ.Q.map (· * lead y)).set (σ.r.length-y.length) (lead σ.r)) j=0
  rw [gT (by omega),jQ,hI.z _ (by omega)];simp
 ·left
  have:(dst y σ).Q.length=σ.Q.length:=by simp [dst]
  omega
theorem uG.Y8{x y:List Int}(cy:Cn y)(hy:0<y.length):∀(n:Nat) (σ:DS),σ.r.length<n→uG x y σ→uG x y (Y8 y n σ)∧(Proofs.YtiobceocpabjdaaGreat.Y8 y n σ).r.length<y.length
 | 0,σ,h,_=>by omega
 | n+1,σ,h,hI=>by
  rw [Proofs.YtiobceocpabjdaaGreat.Y8]
  split
  ·rename_i h1;exact⟨hI,h1⟩
  ·rename_i h1
   exact uG.Y8 cy hy n _ (by have:=IY (σ:=σ) hy (by omega);omega) (hI.step cy hy (by omega))
theorem uG.start{x y:List Int}(cx:Cn x):uG x y ⟨List.replicate (jP x y) 0,x,1⟩:=by
 refine⟨fun t=>?_,fun j hj=>?_,cx,show(1:Int)≠0 by decide,?_⟩
 ·simp [qB]
 ·rcases Nat.lt_or_ge j (jP x y)with h | h
  ·rw [cB (by simpa using h)];simp
  ·rw [iF (by simpa using h)];rfl
 ·simp only [jP,List.length_replicate];omega
theorem ahh{x y:List Int}(cx:Cn x)(cy:Cn y)(hy:0<y.length):uG x y (dmd x y)∧(dmd x y).r.length<y.length:=uG.Y8 cy hy _ _ (Nat.lt_succ_self _) (uG.start cx)
@[simp] theorem atW{l:List Rat}{i:Nat}{q:Rat}:gZ (emap re l) i 0 [aN aI (aU DD q.num.natAbs), .bool (decide (q.num<0)),aN aI (aU DD q.den), .bool false]=emap re (l.set i q):=AA (n:=4) (fun _=>rfl)
theorem C4(x:List Int):emap re (qs x)=emap ri x:=by simp only [emap,qs,List.map_map,Function.comp_def,iH]
theorem ac5(a b n:List Rat)(ha:YK a)(hb:YK b)(hn:kO b (-1)=n)(hn2:YK n):aF env.P 266 [PP a,PP b] (PP (acA a n)):=by
 have h1:=MT b hb
 rw [hn]at h1
 have h2:=acB a n ha hn2
 refine cD [(0,PP a),(1,PP b)] Tryz.func266 ?_
 refine aA [0,1] ?_
 refine jG ?_
 refine cU h1 ?_
 refine cQ [4] h2 ?_
 exact cC
end Go.Proofs.YtiobceocpabjdaaGreat
