import Derived.Test.YtelhfbikiccfkaaGreatCaf
import Derived.Test.YtelhfbikiccfkaaGreatCai
set_option linter.unusedSimpArgs false
set_option linter.unusedVariables false
namespace Go.Proofs.YtelhfbikiccfkaaGreat
open Go Pm
theorem acR{t:Int}(h0:0<t)(h1:t<4294967296):∃s:Nat,s≤31∧(32:Int)-nb t.toNat=s∧2147483648≤t*2^s∧(t+1)*2^s≤4294967296:=by
 have h2:nb t.toNat≤32:=n9.2 (by omega)
 have h3:1≤nb t.toNat:=by
  rcases Nat.eq_zero_or_pos (nb t.toNat)with h | h
  ·have:=n9.1 (Nat.le_of_eq h);omega
  ·exact h
 obtain⟨k,hk⟩:∃k,nb t.toNat=k+1:=⟨nb t.toNat-1,by omega⟩
 have h4:t.toNat<2^(k+1):=n9.1 (Nat.le_of_eq hk)
 have h5:2^k≤t.toNat:=by
  rcases Nat.lt_or_ge t.toNat (2^k)with h | h
  ·have:=n9.2 h;omega
  ·exact h
 have e1:(2:Int)^(k+1)*2^(31-k)=4294967296:=by rw [←Int.pow_add,show k+1+(31-k)=32 by omega];rfl
 have e2:(2:Int)^k*2^(31-k)=2147483648:=by rw [←Int.pow_add,show k+(31-k)=31 by omega];rfl
 have hp:(0:Int)<2^(31-k):=Int.pow_pos (by decide)
 have q1:((2^k:Nat):Int)=(2:Int)^k:=Int.natCast_pow 2 k
 have q2:((2^(k+1):Nat):Int)=(2:Int)^(k+1):=Int.natCast_pow 2 (k+1)
 refine⟨31-k,by omega,by omega,?_,?_⟩
 ·have:=Int.mul_le_mul_of_nonneg_right (show (2:Int)^k≤t by omega) (Int.le_of_lt hp)
  omega
 ·have:=Int.mul_le_mul_of_nonneg_right (show t+1≤(2:Int)^(k+1)by omega) (Int.le_of_lt hp)
  omega
theorem Y2{y:List Int}(hc:aP y=y)(h:y ≠ []):nth y (y.length-1)≠0:=by
 intro h0
 have hl:0<y.length:=List.length_pos_iff.2 h
 have e:y=y.take (y.length-1) ++ [0]:=by
  have:=bI (l:=y) (i:=y.length-1) (by omega)
  rw [h0,show y.length-1+1=y.length by omega,List.take_length]at this
  exact this
 have h1:=jV (y.take (y.length-1))
 rw [←e,hc]at h1
 have h2:=bZ (y.take (y.length-1))
 rw [←h1,List.length_take]at h2
 omega
theorem acS:N 0=us []:=rfl
theorem acT{m i:Nat}{X D:List Int}{Y g:Int}(lX:cU 4294967296 X)(lD:cU 4294967296 D)(hYb:Y<4294967296^(m+2))(hY0:0<Y)(uT:i+m+3≤X.length)(hDl:D.length=(X.drop i).length)(hDd:D.drop (m+3)=(X.drop i).drop (m+3))
  (hg:g=V 4294967296 ((X.drop i).take (m+3))/Y) (hDv:V 4294967296 (D.take (m+3))=V 4294967296 ((X.drop i).take (m+3))%Y) (dA:V 4294967296 (X.drop (i+1))<Y) :
  V 4294967296 ((X.take i++D).drop i)<Y∧V 4294967296 (X.take i++D)=V 4294967296 X-4294967296^i*(g*Y):=by
 have hl:(X.take i).length=i:=by simp;omega
 have e1:(X.take i++D).drop i=D:=by rw [List.drop_append,hl,List.drop_of_length_le (by omega)];simp
 have hD3:=kH (b:=4294967296) D (m+3) (by rw [hDl];simp;omega)
 have hX3:=kH (b:=4294967296) (X.drop i) (m+3) (by simp;omega)
 have hXi:=kH (b:=4294967296) X i (by omega)
 have hz:V 4294967296 ((X.drop i).drop (m+3))=0:=by
  have h1:=kH (b:=4294967296) (X.drop (i+1)) (m+2) (by simp;omega)
  have h2:(X.drop (i+1)).drop (m+2)=(X.drop i).drop (m+3):=by
   rw [List.drop_drop,List.drop_drop];congr 1;omega
  have h3:=bN (b:=4294967296) (by decide) ((lX.drop (i+1)).take (m+2))
  have h4:=bN (b:=4294967296) (by decide) ((lX.drop i).drop (m+3))
  rw [h2]at h1
  rcases Int.lt_or_le 0 (V 4294967296 ((X.drop i).drop (m+3)))with h5 | h5
  ·exfalso
   have:=Int.mul_le_mul_of_nonneg_left (show 1≤V 4294967296 ((X.drop i).drop (m+3))by omega) (show 0≤(4294967296:Int)^(m+2)by omega)
   omega
  ·omega
 rw [hDd,hz,Int.mul_zero,Int.add_zero]at hD3
 rw [hz,Int.mul_zero,Int.add_zero]at hX3
 have hm:=Int.emod_lt_of_pos (V 4294967296 ((X.drop i).take (m+3))) hY0
 have YS:=Int.mul_ediv_add_emod (V 4294967296 ((X.drop i).take (m+3))) Y
 rw [←hg,←hDv,←hX3,←hD3]at YS
 refine⟨by rw [e1,hD3,hDv];exact hm,?_⟩
 rw [dZ,hl,hXi,←YS]
 grind
theorem NA(a b:List Int)(ha:s8 a)(hb:s8 b)(h0:V 4294967296 b=0):aD env.P 256 [us a,us b] (.eB [us [],us [], .int .i64 2]):=by
 have hlb:=hb.len
 have R9:=ha.len
 have hcb:=bZ b
 have hy:aP b = []:=by rw [rT fV hb.zI];show aN LL (V 4294967296 b).toNat = [];rw [h0];rfl
 refine bY [(0,us a),(1,us b)] Tryz.func256 ?_
 refine aA [0,1] ?_
 refine iB ?_
 refine aB (dP a (by omega)) ?_
 simp (disch:=omega) [gw]
 refine aB (dP b (by omega)) ?_
 simp (disch:=omega) [gw]
 refine bL [0,1] ?_
 rw [hy]
 refine W.seq ?_
 refine W.block ?_
 refine aA [0,1,18] ?_
 refine bC ?_ ?_<;>intro h
 ·refine aA [4,5,6] ?_
  refine W.ret ?_
  simp [go]
  rfl
 ·cases h
theorem CZ(a b:List Int)(ha:s8 a)(hb:s8 b)(h0:V 4294967296 b≠0)(R9:a.length<1099511627774)(hlb:b.length<1099511627774) :
  aD env.P 256 [us a,us b] (.eB [N (V 4294967296 a/V 4294967296 b),N (V 4294967296 a%V 4294967296 b), .int .i64 0]):=by
 have hca:=bZ a
 have hcb:=bZ b
 have hVa:=c9 (b:=4294967296) a
 have hVb:=c9 (b:=4294967296) b
 have lx:=eF ha.zI
 have ly:=eF hb.zI
 have cx:=eG a
 have cy:=eG b
 rw [←hVa,←hVb]
 rw [←hVb]at h0
 refine bY [(0,us a),(1,us b)] Tryz.func256 ?_
 refine aA [0,1] ?_
 refine iB ?_
 refine aB (dP a (by omega)) ?_
 simp (disch:=omega) [gw]
 refine aB (dP b (by omega)) ?_
 simp (disch:=omega) [gw]
 refine bL [0,1] ?_
 have hxl:(aP a).length<1099511627774:=by omega
 have P6:(aP b).length<1099511627774:=by omega
 clear hVa hVb hca hcb
 generalize aP a=x at *
 generalize aP b=y at *
 have hyn:y ≠ []:=fun h=>h0 (by rw [h];rfl)
 have hyp:0<y.length:=List.length_pos_iff.2 hyn
 have hY0:0<V 4294967296 y:=by have:=bN (b:=4294967296) (by decide) ly;omega
 have hX0:=bN (b:=4294967296) (by decide) lx
 refine W.seq ?_
 refine W.block ?_
 refine aA [0,1,18] ?_
 refine bC ?_ ?_<;>intro h
 ·exfalso;simp at h;exact hyn h
 clear h
 refine aA [0,1,22] ?_
 refine bC ?_ ?_<;>intro h
 ·have h:x.length<y.length:=by simp at h;omega
  have tW:=jX (b:=4294967296) (by decide) lx ly cy h
  rw [Int.ediv_eq_zero_of_lt hX0 tW,Int.emod_eq_of_lt hX0 tW]
  refine iB ?_
  refine aB (nJ x (by omega) lx) ?_
  simp (disch:=omega) [gw]
  refine bL [4,5,6] ?_
  refine W.ret ?_
  simp [go]
  rfl
 have tW:y.length≤x.length:=by simp at h;omega
 clear h
 refine aA [0,1,30] ?_
 refine bC ?_ ?_<;>intro h
 ·have h:y.length=1:=by simp at h;omega
  obtain⟨w,rfl⟩:∃w,y = [w]:=match y,h with | [w],_=>⟨w,rfl⟩
  have hw:=(cU.cons.1 ly).1
  have hV1:V 4294967296 [w]=w:=n6
  rw [hV1]at h0 hY0 ⊢
  have PZ:=Int.emod_nonneg (V 4294967296 x) h0
  have GN:=Int.emod_lt_of_pos (V 4294967296 x) hY0
  have i5:=ag4 x w (by omega) lx hY0 hw.2
  have lr:cU 4294967296 [V 4294967296 x%w]:=cU.cons.2 ⟨⟨PZ,by omega⟩,cU.nil⟩
  have nU:=dP [V 4294967296 x%w] (by simp)
  rw [wD lr,n6]at nU
  have hnw:nth [w] 0=w:=rfl
  generalize V 4294967296 x/w=qq at *
  generalize V 4294967296 x%w=rr at *
  refine W.sr ?_
  simp (disch:=omega) [gw,hnw]
  refine bS [7,8] i5 ?_
  refine aJ [4,5,6] nU ?_
  exact bV
 have hy2:2≤y.length:=by simp at h;omega
 clear h
 obtain⟨m,hm⟩:∃m,y.length=m+2:=⟨y.length-2,by omega⟩
 have htn:=Y2 cy hyn
 rw [show y.length-1=m+1 by omega]at htn
 have htl:=ly.nth (i:=m+1) (by omega)
 obtain⟨s,ahb,hsn,pY,VN⟩:=acR (t:=nth y (m+1)) (by omega) htl.2
 have hLZ:=am6 (nth y (m+1)) htl.1 htl.2
 rw [hsn]at hLZ
 have hp:(0:Int)<2^s:=Int.pow_pos (by decide)
 have atg:(2:Int)^s≤2147483648:=by
  have:=Int.ofNat_le.2 (Nat.pow_le_pow_right (show 0<2 by decide) ahb)
  simpa using this
 have hbm:(0:Int)<4294967296^(m+1):=Int.pow_pos (by decide)
 have ang:=o8 (b:=4294967296) (by decide) lx
 have hVy:=kH (b:=4294967296) y (m+1) (by omega)
 have hy1:V 4294967296 (y.drop (m+1))=nth y (m+1):=by rw [fB (by omega),List.drop_of_length_le (by omega),n6]
 rw [hy1]at hVy
 have ayq:=bN (b:=4294967296) (by decide) (ly.take (m+1))
 have hy3:=o8 (b:=4294967296) (by decide) (ly.take (m+1))
 rw [List.length_take,Nat.min_eq_left (by omega)]at hy3
 have hyU:V 4294967296 y*2^s<4294967296^(m+2):=by
  have h1:V 4294967296 y<(nth y (m+1)+1)*4294967296^(m+1):=by rw [hVy];grind
  have h2:=Int.mul_lt_mul_of_pos_right h1 hp
  have h3:=Int.mul_le_mul_of_nonneg_right VN (Int.le_of_lt hbm)
  have e:(nth y (m+1)+1)*4294967296^(m+1)*2^s=(nth y (m+1)+1)*2^s*4294967296^(m+1):=by grind
  rw [show m+2=(m+1)+1 from rfl,Int.pow_succ]
  omega
 have hyL:2147483648*4294967296^(m+1)≤V 4294967296 y*2^s:=by
  have h1:nth y (m+1)*4294967296^(m+1)≤V 4294967296 y:=by rw [hVy,Int.mul_comm];omega
  have h2:=Int.mul_le_mul_of_nonneg_right h1 (Int.le_of_lt hp)
  have h3:=Int.mul_le_mul_of_nonneg_right pY (Int.le_of_lt hbm)
  have e:nth y (m+1)*4294967296^(m+1)*2^s=nth y (m+1)*2^s*4294967296^(m+1):=by grind
  omega
 have hxU:V 4294967296 x*2^s<4294967296^(x.length+1):=by
  rw [Int.pow_succ]
  exact Int.lt_of_lt_of_le (Int.mul_lt_mul_of_pos_right ang hp) (Int.mul_le_mul_of_nonneg_left (by omega) (Int.le_of_lt (Int.pow_pos (by decide))))
 obtain⟨x',hwx,aDF,lx',anh⟩:=M9 x s (x.length+1) ahb (by omega) lx (by omega) (by omega) hxU
 obtain⟨y',hwy,ath,ly',Y3⟩:=M9 y s (m+2) ahb (by omega) ly (by omega) (by omega) hyU
 have ays:2147483648≤nth y' (m+1):=by
  have h1:=kH (b:=4294967296) y' (m+1) (by omega)
  have h2:V 4294967296 (y'.drop (m+1))=nth y' (m+1):=by rw [fB (by omega),List.drop_of_length_le (by omega),n6]
  have h3:=o8 (b:=4294967296) (by decide) (ly'.take (m+1))
  rw [List.length_take,Nat.min_eq_left (by omega)]at h3
  rw [h2,Y3]at h1
  rcases Int.lt_or_le (nth y' (m+1)) 2147483648 with h4 | h4
  ·exfalso
   have:=Int.mul_le_mul_of_nonneg_left (show nth y' (m+1)+1≤2147483648 by omega) (Int.le_of_lt hbm)
   rw [Int.mul_add,Int.mul_comm _ 2147483648]at this
   omega
  ·exact h4
 have ahc:0<V 4294967296 y':=by rw [Y3];exact Int.mul_pos hY0 hp
 have ayt:V 4294967296 y'<4294967296^(m+2):=by rw [Y3];exact hyU
 have hxm:m+2≤x.length:=by omega
 have hqx:V 4294967296 x/V 4294967296 y=V 4294967296 x'/V 4294967296 y':=by rw [anh,Y3,Int.mul_ediv_mul_of_pos_left _ _ hp]
 have hrx:V 4294967296 x%V 4294967296 y=V 4294967296 x'%V 4294967296 y'/2^s:=by
  rw [anh,Y3]
  have e1:=Int.emod_def (V 4294967296 x*2^s) (V 4294967296 y*2^s)
  rw [Int.mul_ediv_mul_of_pos_left _ _ hp]at e1
  have e2:=Int.emod_def (V 4294967296 x) (V 4294967296 y)
  rw [e1,e2]
  have e3:V 4294967296 x*2^s-V 4294967296 y*2^s*(V 4294967296 x/V 4294967296 y)=(V 4294967296 x-V 4294967296 y*(V 4294967296 x/V 4294967296 y))*2^s:=by grind
  rw [e3,Int.mul_ediv_cancel _ (by omega)]
 have ati:V 4294967296 (x'.drop (x.length-m-1))<V 4294967296 y':=by
  have h1:=kH (b:=4294967296) x' (x.length-m-1) (by omega)
  have h2:=bN (b:=4294967296) (by decide) (lx'.take (x.length-m-1))
  rw [anh]at h1
  have h3:V 4294967296 x*2^s<4294967296^(x.length-m-1)*(4294967296^(m+1)*2^s):=by
   rw [←Int.mul_assoc,←Int.pow_add,show x.length-m-1+(m+1)=x.length by omega]
   exact Int.mul_lt_mul_of_pos_right ang hp
  have h4:V 4294967296 (x'.drop (x.length-m-1))<4294967296^(m+1)*2^s:=Int.lt_of_mul_lt_mul_left (a:=4294967296^(x.length-m-1)) (by omega) (Int.le_of_lt (Int.pow_pos (by decide)))
  have h5:=Int.mul_le_mul_of_nonneg_left atg (Int.le_of_lt hbm)
  rw [Y3]
  rw [Int.mul_comm _ 2147483648]at h5
  omega
 rw [hqx,hrx]
 refine W.skip ?_
 have a1:((m:Int)+2-1)=((m+1:Nat):Int):=by omega
 refine W.sr ?_
 simp (disch:=omega) [gw,hm,a1]
 refine bS [0,1,9] hLZ ?_
 replace hwx:iM env.P 264 [us x, .int .i64 s, .int .i64 ((x.length:Int)+1)] 182 1 (emap u32 x'):=hwx
 replace hwy:iM env.P 264 [us y, .int .i64 s, .int .i64 ((m:Int)+2)] 182 1 (emap u32 y'):=hwy
 refine W.sr ?_
 simp (disch:=omega) [gw,hm]
 refine aj1 hwx 58 (by simp) (by simp) (by simp) ?_
 simp (disch:=omega) [gw,hm]
 refine aj1 hwy 63 (by simp) (by simp) (by simp) ?_
 simp (disch:=omega) [gw]
 refine bL [0,9,10,11] ?_
 refine W.freeze 63 (by simp) (fun K hK=>?_)
 simp
 refine hK _ ?_;clear hK K
 refine W.sr ?_
 simp (disch:=omega) [gw,ath]
 refine bL [0,9,10,11,12] ?_
 obtain⟨ql,hql⟩:∃ql,x.length=ql+m+1:=⟨x.length-m-1,by omega⟩
 rw [show x.length-m-1=ql by omega]at ati
 have aj7:x'.length=ql+m+2:=by omega
 have aq:(x.length:Int)-((m:Int)+2)+1=(ql:Int):=by omega
 refine W.sr ?_
 simp (disch:=omega) [gw,aq]
 refine bL [4,9,10,11,12] ?_
 clear hwx hwy hVy hy1 ayq hy3 hyU hyL hxU hqx hrx htn htl pY VN hsn hLZ ang hY0 hX0
 refine aL [4,9,10,11,12,13] ?_
 refine W.block ?_
 refine W.bG (fun q σ=>∃(v4:Nat) (X Q:List Int) (rows:Pm.Rows) (clk:Nat),σ=⟨fa [(4, .own 71 v4 0 ql),(9, .int .i64 s),(10, .own 58 0 0 (ql+m+2)),(11,us y'),(12, .int .i64 ((m:Int)+2)),(13, .int .i64 ((q:Int)-1))],rows,clk⟩ ∧
  rows 58=some ⟨0,182,1,emap u32 X⟩∧rows 71=some ⟨v4,182,1,emap u32 Q⟩∧q≤ql∧X.length=ql+m+2∧Q.length=ql∧cU 4294967296 X∧cU 4294967296 Q ∧
  V 4294967296 X+4294967296^q*V 4294967296 (Q.drop q)*V 4294967296 y'=V 4294967296 x'∧V 4294967296 (X.drop q)<V 4294967296 y') ql ?_ ?_
 ·exact⟨_,Gh.fr [(4, .own 71 _ 0 ql),(9, .int .i64 s),(10, .own 58 0 0 (ql+m+2)),(11,us y'),(12, .int .i64 ((m:Int)+2)),(13, .int .i64 ((ql:Int)-1))] (by simp [aj7];exact rfl),_,x',List.replicate ql 0,_,_,rfl,by simp,by simp,by omega,aj7,by simp,lx',cU.rep (by decide) _,by simp [V],ati⟩
 rintro q _ ⟨v4,X,Q,rows,clk,rfl,ahd,ani,hq,hXl,hQl,lX,lQ,hVX,hXU⟩
 refine aL [4,9,10,11,12,13,76] ?_
 refine bC ?_ ?_<;>intro h
 ·have P7:0<q:=by simp at h;omega
  obtain⟨i,rfl⟩:∃i,q=i+1:=⟨q-1,by omega⟩
  clear h
  have ei:((i+1:Nat):Int)-1=i:=by omega
  rw [ei]
  have atj:V 4294967296 ((X.drop i).take (m+3))<4294967296*V 4294967296 y':=by
   have h1:=kH (b:=4294967296) (X.drop i) (m+3) (by simp;omega)
   have h2:=bN (b:=4294967296) (by decide) ((lX.drop i).drop (m+3))
   have h3:=Int.mul_nonneg (show (0:Int)≤4294967296^(m+3)from Int.le_of_lt (Int.pow_pos (by decide))) h2
   have h4:V 4294967296 (X.drop i)=nth X i+4294967296*V 4294967296 (X.drop (i+1)):=by rw [fB (by omega)];rfl
   have h5:=lX.nth (i:=i) (by omega)
   omega
  have ahf:=fun(rows:Pm.Rows) clk hr=>SG (id:=58) (ver:=0) (off:=i) (m:=m) X y' rows clk hr ath (by omega) ly' ays lX (by omega) (by omega) atj
  have e6:(i:Int)+((m:Int)+2)+1=((i+m+3:Nat):Int):=by omega
  have e7:((i:Int)+(m:Int)+3).toNat-i=m+3:=by omega
  refine kW ?_
  refine W.cC (fun K hK=>?_)
  simp (disch:=omega) [gw,ahd,hXl,e6,e7]
  refine arW (ahf _ _ ahd) ?_
  rintro r rows' lC ⟨D,rfl,rfl,rfl,hDl,lD,hDd,hDv⟩
  have jD:=acT (g:=V 4294967296 ((X.drop i).take (m+3))/V 4294967296 y') lX lD ayt ahc (by omega) hDl hDd rfl hDv hXU
  have hg0:0≤V 4294967296 ((X.drop i).take (m+3))/V 4294967296 y':=Int.ediv_nonneg (bN (by decide) ((lX.drop i).take _)) (Int.le_of_lt ahc)
  have hg1:V 4294967296 ((X.drop i).take (m+3))/V 4294967296 y'<4294967296:=Int.ediv_lt_of_lt_mul ahc atj
  generalize V 4294967296 ((X.drop i).take (m+3))/V 4294967296 y'=g at *
  have ayw:(X.take i++D).length=ql+m+2:=by simp [hDl];omega
  have lX2:cU 4294967296 (X.take i++D):=cU.append.2 ⟨lX.take i,lD⟩
  obtain⟨ayx,ayy⟩:=jD
  generalize X.take i++D=X2 at *
  simp (disch:=omega) [gw,ani,hQl]
  refine W.lw [4,9,10,11,12,13] hK ?_;clear hK K;simp
  refine W.cC (fun K hK=>?_);simp (disch:=omega) [gw]
  refine hK _ ⟨i,_,aC _ [4,9,10,11,12,13],by omega,v4,X2,Q.set i g,_,_,rfl,by simp,by simp,by omega,ayw,by simp [hQl],lX2,lQ.set ⟨hg0,hg1⟩,?_,ayx⟩
  rw [ayy,fB (l:=Q.set i g) (i:=i) (by simp;omega),eS (by omega),List.drop_set_of_lt (by omega),←hVX]
  simp only [V,Int.pow_succ]
  generalize V 4294967296 (Q.drop (i+1))=vq at *
  grind
 ·have P7:q=0:=by simp at h;omega
  subst P7
  simp only [List.drop_zero,Int.pow_zero,Int.one_mul]at hVX hXU
  have hX0:=bN (b:=4294967296) (by decide) lX
  have hQe:V 4294967296 x'/V 4294967296 y'=V 4294967296 Q:=by
   have e:(V 4294967296 Q+1)*V 4294967296 y'=V 4294967296 Q*V 4294967296 y'+V 4294967296 y':=by grind
   rw [Int.ediv_eq_iff_of_pos ahc]
   constructor<;>omega
  have hRe:V 4294967296 x'%V 4294967296 y'=V 4294967296 X:=by
   have h3:=Int.emod_def (V 4294967296 x') (V 4294967296 y')
   rw [hQe,Int.mul_comm]at h3
   omega
  have hXt:V 4294967296 (X.take (m+2))=V 4294967296 X:=by
   have h1:=kH (b:=4294967296) X (m+2) (by omega)
   have h2:=bN (b:=4294967296) (by decide) (lX.drop (m+2))
   have h3:=bN (b:=4294967296) (by decide) (lX.take (m+2))
   have h4:(0:Int)<4294967296^(m+2):=Int.pow_pos (by decide)
   rcases Int.lt_or_le 0 (V 4294967296 (X.drop (m+2)))with h5 | h5
   ·exfalso
    have:=Int.mul_le_mul_of_nonneg_left (show 1≤V 4294967296 (X.drop (m+2))by omega) (Int.le_of_lt h4)
    omega
   ·have:V 4294967296 (X.drop (m+2))=0:=by omega
    rw [this]at h1;omega
  rw [hQe,hRe,←hXt]
  have zQ:=bO hQl
  have zX:=bO hXl
  have nU:=dP Q (by omega)
  rw [wD lQ]at nU
  have ayz:=ag5 (X.take (m+2)) s ahb (by simp;omega) (lX.take _)
  refine eV ?_
  refine W.freeze 71 (by simp [ani]) (fun K hK=>?_)
  simp [ani,zQ]
  refine hK _ ?_;clear hK K
  refine W.freeze 58 (by simp [ahd]) (fun K hK=>?_)
  simp [ahd,zX]
  refine hK _ ?_;clear hK K
  have e8:((m:Int)+2).toNat=m+2:=by omega
  refine mP ?_
  refine aB nU ?_
  simp (disch:=omega) [gw,hXl,e8]
  refine bS [4,5,6] ayz ?_
  exact bV
theorem JJ{A B:Int}(hB:0<B)(hA:0≤A):(A%B=0→(-A)/B = -(A/B)∧(-A)%B=0)∧(0<A%B→(-A)/B = -(A/B+1)∧(-A)%B=B-A%B):=by
 have h1:=Int.mul_ediv_add_emod A B
 have h2:=Int.emod_lt_of_pos A hB
 constructor
 ·intro h
  refine(Int.ediv_emod_unique hB).2 ⟨?_,by omega,by omega⟩
  rw [Int.mul_neg];omega
 ·intro h
  refine(Int.ediv_emod_unique hB).2 ⟨?_,by omega,by omega⟩
  rw [Int.mul_neg,Int.mul_add];omega
theorem acU(n m:Bool){A B:Int}(hB:0<B)(hA:0≤A) :
  (¬(n=true∧0<A%B)→(if n=true then -A else A)/(if m=true then -B else B)=(if (n != m)=true then -(A/B)else A/B)∧(if n=true then -A else A)%(if m=true then -B else B)=A%B) ∧
  (n=true→0<A%B→(if n=true then -A else A)/(if m=true then -B else B)=(if (n != m)=true then -(A/B+1)else A/B+1)∧(if n=true then -A else A)%(if m=true then -B else B)=B-A%B):=by
 obtain⟨p1,p2⟩:=JJ hB hA
 have h0:=Int.emod_nonneg A (show B≠0 by omega)
 cases n<;>cases m<;>simp [Int.ediv_neg,Int.emod_neg]
 ·exact⟨fun h=>by have:=p1 (by omega);exact⟨this.1,by omega⟩,p2⟩
 ·exact⟨fun h=>by have:=p1 (by omega);exact⟨by omega,by omega⟩,fun h=>by have:=p2 h;exact⟨by omega,this.2⟩⟩
theorem acV(n:Bool)(l:List Int)(h:s8 l):aD env.P 158 [IV n l] (I (V 4294967296 l)):=by
 refine bY [(0,IV n l)] Tryz.func158 ?_
 refine aA [1,2] ?_
 refine iB ?_
 refine cB (nJ l h.len h.zI) ?_
 refine aB (gE _ (qU h) false) ?_
 simp (disch:=omega) [gw]
 refine bL [2] ?_
 exact bV
theorem acW(n:Bool)(l:List Int):aD env.P 111 [IV n l] (.int .i64 (if l.length=0 then 0 else if n=true then -1 else 1)):=by
 refine bY [(0,IV n l)] Tryz.func111 ?_
 refine b9 [1] ?_
 refine W.block ?_
 refine aA [1,3] ?_
 refine bC ?_ ?_<;>intro h
 ·have h:l = []:=by simp at h;exact h
  subst h
  refine aA [2] ?_
  exact bV
 ·have h:l.length≠0:=by simp at h;simpa using h
  rw [if_neg h]
  refine aA [8] ?_
  refine bC ?_ ?_<;>intro h
  ·subst h
   refine aA [2] ?_
   exact bV
  ·subst h
   refine W.skip ?_
   refine aA [2] ?_
   exact bV
theorem ahg(p:RP)(hp:p.length<9223372036854775808):aD env.P 87 [Pg p] (.int .i64 ((p.length:Int)-1)):=by
 refine bY [(0,Pg p)] Tryz.func87 ?_
 refine aA [0] ?_
 refine aA [2] ?_
 exact bV
theorem NB(p:RP)(h:tO p):aD env.P 110 [Pg p] (I (lead (mY p))):=by
 have hl:=h.len
 have gC:=bZ (p.map gv)
 rw [List.length_map]at gC
 refine bY [(0,Pg p)] Tryz.func110 ?_
 refine aA [0,2] ?_
 refine W.seq ?_
 refine aJ [0,2] (iO p h) ?_
 rw [show aP (p.map gv)=mY p from rfl]at gC ⊢
 generalize mY p=x at *
 refine aA [0,2,7] ?_
 refine bC ?_ ?_<;>intro h
 ·have h:x = []:=by simp at h;exact h
  subst h
  refine aA [2] ?_
  refine W.ret ?_
  simp [go]
  exact⟨Int.le_refl 0,rfl⟩
 ·have h:x ≠ []:=by simp at h;exact h
  have oT:0<x.length:=List.length_pos_iff.2 h
  refine W.skip ?_
  have e1:((x.length:Int)-1).toNat=x.length-1:=by omega
  refine W.sr ?_
  simp (disch:=omega) [gw,e1]
  refine bL [2] ?_
  refine W.ret ?_
  simp [go,lead]
theorem NC{x:Int}{k:Nat}(h0:0≤x)(h:x<4294967296^k):sz LL x≤k:=dE fV (by
 have e:((4294967296^k:Nat):Int)=(4294967296:Int)^k:=Int.natCast_pow 4294967296 k
 show x.natAbs<4294967296^k
 omega)
theorem VO{x:Int}{k:Nat}(h0:0≤x)(h:sz LL x≤k)(hk:k<1099511627776):s8 (aN LL x.toNat):=⟨fD fV _,by
 have e:x.natAbs=x.toNat:=by omega
 unfold sz at h
 rw [e]at h
 omega⟩
theorem acX{x:Int}(h0:0≤x):V 4294967296 (aN LL x.toNat)=x:=by
 have:=kG fV x.toNat
 rw [show((LL:Nat):Int)=4294967296 from rfl]at this
 rw [this];omega
theorem ahh{x:Int}(h0:0≤x):(0<(aN LL x.toNat).length)↔0<x:=by
 rw [List.length_pos_iff,Ne,eJ fV];omega
theorem ND(n m:Bool)(l k:List Int)(ES:s8 l)(h':s8 k)(hl:l.length<1099511627774)(hk:k.length<1099511627774) :
  aD env.P 257 [IV n l,IV m k] (if V 4294967296 k=0 then .eB [I 0,I 0, .int .i64 2]else .eB [I (iv n l/iv m k),I (iv n l%iv m k), .int .i64 0]):=by
 have p1:=qU ES
 have p2:=qU h'
 refine bY [(0,IV n l),(1,IV m k)] Tryz.func257 ?_
 refine aA [2,3,4,5] ?_
 by_cases h0:V 4294967296 k=0
 ·rw [if_pos h0]
  refine aJ [2,3,4,5,6,7,8] (NA l k ES h' h0) ?_
  refine aL [2,3,4,5,6,7,8,19] ?_
  refine bC ?_ ?_<;>intro h
  ·refine aA [4,5,6] ?_
   refine W.ret ?_
   simp [go]
   rfl
  ·cases h
 ·rw [if_neg h0]
  have hB:0<V 4294967296 k:=by omega
  have UW:=CZ l k ES h' h0 hl hk
  obtain⟨d1,d2⟩:=acU n m hB p1
  rw [show(if n=true then -V 4294967296 l else V 4294967296 l)=iv n l from rfl,show(if m=true then -V 4294967296 k else V 4294967296 k)=iv m k from rfl]at d1 d2
  have q0:=Int.ediv_nonneg p1 p2
  have r0:=Int.emod_nonneg (V 4294967296 l) h0
  have r1:=Int.emod_lt_of_pos (V 4294967296 l) hB
  have oN:sz LL (V 4294967296 l/V 4294967296 k)≤l.length:=NC q0 (Int.lt_of_le_of_lt (Int.ediv_le_self _ p1) (o8 (by decide) ES.zI))
  have ayA:sz LL (V 4294967296 l%V 4294967296 k)≤k.length:=NC r0 (Int.lt_trans r1 (o8 (by decide) h'.zI))
  refine aJ [2,3,4,5,6,7,8] UW ?_
  generalize V 4294967296 l/V 4294967296 k=Q at *
  generalize V 4294967296 l%V 4294967296 k=R at *
  refine aL [2,3,4,5,6,7,8,19] ?_
  refine bC ?_ ?_<;>intro h
  ·cases h
  refine W.skip ?_
  refine iB ?_
  refine cB (gE Q q0 (n != m)) ?_
  refine bS [2,3,4,5,7,8] (gE R r0 false) ?_
  refine W.gD (fun σ=>∃(rows:Pm.Rows) (clk:Nat),σ=⟨fa [(4, .ptr 4 2 0 0),(5, .ptr 5 3 0 0)],rows,clk⟩∧rows 4=some ⟨2,38,2,[ie (iv n l/iv m k)]⟩∧rows 5=some ⟨3,38,2,[ie (iv n l%iv m k)]⟩) ?_ ?_
  ·
   by_cases anj:n=true∧0<R
   ·obtain⟨rfl,hR⟩:=anj
    obtain⟨e1,e2⟩:=d2 rfl hR
    rw [e1,e2]
    have hdp:=(ahh r0).2 hR
    have hQl:=VO q0 oN ES.len
    have hRl:=VO r0 ayA h'.len
    have atk:=VH (aN LL Q.toNat) [1] hQl.len (by simp) hQl.zI (cU.cons.2 ⟨by decide,cU.nil⟩)
    rw [acX q0,n6]at atk
    have acY:=JE k (aN LL R.toNat) h'.len hRl.len h'.zI hRl.zI
    rw [acX r0,R8,if_neg (by omega)]at acY
    refine W.fG (fun σ=>∃(rows:Pm.Rows) (clk:Nat),σ=⟨fa [(2, .ptr 2 0 0 0),(3, .ptr 3 1 0 0),(4, .ptr 4 2 0 0),(5, .ptr 5 3 0 0),(7,N Q),(8,N R),(38, .bool true)],rows,clk⟩∧rows 2=some ⟨0,38,2,[[.bool true,us l]]⟩∧rows 3=some ⟨1,38,2,[[.bool m,us k]]⟩∧rows 4=some ⟨2,38,2,[ie (if true=m then Q else -Q)]⟩∧rows 5=some ⟨3,38,2,[ie R]⟩) (fun K hK=>?_) ?_
    ·simp (disch:=omega) [gw,hdp]
     exact hK _ _ (aC _ [2,3,4,5,7,8,38]) ⟨_,_,rfl,by simp,by simp,by simp,by simp⟩
    rintro _ ⟨rows,clk,rfl,bR,cO,dS,fM⟩
    refine bC ?_ ?_<;>intro h
    ·refine aJ [2,3,4,5,7,8] atk ?_
     refine W.sr ?_
     simp (disch:=omega) [gw,cO]
     refine bS [2,3,4,5,7,8] acY ?_
     refine W.cC (fun K hK=>?_)
     simp (disch:=omega) [gw,bR,cO]
     refine aB (gE (Q+1) (by omega) (!m)) ?_
     simp (disch:=omega) [gw]
     refine aB (gE (V 4294967296 k-R) (by omega) false) ?_
     simp (disch:=omega) [gw,dS,fM]
     exact hK _ ⟨_,aC _ [4,5],_,_,rfl,by cases m<;>simp,by simp⟩
    ·cases h
   ·obtain⟨e1,e2⟩:=d1 anj
    rw [e1,e2]
    refine W.fG (fun σ=>∃(rows:Pm.Rows) (clk:Nat),σ=⟨fa [(4, .ptr 4 2 0 0),(5, .ptr 5 3 0 0),(38, .bool false)],rows,clk⟩∧rows 4=some ⟨2,38,2,[ie (if (n != m)=true then -Q else Q)]⟩∧rows 5=some ⟨3,38,2,[ie R]⟩) (fun K hK=>?_) ?_
    ·cases n with
     | false =>
      simp (disch:=omega) [gw]
      exact hK _ _ (aC _ [4,5,38]) ⟨_,_,rfl,by cases m<;>simp,by simp⟩
     | true =>
      have hR:R=0:=by simp at anj;omega
      subst hR
      simp (disch:=omega) [gw]
      exact hK _ _ (aC _ [4,5,38]) ⟨_,_,rfl,by cases m<;>simp,by simp⟩
    rintro _ ⟨rows,clk,rfl,dS,fM⟩
    refine bC ?_ ?_<;>intro h
    ·cases h
    ·refine W.skip ?_
     exact⟨_,aC _ [4,5],_,_,rfl,dS,fM⟩
  rintro _ ⟨rows,clk,rfl,dS,fM⟩
  generalize iv n l/iv m k=q at *
  generalize iv n l%iv m k=r at *
  refine W.sd ?_
  simp (disch:=omega) [gw,dS,fM]
  refine a9 (by kernel_rfl) ?_
  simp (disch:=omega) [gw,dS,fM]
  rw [if_pos (by kernel_rfl)]
  simp (disch:=omega) [gw,dS,fM]
  refine a9 (by kernel_rfl) ?_
  simp (disch:=omega) [gw]
  refine bL [4,5,6] ?_
  exact bV
theorem SJ(n m:Bool)(l k:List Int)(h:s8 l)(h':s8 k)(hl:l.length<1099511627774)(hk:k.length<1099511627774)(h0:V 4294967296 k≠0) :
  aD env.P 235 [IV n l,IV m k] (if iv n l%iv m k=0 then .eB [I (iv n l/iv m k), .int .i64 0]else .eB [I 0, .int .i64 3]):=by
 have UW:=ND n m l k h h' hl hk
 rw [if_neg h0]at UW
 have PW:0≤iv n l%iv m k:=Int.emod_nonneg _ (by unfold iv;split<;>omega)
 generalize iv n l/iv m k=q at *
 generalize iv n l%iv m k=r at *
 have hrn:(aN LL r.natAbs = [])↔r=0:=by rw [eJ fV];omega
 refine bY [(0,IV n l),(1,IV m k)] Tryz.func235 ?_
 refine aA [2,3,4] ?_
 refine aJ [4,6,7,8] UW ?_
 refine aL [4,6,7,8,17] ?_
 refine bC ?_ ?_<;>intro h
 ·cases h
 refine W.skip ?_
 refine aL [4,6,23] ?_
 by_cases hr:r=0
 ·rw [if_pos hr]
  refine bC ?_ ?_<;>intro h
  ·exfalso;have h2:=hrn.2 hr;rw [h2]at h;simp at h
  ·refine W.skip ?_
   refine aA [4,5] ?_
   exact bV
 ·rw [if_neg hr]
  refine bC ?_ ?_<;>intro h
  ·refine aA [4,5] ?_
   refine W.ret ?_
   simp [go]
   rfl
  ·exfalso;simp at h;exact hr (hrn.1 h)
def bQ(l:List Int):Nat:=l.foldl (fun g c=>Nat.gcd g c.natAbs) 0
theorem gcd_one:∀l:List Int,l.foldl (fun g c=>Nat.gcd g c.natAbs) 1=1
 | []=>rfl
 | c::l=>by simp only [List.foldl_cons,Nat.gcd_one_left];exact gcd_one l
theorem SK(l:List Int)(i:Nat)(h:bQ (l.take i)=1):bQ l=1:=by
 unfold bQ at *
 rw [←List.take_append_drop i l,List.foldl_append,h]
 exact gcd_one _
theorem Y4(l:List Int)(i:Nat)(h:i<l.length):bQ (l.take (i+1))=Nat.gcd (bQ (l.take i)) (nth l i).natAbs:=by
 unfold bQ
 rw [bI h,List.foldl_append];rfl
theorem atl(x:Nat):N (x:Int)=us (aN LL x):=rfl
theorem C2{x k:Nat}(h:x<4294967296^k):(aN LL x).length≤k:=AY fV h
theorem NF(p:RP)(K0:Nat)(hK0:K0<1099511627774)(hp:∀c∈p,cU 4294967296 c.2∧c.2.length≤K0)(ET:p.length<1099511627776):aD env.P 234 [Pg p] (I (bQ (p.map gv))):=by
 have hng:∀c∈p,(gv c).natAbs=(V 4294967296 c.2).toNat:=fun c hc=>by
  have:=bN (b:=4294967296) (by decide) (hp c hc).1
  unfold gv iv;split<;>omega
 refine bY [(0,Pg p)] Tryz.func234 ?_
 refine aA [0,2] ?_
 refine aA [0,2,3] ?_
 refine W.R4 3 (us []) (by simp) rfl (fun K hK=>?_)
 refine W.lw [0,2,3] hK ?_;clear hK K;simp
 have ayB:∀i,i<p.length→(nth (p.map gv) i).natAbs=(V 4294967296 (nth p i).2).toNat:=fun i hi=>by rw [uR];exact hng _ (bP hi)
 refine W.gD (fun σ=>∃(rows:Pm.Rows) (clk:Nat),σ=⟨fa [(2, .ptr 2 0 0 0),(3,us (aN LL (bQ (p.map gv))))],rows,clk⟩∧rows 2=some ⟨0,38,2,[[.bool false, .nil]]⟩∧bQ (p.map gv)<4294967296^K0) ?_ ?_
 ·
  refine aA [2,3,10,11,12] ?_
  refine W.block ?_
  refine W.bG (fun q σ=>∃(i:Nat) (rows:Pm.Rows) (clk:Nat),σ=⟨fa [(2, .ptr 2 0 0 0),(3,us (aN LL (bQ ((p.map gv).take i)))),(10,Pg p),(11, .int .i64 p.length),(12, .int .i64 i)],rows,clk⟩∧rows 2=some ⟨0,38,2,[[.bool false, .nil]]⟩∧q=p.length-i∧i≤p.length∧bQ ((p.map gv).take i)<4294967296^K0) p.length ?_ ?_
  ·exact⟨_,Gh.fr [(2, .ptr 2 0 0 0),(3,us (aN LL (bQ ((p.map gv).take 0)))),(10,Pg p),(11, .int .i64 p.length),(12, .int .i64 (0:Nat))] (by simp [bQ,i6]),0,_,_,rfl,by simp,by omega,by omega,by simp [bQ];exact Nat.pow_pos (by decide)⟩
  rintro q _ ⟨i,rows,clk,rfl,bR,hq,hi,LA⟩
  refine b9 [2,3,10,11,12,13] ?_
  refine bC ?_ ?_<;>intro h
  ·have hi:i<p.length:=by simp at h;omega
   obtain⟨vI,XU⟩:=hp _ (bP hi)
   have hV0:=bN (b:=4294967296) (by decide) vI
   have hVl:=o8 (b:=4294967296) (by decide) vI
   obtain⟨x0,oT⟩:=Int.eq_ofNat_of_zero_le hV0
   have NG:=nJ (nth p i).2 (by omega) vI
   rw [oT,atl]at NG
   have hxb:x0<4294967296^K0:=by
    have e:((4294967296^(nth p i).2.length:Nat):Int)=(4294967296:Int)^(nth p i).2.length:=Int.natCast_pow 4294967296 _
    have e2:4294967296^(nth p i).2.length≤4294967296^K0:=Nat.pow_le_pow_right (by decide) XU
    omega
   have hgs:=Y4 (p.map gv) i (by simpa using hi)
   rw [ayB i hi,oT]at hgs
   simp only [Int.toNat_natCast]at hgs
   refine kW ?_
   refine W.sr ?_
   simp (disch:=omega) [gw,bR]
   refine bL [2,3,5,10,11,12] ?_
   refine aJ [2,3,6,10,11,12] NG ?_
   refine W.seq ?_
   refine W.block ?_
   refine W.bG (fun q σ=>∃(g x:Nat) (rows:Pm.Rows) (clk:Nat),σ=⟨fa [(2, .ptr 2 0 0 0),(3,us (aN LL g)),(6,us (aN LL x)),(10,Pg p),(11, .int .i64 p.length),(12, .int .i64 i)],rows,clk⟩∧rows 2=some ⟨0,38,2,[[.bool false, .nil]]⟩∧q=x∧Nat.gcd g x=bQ ((p.map gv).take (i+1))∧g<4294967296^K0∧x<4294967296^K0) x0 ?_ ?_
   ·exact⟨_, .refl,bQ ((p.map gv).take i),x0,_,_,rfl,by simp [bR],rfl,hgs.symm,LA,hxb⟩
   rintro q2 _ ⟨g,x,rows,clk,rfl,bR,hq2,hgx,hg,hx⟩
   refine aL [2,3,6,10,11,12,21] ?_
   refine bC ?_ ?_<;>intro h
   ·have h1:aN LL x ≠ []:=by simp at h;exact List.length_pos_iff.1 h
    have oT:x≠0:=fun h2=>h1 ((eJ fV).2 h2)
    have hlg:=C2 hg
    have hlx:=C2 hx
    have UW:=CZ (aN LL g) (aN LL x) ⟨fD fV _,by omega⟩ ⟨fD fV _,by omega⟩ (by rw [show(4294967296:Int)=((LL:Nat):Int)from rfl,kG fV];omega) (by omega) (by omega)
    rw [show(4294967296:Int)=((LL:Nat):Int)from rfl,kG fV,kG fV,←Int.natCast_emod,atl]at UW
    have hm:=Nat.mod_lt g (show 0<x by omega)
    have hgr:Nat.gcd x (g%x)=Nat.gcd g x:=by rw [Nat.gcd_comm x,←Nat.gcd_rec,Nat.gcd_comm]
    refine W.skip ?_
    refine W.block ?_
    refine aJ [2,6,8,10,11,12] UW ?_
    refine W.cC (fun K hK=>?_);simp (disch:=omega) [gw]
    refine hK _ ⟨g%x,_,aC _ [2,3,6,10,11,12],by omega,x,g%x,_,_,rfl,by simp [bR],rfl,by rw [hgr,hgx],hx,by omega⟩
   ·have h1:aN LL x = []:=by simp at h;exact h
    have oT:x=0:=(eJ fV).1 h1
    subst oT
    rw [Nat.gcd_zero_right]at hgx
    refine eV ?_
    refine W.fG (fun σ=>∃(b:Bool) (rows:Pm.Rows) (clk:Nat),σ=⟨fa [(2, .ptr 2 0 0 0),(3,us (aN LL g)),(10,Pg p),(11, .int .i64 p.length),(12, .int .i64 i),(39, .bool b)],rows,clk⟩∧rows 2=some ⟨0,38,2,[[.bool false, .nil]]⟩∧(b=true→g=1)) (fun K hK=>?_) ?_
    ·by_cases h2:(aN LL g).length=1
     ·obtain⟨w,hw⟩:∃w,aN LL g = [w]:=match aN LL g,h2 with | [w],_=>⟨w,rfl⟩
      have hgv:=kG fV g
      rw [hw,n6]at hgv
      rw [hw]at hK ⊢
      have hnw:nth [w] 0=w:=rfl
      simp (disch:=omega) [gw,hnw]
      exact hK _ _ (aC _ [2,3,10,11,12,39]) ⟨_,_,_,rfl,by simp [bR],fun h3=>by simp at h3;omega⟩
     ·have h2':((aN LL g).length:Int)≠1:=by omega
      have hb:(((aN LL g).length:Int)==1)=false:=by simpa using h2'
      simp (disch:=omega) [gw,hb,h2]
      exact hK _ _ (aC _ [2,3,10,11,12,39]) ⟨_,_,_,rfl,by simp [bR],fun h3=>by cases h3⟩
    rintro _ ⟨b,rows,clk,rfl,bR,hb⟩
    refine bC ?_ ?_<;>intro h
    ·have hg1:=hb h
     subst hg1
     have uN:=SK _ _ hgx.symm
     refine eV ?_
     rw [uN]
     exact⟨_,aC _ [2,3],rows,clk,rfl,bR,by rw [uN]at *;exact hg⟩
    ·refine W.skip ?_
     subst hgx
     refine W.cC (fun K hK=>?_);simp (disch:=omega) [gw]
     refine hK _ ⟨p.length-(i+1),_,aC _ [2,3,10,11,12],by omega,i+1,_,_,rfl,by simp [bR],by omega,by omega,hg⟩
  ·have hi:i=p.length:=by simp at h;omega
   rw [List.take_of_length_le (by simp;omega)]at LA ⊢
   refine eV ?_
   exact⟨_,aC _ [2,3],rows,clk,rfl,bR,LA⟩
 rintro _ ⟨rows,clk,rfl,bR,LA⟩
 have hlg:=C2 LA
 have NG:=nJ (aN LL (bQ (p.map gv))) (by omega) (fD fV _)
 rw [show(4294967296:Int)=((LL:Nat):Int)from rfl,kG fV]at NG
 have atn:=gE (bQ (p.map gv):Int) (by omega) false
 refine iB ?_
 refine cB NG ?_
 refine aB atn ?_
 simp (disch:=omega) [gw,bR]
 refine bL [2] ?_
 exact bV
theorem r6:∀ {l:List Int},l.length≤(aP l).length→aP l=l
 | [],_=>rfl
 | x::l,h=>by
  rw [aP]at h ⊢
  split
  ·rename_i h1
   rw [if_pos h1]at h;simp at h
  ·rename_i h1
   rw [if_neg h1]at h
   rw [r6 (by simpa using h)]
theorem NH{b:Int}(hb:1≤b){l:List Int}(hl:cU b l)(h:l ≠ []→b^(l.length-1)≤V b l):aP l=l:=by
 apply r6
 rcases Nat.lt_or_ge (aP l).length l.length with h1 | h1
 ·exfalso
  have h2:=h (by intro h0;subst h0;simp at h1)
  have h3:=o8 (by omega) (eF hl)
  rw [c9]at h3
  obtain⟨m,hm⟩:∃m,l.length-1=(aP l).length+m:=⟨l.length-1-(aP l).length,by omega⟩
  rw [hm,Int.pow_add]at h2
  have h4:1≤b^m:=Int.pow_pos (by omega)
  have h5:=Int.mul_le_mul_of_nonneg_left h4 (show 0≤b^(aP l).length from Int.le_of_lt (Int.pow_pos (by omega)))
  omega
 ·exact h1
@[simp] theorem ahj{l:List Int}{x:Int}:emap u32 l ++ [[.int .u32 x]]=emap u32 (l ++ [x]):=by simp [emap]
theorem GS(x:Int):aD env.P 141 [RI x] (.bool (decide (x=0))):=by
 refine bY [(0,RI x)] Tryz.func141 ?_
 refine aA [1] ?_
 refine aA [2] ?_
 refine W.ret ?_
 simp [go]
 have e:((aN DD x.natAbs).length=0)↔x=0:=by rw [List.length_eq_zero_iff,eJ P8];omega
 rw [Bool.eq_iff_iff,decide_eq_true_iff,beq_iff_eq,←e]
 omega
theorem VP{x:Int}:(aN DD x.natAbs).length=0↔x=0:=by rw [List.length_eq_zero_iff,eJ P8];omega
theorem GU(x:Int):aD env.P 145 [RI x] (.int .i64 x.sign):=by
 refine bY [(0,RI x)] Tryz.func145 ?_
 refine b9 [1] ?_
 refine W.block ?_
 refine aA [1,3] ?_
 refine bC ?_ ?_<;>intro h
 ·have h0:x=0:=by rw [←VP];simp at h;simp [h]
  subst h0
  refine aA [2] ?_
  exact bV
 ·have h0:x≠0:=by rw [Ne,←VP];simp at h;simpa using h
  refine aA [8] ?_
  refine bC ?_ ?_<;>intro h
  ·simp at h
   refine aA [2] ?_
   refine W.ret ?_
   simp [go,Int.sign_eq_neg_one_of_neg h]
  ·simp at h
   refine W.skip ?_
   refine aA [2] ?_
   refine W.ret ?_
   simp [go,Int.sign_eq_one_of_pos (show 0<x by omega)]
theorem r7(x:Int):aD env.P 18 [RI x] (RI (-x)):=by
 refine bY [(0,RI x)] Tryz.func18 ?_
 refine aA [1,2] ?_
 refine iB ?_
 refine aB (pC x.natAbs (by omega) (!decide (x<0))) ?_
 simp (disch:=omega) [gw]
 refine bL [2] ?_
 refine W.ret ?_
 have e:(if 0≤x then -(x.natAbs:Int)else x.natAbs) = -x:=by split<;>omega
 simp only [e]
 simp [go]
theorem Y5(a:List Int)(d:Int)(ha:a.length<1099511627776)(la:cU 10000 a)(hd0:0<d)(JK:d≤65536):aD env.P 152 [aI aG a, .int .i64 d] (.eB [Dn (V 10000 a/d), .int .i64 (V 10000 a%d)]):=by
 refine bY [(0,aI aG a),(1, .int .i64 d)] Tryz.func152 ?_
 refine aA [0,1] ?_
 refine aA [0,1,6] ?_
 refine aA [0,1,6,7] ?_
 refine aL [0,1,6,7,8] ?_
 refine W.block ?_
 refine W.bG (fun k σ=>∃(r:Int) (z:List Int) (ver:Nat) (rows:Pm.Rows) (clk:Nat),σ=⟨fa [(0,aI aG a),(1, .int .i64 d),(6, .own 12 ver 0 a.length),(7, .int .i64 r),(8, .int .i64 ((k:Int)-1))],rows,clk⟩ ∧
  rows 12=some ⟨ver,3,1,emap aG z⟩∧k≤a.length∧z.length=a.length∧cU 10000 z∧0≤r∧r<d∧V 10000 (a.drop k)=d*V 10000 (z.drop k)+r) a.length ?_ ?_
 ·exact⟨_, .refl,0,List.replicate a.length 0,_,_,_,rfl,by simp,by omega,by simp,cU.rep (by decide) _,by omega,hd0,by simp [V]⟩
 rintro k _ ⟨r,z,ver,rows,clk,rfl,hr,hk,hz,lz,PW,vX,hV⟩
 refine aL [0,1,6,7,8,17] ?_
 refine bC ?_ ?_<;>intro h
 ·simp at h
  obtain⟨j,rfl⟩:∃j,k=j+1:=⟨k-1,by omega⟩
  clear h
  have hx:=la.nth (i:=j) (by omega)
  have VI:0≤r*10000+nth a j:=by omega
  have pY:r*10000+nth a j<d*10000:=by omega
  have P7:0≤(r*10000+nth a j)/d:=Int.ediv_nonneg VI (by omega)
  have hq1:(r*10000+nth a j)/d<10000:=Int.ediv_lt_of_lt_mul hd0 (by omega)
  have PZ:=Int.emod_nonneg (r*10000+nth a j) (show d≠0 by omega)
  have GN:=Int.emod_lt_of_pos (r*10000+nth a j) hd0
  have hdz:d≠0:=by omega
  refine kW ?_
  refine aA [0,1,6,8,9] ?_
  refine W.sr ?_
  simp (disch:=omega) [gw,hr,hdz]
  refine bL [0,1,6,8,9] ?_
  refine W.cC (fun K hK=>?_);simp (disch:=omega) [gw,hdz]
  refine W.lw [0,1,6,7,8] hK ?_;clear hK K;simp
  refine W.cC (fun K hK=>?_);simp (disch:=omega) [gw]
  refine hK _ ⟨j,_,aC _ [0,1,6,7,8],by omega,_,z.set j ((r*10000+nth a j)/d),ver,_,_,rfl,by simp,by omega,by simpa using hz,lz.set ⟨P7,hq1⟩,PZ,GN,?_⟩
  rw [fB (l:=a) (i:=j) (by omega),fB (l:=z.set j _) (i:=j) (by simp;omega),eS (by omega),List.drop_set_of_lt (by omega)]
  simp only [V]
  rw [hV]
  have:=Int.emod_add_mul_ediv (r*10000+nth a j) d
  grind
 ·simp at h
  have zK:k=0:=by omega
  subst zK
  simp only [List.drop_zero]at hV
  have ez:z.take a.length=z:=bO hz
  have hzn:=bN (by decide) lz
  have e1:V 10000 a/d=V 10000 z:=by
   rw [hV,Int.mul_add_ediv_left _ _ (by omega),Int.ediv_eq_zero_of_lt PW vX];simp
  have e2:V 10000 a%d=r:=by
   rw [hV,Int.mul_add_emod_self_left,Int.emod_eq_of_lt PW vX]
  refine eV ?_
  refine W.sr ?_
  simp (disch:=omega) [gw,hr,ez]
  refine aB (pB z (by omega)) ?_
  simp (disch:=omega) [gw]
  refine bL [4,5] ?_
  refine W.ret ?_
  rw [e1,e2,←uS lz]
  simp [go]
theorem C3(y d:Int)(hy:0≤y)(hz:Z y)(hd0:0<d)(JK:d≤65536):aD env.P 152 [Dn y, .int .i64 d] (.eB [Dn (y/d), .int .i64 (y%d)]):=by
 have:=Y5 (aN DD y.toNat) d (by have:=kJ hy;omega) (mG _) hd0 JK
 rwa [wI hy]at this
theorem ahk(n:Nat)(hz:Z (n:Int)):aD env.P 71 [aI aG (aN DD n)] (us (aN LL n)):=by
 have hln:(aN LL n).length≤sz 2 (n:Int):=VM fV n
 refine bY [(0,aI aG (aN DD n))] Tryz.func71 ?_
 refine aA [0] ?_
 refine aA [0,3] ?_
 refine W.nil 3 3 182 1 (by simp) (by decide) (fun K hK=>?_)
 refine W.lw [0,3] hK ?_;clear hK K;simp
 refine W.seq ?_
 refine W.block ?_
 refine W.bG (fun k σ=>∃(i:Nat) (z:List Int) (ver:Nat) (rows:Pm.Rows) (clk:Nat),σ=⟨fa [(0,aI aG (aN DD k)),(3, .own 3 ver 0 i)],rows,clk⟩∧rows 3=some ⟨ver,182,1,emap u32 z⟩∧z.length=i∧k≤n∧aN LL n=z++aN LL k) n ?_ ?_
 ·exact⟨_, .refl,0,[],_,_,_,rfl,by simp [emap],rfl,by omega,by simp⟩
 rintro k _ ⟨i,z,ver,rows,clk,rfl,hr,IC,hk,hd⟩
 have hzk:Z (k:Int):=Nat.lt_of_le_of_lt (c7 (by decide) (y:=(n:Int)) (by omega)) hz
 have uT:i≤(aN LL n).length:=by rw [hd];simp [IC]
 have e0:(aN DD k).length=0↔k=0:=by rw [List.length_eq_zero_iff,eJ P8]
 refine aL [0,3,9] ?_
 refine bC ?_ ?_<;>intro h
 ·have zK:k≠0:=by rw [Ne,←e0];simp at h;omega
  have uQ:Z ((k:Int)/65536):=Nat.lt_of_le_of_lt (c7 (by decide) (y:=(k:Int)) (by omega)) hzk
  refine W.skip ?_
  refine W.block ?_
  refine iB ?_
  refine aB (C3 (k:Int) 65536 (by omega) hzk (by decide) (by decide)) ?_
  simp (disch:=omega) [gw]
  refine bL [3,4,5] ?_
  refine iB ?_
  refine aB (C3 ((k:Int)/65536) 65536 (by omega) uQ (by decide) (by decide)) ?_
  simp (disch:=omega) [gw]
  refine bL [3,4,5,6] ?_
  refine W.sr ?_
  simp (disch:=omega) [gw,hr,IC,wrap_u32']
  have e1:(k:Int)/65536%65536*65536+k%65536=((k%LL:Nat):Int):=by simp;omega
  have e3:k/LL<k:=Nat.div_lt_self (by omega) (by decide)
  obtain⟨dg,e2⟩:∃dg:Int,dg=((k%LL:Nat):Int):=⟨_,rfl⟩
  rw [←e2]at e1
  simp only [e1,ahj]
  refine bL [3,4] ?_
  refine W.cC (fun K hK=>?_);simp (disch:=omega) [gw]
  refine hK _ ⟨k/LL,_,Gh.fr [(0,aI aG (aN DD (k/LL))),(3, .own 3 _ 0 (i+1))] ?_,e3,i+1,z ++ [dg],_,_,_,rfl,by simp;rfl,by simp [IC],by omega,?_⟩
  ·have e2:((k:Int)/65536/65536).toNat=k/LL:=by show _=k/4294967296;omega
   simp only [Dn,e2]
   simp
  ·rw [hd,rS fV zK,e2];simp
 ·have zK:k=0:=by rw [←e0];simp at h;simp [h]
  subst zK
  refine eV ?_
  refine aA [2] ?_
  refine W.ret ?_
  simp [i6]at hd
  have ez:z.take i=z:=bO IC
  simp [go,hr,ez,hd]
theorem JL(x:Int)(hz:Z x):aD env.P 17 [RI x] (I x):=by
 refine bY [(0,RI x)] Tryz.func17 ?_
 refine aA [1,2] ?_
 refine mP ?_
 refine aB (ahk x.natAbs (by simpa [Z,sz]using hz)) ?_
 simp (disch:=omega) [gw]
 refine bL [2] ?_
 exact bV
theorem Y6(x y:List Int)(hx:x.length<1099511627776)(hy:y.length<1099511627776)(lx:cU 10000 x)(ly:cU 10000 y)(cx:aP x=x)(cy:aP y=y):aD env.P 229 [aI aG x,aI aG y] (.int .i64 (dF (V 10000 x) (V 10000 y))):=by
 refine bY [(0,aI aG x),(1,aI aG y)] Tryz.func229 ?_
 refine aA [0,1] ?_
 refine aL [0,1,10] ?_
 refine bC ?_ ?_<;>intro h
 ·simp at h
  refine aL [15] ?_
  refine bC ?_ ?_<;>intro h
  ·simp at h
   refine aA [4] ?_
   refine W.ret ?_
   simp [mQ (jX (by decide) lx ly cy h)]
  ·simp at h
   refine W.skip ?_
   refine aA [4] ?_
   refine W.ret ?_
   simp [mR (jX (by decide) ly lx cx (by omega))]
 ·simp at h
  have hlen:x.length=y.length:=by omega
  clear h
  refine W.skip ?_
  refine aL [0,1,5] ?_
  refine W.block ?_
  refine W.bG (fun k σ=>∃(rows:Pm.Rows) (clk:Nat),σ=⟨fa [(0,aI aG x),(1,aI aG y),(5, .int .i64 ((k:Int)-1))],rows,clk⟩∧k≤x.length∧x.drop k=y.drop k) x.length ?_ ?_
  ·exact⟨_, .refl,_,_,rfl,by omega,by rw [List.drop_of_length_le (by omega),List.drop_of_length_le (by omega)]⟩
  rintro k _ ⟨rows,clk,rfl,hk,hd⟩
  refine aL [0,1,5,20] ?_
  refine bC ?_ ?_<;>intro h
  ·have h0:0<k:=by simp at h;omega
   obtain⟨j,rfl⟩:∃j,k=j+1:=⟨k-1,by omega⟩
   clear h
   refine kW ?_
   refine mP ?_
   refine bL [0,1,5,31] ?_
   refine bC ?_ ?_<;>intro h
   ·simp at h
    refine W.seq ?_
    refine mP ?_
    refine bL [40] ?_
    refine W.cond ⟨_,rfl,fun h2=>?_,fun h2=>?_⟩
    ·simp at h2
     refine aA [4] ?_
     refine W.ret ?_
     simp [mQ (n7 (by decide) lx ly hlen (by omega) hd h2)]
    ·simp at h2
     refine W.skip ?_
     refine aA [4] ?_
     refine W.ret ?_
     simp [mR (n7 (by decide) ly lx hlen.symm (by omega) hd.symm (by omega))]
   ·simp at h
    refine W.skip ?_
    refine W.cC (fun K hK=>?_);simp (disch:=omega) [gw]
    refine hK _ ⟨j,_,aC _ [0,1,5],by omega,_,_,rfl,by omega,?_⟩
    rw [fB (l:=x) (i:=j) (by omega),fB (l:=y) (i:=j) (by omega),hd,h]
  ·have h0:k=0:=by simp at h;omega
   subst h0
   simp at hd
   subst hd
   refine eV ?_
   refine aA [4] ?_
   refine W.ret ?_
   simp [AZ]
theorem NI(x y:Int)(hx:0≤x)(hy:0≤y)(zx:Z x)(zy:Z y):aD env.P 229 [Dn x,Dn y] (.int .i64 (dF x y)):=by
 have:=Y6 (aN DD x.toNat) (aN DD y.toNat) (by have:=kJ hx;omega) (by have:=kJ hy;omega) (mG _) (mG _) (jW P8 _) (jW P8 _)
 rwa [wI hx,wI hy]at this
theorem Y7(a b:List Int)(ha:a.length<1099511627776)(hb:b.length<1099511627776)(la:cU 10000 a)(lb:cU 10000 b)(ca:aP a=a)(cb:aP b=b):aD env.P 228 [aI aG a,aI aG b] (Dn (V 10000 a+V 10000 b)):=by
 refine bY [(0,aI aG a),(1,aI aG b)] Tryz.func228 ?_
 refine aA [0,1] ?_
 refine aA [0,1,5] ?_
 refine W.nil 5 5 3 1 (by simp) (by decide) (fun K hK=>?_)
 refine W.lw [0,1,5] hK ?_;clear hK K;simp
 refine aA [0,1,5,6] ?_
 refine aL [0,1,5,6,7] ?_
 refine W.block ?_
 obtain⟨M,hM⟩:∃M,M=max a.length b.length:=⟨_,rfl⟩
 refine W.bG (fun k σ=>∃(i:Nat) (c:Int) (z:List Int) (ver:Nat) (rows:Pm.Rows) (clk:Nat),σ=⟨fa [(0,aI aG a),(1,aI aG b),(5, .own 5 ver 0 i),(6, .int .i64 c),(7, .int .i64 i)],rows,clk⟩ ∧
  rows 5=some ⟨ver,3,1,emap aG z⟩∧k=2*(M-i)+c.toNat∧z.length=i∧(i≤M∨(i=M+1∧c=0∧10000^M≤V 10000 a+V 10000 b))∧cU 10000 z∧0≤c∧c≤1 ∧
  V 10000 z+10000^i*c=V 10000 (a.take i)+V 10000 (b.take i)) (2*M) ?_ ?_
 ·exact⟨_, .refl,0,0,[],_,_,_,rfl,by simp [emap],by simp,rfl,by omega,cU.nil,by omega,by omega,by simp [V]⟩
 rintro k _ ⟨i,c,z,ver,rows,clk,rfl,hr,hk,hz,hi,lz,x9,vI,hV⟩
 refine W.seq ?_
 refine W.fG (fun σ=>∃(t:Bool),σ=⟨fa [(0,aI aG a),(1,aI aG b),(5, .own 5 ver 0 i),(6, .int .i64 c),(7, .int .i64 i),(21, .bool t)],rows,clk⟩∧(t=true↔i<M∨0<c)) (fun K hK=>?_) ?_
 ·simp
  by_cases h1:i<a.length
  ·simp (disch:=omega) [gw,h1]
   exact hK _ _ (aC _ [0,1,5,6,7,21]) ⟨_,rfl,by simp;omega⟩
  ·by_cases h2:i<b.length
   ·simp (disch:=omega) [gw,h1,h2]
    exact hK _ _ (aC _ [0,1,5,6,7,21]) ⟨_,rfl,by simp;omega⟩
   ·simp (disch:=omega) [gw,h1,h2]
    exact hK _ _ (aC _ [0,1,5,6,7,21]) ⟨_,rfl,by simp;omega⟩
 rintro _ ⟨t,rfl,ht⟩
 refine bC ?_ ?_<;>intro h
 ·have ht:=ht.1 h
  refine kW ?_
  refine W.gD (fun σ=>∃(s:Int),σ=⟨fa [(0,aI aG a),(1,aI aG b),(5, .own 5 ver 0 i),(6, .int .i64 s),(7, .int .i64 i)],rows,clk⟩∧0≤s∧s≤c+9999∧(a.length≤i→s=c) ∧
   V 10000 z+10000^i*s=V 10000 (a.take (i+1))+V 10000 (b.take i)) ?_ ?_
  ·
   refine aA [0,1,5,6,7,27] ?_
   refine bC ?_ ?_<;>intro h
   ·simp at h
    have hx:=la.nth h
    refine W.cC (fun K hK=>?_);simp (disch:=omega) [gw]
    refine hK _ ⟨_,aC _ [0,1,5,6,7],_,rfl,by omega,by omega,by omega,?_⟩
    rw [aX h];grind
   ·simp at h
    refine W.skip ?_
    refine⟨_,aC _ [0,1,5,6,7],_,rfl,by omega,by omega,fun _=>rfl,?_⟩
    rw [bF (l:=a) (by omega)]
    rwa [bF (l:=a) (by omega)]at hV
  rintro _ ⟨s,rfl,VI,pY,hsc,hsV⟩
  refine W.gD (fun σ=>∃(u:Int),σ=⟨fa [(0,aI aG a),(1,aI aG b),(5, .own 5 ver 0 i),(6, .int .i64 u),(7, .int .i64 i)],rows,clk⟩∧0≤u∧u≤s+9999∧(b.length≤i→u=s) ∧
   V 10000 z+10000^i*u=V 10000 (a.take (i+1))+V 10000 (b.take (i+1))) ?_ ?_
  ·
   refine aA [0,1,5,6,7,37] ?_
   refine bC ?_ ?_<;>intro h
   ·simp at h
    have hx:=lb.nth h
    refine W.cC (fun K hK=>?_);simp (disch:=omega) [gw]
    refine hK _ ⟨_,aC _ [0,1,5,6,7],_,rfl,by omega,by omega,by omega,?_⟩
    rw [aX h];grind
   ·simp at h
    refine W.skip ?_
    refine⟨_,aC _ [0,1,5,6,7],_,rfl,by omega,by omega,fun _=>rfl,?_⟩
    rw [bF (l:=b) (by omega)]
    rwa [bF (l:=b) (by omega)]at hsV
  rintro _ ⟨u,rfl,hu0,hu1,huc,huV⟩
  refine W.sr ?_
  simp (disch:=omega) [gw,hr,hz]
  refine bL [0,1,5,6,7] ?_
  refine W.cC (fun K hK=>?_);simp (disch:=omega) [gw];refine W.lw [0,1,5,6,7] hK ?_;clear hK K;simp
  refine W.cC (fun K hK=>?_);simp (disch:=omega) [gw]
  refine hK _ ⟨2*(M-(i+1))+(u/10000).toNat,_,aC _ [0,1,5,6,7],?_,i+1,u/10000,z ++ [u%10000],_,_,_,rfl,by simp,rfl,by simp [hz],?_,cU.append.2 ⟨lz,cU.cons.2 ⟨by omega,cU.nil⟩⟩,by omega,by omega,?_⟩
  ·rcases Nat.lt_or_ge i M with h1 | h1
   ·omega
   ·have:=hsc (by omega);have:=huc (by omega);omega
  ·rcases Nat.lt_or_ge i M with h1 | h1
   ·omega
   ·right
    have hc:c=1:=by omega
    have hzn:=bN (by decide) lz
    rw [bF (l:=a) (by omega),bF (l:=b) (by omega),hc]at hV
    have hiM:i=M:=by omega
    rw [←hiM]
    refine⟨rfl,by have:=hsc (by omega);have:=huc (by omega);omega,?_⟩
    rw [←hV]
    omega
  ·rw [dZ,n6,hz,←huV,Int.pow_succ]
   have:=Int.emod_add_mul_ediv u 10000
   grind
 ·have ht:¬(i<M∨0<c):=fun h2=>by simp [ht.2 h2]at h
  have hc:c=0:=by omega
  subst hc
  refine eV ?_
  refine aA [4] ?_
  refine W.ret ?_
  rw [bF (l:=a) (by omega),bF (l:=b) (by omega)]at hV
  have e:V 10000 a+V 10000 b=V 10000 z:=by rw [←hV];simp
  have cz:aP z=z:=by
   refine NH (by decide) lz fun h0=>?_
   rw [hz,←e]
   rcases hi with h1 | ⟨h1,_,h2⟩
   ·have hna:=bN (by decide) la
    have hnb:=bN (by decide) lb
    have uT:0<i:=by rw [←hz];exact List.length_pos_iff.2 h0
    rcases Nat.le_total b.length a.length with h3 | h3
    ·have:=lG (b:=10000) (by decide) la ca (by intro h5;rw [h5]at h3 hM;simp at h3;simp [h3]at hM;omega)
     rw [show i-1=a.length-1 by omega];omega
    ·have:=lG (b:=10000) (by decide) lb cb (by intro h5;rw [h5]at h3 hM;simp at h3;simp [h3]at hM;omega)
     rw [show i-1=b.length-1 by omega];omega
   ·rw [h1];exact h2
  have ez:z.take i=z:=bO hz
  rw [e,←uS lz,cz]
  simp [go,hr,ez]
theorem ac0(x y:Int)(hx:0≤x)(hy:0≤y)(zx:Z x)(zy:Z y):aD env.P 228 [Dn x,Dn y] (Dn (x+y)):=by
 have:=Y7 (aN DD x.toNat) (aN DD y.toNat) (by have:=kJ hx;omega) (by have:=kJ hy;omega) (mG _) (mG _) (jW P8 _) (jW P8 _)
 rwa [wI hx,wI hy]at this
theorem Y8(a b:List Int)(ha:a.length<1099511627776)(hb:b.length≤a.length)(la:cU 10000 a)(lb:cU 10000 b)(hle:V 10000 b≤V 10000 a):aD env.P 230 [aI aG a,aI aG b] (Dn (V 10000 a-V 10000 b)):=by
 refine bY [(0,aI aG a),(1,aI aG b)] Tryz.func230 ?_
 refine aA [0,1] ?_
 refine aA [0,1,5] ?_
 refine aA [0,1,5,6] ?_
 refine aL [0,1,5,6,13,14] ?_
 refine W.block ?_
 refine W.bG (fun k σ=>∃(i:Nat) (c:Int) (z:List Int) (ver:Nat) (rows:Pm.Rows) (clk:Nat),σ=⟨fa [(0,aI aG a),(1,aI aG b),(5, .own 11 ver 0 a.length),(6, .int .i64 c),(13, .int .i64 a.length),(14, .int .i64 i)],rows,clk⟩ ∧
  rows 11=some ⟨ver,3,1,emap aG z⟩∧k=a.length-i∧i≤a.length∧z.length=a.length∧cU 10000 z∧0≤c∧c≤1 ∧
  V 10000 (z.take i)-10000^i*c=V 10000 (a.take i)-V 10000 (b.take i)) a.length ?_ ?_
 ·exact⟨_, .refl,0,0,List.replicate a.length 0,_,_,_,rfl,by simp,by omega,by omega,by simp,cU.rep (by decide) _,by omega,by omega,by simp [V]⟩
 rintro k _ ⟨i,c,z,ver,rows,clk,rfl,hr,hk,hi,hz,lz,x9,vI,hV⟩
 refine b9 [0,1,5,6,13,14,15] ?_
 refine bC ?_ ?_<;>intro h
 ·simp at h
  have hx:=la.nth h
  refine kW ?_
  refine aA [0,1,5,6,7,13,14] ?_
  refine aA [0,1,5,7,8,13,14] ?_
  refine W.gD (fun σ=>∃(s:Int),σ=⟨fa [(0,aI aG a),(1,aI aG b),(5, .own 11 ver 0 a.length),(7, .int .i64 i),(8, .int .i64 s),(13, .int .i64 a.length),(14, .int .i64 i)],rows,clk⟩ ∧ -10000≤s∧s≤9999 ∧
   V 10000 (z.take i)+10000^i*s=V 10000 (a.take (i+1))-V 10000 (b.take (i+1))) ?_ ?_
  ·
   refine aA [0,1,5,7,8,13,14,26] ?_
   refine bC ?_ ?_<;>intro h
   ·simp at h
    have hy:=lb.nth h
    refine W.cC (fun K hK=>?_);simp (disch:=omega) [gw]
    refine hK _ ⟨_,aC _ [0,1,5,7,8,13,14],_,rfl,by omega,by omega,?_⟩
    rw [aX (l:=a) (by omega),aX h];grind
   ·simp at h
    refine W.skip ?_
    refine⟨_,aC _ [0,1,5,7,8,13,14],_,rfl,by omega,by omega,?_⟩
    rw [aX (l:=a) (by omega),bF (l:=b) (by omega)]
    rw [bF (l:=b) (by omega)]at hV
    grind
  rintro _ ⟨s,rfl,VI,pY,hsV⟩
  refine aA [0,1,5,6,7,8,13,14] ?_
  refine W.gD (fun σ=>∃(u c:Int),σ=⟨fa [(0,aI aG a),(1,aI aG b),(5, .own 11 ver 0 a.length),(6, .int .i64 c),(7, .int .i64 i),(8, .int .i64 u),(13, .int .i64 a.length),(14, .int .i64 i)],rows,clk⟩∧0≤u∧u≤9999∧0≤c∧c≤1∧s=u-10000*c) ?_ ?_
  ·
   refine aA [0,1,5,6,7,8,13,14,34] ?_
   refine bC ?_ ?_<;>intro h
   ·simp at h
    refine aA [0,1,5,7,8,13,14] ?_
    refine W.cC (fun K hK=>?_);simp (disch:=omega) [gw]
    exact hK _ ⟨_,aC _ [0,1,5,6,7,8,13,14],_,1,rfl,by omega,by omega,by omega,by omega,by omega⟩
   ·simp at h
    refine W.skip ?_
    exact⟨_,aC _ [0,1,5,6,7,8,13,14],_,0,rfl,by omega,by omega,by omega,by omega,by omega⟩
  rintro _ ⟨u,c',rfl,hu0,hu1,ayD,ayE,hu⟩
  refine W.cC (fun K hK=>?_);simp (disch:=omega) [gw,hr]
  refine W.lw [0,1,5,6,13,14] hK ?_;clear hK K;simp
  refine W.cC (fun K hK=>?_);simp (disch:=omega) [gw]
  refine hK _ ⟨a.length-(i+1),_,aC _ [0,1,5,6,13,14],by omega,i+1,c',z.set i u,ver,_,_,rfl,by simp,by omega,by omega,by simpa using hz,lz.set (by omega),ayD,ayE,?_⟩
  rw [fC (by omega),←hsV,hu,Int.pow_succ]
  grind
 ·simp at h
  have lT:i=a.length:=by omega
  subst lT
  have ez:z.take a.length=z:=bO hz
  refine eV ?_
  refine W.sr ?_
  simp (disch:=omega) [gw,hr,ez]
  refine aB (pB z (by omega)) ?_
  simp (disch:=omega) [gw]
  refine bL [4] ?_
  refine W.ret ?_
  rw [ez,bF (l:=a) (by omega),bF (l:=b) (by omega)]at hV
  have h1:=o8 (by decide) lz
  rw [hz]at h1
  have hc:c=0:=by
   rcases(show c=0∨c=1 by omega)with h2 | h2
   ·exact h2
   ·subst h2;omega
  subst hc
  have e:V 10000 a-V 10000 b=V 10000 z:=by rw [←hV];simp
  rw [e,←uS lz]
  simp [go]
theorem C4(x y:Int)(hy:0≤y)(hle:y≤x)(zx:Z x):aD env.P 230 [Dn x,Dn y] (Dn (x-y)):=by
 have hlen:(aN DD y.toNat).length≤(aN DD x.toNat).length:=by
  have h1:=c7 (b:=DD) P8 (x:=y) (y:=x) (by omega)
  simp only [sz]at h1
  rwa [show y.natAbs=y.toNat by omega,show x.natAbs=x.toNat by omega]at h1
 have:=Y8 (aN DD x.toNat) (aN DD y.toNat) (by have:=kJ (show 0≤x by omega);omega) hlen (mG _) (mG _) (by rw [wI hy,wI (by omega)];exact hle)
 rwa [wI hy,wI (by omega)]at this
theorem anl{a b:Int}(ha:0≤a∧a<10000)(hb:0≤b∧b<10000):0≤a*b∧a*b≤99980001:=by
 refine⟨Int.mul_nonneg ha.1 hb.1,?_⟩
 have:=Int.mul_le_mul (show a≤9999 by omega) (show b≤9999 by omega) hb.1 (by decide)
 simpa using this
theorem Y9(x y:List Int)(hx:x.length<1099511627776)(hy:y.length<1099511627776)(lx:cU 10000 x)(ly:cU 10000 y):aD env.P 147 [aI aG x,aI aG y] (Dn (V 10000 x*V 10000 y)):=by
 refine bY [(0,aI aG x),(1,aI aG y)] Tryz.func147 ?_
 refine aA [0,1] ?_
 have e:((x.length:Int)+(y.length:Int)).toNat=x.length+y.length:=by omega
 refine W.sr ?_
 simp (disch:=omega) [gw,e]
 refine bL [0,1,5] ?_
 refine aL [0,1,5,17,18] ?_
 refine W.block ?_
 refine W.bG (fun k σ=>∃(i:Nat) (z:List Int) (ver:Nat) (rows:Pm.Rows) (clk:Nat),σ=⟨fa [(0,aI aG x),(1,aI aG y),(5, .own 15 ver 0 (x.length+y.length)),(17, .int .i64 x.length),(18, .int .i64 i)],rows,clk⟩ ∧
   rows 15=some ⟨ver,3,1,emap aG z⟩∧k=x.length-i∧i≤x.length∧z.length=x.length+y.length∧cU 10000 z∧(∀j,i+y.length≤j→nth z j=0) ∧
   V 10000 z=V 10000 (x.take i)*V 10000 y) x.length ?_ ?_
 ·refine⟨_, .refl,0,List.replicate (x.length+y.length) 0,_,_,_,rfl,by simp [e],by omega,by omega,by simp,cU.rep (by decide) _,fun j _=>?_,by simp [V,qT]⟩
  unfold nth
  cases h:(List.replicate (x.length+y.length) (0:Int))[j]? with
  | none=>rfl
  | some v=>have:=List.mem_of_getElem? h;simp at this;simp [this]
 rintro k _ ⟨i,z,ver,rows,clk,rfl,hr,hk,hi,hz,lz,mJ,hV⟩
 refine b9 [0,1,5,17,18,19] ?_
 refine bC ?_ ?_<;>intro h
 ·simp at h
  have hxi:=lx.nth h
  refine kW ?_
  refine aA [0,1,5,6,17,18] ?_
  refine aA [0,1,5,6,7,17,18] ?_
  refine aA [0,1,5,6,7,8,17,18] ?_
  refine W.block ?_
  refine W.bG (fun m σ=>∃(k:Nat) (c:Int) (z:List Int) (ver:Nat) (rows:Pm.Rows) (clk:Nat),σ=⟨fa [(0,aI aG x),(1,aI aG y),(5, .own 15 ver 0 (x.length+y.length)),(6, .int .i64 i),(7, .int .i64 c),(8, .int .i64 k),(17, .int .i64 x.length),(18, .int .i64 i)],rows,clk⟩ ∧
   rows 15=some ⟨ver,3,1,emap aG z⟩∧m=y.length+1-k∧(k≤y.length∧(∀j,i+y.length≤j→nth z j=0)∨k=y.length+1∧c=0)∧z.length=x.length+y.length∧cU 10000 z∧(∀j,i+1+y.length≤j→nth z j=0)∧0≤c∧c≤9999 ∧
   V 10000 z+10000^(i+k)*c=V 10000 (x.take i)*V 10000 y+10000^i*nth x i*V 10000 (y.take k)) (y.length+1) ?_ ?_
  ·exact⟨_, .refl,0,0,z,ver,_,_,rfl,by simpa using hr,by omega, .inl ⟨by omega,mJ⟩,hz,lz,fun j hj=>mJ j (by omega),by omega,by omega,by simp [V,hV]⟩
  clear hV mJ lz hz hr z ver rows clk
  rintro m _ ⟨k,c,z,ver,rows,clk,rfl,hr,hm,hky,hz,lz,mJ,x9,vI,hV⟩
  refine W.seq ?_
  refine W.fG (fun σ=>∃(t:Bool),σ=⟨fa [(0,aI aG x),(1,aI aG y),(5, .own 15 ver 0 (x.length+y.length)),(6, .int .i64 i),(7, .int .i64 c),(8, .int .i64 k),(17, .int .i64 x.length),(18, .int .i64 i),(28, .bool t)],rows,clk⟩∧(t=true↔k<y.length∨0<c)) (fun K hK=>?_) ?_
  ·simp
   by_cases h2:k<y.length
   ·simp (disch:=omega) [gw,h2]
    exact hK _ _ (aC _ [0,1,5,6,7,8,17,18,28]) ⟨_,rfl,by simp [h2]⟩
   ·simp (disch:=omega) [gw,h2]
    exact hK _ _ (aC _ [0,1,5,6,7,8,17,18,28]) ⟨_,rfl,by simp [h2]⟩
  rintro _ ⟨t,rfl,ht⟩
  refine W.cond ⟨_,rfl,fun h2=>?_,fun h2=>?_⟩
  ·have ht:=ht.1 h2
   obtain⟨zK,hk1⟩:k≤y.length∧(∀j,i+y.length≤j→nth z j=0):=by
    rcases hky with h3 | h3
    ·exact h3
    ·omega
   have hzk:=lz.nth (i:=i+k) (by omega)
   have e0:((i:Int)+(k:Int)).toNat=i+k:=by omega
   refine kW ?_
   refine W.sr ?_
   simp (disch:=omega) [gw,hr,e0]
   refine bL [0,1,5,6,8,9,17,18] ?_
   refine W.gD (fun σ=>∃(s:Int),σ=⟨fa [(0,aI aG x),(1,aI aG y),(5, .own 15 ver 0 (x.length+y.length)),(6, .int .i64 i),(8, .int .i64 k),(9, .int .i64 s),(17, .int .i64 x.length),(18, .int .i64 i)],rows,clk⟩∧0≤s∧s≤99999999∧(k=y.length→s=c) ∧
    V 10000 z-10000^(i+k)*nth z (i+k)+10000^(i+k)*s=V 10000 (x.take i)*V 10000 y+10000^i*nth x i*V 10000 (y.take (k+1))) ?_ ?_
   ·
    refine aA [0,1,5,6,8,9,17,18,42] ?_
    refine bC ?_ ?_<;>intro h
    ·simp at h
     have hyk:=ly.nth h
     have hp:=anl hxi hyk
     refine W.P5 (fun K hK=>?_);simp (disch:=omega) [gw]
     refine hK _ ⟨_,aC _ [0,1,5,6,8,9,17,18],_,rfl,by omega,by omega,by omega,?_⟩
     rw [aX h,Int.pow_add]
     rw [Int.pow_add]at hV
     grind
    ·simp at h
     have hkl:k=y.length:=by omega
     have h0:=hk1 (i+k) (by omega)
     refine W.skip ?_
     refine⟨_,aC _ [0,1,5,6,8,9,17,18],_,rfl,by omega,by omega,by omega,?_⟩
     rw [bF (l:=y) (by omega)]
     rw [bF (l:=y) (by omega)]at hV
     rw [h0]
     grind
   rintro _ ⟨s,rfl,VI,pY,hsc,hsV⟩
   refine W.sr ?_
   simp (disch:=omega) [gw,hr,e0]
   refine bL [0,1,5,6,8,9,17,18] ?_
   refine W.cC (fun K hK=>?_);simp (disch:=omega) [gw];refine W.lw [0,1,5,6,7,8,17,18] hK ?_;clear hK K;simp
   refine W.cC (fun K hK=>?_);simp (disch:=omega) [gw]
   have R7:=GI (b:=10000) (l:=z) (i:=i+k) (x:=s%10000) (by omega)
   refine hK _ ⟨y.length+1-(k+1),_,aC _ [0,1,5,6,7,8,17,18],by omega,k+1,s/10000,z.set (i+k) (s%10000),ver,_,_,rfl,by simp,rfl,?_,by simpa using hz,lz.set (by omega),fun j hj=>?_,by omega,by omega,?_⟩
   ·rcases Nat.lt_or_ge k y.length with h3 | h3
    ·left
     refine⟨by omega,fun j hj=>?_⟩
     rw [gQ (by omega)];exact hk1 j hj
    ·right
     have:=hsc (by omega)
     exact⟨by omega,by omega⟩
   ·rw [gQ (by omega)];exact mJ j hj
   ·rw [R7,←hsV,show i+(k+1)=(i+k)+1 by omega,Int.pow_succ]
    have:=Int.emod_add_mul_ediv s 10000
    grind
  ·have ht:¬(k<y.length∨0<c):=fun h3=>by simp [ht.2 h3]at h2
   have hc:c=0:=by omega
   subst hc
   refine eV ?_
   refine W.cC (fun K hK=>?_);simp (disch:=omega) [gw]
   refine hK _ ⟨x.length-(i+1),_,aC _ [0,1,5,17,18],by omega,i+1,z,ver,_,_,rfl,hr,by omega,by omega,hz,lz,mJ,?_⟩
   rw [aX h]
   rw [bF (l:=y) (by omega)]at hV
   grind
 ·simp at h
  have lT:i=x.length:=by omega
  subst lT
  have uQ:List.take (x.length+y.length) z=z:=List.take_of_length_le (by omega)
  refine eV ?_
  refine W.sr ?_
  simp (disch:=omega) [gw,hr,uQ]
  refine aB (pB z (by omega)) ?_
  simp (disch:=omega) [gw]
  refine bL [4] ?_
  refine W.ret ?_
  rw [bF (Nat.le_refl _)]at hV
  rw [←hV,←uS lz]
  simp
theorem ac1(x y:Int)(hx:0≤x)(hy:0≤y)(zx:Z x)(zy:Z y):aD env.P 147 [Dn x,Dn y] (Dn (x*y)):=by
 have:=Y9 (aN DD x.toNat) (aN DD y.toNat) (by have:=kJ hx;omega) (by have:=kJ hy;omega) (mG _) (mG _)
 rwa [wI hx,wI hy]at this
theorem NJ{x:Int}(h:Z x):Z (x.natAbs:Int):=by simpa [Z,sz]using h
theorem nK(n:Nat)(neg:Bool):aD env.P 72 [aI aG (aN DD n), .bool neg] (RI (if neg=true then -(n:Int)else n)):=pC n (by omega) neg
theorem ZA(x y:Int):(if decide (x<0) != decide (y<0)then -((x.natAbs*y.natAbs:Nat):Int)else((x.natAbs*y.natAbs:Nat):Int))=x*y:=by
 rw [Int.natCast_mul]
 by_cases h1:x<0<;>by_cases h2:y<0
 ·simp only [h1,h2,show(x.natAbs:Int) = -x by omega,show(y.natAbs:Int) = -y by omega];simp<;>grind
 ·simp only [h1,h2,show(x.natAbs:Int) = -x by omega,show(y.natAbs:Int)=y by omega];simp<;>grind
 ·simp only [h1,h2,show(x.natAbs:Int)=x by omega,show(y.natAbs:Int) = -y by omega];simp<;>grind
 ·simp only [h1,h2,show(x.natAbs:Int)=x by omega,show(y.natAbs:Int)=y by omega];simp<;>grind
theorem eO(x y:Int)(zx:Z x)(zy:Z y):aD env.P 67 [RI x,RI y] (RI (x*y)):=by
 refine bY [(0,RI x),(1,RI y)] Tryz.func67 ?_
 refine aA [2,3,4] ?_
 refine mP ?_
 refine aB (ac1 x.natAbs y.natAbs (by omega) (by omega) (NJ zx) (NJ zy)) ?_
 have e:((x.natAbs:Int)*y.natAbs).toNat=x.natAbs*y.natAbs:=by rw [←Int.natCast_mul];exact Int.toNat_natCast _
 simp only [Dn,e]
 obtain⟨m,hm⟩:∃m,m=x.natAbs*y.natAbs:=⟨_,rfl⟩
 rw [←hm]
 simp (disch:=omega) [gw]
 refine aB (nK m (decide (x<0) != decide (y<0))) ?_
 have e2:=ZA x y
 rw [←hm]at e2
 rw [e2]
 simp (disch:=omega) [gw]
 refine bL [4] ?_
 exact bV
theorem C5(x y:Int)(zx:Z x)(zy:Z y):aD env.P 167 [RI x,RI y] (RI (x+y)):=by
 refine bY [(0,RI x),(1,RI y)] Tryz.func167 ?_
 refine aA [2,3,4] ?_
 refine aL [2,3,4,9] ?_
 refine bC ?_ ?_<;>intro h
 ·simp at h
  refine mP ?_
  refine aB (ac0 x.natAbs y.natAbs (by omega) (by omega) (NJ zx) (NJ zy)) ?_
  have e:((x.natAbs:Int)+y.natAbs).toNat=x.natAbs+y.natAbs:=by omega
  simp only [Dn,e]
  obtain⟨m,hm⟩:∃m,m=x.natAbs+y.natAbs:=⟨_,rfl⟩
  rw [←hm]
  simp (disch:=omega) [gw]
  refine aB (nK m _) ?_
  have e2:(if decide (x<0)=true then -(m:Int)else m)=x+y:=by by_cases h1:x<0<;>simp [h1]<;>omega
  rw [e2]
  simp (disch:=omega) [gw]
  refine bL [4] ?_
  exact bV
 ·simp at h
  refine W.skip ?_
  refine W.seq ?_
  refine iB ?_
  refine aB (NI x.natAbs y.natAbs (by omega) (by omega) (NJ zx) (NJ zy)) ?_
  simp (disch:=omega) [gw]
  refine bL [2,3,4,23] ?_
  refine W.cond ⟨_,rfl,fun h2=>?_,fun h2=>?_⟩
  ·have h2:(y.natAbs:Int)≤x.natAbs:=rU.1 (of_decide_eq_true h2)
   refine mP ?_
   refine aB (C4 x.natAbs y.natAbs (by omega) h2 (NJ zx)) ?_
   have e:((x.natAbs:Int)-y.natAbs).toNat=x.natAbs-y.natAbs:=by omega
   simp only [Dn,e]
   obtain⟨m,hm⟩:∃m,m=x.natAbs-y.natAbs:=⟨_,rfl⟩
   rw [←hm]
   simp (disch:=omega) [gw]
   refine aB (nK m _) ?_
   have e2:(if decide (x<0)=true then -(m:Int)else m)=x+y:=by by_cases h1:x<0<;>simp [h1]<;>omega
   rw [e2]
   simp (disch:=omega) [gw]
   refine bL [4] ?_
   exact bV
  ·have h2:(x.natAbs:Int)<y.natAbs:=by
    have h3:=of_decide_eq_false h2
    rw [rU]at h3;omega
   refine W.skip ?_
   refine mP ?_
   refine aB (C4 y.natAbs x.natAbs (by omega) (by omega) (NJ zy)) ?_
   have e:((y.natAbs:Int)-x.natAbs).toNat=y.natAbs-x.natAbs:=by omega
   simp only [Dn,e]
   obtain⟨m,hm⟩:∃m,m=y.natAbs-x.natAbs:=⟨_,rfl⟩
   rw [←hm]
   simp (disch:=omega) [gw]
   refine aB (nK m _) ?_
   have e2:(if decide (y<0)=true then -(m:Int)else m)=x+y:=by by_cases h1:y<0<;>simp [h1]<;>omega
   rw [e2]
   simp (disch:=omega) [gw]
   refine bL [4] ?_
   exact bV
theorem ayF{x:Int}(h:Z x):Z (-x):=by simpa [Z,oR]using h
theorem NK(x y:Int)(zx:Z x)(zy:Z y):aD env.P 146 [RI x,RI y] (RI (x-y)):=by
 have hn:=r7 y
 have zn:=ayF zy
 obtain⟨m,hm⟩:∃m,m = -y:=⟨_,rfl⟩
 rw [←hm]at hn zn
 have e:x-y=x+m:=by omega
 rw [e]
 refine bY [(0,RI x),(1,RI y)] Tryz.func146 ?_
 refine aA [2,3,4] ?_
 refine mP ?_
 refine cB hn ?_
 refine bS [4] (C5 x m zx zn) ?_
 exact bV
theorem ZB(x y:Int):(x-y).sign=dF x y:=by
 rcases Int.lt_trichotomy x y with h | h | h
 ·rw [mQ h,Int.sign_eq_neg_one_of_neg (by omega)]
 ·subst h;simp [AZ]
 ·rw [mR h,Int.sign_eq_one_of_pos (by omega)]
theorem ac2(x y:Int)(zx:Z x)(zy:Z y):aD env.P 66 [RI x,RI y] (.int .i64 (dF x y)):=by
 refine bY [(0,RI x),(1,RI y)] Tryz.func66 ?_
 refine aA [2,3] ?_
 refine iB ?_
 refine cB (NK x y zx zy) ?_
 refine aB (GU (x-y)) ?_
 rw [ZB]
 simp (disch:=omega) [gw]
 refine bL [4] ?_
 exact bV
end Go.Proofs.YtelhfbikiccfkaaGreat
