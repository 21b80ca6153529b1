import Derived.Test.YtiobceocpabjdaaGreatEaf
import Derived.Test.YtiobceocpabjdaaGreatEai
set_option linter.unusedSimpArgs false
set_option linter.unusedVariables false
namespace Go.Proofs.YtiobceocpabjdaaGreat
open Go Pm
theorem abA{t:Int}(h0:0<t)(h1:t<4294967296):∃s:Nat,s≤31∧(32:Int)-nb t.toNat=s∧2147483648≤t*2^s∧(t+1)*2^s≤4294967296:=by
 have h2:nb t.toNat≤32:=mU.2 (by omega)
 have h3:1≤nb t.toNat:=by
  rcases Nat.eq_zero_or_pos (nb t.toNat)with h | h
  ·have:=mU.1 (Nat.le_of_eq h);omega
  ·exact h
 obtain⟨k,hk⟩:∃k,nb t.toNat=k+1:=⟨nb t.toNat-1,by omega⟩
 have h4:t.toNat<2^(k+1):=mU.1 (Nat.le_of_eq hk)
 have h5:2^k≤t.toNat:=by
  rcases Nat.lt_or_ge t.toNat (2^k)with h | h
  ·have:=mU.2 h;omega
  ·exact h
 have e1:(2:Int)^(k+1)*2^(31-k)=4294967296:=by rw [←Int.pow_add,show k+1+(31-k)=32 by omega];rfl
 have e2:(2:Int)^k*2^(31-k)=2147483648:=by rw [←Int.pow_add,show k+(31-k)=31 by omega];rfl
 have hp:(0:Int)<2^(31-k):=Int.pow_pos (by decide)
 have q1:((2^k:Nat):Int)=(2:Int)^k:=Int.natCast_pow 2 k
 have q2:((2^(k+1):Nat):Int)=(2:Int)^(k+1):=Int.natCast_pow 2 (k+1)
 refine⟨31-k,by omega,by omega,?_,?_⟩
 ·have:=Int.mul_le_mul_of_nonneg_right (show (2:Int)^k≤t by omega) (Int.le_of_lt hp)
  omega
 ·have:=Int.mul_le_mul_of_nonneg_right (show t+1≤(2:Int)^(k+1)by omega) (Int.le_of_lt hp)
  omega
theorem WT{y:List Int}(hc:aI y=y)(h:y ≠ []):nth y (y.length-1)≠0:=by
 intro h0
 have hl:0<y.length:=List.length_pos_iff.2 h
 have e:y=y.take (y.length-1) ++ [0]:=by
  have:=aT (l:=y) (i:=y.length-1) (by omega)
  rw [h0,show y.length-1+1=y.length by omega,List.take_length]at this
  exact this
 have h1:=jH (y.take (y.length-1))
 rw [←e,hc]at h1
 have h2:=bU (y.take (y.length-1))
 rw [←h1,List.length_take]at h2
 omega
theorem abB:N 0=us []:=rfl
theorem abC{m i:Nat}{X D:List Int}{Y g:Int}(lX:cM 4294967296 X)(lD:cM 4294967296 D)(hYb:Y<4294967296^(m+2))(hY0:0<Y)(wQ:i+m+3≤X.length)(hDl:D.length=(X.drop i).length)(hDd:D.drop (m+3)=(X.drop i).drop (m+3))
  (hg:g=V 4294967296 ((X.drop i).take (m+3))/Y) (hDv:V 4294967296 (D.take (m+3))=V 4294967296 ((X.drop i).take (m+3))%Y) (dM:V 4294967296 (X.drop (i+1))<Y) :
  V 4294967296 ((X.take i++D).drop i)<Y∧V 4294967296 (X.take i++D)=V 4294967296 X-4294967296^i*(g*Y):=by
 have hl:(X.take i).length=i:=by simp;omega
 have e1:(X.take i++D).drop i=D:=by rw [List.drop_append,hl,List.drop_of_length_le (by omega)];simp
 have hD3:=jY (b:=4294967296) D (m+3) (by rw [hDl];simp;omega)
 have hX3:=jY (b:=4294967296) (X.drop i) (m+3) (by simp;omega)
 have hXi:=jY (b:=4294967296) X i (by omega)
 have hz:V 4294967296 ((X.drop i).drop (m+3))=0:=by
  have h1:=jY (b:=4294967296) (X.drop (i+1)) (m+2) (by simp;omega)
  have h2:(X.drop (i+1)).drop (m+2)=(X.drop i).drop (m+3):=by
   rw [List.drop_drop,List.drop_drop];congr 1;omega
  have h3:=bN (b:=4294967296) (by decide) ((lX.drop (i+1)).take (m+2))
  have h4:=bN (b:=4294967296) (by decide) ((lX.drop i).drop (m+3))
  rw [h2]at h1
  rcases Int.lt_or_le 0 (V 4294967296 ((X.drop i).drop (m+3)))with h5 | h5
  ·exfalso
   have:=Int.mul_le_mul_of_nonneg_left (show 1≤V 4294967296 ((X.drop i).drop (m+3))by omega) (show 0≤(4294967296:Int)^(m+2)by omega)
   omega
  ·omega
 rw [hDd,hz,Int.mul_zero,Int.add_zero]at hD3
 rw [hz,Int.mul_zero,Int.add_zero]at hX3
 have hm:=Int.emod_lt_of_pos (V 4294967296 ((X.drop i).take (m+3))) hY0
 have WI:=Int.mul_ediv_add_emod (V 4294967296 ((X.drop i).take (m+3))) Y
 rw [←hg,←hDv,←hX3,←hD3]at WI
 refine⟨by rw [e1,hD3,hDv];exact hm,?_⟩
 rw [dU,hl,hXi,←WI]
 grind
theorem KZ(a b:List Int)(ha:pB a)(hb:pB b)(h0:V 4294967296 b=0):aH env.P 259 [us a,us b] (.fG [us [],us [], .int .i64 2]):=by
 have hlb:=hb.len
 have WL:=ha.len
 have hcb:=bU b
 have hy:aI b = []:=by rw [qS eB hb.wP];show aU LL (V 4294967296 b).toNat = [];rw [h0];rfl
 refine cA [(0,us a),(1,us b)] Tryz.func259 ?_
 refine aA [0,1] ?_
 refine j4 ?_
 refine aD (dI a (by omega)) ?_
 simp (disch:=omega) [gw]
 refine aD (dI b (by omega)) ?_
 simp (disch:=omega) [gw]
 refine bO [0,1] ?_
 rw [hy]
 refine W.seq ?_
 refine W.block ?_
 refine aA [0,1,18] ?_
 refine bP ?_ ?_<;>intro h
 ·refine aA [4,5,6] ?_
  refine W.ret ?_
  simp [go]
  rfl
 ·cases h
theorem BW(a b:List Int)(ha:pB a)(hb:pB b)(h0:V 4294967296 b≠0)(WL:a.length<1099511627774)(hlb:b.length<1099511627774) :
  aH env.P 259 [us a,us b] (.fG [N (V 4294967296 a/V 4294967296 b),N (V 4294967296 a%V 4294967296 b), .int .i64 0]):=by
 have hca:=bU a
 have hcb:=bU b
 have hVa:=cV (b:=4294967296) a
 have hVb:=cV (b:=4294967296) b
 have lx:=eC ha.wP
 have ly:=eC hb.wP
 have cx:=dG a
 have cy:=dG b
 rw [←hVa,←hVb]
 rw [←hVb]at h0
 refine cA [(0,us a),(1,us b)] Tryz.func259 ?_
 refine aA [0,1] ?_
 refine j4 ?_
 refine aD (dI a (by omega)) ?_
 simp (disch:=omega) [gw]
 refine aD (dI b (by omega)) ?_
 simp (disch:=omega) [gw]
 refine bO [0,1] ?_
 have hxl:(aI a).length<1099511627774:=by omega
 have KT:(aI b).length<1099511627774:=by omega
 clear hVa hVb hca hcb
 generalize aI a=x at *
 generalize aI b=y at *
 have hyn:y ≠ []:=fun h=>h0 (by rw [h];rfl)
 have hyp:0<y.length:=List.length_pos_iff.2 hyn
 have hY0:0<V 4294967296 y:=by have:=bN (b:=4294967296) (by decide) ly;omega
 have hX0:=bN (b:=4294967296) (by decide) lx
 refine W.seq ?_
 refine W.block ?_
 refine aA [0,1,18] ?_
 refine bP ?_ ?_<;>intro h
 ·exfalso;simp at h;exact hyn h
 clear h
 refine aA [0,1,22] ?_
 refine bP ?_ ?_<;>intro h
 ·have h:x.length<y.length:=by simp at h;omega
  have sO:=jJ (b:=4294967296) (by decide) lx ly cy h
  rw [Int.ediv_eq_zero_of_lt hX0 sO,Int.emod_eq_of_lt hX0 sO]
  refine j4 ?_
  refine aD (oD x (by omega) lx) ?_
  simp (disch:=omega) [gw]
  refine bO [4,5,6] ?_
  refine W.ret ?_
  simp [go]
  rfl
 have sO:y.length≤x.length:=by simp at h;omega
 clear h
 refine aA [0,1,30] ?_
 refine bP ?_ ?_<;>intro h
 ·have h:y.length=1:=by simp at h;omega
  obtain⟨w,rfl⟩:∃w,y = [w]:=match y,h with | [w],_=>⟨w,rfl⟩
  have hw:=(cM.cons.1 ly).1
  have hV1:V 4294967296 [w]=w:=mS
  rw [hV1]at h0 hY0 ⊢
  have NA:=Int.emod_nonneg (V 4294967296 x) h0
  have E4:=Int.emod_lt_of_pos (V 4294967296 x) hY0
  have jS:=afs x w (by omega) lx hY0 hw.2
  have lr:cM 4294967296 [V 4294967296 x%w]:=cM.cons.2 ⟨⟨NA,by omega⟩,cM.nil⟩
  have pE:=dI [V 4294967296 x%w] (by simp)
  rw [vB lr,mS]at pE
  have hnw:nth [w] 0=w:=rfl
  generalize V 4294967296 x/w=qq at *
  generalize V 4294967296 x%w=rr at *
  refine W.sr ?_
  simp (disch:=omega) [gw,hnw]
  refine cI [7,8] jS ?_
  refine aY [4,5,6] pE ?_
  exact cP
 have hy2:2≤y.length:=by simp at h;omega
 clear h
 obtain⟨m,hm⟩:∃m,y.length=m+2:=⟨y.length-2,by omega⟩
 have htn:=WT cy hyn
 rw [show y.length-1=m+1 by omega]at htn
 have htl:=ly.nth (i:=m+1) (by omega)
 obtain⟨s,afB,hsn,uK,hs2⟩:=abA (t:=nth y (m+1)) (by omega) htl.2
 have hLZ:=alv (nth y (m+1)) htl.1 htl.2
 rw [hsn]at hLZ
 have hp:(0:Int)<2^s:=Int.pow_pos (by decide)
 have arX:(2:Int)^s≤2147483648:=by
  have:=Int.ofNat_le.2 (Nat.pow_le_pow_right (show 0<2 by decide) afB)
  simpa using this
 have hbm:(0:Int)<4294967296^(m+1):=Int.pow_pos (by decide)
 have alG:=nO (b:=4294967296) (by decide) lx
 have hVy:=jY (b:=4294967296) y (m+1) (by omega)
 have hy1:V 4294967296 (y.drop (m+1))=nth y (m+1):=by rw [eX (by omega),List.drop_of_length_le (by omega),mS]
 rw [hy1]at hVy
 have awL:=bN (b:=4294967296) (by decide) (ly.take (m+1))
 have hy3:=nO (b:=4294967296) (by decide) (ly.take (m+1))
 rw [List.length_take,Nat.min_eq_left (by omega)]at hy3
 have hyU:V 4294967296 y*2^s<4294967296^(m+2):=by
  have h1:V 4294967296 y<(nth y (m+1)+1)*4294967296^(m+1):=by rw [hVy];grind
  have h2:=Int.mul_lt_mul_of_pos_right h1 hp
  have h3:=Int.mul_le_mul_of_nonneg_right hs2 (Int.le_of_lt hbm)
  have e:(nth y (m+1)+1)*4294967296^(m+1)*2^s=(nth y (m+1)+1)*2^s*4294967296^(m+1):=by grind
  rw [show m+2=(m+1)+1 from rfl,Int.pow_succ]
  omega
 have hyL:2147483648*4294967296^(m+1)≤V 4294967296 y*2^s:=by
  have h1:nth y (m+1)*4294967296^(m+1)≤V 4294967296 y:=by rw [hVy,Int.mul_comm];omega
  have h2:=Int.mul_le_mul_of_nonneg_right h1 (Int.le_of_lt hp)
  have h3:=Int.mul_le_mul_of_nonneg_right uK (Int.le_of_lt hbm)
  have e:nth y (m+1)*4294967296^(m+1)*2^s=nth y (m+1)*2^s*4294967296^(m+1):=by grind
  omega
 have hxU:V 4294967296 x*2^s<4294967296^(x.length+1):=by
  rw [Int.pow_succ]
  exact Int.lt_of_lt_of_le (Int.mul_lt_mul_of_pos_right alG hp) (Int.mul_le_mul_of_nonneg_left (by omega) (Int.le_of_lt (Int.pow_pos (by decide))))
 obtain⟨x',hwx,aBV,lx',alH⟩:=KS x s (x.length+1) afB (by omega) lx (by omega) (by omega) hxU
 obtain⟨y',hwy,arY,ly',WU⟩:=KS y s (m+2) afB (by omega) ly (by omega) (by omega) hyU
 have awN:2147483648≤nth y' (m+1):=by
  have h1:=jY (b:=4294967296) y' (m+1) (by omega)
  have h2:V 4294967296 (y'.drop (m+1))=nth y' (m+1):=by rw [eX (by omega),List.drop_of_length_le (by omega),mS]
  have h3:=nO (b:=4294967296) (by decide) (ly'.take (m+1))
  rw [List.length_take,Nat.min_eq_left (by omega)]at h3
  rw [h2,WU]at h1
  rcases Int.lt_or_le (nth y' (m+1)) 2147483648 with h4 | h4
  ·exfalso
   have:=Int.mul_le_mul_of_nonneg_left (show nth y' (m+1)+1≤2147483648 by omega) (Int.le_of_lt hbm)
   rw [Int.mul_add,Int.mul_comm _ 2147483648]at this
   omega
  ·exact h4
 have afC:0<V 4294967296 y':=by rw [WU];exact Int.mul_pos hY0 hp
 have awO:V 4294967296 y'<4294967296^(m+2):=by rw [WU];exact hyU
 have hxm:m+2≤x.length:=by omega
 have hqx:V 4294967296 x/V 4294967296 y=V 4294967296 x'/V 4294967296 y':=by rw [alH,WU,Int.mul_ediv_mul_of_pos_left _ _ hp]
 have hrx:V 4294967296 x%V 4294967296 y=V 4294967296 x'%V 4294967296 y'/2^s:=by
  rw [alH,WU]
  have e1:=Int.emod_def (V 4294967296 x*2^s) (V 4294967296 y*2^s)
  rw [Int.mul_ediv_mul_of_pos_left _ _ hp]at e1
  have e2:=Int.emod_def (V 4294967296 x) (V 4294967296 y)
  rw [e1,e2]
  have e3:V 4294967296 x*2^s-V 4294967296 y*2^s*(V 4294967296 x/V 4294967296 y)=(V 4294967296 x-V 4294967296 y*(V 4294967296 x/V 4294967296 y))*2^s:=by grind
  rw [e3,Int.mul_ediv_cancel _ (by omega)]
 have arZ:V 4294967296 (x'.drop (x.length-m-1))<V 4294967296 y':=by
  have h1:=jY (b:=4294967296) x' (x.length-m-1) (by omega)
  have h2:=bN (b:=4294967296) (by decide) (lx'.take (x.length-m-1))
  rw [alH]at h1
  have h3:V 4294967296 x*2^s<4294967296^(x.length-m-1)*(4294967296^(m+1)*2^s):=by
   rw [←Int.mul_assoc,←Int.pow_add,show x.length-m-1+(m+1)=x.length by omega]
   exact Int.mul_lt_mul_of_pos_right alG hp
  have h4:V 4294967296 (x'.drop (x.length-m-1))<4294967296^(m+1)*2^s:=Int.lt_of_mul_lt_mul_left (a:=4294967296^(x.length-m-1)) (by omega) (Int.le_of_lt (Int.pow_pos (by decide)))
  have h5:=Int.mul_le_mul_of_nonneg_left arX (Int.le_of_lt hbm)
  rw [WU]
  rw [Int.mul_comm _ 2147483648]at h5
  omega
 rw [hqx,hrx]
 refine W.skip ?_
 have a1:((m:Int)+2-1)=((m+1:Nat):Int):=by omega
 refine W.sr ?_
 simp (disch:=omega) [gw,hm,a1]
 refine cI [0,1,9] hLZ ?_
 replace hwx:oB env.P 270 [us x, .int .i64 s, .int .i64 ((x.length:Int)+1)] 185 1 (emap u32 x'):=hwx
 replace hwy:oB env.P 270 [us y, .int .i64 s, .int .i64 ((m:Int)+2)] 185 1 (emap u32 y'):=hwy
 refine W.sr ?_
 simp (disch:=omega) [gw,hm]
 refine aiq hwx 58 (by simp) (by simp) (by simp) ?_
 simp (disch:=omega) [gw,hm]
 refine aiq hwy 63 (by simp) (by simp) (by simp) ?_
 simp (disch:=omega) [gw]
 refine bO [0,9,10,11] ?_
 refine W.freeze 63 (by simp) (fun K hK=>?_)
 simp
 refine hK _ ?_;clear hK K
 refine W.sr ?_
 simp (disch:=omega) [gw,arY]
 refine bO [0,9,10,11,12] ?_
 obtain⟨ql,hql⟩:∃ql,x.length=ql+m+1:=⟨x.length-m-1,by omega⟩
 rw [show x.length-m-1=ql by omega]at arZ
 have aiv:x'.length=ql+m+2:=by omega
 have aq:(x.length:Int)-((m:Int)+2)+1=(ql:Int):=by omega
 refine W.sr ?_
 simp (disch:=omega) [gw,aq]
 refine bO [4,9,10,11,12] ?_
 clear hwx hwy hVy hy1 awL hy3 hyU hyL hxU hqx hrx htn htl uK hs2 hsn hLZ alG hY0 hX0
 refine aM [4,9,10,11,12,13] ?_
 refine W.block ?_
 refine W.a8 (fun q σ=>∃(v4:Nat) (X Q:List Int) (rows:Pm.Rows) (clk:Nat),σ=⟨fa [(4, .own 71 v4 0 ql),(9, .int .i64 s),(10, .own 58 0 0 (ql+m+2)),(11,us y'),(12, .int .i64 ((m:Int)+2)),(13, .int .i64 ((q:Int)-1))],rows,clk⟩ ∧
  rows 58=some ⟨0,185,1,emap u32 X⟩∧rows 71=some ⟨v4,185,1,emap u32 Q⟩∧q≤ql∧X.length=ql+m+2∧Q.length=ql∧cM 4294967296 X∧cM 4294967296 Q ∧
  V 4294967296 X+4294967296^q*V 4294967296 (Q.drop q)*V 4294967296 y'=V 4294967296 x'∧V 4294967296 (X.drop q)<V 4294967296 y') ql ?_ ?_
 ·exact⟨_,Gh.fr [(4, .own 71 _ 0 ql),(9, .int .i64 s),(10, .own 58 0 0 (ql+m+2)),(11,us y'),(12, .int .i64 ((m:Int)+2)),(13, .int .i64 ((ql:Int)-1))] (by simp [aiv];exact rfl),_,x',List.replicate ql 0,_,_,rfl,by simp,by simp,by omega,aiv,by simp,lx',cM.rep (by decide) _,by simp [V],arZ⟩
 rintro q _ ⟨v4,X,Q,rows,clk,rfl,afD,alI,hq,hXl,hQl,lX,lQ,hVX,hXU⟩
 refine aM [4,9,10,11,12,13,76] ?_
 refine bP ?_ ?_<;>intro h
 ·have NH:0<q:=by simp at h;omega
  obtain⟨i,rfl⟩:∃i,q=i+1:=⟨q-1,by omega⟩
  clear h
  have ei:((i+1:Nat):Int)-1=i:=by omega
  rw [ei]
  have ar0:V 4294967296 ((X.drop i).take (m+3))<4294967296*V 4294967296 y':=by
   have h1:=jY (b:=4294967296) (X.drop i) (m+3) (by simp;omega)
   have h2:=bN (b:=4294967296) (by decide) ((lX.drop i).drop (m+3))
   have h3:=Int.mul_nonneg (show (0:Int)≤4294967296^(m+3)from Int.le_of_lt (Int.pow_pos (by decide))) h2
   have h4:V 4294967296 (X.drop i)=nth X i+4294967296*V 4294967296 (X.drop (i+1)):=by rw [eX (by omega)];rfl
   have h5:=lX.nth (i:=i) (by omega)
   omega
  have afF:=fun(rows:Pm.Rows) clk hr=>PO (id:=58) (ver:=0) (off:=i) (m:=m) X y' rows clk hr arY (by omega) ly' awN lX (by omega) (by omega) ar0
  have e6:(i:Int)+((m:Int)+2)+1=((i+m+3:Nat):Int):=by omega
  have e7:((i:Int)+(m:Int)+3).toNat-i=m+3:=by omega
  refine iT ?_
  refine W.b9 (fun K hK=>?_)
  simp (disch:=omega) [gw,afD,hXl,e6,e7]
  refine aqm (afF _ _ afD) ?_
  rintro r rows' kG ⟨D,rfl,rfl,rfl,hDl,lD,hDd,hDv⟩
  have j3:=abC (g:=V 4294967296 ((X.drop i).take (m+3))/V 4294967296 y') lX lD awO afC (by omega) hDl hDd rfl hDv hXU
  have hg0:0≤V 4294967296 ((X.drop i).take (m+3))/V 4294967296 y':=Int.ediv_nonneg (bN (by decide) ((lX.drop i).take _)) (Int.le_of_lt afC)
  have hg1:V 4294967296 ((X.drop i).take (m+3))/V 4294967296 y'<4294967296:=Int.ediv_lt_of_lt_mul afC ar0
  generalize V 4294967296 ((X.drop i).take (m+3))/V 4294967296 y'=g at *
  have awQ:(X.take i++D).length=ql+m+2:=by simp [hDl];omega
  have lX2:cM 4294967296 (X.take i++D):=cM.append.2 ⟨lX.take i,lD⟩
  obtain⟨awR,awS⟩:=j3
  generalize X.take i++D=X2 at *
  simp (disch:=omega) [gw,alI,hQl]
  refine W.lw [4,9,10,11,12,13] hK ?_;clear hK K;simp
  refine W.b9 (fun K hK=>?_);simp (disch:=omega) [gw]
  refine hK _ ⟨i,_,aC _ [4,9,10,11,12,13],by omega,v4,X2,Q.set i g,_,_,rfl,by simp,by simp,by omega,awQ,by simp [hQl],lX2,lQ.set ⟨hg0,hg1⟩,?_,awR⟩
  rw [awS,eX (l:=Q.set i g) (i:=i) (by simp;omega),eO (by omega),List.drop_set_of_lt (by omega),←hVX]
  simp only [V,Int.pow_succ]
  generalize V 4294967296 (Q.drop (i+1))=vq at *
  grind
 ·have NH:q=0:=by simp at h;omega
  subst NH
  simp only [List.drop_zero,Int.pow_zero,Int.one_mul]at hVX hXU
  have hX0:=bN (b:=4294967296) (by decide) lX
  have hQe:V 4294967296 x'/V 4294967296 y'=V 4294967296 Q:=by
   have e:(V 4294967296 Q+1)*V 4294967296 y'=V 4294967296 Q*V 4294967296 y'+V 4294967296 y':=by grind
   rw [Int.ediv_eq_iff_of_pos afC]
   constructor<;>omega
  have hRe:V 4294967296 x'%V 4294967296 y'=V 4294967296 X:=by
   have h3:=Int.emod_def (V 4294967296 x') (V 4294967296 y')
   rw [hQe,Int.mul_comm]at h3
   omega
  have hXt:V 4294967296 (X.take (m+2))=V 4294967296 X:=by
   have h1:=jY (b:=4294967296) X (m+2) (by omega)
   have h2:=bN (b:=4294967296) (by decide) (lX.drop (m+2))
   have h3:=bN (b:=4294967296) (by decide) (lX.take (m+2))
   have h4:(0:Int)<4294967296^(m+2):=Int.pow_pos (by decide)
   rcases Int.lt_or_le 0 (V 4294967296 (X.drop (m+2)))with h5 | h5
   ·exfalso
    have:=Int.mul_le_mul_of_nonneg_left (show 1≤V 4294967296 (X.drop (m+2))by omega) (Int.le_of_lt h4)
    omega
   ·have:V 4294967296 (X.drop (m+2))=0:=by omega
    rw [this]at h1;omega
  rw [hQe,hRe,←hXt]
  have zQ:=bJ hQl
  have zX:=bJ hXl
  have pE:=dI Q (by omega)
  rw [vB lQ]at pE
  have awT:=aft (X.take (m+2)) s afB (by simp;omega) (lX.take _)
  refine eJ ?_
  refine W.freeze 71 (by simp [alI]) (fun K hK=>?_)
  simp [alI,zQ]
  refine hK _ ?_;clear hK K
  refine W.freeze 58 (by simp [afD]) (fun K hK=>?_)
  simp [afD,zX]
  refine hK _ ?_;clear hK K
  have e8:((m:Int)+2).toNat=m+2:=by omega
  refine kB ?_
  refine aD pE ?_
  simp (disch:=omega) [gw,hXl,e8]
  refine cI [4,5,6] awT ?_
  exact cP
theorem HD{A B:Int}(hB:0<B)(hA:0≤A):(A%B=0→(-A)/B = -(A/B)∧(-A)%B=0)∧(0<A%B→(-A)/B = -(A/B+1)∧(-A)%B=B-A%B):=by
 have h1:=Int.mul_ediv_add_emod A B
 have h2:=Int.emod_lt_of_pos A hB
 constructor
 ·intro h
  refine(Int.ediv_emod_unique hB).2 ⟨?_,by omega,by omega⟩
  rw [Int.mul_neg];omega
 ·intro h
  refine(Int.ediv_emod_unique hB).2 ⟨?_,by omega,by omega⟩
  rw [Int.mul_neg,Int.mul_add];omega
theorem abD(n m:Bool){A B:Int}(hB:0<B)(hA:0≤A) :
  (¬(n=true∧0<A%B)→(if n=true then -A else A)/(if m=true then -B else B)=(if (n != m)=true then -(A/B)else A/B)∧(if n=true then -A else A)%(if m=true then -B else B)=A%B) ∧
  (n=true→0<A%B→(if n=true then -A else A)/(if m=true then -B else B)=(if (n != m)=true then -(A/B+1)else A/B+1)∧(if n=true then -A else A)%(if m=true then -B else B)=B-A%B):=by
 obtain⟨p1,p2⟩:=HD hB hA
 have h0:=Int.emod_nonneg A (show B≠0 by omega)
 cases n<;>cases m<;>simp [Int.ediv_neg,Int.emod_neg]
 ·exact⟨fun h=>by have:=p1 (by omega);exact⟨this.1,by omega⟩,p2⟩
 ·exact⟨fun h=>by have:=p1 (by omega);exact⟨by omega,by omega⟩,fun h=>by have:=p2 h;exact⟨by omega,this.2⟩⟩
theorem afG(p:RP)(hp:p.length<9223372036854775808):aH env.P 83 [Pg p] (.int .i64 ((p.length:Int)-1)):=by
 refine cA [(0,Pg p)] Tryz.func83 ?_
 refine aA [0] ?_
 refine aA [2] ?_
 exact cP
theorem K1(p:RP)(h:mL p):aH env.P 145 [Pg p] (I (lead (eF p))):=by
 have hl:=h.len
 have fF:=bU (p.map gv)
 rw [List.length_map]at fF
 refine cA [(0,Pg p)] Tryz.func145 ?_
 refine aA [0,2] ?_
 refine W.seq ?_
 refine aY [0,2] (eG p h) ?_
 rw [show aI (p.map gv)=eF p from rfl]at fF ⊢
 generalize eF p=x at *
 refine aA [0,2,7] ?_
 refine bP ?_ ?_<;>intro h
 ·have h:x = []:=by simp at h;exact h
  subst h
  refine aA [2] ?_
  refine W.ret ?_
  simp [go]
  exact⟨Int.le_refl 0,rfl⟩
 ·have h:x ≠ []:=by simp at h;exact h
  have oF:0<x.length:=List.length_pos_iff.2 h
  refine W.skip ?_
  have e1:((x.length:Int)-1).toNat=x.length-1:=by omega
  refine W.sr ?_
  simp (disch:=omega) [gw,e1]
  refine bO [2] ?_
  refine W.ret ?_
  simp [go,lead]
theorem K2{x:Int}{k:Nat}(h0:0≤x)(h:x<4294967296^k):sz LL x≤k:=cK eB (by
 have e:((4294967296^k:Nat):Int)=(4294967296:Int)^k:=Int.natCast_pow 4294967296 k
 show x.natAbs<4294967296^k
 omega)
theorem S4{x:Int}{k:Nat}(h0:0≤x)(h:sz LL x≤k)(hk:k<1099511627776):pB (aU LL x.toNat):=⟨eQ eB _,by
 have e:x.natAbs=x.toNat:=by omega
 unfold sz at h
 rw [e]at h
 omega⟩
theorem abE{x:Int}(h0:0≤x):V 4294967296 (aU LL x.toNat)=x:=by
 have:=jX eB x.toNat
 rw [show((LL:Nat):Int)=4294967296 from rfl]at this
 rw [this];omega
theorem afH{x:Int}(h0:0≤x):(0<(aU LL x.toNat).length)↔0<x:=by
 rw [List.length_pos_iff,Ne,eI eB];omega
theorem K3(n m:Bool)(l k:List Int)(F5:pB l)(h':pB k)(hl:l.length<1099511627774)(hk:k.length<1099511627774) :
  aH env.P 260 [IV n l,IV m k] (if V 4294967296 k=0 then .fG [I 0,I 0, .int .i64 2]else .fG [I (iv n l/iv m k),I (iv n l%iv m k), .int .i64 0]):=by
 have p1:=qX F5
 have p2:=qX h'
 refine cA [(0,IV n l),(1,IV m k)] Tryz.func260 ?_
 refine aA [2,3,4,5] ?_
 by_cases h0:V 4294967296 k=0
 ·rw [if_pos h0]
  refine aY [2,3,4,5,6,7,8] (KZ l k F5 h' h0) ?_
  refine aM [2,3,4,5,6,7,8,19] ?_
  refine bP ?_ ?_<;>intro h
  ·refine aA [4,5,6] ?_
   refine W.ret ?_
   simp [go]
   rfl
  ·cases h
 ·rw [if_neg h0]
  have hB:0<V 4294967296 k:=by omega
  have R9:=BW l k F5 h' h0 hl hk
  obtain⟨d1,d2⟩:=abD n m hB p1
  rw [show(if n=true then -V 4294967296 l else V 4294967296 l)=iv n l from rfl,show(if m=true then -V 4294967296 k else V 4294967296 k)=iv m k from rfl]at d1 d2
  have q0:=Int.ediv_nonneg p1 p2
  have r0:=Int.emod_nonneg (V 4294967296 l) h0
  have r1:=Int.emod_lt_of_pos (V 4294967296 l) hB
  have oP:sz LL (V 4294967296 l/V 4294967296 k)≤l.length:=K2 q0 (Int.lt_of_le_of_lt (Int.ediv_le_self _ p1) (nO (by decide) F5.wP))
  have awU:sz LL (V 4294967296 l%V 4294967296 k)≤k.length:=K2 r0 (Int.lt_trans r1 (nO (by decide) h'.wP))
  refine aY [2,3,4,5,6,7,8] R9 ?_
  generalize V 4294967296 l/V 4294967296 k=Q at *
  generalize V 4294967296 l%V 4294967296 k=R at *
  refine aM [2,3,4,5,6,7,8,19] ?_
  refine bP ?_ ?_<;>intro h
  ·cases h
  refine W.skip ?_
  refine j4 ?_
  refine b8 (gL Q q0 (n != m)) ?_
  refine cI [2,3,4,5,7,8] (gL R r0 false) ?_
  refine W.gD (fun σ=>∃(rows:Pm.Rows) (clk:Nat),σ=⟨fa [(4, .ptr 4 2 0 0),(5, .ptr 5 3 0 0)],rows,clk⟩∧rows 4=some ⟨2,38,2,[ie (iv n l/iv m k)]⟩∧rows 5=some ⟨3,38,2,[ie (iv n l%iv m k)]⟩) ?_ ?_
  ·
   by_cases alJ:n=true∧0<R
   ·obtain⟨rfl,hR⟩:=alJ
    obtain⟨e1,e2⟩:=d2 rfl hR
    rw [e1,e2]
    have hdp:=(afH r0).2 hR
    have hQl:=S4 q0 oP F5.len
    have hRl:=S4 r0 awU h'.len
    have ar1:=SZ (aU LL Q.toNat) [1] hQl.len (by simp) hQl.wP (cM.cons.2 ⟨by decide,cM.nil⟩)
    rw [abE q0,mS]at ar1
    have ar2:=G7 k (aU LL R.toNat) h'.len hRl.len h'.wP hRl.wP
    rw [abE r0,PG,if_neg (by omega)]at ar2
    refine W.gK (fun σ=>∃(rows:Pm.Rows) (clk:Nat),σ=⟨fa [(2, .ptr 2 0 0 0),(3, .ptr 3 1 0 0),(4, .ptr 4 2 0 0),(5, .ptr 5 3 0 0),(7,N Q),(8,N R),(38, .bool true)],rows,clk⟩∧rows 2=some ⟨0,38,2,[[.bool true,us l]]⟩∧rows 3=some ⟨1,38,2,[[.bool m,us k]]⟩∧rows 4=some ⟨2,38,2,[ie (if true=m then Q else -Q)]⟩∧rows 5=some ⟨3,38,2,[ie R]⟩) (fun K hK=>?_) ?_
    ·simp (disch:=omega) [gw,hdp]
     exact hK _ _ (aC _ [2,3,4,5,7,8,38]) ⟨_,_,rfl,by simp,by simp,by simp,by simp⟩
    rintro _ ⟨rows,clk,rfl,cR,fU,gN,dY⟩
    refine bP ?_ ?_<;>intro h
    ·refine aY [2,3,4,5,7,8] ar1 ?_
     refine W.sr ?_
     simp (disch:=omega) [gw,fU]
     refine cI [2,3,4,5,7,8] ar2 ?_
     refine W.b9 (fun K hK=>?_)
     simp (disch:=omega) [gw,cR,fU]
     refine aD (gL (Q+1) (by omega) (!m)) ?_
     simp (disch:=omega) [gw]
     refine aD (gL (V 4294967296 k-R) (by omega) false) ?_
     simp (disch:=omega) [gw,gN,dY]
     exact hK _ ⟨_,aC _ [4,5],_,_,rfl,by cases m<;>simp,by simp⟩
    ·cases h
   ·obtain⟨e1,e2⟩:=d1 alJ
    rw [e1,e2]
    refine W.gK (fun σ=>∃(rows:Pm.Rows) (clk:Nat),σ=⟨fa [(4, .ptr 4 2 0 0),(5, .ptr 5 3 0 0),(38, .bool false)],rows,clk⟩∧rows 4=some ⟨2,38,2,[ie (if (n != m)=true then -Q else Q)]⟩∧rows 5=some ⟨3,38,2,[ie R]⟩) (fun K hK=>?_) ?_
    ·cases n with
     | false =>
      simp (disch:=omega) [gw]
      exact hK _ _ (aC _ [4,5,38]) ⟨_,_,rfl,by cases m<;>simp,by simp⟩
     | true =>
      have hR:R=0:=by simp at alJ;omega
      subst hR
      simp (disch:=omega) [gw]
      exact hK _ _ (aC _ [4,5,38]) ⟨_,_,rfl,by cases m<;>simp,by simp⟩
    rintro _ ⟨rows,clk,rfl,gN,dY⟩
    refine bP ?_ ?_<;>intro h
    ·cases h
    ·refine W.skip ?_
     exact⟨_,aC _ [4,5],_,_,rfl,gN,dY⟩
  rintro _ ⟨rows,clk,rfl,gN,dY⟩
  generalize iv n l/iv m k=q at *
  generalize iv n l%iv m k=r at *
  refine W.sd ?_
  simp (disch:=omega) [gw,gN,dY]
  refine bF (by kernel_rfl) ?_
  simp (disch:=omega) [gw,gN,dY]
  rw [if_pos (by kernel_rfl)]
  simp (disch:=omega) [gw,gN,dY]
  refine bF (by kernel_rfl) ?_
  simp (disch:=omega) [gw]
  refine bO [4,5,6] ?_
  exact cP
theorem PU(n m:Bool)(l k:List Int)(h:pB l)(h':pB k)(hl:l.length<1099511627774)(hk:k.length<1099511627774)(h0:V 4294967296 k≠0) :
  aH env.P 234 [IV n l,IV m k] (if iv n l%iv m k=0 then .fG [I (iv n l/iv m k), .int .i64 0]else .fG [I 0, .int .i64 3]):=by
 have R9:=K3 n m l k h h' hl hk
 rw [if_neg h0]at R9
 have I2:0≤iv n l%iv m k:=Int.emod_nonneg _ (by unfold iv;split<;>omega)
 generalize iv n l/iv m k=q at *
 generalize iv n l%iv m k=r at *
 have hrn:(aU LL r.natAbs = [])↔r=0:=by rw [eI eB];omega
 refine cA [(0,IV n l),(1,IV m k)] Tryz.func234 ?_
 refine aA [2,3,4] ?_
 refine aY [4,6,7,8] R9 ?_
 refine aM [4,6,7,8,17] ?_
 refine bP ?_ ?_<;>intro h
 ·cases h
 refine W.skip ?_
 refine aM [4,6,23] ?_
 by_cases hr:r=0
 ·rw [if_pos hr]
  refine bP ?_ ?_<;>intro h
  ·exfalso;have h2:=hrn.2 hr;rw [h2]at h;simp at h
  ·refine W.skip ?_
   refine aA [4,5] ?_
   exact cP
 ·rw [if_neg hr]
  refine bP ?_ ?_<;>intro h
  ·refine aA [4,5] ?_
   refine W.ret ?_
   simp [go]
   rfl
  ·exfalso;simp at h;exact hr (hrn.1 h)
def bL(l:List Int):Nat:=l.foldl (fun g c=>Nat.gcd g c.natAbs) 0
theorem gcd_one:∀l:List Int,l.foldl (fun g c=>Nat.gcd g c.natAbs) 1=1
 | []=>rfl
 | c::l=>by simp only [List.foldl_cons,Nat.gcd_one_left];exact gcd_one l
theorem PW(l:List Int)(i:Nat)(h:bL (l.take i)=1):bL l=1:=by
 unfold bL at *
 rw [←List.take_append_drop i l,List.foldl_append,h]
 exact gcd_one _
theorem WV(l:List Int)(i:Nat)(h:i<l.length):bL (l.take (i+1))=Nat.gcd (bL (l.take i)) (nth l i).natAbs:=by
 unfold bL
 rw [aT h,List.foldl_append];rfl
theorem ar3(x:Nat):N (x:Int)=us (aU LL x):=rfl
theorem BX{x k:Nat}(h:x<4294967296^k):(aU LL x).length≤k:=uZ eB h
theorem B0(p:RP)(K0:Nat)(hK0:K0<1099511627774)(hp:∀c∈p,cM 4294967296 c.2∧c.2.length≤K0)(ZL:p.length<1099511627776):aH env.P 233 [Pg p] (I (bL (p.map gv))):=by
 have hng:∀c∈p,(gv c).natAbs=(V 4294967296 c.2).toNat:=fun c hc=>by
  have:=bN (b:=4294967296) (by decide) (hp c hc).1
  unfold gv iv;split<;>omega
 refine cA [(0,Pg p)] Tryz.func233 ?_
 refine aA [0,2] ?_
 refine aA [0,2,3] ?_
 refine W.KB 3 (us []) (by simp) rfl (fun K hK=>?_)
 refine W.lw [0,2,3] hK ?_;clear hK K;simp
 have awV:∀i,i<p.length→(nth (p.map gv) i).natAbs=(V 4294967296 (nth p i).2).toNat:=fun i hi=>by rw [tO];exact hng _ (bI hi)
 refine W.gD (fun σ=>∃(rows:Pm.Rows) (clk:Nat),σ=⟨fa [(2, .ptr 2 0 0 0),(3,us (aU LL (bL (p.map gv))))],rows,clk⟩∧rows 2=some ⟨0,38,2,[[.bool false, .nil]]⟩∧bL (p.map gv)<4294967296^K0) ?_ ?_
 ·
  refine aA [2,3,10,11,12] ?_
  refine W.block ?_
  refine W.a8 (fun q σ=>∃(i:Nat) (rows:Pm.Rows) (clk:Nat),σ=⟨fa [(2, .ptr 2 0 0 0),(3,us (aU LL (bL ((p.map gv).take i)))),(10,Pg p),(11, .int .i64 p.length),(12, .int .i64 i)],rows,clk⟩∧rows 2=some ⟨0,38,2,[[.bool false, .nil]]⟩∧q=p.length-i∧i≤p.length∧bL ((p.map gv).take i)<4294967296^K0) p.length ?_ ?_
  ·exact⟨_,Gh.fr [(2, .ptr 2 0 0 0),(3,us (aU LL (bL ((p.map gv).take 0)))),(10,Pg p),(11, .int .i64 p.length),(12, .int .i64 (0:Nat))] (by simp [bL,kW]),0,_,_,rfl,by simp,by omega,by omega,by simp [bL];exact Nat.pow_pos (by decide)⟩
  rintro q _ ⟨i,rows,clk,rfl,cR,hq,hi,I1⟩
  refine cC [2,3,10,11,12,13] ?_
  refine bP ?_ ?_<;>intro h
  ·have hi:i<p.length:=by simp at h;omega
   obtain⟨uP,hc2⟩:=hp _ (bI hi)
   have hV0:=bN (b:=4294967296) (by decide) uP
   have hVl:=nO (b:=4294967296) (by decide) uP
   obtain⟨x0,oF⟩:=Int.eq_ofNat_of_zero_le hV0
   have K4:=oD (nth p i).2 (by omega) uP
   rw [oF,ar3]at K4
   have hxb:x0<4294967296^K0:=by
    have e:((4294967296^(nth p i).2.length:Nat):Int)=(4294967296:Int)^(nth p i).2.length:=Int.natCast_pow 4294967296 _
    have e2:4294967296^(nth p i).2.length≤4294967296^K0:=Nat.pow_le_pow_right (by decide) hc2
    omega
   have hgs:=WV (p.map gv) i (by simpa using hi)
   rw [awV i hi,oF]at hgs
   simp only [Int.toNat_natCast]at hgs
   refine iT ?_
   refine W.sr ?_
   simp (disch:=omega) [gw,cR]
   refine bO [2,3,5,10,11,12] ?_
   refine aY [2,3,6,10,11,12] K4 ?_
   refine W.seq ?_
   refine W.block ?_
   refine W.a8 (fun q σ=>∃(g x:Nat) (rows:Pm.Rows) (clk:Nat),σ=⟨fa [(2, .ptr 2 0 0 0),(3,us (aU LL g)),(6,us (aU LL x)),(10,Pg p),(11, .int .i64 p.length),(12, .int .i64 i)],rows,clk⟩∧rows 2=some ⟨0,38,2,[[.bool false, .nil]]⟩∧q=x∧Nat.gcd g x=bL ((p.map gv).take (i+1))∧g<4294967296^K0∧x<4294967296^K0) x0 ?_ ?_
   ·exact⟨_, .refl,bL ((p.map gv).take i),x0,_,_,rfl,by simp [cR],rfl,hgs.symm,I1,hxb⟩
   rintro q2 _ ⟨g,x,rows,clk,rfl,cR,hq2,hgx,hg,hx⟩
   refine aM [2,3,6,10,11,12,21] ?_
   refine bP ?_ ?_<;>intro h
   ·have h1:aU LL x ≠ []:=by simp at h;exact List.length_pos_iff.1 h
    have oF:x≠0:=fun h2=>h1 ((eI eB).2 h2)
    have hlg:=BX hg
    have hlx:=BX hx
    have R9:=BW (aU LL g) (aU LL x) ⟨eQ eB _,by omega⟩ ⟨eQ eB _,by omega⟩ (by rw [show(4294967296:Int)=((LL:Nat):Int)from rfl,jX eB];omega) (by omega) (by omega)
    rw [show(4294967296:Int)=((LL:Nat):Int)from rfl,jX eB,jX eB,←Int.natCast_emod,ar3]at R9
    have hm:=Nat.mod_lt g (show 0<x by omega)
    have hgr:Nat.gcd x (g%x)=Nat.gcd g x:=by rw [Nat.gcd_comm x,←Nat.gcd_rec,Nat.gcd_comm]
    refine W.skip ?_
    refine W.block ?_
    refine aY [2,6,8,10,11,12] R9 ?_
    refine W.b9 (fun K hK=>?_);simp (disch:=omega) [gw]
    refine hK _ ⟨g%x,_,aC _ [2,3,6,10,11,12],by omega,x,g%x,_,_,rfl,by simp [cR],rfl,by rw [hgr,hgx],hx,by omega⟩
   ·have h1:aU LL x = []:=by simp at h;exact h
    have oF:x=0:=(eI eB).1 h1
    subst oF
    rw [Nat.gcd_zero_right]at hgx
    refine eJ ?_
    refine W.gK (fun σ=>∃(b:Bool) (rows:Pm.Rows) (clk:Nat),σ=⟨fa [(2, .ptr 2 0 0 0),(3,us (aU LL g)),(10,Pg p),(11, .int .i64 p.length),(12, .int .i64 i),(39, .bool b)],rows,clk⟩∧rows 2=some ⟨0,38,2,[[.bool false, .nil]]⟩∧(b=true→g=1)) (fun K hK=>?_) ?_
    ·by_cases h2:(aU LL g).length=1
     ·obtain⟨w,hw⟩:∃w,aU LL g = [w]:=match aU LL g,h2 with | [w],_=>⟨w,rfl⟩
      have hgv:=jX eB g
      rw [hw,mS]at hgv
      rw [hw]at hK ⊢
      have hnw:nth [w] 0=w:=rfl
      simp (disch:=omega) [gw,hnw]
      exact hK _ _ (aC _ [2,3,10,11,12,39]) ⟨_,_,_,rfl,by simp [cR],fun h3=>by simp at h3;omega⟩
     ·have h2':((aU LL g).length:Int)≠1:=by omega
      have hb:(((aU LL g).length:Int)==1)=false:=by simpa using h2'
      simp (disch:=omega) [gw,hb,h2]
      exact hK _ _ (aC _ [2,3,10,11,12,39]) ⟨_,_,_,rfl,by simp [cR],fun h3=>by cases h3⟩
    rintro _ ⟨b,rows,clk,rfl,cR,hb⟩
    refine bP ?_ ?_<;>intro h
    ·have hg1:=hb h
     subst hg1
     have tJ:=PW _ _ hgx.symm
     refine eJ ?_
     rw [tJ]
     exact⟨_,aC _ [2,3],rows,clk,rfl,cR,by rw [tJ]at *;exact hg⟩
    ·refine W.skip ?_
     subst hgx
     refine W.b9 (fun K hK=>?_);simp (disch:=omega) [gw]
     refine hK _ ⟨p.length-(i+1),_,aC _ [2,3,10,11,12],by omega,i+1,_,_,rfl,by simp [cR],by omega,by omega,hg⟩
  ·have hi:i=p.length:=by simp at h;omega
   rw [List.take_of_length_le (by simp;omega)]at I1 ⊢
   refine eJ ?_
   exact⟨_,aC _ [2,3],rows,clk,rfl,cR,I1⟩
 rintro _ ⟨rows,clk,rfl,cR,I1⟩
 have hlg:=BX I1
 have K4:=oD (aU LL (bL (p.map gv))) (by omega) (eQ eB _)
 rw [show(4294967296:Int)=((LL:Nat):Int)from rfl,jX eB]at K4
 have ar5:=gL (bL (p.map gv):Int) (by omega) false
 refine j4 ?_
 refine b8 K4 ?_
 refine aD ar5 ?_
 simp (disch:=omega) [gw,cR]
 refine bO [2] ?_
 exact cP
theorem rA:∀ {l:List Int},l.length≤(aI l).length→aI l=l
 | [],_=>rfl
 | x::l,h=>by
  rw [aI]at h ⊢
  split
  ·rename_i h1
   rw [if_pos h1]at h;simp at h
  ·rename_i h1
   rw [if_neg h1]at h
   rw [rA (by simpa using h)]
theorem K5{b:Int}(hb:1≤b){l:List Int}(hl:cM b l)(h:l ≠ []→b^(l.length-1)≤V b l):aI l=l:=by
 apply rA
 rcases Nat.lt_or_ge (aI l).length l.length with h1 | h1
 ·exfalso
  have h2:=h (by intro h0;subst h0;simp at h1)
  have h3:=nO (by omega) (eC hl)
  rw [cV]at h3
  obtain⟨m,hm⟩:∃m,l.length-1=(aI l).length+m:=⟨l.length-1-(aI l).length,by omega⟩
  rw [hm,Int.pow_add]at h2
  have h4:1≤b^m:=Int.pow_pos (by omega)
  have h5:=Int.mul_le_mul_of_nonneg_left h4 (show 0≤b^(aI l).length from Int.le_of_lt (Int.pow_pos (by omega)))
  omega
 ·exact h1
@[simp] theorem afJ{l:List Int}{x:Int}:emap u32 l ++ [[.int .u32 x]]=emap u32 (l ++ [x]):=by simp [emap]
theorem xC(x:Int):aH env.P 125 [RI x] (.bool (decide (x=0))):=by
 refine cA [(0,RI x)] Tryz.func125 ?_
 refine aA [1] ?_
 refine aA [2] ?_
 refine W.ret ?_
 simp [go]
 have e:((aU DD x.natAbs).length=0)↔x=0:=by rw [List.length_eq_zero_iff,eI NI];omega
 rw [Bool.eq_iff_iff,decide_eq_true_iff,beq_iff_eq,←e]
 omega
theorem S5{x:Int}:(aU DD x.natAbs).length=0↔x=0:=by rw [List.length_eq_zero_iff,eI NI];omega
theorem E9(x:Int):aH env.P 129 [RI x] (.int .i64 x.sign):=by
 refine cA [(0,RI x)] Tryz.func129 ?_
 refine cC [1] ?_
 refine W.block ?_
 refine aA [1,3] ?_
 refine bP ?_ ?_<;>intro h
 ·have h0:x=0:=by rw [←S5];simp at h;simp [h]
  subst h0
  refine aA [2] ?_
  exact cP
 ·have h0:x≠0:=by rw [Ne,←S5];simp at h;simpa using h
  refine aA [8] ?_
  refine bP ?_ ?_<;>intro h
  ·simp at h
   refine aA [2] ?_
   refine W.ret ?_
   simp [go,Int.sign_eq_neg_one_of_neg h]
  ·simp at h
   refine W.skip ?_
   refine aA [2] ?_
   refine W.ret ?_
   simp [go,Int.sign_eq_one_of_pos (show 0<x by omega)]
theorem rB(x:Int):aH env.P 17 [RI x] (RI (-x)):=by
 refine cA [(0,RI x)] Tryz.func17 ?_
 refine aA [1,2] ?_
 refine j4 ?_
 refine aD (oH x.natAbs (by omega) (!decide (x<0))) ?_
 simp (disch:=omega) [gw]
 refine bO [2] ?_
 refine W.ret ?_
 have e:(if 0≤x then -(x.natAbs:Int)else x.natAbs) = -x:=by split<;>omega
 simp only [e]
 simp [go]
theorem WW(a:List Int)(d:Int)(ha:a.length<1099511627776)(la:cM 10000 a)(hd0:0<d)(HE:d≤65536):aH env.P 136 [aJ aF a, .int .i64 d] (.fG [Dn (V 10000 a/d), .int .i64 (V 10000 a%d)]):=by
 refine cA [(0,aJ aF a),(1, .int .i64 d)] Tryz.func136 ?_
 refine aA [0,1] ?_
 refine aA [0,1,6] ?_
 refine aA [0,1,6,7] ?_
 refine aM [0,1,6,7,8] ?_
 refine W.block ?_
 refine W.a8 (fun k σ=>∃(r:Int) (z:List Int) (ver:Nat) (rows:Pm.Rows) (clk:Nat),σ=⟨fa [(0,aJ aF a),(1, .int .i64 d),(6, .own 12 ver 0 a.length),(7, .int .i64 r),(8, .int .i64 ((k:Int)-1))],rows,clk⟩ ∧
  rows 12=some ⟨ver,3,1,emap aF z⟩∧k≤a.length∧z.length=a.length∧cM 10000 z∧0≤r∧r<d∧V 10000 (a.drop k)=d*V 10000 (z.drop k)+r) a.length ?_ ?_
 ·exact⟨_, .refl,0,List.replicate a.length 0,_,_,_,rfl,by simp,by omega,by simp,cM.rep (by decide) _,by omega,hd0,by simp [V]⟩
 rintro k _ ⟨r,z,ver,rows,clk,rfl,hr,hk,hz,lz,I2,yN,hV⟩
 refine aM [0,1,6,7,8,17] ?_
 refine bP ?_ ?_<;>intro h
 ·simp at h
  obtain⟨j,rfl⟩:∃j,k=j+1:=⟨k-1,by omega⟩
  clear h
  have hx:=la.nth (i:=j) (by omega)
  have NF:0≤r*10000+nth a j:=by omega
  have uK:r*10000+nth a j<d*10000:=by omega
  have NH:0≤(r*10000+nth a j)/d:=Int.ediv_nonneg NF (by omega)
  have hq1:(r*10000+nth a j)/d<10000:=Int.ediv_lt_of_lt_mul hd0 (by omega)
  have NA:=Int.emod_nonneg (r*10000+nth a j) (show d≠0 by omega)
  have E4:=Int.emod_lt_of_pos (r*10000+nth a j) hd0
  have hdz:d≠0:=by omega
  refine iT ?_
  refine aA [0,1,6,8,9] ?_
  refine W.sr ?_
  simp (disch:=omega) [gw,hr,hdz]
  refine bO [0,1,6,8,9] ?_
  refine W.b9 (fun K hK=>?_);simp (disch:=omega) [gw,hdz]
  refine W.lw [0,1,6,7,8] hK ?_;clear hK K;simp
  refine W.b9 (fun K hK=>?_);simp (disch:=omega) [gw]
  refine hK _ ⟨j,_,aC _ [0,1,6,7,8],by omega,_,z.set j ((r*10000+nth a j)/d),ver,_,_,rfl,by simp,by omega,by simpa using hz,lz.set ⟨NH,hq1⟩,NA,E4,?_⟩
  rw [eX (l:=a) (i:=j) (by omega),eX (l:=z.set j _) (i:=j) (by simp;omega),eO (by omega),List.drop_set_of_lt (by omega)]
  simp only [V]
  rw [hV]
  have:=Int.emod_add_mul_ediv (r*10000+nth a j) d
  grind
 ·simp at h
  have uR:k=0:=by omega
  subst uR
  simp only [List.drop_zero]at hV
  have ez:z.take a.length=z:=bJ hz
  have hzn:=bN (by decide) lz
  have e1:V 10000 a/d=V 10000 z:=by
   rw [hV,Int.mul_add_ediv_left _ _ (by omega),Int.ediv_eq_zero_of_lt I2 yN];simp
  have e2:V 10000 a%d=r:=by
   rw [hV,Int.mul_add_emod_self_left,Int.emod_eq_of_lt I2 yN]
  refine eJ ?_
  refine W.sr ?_
  simp (disch:=omega) [gw,hr,ez]
  refine aD (oG z (by omega)) ?_
  simp (disch:=omega) [gw]
  refine bO [4,5] ?_
  refine W.ret ?_
  rw [e1,e2,←tQ lz]
  simp [go]
theorem B2(y d:Int)(hy:0≤y)(hz:Z y)(hd0:0<d)(HE:d≤65536):aH env.P 136 [Dn y, .int .i64 d] (.fG [Dn (y/d), .int .i64 (y%d)]):=by
 have:=WW (aU DD y.toNat) d (by have:=jZ hy;omega) (lE _) hd0 HE
 rwa [vG hy]at this
theorem S6(n:Nat)(hz:Z (n:Int)):aH env.P 67 [aJ aF (aU DD n)] (us (aU LL n)):=by
 have hln:(aU LL n).length≤sz 2 (n:Int):=z5 eB n
 refine cA [(0,aJ aF (aU DD n))] Tryz.func67 ?_
 refine aA [0] ?_
 refine aA [0,3] ?_
 refine W.nil 3 3 185 1 (by simp) (by decide) (fun K hK=>?_)
 refine W.lw [0,3] hK ?_;clear hK K;simp
 refine W.seq ?_
 refine W.block ?_
 refine W.a8 (fun k σ=>∃(i:Nat) (z:List Int) (ver:Nat) (rows:Pm.Rows) (clk:Nat),σ=⟨fa [(0,aJ aF (aU DD k)),(3, .own 3 ver 0 i)],rows,clk⟩∧rows 3=some ⟨ver,185,1,emap u32 z⟩∧z.length=i∧k≤n∧aU LL n=z++aU LL k) n ?_ ?_
 ·exact⟨_, .refl,0,[],_,_,_,rfl,by simp [emap],rfl,by omega,by simp⟩
 rintro k _ ⟨i,z,ver,rows,clk,rfl,hr,GB,hk,hd⟩
 have hzk:Z (k:Int):=Nat.lt_of_le_of_lt (cB (by decide) (y:=(n:Int)) (by omega)) hz
 have wQ:i≤(aU LL n).length:=by rw [hd];simp [GB]
 have e0:(aU DD k).length=0↔k=0:=by rw [List.length_eq_zero_iff,eI NI]
 refine aM [0,3,9] ?_
 refine bP ?_ ?_<;>intro h
 ·have uR:k≠0:=by rw [Ne,←e0];simp at h;omega
  have tM:Z ((k:Int)/65536):=Nat.lt_of_le_of_lt (cB (by decide) (y:=(k:Int)) (by omega)) hzk
  refine W.skip ?_
  refine W.block ?_
  refine j4 ?_
  refine aD (B2 (k:Int) 65536 (by omega) hzk (by decide) (by decide)) ?_
  simp (disch:=omega) [gw]
  refine bO [3,4,5] ?_
  refine j4 ?_
  refine aD (B2 ((k:Int)/65536) 65536 (by omega) tM (by decide) (by decide)) ?_
  simp (disch:=omega) [gw]
  refine bO [3,4,5,6] ?_
  refine W.sr ?_
  simp (disch:=omega) [gw,hr,GB,wrap_u32']
  have e1:(k:Int)/65536%65536*65536+k%65536=((k%LL:Nat):Int):=by simp;omega
  have e3:k/LL<k:=Nat.div_lt_self (by omega) (by decide)
  obtain⟨dg,e2⟩:∃dg:Int,dg=((k%LL:Nat):Int):=⟨_,rfl⟩
  rw [←e2]at e1
  simp only [e1,afJ]
  refine bO [3,4] ?_
  refine W.b9 (fun K hK=>?_);simp (disch:=omega) [gw]
  refine hK _ ⟨k/LL,_,Gh.fr [(0,aJ aF (aU DD (k/LL))),(3, .own 3 _ 0 (i+1))] ?_,e3,i+1,z ++ [dg],_,_,_,rfl,by simp;rfl,by simp [GB],by omega,?_⟩
  ·have e2:((k:Int)/65536/65536).toNat=k/LL:=by show _=k/4294967296;omega
   simp only [Dn,e2]
   simp
  ·rw [hd,qR eB uR,e2];simp
 ·have uR:k=0:=by rw [←e0];simp at h;simp [h]
  subst uR
  refine eJ ?_
  refine aA [2] ?_
  refine W.ret ?_
  simp [kW]at hd
  have ez:z.take i=z:=bJ GB
  simp [go,hr,ez,hd]
theorem vH(x:Int)(hz:Z x):aH env.P 16 [RI x] (I x):=by
 refine cA [(0,RI x)] Tryz.func16 ?_
 refine aA [1,2] ?_
 refine kB ?_
 refine aD (S6 x.natAbs (by simpa [Z,sz]using hz)) ?_
 simp (disch:=omega) [gw]
 refine bO [2] ?_
 exact cP
theorem WX(x y:List Int)(hx:x.length<1099511627776)(hy:y.length<1099511627776)(lx:cM 10000 x)(ly:cM 10000 y)(cx:aI x=x)(cy:aI y=y):aH env.P 228 [aJ aF x,aJ aF y] (.int .i64 (eD (V 10000 x) (V 10000 y))):=by
 refine cA [(0,aJ aF x),(1,aJ aF y)] Tryz.func228 ?_
 refine aA [0,1] ?_
 refine aM [0,1,10] ?_
 refine bP ?_ ?_<;>intro h
 ·simp at h
  refine aM [15] ?_
  refine bP ?_ ?_<;>intro h
  ·simp at h
   refine aA [4] ?_
   refine W.ret ?_
   simp [oY (jJ (by decide) lx ly cy h)]
  ·simp at h
   refine W.skip ?_
   refine aA [4] ?_
   refine W.ret ?_
   simp [oZ (jJ (by decide) ly lx cx (by omega))]
 ·simp at h
  have hlen:x.length=y.length:=by omega
  clear h
  refine W.skip ?_
  refine aM [0,1,5] ?_
  refine W.block ?_
  refine W.a8 (fun k σ=>∃(rows:Pm.Rows) (clk:Nat),σ=⟨fa [(0,aJ aF x),(1,aJ aF y),(5, .int .i64 ((k:Int)-1))],rows,clk⟩∧k≤x.length∧x.drop k=y.drop k) x.length ?_ ?_
  ·exact⟨_, .refl,_,_,rfl,by omega,by rw [List.drop_of_length_le (by omega),List.drop_of_length_le (by omega)]⟩
  rintro k _ ⟨rows,clk,rfl,hk,hd⟩
  refine aM [0,1,5,20] ?_
  refine bP ?_ ?_<;>intro h
  ·have h0:0<k:=by simp at h;omega
   obtain⟨j,rfl⟩:∃j,k=j+1:=⟨k-1,by omega⟩
   clear h
   refine iT ?_
   refine kB ?_
   refine bO [0,1,5,31] ?_
   refine bP ?_ ?_<;>intro h
   ·simp at h
    refine W.seq ?_
    refine kB ?_
    refine bO [40] ?_
    refine W.cond ⟨_,rfl,fun h2=>?_,fun h2=>?_⟩
    ·simp at h2
     refine aA [4] ?_
     refine W.ret ?_
     simp [oY (mT (by decide) lx ly hlen (by omega) hd h2)]
    ·simp at h2
     refine W.skip ?_
     refine aA [4] ?_
     refine W.ret ?_
     simp [oZ (mT (by decide) ly lx hlen.symm (by omega) hd.symm (by omega))]
   ·simp at h
    refine W.skip ?_
    refine W.b9 (fun K hK=>?_);simp (disch:=omega) [gw]
    refine hK _ ⟨j,_,aC _ [0,1,5],by omega,_,_,rfl,by omega,?_⟩
    rw [eX (l:=x) (i:=j) (by omega),eX (l:=y) (i:=j) (by omega),hd,h]
  ·have h0:k=0:=by simp at h;omega
   subst h0
   simp at hd
   subst hd
   refine eJ ?_
   refine aA [4] ?_
   refine W.ret ?_
   simp [u0]
theorem K6(x y:Int)(hx:0≤x)(hy:0≤y)(zx:Z x)(zy:Z y):aH env.P 228 [Dn x,Dn y] (.int .i64 (eD x y)):=by
 have:=WX (aU DD x.toNat) (aU DD y.toNat) (by have:=jZ hx;omega) (by have:=jZ hy;omega) (lE _) (lE _) (jI NI _) (jI NI _)
 rwa [vG hx,vG hy]at this
theorem WY(a b:List Int)(ha:a.length<1099511627776)(hb:b.length<1099511627776)(la:cM 10000 a)(lb:cM 10000 b)(ca:aI a=a)(cb:aI b=b):aH env.P 227 [aJ aF a,aJ aF b] (Dn (V 10000 a+V 10000 b)):=by
 refine cA [(0,aJ aF a),(1,aJ aF b)] Tryz.func227 ?_
 refine aA [0,1] ?_
 refine aA [0,1,5] ?_
 refine W.nil 5 5 3 1 (by simp) (by decide) (fun K hK=>?_)
 refine W.lw [0,1,5] hK ?_;clear hK K;simp
 refine aA [0,1,5,6] ?_
 refine aM [0,1,5,6,7] ?_
 refine W.block ?_
 obtain⟨M,hM⟩:∃M,M=max a.length b.length:=⟨_,rfl⟩
 refine W.a8 (fun k σ=>∃(i:Nat) (c:Int) (z:List Int) (ver:Nat) (rows:Pm.Rows) (clk:Nat),σ=⟨fa [(0,aJ aF a),(1,aJ aF b),(5, .own 5 ver 0 i),(6, .int .i64 c),(7, .int .i64 i)],rows,clk⟩ ∧
  rows 5=some ⟨ver,3,1,emap aF z⟩∧k=2*(M-i)+c.toNat∧z.length=i∧(i≤M∨(i=M+1∧c=0∧10000^M≤V 10000 a+V 10000 b))∧cM 10000 z∧0≤c∧c≤1 ∧
  V 10000 z+10000^i*c=V 10000 (a.take i)+V 10000 (b.take i)) (2*M) ?_ ?_
 ·exact⟨_, .refl,0,0,[],_,_,_,rfl,by simp [emap],by simp,rfl,by omega,cM.nil,by omega,by omega,by simp [V]⟩
 rintro k _ ⟨i,c,z,ver,rows,clk,rfl,hr,hk,hz,hi,lz,xA,uP,hV⟩
 refine W.seq ?_
 refine W.gK (fun σ=>∃(t:Bool),σ=⟨fa [(0,aJ aF a),(1,aJ aF b),(5, .own 5 ver 0 i),(6, .int .i64 c),(7, .int .i64 i),(21, .bool t)],rows,clk⟩∧(t=true↔i<M∨0<c)) (fun K hK=>?_) ?_
 ·simp
  by_cases h1:i<a.length
  ·simp (disch:=omega) [gw,h1]
   exact hK _ _ (aC _ [0,1,5,6,7,21]) ⟨_,rfl,by simp;omega⟩
  ·by_cases h2:i<b.length
   ·simp (disch:=omega) [gw,h1,h2]
    exact hK _ _ (aC _ [0,1,5,6,7,21]) ⟨_,rfl,by simp;omega⟩
   ·simp (disch:=omega) [gw,h1,h2]
    exact hK _ _ (aC _ [0,1,5,6,7,21]) ⟨_,rfl,by simp;omega⟩
 rintro _ ⟨t,rfl,ht⟩
 refine bP ?_ ?_<;>intro h
 ·have ht:=ht.1 h
  refine iT ?_
  refine W.gD (fun σ=>∃(s:Int),σ=⟨fa [(0,aJ aF a),(1,aJ aF b),(5, .own 5 ver 0 i),(6, .int .i64 s),(7, .int .i64 i)],rows,clk⟩∧0≤s∧s≤c+9999∧(a.length≤i→s=c) ∧
   V 10000 z+10000^i*s=V 10000 (a.take (i+1))+V 10000 (b.take i)) ?_ ?_
  ·
   refine aA [0,1,5,6,7,27] ?_
   refine bP ?_ ?_<;>intro h
   ·simp at h
    have hx:=la.nth h
    refine W.b9 (fun K hK=>?_);simp (disch:=omega) [gw]
    refine hK _ ⟨_,aC _ [0,1,5,6,7],_,rfl,by omega,by omega,by omega,?_⟩
    rw [aV h];grind
   ·simp at h
    refine W.skip ?_
    refine⟨_,aC _ [0,1,5,6,7],_,rfl,by omega,by omega,fun _=>rfl,?_⟩
    rw [aZ (l:=a) (by omega)]
    rwa [aZ (l:=a) (by omega)]at hV
  rintro _ ⟨s,rfl,NF,uK,hsc,hsV⟩
  refine W.gD (fun σ=>∃(u:Int),σ=⟨fa [(0,aJ aF a),(1,aJ aF b),(5, .own 5 ver 0 i),(6, .int .i64 u),(7, .int .i64 i)],rows,clk⟩∧0≤u∧u≤s+9999∧(b.length≤i→u=s) ∧
   V 10000 z+10000^i*u=V 10000 (a.take (i+1))+V 10000 (b.take (i+1))) ?_ ?_
  ·
   refine aA [0,1,5,6,7,37] ?_
   refine bP ?_ ?_<;>intro h
   ·simp at h
    have hx:=lb.nth h
    refine W.b9 (fun K hK=>?_);simp (disch:=omega) [gw]
    refine hK _ ⟨_,aC _ [0,1,5,6,7],_,rfl,by omega,by omega,by omega,?_⟩
    rw [aV h];grind
   ·simp at h
    refine W.skip ?_
    refine⟨_,aC _ [0,1,5,6,7],_,rfl,by omega,by omega,fun _=>rfl,?_⟩
    rw [aZ (l:=b) (by omega)]
    rwa [aZ (l:=b) (by omega)]at hsV
  rintro _ ⟨u,rfl,hu0,hu1,huc,huV⟩
  refine W.sr ?_
  simp (disch:=omega) [gw,hr,hz]
  refine bO [0,1,5,6,7] ?_
  refine W.b9 (fun K hK=>?_);simp (disch:=omega) [gw];refine W.lw [0,1,5,6,7] hK ?_;clear hK K;simp
  refine W.b9 (fun K hK=>?_);simp (disch:=omega) [gw]
  refine hK _ ⟨2*(M-(i+1))+(u/10000).toNat,_,aC _ [0,1,5,6,7],?_,i+1,u/10000,z ++ [u%10000],_,_,_,rfl,by simp,rfl,by simp [hz],?_,cM.append.2 ⟨lz,cM.cons.2 ⟨by omega,cM.nil⟩⟩,by omega,by omega,?_⟩
  ·rcases Nat.lt_or_ge i M with h1 | h1
   ·omega
   ·have:=hsc (by omega);have:=huc (by omega);omega
  ·rcases Nat.lt_or_ge i M with h1 | h1
   ·omega
   ·right
    have hc:c=1:=by omega
    have hzn:=bN (by decide) lz
    rw [aZ (l:=a) (by omega),aZ (l:=b) (by omega),hc]at hV
    have hiM:i=M:=by omega
    rw [←hiM]
    refine⟨rfl,by have:=hsc (by omega);have:=huc (by omega);omega,?_⟩
    rw [←hV]
    omega
  ·rw [dU,mS,hz,←huV,Int.pow_succ]
   have:=Int.emod_add_mul_ediv u 10000
   grind
 ·have ht:¬(i<M∨0<c):=fun h2=>by simp [ht.2 h2]at h
  have hc:c=0:=by omega
  subst hc
  refine eJ ?_
  refine aA [4] ?_
  refine W.ret ?_
  rw [aZ (l:=a) (by omega),aZ (l:=b) (by omega)]at hV
  have e:V 10000 a+V 10000 b=V 10000 z:=by rw [←hV];simp
  have cz:aI z=z:=by
   refine K5 (by decide) lz fun h0=>?_
   rw [hz,←e]
   rcases hi with h1 | ⟨h1,_,h2⟩
   ·have hna:=bN (by decide) la
    have hnb:=bN (by decide) lb
    have wQ:0<i:=by rw [←hz];exact List.length_pos_iff.2 h0
    rcases Nat.le_total b.length a.length with h3 | h3
    ·have:=kJ (b:=10000) (by decide) la ca (by intro h5;rw [h5]at h3 hM;simp at h3;simp [h3]at hM;omega)
     rw [show i-1=a.length-1 by omega];omega
    ·have:=kJ (b:=10000) (by decide) lb cb (by intro h5;rw [h5]at h3 hM;simp at h3;simp [h3]at hM;omega)
     rw [show i-1=b.length-1 by omega];omega
   ·rw [h1];exact h2
  have ez:z.take i=z:=bJ hz
  rw [e,←tQ lz,cz]
  simp [go,hr,ez]
theorem abG(x y:Int)(hx:0≤x)(hy:0≤y)(zx:Z x)(zy:Z y):aH env.P 227 [Dn x,Dn y] (Dn (x+y)):=by
 have:=WY (aU DD x.toNat) (aU DD y.toNat) (by have:=jZ hx;omega) (by have:=jZ hy;omega) (lE _) (lE _) (jI NI _) (jI NI _)
 rwa [vG hx,vG hy]at this
theorem WZ(a b:List Int)(ha:a.length<1099511627776)(hb:b.length≤a.length)(la:cM 10000 a)(lb:cM 10000 b)(hle:V 10000 b≤V 10000 a):aH env.P 229 [aJ aF a,aJ aF b] (Dn (V 10000 a-V 10000 b)):=by
 refine cA [(0,aJ aF a),(1,aJ aF b)] Tryz.func229 ?_
 refine aA [0,1] ?_
 refine aA [0,1,5] ?_
 refine aA [0,1,5,6] ?_
 refine aM [0,1,5,6,13,14] ?_
 refine W.block ?_
 refine W.a8 (fun k σ=>∃(i:Nat) (c:Int) (z:List Int) (ver:Nat) (rows:Pm.Rows) (clk:Nat),σ=⟨fa [(0,aJ aF a),(1,aJ aF b),(5, .own 11 ver 0 a.length),(6, .int .i64 c),(13, .int .i64 a.length),(14, .int .i64 i)],rows,clk⟩ ∧
  rows 11=some ⟨ver,3,1,emap aF z⟩∧k=a.length-i∧i≤a.length∧z.length=a.length∧cM 10000 z∧0≤c∧c≤1 ∧
  V 10000 (z.take i)-10000^i*c=V 10000 (a.take i)-V 10000 (b.take i)) a.length ?_ ?_
 ·exact⟨_, .refl,0,0,List.replicate a.length 0,_,_,_,rfl,by simp,by omega,by omega,by simp,cM.rep (by decide) _,by omega,by omega,by simp [V]⟩
 rintro k _ ⟨i,c,z,ver,rows,clk,rfl,hr,hk,hi,hz,lz,xA,uP,hV⟩
 refine cC [0,1,5,6,13,14,15] ?_
 refine bP ?_ ?_<;>intro h
 ·simp at h
  have hx:=la.nth h
  refine iT ?_
  refine aA [0,1,5,6,7,13,14] ?_
  refine aA [0,1,5,7,8,13,14] ?_
  refine W.gD (fun σ=>∃(s:Int),σ=⟨fa [(0,aJ aF a),(1,aJ aF b),(5, .own 11 ver 0 a.length),(7, .int .i64 i),(8, .int .i64 s),(13, .int .i64 a.length),(14, .int .i64 i)],rows,clk⟩ ∧ -10000≤s∧s≤9999 ∧
   V 10000 (z.take i)+10000^i*s=V 10000 (a.take (i+1))-V 10000 (b.take (i+1))) ?_ ?_
  ·
   refine aA [0,1,5,7,8,13,14,26] ?_
   refine bP ?_ ?_<;>intro h
   ·simp at h
    have hy:=lb.nth h
    refine W.b9 (fun K hK=>?_);simp (disch:=omega) [gw]
    refine hK _ ⟨_,aC _ [0,1,5,7,8,13,14],_,rfl,by omega,by omega,?_⟩
    rw [aV (l:=a) (by omega),aV h];grind
   ·simp at h
    refine W.skip ?_
    refine⟨_,aC _ [0,1,5,7,8,13,14],_,rfl,by omega,by omega,?_⟩
    rw [aV (l:=a) (by omega),aZ (l:=b) (by omega)]
    rw [aZ (l:=b) (by omega)]at hV
    grind
  rintro _ ⟨s,rfl,NF,uK,hsV⟩
  refine aA [0,1,5,6,7,8,13,14] ?_
  refine W.gD (fun σ=>∃(u c:Int),σ=⟨fa [(0,aJ aF a),(1,aJ aF b),(5, .own 11 ver 0 a.length),(6, .int .i64 c),(7, .int .i64 i),(8, .int .i64 u),(13, .int .i64 a.length),(14, .int .i64 i)],rows,clk⟩∧0≤u∧u≤9999∧0≤c∧c≤1∧s=u-10000*c) ?_ ?_
  ·
   refine aA [0,1,5,6,7,8,13,14,34] ?_
   refine bP ?_ ?_<;>intro h
   ·simp at h
    refine aA [0,1,5,7,8,13,14] ?_
    refine W.b9 (fun K hK=>?_);simp (disch:=omega) [gw]
    exact hK _ ⟨_,aC _ [0,1,5,6,7,8,13,14],_,1,rfl,by omega,by omega,by omega,by omega,by omega⟩
   ·simp at h
    refine W.skip ?_
    exact⟨_,aC _ [0,1,5,6,7,8,13,14],_,0,rfl,by omega,by omega,by omega,by omega,by omega⟩
  rintro _ ⟨u,c',rfl,hu0,hu1,awX,awY,hu⟩
  refine W.b9 (fun K hK=>?_);simp (disch:=omega) [gw,hr]
  refine W.lw [0,1,5,6,13,14] hK ?_;clear hK K;simp
  refine W.b9 (fun K hK=>?_);simp (disch:=omega) [gw]
  refine hK _ ⟨a.length-(i+1),_,aC _ [0,1,5,6,13,14],by omega,i+1,c',z.set i u,ver,_,_,rfl,by simp,by omega,by omega,by simpa using hz,lz.set (by omega),awX,awY,?_⟩
  rw [eY (by omega),←hsV,hu,Int.pow_succ]
  grind
 ·simp at h
  have mQ:i=a.length:=by omega
  subst mQ
  have ez:z.take a.length=z:=bJ hz
  refine eJ ?_
  refine W.sr ?_
  simp (disch:=omega) [gw,hr,ez]
  refine aD (oG z (by omega)) ?_
  simp (disch:=omega) [gw]
  refine bO [4] ?_
  refine W.ret ?_
  rw [ez,aZ (l:=a) (by omega),aZ (l:=b) (by omega)]at hV
  have h1:=nO (by decide) lz
  rw [hz]at h1
  have hc:c=0:=by
   rcases(show c=0∨c=1 by omega)with h2 | h2
   ·exact h2
   ·subst h2;omega
  subst hc
  have e:V 10000 a-V 10000 b=V 10000 z:=by rw [←hV];simp
  rw [e,←tQ lz]
  simp [go]
theorem B3(x y:Int)(hy:0≤y)(hle:y≤x)(zx:Z x):aH env.P 229 [Dn x,Dn y] (Dn (x-y)):=by
 have hlen:(aU DD y.toNat).length≤(aU DD x.toNat).length:=by
  have h1:=cB (b:=DD) NI (x:=y) (y:=x) (by omega)
  simp only [sz]at h1
  rwa [show y.natAbs=y.toNat by omega,show x.natAbs=x.toNat by omega]at h1
 have:=WZ (aU DD x.toNat) (aU DD y.toNat) (by have:=jZ (show 0≤x by omega);omega) hlen (lE _) (lE _) (by rw [vG hy,vG (by omega)];exact hle)
 rwa [vG hy,vG (by omega)]at this
theorem alK{a b:Int}(ha:0≤a∧a<10000)(hb:0≤b∧b<10000):0≤a*b∧a*b≤99980001:=by
 refine⟨Int.mul_nonneg ha.1 hb.1,?_⟩
 have:=Int.mul_le_mul (show a≤9999 by omega) (show b≤9999 by omega) hb.1 (by decide)
 simpa using this
theorem W1(x y:List Int)(hx:x.length<1099511627776)(hy:y.length<1099511627776)(lx:cM 10000 x)(ly:cM 10000 y):aH env.P 131 [aJ aF x,aJ aF y] (Dn (V 10000 x*V 10000 y)):=by
 refine cA [(0,aJ aF x),(1,aJ aF y)] Tryz.func131 ?_
 refine aA [0,1] ?_
 have e:((x.length:Int)+(y.length:Int)).toNat=x.length+y.length:=by omega
 refine W.sr ?_
 simp (disch:=omega) [gw,e]
 refine bO [0,1,5] ?_
 refine aM [0,1,5,17,18] ?_
 refine W.block ?_
 refine W.a8 (fun k σ=>∃(i:Nat) (z:List Int) (ver:Nat) (rows:Pm.Rows) (clk:Nat),σ=⟨fa [(0,aJ aF x),(1,aJ aF y),(5, .own 15 ver 0 (x.length+y.length)),(17, .int .i64 x.length),(18, .int .i64 i)],rows,clk⟩ ∧
   rows 15=some ⟨ver,3,1,emap aF z⟩∧k=x.length-i∧i≤x.length∧z.length=x.length+y.length∧cM 10000 z∧(∀j,i+y.length≤j→nth z j=0) ∧
   V 10000 z=V 10000 (x.take i)*V 10000 y) x.length ?_ ?_
 ·refine⟨_, .refl,0,List.replicate (x.length+y.length) 0,_,_,_,rfl,by simp [e],by omega,by omega,by simp,cM.rep (by decide) _,fun j _=>?_,by simp [V,pY]⟩
  unfold nth
  cases h:(List.replicate (x.length+y.length) (0:Int))[j]? with
  | none=>rfl
  | some v=>have:=List.mem_of_getElem? h;simp at this;simp [this]
 rintro k _ ⟨i,z,ver,rows,clk,rfl,hr,hk,hi,hz,lz,oS,hV⟩
 refine cC [0,1,5,17,18,19] ?_
 refine bP ?_ ?_<;>intro h
 ·simp at h
  have hxi:=lx.nth h
  refine iT ?_
  refine aA [0,1,5,6,17,18] ?_
  refine aA [0,1,5,6,7,17,18] ?_
  refine aA [0,1,5,6,7,8,17,18] ?_
  refine W.block ?_
  refine W.a8 (fun m σ=>∃(k:Nat) (c:Int) (z:List Int) (ver:Nat) (rows:Pm.Rows) (clk:Nat),σ=⟨fa [(0,aJ aF x),(1,aJ aF y),(5, .own 15 ver 0 (x.length+y.length)),(6, .int .i64 i),(7, .int .i64 c),(8, .int .i64 k),(17, .int .i64 x.length),(18, .int .i64 i)],rows,clk⟩ ∧
   rows 15=some ⟨ver,3,1,emap aF z⟩∧m=y.length+1-k∧(k≤y.length∧(∀j,i+y.length≤j→nth z j=0)∨k=y.length+1∧c=0)∧z.length=x.length+y.length∧cM 10000 z∧(∀j,i+1+y.length≤j→nth z j=0)∧0≤c∧c≤9999 ∧
   V 10000 z+10000^(i+k)*c=V 10000 (x.take i)*V 10000 y+10000^i*nth x i*V 10000 (y.take k)) (y.length+1) ?_ ?_
  ·exact⟨_, .refl,0,0,z,ver,_,_,rfl,by simpa using hr,by omega, .inl ⟨by omega,oS⟩,hz,lz,fun j hj=>oS j (by omega),by omega,by omega,by simp [V,hV]⟩
  clear hV oS lz hz hr z ver rows clk
  rintro m _ ⟨k,c,z,ver,rows,clk,rfl,hr,hm,hky,hz,lz,oS,xA,uP,hV⟩
  refine W.seq ?_
  refine W.gK (fun σ=>∃(t:Bool),σ=⟨fa [(0,aJ aF x),(1,aJ aF y),(5, .own 15 ver 0 (x.length+y.length)),(6, .int .i64 i),(7, .int .i64 c),(8, .int .i64 k),(17, .int .i64 x.length),(18, .int .i64 i),(28, .bool t)],rows,clk⟩∧(t=true↔k<y.length∨0<c)) (fun K hK=>?_) ?_
  ·simp
   by_cases h2:k<y.length
   ·simp (disch:=omega) [gw,h2]
    exact hK _ _ (aC _ [0,1,5,6,7,8,17,18,28]) ⟨_,rfl,by simp [h2]⟩
   ·simp (disch:=omega) [gw,h2]
    exact hK _ _ (aC _ [0,1,5,6,7,8,17,18,28]) ⟨_,rfl,by simp [h2]⟩
  rintro _ ⟨t,rfl,ht⟩
  refine W.cond ⟨_,rfl,fun h2=>?_,fun h2=>?_⟩
  ·have ht:=ht.1 h2
   obtain⟨uR,S3⟩:k≤y.length∧(∀j,i+y.length≤j→nth z j=0):=by
    rcases hky with h3 | h3
    ·exact h3
    ·omega
   have hzk:=lz.nth (i:=i+k) (by omega)
   have e0:((i:Int)+(k:Int)).toNat=i+k:=by omega
   refine iT ?_
   refine W.sr ?_
   simp (disch:=omega) [gw,hr,e0]
   refine bO [0,1,5,6,8,9,17,18] ?_
   refine W.gD (fun σ=>∃(s:Int),σ=⟨fa [(0,aJ aF x),(1,aJ aF y),(5, .own 15 ver 0 (x.length+y.length)),(6, .int .i64 i),(8, .int .i64 k),(9, .int .i64 s),(17, .int .i64 x.length),(18, .int .i64 i)],rows,clk⟩∧0≤s∧s≤99999999∧(k=y.length→s=c) ∧
    V 10000 z-10000^(i+k)*nth z (i+k)+10000^(i+k)*s=V 10000 (x.take i)*V 10000 y+10000^i*nth x i*V 10000 (y.take (k+1))) ?_ ?_
   ·
    refine aA [0,1,5,6,8,9,17,18,42] ?_
    refine bP ?_ ?_<;>intro h
    ·simp at h
     have hyk:=ly.nth h
     have hp:=alK hxi hyk
     refine W.BI (fun K hK=>?_);simp (disch:=omega) [gw]
     refine hK _ ⟨_,aC _ [0,1,5,6,8,9,17,18],_,rfl,by omega,by omega,by omega,?_⟩
     rw [aV h,Int.pow_add]
     rw [Int.pow_add]at hV
     grind
    ·simp at h
     have hkl:k=y.length:=by omega
     have h0:=S3 (i+k) (by omega)
     refine W.skip ?_
     refine⟨_,aC _ [0,1,5,6,8,9,17,18],_,rfl,by omega,by omega,by omega,?_⟩
     rw [aZ (l:=y) (by omega)]
     rw [aZ (l:=y) (by omega)]at hV
     rw [h0]
     grind
   rintro _ ⟨s,rfl,NF,uK,hsc,hsV⟩
   refine W.sr ?_
   simp (disch:=omega) [gw,hr,e0]
   refine bO [0,1,5,6,8,9,17,18] ?_
   refine W.b9 (fun K hK=>?_);simp (disch:=omega) [gw];refine W.lw [0,1,5,6,7,8,17,18] hK ?_;clear hK K;simp
   refine W.b9 (fun K hK=>?_);simp (disch:=omega) [gw]
   have PF:=EZ (b:=10000) (l:=z) (i:=i+k) (x:=s%10000) (by omega)
   refine hK _ ⟨y.length+1-(k+1),_,aC _ [0,1,5,6,7,8,17,18],by omega,k+1,s/10000,z.set (i+k) (s%10000),ver,_,_,rfl,by simp,rfl,?_,by simpa using hz,lz.set (by omega),fun j hj=>?_,by omega,by omega,?_⟩
   ·rcases Nat.lt_or_ge k y.length with h3 | h3
    ·left
     refine⟨by omega,fun j hj=>?_⟩
     rw [gF (by omega)];exact S3 j hj
    ·right
     have:=hsc (by omega)
     exact⟨by omega,by omega⟩
   ·rw [gF (by omega)];exact oS j hj
   ·rw [PF,←hsV,show i+(k+1)=(i+k)+1 by omega,Int.pow_succ]
    have:=Int.emod_add_mul_ediv s 10000
    grind
  ·have ht:¬(k<y.length∨0<c):=fun h3=>by simp [ht.2 h3]at h2
   have hc:c=0:=by omega
   subst hc
   refine eJ ?_
   refine W.b9 (fun K hK=>?_);simp (disch:=omega) [gw]
   refine hK _ ⟨x.length-(i+1),_,aC _ [0,1,5,17,18],by omega,i+1,z,ver,_,_,rfl,hr,by omega,by omega,hz,lz,oS,?_⟩
   rw [aV h]
   rw [aZ (l:=y) (by omega)]at hV
   grind
 ·simp at h
  have mQ:i=x.length:=by omega
  subst mQ
  have tM:List.take (x.length+y.length) z=z:=List.take_of_length_le (by omega)
  refine eJ ?_
  refine W.sr ?_
  simp (disch:=omega) [gw,hr,tM]
  refine aD (oG z (by omega)) ?_
  simp (disch:=omega) [gw]
  refine bO [4] ?_
  refine W.ret ?_
  rw [aZ (Nat.le_refl _)]at hV
  rw [←hV,←tQ lz]
  simp
theorem abH(x y:Int)(hx:0≤x)(hy:0≤y)(zx:Z x)(zy:Z y):aH env.P 131 [Dn x,Dn y] (Dn (x*y)):=by
 have:=W1 (aU DD x.toNat) (aU DD y.toNat) (by have:=jZ hx;omega) (by have:=jZ hy;omega) (lE _) (lE _)
 rwa [vG hx,vG hy]at this
theorem HF{x:Int}(h:Z x):Z (x.natAbs:Int):=by simpa [Z,sz]using h
theorem mA(n:Nat)(neg:Bool):aH env.P 68 [aJ aF (aU DD n), .bool neg] (RI (if neg=true then -(n:Int)else n)):=oH n (by omega) neg
theorem W2(x y:Int):(if decide (x<0) != decide (y<0)then -((x.natAbs*y.natAbs:Nat):Int)else((x.natAbs*y.natAbs:Nat):Int))=x*y:=by
 rw [Int.natCast_mul]
 by_cases h1:x<0<;>by_cases h2:y<0
 ·simp only [h1,h2,show(x.natAbs:Int) = -x by omega,show(y.natAbs:Int) = -y by omega];simp<;>grind
 ·simp only [h1,h2,show(x.natAbs:Int) = -x by omega,show(y.natAbs:Int)=y by omega];simp<;>grind
 ·simp only [h1,h2,show(x.natAbs:Int)=x by omega,show(y.natAbs:Int) = -y by omega];simp<;>grind
 ·simp only [h1,h2,show(x.natAbs:Int)=x by omega,show(y.natAbs:Int)=y by omega];simp<;>grind
theorem eE(x y:Int)(zx:Z x)(zy:Z y):aH env.P 63 [RI x,RI y] (RI (x*y)):=by
 refine cA [(0,RI x),(1,RI y)] Tryz.func63 ?_
 refine aA [2,3,4] ?_
 refine kB ?_
 refine aD (abH x.natAbs y.natAbs (by omega) (by omega) (HF zx) (HF zy)) ?_
 have e:((x.natAbs:Int)*y.natAbs).toNat=x.natAbs*y.natAbs:=by rw [←Int.natCast_mul];exact Int.toNat_natCast _
 simp only [Dn,e]
 obtain⟨m,hm⟩:∃m,m=x.natAbs*y.natAbs:=⟨_,rfl⟩
 rw [←hm]
 simp (disch:=omega) [gw]
 refine aD (mA m (decide (x<0) != decide (y<0))) ?_
 have e2:=W2 x y
 rw [←hm]at e2
 rw [e2]
 simp (disch:=omega) [gw]
 refine bO [4] ?_
 exact cP
theorem B4(x y:Int)(zx:Z x)(zy:Z y):aH env.P 154 [RI x,RI y] (RI (x+y)):=by
 refine cA [(0,RI x),(1,RI y)] Tryz.func154 ?_
 refine aA [2,3,4] ?_
 refine aM [2,3,4,9] ?_
 refine bP ?_ ?_<;>intro h
 ·simp at h
  refine kB ?_
  refine aD (abG x.natAbs y.natAbs (by omega) (by omega) (HF zx) (HF zy)) ?_
  have e:((x.natAbs:Int)+y.natAbs).toNat=x.natAbs+y.natAbs:=by omega
  simp only [Dn,e]
  obtain⟨m,hm⟩:∃m,m=x.natAbs+y.natAbs:=⟨_,rfl⟩
  rw [←hm]
  simp (disch:=omega) [gw]
  refine aD (mA m _) ?_
  have e2:(if decide (x<0)=true then -(m:Int)else m)=x+y:=by by_cases h1:x<0<;>simp [h1]<;>omega
  rw [e2]
  simp (disch:=omega) [gw]
  refine bO [4] ?_
  exact cP
 ·simp at h
  refine W.skip ?_
  refine W.seq ?_
  refine j4 ?_
  refine aD (K6 x.natAbs y.natAbs (by omega) (by omega) (HF zx) (HF zy)) ?_
  simp (disch:=omega) [gw]
  refine bO [2,3,4,23] ?_
  refine W.cond ⟨_,rfl,fun h2=>?_,fun h2=>?_⟩
  ·have h2:(y.natAbs:Int)≤x.natAbs:=qU.1 (of_decide_eq_true h2)
   refine kB ?_
   refine aD (B3 x.natAbs y.natAbs (by omega) h2 (HF zx)) ?_
   have e:((x.natAbs:Int)-y.natAbs).toNat=x.natAbs-y.natAbs:=by omega
   simp only [Dn,e]
   obtain⟨m,hm⟩:∃m,m=x.natAbs-y.natAbs:=⟨_,rfl⟩
   rw [←hm]
   simp (disch:=omega) [gw]
   refine aD (mA m _) ?_
   have e2:(if decide (x<0)=true then -(m:Int)else m)=x+y:=by by_cases h1:x<0<;>simp [h1]<;>omega
   rw [e2]
   simp (disch:=omega) [gw]
   refine bO [4] ?_
   exact cP
  ·have h2:(x.natAbs:Int)<y.natAbs:=by
    have h3:=of_decide_eq_false h2
    rw [qU]at h3;omega
   refine W.skip ?_
   refine kB ?_
   refine aD (B3 y.natAbs x.natAbs (by omega) (by omega) (HF zy)) ?_
   have e:((y.natAbs:Int)-x.natAbs).toNat=y.natAbs-x.natAbs:=by omega
   simp only [Dn,e]
   obtain⟨m,hm⟩:∃m,m=y.natAbs-x.natAbs:=⟨_,rfl⟩
   rw [←hm]
   simp (disch:=omega) [gw]
   refine aD (mA m _) ?_
   have e2:(if decide (y<0)=true then -(m:Int)else m)=x+y:=by by_cases h1:y<0<;>simp [h1]<;>omega
   rw [e2]
   simp (disch:=omega) [gw]
   refine bO [4] ?_
   exact cP
theorem awZ{x:Int}(h:Z x):Z (-x):=by simpa [Z,o6]using h
theorem K7(x y:Int)(zx:Z x)(zy:Z y):aH env.P 130 [RI x,RI y] (RI (x-y)):=by
 have hn:=rB y
 have zn:=awZ zy
 obtain⟨m,hm⟩:∃m,m = -y:=⟨_,rfl⟩
 rw [←hm]at hn zn
 have e:x-y=x+m:=by omega
 rw [e]
 refine cA [(0,RI x),(1,RI y)] Tryz.func130 ?_
 refine aA [2,3,4] ?_
 refine kB ?_
 refine b8 hn ?_
 refine cI [4] (B4 x m zx zn) ?_
 exact cP
theorem W3(x y:Int):(x-y).sign=eD x y:=by
 rcases Int.lt_trichotomy x y with h | h | h
 ·rw [oY h,Int.sign_eq_neg_one_of_neg (by omega)]
 ·subst h;simp [u0]
 ·rw [oZ h,Int.sign_eq_one_of_pos (by omega)]
theorem K8(x y:Int)(zx:Z x)(zy:Z y):aH env.P 62 [RI x,RI y] (.int .i64 (eD x y)):=by
 refine cA [(0,RI x),(1,RI y)] Tryz.func62 ?_
 refine aA [2,3] ?_
 refine j4 ?_
 refine b8 (K7 x y zx zy) ?_
 refine aD (E9 (x-y)) ?_
 rw [W3]
 simp (disch:=omega) [gw]
 refine bO [4] ?_
 exact cP
theorem W4(x:Int)(n:Bool)(l:List Int)(zx:Z x)(hl:l.length<1099511627776):aH env.P 175 [RI x,IV n l] (.bool (decide (n=decide (x<0)∧l=aU LL x.natAbs))):=by
 have hln:(aU LL x.natAbs).length≤sz 2 x:=z5 eB x
 refine cA [(0,RI x),(1,IV n l)] Tryz.func175 ?_
 refine aA [2,3] ?_
 refine j4 ?_
 refine b8 (S6 x.natAbs (HF zx)) ?_
 generalize aU LL x.natAbs=m at *
 refine bO [2,3,5] ?_
 refine W.seq ?_
 refine W.gK (fun σ=>∃(b:Bool) (rows:Pm.Rows) (clk:Nat),σ=⟨fa [(3, .ptr 3 1 0 0),(5,us m),(22, .bool b)],rows,clk⟩∧(b=true↔¬(n=decide (x<0)∧l.length=m.length))∧rows 3=some ⟨1,38,2,[[.bool n,us l]]⟩) (fun K hK=>?_) ?_
 ·simp
  cases n<;>by_cases h1:x<0
  all_goals
   simp (disch:=omega) [gw,h1]
   refine hK _ _ (aC _ [3,5,22]) ⟨_,_,_,rfl,?_,by simp⟩
   simp [h1]
  all_goals omega
 rintro _ ⟨b,rows,clk,rfl,hb,fU⟩
 refine bP ?_ ?_<;>intro h
 ·have hb:=hb.1 h
  have e:¬(n=decide (x<0)∧l=m):=fun h2=>hb ⟨h2.1,by rw [h2.2]⟩
  refine aA [4] ?_
  refine W.ret ?_
  simp [go,e]
 ·have hb:n=decide (x<0)∧l.length=m.length:=Classical.byContradiction fun h2=>by simp [hb.2 h2]at h
  refine W.skip ?_
  refine aM [3,5,24,25] ?_
  refine W.block ?_
  refine W.a8 (fun k σ=>∃(i:Nat) (rows:Pm.Rows) (clk:Nat),σ=⟨fa [(3, .ptr 3 1 0 0),(5,us m),(24, .int .i64 m.length),(25, .int .i64 i)],rows,clk⟩∧rows 3=some ⟨1,38,2,[[.bool n,us l]]⟩∧k=m.length-i∧i≤m.length∧l.take i=m.take i) m.length ?_ ?_
  ·exact⟨_, .refl,0,_,_,rfl,by simpa using fU,by omega,by omega,by simp⟩
  rintro k _ ⟨i,rows,clk,rfl,fU,hk,hi,hI⟩
  refine cC [3,5,24,25,26] ?_
  refine bP ?_ ?_<;>intro h
  ·simp at h
   refine iT ?_
   refine aA [3,5,6,24,25] ?_
   refine W.sd ?_
   simp (disch:=omega) [gw,fU]
   refine bO [3,5,24,25,37] ?_
   refine W.cond ⟨_,rfl,fun h2=>?_,fun h2=>?_⟩
   ·have h2:nth m i≠nth l i:=by simpa using h2
    have e:¬(n=decide (x<0)∧l=m):=fun h3=>h2 (by rw [h3.2])
    refine aA [4] ?_
    refine W.ret ?_
    simp [go,e]
   ·have h2:nth m i=nth l i:=by simpa using h2
    refine W.skip ?_
    refine W.b9 (fun K hK=>?_);simp (disch:=omega) [gw]
    refine hK _ ⟨m.length-(i+1),_,aC _ [3,5,24,25],by omega,i+1,_,_,rfl,by simp [fU],by omega,by omega,?_⟩
    rw [aT (by omega),aT h,hI,h2]
  ·simp at h
   have mQ:i=m.length:=by omega
   subst mQ
   rw [List.take_of_length_le (by omega),List.take_of_length_le (by omega)]at hI
   refine eJ ?_
   refine aA [4] ?_
   refine W.ret ?_
   simp [go,hb,hI]
end Go.Proofs.YtiobceocpabjdaaGreat
