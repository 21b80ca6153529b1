import Derived.Test.YtiobceocpabjdaaGreatKae
import Derived.Test.YtiobceocpabjdaaGreatKah
import Derived.Test.YtiobceocpabjdaaGreatKai
set_option linter.unusedSimpArgs false
set_option linter.unusedVariables false
namespace Go.Proofs.YtiobceocpabjdaaGreat
open Go Pm
theorem aeT{t:Int}(h0:0<t)(h1:t<4294967296):∃s:Nat,s≤31∧(32:Int)-nb t.toNat=s∧2147483648≤t*2^s∧(t+1)*2^s≤4294967296:=by
 have h2:nb t.toNat≤32:=oX.2 (by omega)
 have h3:1≤nb t.toNat:=by
  rcases Nat.eq_zero_or_pos (nb t.toNat)with h | h
  ·have:=oX.1 (Nat.le_of_eq h);omega
  ·exact h
 obtain⟨k,hk⟩:∃k,nb t.toNat=k+1:=⟨nb t.toNat-1,by omega⟩
 have h4:t.toNat<2^(k+1):=oX.1 (Nat.le_of_eq hk)
 have h5:2^k≤t.toNat:=by
  rcases Nat.lt_or_ge t.toNat (2^k)with h | h
  ·have:=oX.2 h;omega
  ·exact h
 have e1:(2:Int)^(k+1)*2^(31-k)=4294967296:=by rw [←Int.pow_add,show k+1+(31-k)=32 by omega];rfl
 have e2:(2:Int)^k*2^(31-k)=2147483648:=by rw [←Int.pow_add,show k+(31-k)=31 by omega];rfl
 have hp:(0:Int)<2^(31-k):=Int.pow_pos (by decide)
 have q1:((2^k:Nat):Int)=(2:Int)^k:=Int.natCast_pow 2 k
 have q2:((2^(k+1):Nat):Int)=(2:Int)^(k+1):=Int.natCast_pow 2 (k+1)
 refine⟨31-k,by omega,by omega,?_,?_⟩
 ·have:=Int.mul_le_mul_of_nonneg_right (show (2:Int)^k≤t by omega) (Int.le_of_lt hp)
  omega
 ·have:=Int.mul_le_mul_of_nonneg_right (show t+1≤(2:Int)^(k+1)by omega) (Int.le_of_lt hp)
  omega
theorem abp{y:List Int}(hc:aP y=y)(h:y ≠ []):nth y (y.length-1)≠0:=by
 intro h0
 have hl:0<y.length:=List.length_pos_iff.2 h
 have e:y=y.take (y.length-1) ++ [0]:=by
  have:=bG (l:=y) (i:=y.length-1) (by omega)
  rw [h0,show y.length-1+1=y.length by omega,List.take_length]at this
  exact this
 have h1:=kJ (y.take (y.length-1))
 rw [←e,hc]at h1
 have h2:=bW (y.take (y.length-1))
 rw [←h1,List.length_take]at h2
 omega
theorem aeU:N 0=us []:=rfl
theorem aeV{m i:Nat}{X D:List Int}{Y g:Int}(lX:c8 4294967296 X)(lD:c8 4294967296 D)(hYb:Y<4294967296^(m+2))(hY0:0<Y)(vX:i+m+3≤X.length)(hDl:D.length=(X.drop i).length)(hDd:D.drop (m+3)=(X.drop i).drop (m+3))
  (hg:g=V 4294967296 ((X.drop i).take (m+3))/Y) (hDv:V 4294967296 (D.take (m+3))=V 4294967296 ((X.drop i).take (m+3))%Y) (dC:V 4294967296 (X.drop (i+1))<Y) :
  V 4294967296 ((X.take i++D).drop i)<Y∧V 4294967296 (X.take i++D)=V 4294967296 X-4294967296^i*(g*Y):=by
 have hl:(X.take i).length=i:=by simp;omega
 have e1:(X.take i++D).drop i=D:=by rw [List.drop_append,hl,List.drop_of_length_le (by omega)];simp
 have hD3:=lF (b:=4294967296) D (m+3) (by rw [hDl];simp;omega)
 have hX3:=lF (b:=4294967296) (X.drop i) (m+3) (by simp;omega)
 have hXi:=lF (b:=4294967296) X i (by omega)
 have hz:V 4294967296 ((X.drop i).drop (m+3))=0:=by
  have h1:=lF (b:=4294967296) (X.drop (i+1)) (m+2) (by simp;omega)
  have h2:(X.drop (i+1)).drop (m+2)=(X.drop i).drop (m+3):=by
   rw [List.drop_drop,List.drop_drop];congr 1;omega
  have h3:=bN (b:=4294967296) (by decide) ((lX.drop (i+1)).take (m+2))
  have h4:=bN (b:=4294967296) (by decide) ((lX.drop i).drop (m+3))
  rw [h2]at h1
  rcases Int.lt_or_le 0 (V 4294967296 ((X.drop i).drop (m+3)))with h5 | h5
  ·exfalso
   have:=Int.mul_le_mul_of_nonneg_left (show 1≤V 4294967296 ((X.drop i).drop (m+3))by omega) (show 0≤(4294967296:Int)^(m+2)by omega)
   omega
  ·omega
 rw [hDd,hz,Int.mul_zero,Int.add_zero]at hD3
 rw [hz,Int.mul_zero,Int.add_zero]at hX3
 have hm:=Int.emod_lt_of_pos (V 4294967296 ((X.drop i).take (m+3))) hY0
 have hde:=Int.mul_ediv_add_emod (V 4294967296 ((X.drop i).take (m+3))) Y
 rw [←hg,←hDv,←hX3,←hD3]at hde
 refine⟨by rw [e1,hD3,hDv];exact hm,?_⟩
 rw [eJ,hl,hXi,←hde]
 grind
theorem P8(a b:List Int)(ha:sY a)(hb:sY b)(h0:V 4294967296 b=0):aE env.P 259 [us a,us b] (.dX [us [],us [], .int .i64 2]):=by
 have hlb:=hb.len
 have ND:=ha.len
 have hcb:=bW b
 have hy:aP b = []:=by rw [sS gO hb.zI];show aR LL (V 4294967296 b).toNat = [];rw [h0];rfl
 refine cB [(0,us a),(1,us b)] Tryz.func259 ?_
 refine aA [0,1] ?_
 refine jG ?_
 refine aC (dZ a (by omega)) ?_
 simp (disch:=omega) [gw]
 refine aC (dZ b (by omega)) ?_
 simp (disch:=omega) [gw]
 refine bI [0,1] ?_
 rw [hy]
 refine W.seq ?_
 refine W.block ?_
 refine aA [0,1,18] ?_
 refine bH ?_ ?_<;>intro h
 ·refine aA [4,5,6] ?_
  refine W.ret ?_
  simp [go]
  rfl
 ·cases h
theorem E0(a b:List Int)(ha:sY a)(hb:sY b)(h0:V 4294967296 b≠0)(ND:a.length<1099511627774)(hlb:b.length<1099511627774) :
  aE env.P 259 [us a,us b] (.dX [N (V 4294967296 a/V 4294967296 b),N (V 4294967296 a%V 4294967296 b), .int .i64 0]):=by
 have hca:=bW a
 have hcb:=bW b
 have hVa:=dE (b:=4294967296) a
 have hVb:=dE (b:=4294967296) b
 have lx:=eT ha.zI
 have ly:=eT hb.zI
 have cx:=eX a
 have cy:=eX b
 rw [←hVa,←hVb]
 rw [←hVb]at h0
 refine cB [(0,us a),(1,us b)] Tryz.func259 ?_
 refine aA [0,1] ?_
 refine jG ?_
 refine aC (dZ a (by omega)) ?_
 simp (disch:=omega) [gw]
 refine aC (dZ b (by omega)) ?_
 simp (disch:=omega) [gw]
 refine bI [0,1] ?_
 have hxl:(aP a).length<1099511627774:=by omega
 have SO:(aP b).length<1099511627774:=by omega
 clear hVa hVb hca hcb
 generalize aP a=x at *
 generalize aP b=y at *
 have hyn:y ≠ []:=fun h=>h0 (by rw [h];rfl)
 have hyp:0<y.length:=List.length_pos_iff.2 hyn
 have hY0:0<V 4294967296 y:=by have:=bN (b:=4294967296) (by decide) ly;omega
 have hX0:=bN (b:=4294967296) (by decide) lx
 refine W.seq ?_
 refine W.block ?_
 refine aA [0,1,18] ?_
 refine bH ?_ ?_<;>intro h
 ·exfalso;simp at h;exact hyn h
 clear h
 refine aA [0,1,22] ?_
 refine bH ?_ ?_<;>intro h
 ·have h:x.length<y.length:=by simp at h;omega
  have rL:=kN (b:=4294967296) (by decide) lx ly cy h
  rw [Int.ediv_eq_zero_of_lt hX0 rL,Int.emod_eq_of_lt hX0 rL]
  refine jG ?_
  refine aC (n9 x (by omega) lx) ?_
  simp (disch:=omega) [gw]
  refine bI [4,5,6] ?_
  refine W.ret ?_
  simp [go]
  rfl
 have rL:y.length≤x.length:=by simp at h;omega
 clear h
 refine aA [0,1,30] ?_
 refine bH ?_ ?_<;>intro h
 ·have h:y.length=1:=by simp at h;omega
  obtain⟨w,rfl⟩:∃w,y = [w]:=match y,h with | [w],_=>⟨w,rfl⟩
  have hw:=(c8.cons.1 ly).1
  have hV1:V 4294967296 [w]=w:=oV
  rw [hV1]at h0 hY0 ⊢
  have SL:=Int.emod_nonneg (V 4294967296 x) h0
  have NF:=Int.emod_lt_of_pos (V 4294967296 x) hY0
  have jR:=ajk x w (by omega) lx hY0 hw.2
  have lr:c8 4294967296 [V 4294967296 x%w]:=c8.cons.2 ⟨⟨SL,by omega⟩,c8.nil⟩
  have oM:=dZ [V 4294967296 x%w] (by simp)
  rw [xM lr,oV]at oM
  have hnw:nth [w] 0=w:=rfl
  generalize V 4294967296 x/w=qq at *
  generalize V 4294967296 x%w=rr at *
  refine W.sr ?_
  simp (disch:=omega) [gw,hnw]
  refine cN [7,8] jR ?_
  refine aL [4,5,6] oM ?_
  exact bZ
 have hy2:2≤y.length:=by simp at h;omega
 clear h
 obtain⟨m,hm⟩:∃m,y.length=m+2:=⟨y.length-2,by omega⟩
 have htn:=abp cy hyn
 rw [show y.length-1=m+1 by omega]at htn
 have htl:=ly.nth (i:=m+1) (by omega)
 obtain⟨s,ajq,hsn,vT,hs2⟩:=aeT (t:=nth y (m+1)) (by omega) htl.2
 have hLZ:=aqd (nth y (m+1)) htl.1 htl.2
 rw [hsn]at hLZ
 have hp:(0:Int)<2^s:=Int.pow_pos (by decide)
 have awE:(2:Int)^s≤2147483648:=by
  have:=Int.ofNat_le.2 (Nat.pow_le_pow_right (show 0<2 by decide) ajq)
  simpa using this
 have hbm:(0:Int)<4294967296^(m+1):=Int.pow_pos (by decide)
 have aqj:=pJ (b:=4294967296) (by decide) lx
 have hVy:=lF (b:=4294967296) y (m+1) (by omega)
 have hy1:V 4294967296 (y.drop (m+1))=nth y (m+1):=by rw [fK (by omega),List.drop_of_length_le (by omega),oV]
 rw [hy1]at hVy
 have aB9:=bN (b:=4294967296) (by decide) (ly.take (m+1))
 have hy3:=pJ (b:=4294967296) (by decide) (ly.take (m+1))
 rw [List.length_take,Nat.min_eq_left (by omega)]at hy3
 have hyU:V 4294967296 y*2^s<4294967296^(m+2):=by
  have h1:V 4294967296 y<(nth y (m+1)+1)*4294967296^(m+1):=by rw [hVy];grind
  have h2:=Int.mul_lt_mul_of_pos_right h1 hp
  have h3:=Int.mul_le_mul_of_nonneg_right hs2 (Int.le_of_lt hbm)
  have e:(nth y (m+1)+1)*4294967296^(m+1)*2^s=(nth y (m+1)+1)*2^s*4294967296^(m+1):=by grind
  rw [show m+2=(m+1)+1 from rfl,Int.pow_succ]
  omega
 have hyL:2147483648*4294967296^(m+1)≤V 4294967296 y*2^s:=by
  have h1:nth y (m+1)*4294967296^(m+1)≤V 4294967296 y:=by rw [hVy,Int.mul_comm];omega
  have h2:=Int.mul_le_mul_of_nonneg_right h1 (Int.le_of_lt hp)
  have h3:=Int.mul_le_mul_of_nonneg_right vT (Int.le_of_lt hbm)
  have e:nth y (m+1)*4294967296^(m+1)*2^s=nth y (m+1)*2^s*4294967296^(m+1):=by grind
  omega
 have hxU:V 4294967296 x*2^s<4294967296^(x.length+1):=by
  rw [Int.pow_succ]
  exact Int.lt_of_lt_of_le (Int.mul_lt_mul_of_pos_right aqj hp) (Int.mul_le_mul_of_nonneg_left (by omega) (Int.le_of_lt (Int.pow_pos (by decide))))
 obtain⟨x',hwx,aHy,lx',aqk⟩:=P7 x s (x.length+1) ajq (by omega) lx (by omega) (by omega) hxU
 obtain⟨y',hwy,awF,ly',abq⟩:=P7 y s (m+2) ajq (by omega) ly (by omega) (by omega) hyU
 have aCb:2147483648≤nth y' (m+1):=by
  have h1:=lF (b:=4294967296) y' (m+1) (by omega)
  have h2:V 4294967296 (y'.drop (m+1))=nth y' (m+1):=by rw [fK (by omega),List.drop_of_length_le (by omega),oV]
  have h3:=pJ (b:=4294967296) (by decide) (ly'.take (m+1))
  rw [List.length_take,Nat.min_eq_left (by omega)]at h3
  rw [h2,abq]at h1
  rcases Int.lt_or_le (nth y' (m+1)) 2147483648 with h4 | h4
  ·exfalso
   have:=Int.mul_le_mul_of_nonneg_left (show nth y' (m+1)+1≤2147483648 by omega) (Int.le_of_lt hbm)
   rw [Int.mul_add,Int.mul_comm _ 2147483648]at this
   omega
  ·exact h4
 have ajr:0<V 4294967296 y':=by rw [abq];exact Int.mul_pos hY0 hp
 have aCc:V 4294967296 y'<4294967296^(m+2):=by rw [abq];exact hyU
 have hxm:m+2≤x.length:=by omega
 have hqx:V 4294967296 x/V 4294967296 y=V 4294967296 x'/V 4294967296 y':=by rw [aqk,abq,Int.mul_ediv_mul_of_pos_left _ _ hp]
 have hrx:V 4294967296 x%V 4294967296 y=V 4294967296 x'%V 4294967296 y'/2^s:=by
  rw [aqk,abq]
  have e1:=Int.emod_def (V 4294967296 x*2^s) (V 4294967296 y*2^s)
  rw [Int.mul_ediv_mul_of_pos_left _ _ hp]at e1
  have e2:=Int.emod_def (V 4294967296 x) (V 4294967296 y)
  rw [e1,e2]
  have e3:V 4294967296 x*2^s-V 4294967296 y*2^s*(V 4294967296 x/V 4294967296 y)=(V 4294967296 x-V 4294967296 y*(V 4294967296 x/V 4294967296 y))*2^s:=by grind
  rw [e3,Int.mul_ediv_cancel _ (by omega)]
 have awG:V 4294967296 (x'.drop (x.length-m-1))<V 4294967296 y':=by
  have h1:=lF (b:=4294967296) x' (x.length-m-1) (by omega)
  have h2:=bN (b:=4294967296) (by decide) (lx'.take (x.length-m-1))
  rw [aqk]at h1
  have h3:V 4294967296 x*2^s<4294967296^(x.length-m-1)*(4294967296^(m+1)*2^s):=by
   rw [←Int.mul_assoc,←Int.pow_add,show x.length-m-1+(m+1)=x.length by omega]
   exact Int.mul_lt_mul_of_pos_right aqj hp
  have h4:V 4294967296 (x'.drop (x.length-m-1))<4294967296^(m+1)*2^s:=Int.lt_of_mul_lt_mul_left (a:=4294967296^(x.length-m-1)) (by omega) (Int.le_of_lt (Int.pow_pos (by decide)))
  have h5:=Int.mul_le_mul_of_nonneg_left awE (Int.le_of_lt hbm)
  rw [abq]
  rw [Int.mul_comm _ 2147483648]at h5
  omega
 rw [hqx,hrx]
 refine W.skip ?_
 have a1:((m:Int)+2-1)=((m+1:Nat):Int):=by omega
 refine W.sr ?_
 simp (disch:=omega) [gw,hm,a1]
 refine cN [0,1,9] hLZ ?_
 replace hwx:mT env.P 270 [us x, .int .i64 s, .int .i64 ((x.length:Int)+1)] 185 1 (emap u32 x'):=hwx
 replace hwy:mT env.P 270 [us y, .int .i64 s, .int .i64 ((m:Int)+2)] 185 1 (emap u32 y'):=hwy
 refine W.sr ?_
 simp (disch:=omega) [gw,hm]
 refine alS hwx 58 (by simp) (by simp) (by simp) ?_
 simp (disch:=omega) [gw,hm]
 refine alS hwy 63 (by simp) (by simp) (by simp) ?_
 simp (disch:=omega) [gw]
 refine bI [0,9,10,11] ?_
 refine W.freeze 63 (by simp) (fun K hK=>?_)
 simp
 refine hK _ ?_;clear hK K
 refine W.sr ?_
 simp (disch:=omega) [gw,awF]
 refine bI [0,9,10,11,12] ?_
 obtain⟨ql,hql⟩:∃ql,x.length=ql+m+1:=⟨x.length-m-1,by omega⟩
 rw [show x.length-m-1=ql by omega]at awG
 have amu:x'.length=ql+m+2:=by omega
 have aq:(x.length:Int)-((m:Int)+2)+1=(ql:Int):=by omega
 refine W.sr ?_
 simp (disch:=omega) [gw,aq]
 refine bI [4,9,10,11,12] ?_
 clear hwx hwy hVy hy1 aB9 hy3 hyU hyL hxU hqx hrx htn htl vT hs2 hsn hLZ aqj hY0 hX0
 refine aK [4,9,10,11,12,13] ?_
 refine W.block ?_
 refine W.aY (fun q σ=>∃(v4:Nat) (X Q:List Int) (rows:Pm.Rows) (clk:Nat),σ=⟨fa [(4, .own 71 v4 0 ql),(9, .int .i64 s),(10, .own 58 0 0 (ql+m+2)),(11,us y'),(12, .int .i64 ((m:Int)+2)),(13, .int .i64 ((q:Int)-1))],rows,clk⟩ ∧
  rows 58=some ⟨0,185,1,emap u32 X⟩∧rows 71=some ⟨v4,185,1,emap u32 Q⟩∧q≤ql∧X.length=ql+m+2∧Q.length=ql∧c8 4294967296 X∧c8 4294967296 Q ∧
  V 4294967296 X+4294967296^q*V 4294967296 (Q.drop q)*V 4294967296 y'=V 4294967296 x'∧V 4294967296 (X.drop q)<V 4294967296 y') ql ?_ ?_
 ·exact⟨_,Gh.fr [(4, .own 71 _ 0 ql),(9, .int .i64 s),(10, .own 58 0 0 (ql+m+2)),(11,us y'),(12, .int .i64 ((m:Int)+2)),(13, .int .i64 ((ql:Int)-1))] (by simp [amu];exact rfl),_,x',List.replicate ql 0,_,_,rfl,by simp,by simp,by omega,amu,by simp,lx',c8.rep (by decide) _,by simp [V],awG⟩
 rintro q _ ⟨v4,X,Q,rows,clk,rfl,ajs,aql,hq,hXl,hQl,lX,lQ,hVX,hXU⟩
 refine aK [4,9,10,11,12,13,76] ?_
 refine bH ?_ ?_<;>intro h
 ·have SN:0<q:=by simp at h;omega
  obtain⟨i,rfl⟩:∃i,q=i+1:=⟨q-1,by omega⟩
  clear h
  have ei:((i+1:Nat):Int)-1=i:=by omega
  rw [ei]
  have awH:V 4294967296 ((X.drop i).take (m+3))<4294967296*V 4294967296 y':=by
   have h1:=lF (b:=4294967296) (X.drop i) (m+3) (by simp;omega)
   have h2:=bN (b:=4294967296) (by decide) ((lX.drop i).drop (m+3))
   have h3:=Int.mul_nonneg (show (0:Int)≤4294967296^(m+3)from Int.le_of_lt (Int.pow_pos (by decide))) h2
   have h4:V 4294967296 (X.drop i)=nth X i+4294967296*V 4294967296 (X.drop (i+1)):=by rw [fK (by omega)];rfl
   have h5:=lX.nth (i:=i) (by omega)
   omega
  have aju:=fun(rows:Pm.Rows) clk hr=>UZ (id:=58) (ver:=0) (off:=i) (m:=m) X y' rows clk hr awF (by omega) ly' aCb lX (by omega) (by omega) awH
  have e6:(i:Int)+((m:Int)+2)+1=((i+m+3:Nat):Int):=by omega
  have e7:((i:Int)+(m:Int)+3).toNat-i=m+3:=by omega
  refine j7 ?_
  refine W.bY (fun K hK=>?_)
  simp (disch:=omega) [gw,ajs,hXl,e6,e7]
  refine au6 (aju _ _ ajs) ?_
  rintro r rows' iM ⟨D,rfl,rfl,rfl,hDl,lD,hDd,hDv⟩
  have iR:=aeV (g:=V 4294967296 ((X.drop i).take (m+3))/V 4294967296 y') lX lD aCc ajr (by omega) hDl hDd rfl hDv hXU
  have hg0:0≤V 4294967296 ((X.drop i).take (m+3))/V 4294967296 y':=Int.ediv_nonneg (bN (by decide) ((lX.drop i).take _)) (Int.le_of_lt ajr)
  have hg1:V 4294967296 ((X.drop i).take (m+3))/V 4294967296 y'<4294967296:=Int.ediv_lt_of_lt_mul ajr awH
  generalize V 4294967296 ((X.drop i).take (m+3))/V 4294967296 y'=g at *
  have aCe:(X.take i++D).length=ql+m+2:=by simp [hDl];omega
  have lX2:c8 4294967296 (X.take i++D):=c8.append.2 ⟨lX.take i,lD⟩
  obtain⟨aCf,aCg⟩:=iR
  generalize X.take i++D=X2 at *
  simp (disch:=omega) [gw,aql,hQl]
  refine W.lw [4,9,10,11,12,13] hK ?_;clear hK K;simp
  refine W.bY (fun K hK=>?_);simp (disch:=omega) [gw]
  refine hK _ ⟨i,_,aB _ [4,9,10,11,12,13],by omega,v4,X2,Q.set i g,_,_,rfl,by simp,by simp,by omega,aCe,by simp [hQl],lX2,lQ.set ⟨hg0,hg1⟩,?_,aCf⟩
  rw [aCg,fK (l:=Q.set i g) (i:=i) (by simp;omega),fG (by omega),List.drop_set_of_lt (by omega),←hVX]
  simp only [V,Int.pow_succ]
  generalize V 4294967296 (Q.drop (i+1))=vq at *
  grind
 ·have SN:q=0:=by simp at h;omega
  subst SN
  simp only [List.drop_zero,Int.pow_zero,Int.one_mul]at hVX hXU
  have hX0:=bN (b:=4294967296) (by decide) lX
  have hQe:V 4294967296 x'/V 4294967296 y'=V 4294967296 Q:=by
   have e:(V 4294967296 Q+1)*V 4294967296 y'=V 4294967296 Q*V 4294967296 y'+V 4294967296 y':=by grind
   rw [Int.ediv_eq_iff_of_pos ajr]
   constructor<;>omega
  have hRe:V 4294967296 x'%V 4294967296 y'=V 4294967296 X:=by
   have h3:=Int.emod_def (V 4294967296 x') (V 4294967296 y')
   rw [hQe,Int.mul_comm]at h3
   omega
  have hXt:V 4294967296 (X.take (m+2))=V 4294967296 X:=by
   have h1:=lF (b:=4294967296) X (m+2) (by omega)
   have h2:=bN (b:=4294967296) (by decide) (lX.drop (m+2))
   have h3:=bN (b:=4294967296) (by decide) (lX.take (m+2))
   have h4:(0:Int)<4294967296^(m+2):=Int.pow_pos (by decide)
   rcases Int.lt_or_le 0 (V 4294967296 (X.drop (m+2)))with h5 | h5
   ·exfalso
    have:=Int.mul_le_mul_of_nonneg_left (show 1≤V 4294967296 (X.drop (m+2))by omega) (Int.le_of_lt h4)
    omega
   ·have:V 4294967296 (X.drop (m+2))=0:=by omega
    rw [this]at h1;omega
  rw [hQe,hRe,←hXt]
  have zQ:=bM hQl
  have zX:=bM hXl
  have oM:=dZ Q (by omega)
  rw [xM lQ]at oM
  have aCh:=ajl (X.take (m+2)) s ajq (by simp;omega) (lX.take _)
  refine eW ?_
  refine W.freeze 71 (by simp [aql]) (fun K hK=>?_)
  simp [aql,zQ]
  refine hK _ ?_;clear hK K
  refine W.freeze 58 (by simp [ajs]) (fun K hK=>?_)
  simp [ajs,zX]
  refine hK _ ?_;clear hK K
  have e8:((m:Int)+2).toNat=m+2:=by omega
  refine nH ?_
  refine aC oM ?_
  simp (disch:=omega) [gw,hXl,e8]
  refine cN [4,5,6] aCh ?_
  exact bZ
theorem K8{A B:Int}(hB:0<B)(hA:0≤A):(A%B=0→(-A)/B = -(A/B)∧(-A)%B=0)∧(0<A%B→(-A)/B = -(A/B+1)∧(-A)%B=B-A%B):=by
 have h1:=Int.mul_ediv_add_emod A B
 have h2:=Int.emod_lt_of_pos A hB
 constructor
 ·intro h
  refine(Int.ediv_emod_unique hB).2 ⟨?_,by omega,by omega⟩
  rw [Int.mul_neg];omega
 ·intro h
  refine(Int.ediv_emod_unique hB).2 ⟨?_,by omega,by omega⟩
  rw [Int.mul_neg,Int.mul_add];omega
theorem aeW(n m:Bool){A B:Int}(hB:0<B)(hA:0≤A) :
  (¬(n=true∧0<A%B)→(if n=true then -A else A)/(if m=true then -B else B)=(if (n != m)=true then -(A/B)else A/B)∧(if n=true then -A else A)%(if m=true then -B else B)=A%B) ∧
  (n=true→0<A%B→(if n=true then -A else A)/(if m=true then -B else B)=(if (n != m)=true then -(A/B+1)else A/B+1)∧(if n=true then -A else A)%(if m=true then -B else B)=B-A%B):=by
 obtain⟨p1,p2⟩:=K8 hB hA
 have h0:=Int.emod_nonneg A (show B≠0 by omega)
 cases n<;>cases m<;>simp [Int.ediv_neg,Int.emod_neg]
 ·exact⟨fun h=>by have:=p1 (by omega);exact⟨this.1,by omega⟩,p2⟩
 ·exact⟨fun h=>by have:=p1 (by omega);exact⟨by omega,by omega⟩,fun h=>by have:=p2 h;exact⟨by omega,this.2⟩⟩
theorem aeX(n:Bool)(l:List Int)(h:sY l):aE env.P 143 [IV n l] (I (V 4294967296 l)):=by
 refine cB [(0,IV n l)] Tryz.func143 ?_
 refine aA [1,2] ?_
 refine jG ?_
 refine cM (n9 l h.len h.zI) ?_
 refine aC (gT _ (rP h) false) ?_
 simp (disch:=omega) [gw]
 refine bI [2] ?_
 exact bZ
theorem aeY(n:Bool)(l:List Int):aE env.P 258 [IV n l] (.int .i64 (if l.length=0 then 0 else if n=true then -1 else 1)):=by
 refine cB [(0,IV n l)] Tryz.func258 ?_
 refine bT [1] ?_
 refine W.block ?_
 refine aA [1,3] ?_
 refine bH ?_ ?_<;>intro h
 ·have h:l = []:=by simp at h;exact h
  subst h
  refine aA [2] ?_
  exact bZ
 ·have h:l.length≠0:=by simp at h;simpa using h
  rw [if_neg h]
  refine aA [8] ?_
  refine bH ?_ ?_<;>intro h
  ·subst h
   refine aA [2] ?_
   exact bZ
  ·subst h
   refine W.skip ?_
   refine aA [2] ?_
   exact bZ
theorem ajv(p:RP)(hp:p.length<9223372036854775808):aE env.P 83 [Pg p] (.int .i64 ((p.length:Int)-1)):=by
 refine cB [(0,Pg p)] Tryz.func83 ?_
 refine aA [0] ?_
 refine aA [2] ?_
 exact bZ
theorem P9(p:RP)(h:rW p):aE env.P 145 [Pg p] (I (lead (nT p))):=by
 have hl:=h.len
 have gE:=bW (p.map gv)
 rw [List.length_map]at gE
 refine cB [(0,Pg p)] Tryz.func145 ?_
 refine aA [0,2] ?_
 refine W.seq ?_
 refine aL [0,2] (gU p h) ?_
 rw [show aP (p.map gv)=nT p from rfl]at gE ⊢
 generalize nT p=x at *
 refine aA [0,2,7] ?_
 refine bH ?_ ?_<;>intro h
 ·have h:x = []:=by simp at h;exact h
  subst h
  refine aA [2] ?_
  refine W.ret ?_
  simp [go]
  exact⟨Int.le_refl 0,rfl⟩
 ·have h:x ≠ []:=by simp at h;exact h
  have qB:0<x.length:=List.length_pos_iff.2 h
  refine W.skip ?_
  have e1:((x.length:Int)-1).toNat=x.length-1:=by omega
  refine W.sr ?_
  simp (disch:=omega) [gw,e1]
  refine bI [2] ?_
  refine W.ret ?_
  simp [go,lead]
theorem QB{x:Int}{k:Nat}(h0:0≤x)(h:x<4294967296^k):sz LL x≤k:=dV gO (by
 have e:((4294967296^k:Nat):Int)=(4294967296:Int)^k:=Int.natCast_pow 4294967296 k
 show x.natAbs<4294967296^k
 omega)
theorem YB{x:Int}{k:Nat}(h0:0≤x)(h:sz LL x≤k)(hk:k<1099511627776):sY (aR LL x.toNat):=⟨fN gO _,by
 have e:x.natAbs=x.toNat:=by omega
 unfold sz at h
 rw [e]at h
 omega⟩
theorem aeZ{x:Int}(h0:0≤x):V 4294967296 (aR LL x.toNat)=x:=by
 have:=lE gO x.toNat
 rw [show((LL:Nat):Int)=4294967296 from rfl]at this
 rw [this];omega
theorem ajw{x:Int}(h0:0≤x):(0<(aR LL x.toNat).length)↔0<x:=by
 rw [List.length_pos_iff,Ne,eZ gO];omega
theorem QC(n m:Bool)(l k:List Int)(y6:sY l)(h':sY k)(hl:l.length<1099511627774)(hk:k.length<1099511627774) :
  aE env.P 260 [IV n l,IV m k] (if V 4294967296 k=0 then .dX [I 0,I 0, .int .i64 2]else .dX [I (iv n l/iv m k),I (iv n l%iv m k), .int .i64 0]):=by
 have p1:=rP y6
 have p2:=rP h'
 refine cB [(0,IV n l),(1,IV m k)] Tryz.func260 ?_
 refine aA [2,3,4,5] ?_
 by_cases h0:V 4294967296 k=0
 ·rw [if_pos h0]
  refine aL [2,3,4,5,6,7,8] (P8 l k y6 h' h0) ?_
  refine aK [2,3,4,5,6,7,8,19] ?_
  refine bH ?_ ?_<;>intro h
  ·refine aA [4,5,6] ?_
   refine W.ret ?_
   simp [go]
   rfl
  ·cases h
 ·rw [if_neg h0]
  have hB:0<V 4294967296 k:=by omega
  have W4:=E0 l k y6 h' h0 hl hk
  obtain⟨d1,d2⟩:=aeW n m hB p1
  rw [show(if n=true then -V 4294967296 l else V 4294967296 l)=iv n l from rfl,show(if m=true then -V 4294967296 k else V 4294967296 k)=iv m k from rfl]at d1 d2
  have q0:=Int.ediv_nonneg p1 p2
  have r0:=Int.emod_nonneg (V 4294967296 l) h0
  have r1:=Int.emod_lt_of_pos (V 4294967296 l) hB
  have pP:sz LL (V 4294967296 l/V 4294967296 k)≤l.length:=QB q0 (Int.lt_of_le_of_lt (Int.ediv_le_self _ p1) (pJ (by decide) y6.zI))
  have aCi:sz LL (V 4294967296 l%V 4294967296 k)≤k.length:=QB r0 (Int.lt_trans r1 (pJ (by decide) h'.zI))
  refine aL [2,3,4,5,6,7,8] W4 ?_
  generalize V 4294967296 l/V 4294967296 k=Q at *
  generalize V 4294967296 l%V 4294967296 k=R at *
  refine aK [2,3,4,5,6,7,8,19] ?_
  refine bH ?_ ?_<;>intro h
  ·cases h
  refine W.skip ?_
  refine jG ?_
  refine cM (gT Q q0 (n != m)) ?_
  refine cN [2,3,4,5,7,8] (gT R r0 false) ?_
  refine W.iB (fun σ=>∃(rows:Pm.Rows) (clk:Nat),σ=⟨fa [(4, .ptr 4 2 0 0),(5, .ptr 5 3 0 0)],rows,clk⟩∧rows 4=some ⟨2,38,2,[ie (iv n l/iv m k)]⟩∧rows 5=some ⟨3,38,2,[ie (iv n l%iv m k)]⟩) ?_ ?_
  ·
   by_cases aqm:n=true∧0<R
   ·obtain⟨rfl,hR⟩:=aqm
    obtain⟨e1,e2⟩:=d2 rfl hR
    rw [e1,e2]
    have hdp:=(ajw r0).2 hR
    have hQl:=YB q0 pP y6.len
    have hRl:=YB r0 aCi h'.len
    have awI:=XX (aR LL Q.toNat) [1] hQl.len (by simp) hQl.zI (c8.cons.2 ⟨by decide,c8.nil⟩)
    rw [aeZ q0,oV]at awI
    have awJ:=KY k (aR LL R.toNat) h'.len hRl.len h'.zI hRl.zI
    rw [aeZ r0,UP,if_neg (by omega)]at awJ
    refine W.eD (fun σ=>∃(rows:Pm.Rows) (clk:Nat),σ=⟨fa [(2, .ptr 2 0 0 0),(3, .ptr 3 1 0 0),(4, .ptr 4 2 0 0),(5, .ptr 5 3 0 0),(7,N Q),(8,N R),(38, .bool true)],rows,clk⟩∧rows 2=some ⟨0,38,2,[[.bool true,us l]]⟩∧rows 3=some ⟨1,38,2,[[.bool m,us k]]⟩∧rows 4=some ⟨2,38,2,[ie (if true=m then Q else -Q)]⟩∧rows 5=some ⟨3,38,2,[ie R]⟩) (fun K hK=>?_) ?_
    ·simp (disch:=omega) [gw,hdp]
     exact hK _ _ (aB _ [2,3,4,5,7,8,38]) ⟨_,_,rfl,by simp,by simp,by simp,by simp⟩
    rintro _ ⟨rows,clk,rfl,bU,bQ,dF,dM⟩
    refine bH ?_ ?_<;>intro h
    ·refine aL [2,3,4,5,7,8] awI ?_
     refine W.sr ?_
     simp (disch:=omega) [gw,bQ]
     refine cN [2,3,4,5,7,8] awJ ?_
     refine W.bY (fun K hK=>?_)
     simp (disch:=omega) [gw,bU,bQ]
     refine aC (gT (Q+1) (by omega) (!m)) ?_
     simp (disch:=omega) [gw]
     refine aC (gT (V 4294967296 k-R) (by omega) false) ?_
     simp (disch:=omega) [gw,dF,dM]
     exact hK _ ⟨_,aB _ [4,5],_,_,rfl,by cases m<;>simp,by simp⟩
    ·cases h
   ·obtain⟨e1,e2⟩:=d1 aqm
    rw [e1,e2]
    refine W.eD (fun σ=>∃(rows:Pm.Rows) (clk:Nat),σ=⟨fa [(4, .ptr 4 2 0 0),(5, .ptr 5 3 0 0),(38, .bool false)],rows,clk⟩∧rows 4=some ⟨2,38,2,[ie (if (n != m)=true then -Q else Q)]⟩∧rows 5=some ⟨3,38,2,[ie R]⟩) (fun K hK=>?_) ?_
    ·cases n with
     | false =>
      simp (disch:=omega) [gw]
      exact hK _ _ (aB _ [4,5,38]) ⟨_,_,rfl,by cases m<;>simp,by simp⟩
     | true =>
      have hR:R=0:=by simp at aqm;omega
      subst hR
      simp (disch:=omega) [gw]
      exact hK _ _ (aB _ [4,5,38]) ⟨_,_,rfl,by cases m<;>simp,by simp⟩
    rintro _ ⟨rows,clk,rfl,dF,dM⟩
    refine bH ?_ ?_<;>intro h
    ·cases h
    ·refine W.skip ?_
     exact⟨_,aB _ [4,5],_,_,rfl,dF,dM⟩
  rintro _ ⟨rows,clk,rfl,dF,dM⟩
  generalize iv n l/iv m k=q at *
  generalize iv n l%iv m k=r at *
  refine W.sd ?_
  simp (disch:=omega) [gw,dF,dM]
  refine bE (by kernel_rfl) ?_
  simp (disch:=omega) [gw,dF,dM]
  rw [if_pos (by kernel_rfl)]
  simp (disch:=omega) [gw,dF,dM]
  refine bE (by kernel_rfl) ?_
  simp (disch:=omega) [gw]
  refine bI [4,5,6] ?_
  exact bZ
theorem U1(n m:Bool)(l k:List Int)(h:sY l)(h':sY k)(hl:l.length<1099511627774)(hk:k.length<1099511627774)(h0:V 4294967296 k≠0) :
  aE env.P 234 [IV n l,IV m k] (if iv n l%iv m k=0 then .dX [I (iv n l/iv m k), .int .i64 0]else .dX [I 0, .int .i64 3]):=by
 have W4:=QC n m l k h h' hl hk
 rw [if_neg h0]at W4
 have HN:0≤iv n l%iv m k:=Int.emod_nonneg _ (by unfold iv;split<;>omega)
 generalize iv n l/iv m k=q at *
 generalize iv n l%iv m k=r at *
 have hrn:(aR LL r.natAbs = [])↔r=0:=by rw [eZ gO];omega
 refine cB [(0,IV n l),(1,IV m k)] Tryz.func234 ?_
 refine aA [2,3,4] ?_
 refine aL [4,6,7,8] W4 ?_
 refine aK [4,6,7,8,17] ?_
 refine bH ?_ ?_<;>intro h
 ·cases h
 refine W.skip ?_
 refine aK [4,6,23] ?_
 by_cases hr:r=0
 ·rw [if_pos hr]
  refine bH ?_ ?_<;>intro h
  ·exfalso;have h2:=hrn.2 hr;rw [h2]at h;simp at h
  ·refine W.skip ?_
   refine aA [4,5] ?_
   exact bZ
 ·rw [if_neg hr]
  refine bH ?_ ?_<;>intro h
  ·refine aA [4,5] ?_
   refine W.ret ?_
   simp [go]
   rfl
  ·exfalso;simp at h;exact hr (hrn.1 h)
def bO(l:List Int):Nat:=l.foldl (fun g c=>Nat.gcd g c.natAbs) 0
theorem gcd_one:∀l:List Int,l.foldl (fun g c=>Nat.gcd g c.natAbs) 1=1
 | []=>rfl
 | c::l=>by simp only [List.foldl_cons,Nat.gcd_one_left];exact gcd_one l
theorem U2(l:List Int)(i:Nat)(h:bO (l.take i)=1):bO l=1:=by
 unfold bO at *
 rw [←List.take_append_drop i l,List.foldl_append,h]
 exact gcd_one _
theorem abr(l:List Int)(i:Nat)(h:i<l.length):bO (l.take (i+1))=Nat.gcd (bO (l.take i)) (nth l i).natAbs:=by
 unfold bO
 rw [bG h,List.foldl_append];rfl
theorem awK(x:Nat):N (x:Int)=us (aR LL x):=rfl
theorem E1{x k:Nat}(h:x<4294967296^k):(aR LL x).length≤k:=B6 gO h
theorem QD(p:RP)(K0:Nat)(hK0:K0<1099511627774)(hp:∀c∈p,c8 4294967296 c.2∧c.2.length≤K0)(hpl:p.length<1099511627776):aE env.P 233 [Pg p] (I (bO (p.map gv))):=by
 have hng:∀c∈p,(gv c).natAbs=(V 4294967296 c.2).toNat:=fun c hc=>by
  have:=bN (b:=4294967296) (by decide) (hp c hc).1
  unfold gv iv;split<;>omega
 refine cB [(0,Pg p)] Tryz.func233 ?_
 refine aA [0,2] ?_
 refine aA [0,2,3] ?_
 refine W.UJ 3 (us []) (by simp) rfl (fun K hK=>?_)
 refine W.lw [0,2,3] hK ?_;clear hK K;simp
 have aCj:∀i,i<p.length→(nth (p.map gv) i).natAbs=(V 4294967296 (nth p i).2).toNat:=fun i hi=>by rw [vV];exact hng _ (bJ hi)
 refine W.iB (fun σ=>∃(rows:Pm.Rows) (clk:Nat),σ=⟨fa [(2, .ptr 2 0 0 0),(3,us (aR LL (bO (p.map gv))))],rows,clk⟩∧rows 2=some ⟨0,38,2,[[.bool false, .nil]]⟩∧bO (p.map gv)<4294967296^K0) ?_ ?_
 ·
  refine aA [2,3,10,11,12] ?_
  refine W.block ?_
  refine W.aY (fun q σ=>∃(i:Nat) (rows:Pm.Rows) (clk:Nat),σ=⟨fa [(2, .ptr 2 0 0 0),(3,us (aR LL (bO ((p.map gv).take i)))),(10,Pg p),(11, .int .i64 p.length),(12, .int .i64 i)],rows,clk⟩∧rows 2=some ⟨0,38,2,[[.bool false, .nil]]⟩∧q=p.length-i∧i≤p.length∧bO ((p.map gv).take i)<4294967296^K0) p.length ?_ ?_
  ·exact⟨_,Gh.fr [(2, .ptr 2 0 0 0),(3,us (aR LL (bO ((p.map gv).take 0)))),(10,Pg p),(11, .int .i64 p.length),(12, .int .i64 (0:Nat))] (by simp [bO,mU]),0,_,_,rfl,by simp,by omega,by omega,by simp [bO];exact Nat.pow_pos (by decide)⟩
  rintro q _ ⟨i,rows,clk,rfl,bU,hq,hi,M7⟩
  refine bT [2,3,10,11,12,13] ?_
  refine bH ?_ ?_<;>intro h
  ·have hi:i<p.length:=by simp at h;omega
   obtain⟨u9,hc2⟩:=hp _ (bJ hi)
   have hV0:=bN (b:=4294967296) (by decide) u9
   have hVl:=pJ (b:=4294967296) (by decide) u9
   obtain⟨x0,qB⟩:=Int.eq_ofNat_of_zero_le hV0
   have QE:=n9 (nth p i).2 (by omega) u9
   rw [qB,awK]at QE
   have hxb:x0<4294967296^K0:=by
    have e:((4294967296^(nth p i).2.length:Nat):Int)=(4294967296:Int)^(nth p i).2.length:=Int.natCast_pow 4294967296 _
    have e2:4294967296^(nth p i).2.length≤4294967296^K0:=Nat.pow_le_pow_right (by decide) hc2
    omega
   have hgs:=abr (p.map gv) i (by simpa using hi)
   rw [aCj i hi,qB]at hgs
   simp only [Int.toNat_natCast]at hgs
   refine j7 ?_
   refine W.sr ?_
   simp (disch:=omega) [gw,bU]
   refine bI [2,3,5,10,11,12] ?_
   refine aL [2,3,6,10,11,12] QE ?_
   refine W.seq ?_
   refine W.block ?_
   refine W.aY (fun q σ=>∃(g x:Nat) (rows:Pm.Rows) (clk:Nat),σ=⟨fa [(2, .ptr 2 0 0 0),(3,us (aR LL g)),(6,us (aR LL x)),(10,Pg p),(11, .int .i64 p.length),(12, .int .i64 i)],rows,clk⟩∧rows 2=some ⟨0,38,2,[[.bool false, .nil]]⟩∧q=x∧Nat.gcd g x=bO ((p.map gv).take (i+1))∧g<4294967296^K0∧x<4294967296^K0) x0 ?_ ?_
   ·exact⟨_, .refl,bO ((p.map gv).take i),x0,_,_,rfl,by simp [bU],rfl,hgs.symm,M7,hxb⟩
   rintro q2 _ ⟨g,x,rows,clk,rfl,bU,hq2,hgx,hg,hx⟩
   refine aK [2,3,6,10,11,12,21] ?_
   refine bH ?_ ?_<;>intro h
   ·have h1:aR LL x ≠ []:=by simp at h;exact List.length_pos_iff.1 h
    have qB:x≠0:=fun h2=>h1 ((eZ gO).2 h2)
    have hlg:=E1 hg
    have hlx:=E1 hx
    have W4:=E0 (aR LL g) (aR LL x) ⟨fN gO _,by omega⟩ ⟨fN gO _,by omega⟩ (by rw [show(4294967296:Int)=((LL:Nat):Int)from rfl,lE gO];omega) (by omega) (by omega)
    rw [show(4294967296:Int)=((LL:Nat):Int)from rfl,lE gO,lE gO,←Int.natCast_emod,awK]at W4
    have hm:=Nat.mod_lt g (show 0<x by omega)
    have hgr:Nat.gcd x (g%x)=Nat.gcd g x:=by rw [Nat.gcd_comm x,←Nat.gcd_rec,Nat.gcd_comm]
    refine W.skip ?_
    refine W.block ?_
    refine aL [2,6,8,10,11,12] W4 ?_
    refine W.bY (fun K hK=>?_);simp (disch:=omega) [gw]
    refine hK _ ⟨g%x,_,aB _ [2,3,6,10,11,12],by omega,x,g%x,_,_,rfl,by simp [bU],rfl,by rw [hgr,hgx],hx,by omega⟩
   ·have h1:aR LL x = []:=by simp at h;exact h
    have qB:x=0:=(eZ gO).1 h1
    subst qB
    rw [Nat.gcd_zero_right]at hgx
    refine eW ?_
    refine W.eD (fun σ=>∃(b:Bool) (rows:Pm.Rows) (clk:Nat),σ=⟨fa [(2, .ptr 2 0 0 0),(3,us (aR LL g)),(10,Pg p),(11, .int .i64 p.length),(12, .int .i64 i),(39, .bool b)],rows,clk⟩∧rows 2=some ⟨0,38,2,[[.bool false, .nil]]⟩∧(b=true→g=1)) (fun K hK=>?_) ?_
    ·by_cases h2:(aR LL g).length=1
     ·obtain⟨w,hw⟩:∃w,aR LL g = [w]:=match aR LL g,h2 with | [w],_=>⟨w,rfl⟩
      have hgv:=lE gO g
      rw [hw,oV]at hgv
      rw [hw]at hK ⊢
      have hnw:nth [w] 0=w:=rfl
      simp (disch:=omega) [gw,hnw]
      exact hK _ _ (aB _ [2,3,10,11,12,39]) ⟨_,_,_,rfl,by simp [bU],fun h3=>by simp at h3;omega⟩
     ·have h2':((aR LL g).length:Int)≠1:=by omega
      have hb:(((aR LL g).length:Int)==1)=false:=by simpa using h2'
      simp (disch:=omega) [gw,hb,h2]
      exact hK _ _ (aB _ [2,3,10,11,12,39]) ⟨_,_,_,rfl,by simp [bU],fun h3=>by cases h3⟩
    rintro _ ⟨b,rows,clk,rfl,bU,hb⟩
    refine bH ?_ ?_<;>intro h
    ·have hg1:=hb h
     subst hg1
     have vP:=U2 _ _ hgx.symm
     refine eW ?_
     rw [vP]
     exact⟨_,aB _ [2,3],rows,clk,rfl,bU,by rw [vP]at *;exact hg⟩
    ·refine W.skip ?_
     subst hgx
     refine W.bY (fun K hK=>?_);simp (disch:=omega) [gw]
     refine hK _ ⟨p.length-(i+1),_,aB _ [2,3,10,11,12],by omega,i+1,_,_,rfl,by simp [bU],by omega,by omega,hg⟩
  ·have hi:i=p.length:=by simp at h;omega
   rw [List.take_of_length_le (by simp;omega)]at M7 ⊢
   refine eW ?_
   exact⟨_,aB _ [2,3],rows,clk,rfl,bU,M7⟩
 rintro _ ⟨rows,clk,rfl,bU,M7⟩
 have hlg:=E1 M7
 have QE:=n9 (aR LL (bO (p.map gv))) (by omega) (fN gO _)
 rw [show(4294967296:Int)=((LL:Nat):Int)from rfl,lE gO]at QE
 have awM:=gT (bO (p.map gv):Int) (by omega) false
 refine jG ?_
 refine cM QE ?_
 refine aC awM ?_
 simp (disch:=omega) [gw,bU]
 refine bI [2] ?_
 exact bZ
structure PD(x:List Int):Prop where
 sz:∀v∈x,sz LL v<1099511627774
 len:x.length<1099511627774
theorem PD.of{s n:Nat}{x:List Int}(h:Bd LL s n x)(hs:s<1099511627774)(hn:n<1099511627774):PD x:=⟨fun v hv=>Nat.lt_of_le_of_lt (h.sz v hv) hs,Nat.lt_of_le_of_lt h.len hn⟩
theorem U3(v:Int):V 4294967296 (aR LL v.natAbs)=v.natAbs:=lE gO v.natAbs
theorem K9{v c:Int}(hv:sz LL v<1099511627774)(hc:sz LL c<1099511627774)(h0:c≠0):aE env.P 234 [I v,I c] (if v%c=0 then .dX [I (v/c), .int .i64 0]else .dX [I 0, .int .i64 3]):=by
 have:=U1 (decide (v<0)) (decide (c<0)) (aR LL v.natAbs) (aR LL c.natAbs) ⟨fN gO _,by unfold sz at hv;omega⟩ ⟨fN gO _,by unfold sz at hc;omega⟩ hv hc (by rw [U3];omega)
 rwa [zJ,zJ]at this
def qY(c v:Int):Int:=if v%c=0 then v/c else 0
theorem QF(x:List Int)(c:Int)(hx:PD x)(hc:sz LL c<1099511627774)(h0:c≠0):aE env.P 214 [Po x,I c] (Po (aP (x.map (qY c)))):=by
 have hxl:=hx.len
 refine cB [(0,Po x),(1,I c)] Tryz.func214 ?_
 refine aA [0,3] ?_
 refine aA [0,3,5] ?_
 refine W.row (id:=10) (emap ie (List.replicate x.length 0)) (by simp;exact⟨rfl,rfl,rfl⟩) (sZ _) ?_
 refine aK [3,5,11,12,13] ?_
 refine W.block ?_
 refine W.aY (fun q σ=>∃(i:Nat) (z:List Int) (v10:Nat) (rows:Pm.Rows) (clk:Nat),σ=⟨fa [(3, .ptr 3 0 0 0),(5, .own 10 v10 0 x.length),(11,Po x),(12, .int .i64 x.length),(13, .int .i64 i)],rows,clk⟩ ∧
  rows 3=some ⟨0,38,2,[ie c]⟩∧rows 10=some ⟨v10,38,2,emap ie z⟩∧q=x.length-i∧i≤x.length∧z.length=x.length∧z.take i=(x.take i).map (qY c)) x.length ?_ ?_
 ·exact⟨_, .refl,0,List.replicate x.length 0,_,_,_,rfl,by simp,by simp,by omega,by omega,by simp,by simp⟩
 rintro q _ ⟨i,z,v10,rows,clk,rfl,bQ,qZ,hq,hi,hz,hv⟩
 refine bT [3,5,11,12,13,14] ?_
 refine bH ?_ ?_<;>intro h
 ·have hi:i<x.length:=by simp at h;omega
  have hE:=K9 (hx.sz _ (bJ hi)) hc h0
  have hE2:aE env.P 234 [I (nth x i),I c] (.dX [I (qY c (nth x i)), .int .i64 (if nth x i%c=0 then 0 else 3)]):=by
   unfold qY
   split at hE
   ·rename_i h1;rw [if_pos h1,if_pos h1];exact hE
   ·rename_i h1;rw [if_neg h1,if_neg h1];exact hE
  have hts:(x.take (i+1)).map (qY c)=(x.take i).map (qY c) ++ [qY c (nth x i)]:=by rw [bG hi];simp
  generalize (if nth x i%c=0 then(0:Int)else 3)=er at *
  generalize qY c (nth x i)=ev at *
  generalize hxe:nth x i=xi at *
  refine j7 ?_
  refine W.sr ?_
  simp (disch:=omega) [gw,hxe]
  refine bI [3,5,6,7,11,12,13] ?_
  refine W.bY (fun K hK=>?_)
  simp (disch:=omega) [gw,bQ]
  refine aC hE2 ?_
  simp (disch:=omega) [gw,qZ,hz]
  refine W.lw [3,5,11,12,13] hK ?_;clear hK K;simp
  refine W.bY (fun K hK=>?_);simp (disch:=omega) [gw]
  refine hK _ ⟨x.length-(i+1),_,aB _ [3,5,11,12,13],by omega,i+1,z.set i ev,v10,_,_,rfl,by simp [bQ],by simp,by omega,by omega,by simp [hz],?_⟩
  rw [mW hv (by omega),hts]
 ·have hi:i=x.length:=by simp at h;omega
  subst hi
  rw [bM hz,List.take_length]at hv
  have vU:=bM hz
  refine eW ?_
  have hzb:PB z:=by
   rw [hv]
   refine⟨fun v hv=>?_,by simpa using by omega⟩
   simp only [List.mem_map]at hv
   obtain⟨w,hw,rfl⟩:=hv
   have h1:=hx.sz w hw
   show sz LL (qY c w)<1099511627776
   refine Nat.lt_of_le_of_lt (dY gO (y:=w) ?_) (by omega)
   unfold qY;split
   ·exact Int.natAbs_ediv_le_natAbs _ _
   ·simp
  have hN:=eO hzb
  rw [hv]at hN qZ vU
  generalize x.map (qY c)=y at *
  have SO:y.length=x.length:=by rw [←hv];exact hz
  refine W.sr ?_
  simp (disch:=omega) [gw,qZ,vU]
  refine cN [4] hN ?_
  exact bZ
theorem QG(l:List RP)(K0:Nat)(hK0:K0<1099511627774)(hp:∀p∈l,∀c∈p,c8 4294967296 c.2∧c.2.length≤K0)(hl:l.length<1099511627776)(hf:l.flatten.length<1099511627776) :
  aE env.P 213 [aH pe l] (I (bO (l.flatten.map gv))):=by
 refine cB [(0,aH pe l)] Tryz.func213 ?_
 refine aA [0,2] ?_
 refine aA [0,2,3] ?_
 refine W.nil 3 3 38 2 (by simp) (by decide) (fun K hK=>?_)
 refine W.lw [0,2,3] hK ?_;clear hK K;simp
 refine aK [2,3,6,7,8] ?_
 refine W.block ?_
 refine W.aY (fun q σ=>∃(i v3:Nat) (A:RP) (rows:Pm.Rows) (clk:Nat),σ=⟨fa [(2, .ptr 2 0 0 0),(3, .own 3 v3 0 A.length),(6,aH pe l),(7, .int .i64 l.length),(8, .int .i64 i)],rows,clk⟩ ∧
  rows 2=some ⟨0,38,2,[[.bool false, .nil]]⟩∧rows 3=some ⟨v3,38,2,emap ge A⟩∧q=l.length-i∧i≤l.length∧A=(l.take i).flatten) l.length ?_ ?_
 ·exact⟨_, .refl,0,_,[],_,_,rfl,by simp,by simp [emap],by omega,by omega,by simp⟩
 rintro q _ ⟨i,v3,A,rows,clk,rfl,bU,bQ,hq,hi,hA⟩
 refine bT [2,3,6,7,8,9] ?_
 refine bH ?_ ?_<;>intro h
 ·have hi:i<l.length:=by simp at h;omega
  have hfs:(l.take (i+1)).flatten=(l.take i).flatten++nth l i:=by rw [bG hi];simp
  have hfl:(l.take (i+1)).flatten.length≤l.flatten.length:=by
   have e:=List.take_append_drop (i+1) l
   have e2:l.flatten=(l.take (i+1)).flatten++(l.drop (i+1)).flatten:=by rw [←List.flatten_append,e]
   rw [e2,List.length_append];omega
  have G2:(l.take i).flatten.length+(nth l i).length<1099511627776:=by
   rw [hfs,List.length_append]at hfl;omega
  have hls:(l.take (i+1)).flatten.length=(l.take i).flatten.length+(nth l i).length:=by rw [hfs,List.length_append]
  rw [←hA]at hfs G2 hls
  generalize hpe:nth l i=p at *
  refine j7 ?_
  refine W.sr ?_
  simp (disch:=omega) [gw,hpe]
  refine bI [2,3,5,6,7,8] ?_
  refine W.bY (fun K hK=>?_)
  simp (disch:=omega) [gw,bQ]
  refine W.lw [2,3,6,7,8] hK ?_;clear hK K;simp
  refine W.bY (fun K hK=>?_);simp (disch:=omega) [gw]
  refine hK _ ⟨l.length-(i+1),_,Gh.fr [(2, .ptr 2 0 0 0),(3, .own 3 _ 0 (A++p).length),(6,aH pe l),(7, .int .i64 l.length),(8, .int .i64 ((i+1:Nat):Int))] (by simp;exact rfl),by omega,i+1,_,A++p,_,_,rfl,by simp [bU],by simp,by omega,by omega,hfs.symm⟩
 ·have hi:i=l.length:=by simp at h;omega
  subst hi
  rw [List.take_length]at hA
  have hG:=QD l.flatten K0 hK0 (fun c hc=>by
   obtain⟨p,hpl,GJ⟩:=List.mem_flatten.1 hc
   exact hp p hpl c GJ) hf
  rw [←hA]at hG ⊢
  generalize (bO (A.map gv):Int)=g at *
  refine eW ?_
  refine W.sr ?_
  simp (disch:=omega) [gw,bQ]
  refine aC hG ?_
  simp (disch:=omega) [gw,bU]
  refine bI [2] ?_
  exact bZ
theorem mA{x:List Int}(hx:PB x)(hc:Cn x):aE env.P 145 [Po x] (I (lead x)):=by
 have:=P9 (x.map uW) hx.ER
 rw [show nT (x.map uW)=aP x by simp only [nT,cI],show aP x=x from hc,←i5]at this
 exact this
theorem lK(x:List Int)(hx:x.length<9223372036854775808):aE env.P 83 [Po x] (.int .i64 ((x.length:Int)-1)):=by
 have:=ajv (x.map uW) (by simpa using hx)
 rw [List.length_map,←i5]at this
 exact this
theorem A3{x:List Int}{c:Int}(hx:PB x)(hc:Sz c):aE env.P 181 [Po x,I c] (Po (a9 x c)):=by
 have:=UQ (x.map uW) hx.ER (decide (c<0)) (aR LL c.natAbs) hc.XZ
 rw [cI,zJ,←i5]at this
 exact this
theorem s8(i:Nat)(x:Int):(List.replicate (i+1) (0:Int)).set i x=rV i x:=by
 rw [List.replicate_succ',List.set_append]
 simp [rV]
theorem U4(a b:RP){s s' N:Nat}(ha:rW a)(hb:rW b)(sa:Bd LL s N (a.map gv))(sb:Bd LL s' N (b.map gv))(hB:s+N*(s'+N+1)+s'+N+N+10<1099511627774) :
  aE env.P 215 [Pg a,Pg b] (if nT b = []then .dX [Po [],Po [], .int .i64 0, .int .i64 2]else .dX [Po (AX (nT a) (nT b)).1,Po (AX (nT a) (nT b)).2, .int .i64 (j8 (nT a) (nT b)), .int .i64 0]):=by
 have hA:Bd LL s N (nT a):=sa.cut
 have YC:Bd LL s' N (nT b):=sb.cut
 have ca:Cn (nT a):=Cn.cut _
 have cb:Cn (nT b):=Cn.cut _
 have na:=gU a ha
 have nb:=gU b hb
 rw [show aP (a.map gv)=nT a from rfl]at na
 rw [show aP (b.map gv)=nT b from rfl]at nb
 refine cB [(0,Pg a),(1,Pg b)] Tryz.func215 ?_
 generalize nT a=x at *
 generalize nT b=y at *
 refine aA [0,1,4] ?_
 refine W.UJ 4 (Po []) (by simp) rfl (fun K hK=>?_)
 refine W.lw [0,1,4] hK ?_;clear hK K;simp
 refine jG ?_
 refine cM na ?_
 refine cN [1,4,5] nb ?_
 refine aK [1,4,5,18] ?_
 refine bH ?_ ?_<;>intro h
 ·have h:y = []:=by simp at h;exact h
  rw [if_pos h]
  refine aA [4,5,6,7] ?_
  refine W.ret ?_
  simp [go]
  rfl
 have hy:y ≠ []:=by simp at h;exact h
 clear h
 rw [if_neg hy]
 have UR:0<y.length:=List.length_pos_iff.2 hy
 have hNx:=hA.len
 have hNy:=YC.len
 have hsy:=iD YC
 have hmN:N*(s'+N+1)≥0:=Nat.zero_le _
 have hL:=mA (PB.of YC (by omega) (by omega)) cb
 have hDx:=lK x (by omega)
 have hDy:=lK y (by omega)
 refine W.skip ?_
 refine aL [1,4,5,8] hL ?_
 have hkk:(if (0:Int)<(x.length:Int)-1-((y.length:Int)-1)+1 then(x.length:Int)-1-((y.length:Int)-1)+1 else 0)=(j8 x y:Int):=by unfold j8;split<;>omega
 refine jG ?_
 refine cM hDx ?_
 refine aC hDy ?_
 simp (disch:=omega) [gw,hkk]
 refine bI [1,4,5,6,8] ?_
 have hkN:j8 x y≤N:=by unfold j8;omega
 have M9:=hsy
 generalize hdd:s'+N+1=d at *
 have hNN:∀j,j≤N→(N-j)*d≤N*d:=fun j _=>Nat.mul_le_mul_right _ (by omega)
 refine aK [1,4,5,6,8,9] ?_
 refine W.block ?_
 refine W.aY (fun j σ=>∃(q r:List Int) (rows:Pm.Rows) (clk:Nat),σ=⟨fa [(1,Po y),(4,Po q),(5,Po r),(6, .int .i64 (j8 x y)),(8, .ptr 8 0 0 0),(9, .int .i64 ((j:Int)-1))],rows,clk⟩ ∧
  rows 8=some ⟨0,38,2,[ie (lead y)]⟩∧j≤j8 x y∧ps y (lead y) j q r=AX x y∧Bd LL (s+(N-j)*d) (N+N) q∧Bd LL (s+(N-j)*d) (N+N) r∧Cn r) (j8 x y) ?_ ?_
 ·exact⟨_, .refl,[],x,_,_,rfl,by simp,by omega,rfl,⟨by simp,fun c hc=>by cases hc⟩,hA.mono (by omega) (by omega),ca⟩
 rintro j _ ⟨q,r,rows,clk,rfl,oC,hj,A4,bq,br,cr⟩
 refine aK [1,4,5,6,8,9,31] ?_
 refine bH ?_ ?_<;>intro h
 ·have hj0:0<j:=by simp at h;omega
  obtain⟨i,rfl⟩:∃i,j=i+1:=⟨j-1,by omega⟩
  clear h
  have ei:((i+1:Nat):Int)-1=i:=by omega
  rw [ei]
  have hN1:=hNN (i+1) (by omega)
  have hT:s+(N-i)*d=s+(N-(i+1))*d+s'+N+1:=by
   rw [show N-i=(N-(i+1))+1 by omega,Nat.add_mul,Nat.one_mul];omega
  obtain⟨b1,b2⟩:=D8 gO YC bq br (show i<N by omega)
  rw [←hT]at b1 b2
  have IP:=hNN i (by omega)
  have hx:=aek (y:=y) (i:=i) br
  have bs:=Bd.rV hx i
  have hLr:=mA (PB.of br (by omega) (by omega)) cr
  have hDr:=lK r (by have:=br.len;omega)
  have bqs:=bq.a9 gO hsy
  have brs:=br.a9 gO hsy
  have bm:=bs.bR gO YC
  have f1:=A3 (c:=lead y) (PB.of bq (by omega) (by omega)) (show sz LL (lead y)<1099511627776 by omega)
  have f2:=A3 (c:=lead y) (PB.of br (by omega) (by omega)) (show sz LL (lead y)<1099511627776 by omega)
  have f3:=abh (PB.of bqs (by omega) (by omega)) (PB.of bs (by omega) (by omega))
  have f4:=zK bs YC (by omega)
  have f5:=IK (PB.of brs (by omega) (by omega)) (PB.of bm (by omega) (by omega))
  rw [show i3 (a9 q (lead y)) (rV i (xI y r i))=psq (lead y) (xI y r i) i q from rfl]at f3
  rw [show fS (a9 r (lead y)) (bR (rV i (xI y r i)) y)=yW y (lead y) (xI y r i) i r from rfl]at f5
  have cr2:Cn (yW y (lead y) (xI y r i) i r):=Cn.fS _ _
  have hpx:xI y r i=if r.length=y.length+i then lead r else 0:=rfl
  rw [ps]at A4
  generalize hq2:psq (lead y) (xI y r i) i q=q2 at *
  generalize bU:yW y (lead y) (xI y r i) i r=r2 at *
  generalize bR (rV i (xI y r i)) y=pm at *
  generalize a9 q (lead y)=pq at *
  generalize a9 r (lead y)=pr at *
  generalize xI y r i=xx at *
  have ae1:=s8 i xx
  have aqn:(rV i xx).length=i+1:=by simp [rV]
  generalize lead r=lr at *
  generalize lead y=ly at *
  refine j7 ?_
  refine aA [1,4,5,6,8,9,10] ?_
  refine W.row (id:=10) (els:=[[.bool false, .nil]]) [ie 0] (by simp;exact⟨rfl,rfl,rfl⟩) ⟨⟨.inl (by simp), .inr ⟨rfl,rfl⟩,trivial⟩,trivial⟩ ?_
  refine W.iB (fun σ=>∃(v10:Nat) (rows:Pm.Rows) (clk:Nat),σ=⟨fa [(1,Po y),(4,Po q),(5,Po r),(6, .int .i64 (j8 x y)),(8, .ptr 8 0 0 0),(9, .int .i64 i),(10, .ptr 10 v10 0 0)],rows,clk⟩∧rows 8=some ⟨0,38,2,[ie ly]⟩∧rows 10=some ⟨v10,38,2,[ie xx]⟩) ?_ ?_
  ·
   refine jG ?_
   refine cM hDr ?_
   refine cN [1,4,5,6,8,9,10,40] hDy ?_
   by_cases hrl:r.length=y.length+i
   ·rw [if_pos hrl]at hpx
    subst hpx
    refine bH ?_ ?_<;>intro h
    ·refine W.bY (fun K hK=>?_)
     simp (disch:=omega) [gw]
     refine cM hLr ?_
     exact hK _ ⟨_,aB _ [1,4,5,6,8,9,10],_,_,_,rfl,by simp [oC],by simp⟩
    ·exfalso;simp at h;omega
   ·rw [if_neg hrl]at hpx
    subst hpx
    refine bH ?_ ?_<;>intro h
    ·exfalso;simp at h;omega
    ·refine W.skip ?_
     exact⟨_,aB _ [1,4,5,6,8,9,10],_,_,_,rfl,by simp [oC],by simp⟩
  rintro _ ⟨v10,rows,clk,rfl,oC,qZ⟩
  have e9:((i:Int)+1).toNat=i+1:=by omega
  refine W.sr ?_
  simp (disch:=omega) [gw,e9]
  refine bI [1,4,5,6,8,9,10,11] ?_
  refine W.row (id:=45) (emap ie (List.replicate (i+1) 0)) (by simp;exact⟨rfl,rfl,rfl⟩) (sZ _) ?_
  refine W.sr ?_
  simp (disch:=omega) [gw,qZ,ae1]
  refine bI [1,4,5,6,8,9,11] ?_
  have iR:=bM aqn
  refine W.freeze 45 (by simp) (fun K hK=>?_)
  simp [iR]
  refine hK _ ?_;clear hK K
  refine W.sr ?_
  simp (disch:=omega) [gw,oC]
  refine cM f1 ?_
  refine cN [1,4,5,6,8,9,11] f3 ?_
  refine W.bY (fun K hK=>?_)
  simp (disch:=omega) [gw,oC]
  refine cM f2 ?_
  refine cM f4 ?_
  refine cM f5 ?_
  refine W.lw [1,4,5,6,8,9] hK ?_;clear hK K;simp
  refine W.bY (fun K hK=>?_);simp (disch:=omega) [gw]
  refine hK _ ⟨i,_,aB _ [1,4,5,6,8,9],by omega,q2,r2,_,_,rfl,by simp [oC],by omega,A4,b1,b2,cr2⟩
 ·have hj0:j=0:=by simp at h;omega
  subst hj0
  simp only [ps]at A4
  rw [←A4]
  refine eW ?_
  refine aA [4,5,6,7] ?_
  exact bZ
def kW(x:List Int):List Int:=aP (x.map (qY (bO x)))
def QH(a b:List Int):List Int:=if j8 a b%2=1∧lead b<0 then kW (iH (AX a b).2)else kW (AX a b).2
theorem i6(x:List Int):∀c∈x,((bO x:Nat):Int)∣c:=by
 have key:∀(l:List Int) (g:Nat),(∀c∈l,((l.foldl (fun g c=>Nat.gcd g c.natAbs) g:Nat):Int)∣c)∧l.foldl (fun g c=>Nat.gcd g c.natAbs) g∣g:=by
  intro l
  induction l with
  | nil=>intro g;exact⟨fun c hc=>(by cases hc),Nat.dvd_refl _⟩
  | cons c l ih =>
   intro g
   obtain⟨h1,h2⟩:=ih (Nat.gcd g c.natAbs)
   simp only [List.foldl_cons]
   refine⟨fun d hd=>?_,Nat.dvd_trans h2 (Nat.gcd_dvd_left _ _)⟩
   rcases List.mem_cons.1 hd with rfl | hd
   ·exact Int.ofNat_dvd_left.2 (Nat.dvd_trans h2 (Nat.gcd_dvd_right _ _))
   ·exact h1 d hd
 exact(key x 0).1
theorem QI{x:List Int}{c:Int}(hc:c∈x)(h:c≠0):bO x≠0:=by
 intro h0
 have:=i6 x c hc
 rw [h0]at this
 obtain⟨k,hk⟩:=this
 simp at hk
 exact h hk
theorem cV{x:List Int}(hc:Cn x)(h:x ≠ []):bO x≠0:=by
 have hl:0<x.length:=List.length_pos_iff.2 h
 exact QI (c:=lead x) (bJ (by omega)) (dH hc hl)
theorem YD{x:List Int}{s:Nat}(hx:∀c∈x,sz LL c≤s)(hc:Cn x)(h:x ≠ []):sz LL (bO x:Int)≤s:=by
 have hl:0<x.length:=List.length_pos_iff.2 h
 have hm:lead x∈x:=bJ (by omega)
 refine Nat.le_trans (dY gO ?_) (hx _ hm)
 have:=Int.le_of_dvd (a:=(bO x:Int)) (b:=((lead x).natAbs:Int)) (by have:=dH hc hl;omega) (Int.dvd_natAbs.2 (i6 x _ hm))
 omega
theorem xX(x:List Int)(hx:PD x):aE env.P 213 [.sl [[Po x]]] (I (bO x)):=by
 have hl:=hx.len
 have:=QG [x.map uW] 1099511627773 (by decide) (fun p hp c hc=>by
  simp only [List.mem_singleton]at hp
  subst hp
  simp only [List.mem_map]at hc
  obtain⟨v,hv,rfl⟩:=hc
  have h1:=hx.sz v hv
  exact⟨fN gO _,by unfold sz at h1;show(aR LL v.natAbs).length≤_;omega⟩) (by simp) (by simp;omega)
 have e:([x.map uW].flatten.map gv)=x:=by simp only [List.flatten_cons,List.flatten_nil,List.append_nil,cI]
 rw [e]at this
 have e2:aH pe [x.map uW] = .sl [[Po x]]:=by rw [i5];rfl
 rw [e2]at this
 exact this
theorem QJ(a b:RP){s s' N:Nat}(ha:rW a)(hb:rW b)(sa:Bd LL s N (a.map gv))(sb:Bd LL s' N (b.map gv))(hB:s+N*(s'+N+1)+s'+N+N+10<1099511627774) :
  aE env.P 138 [Pg a,Pg b] (if nT b = []then .dX [Po [], .int .i64 2]else .dX [Po (QH (nT a) (nT b)), .int .i64 0]):=by
 have hP:=U4 a b ha hb sa sb hB
 have hL:=P9 b hb
 have hA:Bd LL s N (nT a):=sa.cut
 have YC:Bd LL s' N (nT b):=sb.cut
 have ca:Cn (nT a):=Cn.cut _
 refine cB [(0,Pg a),(1,Pg b)] Tryz.func138 ?_
 generalize nT a=x at *
 generalize nT b=y at *
 refine aA [0,1] ?_
 by_cases hy:y = []
 ·rw [if_pos hy]at hP ⊢
  refine aL [1,7,8,9] hP ?_
  refine aK [1,7,8,9,19] ?_
  refine bH ?_ ?_<;>intro h
  ·refine aA [4,5] ?_
   refine W.ret ?_
   simp [go]
   rfl
  ·cases h
 rw [if_neg hy]at hP ⊢
 have UR:0<y.length:=List.length_pos_iff.2 hy
 have hkN:j8 x y≤N:=by unfold j8;have:=hA.len;omega
 obtain⟨_,DK⟩:=ael gO YC (j8 x y) s [] x hkN ⟨by simp,fun c hc=>by cases hc⟩ (hA.mono (by omega) (by omega))
 obtain⟨_,cr⟩:=D9 (b:=y) ca
 rw [show(ps y (lead y) (j8 x y) [] x)=AX x y from rfl]at DK
 have hmul:=Nat.mul_le_mul_right (s'+N+1) hkN
 have aeS:=IL (PB.of DK (by omega) (by omega))
 refine aL [1,7,8,9] hP ?_
 refine aK [1,7,8,9,19] ?_
 refine bH ?_ ?_<;>intro h
 ·cases h
 refine W.skip ?_
 obtain⟨r2,bU⟩:∃r2,r2=if j8 x y%2=1∧lead y<0 then iH (AX x y).2 else(AX x y).2:=⟨_,rfl⟩
 have awQ:QH x y=kW r2:=by rw [bU,QH];split<;>rfl
 have hbr:PD r2:=by
  rw [bU];split
  ·exact PD.of DK.iH (by omega) (by omega)
  ·exact PD.of DK (by omega) (by omega)
 have hcr:Cn r2:=by
  rw [bU];split
  ·exact Cn.iH _
  ·exact cr
 rw [awQ]
 refine W.iB (fun σ=>∃(rows:Pm.Rows) (clk:Nat),σ=⟨fa [(7,Po r2)],rows,clk⟩) ?_ ?_
 ·
  by_cases hk:j8 x y%2=1
  ·refine W.eD (fun σ=>∃(rows:Pm.Rows) (clk:Nat),σ=⟨fa [(7,Po (AX x y).2),(28, .bool (decide (lead y<0)))],rows,clk⟩) (fun K hK=>?_) ?_
   ·have yS:(j8 x y:Int)%2=1:=by omega
    simp (disch:=omega) [gw,yS]
    refine cM hL ?_
    exact hK _ _ (aB _ [7,28]) ⟨_,_,rfl⟩
   rintro _ ⟨rows,clk,rfl⟩
   refine W.aea (lead y<0) rfl (fun h=>?_) (fun h=>?_)
   ·rw [if_pos ⟨hk,h⟩]at bU
    subst bU
    refine W.bY (fun K hK=>?_)
    simp (disch:=omega) [gw]
    refine cM aeS ?_
    exact hK _ ⟨_,aB _ [7],_,_,rfl⟩
   ·rw [if_neg (fun h2=>h h2.2)]at bU
    subst bU
    refine W.skip ?_
    exact⟨_,aB _ [7],_,_,rfl⟩
  ·rw [if_neg (fun h2=>hk h2.1)]at bU
   subst bU
   refine W.eD (fun σ=>∃(rows:Pm.Rows) (clk:Nat),σ=⟨fa [(7,Po (AX x y).2),(28, .bool false)],rows,clk⟩) (fun K hK=>?_) ?_
   ·have yS:((j8 x y:Int)%2==1)=false:=by simp;omega
    simp (disch:=omega) [gw,yS]
    exact hK _ _ (aB _ [7,28]) ⟨_,_,rfl⟩
   rintro _ ⟨rows,clk,rfl⟩
   refine bH ?_ ?_<;>intro h
   ·cases h
   ·refine W.skip ?_
    exact⟨_,aB _ [7],_,_,rfl⟩
 rintro _ ⟨rows,clk,rfl⟩
 clear bU awQ
 refine aK [7,33] ?_
 refine bH ?_ ?_<;>intro h
 ·have h:r2 = []:=by simp at h;exact h
  subst h
  refine aA [4,5] ?_
  refine W.ret ?_
  simp [go]
  rfl
 ·have h:r2 ≠ []:=by simp at h;exact h
  have hC:=xX r2 hbr
  have hgp:=cV hcr h
  have hO:=QF r2 (bO r2) hbr (Nat.lt_of_le_of_lt (YD (s:=1099511627773) (fun c hc=>by have:=hbr.sz c hc;omega) hcr h) (by decide)) (by omega)
  rw [show aP (r2.map (qY (bO r2)))=kW r2 from rfl]at hO
  generalize (bO r2:Int)=g at *
  generalize kW r2=pr at *
  refine W.skip ?_
  refine jG ?_
  refine cM hC ?_
  refine cN [4,5] hO ?_
  exact bZ
theorem ajz(x:List Int):nT (x.map uW)=aP x:=by simp only [nT,cI]
theorem mB{x:List Int}(hx:Cn x){m:Int}(hm:m≠0):Cn (x.map (· * m)):=by
 rcases Nat.eq_zero_or_pos x.length with h | h
 ·have:x = []:=List.eq_nil_of_length_eq_zero h
  subst this;rfl
 ·have e:=vR h
  have:x.map (· * m)=(x.take (x.length-1)).map (· * m) ++ [lead x*m]:=by
   conv=>lhs;rw [e]
   simp
  rw [this]
  exact jD (Int.mul_ne_zero (dH hx h) hm) _
theorem uF{x:List Int}(hx:Cn x){m:Int}(hm:m≠0):a9 x m=x.map (· * m):=mB hx hm
theorem U5{x:List Int}(hx:Cn x):a9 x 1=x:=Cn.ext (Cn.a9 _ _) hx fun t=>by rw [cU];omega
theorem U6(x:List Int):iH x=a9 x (-1):=Cn.ext (Cn.iH _) (Cn.a9 _ _) fun t=>by rw [D6,cU];omega
theorem mC(m:Int)(x:List Int):bO (x.map (· * m))=bO x*m.natAbs:=by
 have key:∀(l:List Int) (g:Nat),(l.map (· * m)).foldl (fun g c=>Nat.gcd g c.natAbs) (g*m.natAbs)=l.foldl (fun g c=>Nat.gcd g c.natAbs) g*m.natAbs:=by
  intro l
  induction l with
  | nil=>intro g;rfl
  | cons c l ih =>
   intro g
   simp only [List.map_cons,List.foldl_cons]
   rw [Int.natAbs_mul,Nat.gcd_mul_right,ih]
 have:=key x 0
 rw [Nat.zero_mul]at this
 exact this
theorem abt{m:Int}(hm:0<m)(g v:Int):qY (g*m) (v*m)=qY g v:=by
 unfold qY
 rw [Int.mul_comm v,Int.mul_comm g,Int.mul_emod_mul_of_pos _ _ hm,Int.mul_ediv_mul_of_pos _ _ hm]
 have:m*(v%g)=0↔v%g=0:=by
  constructor
  ·intro h
   rcases Int.mul_eq_zero.1 h with h | h
   ·omega
   ·exact h
  ·intro h;rw [h];simp
 simp only [this]
theorem U7{m:Int}(hm:0<m)(x:List Int):kW (x.map (· * m))=kW x:=by
 unfold kW
 rw [mC,List.map_map]
 congr 1
 refine List.map_congr_left fun v _=>?_
 simp only [Function.comp_apply]
 have:((bO x*m.natAbs:Nat):Int)=(bO x:Int)*m:=by rw [Int.natCast_mul];congr 1;omega
 rw [this,abt hm]
theorem A5{x:List Int}(hx:Cn x){m:Int}(hm:0<m):kW (a9 x m)=kW x:=by rw [uF hx (by omega),U7 hm]
def sg(c:Int)(k:Nat):Int:=if k%2=1∧c<0 then -1 else 1
theorem ae2(c:Int):∀k:Nat,c^k=sg c k*(c.natAbs:Int)^k
 | 0=>by simp [sg]
 | k+1=>by
  have ih:=ae2 c k
  have hc:c=(if c<0 then -1 else 1)*(c.natAbs:Int):=by split<;>omega
  have hs:sg c (k+1)=sg c k*(if c<0 then -1 else 1):=by
   unfold sg
   by_cases h:c<0
   ·rcases Nat.mod_two_eq_zero_or_one k with h2 | h2
    ·rw [if_pos ⟨by omega,h⟩,if_neg (by omega),if_pos h];rfl
    ·rw [if_neg (by omega),if_pos ⟨h2,h⟩,if_pos h];rfl
   ·rw [if_neg (fun h2=>h h2.2),if_neg (fun h2=>h h2.2),if_neg h];rfl
  rw [Int.pow_succ,Int.pow_succ,ih,hs]
  conv=>lhs;rw [hc]
  generalize (if c<0 then(-1:Int)else 1)=e at *
  have e3:((e*(c.natAbs:Int)).natAbs:Int)=(c.natAbs:Int):=by rw [←hc]
  rw [e3]
  grind
theorem ae3(c:Int)(k:Nat):sg c k*sg c k=1:=by unfold sg;split<;>rfl
theorem ae4{a b:List Int}(ca:Cn a):QH a b=kW (a9 (AX a b).2 (sg (lead b) (j8 a b))):=by
 have cr:=(D9 (b:=b) ca).2
 unfold QH sg
 split
 ·rw [U6]
 ·rw [U5 cr]
theorem mY(x:List Int):(kW x).length≤x.length:=Nat.le_trans (bW _) (by simp)
theorem QK(x:List Int):(iH x).length≤x.length:=Nat.le_trans (bW _) (by simp)
theorem ajA{a b:List Int}(hb:0<b.length):(QH a b).length<b.length:=by
 have h1:=KV (a:=a) hb
 unfold QH
 split
 ·have h2:=mY (iH (AX a b).2)
  have h3:=QK (AX a b).2
  omega
 ·have h2:=mY (AX a b).2
  omega
theorem aqo(a b:List Int):Cn (QH a b):=by unfold QH;split<;>exact Cn.cut _
def exs(b:List Int):Nat→List Int→List Int→Option (List Int × List Int)
 | 0,q,a=>some (q,a)
 | i+1,q,a=>if a.length<b.length+i then exs b i q a else if lead a%lead b=0 then exs b i (q.set i (lead a/lead b)) (fS a (bR (rV i (lead a/lead b)) b))else none
def exF:Option (List Int × List Int)→Option (List Int)
 | some (q,[])=>some (aP q)
 | _=>none
def exact(a b:List Int):Option (List Int):=exF (exs b (j8 a b) (List.replicate (j8 a b) 0) a)
def exR(o:Option (List Int)):PV:=
 match o with
 | some q => .dX [Po q, .int .i64 0]
 | none => .dX [Po [], .int .i64 3]
theorem Bd.set{B s n:Nat}{x:List Int}(h:Bd B s n x){i:Nat}{v:Int}(hv:Pm.sz B v≤s):Bd B s n (x.set i v):=⟨by simpa using h.len,fun c hc=>by
 rcases List.mem_or_eq_of_mem_set hc with h1 | h1
 ·exact h.sz c h1
 ·rw [h1];exact hv⟩
theorem abu(a b:RP){s s' N:Nat}(ha:rW a)(hb:rW b)(sa:Bd LL s N (a.map gv))(sb:Bd LL s' N (b.map gv))(hB:s+N*(s'+N+1)+s'+N+N+10<1099511627774) :
  aE env.P 217 [Pg a,Pg b] (if nT b = []then .dX [Po [], .int .i64 2]else exR (exact (nT a) (nT b))):=by
 have hA:Bd LL s N (nT a):=sa.cut
 have YC:Bd LL s' N (nT b):=sb.cut
 have ca:Cn (nT a):=Cn.cut _
 have cb:Cn (nT b):=Cn.cut _
 have na:=gU a ha
 have nb:=gU b hb
 rw [show aP (a.map gv)=nT a from rfl]at na
 rw [show aP (b.map gv)=nT b from rfl]at nb
 refine cB [(0,Pg a),(1,Pg b)] Tryz.func217 ?_
 generalize nT a=x at *
 generalize nT b=y at *
 refine aA [0,1] ?_
 refine jG ?_
 refine cM na ?_
 refine cN [0,1] nb ?_
 refine aK [0,1,17] ?_
 refine bH ?_ ?_<;>intro h
 ·have h:y = []:=by simp at h;exact h
  rw [if_pos h]
  refine aA [4,5] ?_
  refine W.ret ?_
  simp [go]
  rfl
 have hy:y ≠ []:=by simp at h;exact h
 clear h
 rw [if_neg hy]
 have UR:0<y.length:=List.length_pos_iff.2 hy
 have hNx:=hA.len
 have hNy:=YC.len
 have hsy:=iD YC
 have hly:=dH cb UR
 have hL:=mA (PB.of YC (by omega) (by omega)) cb
 have hDy:=lK y (by omega)
 have hkN:j8 x y≤N:=by unfold j8;omega
 generalize hdd:s'+N+1=d at *
 have hNN:∀j,j≤N→(N-j)*d≤N*d:=fun j _=>Nat.mul_le_mul_right _ (by omega)
 have hkk:(if (0:Int)<(x.length:Int)-(y.length:Int)+1 then(x.length:Int)-(y.length:Int)+1 else 0)=(j8 x y:Int):=by unfold j8;split<;>omega
 refine W.skip ?_
 refine W.sr ?_
 simp (disch:=omega) [gw,hkk]
 refine bI [0,1,6] ?_
 refine W.row (id:=25) (emap ie (List.replicate (j8 x y) 0)) (by simp;exact⟨rfl,rfl,rfl⟩) (sZ _) ?_
 refine aK [0,1,6,7] ?_
 refine W.block ?_
 obtain⟨R0,J9⟩:∃R0,R0=exs y (j8 x y) (List.replicate (j8 x y) 0) x:=⟨_,rfl⟩
 have hex:exact x y=exF R0:=by rw [J9];rfl
 rw [hex]
 clear hex
 generalize zA:j8 x y=k0 at *
 refine W.aY (fun j σ=>∃(v6:Nat) (z r:List Int) (rows:Pm.Rows) (clk:Nat),σ=⟨fa [(0,Po r),(1,Po y),(6, .own 25 v6 0 k0),(7, .int .i64 ((j:Int)-1))],rows,clk⟩ ∧
  rows 25=some ⟨v6,38,2,emap ie z⟩∧z.length=k0∧j≤k0∧exs y j z r=R0∧Bd LL (s+(N-j)*d) (N+N) z∧Bd LL (s+(N-j)*d) (N+N) r∧Cn r) k0 ?_ ?_
 ·exact⟨_, .refl,_,List.replicate k0 0,x,_,_,rfl,by simp,by simp,by omega,J9.symm,⟨by simp;omega,fun c hc=>by rw [(List.mem_replicate.1 hc).2,lG];omega⟩,hA.mono (by omega) (by omega),ca⟩
 rintro j _ ⟨v6,z,r,rows,clk,rfl,ae6,hz,hj,A4,bz,br,cr⟩
 refine aK [0,1,6,7,30] ?_
 refine bH ?_ ?_<;>intro h
 ·have hj0:0<j:=by simp at h;omega
  obtain⟨i,rfl⟩:∃i,j=i+1:=⟨j-1,by omega⟩
  clear h
  have ei:((i+1:Nat):Int)-1=i:=by omega
  rw [ei]
  have hN1:=hNN (i+1) (by omega)
  have IP:=hNN i (by omega)
  have hT:s+(N-i)*d=s+(N-(i+1))*d+s'+N+1:=by
   rw [show N-i=(N-(i+1))+1 by omega,Nat.add_mul,Nat.one_mul];omega
  have hDr:=lK r (by have:=br.len;omega)
  have hLr:=mA (PB.of br (by omega) (by omega)) cr
  have hlr:=iD br
  rw [exs]at A4
  refine W.skip ?_
  refine W.dW (fun σ=>∃(z r:List Int) (rows:Pm.Rows) (clk:Nat),σ=⟨fa [(0,Po r),(1,Po y),(6, .own 25 v6 0 k0),(7, .int .i64 i)],rows,clk⟩ ∧
   rows 25=some ⟨v6,38,2,emap ie z⟩∧z.length=k0∧exs y i z r=R0∧Bd LL (s+(N-i)*d) (N+N) z∧Bd LL (s+(N-i)*d) (N+N) r∧Cn r) ?_ ?_
  ·
   refine W.seq ?_
   refine jG ?_
   refine cM hDr ?_
   refine cN [0,1,6,7,39] hDy ?_
   by_cases hlen:r.length<y.length+i
   ·rw [if_pos hlen]at A4
    refine bH ?_ ?_<;>intro h
    ·refine eW ?_
     exact⟨_,aB _ [0,1,6,7],z,r,_,_,rfl,ae6,hz,A4,bz.mono (by omega) (by omega),br.mono (by omega) (by omega),cr⟩
    ·exfalso;simp at h;omega
   rw [if_neg hlen]at A4
   refine bH ?_ ?_<;>intro h
   ·exfalso;simp at h;omega
   clear h
   have hE:=K9 (v:=lead r) (c:=lead y) (by omega) (by omega) hly
   refine W.skip ?_
   by_cases hdv:lead r%lead y=0
   ·rw [if_pos hdv]at hE A4
    have hts:sz LL (lead r/lead y)≤s+(N-(i+1))*d:=Nat.le_trans (dY gO (Int.natAbs_ediv_le_natAbs _ _)) hlr
    have bs:=Bd.rV hts i
    have bm:=bs.bR gO YC
    have b2:Bd LL (s+(N-i)*d) (N+N) (fS r (bR (rV i (lead r/lead y)) y)):=(Bd.fS gO (br.mono (s':=s+(N-(i+1))*d+s'+N) (n':=N+N) (by omega) (by omega)) (bm.mono (by omega) (by omega))).mono (by omega) (by omega)
    have f4:=zK bs YC (by omega)
    have f5:=IK (PB.of br (by omega) (by omega)) (PB.of bm (by omega) (by omega))
    have cr2:Cn (fS r (bR (rV i (lead r/lead y)) y)):=Cn.fS _ _
    have bz2:=Bd.set (i:=i) (bz.mono (s':=s+(N-i)*d) (n':=N+N) (by omega) (by omega)) (Nat.le_trans hts (by omega))
    generalize bU:fS r (bR (rV i (lead r/lead y)) y)=r2 at *
    generalize bR (rV i (lead r/lead y)) y=pm at *
    generalize lead r/lead y=tt at *
    have ae1:=s8 i tt
    have aqn:(rV i tt).length=i+1:=by simp [rV]
    have iR:=bM aqn
    generalize lead r=lr at *
    generalize lead y=ly at *
    refine jG ?_
    refine cM hLr ?_
    refine cM hL ?_
    refine cN [0,1,6,7,8,9] hE ?_
    refine aK [0,1,6,7,8,49] ?_
    refine bH ?_ ?_<;>intro h
    ·cases h
    refine W.skip ?_
    refine W.sr ?_
    simp (disch:=omega) [gw,ae6,hz]
    refine bI [0,1,6,7,8] ?_
    have e9:((i:Int)+1).toNat=i+1:=by omega
    refine W.sr ?_
    simp (disch:=omega) [gw,e9]
    refine bI [0,1,6,7,8,10] ?_
    refine W.row (id:=56) (emap ie (List.replicate (i+1) 0)) (by simp;exact⟨rfl,rfl,rfl⟩) (sZ _) ?_
    refine W.sr ?_
    simp (disch:=omega) [gw,ae1]
    refine bI [0,1,6,7,10] ?_
    refine W.freeze 56 (by simp) (fun K hK=>?_)
    simp [iR]
    refine hK _ ?_;clear hK K
    refine W.bY (fun K hK=>?_)
    simp (disch:=omega) [gw]
    refine cM f4 ?_
    refine cM f5 ?_
    exact hK _ ⟨_,aB _ [0,1,6,7],z.set i tt,r2,_,_,rfl,by simp,by simp [hz],A4,bz2,b2,cr2⟩
   ·rw [if_neg hdv]at hE A4
    subst A4
    refine jG ?_
    refine cM hLr ?_
    refine cM hL ?_
    refine cN [0,1,6,7,8,9] hE ?_
    refine aK [0,1,6,7,8,49] ?_
    refine bH ?_ ?_<;>intro h
    ·refine aA [4,5] ?_
     refine W.ret ?_
     simp [go,exR,exF]
     rfl
    ·cases h
  rintro _ ⟨z,r,rows,clk,rfl,ae6,hz,A4,bz,br,cr⟩
  refine W.bY (fun K hK=>?_);simp (disch:=omega) [gw]
  refine hK _ ⟨i,_,aB _ [0,1,6,7],by omega,v6,z,r,_,_,rfl,by simp [ae6],hz,by omega,A4,bz,br,cr⟩
 ·have hj0:j=0:=by simp at h;omega
  subst hj0
  simp only [exs]at A4
  rw [←A4]
  have hN0:=hNN 0 (by omega)
  have hzn:=eO (PB.of bz (by omega) (by omega))
  have hzz:=bM hz
  refine eW ?_
  refine aK [6,68] ?_
  cases r with
  | nil =>
   refine bH ?_ ?_<;>intro h
   ·exfalso;simp at h
   refine W.skip ?_
   refine W.sr ?_
   simp (disch:=omega) [gw,ae6,hzz]
   refine cN [4,5] hzn ?_
   refine W.ret ?_
   simp [go,exR,exF]
  | cons c r =>
   refine bH ?_ ?_<;>intro h
   ·refine aA [4,5] ?_
    refine W.ret ?_
    simp [go,exR,exF]
    rfl
   ·exfalso;simp at h
theorem E2{d:Nat}{x:List Int}(h:∀c∈x,(d:Int)∣c):d∣bO x:=by
 have key:∀(l:List Int) (g:Nat),d∣g→(∀c∈l,(d:Int)∣c)→d∣l.foldl (fun g c=>Nat.gcd g c.natAbs) g:=by
  intro l
  induction l with
  | nil=>intro g hg _;exact hg
  | cons c l ih =>
   intro g hg hl
   rw [List.foldl_cons]
   exact ih _ (Nat.dvd_gcd hg (Int.ofNat_dvd_left.1 (hl c (by simp)))) fun v hv=>hl v (by simp [hv])
 exact key x 0 (Nat.dvd_zero d) h
theorem CC{x:List Int}{g:Int}(h:∀c∈x,g∣c):(x.map (qY g)).map (· * g)=x:=by
 rw [List.map_map]
 refine(List.map_congr_left fun v hv=>?_).trans (List.map_id _)
 have h1:v%g=0:=Int.emod_eq_zero_of_dvd (h v hv)
 simp only [Function.comp_apply,qY,id_eq]
 rw [if_pos h1]
 exact Int.ediv_mul_cancel (h v hv)
theorem zM{x y:List Int}{g:Int}(hg:g≠0)(h:y.map (· * g)=x)(e:bO x=g.natAbs):bO y=1:=by
 have:=mC g y
 rw [h,e]at this
 exact Nat.eq_of_mul_eq_mul_right (show 0<g.natAbs by omega) (by omega)
theorem eK(t:Int)(g:Int)(x:List Int):V t (x.map (· * g))=V t x*g:=by
 have:=iL (t:=t) g id x
 simp only [id_eq,List.map_id_fun]at this
 exact this
theorem ae7{x y:List Int}(cx:Cn x)(cy:Cn y)(hx:x ≠ [])(hy:y ≠ []):bO (bR x y)=bO x*bO y:=by
 have gx:=cV cx hx
 have gy:=cV cy hy
 have hp:bO (bR x y)≠0:=cV (Cn.bR _ _) fun h=>by
  have:=kP cx cy (List.length_pos_iff.2 hx) (List.length_pos_iff.2 hy)
  rw [h]at this
  have h1:=List.length_pos_iff.2 hx
  have h2:=List.length_pos_iff.2 hy
  simp only [List.length_nil]at this
  omega
 obtain⟨x',HJ⟩:∃x':List Int,x'.map (· * (bO x:Int))=x:=⟨_,CC (i6 x)⟩
 obtain⟨y',y8⟩:∃y':List Int,y'.map (· * (bO y:Int))=y:=⟨_,CC (i6 y)⟩
 have px:=zM (by omega) HJ (by omega)
 have py:=zM (by omega) y8 (by omega)
 have e:bR x y=(bR x' y').map (· * ((bO x:Int)*bO y)):=by
  rw [←uF (Cn.bR _ _) (Int.mul_ne_zero (by omega) (by omega))]
  refine Cn.ext (Cn.bR _ _) (Cn.a9 _ _) fun t=>?_
  have h1:=eK t (bO x) x'
  have h2:=eK t (bO y) y'
  rw [HJ]at h1
  rw [y8]at h2
  rw [dQ,cU,dQ,h1,h2]
  grind
 rw [e,mC]at hp
 rw [e,mC,Int.natAbs_mul]
 have hd:0<bO (bR x' y'):=Nat.pos_of_mul_pos_right (Nat.pos_of_ne_zero hp)
 have hD:=XW _ (bO (bR x' y')) x' y' (Nat.le_refl _) hd (Dv.of (i6 _)) (fun d _ hy=>Nat.dvd_one.1 (py▸E2 hy.mem))
 have h1:bO (bR x' y')=1:=Nat.dvd_one.1 (px▸E2 hD.mem)
 rw [h1,Nat.one_mul]
 simp
def mD(x:List Int):Int:=if lead x<0 then -(bO x:Int)else bO x
def s9(x:List Int):List Int:=aP (x.map (qY (mD x)))
theorem o6(x:List Int):(mD x).natAbs=bO x:=by unfold mD;split<;>omega
theorem LA(x:List Int):∀c∈x,mD x∣c:=fun c hc=>by
 have:=i6 x c hc
 unfold mD;split
 ·exact Int.neg_dvd.2 this
 ·exact this
theorem LB{x:List Int}(cx:Cn x)(hx:x ≠ []):(s9 x).map (· * mD x)=x:=by
 have gx:=cV cx hx
 have h0:=o6 x
 rw [←uF (show Cn (s9 x)from Cn.cut _) (show mD x≠0 by omega)]
 refine Cn.ext (Cn.a9 _ _) cx fun t=>?_
 rw [cU,s9,dE,←eK,CC (LA x)]
theorem abv{x:List Int}(cx:Cn x)(hx:x ≠ []):a9 (s9 x) (mD x)=x:=by
 have gx:=cV cx hx
 have h0:=o6 x
 rw [uF (show Cn (s9 x)from Cn.cut _) (show mD x≠0 by omega)]
 exact LB cx hx
theorem ajB{x:List Int}(cx:Cn x)(hx:x ≠ []):bO (s9 x)=1:=by
 have gx:=cV cx hx
 have h0:=o6 x
 exact zM (by omega) (LB cx hx) h0.symm
theorem ae8{x:List Int}(cx:Cn x)(hx:x ≠ []):0<lead (s9 x):=by
 have gx:=cV cx hx
 have h:=LB cx hx
 have hl:(s9 x).length=x.length:=by rw [←congrArg List.length h];simp
 have qB:=List.length_pos_iff.2 hx
 have h1:lead x=lead (s9 x)*mD x:=by
  rw [lead,lead,hl,←j9,h]
 have m7:=dH (x:=s9 x) (Cn.cut _) (by omega)
 have hg:(0:Int)<bO x:=by omega
 unfold mD at h1
 rcases Int.lt_trichotomy (lead (s9 x)) 0 with h2 | h2 | h2
 ·exfalso
  split at h1
  ·rename_i h3
   have:=Int.mul_pos (show (0:Int) < -lead (s9 x)by omega) hg
   rw [Int.mul_neg,←Int.neg_mul]at h1
   omega
  ·rename_i h3
   have:=Int.mul_pos (show (0:Int) < -lead (s9 x)by omega) hg
   rw [Int.neg_mul]at this
   omega
 ·exact absurd h2 m7
 ·exact h2
theorem vH(a:RP){s n:Nat}(ha:rW a)(sa:Bd LL s n (a.map gv))(hs:s<1099511627774)(hn:n<1099511627774) :
  aE env.P 137 [Pg a] (.dX [I (mD (nT a)),Po (s9 (nT a))]):=by
 have hA:Bd LL s n (nT a):=sa.cut
 have ca:Cn (nT a):=Cn.cut _
 have na:=gU a ha
 rw [show aP (a.map gv)=nT a from rfl]at na
 refine cB [(0,Pg a)] Tryz.func137 ?_
 generalize nT a=x at *
 refine aA [0,2] ?_
 refine aL [0,2] na ?_
 refine aK [0,2,9] ?_
 refine bH ?_ ?_<;>intro h
 ·have h:x = []:=by simp at h;exact h
  subst h
  rw [show mD ([]:List Int)=0 by decide,show s9 ([]:List Int) = []from rfl]
  refine aA [2,3] ?_
  refine W.ret ?_
  simp [go]
  exact⟨rfl,rfl⟩
 have hx:x ≠ []:=by simp at h;exact h
 clear h
 have qB:=List.length_pos_iff.2 hx
 have gx:=cV ca hx
 have hp0:=o6 x
 have hC:=xX x (PD.of hA hs hn)
 have hL:=mA (PB.of hA (by omega) (by omega)) ca
 have hgs:=YD (s:=s) hA.sz ca hx
 have GK:sz LL (mD x)≤s:=by
  unfold mD;split
  ·rw [pK];exact hgs
  ·exact hgs
 have hO:=QF x (mD x) (PD.of hA hs hn) (by omega) (by omega)
 rw [show aP (x.map (qY (mD x)))=s9 x from rfl]at hO
 have hN:=aep (x:=(bO x:Int)) (by show sz LL _<_;omega)
 refine W.skip ?_
 refine aL [0,2,4] hC ?_
 refine W.iB (fun σ=>∃(rows:Pm.Rows) (clk:Nat),σ=⟨fa [(0,Po x),(2, .ptr 2 0 0 0),(4, .ptr 4 1 0 0)],rows,clk⟩∧rows 2=some ⟨0,38,2,[[.bool false, .nil]]⟩∧rows 4=some ⟨1,38,2,[ie (mD x)]⟩) ?_ ?_
 ·refine W.eD (fun σ=>∃(rows:Pm.Rows) (clk:Nat),σ=⟨fa [(0,Po x),(2, .ptr 2 0 0 0),(4, .ptr 4 1 0 0),(16, .bool (decide (lead x<0)))],rows,clk⟩∧rows 2=some ⟨0,38,2,[[.bool false, .nil]]⟩∧rows 4=some ⟨1,38,2,[ie (bO x)]⟩) (fun K hK=>?_) ?_
  ·simp (disch:=omega) [gw]
   refine cM hL ?_
   refine hK _ _ (aB _ [0,2,4,16]) ⟨_,_,rfl,?_,?_⟩<;>simp [ie]
  rintro _ ⟨rows,clk,rfl,bU,dF⟩
  refine W.aea (lead x<0) rfl (fun h=>?_) (fun h=>?_)
  ·rw [mD,if_pos h]
   refine W.bY (fun K hK=>?_)
   simp (disch:=omega) [gw,dF]
   refine aC hN ?_
   simp (disch:=omega) [gw,dF]
   exact hK _ ⟨_,aB _ [0,2,4],_,_,rfl,by simp [bU],by simp⟩
  ·rw [mD,if_neg h]
   refine W.skip ?_
   exact⟨_,aB _ [0,2,4],_,_,rfl,bU,dF⟩
 rintro _ ⟨rows,clk,rfl,bU,dF⟩
 generalize mD x=c at *
 generalize s9 x=p at *
 refine W.sd ?_
 simp (disch:=omega) [gw,dF]
 refine aC hO ?_
 simp (disch:=omega) [gw,bU,dF]
 refine bI [2,3] ?_
 exact bZ
abbrev qd(x:List Int)(D:Int):List Rat:=x.map fun v=>dU v D
theorem fP{v D:Int}(h:D≠0):dU v D=(v:Rat)/(D:Rat):=by rw [dU,if_neg h,Rat.divInt_eq_div]
theorem iF{D:Int}(h:D≠0):(D:Rat)≠0:=fun h2=>h (by exact_mod_cast h2)
theorem xY{D:Int}(h:D≠0):dU 0 D=0:=by rw [fP h];simp [Rat.div_def]
theorem A6{v D:Int}(h:D≠0):dU v D=0↔v=0:=by
 constructor
 ·intro h2
  rw [fP h]at h2
  have h3:=iF h
  have:(v:Rat)=0:=by
   have h4:(v:Rat)/(D:Rat)*D=0:=by rw [h2];grind
   rw [Rat.div_mul_cancel h3]at h4
   exact h4
  exact_mod_cast this
 ·rintro rfl;exact xY h
theorem YE{v D l:Int}(h:D≠0)(hl:l≠0):dU (v*l) (D*l)=dU v D:=by
 rw [fP h,fP (Int.mul_ne_zero h hl),Rat.intCast_mul,Rat.intCast_mul]
 have h1:=iF h
 have h2:=iF hl
 grind
theorem ajC{v w D:Int}(h:D≠0):dU v D+dU w D=dU (v+w) D:=by
 rw [fP h,fP h,fP h,Rat.intCast_add]
 have h1:=iF h
 grind
theorem YF{v D:Int}(h:D≠0):dU v D*(-1)=dU (-v) D:=by
 rw [fP h,fP h,Rat.intCast_neg]
 have h1:=iF h
 grind
theorem ae9{v w D:Int}(h:D≠0):(w:Rat)*dU v D=dU (w*v) D:=by
 rw [fP h,fP h,Rat.intCast_mul]
 have h1:=iF h
 grind
theorem ajD{v D l:Int}(h:D≠0)(hl:l≠0):dU v D/(l:Rat)=dU v (D*l):=by
 rw [fP h,fP (Int.mul_ne_zero h hl),Rat.intCast_mul]
 have h1:=iF h
 have h2:=iF hl
 grind
theorem xZ{D:Int}(h:D≠0):∀x:List Int,oN (qd x D)=qd (aP x) D
 | []=>rfl
 | a::x=>by
  have ih:=xZ h x
  simp only [qd,List.map_cons]at ih ⊢
  rw [oN,ih,aP]
  by_cases h1:aP x = []∧a=0
  ·simp [h1,xY h]
  ·rw [if_neg h1,if_neg (by simpa [A6 h]using h1)];simp
theorem LC{D:Int}(h:D≠0)(x:List Int)(k:Nat):nth (qd x D) k=dU (nth x k) D:=B7 (f:=fun v=>dU v D) (xY h) x k
theorem ajE{D:Int}(h:D≠0)(x y:List Int):aeF (qd x D) (qd y D)=qd (i3 x y) D:=by
 rw [aeF,i3,←xZ h]
 congr 1
 simp only [qd,List.length_map,List.map_map]
 congr 1
 funext k
 simp only [Function.comp_apply]
 rw [show nth (List.map (fun v=>dU v D) x) k=_ from LC h x k,show nth (List.map (fun v=>dU v D) y) k=_ from LC h y k,ajC h]
theorem ajF{D:Int}(h:D≠0)(x:List Int):lJ (qd x D) (-1)=qd (iH x) D:=by
 rw [lJ,iH,←xZ h]
 congr 1
 simp only [qd,List.map_map]
 congr 1
 funext k
 simp only [Function.comp_apply]
 exact YF h
theorem abw{D:Int}(h:D≠0)(y:List Int)(v:Int):lJ (qs y) (dU v D)=qd (a9 y v) D:=by
 rw [lJ,a9,←xZ h]
 congr 1
 simp only [qd,qs,List.map_map]
 congr 1
 funext k
 simp only [Function.comp_apply]
 exact ae9 h
theorem U8{D l:Int}(h:D≠0)(hl:l≠0)(x:List Int):qd (x.map (· * l)) (D*l)=qd x D:=by
 simp only [qd,List.map_map]
 congr 1
 funext k
 simp only [Function.comp_apply]
 exact YE h hl
theorem LD(x:List Int):qd x 1=qs x:=by
 simp only [qd,qs,mM]
theorem vZ{v D:Int}{k:Nat}(h:D≠0)(hv:sz 2 v≤k)(hD:sz 2 D≤k):ZR k (dU v D):=by
 refine⟨Nat.le_trans (dY (by decide) ?_) hv,Nat.le_trans (dY (by decide) ?_) hD⟩
 ·rw [uB _ _ h]
  refine Nat.le_trans (Int.natAbs_ediv_le_natAbs _ _) ?_
  split<;>simp
 ·rw [uC _ _ h]
  refine Nat.le_trans (Int.natAbs_ediv_le_natAbs _ _) ?_
  split<;>simp
theorem U9{x:List Int}{D:Int}{k n:Nat}(h:D≠0)(hx:Bd 2 k n x)(hD:sz 2 D≤k)(hk:k≤YY)(hn:n<1099511627776):QOK (qd x D):=⟨fun q hq=>by
 simp only [List.mem_map]at hq
 obtain⟨v,hv,rfl⟩:=hq
 exact vZ h (Nat.le_trans (hx.sz v hv) hk) (Nat.le_trans hD hk),by have:=hx.len;simp;omega⟩
structure DS where
 Q:List Int
 r:List Int
 D:Int
def dst(y:List Int)(σ:DS):DS:=⟨(σ.Q.map (· * lead y)).set (σ.r.length-y.length) (lead σ.r),yW y (lead y) (lead σ.r) (σ.r.length-y.length) σ.r,σ.D*lead y⟩
def dms(y:List Int):Nat→DS→DS
 | 0,σ=>σ
 | n+1,σ=>if σ.r.length<y.length then σ else dms y n (dst y σ)
def dmd(x y:List Int):DS:=dms y (x.length+1) ⟨List.replicate (j8 x y) 0,x,1⟩
theorem LF{y:List Int}{σ:DS}(hy:0<y.length)(h:y.length≤σ.r.length):(dst y σ).r.length<σ.r.length:=by
 have h1:=B9 (b:=y) (r:=σ.r) (i:=σ.r.length-y.length) hy (by omega)
 rw [show xI y σ.r (σ.r.length-y.length)=lead σ.r from by rw [xI,if_pos (by omega)]]at h1
 show(yW y (lead y) (lead σ.r) (σ.r.length-y.length) σ.r).length<_
 omega
theorem ajG{y:List Int}{σ:DS}(h:σ.r.length<y.length):∀n,dms y n σ=σ
 | 0=>rfl
 | n+1=>by rw [dms,if_pos h]
structure wB(x y:List Int)(σ:DS):Prop where
 v:∀t,σ.D*V t x=V t σ.Q*V t y+V t σ.r
 z:∀j,j+y.length≤σ.r.length→nth σ.Q j=0
 c:Cn σ.r
 d:σ.D≠0
 q:σ.r.length+1≤σ.Q.length+y.length∨σ.r.length<y.length
theorem wB.step{x y:List Int}{σ:DS}(cy:Cn y)(hy:0<y.length)(h:y.length≤σ.r.length)(hI:wB x y σ):wB x y (dst y σ):=by
 have hl:=dH cy hy
 have dC:=LF hy h
 have hq:=hI.q.resolve_right (by omega)
 have hk:σ.r.length-y.length<(σ.Q.map (· * lead y)).length:=by simp;omega
 have h1:=B9 (b:=y) (r:=σ.r) (i:=σ.r.length-y.length) hy (by omega)
 rw [show xI y σ.r (σ.r.length-y.length)=lead σ.r from by rw [xI,if_pos (by omega)]]at h1
 refine⟨fun t=>?_,fun j hj=>?_,Cn.fS _ _,Int.mul_ne_zero hI.d hl,?_⟩
 ·have h2:=hI.v t
  have h3:=H3 (b:=t) (x:=lead σ.r) hk
  have h4:nth (σ.Q.map (· * lead y)) (σ.r.length-y.length)=0:=by
   rw [j9,hI.z _ (by omega)];simp
  show σ.D*lead y*V t x=V t ((σ.Q.map (· * lead y)).set (σ.r.length-y.length) (lead σ.r))*V t y+V t (yW y (lead y) (lead σ.r) (σ.r.length-y.length) σ.r)
  rw [h3,h4,eK,yW,jM,dQ,oY,cU]
  have h5:σ.D*lead y*V t x=lead y*(σ.D*V t x):=by grind
  rw [h5,h2];grind
 ·have hj:j+y.length≤(yW y (lead y) (lead σ.r) (σ.r.length-y.length) σ.r).length:=hj
  show nth ((σ.Q.map (· * lead y)).set (σ.r.length-y.length) (lead σ.r)) j=0
  rw [iC (by omega),j9,hI.z _ (by omega)];simp
 ·left
  have:(dst y σ).Q.length=σ.Q.length:=by simp [dst]
  omega
theorem wB.dms{x y:List Int}(cy:Cn y)(hy:0<y.length):∀(n:Nat) (σ:DS),σ.r.length<n→wB x y σ→wB x y (dms y n σ)∧(Proofs.YtiobceocpabjdaaGreat.dms y n σ).r.length<y.length
 | 0,σ,h,_=>by omega
 | n+1,σ,h,hI=>by
  rw [Proofs.YtiobceocpabjdaaGreat.dms]
  split
  ·rename_i h1;exact⟨hI,h1⟩
  ·rename_i h1
   exact wB.dms cy hy n _ (by have:=LF (σ:=σ) hy (by omega);omega) (hI.step cy hy (by omega))
theorem wB.start{x y:List Int}(cx:Cn x):wB x y ⟨List.replicate (j8 x y) 0,x,1⟩:=by
 refine⟨fun t=>?_,fun j hj=>?_,cx,show(1:Int)≠0 by decide,?_⟩
 ·simp [rO]
 ·rcases Nat.lt_or_ge j (j8 x y)with h | h
  ·rw [cE (by simpa using h)];simp
  ·rw [i0 (by simpa using h)];rfl
 ·simp only [j8,List.length_replicate];omega
theorem ajH{x y:List Int}(cx:Cn x)(cy:Cn y)(hy:0<y.length):wB x y (dmd x y)∧(dmd x y).r.length<y.length:=wB.dms cy hy _ _ (Nat.lt_succ_self _) (wB.start cx)
@[simp] theorem awS{l:List Rat}{i:Nat}{q:Rat}:iO (emap re l) i 0 [aH aG (aR DD q.num.natAbs), .bool (decide (q.num<0)),aH aG (aR DD q.den), .bool false]=emap re (l.set i q):=CA (n:=4) (fun _=>rfl)
theorem E3(x:List Int):emap re (qs x)=emap ri x:=by simp only [emap,qs,List.map_map,Function.comp_def,iN]
theorem afb(a b n:List Rat)(ha:QOK a)(hb:QOK b)(hn:lJ b (-1)=n)(hn2:QOK n):aE env.P 266 [PP a,PP b] (PP (aeF a n)):=by
 have h1:=P4 b hb
 rw [hn]at h1
 have h2:=aeG a n ha hn2
 refine cB [(0,PP a),(1,PP b)] Tryz.func266 ?_
 refine aA [0,1] ?_
 refine jG ?_
 refine cM h1 ?_
 refine cN [4] h2 ?_
 exact bZ
def NH(l:List Rat):Int:=l.foldl (fun d q=>(d*q.den).tdiv (Int.gcd d q.den)) 1
def YH(d:Int)(l:List Rat):Int:=l.foldl (fun (g:Int) q=>(Int.gcd g ((q.num*d).tdiv q.den):Int)) 0
theorem afc{l:List Rat}{i:Nat}(h:i<l.length):NH (l.take (i+1))=(NH (l.take i)*(nth l i).den).tdiv (Int.gcd (NH (l.take i)) (nth l i).den):=by
 unfold NH;rw [bG h,List.foldl_append];rfl
theorem afd{l:List Rat}{d:Int}{i:Nat}(h:i<l.length):YH d (l.take (i+1))=(Int.gcd (YH d (l.take i)) (((nth l i).num*d).tdiv (nth l i).den):Int):=by
 unfold YH;rw [bG h,List.foldl_append];rfl
theorem afe(q:Rat):RI (q.den:Int) = .ag [aH aG (aR DD q.den), .bool false]:=by
 simp [show ¬((q.den:Int)<0)by omega]
def VA(l:List Rat):Rat:=if (nth l (l.length-1)).num<0 then -(dU (YH (NH l) l) (NH l))else dU (YH (NH l) l) (NH l)
def qpr(l:List Rat):List Rat:=lJ l (1/VA l)
theorem tA(l:List Rat){k:Nat}(hk:k≤YY)(hk1:1≤k)(hl:∀q∈l,ZR k q)(F7:l.length<1099511627776)(h0:l ≠ [])
  (hd:∀i,sz 2 (NH (l.take i))≤k) (X5:∀i,0<NH (l.take i)) (hg:∀i,sz 2 (YH (NH l) (l.take i))≤k)
  (hc:ZR YY (VA l)) (zG:VA l≠0) (u9:ZR YY (1/VA l)) :
  aE env.P 155 [PP l] (.dX [RR (VA l),PP (qpr l)]):=by
 have hkY:k≤137438953472:=hk
 have AJ:0<l.length:=List.length_pos_iff.2 h0
 refine cB [(0,PP l)] Tryz.func155 ?_
 refine aA [0,2] ?_
 refine aK [0,2,11] ?_
 refine bH ?_ ?_<;>intro h
 ·exfalso;simp at h;exact h0 h
 refine W.skip ?_
 refine jG ?_
 refine aC (oZ 1 (by decide) (by decide)) ?_
 simp (disch:=omega) [gw]
 refine bI [0,2,4] ?_
 refine aK [0,2,4,15,16] ?_
 refine W.block ?_
 refine W.aY (fun n σ=>∃(i:Nat) (d:Int) (rows:Pm.Rows) (clk:Nat),σ=⟨fa [(0,PP l),(2, .ptr 2 0 0 0),(4, .ptr 4 1 0 0),(15, .int .i64 l.length),(16, .int .i64 i)],rows,clk⟩ ∧
  rows 2=some ⟨0,31,4,[[.nil, .bool false, .nil, .bool false]]⟩∧rows 4=some ⟨1,29,2,[[aH aG (aR DD d.natAbs), .bool (decide (d<0))]]⟩∧n=l.length-i∧i≤l.length∧d=NH (l.take i)) l.length ?_ ?_
 ·exact⟨_, .refl,0,1,_,_,rfl,by simp,by simp,by omega,by omega,by simp [NH]⟩
 rintro n _ ⟨i,d,rows,clk,rfl,bU,dF,hn,hi,hdv⟩
 refine bT [0,2,4,15,16,17] ?_
 refine bH ?_ ?_<;>intro h
 ·have hi:i<l.length:=by simp at h;omega
  have hq:=hl _ (bJ hi)
  have hdi:=hd i
  have hdp:=X5 i
  have hs:=afc hi
  rw [←hdv]at hs hdi hdp
  have hsn:=hd (i+1)
  have m1:=fD d (nth l i).den (by simp only [Z];omega) (by have:=hq.d;simp only [Z];omega)
  have m2:=EM d (nth l i).den (by simp only [Y];omega) (by have:=hq.d;simp only [Y];omega)
  have zm:=cP (b:=2) (by decide) hdi hq.d
  have hgp:0<Int.gcd d (nth l i).den:=Int.gcd_pos_of_ne_zero_left _ (by omega)
  have zg:Y (Int.gcd d (nth l i).den:Int):=EL (y:=d) (by simp only [Y];omega) (by
   have:=Int.le_of_dvd hdp (Int.gcd_dvd_left d ((nth l i).den:Int));omega)
  have m3:=xQ (d*(nth l i).den) (Int.gcd d (nth l i).den) (by omega) (by simp only [Y];omega) zg
  rw [←hs]at m3
  rw [afe]at m1 m2
  generalize (Int.gcd d (nth l i).den:Int)=gg at *
  generalize d*((nth l i).den:Int)=dd at *
  generalize TQ:NH (l.take (i+1))=d2 at *
  generalize hqe:nth l i=q at *
  refine j7 ?_
  refine W.sr ?_
  simp (disch:=omega) [gw,hqe]
  refine bI [0,2,4,5,15,16] ?_
  refine W.NB (fun K hK=>?_)
  simp (disch:=omega) [gw,dF,hqe]
  refine aC m1 ?_
  simp (disch:=omega) [gw,dF,hqe]
  refine aC m2 ?_
  simp (disch:=omega) [gw,dF,hqe]
  refine aC m3 ?_
  simp (disch:=omega) [gw,dF,hqe]
  refine bE (by refine⟨?_,?_⟩<;>kernel_rfl) ?_
  simp (disch:=omega) [gw]
  refine W.lw [0,2,4,15,16] hK ?_;clear hK K;simp
  refine W.bY (fun K hK=>?_);simp (disch:=omega) [gw]
  refine hK _ ⟨l.length-(i+1),_,aB _ [0,2,4,15,16],by omega,i+1,d2,_,_,rfl,by simp [bU],by simp,by omega,by omega,TQ.symm⟩
 have hi:i=l.length:=by simp at h;omega
 subst hi
 rw [List.take_length]at hdv
 have hdl:=hd l.length
 have hdp:=X5 l.length
 rw [List.take_length,←hdv]at hdl hdp
 rw [←hdv]at hg
 have hqc:VA l=if (nth l (l.length-1)).num<0 then -(dU (YH d l) d)else dU (YH d l) d:=by rw [hdv];rfl
 refine eW ?_
 refine aA [0,2,4,6] ?_
 refine W.row (id:=6) (els:=[[.nil, .bool false]]) [[aH aG (aR DD 0), .bool false]] (by simp;first | exact⟨rfl,rfl,rfl⟩ | exact⟨rfl,rfl,rfl,rfl⟩) ⟨⟨.inr ⟨rfl,rfl⟩, .inl rfl,trivial⟩,trivial⟩ ?_
 refine aK [0,2,4,6,36,37] ?_
 refine W.block ?_
 clear hdv
 refine W.aY (fun n σ=>∃(i v6:Nat) (g:Int) (rows:Pm.Rows) (clk:Nat),σ=⟨fa [(0,PP l),(2, .ptr 2 0 0 0),(4, .ptr 4 1 0 0),(6, .ptr 6 v6 0 0),(36, .int .i64 l.length),(37, .int .i64 i)],rows,clk⟩ ∧
  rows 2=some ⟨0,31,4,[[.nil, .bool false, .nil, .bool false]]⟩∧rows 4=some ⟨1,29,2,[[aH aG (aR DD d.natAbs), .bool (decide (d<0))]]⟩ ∧
  rows 6=some ⟨v6,29,2,[[aH aG (aR DD g.natAbs), .bool (decide (g<0))]]⟩∧n=l.length-i∧i≤l.length∧g=YH d (l.take i)) l.length ?_ ?_
 ·exact⟨_, .refl,0,_,0,_,_,rfl,by simp [bU],by simp [dF],by simp,by omega,by omega,by simp [YH]⟩
 clear bU dF rows clk
 rintro n _ ⟨i,v6,g,rows,clk,rfl,bU,dF,i9,hn,hi,hgv⟩
 refine bT [0,2,4,6,36,37,38] ?_
 refine bH ?_ ?_<;>intro h
 ·have hi:i<l.length:=by simp at h;omega
  have hq:=hl _ (bJ hi)
  have hgi:=hg i
  have hs:=afd (d:=d) hi
  rw [←hgv]at hs hgi
  have m1:=fD (nth l i).num d (by have:=hq.n;simp only [Z];omega) (by simp only [Z];omega)
  have zm:=cP (b:=2) (by decide) hq.n hdl
  have m2:=xQ ((nth l i).num*d) (nth l i).den (by have:=(nth l i).den_nz;omega) (by simp only [Y];omega) (by have:=hq.d;simp only [Y];omega)
  have zq:Y (((nth l i).num*d).tdiv (nth l i).den):=EL (y:=(nth l i).num*d) (by simp only [Y];omega) (by rw [Int.natAbs_tdiv];exact Nat.div_le_self _ _)
  have m3:=EM g (((nth l i).num*d).tdiv (nth l i).den) (by simp only [Y];omega) zq
  rw [←hs]at m3
  rw [afe]at m2
  generalize ((nth l i).num*d).tdiv (nth l i).den=nq at *
  generalize (nth l i).num*d=nd at *
  generalize pT:YH d (l.take (i+1))=g2 at *
  generalize hqe:nth l i=q at *
  refine j7 ?_
  refine W.sr ?_
  simp (disch:=omega) [gw,hqe]
  refine bI [0,2,4,6,7,36,37] ?_
  refine W.NB (fun K hK=>?_)
  simp (disch:=omega) [gw,dF,i9,hqe]
  refine aC m1 ?_
  simp (disch:=omega) [gw,dF,i9,hqe]
  refine aC m2 ?_
  simp (disch:=omega) [gw,dF,i9,hqe]
  refine aC m3 ?_
  simp (disch:=omega) [gw,dF,i9,hqe]
  refine bE (by kernel_rfl) ?_
  simp (disch:=omega) [gw]
  refine W.lw [0,2,4,6,36,37] hK ?_;clear hK K;simp
  refine W.bY (fun K hK=>?_);simp (disch:=omega) [gw]
  refine hK _ ⟨l.length-(i+1),_,aB _ [0,2,4,6,36,37],by omega,i+1,v6,g2,_,_,rfl,by simp [bU],by simp [dF],by simp,by omega,by omega,pT.symm⟩
 have hi:i=l.length:=by simp at h;omega
 subst hi
 rw [List.take_length]at hgv
 have hgl:=hg l.length
 rw [List.take_length]at hgl
 rw [←hgv]at hgl hqc
 have hMk:=lI g d (by simp only [Y];omega) (by simp only [Y];omega)
 have hNg:=PW (dU g d)
 have hQ:=PY 1 (VA l) ⟨by show sz 2 1≤YY;exact Nat.le_trans (dV (k:=1) (by decide) (by decide)) (by decide),by show sz 2 1≤YY;exact Nat.le_trans (dV (k:=1) (by decide) (by decide)) (by decide)⟩ hc zG
 have hOf:=mN 1 1 (by decide) (by decide)
 rw [mM,show(((1:Int)):Rat)=1 by simp]at hOf
 have hSc:=qW l (1/VA l) ⟨fun q hq=>⟨Nat.le_trans (hl q hq).n hk,Nat.le_trans (hl q hq).d hk⟩,F7⟩ u9
 rw [show lJ l (1/VA l)=qpr l from rfl]at hSc
 have e1:((l.length:Int)-1).toNat=l.length-1:=by omega
 generalize qpr l=pr at *
 generalize jR:(1:Rat)=one at *
 generalize one/VA l=ic at *
 generalize VA l=cc at *
 generalize hqm:dU g d=c0 at *
 generalize hqe:nth l (l.length-1)=q at *
 refine eW ?_
 refine W.sr ?_
 simp (disch:=omega) [gw,dF,i9]
 refine cN [0,2,8] hMk ?_
 refine W.iB (fun σ=>∃(v8:Nat) (rows:Pm.Rows) (clk:Nat),σ=⟨fa [(0,PP l),(2, .ptr 2 0 0 0),(8, .ptr 8 v8 0 0)],rows,clk⟩∧rows 2=some ⟨0,31,4,[[.nil, .bool false, .nil, .bool false]]⟩∧rows 8=some ⟨v8,31,4,[re cc]⟩) ?_ ?_
 ·refine W.sr ?_
  simp (disch:=omega) [gw,e1,hqe]
  refine bI [0,2,8,66] ?_
  refine W.aea (q.num<0) rfl (fun h=>?_) (fun h=>?_)
  ·rw [if_pos h]at hqc
   rw [←hqc]at hNg
   refine W.bY (fun K hK=>?_)
   simp (disch:=omega) [gw]
   refine cM hNg ?_
   exact hK _ ⟨_,aB _ [0,2,8],_,_,_,rfl,by simp [bU],by simp⟩
  ·rw [if_neg h]at hqc
   refine W.skip ?_
   exact⟨_,aB _ [0,2,8],_,_,_,rfl,by simp [bU],by simp [hqc]⟩
 clear bU dF i9 rows clk
 rintro _ ⟨v8,rows,clk,rfl,bU,oC⟩
 refine W.sd ?_
 simp (disch:=omega) [gw,oC]
 refine aC hOf ?_
 simp (disch:=omega) [gw,oC]
 refine aC hQ ?_
 simp (disch:=omega) [gw,oC]
 refine aC hSc ?_
 simp (disch:=omega) [gw,bU,oC]
 refine bI [2,3] ?_
 exact bZ
theorem YI(x:List Int)(hx:∀c∈x,Z c)(hl:x.length<1099511627776):aE env.P 100 [PI x] (Po x):=by
 refine cB [(0,PI x)] Tryz.func100 ?_
 refine aA [0] ?_
 refine aA [0,3] ?_
 refine W.nil 3 3 38 2 (by simp) (by decide) (fun K hK=>?_)
 refine W.lw [0,3] hK ?_;clear hK K;simp
 refine aK [0,3,6,7] ?_
 refine W.block ?_
 refine W.aY (fun k σ=>∃(i ver:Nat) (rows:Pm.Rows) (clk:Nat),σ=⟨fa [(0,PI x),(3, .own 3 ver 0 i),(6, .int .i64 x.length),(7, .int .i64 i)],rows,clk⟩∧rows 3=some ⟨ver,38,2,emap ie (x.take i)⟩∧k=x.length-i∧i≤x.length) x.length ?_ ?_
 ·exact⟨_, .refl,0,_,_,_,rfl,by simp [emap],by omega,by omega⟩
 rintro k _ ⟨i,ver,rows,clk,rfl,hr,hk,hi⟩
 refine bT [0,3,6,7,8] ?_
 refine W.cond ⟨_,rfl,fun h0=>?_,fun h0=>?_⟩
 ·have h0:i<x.length:=by simp at h0;omega
  have gE:(x.take i).length=i:=by simp;omega
  have hT:=K3 (nth x i) (hx _ (bJ h0))
  refine j7 ?_
  refine aA [0,3,4,6,7] ?_
  refine W.bY (fun K hK=>?_)
  simp (disch:=omega) [gw]
  refine aC hT ?_
  simp (disch:=omega) [gw,hr,gE]
  refine W.lw [0,3,6,7] hK ?_;clear hK K;simp
  refine W.bY (fun K hK=>?_);simp (disch:=omega) [gw]
  refine hK _ ⟨x.length-(i+1),_,aB _ [0,3,6,7],by omega,i+1,_,_,_,rfl,?_,by omega,by omega⟩
  rw [bG h0]
  simp
 ·have lW:i=x.length:=by simp at h0;omega
  subst lW
  rw [List.take_length]at hr
  refine eW ?_
  refine W.sr ?_
  simp (disch:=omega) [gw,hr]
  refine bI [2] ?_
  refine W.ret ?_
  simp [go,hr]
theorem LG(x:List Int):NH (qs x)=1:=by
 have key:∀l:List Int,(qs l).foldl (fun (d:Int) q=>(d*q.den).tdiv (Int.gcd d q.den)) 1=1:=by
  intro l
  induction l with
  | nil=>rfl
  | cons a l ih =>
   simp only [qs,List.map_cons,List.foldl_cons,Rat.den_intCast]at ih ⊢
   exact ih
 exact key x
theorem aff(x:List Int):YH 1 (qs x)=bO x:=by
 have key:∀(l:List Int) (g:Nat),(qs l).foldl (fun (g:Int) q=>(Int.gcd g ((q.num*1).tdiv q.den):Int)) g=(l.foldl (fun g c=>Nat.gcd g c.natAbs) g:Nat):=by
  intro l
  induction l with
  | nil=>intro g;rfl
  | cons a l ih =>
   intro g
   have:=ih (Nat.gcd g a.natAbs)
   simp only [qs,List.map_cons,List.foldl_cons,Rat.den_intCast,Rat.num_intCast]at this ⊢
   rw [←this]
   congr 1
   simp [Int.gcd]
 exact key x 0
theorem LH(x:List Int)(i:Nat):(qs x).take i=qs (x.take i):=by simp [qs,List.map_take]
theorem E4{x:List Int}(hx:0<x.length):VA (qs x)=(mD x:Rat):=by
 have e:(nth (qs x) ((qs x).length-1)).num=lead x:=by rw [aeH];simp [lead]
 unfold VA mD
 rw [LG,aff,mM,e]
 split
 ·rw [Rat.intCast_neg]
 ·rfl
theorem aqr{x:List Int}(cx:Cn x)(hx:x ≠ []):qpr (qs x)=qs (s9 x):=by
 have qB:=List.length_pos_iff.2 hx
 have h0:=o6 x
 have gx:=cV cx hx
 have hp:mD x≠0:=by omega
 have hc:=iF hp
 rw [qpr,E4 qB,lJ,s9,←xR]
 congr 1
 simp only [qs,List.map_map]
 refine List.map_congr_left fun v hv=>?_
 simp only [Function.comp_apply]
 have hd:=LA x v hv
 obtain⟨w,rfl⟩:=hd
 have:qY (mD x) (mD x*w)=w:=by
  unfold qY
  rw [if_pos (Int.mul_emod_right _ _)]
  exact Int.mul_ediv_cancel_left _ hp
 rw [this,Rat.intCast_mul]
 grind
theorem nM{x:List Int}{s:Nat}(hs:∀c∈x,sz 2 c≤s):sz 2 (bO x:Int)≤s:=by
 by_cases h:∃c∈x,c≠0
 ·obtain⟨c,hc,h0⟩:=h
  refine Nat.le_trans (dY (by decide) ?_) (hs c hc)
  have:=Int.le_of_dvd (a:=(bO x:Int)) (b:=(c.natAbs:Int)) (by omega) (Int.dvd_natAbs.2 (i6 x _ hc))
  omega
 ·have h1:bO x=0:=by
   have h2:(0:Nat)∣bO x:=E2 fun c hc=>by
    have:c=0:=Classical.byContradiction fun h3=>h ⟨c,hc,h3⟩
    rw [this];exact Int.dvd_refl _
   exact Nat.eq_zero_of_zero_dvd h2
  rw [h1];show sz 2 0≤s;rw [lG];omega
theorem E5(x:List Int){s n:Nat}(hx:Bd 2 s n x)(cx:Cn x)(vT:1≤s)(hs:s≤YY)(hn:n<1099511627776):aE env.P 155 [PI x] (.dX [.ag (ri (mD x)),PI (s9 x)]):=by
 have hlx:=hx.len
 by_cases h0:x = []
 ·subst h0
  have hz:=uD
  rw [show mD ([]:List Int)=0 by decide,show s9 ([]:List Int) = []from rfl]
  refine cB [(0,PI [])] Tryz.func155 ?_
  refine aA [0,2] ?_
  refine aK [0,2,11] ?_
  refine bH ?_ ?_<;>intro h
  ·refine aL [2,3] hz ?_
   refine W.ret ?_
   simp [go]
   all_goals rfl
  ·simp at h
 ·have qB:=List.length_pos_iff.2 h0
  have hp:=o6 x
  have gx:=cV cx h0
  have hp0:mD x≠0:=by omega
  have hgs:∀i,sz 2 (bO (x.take i):Int)≤s:=fun i=>nM fun c hc=>hx.sz c (List.mem_of_mem_take hc)
  have A4:sz 2 (mD x)≤s:=by
   have:=nM hx.sz
   unfold mD;split
   ·rw [pK];exact this
   ·exact this
  have s1:sz 2 1≤1:=dV (by decide) (by decide)
  have zc:ZR YY (mD x:Rat):=qV (Nat.le_trans A4 hs) (by decide)
  have e1:(1:Rat)/(mD x:Rat)=dU 1 (mD x):=by rw [fP hp0];simp
  have:=tA (qs x) hs vT (fun q hq=>by
   simp only [qs,List.mem_map]at hq
   obtain⟨c,hc,rfl⟩:=hq
   exact qV (hx.sz c hc) vT) (by simp;omega) (by simpa [qs]using h0)
   (fun i=>by rw [LH,LG];omega) (fun i=>by rw [LH,LG];decide) (fun i=>by rw [LG,LH,aff];exact hgs i)
   (by rw [E4 qB];exact zc) (by rw [E4 qB];exact iF hp0) (by rw [E4 qB,e1];exact vZ hp0 (by show sz 2 1≤137438953472;omega) (Nat.le_trans A4 hs))
  rw [E4 qB,aqr cx h0,rQ,rQ,RR,iN]at this
  exact this
theorem abz{D a b:Nat}(hD:0<D)(ha:a∣D)(hb:b∣D):Nat.lcm (D/a) (D/b)=D/Nat.gcd a b:=by
 have ha0:0<a:=Nat.pos_of_dvd_of_pos ha hD
 have hb0:0<b:=Nat.pos_of_dvd_of_pos hb hD
 have hg:0<Nat.gcd a b:=Nat.gcd_pos_of_pos_left _ ha0
 obtain⟨a',b',hc,ea,eb⟩:=Nat.exists_coprime a b
 generalize Nat.gcd a b=g at *
 obtain⟨p,hp⟩:=ha
 obtain⟨q,hq⟩:=hb
 have h1:a'*p=b'*q:=by
  have:g*(a'*p)=g*(b'*q):=by rw [ea]at hp;rw [eb]at hq;grind
  exact Nat.eq_of_mul_eq_mul_left hg this
 have h2:a'∣q:=hc.dvd_of_dvd_mul_left (by rw [←h1];exact Nat.dvd_mul_right _ _)
 obtain⟨m,rfl⟩:=h2
 have aCp:0<a':=by
  rcases Nat.eq_zero_or_pos a' with h | h
  ·rw [h]at ea;omega
  ·exact h
 have h3:p=b'*m:=by
  have:a'*p=a'*(b'*m):=by rw [h1];grind
  exact Nat.eq_of_mul_eq_mul_left aCp this
 subst h3
 have e1:D/a=b'*m:=by rw [hp];exact Nat.mul_div_cancel_left _ ha0
 have e2:D/b=a'*m:=by rw [hq];exact Nat.mul_div_cancel_left _ hb0
 have e3:D/g=a'*b'*m:=by
  rw [hp,ea,show a'*g*(b'*m)=g*(a'*b'*m)by grind]
  exact Nat.mul_div_cancel_left _ hg
 rw [e1,e2,e3,Nat.lcm_mul_right,Nat.lcm_comm,Nat.lcm,show a'.gcd b'=1 from hc,Nat.div_one]
theorem afg(n:Nat)(q:Rat):((n:Int)*q.den).tdiv (Int.gcd n q.den)=(Nat.lcm n q.den:Nat):=by
 have:Int.gcd (n:Int) (q.den:Int)=Nat.gcd n q.den:=rfl
 rw [this,←Int.natCast_mul,←Int.ofNat_tdiv]
 rfl
theorem A7{v:Int}{D:Nat}(hD:0<D):(dU v D).den=D/Nat.gcd D v.natAbs:=by
 have h:=uC v D (by omega)
 have h2:¬(D:Int)<0:=by omega
 simp only [h2,if_false]at h
 have:Int.gcd v (D:Int)=Nat.gcd D v.natAbs:=by rw [Int.gcd,Nat.gcd_comm];rfl
 rw [this]at h
 exact_mod_cast h
theorem A8{v:Int}{D:Nat}(hD:0<D):(dU v D).num=v/(Nat.gcd D v.natAbs:Nat):=by
 have h:=uB v D (by omega)
 have h2:¬(D:Int)<0:=by omega
 simp only [h2,if_false]at h
 have:Int.gcd v (D:Int)=Nat.gcd D v.natAbs:=by rw [Int.gcd,Nat.gcd_comm];rfl
 rw [this]at h
 exact h
def gcD(D:Nat)(x:List Int):Nat:=Nat.gcd D (bO x)
theorem LI{D:Nat}(hD:0<D)(x:List Int):NH (qd x D)=(D/gcD D x:Nat):=by
 have key:∀(l:List Int) (g:Nat),g∣D→(qd l D).foldl (fun (d:Int) q=>(d*q.den).tdiv (Int.gcd d q.den)) (D/g:Nat)=(D/(l.foldl (fun g c=>Nat.gcd g c.natAbs) g):Nat):=by
  intro l
  induction l with
  | nil=>intro g _;rfl
  | cons a l ih =>
   intro g hg
   have h1:=ih (Nat.gcd g a.natAbs) (Nat.dvd_trans (Nat.gcd_dvd_left _ _) hg)
   simp only [qd,List.map_cons,List.foldl_cons]at h1 ⊢
   rw [afg,A7 hD,abz hD hg (Nat.gcd_dvd_left _ _)]
   rw [show Nat.gcd g (Nat.gcd D a.natAbs)=Nat.gcd g a.natAbs by rw [←Nat.gcd_assoc,Nat.gcd_eq_left hg]]
   exact h1
 have h2:∀(l:List Int) (g:Nat),l.foldl (fun g c=>Nat.gcd g c.natAbs) g=Nat.gcd g (bO l):=by
  intro l
  unfold bO
  induction l with
  | nil=>intro g;simp
  | cons a l ih =>
   intro g
   simp only [List.foldl_cons]
   rw [ih,ih (Nat.gcd 0 a.natAbs),Nat.gcd_zero_left,Nat.gcd_assoc]
 have h3:=key x D (Nat.dvd_refl _)
 rw [Nat.div_self hD,h2]at h3
 exact h3
theorem afh{D:Nat}(hD:0<D)(x:List Int){G:Nat}(hG:G∣D)(hx:∀c∈x,(G:Int)∣c):YH (D/G:Nat) (qd x D)=(bO x/G:Nat):=by
 have hG0:0<G:=Nat.pos_of_dvd_of_pos hG hD
 have key:∀(l:List Int) (g:Nat),(∀c∈l,(G:Int)∣c)→G∣g→(qd l D).foldl (fun (g:Int) q=>(Int.gcd g ((q.num*((D/G:Nat):Int)).tdiv q.den):Int)) (g/G:Nat)=((l.foldl (fun g c=>Nat.gcd g c.natAbs) g)/G:Nat):=by
  intro l
  induction l with
  | nil=>intro g _ _;rfl
  | cons a l ih =>
   intro g hl hg
   have ha:G∣a.natAbs:=Int.ofNat_dvd_left.1 (hl a (by simp))
   have h1:=ih (Nat.gcd g a.natAbs) (fun c hc=>hl c (by simp [hc])) (Nat.dvd_gcd hg ha)
   simp only [qd,List.map_cons,List.foldl_cons]at h1 ⊢
   have e:((dU a D).num*((D/G:Nat):Int)).tdiv (dU a D).den=a/(G:Int):=by
    rw [A8 hD,A7 hD]
    have X5:Nat.gcd D a.natAbs∣D:=Nat.gcd_dvd_left _ _
    have TQ:Nat.gcd D a.natAbs∣a.natAbs:=Nat.gcd_dvd_right _ _
    have hgp:0<Nat.gcd D a.natAbs:=Nat.gcd_pos_of_pos_left _ hD
    generalize Nat.gcd D a.natAbs=k at *
    obtain⟨m,hm⟩:=X5
    obtain⟨n,hn⟩:(k:Int)∣a:=Int.ofNat_dvd_left.2 TQ
    obtain⟨p,hp⟩:=hG
    obtain⟨r,hr⟩:=hl a (by simp)
    have SL:0<m:=by
     rcases Nat.eq_zero_or_pos m with h | h
     ·rw [h]at hm;omega
     ·exact h
    rw [show a/(k:Int)=n by rw [hn];exact Int.mul_ediv_cancel_left _ (by omega),show D/G=p by rw [hp];exact Nat.mul_div_cancel_left _ hG0,show D/k=m by rw [hm];exact Nat.mul_div_cancel_left _ hgp,
     show a/(G:Int)=r by rw [hr];exact Int.mul_ediv_cancel_left _ (by omega)]
    have e2:n*(p:Int)=m*r:=by
     have hDI:(k:Int)*m=G*p:=by exact_mod_cast hm.symm.trans hp
     have hk:(k:Int)*n=G*r:=hn.symm.trans hr
     have zA:(k:Int)≠0:=by omega
     have hG1:(G:Int)≠0:=by omega
     have:(k:Int)*G*(n*p)=k*G*(m*r):=by
      have e3:(k:Int)*G*(n*p)=(k*n)*(G*p):=by grind
      rw [e3,hk,←hDI];grind
     exact Int.eq_of_mul_eq_mul_left (Int.mul_ne_zero zA hG1) this
    rw [e2]
    exact Int.mul_tdiv_cancel_left _ (by omega)
   rw [e,show Int.gcd ((g/G:Nat):Int) (a/(G:Int))=Nat.gcd g a.natAbs/G from ?_]
   ·exact h1
   ·rw [Int.gcd,Int.natAbs_natCast,←Nat.gcd_div hg ha]
    congr 1
    obtain⟨r,hr⟩:=hl a (by simp)
    rw [hr,Int.mul_ediv_cancel_left _ (show (G:Int)≠0 by omega),Int.natAbs_mul,Int.natAbs_natCast,Nat.mul_div_cancel_left _ hG0]
 have:=key x 0 hx (Nat.dvd_zero _)
 rw [Nat.zero_div]at this
 exact this
theorem x6(D:Nat)(x:List Int):gcD D x∣D:=Nat.gcd_dvd_left _ _
theorem YJ{D:Nat}(hD:0<D)(x:List Int):0<gcD D x:=Nat.gcd_pos_of_pos_left _ hD
theorem YK(D:Nat)(x:List Int):∀c∈x,((gcD D x:Nat):Int)∣c:=fun c hc=>Int.dvd_trans (Int.ofNat_dvd.2 (Nat.gcd_dvd_right _ _)) (i6 x c hc)
theorem BA{v:Int}{D:Nat}(hD:0<D):(dU v D).num<0↔v<0:=by
 rw [A8 hD]
 have hg:0<Nat.gcd D v.natAbs:=Nat.gcd_pos_of_pos_left _ hD
 obtain⟨n,hn⟩:((Nat.gcd D v.natAbs:Nat):Int)∣v:=Int.ofNat_dvd_left.2 (Nat.gcd_dvd_right _ _)
 generalize Nat.gcd D v.natAbs=g at *
 rw [hn,Int.mul_ediv_cancel_left _ (show (g:Int)≠0 by omega)]
 constructor
 ·intro h;exact Int.mul_neg_of_pos_of_neg (by omega) h
 ·intro h
  rcases Int.lt_or_le n 0 with h1 | h1
  ·exact h1
  ·have:=Int.mul_nonneg (show (0:Int)≤g by omega) h1
   omega
theorem afi{D:Nat}(hD:0<D){x:List Int}(hx:0<x.length):VA (qd x D)=dU (mD x) D:=by
 have IU:(D:Int)≠0:=by omega
 have e:(nth (qd x D) ((qd x D).length-1)).num<0↔lead x<0:=by
  rw [LC IU,BA hD];simp [lead]
 have hG:=YJ hD x
 have e2:dU (YH (NH (qd x D)) (qd x D)) (NH (qd x D))=dU (bO x) D:=by
  rw [LI hD,afh hD x (x6 D x) (YK D x)]
  have h1:D/gcD D x*gcD D x=D:=Nat.div_mul_cancel (x6 D x)
  have h2:bO x/gcD D x*gcD D x=bO x:=Nat.div_mul_cancel (Nat.gcd_dvd_right _ _)
  have h3:0<D/gcD D x:=Nat.div_pos (Nat.le_of_dvd hD (x6 D x)) hG
  have h4:=YE (v:=(bO x/gcD D x:Nat)) (D:=(D/gcD D x:Nat)) (l:=(gcD D x:Nat)) (by omega) (by omega)
  rw [←Int.natCast_mul,←Int.natCast_mul,h1,h2]at h4
  exact h4.symm
 unfold VA mD
 rw [e2]
 by_cases h:lead x<0
 ·rw [if_pos (e.2 h),if_pos h,←YF IU];grind
 ·rw [if_neg (fun h2=>h (e.1 h2)),if_neg h]
theorem YL{v D:Int}(hD:D≠0)(hv:v≠0):1/dU v D=dU D v:=by
 rw [fP hD,fP hv]
 have h1:=iF hD
 have h2:=iF hv
 grind
theorem VB{x:List Int}(cx:Cn x)(hx:x ≠ []):mD x≠0:=by
 have h0:=o6 x
 have gx:=cV cx hx
 omega
theorem aqt{D:Nat}(hD:0<D){x:List Int}(cx:Cn x)(hx:x ≠ []):qpr (qd x D)=qs (s9 x):=by
 have qB:=List.length_pos_iff.2 hx
 have IU:(D:Int)≠0:=by omega
 have hp:=VB cx hx
 have hc:=iF hp
 have hDc:=iF IU
 rw [qpr,afi hD qB,YL IU hp,lJ,s9,←xR]
 congr 1
 simp only [qd,qs,List.map_map]
 refine List.map_congr_left fun v hv=>?_
 simp only [Function.comp_apply]
 obtain⟨w,rfl⟩:=LA x v hv
 have:qY (mD x) (mD x*w)=w:=by
  unfold qY
  rw [if_pos (Int.mul_emod_right _ _)]
  exact Int.mul_ediv_cancel_left _ hp
 rw [this,fP IU,fP hp,Rat.intCast_mul]
 grind
theorem QL(x:List Int):kW x=if lead x<0 then iH (s9 x)else s9 x:=by
 unfold s9 mD
 split
 ·have e:∀v,qY (-(bO x:Int)) v = - qY (bO x) v:=fun v=>by
   unfold qY
   rw [Int.emod_neg,Int.ediv_neg]
   split<;>simp
  refine Cn.ext (Cn.cut _) (Cn.iH _) fun t=>?_
  rw [D6,dE,kW,dE]
  have h1:=iL (t:=t) (-1) (qY (bO x)) x
  have h2:(x.map fun v=>qY (bO x) v * -1)=x.map (qY (-(bO x:Int))):=List.map_congr_left fun v _=>by rw [e];omega
  rw [h2]at h1
  rw [h1];omega
 ·rfl
theorem VC(x:List Int)(D:Nat)(hD:0<D){s n:Nat}(hx:Bd 2 s n x)(sD:sz 2 D≤s)(cx:Cn x)(h0:x ≠ [])(vT:1≤s)(hs:s≤YY)(hn:n<1099511627776) :
  aE env.P 155 [PP (qd x D)] (.dX [RR (dU (mD x) D),PI (s9 x)]):=by
 have IU:(D:Int)≠0:=by omega
 have qB:=List.length_pos_iff.2 h0
 have hp:=VB cx h0
 have hlen:=hx.len
 have sdiv:∀(a b:Nat),sz 2 (a:Int)≤s→sz 2 ((a/b:Nat):Int)≤s:=fun a b h=>Nat.le_trans (dY (by decide) (by rw [Int.natAbs_natCast,Int.natAbs_natCast];exact Nat.div_le_self a b)) h
 have spc:sz 2 (mD x)≤s:=by
  have:=nM hx.sz
  refine Nat.le_trans (dY (by decide) (Nat.le_of_eq ?_)) this
  rw [o6];rfl
 have tk:∀i,(qd x D).take i=qd (x.take i) D:=fun i=>by simp [qd,List.map_take]
 have hc:=afi hD qB
 have h1:=tA (qd x D) (k:=s) hs vT (fun q hq=>by
   simp only [List.mem_map]at hq
   obtain⟨v,hv,rfl⟩:=hq
   exact vZ IU (hx.sz v hv) sD) (by simp;omega) (by simpa using h0)
  (fun i=>by rw [tk,LI hD];exact sdiv _ _ sD)
  (fun i=>by
   rw [tk,LI hD]
   have:=Nat.div_pos (Nat.le_of_dvd hD (x6 D (x.take i))) (YJ hD _)
   omega)
  (fun i=>by
   rw [tk,LI hD,afh hD (x.take i) (x6 D x) (fun c hc=>YK D x c (List.mem_of_mem_take hc))]
   exact sdiv _ _ (nM fun c hc=>hx.sz c (List.mem_of_mem_take hc)))
  (by rw [hc];exact vZ IU (Nat.le_trans spc hs) (Nat.le_trans sD hs))
  (by rw [hc];exact fun h=>hp ((A6 IU).1 h))
  (by rw [hc,YL IU hp];exact vZ hp (Nat.le_trans sD hs) (Nat.le_trans spc hs))
 rw [hc,aqt hD cx h0,rQ]at h1
 exact h1
theorem afj{x:List Int}{s n:Nat}(hx:Bd 2 s n x):Bd 2 s n (s9 x):=Bd.cut ⟨by simpa using hx.len,fun c hc=>by
 simp only [List.mem_map]at hc
 obtain⟨v,hv,rfl⟩:=hc
 refine Nat.le_trans (dY (by decide) ?_) (hx.sz v hv)
 unfold qY
 split
 ·exact Int.natAbs_ediv_le_natAbs _ _
 ·simp⟩
theorem QM(x:List Int)(D:Nat)(hD:0<D){s n:Nat}(hx:Bd 2 s n x)(sD:sz 2 D≤s)(cx:Cn x)(vT:1≤s)(hs:s≤YY)(hn:n<1099511627776) :
  aE env.P 159 [PP (qd x D)] (PI (kW x)):=by
 have IU:(D:Int)≠0:=by omega
 have bp:=afj hx
 have hN:=IJ (s9 x) (bp.mono hs (by omega))
 rw [QL]
 have hP:∃q:Rat,aE env.P 155 [PP (qd x D)] (.dX [RR q,PI (s9 x)])∧(q.num<0↔lead x<0):=by
  by_cases h0:x = []
  ·subst h0
   refine⟨(mD []:Int),?_,?_⟩
   ·have:=E5 [] hx cx vT hs hn
    rw [RR,iN]
    exact this
   ·rw [show mD ([]:List Int)=0 by decide];decide
  ·refine⟨_,VC x D hD hx sD cx h0 vT hs hn,?_⟩
   rw [BA hD]
   have gx:=cV cx h0
   unfold mD
   split<;>omega
 obtain⟨q,hP,hq⟩:=hP
 generalize s9 x=y at *
 generalize qd x D=l at *
 refine cB [(0,PP l)] Tryz.func159 ?_
 refine aA [0] ?_
 refine aL [3,4] hP ?_
 refine aK [4,12] ?_
 refine bH ?_ ?_<;>intro h
 ·simp at h
  rw [if_pos (hq.1 h)]
  refine aL [2] hN ?_
  exact bZ
 ·have h:¬q.num<0:=by simpa using h
  rw [if_neg (fun h2=>h (hq.2 h2))]
  refine W.skip ?_
  refine aA [2] ?_
  exact bZ
theorem QN(x y:List Int){s s' N:Nat}(hx:Bd 2 s N x)(hy:Bd 2 s' N y)(cx:Cn x)(cy:Cn y)(UR:0<y.length)(hs:1≤s)(hB:s+(N+1)*(s'+N+2)+s'+N+N+10<137438953472) :
  aE env.P 256 [PP (qs x),PP (qs y)] (.dX [PP (qd (aP (dmd x y).Q) (dmd x y).D),PP (qd (dmd x y).r (dmd x y).D)]):=by
 have hNx:=hx.len
 have hNy:=hy.len
 have hl:=dH cy UR
 have hls:=iD hy
 have hM:x.length+1≤N+1:=by omega
 refine dA (E:=env) (fun id=>if id=17 then 2 else 0) [(0,PP (qs x)),(1,PP (qs y))] Tryz.func256 rfl (by kernel_rfl) (by kernel_rfl) (show 2≤84 by decide) (by simp) ?_
 obtain⟨R0,J9⟩:∃R0,R0=dms y (x.length+1) ⟨List.replicate (j8 x y) 0,x,1⟩:=⟨_,rfl⟩
 rw [show dmd x y=R0 from J9.symm]
 have hkN:j8 x y≤N:=by unfold j8;omega
 have hkk:(if (x.length:Int)-(y.length:Int)+1<0 then 0 else(x.length:Int)-(y.length:Int)+1)=(j8 x y:Int):=by unfold j8;split<;>omega
 have hI0:wB x y ⟨List.replicate (j8 x y) 0,x,1⟩:=wB.start cx
 generalize zA:j8 x y=k0 at *
 obtain⟨a0,ha0⟩:∃a0,a0=qs x:=⟨_,rfl⟩
 obtain⟨yq,hyq⟩:∃yq,yq=qs y:=⟨_,rfl⟩
 have la0:a0.length=x.length:=by rw [ha0];simp
 have lyq:yq.length=y.length:=by rw [hyq];simp
 rw [←ha0,←hyq]
 refine aA [0,1] ?_
 refine W.sr ?_
 simp (disch:=omega) [gw,la0,lyq,hkk]
 refine bI [0,1,6] ?_
 refine aK [0,1,6,21,22] ?_
 refine W.block ?_
 refine W.aY (fun k σ=>∃(i ver:Nat) (els:List (List PV)) (rows:Pm.Rows) (clk:Nat),σ=⟨fa [(0,PP a0),(1,PP yq),(6, .own 19 ver 0 k0),(21, .int .i64 k0),(22, .int .i64 i)],rows,clk⟩ ∧
  rows 19=some ⟨ver,31,4,els⟩∧els.length=k0∧(∀e∈els,e.length=4)∧els.take i=emap ri (List.replicate i 0)∧k=k0-i∧i≤k0) k0 ?_ ?_
 ·exact⟨_, .refl,0,_,List.replicate k0 [.nil, .bool false, .nil, .bool false],_,_,rfl,by simp,by simp,by simp,by simp [emap],by omega,by omega⟩
 rintro k _ ⟨i,ver,els,rows,clk,rfl,hr,nS,P6,rX,hk,hi⟩
 have ND:bK 4 els=True:=by simp only [bK,eq_iff_iff,iff_true];exact P6
 refine bT [0,1,6,21,22,23] ?_
 refine bH ?_ ?_<;>intro h
 ·have h:i<k0:=by simp at h;omega
  refine j7 ?_
  refine aA [0,1,6,7,21,22] ?_
  refine W.bY (fun K hK=>?_)
  simp (disch:=omega) [gw]
  refine aC uD ?_
  have vX:i<els.length:=by omega
  have hE:vG els i 4=True:=by
   simp only [eq_iff_iff,iff_true]
   exact⟨els[i],List.getElem?_eq_getElem vX,by rw [P6 _ (List.getElem_mem vX)];omega⟩
  have hS:iO els i 0 [aH aG (aR DD 0), .bool false,aH aG (aR DD 1), .bool false]=els.set i (ri 0):=by
   have h4:=P6 _ (List.getElem_mem vX)
   rw [iO,List.getElem?_eq_getElem vX]
   simp [List.drop_of_length_le,h4]
  simp (disch:=omega) [gw,hr,hE,hS]
  refine W.lw [0,1,6,21,22] hK ?_;clear hK K;simp
  refine W.bY (fun K hK=>?_);simp (disch:=omega) [gw]
  refine hK _ ⟨k0-(i+1),_,aB _ [0,1,6,21,22],by omega,i+1,ver,els.set i (ri 0),_,_,rfl,by simp,by simpa using nS,fun e he=>?_,?_,by omega,by omega⟩
  ·rcases List.mem_or_eq_of_mem_set he with h1 | h1
   ·exact P6 e h1
   ·rw [h1];rfl
  ·rw [mW rX (by omega),List.replicate_succ']
   simp [emap]
 have h:i=k0:=by simp at h;omega
 subst h
 have oT:els=emap re (qd (List.replicate i 0) 1):=by rw [LD,E3,←rX,bM nS]
 subst oT
 rw [show a0=qd x 1 by rw [ha0,LD]]
 clear rX P6 nS ND hk hi hkk ha0 la0 a0
 refine eW ?_
 refine W.seq ?_
 refine W.block ?_
 generalize hdd:s'+N+2=d at *
 have hNN:∀j,(x.length+1-j)*d≤(N+1)*d:=fun j=>Nat.mul_le_mul_right _ (by omega)
 refine W.aY (fun n σ=>∃(Q r:List Int) (D:Int) (v6:Nat) (rows:Pm.Rows) (clk:Nat),σ=⟨fa [(0,PP (qd r D)),(1,PP yq),(6, .own 19 v6 0 i)],rows,clk⟩ ∧
  rows 19=some ⟨v6,31,4,emap re (qd Q D)⟩∧Q.length=i∧wB x y ⟨Q,r,D⟩∧r.length<n∧n≤x.length+1∧dms y n ⟨Q,r,D⟩=R0∧Bd 2 (s+(x.length+1-n)*d) N r∧sz 2 D≤s+(x.length+1-n)*d) (x.length+1) ?_ ?_
 ·exact⟨_,aB _ [0,1,6],_,x,1,_,_,_,rfl,hr,by simp,hI0,by omega,by omega,J9.symm,hx.mono (by omega) (by omega),Nat.le_trans (dV (k:=1) (by decide) (by decide)) (by omega)⟩
 clear hr rows clk ver
 rintro n _ ⟨Q,r,D,v6,rows,clk,rfl,hr,hQ,hI,hrn,hnM,hd,br,bD⟩
 have hD:D≠0:=hI.d
 have hnn:=hNN n
 obtain⟨a,ha⟩:∃a,a=qd r D:=⟨_,rfl⟩
 have la:a.length=r.length:=by rw [ha];simp
 rw [←ha]
 refine W.seq ?_
 refine W.sr ?_
 simp (disch:=omega) [gw,la,lyq]
 refine bI [0,1,6,34] ?_
 refine bH ?_ ?_<;>intro h
 ·have h:y.length≤r.length:=by simp at h;omega
  obtain⟨n,rfl⟩:∃m,n=m+1:=⟨n-1,by omega⟩
  obtain⟨k,hk⟩:∃k,k=r.length-y.length:=⟨_,rfl⟩
  have hkI:(r.length:Int)-(y.length:Int)=k:=by omega
  have hki:k<i:=by have:=hI.q.resolve_right (show ¬r.length<y.length by omega);simp only at this;omega
  have hI2:=hI.step cy UR h
  have G2:=LF (σ:=⟨Q,r,D⟩) UR h
  rw [dms,if_neg (show ¬r.length<y.length by omega)]at hd
  simp only [dst,←hk]at hI2 G2 hd
  have hT:s+(x.length+1-n)*d=s+(x.length+1-(n+1))*d+d:=by
   rw [show x.length+1-n=(x.length+1-(n+1))+1 by omega,Nat.add_mul,Nat.one_mul];omega
  have hn3:=hNN n
  generalize hU:s+(x.length+1-(n+1))*d=U at *
  have hlr:=iD br
  have hNr:=br.len
  have B2:D*lead y≠0:=Int.mul_ne_zero hD hl
  have zD2:sz 2 (D*lead y)≤U+s':=cP (by decide) bD hls
  have hp:nth a (r.length-1)=dU (lead r) D:=by rw [ha,LC hD];rfl
  have SO:nth yq (y.length-1)=(lead y:Rat):=by rw [hyq,aeH];rfl
  have awX:=PY (dU (lead r) D) (lead y:Rat) (vZ hD (Nat.le_trans hlr (by show U≤137438953472;omega)) (Nat.le_trans bD (by show U≤137438953472;omega))) (qV (Nat.le_trans hls (by show s'≤137438953472;omega)) (by decide)) (iF hl)
  rw [ajD hD hl]at awX
  have hSc:=qW yq (dU (lead r) (D*lead y)) (by rw [hyq];exact QOK.qs (fun c hc=>Nat.le_trans (hy.sz c hc) (by show s'≤137438953472;omega)) (by omega)) (vZ B2 (Nat.le_trans hlr (by show U≤137438953472;omega)) (Nat.le_trans zD2 (by show U+s'≤137438953472;omega)))
  rw [hyq,abw B2,←hyq]at hSc
  have bsc:Bd 2 (U+s') N (a9 y (lead r)):=(hy.a9 (by decide) hlr).mono (by omega) (by omega)
  have bw:Bd 2 (U+s') N (List.replicate k 0++a9 y (lead r)):=⟨by have:=qT y (lead r);simp;omega,fun c hc=>by
   rcases List.mem_append.1 hc with h1 | h1
   ·rw [(List.mem_replicate.1 h1).2,lG];omega
   ·exact bsc.sz c h1⟩
  have brl:Bd 2 (U+s') N (r.map (· * lead y)):=⟨by simpa using br.len,fun c hc=>by
   simp only [List.mem_map]at hc
   obtain⟨v,hv,rfl⟩:=hc
   exact cP (by decide) (br.sz v hv) hls⟩
  have hSu:=afb (qd (r.map (· * lead y)) (D*lead y)) (qd (List.replicate k 0++a9 y (lead r)) (D*lead y)) _
   (U9 B2 brl zD2 (by show U+s'≤137438953472;omega) (by omega)) (U9 B2 bw zD2 (by show U+s'≤137438953472;omega) (by omega)) (ajF B2 _) (U9 B2 bw.iH zD2 (by show U+s'≤137438953472;omega) (by omega))
  rw [ajE B2,U8 hD hl,←ha]at hSu
  have er:i3 (r.map (· * lead y)) (iH (List.replicate k 0++a9 y (lead r)))=yW y (lead y) (lead r) k r:=Cn.ext (Cn.i3 _ _) (Cn.fS _ _) fun t=>by
   rw [sV,eK,D6,eJ,rO,cU,yW,jM,cU,dQ,oY,List.length_replicate];grind
  have br2:Bd 2 (U+d) N (yW y (lead y) (lead r) k r):=by
   rw [←er]
   exact(Bd.i3 (by decide) brl bw.iH).mono (by omega) (by omega)
  rw [er]at hSu
  have ew:qd (List.replicate k 0++a9 y (lead r)) (D*lead y)=List.replicate k 0++qd (a9 y (lead r)) (D*lead y):=by
   simp only [qd,List.map_append,List.map_replicate,xY B2]
  rw [ew]at hSu
  have lb:(qd (a9 y (lead r)) (D*lead y)).length≤N:=by have:=bsc.len;simpa using this
  have ae1:(qd Q D).set k (dU (lead r) (D*lead y))=qd ((Q.map (· * lead y)).set k (lead r)) (D*lead y):=by
   rw [←U8 hD hl Q,qd,qd,List.map_set]
  have hQl:(qd Q D).length=i:=by simpa using hQ
  refine W.skip ?_
  refine W.block ?_
  generalize hz:qd Q D=z at *
  generalize qd (a9 y (lead r)) (D*lead y)=b at *
  generalize VD:dU (lead r) (D*lead y)=c at *
  generalize SP:dU (lead r) D=p at *
  generalize hlq:(lead y:Rat)=lq at *
  generalize ha2:qd (yW y (lead y) (lead r) k r) (D*lead y)=a2 at *
  refine W.sr ?_
  simp (disch:=omega) [gw,la,lyq,hkI]
  refine bI [0,1,6,8] ?_
  have aHM:0<r.length:=by omega
  have e1:((r.length:Int)-1).toNat=r.length-1:=by omega
  have e2:((y.length:Int)-1).toNat=y.length-1:=by omega
  refine W.sd ?_
  simp (disch:=omega) [gw,la,lyq,e1,e2,hp,SO]
  refine cM awX ?_
  rw [if_pos (by kernel_rfl)]
  simp (disch:=omega) [gw]
  refine bI [0,1,6,8,9] ?_
  have hkl:k<z.length:=by omega
  refine W.sr ?_
  simp (disch:=omega) [gw,hr,hkl]
  refine bI [0,1,6,8,9] ?_
  refine aA [0,1,6,8,9,10] ?_
  refine aK [0,1,6,8,9,10,60,61] ?_
  refine W.block ?_
  refine W.aY (fun m σ=>∃(j v9 v10 v6:Nat) (els:List (List PV)) (rows:Pm.Rows) (clk:Nat),σ=⟨fa [(0,PP a),(1,PP yq),(6, .own 19 v6 0 i),(9, .ptr 9 v9 0 0),(10, .own 58 v10 0 k),(60, .int .i64 k),(61, .int .i64 j)],rows,clk⟩ ∧
   rows 19=some ⟨v6,31,4,emap re (z.set k c)⟩∧rows 9=some ⟨v9,31,4,[[aH aG (aR DD c.num.natAbs), .bool (decide (c.num<0)),aH aG (aR DD c.den), .bool false]]⟩ ∧
   rows 58=some ⟨v10,31,4,els⟩∧els.length=k∧(∀e∈els,e.length=4)∧els.take j=emap ri (List.replicate j 0)∧m=k-j∧j≤k) k ?_ ?_
  ·exact⟨_,aB _ [0,1,6,9,10,60,61],0,_,_,_,List.replicate k [.nil, .bool false, .nil, .bool false],_,_,rfl,by simp [hr],by simp,by simp,by simp,by simp,by simp [emap],by omega,by omega⟩
  clear hr rows clk v6
  rintro m _ ⟨j,v9,v10,v6,els,rows,clk,rfl,hr,IW,qZ,nS,P6,rX,hm,hj⟩
  have ND:bK 4 els=True:=by simp only [bK,eq_iff_iff,iff_true];exact P6
  refine bT [0,1,6,9,10,60,61,62] ?_
  refine bH ?_ ?_<;>intro h
  ·have h:j<k:=by simp at h;omega
   refine j7 ?_
   refine aA [0,1,6,9,10,11,60,61] ?_
   refine W.bY (fun K hK=>?_)
   simp (disch:=omega) [gw]
   refine aC uD ?_
   have vX:j<els.length:=by omega
   have hE:vG els j 4=True:=by
    simp only [eq_iff_iff,iff_true]
    exact⟨els[j],List.getElem?_eq_getElem vX,by rw [P6 _ (List.getElem_mem vX)];omega⟩
   have hS:iO els j 0 [aH aG (aR DD 0), .bool false,aH aG (aR DD 1), .bool false]=els.set j (ri 0):=by
    have h4:=P6 _ (List.getElem_mem vX)
    rw [iO,List.getElem?_eq_getElem vX]
    simp [List.drop_of_length_le,h4]
   simp (disch:=omega) [gw,qZ,hE,hS]
   refine W.lw [0,1,6,9,10,60,61] hK ?_;clear hK K;simp
   refine W.bY (fun K hK=>?_);simp (disch:=omega) [gw]
   refine hK _ ⟨k-(j+1),_,aB _ [0,1,6,9,10,60,61],by omega,j+1,v9,v10,v6,els.set j (ri 0),_,_,rfl,by simp [hr],by simp [IW],by simp,by simpa using nS,fun e he=>?_,?_,by omega,by omega⟩
   ·rcases List.mem_or_eq_of_mem_set he with h1 | h1
    ·exact P6 e h1
    ·rw [h1];rfl
   ·rw [mW rX (by omega),List.replicate_succ']
    simp [emap]
  have h:j=k:=by simp at h;omega
  subst h
  have oT:els=emap re (List.replicate j 0):=by
   have h1:emap ri (List.replicate j 0)=emap re (List.replicate j 0):=by simp [emap,iN]
   rw [←h1,←rX,bM nS]
  subst oT
  clear rX P6 nS ND
  refine eW ?_
  refine W.NB (fun K hK=>?_)
  rw [if_pos rfl,gB]
  have M9:((List.take r.length a).drop 0)=a:=by rw [List.drop_zero,List.take_of_length_le (by omega)]
  simp (disch:=omega) [gw,la,lyq,IW,KF,M9]
  refine aC hSc ?_
  have yV:List.take (j+b.length) (List.replicate j 0++b)=List.replicate j 0++b:=List.take_of_length_le (by simp)
  simp (disch:=omega) [gw,qZ,yV]
  refine cM hSu ?_
  subst ha2
  have bU:rows 19=some ⟨v6,31,4,emap re (qd ((Q.map (· * lead y)).set j (lead r)) (D*lead y))⟩:=by rw [hr,ae1]
  refine hK _ ⟨n,_,aB _ [0,1,6],by omega,(Q.map (· * lead y)).set j (lead r),yW y (lead y) (lead r) j r,D*lead y,v6,_,_,rfl,by simp [bU],by simpa using hQ,hI2,by omega,by omega,hd,?_,?_⟩
  ·rw [hT];exact br2
  ·rw [hT];exact Nat.le_trans zD2 (by omega)
 ·have h:r.length<y.length:=by simp at h;omega
  rw [ajG h]at hd
  subst hd
  refine eW ?_
  have hcq:=xS (qd Q D) (by simp;omega)
  rw [xZ hD]at hcq
  have hQl:(qd Q D).length=i:=by simpa using hQ
  have vU:=bM hQl
  rw [←ha]
  generalize qd Q D=z at *
  generalize qd (aP Q) D=z2 at *
  refine W.sr ?_
  simp (disch:=omega) [gw,hr,vU]
  refine cN [4,5] hcq ?_
  exact bZ
theorem QO{x y:List Int}(cy:Cn y)(hy:0<y.length):∀(j:Nat),j≤x.length→exs y j (List.replicate j 0++x.drop j) (bR (aP (x.take j)) y)=some (x,[])
 | 0,_=>by
  have:bR (aP (x.take 0)) y = []:=Cn.ext (Cn.bR _ _) Cn.nil fun t=>by rw [dQ,dE];simp [V]
  rw [exs,this];rfl
 | j+1,h=>by
  have ih:=QO (x:=x) cy hy j (by omega)
  have hly:=dH cy hy
  have ht:=bG (l:=x) (i:=j) (by omega)
  have hdr:x.drop j=nth x j::x.drop (j+1):=by
   rw [List.drop_eq_getElem_cons (l:=x) (i:=j) (by omega),show nth x j=x[j]from cE (by omega)]
  rw [exs]
  by_cases hv:nth x j=0
  ·have hw:aP (x.take (j+1))=aP (x.take j):=by rw [ht,hv,kJ]
   rw [hw]
   have h1:=sW (x:=aP (x.take j)) hy
   have h2:=bW (x.take j)
   rw [List.length_take]at h2
   rw [if_pos (by omega),←ih]
   rw [hdr,hv,List.replicate_succ',List.append_assoc];rfl
  ·have hw:aP (x.take (j+1))=x.take j ++ [nth x j]:=by rw [ht];exact jD hv _
   have cw:Cn (x.take j ++ [nth x j]):=jD hv _
   have hwl:(x.take j ++ [nth x j]).length=j+1:=by simp;omega
   have hlw:lead (x.take j ++ [nth x j])=nth x j:=by
    rw [lead,hwl,Nat.add_sub_cancel,cE (by omega)]
    have:(x.take j).length=j:=by simp;omega
    simp [List.getElem_append_right,this]
   rw [hw]
   have hl:=kP cw cy (by omega) hy
   have hd:=zE cw cy (by omega) hy
   rw [hwl]at hl
   rw [hlw]at hd
   rw [if_neg (by omega),hd,if_pos (Int.mul_emod_left _ _),Int.mul_ediv_cancel _ hly]
   have e1:fS (bR (x.take j ++ [nth x j]) y) (bR (rV j (nth x j)) y)=bR (aP (x.take j)) y:=Cn.ext (Cn.fS _ _) (Cn.bR _ _) fun t=>by
    rw [jM,dQ,dQ,dQ,dE,eJ,oV,oY,show(x.take j).length=j by simp;omega]
    grind
   have e2:(List.replicate (j+1) 0++x.drop (j+1)).set j (nth x j)=List.replicate j 0++x.drop j:=by
    rw [hdr,List.replicate_succ',List.append_assoc,List.set_append_right _ _ (by simp)]
    simp
   rw [e1,e2]
   exact ih
theorem VE{x y:List Int}(cx:Cn x)(cy:Cn y)(hy:0<y.length):exact (bR x y) y=some x:=by
 have hk:j8 (bR x y) y=x.length:=by
  rcases Nat.eq_zero_or_pos x.length with h | h
  ·have:x = []:=List.eq_nil_of_length_eq_zero h
   have e:bR x y = []:=Cn.ext (Cn.bR _ _) Cn.nil fun t=>by rw [dQ,this];simp [V]
   rw [e,this];simp [j8];omega
  ·have:=kP cx cy h hy
   unfold j8;omega
 have h1:=QO (x:=x) cy hy x.length (Nat.le_refl _)
 rw [List.take_length,show aP x=x from cx,List.drop_length,List.append_nil]at h1
 rw [exact,hk,h1,exF,show aP x=x from cx]
theorem LJ{y h:List Int}(cy:Cn y)(hy:0<y.length)(e:∀t,V t y*V t h=0):aP h = []:=by
 by_cases hh:aP h = []
 ·exact hh
 ·exfalso
  have h1:bR y (aP h) = []:=Cn.ext (Cn.bR _ _) Cn.nil fun t=>by rw [dQ,dE,e];rfl
  have h2:=kP cy (Cn.cut h) hy (List.length_pos_iff.2 hh)
  rw [h1]at h2
  have:=List.length_pos_iff.2 hh
  simp at h2;omega
theorem QP{a b:List Int}(h:aP (fS a b) = [])(t:Int):V t a=V t b:=by
 have h1:=jM (t:=t) a b
 rw [←dE,h]at h1
 have:V t ([]:List Int)=0:=rfl
 omega
theorem abA{D:Int}(h:D≠0)(x:List Int):qd (x.map (· * D)) D=qs x:=by
 have:=U8 (D:=1) (l:=D) (by decide) h x
 rw [Int.one_mul,LD]at this
 exact this
theorem afk{x y q:List Int}(cx:Cn x)(cy:Cn y)(hy:0<y.length)(cq:Cn q)(h:∀t,V t x=V t q*V t y):qd (aP (dmd x y).Q) (dmd x y).D=qs q∧(dmd x y).r = []:=by
 obtain⟨hI,hr⟩:=ajH cx cy hy
 generalize dmd x y=σ at *
 have hv:=hI.v
 have e:∀t,V t σ.r=V t y*V t (fS (q.map (· * σ.D)) σ.Q):=fun t=>by
  have h1:=hv t
  rw [h]at h1
  rw [jM,eK]
  grind
 have h1:=H5 hI.c cy hy e hr
 have h2:aP (fS (q.map (· * σ.D)) σ.Q) = []:=LJ cy hy fun t=>by rw [←e,h1];rfl
 have e2:aP σ.Q=q.map (· * σ.D):=Cn.ext (Cn.cut _) (mB cq hI.d) fun t=>by rw [dE];exact(QP h2 t).symm
 rw [e2]
 exact⟨abA hI.d q,h1⟩
end Go.Proofs.YtiobceocpabjdaaGreat
