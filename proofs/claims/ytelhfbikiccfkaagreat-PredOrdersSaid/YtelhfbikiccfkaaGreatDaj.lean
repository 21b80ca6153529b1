import Derived.Test.YtelhfbikiccfkaaGreatDaf
import Derived.Test.YtelhfbikiccfkaaGreatDai
set_option linter.unusedSimpArgs false
set_option linter.unusedVariables false
namespace Go.Proofs.YtelhfbikiccfkaaGreat
open Go Pm
theorem aeh{t:Int}(h0:0<t)(h1:t<4294967296):∃s:Nat,s≤31∧(32:Int)-nb t.toNat=s∧2147483648≤t*2^s∧(t+1)*2^s≤4294967296:=by
 have h2:nb t.toNat≤32:=oY.2 (by omega)
 have h3:1≤nb t.toNat:=by
  rcases Nat.eq_zero_or_pos (nb t.toNat)with h | h
  ·have:=oY.1 (Nat.le_of_eq h);omega
  ·exact h
 obtain⟨k,hk⟩:∃k,nb t.toNat=k+1:=⟨nb t.toNat-1,by omega⟩
 have h4:t.toNat<2^(k+1):=oY.1 (Nat.le_of_eq hk)
 have h5:2^k≤t.toNat:=by
  rcases Nat.lt_or_ge t.toNat (2^k)with h | h
  ·have:=oY.2 h;omega
  ·exact h
 have e1:(2:Int)^(k+1)*2^(31-k)=4294967296:=by rw [←Int.pow_add,show k+1+(31-k)=32 by omega];rfl
 have e2:(2:Int)^k*2^(31-k)=2147483648:=by rw [←Int.pow_add,show k+(31-k)=31 by omega];rfl
 have hp:(0:Int)<2^(31-k):=Int.pow_pos (by decide)
 have q1:((2^k:Nat):Int)=(2:Int)^k:=Int.natCast_pow 2 k
 have q2:((2^(k+1):Nat):Int)=(2:Int)^(k+1):=Int.natCast_pow 2 (k+1)
 refine⟨31-k,by omega,by omega,?_,?_⟩
 ·have:=Int.mul_le_mul_of_nonneg_right (show (2:Int)^k≤t by omega) (Int.le_of_lt hp)
  omega
 ·have:=Int.mul_le_mul_of_nonneg_right (show t+1≤(2:Int)^(k+1)by omega) (Int.le_of_lt hp)
  omega
theorem aaK{y:List Int}(hc:aL y=y)(h:y ≠ []):nth y (y.length-1)≠0:=by
 intro h0
 have hl:0<y.length:=List.length_pos_iff.2 h
 have e:y=y.take (y.length-1) ++ [0]:=by
  have:=aY (l:=y) (i:=y.length-1) (by omega)
  rw [h0,show y.length-1+1=y.length by omega,List.take_length]at this
  exact this
 have h1:=j9 (y.take (y.length-1))
 rw [←e,hc]at h1
 have h2:=cG (y.take (y.length-1))
 rw [←h1,List.length_take]at h2
 omega
theorem aei:N 0=us []:=rfl
theorem aej{m i:Nat}{X D:List Int}{Y g:Int}(lX:cW 4294967296 X)(lD:cW 4294967296 D)(hYb:Y<4294967296^(m+2))(hY0:0<Y)(wL:i+m+3≤X.length)(hDl:D.length=(X.drop i).length)(hDd:D.drop (m+3)=(X.drop i).drop (m+3))
  (hg:g=V 4294967296 ((X.drop i).take (m+3))/Y) (hDv:V 4294967296 (D.take (m+3))=V 4294967296 ((X.drop i).take (m+3))%Y) (c8:V 4294967296 (X.drop (i+1))<Y) :
  V 4294967296 ((X.take i++D).drop i)<Y∧V 4294967296 (X.take i++D)=V 4294967296 X-4294967296^i*(g*Y):=by
 have hl:(X.take i).length=i:=by simp;omega
 have e1:(X.take i++D).drop i=D:=by rw [List.drop_append,hl,List.drop_of_length_le (by omega)];simp
 have hD3:=kX (b:=4294967296) D (m+3) (by rw [hDl];simp;omega)
 have hX3:=kX (b:=4294967296) (X.drop i) (m+3) (by simp;omega)
 have hXi:=kX (b:=4294967296) X i (by omega)
 have hz:V 4294967296 ((X.drop i).drop (m+3))=0:=by
  have h1:=kX (b:=4294967296) (X.drop (i+1)) (m+2) (by simp;omega)
  have h2:(X.drop (i+1)).drop (m+2)=(X.drop i).drop (m+3):=by
   rw [List.drop_drop,List.drop_drop];congr 1;omega
  have h3:=bZ (b:=4294967296) (by decide) ((lX.drop (i+1)).take (m+2))
  have h4:=bZ (b:=4294967296) (by decide) ((lX.drop i).drop (m+3))
  rw [h2]at h1
  rcases Int.lt_or_le 0 (V 4294967296 ((X.drop i).drop (m+3)))with h5 | h5
  ·exfalso
   have:=Int.mul_le_mul_of_nonneg_left (show 1≤V 4294967296 ((X.drop i).drop (m+3))by omega) (show 0≤(4294967296:Int)^(m+2)by omega)
   omega
  ·omega
 rw [hDd,hz,Int.mul_zero,Int.add_zero]at hD3
 rw [hz,Int.mul_zero,Int.add_zero]at hX3
 have hm:=Int.emod_lt_of_pos (V 4294967296 ((X.drop i).take (m+3))) hY0
 have hde:=Int.mul_ediv_add_emod (V 4294967296 ((X.drop i).take (m+3))) Y
 rw [←hg,←hDv,←hX3,←hD3]at hde
 refine⟨by rw [e1,hD3,hDv];exact hm,?_⟩
 rw [eH,hl,hXi,←hde]
 grind
theorem O1(a b:List Int)(ha:qI a)(hb:qI b)(h0:V 4294967296 b=0):aD env.P 256 [us a,us b] (.fE [us [],us [], .int .i64 2]):=by
 have hlb:=hb.len
 have T9:=ha.len
 have hcb:=cG b
 have hy:aL b = []:=by rw [tB eB hb.xX];show aP LL (V 4294967296 b).toNat = [];rw [h0];rfl
 refine b6 [(0,us a),(1,us b)] Tryz.func256 ?_
 refine aA [0,1] ?_
 refine iM ?_
 refine aB (dZ a (by omega)) ?_
 simp (disch:=omega) [gw]
 refine aB (dZ b (by omega)) ?_
 simp (disch:=omega) [gw]
 refine bN [0,1] ?_
 rw [hy]
 refine W.seq ?_
 refine W.block ?_
 refine aA [0,1,18] ?_
 refine bF ?_ ?_<;>intro h
 ·refine aA [4,5,6] ?_
  refine W.ret ?_
  simp [go]
  rfl
 ·cases h
theorem EW(a b:List Int)(ha:qI a)(hb:qI b)(h0:V 4294967296 b≠0)(T9:a.length<1099511627774)(hlb:b.length<1099511627774) :
  aD env.P 256 [us a,us b] (.fE [N (V 4294967296 a/V 4294967296 b),N (V 4294967296 a%V 4294967296 b), .int .i64 0]):=by
 have hca:=cG a
 have hcb:=cG b
 have hVa:=dF (b:=4294967296) a
 have hVb:=dF (b:=4294967296) b
 have lx:=eS ha.xX
 have ly:=eS hb.xX
 have cx:=dX a
 have cy:=dX b
 rw [←hVa,←hVb]
 rw [←hVb]at h0
 refine b6 [(0,us a),(1,us b)] Tryz.func256 ?_
 refine aA [0,1] ?_
 refine iM ?_
 refine aB (dZ a (by omega)) ?_
 simp (disch:=omega) [gw]
 refine aB (dZ b (by omega)) ?_
 simp (disch:=omega) [gw]
 refine bN [0,1] ?_
 have hxl:(aL a).length<1099511627774:=by omega
 have OW:(aL b).length<1099511627774:=by omega
 clear hVa hVb hca hcb
 generalize aL a=x at *
 generalize aL b=y at *
 have hyn:y ≠ []:=fun h=>h0 (by rw [h];rfl)
 have hyp:0<y.length:=List.length_pos_iff.2 hyn
 have hY0:0<V 4294967296 y:=by have:=bZ (b:=4294967296) (by decide) ly;omega
 have hX0:=bZ (b:=4294967296) (by decide) lx
 refine W.seq ?_
 refine W.block ?_
 refine aA [0,1,18] ?_
 refine bF ?_ ?_<;>intro h
 ·exfalso;simp at h;exact hyn h
 clear h
 refine aA [0,1,22] ?_
 refine bF ?_ ?_<;>intro h
 ·have h:x.length<y.length:=by simp at h;omega
  have rU:=kB (b:=4294967296) (by decide) lx ly cy h
  rw [Int.ediv_eq_zero_of_lt hX0 rU,Int.emod_eq_of_lt hX0 rU]
  refine iM ?_
  refine aB (oC x (by omega) lx) ?_
  simp (disch:=omega) [gw]
  refine bN [4,5,6] ?_
  refine W.ret ?_
  simp [go]
  rfl
 have rU:y.length≤x.length:=by simp at h;omega
 clear h
 refine aA [0,1,30] ?_
 refine bF ?_ ?_<;>intro h
 ·have h:y.length=1:=by simp at h;omega
  obtain⟨w,rfl⟩:∃w,y = [w]:=match y,h with | [w],_=>⟨w,rfl⟩
  have hw:=(cW.cons.1 ly).1
  have hV1:V 4294967296 [w]=w:=oW
  rw [hV1]at h0 hY0 ⊢
  have R4:=Int.emod_nonneg (V 4294967296 x) h0
  have IE:=Int.emod_lt_of_pos (V 4294967296 x) hY0
  have kR:=aiq x w (by omega) lx hY0 hw.2
  have lr:cW 4294967296 [V 4294967296 x%w]:=cW.cons.2 ⟨⟨R4,by omega⟩,cW.nil⟩
  have q9:=dZ [V 4294967296 x%w] (by simp)
  rw [xW lr,oW]at q9
  have hnw:nth [w] 0=w:=rfl
  generalize V 4294967296 x/w=qq at *
  generalize V 4294967296 x%w=rr at *
  refine W.sr ?_
  simp (disch:=omega) [gw,hnw]
  refine bU [7,8] kR ?_
  refine aJ [4,5,6] q9 ?_
  exact b7
 have hy2:2≤y.length:=by simp at h;omega
 clear h
 obtain⟨m,hm⟩:∃m,y.length=m+2:=⟨y.length-2,by omega⟩
 have htn:=aaK cy hyn
 rw [show y.length-1=m+1 by omega]at htn
 have htl:=ly.nth (i:=m+1) (by omega)
 obtain⟨s,aiy,hsn,sO,hs2⟩:=aeh (t:=nth y (m+1)) (by omega) htl.2
 have hLZ:=aov (nth y (m+1)) htl.1 htl.2
 rw [hsn]at hLZ
 have hp:(0:Int)<2^s:=Int.pow_pos (by decide)
 have auL:(2:Int)^s≤2147483648:=by
  have:=Int.ofNat_le.2 (Nat.pow_le_pow_right (show 0<2 by decide) aiy)
  simpa using this
 have hbm:(0:Int)<4294967296^(m+1):=Int.pow_pos (by decide)
 have aoG:=pJ (b:=4294967296) (by decide) lx
 have hVy:=kX (b:=4294967296) y (m+1) (by omega)
 have hy1:V 4294967296 (y.drop (m+1))=nth y (m+1):=by rw [fP (by omega),List.drop_of_length_le (by omega),oW]
 rw [hy1]at hVy
 have azT:=bZ (b:=4294967296) (by decide) (ly.take (m+1))
 have hy3:=pJ (b:=4294967296) (by decide) (ly.take (m+1))
 rw [List.length_take,Nat.min_eq_left (by omega)]at hy3
 have hyU:V 4294967296 y*2^s<4294967296^(m+2):=by
  have h1:V 4294967296 y<(nth y (m+1)+1)*4294967296^(m+1):=by rw [hVy];grind
  have h2:=Int.mul_lt_mul_of_pos_right h1 hp
  have h3:=Int.mul_le_mul_of_nonneg_right hs2 (Int.le_of_lt hbm)
  have e:(nth y (m+1)+1)*4294967296^(m+1)*2^s=(nth y (m+1)+1)*2^s*4294967296^(m+1):=by grind
  rw [show m+2=(m+1)+1 from rfl,Int.pow_succ]
  omega
 have hyL:2147483648*4294967296^(m+1)≤V 4294967296 y*2^s:=by
  have h1:nth y (m+1)*4294967296^(m+1)≤V 4294967296 y:=by rw [hVy,Int.mul_comm];omega
  have h2:=Int.mul_le_mul_of_nonneg_right h1 (Int.le_of_lt hp)
  have h3:=Int.mul_le_mul_of_nonneg_right sO (Int.le_of_lt hbm)
  have e:nth y (m+1)*4294967296^(m+1)*2^s=nth y (m+1)*2^s*4294967296^(m+1):=by grind
  omega
 have hxU:V 4294967296 x*2^s<4294967296^(x.length+1):=by
  rw [Int.pow_succ]
  exact Int.lt_of_lt_of_le (Int.mul_lt_mul_of_pos_right aoG hp) (Int.mul_le_mul_of_nonneg_left (by omega) (Int.le_of_lt (Int.pow_pos (by decide))))
 obtain⟨x',hwx,aE4,lx',aoI⟩:=OV x s (x.length+1) aiy (by omega) lx (by omega) (by omega) hxU
 obtain⟨y',hwy,auM,ly',aaL⟩:=OV y s (m+2) aiy (by omega) ly (by omega) (by omega) hyU
 have azV:2147483648≤nth y' (m+1):=by
  have h1:=kX (b:=4294967296) y' (m+1) (by omega)
  have h2:V 4294967296 (y'.drop (m+1))=nth y' (m+1):=by rw [fP (by omega),List.drop_of_length_le (by omega),oW]
  have h3:=pJ (b:=4294967296) (by decide) (ly'.take (m+1))
  rw [List.length_take,Nat.min_eq_left (by omega)]at h3
  rw [h2,aaL]at h1
  rcases Int.lt_or_le (nth y' (m+1)) 2147483648 with h4 | h4
  ·exfalso
   have:=Int.mul_le_mul_of_nonneg_left (show nth y' (m+1)+1≤2147483648 by omega) (Int.le_of_lt hbm)
   rw [Int.mul_add,Int.mul_comm _ 2147483648]at this
   omega
  ·exact h4
 have aiz:0<V 4294967296 y':=by rw [aaL];exact Int.mul_pos hY0 hp
 have azW:V 4294967296 y'<4294967296^(m+2):=by rw [aaL];exact hyU
 have hxm:m+2≤x.length:=by omega
 have hqx:V 4294967296 x/V 4294967296 y=V 4294967296 x'/V 4294967296 y':=by rw [aoI,aaL,Int.mul_ediv_mul_of_pos_left _ _ hp]
 have hrx:V 4294967296 x%V 4294967296 y=V 4294967296 x'%V 4294967296 y'/2^s:=by
  rw [aoI,aaL]
  have e1:=Int.emod_def (V 4294967296 x*2^s) (V 4294967296 y*2^s)
  rw [Int.mul_ediv_mul_of_pos_left _ _ hp]at e1
  have e2:=Int.emod_def (V 4294967296 x) (V 4294967296 y)
  rw [e1,e2]
  have e3:V 4294967296 x*2^s-V 4294967296 y*2^s*(V 4294967296 x/V 4294967296 y)=(V 4294967296 x-V 4294967296 y*(V 4294967296 x/V 4294967296 y))*2^s:=by grind
  rw [e3,Int.mul_ediv_cancel _ (by omega)]
 have auN:V 4294967296 (x'.drop (x.length-m-1))<V 4294967296 y':=by
  have h1:=kX (b:=4294967296) x' (x.length-m-1) (by omega)
  have h2:=bZ (b:=4294967296) (by decide) (lx'.take (x.length-m-1))
  rw [aoI]at h1
  have h3:V 4294967296 x*2^s<4294967296^(x.length-m-1)*(4294967296^(m+1)*2^s):=by
   rw [←Int.mul_assoc,←Int.pow_add,show x.length-m-1+(m+1)=x.length by omega]
   exact Int.mul_lt_mul_of_pos_right aoG hp
  have h4:V 4294967296 (x'.drop (x.length-m-1))<4294967296^(m+1)*2^s:=Int.lt_of_mul_lt_mul_left (a:=4294967296^(x.length-m-1)) (by omega) (Int.le_of_lt (Int.pow_pos (by decide)))
  have h5:=Int.mul_le_mul_of_nonneg_left auL (Int.le_of_lt hbm)
  rw [aaL]
  rw [Int.mul_comm _ 2147483648]at h5
  omega
 rw [hqx,hrx]
 refine W.skip ?_
 have a1:((m:Int)+2-1)=((m+1:Nat):Int):=by omega
 refine W.sr ?_
 simp (disch:=omega) [gw,hm,a1]
 refine bU [0,1,9] hLZ ?_
 replace hwx:iX env.P 264 [us x, .int .i64 s, .int .i64 ((x.length:Int)+1)] 182 1 (emap u32 x'):=hwx
 replace hwy:iX env.P 264 [us y, .int .i64 s, .int .i64 ((m:Int)+2)] 182 1 (emap u32 y'):=hwy
 refine W.sr ?_
 simp (disch:=omega) [gw,hm]
 refine alf hwx 58 (by simp) (by simp) (by simp) ?_
 simp (disch:=omega) [gw,hm]
 refine alf hwy 63 (by simp) (by simp) (by simp) ?_
 simp (disch:=omega) [gw]
 refine bN [0,9,10,11] ?_
 refine W.freeze 63 (by simp) (fun K hK=>?_)
 simp
 refine hK _ ?_;clear hK K
 refine W.sr ?_
 simp (disch:=omega) [gw,auM]
 refine bN [0,9,10,11,12] ?_
 obtain⟨ql,hql⟩:∃ql,x.length=ql+m+1:=⟨x.length-m-1,by omega⟩
 rw [show x.length-m-1=ql by omega]at auN
 have alk:x'.length=ql+m+2:=by omega
 have aq:(x.length:Int)-((m:Int)+2)+1=(ql:Int):=by omega
 refine W.sr ?_
 simp (disch:=omega) [gw,aq]
 refine bN [4,9,10,11,12] ?_
 clear hwx hwy hVy hy1 azT hy3 hyU hyL hxU hqx hrx htn htl sO hs2 hsn hLZ aoG hY0 hX0
 refine aM [4,9,10,11,12,13] ?_
 refine W.block ?_
 refine W.bE (fun q σ=>∃(v4:Nat) (X Q:List Int) (rows:Pm.Rows) (clk:Nat),σ=⟨fa [(4, .own 71 v4 0 ql),(9, .int .i64 s),(10, .own 58 0 0 (ql+m+2)),(11,us y'),(12, .int .i64 ((m:Int)+2)),(13, .int .i64 ((q:Int)-1))],rows,clk⟩ ∧
  rows 58=some ⟨0,182,1,emap u32 X⟩∧rows 71=some ⟨v4,182,1,emap u32 Q⟩∧q≤ql∧X.length=ql+m+2∧Q.length=ql∧cW 4294967296 X∧cW 4294967296 Q ∧
  V 4294967296 X+4294967296^q*V 4294967296 (Q.drop q)*V 4294967296 y'=V 4294967296 x'∧V 4294967296 (X.drop q)<V 4294967296 y') ql ?_ ?_
 ·exact⟨_,Gh.fr [(4, .own 71 _ 0 ql),(9, .int .i64 s),(10, .own 58 0 0 (ql+m+2)),(11,us y'),(12, .int .i64 ((m:Int)+2)),(13, .int .i64 ((ql:Int)-1))] (by simp [alk];exact rfl),_,x',List.replicate ql 0,_,_,rfl,by simp,by simp,by omega,alk,by simp,lx',cW.rep (by decide) _,by simp [V],auN⟩
 rintro q _ ⟨v4,X,Q,rows,clk,rfl,aiA,aoJ,hq,hXl,hQl,lX,lQ,hVX,hXU⟩
 refine aM [4,9,10,11,12,13,76] ?_
 refine bF ?_ ?_<;>intro h
 ·have SB:0<q:=by simp at h;omega
  obtain⟨i,rfl⟩:∃i,q=i+1:=⟨q-1,by omega⟩
  clear h
  have ei:((i+1:Nat):Int)-1=i:=by omega
  rw [ei]
  have auO:V 4294967296 ((X.drop i).take (m+3))<4294967296*V 4294967296 y':=by
   have h1:=kX (b:=4294967296) (X.drop i) (m+3) (by simp;omega)
   have h2:=bZ (b:=4294967296) (by decide) ((lX.drop i).drop (m+3))
   have h3:=Int.mul_nonneg (show (0:Int)≤4294967296^(m+3)from Int.le_of_lt (Int.pow_pos (by decide))) h2
   have h4:V 4294967296 (X.drop i)=nth X i+4294967296*V 4294967296 (X.drop (i+1)):=by rw [fP (by omega)];rfl
   have h5:=lX.nth (i:=i) (by omega)
   omega
  have aiC:=fun(rows:Pm.Rows) clk hr=>UG (id:=58) (ver:=0) (off:=i) (m:=m) X y' rows clk hr auM (by omega) ly' azV lX (by omega) (by omega) auO
  have e6:(i:Int)+((m:Int)+2)+1=((i+m+3:Nat):Int):=by omega
  have e7:((i:Int)+(m:Int)+3).toNat-i=m+3:=by omega
  refine jV ?_
  refine W.cE (fun K hK=>?_)
  simp (disch:=omega) [gw,aiA,hXl,e6,e7]
  refine atn (aiC _ _ aiA) ?_
  rintro r rows' lZ ⟨D,rfl,rfl,rfl,hDl,lD,hDd,hDv⟩
  have iP:=aej (g:=V 4294967296 ((X.drop i).take (m+3))/V 4294967296 y') lX lD azW aiz (by omega) hDl hDd rfl hDv hXU
  have hg0:0≤V 4294967296 ((X.drop i).take (m+3))/V 4294967296 y':=Int.ediv_nonneg (bZ (by decide) ((lX.drop i).take _)) (Int.le_of_lt aiz)
  have hg1:V 4294967296 ((X.drop i).take (m+3))/V 4294967296 y'<4294967296:=Int.ediv_lt_of_lt_mul aiz auO
  generalize V 4294967296 ((X.drop i).take (m+3))/V 4294967296 y'=g at *
  have azY:(X.take i++D).length=ql+m+2:=by simp [hDl];omega
  have lX2:cW 4294967296 (X.take i++D):=cW.append.2 ⟨lX.take i,lD⟩
  obtain⟨azZ,az0⟩:=iP
  generalize X.take i++D=X2 at *
  simp (disch:=omega) [gw,aoJ,hQl]
  refine W.lw [4,9,10,11,12,13] hK ?_;clear hK K;simp
  refine W.cE (fun K hK=>?_);simp (disch:=omega) [gw]
  refine hK _ ⟨i,_,aC _ [4,9,10,11,12,13],by omega,v4,X2,Q.set i g,_,_,rfl,by simp,by simp,by omega,azY,by simp [hQl],lX2,lQ.set ⟨hg0,hg1⟩,?_,azZ⟩
  rw [az0,fP (l:=Q.set i g) (i:=i) (by simp;omega),fG (by omega),List.drop_set_of_lt (by omega),←hVX]
  simp only [V,Int.pow_succ]
  generalize V 4294967296 (Q.drop (i+1))=vq at *
  grind
 ·have SB:q=0:=by simp at h;omega
  subst SB
  simp only [List.drop_zero,Int.pow_zero,Int.one_mul]at hVX hXU
  have hX0:=bZ (b:=4294967296) (by decide) lX
  have hQe:V 4294967296 x'/V 4294967296 y'=V 4294967296 Q:=by
   have e:(V 4294967296 Q+1)*V 4294967296 y'=V 4294967296 Q*V 4294967296 y'+V 4294967296 y':=by grind
   rw [Int.ediv_eq_iff_of_pos aiz]
   constructor<;>omega
  have hRe:V 4294967296 x'%V 4294967296 y'=V 4294967296 X:=by
   have h3:=Int.emod_def (V 4294967296 x') (V 4294967296 y')
   rw [hQe,Int.mul_comm]at h3
   omega
  have hXt:V 4294967296 (X.take (m+2))=V 4294967296 X:=by
   have h1:=kX (b:=4294967296) X (m+2) (by omega)
   have h2:=bZ (b:=4294967296) (by decide) (lX.drop (m+2))
   have h3:=bZ (b:=4294967296) (by decide) (lX.take (m+2))
   have h4:(0:Int)<4294967296^(m+2):=Int.pow_pos (by decide)
   rcases Int.lt_or_le 0 (V 4294967296 (X.drop (m+2)))with h5 | h5
   ·exfalso
    have:=Int.mul_le_mul_of_nonneg_left (show 1≤V 4294967296 (X.drop (m+2))by omega) (Int.le_of_lt h4)
    omega
   ·have:V 4294967296 (X.drop (m+2))=0:=by omega
    rw [this]at h1;omega
  rw [hQe,hRe,←hXt]
  have zQ:=bQ hQl
  have zX:=bQ hXl
  have q9:=dZ Q (by omega)
  rw [xW lQ]at q9
  have az1:=air (X.take (m+2)) s aiy (by simp;omega) (lX.take _)
  refine eV ?_
  refine W.freeze 71 (by simp [aoJ]) (fun K hK=>?_)
  simp [aoJ,zQ]
  refine hK _ ?_;clear hK K
  refine W.freeze 58 (by simp [aiA]) (fun K hK=>?_)
  simp [aiA,zX]
  refine hK _ ?_;clear hK K
  have e8:((m:Int)+2).toNat=m+2:=by omega
  refine iQ ?_
  refine aB q9 ?_
  simp (disch:=omega) [gw,hXl,e8]
  refine bU [4,5,6] az1 ?_
  exact b7
theorem K4{A B:Int}(hB:0<B)(hA:0≤A):(A%B=0→(-A)/B = -(A/B)∧(-A)%B=0)∧(0<A%B→(-A)/B = -(A/B+1)∧(-A)%B=B-A%B):=by
 have h1:=Int.mul_ediv_add_emod A B
 have h2:=Int.emod_lt_of_pos A hB
 constructor
 ·intro h
  refine(Int.ediv_emod_unique hB).2 ⟨?_,by omega,by omega⟩
  rw [Int.mul_neg];omega
 ·intro h
  refine(Int.ediv_emod_unique hB).2 ⟨?_,by omega,by omega⟩
  rw [Int.mul_neg,Int.mul_add];omega
theorem aek(n m:Bool){A B:Int}(hB:0<B)(hA:0≤A) :
  (¬(n=true∧0<A%B)→(if n=true then -A else A)/(if m=true then -B else B)=(if (n != m)=true then -(A/B)else A/B)∧(if n=true then -A else A)%(if m=true then -B else B)=A%B) ∧
  (n=true→0<A%B→(if n=true then -A else A)/(if m=true then -B else B)=(if (n != m)=true then -(A/B+1)else A/B+1)∧(if n=true then -A else A)%(if m=true then -B else B)=B-A%B):=by
 obtain⟨p1,p2⟩:=K4 hB hA
 have h0:=Int.emod_nonneg A (show B≠0 by omega)
 cases n<;>cases m<;>simp [Int.ediv_neg,Int.emod_neg]
 ·exact⟨fun h=>by have:=p1 (by omega);exact⟨this.1,by omega⟩,p2⟩
 ·exact⟨fun h=>by have:=p1 (by omega);exact⟨by omega,by omega⟩,fun h=>by have:=p2 h;exact⟨by omega,this.2⟩⟩
theorem ael(n:Bool)(l:List Int)(h:qI l):aD env.P 158 [IV n l] (I (V 4294967296 l)):=by
 refine b6 [(0,IV n l)] Tryz.func158 ?_
 refine aA [1,2] ?_
 refine iM ?_
 refine bW (oC l h.len h.xX) ?_
 refine aB (gS _ (r8 h) false) ?_
 simp (disch:=omega) [gw]
 refine bN [2] ?_
 exact b7
theorem aem(n:Bool)(l:List Int):aD env.P 111 [IV n l] (.int .i64 (if l.length=0 then 0 else if n=true then -1 else 1)):=by
 refine b6 [(0,IV n l)] Tryz.func111 ?_
 refine cB [1] ?_
 refine W.block ?_
 refine aA [1,3] ?_
 refine bF ?_ ?_<;>intro h
 ·have h:l = []:=by simp at h;exact h
  subst h
  refine aA [2] ?_
  exact b7
 ·have h:l.length≠0:=by simp at h;simpa using h
  rw [if_neg h]
  refine aA [8] ?_
  refine bF ?_ ?_<;>intro h
  ·subst h
   refine aA [2] ?_
   exact b7
  ·subst h
   refine W.skip ?_
   refine aA [2] ?_
   exact b7
theorem aiD(p:RP)(hp:p.length<9223372036854775808):aD env.P 87 [Pg p] (.int .i64 ((p.length:Int)-1)):=by
 refine b6 [(0,Pg p)] Tryz.func87 ?_
 refine aA [0] ?_
 refine aA [2] ?_
 exact b7
theorem O2(p:RP)(h:oQ p):aD env.P 110 [Pg p] (I (lead (eX p))):=by
 have hl:=h.len
 have gH:=cG (p.map gv)
 rw [List.length_map]at gH
 refine b6 [(0,Pg p)] Tryz.func110 ?_
 refine aA [0,2] ?_
 refine W.seq ?_
 refine aJ [0,2] (eY p h) ?_
 rw [show aL (p.map gv)=eX p from rfl]at gH ⊢
 generalize eX p=x at *
 refine aA [0,2,7] ?_
 refine bF ?_ ?_<;>intro h
 ·have h:x = []:=by simp at h;exact h
  subst h
  refine aA [2] ?_
  refine W.ret ?_
  simp [go]
  exact⟨Int.le_refl 0,rfl⟩
 ·have h:x ≠ []:=by simp at h;exact h
  have pL:0<x.length:=List.length_pos_iff.2 h
  refine W.skip ?_
  have e1:((x.length:Int)-1).toNat=x.length-1:=by omega
  refine W.sr ?_
  simp (disch:=omega) [gw,e1]
  refine bN [2] ?_
  refine W.ret ?_
  simp [go,lead]
theorem O3{x:Int}{k:Nat}(h0:0≤x)(h:x<4294967296^k):sz LL x≤k:=cQ eB (by
 have e:((4294967296^k:Nat):Int)=(4294967296:Int)^k:=Int.natCast_pow 4294967296 k
 show x.natAbs<4294967296^k
 omega)
theorem XO{x:Int}{k:Nat}(h0:0≤x)(h:sz LL x≤k)(hk:k<1099511627776):qI (aP LL x.toNat):=⟨eN eB _,by
 have e:x.natAbs=x.toNat:=by omega
 unfold sz at h
 rw [e]at h
 omega⟩
theorem aen{x:Int}(h0:0≤x):V 4294967296 (aP LL x.toNat)=x:=by
 have:=jG eB x.toNat
 rw [show((LL:Nat):Int)=4294967296 from rfl]at this
 rw [this];omega
theorem aiE{x:Int}(h0:0≤x):(0<(aP LL x.toNat).length)↔0<x:=by
 rw [List.length_pos_iff,Ne,eZ eB];omega
theorem O4(n m:Bool)(l k:List Int)(GR:qI l)(h':qI k)(hl:l.length<1099511627774)(hk:k.length<1099511627774) :
  aD env.P 257 [IV n l,IV m k] (if V 4294967296 k=0 then .fE [I 0,I 0, .int .i64 2]else .fE [I (iv n l/iv m k),I (iv n l%iv m k), .int .i64 0]):=by
 have p1:=r8 GR
 have p2:=r8 h'
 refine b6 [(0,IV n l),(1,IV m k)] Tryz.func257 ?_
 refine aA [2,3,4,5] ?_
 by_cases h0:V 4294967296 k=0
 ·rw [if_pos h0]
  refine aJ [2,3,4,5,6,7,8] (O1 l k GR h' h0) ?_
  refine aM [2,3,4,5,6,7,8,19] ?_
  refine bF ?_ ?_<;>intro h
  ·refine aA [4,5,6] ?_
   refine W.ret ?_
   simp [go]
   rfl
  ·cases h
 ·rw [if_neg h0]
  have hB:0<V 4294967296 k:=by omega
  have WX:=EW l k GR h' h0 hl hk
  obtain⟨d1,d2⟩:=aek n m hB p1
  rw [show(if n=true then -V 4294967296 l else V 4294967296 l)=iv n l from rfl,show(if m=true then -V 4294967296 k else V 4294967296 k)=iv m k from rfl]at d1 d2
  have q0:=Int.ediv_nonneg p1 p2
  have r0:=Int.emod_nonneg (V 4294967296 l) h0
  have r1:=Int.emod_lt_of_pos (V 4294967296 l) hB
  have pF:sz LL (V 4294967296 l/V 4294967296 k)≤l.length:=O3 q0 (Int.lt_of_le_of_lt (Int.ediv_le_self _ p1) (pJ (by decide) GR.xX))
  have az2:sz LL (V 4294967296 l%V 4294967296 k)≤k.length:=O3 r0 (Int.lt_trans r1 (pJ (by decide) h'.xX))
  refine aJ [2,3,4,5,6,7,8] WX ?_
  generalize V 4294967296 l/V 4294967296 k=Q at *
  generalize V 4294967296 l%V 4294967296 k=R at *
  refine aM [2,3,4,5,6,7,8,19] ?_
  refine bF ?_ ?_<;>intro h
  ·cases h
  refine W.skip ?_
  refine iM ?_
  refine bW (gS Q q0 (n != m)) ?_
  refine bU [2,3,4,5,7,8] (gS R r0 false) ?_
  refine W.gJ (fun σ=>∃(rows:Pm.Rows) (clk:Nat),σ=⟨fa [(4, .ptr 4 2 0 0),(5, .ptr 5 3 0 0)],rows,clk⟩∧rows 4=some ⟨2,38,2,[ie (iv n l/iv m k)]⟩∧rows 5=some ⟨3,38,2,[ie (iv n l%iv m k)]⟩) ?_ ?_
  ·
   by_cases aoK:n=true∧0<R
   ·obtain⟨rfl,hR⟩:=aoK
    obtain⟨e1,e2⟩:=d2 rfl hR
    rw [e1,e2]
    have hdp:=(aiE r0).2 hR
    have hQl:=XO q0 pF GR.len
    have hRl:=XO r0 az2 h'.len
    have auP:=XK (aP LL Q.toNat) [1] hQl.len (by simp) hQl.xX (cW.cons.2 ⟨by decide,cW.nil⟩)
    rw [aen q0,oW]at auP
    have auQ:=KY k (aP LL R.toNat) h'.len hRl.len h'.xX hRl.xX
    rw [aen r0,T8,if_neg (by omega)]at auQ
    refine W.fY (fun σ=>∃(rows:Pm.Rows) (clk:Nat),σ=⟨fa [(2, .ptr 2 0 0 0),(3, .ptr 3 1 0 0),(4, .ptr 4 2 0 0),(5, .ptr 5 3 0 0),(7,N Q),(8,N R),(38, .bool true)],rows,clk⟩∧rows 2=some ⟨0,38,2,[[.bool true,us l]]⟩∧rows 3=some ⟨1,38,2,[[.bool m,us k]]⟩∧rows 4=some ⟨2,38,2,[ie (if true=m then Q else -Q)]⟩∧rows 5=some ⟨3,38,2,[ie R]⟩) (fun K hK=>?_) ?_
    ·simp (disch:=omega) [gw,hdp]
     exact hK _ _ (aC _ [2,3,4,5,7,8,38]) ⟨_,_,rfl,by simp,by simp,by simp,by simp⟩
    rintro _ ⟨rows,clk,rfl,cC,cM,fM,eW⟩
    refine bF ?_ ?_<;>intro h
    ·refine aJ [2,3,4,5,7,8] auP ?_
     refine W.sr ?_
     simp (disch:=omega) [gw,cM]
     refine bU [2,3,4,5,7,8] auQ ?_
     refine W.cE (fun K hK=>?_)
     simp (disch:=omega) [gw,cC,cM]
     refine aB (gS (Q+1) (by omega) (!m)) ?_
     simp (disch:=omega) [gw]
     refine aB (gS (V 4294967296 k-R) (by omega) false) ?_
     simp (disch:=omega) [gw,fM,eW]
     exact hK _ ⟨_,aC _ [4,5],_,_,rfl,by cases m<;>simp,by simp⟩
    ·cases h
   ·obtain⟨e1,e2⟩:=d1 aoK
    rw [e1,e2]
    refine W.fY (fun σ=>∃(rows:Pm.Rows) (clk:Nat),σ=⟨fa [(4, .ptr 4 2 0 0),(5, .ptr 5 3 0 0),(38, .bool false)],rows,clk⟩∧rows 4=some ⟨2,38,2,[ie (if (n != m)=true then -Q else Q)]⟩∧rows 5=some ⟨3,38,2,[ie R]⟩) (fun K hK=>?_) ?_
    ·cases n with
     | false =>
      simp (disch:=omega) [gw]
      exact hK _ _ (aC _ [4,5,38]) ⟨_,_,rfl,by cases m<;>simp,by simp⟩
     | true =>
      have hR:R=0:=by simp at aoK;omega
      subst hR
      simp (disch:=omega) [gw]
      exact hK _ _ (aC _ [4,5,38]) ⟨_,_,rfl,by cases m<;>simp,by simp⟩
    rintro _ ⟨rows,clk,rfl,fM,eW⟩
    refine bF ?_ ?_<;>intro h
    ·cases h
    ·refine W.skip ?_
     exact⟨_,aC _ [4,5],_,_,rfl,fM,eW⟩
  rintro _ ⟨rows,clk,rfl,fM,eW⟩
  generalize iv n l/iv m k=q at *
  generalize iv n l%iv m k=r at *
  refine W.sd ?_
  simp (disch:=omega) [gw,fM,eW]
  refine a9 (by kernel_rfl) ?_
  simp (disch:=omega) [gw,fM,eW]
  rw [if_pos (by kernel_rfl)]
  simp (disch:=omega) [gw,fM,eW]
  refine a9 (by kernel_rfl) ?_
  simp (disch:=omega) [gw]
  refine bN [4,5,6] ?_
  exact b7
theorem UK(n m:Bool)(l k:List Int)(h:qI l)(h':qI k)(hl:l.length<1099511627774)(hk:k.length<1099511627774)(h0:V 4294967296 k≠0) :
  aD env.P 235 [IV n l,IV m k] (if iv n l%iv m k=0 then .fE [I (iv n l/iv m k), .int .i64 0]else .fE [I 0, .int .i64 3]):=by
 have WX:=O4 n m l k h h' hl hk
 rw [if_neg h0]at WX
 have MZ:0≤iv n l%iv m k:=Int.emod_nonneg _ (by unfold iv;split<;>omega)
 generalize iv n l/iv m k=q at *
 generalize iv n l%iv m k=r at *
 have hrn:(aP LL r.natAbs = [])↔r=0:=by rw [eZ eB];omega
 refine b6 [(0,IV n l),(1,IV m k)] Tryz.func235 ?_
 refine aA [2,3,4] ?_
 refine aJ [4,6,7,8] WX ?_
 refine aM [4,6,7,8,17] ?_
 refine bF ?_ ?_<;>intro h
 ·cases h
 refine W.skip ?_
 refine aM [4,6,23] ?_
 by_cases hr:r=0
 ·rw [if_pos hr]
  refine bF ?_ ?_<;>intro h
  ·exfalso;have h2:=hrn.2 hr;rw [h2]at h;simp at h
  ·refine W.skip ?_
   refine aA [4,5] ?_
   exact b7
 ·rw [if_neg hr]
  refine bF ?_ ?_<;>intro h
  ·refine aA [4,5] ?_
   refine W.ret ?_
   simp [go]
   rfl
  ·exfalso;simp at h;exact hr (hrn.1 h)
def bV(l:List Int):Nat:=l.foldl (fun g c=>Nat.gcd g c.natAbs) 0
theorem gcd_one:∀l:List Int,l.foldl (fun g c=>Nat.gcd g c.natAbs) 1=1
 | []=>rfl
 | c::l=>by simp only [List.foldl_cons,Nat.gcd_one_left];exact gcd_one l
theorem UL(l:List Int)(i:Nat)(h:bV (l.take i)=1):bV l=1:=by
 unfold bV at *
 rw [←List.take_append_drop i l,List.foldl_append,h]
 exact gcd_one _
theorem aaM(l:List Int)(i:Nat)(h:i<l.length):bV (l.take (i+1))=Nat.gcd (bV (l.take i)) (nth l i).natAbs:=by
 unfold bV
 rw [aY h,List.foldl_append];rfl
theorem auR(x:Nat):N (x:Int)=us (aP LL x):=rfl
theorem EX{x k:Nat}(h:x<4294967296^k):(aP LL x).length≤k:=CS eB h
theorem EY(p:RP)(K0:Nat)(hK0:K0<1099511627774)(hp:∀c∈p,cW 4294967296 c.2∧c.2.length≤K0)(RZ:p.length<1099511627776):aD env.P 234 [Pg p] (I (bV (p.map gv))):=by
 have hng:∀c∈p,(gv c).natAbs=(V 4294967296 c.2).toNat:=fun c hc=>by
  have:=bZ (b:=4294967296) (by decide) (hp c hc).1
  unfold gv iv;split<;>omega
 refine b6 [(0,Pg p)] Tryz.func234 ?_
 refine aA [0,2] ?_
 refine aA [0,2,3] ?_
 refine W.KS 3 (us []) (by simp) rfl (fun K hK=>?_)
 refine W.lw [0,2,3] hK ?_;clear hK K;simp
 have az3:∀i,i<p.length→(nth (p.map gv) i).natAbs=(V 4294967296 (nth p i).2).toNat:=fun i hi=>by rw [wI];exact hng _ (bS hi)
 refine W.gJ (fun σ=>∃(rows:Pm.Rows) (clk:Nat),σ=⟨fa [(2, .ptr 2 0 0 0),(3,us (aP LL (bV (p.map gv))))],rows,clk⟩∧rows 2=some ⟨0,38,2,[[.bool false, .nil]]⟩∧bV (p.map gv)<4294967296^K0) ?_ ?_
 ·
  refine aA [2,3,10,11,12] ?_
  refine W.block ?_
  refine W.bE (fun q σ=>∃(i:Nat) (rows:Pm.Rows) (clk:Nat),σ=⟨fa [(2, .ptr 2 0 0 0),(3,us (aP LL (bV ((p.map gv).take i)))),(10,Pg p),(11, .int .i64 p.length),(12, .int .i64 i)],rows,clk⟩∧rows 2=some ⟨0,38,2,[[.bool false, .nil]]⟩∧q=p.length-i∧i≤p.length∧bV ((p.map gv).take i)<4294967296^K0) p.length ?_ ?_
  ·exact⟨_,Gh.fr [(2, .ptr 2 0 0 0),(3,us (aP LL (bV ((p.map gv).take 0)))),(10,Pg p),(11, .int .i64 p.length),(12, .int .i64 (0:Nat))] (by simp [bV,mO]),0,_,_,rfl,by simp,by omega,by omega,by simp [bV];exact Nat.pow_pos (by decide)⟩
  rintro q _ ⟨i,rows,clk,rfl,cC,hq,hi,MY⟩
  refine cB [2,3,10,11,12,13] ?_
  refine bF ?_ ?_<;>intro h
  ·have hi:i<p.length:=by simp at h;omega
   obtain⟨xI,hc2⟩:=hp _ (bS hi)
   have hV0:=bZ (b:=4294967296) (by decide) xI
   have hVl:=pJ (b:=4294967296) (by decide) xI
   obtain⟨x0,pL⟩:=Int.eq_ofNat_of_zero_le hV0
   have O5:=oC (nth p i).2 (by omega) xI
   rw [pL,auR]at O5
   have hxb:x0<4294967296^K0:=by
    have e:((4294967296^(nth p i).2.length:Nat):Int)=(4294967296:Int)^(nth p i).2.length:=Int.natCast_pow 4294967296 _
    have e2:4294967296^(nth p i).2.length≤4294967296^K0:=Nat.pow_le_pow_right (by decide) hc2
    omega
   have hgs:=aaM (p.map gv) i (by simpa using hi)
   rw [az3 i hi,pL]at hgs
   simp only [Int.toNat_natCast]at hgs
   refine jV ?_
   refine W.sr ?_
   simp (disch:=omega) [gw,cC]
   refine bN [2,3,5,10,11,12] ?_
   refine aJ [2,3,6,10,11,12] O5 ?_
   refine W.seq ?_
   refine W.block ?_
   refine W.bE (fun q σ=>∃(g x:Nat) (rows:Pm.Rows) (clk:Nat),σ=⟨fa [(2, .ptr 2 0 0 0),(3,us (aP LL g)),(6,us (aP LL x)),(10,Pg p),(11, .int .i64 p.length),(12, .int .i64 i)],rows,clk⟩∧rows 2=some ⟨0,38,2,[[.bool false, .nil]]⟩∧q=x∧Nat.gcd g x=bV ((p.map gv).take (i+1))∧g<4294967296^K0∧x<4294967296^K0) x0 ?_ ?_
   ·exact⟨_, .refl,bV ((p.map gv).take i),x0,_,_,rfl,by simp [cC],rfl,hgs.symm,MY,hxb⟩
   rintro q2 _ ⟨g,x,rows,clk,rfl,cC,hq2,hgx,hg,hx⟩
   refine aM [2,3,6,10,11,12,21] ?_
   refine bF ?_ ?_<;>intro h
   ·have h1:aP LL x ≠ []:=by simp at h;exact List.length_pos_iff.1 h
    have pL:x≠0:=fun h2=>h1 ((eZ eB).2 h2)
    have hlg:=EX hg
    have hlx:=EX hx
    have WX:=EW (aP LL g) (aP LL x) ⟨eN eB _,by omega⟩ ⟨eN eB _,by omega⟩ (by rw [show(4294967296:Int)=((LL:Nat):Int)from rfl,jG eB];omega) (by omega) (by omega)
    rw [show(4294967296:Int)=((LL:Nat):Int)from rfl,jG eB,jG eB,←Int.natCast_emod,auR]at WX
    have hm:=Nat.mod_lt g (show 0<x by omega)
    have hgr:Nat.gcd x (g%x)=Nat.gcd g x:=by rw [Nat.gcd_comm x,←Nat.gcd_rec,Nat.gcd_comm]
    refine W.skip ?_
    refine W.block ?_
    refine aJ [2,6,8,10,11,12] WX ?_
    refine W.cE (fun K hK=>?_);simp (disch:=omega) [gw]
    refine hK _ ⟨g%x,_,aC _ [2,3,6,10,11,12],by omega,x,g%x,_,_,rfl,by simp [cC],rfl,by rw [hgr,hgx],hx,by omega⟩
   ·have h1:aP LL x = []:=by simp at h;exact h
    have pL:x=0:=(eZ eB).1 h1
    subst pL
    rw [Nat.gcd_zero_right]at hgx
    refine eV ?_
    refine W.fY (fun σ=>∃(b:Bool) (rows:Pm.Rows) (clk:Nat),σ=⟨fa [(2, .ptr 2 0 0 0),(3,us (aP LL g)),(10,Pg p),(11, .int .i64 p.length),(12, .int .i64 i),(39, .bool b)],rows,clk⟩∧rows 2=some ⟨0,38,2,[[.bool false, .nil]]⟩∧(b=true→g=1)) (fun K hK=>?_) ?_
    ·by_cases h2:(aP LL g).length=1
     ·obtain⟨w,hw⟩:∃w,aP LL g = [w]:=match aP LL g,h2 with | [w],_=>⟨w,rfl⟩
      have hgv:=jG eB g
      rw [hw,oW]at hgv
      rw [hw]at hK ⊢
      have hnw:nth [w] 0=w:=rfl
      simp (disch:=omega) [gw,hnw]
      exact hK _ _ (aC _ [2,3,10,11,12,39]) ⟨_,_,_,rfl,by simp [cC],fun h3=>by simp at h3;omega⟩
     ·have h2':((aP LL g).length:Int)≠1:=by omega
      have hb:(((aP LL g).length:Int)==1)=false:=by simpa using h2'
      simp (disch:=omega) [gw,hb,h2]
      exact hK _ _ (aC _ [2,3,10,11,12,39]) ⟨_,_,_,rfl,by simp [cC],fun h3=>by cases h3⟩
    rintro _ ⟨b,rows,clk,rfl,cC,hb⟩
    refine bF ?_ ?_<;>intro h
    ·have hg1:=hb h
     subst hg1
     have wD:=UL _ _ hgx.symm
     refine eV ?_
     rw [wD]
     exact⟨_,aC _ [2,3],rows,clk,rfl,cC,by rw [wD]at *;exact hg⟩
    ·refine W.skip ?_
     subst hgx
     refine W.cE (fun K hK=>?_);simp (disch:=omega) [gw]
     refine hK _ ⟨p.length-(i+1),_,aC _ [2,3,10,11,12],by omega,i+1,_,_,rfl,by simp [cC],by omega,by omega,hg⟩
  ·have hi:i=p.length:=by simp at h;omega
   rw [List.take_of_length_le (by simp;omega)]at MY ⊢
   refine eV ?_
   exact⟨_,aC _ [2,3],rows,clk,rfl,cC,MY⟩
 rintro _ ⟨rows,clk,rfl,cC,MY⟩
 have hlg:=EX MY
 have O5:=oC (aP LL (bV (p.map gv))) (by omega) (eN eB _)
 rw [show(4294967296:Int)=((LL:Nat):Int)from rfl,jG eB]at O5
 have auT:=gS (bV (p.map gv):Int) (by omega) false
 refine iM ?_
 refine bW O5 ?_
 refine aB auT ?_
 simp (disch:=omega) [gw,cC]
 refine bN [2] ?_
 exact b7
theorem tI:∀ {l:List Int},l.length≤(aL l).length→aL l=l
 | [],_=>rfl
 | x::l,h=>by
  rw [aL]at h ⊢
  split
  ·rename_i h1
   rw [if_pos h1]at h;simp at h
  ·rename_i h1
   rw [if_neg h1]at h
   rw [tI (by simpa using h)]
theorem O6{b:Int}(hb:1≤b){l:List Int}(hl:cW b l)(h:l ≠ []→b^(l.length-1)≤V b l):aL l=l:=by
 apply tI
 rcases Nat.lt_or_ge (aL l).length l.length with h1 | h1
 ·exfalso
  have h2:=h (by intro h0;subst h0;simp at h1)
  have h3:=pJ (by omega) (eS hl)
  rw [dF]at h3
  obtain⟨m,hm⟩:∃m,l.length-1=(aL l).length+m:=⟨l.length-1-(aL l).length,by omega⟩
  rw [hm,Int.pow_add]at h2
  have h4:1≤b^m:=Int.pow_pos (by omega)
  have h5:=Int.mul_le_mul_of_nonneg_left h4 (show 0≤b^(aL l).length from Int.le_of_lt (Int.pow_pos (by omega)))
  omega
 ·exact h1
@[simp] theorem aiG{l:List Int}{x:Int}:emap u32 l ++ [[.int .u32 x]]=emap u32 (l ++ [x]):=by simp [emap]
theorem zZ(x:Int):aD env.P 141 [RI x] (.bool (decide (x=0))):=by
 refine b6 [(0,RI x)] Tryz.func141 ?_
 refine aA [1] ?_
 refine aA [2] ?_
 refine W.ret ?_
 simp [go]
 have e:((aP DD x.natAbs).length=0)↔x=0:=by rw [List.length_eq_zero_iff,eZ SC];omega
 rw [Bool.eq_iff_iff,decide_eq_true_iff,beq_iff_eq,←e]
 omega
theorem XP{x:Int}:(aP DD x.natAbs).length=0↔x=0:=by rw [List.length_eq_zero_iff,eZ SC];omega
theorem IJ(x:Int):aD env.P 145 [RI x] (.int .i64 x.sign):=by
 refine b6 [(0,RI x)] Tryz.func145 ?_
 refine cB [1] ?_
 refine W.block ?_
 refine aA [1,3] ?_
 refine bF ?_ ?_<;>intro h
 ·have h0:x=0:=by rw [←XP];simp at h;simp [h]
  subst h0
  refine aA [2] ?_
  exact b7
 ·have h0:x≠0:=by rw [Ne,←XP];simp at h;simpa using h
  refine aA [8] ?_
  refine bF ?_ ?_<;>intro h
  ·simp at h
   refine aA [2] ?_
   refine W.ret ?_
   simp [go,Int.sign_eq_neg_one_of_neg h]
  ·simp at h
   refine W.skip ?_
   refine aA [2] ?_
   refine W.ret ?_
   simp [go,Int.sign_eq_one_of_pos (show 0<x by omega)]
theorem tJ(x:Int):aD env.P 18 [RI x] (RI (-x)):=by
 refine b6 [(0,RI x)] Tryz.func18 ?_
 refine aA [1,2] ?_
 refine iM ?_
 refine aB (qA x.natAbs (by omega) (!decide (x<0))) ?_
 simp (disch:=omega) [gw]
 refine bN [2] ?_
 refine W.ret ?_
 have e:(if 0≤x then -(x.natAbs:Int)else x.natAbs) = -x:=by split<;>omega
 simp only [e]
 simp [go]
theorem aaN(a:List Int)(d:Int)(ha:a.length<1099511627776)(la:cW 10000 a)(XQ:0<d)(K5:d≤65536):aD env.P 152 [aG aH a, .int .i64 d] (.fE [Dn (V 10000 a/d), .int .i64 (V 10000 a%d)]):=by
 refine b6 [(0,aG aH a),(1, .int .i64 d)] Tryz.func152 ?_
 refine aA [0,1] ?_
 refine aA [0,1,6] ?_
 refine aA [0,1,6,7] ?_
 refine aM [0,1,6,7,8] ?_
 refine W.block ?_
 refine W.bE (fun k σ=>∃(r:Int) (z:List Int) (ver:Nat) (rows:Pm.Rows) (clk:Nat),σ=⟨fa [(0,aG aH a),(1, .int .i64 d),(6, .own 12 ver 0 a.length),(7, .int .i64 r),(8, .int .i64 ((k:Int)-1))],rows,clk⟩ ∧
  rows 12=some ⟨ver,3,1,emap aH z⟩∧k≤a.length∧z.length=a.length∧cW 10000 z∧0≤r∧r<d∧V 10000 (a.drop k)=d*V 10000 (z.drop k)+r) a.length ?_ ?_
 ·exact⟨_, .refl,0,List.replicate a.length 0,_,_,_,rfl,by simp,by omega,by simp,cW.rep (by decide) _,by omega,XQ,by simp [V]⟩
 rintro k _ ⟨r,z,ver,rows,clk,rfl,hr,hk,hz,lz,MZ,uJ,hV⟩
 refine aM [0,1,6,7,8,17] ?_
 refine bF ?_ ?_<;>intro h
 ·simp at h
  obtain⟨j,rfl⟩:∃j,k=j+1:=⟨k-1,by omega⟩
  clear h
  have hx:=la.nth (i:=j) (by omega)
  have R9:0≤r*10000+nth a j:=by omega
  have sO:r*10000+nth a j<d*10000:=by omega
  have SB:0≤(r*10000+nth a j)/d:=Int.ediv_nonneg R9 (by omega)
  have hq1:(r*10000+nth a j)/d<10000:=Int.ediv_lt_of_lt_mul XQ (by omega)
  have R4:=Int.emod_nonneg (r*10000+nth a j) (show d≠0 by omega)
  have IE:=Int.emod_lt_of_pos (r*10000+nth a j) XQ
  have hdz:d≠0:=by omega
  refine jV ?_
  refine aA [0,1,6,8,9] ?_
  refine W.sr ?_
  simp (disch:=omega) [gw,hr,hdz]
  refine bN [0,1,6,8,9] ?_
  refine W.cE (fun K hK=>?_);simp (disch:=omega) [gw,hdz]
  refine W.lw [0,1,6,7,8] hK ?_;clear hK K;simp
  refine W.cE (fun K hK=>?_);simp (disch:=omega) [gw]
  refine hK _ ⟨j,_,aC _ [0,1,6,7,8],by omega,_,z.set j ((r*10000+nth a j)/d),ver,_,_,rfl,by simp,by omega,by simpa using hz,lz.set ⟨SB,hq1⟩,R4,IE,?_⟩
  rw [fP (l:=a) (i:=j) (by omega),fP (l:=z.set j _) (i:=j) (by simp;omega),fG (by omega),List.drop_set_of_lt (by omega)]
  simp only [V]
  rw [hV]
  have:=Int.emod_add_mul_ediv (r*10000+nth a j) d
  grind
 ·simp at h
  have zI:k=0:=by omega
  subst zI
  simp only [List.drop_zero]at hV
  have ez:z.take a.length=z:=bQ hz
  have hzn:=bZ (by decide) lz
  have e1:V 10000 a/d=V 10000 z:=by
   rw [hV,Int.mul_add_ediv_left _ _ (by omega),Int.ediv_eq_zero_of_lt MZ uJ];simp
  have e2:V 10000 a%d=r:=by
   rw [hV,Int.mul_add_emod_self_left,Int.emod_eq_of_lt MZ uJ]
  refine eV ?_
  refine W.sr ?_
  simp (disch:=omega) [gw,hr,ez]
  refine aB (p9 z (by omega)) ?_
  simp (disch:=omega) [gw]
  refine bN [4,5] ?_
  refine W.ret ?_
  rw [e1,e2,←wK lz]
  simp [go]
theorem EZ(y d:Int)(hy:0≤y)(hz:Z y)(XQ:0<d)(K5:d≤65536):aD env.P 152 [Dn y, .int .i64 d] (.fE [Dn (y/d), .int .i64 (y%d)]):=by
 have:=aaN (aP DD y.toNat) d (by have:=k8 hy;omega) (mX _) XQ K5
 rwa [x7 hy]at this
theorem XR(n:Nat)(hz:Z (n:Int)):aD env.P 71 [aG aH (aP DD n)] (us (aP LL n)):=by
 have hln:(aP LL n).length≤sz 2 (n:Int):=CY eB n
 refine b6 [(0,aG aH (aP DD n))] Tryz.func71 ?_
 refine aA [0] ?_
 refine aA [0,3] ?_
 refine W.nil 3 3 182 1 (by simp) (by decide) (fun K hK=>?_)
 refine W.lw [0,3] hK ?_;clear hK K;simp
 refine W.seq ?_
 refine W.block ?_
 refine W.bE (fun k σ=>∃(i:Nat) (z:List Int) (ver:Nat) (rows:Pm.Rows) (clk:Nat),σ=⟨fa [(0,aG aH (aP DD k)),(3, .own 3 ver 0 i)],rows,clk⟩∧rows 3=some ⟨ver,182,1,emap u32 z⟩∧z.length=i∧k≤n∧aP LL n=z++aP LL k) n ?_ ?_
 ·exact⟨_, .refl,0,[],_,_,_,rfl,by simp [emap],rfl,by omega,by simp⟩
 rintro k _ ⟨i,z,ver,rows,clk,rfl,hr,JZ,hk,hd⟩
 have hzk:Z (k:Int):=Nat.lt_of_le_of_lt (cK (by decide) (y:=(n:Int)) (by omega)) hz
 have wL:i≤(aP LL n).length:=by rw [hd];simp [JZ]
 have e0:(aP DD k).length=0↔k=0:=by rw [List.length_eq_zero_iff,eZ SC]
 refine aM [0,3,9] ?_
 refine bF ?_ ?_<;>intro h
 ·have zI:k≠0:=by rw [Ne,←e0];simp at h;omega
  have uN:Z ((k:Int)/65536):=Nat.lt_of_le_of_lt (cK (by decide) (y:=(k:Int)) (by omega)) hzk
  refine W.skip ?_
  refine W.block ?_
  refine iM ?_
  refine aB (EZ (k:Int) 65536 (by omega) hzk (by decide) (by decide)) ?_
  simp (disch:=omega) [gw]
  refine bN [3,4,5] ?_
  refine iM ?_
  refine aB (EZ ((k:Int)/65536) 65536 (by omega) uN (by decide) (by decide)) ?_
  simp (disch:=omega) [gw]
  refine bN [3,4,5,6] ?_
  refine W.sr ?_
  simp (disch:=omega) [gw,hr,JZ,wrap_u32']
  have e1:(k:Int)/65536%65536*65536+k%65536=((k%LL:Nat):Int):=by simp;omega
  have e3:k/LL<k:=Nat.div_lt_self (by omega) (by decide)
  obtain⟨dg,e2⟩:∃dg:Int,dg=((k%LL:Nat):Int):=⟨_,rfl⟩
  rw [←e2]at e1
  simp only [e1,aiG]
  refine bN [3,4] ?_
  refine W.cE (fun K hK=>?_);simp (disch:=omega) [gw]
  refine hK _ ⟨k/LL,_,Gh.fr [(0,aG aH (aP DD (k/LL))),(3, .own 3 _ 0 (i+1))] ?_,e3,i+1,z ++ [dg],_,_,_,rfl,by simp;rfl,by simp [JZ],by omega,?_⟩
  ·have e2:((k:Int)/65536/65536).toNat=k/LL:=by show _=k/4294967296;omega
   simp only [Dn,e2]
   simp
  ·rw [hd,tA eB zI,e2];simp
 ·have zI:k=0:=by rw [←e0];simp at h;simp [h]
  subst zI
  refine eV ?_
  refine aA [2] ?_
  refine W.ret ?_
  simp [mO]at hd
  have ez:z.take i=z:=bQ JZ
  simp [go,hr,ez,hd]
theorem CZ(x:Int)(hz:Z x):aD env.P 17 [RI x] (I x):=by
 refine b6 [(0,RI x)] Tryz.func17 ?_
 refine aA [1,2] ?_
 refine iQ ?_
 refine aB (XR x.natAbs (by simpa [Z,sz]using hz)) ?_
 simp (disch:=omega) [gw]
 refine bN [2] ?_
 exact b7
theorem aaO(x y:List Int)(hx:x.length<1099511627776)(hy:y.length<1099511627776)(lx:cW 10000 x)(ly:cW 10000 y)(cx:aL x=x)(cy:aL y=y):aD env.P 229 [aG aH x,aG aH y] (.int .i64 (dQ (V 10000 x) (V 10000 y))):=by
 refine b6 [(0,aG aH x),(1,aG aH y)] Tryz.func229 ?_
 refine aA [0,1] ?_
 refine aM [0,1,10] ?_
 refine bF ?_ ?_<;>intro h
 ·simp at h
  refine aM [15] ?_
  refine bF ?_ ?_<;>intro h
  ·simp at h
   refine aA [4] ?_
   refine W.ret ?_
   simp [nK (kB (by decide) lx ly cy h)]
  ·simp at h
   refine W.skip ?_
   refine aA [4] ?_
   refine W.ret ?_
   simp [nM (kB (by decide) ly lx cx (by omega))]
 ·simp at h
  have hlen:x.length=y.length:=by omega
  clear h
  refine W.skip ?_
  refine aM [0,1,5] ?_
  refine W.block ?_
  refine W.bE (fun k σ=>∃(rows:Pm.Rows) (clk:Nat),σ=⟨fa [(0,aG aH x),(1,aG aH y),(5, .int .i64 ((k:Int)-1))],rows,clk⟩∧k≤x.length∧x.drop k=y.drop k) x.length ?_ ?_
  ·exact⟨_, .refl,_,_,rfl,by omega,by rw [List.drop_of_length_le (by omega),List.drop_of_length_le (by omega)]⟩
  rintro k _ ⟨rows,clk,rfl,hk,hd⟩
  refine aM [0,1,5,20] ?_
  refine bF ?_ ?_<;>intro h
  ·have h0:0<k:=by simp at h;omega
   obtain⟨j,rfl⟩:∃j,k=j+1:=⟨k-1,by omega⟩
   clear h
   refine jV ?_
   refine iQ ?_
   refine bN [0,1,5,31] ?_
   refine bF ?_ ?_<;>intro h
   ·simp at h
    refine W.seq ?_
    refine iQ ?_
    refine bN [40] ?_
    refine W.cond ⟨_,rfl,fun h2=>?_,fun h2=>?_⟩
    ·simp at h2
     refine aA [4] ?_
     refine W.ret ?_
     simp [nK (oX (by decide) lx ly hlen (by omega) hd h2)]
    ·simp at h2
     refine W.skip ?_
     refine aA [4] ?_
     refine W.ret ?_
     simp [nM (oX (by decide) ly lx hlen.symm (by omega) hd.symm (by omega))]
   ·simp at h
    refine W.skip ?_
    refine W.cE (fun K hK=>?_);simp (disch:=omega) [gw]
    refine hK _ ⟨j,_,aC _ [0,1,5],by omega,_,_,rfl,by omega,?_⟩
    rw [fP (l:=x) (i:=j) (by omega),fP (l:=y) (i:=j) (by omega),hd,h]
  ·have h0:k=0:=by simp at h;omega
   subst h0
   simp at hd
   subst hd
   refine eV ?_
   refine aA [4] ?_
   refine W.ret ?_
   simp [xR]
theorem O7(x y:Int)(hx:0≤x)(hy:0≤y)(zx:Z x)(zy:Z y):aD env.P 229 [Dn x,Dn y] (.int .i64 (dQ x y)):=by
 have:=aaO (aP DD x.toNat) (aP DD y.toNat) (by have:=k8 hx;omega) (by have:=k8 hy;omega) (mX _) (mX _) (kA SC _) (kA SC _)
 rwa [x7 hx,x7 hy]at this
theorem aaP(a b:List Int)(ha:a.length<1099511627776)(hb:b.length<1099511627776)(la:cW 10000 a)(lb:cW 10000 b)(ca:aL a=a)(cb:aL b=b):aD env.P 228 [aG aH a,aG aH b] (Dn (V 10000 a+V 10000 b)):=by
 refine b6 [(0,aG aH a),(1,aG aH b)] Tryz.func228 ?_
 refine aA [0,1] ?_
 refine aA [0,1,5] ?_
 refine W.nil 5 5 3 1 (by simp) (by decide) (fun K hK=>?_)
 refine W.lw [0,1,5] hK ?_;clear hK K;simp
 refine aA [0,1,5,6] ?_
 refine aM [0,1,5,6,7] ?_
 refine W.block ?_
 obtain⟨M,hM⟩:∃M,M=max a.length b.length:=⟨_,rfl⟩
 refine W.bE (fun k σ=>∃(i:Nat) (c:Int) (z:List Int) (ver:Nat) (rows:Pm.Rows) (clk:Nat),σ=⟨fa [(0,aG aH a),(1,aG aH b),(5, .own 5 ver 0 i),(6, .int .i64 c),(7, .int .i64 i)],rows,clk⟩ ∧
  rows 5=some ⟨ver,3,1,emap aH z⟩∧k=2*(M-i)+c.toNat∧z.length=i∧(i≤M∨(i=M+1∧c=0∧10000^M≤V 10000 a+V 10000 b))∧cW 10000 z∧0≤c∧c≤1 ∧
  V 10000 z+10000^i*c=V 10000 (a.take i)+V 10000 (b.take i)) (2*M) ?_ ?_
 ·exact⟨_, .refl,0,0,[],_,_,_,rfl,by simp [emap],by simp,rfl,by omega,cW.nil,by omega,by omega,by simp [V]⟩
 rintro k _ ⟨i,c,z,ver,rows,clk,rfl,hr,hk,hz,hi,lz,zY,xI,hV⟩
 refine W.seq ?_
 refine W.fY (fun σ=>∃(t:Bool),σ=⟨fa [(0,aG aH a),(1,aG aH b),(5, .own 5 ver 0 i),(6, .int .i64 c),(7, .int .i64 i),(21, .bool t)],rows,clk⟩∧(t=true↔i<M∨0<c)) (fun K hK=>?_) ?_
 ·simp
  by_cases h1:i<a.length
  ·simp (disch:=omega) [gw,h1]
   exact hK _ _ (aC _ [0,1,5,6,7,21]) ⟨_,rfl,by simp;omega⟩
  ·by_cases h2:i<b.length
   ·simp (disch:=omega) [gw,h1,h2]
    exact hK _ _ (aC _ [0,1,5,6,7,21]) ⟨_,rfl,by simp;omega⟩
   ·simp (disch:=omega) [gw,h1,h2]
    exact hK _ _ (aC _ [0,1,5,6,7,21]) ⟨_,rfl,by simp;omega⟩
 rintro _ ⟨t,rfl,ht⟩
 refine bF ?_ ?_<;>intro h
 ·have ht:=ht.1 h
  refine jV ?_
  refine W.gJ (fun σ=>∃(s:Int),σ=⟨fa [(0,aG aH a),(1,aG aH b),(5, .own 5 ver 0 i),(6, .int .i64 s),(7, .int .i64 i)],rows,clk⟩∧0≤s∧s≤c+9999∧(a.length≤i→s=c) ∧
   V 10000 z+10000^i*s=V 10000 (a.take (i+1))+V 10000 (b.take i)) ?_ ?_
  ·
   refine aA [0,1,5,6,7,27] ?_
   refine bF ?_ ?_<;>intro h
   ·simp at h
    have hx:=la.nth h
    refine W.cE (fun K hK=>?_);simp (disch:=omega) [gw]
    refine hK _ ⟨_,aC _ [0,1,5,6,7],_,rfl,by omega,by omega,by omega,?_⟩
    rw [aZ h];grind
   ·simp at h
    refine W.skip ?_
    refine⟨_,aC _ [0,1,5,6,7],_,rfl,by omega,by omega,fun _=>rfl,?_⟩
    rw [bJ (l:=a) (by omega)]
    rwa [bJ (l:=a) (by omega)]at hV
  rintro _ ⟨s,rfl,R9,sO,hsc,hsV⟩
  refine W.gJ (fun σ=>∃(u:Int),σ=⟨fa [(0,aG aH a),(1,aG aH b),(5, .own 5 ver 0 i),(6, .int .i64 u),(7, .int .i64 i)],rows,clk⟩∧0≤u∧u≤s+9999∧(b.length≤i→u=s) ∧
   V 10000 z+10000^i*u=V 10000 (a.take (i+1))+V 10000 (b.take (i+1))) ?_ ?_
  ·
   refine aA [0,1,5,6,7,37] ?_
   refine bF ?_ ?_<;>intro h
   ·simp at h
    have hx:=lb.nth h
    refine W.cE (fun K hK=>?_);simp (disch:=omega) [gw]
    refine hK _ ⟨_,aC _ [0,1,5,6,7],_,rfl,by omega,by omega,by omega,?_⟩
    rw [aZ h];grind
   ·simp at h
    refine W.skip ?_
    refine⟨_,aC _ [0,1,5,6,7],_,rfl,by omega,by omega,fun _=>rfl,?_⟩
    rw [bJ (l:=b) (by omega)]
    rwa [bJ (l:=b) (by omega)]at hsV
  rintro _ ⟨u,rfl,hu0,hu1,huc,huV⟩
  refine W.sr ?_
  simp (disch:=omega) [gw,hr,hz]
  refine bN [0,1,5,6,7] ?_
  refine W.cE (fun K hK=>?_);simp (disch:=omega) [gw];refine W.lw [0,1,5,6,7] hK ?_;clear hK K;simp
  refine W.cE (fun K hK=>?_);simp (disch:=omega) [gw]
  refine hK _ ⟨2*(M-(i+1))+(u/10000).toNat,_,aC _ [0,1,5,6,7],?_,i+1,u/10000,z ++ [u%10000],_,_,_,rfl,by simp,rfl,by simp [hz],?_,cW.append.2 ⟨lz,cW.cons.2 ⟨by omega,cW.nil⟩⟩,by omega,by omega,?_⟩
  ·rcases Nat.lt_or_ge i M with h1 | h1
   ·omega
   ·have:=hsc (by omega);have:=huc (by omega);omega
  ·rcases Nat.lt_or_ge i M with h1 | h1
   ·omega
   ·right
    have hc:c=1:=by omega
    have hzn:=bZ (by decide) lz
    rw [bJ (l:=a) (by omega),bJ (l:=b) (by omega),hc]at hV
    have hiM:i=M:=by omega
    rw [←hiM]
    refine⟨rfl,by have:=hsc (by omega);have:=huc (by omega);omega,?_⟩
    rw [←hV]
    omega
  ·rw [eH,oW,hz,←huV,Int.pow_succ]
   have:=Int.emod_add_mul_ediv u 10000
   grind
 ·have ht:¬(i<M∨0<c):=fun h2=>by simp [ht.2 h2]at h
  have hc:c=0:=by omega
  subst hc
  refine eV ?_
  refine aA [4] ?_
  refine W.ret ?_
  rw [bJ (l:=a) (by omega),bJ (l:=b) (by omega)]at hV
  have e:V 10000 a+V 10000 b=V 10000 z:=by rw [←hV];simp
  have cz:aL z=z:=by
   refine O6 (by decide) lz fun h0=>?_
   rw [hz,←e]
   rcases hi with h1 | ⟨h1,_,h2⟩
   ·have hna:=bZ (by decide) la
    have hnb:=bZ (by decide) lb
    have wL:0<i:=by rw [←hz];exact List.length_pos_iff.2 h0
    rcases Nat.le_total b.length a.length with h3 | h3
    ·have:=l9 (b:=10000) (by decide) la ca (by intro h5;rw [h5]at h3 hM;simp at h3;simp [h3]at hM;omega)
     rw [show i-1=a.length-1 by omega];omega
    ·have:=l9 (b:=10000) (by decide) lb cb (by intro h5;rw [h5]at h3 hM;simp at h3;simp [h3]at hM;omega)
     rw [show i-1=b.length-1 by omega];omega
   ·rw [h1];exact h2
  have ez:z.take i=z:=bQ hz
  rw [e,←wK lz,cz]
  simp [go,hr,ez]
theorem aeo(x y:Int)(hx:0≤x)(hy:0≤y)(zx:Z x)(zy:Z y):aD env.P 228 [Dn x,Dn y] (Dn (x+y)):=by
 have:=aaP (aP DD x.toNat) (aP DD y.toNat) (by have:=k8 hx;omega) (by have:=k8 hy;omega) (mX _) (mX _) (kA SC _) (kA SC _)
 rwa [x7 hx,x7 hy]at this
theorem aaQ(a b:List Int)(ha:a.length<1099511627776)(hb:b.length≤a.length)(la:cW 10000 a)(lb:cW 10000 b)(hle:V 10000 b≤V 10000 a):aD env.P 230 [aG aH a,aG aH b] (Dn (V 10000 a-V 10000 b)):=by
 refine b6 [(0,aG aH a),(1,aG aH b)] Tryz.func230 ?_
 refine aA [0,1] ?_
 refine aA [0,1,5] ?_
 refine aA [0,1,5,6] ?_
 refine aM [0,1,5,6,13,14] ?_
 refine W.block ?_
 refine W.bE (fun k σ=>∃(i:Nat) (c:Int) (z:List Int) (ver:Nat) (rows:Pm.Rows) (clk:Nat),σ=⟨fa [(0,aG aH a),(1,aG aH b),(5, .own 11 ver 0 a.length),(6, .int .i64 c),(13, .int .i64 a.length),(14, .int .i64 i)],rows,clk⟩ ∧
  rows 11=some ⟨ver,3,1,emap aH z⟩∧k=a.length-i∧i≤a.length∧z.length=a.length∧cW 10000 z∧0≤c∧c≤1 ∧
  V 10000 (z.take i)-10000^i*c=V 10000 (a.take i)-V 10000 (b.take i)) a.length ?_ ?_
 ·exact⟨_, .refl,0,0,List.replicate a.length 0,_,_,_,rfl,by simp,by omega,by omega,by simp,cW.rep (by decide) _,by omega,by omega,by simp [V]⟩
 rintro k _ ⟨i,c,z,ver,rows,clk,rfl,hr,hk,hi,hz,lz,zY,xI,hV⟩
 refine cB [0,1,5,6,13,14,15] ?_
 refine bF ?_ ?_<;>intro h
 ·simp at h
  have hx:=la.nth h
  refine jV ?_
  refine aA [0,1,5,6,7,13,14] ?_
  refine aA [0,1,5,7,8,13,14] ?_
  refine W.gJ (fun σ=>∃(s:Int),σ=⟨fa [(0,aG aH a),(1,aG aH b),(5, .own 11 ver 0 a.length),(7, .int .i64 i),(8, .int .i64 s),(13, .int .i64 a.length),(14, .int .i64 i)],rows,clk⟩ ∧ -10000≤s∧s≤9999 ∧
   V 10000 (z.take i)+10000^i*s=V 10000 (a.take (i+1))-V 10000 (b.take (i+1))) ?_ ?_
  ·
   refine aA [0,1,5,7,8,13,14,26] ?_
   refine bF ?_ ?_<;>intro h
   ·simp at h
    have hy:=lb.nth h
    refine W.cE (fun K hK=>?_);simp (disch:=omega) [gw]
    refine hK _ ⟨_,aC _ [0,1,5,7,8,13,14],_,rfl,by omega,by omega,?_⟩
    rw [aZ (l:=a) (by omega),aZ h];grind
   ·simp at h
    refine W.skip ?_
    refine⟨_,aC _ [0,1,5,7,8,13,14],_,rfl,by omega,by omega,?_⟩
    rw [aZ (l:=a) (by omega),bJ (l:=b) (by omega)]
    rw [bJ (l:=b) (by omega)]at hV
    grind
  rintro _ ⟨s,rfl,R9,sO,hsV⟩
  refine aA [0,1,5,6,7,8,13,14] ?_
  refine W.gJ (fun σ=>∃(u c:Int),σ=⟨fa [(0,aG aH a),(1,aG aH b),(5, .own 11 ver 0 a.length),(6, .int .i64 c),(7, .int .i64 i),(8, .int .i64 u),(13, .int .i64 a.length),(14, .int .i64 i)],rows,clk⟩∧0≤u∧u≤9999∧0≤c∧c≤1∧s=u-10000*c) ?_ ?_
  ·
   refine aA [0,1,5,6,7,8,13,14,34] ?_
   refine bF ?_ ?_<;>intro h
   ·simp at h
    refine aA [0,1,5,7,8,13,14] ?_
    refine W.cE (fun K hK=>?_);simp (disch:=omega) [gw]
    exact hK _ ⟨_,aC _ [0,1,5,6,7,8,13,14],_,1,rfl,by omega,by omega,by omega,by omega,by omega⟩
   ·simp at h
    refine W.skip ?_
    exact⟨_,aC _ [0,1,5,6,7,8,13,14],_,0,rfl,by omega,by omega,by omega,by omega,by omega⟩
  rintro _ ⟨u,c',rfl,hu0,hu1,az5,az6,hu⟩
  refine W.cE (fun K hK=>?_);simp (disch:=omega) [gw,hr]
  refine W.lw [0,1,5,6,13,14] hK ?_;clear hK K;simp
  refine W.cE (fun K hK=>?_);simp (disch:=omega) [gw]
  refine hK _ ⟨a.length-(i+1),_,aC _ [0,1,5,6,13,14],by omega,i+1,c',z.set i u,ver,_,_,rfl,by simp,by omega,by omega,by simpa using hz,lz.set (by omega),az5,az6,?_⟩
  rw [fQ (by omega),←hsV,hu,Int.pow_succ]
  grind
 ·simp at h
  have kN:i=a.length:=by omega
  subst kN
  have ez:z.take a.length=z:=bQ hz
  refine eV ?_
  refine W.sr ?_
  simp (disch:=omega) [gw,hr,ez]
  refine aB (p9 z (by omega)) ?_
  simp (disch:=omega) [gw]
  refine bN [4] ?_
  refine W.ret ?_
  rw [ez,bJ (l:=a) (by omega),bJ (l:=b) (by omega)]at hV
  have h1:=pJ (by decide) lz
  rw [hz]at h1
  have hc:c=0:=by
   rcases(show c=0∨c=1 by omega)with h2 | h2
   ·exact h2
   ·subst h2;omega
  subst hc
  have e:V 10000 a-V 10000 b=V 10000 z:=by rw [←hV];simp
  rw [e,←wK lz]
  simp [go]
theorem E1(x y:Int)(hy:0≤y)(hle:y≤x)(zx:Z x):aD env.P 230 [Dn x,Dn y] (Dn (x-y)):=by
 have hlen:(aP DD y.toNat).length≤(aP DD x.toNat).length:=by
  have h1:=cK (b:=DD) SC (x:=y) (y:=x) (by omega)
  simp only [sz]at h1
  rwa [show y.natAbs=y.toNat by omega,show x.natAbs=x.toNat by omega]at h1
 have:=aaQ (aP DD x.toNat) (aP DD y.toNat) (by have:=k8 (show 0≤x by omega);omega) hlen (mX _) (mX _) (by rw [x7 hy,x7 (by omega)];exact hle)
 rwa [x7 hy,x7 (by omega)]at this
theorem aoL{a b:Int}(ha:0≤a∧a<10000)(hb:0≤b∧b<10000):0≤a*b∧a*b≤99980001:=by
 refine⟨Int.mul_nonneg ha.1 hb.1,?_⟩
 have:=Int.mul_le_mul (show a≤9999 by omega) (show b≤9999 by omega) hb.1 (by decide)
 simpa using this
theorem aaR(x y:List Int)(hx:x.length<1099511627776)(hy:y.length<1099511627776)(lx:cW 10000 x)(ly:cW 10000 y):aD env.P 147 [aG aH x,aG aH y] (Dn (V 10000 x*V 10000 y)):=by
 refine b6 [(0,aG aH x),(1,aG aH y)] Tryz.func147 ?_
 refine aA [0,1] ?_
 have e:((x.length:Int)+(y.length:Int)).toNat=x.length+y.length:=by omega
 refine W.sr ?_
 simp (disch:=omega) [gw,e]
 refine bN [0,1,5] ?_
 refine aM [0,1,5,17,18] ?_
 refine W.block ?_
 refine W.bE (fun k σ=>∃(i:Nat) (z:List Int) (ver:Nat) (rows:Pm.Rows) (clk:Nat),σ=⟨fa [(0,aG aH x),(1,aG aH y),(5, .own 15 ver 0 (x.length+y.length)),(17, .int .i64 x.length),(18, .int .i64 i)],rows,clk⟩ ∧
   rows 15=some ⟨ver,3,1,emap aH z⟩∧k=x.length-i∧i≤x.length∧z.length=x.length+y.length∧cW 10000 z∧(∀j,i+y.length≤j→nth z j=0) ∧
   V 10000 z=V 10000 (x.take i)*V 10000 y) x.length ?_ ?_
 ·refine⟨_, .refl,0,List.replicate (x.length+y.length) 0,_,_,_,rfl,by simp [e],by omega,by omega,by simp,cW.rep (by decide) _,fun j _=>?_,by simp [V,r7]⟩
  unfold nth
  cases h:(List.replicate (x.length+y.length) (0:Int))[j]? with
  | none=>rfl
  | some v=>have:=List.mem_of_getElem? h;simp at this;simp [this]
 rintro k _ ⟨i,z,ver,rows,clk,rfl,hr,hk,hi,hz,lz,pG,hV⟩
 refine cB [0,1,5,17,18,19] ?_
 refine bF ?_ ?_<;>intro h
 ·simp at h
  have hxi:=lx.nth h
  refine jV ?_
  refine aA [0,1,5,6,17,18] ?_
  refine aA [0,1,5,6,7,17,18] ?_
  refine aA [0,1,5,6,7,8,17,18] ?_
  refine W.block ?_
  refine W.bE (fun m σ=>∃(k:Nat) (c:Int) (z:List Int) (ver:Nat) (rows:Pm.Rows) (clk:Nat),σ=⟨fa [(0,aG aH x),(1,aG aH y),(5, .own 15 ver 0 (x.length+y.length)),(6, .int .i64 i),(7, .int .i64 c),(8, .int .i64 k),(17, .int .i64 x.length),(18, .int .i64 i)],rows,clk⟩ ∧
   rows 15=some ⟨ver,3,1,emap aH z⟩∧m=y.length+1-k∧(k≤y.length∧(∀j,i+y.length≤j→nth z j=0)∨k=y.length+1∧c=0)∧z.length=x.length+y.length∧cW 10000 z∧(∀j,i+1+y.length≤j→nth z j=0)∧0≤c∧c≤9999 ∧
   V 10000 z+10000^(i+k)*c=V 10000 (x.take i)*V 10000 y+10000^i*nth x i*V 10000 (y.take k)) (y.length+1) ?_ ?_
  ·exact⟨_, .refl,0,0,z,ver,_,_,rfl,by simpa using hr,by omega, .inl ⟨by omega,pG⟩,hz,lz,fun j hj=>pG j (by omega),by omega,by omega,by simp [V,hV]⟩
  clear hV pG lz hz hr z ver rows clk
  rintro m _ ⟨k,c,z,ver,rows,clk,rfl,hr,hm,hky,hz,lz,pG,zY,xI,hV⟩
  refine W.seq ?_
  refine W.fY (fun σ=>∃(t:Bool),σ=⟨fa [(0,aG aH x),(1,aG aH y),(5, .own 15 ver 0 (x.length+y.length)),(6, .int .i64 i),(7, .int .i64 c),(8, .int .i64 k),(17, .int .i64 x.length),(18, .int .i64 i),(28, .bool t)],rows,clk⟩∧(t=true↔k<y.length∨0<c)) (fun K hK=>?_) ?_
  ·simp
   by_cases h2:k<y.length
   ·simp (disch:=omega) [gw,h2]
    exact hK _ _ (aC _ [0,1,5,6,7,8,17,18,28]) ⟨_,rfl,by simp [h2]⟩
   ·simp (disch:=omega) [gw,h2]
    exact hK _ _ (aC _ [0,1,5,6,7,8,17,18,28]) ⟨_,rfl,by simp [h2]⟩
  rintro _ ⟨t,rfl,ht⟩
  refine W.cond ⟨_,rfl,fun h2=>?_,fun h2=>?_⟩
  ·have ht:=ht.1 h2
   obtain⟨zI,XN⟩:k≤y.length∧(∀j,i+y.length≤j→nth z j=0):=by
    rcases hky with h3 | h3
    ·exact h3
    ·omega
   have hzk:=lz.nth (i:=i+k) (by omega)
   have e0:((i:Int)+(k:Int)).toNat=i+k:=by omega
   refine jV ?_
   refine W.sr ?_
   simp (disch:=omega) [gw,hr,e0]
   refine bN [0,1,5,6,8,9,17,18] ?_
   refine W.gJ (fun σ=>∃(s:Int),σ=⟨fa [(0,aG aH x),(1,aG aH y),(5, .own 15 ver 0 (x.length+y.length)),(6, .int .i64 i),(8, .int .i64 k),(9, .int .i64 s),(17, .int .i64 x.length),(18, .int .i64 i)],rows,clk⟩∧0≤s∧s≤99999999∧(k=y.length→s=c) ∧
    V 10000 z-10000^(i+k)*nth z (i+k)+10000^(i+k)*s=V 10000 (x.take i)*V 10000 y+10000^i*nth x i*V 10000 (y.take (k+1))) ?_ ?_
   ·
    refine aA [0,1,5,6,8,9,17,18,42] ?_
    refine bF ?_ ?_<;>intro h
    ·simp at h
     have hyk:=ly.nth h
     have hp:=aoL hxi hyk
     refine W.H7 (fun K hK=>?_);simp (disch:=omega) [gw]
     refine hK _ ⟨_,aC _ [0,1,5,6,8,9,17,18],_,rfl,by omega,by omega,by omega,?_⟩
     rw [aZ h,Int.pow_add]
     rw [Int.pow_add]at hV
     grind
    ·simp at h
     have hkl:k=y.length:=by omega
     have h0:=XN (i+k) (by omega)
     refine W.skip ?_
     refine⟨_,aC _ [0,1,5,6,8,9,17,18],_,rfl,by omega,by omega,by omega,?_⟩
     rw [bJ (l:=y) (by omega)]
     rw [bJ (l:=y) (by omega)]at hV
     rw [h0]
     grind
   rintro _ ⟨s,rfl,R9,sO,hsc,hsV⟩
   refine W.sr ?_
   simp (disch:=omega) [gw,hr,e0]
   refine bN [0,1,5,6,8,9,17,18] ?_
   refine W.cE (fun K hK=>?_);simp (disch:=omega) [gw];refine W.lw [0,1,5,6,7,8,17,18] hK ?_;clear hK K;simp
   refine W.cE (fun K hK=>?_);simp (disch:=omega) [gw]
   have T7:=H9 (b:=10000) (l:=z) (i:=i+k) (x:=s%10000) (by omega)
   refine hK _ ⟨y.length+1-(k+1),_,aC _ [0,1,5,6,7,8,17,18],by omega,k+1,s/10000,z.set (i+k) (s%10000),ver,_,_,rfl,by simp,rfl,?_,by simpa using hz,lz.set (by omega),fun j hj=>?_,by omega,by omega,?_⟩
   ·rcases Nat.lt_or_ge k y.length with h3 | h3
    ·left
     refine⟨by omega,fun j hj=>?_⟩
     rw [iG (by omega)];exact XN j hj
    ·right
     have:=hsc (by omega)
     exact⟨by omega,by omega⟩
   ·rw [iG (by omega)];exact pG j hj
   ·rw [T7,←hsV,show i+(k+1)=(i+k)+1 by omega,Int.pow_succ]
    have:=Int.emod_add_mul_ediv s 10000
    grind
  ·have ht:¬(k<y.length∨0<c):=fun h3=>by simp [ht.2 h3]at h2
   have hc:c=0:=by omega
   subst hc
   refine eV ?_
   refine W.cE (fun K hK=>?_);simp (disch:=omega) [gw]
   refine hK _ ⟨x.length-(i+1),_,aC _ [0,1,5,17,18],by omega,i+1,z,ver,_,_,rfl,hr,by omega,by omega,hz,lz,pG,?_⟩
   rw [aZ h]
   rw [bJ (l:=y) (by omega)]at hV
   grind
 ·simp at h
  have kN:i=x.length:=by omega
  subst kN
  have uN:List.take (x.length+y.length) z=z:=List.take_of_length_le (by omega)
  refine eV ?_
  refine W.sr ?_
  simp (disch:=omega) [gw,hr,uN]
  refine aB (p9 z (by omega)) ?_
  simp (disch:=omega) [gw]
  refine bN [4] ?_
  refine W.ret ?_
  rw [bJ (Nat.le_refl _)]at hV
  rw [←hV,←wK lz]
  simp
theorem aep(x y:Int)(hx:0≤x)(hy:0≤y)(zx:Z x)(zy:Z y):aD env.P 147 [Dn x,Dn y] (Dn (x*y)):=by
 have:=aaR (aP DD x.toNat) (aP DD y.toNat) (by have:=k8 hx;omega) (by have:=k8 hy;omega) (mX _) (mX _)
 rwa [x7 hx,x7 hy]at this
theorem K6{x:Int}(h:Z x):Z (x.natAbs:Int):=by simpa [Z,sz]using h
theorem oD(n:Nat)(neg:Bool):aD env.P 72 [aG aH (aP DD n), .bool neg] (RI (if neg=true then -(n:Int)else n)):=qA n (by omega) neg
theorem aaS(x y:Int):(if decide (x<0) != decide (y<0)then -((x.natAbs*y.natAbs:Nat):Int)else((x.natAbs*y.natAbs:Nat):Int))=x*y:=by
 rw [Int.natCast_mul]
 by_cases h1:x<0<;>by_cases h2:y<0
 ·simp only [h1,h2,show(x.natAbs:Int) = -x by omega,show(y.natAbs:Int) = -y by omega];simp<;>grind
 ·simp only [h1,h2,show(x.natAbs:Int) = -x by omega,show(y.natAbs:Int)=y by omega];simp<;>grind
 ·simp only [h1,h2,show(x.natAbs:Int)=x by omega,show(y.natAbs:Int) = -y by omega];simp<;>grind
 ·simp only [h1,h2,show(x.natAbs:Int)=x by omega,show(y.natAbs:Int)=y by omega];simp<;>grind
theorem eT(x y:Int)(zx:Z x)(zy:Z y):aD env.P 67 [RI x,RI y] (RI (x*y)):=by
 refine b6 [(0,RI x),(1,RI y)] Tryz.func67 ?_
 refine aA [2,3,4] ?_
 refine iQ ?_
 refine aB (aep x.natAbs y.natAbs (by omega) (by omega) (K6 zx) (K6 zy)) ?_
 have e:((x.natAbs:Int)*y.natAbs).toNat=x.natAbs*y.natAbs:=by rw [←Int.natCast_mul];exact Int.toNat_natCast _
 simp only [Dn,e]
 obtain⟨m,hm⟩:∃m,m=x.natAbs*y.natAbs:=⟨_,rfl⟩
 rw [←hm]
 simp (disch:=omega) [gw]
 refine aB (oD m (decide (x<0) != decide (y<0))) ?_
 have e2:=aaS x y
 rw [←hm]at e2
 rw [e2]
 simp (disch:=omega) [gw]
 refine bN [4] ?_
 exact b7
theorem E2(x y:Int)(zx:Z x)(zy:Z y):aD env.P 167 [RI x,RI y] (RI (x+y)):=by
 refine b6 [(0,RI x),(1,RI y)] Tryz.func167 ?_
 refine aA [2,3,4] ?_
 refine aM [2,3,4,9] ?_
 refine bF ?_ ?_<;>intro h
 ·simp at h
  refine iQ ?_
  refine aB (aeo x.natAbs y.natAbs (by omega) (by omega) (K6 zx) (K6 zy)) ?_
  have e:((x.natAbs:Int)+y.natAbs).toNat=x.natAbs+y.natAbs:=by omega
  simp only [Dn,e]
  obtain⟨m,hm⟩:∃m,m=x.natAbs+y.natAbs:=⟨_,rfl⟩
  rw [←hm]
  simp (disch:=omega) [gw]
  refine aB (oD m _) ?_
  have e2:(if decide (x<0)=true then -(m:Int)else m)=x+y:=by by_cases h1:x<0<;>simp [h1]<;>omega
  rw [e2]
  simp (disch:=omega) [gw]
  refine bN [4] ?_
  exact b7
 ·simp at h
  refine W.skip ?_
  refine W.seq ?_
  refine iM ?_
  refine aB (O7 x.natAbs y.natAbs (by omega) (by omega) (K6 zx) (K6 zy)) ?_
  simp (disch:=omega) [gw]
  refine bN [2,3,4,23] ?_
  refine W.cond ⟨_,rfl,fun h2=>?_,fun h2=>?_⟩
  ·have h2:(y.natAbs:Int)≤x.natAbs:=tC.1 (of_decide_eq_true h2)
   refine iQ ?_
   refine aB (E1 x.natAbs y.natAbs (by omega) h2 (K6 zx)) ?_
   have e:((x.natAbs:Int)-y.natAbs).toNat=x.natAbs-y.natAbs:=by omega
   simp only [Dn,e]
   obtain⟨m,hm⟩:∃m,m=x.natAbs-y.natAbs:=⟨_,rfl⟩
   rw [←hm]
   simp (disch:=omega) [gw]
   refine aB (oD m _) ?_
   have e2:(if decide (x<0)=true then -(m:Int)else m)=x+y:=by by_cases h1:x<0<;>simp [h1]<;>omega
   rw [e2]
   simp (disch:=omega) [gw]
   refine bN [4] ?_
   exact b7
  ·have h2:(x.natAbs:Int)<y.natAbs:=by
    have h3:=of_decide_eq_false h2
    rw [tC]at h3;omega
   refine W.skip ?_
   refine iQ ?_
   refine aB (E1 y.natAbs x.natAbs (by omega) (by omega) (K6 zy)) ?_
   have e:((y.natAbs:Int)-x.natAbs).toNat=y.natAbs-x.natAbs:=by omega
   simp only [Dn,e]
   obtain⟨m,hm⟩:∃m,m=y.natAbs-x.natAbs:=⟨_,rfl⟩
   rw [←hm]
   simp (disch:=omega) [gw]
   refine aB (oD m _) ?_
   have e2:(if decide (y<0)=true then -(m:Int)else m)=x+y:=by by_cases h1:y<0<;>simp [h1]<;>omega
   rw [e2]
   simp (disch:=omega) [gw]
   refine bN [4] ?_
   exact b7
theorem az7{x:Int}(h:Z x):Z (-x):=by simpa [Z,pK]using h
theorem O8(x y:Int)(zx:Z x)(zy:Z y):aD env.P 146 [RI x,RI y] (RI (x-y)):=by
 have hn:=tJ y
 have zn:=az7 zy
 obtain⟨m,hm⟩:∃m,m = -y:=⟨_,rfl⟩
 rw [←hm]at hn zn
 have e:x-y=x+m:=by omega
 rw [e]
 refine b6 [(0,RI x),(1,RI y)] Tryz.func146 ?_
 refine aA [2,3,4] ?_
 refine iQ ?_
 refine bW hn ?_
 refine bU [4] (E2 x m zx zn) ?_
 exact b7
theorem aaT(x y:Int):(x-y).sign=dQ x y:=by
 rcases Int.lt_trichotomy x y with h | h | h
 ·rw [nK h,Int.sign_eq_neg_one_of_neg (by omega)]
 ·subst h;simp [xR]
 ·rw [nM h,Int.sign_eq_one_of_pos (by omega)]
theorem O9(x y:Int)(zx:Z x)(zy:Z y):aD env.P 66 [RI x,RI y] (.int .i64 (dQ x y)):=by
 refine b6 [(0,RI x),(1,RI y)] Tryz.func66 ?_
 refine aA [2,3] ?_
 refine iM ?_
 refine bW (O8 x y zx zy) ?_
 refine aB (IJ (x-y)) ?_
 rw [aaT]
 simp (disch:=omega) [gw]
 refine bN [4] ?_
 exact b7
theorem aaU(x:Int)(n:Bool)(l:List Int)(zx:Z x)(hl:l.length<1099511627776):aD env.P 195 [RI x,IV n l] (.bool (decide (n=decide (x<0)∧l=aP LL x.natAbs))):=by
 have hln:(aP LL x.natAbs).length≤sz 2 x:=CY eB x
 refine b6 [(0,RI x),(1,IV n l)] Tryz.func195 ?_
 refine aA [2,3] ?_
 refine iM ?_
 refine bW (XR x.natAbs (K6 zx)) ?_
 generalize aP LL x.natAbs=m at *
 refine bN [2,3,5] ?_
 refine W.seq ?_
 refine W.fY (fun σ=>∃(b:Bool) (rows:Pm.Rows) (clk:Nat),σ=⟨fa [(3, .ptr 3 1 0 0),(5,us m),(22, .bool b)],rows,clk⟩∧(b=true↔¬(n=decide (x<0)∧l.length=m.length))∧rows 3=some ⟨1,38,2,[[.bool n,us l]]⟩) (fun K hK=>?_) ?_
 ·simp
  cases n<;>by_cases h1:x<0
  all_goals
   simp (disch:=omega) [gw,h1]
   refine hK _ _ (aC _ [3,5,22]) ⟨_,_,_,rfl,?_,by simp⟩
   simp [h1]
  all_goals omega
 rintro _ ⟨b,rows,clk,rfl,hb,cM⟩
 refine bF ?_ ?_<;>intro h
 ·have hb:=hb.1 h
  have e:¬(n=decide (x<0)∧l=m):=fun h2=>hb ⟨h2.1,by rw [h2.2]⟩
  refine aA [4] ?_
  refine W.ret ?_
  simp [go,e]
 ·have hb:n=decide (x<0)∧l.length=m.length:=Classical.byContradiction fun h2=>by simp [hb.2 h2]at h
  refine W.skip ?_
  refine aM [3,5,24,25] ?_
  refine W.block ?_
  refine W.bE (fun k σ=>∃(i:Nat) (rows:Pm.Rows) (clk:Nat),σ=⟨fa [(3, .ptr 3 1 0 0),(5,us m),(24, .int .i64 m.length),(25, .int .i64 i)],rows,clk⟩∧rows 3=some ⟨1,38,2,[[.bool n,us l]]⟩∧k=m.length-i∧i≤m.length∧l.take i=m.take i) m.length ?_ ?_
  ·exact⟨_, .refl,0,_,_,rfl,by simpa using cM,by omega,by omega,by simp⟩
  rintro k _ ⟨i,rows,clk,rfl,cM,hk,hi,hI⟩
  refine cB [3,5,24,25,26] ?_
  refine bF ?_ ?_<;>intro h
  ·simp at h
   refine jV ?_
   refine aA [3,5,6,24,25] ?_
   refine W.sd ?_
   simp (disch:=omega) [gw,cM]
   refine bN [3,5,24,25,37] ?_
   refine W.cond ⟨_,rfl,fun h2=>?_,fun h2=>?_⟩
   ·have h2:nth m i≠nth l i:=by simpa using h2
    have e:¬(n=decide (x<0)∧l=m):=fun h3=>h2 (by rw [h3.2])
    refine aA [4] ?_
    refine W.ret ?_
    simp [go,e]
   ·have h2:nth m i=nth l i:=by simpa using h2
    refine W.skip ?_
    refine W.cE (fun K hK=>?_);simp (disch:=omega) [gw]
    refine hK _ ⟨m.length-(i+1),_,aC _ [3,5,24,25],by omega,i+1,_,_,rfl,by simp [cM],by omega,by omega,?_⟩
    rw [aY (by omega),aY h,hI,h2]
  ·simp at h
   have kN:i=m.length:=by omega
   subst kN
   rw [List.take_of_length_le (by omega),List.take_of_length_le (by omega)]at hI
   refine eV ?_
   refine aA [4] ?_
   refine W.ret ?_
   simp [go,hb,hI]
end Go.Proofs.YtelhfbikiccfkaaGreat
