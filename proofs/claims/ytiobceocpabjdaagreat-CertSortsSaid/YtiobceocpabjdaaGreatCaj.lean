import Derived.Test.YtiobceocpabjdaaGreatCad
import Derived.Test.YtiobceocpabjdaaGreatCae
import Derived.Test.YtiobceocpabjdaaGreatCah
import Derived.Test.YtiobceocpabjdaaGreatCai
set_option linter.unusedSimpArgs false
set_option linter.unusedVariables false
namespace Go.Proofs.YtiobceocpabjdaaGreat
open Go Pm
set_option maxHeartbeats 2000000 in
theorem vQ{l:List CE}(hl:l.length<1048576)(hz:∀x∈l,x.z=false∧aZ env.P 107 [Po x.p,Po x.p] (.bool true)):aZ env.P 34 [aX jK l,aX jK l] (.bool true):=by
 refine cL [(0,aX jK l),(1,aX jK l)] Tryz.func34 ?_
 refine aB [0,1] ?_
 refine aQ [0,1,10] ?_
 refine bO ?_ ?_<;>intro h
 ·simp at h
 ·refine W.skip ?_
  refine aQ [0,1,12,13] ?_
  refine W.block ?_
  refine W.a9 (fun k σ=>∃(i:Nat) (rows:Pm.Rows) (clk:Nat),σ=⟨fa [(0,aX jK l),(1,aX jK l),(12, .int .i64 l.length),(13, .int .i64 i)],rows,clk⟩∧i+k=l.length) l.length ?_ ?_
  ·exact⟨_, .refl,0,_,_,rfl,by omega⟩
  rintro k _ ⟨i,rows,clk,rfl,L7⟩
  refine cH [0,1,12,13,14] ?_
  refine bO ?_ ?_<;>intro h
  ·have hi:i<l.length:=by simp at h;omega
   obtain⟨hz1,k1⟩:=hz _ (cP hi)
   have hc:jK (nth l i) = [.int .i64 (nth l i).t.k, .int .i64 (nth l i).t.a, .int .i64 (nth l i).t.b, .int .i64 (nth l i).t.c, .int .i64 (nth l i).t.d,Po (nth l i).p, .int .i64 (nth l i).w]:=by rw [eO,hz1];rfl
   have q1:=ake
   refine iS ?_
   refine aB [0,1,5,12,13] ?_
   refine W.x9 (fun σ=>σ=⟨fa [(0,aX jK l),(1,aX jK l),(12, .int .i64 l.length),(13, .int .i64 i),(53, .bool false)],rows,clk⟩) (fun K hK=>?_) ?_
   ·simp (disch:=omega) [gw,hi,hc,q1,allI,iQ]
    refine cM k1 ?_
    exact hK _ _ (aC _ [0,1,12,13,53]) rfl
   rintro _ rfl
   refine bO ?_ ?_<;>intro h
   ·simp at h
   ·refine W.skip ?_
    refine W.cA (fun K hK=>?_);simp (disch:=omega) [gw]
    exact hK _ ⟨k-1,_,aC _ [0,1,12,13],by omega,i+1,_,_,rfl,by omega⟩
  ·refine eH ?_
   refine aB [4] ?_
   exact cV
def SI(P:RE→List Int)(x:RE):CE:=⟨x.t,false,P x,x.w⟩
set_option maxHeartbeats 2000000 in
theorem X7{l:List RE}{P:RE→List Int}(hl:l.length<1048576)(hT:∀x∈l,aZ env.P 100 [.sl (szc x.z x.q)] (Po (P x))):aZ env.P 36 [aX j8 l] (aX jK (l.map (SI P))):=by
 refine cL [(0,aX j8 l)] Tryz.func36 ?_
 refine aB [0] ?_
 refine aB [0,3] ?_
 refine W.nil 3 3 82 7 (by simp) (by decide) (fun K hK=>?_)
 refine W.lw [0,3] hK ?_;clear hK K;simp
 refine aQ [0,3,6,7] ?_
 refine W.block ?_
 refine W.a9 (fun k σ=>∃(i v3:Nat) (rows:Pm.Rows) (clk:Nat),σ=⟨fa [(0,aX j8 l),(3, .own 3 v3 0 i),(6, .int .i64 l.length),(7, .int .i64 i)],rows,clk⟩∧i+k=l.length∧rows 3=some ⟨v3,82,7,emap jK ((l.take i).map (SI P))⟩) l.length ?_ ?_
 ·exact⟨_, .refl,0,_,_,_,rfl,by omega,by simp [emap]⟩
 rintro k _ ⟨i,v3,rows,clk,rfl,L7,c5⟩
 refine cH [0,3,6,7,8] ?_
 refine bO ?_ ?_<;>intro h
 ·have hi:i<l.length:=by simp at h;omega
  have uH:((l.take i).map (SI P)).length=i:=by simp;omega
  have qM:(l.take (i+1)).map (SI P)=(l.take i).map (SI P) ++ [SI P (nth l i)]:=by
   rw [dP hi,List.take_succ_eq_append_getElem hi,List.map_append];rfl
  have hTi:=hT _ (cP hi)
  generalize (l.take i).map (SI P)=S at *
  refine iS ?_
  refine aB [0,3,4,6,7] ?_
  refine W.CS (fun K hK=>?_)
  simp (disch:=omega) [gw,c5,hi,kH,uH]
  refine aD hTi ?_
  simp (disch:=omega) [gw,c5,hi,kH,uH]
  refine bU (by intro p hp;rcases hp with (rfl | rfl | rfl | rfl | rfl | rfl) | rfl<;>simp [bL,eZ,aS,aX]) ?_
  simp (disch:=omega) [gw,c5,hi,kH,uH]
  refine hK _ ?_;clear hK K
  refine W.cA (fun K hK=>?_);simp (disch:=omega) [gw]
  refine hK _ ⟨k-1,_,aC _ [0,3,6,7],by omega,i+1,_,_,_,rfl,by omega,?_⟩
  rw [qM]
  simp [emap,SI,eO]
  rfl
 ·have hi:i=l.length:=by simp at h;omega
  subst hi
  rw [List.take_length]at c5
  refine eH ?_
  refine W.freeze 3 (by simp [c5]) (fun K hK=>?_)
  simp [c5]
  refine hK _ ?_;clear hK K
  refine aB [2] ?_
  refine W.ret ?_
  simp [go]
  try rw [List.take_of_length_le (by simp)]
theorem aev(n:Int)(h0:0≤n)(h1:n<4294967296):aZ env.P 269 [.int .u32 n] (.int .i64 (32-nb n.toNat)):=by
 refine cL [(0, .int .u32 n)] Tryz.func269 ?_
 refine aB [0] ?_
 refine j1 ?_
 refine aD (yJ n h0 h1) ?_
 have:nb n.toNat≤32:=mA.2 (by omega)
 simp (disch:=omega) [gw]
 refine bF [2] ?_
 exact cV
theorem X8(l:List Int)(n:Nat)(hn:n≤31)(hl:l.length<1099511627775)(lm:b6 4294967296 l):aZ env.P 275 [us l, .int .i64 n] (N (V 4294967296 l*2^n)):=by
 refine cL [(0,us l),(1, .int .i64 n)] Tryz.func275 ?_
 refine aB [0,1] ?_
 have eX:=bN l
 refine j1 ?_
 refine aD (cN l (by omega)) ?_
 simp (disch:=omega) [gw]
 refine bF [0,1] ?_
 have lx:=c9 lm
 have hV:=cD (b:=4294967296) l
 rw [←hV]
 have N2:(aG l).length<1099511627775:=by omega
 clear hV
 generalize aG l=x at *
 have h65:¬(65536<(n:Int)):=by omega
 have e0:(if 0<n then(n:Int)else 0)=n:=by split<;>omega
 refine W.sr ?_
 simp (disch:=omega) [gw,h65,e0]
 refine bF [0,1] ?_
 refine aQ [0,1,18] ?_
 refine bO ?_ ?_<;>intro h
 ·have h:x = []:=by simp at h;exact h
  subst h
  refine aB [4] ?_
  refine W.ret ?_
  simp [go,V]
  rfl
 have h:x ≠ []:=by simp at h;exact h
 refine W.skip ?_
 have d1:(n:Int)/32=0:=by omega
 have d2:(n:Int)%32=n:=by omega
 refine W.sr ?_
 simp (disch:=omega) [gw,d1,d2]
 refine bF [0,5,6] ?_
 refine aB [0,5,6,7] ?_
 refine aQ [5,6,7,30,31,32] ?_
 refine W.block ?_
 have h2n:(2:Int)^n≤2147483648:=by
  have:=Int.ofNat_le.2 (Nat.pow_le_pow_right (show 0<2 by decide) hn)
  simpa using this
 have h2p:(0:Int)<2^n:=Int.pow_pos (by decide)
 have h2d:(2:Int)^n∣4294967296:=by
  refine⟨2^(32-n),?_⟩
  rw [←Int.pow_add,show n+(32-n)=32 by omega];rfl
 refine W.a9 (fun q σ=>∃(i v:Nat) (z:List Int) (rows:Pm.Rows) (clk:Nat),σ=⟨fa [(5, .int .i64 0),(6, .int .u64 n),(7, .own 29 v 0 (x.length+1)),(30,us x),(31, .int .i64 x.length),(32, .int .i64 i)],rows,clk⟩ ∧
  rows 29=some ⟨v,185,1,emap u32 z⟩∧q=x.length-i∧i≤x.length∧z.length=x.length+1∧b6 4294967296 z∧V 4294967296 (z.take (i+1))=V 4294967296 (x.take i)*2^n∧nth z i<2^n) x.length ?_ ?_
 ·exact⟨_, .refl,0,_,List.replicate (x.length+1) 0,_,_,rfl,by simp,by omega,by omega,by simp,b6.rep (by decide) _,by simp [V,List.replicate_succ],by rw [dP (by simp)];simp;exact h2p⟩
 rintro q _ ⟨i,v,z,rows,clk,rfl,hr,hq,hi,hz,lz,hV,hzi⟩
 refine cH [5,6,7,30,31,32,33] ?_
 refine bO ?_ ?_<;>intro h
 ·have hi:i<x.length:=by simp at h;omega
  have hw:=lx.nth hi
  refine iS ?_
  refine aB [5,6,7,8,9,30,31,32] ?_
  have hVx:=aR (b:=4294967296) hi
  generalize hwe:nth x i=w at *
  have hv0:0≤w*2^n:=Int.mul_nonneg hw.1 (by omega)
  have hv1:w*2^n<4294967296*2^n:=Int.mul_lt_mul_of_pos_right hw.2 h2p
  have hvd:(2^n:Int)∣w*2^n:=⟨w,Int.mul_comm _ _⟩
  have hwr:IntKind.u64.wrap (w*2^n)=w*2^n:=wrap_u64 hv0 (by omega)
  have aoL:=lz.nth (i:=i) (by omega)
  refine W.sr ?_
  simp (disch:=omega) [gw,hwr]
  refine bF [5,6,7,8,10,30,31,32] ?_
  have aoM:V 4294967296 (x.take (i+1))*2^n=V 4294967296 (x.take i)*2^n+4294967296^i*(w*2^n):=by rw [hVx];grind
  generalize hve:w*2^n=y at *
  have akg:(2^n:Int)∣y%4294967296:=by
   rw [Int.emod_def]
   exact Int.dvd_sub hvd (Int.dvd_trans h2d (Int.dvd_mul_right _ _))
  have arM:y%4294967296+2^n≤4294967296:=by
   obtain⟨c,hc⟩:=akg
   obtain⟨d,hd⟩:=h2d
   have h1:(2^n:Int)*c<2^n*d:=by have:=Int.emod_lt_of_pos y (show (0:Int)<4294967296 by decide);omega
   have h2:c<d:=Int.lt_of_mul_lt_mul_left h1 (by omega)
   have h3:=Int.mul_le_mul_of_nonneg_left (show c+1≤d by omega) (show 0≤(2^n:Int)by omega)
   rw [Int.mul_add]at h3
   omega
  have X9:=(W1 (a:=y%4294967296) (b:=nth z i) n (by omega) aoL.1 akg hzi (by omega)).2
  have hwy:IntKind.u32.wrap y=y%4294967296:=wrap_u32'
  refine W.sr ?_
  simp (disch:=omega) [gw,hr,hz,hwy,X9]
  refine bF [5,6,7,8,10,30,31,32] ?_
  refine W.cA (fun K hK=>?_)
  simp (disch:=omega) [gw,hz]
  refine W.lw [5,6,7,30,31,32] hK ?_;clear hK K;simp
  refine W.cA (fun K hK=>?_);simp (disch:=omega) [gw]
  refine hK _ ⟨x.length-(i+1),_,aC _ [5,6,7,30,31,32],by omega,i+1,v,(z.set i (y%4294967296+nth z i)).set (i+1) (y/4294967296),_,_,rfl,by simp,by omega,by omega,by simp [hz],(lz.set ⟨by omega,by omega⟩).set ⟨by omega,by omega⟩,?_,?_⟩
  ·have q1:=dQ (b:=4294967296) (l:=z.set i (y%4294967296+nth z i)) (i:=i+1) (x:=y/4294967296) (by simp;omega)
   have q2:=dQ (b:=4294967296) (l:=z) (i:=i) (x:=y%4294967296+nth z i) (by omega)
   have q3:=aR (b:=4294967296) (l:=z) (i:=i) (by omega)
   have q4:=Int.mul_ediv_add_emod y 4294967296
   rw [q1,q2,aoM,←hV,q3,Int.pow_succ]
   generalize y/4294967296=yq at *
   generalize y%4294967296=yr at *
   rw [←q4];grind
  ·rw [dI (by simp;omega)];omega
 ·have hi:i=x.length:=by simp at h;omega
  subst hi
  have hVz:V 4294967296 z=V 4294967296 x*2^n:=by
   rw [aV (by omega),aV (Nat.le_refl _)]at hV;exact hV
  have zz:=bA hz
  have lU:=cN z (by omega)
  rw [qE lz,hVz]at lU
  refine eH ?_
  refine W.sr ?_
  simp (disch:=omega) [gw,hr,zz]
  refine c7 [4] lU ?_
  exact cV
theorem DX(l:List Int)(n m:Nat)(hn:n≤31)(hl:l.length<1099511627775)(lm:b6 4294967296 l)(E5:0<m)(E8:m<1099511627776)(hb:V 4294967296 l*2^n<4294967296^m) :
  ∃y:List Int,uJ env.P 270 [us l, .int .i64 n, .int .i64 m] 185 1 (emap u32 y)∧y.length=m∧b6 4294967296 y∧V 4294967296 y=V 4294967296 l*2^n:=by
 have hp:0≤V 4294967296 l*2^n:=Int.mul_nonneg (bH (by decide) lm) (Int.le_of_lt (Int.pow_pos (by decide)))
 obtain⟨N0,hN⟩:=Int.eq_ofNat_of_zero_le hp
 have hS:=X8 l n hn hl lm
 rw [hN]at hS hb
 replace hS:aZ env.P 275 [us l, .int .i64 n] (us (a5 LL N0)):=hS
 have hdl:(a5 LL N0).length≤m:=z7 eV (by
  have h4:((4294967296^m:Nat):Int)=(4294967296:Int)^m:=Int.natCast_pow 4294967296 m
  show N0<4294967296^m
  omega)
 have IH:=eN eV N0
 have SJ:=iT eV N0
 refine⟨a5 LL N0++List.replicate (m-(a5 LL N0).length) 0,?_,by simp;omega,b6.append.2 ⟨IH,b6.rep (by decide) _⟩,by rw [c8,l9,hN,←SJ];simp⟩
 generalize a5 LL N0=D at *
 refine G1 (E:=env) (fun _=>0) (t:=6) [(0,us l),(1, .int .i64 n),(2, .int .i64 m)] Tryz.func270 rfl (by kernel_rfl) (by kernel_rfl) (show 3≤16 by decide) rfl (by simp) ?_
 refine aB [0,1,2] ?_
 refine aB [0,1,7] ?_
 refine j1 ?_
 refine cM hS ?_
 refine aiX (e':=185) (els:=emap u32 (List.replicate m 0)) (l:=emap u32 D) (by simp) (by simp) E5 rfl (fun e he=>by simp only [emap,List.mem_map]at he;obtain⟨x,_,rfl⟩:=he;rfl) ?_
 have e1:(emap u32 (List.replicate m 0)).take 0++(emap u32 D).take m++(emap u32 (List.replicate m 0)).drop (0+min (emap u32 D).length m)=emap u32 (D++List.replicate (m-D.length) 0):=by
  simp only [emap,List.take_zero,List.nil_append,List.length_map,Nat.zero_add,List.map_append,Nat.min_eq_left hdl]
  rw [List.take_of_length_le (by simpa using hdl),←List.map_drop,List.drop_replicate]
 rw [e1]
 generalize hy:D++List.replicate (m-D.length) 0=y at *
 have DY:y.length=m:=by rw [←hy];simp;omega
 simp (disch:=omega) [gw]
 refine bF [7] ?_
 refine aB [6] ?_
 refine W.ret ?_
 exact⟨9,0,by simp [DY],by simp,fun x hx p hp=>by
  simp only [emap,List.mem_map]at hx
  obtain⟨r,_,rfl⟩:=hx
  simp at hp
  subst hp;rfl⟩
theorem YA(a:List Int)(w:Int)(ha:a.length<1099511627775)(la:b6 4294967296 a)(hw0:0<w)(hw1:w<4294967296):aZ env.P 268 [us a, .int .u32 w] (.eQ [N (V 4294967296 a/w), .int .u32 (V 4294967296 a%w)]):=by
 refine cL [(0,us a),(1, .int .u32 w)] Tryz.func268 ?_
 refine aB [0,1] ?_
 refine aB [0,1,6] ?_
 refine aB [0,1,6,7] ?_
 refine aQ [0,1,6,7,8] ?_
 refine W.block ?_
 refine W.a9 (fun q σ=>∃(v:Nat) (r:Int) (z:List Int) (rows:Pm.Rows) (clk:Nat),σ=⟨fa [(0,us a),(1, .int .u32 w),(6, .own 12 v 0 a.length),(7, .int .u64 r),(8, .int .i64 ((q:Int)-1))],rows,clk⟩ ∧
  rows 12=some ⟨v,185,1,emap u32 z⟩∧q≤a.length∧z.length=a.length∧b6 4294967296 z∧V 4294967296 (z.drop q)*w+r=V 4294967296 (a.drop q)∧0≤r∧r<w) a.length ?_ ?_
 ·exact⟨_, .refl,0,0,List.replicate a.length 0,_,_,rfl,by simp,by omega,by simp,b6.rep (by decide) _,by simp [V],by omega,hw0⟩
 rintro q _ ⟨v,r,z,rows,clk,rfl,hr,hq,hz,lz,hV,E3,I8⟩
 refine aQ [0,1,6,7,8,17] ?_
 refine bO ?_ ?_<;>intro h
 ·have OA:0<q:=by simp at h;omega
  obtain⟨j,rfl⟩:∃j,q=j+1:=⟨q-1,by omega⟩
  clear h
  have hj:=la.nth (i:=j) (by omega)
  have ej:((j+1:Nat):Int)-1=j:=by omega
  rw [ej]
  have hVa:V 4294967296 (a.drop j)=nth a j+4294967296*V 4294967296 (a.drop (j+1)):=by rw [dW (by omega)];rfl
  generalize hxe:nth a j=x at *
  have hrb:r*4294967296<18446744073709551616:=by omega
  have X9:=(tJ (a:=r*4294967296) (b:=x) 32 (by omega) hj.1 ⟨r,by rw [Int.mul_comm];rfl⟩ (by simpa using hj.2) (by omega)).1
  refine iS ?_
  refine W.sr ?_
  simp (disch:=omega) [gw,hxe,X9]
  refine bF [0,1,6,8,9] ?_
  have hs:(r*4294967296+x)/w<4294967296:=Int.ediv_lt_of_lt_mul hw0 (by
   have:=Int.mul_le_mul_of_nonneg_right (show r+1≤w by omega) (show (0:Int)≤4294967296 by decide)
   rw [Int.mul_comm 4294967296];omega)
  have XR:0≤(r*4294967296+x)/w:=Int.ediv_nonneg (by omega) (by omega)
  have E5:=Int.emod_nonneg (r*4294967296+x) (show w≠0 by omega)
  have E8:=Int.emod_lt_of_pos (r*4294967296+x) hw0
  have LY:=Int.mul_ediv_add_emod (r*4294967296+x) w
  have hw':¬w=0:=by omega
  refine W.CS (fun K hK=>?_)
  simp (disch:=omega) [gw,hr,hz,hw']
  refine bU (by kernel_rfl) ?_
  simp (disch:=omega) [gw,hr,hz,hw']
  refine W.lw [0,1,6,7,8] hK ?_;clear hK K;simp
  refine W.cA (fun K hK=>?_);simp (disch:=omega) [gw]
  refine hK _ ⟨j,_,aC _ [0,1,6,7,8],by omega,v,(r*4294967296+x)%w,z.set j ((r*4294967296+x)/w),_,_,rfl,by simp,by omega,by simp [hz],lz.set ⟨XR,hs⟩,?_,E5,E8⟩
  rw [dW (l:=z.set j _) (i:=j) (by simp;omega),dI (by omega),hVa,←hV,List.drop_set_of_lt (by omega)]
  simp only [V]
  generalize (r*4294967296+x)/w=qq at *
  generalize (r*4294967296+x)%w=rr at *
  grind
 ·have OA:q=0:=by simp at h;omega
  subst OA
  have zz:=bA hz
  have lU:=cN z (by omega)
  simp only [List.drop_zero]at hV
  have h1:V 4294967296 z=V 4294967296 a/w∧r=V 4294967296 a%w:=by
   have h2:V 4294967296 a/w=V 4294967296 z:=by
    have e:(V 4294967296 z+1)*w=V 4294967296 z*w+w:=by grind
    rw [Int.ediv_eq_iff_of_pos hw0]
    constructor<;>omega
   refine⟨h2.symm,?_⟩
   have h3:=Int.emod_def (V 4294967296 a) w
   rw [h2,Int.mul_comm]at h3
   omega
  rw [qE lz,h1.1]at lU
  have dB:=h1.2
  refine eH ?_
  refine W.sr ?_
  simp (disch:=omega) [gw,hr,zz]
  refine c7 [4,5] lU ?_
  refine W.ret ?_
  simp [go,dB]
theorem lW{x:List Int}{i:Nat}(h:x.length≤i):nth x i=0:=gL h
theorem YB(l:List Int)(n:Nat)(hn:n≤31)(hl:l.length<1099511627775)(lm:b6 4294967296 l):aZ env.P 272 [us l, .int .i64 n] (N (V 4294967296 l/2^n)):=by
 refine cL [(0,us l),(1, .int .i64 n)] Tryz.func272 ?_
 refine aB [0,1] ?_
 have eX:=bN l
 refine j1 ?_
 refine aD (cN l (by omega)) ?_
 simp (disch:=omega) [gw]
 refine bF [0,1] ?_
 have lx:=c9 lm
 have hV:=cD (b:=4294967296) l
 rw [←hV]
 have N2:(aG l).length<1099511627775:=by omega
 clear hV
 generalize aG l=x at *
 have h65:¬(65536<(n:Int)):=by omega
 have e0:(if 0<n then(n:Int)else 0)=n:=by split<;>omega
 refine W.sr ?_
 simp (disch:=omega) [gw,h65,e0]
 refine bF [0,1] ?_
 have d1:(n:Int)/32=0:=by omega
 have d2:(n:Int)%32=n:=by omega
 refine W.sr ?_
 simp (disch:=omega) [gw,d1,d2]
 refine bF [0,5,6] ?_
 refine aQ [0,5,6,23] ?_
 refine bO ?_ ?_<;>intro h
 ·have h:x = []:=by simp at h;exact h
  subst h
  refine aB [4] ?_
  refine W.ret ?_
  simp [go,V]
  rfl
 have h:x ≠ []:=by simp at h;exact h
 refine W.skip ?_
 refine aB [0,5,6,7] ?_
 refine aQ [0,5,6,7,30,31] ?_
 refine W.block ?_
 have h2p:(0:Int)<2^n:=Int.pow_pos (by decide)
 have h2e:(0:Int)<2^(32-n):=Int.pow_pos (by decide)
 have h2d:(2:Int)^n*2^(32-n)=4294967296:=by
  rw [←Int.pow_add,show n+(32-n)=32 by omega];rfl
 refine W.a9 (fun q σ=>∃(i v:Nat) (z:List Int) (rows:Pm.Rows) (clk:Nat),σ=⟨fa [(0,us x),(5, .int .i64 0),(6, .int .u64 n),(7, .own 28 v 0 x.length),(30, .int .i64 x.length),(31, .int .i64 i)],rows,clk⟩ ∧
  rows 28=some ⟨v,185,1,emap u32 z⟩∧q=x.length-i∧i≤x.length∧z.length=x.length∧b6 4294967296 z∧2^n*V 4294967296 (z.take i)+nth x 0%2^n=V 4294967296 (x.take i)+(nth x i%2^n)*4294967296^i) x.length ?_ ?_
 ·exact⟨_, .refl,0,_,List.replicate x.length 0,_,_,rfl,by simp,by omega,by omega,by simp,b6.rep (by decide) _,by simp [V]⟩
 rintro q _ ⟨i,v,z,rows,clk,rfl,hr,hq,hi,hz,lz,hV⟩
 refine cH [0,5,6,7,30,31,32] ?_
 refine bO ?_ ?_<;>intro h
 ·have hi:i<x.length:=by simp at h;omega
  have hw:=lx.nth hi
  have hw2:0≤nth x (i+1)∧nth x (i+1)<4294967296:=by
   rcases Nat.lt_or_ge (i+1) x.length with h3 | h3
   ·exact lx.nth h3
   ·rw [lW h3];decide
  have hVx:=aR (b:=4294967296) hi
  obtain⟨q1,q2,q3⟩:=RD h2p h2e h2d hw hw2
  generalize hwe:nth x i=w at *
  refine iS ?_
  refine aB [0,5,6,7,8,30,31] ?_
  refine W.sr ?_
  simp (disch:=omega) [gw,hwe]
  refine bF [0,5,6,7,8,9,30,31] ?_
  refine W.gK (fun σ=>∃(rows:Pm.Rows) (clk:Nat),σ=⟨fa [(0,us x),(5, .int .i64 0),(6, .int .u64 n),(7, .own 28 v 0 x.length),(8, .int .i64 i),(9, .int .u64 (w+4294967296*nth x (i+1))),(30, .int .i64 x.length),(31, .int .i64 i)],rows,clk⟩∧rows 28=some ⟨v,185,1,emap u32 z⟩) ?_ ?_
  ·
   refine aB [0,5,6,7,8,9,30,31,47] ?_
   refine bO ?_ ?_<;>intro h
   ·have h:i+1<x.length:=by simp at h;omega
    have X9:=(tJ (a:=nth x (i+1)*4294967296) (b:=w) 32 (by omega) hw.1 ⟨nth x (i+1),by rw [Int.mul_comm];rfl⟩ (by simpa using hw.2) (by omega)).2
    rw [show nth x (i+1)*4294967296+w=w+4294967296*nth x (i+1)by omega]at X9
    refine W.cA (fun K hK=>?_);simp (disch:=omega) [gw,X9]
    exact hK _ ⟨_,aC _ [0,5,6,7,8,9,30,31],_,_,rfl,by simp [hr]⟩
   ·have h:x.length≤i+1:=by simp at h;omega
    rw [lW h]
    refine W.skip ?_
    exact⟨_,Gh.fr [(0,us x),(5, .int .i64 0),(6, .int .u64 n),(7, .own 28 v 0 x.length),(8, .int .i64 i),(9, .int .u64 (w+4294967296*0)),(30, .int .i64 x.length),(31, .int .i64 i)] (by simp),_,_,rfl,by simp [hr]⟩
  rintro _ ⟨rows,clk,rfl,hr⟩
  have hwr:IntKind.u32.wrap ((w+4294967296*nth x (i+1))/2^n)=((w+4294967296*nth x (i+1))/2^n)%4294967296:=wrap_u32'
  have hfd:(w+4294967296*nth x (i+1)).fdiv (2^n)=(w+4294967296*nth x (i+1))/2^n:=Int.fdiv_eq_ediv_of_nonneg _ (by omega)
  refine W.cA (fun K hK=>?_)
  simp (disch:=omega) [gw,hr,hz,hfd,hwr]
  refine W.lw [0,5,6,7,30,31] hK ?_;clear hK K;simp
  refine W.cA (fun K hK=>?_);simp (disch:=omega) [gw]
  refine hK _ ⟨x.length-(i+1),_,aC _ [0,5,6,7,30,31],by omega,i+1,v,z.set i (((w+4294967296*nth x (i+1))/2^n)%4294967296),_,_,rfl,by simp,by omega,by omega,by simp [hz],lz.set ⟨q2,q3⟩,?_⟩
  rw [dQ (by omega),hVx,Int.mul_add,Int.pow_succ]
  generalize ((w+4294967296*nth x (i+1))/2^n)%4294967296=o at *
  generalize nth x (i+1)%2^n=lo1 at *
  generalize w%2^n=lo at *
  have e2:(2:Int)^n*(4294967296^i*o)=4294967296^i*(2^n*o):=by grind
  rw [e2,q1]
  grind
 ·have hi:i=x.length:=by simp at h;omega
  subst hi
  have zz:=bA hz
  have lU:=cN z (by omega)
  rw [qE lz]at lU
  rw [zz,List.take_of_length_le (Nat.le_refl _),lW (Nat.le_refl _)]at hV
  have hVz:V 4294967296 x/2^n=V 4294967296 z:=by
   have h5:=Int.emod_nonneg (nth x 0) (show (2^n:Int)≠0 by omega)
   have h6:=Int.emod_lt_of_pos (nth x 0) h2p
   rw [Int.zero_emod,Int.zero_mul,Int.add_zero]at hV
   have e:(V 4294967296 z+1)*2^n=2^n*V 4294967296 z+2^n:=by grind
   have e':V 4294967296 z*2^n=2^n*V 4294967296 z:=Int.mul_comm _ _
   rw [Int.ediv_eq_iff_of_pos h2p]
   constructor<;>omega
  rw [hVz]
  refine eH ?_
  refine W.sr ?_
  simp (disch:=omega) [gw,hr,zz]
  refine c7 [4] lU ?_
  exact cV
theorem eF(z:List Int)(o k:Nat):nth (z.drop o) k=nth z (o+k):=by simp [nth,List.getElem?_drop]
theorem jV(z:List Int)(o k:Nat)(x:Int):(z.set (o+k) x).drop o=(z.drop o).set k x:=by
 rw [List.drop_set]
 rw [if_neg (by omega)]
 congr 1;omega
set_option maxHeartbeats 2000000 in
theorem HE{id ver off m:Nat}(zl y:List Int)(rows:Pm.Rows)(clk:Nat)(hr:rows id=some ⟨ver,185,1,emap u32 zl⟩)(DY:y.length=m+2)(hym:m<1099511627776)(ly:b6 4294967296 y)(atE:2147483648≤nth y (m+1))(lz:b6 4294967296 zl)
  (OM:off+m+3≤zl.length) (y9:zl.length<1099511627776) (jH:V 4294967296 ((zl.drop off).take (m+3))<4294967296*V 4294967296 y) :
  KS env.P 271 [.own id ver off (m+3),us y] rows clk (fun r rows' gF=>∃D:List Int,r = .int .u32 (V 4294967296 ((zl.drop off).take (m+3))/V 4294967296 y)∧rows'=c4 rows id (some ⟨ver,185,1,emap u32 (zl.take off++D)⟩)∧gF=clk ∧
   D.length=(zl.drop off).length∧b6 4294967296 D∧D.drop (m+3)=(zl.drop off).drop (m+3)∧V 4294967296 (D.take (m+3))=V 4294967296 ((zl.drop off).take (m+3))%V 4294967296 y):=by
 obtain⟨HF,hc⟩:=aiT (D:=zl.drop off) (by simp;omega) DY (lz.drop off) ly (by omega) jH
 have l1:=ly.nth (i:=m) (by omega)
 have l2:=ly.nth (i:=m+1) (by omega)
 have k0:=(lz.drop off).nth (i:=m) (by simp;omega)
 have k1:=(lz.drop off).nth (i:=m+1) (by simp;omega)
 have k2:=(lz.drop off).nth (i:=m+2) (by simp;omega)
 have n0:=eF zl off m
 have n1:=eF zl off (m+1)
 have n2:=eF zl off (m+2)
 have hDl:(zl.drop off).length=zl.length-off:=by simp
 have hYb:V 4294967296 y<4294967296^(m+2):=by have:=mF (by decide) ly;rwa [DY]at this
 have hX:V 4294967296 ((zl.drop off).take (m+3))=V 4294967296 ((zl.drop off).take (m+2))+4294967296^(m+2)*nth (zl.drop off) (m+2):=aR (by simp;omega)
 refine G2 (E:=env) (fun _=>0) (t:=4) [(0, .own id ver off (m+3)),(1,us y)] Tryz.func271 rfl (by kernel_rfl) (by kernel_rfl) (show 2≤170 by decide) rfl (by simp) ?_
 refine aB [0,1] ?_
 refine W.sr ?_
 simp (disch:=omega) [gw,DY]
 refine bF [0,1,5] ?_
 have a1:((m:Int)+2-1)=((m+1:Nat):Int):=by omega
 have a2:((m:Int)+2-2)=(m:Int):=by omega
 refine W.sd ?_
 simp (disch:=omega) [gw,DY,a1,a2]
 refine bF [0,1,5,6,7] ?_
 rw [n0]at k0 HF
 rw [n1]at k1 HF
 rw [n2]at k2 HF hc hX
 generalize hxa:nth zl (off+m)=xa at *
 generalize hxb:nth zl (off+(m+1))=xb at *
 generalize hxc:nth zl (off+(m+2))=xc at *
 generalize htt:nth y (m+1)=top at *
 generalize hnn:nth y m=nx at *
 have X9:=(tJ (a:=xc*4294967296) (b:=xb) 32 (by omega) k1.1 ⟨xc,by rw [Int.mul_comm];rfl⟩ (by simpa using k1.2) (by omega)).1
 have htp:¬top=0:=by omega
 refine W.sd ?_
 have a3:((m:Int)+2).toNat=m+2:=by omega
 simp (disch:=omega) [gw,hr,a1,a3,hxb,hxc,X9]
 refine bF [0,1,5,6,7,8] ?_
 generalize hXX:V 4294967296 ((zl.drop off).take (m+3))=X at *
 generalize hYY:V 4294967296 y=Y at *
 have hY0:=HF.Y0
 have hX0:0≤X:=by rw [←hXX];exact bH (by decide) ((lz.drop off).take _)
 have hhd:xc*4294967296+xb≤top*4294967296+4294967296-1:=by omega
 have hf:=HF.first
 have hg0:=Int.ediv_nonneg HF.h0 (show 0≤top by omega)
 have LY:=Int.mul_ediv_add_emod (xc*4294967296+xb) top
 have E3:=Int.emod_nonneg (xc*4294967296+xb) htp
 have I8:=Int.emod_lt_of_pos (xc*4294967296+xb) (show 0<top by omega)
 have hgu:(xc*4294967296+xb)/top≤4294967297:=by
  rcases Int.lt_or_le 4294967297 ((xc*4294967296+xb)/top)with h | h
  ·exfalso
   have:=Int.mul_le_mul_of_nonneg_left (show 4294967298≤(xc*4294967296+xb)/top by omega) (show 0≤top by omega)
   omega
  ·exact h
 rw [Int.mul_comm]at LY
 have hh0:=HF.h0
 generalize hhe:xc*4294967296+xb=head at *
 have hwq:IntKind.u64.wrap (head/top)=head/top:=wrap_u64 hg0 (by omega)
 refine W.sr ?_
 simp (disch:=omega) [gw,htp,hwq]
 refine bF [0,1,5,6,7,8,9] ?_
 refine W.sr ?_
 simp (disch:=omega) [gw,htp]
 refine bF [0,1,5,6,7,9,10] ?_
 refine W.pF (fun σ=>∃(g:Int),σ=⟨fa [(0, .own id ver off (m+3)),(1,us y),(5, .int .i64 ((m:Int)+2)),(9, .int .u64 g)],rows,clk⟩∧0≤g∧g<4294967296∧X<(g+1)*Y∧g*Y<X+Y) ?_ ?_
 ·
  refine W.a9 (fun k σ=>∃(g r:Int),σ=⟨fa [(0, .own id ver off (m+3)),(1,us y),(5, .int .i64 ((m:Int)+2)),(6, .int .u64 top),(7, .int .u64 nx),(9, .int .u64 g),(10, .int .u64 r)],rows,clk⟩∧k=g.toNat∧0≤g∧g≤4294967297∧0≤r∧r<4294967296∧g*top+r=head∧X<(g+1)*Y) (head/top).toNat ?_ ?_
  ·exact⟨_, .refl,head/top,head%top,rfl,rfl,hg0,hgu,E3,by omega,LY,hf⟩
  rintro k _ ⟨g,r,rfl,hk,q1,q2,q3,q4,q5,q6⟩
  refine W.seq ?_
  have aoP:0≤g*nx:=Int.mul_nonneg q1 l1.1
  refine W.fW (fun σ=>∃(b:Bool),σ=⟨fa [(0, .own id ver off (m+3)),(1,us y),(5, .int .i64 ((m:Int)+2)),(6, .int .u64 top),(7, .int .u64 nx),(9, .int .u64 g),(10, .int .u64 r),(71, .bool b)],rows,clk⟩∧(b=true↔4294967296≤g∨r*4294967296+xa<g*nx)) (fun K hK=>?_) ?_
  ·by_cases hb:4294967296≤g
   ·simp (disch:=omega) [gw,hb]
    exact hK _ _ (aC _ [0,1,5,6,7,9,10,71]) ⟨_,rfl,by simp [hb]⟩
   ·have atL:g*nx≤4294967295*4294967295:=Int.mul_le_mul (by omega) (by omega) l1.1 (by omega)
    have hwr:IntKind.u64.wrap (g*nx)=g*nx:=wrap_u64 aoP (by omega)
    have aoQ:=(tJ (a:=r*4294967296) (b:=xa) 32 (by omega) k0.1 ⟨r,by rw [Int.mul_comm];rfl⟩ (by simpa using k0.2) (by omega)).1
    simp (disch:=omega) [gw,hb,hwr,hr,a2,hxa,aoQ]
    exact hK _ _ (aC _ [0,1,5,6,7,9,10,71]) ⟨_,rfl,by simp [hb]⟩
  rintro _ ⟨b,rfl,hb⟩
  refine bO ?_ ?_<;>intro h
  ·have h:=hb.1 h
   have akj:X<g*Y:=by
    rcases h with h | h
    ·exact HF.big h
    ·exact HF.over q1 q5 h
   have hgp:1≤g:=by
    rcases Int.lt_or_le g 1 with h3 | h3
    ·exfalso
     have:g=0:=by omega
     rw [this,Int.zero_mul]at akj;omega
    ·exact h3
   have e5:(g-1)*top+(r+top)=head:=by rw [Int.sub_mul];omega
   have e6:X<(g-1+1)*Y:=by rw [Int.sub_add_cancel];exact akj
   refine W.skip ?_
   refine W.block ?_
   refine aB [0,1,5,6,7,9,10] ?_
   refine aB [0,1,5,6,7,9,10] ?_
   refine aB [0,1,5,6,7,9,10,78] ?_
   refine bO ?_ ?_<;>intro h
   ·have h:4294967296≤r+top:=by simp at h;omega
    have BH:=HF.RB hhd e5 h
    have hnr:=HF.aiQ (by omega) BH e5 (HF.aiR (by omega) BH h)
    refine eH ?_
    exact⟨_,aC _ [0,1,5,9],g-1,rfl,by omega,BH,e6,hnr⟩
   ·have h:r+top<4294967296:=by simp at h;omega
    refine W.skip ?_
    exact⟨(g-1).toNat,_,aC _ [0,1,5,6,7,9,10],by omega,g-1,r+top,rfl,rfl,by omega,by omega,by omega,h,e5,e6⟩
  ·have h:¬(4294967296≤g∨r*4294967296+xa<g*nx):=fun h2=>by rw [hb.2 h2]at h;cases h
   have hnr:=HF.aiQ q1 (by omega) q5 (by omega)
   refine eH ?_
   exact⟨_,aC _ [0,1,5,9],g,rfl,q1,by omega,q6,hnr⟩
 rintro _ ⟨g,rfl,g0,g1,hgX,hgY⟩
 clear hf hg0 LY E3 I8 hgu X9
 refine aB [0,1,5,9,11,12] ?_
 refine W.seq ?_
 refine W.sr ?_
 simp (disch:=omega) [gw,DY]
 refine bF [0,1,5,9,11,12,79,80,81] ?_
 refine W.block ?_
 refine W.a9 (fun q σ=>∃(i:Nat) (c β:Int) (z:List Int) (qN:Pm.Rows),σ=⟨fa [(0, .own id ver off (m+3)),(1,us y),(5, .int .i64 ((m:Int)+2)),(9, .int .u64 g),(11, .int .u64 c),(12, .int .u64 β),(79,us y),(80, .int .i64 ((m:Int)+2)),(81, .int .i64 i)],qN,clk⟩ ∧
  qN id=some ⟨ver,185,1,emap u32 z⟩∧(∀j,j≠id→qN j=rows j)∧q=m+2-i∧i≤m+2∧z.length=zl.length∧b6 4294967296 z∧z.take off=zl.take off∧(z.drop off).drop i=(zl.drop off).drop i∧0≤c∧c<4294967296∧(β=0∨β=1) ∧
  V 4294967296 ((z.drop off).take i)+g*V 4294967296 (y.take i)=V 4294967296 ((zl.drop off).take i)+(c+β)*4294967296^i) (m+2) ?_ ?_
 ·exact⟨_,Gh.fr [(0, .own id ver off (m+3)),(1,us y),(5, .int .i64 ((m:Int)+2)),(9, .int .u64 g),(11, .int .u64 0),(12, .int .u64 0),(79,us y),(80, .int .i64 ((m:Int)+2)),(81, .int .i64 (0:Nat))] (by simp),0,0,0,zl,rows,rfl,hr,fun _ _=>rfl,by omega,by omega,rfl,lz,rfl,rfl,by omega,by omega, .inl rfl,by simp [V]⟩
 rintro q _ ⟨i,c,β,z,qN,rfl,dB,hro,hq,hi,akk,lz2,hP,hD,c0,c1,hβ,hV⟩
 refine cH [0,1,5,9,11,12,79,80,81,82] ?_
 refine bO ?_ ?_<;>intro h
 ·have hi:i<m+2:=by simp at h;omega
  have hw:=ly.nth (i:=i) (by omega)
  have hVy:=aR (b:=4294967296) (l:=y) (i:=i) (by omega)
  have hVx:=aR (b:=4294967296) (l:=zl.drop off) (i:=i) (by omega)
  have YC:nth z (off+i)=nth (zl.drop off) i:=by
   rw [←eF]
   have:=congrArg (fun l=>nth l 0) hD
   simpa [eF]using this
  have hx:=(lz.drop off).nth (i:=i) (by omega)
  generalize nth (zl.drop off) i=x at *
  generalize hwe:nth y i=w at *
  obtain⟨s1,s2,β',mP,s3,s4⟩:=RF ⟨g0,g1⟩ hw ⟨c0,c1⟩ hx hβ
  refine iS ?_
  refine W.sr ?_
  simp (disch:=omega) [gw,DY,hwe]
  refine bF [0,1,5,9,11,12,13,14,79,80,81] ?_
  have hp1:IntKind.u64.wrap (g*w)=g*w:=wrap_u64 (Int.mul_nonneg g0 hw.1) (by omega)
  have VG:IntKind.u64.wrap (g*w+c)=g*w+c:=wrap_u64 s1.1 (by omega)
  refine W.sr ?_
  simp (disch:=omega) [gw,hp1,VG]
  refine bF [0,1,5,9,12,13,15,79,80,81] ?_
  refine aB [0,1,5,9,11,12,13,15,79,80,81] ?_
  have hp3:IntKind.u32.wrap (g*w+c)=(g*w+c)%4294967296:=wrap_u32'
  have hp4:IntKind.u64.wrap (IntKind.u64.wrap (x-(g*w+c)%4294967296)-β)=(x-(g*w+c)%4294967296-β)%18446744073709551616:=by rw [gS,gS];omega
  refine W.sr ?_
  simp (disch:=omega) [gw,dB,YC,hp3,hp4]
  refine bF [0,1,5,9,11,13,16,79,80,81] ?_
  have hs3:=s3
  have hs4:=s4
  generalize hss:(x-(g*w+c)%4294967296-β)%18446744073709551616=s at *
  have hp5:IntKind.u32.wrap s=s%4294967296:=wrap_u32'
  have hoi:off+i<z.length:=by omega
  refine W.cA (fun K hK=>?_)
  simp (disch:=omega) [gw,dB,hp5,s3,hoi]
  refine W.lw [0,1,5,9,11,12,79,80,81] hK ?_;clear hK K;simp
  refine W.cA (fun K hK=>?_);simp (disch:=omega) [gw]
  refine hK _ ⟨m+2-(i+1),_,aC _ [0,1,5,9,11,12,79,80,81],by omega,i+1,(g*w+c)/4294967296,β',z.set (off+i) (s%4294967296),_,rfl,by simp,fun j hj=>by simp [hj,hro j hj],by omega,by omega,by simp [akk],lz2.set ⟨by omega,by omega⟩,by rw [fH (by omega),hP],?_,s2.1,s2.2,mP,?_⟩
  ·rw [jV,List.drop_set_of_lt (by omega)]
   have:=congrArg (List.drop 1) hD
   rw [List.drop_drop,List.drop_drop,List.drop_drop,List.drop_drop]at this
   rw [List.drop_drop,List.drop_drop]
   exact this
  ·rw [jV,dQ (by simp;omega),hVy,hVx,s4,Int.pow_succ]
   have h10:=Int.mul_ediv_add_emod (g*w+c) 4294967296
   generalize (g*w+c)/4294967296=pq at *
   generalize (g*w+c)%4294967296=pr at *
   generalize (4294967296:Int)^i=bi at *
   have e7:g*(V 4294967296 (y.take i)+bi*w)=g*V 4294967296 (y.take i)+bi*(g*w):=by grind
   rw [e7]
   have e8:g*w=4294967296*pq+pr-c:=by omega
   rw [e8]
   have e9:V 4294967296 ((z.drop off).take i)=V 4294967296 ((zl.drop off).take i)+(c+β)*bi-g*V 4294967296 (y.take i):=by omega
   rw [e9]
   grind
 ·have hi:i=m+2:=by simp at h;omega
  subst hi
  rw [List.take_of_length_le (show y.length≤m+2 by omega),hYY]at hV
  have YC:nth z (off+(m+2))=xc:=by
   rw [←n2,←eF]
   have:=congrArg (fun l=>nth l 0) hD
   simpa [eF]using this
  have hV0:=bH (b:=4294967296) (by decide) ((lz2.drop off).take (m+2))
  have hV1:=mF (b:=4294967296) (by decide) ((lz2.drop off).take (m+2))
  rw [List.length_take,Nat.min_eq_left (by simp;omega)]at hV1
  have hXg:X-g*Y=V 4294967296 ((z.drop off).take (m+2))+4294967296^(m+2)*(xc-c-β):=by
   rw [hX]
   have:(c+β)*4294967296^(m+2)=4294967296^(m+2)*c+4294967296^(m+2)*β:=by grind
   rw [Int.mul_sub,Int.mul_sub];omega
  have hoi:off+(m+2)<z.length:=by omega
  generalize hbn:(4294967296:Int)^(m+2)=bn at *
  have hp4:IntKind.u64.wrap (IntKind.u64.wrap (xc-c)-β)=(xc-c-β)%18446744073709551616:=by rw [gS,gS];omega
  refine eH ?_
  refine W.sr ?_
  simp (disch:=omega) [gw,dB,a3,YC,hp4]
  refine bF [0,1,5,9,17] ?_
  generalize hss:(xc-c-β)%18446744073709551616=s at *
  have hp5:IntKind.u32.wrap s=s%4294967296:=wrap_u32'
  refine W.sr ?_
  simp (disch:=omega) [gw,dB,a3,hp5,hoi]
  refine bF [0,1,5,9,17] ?_
  have YD:(z.set (off+(m+2)) (s%4294967296)).drop off=(z.drop off).set (m+2) (s%4294967296):=jV _ _ _ _
  have aex:(z.set (off+(m+2)) (s%4294967296)).take off=zl.take off:=by rw [fH (by omega),hP]
  have YE:((z.drop off).set (m+2) (s%4294967296)).drop (m+3)=(zl.drop off).drop (m+3):=by
   rw [List.drop_set_of_lt (by omega)]
   have:=congrArg (List.drop 1) hD
   rw [List.drop_drop,List.drop_drop,List.drop_drop,List.drop_drop]at this
   rw [List.drop_drop,List.drop_drop]
   exact this
  have MW:b6 4294967296 ((z.drop off).set (m+2) (s%4294967296)):=(lz2.drop off).set ⟨by omega,by omega⟩
  refine W.seq ?_
  rcases Int.lt_or_le (xc-c-β) 0 with SK | gZ
  ·-- one too many
   have YF:s/9223372036854775808=1:=by omega
   refine W.sr ?_
   simp (disch:=omega) [gw,YF]
   refine bF [0,1,5,9,129] ?_
   refine bO ?_ ?_<;>intro h
   ·cases h
   refine W.skip ?_
   have aoU:bn*(xc-c-β) = - bn:=by
    rcases Int.lt_or_le (xc-c-β) (-1)with h | h
    ·exfalso
     have:=Int.mul_le_mul_of_nonneg_left (show xc-c-β ≤ -2 by omega) (show 0≤bn by omega)
     omega
    ·have:xc-c-β = -1:=by omega
     rw [this];omega
   have hsv:s%4294967296=4294967295:=by
    rcases Int.lt_or_le (xc-c-β) (-1)with h | h
    ·exfalso
     have:=Int.mul_le_mul_of_nonneg_left (show xc-c-β ≤ -2 by omega) (show 0≤bn by omega)
     omega
    ·omega
   rw [aoU]at hXg
   obtain⟨VF,X0⟩:=HF.aiS hgY (by omega)
   have hgp:0≤g-1:=by rw [VF];exact Int.ediv_nonneg hX0 (by omega)
   rw [hsv]at YD aex YE MW ⊢
   have akn:((z.drop off).set (m+2) 4294967295).take (m+2)=(z.drop off).take (m+2):=fH (Nat.le_refl _)
   rw [←akn]at hXg hV0 hV1
   have ako:nth ((z.drop off).set (m+2) 4294967295) (m+2)=4294967295:=dI (by simp;omega)
   generalize pJ:z.set (off+(m+2)) 4294967295=z2 at *
   have aoV:z2.length=zl.length:=by rw [←pJ];simp [akk]
   rw [←YD]at hXg hV0 hV1 ako MW YE
   have lz3:b6 4294967296 z2:=by rw [←pJ];exact lz2.set ⟨by omega,by omega⟩
   clear hss hp5 hp4 YF YD akn hV YC hD hP MW lz2
   refine aB [0,1,5,9,18] ?_
   refine W.seq ?_
   refine W.sr ?_
   simp (disch:=omega) [gw,DY]
   refine bF [0,5,9,18,132,133,134] ?_
   refine W.block ?_
   refine W.a9 (fun q σ=>∃(i:Nat) (k:Int) (z:List Int) (qN:Pm.Rows),σ=⟨fa [(0, .own id ver off (m+3)),(5, .int .i64 ((m:Int)+2)),(9, .int .u64 g),(18, .int .u64 k),(132,us y),(133, .int .i64 ((m:Int)+2)),(134, .int .i64 i)],qN,clk⟩ ∧
    qN id=some ⟨ver,185,1,emap u32 z⟩∧(∀j,j≠id→qN j=rows j)∧q=m+2-i∧i≤m+2∧z.length=zl.length∧b6 4294967296 z∧z.take off=zl.take off∧(z.drop off).drop i=(z2.drop off).drop i∧(k=0∨k=1) ∧
    V 4294967296 ((z.drop off).take i)+k*4294967296^i=V 4294967296 ((z2.drop off).take i)+V 4294967296 (y.take i)) (m+2) ?_ ?_
   ·exact⟨_,Gh.fr [(0, .own id ver off (m+3)),(5, .int .i64 ((m:Int)+2)),(9, .int .u64 g),(18, .int .u64 0),(132,us y),(133, .int .i64 ((m:Int)+2)),(134, .int .i64 (0:Nat))] (by simp),0,0,z2,_,rfl,by simp,fun j hj=>by simp [hj,hro j hj],by omega,by omega,aoV,lz3,aex,rfl, .inl rfl,by simp [V]⟩
   rintro q _ ⟨i,k,z,arS,rfl,c5,akp,hq,hi,aoW,lz4,hP,hD,hk,hV⟩
   refine cH [0,5,9,18,132,133,134,135] ?_
   refine bO ?_ ?_<;>intro h
   ·have hi:i<m+2:=by simp at h;omega
    have hw:=ly.nth (i:=i) (by omega)
    have hVy:=aR (b:=4294967296) (l:=y) (i:=i) (by omega)
    have hVx:=aR (b:=4294967296) (l:=z2.drop off) (i:=i) (by simp;omega)
    have YC:nth z (off+i)=nth (z2.drop off) i:=by
     rw [←eF]
     have:=congrArg (fun l=>nth l 0) hD
     simpa [eF]using this
    have hx:=(lz3.drop off).nth (i:=i) (by simp;omega)
    generalize nth (z2.drop off) i=x at *
    generalize hwe:nth y i=w at *
    refine iS ?_
    refine W.sr ?_
    simp (disch:=omega) [gw,DY,hwe]
    refine bF [0,5,9,18,19,20,132,133,134] ?_
    refine W.sr ?_
    simp (disch:=omega) [gw,c5,YC]
    refine bF [0,5,9,19,21,132,133,134] ?_
    have hp6:IntKind.u32.wrap (x+w+k)=(x+w+k)%4294967296:=wrap_u32'
    have aoX:off+i<z.length:=by omega
    refine W.cA (fun K hK=>?_)
    simp (disch:=omega) [gw,c5,hp6,aoX]
    refine W.lw [0,5,9,18,132,133,134] hK ?_;clear hK K;simp
    refine W.cA (fun K hK=>?_);simp (disch:=omega) [gw]
    refine hK _ ⟨m+2-(i+1),_,aC _ [0,5,9,18,132,133,134],by omega,i+1,(x+w+k)/4294967296,z.set (off+i) ((x+w+k)%4294967296),_,rfl,by simp,fun j hj=>by simp [hj,akp j hj],by omega,by omega,by simp [aoW],lz4.set ⟨by omega,by omega⟩,by rw [fH (by omega),hP],?_,by omega,?_⟩
    ·rw [jV,List.drop_set_of_lt (by omega)]
     have:=congrArg (List.drop 1) hD
     rw [List.drop_drop,List.drop_drop,List.drop_drop,List.drop_drop]at this
     rw [List.drop_drop,List.drop_drop]
     exact this
    ·rw [jV,dQ (by simp;omega),hVy,hVx,Int.pow_succ]
     have h10:=Int.mul_ediv_add_emod (x+w+k) 4294967296
     generalize (x+w+k)/4294967296=pq at *
     generalize (x+w+k)%4294967296=pr at *
     generalize (4294967296:Int)^i=bi at *
     have e8:pr=x+w+k-4294967296*pq:=by omega
     rw [e8]
     have e9:V 4294967296 ((z.drop off).take i)=V 4294967296 ((z2.drop off).take i)+V 4294967296 (y.take i)-k*bi:=by omega
     rw [e9]
     grind
   ·have hi:i=m+2:=by simp at h;omega
    subst hi
    rw [List.take_of_length_le (show y.length≤m+2 by omega),hYY,hbn]at hV
    have YC:nth z (off+(m+2))=4294967295:=by
     rw [←ako,←eF]
     have:=congrArg (fun l=>nth l 0) hD
     simpa [eF]using this
    have L3:=bH (b:=4294967296) (by decide) ((lz4.drop off).take (m+2))
    have hV3:=mF (b:=4294967296) (by decide) ((lz4.drop off).take (m+2))
    rw [List.length_take,Nat.min_eq_left (by simp;omega),hbn]at hV3
    have hk1:k=1:=by
     rcases hk with rfl | rfl
     ·exfalso;omega
     ·rfl
    subst hk1
    have aoY:off+(m+2)<z.length:=by omega
    have hwc:IntKind.u32.wrap 4294967296=0:=rfl
    have hwg:IntKind.u32.wrap g=g:=wrap_u32 g0 g1
    refine eH ?_
    refine W.sr ?_
    simp (disch:=omega) [gw,c5,a3,YC,aoY,hwc]
    refine bF [9] ?_
    refine W.sr ?_
    simp (disch:=omega) [gw,hwg]
    refine bF [4] ?_
    refine W.ret ?_
    refine⟨(z.drop off).set (m+2) 0,by simp [VF],?_,rfl,by simp;omega,(lz4.drop off).set ⟨by omega,by omega⟩,?_,?_⟩
    ·have hzz:z.set (off+(m+2)) 0=zl.take off++(z.drop off).set (m+2) 0:=by
      rw [←jV,←hP,←fH (l:=z) (i:=off+(m+2)) (x:=0) (show off≤off+(m+2)by omega),List.take_append_drop]
     rw [hzz]
     funext j
     by_cases hj:j=id
     ·subst hj;simp
     ·simp [hj,akp j hj,c4]
    ·rw [List.drop_set_of_lt (by omega),←YE]
     have:=congrArg (List.drop 1) hD
     rw [List.drop_drop,List.drop_drop,List.drop_drop,List.drop_drop]at this
     rw [List.drop_drop,List.drop_drop]
     exact this
    ·rw [show m+3=(m+2)+1 from rfl,dQ (by simp;omega),hbn,←X0]
     omega
  ·have YF:s/9223372036854775808=0:=by omega
   have ao0:0≤X-g*Y:=by
    rw [hXg]
    have:=Int.mul_nonneg (show 0≤bn by omega) gZ
    omega
   obtain⟨VF,X0⟩:=HF.right hgX ao0
   refine W.sr ?_
   simp (disch:=omega) [gw,YF]
   refine bF [0,1,5,9,129] ?_
   refine bO ?_ ?_<;>intro h
   ·have hwg:IntKind.u32.wrap g=g:=wrap_u32 g0 g1
    refine W.sr ?_
    simp (disch:=omega) [gw,hwg]
    refine bF [4] ?_
    refine W.ret ?_
    refine⟨(z.drop off).set (m+2) (s%4294967296),by simp [VF],?_,rfl,by simp;omega,MW,YE,?_⟩
    ·have hzz:z.set (off+(m+2)) (s%4294967296)=zl.take off++(z.drop off).set (m+2) (s%4294967296):=by
      rw [←aex,←YD,List.take_append_drop]
     rw [hzz]
     funext j
     by_cases hj:j=id
     ·subst hj;simp
     ·simp [hj,hro j hj,c4]
    ·rw [show m+3=(m+2)+1 from rfl,dQ (by simp;omega),hbn,←X0,hXg]
     have:s%4294967296=xc-c-β:=by omega
     rw [this]
   ·cases h
theorem SL{t:Int}(h0:0<t)(h1:t<4294967296):∃s:Nat,s≤31∧(32:Int)-nb t.toNat=s∧2147483648≤t*2^s∧(t+1)*2^s≤4294967296:=by
 have h2:nb t.toNat≤32:=mA.2 (by omega)
 have h3:1≤nb t.toNat:=by
  rcases Nat.eq_zero_or_pos (nb t.toNat)with h | h
  ·have:=mA.1 (Nat.le_of_eq h);omega
  ·exact h
 obtain⟨k,hk⟩:∃k,nb t.toNat=k+1:=⟨nb t.toNat-1,by omega⟩
 have h4:t.toNat<2^(k+1):=mA.1 (Nat.le_of_eq hk)
 have h5:2^k≤t.toNat:=by
  rcases Nat.lt_or_ge t.toNat (2^k)with h | h
  ·have:=mA.2 h;omega
  ·exact h
 have e1:(2:Int)^(k+1)*2^(31-k)=4294967296:=by rw [←Int.pow_add,show k+1+(31-k)=32 by omega];rfl
 have e2:(2:Int)^k*2^(31-k)=2147483648:=by rw [←Int.pow_add,show k+(31-k)=31 by omega];rfl
 have hp:(0:Int)<2^(31-k):=Int.pow_pos (by decide)
 have q1:((2^k:Nat):Int)=(2:Int)^k:=Int.natCast_pow 2 k
 have q2:((2^(k+1):Nat):Int)=(2:Int)^(k+1):=Int.natCast_pow 2 (k+1)
 refine⟨31-k,by omega,by omega,?_,?_⟩
 ·have:=Int.mul_le_mul_of_nonneg_right (show (2:Int)^k≤t by omega) (Int.le_of_lt hp)
  omega
 ·have:=Int.mul_le_mul_of_nonneg_right (show t+1≤(2:Int)^(k+1)by omega) (Int.le_of_lt hp)
  omega
theorem MX{y:List Int}(hc:aG y=y)(h:y ≠ []):nth y (y.length-1)≠0:=by
 intro h0
 have hl:0<y.length:=List.length_pos_iff.2 h
 have e:y=y.take (y.length-1) ++ [0]:=by
  have:=aU (l:=y) (i:=y.length-1) (by omega)
  rw [h0,show y.length-1+1=y.length by omega,List.take_length]at this
  exact this
 have h1:=gT (y.take (y.length-1))
 rw [←e,hc]at h1
 have h2:=bN (y.take (y.length-1))
 rw [←h1,List.length_take]at h2
 omega
theorem SM{m i:Nat}{X D:List Int}{Y g:Int}(lX:b6 4294967296 X)(lD:b6 4294967296 D)(hYb:Y<4294967296^(m+2))(hY0:0<Y)(sI:i+m+3≤X.length)(hDl:D.length=(X.drop i).length)(hDd:D.drop (m+3)=(X.drop i).drop (m+3))
  (hg:g=V 4294967296 ((X.drop i).take (m+3))/Y) (hDv:V 4294967296 (D.take (m+3))=V 4294967296 ((X.drop i).take (m+3))%Y) (jH:V 4294967296 (X.drop (i+1))<Y) :
  V 4294967296 ((X.take i++D).drop i)<Y∧V 4294967296 (X.take i++D)=V 4294967296 X-4294967296^i*(g*Y):=by
 have hl:(X.take i).length=i:=by simp;omega
 have e1:(X.take i++D).drop i=D:=by rw [List.drop_append,hl,List.drop_of_length_le (by omega)];simp
 have hD3:=iF (b:=4294967296) D (m+3) (by rw [hDl];simp;omega)
 have hX3:=iF (b:=4294967296) (X.drop i) (m+3) (by simp;omega)
 have hXi:=iF (b:=4294967296) X i (by omega)
 have hz:V 4294967296 ((X.drop i).drop (m+3))=0:=by
  have h1:=iF (b:=4294967296) (X.drop (i+1)) (m+2) (by simp;omega)
  have h2:(X.drop (i+1)).drop (m+2)=(X.drop i).drop (m+3):=by
   rw [List.drop_drop,List.drop_drop];congr 1;omega
  have h3:=bH (b:=4294967296) (by decide) ((lX.drop (i+1)).take (m+2))
  have h4:=bH (b:=4294967296) (by decide) ((lX.drop i).drop (m+3))
  rw [h2]at h1
  rcases Int.lt_or_le 0 (V 4294967296 ((X.drop i).drop (m+3)))with h5 | h5
  ·exfalso
   have:=Int.mul_le_mul_of_nonneg_left (show 1≤V 4294967296 ((X.drop i).drop (m+3))by omega) (show 0≤(4294967296:Int)^(m+2)by omega)
   omega
  ·omega
 rw [hDd,hz,Int.mul_zero,Int.add_zero]at hD3
 rw [hz,Int.mul_zero,Int.add_zero]at hX3
 have hm:=Int.emod_lt_of_pos (V 4294967296 ((X.drop i).take (m+3))) hY0
 have LY:=Int.mul_ediv_add_emod (V 4294967296 ((X.drop i).take (m+3))) Y
 rw [←hg,←hDv,←hX3,←hD3]at LY
 refine⟨by rw [e1,hD3,hDv];exact hm,?_⟩
 rw [c8,hl,hXi,←LY]
 grind
theorem DZ(a b:List Int)(ha:lR a)(hb:lR b)(h0:V 4294967296 b=0):aZ env.P 259 [us a,us b] (.eQ [us [],us [], .int .i64 2]):=by
 have hlb:=hb.len
 have RZ:=ha.len
 have hcb:=bN b
 have hy:aG b = []:=by rw [m9 eV hb.tE];show a5 LL (V 4294967296 b).toNat = [];rw [h0];rfl
 refine cL [(0,us a),(1,us b)] Tryz.func259 ?_
 refine aB [0,1] ?_
 refine j1 ?_
 refine aD (cN a (by omega)) ?_
 simp (disch:=omega) [gw]
 refine aD (cN b (by omega)) ?_
 simp (disch:=omega) [gw]
 refine bF [0,1] ?_
 rw [hy]
 refine W.seq ?_
 refine W.block ?_
 refine aB [0,1,18] ?_
 refine bO ?_ ?_<;>intro h
 ·refine aB [4,5,6] ?_
  refine W.ret ?_
  simp [go]
  rfl
 ·cases h
theorem vR(a b:List Int)(ha:lR a)(hb:lR b)(h0:V 4294967296 b≠0)(RZ:a.length<1099511627774)(hlb:b.length<1099511627774) :
  aZ env.P 259 [us a,us b] (.eQ [N (V 4294967296 a/V 4294967296 b),N (V 4294967296 a%V 4294967296 b), .int .i64 0]):=by
 have hca:=bN a
 have hcb:=bN b
 have hVa:=cD (b:=4294967296) a
 have hVb:=cD (b:=4294967296) b
 have lx:=c9 ha.tE
 have ly:=c9 hb.tE
 have cx:=cR a
 have cy:=cR b
 rw [←hVa,←hVb]
 rw [←hVb]at h0
 refine cL [(0,us a),(1,us b)] Tryz.func259 ?_
 refine aB [0,1] ?_
 refine j1 ?_
 refine aD (cN a (by omega)) ?_
 simp (disch:=omega) [gw]
 refine aD (cN b (by omega)) ?_
 simp (disch:=omega) [gw]
 refine bF [0,1] ?_
 have N2:(aG a).length<1099511627774:=by omega
 have DY:(aG b).length<1099511627774:=by omega
 clear hVa hVb hca hcb
 generalize aG a=x at *
 generalize aG b=y at *
 have hyn:y ≠ []:=fun h=>h0 (by rw [h];rfl)
 have hyp:0<y.length:=List.length_pos_iff.2 hyn
 have hY0:0<V 4294967296 y:=by have:=bH (b:=4294967296) (by decide) ly;omega
 have hX0:=bH (b:=4294967296) (by decide) lx
 refine W.seq ?_
 refine W.block ?_
 refine aB [0,1,18] ?_
 refine bO ?_ ?_<;>intro h
 ·exfalso;simp at h;exact hyn h
 clear h
 refine aB [0,1,22] ?_
 refine bO ?_ ?_<;>intro h
 ·have h:x.length<y.length:=by simp at h;omega
  have KX:=gU (b:=4294967296) (by decide) lx ly cy h
  rw [Int.ediv_eq_zero_of_lt hX0 KX,Int.emod_eq_of_lt hX0 KX]
  refine j1 ?_
  refine aD (kY x (by omega) lx) ?_
  simp (disch:=omega) [gw]
  refine bF [4,5,6] ?_
  refine W.ret ?_
  simp [go]
  rfl
 have KX:y.length≤x.length:=by simp at h;omega
 clear h
 refine aB [0,1,30] ?_
 refine bO ?_ ?_<;>intro h
 ·have h:y.length=1:=by simp at h;omega
  obtain⟨w,rfl⟩:∃w,y = [w]:=match y,h with | [w],_=>⟨w,rfl⟩
  have hw:=(b6.cons.1 ly).1
  have hV1:V 4294967296 [w]=w:=kD
  rw [hV1]at h0 hY0 ⊢
  have E5:=Int.emod_nonneg (V 4294967296 x) h0
  have E8:=Int.emod_lt_of_pos (V 4294967296 x) hY0
  have g9:=YA x w (by omega) lx hY0 hw.2
  have lr:b6 4294967296 [V 4294967296 x%w]:=b6.cons.2 ⟨⟨E5,by omega⟩,b6.nil⟩
  have lU:=cN [V 4294967296 x%w] (by simp)
  rw [qE lr,kD]at lU
  have hnw:nth [w] 0=w:=rfl
  generalize V 4294967296 x/w=qq at *
  generalize V 4294967296 x%w=rr at *
  refine W.sr ?_
  simp (disch:=omega) [gw,hnw]
  refine c7 [7,8] g9 ?_
  refine bT [4,5,6] lU ?_
  exact cV
 have hy2:2≤y.length:=by simp at h;omega
 clear h
 obtain⟨m,hm⟩:∃m,y.length=m+2:=⟨y.length-2,by omega⟩
 have htn:=MX cy hyn
 rw [show y.length-1=m+1 by omega]at htn
 have htl:=ly.nth (i:=m+1) (by omega)
 obtain⟨s,YH,hsn,xF,hs2⟩:=SL (t:=nth y (m+1)) (by omega) htl.2
 have hLZ:=aev (nth y (m+1)) htl.1 htl.2
 rw [hsn]at hLZ
 have hp:(0:Int)<2^s:=Int.pow_pos (by decide)
 have aks:(2:Int)^s≤2147483648:=by
  have:=Int.ofNat_le.2 (Nat.pow_le_pow_right (show 0<2 by decide) YH)
  simpa using this
 have ZU:(0:Int)<4294967296^(m+1):=Int.pow_pos (by decide)
 have aey:=mF (b:=4294967296) (by decide) lx
 have hVy:=iF (b:=4294967296) y (m+1) (by omega)
 have hy1:V 4294967296 (y.drop (m+1))=nth y (m+1):=by rw [dW (by omega),List.drop_of_length_le (by omega),kD]
 rw [hy1]at hVy
 have ao7:=bH (b:=4294967296) (by decide) (ly.take (m+1))
 have hy3:=mF (b:=4294967296) (by decide) (ly.take (m+1))
 rw [List.length_take,Nat.min_eq_left (by omega)]at hy3
 have hyU:V 4294967296 y*2^s<4294967296^(m+2):=by
  have h1:V 4294967296 y<(nth y (m+1)+1)*4294967296^(m+1):=by rw [hVy];grind
  have h2:=Int.mul_lt_mul_of_pos_right h1 hp
  have h3:=Int.mul_le_mul_of_nonneg_right hs2 (Int.le_of_lt ZU)
  have e:(nth y (m+1)+1)*4294967296^(m+1)*2^s=(nth y (m+1)+1)*2^s*4294967296^(m+1):=by grind
  rw [show m+2=(m+1)+1 from rfl,Int.pow_succ]
  omega
 have hyL:2147483648*4294967296^(m+1)≤V 4294967296 y*2^s:=by
  have h1:nth y (m+1)*4294967296^(m+1)≤V 4294967296 y:=by rw [hVy,Int.mul_comm];omega
  have h2:=Int.mul_le_mul_of_nonneg_right h1 (Int.le_of_lt hp)
  have h3:=Int.mul_le_mul_of_nonneg_right xF (Int.le_of_lt ZU)
  have e:nth y (m+1)*4294967296^(m+1)*2^s=nth y (m+1)*2^s*4294967296^(m+1):=by grind
  omega
 have hxU:V 4294967296 x*2^s<4294967296^(x.length+1):=by
  rw [Int.pow_succ]
  exact Int.lt_of_lt_of_le (Int.mul_lt_mul_of_pos_right aey hp) (Int.mul_le_mul_of_nonneg_left (by omega) (Int.le_of_lt (Int.pow_pos (by decide))))
 obtain⟨x',hwx,atX,lx',aez⟩:=DX x s (x.length+1) YH (by omega) lx (by omega) (by omega) hxU
 obtain⟨y',hwy,akt,ly',MY⟩:=DX y s (m+2) YH (by omega) ly (by omega) (by omega) hyU
 have ao9:2147483648≤nth y' (m+1):=by
  have h1:=iF (b:=4294967296) y' (m+1) (by omega)
  have h2:V 4294967296 (y'.drop (m+1))=nth y' (m+1):=by rw [dW (by omega),List.drop_of_length_le (by omega),kD]
  have h3:=mF (b:=4294967296) (by decide) (ly'.take (m+1))
  rw [List.length_take,Nat.min_eq_left (by omega)]at h3
  rw [h2,MY]at h1
  rcases Int.lt_or_le (nth y' (m+1)) 2147483648 with h4 | h4
  ·exfalso
   have:=Int.mul_le_mul_of_nonneg_left (show nth y' (m+1)+1≤2147483648 by omega) (Int.le_of_lt ZU)
   rw [Int.mul_add,Int.mul_comm _ 2147483648]at this
   omega
  ·exact h4
 have YI:0<V 4294967296 y':=by rw [MY];exact Int.mul_pos hY0 hp
 have apa:V 4294967296 y'<4294967296^(m+2):=by rw [MY];exact hyU
 have hxm:m+2≤x.length:=by omega
 have hqx:V 4294967296 x/V 4294967296 y=V 4294967296 x'/V 4294967296 y':=by rw [aez,MY,Int.mul_ediv_mul_of_pos_left _ _ hp]
 have hrx:V 4294967296 x%V 4294967296 y=V 4294967296 x'%V 4294967296 y'/2^s:=by
  rw [aez,MY]
  have e1:=Int.emod_def (V 4294967296 x*2^s) (V 4294967296 y*2^s)
  rw [Int.mul_ediv_mul_of_pos_left _ _ hp]at e1
  have e2:=Int.emod_def (V 4294967296 x) (V 4294967296 y)
  rw [e1,e2]
  have e3:V 4294967296 x*2^s-V 4294967296 y*2^s*(V 4294967296 x/V 4294967296 y)=(V 4294967296 x-V 4294967296 y*(V 4294967296 x/V 4294967296 y))*2^s:=by grind
  rw [e3,Int.mul_ediv_cancel _ (by omega)]
 have aku:V 4294967296 (x'.drop (x.length-m-1))<V 4294967296 y':=by
  have h1:=iF (b:=4294967296) x' (x.length-m-1) (by omega)
  have h2:=bH (b:=4294967296) (by decide) (lx'.take (x.length-m-1))
  rw [aez]at h1
  have h3:V 4294967296 x*2^s<4294967296^(x.length-m-1)*(4294967296^(m+1)*2^s):=by
   rw [←Int.mul_assoc,←Int.pow_add,show x.length-m-1+(m+1)=x.length by omega]
   exact Int.mul_lt_mul_of_pos_right aey hp
  have h4:V 4294967296 (x'.drop (x.length-m-1))<4294967296^(m+1)*2^s:=Int.lt_of_mul_lt_mul_left (a:=4294967296^(x.length-m-1)) (by omega) (Int.le_of_lt (Int.pow_pos (by decide)))
  have h5:=Int.mul_le_mul_of_nonneg_left aks (Int.le_of_lt ZU)
  rw [MY]
  rw [Int.mul_comm _ 2147483648]at h5
  omega
 rw [hqx,hrx]
 refine W.skip ?_
 have a1:((m:Int)+2-1)=((m+1:Nat):Int):=by omega
 refine W.sr ?_
 simp (disch:=omega) [gw,hm,a1]
 refine c7 [0,1,9] hLZ ?_
 replace hwx:uJ env.P 270 [us x, .int .i64 s, .int .i64 ((x.length:Int)+1)] 185 1 (emap u32 x'):=hwx
 replace hwy:uJ env.P 270 [us y, .int .i64 s, .int .i64 ((m:Int)+2)] 185 1 (emap u32 y'):=hwy
 refine W.sr ?_
 simp (disch:=omega) [gw,hm]
 refine aaV hwx 58 (by simp) (by simp) (by simp) ?_
 simp (disch:=omega) [gw,hm]
 refine aaV hwy 63 (by simp) (by simp) (by simp) ?_
 simp (disch:=omega) [gw]
 refine bF [0,9,10,11] ?_
 refine W.freeze 63 (by simp) (fun K hK=>?_)
 simp
 refine hK _ ?_;clear hK K
 refine W.sr ?_
 simp (disch:=omega) [gw,akt]
 refine bF [0,9,10,11,12] ?_
 obtain⟨ql,hql⟩:∃ql,x.length=ql+m+1:=⟨x.length-m-1,by omega⟩
 rw [show x.length-m-1=ql by omega]at aku
 have abv:x'.length=ql+m+2:=by omega
 have aq:(x.length:Int)-((m:Int)+2)+1=(ql:Int):=by omega
 refine W.sr ?_
 simp (disch:=omega) [gw,aq]
 refine bF [4,9,10,11,12] ?_
 clear hwx hwy hVy hy1 ao7 hy3 hyU hyL hxU hqx hrx htn htl xF hs2 hsn hLZ aey hY0 hX0
 refine aQ [4,9,10,11,12,13] ?_
 refine W.block ?_
 refine W.a9 (fun q σ=>∃(v4:Nat) (X Q:List Int) (rows:Pm.Rows) (clk:Nat),σ=⟨fa [(4, .own 71 v4 0 ql),(9, .int .i64 s),(10, .own 58 0 0 (ql+m+2)),(11,us y'),(12, .int .i64 ((m:Int)+2)),(13, .int .i64 ((q:Int)-1))],rows,clk⟩ ∧
  rows 58=some ⟨0,185,1,emap u32 X⟩∧rows 71=some ⟨v4,185,1,emap u32 Q⟩∧q≤ql∧X.length=ql+m+2∧Q.length=ql∧b6 4294967296 X∧b6 4294967296 Q ∧
  V 4294967296 X+4294967296^q*V 4294967296 (Q.drop q)*V 4294967296 y'=V 4294967296 x'∧V 4294967296 (X.drop q)<V 4294967296 y') ql ?_ ?_
 ·exact⟨_,Gh.fr [(4, .own 71 _ 0 ql),(9, .int .i64 s),(10, .own 58 0 0 (ql+m+2)),(11,us y'),(12, .int .i64 ((m:Int)+2)),(13, .int .i64 ((ql:Int)-1))] (by simp [abv];exact rfl),_,x',List.replicate ql 0,_,_,rfl,by simp,by simp,by omega,abv,by simp,lx',b6.rep (by decide) _,by simp [V],aku⟩
 rintro q _ ⟨v4,X,Q,rows,clk,rfl,YJ,aeA,hq,hXl,YK,lX,lQ,hVX,hXU⟩
 refine aQ [4,9,10,11,12,13,76] ?_
 refine bO ?_ ?_<;>intro h
 ·have OA:0<q:=by simp at h;omega
  obtain⟨i,rfl⟩:∃i,q=i+1:=⟨q-1,by omega⟩
  clear h
  have ei:((i+1:Nat):Int)-1=i:=by omega
  rw [ei]
  have akv:V 4294967296 ((X.drop i).take (m+3))<4294967296*V 4294967296 y':=by
   have h1:=iF (b:=4294967296) (X.drop i) (m+3) (by simp;omega)
   have h2:=bH (b:=4294967296) (by decide) ((lX.drop i).drop (m+3))
   have h3:=Int.mul_nonneg (show (0:Int)≤4294967296^(m+3)from Int.le_of_lt (Int.pow_pos (by decide))) h2
   have h4:V 4294967296 (X.drop i)=nth X i+4294967296*V 4294967296 (X.drop (i+1)):=by rw [dW (by omega)];rfl
   have h5:=lX.nth (i:=i) (by omega)
   omega
  have apc:=fun(rows:Pm.Rows) clk hr=>HE (id:=58) (ver:=0) (off:=i) (m:=m) X y' rows clk hr akt (by omega) ly' ao9 lX (by omega) (by omega) akv
  have e6:(i:Int)+((m:Int)+2)+1=((i+m+3:Nat):Int):=by omega
  have e7:((i:Int)+(m:Int)+3).toNat-i=m+3:=by omega
  refine iS ?_
  refine W.cA (fun K hK=>?_)
  simp (disch:=omega) [gw,YJ,hXl,e6,e7]
  refine aiL (apc _ _ YJ) ?_
  rintro r rows' gF ⟨D,rfl,rfl,rfl,hDl,lD,hDd,hDv⟩
  have FX:=SM (g:=V 4294967296 ((X.drop i).take (m+3))/V 4294967296 y') lX lD apa YI (by omega) hDl hDd rfl hDv hXU
  have hg0:0≤V 4294967296 ((X.drop i).take (m+3))/V 4294967296 y':=Int.ediv_nonneg (bH (by decide) ((lX.drop i).take _)) (Int.le_of_lt YI)
  have PH:V 4294967296 ((X.drop i).take (m+3))/V 4294967296 y'<4294967296:=Int.ediv_lt_of_lt_mul YI akv
  generalize V 4294967296 ((X.drop i).take (m+3))/V 4294967296 y'=g at *
  have apd:(X.take i++D).length=ql+m+2:=by simp [hDl];omega
  have lX2:b6 4294967296 (X.take i++D):=b6.append.2 ⟨lX.take i,lD⟩
  obtain⟨ape,apf⟩:=FX
  generalize X.take i++D=X2 at *
  simp (disch:=omega) [gw,aeA,YK]
  refine W.lw [4,9,10,11,12,13] hK ?_;clear hK K;simp
  refine W.cA (fun K hK=>?_);simp (disch:=omega) [gw]
  refine hK _ ⟨i,_,aC _ [4,9,10,11,12,13],by omega,v4,X2,Q.set i g,_,_,rfl,by simp,by simp,by omega,apd,by simp [YK],lX2,lQ.set ⟨hg0,PH⟩,?_,ape⟩
  rw [apf,dW (l:=Q.set i g) (i:=i) (by simp;omega),dI (by omega),List.drop_set_of_lt (by omega),←hVX]
  simp only [V,Int.pow_succ]
  generalize V 4294967296 (Q.drop (i+1))=vq at *
  grind
 ·have OA:q=0:=by simp at h;omega
  subst OA
  simp only [List.drop_zero,Int.pow_zero,Int.one_mul]at hVX hXU
  have hX0:=bH (b:=4294967296) (by decide) lX
  have hQe:V 4294967296 x'/V 4294967296 y'=V 4294967296 Q:=by
   have e:(V 4294967296 Q+1)*V 4294967296 y'=V 4294967296 Q*V 4294967296 y'+V 4294967296 y':=by grind
   rw [Int.ediv_eq_iff_of_pos YI]
   constructor<;>omega
  have hRe:V 4294967296 x'%V 4294967296 y'=V 4294967296 X:=by
   have h3:=Int.emod_def (V 4294967296 x') (V 4294967296 y')
   rw [hQe,Int.mul_comm]at h3
   omega
  have hXt:V 4294967296 (X.take (m+2))=V 4294967296 X:=by
   have h1:=iF (b:=4294967296) X (m+2) (by omega)
   have h2:=bH (b:=4294967296) (by decide) (lX.drop (m+2))
   have h3:=bH (b:=4294967296) (by decide) (lX.take (m+2))
   have h4:(0:Int)<4294967296^(m+2):=Int.pow_pos (by decide)
   rcases Int.lt_or_le 0 (V 4294967296 (X.drop (m+2)))with h5 | h5
   ·exfalso
    have:=Int.mul_le_mul_of_nonneg_left (show 1≤V 4294967296 (X.drop (m+2))by omega) (Int.le_of_lt h4)
    omega
   ·have:V 4294967296 (X.drop (m+2))=0:=by omega
    rw [this]at h1;omega
  rw [hQe,hRe,←hXt]
  have zQ:=bA YK
  have zX:=bA hXl
  have lU:=cN Q (by omega)
  rw [qE lQ]at lU
  have apg:=YB (X.take (m+2)) s YH (by simp;omega) (lX.take _)
  refine eH ?_
  refine W.freeze 71 (by simp [aeA]) (fun K hK=>?_)
  simp [aeA,zQ]
  refine hK _ ?_;clear hK K
  refine W.freeze 58 (by simp [YJ]) (fun K hK=>?_)
  simp [YJ,zX]
  refine hK _ ?_;clear hK K
  have e8:((m:Int)+2).toNat=m+2:=by omega
  refine oW ?_
  refine aD lU ?_
  simp (disch:=omega) [gw,hXl,e8]
  refine c7 [4,5,6] apg ?_
  exact cV
theorem AM{A B:Int}(hB:0<B)(hA:0≤A):(A%B=0→(-A)/B = -(A/B)∧(-A)%B=0)∧(0<A%B→(-A)/B = -(A/B+1)∧(-A)%B=B-A%B):=by
 have h1:=Int.mul_ediv_add_emod A B
 have h2:=Int.emod_lt_of_pos A hB
 constructor
 ·intro h
  refine(Int.ediv_emod_unique hB).2 ⟨?_,by omega,by omega⟩
  rw [Int.mul_neg];omega
 ·intro h
  refine(Int.ediv_emod_unique hB).2 ⟨?_,by omega,by omega⟩
  rw [Int.mul_neg,Int.mul_add];omega
theorem SN(n m:Bool){A B:Int}(hB:0<B)(hA:0≤A) :
  (¬(n=true∧0<A%B)→(if n=true then -A else A)/(if m=true then -B else B)=(if (n != m)=true then -(A/B)else A/B)∧(if n=true then -A else A)%(if m=true then -B else B)=A%B) ∧
  (n=true→0<A%B→(if n=true then -A else A)/(if m=true then -B else B)=(if (n != m)=true then -(A/B+1)else A/B+1)∧(if n=true then -A else A)%(if m=true then -B else B)=B-A%B):=by
 obtain⟨p1,p2⟩:=AM hB hA
 have h0:=Int.emod_nonneg A (show B≠0 by omega)
 cases n<;>cases m<;>simp [Int.ediv_neg,Int.emod_neg]
 ·exact⟨fun h=>by have:=p1 (by omega);exact⟨this.1,by omega⟩,p2⟩
 ·exact⟨fun h=>by have:=p1 (by omega);exact⟨by omega,by omega⟩,fun h=>by have:=p2 h;exact⟨by omega,this.2⟩⟩
theorem YL(p:RP)(hp:p.length<9223372036854775808):aZ env.P 83 [Pg p] (.int .i64 ((p.length:Int)-1)):=by
 refine cL [(0,Pg p)] Tryz.func83 ?_
 refine aB [0] ?_
 refine aB [2] ?_
 exact cV
theorem D0(p:RP)(h:mG p):aZ env.P 145 [Pg p] (I (lead (fP p))):=by
 have hl:=h.len
 have eX:=bN (p.map gv)
 rw [List.length_map]at eX
 refine cL [(0,Pg p)] Tryz.func145 ?_
 refine aB [0,2] ?_
 refine W.seq ?_
 refine bT [0,2] (eE p h) ?_
 rw [show aG (p.map gv)=fP p from rfl]at eX ⊢
 generalize fP p=x at *
 refine aB [0,2,7] ?_
 refine bO ?_ ?_<;>intro h
 ·have h:x = []:=by simp at h;exact h
  subst h
  refine aB [2] ?_
  refine W.ret ?_
  simp [go]
  exact⟨Int.le_refl 0,rfl⟩
 ·have h:x ≠ []:=by simp at h;exact h
  have vG:0<x.length:=List.length_pos_iff.2 h
  refine W.skip ?_
  have e1:((x.length:Int)-1).toNat=x.length-1:=by omega
  refine W.sr ?_
  simp (disch:=omega) [gw,e1]
  refine bF [2] ?_
  refine W.ret ?_
  simp [go,lead]
theorem D1{x:Int}{k:Nat}(h0:0≤x)(h:x<4294967296^k):sz LL x≤k:=cX eV (by
 have e:((4294967296^k:Nat):Int)=(4294967296:Int)^k:=Int.natCast_pow 4294967296 k
 show x.natAbs<4294967296^k
 omega)
theorem JO{x:Int}{k:Nat}(h0:0≤x)(h:sz LL x≤k)(hk:k<1099511627776):lR (a5 LL x.toNat):=⟨eN eV _,by
 have e:x.natAbs=x.toNat:=by omega
 unfold sz at h
 rw [e]at h
 omega⟩
theorem SO{x:Int}(h0:0≤x):V 4294967296 (a5 LL x.toNat)=x:=by
 have:=iT eV x.toNat
 rw [show((LL:Nat):Int)=4294967296 from rfl]at this
 rw [this];omega
theorem YM{x:Int}(h0:0≤x):(0<(a5 LL x.toNat).length)↔0<x:=by
 rw [List.length_pos_iff,Ne,dF eV];omega
theorem D2(n m:Bool)(l k:List Int)(BP:lR l)(h':lR k)(hl:l.length<1099511627774)(hk:k.length<1099511627774) :
  aZ env.P 260 [IV n l,IV m k] (if V 4294967296 k=0 then .eQ [I 0,I 0, .int .i64 2]else .eQ [I (iv n l/iv m k),I (iv n l%iv m k), .int .i64 0]):=by
 have p1:=nH BP
 have p2:=nH h'
 refine cL [(0,IV n l),(1,IV m k)] Tryz.func260 ?_
 refine aB [2,3,4,5] ?_
 by_cases h0:V 4294967296 k=0
 ·rw [if_pos h0]
  refine bT [2,3,4,5,6,7,8] (DZ l k BP h' h0) ?_
  refine aQ [2,3,4,5,6,7,8,19] ?_
  refine bO ?_ ?_<;>intro h
  ·refine aB [4,5,6] ?_
   refine W.ret ?_
   simp [go]
   rfl
  ·cases h
 ·rw [if_neg h0]
  have hB:0<V 4294967296 k:=by omega
  have IH:=vR l k BP h' h0 hl hk
  obtain⟨d1,d2⟩:=SN n m hB p1
  rw [show(if n=true then -V 4294967296 l else V 4294967296 l)=iv n l from rfl,show(if m=true then -V 4294967296 k else V 4294967296 k)=iv m k from rfl]at d1 d2
  have q0:=Int.ediv_nonneg p1 p2
  have r0:=Int.emod_nonneg (V 4294967296 l) h0
  have r1:=Int.emod_lt_of_pos (V 4294967296 l) hB
  have lF:sz LL (V 4294967296 l/V 4294967296 k)≤l.length:=D1 q0 (Int.lt_of_le_of_lt (Int.ediv_le_self _ p1) (mF (by decide) BP.tE))
  have aph:sz LL (V 4294967296 l%V 4294967296 k)≤k.length:=D1 r0 (Int.lt_trans r1 (mF (by decide) h'.tE))
  refine bT [2,3,4,5,6,7,8] IH ?_
  generalize V 4294967296 l/V 4294967296 k=Q at *
  generalize V 4294967296 l%V 4294967296 k=R at *
  refine aQ [2,3,4,5,6,7,8,19] ?_
  refine bO ?_ ?_<;>intro h
  ·cases h
  refine W.skip ?_
  refine j1 ?_
  refine cM (eW Q q0 (n != m)) ?_
  refine c7 [2,3,4,5,7,8] (eW R r0 false) ?_
  refine W.gK (fun σ=>∃(rows:Pm.Rows) (clk:Nat),σ=⟨fa [(4, .ptr 4 2 0 0),(5, .ptr 5 3 0 0)],rows,clk⟩∧rows 4=some ⟨2,38,2,[ie (iv n l/iv m k)]⟩∧rows 5=some ⟨3,38,2,[ie (iv n l%iv m k)]⟩) ?_ ?_
  ·
   by_cases aeB:n=true∧0<R
   ·obtain⟨rfl,hR⟩:=aeB
    obtain⟨e1,e2⟩:=d2 rfl hR
    rw [e1,e2]
    have hdp:=(YM r0).2 hR
    have YK:=JO q0 lF BP.len
    have hRl:=JO r0 aph h'.len
    have akw:=JC (a5 LL Q.toNat) [1] YK.len (by simp) YK.tE (b6.cons.2 ⟨by decide,b6.nil⟩)
    rw [SO q0,kD]at akw
    have akx:=AD k (a5 LL R.toNat) h'.len hRl.len h'.tE hRl.tE
    rw [SO r0,G4,if_neg (by omega)]at akx
    refine W.fW (fun σ=>∃(rows:Pm.Rows) (clk:Nat),σ=⟨fa [(2, .ptr 2 0 0 0),(3, .ptr 3 1 0 0),(4, .ptr 4 2 0 0),(5, .ptr 5 3 0 0),(7,N Q),(8,N R),(38, .bool true)],rows,clk⟩∧rows 2=some ⟨0,38,2,[[.bool true,us l]]⟩∧rows 3=some ⟨1,38,2,[[.bool m,us k]]⟩∧rows 4=some ⟨2,38,2,[ie (if true=m then Q else -Q)]⟩∧rows 5=some ⟨3,38,2,[ie R]⟩) (fun K hK=>?_) ?_
    ·simp (disch:=omega) [gw,hdp]
     exact hK _ _ (aC _ [2,3,4,5,7,8,38]) ⟨_,_,rfl,by simp,by simp,by simp,by simp⟩
    rintro _ ⟨rows,clk,rfl,dB,c5,fT,gX⟩
    refine bO ?_ ?_<;>intro h
    ·refine bT [2,3,4,5,7,8] akw ?_
     refine W.sr ?_
     simp (disch:=omega) [gw,c5]
     refine c7 [2,3,4,5,7,8] akx ?_
     refine W.cA (fun K hK=>?_)
     simp (disch:=omega) [gw,dB,c5]
     refine aD (eW (Q+1) (by omega) (!m)) ?_
     simp (disch:=omega) [gw]
     refine aD (eW (V 4294967296 k-R) (by omega) false) ?_
     simp (disch:=omega) [gw,fT,gX]
     exact hK _ ⟨_,aC _ [4,5],_,_,rfl,by cases m<;>simp,by simp⟩
    ·cases h
   ·obtain⟨e1,e2⟩:=d1 aeB
    rw [e1,e2]
    refine W.fW (fun σ=>∃(rows:Pm.Rows) (clk:Nat),σ=⟨fa [(4, .ptr 4 2 0 0),(5, .ptr 5 3 0 0),(38, .bool false)],rows,clk⟩∧rows 4=some ⟨2,38,2,[ie (if (n != m)=true then -Q else Q)]⟩∧rows 5=some ⟨3,38,2,[ie R]⟩) (fun K hK=>?_) ?_
    ·cases n with
     | false =>
      simp (disch:=omega) [gw]
      exact hK _ _ (aC _ [4,5,38]) ⟨_,_,rfl,by cases m<;>simp,by simp⟩
     | true =>
      have hR:R=0:=by simp at aeB;omega
      subst hR
      simp (disch:=omega) [gw]
      exact hK _ _ (aC _ [4,5,38]) ⟨_,_,rfl,by cases m<;>simp,by simp⟩
    rintro _ ⟨rows,clk,rfl,fT,gX⟩
    refine bO ?_ ?_<;>intro h
    ·cases h
    ·refine W.skip ?_
     exact⟨_,aC _ [4,5],_,_,rfl,fT,gX⟩
  rintro _ ⟨rows,clk,rfl,fT,gX⟩
  generalize iv n l/iv m k=q at *
  generalize iv n l%iv m k=r at *
  refine W.sd ?_
  simp (disch:=omega) [gw,fT,gX]
  refine bU (by kernel_rfl) ?_
  simp (disch:=omega) [gw,fT,gX]
  rw [if_pos (by kernel_rfl)]
  simp (disch:=omega) [gw,fT,gX]
  refine bU (by kernel_rfl) ?_
  simp (disch:=omega) [gw]
  refine bF [4,5,6] ?_
  exact cV
theorem HG(n m:Bool)(l k:List Int)(h:lR l)(h':lR k)(hl:l.length<1099511627774)(hk:k.length<1099511627774)(h0:V 4294967296 k≠0) :
  aZ env.P 234 [IV n l,IV m k] (if iv n l%iv m k=0 then .eQ [I (iv n l/iv m k), .int .i64 0]else .eQ [I 0, .int .i64 3]):=by
 have IH:=D2 n m l k h h' hl hk
 rw [if_neg h0]at IH
 have E3:0≤iv n l%iv m k:=Int.emod_nonneg _ (by unfold iv;split<;>omega)
 generalize iv n l/iv m k=q at *
 generalize iv n l%iv m k=r at *
 have hrn:(a5 LL r.natAbs = [])↔r=0:=by rw [dF eV];omega
 refine cL [(0,IV n l),(1,IV m k)] Tryz.func234 ?_
 refine aB [2,3,4] ?_
 refine bT [4,6,7,8] IH ?_
 refine aQ [4,6,7,8,17] ?_
 refine bO ?_ ?_<;>intro h
 ·cases h
 refine W.skip ?_
 refine aQ [4,6,23] ?_
 by_cases hr:r=0
 ·rw [if_pos hr]
  refine bO ?_ ?_<;>intro h
  ·exfalso;have h2:=hrn.2 hr;rw [h2]at h;simp at h
  ·refine W.skip ?_
   refine aB [4,5] ?_
   exact cV
 ·rw [if_neg hr]
  refine bO ?_ ?_<;>intro h
  ·refine aB [4,5] ?_
   refine W.ret ?_
   simp [go]
   rfl
  ·exfalso;simp at h;exact hr (hrn.1 h)
def bB(l:List Int):Nat:=l.foldl (fun g c=>Nat.gcd g c.natAbs) 0
theorem gcd_one:∀l:List Int,l.foldl (fun g c=>Nat.gcd g c.natAbs) 1=1
 | []=>rfl
 | c::l=>by simp only [List.foldl_cons,Nat.gcd_one_left];exact gcd_one l
theorem HH(l:List Int)(i:Nat)(h:bB (l.take i)=1):bB l=1:=by
 unfold bB at *
 rw [←List.take_append_drop i l,List.foldl_append,h]
 exact gcd_one _
theorem MZ(l:List Int)(i:Nat)(h:i<l.length):bB (l.take (i+1))=Nat.gcd (bB (l.take i)) (nth l i).natAbs:=by
 unfold bB
 rw [aU h,List.foldl_append];rfl
theorem aky(x:Nat):N (x:Int)=us (a5 LL x):=rfl
theorem vS{x k:Nat}(h:x<4294967296^k):(a5 LL x).length≤k:=z7 eV h
theorem vT(p:RP)(K0:Nat)(hK0:K0<1099511627774)(hp:∀c∈p,b6 4294967296 c.2∧c.2.length≤K0)(ZY:p.length<1099511627776):aZ env.P 233 [Pg p] (I (bB (p.map gv))):=by
 have hng:∀c∈p,(gv c).natAbs=(V 4294967296 c.2).toNat:=fun c hc=>by
  have:=bH (b:=4294967296) (by decide) (hp c hc).1
  unfold gv iv;split<;>omega
 refine cL [(0,Pg p)] Tryz.func233 ?_
 refine aB [0,2] ?_
 refine aB [0,2,3] ?_
 refine W.Q8 3 (us []) (by simp) rfl (fun K hK=>?_)
 refine W.lw [0,2,3] hK ?_;clear hK K;simp
 have apj:∀i,i<p.length→(nth (p.map gv) i).natAbs=(V 4294967296 (nth p i).2).toNat:=fun i hi=>by rw [pK];exact hng _ (cP hi)
 refine W.gK (fun σ=>∃(rows:Pm.Rows) (clk:Nat),σ=⟨fa [(2, .ptr 2 0 0 0),(3,us (a5 LL (bB (p.map gv))))],rows,clk⟩∧rows 2=some ⟨0,38,2,[[.bool false, .nil]]⟩∧bB (p.map gv)<4294967296^K0) ?_ ?_
 ·
  refine aB [2,3,10,11,12] ?_
  refine W.block ?_
  refine W.a9 (fun q σ=>∃(i:Nat) (rows:Pm.Rows) (clk:Nat),σ=⟨fa [(2, .ptr 2 0 0 0),(3,us (a5 LL (bB ((p.map gv).take i)))),(10,Pg p),(11, .int .i64 p.length),(12, .int .i64 i)],rows,clk⟩∧rows 2=some ⟨0,38,2,[[.bool false, .nil]]⟩∧q=p.length-i∧i≤p.length∧bB ((p.map gv).take i)<4294967296^K0) p.length ?_ ?_
  ·exact⟨_,Gh.fr [(2, .ptr 2 0 0 0),(3,us (a5 LL (bB ((p.map gv).take 0)))),(10,Pg p),(11, .int .i64 p.length),(12, .int .i64 (0:Nat))] (by simp [bB,jB]),0,_,_,rfl,by simp,by omega,by omega,by simp [bB];exact Nat.pow_pos (by decide)⟩
  rintro q _ ⟨i,rows,clk,rfl,dB,hq,hi,BH⟩
  refine cH [2,3,10,11,12,13] ?_
  refine bO ?_ ?_<;>intro h
  ·have hi:i<p.length:=by simp at h;omega
   obtain⟨wP,hc2⟩:=hp _ (cP hi)
   have hV0:=bH (b:=4294967296) (by decide) wP
   have hVl:=mF (b:=4294967296) (by decide) wP
   obtain⟨x0,vG⟩:=Int.eq_ofNat_of_zero_le hV0
   have D3:=kY (nth p i).2 (by omega) wP
   rw [vG,aky]at D3
   have hxb:x0<4294967296^K0:=by
    have e:((4294967296^(nth p i).2.length:Nat):Int)=(4294967296:Int)^(nth p i).2.length:=Int.natCast_pow 4294967296 _
    have e2:4294967296^(nth p i).2.length≤4294967296^K0:=Nat.pow_le_pow_right (by decide) hc2
    omega
   have hgs:=MZ (p.map gv) i (by simpa using hi)
   rw [apj i hi,vG]at hgs
   simp only [Int.toNat_natCast]at hgs
   refine iS ?_
   refine W.sr ?_
   simp (disch:=omega) [gw,dB]
   refine bF [2,3,5,10,11,12] ?_
   refine bT [2,3,6,10,11,12] D3 ?_
   refine W.seq ?_
   refine W.block ?_
   refine W.a9 (fun q σ=>∃(g x:Nat) (rows:Pm.Rows) (clk:Nat),σ=⟨fa [(2, .ptr 2 0 0 0),(3,us (a5 LL g)),(6,us (a5 LL x)),(10,Pg p),(11, .int .i64 p.length),(12, .int .i64 i)],rows,clk⟩∧rows 2=some ⟨0,38,2,[[.bool false, .nil]]⟩∧q=x∧Nat.gcd g x=bB ((p.map gv).take (i+1))∧g<4294967296^K0∧x<4294967296^K0) x0 ?_ ?_
   ·exact⟨_, .refl,bB ((p.map gv).take i),x0,_,_,rfl,by simp [dB],rfl,hgs.symm,BH,hxb⟩
   rintro q2 _ ⟨g,x,rows,clk,rfl,dB,X0,hgx,hg,hx⟩
   refine aQ [2,3,6,10,11,12,21] ?_
   refine bO ?_ ?_<;>intro h
   ·have h1:a5 LL x ≠ []:=by simp at h;exact List.length_pos_iff.1 h
    have vG:x≠0:=fun h2=>h1 ((dF eV).2 h2)
    have hlg:=vS hg
    have XV:=vS hx
    have IH:=vR (a5 LL g) (a5 LL x) ⟨eN eV _,by omega⟩ ⟨eN eV _,by omega⟩ (by rw [show(4294967296:Int)=((LL:Nat):Int)from rfl,iT eV];omega) (by omega) (by omega)
    rw [show(4294967296:Int)=((LL:Nat):Int)from rfl,iT eV,iT eV,←Int.natCast_emod,aky]at IH
    have hm:=Nat.mod_lt g (show 0<x by omega)
    have hgr:Nat.gcd x (g%x)=Nat.gcd g x:=by rw [Nat.gcd_comm x,←Nat.gcd_rec,Nat.gcd_comm]
    refine W.skip ?_
    refine W.block ?_
    refine bT [2,6,8,10,11,12] IH ?_
    refine W.cA (fun K hK=>?_);simp (disch:=omega) [gw]
    refine hK _ ⟨g%x,_,aC _ [2,3,6,10,11,12],by omega,x,g%x,_,_,rfl,by simp [dB],rfl,by rw [hgr,hgx],hx,by omega⟩
   ·have h1:a5 LL x = []:=by simp at h;exact h
    have vG:x=0:=(dF eV).1 h1
    subst vG
    rw [Nat.gcd_zero_right]at hgx
    refine eH ?_
    refine W.fW (fun σ=>∃(b:Bool) (rows:Pm.Rows) (clk:Nat),σ=⟨fa [(2, .ptr 2 0 0 0),(3,us (a5 LL g)),(10,Pg p),(11, .int .i64 p.length),(12, .int .i64 i),(39, .bool b)],rows,clk⟩∧rows 2=some ⟨0,38,2,[[.bool false, .nil]]⟩∧(b=true→g=1)) (fun K hK=>?_) ?_
    ·by_cases h2:(a5 LL g).length=1
     ·obtain⟨w,hw⟩:∃w,a5 LL g = [w]:=match a5 LL g,h2 with | [w],_=>⟨w,rfl⟩
      have hgv:=iT eV g
      rw [hw,kD]at hgv
      rw [hw]at hK ⊢
      have hnw:nth [w] 0=w:=rfl
      simp (disch:=omega) [gw,hnw]
      exact hK _ _ (aC _ [2,3,10,11,12,39]) ⟨_,_,_,rfl,by simp [dB],fun h3=>by simp at h3;omega⟩
     ·have h2':((a5 LL g).length:Int)≠1:=by omega
      have hb:(((a5 LL g).length:Int)==1)=false:=by simpa using h2'
      simp (disch:=omega) [gw,hb,h2]
      exact hK _ _ (aC _ [2,3,10,11,12,39]) ⟨_,_,_,rfl,by simp [dB],fun h3=>by cases h3⟩
    rintro _ ⟨b,rows,clk,rfl,dB,hb⟩
    refine bO ?_ ?_<;>intro h
    ·have PH:=hb h
     subst PH
     have pD:=HH _ _ hgx.symm
     refine eH ?_
     rw [pD]
     exact⟨_,aC _ [2,3],rows,clk,rfl,dB,by rw [pD]at *;exact hg⟩
    ·refine W.skip ?_
     subst hgx
     refine W.cA (fun K hK=>?_);simp (disch:=omega) [gw]
     refine hK _ ⟨p.length-(i+1),_,aC _ [2,3,10,11,12],by omega,i+1,_,_,rfl,by simp [dB],by omega,by omega,hg⟩
  ·have hi:i=p.length:=by simp at h;omega
   rw [List.take_of_length_le (by simp;omega)]at BH ⊢
   refine eH ?_
   exact⟨_,aC _ [2,3],rows,clk,rfl,dB,BH⟩
 rintro _ ⟨rows,clk,rfl,dB,BH⟩
 have hlg:=vS BH
 have D3:=kY (a5 LL (bB (p.map gv))) (by omega) (eN eV _)
 rw [show(4294967296:Int)=((LL:Nat):Int)from rfl,iT eV]at D3
 have akA:=eW (bB (p.map gv):Int) (by omega) false
 refine j1 ?_
 refine cM D3 ?_
 refine aD akA ?_
 simp (disch:=omega) [gw,dB]
 refine bF [2] ?_
 exact cV
end Go.Proofs.YtiobceocpabjdaaGreat
