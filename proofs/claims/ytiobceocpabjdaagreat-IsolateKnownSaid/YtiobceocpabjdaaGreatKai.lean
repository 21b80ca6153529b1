import Derived.Test.YtiobceocpabjdaaGreatKaf
import Derived.Test.YtiobceocpabjdaaGreatKah
set_option linter.unusedSimpArgs false
set_option linter.unusedVariables false
namespace Go.Proofs.YtiobceocpabjdaaGreat
open Go Pm
theorem aie(n:Int)(h0:0≤n)(h1:n<4294967296):aL env.P 269 [.int .u32 n] (.int .i64 (32-nb n.toNat)):=by
 refine cH [(0, .int .u32 n)] Tryz.func269 ?_
 refine aA [0] ?_
 refine jM ?_
 refine aC (CB n h0 h1) ?_
 have:nb n.toNat≤32:=nX.2 (by omega)
 simp (disch:=omega) [gw]
 refine bM [2] ?_
 exact cR
theorem acm(l:List Int)(n:Nat)(hn:n≤31)(hl:l.length<1099511627775)(lm:b9 4294967296 l):aL env.P 275 [us l, .int .i64 n] (N (V 4294967296 l*2^n)):=by
 refine cH [(0,us l),(1, .int .i64 n)] Tryz.func275 ?_
 refine aA [0,1] ?_
 have eY:=bN l
 refine jM ?_
 refine aC (cT l (by omega)) ?_
 simp (disch:=omega) [gw]
 refine bM [0,1] ?_
 have lx:=dM lm
 have hV:=cE (b:=4294967296) l
 rw [←hV]
 have hxl:(aM l).length<1099511627775:=by omega
 clear hV
 generalize aM l=x at *
 have h65:¬(65536<(n:Int)):=by omega
 have e0:(if 0<n then(n:Int)else 0)=n:=by split<;>omega
 refine W.sr ?_
 simp (disch:=omega) [gw,h65,e0]
 refine bM [0,1] ?_
 refine aR [0,1,18] ?_
 refine bP ?_ ?_<;>intro h
 ·have h:x = []:=by simp at h;exact h
  subst h
  refine aA [4] ?_
  refine W.ret ?_
  simp [go,V]
  rfl
 have h:x ≠ []:=by simp at h;exact h
 refine W.skip ?_
 have d1:(n:Int)/32=0:=by omega
 have d2:(n:Int)%32=n:=by omega
 refine W.sr ?_
 simp (disch:=omega) [gw,d1,d2]
 refine bM [0,5,6] ?_
 refine aA [0,5,6,7] ?_
 refine aR [5,6,7,30,31,32] ?_
 refine W.block ?_
 have h2n:(2:Int)^n≤2147483648:=by
  have:=Int.ofNat_le.2 (Nat.pow_le_pow_right (show 0<2 by decide) hn)
  simpa using this
 have h2p:(0:Int)<2^n:=Int.pow_pos (by decide)
 have h2d:(2:Int)^n∣4294967296:=by
  refine⟨2^(32-n),?_⟩
  rw [←Int.pow_add,show n+(32-n)=32 by omega];rfl
 refine W.bC (fun q σ=>∃(i v:Nat) (z:List Int) (rows:Pm.Rows) (clk:Nat),σ=⟨fa [(5, .int .i64 0),(6, .int .u64 n),(7, .own 29 v 0 (x.length+1)),(30,us x),(31, .int .i64 x.length),(32, .int .i64 i)],rows,clk⟩ ∧
  rows 29=some ⟨v,185,1,emap u32 z⟩∧q=x.length-i∧i≤x.length∧z.length=x.length+1∧b9 4294967296 z∧V 4294967296 (z.take (i+1))=V 4294967296 (x.take i)*2^n∧nth z i<2^n) x.length ?_ ?_
 ·exact⟨_, .refl,0,_,List.replicate (x.length+1) 0,_,_,rfl,by simp,by omega,by omega,by simp,b9.rep (by decide) _,by simp [V,List.replicate_succ],by rw [bZ (by simp)];simp;exact h2p⟩
 rintro q _ ⟨i,v,z,rows,clk,rfl,hr,hq,hi,hz,lz,hV,hzi⟩
 refine cL [5,6,7,30,31,32,33] ?_
 refine bP ?_ ?_<;>intro h
 ·have hi:i<x.length:=by simp at h;omega
  have hw:=lx.nth hi
  refine kK ?_
  refine aA [5,6,7,8,9,30,31,32] ?_
  have hVx:=aS (b:=4294967296) hi
  generalize hwe:nth x i=w at *
  have hv0:0≤w*2^n:=Int.mul_nonneg hw.1 (by omega)
  have hv1:w*2^n<4294967296*2^n:=Int.mul_lt_mul_of_pos_right hw.2 h2p
  have hvd:(2^n:Int)∣w*2^n:=⟨w,Int.mul_comm _ _⟩
  have hwr:IntKind.u64.wrap (w*2^n)=w*2^n:=wrap_u64 hv0 (by omega)
  have asZ:=lz.nth (i:=i) (by omega)
  refine W.sr ?_
  simp (disch:=omega) [gw,hwr]
  refine bM [5,6,7,8,10,30,31,32] ?_
  have as0:V 4294967296 (x.take (i+1))*2^n=V 4294967296 (x.take i)*2^n+4294967296^i*(w*2^n):=by rw [hVx];grind
  generalize hve:w*2^n=y at *
  have aoh:(2^n:Int)∣y%4294967296:=by
   rw [Int.emod_def]
   exact Int.dvd_sub hvd (Int.dvd_trans h2d (Int.dvd_mul_right _ _))
  have avY:y%4294967296+2^n≤4294967296:=by
   obtain⟨c,hc⟩:=aoh
   obtain⟨d,hd⟩:=h2d
   have h1:(2^n:Int)*c<2^n*d:=by have:=Int.emod_lt_of_pos y (show (0:Int)<4294967296 by decide);omega
   have h2:c<d:=Int.lt_of_mul_lt_mul_left h1 (by omega)
   have h3:=Int.mul_le_mul_of_nonneg_left (show c+1≤d by omega) (show 0≤(2^n:Int)by omega)
   rw [Int.mul_add]at h3
   omega
  have hor:=(acb (a:=y%4294967296) (b:=nth z i) n (by omega) asZ.1 aoh hzi (by omega)).2
  have hwy:IntKind.u32.wrap y=y%4294967296:=wrap_u32'
  refine W.sr ?_
  simp (disch:=omega) [gw,hr,hz,hwy,hor]
  refine bM [5,6,7,8,10,30,31,32] ?_
  refine W.cG (fun K hK=>?_)
  simp (disch:=omega) [gw,hz]
  refine W.lw [5,6,7,30,31,32] hK ?_;clear hK K;simp
  refine W.cG (fun K hK=>?_);simp (disch:=omega) [gw]
  refine hK _ ⟨x.length-(i+1),_,aD _ [5,6,7,30,31,32],by omega,i+1,v,(z.set i (y%4294967296+nth z i)).set (i+1) (y/4294967296),_,_,rfl,by simp,by omega,by omega,by simp [hz],(lz.set ⟨by omega,by omega⟩).set ⟨by omega,by omega⟩,?_,?_⟩
  ·have q1:=eC (b:=4294967296) (l:=z.set i (y%4294967296+nth z i)) (i:=i+1) (x:=y/4294967296) (by simp;omega)
   have q2:=eC (b:=4294967296) (l:=z) (i:=i) (x:=y%4294967296+nth z i) (by omega)
   have q3:=aS (b:=4294967296) (l:=z) (i:=i) (by omega)
   have q4:=Int.mul_ediv_add_emod y 4294967296
   rw [q1,q2,as0,←hV,q3,Int.pow_succ]
   generalize y/4294967296=yq at *
   generalize y%4294967296=yr at *
   rw [←q4];grind
  ·rw [dV (by simp;omega)];omega
 ·have hi:i=x.length:=by simp at h;omega
  subst hi
  have hVz:V 4294967296 z=V 4294967296 x*2^n:=by
   rw [aV (by omega),aV (Nat.le_refl _)]at hV;exact hV
  have zz:=bG hz
  have nH:=cT z (by omega)
  rw [sZ lz,hVz]at nH
  refine fC ?_
  refine W.sr ?_
  simp (disch:=omega) [gw,hr,zz]
  refine cV [4] nH ?_
  exact cR
theorem HU(l:List Int)(n m:Nat)(hn:n≤31)(hl:l.length<1099511627775)(lm:b9 4294967296 l)(JY:0<m)(J0:m<1099511627776)(hb:V 4294967296 l*2^n<4294967296^m) :
  ∃y:List Int,i0 env.P 270 [us l, .int .i64 n, .int .i64 m] 185 1 (emap u32 y)∧y.length=m∧b9 4294967296 y∧V 4294967296 y=V 4294967296 l*2^n:=by
 have hp:0≤V 4294967296 l*2^n:=Int.mul_nonneg (bF (by decide) lm) (Int.le_of_lt (Int.pow_pos (by decide)))
 obtain⟨N0,hN⟩:=Int.eq_ofNat_of_zero_le hp
 have hS:=acm l n hn hl lm
 rw [hN]at hS hb
 replace hS:aL env.P 275 [us l, .int .i64 n] (us (aY LL N0)):=hS
 have VG:(aY LL N0).length≤m:=EA fR (by
  have h4:((4294967296^m:Nat):Int)=(4294967296:Int)^m:=Int.natCast_pow 4294967296 m
  show N0<4294967296^m
  omega)
 have N7:=eT fR N0
 have XV:=jH fR N0
 refine⟨aY LL N0++List.replicate (m-(aY LL N0).length) 0,?_,by simp;omega,b9.append.2 ⟨N7,b9.rep (by decide) _⟩,by rw [dK,nW,hN,←XV];simp⟩
 generalize aY LL N0=D at *
 refine nG (E:=env) (fun _=>0) (t:=6) [(0,us l),(1, .int .i64 n),(2, .int .i64 m)] Tryz.func270 rfl (by kernel_rfl) (by kernel_rfl) (show 3≤16 by decide) rfl (by simp) ?_
 refine aA [0,1,2] ?_
 refine aA [0,1,7] ?_
 refine jM ?_
 refine cX hS ?_
 refine aof (e':=185) (els:=emap u32 (List.replicate m 0)) (l:=emap u32 D) (by simp) (by simp) JY rfl (fun e he=>by simp only [emap,List.mem_map]at he;obtain⟨x,_,rfl⟩:=he;rfl) ?_
 have e1:(emap u32 (List.replicate m 0)).take 0++(emap u32 D).take m++(emap u32 (List.replicate m 0)).drop (0+min (emap u32 D).length m)=emap u32 (D++List.replicate (m-D.length) 0):=by
  simp only [emap,List.take_zero,List.nil_append,List.length_map,Nat.zero_add,List.map_append,Nat.min_eq_left VG]
  rw [List.take_of_length_le (by simpa using VG),←List.map_drop,List.drop_replicate]
 rw [e1]
 generalize hy:D++List.replicate (m-D.length) 0=y at *
 have J1:y.length=m:=by rw [←hy];simp;omega
 simp (disch:=omega) [gw]
 refine bM [7] ?_
 refine aA [6] ?_
 refine W.ret ?_
 exact⟨9,0,by simp [J1],by simp,fun x hx p hp=>by
  simp only [emap,List.mem_map]at hx
  obtain⟨r,_,rfl⟩:=hx
  simp at hp
  subst hp;rfl⟩
theorem aco(a:List Int)(w:Int)(ha:a.length<1099511627775)(la:b9 4294967296 a)(hw0:0<w)(hw1:w<4294967296):aL env.P 268 [us a, .int .u32 w] (.dX [N (V 4294967296 a/w), .int .u32 (V 4294967296 a%w)]):=by
 refine cH [(0,us a),(1, .int .u32 w)] Tryz.func268 ?_
 refine aA [0,1] ?_
 refine aA [0,1,6] ?_
 refine aA [0,1,6,7] ?_
 refine aR [0,1,6,7,8] ?_
 refine W.block ?_
 refine W.bC (fun q σ=>∃(v:Nat) (r:Int) (z:List Int) (rows:Pm.Rows) (clk:Nat),σ=⟨fa [(0,us a),(1, .int .u32 w),(6, .own 12 v 0 a.length),(7, .int .u64 r),(8, .int .i64 ((q:Int)-1))],rows,clk⟩ ∧
  rows 12=some ⟨v,185,1,emap u32 z⟩∧q≤a.length∧z.length=a.length∧b9 4294967296 z∧V 4294967296 (z.drop q)*w+r=V 4294967296 (a.drop q)∧0≤r∧r<w) a.length ?_ ?_
 ·exact⟨_, .refl,0,0,List.replicate a.length 0,_,_,rfl,by simp,by omega,by simp,b9.rep (by decide) _,by simp [V],by omega,hw0⟩
 rintro q _ ⟨v,r,z,rows,clk,rfl,hr,hq,hz,lz,hV,BO,LY⟩
 refine aR [0,1,6,7,8,17] ?_
 refine bP ?_ ?_<;>intro h
 ·have hq0:0<q:=by simp at h;omega
  obtain⟨j,rfl⟩:∃j,q=j+1:=⟨q-1,by omega⟩
  clear h
  have hj:=la.nth (i:=j) (by omega)
  have ej:((j+1:Nat):Int)-1=j:=by omega
  rw [ej]
  have hVa:V 4294967296 (a.drop j)=nth a j+4294967296*V 4294967296 (a.drop (j+1)):=by rw [eB (by omega)];rfl
  generalize hxe:nth a j=x at *
  have hrb:r*4294967296<18446744073709551616:=by omega
  have hor:=(wW (a:=r*4294967296) (b:=x) 32 (by omega) hj.1 ⟨r,by rw [Int.mul_comm];rfl⟩ (by simpa using hj.2) (by omega)).1
  refine kK ?_
  refine W.sr ?_
  simp (disch:=omega) [gw,hxe,hor]
  refine bM [0,1,6,8,9] ?_
  have hs:(r*4294967296+x)/w<4294967296:=Int.ediv_lt_of_lt_mul hw0 (by
   have:=Int.mul_le_mul_of_nonneg_right (show r+1≤w by omega) (show (0:Int)≤4294967296 by decide)
   rw [Int.mul_comm 4294967296];omega)
  have R8:0≤(r*4294967296+x)/w:=Int.ediv_nonneg (by omega) (by omega)
  have JY:=Int.emod_nonneg (r*4294967296+x) (show w≠0 by omega)
  have J0:=Int.emod_lt_of_pos (r*4294967296+x) hw0
  have R6:=Int.mul_ediv_add_emod (r*4294967296+x) w
  have hw':¬w=0:=by omega
  refine W.LV (fun K hK=>?_)
  simp (disch:=omega) [gw,hr,hz,hw']
  refine cU (by kernel_rfl) ?_
  simp (disch:=omega) [gw,hr,hz,hw']
  refine W.lw [0,1,6,7,8] hK ?_;clear hK K;simp
  refine W.cG (fun K hK=>?_);simp (disch:=omega) [gw]
  refine hK _ ⟨j,_,aD _ [0,1,6,7,8],by omega,v,(r*4294967296+x)%w,z.set j ((r*4294967296+x)/w),_,_,rfl,by simp,by omega,by simp [hz],lz.set ⟨R8,hs⟩,?_,JY,J0⟩
  rw [eB (l:=z.set j _) (i:=j) (by simp;omega),dV (by omega),hVa,←hV,List.drop_set_of_lt (by omega)]
  simp only [V]
  generalize (r*4294967296+x)/w=qq at *
  generalize (r*4294967296+x)%w=rr at *
  grind
 ·have hq0:q=0:=by simp at h;omega
  subst hq0
  have zz:=bG hz
  have nH:=cT z (by omega)
  simp only [List.drop_zero]at hV
  have h1:V 4294967296 z=V 4294967296 a/w∧r=V 4294967296 a%w:=by
   have h2:V 4294967296 a/w=V 4294967296 z:=by
    have e:(V 4294967296 z+1)*w=V 4294967296 z*w+w:=by grind
    rw [Int.ediv_eq_iff_of_pos hw0]
    constructor<;>omega
   refine⟨h2.symm,?_⟩
   have h3:=Int.emod_def (V 4294967296 a) w
   rw [h2,Int.mul_comm]at h3
   omega
  rw [sZ lz,h1.1]at nH
  have dY:=h1.2
  refine fC ?_
  refine W.sr ?_
  simp (disch:=omega) [gw,hr,zz]
  refine cV [4,5] nH ?_
  refine W.ret ?_
  simp [go,dY]
theorem nI{x:List Int}{i:Nat}(h:x.length≤i):nth x i=0:=fY h
theorem acp(l:List Int)(n:Nat)(hn:n≤31)(hl:l.length<1099511627775)(lm:b9 4294967296 l):aL env.P 272 [us l, .int .i64 n] (N (V 4294967296 l/2^n)):=by
 refine cH [(0,us l),(1, .int .i64 n)] Tryz.func272 ?_
 refine aA [0,1] ?_
 have eY:=bN l
 refine jM ?_
 refine aC (cT l (by omega)) ?_
 simp (disch:=omega) [gw]
 refine bM [0,1] ?_
 have lx:=dM lm
 have hV:=cE (b:=4294967296) l
 rw [←hV]
 have hxl:(aM l).length<1099511627775:=by omega
 clear hV
 generalize aM l=x at *
 have h65:¬(65536<(n:Int)):=by omega
 have e0:(if 0<n then(n:Int)else 0)=n:=by split<;>omega
 refine W.sr ?_
 simp (disch:=omega) [gw,h65,e0]
 refine bM [0,1] ?_
 have d1:(n:Int)/32=0:=by omega
 have d2:(n:Int)%32=n:=by omega
 refine W.sr ?_
 simp (disch:=omega) [gw,d1,d2]
 refine bM [0,5,6] ?_
 refine aR [0,5,6,23] ?_
 refine bP ?_ ?_<;>intro h
 ·have h:x = []:=by simp at h;exact h
  subst h
  refine aA [4] ?_
  refine W.ret ?_
  simp [go,V]
  rfl
 have h:x ≠ []:=by simp at h;exact h
 refine W.skip ?_
 refine aA [0,5,6,7] ?_
 refine aR [0,5,6,7,30,31] ?_
 refine W.block ?_
 have h2p:(0:Int)<2^n:=Int.pow_pos (by decide)
 have h2e:(0:Int)<2^(32-n):=Int.pow_pos (by decide)
 have h2d:(2:Int)^n*2^(32-n)=4294967296:=by
  rw [←Int.pow_add,show n+(32-n)=32 by omega];rfl
 refine W.bC (fun q σ=>∃(i v:Nat) (z:List Int) (rows:Pm.Rows) (clk:Nat),σ=⟨fa [(0,us x),(5, .int .i64 0),(6, .int .u64 n),(7, .own 28 v 0 x.length),(30, .int .i64 x.length),(31, .int .i64 i)],rows,clk⟩ ∧
  rows 28=some ⟨v,185,1,emap u32 z⟩∧q=x.length-i∧i≤x.length∧z.length=x.length∧b9 4294967296 z∧2^n*V 4294967296 (z.take i)+nth x 0%2^n=V 4294967296 (x.take i)+(nth x i%2^n)*4294967296^i) x.length ?_ ?_
 ·exact⟨_, .refl,0,_,List.replicate x.length 0,_,_,rfl,by simp,by omega,by omega,by simp,b9.rep (by decide) _,by simp [V]⟩
 rintro q _ ⟨i,v,z,rows,clk,rfl,hr,hq,hi,hz,lz,hV⟩
 refine cL [0,5,6,7,30,31,32] ?_
 refine bP ?_ ?_<;>intro h
 ·have hi:i<x.length:=by simp at h;omega
  have hw:=lx.nth hi
  have hw2:0≤nth x (i+1)∧nth x (i+1)<4294967296:=by
   rcases Nat.lt_or_ge (i+1) x.length with h3 | h3
   ·exact lx.nth h3
   ·rw [nI h3];decide
  have hVx:=aS (b:=4294967296) hi
  obtain⟨q1,q2,q3⟩:=W9 h2p h2e h2d hw hw2
  generalize hwe:nth x i=w at *
  refine kK ?_
  refine aA [0,5,6,7,8,30,31] ?_
  refine W.sr ?_
  simp (disch:=omega) [gw,hwe]
  refine bM [0,5,6,7,8,9,30,31] ?_
  refine W.iF (fun σ=>∃(rows:Pm.Rows) (clk:Nat),σ=⟨fa [(0,us x),(5, .int .i64 0),(6, .int .u64 n),(7, .own 28 v 0 x.length),(8, .int .i64 i),(9, .int .u64 (w+4294967296*nth x (i+1))),(30, .int .i64 x.length),(31, .int .i64 i)],rows,clk⟩∧rows 28=some ⟨v,185,1,emap u32 z⟩) ?_ ?_
  ·
   refine aA [0,5,6,7,8,9,30,31,47] ?_
   refine bP ?_ ?_<;>intro h
   ·have h:i+1<x.length:=by simp at h;omega
    have hor:=(wW (a:=nth x (i+1)*4294967296) (b:=w) 32 (by omega) hw.1 ⟨nth x (i+1),by rw [Int.mul_comm];rfl⟩ (by simpa using hw.2) (by omega)).2
    rw [show nth x (i+1)*4294967296+w=w+4294967296*nth x (i+1)by omega]at hor
    refine W.cG (fun K hK=>?_);simp (disch:=omega) [gw,hor]
    exact hK _ ⟨_,aD _ [0,5,6,7,8,9,30,31],_,_,rfl,by simp [hr]⟩
   ·have h:x.length≤i+1:=by simp at h;omega
    rw [nI h]
    refine W.skip ?_
    exact⟨_,Gh.fr [(0,us x),(5, .int .i64 0),(6, .int .u64 n),(7, .own 28 v 0 x.length),(8, .int .i64 i),(9, .int .u64 (w+4294967296*0)),(30, .int .i64 x.length),(31, .int .i64 i)] (by simp),_,_,rfl,by simp [hr]⟩
  rintro _ ⟨rows,clk,rfl,hr⟩
  have hwr:IntKind.u32.wrap ((w+4294967296*nth x (i+1))/2^n)=((w+4294967296*nth x (i+1))/2^n)%4294967296:=wrap_u32'
  have hfd:(w+4294967296*nth x (i+1)).fdiv (2^n)=(w+4294967296*nth x (i+1))/2^n:=Int.fdiv_eq_ediv_of_nonneg _ (by omega)
  refine W.cG (fun K hK=>?_)
  simp (disch:=omega) [gw,hr,hz,hfd,hwr]
  refine W.lw [0,5,6,7,30,31] hK ?_;clear hK K;simp
  refine W.cG (fun K hK=>?_);simp (disch:=omega) [gw]
  refine hK _ ⟨x.length-(i+1),_,aD _ [0,5,6,7,30,31],by omega,i+1,v,z.set i (((w+4294967296*nth x (i+1))/2^n)%4294967296),_,_,rfl,by simp,by omega,by omega,by simp [hz],lz.set ⟨q2,q3⟩,?_⟩
  rw [eC (by omega),hVx,Int.mul_add,Int.pow_succ]
  generalize ((w+4294967296*nth x (i+1))/2^n)%4294967296=o at *
  generalize nth x (i+1)%2^n=lo1 at *
  generalize w%2^n=lo at *
  have e2:(2:Int)^n*(4294967296^i*o)=4294967296^i*(2^n*o):=by grind
  rw [e2,q1]
  grind
 ·have hi:i=x.length:=by simp at h;omega
  subst hi
  have zz:=bG hz
  have nH:=cT z (by omega)
  rw [sZ lz]at nH
  rw [zz,List.take_of_length_le (Nat.le_refl _),nI (Nat.le_refl _)]at hV
  have hVz:V 4294967296 x/2^n=V 4294967296 z:=by
   have h5:=Int.emod_nonneg (nth x 0) (show (2^n:Int)≠0 by omega)
   have h6:=Int.emod_lt_of_pos (nth x 0) h2p
   rw [Int.zero_emod,Int.zero_mul,Int.add_zero]at hV
   have e:(V 4294967296 z+1)*2^n=2^n*V 4294967296 z+2^n:=by grind
   have e':V 4294967296 z*2^n=2^n*V 4294967296 z:=Int.mul_comm _ _
   rw [Int.ediv_eq_iff_of_pos h2p]
   constructor<;>omega
  rw [hVz]
  refine fC ?_
  refine W.sr ?_
  simp (disch:=omega) [gw,hr,zz]
  refine cV [4] nH ?_
  exact cR
theorem eW(z:List Int)(o k:Nat):nth (z.drop o) k=nth z (o+k):=by simp [nth,List.getElem?_drop]
theorem kL(z:List Int)(o k:Nat)(x:Int):(z.set (o+k) x).drop o=(z.drop o).set k x:=by
 rw [List.drop_set]
 rw [if_neg (by omega)]
 congr 1;omega
set_option maxHeartbeats 2000000 in
theorem L9{id ver off m:Nat}(zl y:List Int)(rows:Pm.Rows)(clk:Nat)(hr:rows id=some ⟨ver,185,1,emap u32 zl⟩)(J1:y.length=m+2)(hym:m<1099511627776)(ly:b9 4294967296 y)(axH:2147483648≤nth y (m+1))(lz:b9 4294967296 zl)
  (UO:off+m+3≤zl.length) (DH:zl.length<1099511627776) (fS:V 4294967296 ((zl.drop off).take (m+3))<4294967296*V 4294967296 y) :
  QX env.P 271 [.own id ver off (m+3),us y] rows clk (fun r rows' fQ=>∃D:List Int,r = .int .u32 (V 4294967296 ((zl.drop off).take (m+3))/V 4294967296 y)∧rows'=dH rows id (some ⟨ver,185,1,emap u32 (zl.take off++D)⟩)∧fQ=clk ∧
   D.length=(zl.drop off).length∧b9 4294967296 D∧D.drop (m+3)=(zl.drop off).drop (m+3)∧V 4294967296 (D.take (m+3))=V 4294967296 ((zl.drop off).take (m+3))%V 4294967296 y):=by
 obtain⟨MA,hc⟩:=an7 (D:=zl.drop off) (by simp;omega) J1 (lz.drop off) ly (by omega) fS
 have l1:=ly.nth (i:=m) (by omega)
 have l2:=ly.nth (i:=m+1) (by omega)
 have k0:=(lz.drop off).nth (i:=m) (by simp;omega)
 have k1:=(lz.drop off).nth (i:=m+1) (by simp;omega)
 have k2:=(lz.drop off).nth (i:=m+2) (by simp;omega)
 have n0:=eW zl off m
 have n1:=eW zl off (m+1)
 have n2:=eW zl off (m+2)
 have hDl:(zl.drop off).length=zl.length-off:=by simp
 have hYb:V 4294967296 y<4294967296^(m+2):=by have:=nC (by decide) ly;rwa [J1]at this
 have hX:V 4294967296 ((zl.drop off).take (m+3))=V 4294967296 ((zl.drop off).take (m+2))+4294967296^(m+2)*nth (zl.drop off) (m+2):=aS (by simp;omega)
 refine L8 (E:=env) (fun _=>0) (t:=4) [(0, .own id ver off (m+3)),(1,us y)] Tryz.func271 rfl (by kernel_rfl) (by kernel_rfl) (show 2≤170 by decide) rfl (by simp) ?_
 refine aA [0,1] ?_
 refine W.sr ?_
 simp (disch:=omega) [gw,J1]
 refine bM [0,1,5] ?_
 have a1:((m:Int)+2-1)=((m+1:Nat):Int):=by omega
 have a2:((m:Int)+2-2)=(m:Int):=by omega
 refine W.sd ?_
 simp (disch:=omega) [gw,J1,a1,a2]
 refine bM [0,1,5,6,7] ?_
 rw [n0]at k0 MA
 rw [n1]at k1 MA
 rw [n2]at k2 MA hc hX
 generalize hxa:nth zl (off+m)=xa at *
 generalize hxb:nth zl (off+(m+1))=xb at *
 generalize hxc:nth zl (off+(m+2))=xc at *
 generalize htt:nth y (m+1)=top at *
 generalize hnn:nth y m=nx at *
 have hor:=(wW (a:=xc*4294967296) (b:=xb) 32 (by omega) k1.1 ⟨xc,by rw [Int.mul_comm];rfl⟩ (by simpa using k1.2) (by omega)).1
 have htp:¬top=0:=by omega
 refine W.sd ?_
 have a3:((m:Int)+2).toNat=m+2:=by omega
 simp (disch:=omega) [gw,hr,a1,a3,hxb,hxc,hor]
 refine bM [0,1,5,6,7,8] ?_
 generalize hXX:V 4294967296 ((zl.drop off).take (m+3))=X at *
 generalize hYY:V 4294967296 y=Y at *
 have hY0:=MA.Y0
 have hX0:0≤X:=by rw [←hXX];exact bF (by decide) ((lz.drop off).take _)
 have hhd:xc*4294967296+xb≤top*4294967296+4294967296-1:=by omega
 have hf:=MA.first
 have hg0:=Int.ediv_nonneg MA.h0 (show 0≤top by omega)
 have R6:=Int.mul_ediv_add_emod (xc*4294967296+xb) top
 have BO:=Int.emod_nonneg (xc*4294967296+xb) htp
 have LY:=Int.emod_lt_of_pos (xc*4294967296+xb) (show 0<top by omega)
 have hgu:(xc*4294967296+xb)/top≤4294967297:=by
  rcases Int.lt_or_le 4294967297 ((xc*4294967296+xb)/top)with h | h
  ·exfalso
   have:=Int.mul_le_mul_of_nonneg_left (show 4294967298≤(xc*4294967296+xb)/top by omega) (show 0≤top by omega)
   omega
  ·exact h
 rw [Int.mul_comm]at R6
 have hh0:=MA.h0
 generalize hhe:xc*4294967296+xb=head at *
 have hwq:IntKind.u64.wrap (head/top)=head/top:=wrap_u64 hg0 (by omega)
 refine W.sr ?_
 simp (disch:=omega) [gw,htp,hwq]
 refine bM [0,1,5,6,7,8,9] ?_
 refine W.sr ?_
 simp (disch:=omega) [gw,htp]
 refine bM [0,1,5,6,7,9,10] ?_
 refine W.iG (fun σ=>∃(g:Int),σ=⟨fa [(0, .own id ver off (m+3)),(1,us y),(5, .int .i64 ((m:Int)+2)),(9, .int .u64 g)],rows,clk⟩∧0≤g∧g<4294967296∧X<(g+1)*Y∧g*Y<X+Y) ?_ ?_
 ·
  refine W.bC (fun k σ=>∃(g r:Int),σ=⟨fa [(0, .own id ver off (m+3)),(1,us y),(5, .int .i64 ((m:Int)+2)),(6, .int .u64 top),(7, .int .u64 nx),(9, .int .u64 g),(10, .int .u64 r)],rows,clk⟩∧k=g.toNat∧0≤g∧g≤4294967297∧0≤r∧r<4294967296∧g*top+r=head∧X<(g+1)*Y) (head/top).toNat ?_ ?_
  ·exact⟨_, .refl,head/top,head%top,rfl,rfl,hg0,hgu,BO,by omega,R6,hf⟩
  rintro k _ ⟨g,r,rfl,hk,q1,q2,q3,q4,q5,q6⟩
  refine W.seq ?_
  have as3:0≤g*nx:=Int.mul_nonneg q1 l1.1
  refine W.fX (fun σ=>∃(b:Bool),σ=⟨fa [(0, .own id ver off (m+3)),(1,us y),(5, .int .i64 ((m:Int)+2)),(6, .int .u64 top),(7, .int .u64 nx),(9, .int .u64 g),(10, .int .u64 r),(71, .bool b)],rows,clk⟩∧(b=true↔4294967296≤g∨r*4294967296+xa<g*nx)) (fun K hK=>?_) ?_
  ·by_cases hb:4294967296≤g
   ·simp (disch:=omega) [gw,hb]
    exact hK _ _ (aD _ [0,1,5,6,7,9,10,71]) ⟨_,rfl,by simp [hb]⟩
   ·have axO:g*nx≤4294967295*4294967295:=Int.mul_le_mul (by omega) (by omega) l1.1 (by omega)
    have hwr:IntKind.u64.wrap (g*nx)=g*nx:=wrap_u64 as3 (by omega)
    have as4:=(wW (a:=r*4294967296) (b:=xa) 32 (by omega) k0.1 ⟨r,by rw [Int.mul_comm];rfl⟩ (by simpa using k0.2) (by omega)).1
    simp (disch:=omega) [gw,hb,hwr,hr,a2,hxa,as4]
    exact hK _ _ (aD _ [0,1,5,6,7,9,10,71]) ⟨_,rfl,by simp [hb]⟩
  rintro _ ⟨b,rfl,hb⟩
  refine bP ?_ ?_<;>intro h
  ·have h:=hb.1 h
   have aol:X<g*Y:=by
    rcases h with h | h
    ·exact MA.big h
    ·exact MA.over q1 q5 h
   have hgp:1≤g:=by
    rcases Int.lt_or_le g 1 with h3 | h3
    ·exfalso
     have:g=0:=by omega
     rw [this,Int.zero_mul]at aol;omega
    ·exact h3
   have e5:(g-1)*top+(r+top)=head:=by rw [Int.sub_mul];omega
   have e6:X<(g-1+1)*Y:=by rw [Int.sub_add_cancel];exact aol
   refine W.skip ?_
   refine W.block ?_
   refine aA [0,1,5,6,7,9,10] ?_
   refine aA [0,1,5,6,7,9,10] ?_
   refine aA [0,1,5,6,7,9,10,78] ?_
   refine bP ?_ ?_<;>intro h
   ·have h:4294967296≤r+top:=by simp at h;omega
    have FW:=MA.W8 hhd e5 h
    have hnr:=MA.A7 (by omega) FW e5 (MA.an5 (by omega) FW h)
    refine fC ?_
    exact⟨_,aD _ [0,1,5,9],g-1,rfl,by omega,FW,e6,hnr⟩
   ·have h:r+top<4294967296:=by simp at h;omega
    refine W.skip ?_
    exact⟨(g-1).toNat,_,aD _ [0,1,5,6,7,9,10],by omega,g-1,r+top,rfl,rfl,by omega,by omega,by omega,h,e5,e6⟩
  ·have h:¬(4294967296≤g∨r*4294967296+xa<g*nx):=fun h2=>by rw [hb.2 h2]at h;cases h
   have hnr:=MA.A7 q1 (by omega) q5 (by omega)
   refine fC ?_
   exact⟨_,aD _ [0,1,5,9],g,rfl,q1,by omega,q6,hnr⟩
 rintro _ ⟨g,rfl,g0,g1,hgX,hgY⟩
 clear hf hg0 R6 BO LY hgu hor
 refine aA [0,1,5,9,11,12] ?_
 refine W.seq ?_
 refine W.sr ?_
 simp (disch:=omega) [gw,J1]
 refine bM [0,1,5,9,11,12,79,80,81] ?_
 refine W.block ?_
 refine W.bC (fun q σ=>∃(i:Nat) (c β:Int) (z:List Int) (s8:Pm.Rows),σ=⟨fa [(0, .own id ver off (m+3)),(1,us y),(5, .int .i64 ((m:Int)+2)),(9, .int .u64 g),(11, .int .u64 c),(12, .int .u64 β),(79,us y),(80, .int .i64 ((m:Int)+2)),(81, .int .i64 i)],s8,clk⟩ ∧
  s8 id=some ⟨ver,185,1,emap u32 z⟩∧(∀j,j≠id→s8 j=rows j)∧q=m+2-i∧i≤m+2∧z.length=zl.length∧b9 4294967296 z∧z.take off=zl.take off∧(z.drop off).drop i=(zl.drop off).drop i∧0≤c∧c<4294967296∧(β=0∨β=1) ∧
  V 4294967296 ((z.drop off).take i)+g*V 4294967296 (y.take i)=V 4294967296 ((zl.drop off).take i)+(c+β)*4294967296^i) (m+2) ?_ ?_
 ·exact⟨_,Gh.fr [(0, .own id ver off (m+3)),(1,us y),(5, .int .i64 ((m:Int)+2)),(9, .int .u64 g),(11, .int .u64 0),(12, .int .u64 0),(79,us y),(80, .int .i64 ((m:Int)+2)),(81, .int .i64 (0:Nat))] (by simp),0,0,0,zl,rows,rfl,hr,fun _ _=>rfl,by omega,by omega,rfl,lz,rfl,rfl,by omega,by omega, .inl rfl,by simp [V]⟩
 rintro q _ ⟨i,c,β,z,s8,rfl,dY,hro,hq,hi,aon,lz2,hP,hD,c0,c1,hβ,hV⟩
 refine cL [0,1,5,9,11,12,79,80,81,82] ?_
 refine bP ?_ ?_<;>intro h
 ·have hi:i<m+2:=by simp at h;omega
  have hw:=ly.nth (i:=i) (by omega)
  have hVy:=aS (b:=4294967296) (l:=y) (i:=i) (by omega)
  have hVx:=aS (b:=4294967296) (l:=zl.drop off) (i:=i) (by omega)
  have hxn:nth z (off+i)=nth (zl.drop off) i:=by
   rw [←eW]
   have:=congrArg (fun l=>nth l 0) hD
   simpa [eW]using this
  have hx:=(lz.drop off).nth (i:=i) (by omega)
  generalize nth (zl.drop off) i=x at *
  generalize hwe:nth y i=w at *
  obtain⟨s1,s2,β',oH,s3,s4⟩:=XA ⟨g0,g1⟩ hw ⟨c0,c1⟩ hx hβ
  refine kK ?_
  refine W.sr ?_
  simp (disch:=omega) [gw,J1,hwe]
  refine bM [0,1,5,9,11,12,13,14,79,80,81] ?_
  have hp1:IntKind.u64.wrap (g*w)=g*w:=wrap_u64 (Int.mul_nonneg g0 hw.1) (by omega)
  have hp2:IntKind.u64.wrap (g*w+c)=g*w+c:=wrap_u64 s1.1 (by omega)
  refine W.sr ?_
  simp (disch:=omega) [gw,hp1,hp2]
  refine bM [0,1,5,9,12,13,15,79,80,81] ?_
  refine aA [0,1,5,9,11,12,13,15,79,80,81] ?_
  have hp3:IntKind.u32.wrap (g*w+c)=(g*w+c)%4294967296:=wrap_u32'
  have hp4:IntKind.u64.wrap (IntKind.u64.wrap (x-(g*w+c)%4294967296)-β)=(x-(g*w+c)%4294967296-β)%18446744073709551616:=by rw [iO,iO];omega
  refine W.sr ?_
  simp (disch:=omega) [gw,dY,hxn,hp3,hp4]
  refine bM [0,1,5,9,11,13,16,79,80,81] ?_
  have hs3:=s3
  have hs4:=s4
  generalize hss:(x-(g*w+c)%4294967296-β)%18446744073709551616=s at *
  have hp5:IntKind.u32.wrap s=s%4294967296:=wrap_u32'
  have hoi:off+i<z.length:=by omega
  refine W.cG (fun K hK=>?_)
  simp (disch:=omega) [gw,dY,hp5,s3,hoi]
  refine W.lw [0,1,5,9,11,12,79,80,81] hK ?_;clear hK K;simp
  refine W.cG (fun K hK=>?_);simp (disch:=omega) [gw]
  refine hK _ ⟨m+2-(i+1),_,aD _ [0,1,5,9,11,12,79,80,81],by omega,i+1,(g*w+c)/4294967296,β',z.set (off+i) (s%4294967296),_,rfl,by simp,fun j hj=>by simp [hj,hro j hj],by omega,by omega,by simp [aon],lz2.set ⟨by omega,by omega⟩,by rw [fZ (by omega),hP],?_,s2.1,s2.2,oH,?_⟩
  ·rw [kL,List.drop_set_of_lt (by omega)]
   have:=congrArg (List.drop 1) hD
   rw [List.drop_drop,List.drop_drop,List.drop_drop,List.drop_drop]at this
   rw [List.drop_drop,List.drop_drop]
   exact this
  ·rw [kL,eC (by simp;omega),hVy,hVx,s4,Int.pow_succ]
   have h10:=Int.mul_ediv_add_emod (g*w+c) 4294967296
   generalize (g*w+c)/4294967296=pq at *
   generalize (g*w+c)%4294967296=pr at *
   generalize (4294967296:Int)^i=bi at *
   have e7:g*(V 4294967296 (y.take i)+bi*w)=g*V 4294967296 (y.take i)+bi*(g*w):=by grind
   rw [e7]
   have e8:g*w=4294967296*pq+pr-c:=by omega
   rw [e8]
   have e9:V 4294967296 ((z.drop off).take i)=V 4294967296 ((zl.drop off).take i)+(c+β)*bi-g*V 4294967296 (y.take i):=by omega
   rw [e9]
   grind
 ·have hi:i=m+2:=by simp at h;omega
  subst hi
  rw [List.take_of_length_le (show y.length≤m+2 by omega),hYY]at hV
  have hxn:nth z (off+(m+2))=xc:=by
   rw [←n2,←eW]
   have:=congrArg (fun l=>nth l 0) hD
   simpa [eW]using this
  have hV0:=bF (b:=4294967296) (by decide) ((lz2.drop off).take (m+2))
  have hV1:=nC (b:=4294967296) (by decide) ((lz2.drop off).take (m+2))
  rw [List.length_take,Nat.min_eq_left (by simp;omega)]at hV1
  have hXg:X-g*Y=V 4294967296 ((z.drop off).take (m+2))+4294967296^(m+2)*(xc-c-β):=by
   rw [hX]
   have:(c+β)*4294967296^(m+2)=4294967296^(m+2)*c+4294967296^(m+2)*β:=by grind
   rw [Int.mul_sub,Int.mul_sub];omega
  have hoi:off+(m+2)<z.length:=by omega
  generalize hbn:(4294967296:Int)^(m+2)=bn at *
  have hp4:IntKind.u64.wrap (IntKind.u64.wrap (xc-c)-β)=(xc-c-β)%18446744073709551616:=by rw [iO,iO];omega
  refine fC ?_
  refine W.sr ?_
  simp (disch:=omega) [gw,dY,a3,hxn,hp4]
  refine bM [0,1,5,9,17] ?_
  generalize hss:(xc-c-β)%18446744073709551616=s at *
  have hp5:IntKind.u32.wrap s=s%4294967296:=wrap_u32'
  refine W.sr ?_
  simp (disch:=omega) [gw,dY,a3,hp5,hoi]
  refine bM [0,1,5,9,17] ?_
  have acr:(z.set (off+(m+2)) (s%4294967296)).drop off=(z.drop off).set (m+2) (s%4294967296):=kL _ _ _ _
  have aij:(z.set (off+(m+2)) (s%4294967296)).take off=zl.take off:=by rw [fZ (by omega),hP]
  have acs:((z.drop off).set (m+2) (s%4294967296)).drop (m+3)=(zl.drop off).drop (m+3):=by
   rw [List.drop_set_of_lt (by omega)]
   have:=congrArg (List.drop 1) hD
   rw [List.drop_drop,List.drop_drop,List.drop_drop,List.drop_drop]at this
   rw [List.drop_drop,List.drop_drop]
   exact this
  have SE:b9 4294967296 ((z.drop off).set (m+2) (s%4294967296)):=(lz2.drop off).set ⟨by omega,by omega⟩
  refine W.seq ?_
  rcases Int.lt_or_le (xc-c-β) 0 with XW | gZ
  ·-- one too many
   have acu:s/9223372036854775808=1:=by omega
   refine W.sr ?_
   simp (disch:=omega) [gw,acu]
   refine bM [0,1,5,9,129] ?_
   refine bP ?_ ?_<;>intro h
   ·cases h
   refine W.skip ?_
   have as7:bn*(xc-c-β) = - bn:=by
    rcases Int.lt_or_le (xc-c-β) (-1)with h | h
    ·exfalso
     have:=Int.mul_le_mul_of_nonneg_left (show xc-c-β ≤ -2 by omega) (show 0≤bn by omega)
     omega
    ·have:xc-c-β = -1:=by omega
     rw [this];omega
   have hsv:s%4294967296=4294967295:=by
    rcases Int.lt_or_le (xc-c-β) (-1)with h | h
    ·exfalso
     have:=Int.mul_le_mul_of_nonneg_left (show xc-c-β ≤ -2 by omega) (show 0≤bn by omega)
     omega
    ·omega
   rw [as7]at hXg
   obtain⟨hq1,hq2⟩:=MA.an6 hgY (by omega)
   have hgp:0≤g-1:=by rw [hq1];exact Int.ediv_nonneg hX0 (by omega)
   rw [hsv]at acr aij acs SE ⊢
   have aoq:((z.drop off).set (m+2) 4294967295).take (m+2)=(z.drop off).take (m+2):=fZ (Nat.le_refl _)
   rw [←aoq]at hXg hV0 hV1
   have aor:nth ((z.drop off).set (m+2) 4294967295) (m+2)=4294967295:=dV (by simp;omega)
   generalize rL:z.set (off+(m+2)) 4294967295=z2 at *
   have as8:z2.length=zl.length:=by rw [←rL];simp [aon]
   rw [←acr]at hXg hV0 hV1 aor SE acs
   have lz3:b9 4294967296 z2:=by rw [←rL];exact lz2.set ⟨by omega,by omega⟩
   clear hss hp5 hp4 acu acr aoq hV hxn hD hP SE lz2
   refine aA [0,1,5,9,18] ?_
   refine W.seq ?_
   refine W.sr ?_
   simp (disch:=omega) [gw,J1]
   refine bM [0,5,9,18,132,133,134] ?_
   refine W.block ?_
   refine W.bC (fun q σ=>∃(i:Nat) (k:Int) (z:List Int) (s8:Pm.Rows),σ=⟨fa [(0, .own id ver off (m+3)),(5, .int .i64 ((m:Int)+2)),(9, .int .u64 g),(18, .int .u64 k),(132,us y),(133, .int .i64 ((m:Int)+2)),(134, .int .i64 i)],s8,clk⟩ ∧
    s8 id=some ⟨ver,185,1,emap u32 z⟩∧(∀j,j≠id→s8 j=rows j)∧q=m+2-i∧i≤m+2∧z.length=zl.length∧b9 4294967296 z∧z.take off=zl.take off∧(z.drop off).drop i=(z2.drop off).drop i∧(k=0∨k=1) ∧
    V 4294967296 ((z.drop off).take i)+k*4294967296^i=V 4294967296 ((z2.drop off).take i)+V 4294967296 (y.take i)) (m+2) ?_ ?_
   ·exact⟨_,Gh.fr [(0, .own id ver off (m+3)),(5, .int .i64 ((m:Int)+2)),(9, .int .u64 g),(18, .int .u64 0),(132,us y),(133, .int .i64 ((m:Int)+2)),(134, .int .i64 (0:Nat))] (by simp),0,0,z2,_,rfl,by simp,fun j hj=>by simp [hj,hro j hj],by omega,by omega,as8,lz3,aij,rfl, .inl rfl,by simp [V]⟩
   rintro q _ ⟨i,k,z,av4,rfl,lJ,aos,hq,hi,as9,lz4,hP,hD,hk,hV⟩
   refine cL [0,5,9,18,132,133,134,135] ?_
   refine bP ?_ ?_<;>intro h
   ·have hi:i<m+2:=by simp at h;omega
    have hw:=ly.nth (i:=i) (by omega)
    have hVy:=aS (b:=4294967296) (l:=y) (i:=i) (by omega)
    have hVx:=aS (b:=4294967296) (l:=z2.drop off) (i:=i) (by simp;omega)
    have hxn:nth z (off+i)=nth (z2.drop off) i:=by
     rw [←eW]
     have:=congrArg (fun l=>nth l 0) hD
     simpa [eW]using this
    have hx:=(lz3.drop off).nth (i:=i) (by simp;omega)
    generalize nth (z2.drop off) i=x at *
    generalize hwe:nth y i=w at *
    refine kK ?_
    refine W.sr ?_
    simp (disch:=omega) [gw,J1,hwe]
    refine bM [0,5,9,18,19,20,132,133,134] ?_
    refine W.sr ?_
    simp (disch:=omega) [gw,lJ,hxn]
    refine bM [0,5,9,19,21,132,133,134] ?_
    have hp6:IntKind.u32.wrap (x+w+k)=(x+w+k)%4294967296:=wrap_u32'
    have ata:off+i<z.length:=by omega
    refine W.cG (fun K hK=>?_)
    simp (disch:=omega) [gw,lJ,hp6,ata]
    refine W.lw [0,5,9,18,132,133,134] hK ?_;clear hK K;simp
    refine W.cG (fun K hK=>?_);simp (disch:=omega) [gw]
    refine hK _ ⟨m+2-(i+1),_,aD _ [0,5,9,18,132,133,134],by omega,i+1,(x+w+k)/4294967296,z.set (off+i) ((x+w+k)%4294967296),_,rfl,by simp,fun j hj=>by simp [hj,aos j hj],by omega,by omega,by simp [as9],lz4.set ⟨by omega,by omega⟩,by rw [fZ (by omega),hP],?_,by omega,?_⟩
    ·rw [kL,List.drop_set_of_lt (by omega)]
     have:=congrArg (List.drop 1) hD
     rw [List.drop_drop,List.drop_drop,List.drop_drop,List.drop_drop]at this
     rw [List.drop_drop,List.drop_drop]
     exact this
    ·rw [kL,eC (by simp;omega),hVy,hVx,Int.pow_succ]
     have h10:=Int.mul_ediv_add_emod (x+w+k) 4294967296
     generalize (x+w+k)/4294967296=pq at *
     generalize (x+w+k)%4294967296=pr at *
     generalize (4294967296:Int)^i=bi at *
     have e8:pr=x+w+k-4294967296*pq:=by omega
     rw [e8]
     have e9:V 4294967296 ((z.drop off).take i)=V 4294967296 ((z2.drop off).take i)+V 4294967296 (y.take i)-k*bi:=by omega
     rw [e9]
     grind
   ·have hi:i=m+2:=by simp at h;omega
    subst hi
    rw [List.take_of_length_le (show y.length≤m+2 by omega),hYY,hbn]at hV
    have hxn:nth z (off+(m+2))=4294967295:=by
     rw [←aor,←eW]
     have:=congrArg (fun l=>nth l 0) hD
     simpa [eW]using this
    have R9:=bF (b:=4294967296) (by decide) ((lz4.drop off).take (m+2))
    have hV3:=nC (b:=4294967296) (by decide) ((lz4.drop off).take (m+2))
    rw [List.length_take,Nat.min_eq_left (by simp;omega),hbn]at hV3
    have hk1:k=1:=by
     rcases hk with rfl | rfl
     ·exfalso;omega
     ·rfl
    subst hk1
    have atb:off+(m+2)<z.length:=by omega
    have hwc:IntKind.u32.wrap 4294967296=0:=rfl
    have hwg:IntKind.u32.wrap g=g:=wrap_u32 g0 g1
    refine fC ?_
    refine W.sr ?_
    simp (disch:=omega) [gw,lJ,a3,hxn,atb,hwc]
    refine bM [9] ?_
    refine W.sr ?_
    simp (disch:=omega) [gw,hwg]
    refine bM [4] ?_
    refine W.ret ?_
    refine⟨(z.drop off).set (m+2) 0,by simp [hq1],?_,rfl,by simp;omega,(lz4.drop off).set ⟨by omega,by omega⟩,?_,?_⟩
    ·have hzz:z.set (off+(m+2)) 0=zl.take off++(z.drop off).set (m+2) 0:=by
      rw [←kL,←hP,←fZ (l:=z) (i:=off+(m+2)) (x:=0) (show off≤off+(m+2)by omega),List.take_append_drop]
     rw [hzz]
     funext j
     by_cases hj:j=id
     ·subst hj;simp
     ·simp [hj,aos j hj,dH]
    ·rw [List.drop_set_of_lt (by omega),←acs]
     have:=congrArg (List.drop 1) hD
     rw [List.drop_drop,List.drop_drop,List.drop_drop,List.drop_drop]at this
     rw [List.drop_drop,List.drop_drop]
     exact this
    ·rw [show m+3=(m+2)+1 from rfl,eC (by simp;omega),hbn,←hq2]
     omega
  ·have acu:s/9223372036854775808=0:=by omega
   have atd:0≤X-g*Y:=by
    rw [hXg]
    have:=Int.mul_nonneg (show 0≤bn by omega) gZ
    omega
   obtain⟨hq1,hq2⟩:=MA.right hgX atd
   refine W.sr ?_
   simp (disch:=omega) [gw,acu]
   refine bM [0,1,5,9,129] ?_
   refine bP ?_ ?_<;>intro h
   ·have hwg:IntKind.u32.wrap g=g:=wrap_u32 g0 g1
    refine W.sr ?_
    simp (disch:=omega) [gw,hwg]
    refine bM [4] ?_
    refine W.ret ?_
    refine⟨(z.drop off).set (m+2) (s%4294967296),by simp [hq1],?_,rfl,by simp;omega,SE,acs,?_⟩
    ·have hzz:z.set (off+(m+2)) (s%4294967296)=zl.take off++(z.drop off).set (m+2) (s%4294967296):=by
      rw [←aij,←acr,List.take_append_drop]
     rw [hzz]
     funext j
     by_cases hj:j=id
     ·subst hj;simp
     ·simp [hj,hro j hj,dH]
    ·rw [show m+3=(m+2)+1 from rfl,eC (by simp;omega),hbn,←hq2,hXg]
     have:s%4294967296=xc-c-β:=by omega
     rw [this]
   ·cases h
abbrev RP:=List (Bool × List Int)
def aG(n:Int):List PV:=[.int .i64 n]
def pe(p:RP):List PV:=[Pg p]
def me(r:List RP):List PV:=[aQ pe r]
@[simp] theorem aou{n:Int}:aG n = [.int .i64 n]:=rfl
@[simp] theorem ate{p:RP}:pe p = [Pg p]:=rfl
@[simp] theorem atf{p:List RP}:me p = [aQ pe p]:=rfl
@[simp] theorem ae8{l:List Int}:bB 1 (emap aG l)=True:=cJ fun _=>rfl
@[simp] theorem ak2{l:List RP}:bB 1 (emap pe l)=True:=cJ fun _=>rfl
@[simp] theorem ak3{l:List (List RP)}:bB 1 (emap me l)=True:=cJ fun _=>rfl
@[simp] theorem acw{v e n:Nat}{l:List Int}:cK (some ⟨v,e,n,emap aG l⟩)=True:=cC fun _=>rfl
@[simp] theorem aik{v e n:Nat}{l:List RP}:cK (some ⟨v,e,n,emap pe l⟩)=True:=cC fun _=>rfl
@[simp] theorem ail{v e n:Nat}{l:List (List RP)}:cK (some ⟨v,e,n,emap me l⟩)=True:=cC fun _=>rfl
@[simp] theorem atg{l:RP}{n:Bool}{m:List Int}:emap ge l ++ [[.bool n,us m]]=emap ge (l ++ [(n,m)]):=by simp [emap]
@[simp] theorem ath{l:List Int}{x:Int}:emap ie l ++ [[.bool (decide (x<0)),us (aY LL x.natAbs)]]=emap ie (l ++ [x]):=by simp [emap]
@[simp] theorem ati{l:List RP}{p:RP}:emap pe l ++ [[aQ ge p]]=emap pe (l ++ [p]):=by simp [emap]
@[simp] theorem atj{l:List (List RP)}{p:List RP}:emap me l ++ [[aQ pe p]]=emap me (l ++ [p]):=by simp [emap]
def kM(p:RP):List Int:=aM (p.map gv)
theorem OY(l:List Int)(hl:l.length<1099511627776)(hb:∀x∈l, -9223372036854775808≤x∧x<9223372036854775808):aL env.P 11 [aQ aG l] (Po (aM l)):=by
 refine cH [(0,aQ aG l)] Tryz.func11 ?_
 refine aA [0] ?_
 refine aA [0,3] ?_
 refine W.row (id:=8) (emap ie (List.replicate l.length 0)) (by simp;exact⟨rfl,rfl,rfl⟩) (oX _) ?_
 refine aR [3,9,10,11] ?_
 refine W.block ?_
 refine W.bC (fun k σ=>∃(i:Nat) (z:List Int) (ver:Nat) (rows:Pm.Rows) (clk:Nat),σ=⟨fa [(3, .own 8 ver 0 l.length),(9,aQ aG l),(10, .int .i64 l.length),(11, .int .i64 i)],rows,clk⟩ ∧
  rows 8=some ⟨ver,38,2,emap ie z⟩∧k=l.length-i∧i≤l.length∧z.length=l.length∧z.take i=l.take i) l.length ?_ ?_
 ·exact⟨_, .refl,0,List.replicate l.length 0,_,_,_,rfl,by simp,by omega,by omega,by simp,by simp⟩
 rintro k _ ⟨i,z,ver,rows,clk,rfl,hr,hk,hi,hz,hv⟩
 refine cL [3,9,10,11,12] ?_
 refine W.cond ⟨_,rfl,fun fS=>?_,fun fS=>?_⟩
 ·simp at fS
  refine kK ?_
  refine W.sr ?_
  simp (disch:=omega) [gw,hr]
  refine bM [3,4,5,9,10,11] ?_
  refine W.cG (fun K hK=>?_)
  simp (disch:=omega) [gw,hr]
  refine aC (yR _ (hb _ (bR fS)).1 (hb _ (bR fS)).2) ?_
  simp (disch:=omega) [gw,hr]
  refine W.lw [3,9,10,11] hK ?_;clear hK K;simp
  refine W.cG (fun K hK=>?_)
  simp (disch:=omega) [gw]
  refine hK _ ⟨l.length-(i+1),_,aD _ [3,9,10,11],by omega,i+1,z.set i (nth l i),ver,_,_,rfl,by simp,by omega,by omega,by simpa using hz,?_⟩
  rw [kR hv (by omega),bA fS]
 ·simp at fS
  have kD:i=l.length:=by omega
  subst kD
  refine fC ?_
  rw [bG hz,bG rfl]at hv
  have rL:=bG hz
  refine W.sr ?_
  simp (disch:=omega) [gw,hr,rL]
  refine aC (s5 z (by omega)) ?_
  simp (disch:=omega) [gw]
  refine bM [2] ?_
  refine W.ret ?_
  simp [go,hv]
abbrev DD:Nat:=10000
theorem J2:2≤DD:=by decide
abbrev Dn(x:Int):PV:=aQ aG (aY DD x.toNat)
theorem rN{l:List Int}(h:b9 10000 l):aQ aG (aM l)=Dn (V 10000 l):=by rw [oR J2 h];rfl
@[simp] theorem aqX{n:Nat}:List.replicate n [PV.int .i64 0]=emap aG (List.replicate n 0):=by simp [emap]
@[simp] theorem aim{l:List Int}{i:Nat}{x:Int}:iN (emap aG l) i 0 [.int .i64 x]=emap aG (l.set i x):=wY (n:=1) (fun _=>rfl)
@[simp] theorem aov{l:List Int}{x:Int}:emap aG l ++ [[.int .i64 x]]=emap aG (l ++ [x]):=by simp [emap]
theorem mL(l:List Int)(hl:l.length<17592186044416):aL env.P 211 [aQ aG l] (aQ aG (aM l)):=by
 refine cH [(0,aQ aG l)] Tryz.func211 ?_
 refine aA [0] ?_
 refine aA [0,3] ?_
 refine W.seq (W.block ?_)
 refine W.bC (fun k σ=>∃(rows:Pm.Rows) (clk:Nat),σ=⟨fa [(0,aQ aG l),(3, .int .i64 (k:Int))],rows,clk⟩∧k≤l.length∧aM l=aM (l.take k)) l.length ?_ ?_
 ·exact⟨_, .refl,_,_,rfl,by omega,by simp⟩
 rintro k _ ⟨rows,clk,rfl,hk,hc⟩
 refine W.seq ?_
 refine W.fX (fun σ=>∃(b:Bool),σ=⟨fa [(0,aQ aG l),(3, .int .i64 (k:Int)),(15, .bool b)],rows,clk⟩∧(b=true↔0<k∧nth l (k-1)=0)) (fun K hK=>?_) ?_
 ·simp
  by_cases h0:0<k
  ·simp (disch:=omega) [gw,h0]
   exact hK _ _ (aD _ [0,3,15]) ⟨_,rfl,by simp [h0]⟩
  ·simp (disch:=omega) [gw,h0]
   exact hK _ _ (aD _ [0,3,15]) ⟨_,rfl,by simp [h0]⟩
 rintro _ ⟨b,rfl,hb⟩
 refine bP ?_ ?_<;>intro h
 ·obtain⟨h0,h1⟩:=hb.1 h
  refine W.skip (W.block ?_)
  refine W.cG (fun K hK=>?_)
  simp (disch:=omega) [gw]
  refine hK _ ⟨k-1,_,Gh.fr [(0,_),(3, .int .i64 ((k-1:Nat):Int))] (by simp;omega),by omega,_,_,rfl,by omega,?_⟩
  rw [hc,show k=(k-1)+1 by omega,bA (by omega),h1,iP]
  simp
 ·have h2:aM l=l.take k:=by
   rw [hc]
   by_cases h0:0<k
   ·have h1:nth l (k-1)≠0:=fun h1=>by simp [hb.2 ⟨h0,h1⟩]at h
    rw [show k=(k-1)+1 by omega,bA (by omega)]
    exact gV h1 _
   ·have:k=0:=by omega
    subst this;simp [aM]
  refine fC ?_
  refine aA [2] ?_
  refine W.ret ?_
  simp [h2]
theorem MB(a:List Int)(m c0:Int)(ha:a.length<1099511627776)(la:b9 10000 a)(JY:0≤m)(J0:m≤65536)(uI:0≤c0)(wG:c0≤65536) :
  aL env.P 210 [aQ aG a, .int .i64 m, .int .i64 c0] (Dn (V 10000 a*m+c0)):=by
 refine cH [(0,aQ aG a),(1, .int .i64 m),(2, .int .i64 c0)] Tryz.func210 ?_
 refine aA [0,1,2] ?_
 refine aA [0,1,2,7] ?_
 refine aR [0,1,2,7,8] ?_
 refine W.block ?_
 refine W.bC (fun k σ=>∃(i:Nat) (c:Int) (z:List Int) (ver:Nat) (rows:Pm.Rows) (clk:Nat),σ=⟨fa [(0,aQ aG a),(1, .int .i64 m),(2, .int .i64 c),(7, .own 12 ver 0 i),(8, .int .i64 i)],rows,clk⟩ ∧
  rows 12=some ⟨ver,3,1,emap aG z⟩∧k=(a.length-i)*1000000+c.toNat∧z.length=i∧(i≤a.length∨i+c≤a.length+65536)∧b9 10000 z∧0≤c∧c≤65536 ∧
  V 10000 z+10000^i*c=V 10000 (a.take i)*m+c0) (a.length*1000000+c0.toNat) ?_ ?_
 ·exact⟨_, .refl,0,c0,[],_,_,_,rfl,by simp [emap],by simp,rfl,by omega,b9.nil,uI,wG,by simp [V]⟩
 rintro k _ ⟨i,c,z,ver,rows,clk,rfl,hr,hk,hz,hi,lz,h0,h1,hV⟩
 refine W.seq ?_
 refine W.fX (fun σ=>∃(b:Bool),σ=⟨fa [(0,aQ aG a),(1, .int .i64 m),(2, .int .i64 c),(7, .own 12 ver 0 i),(8, .int .i64 i),(20, .bool b)],rows,clk⟩∧(b=true↔i<a.length∨0<c)) (fun K hK=>?_) ?_
 ·simp
  by_cases h2:i<a.length
  ·simp (disch:=omega) [gw,h2]
   exact hK _ _ (aD _ [0,1,2,7,8,20]) ⟨_,rfl,by simp [h2]⟩
  ·simp (disch:=omega) [gw,h2]
   exact hK _ _ (aD _ [0,1,2,7,8,20]) ⟨_,rfl,by simp [h2]⟩
 rintro _ ⟨b,rfl,hb⟩
 refine bP ?_ ?_<;>intro h
 ·have hb:=hb.1 h
  refine kK ?_
  refine W.iF (fun σ=>∃(s:Int),σ=⟨fa [(0,aQ aG a),(1, .int .i64 m),(2, .int .i64 s),(7, .own 12 ver 0 i),(8, .int .i64 i)],rows,clk⟩∧0≤s∧s≤655360000∧(a.length≤i→s=c) ∧
   V 10000 z+10000^i*s=V 10000 (a.take (i+1))*m+c0) ?_ ?_
  ·
   refine aA [0,1,2,7,8,26] ?_
   refine bP ?_ ?_<;>intro h
   ·simp at h
    have hn:=la.nth h
    have h2:0≤nth a i*m:=Int.mul_nonneg hn.1 JY
    have h3:nth a i*m≤9999*65536:=Int.mul_le_mul (by omega) J0 JY (by omega)
    refine W.cG (fun K hK=>?_);simp (disch:=omega) [gw]
    refine hK _ ⟨_,aD _ [0,1,2,7,8],_,rfl,by omega,by omega,by omega,?_⟩
    rw [aS h,Int.mul_add,Int.add_mul]
    grind
   ·simp at h
    refine W.skip ?_
    refine⟨_,aD _ [0,1,2,7,8],_,rfl,by omega,by omega,fun _=>rfl,?_⟩
    rw [aV (by omega)]
    rw [aV (by omega)]at hV
    exact hV
  rintro _ ⟨s,rfl,R8,tX,hsc,hsV⟩
  refine W.sr ?_
  simp (disch:=omega) [gw,hr,hz]
  refine bM [0,1,2,7,8] ?_
  refine W.cG (fun K hK=>?_);simp (disch:=omega) [gw];refine W.lw [0,1,2,7,8] hK ?_;clear hK K;simp
  refine W.cG (fun K hK=>?_);simp (disch:=omega) [gw]
  refine hK _ ⟨(a.length-(i+1))*1000000+(s/10000).toNat,_,aD _ [0,1,2,7,8],by omega,i+1,s/10000,z ++ [s%10000],_,_,_,rfl,by simp,rfl,by simp [hz],by omega,b9.append.2 ⟨lz,b9.cons.2 ⟨by omega,b9.nil⟩⟩,by omega,by omega,?_⟩
  rw [dK,lB,hz,←hsV,Int.pow_succ]
  have:=Int.emod_add_mul_ediv s 10000
  grind
 ·have hb:¬(i<a.length∨0<c):=fun h2=>by simp [hb.2 h2]at h
  have hc:c=0:=by omega
  subst hc
  refine fC ?_
  have ez:z.take i=z:=bG hz
  refine W.sr ?_
  simp (disch:=omega) [gw,hr,hz,ez]
  refine aC (mL z (by omega)) ?_
  simp (disch:=omega) [gw]
  refine bM [6] ?_
  refine W.ret ?_
  rw [aV (by omega)]at hV
  have e:V 10000 z=V 10000 a*m+c0:=by simpa using hV
  rw [←e,←rN lz]
  simp
abbrev Z(x:Int):Prop:=sz 2 x<1099511627776
theorem OZ{b:Nat}(hb:2≤b)(x:Int):sz b x≤sz 2 x:=by
 refine dN hb (Nat.lt_of_lt_of_le (lH (b:=2) (by decide) x) ?_)
 exact Nat.pow_le_pow_left hb _
theorem aio(y:Int):(aY DD y.natAbs).length≤sz 2 y:=OZ J2 y
theorem i9{y:Int}(h:0≤y):(aY DD y.toNat).length≤sz 2 y:=by
 have:=aio y
 rwa [show y.natAbs=y.toNat by omega]at this
theorem s9{y:Int}(h:0≤y):V 10000 (aY DD y.toNat)=y:=by
 have:=jH J2 y.toNat
 simp only [show((DD:Nat):Int)=10000 from rfl]at this
 rw [this];omega
theorem aox(y:Int):V 10000 (aY DD y.natAbs)=y.natAbs:=by
 have:=jH J2 y.natAbs
 simpa only [show((DD:Nat):Int)=10000 from rfl]using this
theorem j9(n:Nat):b9 10000 (aY DD n):=eT J2 n
theorem XX{l:List Int}(h:b9 4294967296 l):sz 2 (V 4294967296 l)≤32*l.length:=by
 refine dN (by decide) ?_
 have h1:=nC (b:=(4294967296:Int)) (by decide) h
 have h2:=bF (b:=(4294967296:Int)) (by decide) h
 have h3:((4294967296:Int)^l.length)=((2^(32*l.length):Nat):Int):=by rw [Nat.pow_mul];simp
 rw [h3]at h1
 omega
theorem j1(y m c:Int)(hy:0≤y)(hz:Z y)(JY:0≤m)(J0:m≤65536)(uI:0≤c)(wG:c≤65536):aL env.P 210 [Dn y, .int .i64 m, .int .i64 c] (Dn (y*m+c)):=by
 have:=MB (aY DD y.toNat) m c (by have:=i9 hy;omega) (j9 _) JY J0 uI wG
 rwa [s9 hy]at this
theorem SF(l:List Int)(hl:l.length≤17179869184)(hm:b9 4294967296 l):aL env.P 231 [us l] (Dn (V 4294967296 l)):=by
 refine cH [(0,us l)] Tryz.func231 ?_
 refine aA [0] ?_
 refine aA [0,3] ?_
 refine W.R3 3 (Dn 0) (by simp) rfl (fun K hK=>?_)
 refine W.lw [0,3] hK ?_;clear hK K;simp
 refine aR [0,3,4] ?_
 refine W.block ?_
 refine W.bC (fun k σ=>∃(rows:Pm.Rows) (clk:Nat),σ=⟨fa [(0,us l),(3,Dn (V 4294967296 (l.drop k))),(4, .int .i64 ((k:Int)-1))],rows,clk⟩∧k≤l.length) l.length ?_ ?_
 ·exact⟨_,Gh.fr [(0,us l),(3,Dn (V 4294967296 (l.drop l.length))),(4, .int .i64 ((l.length:Int)-1))] (by simp [V]),_,_,rfl,by omega⟩
 rintro k _ ⟨rows,clk,rfl,hk⟩
 have h0:=bF (b:=4294967296) (by decide) (hm.drop k)
 have hs:sz 2 (V 4294967296 (l.drop k))≤32*(l.length-k):=by have:=XX (hm.drop k);simpa using this
 refine aR [0,3,4,9] ?_
 refine bP ?_ ?_<;>intro h
 ·simp at h
  have hx:=hm.nth (i:=k-1) (by omega)
  have hd:V 4294967296 (l.drop (k-1))=nth l (k-1)+4294967296*V 4294967296 (l.drop k):=by
   rw [eB (i:=k-1) (by omega),show k-1+1=k by omega];rfl
  refine kK ?_
  refine W.sr ?_
  have hk1:((k:Int)-1).toNat=k-1:=by omega
  simp (disch:=omega) [gw,hk1]
  refine aC (j1 _ 65536 _ h0 (by omega) (by decide) (by decide) (by omega) (by omega)) ?_
  simp (disch:=omega) [gw]
  refine bM [0,3,4] ?_
  have h1:0≤V 4294967296 (l.drop k)*65536+nth l (k-1)/65536:=by omega
  have h2:sz 2 (V 4294967296 (l.drop k)*65536+nth l (k-1)/65536)≤32*l.length:=by
   have h3:=XX (hm.drop (k-1))
   refine Nat.le_trans (cS (by decide) (y:=V 4294967296 (l.drop (k-1))) (by omega)) ?_
   simp at h3;omega
  refine W.cG (fun K hK=>?_)
  simp (disch:=omega) [gw,hk1]
  refine aC (j1 _ 65536 _ h1 (by omega) (by decide) (by decide) (by omega) (by omega)) ?_
  simp (disch:=omega) [gw]
  refine W.lw [0,3,4] hK ?_;clear hK K;simp
  refine W.cG (fun K hK=>?_);simp (disch:=omega) [gw]
  refine hK _ ⟨k-1,_,Gh.fr [(0,us l),(3,Dn (V 4294967296 (l.drop (k-1)))),(4, .int .i64 (((k-1:Nat):Int)-1))] ?_,by omega,_,_,rfl,by omega⟩
  have e:(V 4294967296 (l.drop k)*65536+nth l (k-1)/65536)*65536+nth l (k-1)%65536=V 4294967296 (l.drop (k-1)):=by omega
  simp [e];omega
 ·simp at h
  have sL:k=0:=by omega
  subst sL
  refine fC ?_
  refine aA [2] ?_
  refine W.ret ?_
  simp
abbrev RI(x:Int):PV:=.ag [aQ aG (aY DD x.natAbs), .bool (decide (x<0))]
theorem mM(y:Int)(hy:0≤y)(neg:Bool):aL env.P 68 [Dn y, .bool neg] (RI (if neg=true then -y else y)):=by
 refine cH [(0,Dn y),(1, .bool neg)] Tryz.func68 ?_
 refine aA [0,1,4] ?_
 have e0:(aY DD y.toNat = [])↔y=0:=by rw [dR J2];omega
 have e:RI (if neg=true then -y else y) = .ag [Dn y, .bool (neg&&decide (0<(aY DD y.toNat).length))]:=by
  have h1:0<(aY DD y.toNat).length↔y≠0:=by
   rw [List.length_pos_iff];simp [e0]
  have e2:(if neg=true then -y else y).natAbs=y.toNat:=by split<;>omega
  have e3:(decide ((if neg=true then -y else y)<0))=(neg&&decide (0<(aY DD y.toNat).length)):=by
   cases neg
   ·simp only [Bool.false_and,Bool.false_eq_true,if_false,decide_eq_false_iff_not];omega
   ·simp only [Bool.true_and,if_true,h1];congr 1;apply propext;omega
  rw [RI,e2,e3]
 rw [e]
 refine W.dI (fun K hK=>?_)
 cases neg
 ·simp (disch:=omega) [gw]
  refine W.lw [4] hK ?_;clear hK K;simp
  exact cR
 ·simp (disch:=omega) [gw]
  refine W.lw [4] hK ?_;clear hK K;simp
  exact cR
theorem CD(n:Bool)(l:List Int)(hl:l.length≤17179869184)(hm:b9 4294967296 l):aL env.P 156 [IV n l] (RI (iv n l)):=by
 refine cH [(0,IV n l)] Tryz.func156 ?_
 refine aA [1,2] ?_
 refine sB ?_
 refine cX (SF l hl hm) ?_
 refine aC (mM _ (bF (by decide) hm) n) ?_
 simp (disch:=omega) [gw]
 refine bM [2] ?_
 refine W.ret ?_
 simp [go,iv]
theorem XY(n:Nat)(hn:n<1099511627776):aL env.P 128 [.int .i64 n] (Dn (2^n)):=by
 refine cH [(0, .int .i64 n)] Tryz.func128 ?_
 refine aA [0] ?_
 refine aA [0,3] ?_
 refine W.ast 3 [[.int .i64 1]] (Dn 1) (by simp) rfl (fun K hK=>?_)
 refine W.lw [0,3] hK ?_;clear hK K;simp
 refine aR [0,3,4] ?_
 refine W.block ?_
 refine W.bC (fun k σ=>∃(i:Nat) (rows:Pm.Rows) (clk:Nat),σ=⟨fa [(0, .int .i64 n),(3,Dn (2^i)),(4, .int .i64 i)],rows,clk⟩∧k=n-i∧i≤n) n ?_ ?_
 ·exact⟨_, .refl,0,_,_,rfl,by omega,by omega⟩
 rintro k _ ⟨i,rows,clk,rfl,hk,hi⟩
 refine aR [0,3,4,8] ?_
 refine bP ?_ ?_<;>intro h
 ·simp at h
  have hs:sz 2 (2^i)≤i+1:=by
   refine dN (by decide) ?_
   rw [show((2:Int)^i)=((2^i:Nat):Int)by simp,Int.natAbs_natCast,Nat.pow_succ]
   have:=Nat.pow_pos (n:=i) (show 0<2 by decide)
   omega
  refine kK ?_
  refine W.cG (fun K hK=>?_)
  simp (disch:=omega) [gw]
  refine aC (j1 (2^i) 2 0 (Int.le_of_lt (Int.pow_pos (by decide))) (by omega) (by decide) (by decide) (by decide) (by decide)) ?_
  simp (disch:=omega) [gw]
  refine W.lw [0,3,4] hK ?_;clear hK K;simp
  refine W.cG (fun K hK=>?_);simp (disch:=omega) [gw]
  refine hK _ ⟨n-(i+1),_,Gh.fr [(0, .int .i64 n),(3,Dn (2^(i+1))),(4, .int .i64 ((i+1:Nat):Int))] ?_,by omega,i+1,_,_,rfl,rfl,by omega⟩
  simp [Int.pow_succ]
 ·simp at h
  have:i=n:=by omega
  subst this
  refine fC ?_
  refine aA [2] ?_
  refine W.ret ?_
  simp
theorem nJ(n:Int)(h1 : -9223372036854775808≤n)(h2:n<9223372036854775808):aL env.P 61 [.int .i64 n] (RI n):=by
 refine cH [(0, .int .i64 n)] Tryz.func61 ?_
 refine aA [0,2] ?_
 refine aR [0,2,6] ?_
 refine bP ?_ ?_<;>intro h
 ·simp at h
  subst h
  refine jM ?_
  refine aC (XY 63 (by decide)) ?_
  simp (disch:=omega) [gw]
  have hp:=mM 9223372036854775808 (by decide) true
  simp at hp
  refine cV [2] hp ?_
  exact cR
 ·simp at h
  refine W.skip ?_
  refine aA [0,2,3] ?_
  refine W.iF (fun σ=>∃(rows:Pm.Rows) (clk:Nat),σ=⟨fa [(0, .int .i64 n.natAbs),(2, .ptr 2 0 0 0),(3, .bool (decide (n<0)))],rows,clk⟩∧rows 2=some ⟨0,29,2,[[.nil, .bool false]]⟩) ?_ ?_
  ·
   refine aA [0,2,3,11] ?_
   refine bP ?_ ?_<;>intro h
   ·simp at h
    refine W.cG (fun K hK=>?_);simp (disch:=omega) [gw]
    refine hK _ ⟨_,Gh.fr [(0, .int .i64 n.natAbs),(2, .ptr 2 0 0 0),(3, .bool (decide (n<0)))] (by simp;omega),_,_,rfl,by simp⟩
   ·simp at h
    refine W.skip ?_
    refine⟨_,Gh.fr [(0, .int .i64 n.natAbs),(2, .ptr 2 0 0 0),(3, .bool (decide (n<0)))] (by simp;omega),_,_,rfl,by simp⟩
  rintro _ ⟨rows,clk,rfl,dY⟩
  refine aA [0,2,3,4] ?_
  refine W.nil 4 4 3 1 (by simp) (by decide) (fun K hK=>?_)
  refine W.lw [0,2,3,4] hK ?_;clear hK K;simp
  refine W.seq ?_
  refine W.block ?_
  refine W.bC (fun k σ=>∃(z:List Int) (i ver:Nat) (rows:Pm.Rows) (clk:Nat),σ=⟨fa [(0, .int .i64 k),(2, .ptr 2 0 0 0),(3, .bool (decide (n<0))),(4, .own 4 ver 0 i)],rows,clk⟩∧rows 2=some ⟨0,29,2,[[.nil, .bool false]]⟩ ∧
   rows 4=some ⟨ver,3,1,emap aG z⟩∧z.length=i∧k*2^i≤9223372036854775808∧b9 10000 z∧V 10000 z+10000^i*k=n.natAbs∧aY DD n.natAbs=z++aY DD k) n.natAbs ?_ ?_
  ·exact⟨_, .refl,[],0,_,_,_,rfl,by simp [dY],by simp [emap],rfl,by simp;omega,b9.nil,by simp [V],by simp⟩
  rintro k _ ⟨z,i,ver,rows,clk,rfl,dY,hr,hz,XZ,lz,hV,hd⟩
  refine aR [0,2,3,4,15] ?_
  refine bP ?_ ?_<;>intro h
  ·simp at h
   have axV:i≤63:=by
    have h3:1*2^i≤k*2^i:=Nat.mul_le_mul_right _ (by omega)
    have h4:2^i≤2^63:=by omega
    exact(Nat.pow_le_pow_iff_right (by decide)).1 h4
   have axW:k≤9223372036854775808:=Nat.le_trans (by have:=Nat.mul_le_mul_left k (Nat.pow_pos (n:=i) (show 0<2 by decide));omega) XZ
   refine W.skip ?_
   refine W.block ?_
   refine W.sr ?_
   simp (disch:=omega) [gw,hr,hz]
   refine bM [0,2,3,4] ?_
   refine W.cG (fun K hK=>?_);simp (disch:=omega) [gw]
   refine hK _ ⟨k/10000,_,Gh.fr [(0, .int .i64 ((k/10000:Nat):Int)),(2, .ptr 2 0 0 0),(3, .bool (decide (n<0))),(4, .own 4 _ 0 (i+1))] (by simp;rfl),by omega,z ++ [((k%10000:Nat):Int)],i+1,_,_,_,rfl,by simp [dY],by simp,by simp [hz],?_,b9.append.2 ⟨lz,b9.cons.2 ⟨by omega,b9.nil⟩⟩,?_,?_⟩
   ·rw [Nat.pow_succ]
    have h3:k/10000*(2^i*2)=k/10000*2*2^i:=by rw [Nat.mul_comm (2^i),Nat.mul_assoc]
    rw [h3]
    exact Nat.le_trans (Nat.mul_le_mul_right _ (by omega)) XZ
   ·rw [dK,lB,hz,←hV,Int.pow_succ]
    have:(k:Int)=(k%10000:Nat)+10000*(k/10000:Nat):=by omega
    grind
   ·rw [hd,oQ J2 (by omega)];simp
  ·simp at h
   have sL:k=0:=by omega
   subst sL
   have e:z=aY DD n.natAbs:=by rw [hd];simp [j0]
   refine fC ?_
   refine W.sr ?_
   have ez:z.take i=aY DD n.natAbs:=by rw [bG hz,e]
   simp (disch:=omega) [gw,hr,hz,ez]
   refine aC (mM n.natAbs (by omega) (decide (n<0))) ?_
   simp (disch:=omega) [gw,dY]
   refine bM [2] ?_
   refine W.ret ?_
   have e2:(if n<0 then -(n.natAbs:Int)else n.natAbs)=n:=by split<;>omega
   rw [e2]
   simp [go]
end Go.Proofs.YtiobceocpabjdaaGreat
