import Derived.KernelRfl
import Derived.Test.YtiobceocpabjdaaGreatKad
import Derived.Test.YtiobceocpabjdaaGreatKae
import Derived.Test.YtiobceocpabjdaaGreatKaf
set_option linter.unusedSimpArgs false
set_option linter.unusedVariables false
namespace Go.Proofs.YtiobceocpabjdaaGreat
open Go Pm
theorem cB{AQ:FuncId}{fn:Func}{code:Code}{args:List PV}{r:PV}(l:List (Nat × PV))(h1:env.P.funcs[AQ]? = some fn)(h:W env fn.ntmps (fun _=>0) code (adi env fn.results.toList r) ⟨fa l,fun _=>none,0⟩)(h2:fn.body=some code:=by rfl) (h3:(fn.name == "runtime.NumGoroutine") = false:=by kernel_rfl) (fT:fF env fn.ntmps (fun _=>0) code=true:=by kernel_rfl) (fB:args.length≤fn.ntmps:=by exact of_decide_eq_true (by kernel_rfl)) (hl:∀p∈l,args.getD p.1 .undef=p.2:=by simp):aE env.P AQ args r:=
  dA (fun _=>0) l h1 h2 h3 fT fB hl h
def u32(n:Int):List PV:=[.int .u32 n]
@[simp] theorem ay2{n:Int}:u32 n = [.int .u32 n]:=rfl
theorem aiW:Enc u32 1:=fun _=>rfl
theorem aeo:at5 u32:=fun _=>rfl
@[simp] theorem apQ{l:List Int}:bK 1 (emap u32 l)=True:=cL aiW
@[simp] theorem amg{v e n:Nat}{l:List Int}:c9 (some ⟨v,e,n,emap u32 l⟩)=True:=b8 aeo
@[simp] theorem ay3{n:Nat}:List.replicate n [PV.int .u32 0]=emap u32 (List.replicate n 0):=by simp [emap]
@[simp] theorem asW{l:List Int}{i:Nat}{x:Int}:iO (emap u32 l) i 0 [.int .u32 x]=emap u32 (l.set i x):=by
 simp only [iO,emap,List.map_set]
 by_cases h:i<l.length
 ·simp [h]
 ·rw [List.set_eq_of_length_le (by simp;omega),List.set_eq_of_length_le (by simp;omega)]
@[simp] theorem awf{α:Type}{g:α→List PV}{l:List α}:(emap g l).length=l.length:=by simp [emap]
abbrev us(l:List Int):PV:=aH u32 l
abbrev LL:Nat:=4294967296
abbrev N(x:Int):PV:=us (aR LL x.toNat)
theorem gO:2≤LL:=by decide
theorem xM{l:List Int}(h:c8 4294967296 l):us (aP l)=N (V 4294967296 l):=by rw [sS gO h];rfl
theorem dZ(l:List Int)(hl:l.length<17592186044416):aE env.P 208 [us l] (us (aP l)):=by
 refine cB [(0,us l)] Tryz.func208 ?_
 refine aA [0] ?_
 refine aA [0,3] ?_
 refine W.seq (W.block ?_)
 refine W.aY (fun k σ=>∃(rows:Pm.Rows) (clk:Nat),σ=⟨fa [(0,us l),(3, .int .i64 (k:Int))],rows,clk⟩∧k≤l.length∧aP l=aP (l.take k)) l.length ?_ ?_
 ·exact⟨_, .refl,_,_,rfl,by omega,by simp⟩
 rintro k _ ⟨rows,clk,rfl,hk,hc⟩
 refine W.seq ?_
 refine W.eD (fun σ=>∃(b:Bool),σ=⟨fa [(0,us l),(3, .int .i64 (k:Int)),(15, .bool b)],rows,clk⟩∧(b=true↔0<k∧nth l (k-1)=0)) (fun K hK=>?_) ?_
 ·simp
  by_cases h0:0<k
  ·simp (disch:=omega) [gw,h0]
   exact hK _ _ (aB _ [0,3,15]) ⟨_,rfl,by simp [h0]⟩
  ·simp (disch:=omega) [gw,h0]
   exact hK _ _ (aB _ [0,3,15]) ⟨_,rfl,by simp [h0]⟩
 rintro _ ⟨b,rfl,hb⟩
 refine bH ?_ ?_<;>intro h
 ·obtain⟨h0,h1⟩:=hb.1 h
  refine W.skip (W.block ?_)
  refine W.bY (fun K hK=>?_)
  simp (disch:=omega) [gw]
  refine hK _ ⟨k-1,_,Gh.fr [(0,_),(3, .int .i64 ((k-1:Nat):Int))] (by simp;omega),by omega,_,_,rfl,by omega,?_⟩
  rw [hc,show k=(k-1)+1 by omega,bG (by omega),h1,kJ]
  simp
 ·have h2:aP l=l.take k:=by
   rw [hc]
   by_cases h0:0<k
   ·have h1:nth l (k-1)≠0:=fun h1=>by simp [hb.2 ⟨h0,h1⟩]at h
    rw [show k=(k-1)+1 by omega,bG (by omega)]
    exact jD h1 _
   ·have:k=0:=by omega
    subst this;simp [aP]
  refine eW ?_
  refine aA [2] ?_
  refine W.ret ?_
  simp [h2]
theorem n9(l:List Int)(hl:l.length<1099511627776)(hm:c8 4294967296 l):aE env.P 123 [us l] (N (V 4294967296 l)):=by
 rw [←xM hm]
 refine cB [(0,us l)] Tryz.func123 ?_
 refine aA [0] ?_
 refine W.sr ?_
 simp
 refine aC (dZ l (by omega)) ?_
 have:=bW l
 simp (disch:=omega) [gw]
 refine bI [2] ?_
 refine W.ret ?_
 simp
theorem XX(a b:List Int)(ha:a.length<1099511627776)(hb:b.length<1099511627776)(la:c8 4294967296 a)(lb:c8 4294967296 b):aE env.P 133 [us a,us b] (N (V 4294967296 a+V 4294967296 b)):=by
 refine cB [(0,us a),(1,us b)] Tryz.func133 ?_
 refine aA [0,1] ?_
 refine W.sr ?_
 simp
 refine aC (dZ a (by omega)) ?_
 simp
 refine aC (dZ b (by omega)) ?_
 simp
 refine bI [0,1] ?_
 refine W.iB (fun σ=>∃(x y:List Int) (rows:Pm.Rows) (clk:Nat),σ=⟨fa [(0,us x),(1,us y)],rows,clk⟩∧c8 4294967296 x∧c8 4294967296 y∧y.length≤x.length∧x.length<1099511627776 ∧
  V 4294967296 a+V 4294967296 b=V 4294967296 x+V 4294967296 y) ?_ ?_
 ·have h1:=bW a
  have h2:=bW b
  refine aA [0,1,18] ?_
  refine bH ?_ ?_<;>intro h
  ·simp at h
   refine W.bY (fun K hK=>?_)
   simp (disch:=omega) [gw]
   exact hK _ ⟨_,aB _ [0,1],_,_,_,_,rfl,eT lb,eT la,by omega,by omega,by simp [dE];omega⟩
  ·simp at h
   refine W.skip ?_
   exact⟨_,aB _ [0,1],_,_,_,_,rfl,eT la,eT lb,by omega,by omega,by simp [dE]⟩
 rintro _ ⟨x,y,rows,clk,rfl,lx,ly,rL,hx,hV⟩
 rw [hV]
 clear hV la lb ha hb a b
 refine aA [0,1,5] ?_
 refine aA [0,1,5,6] ?_
 refine aK [0,1,5,6,25,26,27] ?_
 refine W.block ?_
 refine W.aY (fun k σ=>∃(i:Nat) (c:Int) (z:List Int) (ver:Nat) (rows:Pm.Rows) (clk:Nat),σ=⟨fa [(0,us x),(1,us y),(5, .own 24 ver 0 (x.length+1)),(6, .int .u64 c),(25,us x),(26, .int .i64 x.length),(27, .int .i64 i)],rows,clk⟩ ∧
   rows 24=some ⟨ver,185,1,emap u32 z⟩∧k=x.length-i∧i≤x.length∧z.length=x.length+1∧c8 4294967296 z∧0≤c∧c≤1 ∧
   V 4294967296 (z.take i)+4294967296^i*c=V 4294967296 (x.take i)+V 4294967296 (y.take i)) x.length ?_ ?_
 ·exact⟨_, .refl,0,0,List.replicate (x.length+1) 0,_,_,_,rfl,by simp,by omega,by omega,by simp,c8.rep (by decide) _,by omega,by omega,by simp [V]⟩
 rintro k _ ⟨i,c,z,ver,rows,clk,rfl,hr,hk,hi,hz,lz,zG,u9,hV⟩
 refine bT [0,1,5,6,25,26,27,28] ?_
 refine bH ?_ ?_<;>intro h
 ·simp at h
  have hxi:=lx.nth h
  refine j7 ?_
  refine aA [0,1,5,6,7,8,25,26,27] ?_
  refine aA [0,1,5,7,9,25,26,27] ?_
  refine W.iB (fun σ=>∃(s:Int),σ=⟨fa [(0,us x),(1,us y),(5, .own 24 ver 0 (x.length+1)),(7, .int .i64 i),(9, .int .u64 s),(25,us x),(26, .int .i64 x.length),(27, .int .i64 i)],rows,clk⟩∧0≤s∧s<8589934592 ∧
   V 4294967296 (x.take (i+1))+V 4294967296 (y.take (i+1))=V 4294967296 (z.take i)+4294967296^i*s) ?_ ?_
  ·
   refine aA [0,1,5,7,9,25,26,27,39] ?_
   refine bH ?_ ?_<;>intro h
   ·simp at h
    have hyi:=ly.nth h
    refine W.bY (fun K hK=>?_)
    simp (disch:=omega) [gw]
    refine hK _ ⟨_,aB _ [0,1,5,7,9,25,26,27],_,rfl,by omega,by omega,?_⟩
    rw [aV (by omega),aV (by omega)]
    grind
   ·simp at h
    refine W.skip ?_
    refine⟨_,aB _ [0,1,5,7,9,25,26,27],_,rfl,by omega,by omega,?_⟩
    rw [aV (by omega),bC (l:=y) (by omega)]
    rw [bC (l:=y) (by omega)]at hV
    grind
  rintro _ ⟨s,rfl,XY,vT,UO⟩
  refine W.bY (fun K hK=>?_)
  simp (disch:=omega) [gw,hr,wrap_u32']
  refine W.lw [0,1,5,6,25,26,27] hK ?_;clear hK K;simp
  refine W.bY (fun K hK=>?_)
  simp (disch:=omega) [gw]
  refine hK _ ⟨x.length-(i+1),_,aB _ [0,1,5,6,25,26,27],by omega,i+1,s/4294967296,z.set i (s%4294967296),ver,_,_,rfl,by simp,by omega,by omega,by simpa using hz,lz.set (by omega),by omega,by omega,?_⟩
  rw [fL (by omega),UO,Int.pow_succ]
  have:=Int.emod_add_mul_ediv s 4294967296
  grind
 ·simp at h
  have lW:i=x.length:=by omega
  subst lW
  refine eW ?_
  refine W.sr ?_
  simp (disch:=omega) [gw,hr]
  refine bI [5] ?_
  have vU:List.take (x.length+1) (z.set x.length c)=z.set x.length c:=List.take_of_length_le (by simp;omega)
  refine W.sr ?_
  simp (disch:=omega) [gw,vU]
  refine aC (dZ (z.set x.length c) (by simp;omega)) ?_
  simp (disch:=omega) [gw]
  refine bI [4] ?_
  refine W.ret ?_
  have e:V 4294967296 (z.set x.length c)=V 4294967296 x+V 4294967296 y:=by
   rw [←bC (l:=z.set x.length c) (i:=x.length+1) (by simp;omega),fL (by omega),hV,bC (l:=y) (by omega)]
   simp
  rw [←e,xM (lz.set (by omega))]
  simp
theorem KX(a b:List Int)(ha:a.length<1099511627776)(hb:b.length<1099511627776)(la:c8 4294967296 a)(lb:c8 4294967296 b):aE env.P 212 [us a,us b] (.int .i64 (dP (V 4294967296 a) (V 4294967296 b))):=by
 refine cB [(0,us a),(1,us b)] Tryz.func212 ?_
 refine aA [0,1] ?_
 refine W.sr ?_
 simp
 refine aC (dZ a (by omega)) ?_
 simp
 refine aC (dZ b (by omega)) ?_
 simp
 refine bI [0,1] ?_
 have cx:=eX a;have lx:=eT la;have hx:=bW a
 have cy:=eX b;have ly:=eT lb;have hy:=bW b
 rw [←dE a,←dE b]
 generalize aP a=x at *
 generalize aP b=y at *
 refine aK [0,1,14] ?_
 refine bH ?_ ?_<;>intro h
 ·simp at h
  refine aK [19] ?_
  refine bH ?_ ?_<;>intro h
  ·simp at h
   refine aA [4] ?_
   refine W.ret ?_
   simp [mK (kN (by decide) lx ly cy h)]
  ·simp at h
   refine W.skip ?_
   refine aA [4] ?_
   refine W.ret ?_
   simp [mL (kN (by decide) ly lx cx (by omega))]
 ·simp at h
  have hlen:x.length=y.length:=by omega
  clear h
  refine W.skip ?_
  refine aK [0,1,5] ?_
  refine W.block ?_
  refine W.aY (fun k σ=>∃(rows:Pm.Rows) (clk:Nat),σ=⟨fa [(0,us x),(1,us y),(5, .int .i64 ((k:Int)-1))],rows,clk⟩∧k≤x.length∧x.drop k=y.drop k) x.length ?_ ?_
  ·exact⟨_, .refl,_,_,rfl,by omega,by rw [List.drop_of_length_le (by omega),List.drop_of_length_le (by omega)]⟩
  rintro k _ ⟨rows,clk,rfl,hk,hd⟩
  refine aK [0,1,5,24] ?_
  refine bH ?_ ?_<;>intro h
  ·have h0:0<k:=by simp at h;omega
   obtain⟨j,rfl⟩:∃j,k=j+1:=⟨k-1,by omega⟩
   clear h
   refine j7 ?_
   refine W.seq ?_
   refine nH ?_
   refine bI [0,1,5,35] ?_
   refine bH ?_ ?_<;>intro h
   ·simp at h
    refine aA [4] ?_
    refine W.ret ?_
    simp [mK (oW (by decide) lx ly hlen (by omega) hd h)]
   ·simp at h
    refine W.skip ?_
    refine nH ?_
    refine bI [0,1,5,44] ?_
    refine W.cond ⟨_,rfl,fun h2=>?_,fun h2=>?_⟩
    ·simp at h2
     refine aA [4] ?_
     refine W.ret ?_
     simp [mL (oW (by decide) ly lx hlen.symm (by omega) hd.symm h2)]
    ·simp at h2
     refine W.skip ?_
     refine W.bY (fun K hK=>?_)
     simp (disch:=omega) [gw]
     refine hK _ ⟨j,_,aB _ [0,1,5],by omega,_,_,rfl,by omega,?_⟩
     rw [fK (l:=x) (i:=j) (by omega),fK (l:=y) (i:=j) (by omega),hd,show nth x j=nth y j by omega]
  ·have h0:k=0:=by simp at h;omega
   subst h0
   simp at hd
   subst hd
   refine eW ?_
   refine aA [4] ?_
   refine W.ret ?_
   simp [xF]
def UP(x y:Int):PV:=if x<y then .dX [us [], .bool false]else .dX [N (x-y), .bool true]
theorem KY(a b:List Int)(ha:a.length<1099511627776)(hb:b.length<1099511627776)(la:c8 4294967296 a)(lb:c8 4294967296 b):aE env.P 134 [us a,us b] (UP (V 4294967296 a) (V 4294967296 b)):=by
 refine cB [(0,us a),(1,us b)] Tryz.func134 ?_
 refine aA [0,1] ?_
 refine W.sr ?_
 simp
 refine aC (dZ a (by omega)) ?_
 simp
 refine aC (dZ b (by omega)) ?_
 simp
 refine bI [0,1] ?_
 have cx:=eX a;have lx:=eT la;have hx:=bW a
 have cy:=eX b;have ly:=eT lb;have hy:=bW b
 rw [←dE a,←dE b]
 generalize aP a=x at *
 generalize aP b=y at *
 refine W.seq ?_
 refine W.sr ?_
 simp
 refine aC (KX x y (by omega) (by omega) lx ly) ?_
 simp (disch:=omega) [gw]
 refine bI [0,1,18] ?_
 refine bH ?_ ?_<;>intro h
 ·have h:V 4294967296 x<V 4294967296 y:=mV.1 (by simpa using h)
  refine aA [4,5] ?_
  refine W.ret ?_
  simp [UP,h]
  rfl
 ·have h:V 4294967296 y≤V 4294967296 x:=sU.1 (by simpa using h)
  have hyx:y.length≤x.length:=by
   rcases Nat.lt_or_ge x.length y.length with h2 | h2
   ·have:=kN (by decide) lx ly cy h2;omega
   ·exact h2
  refine W.skip ?_
  refine aA [0,1,6] ?_
  refine aA [0,1,6,7] ?_
  refine aK [1,6,7,22,23,24] ?_
  refine W.block ?_
  refine W.aY (fun k σ=>∃(i:Nat) (c:Int) (z:List Int) (ver:Nat) (rows:Pm.Rows) (clk:Nat),σ=⟨fa [(1,us y),(6, .own 21 ver 0 x.length),(7, .int .u64 c),(22,us x),(23, .int .i64 x.length),(24, .int .i64 i)],rows,clk⟩ ∧
   rows 21=some ⟨ver,185,1,emap u32 z⟩∧k=x.length-i∧i≤x.length∧z.length=x.length∧c8 4294967296 z∧0≤c∧c≤1 ∧
   V 4294967296 (z.take i)-4294967296^i*c=V 4294967296 (x.take i)-V 4294967296 (y.take i)) x.length ?_ ?_
  ·exact⟨_, .refl,0,0,List.replicate x.length 0,_,_,_,rfl,by simp,by omega,by omega,by simp,c8.rep (by decide) _,by omega,by omega,by simp [V]⟩
  rintro k _ ⟨i,c,z,ver,rows,clk,rfl,hr,hk,hi,hz,lz,zG,u9,hV⟩
  refine bT [1,6,7,22,23,24,25] ?_
  refine bH ?_ ?_<;>intro h
  ·simp at h
   have hxi:=lx.nth h
   refine j7 ?_
   refine aA [1,6,7,8,9,22,23,24] ?_
   refine W.sr ?_
   simp (disch:=omega) [gA,wrap_u64 hxi.1]
   refine bI [1,6,8,10,22,23,24] ?_
   refine W.iB (fun σ=>∃(d:Int),σ=⟨fa [(1,us y),(6, .own 21 ver 0 x.length),(8, .int .i64 i),(10, .int .u64 (IntKind.u64.wrap d)),(22,us x),(23, .int .i64 x.length),(24, .int .i64 i)],rows,clk⟩ ∧ -4294967296≤d∧d<4294967296 ∧
    V 4294967296 (x.take (i+1))-V 4294967296 (y.take (i+1))=V 4294967296 (z.take i)+4294967296^i*d) ?_ ?_
   ·
    refine aA [1,6,8,10,22,23,24,36] ?_
    refine bH ?_ ?_<;>intro h
    ·simp at h
     have hyi:=ly.nth h
     refine W.bY (fun K hK=>?_)
     simp (disch:=omega) [gA,wrap_u64 hyi.1]
     refine hK _ ⟨_,aB _ [1,6,8,10,22,23,24],nth x i-c-nth y i,?_,by omega,by omega,?_⟩
     ·have:IntKind.u64.wrap (IntKind.u64.wrap (nth x i-c)-nth y i)=IntKind.u64.wrap (nth x i-c-nth y i):=by
       simp only [kI];omega
      simp [this]
     rw [aV (by omega),aV (by omega)]
     grind
    ·simp at h
     refine W.skip ?_
     refine⟨_,aB _ [1,6,8,10,22,23,24],_,rfl,by omega,by omega,?_⟩
     rw [aV (by omega),bC (l:=y) (by omega)]
     rw [bC (l:=y) (by omega)]at hV
     grind
   rintro _ ⟨d,rfl,XY,vT,UO⟩
   refine W.bY (fun K hK=>?_)
   simp (disch:=omega) [gw,hr,wrap_u32']
   refine W.lw [1,6,7,22,23,24] hK ?_;clear hK K;simp
   refine W.bY (fun K hK=>?_)
   simp (disch:=omega) [gw]
   have e1:d=IntKind.u64.wrap d%4294967296-4294967296*(IntKind.u64.wrap d/9223372036854775808)∧0≤IntKind.u64.wrap d/9223372036854775808∧IntKind.u64.wrap d/9223372036854775808≤1:=by
    rw [kI];omega
   generalize IntKind.u64.wrap d=s at *
   refine hK _ ⟨x.length-(i+1),_,aB _ [1,6,7,22,23,24],by omega,i+1,s/9223372036854775808,z.set i (s%4294967296),ver,_,_,rfl,by simp,by omega,by omega,by simpa using hz,lz.set (by omega),by omega,by omega,?_⟩
   rw [fL (by omega),UO,Int.pow_succ]
   grind
  ·simp at h
   have lW:i=x.length:=by omega
   subst lW
   refine eW ?_
   have vU:z.take x.length=z:=List.take_of_length_le (by omega)
   have e:V 4294967296 z=V 4294967296 x-V 4294967296 y:=by
    rw [vU,bC (Nat.le_refl _),bC (l:=y) (by omega)]at hV
    have h1:=pJ (by decide) lz
    rw [hz]at h1
    have:c=0:=by
     rcases Int.lt_or_le c 1 with h2 | h2
     ·omega
     ·have h3:c=1:=by omega
      subst h3;omega
    subst this;omega
   refine W.sr ?_
   simp (disch:=omega) [gw,hr,vU]
   refine aC (dZ z (by omega)) ?_
   simp (disch:=omega) [gw]
   refine bI [4,5] ?_
   refine W.ret ?_
   rw [UP,if_neg (by omega),←e,←xM lz]
   simp
theorem aiX{a b:Int}(ha:0≤a∧a<4294967296)(hb:0≤b∧b<4294967296):0≤a*b∧a*b≤18446744065119617025:=by
 refine⟨Int.mul_nonneg ha.1 hb.1,?_⟩
 have:=Int.mul_le_mul (show a≤4294967295 by omega) (show b≤4294967295 by omega) hb.1 (by decide)
 simpa using this
theorem aiY(a b:List Int)(ha:a.length<1099511627776)(hb:b.length<1099511627776)(la:c8 4294967296 a)(lb:c8 4294967296 b):aE env.P 135 [us a,us b] (N (V 4294967296 a*V 4294967296 b)):=by
 refine cB [(0,us a),(1,us b)] Tryz.func135 ?_
 refine aA [0,1] ?_
 refine W.sr ?_
 simp
 refine aC (dZ a (by omega)) ?_
 simp
 refine aC (dZ b (by omega)) ?_
 simp
 refine bI [0,1] ?_
 have lx:=eT la;have hx:=bW a
 have ly:=eT lb;have hy:=bW b
 rw [←dE a,←dE b]
 generalize aP a=x at *
 generalize aP b=y at *
 refine aA [0,1,5] ?_
 refine aK [1,5,22,23,24] ?_
 refine W.block ?_
 refine W.aY (fun k σ=>∃(i:Nat) (z:List Int) (ver:Nat) (rows:Pm.Rows) (clk:Nat),σ=⟨fa [(1,us y),(5, .own 21 ver 0 (x.length+y.length)),(22,us x),(23, .int .i64 x.length),(24, .int .i64 i)],rows,clk⟩ ∧
   rows 21=some ⟨ver,185,1,emap u32 z⟩∧k=x.length-i∧i≤x.length∧z.length=x.length+y.length∧c8 4294967296 z∧(∀j,i+y.length≤j→nth z j=0) ∧
   V 4294967296 z=V 4294967296 (x.take i)*V 4294967296 y) x.length ?_ ?_
 ·have e:((x.length:Int)+(y.length:Int)).toNat=x.length+y.length:=by omega
  refine⟨_, .refl,0,List.replicate (x.length+y.length) 0,_,_,_,rfl,by simp [e],by omega,by omega,by simp,c8.rep (by decide) _,fun j _=>?_,by simp [V,rO]⟩
  unfold nth
  cases h:(List.replicate (x.length+y.length) (0:Int))[j]? with
  | none=>rfl
  | some v=>have:=List.mem_of_getElem? h;simp at this;simp [this]
 rintro k _ ⟨i,z,ver,rows,clk,rfl,hr,hk,hi,hz,lz,oT,hV⟩
 refine bT [1,5,22,23,24,25] ?_
 refine bH ?_ ?_<;>intro h
 ·simp at h
  have hxi:=lx.nth h
  refine W.skip ?_
  refine W.dW (fun σ=>∃(z:List Int) (ver:Nat) (rows:Pm.Rows) (clk:Nat),σ=⟨fa [(1,us y),(5, .own 21 ver 0 (x.length+y.length)),(22,us x),(23, .int .i64 x.length),(24, .int .i64 i)],rows,clk⟩ ∧
   rows 21=some ⟨ver,185,1,emap u32 z⟩∧z.length=x.length+y.length∧c8 4294967296 z∧(∀j,i+1+y.length≤j→nth z j=0) ∧
   V 4294967296 z=V 4294967296 (x.take (i+1))*V 4294967296 y) ?_ ?_
  ·
   refine aA [1,5,6,7,22,23,24] ?_
   refine aA [1,5,6,7,8,22,23,24] ?_
   refine aK [1,5,6,7,8,22,23,24,29,30,31] ?_
   refine W.block ?_
   refine W.aY (fun m σ=>∃(k:Nat) (c:Int) (z:List Int) (ver:Nat) (rows:Pm.Rows) (clk:Nat),σ=⟨fa [(1,us y),(5, .own 21 ver 0 (x.length+y.length)),(6, .int .i64 i),(7, .int .u32 (nth x i)),(8, .int .u64 c),(22,us x),(23, .int .i64 x.length),(24, .int .i64 i),(29,us y),(30, .int .i64 y.length),(31, .int .i64 k)],rows,clk⟩ ∧
    rows 21=some ⟨ver,185,1,emap u32 z⟩∧m=y.length-k∧k≤y.length∧z.length=x.length+y.length∧c8 4294967296 z∧(∀j,i+y.length≤j→nth z j=0)∧0≤c∧c<4294967296 ∧
    V 4294967296 z+4294967296^(i+k)*c=V 4294967296 (x.take i)*V 4294967296 y+4294967296^i*nth x i*V 4294967296 (y.take k)) y.length ?_ ?_
   ·exact⟨_, .refl,0,0,z,ver,_,_,rfl,by simpa using hr,by omega,by omega,hz,lz,oT,by omega,by omega,by simp [V,hV]⟩
   clear hV oT lz hz hr z ver rows clk
   rintro m _ ⟨k,c,z,ver,rows,clk,rfl,hr,hm,hky,hz,lz,oT,zG,u9,hV⟩
   refine bT [1,5,6,7,8,22,23,24,29,30,31,32] ?_
   refine W.cond ⟨_,rfl,fun h2=>?_,fun h2=>?_⟩
   ·simp at h2
    have hyk:=ly.nth h2
    have hzk:=lz.nth (i:=i+k) (by omega)
    have hp:=aiX hxi hyk
    refine j7 ?_
    refine aA [1,5,6,7,8,9,10,22,23,24,29,30,31] ?_
    have e0:((i:Int)+(k:Int)).toNat=i+k:=by omega
    refine W.sr ?_
    simp (disch:=omega) [gw,hr,e0]
    refine bI [1,5,6,7,9,11,22,23,24,29,30,31] ?_
    refine W.bY (fun K hK=>?_)
    simp (disch:=omega) [gw,hr,e0,wrap_u32']
    refine W.lw [1,5,6,7,8,22,23,24,29,30,31] hK ?_;clear hK K;simp
    refine W.bY (fun K hK=>?_)
    simp (disch:=omega) [gw]
    have e1:=Int.emod_add_mul_ediv (nth x i*nth y k+nth z (i+k)+c) 4294967296
    have hs:0≤nth x i*nth y k+nth z (i+k)+c∧nth x i*nth y k+nth z (i+k)+c<18446744073709551616:=by omega
    have UO:=H3 (b:=4294967296) (l:=z) (i:=i+k) (x:=(nth x i*nth y k+nth z (i+k)+c)%4294967296) (by omega)
    refine hK _ ⟨y.length-(k+1),_,aB _ [1,5,6,7,8,22,23,24,29,30,31],by omega,k+1,_,z.set (i+k) ((nth x i*nth y k+nth z (i+k)+c)%4294967296),ver,_,_,rfl,by simp,by omega,by omega,by simpa using hz,lz.set (by omega),fun j hj=>?_,by omega,by omega,?_⟩
    ·rw [iC (by omega)];exact oT j hj
    ·rw [UO,aV h2,show i+(k+1)=(i+k)+1 by omega,Int.pow_succ,Int.pow_add]
     rw [Int.pow_add]at hV
     grind
   ·simp at h2
    have yS:k=y.length:=by omega
    subst yS
    refine eW ?_
    refine aA [1,5,6,8,22,23,24,63] ?_
    refine W.cond ⟨_,rfl,fun h3=>?_,fun h3=>?_⟩
    ·simp at h3
     have e0:((i:Int)+(y.length:Int)).toNat=i+y.length:=by omega
     refine W.bY (fun K hK=>?_)
     simp (disch:=omega) [gw,hr,e0]
     have UO:=H3 (b:=4294967296) (l:=z) (i:=i+y.length) (x:=c) (by omega)
     refine hK _ ⟨_,aB _ [1,5,22,23,24],z.set (i+y.length) c,ver,_,_,rfl,by simp,by simpa using hz,lz.set (by omega),fun j hj=>?_,?_⟩
     ·rw [iC (by omega)];exact oT j (by omega)
     ·rw [UO,aV h,oT _ (Nat.le_refl _)]
      rw [bC (Nat.le_refl _)]at hV
      grind
    ·simp at h3
     refine W.skip ?_
     refine⟨_,aB _ [1,5,22,23,24],z,ver,_,_,rfl,hr,hz,lz,fun j hj=>oT j (by omega),?_⟩
     subst h3
     simp only [V,List.take_nil,Int.mul_zero,Int.add_zero,List.length_nil]at hV ⊢
     have h4:=bN (by decide) lz
     have h5:0≤(4294967296:Int)^i*c:=Int.mul_nonneg (Int.le_of_lt (Int.pow_pos (by decide))) zG
     simp only [Nat.add_zero]at hV
     omega
  clear hV oT lz hz hr z ver rows clk
  rintro _ ⟨z,ver,rows,clk,rfl,hr,hz,lz,oT,hV⟩
  refine W.bY (fun K hK=>?_)
  simp (disch:=omega) [gw]
  exact hK _ ⟨x.length-(i+1),_,aB _ [1,5,22,23,24],by omega,i+1,z,ver,_,_,rfl,hr,by omega,by omega,hz,lz,oT,hV⟩
 ·simp at h
  have lW:i=x.length:=by omega
  subst lW
  have vU:List.take (x.length+y.length) z=z:=List.take_of_length_le (by omega)
  refine eW ?_
  refine W.sr ?_
  simp (disch:=omega) [gw,hr,vU]
  refine aC (dZ z (by omega)) ?_
  simp (disch:=omega) [gw]
  refine bI [4] ?_
  refine W.ret ?_
  rw [bC (Nat.le_refl _)]at hV
  rw [←hV,←xM lz]
  simp
abbrev IV(neg:Bool)(l:List Int):PV:=.ag [.bool neg,us l]
def iv(neg:Bool)(l:List Int):Int:=if neg=true then-V 4294967296 l else V 4294967296 l
abbrev I(x:Int):PV:=IV (decide (x<0)) (aR LL x.natAbs)
structure sY(l:List Int):Prop where
 zI:c8 4294967296 l
 len:l.length<1099511627776
theorem gT(y:Int)(hy:0≤y)(neg:Bool):aE env.P 122 [N y, .bool neg] (I (if neg=true then -y else y)):=by
 refine cB [(0,N y),(1, .bool neg)] Tryz.func122 ?_
 refine aA [0,1,4] ?_
 have e0:(aR LL y.toNat = [])↔y=0:=by rw [eZ gO];omega
 have e:I (if neg=true then -y else y) = .ag [.bool (neg&&decide (0<(aR LL y.toNat).length)),N y]:=by
  have h1:0<(aR LL y.toNat).length↔y≠0:=by
   rw [List.length_pos_iff];simp [e0]
  have e2:(if neg=true then -y else y).natAbs=y.toNat:=by split<;>omega
  have e3:(decide ((if neg=true then -y else y)<0))=(neg&&decide (0<(aR LL y.toNat).length)):=by
   cases neg
   ·simp only [Bool.false_and,Bool.false_eq_true,if_false,decide_eq_false_iff_not];omega
   ·simp only [Bool.true_and,if_true,h1];congr 1;apply propext;omega
  rw [I,e2,e3]
 rw [e]
 refine W.dS (fun K hK=>?_)
 cases neg
 ·simp (disch:=omega) [gw]
  refine W.lw [4] hK ?_;clear hK K;simp
  exact bZ
 ·simp (disch:=omega) [gw]
  refine W.lw [4] hK ?_;clear hK K;simp
  exact bZ
theorem rP{l:List Int}(h:sY l):0≤V 4294967296 l:=bN (by decide) h.zI
theorem H8(n:Bool)(l:List Int)(h:sY l):aE env.P 132 [IV n l] (I (iv n l)):=by
 refine cB [(0,IV n l)] Tryz.func132 ?_
 refine aA [1,2] ?_
 refine nH ?_
 refine cM (n9 l h.len h.zI) ?_
 refine aC (gT _ (rP h) n) ?_
 simp (disch:=omega) [gw]
 refine bI [2] ?_
 refine W.ret ?_
 simp [go,iv]
theorem EF(n:Bool)(l:List Int)(h:sY l):aE env.P 148 [IV n l] (I (- iv n l)):=by
 refine cB [(0,IV n l)] Tryz.func148 ?_
 have e : - iv n l=if (!n)=true then-V 4294967296 l else V 4294967296 l:=by cases n<;>simp [iv]
 rw [e]
 refine aA [1,2] ?_
 refine nH ?_
 refine cM (n9 l h.len h.zI) ?_
 refine aC (gT _ (rP h) (!n)) ?_
 simp (disch:=omega) [gw]
 refine bI [2] ?_
 exact bZ
theorem PE(n m:Bool)(l k:List Int)(h:sY l)(h':sY k):aE env.P 66 [IV n l,IV m k] (I (iv n l*iv m k)):=by
 refine cB [(0,IV n l),(1,IV m k)] Tryz.func66 ?_
 have e:iv n l*iv m k=if (n != m)=true then-(V 4294967296 l*V 4294967296 k)else V 4294967296 l*V 4294967296 k:=by cases n<;>cases m<;>simp [iv,Int.neg_mul,Int.mul_neg]
 rw [e]
 refine aA [2,3,4] ?_
 refine nH ?_
 refine cM (aiY l k h.len h'.len h.zI h'.zI) ?_
 refine aC (gT _ (Int.mul_nonneg (rP h) (rP h')) (n != m)) ?_
 simp (disch:=omega) [gw]
 refine bI [4] ?_
 exact bZ
theorem EG(n m:Bool)(l k:List Int)(h:sY l)(h':sY k):aE env.P 65 [IV n l,IV m k] (I (iv n l+iv m k)):=by
 refine cB [(0,IV n l),(1,IV m k)] Tryz.func65 ?_
 have p1:=rP h
 have p2:=rP h'
 refine aA [2,3,4] ?_
 refine aK [2,3,4,13] ?_
 refine W.cond ⟨_,rfl,fun hb=>?_,fun hb=>?_⟩
 ·have hb:n=m:=by simpa using hb
  subst hb
  have e:iv n l+iv n k=if n=true then-(V 4294967296 l+V 4294967296 k)else V 4294967296 l+V 4294967296 k:=by cases n<;>simp [iv];omega
  rw [e]
  refine nH ?_
  refine cM (XX l k h.len h'.len h.zI h'.zI) ?_
  refine aC (gT _ (by omega) n) ?_
  simp (disch:=omega) [gw]
  refine bI [4] ?_
  exact bZ
 ·have hb:m = !n:=by cases n<;>cases m<;>simp_all
  subst hb
  refine W.skip ?_
  refine W.seq ?_
  refine W.dS (fun K hK=>?_)
  simp (disch:=omega) [gw]
  refine aC (KY l k h.len h'.len h.zI h'.zI) ?_
  by_cases dC:V 4294967296 l<V 4294967296 k
  ·simp (disch:=omega) [gw,UP,dC]
   refine W.lw [2,3,4,5,6] hK ?_;clear hK K;simp
   refine aA [2,3,4,5,30] ?_
   refine W.cond ⟨_,rfl,fun hb=>?_,fun hb=>?_⟩
   ·cases hb
   ·refine W.skip ?_
    refine jG ?_
    refine aC (KY k l h'.len h.len h'.zI h.zI) ?_
    rw [UP,if_neg (by omega)]
    simp (disch:=omega) [gw]
    refine bI [3,4,7] ?_
    refine W.dS (fun K hK=>?_)
    simp (disch:=omega) [gw]
    refine aC (gT _ (by omega) (!n)) ?_
    simp (disch:=omega) [gw]
    refine W.lw [4] hK ?_;clear hK K;simp
    refine W.ret ?_
    have e:iv n l+iv (!n) k=if (!n)=true then-(V 4294967296 k-V 4294967296 l)else V 4294967296 k-V 4294967296 l:=by cases n<;>simp [iv]<;>omega
    rw [e]
    simp [go]
  ·simp (disch:=omega) [gw,UP,dC]
   refine W.lw [2,3,4,5,6] hK ?_;clear hK K;simp
   refine aA [2,3,4,5,30] ?_
   refine W.cond ⟨_,rfl,fun hb=>?_,fun hb=>?_⟩
   ·refine jG ?_
    refine aC (gT _ (by omega) n) ?_
    simp (disch:=omega) [gw]
    refine bI [4] ?_
    refine W.ret ?_
    have e:iv n l+iv (!n) k=if n=true then-(V 4294967296 l-V 4294967296 k)else V 4294967296 l-V 4294967296 k:=by cases n<;>simp [iv]<;>omega
    rw [e]
    simp [go]
   ·cases hb
theorem PF(n m:Bool)(l k:List Int)(h:sY l)(h':sY k):aE env.P 248 [IV n l,IV m k] (I (iv n l-iv m k)):=by
 refine cB [(0,IV n l),(1,IV m k)] Tryz.func248 ?_
 have e:iv n l-iv m k=iv n l+iv (!m) k:=by cases m<;>simp [iv]<;>omega
 rw [e]
 refine aA [2,3,4] ?_
 refine aA [2,3,4] ?_
 refine aL [4] (EG n (!m) l k h h') ?_
 exact bZ
theorem EH(n:Int)(h1 : -9223372036854775808≤n)(h2:n<9223372036854775808):aE env.P 58 [.int .i64 n] (I n):=by
 refine cB [(0, .int .i64 n)] Tryz.func58 ?_
 refine aA [0,2] ?_
 refine W.sr ?_
 simp (disch:=omega) [gw,kI]
 refine bI [0,2,3] ?_
 refine W.iB (fun σ=>∃(w:Int) (rows:Pm.Rows) (clk:Nat),σ=⟨fa [(0, .int .i64 n),(2, .ptr 2 0 0 0),(3, .int .u64 w)],rows,clk⟩∧rows 2=some ⟨0,38,2,[[.bool false, .nil]]⟩∧w=n.natAbs∧0≤w∧w<18446744073709551616) ?_ ?_
 ·
  refine aA [0,2,3,7] ?_
  refine bH ?_ ?_<;>intro h
  ·simp at h
   refine W.bY (fun K hK=>?_)
   simp [kI]
   exact hK _ ⟨_,aB _ [0,2,3],_,_,_,rfl,by simp,by omega,by omega,by omega⟩
  ·simp at h
   refine W.skip ?_
   exact⟨_,aB _ [0,2,3],_,_,_,rfl,by simp,by omega,by omega,by omega⟩
 rintro _ ⟨w,rows,clk,rfl,hr,hw,hw0,hw1⟩
 refine W.sr ?_
 have e1:V 4294967296 [w%4294967296,w/4294967296%4294967296]=w:=by simp [V];omega
 have lm:c8 4294967296 [w%4294967296,w/4294967296%4294967296]:=by
  intro x hx;simp at hx;omega
 simp [wrap_u32',hr]
 refine aC (n9 [w%4294967296,w/4294967296%4294967296] (by simp) lm) ?_
 rw [e1]
 simp (disch:=omega) [gw,hr]
 refine aC (gT w hw0 (decide (n<0))) ?_
 simp (disch:=omega) [gw,hr]
 refine bI [2] ?_
 refine W.ret ?_
 have e:(if n<0 then -w else w)=n:=by split<;>omega
 rw [e]
 simp [go]
def ge(p:Bool × List Int):List PV:=[.bool p.1,us p.2]
def ie(x:Int):List PV:=[.bool (decide (x<0)),us (aR LL x.natAbs)]
@[simp] theorem aBj{p:Bool × List Int}:ge p = [.bool p.1,us p.2]:=rfl
@[simp] theorem aBk{x:Int}:ie x = [.bool (decide (x<0)),us (aR LL x.natAbs)]:=rfl
@[simp] theorem asY{l:List (Bool × List Int)}:bK 2 (emap ge l)=True:=cL fun _=>rfl
@[simp] theorem asZ{l:List Int}:bK 2 (emap ie l)=True:=cL fun _=>rfl
@[simp] theorem apR{v e n:Nat}{l:List Int}:c9 (some ⟨v,e,n,emap ie l⟩)=True:=b8 fun _=>rfl
@[simp] theorem apS{v e n:Nat}{l:List (Bool × List Int)}:c9 (some ⟨v,e,n,emap ge l⟩)=True:=b8 fun _=>rfl
theorem CA{α:Type}{g:α→List PV}{n:Nat}(hg:Enc g n){l:List α}{i:Nat}{x:α}:iO (emap g l) i 0 (g x)=emap g (l.set i x):=by
 simp only [iO,emap,List.map_set]
 by_cases h:i<l.length
 ·have:(g l[i]).length=n:=hg _
  have h2:(g x).length=n:=hg _
  simp [h,List.drop_of_length_le,this,h2]
 ·rw [List.set_eq_of_length_le (by simp;omega),List.set_eq_of_length_le (by simp;omega)]
@[simp] theorem awg{l:List Int}{i:Nat}{x:Int}:iO (emap ie l) i 0 [.bool (decide (x<0)),us (aR LL x.natAbs)]=emap ie (l.set i x):=CA (n:=2) (fun _=>rfl)
@[simp] theorem PG{α:Type}{g:α→List PV}{l k:List α}:emap g l++emap g k=emap g (l++k):=by simp [emap]
abbrev Po(l:List Int):PV:=aH ie l
abbrev Pg(l:List (Bool × List Int)):PV:=aH ge l
def gv(p:Bool × List Int):Int:=iv p.1 p.2
def uW(x:Int):Bool × List Int:=(decide (x<0),aR LL x.natAbs)
theorem i5(l:List Int):Po l=Pg (l.map uW):=by simp [aH,emap,uW]
theorem PH(x:Int):gv (uW x)=x:=by
 simp only [gv,uW,iv,lE gO]
 have:=lE gO x.natAbs
 simp only [show((LL:Nat):Int)=4294967296 from rfl]at this
 rw [this]
 by_cases h:x<0<;>simp [h]<;>omega
theorem cI(l:List Int):(l.map uW).map gv=l:=by simp [Function.comp_def,PH]
theorem sZ(k:Nat):bF (bF fun q p=>Wk p q) (emap ie (List.replicate k 0)) (List.replicate k [.bool false, .nil]):=by
 have:emap ie (List.replicate k 0)=List.replicate k (ie 0):=by simp [emap]
 rw [this]
 exact O3 ⟨.inl rfl, .inr ⟨rfl,rfl⟩,trivial⟩ k
structure rW(l:List (Bool × List Int)):Prop where
 ok:∀p∈l,sY p.2
 len:l.length<1099511627776
theorem rW.nth{l:List (Bool × List Int)}(h:rW l){i:Nat}(hi:i<l.length):sY (nth l i).2:=h.ok _ (bJ hi)
def Sz(x:Int):Prop:=sz LL x<1099511627776
theorem Sz.XZ{x:Int}(h:Sz x):sY (aR LL x.natAbs):=⟨fN gO _,h⟩
theorem rW.aiZ{l:List Int}(h:∀x∈l,Sz x)(hl:l.length<1099511627776):rW (l.map uW):=⟨fun p hp=>by
 simp only [List.mem_map]at hp
 obtain⟨x,hx,rfl⟩:=hp
 exact(h x hx).XZ,by simpa using hl⟩
theorem PK(n:Bool)(l:List Int):aE env.P 124 [IV n l] (.bool (decide (l.length=0))):=by
 refine cB [(0,IV n l)] Tryz.func124 ?_
 refine aA [1] ?_
 refine aA [2] ?_
 refine W.ret ?_
 simp [go]
 cases l<;>simp<;>omega
theorem xN(l:List Int)(hl:l.length<17592186044416):aE env.P 59 [Po l] (Po (aP l)):=by
 refine cB [(0,Po l)] Tryz.func59 ?_
 refine aA [0] ?_
 refine aA [0,3] ?_
 refine W.seq (W.block ?_)
 refine W.aY (fun k σ=>∃(rows:Pm.Rows) (clk:Nat),σ=⟨fa [(0,Po l),(3, .int .i64 (k:Int))],rows,clk⟩∧k≤l.length∧aP l=aP (l.take k)) l.length ?_ ?_
 ·exact⟨_, .refl,_,_,rfl,by omega,by simp⟩
 rintro k _ ⟨rows,clk,rfl,hk,hc⟩
 refine W.seq ?_
 refine W.eD (fun σ=>∃(b:Bool),σ=⟨fa [(0,Po l),(3, .int .i64 (k:Int)),(15, .bool b)],rows,clk⟩∧(b=true↔0<k∧nth l (k-1)=0)) (fun K hK=>?_) ?_
 ·simp
  by_cases h0:0<k
  ·simp (disch:=omega) [gw,h0]
   refine aC (PK _ (aR LL (nth l (k-1)).natAbs)) ?_
   simp (disch:=omega) [gw,h0]
   have e:(aR LL (nth l (k-1)).natAbs).length=0↔nth l (k-1)=0:=by
    rw [List.length_eq_zero_iff,eZ gO];omega
   refine hK _ _ (aB _ [0,3,15]) ⟨_,rfl,?_⟩
   simp [h0,←e]
  ·simp (disch:=omega) [gw,h0]
   exact hK _ _ (aB _ [0,3,15]) ⟨_,rfl,by simp [h0]⟩
 rintro _ ⟨b,rfl,hb⟩
 refine bH ?_ ?_<;>intro h
 ·obtain⟨h0,h1⟩:=hb.1 h
  refine W.skip (W.block ?_)
  refine W.bY (fun K hK=>?_)
  simp (disch:=omega) [gw]
  refine hK _ ⟨k-1,_,Gh.fr [(0,_),(3, .int .i64 ((k-1:Nat):Int))] (by simp;omega),by omega,_,_,rfl,by omega,?_⟩
  rw [hc,show k=(k-1)+1 by omega,bG (by omega),h1,kJ]
  simp
 ·have h2:aP l=l.take k:=by
   rw [hc]
   by_cases h0:0<k
   ·have h1:nth l (k-1)≠0:=fun h1=>by simp [hb.2 ⟨h0,h1⟩]at h
    rw [show k=(k-1)+1 by omega,bG (by omega)]
    exact jD h1 _
   ·have:k=0:=by omega
    subst this;simp [aP]
  refine eW ?_
  refine aA [2] ?_
  refine W.ret ?_
  simp [go,h2]
theorem gU(l:List (Bool × List Int))(h:rW l):aE env.P 64 [Pg l] (Po (aP (l.map gv))):=by
 refine cB [(0,Pg l)] Tryz.func64 ?_
 have hl:=h.len
 refine aA [0] ?_
 refine aA [0,3] ?_
 refine W.row (id:=8) (emap ie (List.replicate l.length 0)) (by simp;exact⟨rfl,rfl,rfl⟩) (sZ _) ?_
 refine aK [3,9,10,11] ?_
 refine W.block ?_
 refine W.aY (fun k σ=>∃(i:Nat) (z:List Int) (ver:Nat) (rows:Pm.Rows) (clk:Nat),σ=⟨fa [(3, .own 8 ver 0 l.length),(9,Pg l),(10, .int .i64 l.length),(11, .int .i64 i)],rows,clk⟩ ∧
  rows 8=some ⟨ver,38,2,emap ie z⟩∧k=l.length-i∧i≤l.length∧z.length=l.length∧z.take i=(l.take i).map gv) l.length ?_ ?_
 ·exact⟨_, .refl,0,List.replicate l.length 0,_,_,_,rfl,by simp,by omega,by omega,by simp,by simp⟩
 rintro k _ ⟨i,z,ver,rows,clk,rfl,hr,hk,hi,hz,hv⟩
 refine bT [3,9,10,11,12] ?_
 refine W.cond ⟨_,rfl,fun dC=>?_,fun dC=>?_⟩
 ·simp at dC
  refine j7 ?_
  refine W.sr ?_
  simp (disch:=omega) [gw,hr]
  refine bI [3,4,5,9,10,11] ?_
  refine W.bY (fun K hK=>?_)
  simp (disch:=omega) [gw,hr]
  refine aC (H8 _ _ (h.nth dC)) ?_
  simp (disch:=omega) [gw,hr]
  refine W.lw [3,9,10,11] hK ?_;clear hK K;simp
  refine W.bY (fun K hK=>?_)
  simp (disch:=omega) [gw]
  refine hK _ ⟨l.length-(i+1),_,aB _ [3,9,10,11],by omega,i+1,z.set i (iv (nth l i).1 (nth l i).2),ver,_,_,rfl,by simp,by omega,by omega,by simpa using hz,?_⟩
  rw [mW hv (by omega),pL dC];rfl
 ·simp at dC
  have lW:i=l.length:=by omega
  subst lW
  refine eW ?_
  rw [bM hz]at hv
  have vU:=bM hz
  refine W.sr ?_
  simp (disch:=omega) [gw,hr,vU]
  refine aC (xN z (by omega)) ?_
  simp (disch:=omega) [gw]
  refine bI [2] ?_
  refine W.ret ?_
  simp at hv
  simp [go,hv]
theorem KZ(l:List (Bool × List Int))(k:Nat)(hl:l.length<1099511627776)(hk:k<9223372036854775808):aE env.P 243 [Pg l, .int .i64 k] (.ag (ge (nth l k))):=by
 refine cB [(0,Pg l),(1, .int .i64 k)] Tryz.func243 ?_
 refine aA [0,1,4] ?_
 refine aK [0,1,4,8] ?_
 refine bH ?_ ?_<;>intro h
 ·simp at h
  refine aA [4] ?_
  exact bZ
 ·simp at h
  refine W.skip ?_
  refine aA [4] ?_
  refine W.ret ?_
  rw [i0 h]
  simp [go]
  exact⟨rfl,rfl⟩
theorem s5(g:FuncId)(hw:KW g=false)(caps:List PV)(hc:caps.all dI=true)(n:Nat)(hn:n<1099511627776)(val:Nat→Int)(hg:∀k,k<n→aE env.P g (.int .i64 (k:Int)::caps) (I (val k)))(hm:xL g=false:=by rfl) :
  aE env.P 163 [.int .i64 n, .fn g caps] (Po (aP ((List.range n).map val))):=by
 refine cB [(0, .int .i64 n),(1, .fn g caps)] Tryz.func163 ?_
 refine aA [0,1] ?_
 refine aA [1,5] ?_
 refine W.row (id:=8) (emap ie (List.replicate n 0)) (by simp;exact⟨rfl,rfl,rfl⟩) (sZ _) ?_
 refine aK [1,5,10,11] ?_
 refine W.block ?_
 refine W.aY (fun k σ=>∃(i:Nat) (z:List Int) (ver:Nat) (rows:Pm.Rows) (clk:Nat),σ=⟨fa [(1, .fn g caps),(5, .own 8 ver 0 n),(10, .int .i64 n),(11, .int .i64 i)],rows,clk⟩ ∧
  rows 8=some ⟨ver,38,2,emap ie z⟩∧k=n-i∧i≤n∧z.length=n∧z.take i=(List.range i).map val) n ?_ ?_
 ·exact⟨_, .refl,0,List.replicate n 0,_,_,_,rfl,by simp,by omega,by omega,by simp,by simp⟩
 rintro k _ ⟨i,z,ver,rows,clk,rfl,hr,hk,hi,hz,hv⟩
 refine bT [1,5,10,11,12] ?_
 refine bH ?_ ?_<;>intro h
 ·simp at h
  refine j7 ?_
  refine aA [1,5,6,10,11] ?_
  refine W.bY (fun K hK=>?_)
  simp (disch:=omega) [gw,hr, -KW,hw, -xL,hm]
  refine aC (hg i h) ?_
  simp (disch:=omega) [gw,hr]
  refine W.lw [1,5,10,11] hK ?_;clear hK K;simp
  refine W.bY (fun K hK=>?_)
  simp (disch:=omega) [gw]
  refine hK _ ⟨n-(i+1),_,aB _ [1,5,10,11],by omega,i+1,z.set i (val i),ver,_,_,rfl,by simp,by omega,by omega,by simpa using hz,?_⟩
  rw [mW hv (by omega),List.range_succ];simp
 ·simp at h
  have lW:i=n:=by omega
  subst lW
  refine eW ?_
  rw [bM hz]at hv
  have vU:=bM hz
  refine W.sr ?_
  simp (disch:=omega) [gw,hr,vU]
  refine aC (xN z (by omega)) ?_
  simp (disch:=omega) [gw]
  refine bI [4] ?_
  refine W.ret ?_
  simp [go,hv]
end Go.Proofs.YtiobceocpabjdaaGreat
