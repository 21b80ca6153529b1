import Derived.KernelRfl
import Derived.Test.YtiobceocpabjdaaGreatZad
import Derived.Test.YtiobceocpabjdaaGreatZae
import Derived.Test.YtiobceocpabjdaaGreatZaf
set_option linter.unusedSimpArgs false
set_option linter.unusedVariables false
namespace Go.Proofs.YtiobceocpabjdaaGreat
open Go Pm
theorem cD{yM:FuncId}{fn:Func}{code:Code}{args:List PV}{r:PV}(l:List (Nat × PV))(h1:env.P.funcs[yM]? = some fn)(h:W env fn.ntmps (fun _=>0) code (aa8 env fn.results.toList r) ⟨fa l,fun _=>none,0⟩)(h2:fn.body=some code:=by rfl) (h3:(fn.name == "runtime.NumGoroutine") = false:=by kernel_rfl) (gO:eV env fn.ntmps (fun _=>0) code=true:=by kernel_rfl) (eQ:args.length≤fn.ntmps:=by exact of_decide_eq_true (by kernel_rfl)) (hl:∀p∈l,args.getD p.1 .undef=p.2:=by simp):aF env.P yM args r:=
  cZ (fun _=>0) l h1 h2 h3 gO eQ hl h
def u32(n:Int):List PV:=[.int .u32 n]
@[simp] theorem avS{n:Int}:u32 n = [.int .u32 n]:=rfl
theorem ags:Enc u32 1:=fun _=>rfl
theorem acg:aqY u32:=fun _=>rfl
@[simp] theorem am0{l:List Int}:bH 1 (emap u32 l)=True:=cH ags
@[simp] theorem ajB{v e n:Nat}{l:List Int}:cW (some ⟨v,e,n,emap u32 l⟩)=True:=bU acg
@[simp] theorem avT{n:Nat}:List.replicate n [PV.int .u32 0]=emap u32 (List.replicate n 0):=by simp [emap]
@[simp] theorem apR{l:List Int}{i:Nat}{x:Int}:gZ (emap u32 l) i 0 [.int .u32 x]=emap u32 (l.set i x):=by
 simp only [gZ,emap,List.map_set]
 by_cases h:i<l.length
 ·simp [h]
 ·rw [List.set_eq_of_length_le (by simp;omega),List.set_eq_of_length_le (by simp;omega)]
@[simp] theorem atc{α:Type}{g:α→List PV}{l:List α}:(emap g l).length=l.length:=by simp [emap]
abbrev us(l:List Int):PV:=aN u32 l
abbrev LL:Nat:=4294967296
abbrev N(x:Int):PV:=us (aU LL x.toNat)
theorem gF:2≤LL:=by decide
theorem vN{l:List Int}(h:cX 4294967296 l):us (aQ l)=N (V 4294967296 l):=by rw [rD gF h];rfl
theorem dK(l:List Int)(hl:l.length<17592186044416):aF env.P 208 [us l] (us (aQ l)):=by
 refine cD [(0,us l)] Tryz.func208 ?_
 refine aA [0] ?_
 refine aA [0,3] ?_
 refine W.seq (W.block ?_)
 refine W.bE (fun k σ=>∃(rows:Pm.Rows) (clk:Nat),σ=⟨fa [(0,us l),(3, .int .i64 (k:Int))],rows,clk⟩∧k≤l.length∧aQ l=aQ (l.take k)) l.length ?_ ?_
 ·exact⟨_, .refl,_,_,rfl,by omega,by simp⟩
 rintro k _ ⟨rows,clk,rfl,hk,hc⟩
 refine W.seq ?_
 refine W.fA (fun σ=>∃(b:Bool),σ=⟨fa [(0,us l),(3, .int .i64 (k:Int)),(15, .bool b)],rows,clk⟩∧(b=true↔0<k∧nth l (k-1)=0)) (fun K hK=>?_) ?_
 ·simp
  by_cases h0:0<k
  ·simp (disch:=omega) [gw,h0]
   exact hK _ _ (aB _ [0,3,15]) ⟨_,rfl,by simp [h0]⟩
  ·simp (disch:=omega) [gw,h0]
   exact hK _ _ (aB _ [0,3,15]) ⟨_,rfl,by simp [h0]⟩
 rintro _ ⟨b,rfl,hb⟩
 refine bJ ?_ ?_<;>intro h
 ·obtain⟨h0,h1⟩:=hb.1 h
  refine W.skip (W.block ?_)
  refine W.cA (fun K hK=>?_)
  simp (disch:=omega) [gw]
  refine hK _ ⟨k-1,_,Gh.fr [(0,_),(3, .int .i64 ((k-1:Nat):Int))] (by simp;omega),by omega,_,_,rfl,by omega,?_⟩
  rw [hc,show k=(k-1)+1 by omega,bF (by omega),h1,jW]
  simp
 ·have h2:aQ l=l.take k:=by
   rw [hc]
   by_cases h0:0<k
   ·have h1:nth l (k-1)≠0:=fun h1=>by simp [hb.2 ⟨h0,h1⟩]at h
    rw [show k=(k-1)+1 by omega,bF (by omega)]
    exact jH h1 _
   ·have:k=0:=by omega
    subst this;simp [aQ]
  refine fH ?_
  refine aA [2] ?_
  refine W.ret ?_
  simp [h2]
theorem nB(l:List Int)(hl:l.length<1099511627776)(hm:cX 4294967296 l):aF env.P 123 [us l] (N (V 4294967296 l)):=by
 rw [←vN hm]
 refine cD [(0,us l)] Tryz.func123 ?_
 refine aA [0] ?_
 refine W.sr ?_
 simp
 refine aC (dK l (by omega)) ?_
 have:=bX l
 simp (disch:=omega) [gw]
 refine bG [2] ?_
 refine W.ret ?_
 simp
theorem UK(a b:List Int)(ha:a.length<1099511627776)(hb:b.length<1099511627776)(la:cX 4294967296 a)(lb:cX 4294967296 b):aF env.P 133 [us a,us b] (N (V 4294967296 a+V 4294967296 b)):=by
 refine cD [(0,us a),(1,us b)] Tryz.func133 ?_
 refine aA [0,1] ?_
 refine W.sr ?_
 simp
 refine aC (dK a (by omega)) ?_
 simp
 refine aC (dK b (by omega)) ?_
 simp
 refine bG [0,1] ?_
 refine W.iE (fun σ=>∃(x y:List Int) (rows:Pm.Rows) (clk:Nat),σ=⟨fa [(0,us x),(1,us y)],rows,clk⟩∧cX 4294967296 x∧cX 4294967296 y∧y.length≤x.length∧x.length<1099511627776 ∧
  V 4294967296 a+V 4294967296 b=V 4294967296 x+V 4294967296 y) ?_ ?_
 ·have h1:=bX a
  have h2:=bX b
  refine aA [0,1,18] ?_
  refine bJ ?_ ?_<;>intro h
  ·simp at h
   refine W.cA (fun K hK=>?_)
   simp (disch:=omega) [gw]
   exact hK _ ⟨_,aB _ [0,1],_,_,_,_,rfl,eG lb,eG la,by omega,by omega,by simp [c8];omega⟩
  ·simp at h
   refine W.skip ?_
   exact⟨_,aB _ [0,1],_,_,_,_,rfl,eG la,eG lb,by omega,by omega,by simp [c8]⟩
 rintro _ ⟨x,y,rows,clk,rfl,lx,ly,r8,hx,hV⟩
 rw [hV]
 clear hV la lb ha hb a b
 refine aA [0,1,5] ?_
 refine aA [0,1,5,6] ?_
 refine aP [0,1,5,6,25,26,27] ?_
 refine W.block ?_
 refine W.bE (fun k σ=>∃(i:Nat) (c:Int) (z:List Int) (ver:Nat) (rows:Pm.Rows) (clk:Nat),σ=⟨fa [(0,us x),(1,us y),(5, .own 24 ver 0 (x.length+1)),(6, .int .u64 c),(25,us x),(26, .int .i64 x.length),(27, .int .i64 i)],rows,clk⟩ ∧
   rows 24=some ⟨ver,185,1,emap u32 z⟩∧k=x.length-i∧i≤x.length∧z.length=x.length+1∧cX 4294967296 z∧0≤c∧c≤1 ∧
   V 4294967296 (z.take i)+4294967296^i*c=V 4294967296 (x.take i)+V 4294967296 (y.take i)) x.length ?_ ?_
 ·exact⟨_, .refl,0,0,List.replicate (x.length+1) 0,_,_,_,rfl,by simp,by omega,by omega,by simp,cX.rep (by decide) _,by omega,by omega,by simp [V]⟩
 rintro k _ ⟨i,c,z,ver,rows,clk,rfl,hr,hk,hi,hz,lz,xI,uW,hV⟩
 refine bV [0,1,5,6,25,26,27,28] ?_
 refine bJ ?_ ?_<;>intro h
 ·simp at h
  have hxi:=lx.nth h
  refine kY ?_
  refine aA [0,1,5,6,7,8,25,26,27] ?_
  refine aA [0,1,5,7,9,25,26,27] ?_
  refine W.iE (fun σ=>∃(s:Int),σ=⟨fa [(0,us x),(1,us y),(5, .own 24 ver 0 (x.length+1)),(7, .int .i64 i),(9, .int .u64 s),(25,us x),(26, .int .i64 x.length),(27, .int .i64 i)],rows,clk⟩∧0≤s∧s<8589934592 ∧
   V 4294967296 (x.take (i+1))+V 4294967296 (y.take (i+1))=V 4294967296 (z.take i)+4294967296^i*s) ?_ ?_
  ·
   refine aA [0,1,5,7,9,25,26,27,39] ?_
   refine bJ ?_ ?_<;>intro h
   ·simp at h
    have W7:=ly.nth h
    refine W.cA (fun K hK=>?_)
    simp (disch:=omega) [gw]
    refine hK _ ⟨_,aB _ [0,1,5,7,9,25,26,27],_,rfl,by omega,by omega,?_⟩
    rw [aV (by omega),aV (by omega)]
    grind
   ·simp at h
    refine W.skip ?_
    refine⟨_,aB _ [0,1,5,7,9,25,26,27],_,rfl,by omega,by omega,?_⟩
    rw [aV (by omega),a9 (l:=y) (by omega)]
    rw [a9 (l:=y) (by omega)]at hV
    grind
  rintro _ ⟨s,rfl,UL,vO,Q8⟩
  refine W.cA (fun K hK=>?_)
  simp (disch:=omega) [gw,hr,wrap_u32']
  refine W.lw [0,1,5,6,25,26,27] hK ?_;clear hK K;simp
  refine W.cA (fun K hK=>?_)
  simp (disch:=omega) [gw]
  refine hK _ ⟨x.length-(i+1),_,aB _ [0,1,5,6,25,26,27],by omega,i+1,s/4294967296,z.set i (s%4294967296),ver,_,_,rfl,by simp,by omega,by omega,by simpa using hz,lz.set (by omega),by omega,by omega,?_⟩
  rw [fC (by omega),Q8,Int.pow_succ]
  have:=Int.emod_add_mul_ediv s 4294967296
  grind
 ·simp at h
  have lV:i=x.length:=by omega
  subst lV
  refine fH ?_
  refine W.sr ?_
  simp (disch:=omega) [gw,hr]
  refine bG [5] ?_
  have tZ:List.take (x.length+1) (z.set x.length c)=z.set x.length c:=List.take_of_length_le (by simp;omega)
  refine W.sr ?_
  simp (disch:=omega) [gw,tZ]
  refine aC (dK (z.set x.length c) (by simp;omega)) ?_
  simp (disch:=omega) [gw]
  refine bG [4] ?_
  refine W.ret ?_
  have e:V 4294967296 (z.set x.length c)=V 4294967296 x+V 4294967296 y:=by
   rw [←a9 (l:=z.set x.length c) (i:=x.length+1) (by simp;omega),fC (by omega),hV,a9 (l:=y) (by omega)]
   simp
  rw [←e,vN (lz.set (by omega))]
  simp
theorem IH(a b:List Int)(ha:a.length<1099511627776)(hb:b.length<1099511627776)(la:cX 4294967296 a)(lb:cX 4294967296 b):aF env.P 212 [us a,us b] (.int .i64 (dH (V 4294967296 a) (V 4294967296 b))):=by
 refine cD [(0,us a),(1,us b)] Tryz.func212 ?_
 refine aA [0,1] ?_
 refine W.sr ?_
 simp
 refine aC (dK a (by omega)) ?_
 simp
 refine aC (dK b (by omega)) ?_
 simp
 refine bG [0,1] ?_
 have cx:=eI a;have lx:=eG la;have hx:=bX a
 have cy:=eI b;have ly:=eG lb;have hy:=bX b
 rw [←c8 a,←c8 b]
 generalize aQ a=x at *
 generalize aQ b=y at *
 refine aP [0,1,14] ?_
 refine bJ ?_ ?_<;>intro h
 ·simp at h
  refine aP [19] ?_
  refine bJ ?_ ?_<;>intro h
  ·simp at h
   refine aA [4] ?_
   refine W.ret ?_
   simp [mJ (jY (by decide) lx ly cy h)]
  ·simp at h
   refine W.skip ?_
   refine aA [4] ?_
   refine W.ret ?_
   simp [mK (jY (by decide) ly lx cx (by omega))]
 ·simp at h
  have hlen:x.length=y.length:=by omega
  clear h
  refine W.skip ?_
  refine aP [0,1,5] ?_
  refine W.block ?_
  refine W.bE (fun k σ=>∃(rows:Pm.Rows) (clk:Nat),σ=⟨fa [(0,us x),(1,us y),(5, .int .i64 ((k:Int)-1))],rows,clk⟩∧k≤x.length∧x.drop k=y.drop k) x.length ?_ ?_
  ·exact⟨_, .refl,_,_,rfl,by omega,by rw [List.drop_of_length_le (by omega),List.drop_of_length_le (by omega)]⟩
  rintro k _ ⟨rows,clk,rfl,hk,hd⟩
  refine aP [0,1,5,24] ?_
  refine bJ ?_ ?_<;>intro h
  ·have h0:0<k:=by simp at h;omega
   obtain⟨j,rfl⟩:∃j,k=j+1:=⟨k-1,by omega⟩
   clear h
   refine kY ?_
   refine W.seq ?_
   refine nK ?_
   refine bG [0,1,5,35] ?_
   refine bJ ?_ ?_<;>intro h
   ·simp at h
    refine aA [4] ?_
    refine W.ret ?_
    simp [mJ (nW (by decide) lx ly hlen (by omega) hd h)]
   ·simp at h
    refine W.skip ?_
    refine nK ?_
    refine bG [0,1,5,44] ?_
    refine W.cond ⟨_,rfl,fun h2=>?_,fun h2=>?_⟩
    ·simp at h2
     refine aA [4] ?_
     refine W.ret ?_
     simp [mK (nW (by decide) ly lx hlen.symm (by omega) hd.symm h2)]
    ·simp at h2
     refine W.skip ?_
     refine W.cA (fun K hK=>?_)
     simp (disch:=omega) [gw]
     refine hK _ ⟨j,_,aB _ [0,1,5],by omega,_,_,rfl,by omega,?_⟩
     rw [fB (l:=x) (i:=j) (by omega),fB (l:=y) (i:=j) (by omega),hd,show nth x j=nth y j by omega]
  ·have h0:k=0:=by simp at h;omega
   subst h0
   simp at hd
   subst hd
   refine fH ?_
   refine aA [4] ?_
   refine W.ret ?_
   simp [z6]
def Q9(x y:Int):PV:=if x<y then .dU [us [], .bool false]else .dU [N (x-y), .bool true]
theorem II(a b:List Int)(ha:a.length<1099511627776)(hb:b.length<1099511627776)(la:cX 4294967296 a)(lb:cX 4294967296 b):aF env.P 134 [us a,us b] (Q9 (V 4294967296 a) (V 4294967296 b)):=by
 refine cD [(0,us a),(1,us b)] Tryz.func134 ?_
 refine aA [0,1] ?_
 refine W.sr ?_
 simp
 refine aC (dK a (by omega)) ?_
 simp
 refine aC (dK b (by omega)) ?_
 simp
 refine bG [0,1] ?_
 have cx:=eI a;have lx:=eG la;have hx:=bX a
 have cy:=eI b;have ly:=eG lb;have hy:=bX b
 rw [←c8 a,←c8 b]
 generalize aQ a=x at *
 generalize aQ b=y at *
 refine W.seq ?_
 refine W.sr ?_
 simp
 refine aC (IH x y (by omega) (by omega) lx ly) ?_
 simp (disch:=omega) [gw]
 refine bG [0,1,18] ?_
 refine bJ ?_ ?_<;>intro h
 ·have h:V 4294967296 x<V 4294967296 y:=mZ.1 (by simpa using h)
  refine aA [4,5] ?_
  refine W.ret ?_
  simp [Q9,h]
  rfl
 ·have h:V 4294967296 y≤V 4294967296 x:=rE.1 (by simpa using h)
  have hyx:y.length≤x.length:=by
   rcases Nat.lt_or_ge x.length y.length with h2 | h2
   ·have:=jY (by decide) lx ly cy h2;omega
   ·exact h2
  refine W.skip ?_
  refine aA [0,1,6] ?_
  refine aA [0,1,6,7] ?_
  refine aP [1,6,7,22,23,24] ?_
  refine W.block ?_
  refine W.bE (fun k σ=>∃(i:Nat) (c:Int) (z:List Int) (ver:Nat) (rows:Pm.Rows) (clk:Nat),σ=⟨fa [(1,us y),(6, .own 21 ver 0 x.length),(7, .int .u64 c),(22,us x),(23, .int .i64 x.length),(24, .int .i64 i)],rows,clk⟩ ∧
   rows 21=some ⟨ver,185,1,emap u32 z⟩∧k=x.length-i∧i≤x.length∧z.length=x.length∧cX 4294967296 z∧0≤c∧c≤1 ∧
   V 4294967296 (z.take i)-4294967296^i*c=V 4294967296 (x.take i)-V 4294967296 (y.take i)) x.length ?_ ?_
  ·exact⟨_, .refl,0,0,List.replicate x.length 0,_,_,_,rfl,by simp,by omega,by omega,by simp,cX.rep (by decide) _,by omega,by omega,by simp [V]⟩
  rintro k _ ⟨i,c,z,ver,rows,clk,rfl,hr,hk,hi,hz,lz,xI,uW,hV⟩
  refine bV [1,6,7,22,23,24,25] ?_
  refine bJ ?_ ?_<;>intro h
  ·simp at h
   have hxi:=lx.nth h
   refine kY ?_
   refine aA [1,6,7,8,9,22,23,24] ?_
   refine W.sr ?_
   simp (disch:=omega) [gA,wrap_u64 hxi.1]
   refine bG [1,6,8,10,22,23,24] ?_
   refine W.iE (fun σ=>∃(d:Int),σ=⟨fa [(1,us y),(6, .own 21 ver 0 x.length),(8, .int .i64 i),(10, .int .u64 (IntKind.u64.wrap d)),(22,us x),(23, .int .i64 x.length),(24, .int .i64 i)],rows,clk⟩ ∧ -4294967296≤d∧d<4294967296 ∧
    V 4294967296 (x.take (i+1))-V 4294967296 (y.take (i+1))=V 4294967296 (z.take i)+4294967296^i*d) ?_ ?_
   ·
    refine aA [1,6,8,10,22,23,24,36] ?_
    refine bJ ?_ ?_<;>intro h
    ·simp at h
     have W7:=ly.nth h
     refine W.cA (fun K hK=>?_)
     simp (disch:=omega) [gA,wrap_u64 W7.1]
     refine hK _ ⟨_,aB _ [1,6,8,10,22,23,24],nth x i-c-nth y i,?_,by omega,by omega,?_⟩
     ·have:IntKind.u64.wrap (IntKind.u64.wrap (nth x i-c)-nth y i)=IntKind.u64.wrap (nth x i-c-nth y i):=by
       simp only [jV];omega
      simp [this]
     rw [aV (by omega),aV (by omega)]
     grind
    ·simp at h
     refine W.skip ?_
     refine⟨_,aB _ [1,6,8,10,22,23,24],_,rfl,by omega,by omega,?_⟩
     rw [aV (by omega),a9 (l:=y) (by omega)]
     rw [a9 (l:=y) (by omega)]at hV
     grind
   rintro _ ⟨d,rfl,UL,vO,Q8⟩
   refine W.cA (fun K hK=>?_)
   simp (disch:=omega) [gw,hr,wrap_u32']
   refine W.lw [1,6,7,22,23,24] hK ?_;clear hK K;simp
   refine W.cA (fun K hK=>?_)
   simp (disch:=omega) [gw]
   have e1:d=IntKind.u64.wrap d%4294967296-4294967296*(IntKind.u64.wrap d/9223372036854775808)∧0≤IntKind.u64.wrap d/9223372036854775808∧IntKind.u64.wrap d/9223372036854775808≤1:=by
    rw [jV];omega
   generalize IntKind.u64.wrap d=s at *
   refine hK _ ⟨x.length-(i+1),_,aB _ [1,6,7,22,23,24],by omega,i+1,s/9223372036854775808,z.set i (s%4294967296),ver,_,_,rfl,by simp,by omega,by omega,by simpa using hz,lz.set (by omega),by omega,by omega,?_⟩
   rw [fC (by omega),Q8,Int.pow_succ]
   grind
  ·simp at h
   have lV:i=x.length:=by omega
   subst lV
   refine fH ?_
   have tZ:z.take x.length=z:=List.take_of_length_le (by omega)
   have e:V 4294967296 z=V 4294967296 x-V 4294967296 y:=by
    rw [tZ,a9 (Nat.le_refl _),a9 (l:=y) (by omega)]at hV
    have h1:=oY (by decide) lz
    rw [hz]at h1
    have:c=0:=by
     rcases Int.lt_or_le c 1 with h2 | h2
     ·omega
     ·have h3:c=1:=by omega
      subst h3;omega
    subst this;omega
   refine W.sr ?_
   simp (disch:=omega) [gw,hr,tZ]
   refine aC (dK z (by omega)) ?_
   simp (disch:=omega) [gw]
   refine bG [4,5] ?_
   refine W.ret ?_
   rw [Q9,if_neg (by omega),←e,←vN lz]
   simp
theorem agt{a b:Int}(ha:0≤a∧a<4294967296)(hb:0≤b∧b<4294967296):0≤a*b∧a*b≤18446744065119617025:=by
 refine⟨Int.mul_nonneg ha.1 hb.1,?_⟩
 have:=Int.mul_le_mul (show a≤4294967295 by omega) (show b≤4294967295 by omega) hb.1 (by decide)
 simpa using this
theorem agu(a b:List Int)(ha:a.length<1099511627776)(hb:b.length<1099511627776)(la:cX 4294967296 a)(lb:cX 4294967296 b):aF env.P 135 [us a,us b] (N (V 4294967296 a*V 4294967296 b)):=by
 refine cD [(0,us a),(1,us b)] Tryz.func135 ?_
 refine aA [0,1] ?_
 refine W.sr ?_
 simp
 refine aC (dK a (by omega)) ?_
 simp
 refine aC (dK b (by omega)) ?_
 simp
 refine bG [0,1] ?_
 have lx:=eG la;have hx:=bX a
 have ly:=eG lb;have hy:=bX b
 rw [←c8 a,←c8 b]
 generalize aQ a=x at *
 generalize aQ b=y at *
 refine aA [0,1,5] ?_
 refine aP [1,5,22,23,24] ?_
 refine W.block ?_
 refine W.bE (fun k σ=>∃(i:Nat) (z:List Int) (ver:Nat) (rows:Pm.Rows) (clk:Nat),σ=⟨fa [(1,us y),(5, .own 21 ver 0 (x.length+y.length)),(22,us x),(23, .int .i64 x.length),(24, .int .i64 i)],rows,clk⟩ ∧
   rows 21=some ⟨ver,185,1,emap u32 z⟩∧k=x.length-i∧i≤x.length∧z.length=x.length+y.length∧cX 4294967296 z∧(∀j,i+y.length≤j→nth z j=0) ∧
   V 4294967296 z=V 4294967296 (x.take i)*V 4294967296 y) x.length ?_ ?_
 ·have e:((x.length:Int)+(y.length:Int)).toNat=x.length+y.length:=by omega
  refine⟨_, .refl,0,List.replicate (x.length+y.length) 0,_,_,_,rfl,by simp [e],by omega,by omega,by simp,cX.rep (by decide) _,fun j _=>?_,by simp [V,qB]⟩
  unfold nth
  cases h:(List.replicate (x.length+y.length) (0:Int))[j]? with
  | none=>rfl
  | some v=>have:=List.mem_of_getElem? h;simp at this;simp [this]
 rintro k _ ⟨i,z,ver,rows,clk,rfl,hr,hk,hi,hz,lz,nT,hV⟩
 refine bV [1,5,22,23,24,25] ?_
 refine bJ ?_ ?_<;>intro h
 ·simp at h
  have hxi:=lx.nth h
  refine W.skip ?_
  refine W.eN (fun σ=>∃(z:List Int) (ver:Nat) (rows:Pm.Rows) (clk:Nat),σ=⟨fa [(1,us y),(5, .own 21 ver 0 (x.length+y.length)),(22,us x),(23, .int .i64 x.length),(24, .int .i64 i)],rows,clk⟩ ∧
   rows 21=some ⟨ver,185,1,emap u32 z⟩∧z.length=x.length+y.length∧cX 4294967296 z∧(∀j,i+1+y.length≤j→nth z j=0) ∧
   V 4294967296 z=V 4294967296 (x.take (i+1))*V 4294967296 y) ?_ ?_
  ·
   refine aA [1,5,6,7,22,23,24] ?_
   refine aA [1,5,6,7,8,22,23,24] ?_
   refine aP [1,5,6,7,8,22,23,24,29,30,31] ?_
   refine W.block ?_
   refine W.bE (fun m σ=>∃(k:Nat) (c:Int) (z:List Int) (ver:Nat) (rows:Pm.Rows) (clk:Nat),σ=⟨fa [(1,us y),(5, .own 21 ver 0 (x.length+y.length)),(6, .int .i64 i),(7, .int .u32 (nth x i)),(8, .int .u64 c),(22,us x),(23, .int .i64 x.length),(24, .int .i64 i),(29,us y),(30, .int .i64 y.length),(31, .int .i64 k)],rows,clk⟩ ∧
    rows 21=some ⟨ver,185,1,emap u32 z⟩∧m=y.length-k∧k≤y.length∧z.length=x.length+y.length∧cX 4294967296 z∧(∀j,i+y.length≤j→nth z j=0)∧0≤c∧c<4294967296 ∧
    V 4294967296 z+4294967296^(i+k)*c=V 4294967296 (x.take i)*V 4294967296 y+4294967296^i*nth x i*V 4294967296 (y.take k)) y.length ?_ ?_
   ·exact⟨_, .refl,0,0,z,ver,_,_,rfl,by simpa using hr,by omega,by omega,hz,lz,nT,by omega,by omega,by simp [V,hV]⟩
   clear hV nT lz hz hr z ver rows clk
   rintro m _ ⟨k,c,z,ver,rows,clk,rfl,hr,hm,hky,hz,lz,nT,xI,uW,hV⟩
   refine bV [1,5,6,7,8,22,23,24,29,30,31,32] ?_
   refine W.cond ⟨_,rfl,fun h2=>?_,fun h2=>?_⟩
   ·simp at h2
    have hyk:=ly.nth h2
    have hzk:=lz.nth (i:=i+k) (by omega)
    have hp:=agt hxi hyk
    refine kY ?_
    refine aA [1,5,6,7,8,9,10,22,23,24,29,30,31] ?_
    have e0:((i:Int)+(k:Int)).toNat=i+k:=by omega
    refine W.sr ?_
    simp (disch:=omega) [gw,hr,e0]
    refine bG [1,5,6,7,9,11,22,23,24,29,30,31] ?_
    refine W.cA (fun K hK=>?_)
    simp (disch:=omega) [gw,hr,e0,wrap_u32']
    refine W.lw [1,5,6,7,8,22,23,24,29,30,31] hK ?_;clear hK K;simp
    refine W.cA (fun K hK=>?_)
    simp (disch:=omega) [gw]
    have e1:=Int.emod_add_mul_ediv (nth x i*nth y k+nth z (i+k)+c) 4294967296
    have hs:0≤nth x i*nth y k+nth z (i+k)+c∧nth x i*nth y k+nth z (i+k)+c<18446744073709551616:=by omega
    have Q8:=FT (b:=4294967296) (l:=z) (i:=i+k) (x:=(nth x i*nth y k+nth z (i+k)+c)%4294967296) (by omega)
    refine hK _ ⟨y.length-(k+1),_,aB _ [1,5,6,7,8,22,23,24,29,30,31],by omega,k+1,_,z.set (i+k) ((nth x i*nth y k+nth z (i+k)+c)%4294967296),ver,_,_,rfl,by simp,by omega,by omega,by simpa using hz,lz.set (by omega),fun j hj=>?_,by omega,by omega,?_⟩
    ·rw [gT (by omega)];exact nT j hj
    ·rw [Q8,aV h2,show i+(k+1)=(i+k)+1 by omega,Int.pow_succ,Int.pow_add]
     rw [Int.pow_add]at hV
     grind
   ·simp at h2
    have wX:k=y.length:=by omega
    subst wX
    refine fH ?_
    refine aA [1,5,6,8,22,23,24,63] ?_
    refine W.cond ⟨_,rfl,fun h3=>?_,fun h3=>?_⟩
    ·simp at h3
     have e0:((i:Int)+(y.length:Int)).toNat=i+y.length:=by omega
     refine W.cA (fun K hK=>?_)
     simp (disch:=omega) [gw,hr,e0]
     have Q8:=FT (b:=4294967296) (l:=z) (i:=i+y.length) (x:=c) (by omega)
     refine hK _ ⟨_,aB _ [1,5,22,23,24],z.set (i+y.length) c,ver,_,_,rfl,by simp,by simpa using hz,lz.set (by omega),fun j hj=>?_,?_⟩
     ·rw [gT (by omega)];exact nT j (by omega)
     ·rw [Q8,aV h,nT _ (Nat.le_refl _)]
      rw [a9 (Nat.le_refl _)]at hV
      grind
    ·simp at h3
     refine W.skip ?_
     refine⟨_,aB _ [1,5,22,23,24],z,ver,_,_,rfl,hr,hz,lz,fun j hj=>nT j (by omega),?_⟩
     subst h3
     simp only [V,List.take_nil,Int.mul_zero,Int.add_zero,List.length_nil]at hV ⊢
     have h4:=bL (by decide) lz
     have h5:0≤(4294967296:Int)^i*c:=Int.mul_nonneg (Int.le_of_lt (Int.pow_pos (by decide))) xI
     simp only [Nat.add_zero]at hV
     omega
  clear hV nT lz hz hr z ver rows clk
  rintro _ ⟨z,ver,rows,clk,rfl,hr,hz,lz,nT,hV⟩
  refine W.cA (fun K hK=>?_)
  simp (disch:=omega) [gw]
  exact hK _ ⟨x.length-(i+1),_,aB _ [1,5,22,23,24],by omega,i+1,z,ver,_,_,rfl,hr,by omega,by omega,hz,lz,nT,hV⟩
 ·simp at h
  have lV:i=x.length:=by omega
  subst lV
  have tZ:List.take (x.length+y.length) z=z:=List.take_of_length_le (by omega)
  refine fH ?_
  refine W.sr ?_
  simp (disch:=omega) [gw,hr,tZ]
  refine aC (dK z (by omega)) ?_
  simp (disch:=omega) [gw]
  refine bG [4] ?_
  refine W.ret ?_
  rw [a9 (Nat.le_refl _)]at hV
  rw [←hV,←vN lz]
  simp
abbrev IV(neg:Bool)(l:List Int):PV:=.ag [.bool neg,us l]
def iv(neg:Bool)(l:List Int):Int:=if neg=true then-V 4294967296 l else V 4294967296 l
abbrev I(x:Int):PV:=IV (decide (x<0)) (aU LL x.natAbs)
structure sH(l:List Int):Prop where
 yU:cX 4294967296 l
 len:l.length<1099511627776
theorem gJ(y:Int)(hy:0≤y)(neg:Bool):aF env.P 122 [N y, .bool neg] (I (if neg=true then -y else y)):=by
 refine cD [(0,N y),(1, .bool neg)] Tryz.func122 ?_
 refine aA [0,1,4] ?_
 have e0:(aU LL y.toNat = [])↔y=0:=by rw [eO gF];omega
 have e:I (if neg=true then -y else y) = .ag [.bool (neg&&decide (0<(aU LL y.toNat).length)),N y]:=by
  have h1:0<(aU LL y.toNat).length↔y≠0:=by
   rw [List.length_pos_iff];simp [e0]
  have e2:(if neg=true then -y else y).natAbs=y.toNat:=by split<;>omega
  have e3:(decide ((if neg=true then -y else y)<0))=(neg&&decide (0<(aU LL y.toNat).length)):=by
   cases neg
   ·simp only [Bool.false_and,Bool.false_eq_true,if_false,decide_eq_false_iff_not];omega
   ·simp only [Bool.true_and,if_true,h1];congr 1;apply propext;omega
  rw [I,e2,e3]
 rw [e]
 refine W.eE (fun K hK=>?_)
 cases neg
 ·simp (disch:=omega) [gw]
  refine W.lw [4] hK ?_;clear hK K;simp
  exact cC
 ·simp (disch:=omega) [gw]
  refine W.lw [4] hK ?_;clear hK K;simp
  exact cC
theorem qC{l:List Int}(h:sH l):0≤V 4294967296 l:=bL (by decide) h.yU
theorem FY(n:Bool)(l:List Int)(h:sH l):aF env.P 132 [IV n l] (I (iv n l)):=by
 refine cD [(0,IV n l)] Tryz.func132 ?_
 refine aA [1,2] ?_
 refine nK ?_
 refine cU (nB l h.len h.yU) ?_
 refine aC (gJ _ (qC h) n) ?_
 simp (disch:=omega) [gw]
 refine bG [2] ?_
 refine W.ret ?_
 simp [go,iv]
theorem CJ(n:Bool)(l:List Int)(h:sH l):aF env.P 148 [IV n l] (I (- iv n l)):=by
 refine cD [(0,IV n l)] Tryz.func148 ?_
 have e : - iv n l=if (!n)=true then-V 4294967296 l else V 4294967296 l:=by cases n<;>simp [iv]
 rw [e]
 refine aA [1,2] ?_
 refine nK ?_
 refine cU (nB l h.len h.yU) ?_
 refine aC (gJ _ (qC h) (!n)) ?_
 simp (disch:=omega) [gw]
 refine bG [2] ?_
 exact cC
theorem MA(n m:Bool)(l k:List Int)(h:sH l)(h':sH k):aF env.P 66 [IV n l,IV m k] (I (iv n l*iv m k)):=by
 refine cD [(0,IV n l),(1,IV m k)] Tryz.func66 ?_
 have e:iv n l*iv m k=if (n != m)=true then-(V 4294967296 l*V 4294967296 k)else V 4294967296 l*V 4294967296 k:=by cases n<;>cases m<;>simp [iv,Int.neg_mul,Int.mul_neg]
 rw [e]
 refine aA [2,3,4] ?_
 refine nK ?_
 refine cU (agu l k h.len h'.len h.yU h'.yU) ?_
 refine aC (gJ _ (Int.mul_nonneg (qC h) (qC h')) (n != m)) ?_
 simp (disch:=omega) [gw]
 refine bG [4] ?_
 exact cC
theorem CK(n m:Bool)(l k:List Int)(h:sH l)(h':sH k):aF env.P 65 [IV n l,IV m k] (I (iv n l+iv m k)):=by
 refine cD [(0,IV n l),(1,IV m k)] Tryz.func65 ?_
 have p1:=qC h
 have p2:=qC h'
 refine aA [2,3,4] ?_
 refine aP [2,3,4,13] ?_
 refine W.cond ⟨_,rfl,fun hb=>?_,fun hb=>?_⟩
 ·have hb:n=m:=by simpa using hb
  subst hb
  have e:iv n l+iv n k=if n=true then-(V 4294967296 l+V 4294967296 k)else V 4294967296 l+V 4294967296 k:=by cases n<;>simp [iv];omega
  rw [e]
  refine nK ?_
  refine cU (UK l k h.len h'.len h.yU h'.yU) ?_
  refine aC (gJ _ (by omega) n) ?_
  simp (disch:=omega) [gw]
  refine bG [4] ?_
  exact cC
 ·have hb:m = !n:=by cases n<;>cases m<;>simp_all
  subst hb
  refine W.skip ?_
  refine W.seq ?_
  refine W.eE (fun K hK=>?_)
  simp (disch:=omega) [gw]
  refine aC (II l k h.len h'.len h.yU h'.yU) ?_
  by_cases dN:V 4294967296 l<V 4294967296 k
  ·simp (disch:=omega) [gw,Q9,dN]
   refine W.lw [2,3,4,5,6] hK ?_;clear hK K;simp
   refine aA [2,3,4,5,30] ?_
   refine W.cond ⟨_,rfl,fun hb=>?_,fun hb=>?_⟩
   ·cases hb
   ·refine W.skip ?_
    refine jG ?_
    refine aC (II k l h'.len h.len h'.yU h.yU) ?_
    rw [Q9,if_neg (by omega)]
    simp (disch:=omega) [gw]
    refine bG [3,4,7] ?_
    refine W.eE (fun K hK=>?_)
    simp (disch:=omega) [gw]
    refine aC (gJ _ (by omega) (!n)) ?_
    simp (disch:=omega) [gw]
    refine W.lw [4] hK ?_;clear hK K;simp
    refine W.ret ?_
    have e:iv n l+iv (!n) k=if (!n)=true then-(V 4294967296 k-V 4294967296 l)else V 4294967296 k-V 4294967296 l:=by cases n<;>simp [iv]<;>omega
    rw [e]
    simp [go]
  ·simp (disch:=omega) [gw,Q9,dN]
   refine W.lw [2,3,4,5,6] hK ?_;clear hK K;simp
   refine aA [2,3,4,5,30] ?_
   refine W.cond ⟨_,rfl,fun hb=>?_,fun hb=>?_⟩
   ·refine jG ?_
    refine aC (gJ _ (by omega) n) ?_
    simp (disch:=omega) [gw]
    refine bG [4] ?_
    refine W.ret ?_
    have e:iv n l+iv (!n) k=if n=true then-(V 4294967296 l-V 4294967296 k)else V 4294967296 l-V 4294967296 k:=by cases n<;>simp [iv]<;>omega
    rw [e]
    simp [go]
   ·cases hb
theorem MB(n m:Bool)(l k:List Int)(h:sH l)(h':sH k):aF env.P 248 [IV n l,IV m k] (I (iv n l-iv m k)):=by
 refine cD [(0,IV n l),(1,IV m k)] Tryz.func248 ?_
 have e:iv n l-iv m k=iv n l+iv (!m) k:=by cases m<;>simp [iv]<;>omega
 rw [e]
 refine aA [2,3,4] ?_
 refine aA [2,3,4] ?_
 refine aR [4] (CK n (!m) l k h h') ?_
 exact cC
theorem xL(n:Int)(h1 : -9223372036854775808≤n)(h2:n<9223372036854775808):aF env.P 58 [.int .i64 n] (I n):=by
 refine cD [(0, .int .i64 n)] Tryz.func58 ?_
 refine aA [0,2] ?_
 refine W.sr ?_
 simp (disch:=omega) [gw,jV]
 refine bG [0,2,3] ?_
 refine W.iE (fun σ=>∃(w:Int) (rows:Pm.Rows) (clk:Nat),σ=⟨fa [(0, .int .i64 n),(2, .ptr 2 0 0 0),(3, .int .u64 w)],rows,clk⟩∧rows 2=some ⟨0,38,2,[[.bool false, .nil]]⟩∧w=n.natAbs∧0≤w∧w<18446744073709551616) ?_ ?_
 ·
  refine aA [0,2,3,7] ?_
  refine bJ ?_ ?_<;>intro h
  ·simp at h
   refine W.cA (fun K hK=>?_)
   simp [jV]
   exact hK _ ⟨_,aB _ [0,2,3],_,_,_,rfl,by simp,by omega,by omega,by omega⟩
  ·simp at h
   refine W.skip ?_
   exact⟨_,aB _ [0,2,3],_,_,_,rfl,by simp,by omega,by omega,by omega⟩
 rintro _ ⟨w,rows,clk,rfl,hr,hw,hw0,X4⟩
 refine W.sr ?_
 have e1:V 4294967296 [w%4294967296,w/4294967296%4294967296]=w:=by simp [V];omega
 have lm:cX 4294967296 [w%4294967296,w/4294967296%4294967296]:=by
  intro x hx;simp at hx;omega
 simp [wrap_u32',hr]
 refine aC (nB [w%4294967296,w/4294967296%4294967296] (by simp) lm) ?_
 rw [e1]
 simp (disch:=omega) [gw,hr]
 refine aC (gJ w hw0 (decide (n<0))) ?_
 simp (disch:=omega) [gw,hr]
 refine bG [2] ?_
 refine W.ret ?_
 have e:(if n<0 then -w else w)=n:=by split<;>omega
 rw [e]
 simp [go]
def ge(p:Bool × List Int):List PV:=[.bool p.1,us p.2]
def ie(x:Int):List PV:=[.bool (decide (x<0)),us (aU LL x.natAbs)]
@[simp] theorem ax4{p:Bool × List Int}:ge p = [.bool p.1,us p.2]:=rfl
@[simp] theorem ax5{x:Int}:ie x = [.bool (decide (x<0)),us (aU LL x.natAbs)]:=rfl
@[simp] theorem apT{l:List (Bool × List Int)}:bH 2 (emap ge l)=True:=cH fun _=>rfl
@[simp] theorem apU{l:List Int}:bH 2 (emap ie l)=True:=cH fun _=>rfl
@[simp] theorem am1{v e n:Nat}{l:List Int}:cW (some ⟨v,e,n,emap ie l⟩)=True:=bU fun _=>rfl
@[simp] theorem am2{v e n:Nat}{l:List (Bool × List Int)}:cW (some ⟨v,e,n,emap ge l⟩)=True:=bU fun _=>rfl
theorem AA{α:Type}{g:α→List PV}{n:Nat}(hg:Enc g n){l:List α}{i:Nat}{x:α}:gZ (emap g l) i 0 (g x)=emap g (l.set i x):=by
 simp only [gZ,emap,List.map_set]
 by_cases h:i<l.length
 ·have:(g l[i]).length=n:=hg _
  have h2:(g x).length=n:=hg _
  simp [h,List.drop_of_length_le,this,h2]
 ·rw [List.set_eq_of_length_le (by simp;omega),List.set_eq_of_length_le (by simp;omega)]
@[simp] theorem atd{l:List Int}{i:Nat}{x:Int}:gZ (emap ie l) i 0 [.bool (decide (x<0)),us (aU LL x.natAbs)]=emap ie (l.set i x):=AA (n:=2) (fun _=>rfl)
@[simp] theorem MC{α:Type}{g:α→List PV}{l k:List α}:emap g l++emap g k=emap g (l++k):=by simp [emap]
abbrev Po(l:List Int):PV:=aN ie l
abbrev Pg(l:List (Bool × List Int)):PV:=aN ge l
def gv(p:Bool × List Int):Int:=iv p.1 p.2
def s5(x:Int):Bool × List Int:=(decide (x<0),aU LL x.natAbs)
theorem i7(l:List Int):Po l=Pg (l.map s5):=by simp [aN,emap,s5]
theorem MD(x:Int):gv (s5 x)=x:=by
 simp only [gv,s5,iv,kH gF]
 have:=kH gF x.natAbs
 simp only [show((LL:Nat):Int)=4294967296 from rfl]at this
 rw [this]
 by_cases h:x<0<;>simp [h]<;>omega
theorem cI(l:List Int):(l.map s5).map gv=l:=by simp [Function.comp_def,MD]
theorem rK(k:Nat):bB (bB fun q p=>Wk p q) (emap ie (List.replicate k 0)) (List.replicate k [.bool false, .nil]):=by
 have:emap ie (List.replicate k 0)=List.replicate k (ie 0):=by simp [emap]
 rw [this]
 exact LZ ⟨.inl rfl, .inr ⟨rfl,rfl⟩,trivial⟩ k
structure s6(l:List (Bool × List Int)):Prop where
 ok:∀p∈l,sH p.2
 len:l.length<1099511627776
theorem s6.nth{l:List (Bool × List Int)}(h:s6 l){i:Nat}(hi:i<l.length):sH (nth l i).2:=h.ok _ (b7 hi)
def Sz(x:Int):Prop:=sz LL x<1099511627776
theorem Sz.UM{x:Int}(h:Sz x):sH (aU LL x.natAbs):=⟨fI gF _,h⟩
theorem s6.agv{l:List Int}(h:∀x∈l,Sz x)(hl:l.length<1099511627776):s6 (l.map s5):=⟨fun p hp=>by
 simp only [List.mem_map]at hp
 obtain⟨x,hx,rfl⟩:=hp
 exact(h x hx).UM,by simpa using hl⟩
theorem ME(n:Bool)(l:List Int):aF env.P 124 [IV n l] (.bool (decide (l.length=0))):=by
 refine cD [(0,IV n l)] Tryz.func124 ?_
 refine aA [1] ?_
 refine aA [2] ?_
 refine W.ret ?_
 simp [go]
 cases l<;>simp<;>omega
theorem vP(l:List Int)(hl:l.length<17592186044416):aF env.P 59 [Po l] (Po (aQ l)):=by
 refine cD [(0,Po l)] Tryz.func59 ?_
 refine aA [0] ?_
 refine aA [0,3] ?_
 refine W.seq (W.block ?_)
 refine W.bE (fun k σ=>∃(rows:Pm.Rows) (clk:Nat),σ=⟨fa [(0,Po l),(3, .int .i64 (k:Int))],rows,clk⟩∧k≤l.length∧aQ l=aQ (l.take k)) l.length ?_ ?_
 ·exact⟨_, .refl,_,_,rfl,by omega,by simp⟩
 rintro k _ ⟨rows,clk,rfl,hk,hc⟩
 refine W.seq ?_
 refine W.fA (fun σ=>∃(b:Bool),σ=⟨fa [(0,Po l),(3, .int .i64 (k:Int)),(15, .bool b)],rows,clk⟩∧(b=true↔0<k∧nth l (k-1)=0)) (fun K hK=>?_) ?_
 ·simp
  by_cases h0:0<k
  ·simp (disch:=omega) [gw,h0]
   refine aC (ME _ (aU LL (nth l (k-1)).natAbs)) ?_
   simp (disch:=omega) [gw,h0]
   have e:(aU LL (nth l (k-1)).natAbs).length=0↔nth l (k-1)=0:=by
    rw [List.length_eq_zero_iff,eO gF];omega
   refine hK _ _ (aB _ [0,3,15]) ⟨_,rfl,?_⟩
   simp [h0,←e]
  ·simp (disch:=omega) [gw,h0]
   exact hK _ _ (aB _ [0,3,15]) ⟨_,rfl,by simp [h0]⟩
 rintro _ ⟨b,rfl,hb⟩
 refine bJ ?_ ?_<;>intro h
 ·obtain⟨h0,h1⟩:=hb.1 h
  refine W.skip (W.block ?_)
  refine W.cA (fun K hK=>?_)
  simp (disch:=omega) [gw]
  refine hK _ ⟨k-1,_,Gh.fr [(0,_),(3, .int .i64 ((k-1:Nat):Int))] (by simp;omega),by omega,_,_,rfl,by omega,?_⟩
  rw [hc,show k=(k-1)+1 by omega,bF (by omega),h1,jW]
  simp
 ·have h2:aQ l=l.take k:=by
   rw [hc]
   by_cases h0:0<k
   ·have h1:nth l (k-1)≠0:=fun h1=>by simp [hb.2 ⟨h0,h1⟩]at h
    rw [show k=(k-1)+1 by omega,bF (by omega)]
    exact jH h1 _
   ·have:k=0:=by omega
    subst this;simp [aQ]
  refine fH ?_
  refine aA [2] ?_
  refine W.ret ?_
  simp [go,h2]
theorem iO(l:List (Bool × List Int))(h:s6 l):aF env.P 64 [Pg l] (Po (aQ (l.map gv))):=by
 refine cD [(0,Pg l)] Tryz.func64 ?_
 have hl:=h.len
 refine aA [0] ?_
 refine aA [0,3] ?_
 refine W.row (id:=8) (emap ie (List.replicate l.length 0)) (by simp;exact⟨rfl,rfl,rfl⟩) (rK _) ?_
 refine aP [3,9,10,11] ?_
 refine W.block ?_
 refine W.bE (fun k σ=>∃(i:Nat) (z:List Int) (ver:Nat) (rows:Pm.Rows) (clk:Nat),σ=⟨fa [(3, .own 8 ver 0 l.length),(9,Pg l),(10, .int .i64 l.length),(11, .int .i64 i)],rows,clk⟩ ∧
  rows 8=some ⟨ver,38,2,emap ie z⟩∧k=l.length-i∧i≤l.length∧z.length=l.length∧z.take i=(l.take i).map gv) l.length ?_ ?_
 ·exact⟨_, .refl,0,List.replicate l.length 0,_,_,_,rfl,by simp,by omega,by omega,by simp,by simp⟩
 rintro k _ ⟨i,z,ver,rows,clk,rfl,hr,hk,hi,hz,hv⟩
 refine bV [3,9,10,11,12] ?_
 refine W.cond ⟨_,rfl,fun dN=>?_,fun dN=>?_⟩
 ·simp at dN
  refine kY ?_
  refine W.sr ?_
  simp (disch:=omega) [gw,hr]
  refine bG [3,4,5,9,10,11] ?_
  refine W.cA (fun K hK=>?_)
  simp (disch:=omega) [gw,hr]
  refine aC (FY _ _ (h.nth dN)) ?_
  simp (disch:=omega) [gw,hr]
  refine W.lw [3,9,10,11] hK ?_;clear hK K;simp
  refine W.cA (fun K hK=>?_)
  simp (disch:=omega) [gw]
  refine hK _ ⟨l.length-(i+1),_,aB _ [3,9,10,11],by omega,i+1,z.set i (iv (nth l i).1 (nth l i).2),ver,_,_,rfl,by simp,by omega,by omega,by simpa using hz,?_⟩
  rw [l5 hv (by omega),oJ dN];rfl
 ·simp at dN
  have lV:i=l.length:=by omega
  subst lV
  refine fH ?_
  rw [bM hz]at hv
  have tZ:=bM hz
  refine W.sr ?_
  simp (disch:=omega) [gw,hr,tZ]
  refine aC (vP z (by omega)) ?_
  simp (disch:=omega) [gw]
  refine bG [2] ?_
  refine W.ret ?_
  simp at hv
  simp [go,hv]
theorem IJ(l:List (Bool × List Int))(k:Nat)(hl:l.length<1099511627776)(hk:k<9223372036854775808):aF env.P 243 [Pg l, .int .i64 k] (.ag (ge (nth l k))):=by
 refine cD [(0,Pg l),(1, .int .i64 k)] Tryz.func243 ?_
 refine aA [0,1,4] ?_
 refine aP [0,1,4,8] ?_
 refine bJ ?_ ?_<;>intro h
 ·simp at h
  refine aA [4] ?_
  exact cC
 ·simp at h
  refine W.skip ?_
  refine aA [4] ?_
  refine W.ret ?_
  rw [iF h]
  simp [go]
  exact⟨rfl,rfl⟩
theorem rL(g:FuncId)(hw:IF g=false)(bW:List PV)(hc:bW.all dB=true)(n:Nat)(hn:n<1099511627776)(val:Nat→Int)(hg:∀k,k<n→aF env.P g (.int .i64 (k:Int)::bW) (I (val k)))(hm:vM g=false:=by rfl) :
  aF env.P 163 [.int .i64 n, .fn g bW] (Po (aQ ((List.range n).map val))):=by
 refine cD [(0, .int .i64 n),(1, .fn g bW)] Tryz.func163 ?_
 refine aA [0,1] ?_
 refine aA [1,5] ?_
 refine W.row (id:=8) (emap ie (List.replicate n 0)) (by simp;exact⟨rfl,rfl,rfl⟩) (rK _) ?_
 refine aP [1,5,10,11] ?_
 refine W.block ?_
 refine W.bE (fun k σ=>∃(i:Nat) (z:List Int) (ver:Nat) (rows:Pm.Rows) (clk:Nat),σ=⟨fa [(1, .fn g bW),(5, .own 8 ver 0 n),(10, .int .i64 n),(11, .int .i64 i)],rows,clk⟩ ∧
  rows 8=some ⟨ver,38,2,emap ie z⟩∧k=n-i∧i≤n∧z.length=n∧z.take i=(List.range i).map val) n ?_ ?_
 ·exact⟨_, .refl,0,List.replicate n 0,_,_,_,rfl,by simp,by omega,by omega,by simp,by simp⟩
 rintro k _ ⟨i,z,ver,rows,clk,rfl,hr,hk,hi,hz,hv⟩
 refine bV [1,5,10,11,12] ?_
 refine bJ ?_ ?_<;>intro h
 ·simp at h
  refine kY ?_
  refine aA [1,5,6,10,11] ?_
  refine W.cA (fun K hK=>?_)
  simp (disch:=omega) [gw,hr, -IF,hw, -vM,hm]
  refine aC (hg i h) ?_
  simp (disch:=omega) [gw,hr]
  refine W.lw [1,5,10,11] hK ?_;clear hK K;simp
  refine W.cA (fun K hK=>?_)
  simp (disch:=omega) [gw]
  refine hK _ ⟨n-(i+1),_,aB _ [1,5,10,11],by omega,i+1,z.set i (val i),ver,_,_,rfl,by simp,by omega,by omega,by simpa using hz,?_⟩
  rw [l5 hv (by omega),List.range_succ];simp
 ·simp at h
  have lV:i=n:=by omega
  subst lV
  refine fH ?_
  rw [bM hz]at hv
  have tZ:=bM hz
  refine W.sr ?_
  simp (disch:=omega) [gw,hr,tZ]
  refine aC (vP z (by omega)) ?_
  simp (disch:=omega) [gw]
  refine bG [4] ?_
  refine W.ret ?_
  simp [go,hv]
end Go.Proofs.YtiobceocpabjdaaGreat
