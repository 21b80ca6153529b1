import Derived.KernelRfl
import Derived.Test.YtiobceocpabjdaaGreatOad
import Derived.Test.YtiobceocpabjdaaGreatOae
import Derived.Test.YtiobceocpabjdaaGreatOaf
set_option linter.unusedSimpArgs false
set_option linter.unusedVariables false
namespace Go.Proofs.YtiobceocpabjdaaGreat
open Go Pm
theorem cD{y8:FuncId}{fn:Func}{code:Code}{args:List PV}{r:PV}(l:List (Nat × PV))(h1:env.P.funcs[y8]? = some fn)(h:W env fn.ntmps (fun _=>0) code (abH env fn.results.toList r) ⟨fa l,fun _=>none,0⟩)(h2:fn.body=some code:=by rfl) (h3:(fn.name == "runtime.NumGoroutine") = false:=by kernel_rfl) (gO:eY env fn.ntmps (fun _=>0) code=true:=by kernel_rfl) (eT:args.length≤fn.ntmps:=by exact of_decide_eq_true (by kernel_rfl)) (hl:∀p∈l,args.getD p.1 .undef=p.2:=by simp):aE env.P y8 args r:=
  cX (fun _=>0) l h1 h2 h3 gO eT hl h
def u32(n:Int):List PV:=[.int .u32 n]
@[simp] theorem awR{n:Int}:u32 n = [.int .u32 n]:=rfl
theorem ag7:Enc u32 1:=fun _=>rfl
theorem acP:arS u32:=fun _=>rfl
@[simp] theorem anE{l:List Int}:bG 1 (emap u32 l)=True:=cB ag7
@[simp] theorem akc{v e n:Nat}{l:List Int}:cQ (some ⟨v,e,n,emap u32 l⟩)=True:=bT acP
@[simp] theorem awS{n:Nat}:List.replicate n [PV.int .u32 0]=emap u32 (List.replicate n 0):=by simp [emap]
@[simp] theorem aqE{l:List Int}{i:Nat}{x:Int}:iA (emap u32 l) i 0 [.int .u32 x]=emap u32 (l.set i x):=by
 simp only [iA,emap,List.map_set]
 by_cases h:i<l.length
 ·simp [h]
 ·rw [List.set_eq_of_length_le (by simp;omega),List.set_eq_of_length_le (by simp;omega)]
@[simp] theorem at4{α:Type}{g:α→List PV}{l:List α}:(emap g l).length=l.length:=by simp [emap]
abbrev us(l:List Int):PV:=aJ u32 l
abbrev LL:Nat:=4294967296
abbrev N(x:Int):PV:=us (aS LL x.toNat)
theorem gF:2≤LL:=by decide
theorem wG{l:List Int}(h:cV 4294967296 l):us (aO l)=N (V 4294967296 l):=by rw [rZ gF h];rfl
theorem dQ(l:List Int)(hl:l.length<17592186044416):aE env.P 208 [us l] (us (aO l)):=by
 refine cD [(0,us l)] Tryz.func208 ?_
 refine aA [0] ?_
 refine aA [0,3] ?_
 refine W.seq (W.block ?_)
 refine W.bE (fun k σ=>∃(rows:Pm.Rows) (clk:Nat),σ=⟨fa [(0,us l),(3, .int .i64 (k:Int))],rows,clk⟩∧k≤l.length∧aO l=aO (l.take k)) l.length ?_ ?_
 ·exact⟨_, .refl,_,_,rfl,by omega,by simp⟩
 rintro k _ ⟨rows,clk,rfl,hk,hc⟩
 refine W.seq ?_
 refine W.eJ (fun σ=>∃(b:Bool),σ=⟨fa [(0,us l),(3, .int .i64 (k:Int)),(15, .bool b)],rows,clk⟩∧(b=true↔0<k∧nth l (k-1)=0)) (fun K hK=>?_) ?_
 ·simp
  by_cases h0:0<k
  ·simp (disch:=omega) [gw,h0]
   exact hK _ _ (aB _ [0,3,15]) ⟨_,rfl,by simp [h0]⟩
  ·simp (disch:=omega) [gw,h0]
   exact hK _ _ (aB _ [0,3,15]) ⟨_,rfl,by simp [h0]⟩
 rintro _ ⟨b,rfl,hb⟩
 refine bJ ?_ ?_<;>intro h
 ·obtain⟨h0,h1⟩:=hb.1 h
  refine W.skip (W.block ?_)
  refine W.b7 (fun K hK=>?_)
  simp (disch:=omega) [gw]
  refine hK _ ⟨k-1,_,Gh.fr [(0,_),(3, .int .i64 ((k-1:Nat):Int))] (by simp;omega),by omega,_,_,rfl,by omega,?_⟩
  rw [hc,show k=(k-1)+1 by omega,bF (by omega),h1,j2]
  simp
 ·have h2:aO l=l.take k:=by
   rw [hc]
   by_cases h0:0<k
   ·have h1:nth l (k-1)≠0:=fun h1=>by simp [hb.2 ⟨h0,h1⟩]at h
    rw [show k=(k-1)+1 by omega,bF (by omega)]
    exact jL h1 _
   ·have:k=0:=by omega
    subst this;simp [aO]
  refine fA ?_
  refine aA [2] ?_
  refine W.ret ?_
  simp [h2]
theorem nM(l:List Int)(hl:l.length<1099511627776)(hm:cV 4294967296 l):aE env.P 123 [us l] (N (V 4294967296 l)):=by
 rw [←wG hm]
 refine cD [(0,us l)] Tryz.func123 ?_
 refine aA [0] ?_
 refine W.sr ?_
 simp
 refine aC (dQ l (by omega)) ?_
 have:=bV l
 simp (disch:=omega) [gw]
 refine bH [2] ?_
 refine W.ret ?_
 simp
theorem VE(a b:List Int)(ha:a.length<1099511627776)(hb:b.length<1099511627776)(la:cV 4294967296 a)(lb:cV 4294967296 b):aE env.P 133 [us a,us b] (N (V 4294967296 a+V 4294967296 b)):=by
 refine cD [(0,us a),(1,us b)] Tryz.func133 ?_
 refine aA [0,1] ?_
 refine W.sr ?_
 simp
 refine aC (dQ a (by omega)) ?_
 simp
 refine aC (dQ b (by omega)) ?_
 simp
 refine bH [0,1] ?_
 refine W.iB (fun σ=>∃(x y:List Int) (rows:Pm.Rows) (clk:Nat),σ=⟨fa [(0,us x),(1,us y)],rows,clk⟩∧cV 4294967296 x∧cV 4294967296 y∧y.length≤x.length∧x.length<1099511627776 ∧
  V 4294967296 a+V 4294967296 b=V 4294967296 x+V 4294967296 y) ?_ ?_
 ·have h1:=bV a
  have h2:=bV b
  refine aA [0,1,18] ?_
  refine bJ ?_ ?_<;>intro h
  ·simp at h
   refine W.b7 (fun K hK=>?_)
   simp (disch:=omega) [gw]
   exact hK _ ⟨_,aB _ [0,1],_,_,_,_,rfl,eG lb,eG la,by omega,by omega,by simp [c8];omega⟩
  ·simp at h
   refine W.skip ?_
   exact⟨_,aB _ [0,1],_,_,_,_,rfl,eG la,eG lb,by omega,by omega,by simp [c8]⟩
 rintro _ ⟨x,y,rows,clk,rfl,lx,ly,qT,hx,hV⟩
 rw [hV]
 clear hV la lb ha hb a b
 refine aA [0,1,5] ?_
 refine aA [0,1,5,6] ?_
 refine aQ [0,1,5,6,25,26,27] ?_
 refine W.block ?_
 refine W.bE (fun k σ=>∃(i:Nat) (c:Int) (z:List Int) (ver:Nat) (rows:Pm.Rows) (clk:Nat),σ=⟨fa [(0,us x),(1,us y),(5, .own 24 ver 0 (x.length+1)),(6, .int .u64 c),(25,us x),(26, .int .i64 x.length),(27, .int .i64 i)],rows,clk⟩ ∧
   rows 24=some ⟨ver,185,1,emap u32 z⟩∧k=x.length-i∧i≤x.length∧z.length=x.length+1∧cV 4294967296 z∧0≤c∧c≤1 ∧
   V 4294967296 (z.take i)+4294967296^i*c=V 4294967296 (x.take i)+V 4294967296 (y.take i)) x.length ?_ ?_
 ·exact⟨_, .refl,0,0,List.replicate (x.length+1) 0,_,_,_,rfl,by simp,by omega,by omega,by simp,cV.rep (by decide) _,by omega,by omega,by simp [V]⟩
 rintro k _ ⟨i,c,z,ver,rows,clk,rfl,hr,hk,hi,hz,lz,xY,vP,hV⟩
 refine bU [0,1,5,6,25,26,27,28] ?_
 refine bJ ?_ ?_<;>intro h
 ·simp at h
  have hxi:=lx.nth h
  refine lF ?_
  refine aA [0,1,5,6,7,8,25,26,27] ?_
  refine aA [0,1,5,7,9,25,26,27] ?_
  refine W.iB (fun σ=>∃(s:Int),σ=⟨fa [(0,us x),(1,us y),(5, .own 24 ver 0 (x.length+1)),(7, .int .i64 i),(9, .int .u64 s),(25,us x),(26, .int .i64 x.length),(27, .int .i64 i)],rows,clk⟩∧0≤s∧s<8589934592 ∧
   V 4294967296 (x.take (i+1))+V 4294967296 (y.take (i+1))=V 4294967296 (z.take i)+4294967296^i*s) ?_ ?_
  ·
   refine aA [0,1,5,7,9,25,26,27,39] ?_
   refine bJ ?_ ?_<;>intro h
   ·simp at h
    have X7:=ly.nth h
    refine W.b7 (fun K hK=>?_)
    simp (disch:=omega) [gw]
    refine hK _ ⟨_,aB _ [0,1,5,7,9,25,26,27],_,rfl,by omega,by omega,?_⟩
    rw [aV (by omega),aV (by omega)]
    grind
   ·simp at h
    refine W.skip ?_
    refine⟨_,aB _ [0,1,5,7,9,25,26,27],_,rfl,by omega,by omega,?_⟩
    rw [aV (by omega),a9 (l:=y) (by omega)]
    rw [a9 (l:=y) (by omega)]at hV
    grind
  rintro _ ⟨s,rfl,VF,wH,R8⟩
  refine W.b7 (fun K hK=>?_)
  simp (disch:=omega) [gw,hr,wrap_u32']
  refine W.lw [0,1,5,6,25,26,27] hK ?_;clear hK K;simp
  refine W.b7 (fun K hK=>?_)
  simp (disch:=omega) [gw]
  refine hK _ ⟨x.length-(i+1),_,aB _ [0,1,5,6,25,26,27],by omega,i+1,s/4294967296,z.set i (s%4294967296),ver,_,_,rfl,by simp,by omega,by omega,by simpa using hz,lz.set (by omega),by omega,by omega,?_⟩
  rw [fF (by omega),R8,Int.pow_succ]
  have:=Int.emod_add_mul_ediv s 4294967296
  grind
 ·simp at h
  have iQ:i=x.length:=by omega
  subst iQ
  refine fA ?_
  refine W.sr ?_
  simp (disch:=omega) [gw,hr]
  refine bH [5] ?_
  have uT:List.take (x.length+1) (z.set x.length c)=z.set x.length c:=List.take_of_length_le (by simp;omega)
  refine W.sr ?_
  simp (disch:=omega) [gw,uT]
  refine aC (dQ (z.set x.length c) (by simp;omega)) ?_
  simp (disch:=omega) [gw]
  refine bH [4] ?_
  refine W.ret ?_
  have e:V 4294967296 (z.set x.length c)=V 4294967296 x+V 4294967296 y:=by
   rw [←a9 (l:=z.set x.length c) (i:=x.length+1) (by simp;omega),fF (by omega),hV,a9 (l:=y) (by omega)]
   simp
  rw [←e,wG (lz.set (by omega))]
  simp
theorem I8(a b:List Int)(ha:a.length<1099511627776)(hb:b.length<1099511627776)(la:cV 4294967296 a)(lb:cV 4294967296 b):aE env.P 212 [us a,us b] (.int .i64 (dI (V 4294967296 a) (V 4294967296 b))):=by
 refine cD [(0,us a),(1,us b)] Tryz.func212 ?_
 refine aA [0,1] ?_
 refine W.sr ?_
 simp
 refine aC (dQ a (by omega)) ?_
 simp
 refine aC (dQ b (by omega)) ?_
 simp
 refine bH [0,1] ?_
 have cx:=eK a;have lx:=eG la;have hx:=bV a
 have cy:=eK b;have ly:=eG lb;have hy:=bV b
 rw [←c8 a,←c8 b]
 generalize aO a=x at *
 generalize aO b=y at *
 refine aQ [0,1,14] ?_
 refine bJ ?_ ?_<;>intro h
 ·simp at h
  refine aQ [19] ?_
  refine bJ ?_ ?_<;>intro h
  ·simp at h
   refine aA [4] ?_
   refine W.ret ?_
   simp [l5 (j4 (by decide) lx ly cy h)]
  ·simp at h
   refine W.skip ?_
   refine aA [4] ?_
   refine W.ret ?_
   simp [l6 (j4 (by decide) ly lx cx (by omega))]
 ·simp at h
  have hlen:x.length=y.length:=by omega
  clear h
  refine W.skip ?_
  refine aQ [0,1,5] ?_
  refine W.block ?_
  refine W.bE (fun k σ=>∃(rows:Pm.Rows) (clk:Nat),σ=⟨fa [(0,us x),(1,us y),(5, .int .i64 ((k:Int)-1))],rows,clk⟩∧k≤x.length∧x.drop k=y.drop k) x.length ?_ ?_
  ·exact⟨_, .refl,_,_,rfl,by omega,by rw [List.drop_of_length_le (by omega),List.drop_of_length_le (by omega)]⟩
  rintro k _ ⟨rows,clk,rfl,hk,hd⟩
  refine aQ [0,1,5,24] ?_
  refine bJ ?_ ?_<;>intro h
  ·have h0:0<k:=by simp at h;omega
   obtain⟨j,rfl⟩:∃j,k=j+1:=⟨k-1,by omega⟩
   clear h
   refine lF ?_
   refine W.seq ?_
   refine nU ?_
   refine bH [0,1,5,35] ?_
   refine bJ ?_ ?_<;>intro h
   ·simp at h
    refine aA [4] ?_
    refine W.ret ?_
    simp [l5 (oA (by decide) lx ly hlen (by omega) hd h)]
   ·simp at h
    refine W.skip ?_
    refine nU ?_
    refine bH [0,1,5,44] ?_
    refine W.cond ⟨_,rfl,fun h2=>?_,fun h2=>?_⟩
    ·simp at h2
     refine aA [4] ?_
     refine W.ret ?_
     simp [l6 (oA (by decide) ly lx hlen.symm (by omega) hd.symm h2)]
    ·simp at h2
     refine W.skip ?_
     refine W.b7 (fun K hK=>?_)
     simp (disch:=omega) [gw]
     refine hK _ ⟨j,_,aB _ [0,1,5],by omega,_,_,rfl,by omega,?_⟩
     rw [fE (l:=x) (i:=j) (by omega),fE (l:=y) (i:=j) (by omega),hd,show nth x j=nth y j by omega]
  ·have h0:k=0:=by simp at h;omega
   subst h0
   simp at hd
   subst hd
   refine fA ?_
   refine aA [4] ?_
   refine W.ret ?_
   simp [vY]
def R9(x y:Int):PV:=if x<y then .dU [us [], .bool false]else .dU [N (x-y), .bool true]
theorem I9(a b:List Int)(ha:a.length<1099511627776)(hb:b.length<1099511627776)(la:cV 4294967296 a)(lb:cV 4294967296 b):aE env.P 134 [us a,us b] (R9 (V 4294967296 a) (V 4294967296 b)):=by
 refine cD [(0,us a),(1,us b)] Tryz.func134 ?_
 refine aA [0,1] ?_
 refine W.sr ?_
 simp
 refine aC (dQ a (by omega)) ?_
 simp
 refine aC (dQ b (by omega)) ?_
 simp
 refine bH [0,1] ?_
 have cx:=eK a;have lx:=eG la;have hx:=bV a
 have cy:=eK b;have ly:=eG lb;have hy:=bV b
 rw [←c8 a,←c8 b]
 generalize aO a=x at *
 generalize aO b=y at *
 refine W.seq ?_
 refine W.sr ?_
 simp
 refine aC (I8 x y (by omega) (by omega) lx ly) ?_
 simp (disch:=omega) [gw]
 refine bH [0,1,18] ?_
 refine bJ ?_ ?_<;>intro h
 ·have h:V 4294967296 x<V 4294967296 y:=mF.1 (by simpa using h)
  refine aA [4,5] ?_
  refine W.ret ?_
  simp [R9,h]
  rfl
 ·have h:V 4294967296 y≤V 4294967296 x:=r5.1 (by simpa using h)
  have hyx:y.length≤x.length:=by
   rcases Nat.lt_or_ge x.length y.length with h2 | h2
   ·have:=j4 (by decide) lx ly cy h2;omega
   ·exact h2
  refine W.skip ?_
  refine aA [0,1,6] ?_
  refine aA [0,1,6,7] ?_
  refine aQ [1,6,7,22,23,24] ?_
  refine W.block ?_
  refine W.bE (fun k σ=>∃(i:Nat) (c:Int) (z:List Int) (ver:Nat) (rows:Pm.Rows) (clk:Nat),σ=⟨fa [(1,us y),(6, .own 21 ver 0 x.length),(7, .int .u64 c),(22,us x),(23, .int .i64 x.length),(24, .int .i64 i)],rows,clk⟩ ∧
   rows 21=some ⟨ver,185,1,emap u32 z⟩∧k=x.length-i∧i≤x.length∧z.length=x.length∧cV 4294967296 z∧0≤c∧c≤1 ∧
   V 4294967296 (z.take i)-4294967296^i*c=V 4294967296 (x.take i)-V 4294967296 (y.take i)) x.length ?_ ?_
  ·exact⟨_, .refl,0,0,List.replicate x.length 0,_,_,_,rfl,by simp,by omega,by omega,by simp,cV.rep (by decide) _,by omega,by omega,by simp [V]⟩
  rintro k _ ⟨i,c,z,ver,rows,clk,rfl,hr,hk,hi,hz,lz,xY,vP,hV⟩
  refine bU [1,6,7,22,23,24,25] ?_
  refine bJ ?_ ?_<;>intro h
  ·simp at h
   have hxi:=lx.nth h
   refine lF ?_
   refine aA [1,6,7,8,9,22,23,24] ?_
   refine W.sr ?_
   simp (disch:=omega) [gA,wrap_u64 hxi.1]
   refine bH [1,6,8,10,22,23,24] ?_
   refine W.iB (fun σ=>∃(d:Int),σ=⟨fa [(1,us y),(6, .own 21 ver 0 x.length),(8, .int .i64 i),(10, .int .u64 (IntKind.u64.wrap d)),(22,us x),(23, .int .i64 x.length),(24, .int .i64 i)],rows,clk⟩ ∧ -4294967296≤d∧d<4294967296 ∧
    V 4294967296 (x.take (i+1))-V 4294967296 (y.take (i+1))=V 4294967296 (z.take i)+4294967296^i*d) ?_ ?_
   ·
    refine aA [1,6,8,10,22,23,24,36] ?_
    refine bJ ?_ ?_<;>intro h
    ·simp at h
     have X7:=ly.nth h
     refine W.b7 (fun K hK=>?_)
     simp (disch:=omega) [gA,wrap_u64 X7.1]
     refine hK _ ⟨_,aB _ [1,6,8,10,22,23,24],nth x i-c-nth y i,?_,by omega,by omega,?_⟩
     ·have:IntKind.u64.wrap (IntKind.u64.wrap (nth x i-c)-nth y i)=IntKind.u64.wrap (nth x i-c-nth y i):=by
       simp only [j1];omega
      simp [this]
     rw [aV (by omega),aV (by omega)]
     grind
    ·simp at h
     refine W.skip ?_
     refine⟨_,aB _ [1,6,8,10,22,23,24],_,rfl,by omega,by omega,?_⟩
     rw [aV (by omega),a9 (l:=y) (by omega)]
     rw [a9 (l:=y) (by omega)]at hV
     grind
   rintro _ ⟨d,rfl,VF,wH,R8⟩
   refine W.b7 (fun K hK=>?_)
   simp (disch:=omega) [gw,hr,wrap_u32']
   refine W.lw [1,6,7,22,23,24] hK ?_;clear hK K;simp
   refine W.b7 (fun K hK=>?_)
   simp (disch:=omega) [gw]
   have e1:d=IntKind.u64.wrap d%4294967296-4294967296*(IntKind.u64.wrap d/9223372036854775808)∧0≤IntKind.u64.wrap d/9223372036854775808∧IntKind.u64.wrap d/9223372036854775808≤1:=by
    rw [j1];omega
   generalize IntKind.u64.wrap d=s at *
   refine hK _ ⟨x.length-(i+1),_,aB _ [1,6,7,22,23,24],by omega,i+1,s/9223372036854775808,z.set i (s%4294967296),ver,_,_,rfl,by simp,by omega,by omega,by simpa using hz,lz.set (by omega),by omega,by omega,?_⟩
   rw [fF (by omega),R8,Int.pow_succ]
   grind
  ·simp at h
   have iQ:i=x.length:=by omega
   subst iQ
   refine fA ?_
   have uT:z.take x.length=z:=List.take_of_length_le (by omega)
   have e:V 4294967296 z=V 4294967296 x-V 4294967296 y:=by
    rw [uT,a9 (Nat.le_refl _),a9 (l:=y) (by omega)]at hV
    have h1:=oS (by decide) lz
    rw [hz]at h1
    have:c=0:=by
     rcases Int.lt_or_le c 1 with h2 | h2
     ·omega
     ·have h3:c=1:=by omega
      subst h3;omega
    subst this;omega
   refine W.sr ?_
   simp (disch:=omega) [gw,hr,uT]
   refine aC (dQ z (by omega)) ?_
   simp (disch:=omega) [gw]
   refine bH [4,5] ?_
   refine W.ret ?_
   rw [R9,if_neg (by omega),←e,←wG lz]
   simp
theorem ag8{a b:Int}(ha:0≤a∧a<4294967296)(hb:0≤b∧b<4294967296):0≤a*b∧a*b≤18446744065119617025:=by
 refine⟨Int.mul_nonneg ha.1 hb.1,?_⟩
 have:=Int.mul_le_mul (show a≤4294967295 by omega) (show b≤4294967295 by omega) hb.1 (by decide)
 simpa using this
theorem ag9(a b:List Int)(ha:a.length<1099511627776)(hb:b.length<1099511627776)(la:cV 4294967296 a)(lb:cV 4294967296 b):aE env.P 135 [us a,us b] (N (V 4294967296 a*V 4294967296 b)):=by
 refine cD [(0,us a),(1,us b)] Tryz.func135 ?_
 refine aA [0,1] ?_
 refine W.sr ?_
 simp
 refine aC (dQ a (by omega)) ?_
 simp
 refine aC (dQ b (by omega)) ?_
 simp
 refine bH [0,1] ?_
 have lx:=eG la;have hx:=bV a
 have ly:=eG lb;have hy:=bV b
 rw [←c8 a,←c8 b]
 generalize aO a=x at *
 generalize aO b=y at *
 refine aA [0,1,5] ?_
 refine aQ [1,5,22,23,24] ?_
 refine W.block ?_
 refine W.bE (fun k σ=>∃(i:Nat) (z:List Int) (ver:Nat) (rows:Pm.Rows) (clk:Nat),σ=⟨fa [(1,us y),(5, .own 21 ver 0 (x.length+y.length)),(22,us x),(23, .int .i64 x.length),(24, .int .i64 i)],rows,clk⟩ ∧
   rows 21=some ⟨ver,185,1,emap u32 z⟩∧k=x.length-i∧i≤x.length∧z.length=x.length+y.length∧cV 4294967296 z∧(∀j,i+y.length≤j→nth z j=0) ∧
   V 4294967296 z=V 4294967296 (x.take i)*V 4294967296 y) x.length ?_ ?_
 ·have e:((x.length:Int)+(y.length:Int)).toNat=x.length+y.length:=by omega
  refine⟨_, .refl,0,List.replicate (x.length+y.length) 0,_,_,_,rfl,by simp [e],by omega,by omega,by simp,cV.rep (by decide) _,fun j _=>?_,by simp [V,qW]⟩
  unfold nth
  cases h:(List.replicate (x.length+y.length) (0:Int))[j]? with
  | none=>rfl
  | some v=>have:=List.mem_of_getElem? h;simp at this;simp [this]
 rintro k _ ⟨i,z,ver,rows,clk,rfl,hr,hk,hi,hz,lz,n6,hV⟩
 refine bU [1,5,22,23,24,25] ?_
 refine bJ ?_ ?_<;>intro h
 ·simp at h
  have hxi:=lx.nth h
  refine W.skip ?_
  refine W.dO (fun σ=>∃(z:List Int) (ver:Nat) (rows:Pm.Rows) (clk:Nat),σ=⟨fa [(1,us y),(5, .own 21 ver 0 (x.length+y.length)),(22,us x),(23, .int .i64 x.length),(24, .int .i64 i)],rows,clk⟩ ∧
   rows 21=some ⟨ver,185,1,emap u32 z⟩∧z.length=x.length+y.length∧cV 4294967296 z∧(∀j,i+1+y.length≤j→nth z j=0) ∧
   V 4294967296 z=V 4294967296 (x.take (i+1))*V 4294967296 y) ?_ ?_
  ·
   refine aA [1,5,6,7,22,23,24] ?_
   refine aA [1,5,6,7,8,22,23,24] ?_
   refine aQ [1,5,6,7,8,22,23,24,29,30,31] ?_
   refine W.block ?_
   refine W.bE (fun m σ=>∃(k:Nat) (c:Int) (z:List Int) (ver:Nat) (rows:Pm.Rows) (clk:Nat),σ=⟨fa [(1,us y),(5, .own 21 ver 0 (x.length+y.length)),(6, .int .i64 i),(7, .int .u32 (nth x i)),(8, .int .u64 c),(22,us x),(23, .int .i64 x.length),(24, .int .i64 i),(29,us y),(30, .int .i64 y.length),(31, .int .i64 k)],rows,clk⟩ ∧
    rows 21=some ⟨ver,185,1,emap u32 z⟩∧m=y.length-k∧k≤y.length∧z.length=x.length+y.length∧cV 4294967296 z∧(∀j,i+y.length≤j→nth z j=0)∧0≤c∧c<4294967296 ∧
    V 4294967296 z+4294967296^(i+k)*c=V 4294967296 (x.take i)*V 4294967296 y+4294967296^i*nth x i*V 4294967296 (y.take k)) y.length ?_ ?_
   ·exact⟨_, .refl,0,0,z,ver,_,_,rfl,by simpa using hr,by omega,by omega,hz,lz,n6,by omega,by omega,by simp [V,hV]⟩
   clear hV n6 lz hz hr z ver rows clk
   rintro m _ ⟨k,c,z,ver,rows,clk,rfl,hr,hm,hky,hz,lz,n6,xY,vP,hV⟩
   refine bU [1,5,6,7,8,22,23,24,29,30,31,32] ?_
   refine W.cond ⟨_,rfl,fun h2=>?_,fun h2=>?_⟩
   ·simp at h2
    have hyk:=ly.nth h2
    have hzk:=lz.nth (i:=i+k) (by omega)
    have hp:=ag8 hxi hyk
    refine lF ?_
    refine aA [1,5,6,7,8,9,10,22,23,24,29,30,31] ?_
    have e0:((i:Int)+(k:Int)).toNat=i+k:=by omega
    refine W.sr ?_
    simp (disch:=omega) [gw,hr,e0]
    refine bH [1,5,6,7,9,11,22,23,24,29,30,31] ?_
    refine W.b7 (fun K hK=>?_)
    simp (disch:=omega) [gw,hr,e0,wrap_u32']
    refine W.lw [1,5,6,7,8,22,23,24,29,30,31] hK ?_;clear hK K;simp
    refine W.b7 (fun K hK=>?_)
    simp (disch:=omega) [gw]
    have e1:=Int.emod_add_mul_ediv (nth x i*nth y k+nth z (i+k)+c) 4294967296
    have hs:0≤nth x i*nth y k+nth z (i+k)+c∧nth x i*nth y k+nth z (i+k)+c<18446744073709551616:=by omega
    have R8:=GB (b:=4294967296) (l:=z) (i:=i+k) (x:=(nth x i*nth y k+nth z (i+k)+c)%4294967296) (by omega)
    refine hK _ ⟨y.length-(k+1),_,aB _ [1,5,6,7,8,22,23,24,29,30,31],by omega,k+1,_,z.set (i+k) ((nth x i*nth y k+nth z (i+k)+c)%4294967296),ver,_,_,rfl,by simp,by omega,by omega,by simpa using hz,lz.set (by omega),fun j hj=>?_,by omega,by omega,?_⟩
    ·rw [gS (by omega)];exact n6 j hj
    ·rw [R8,aV h2,show i+(k+1)=(i+k)+1 by omega,Int.pow_succ,Int.pow_add]
     rw [Int.pow_add]at hV
     grind
   ·simp at h2
    have xL:k=y.length:=by omega
    subst xL
    refine fA ?_
    refine aA [1,5,6,8,22,23,24,63] ?_
    refine W.cond ⟨_,rfl,fun h3=>?_,fun h3=>?_⟩
    ·simp at h3
     have e0:((i:Int)+(y.length:Int)).toNat=i+y.length:=by omega
     refine W.b7 (fun K hK=>?_)
     simp (disch:=omega) [gw,hr,e0]
     have R8:=GB (b:=4294967296) (l:=z) (i:=i+y.length) (x:=c) (by omega)
     refine hK _ ⟨_,aB _ [1,5,22,23,24],z.set (i+y.length) c,ver,_,_,rfl,by simp,by simpa using hz,lz.set (by omega),fun j hj=>?_,?_⟩
     ·rw [gS (by omega)];exact n6 j (by omega)
     ·rw [R8,aV h,n6 _ (Nat.le_refl _)]
      rw [a9 (Nat.le_refl _)]at hV
      grind
    ·simp at h3
     refine W.skip ?_
     refine⟨_,aB _ [1,5,22,23,24],z,ver,_,_,rfl,hr,hz,lz,fun j hj=>n6 j (by omega),?_⟩
     subst h3
     simp only [V,List.take_nil,Int.mul_zero,Int.add_zero,List.length_nil]at hV ⊢
     have h4:=bM (by decide) lz
     have h5:0≤(4294967296:Int)^i*c:=Int.mul_nonneg (Int.le_of_lt (Int.pow_pos (by decide))) xY
     simp only [Nat.add_zero]at hV
     omega
  clear hV n6 lz hz hr z ver rows clk
  rintro _ ⟨z,ver,rows,clk,rfl,hr,hz,lz,n6,hV⟩
  refine W.b7 (fun K hK=>?_)
  simp (disch:=omega) [gw]
  exact hK _ ⟨x.length-(i+1),_,aB _ [1,5,22,23,24],by omega,i+1,z,ver,_,_,rfl,hr,by omega,by omega,hz,lz,n6,hV⟩
 ·simp at h
  have iQ:i=x.length:=by omega
  subst iQ
  have uT:List.take (x.length+y.length) z=z:=List.take_of_length_le (by omega)
  refine fA ?_
  refine W.sr ?_
  simp (disch:=omega) [gw,hr,uT]
  refine aC (dQ z (by omega)) ?_
  simp (disch:=omega) [gw]
  refine bH [4] ?_
  refine W.ret ?_
  rw [a9 (Nat.le_refl _)]at hV
  rw [←hV,←wG lz]
  simp
abbrev IV(neg:Bool)(l:List Int):PV:=.ag [.bool neg,us l]
def iv(neg:Bool)(l:List Int):Int:=if neg=true then-V 4294967296 l else V 4294967296 l
abbrev I(x:Int):PV:=IV (decide (x<0)) (aS LL x.natAbs)
structure r9(l:List Int):Prop where
 x6:cV 4294967296 l
 len:l.length<1099511627776
theorem gJ(y:Int)(hy:0≤y)(neg:Bool):aE env.P 122 [N y, .bool neg] (I (if neg=true then -y else y)):=by
 refine cD [(0,N y),(1, .bool neg)] Tryz.func122 ?_
 refine aA [0,1,4] ?_
 have e0:(aS LL y.toNat = [])↔y=0:=by rw [eO gF];omega
 have e:I (if neg=true then -y else y) = .ag [.bool (neg&&decide (0<(aS LL y.toNat).length)),N y]:=by
  have h1:0<(aS LL y.toNat).length↔y≠0:=by
   rw [List.length_pos_iff];simp [e0]
  have e2:(if neg=true then -y else y).natAbs=y.toNat:=by split<;>omega
  have e3:(decide ((if neg=true then -y else y)<0))=(neg&&decide (0<(aS LL y.toNat).length)):=by
   cases neg
   ·simp only [Bool.false_and,Bool.false_eq_true,if_false,decide_eq_false_iff_not];omega
   ·simp only [Bool.true_and,if_true,h1];congr 1;apply propext;omega
  rw [I,e2,e3]
 rw [e]
 refine W.dN (fun K hK=>?_)
 cases neg
 ·simp (disch:=omega) [gw]
  refine W.lw [4] hK ?_;clear hK K;simp
  exact cC
 ·simp (disch:=omega) [gw]
  refine W.lw [4] hK ?_;clear hK K;simp
  exact cC
theorem qX{l:List Int}(h:r9 l):0≤V 4294967296 l:=bM (by decide) h.x6
theorem GH(n:Bool)(l:List Int)(h:r9 l):aE env.P 132 [IV n l] (I (iv n l)):=by
 refine cD [(0,IV n l)] Tryz.func132 ?_
 refine aA [1,2] ?_
 refine nU ?_
 refine cS (nM l h.len h.x6) ?_
 refine aC (gJ _ (qX h) n) ?_
 simp (disch:=omega) [gw]
 refine bH [2] ?_
 refine W.ret ?_
 simp [go,iv]
theorem C0(n:Bool)(l:List Int)(h:r9 l):aE env.P 148 [IV n l] (I (- iv n l)):=by
 refine cD [(0,IV n l)] Tryz.func148 ?_
 have e : - iv n l=if (!n)=true then-V 4294967296 l else V 4294967296 l:=by cases n<;>simp [iv]
 rw [e]
 refine aA [1,2] ?_
 refine nU ?_
 refine cS (nM l h.len h.x6) ?_
 refine aC (gJ _ (qX h) (!n)) ?_
 simp (disch:=omega) [gw]
 refine bH [2] ?_
 exact cC
theorem M4(n m:Bool)(l k:List Int)(h:r9 l)(h':r9 k):aE env.P 66 [IV n l,IV m k] (I (iv n l*iv m k)):=by
 refine cD [(0,IV n l),(1,IV m k)] Tryz.func66 ?_
 have e:iv n l*iv m k=if (n != m)=true then-(V 4294967296 l*V 4294967296 k)else V 4294967296 l*V 4294967296 k:=by cases n<;>cases m<;>simp [iv,Int.neg_mul,Int.mul_neg]
 rw [e]
 refine aA [2,3,4] ?_
 refine nU ?_
 refine cS (ag9 l k h.len h'.len h.x6 h'.x6) ?_
 refine aC (gJ _ (Int.mul_nonneg (qX h) (qX h')) (n != m)) ?_
 simp (disch:=omega) [gw]
 refine bH [4] ?_
 exact cC
theorem C3(n m:Bool)(l k:List Int)(h:r9 l)(h':r9 k):aE env.P 65 [IV n l,IV m k] (I (iv n l+iv m k)):=by
 refine cD [(0,IV n l),(1,IV m k)] Tryz.func65 ?_
 have p1:=qX h
 have p2:=qX h'
 refine aA [2,3,4] ?_
 refine aQ [2,3,4,13] ?_
 refine W.cond ⟨_,rfl,fun hb=>?_,fun hb=>?_⟩
 ·have hb:n=m:=by simpa using hb
  subst hb
  have e:iv n l+iv n k=if n=true then-(V 4294967296 l+V 4294967296 k)else V 4294967296 l+V 4294967296 k:=by cases n<;>simp [iv];omega
  rw [e]
  refine nU ?_
  refine cS (VE l k h.len h'.len h.x6 h'.x6) ?_
  refine aC (gJ _ (by omega) n) ?_
  simp (disch:=omega) [gw]
  refine bH [4] ?_
  exact cC
 ·have hb:m = !n:=by cases n<;>cases m<;>simp_all
  subst hb
  refine W.skip ?_
  refine W.seq ?_
  refine W.dN (fun K hK=>?_)
  simp (disch:=omega) [gw]
  refine aC (I9 l k h.len h'.len h.x6 h'.x6) ?_
  by_cases dK:V 4294967296 l<V 4294967296 k
  ·simp (disch:=omega) [gw,R9,dK]
   refine W.lw [2,3,4,5,6] hK ?_;clear hK K;simp
   refine aA [2,3,4,5,30] ?_
   refine W.cond ⟨_,rfl,fun hb=>?_,fun hb=>?_⟩
   ·cases hb
   ·refine W.skip ?_
    refine jC ?_
    refine aC (I9 k l h'.len h.len h'.x6 h.x6) ?_
    rw [R9,if_neg (by omega)]
    simp (disch:=omega) [gw]
    refine bH [3,4,7] ?_
    refine W.dN (fun K hK=>?_)
    simp (disch:=omega) [gw]
    refine aC (gJ _ (by omega) (!n)) ?_
    simp (disch:=omega) [gw]
    refine W.lw [4] hK ?_;clear hK K;simp
    refine W.ret ?_
    have e:iv n l+iv (!n) k=if (!n)=true then-(V 4294967296 k-V 4294967296 l)else V 4294967296 k-V 4294967296 l:=by cases n<;>simp [iv]<;>omega
    rw [e]
    simp [go]
  ·simp (disch:=omega) [gw,R9,dK]
   refine W.lw [2,3,4,5,6] hK ?_;clear hK K;simp
   refine aA [2,3,4,5,30] ?_
   refine W.cond ⟨_,rfl,fun hb=>?_,fun hb=>?_⟩
   ·refine jC ?_
    refine aC (gJ _ (by omega) n) ?_
    simp (disch:=omega) [gw]
    refine bH [4] ?_
    refine W.ret ?_
    have e:iv n l+iv (!n) k=if n=true then-(V 4294967296 l-V 4294967296 k)else V 4294967296 l-V 4294967296 k:=by cases n<;>simp [iv]<;>omega
    rw [e]
    simp [go]
   ·cases hb
theorem M5(n m:Bool)(l k:List Int)(h:r9 l)(h':r9 k):aE env.P 248 [IV n l,IV m k] (I (iv n l-iv m k)):=by
 refine cD [(0,IV n l),(1,IV m k)] Tryz.func248 ?_
 have e:iv n l-iv m k=iv n l+iv (!m) k:=by cases m<;>simp [iv]<;>omega
 rw [e]
 refine aA [2,3,4] ?_
 refine aA [2,3,4] ?_
 refine aR [4] (C3 n (!m) l k h h') ?_
 exact cC
theorem C4(n:Int)(h1 : -9223372036854775808≤n)(h2:n<9223372036854775808):aE env.P 58 [.int .i64 n] (I n):=by
 refine cD [(0, .int .i64 n)] Tryz.func58 ?_
 refine aA [0,2] ?_
 refine W.sr ?_
 simp (disch:=omega) [gw,j1]
 refine bH [0,2,3] ?_
 refine W.iB (fun σ=>∃(w:Int) (rows:Pm.Rows) (clk:Nat),σ=⟨fa [(0, .int .i64 n),(2, .ptr 2 0 0 0),(3, .int .u64 w)],rows,clk⟩∧rows 2=some ⟨0,38,2,[[.bool false, .nil]]⟩∧w=n.natAbs∧0≤w∧w<18446744073709551616) ?_ ?_
 ·
  refine aA [0,2,3,7] ?_
  refine bJ ?_ ?_<;>intro h
  ·simp at h
   refine W.b7 (fun K hK=>?_)
   simp [j1]
   exact hK _ ⟨_,aB _ [0,2,3],_,_,_,rfl,by simp,by omega,by omega,by omega⟩
  ·simp at h
   refine W.skip ?_
   exact⟨_,aB _ [0,2,3],_,_,_,rfl,by simp,by omega,by omega,by omega⟩
 rintro _ ⟨w,rows,clk,rfl,hr,hw,hw0,Y7⟩
 refine W.sr ?_
 have e1:V 4294967296 [w%4294967296,w/4294967296%4294967296]=w:=by simp [V];omega
 have lm:cV 4294967296 [w%4294967296,w/4294967296%4294967296]:=by
  intro x hx;simp at hx;omega
 simp [wrap_u32',hr]
 refine aC (nM [w%4294967296,w/4294967296%4294967296] (by simp) lm) ?_
 rw [e1]
 simp (disch:=omega) [gw,hr]
 refine aC (gJ w hw0 (decide (n<0))) ?_
 simp (disch:=omega) [gw,hr]
 refine bH [2] ?_
 refine W.ret ?_
 have e:(if n<0 then -w else w)=n:=by split<;>omega
 rw [e]
 simp [go]
def ge(p:Bool × List Int):List PV:=[.bool p.1,us p.2]
def ie(x:Int):List PV:=[.bool (decide (x<0)),us (aS LL x.natAbs)]
@[simp] theorem ay4{p:Bool × List Int}:ge p = [.bool p.1,us p.2]:=rfl
@[simp] theorem ay5{x:Int}:ie x = [.bool (decide (x<0)),us (aS LL x.natAbs)]:=rfl
@[simp] theorem aqG{l:List (Bool × List Int)}:bG 2 (emap ge l)=True:=cB fun _=>rfl
@[simp] theorem aqH{l:List Int}:bG 2 (emap ie l)=True:=cB fun _=>rfl
@[simp] theorem anF{v e n:Nat}{l:List Int}:cQ (some ⟨v,e,n,emap ie l⟩)=True:=bT fun _=>rfl
@[simp] theorem anG{v e n:Nat}{l:List (Bool × List Int)}:cQ (some ⟨v,e,n,emap ge l⟩)=True:=bT fun _=>rfl
theorem AW{α:Type}{g:α→List PV}{n:Nat}(hg:Enc g n){l:List α}{i:Nat}{x:α}:iA (emap g l) i 0 (g x)=emap g (l.set i x):=by
 simp only [iA,emap,List.map_set]
 by_cases h:i<l.length
 ·have:(g l[i]).length=n:=hg _
  have h2:(g x).length=n:=hg _
  simp [h,List.drop_of_length_le,this,h2]
 ·rw [List.set_eq_of_length_le (by simp;omega),List.set_eq_of_length_le (by simp;omega)]
@[simp] theorem at5{l:List Int}{i:Nat}{x:Int}:iA (emap ie l) i 0 [.bool (decide (x<0)),us (aS LL x.natAbs)]=emap ie (l.set i x):=AW (n:=2) (fun _=>rfl)
@[simp] theorem M6{α:Type}{g:α→List PV}{l k:List α}:emap g l++emap g k=emap g (l++k):=by simp [emap]
abbrev Po(l:List Int):PV:=aJ ie l
abbrev Pg(l:List (Bool × List Int)):PV:=aJ ge l
def gv(p:Bool × List Int):Int:=iv p.1 p.2
def tN(x:Int):Bool × List Int:=(decide (x<0),aS LL x.natAbs)
theorem iL(l:List Int):Po l=Pg (l.map tN):=by simp [aJ,emap,tN]
theorem M7(x:Int):gv (tN x)=x:=by
 simp only [gv,tN,iv,kP gF]
 have:=kP gF x.natAbs
 simp only [show((LL:Nat):Int)=4294967296 from rfl]at this
 rw [this]
 by_cases h:x<0<;>simp [h]<;>omega
theorem b8(l:List Int):(l.map tN).map gv=l:=by simp [Function.comp_def,M7]
theorem sA(k:Nat):bC (bC fun q p=>Wk p q) (emap ie (List.replicate k 0)) (List.replicate k [.bool false, .nil]):=by
 have:emap ie (List.replicate k 0)=List.replicate k (ie 0):=by simp [emap]
 rw [this]
 exact MT ⟨.inl rfl, .inr ⟨rfl,rfl⟩,trivial⟩ k
structure rB(l:List (Bool × List Int)):Prop where
 ok:∀p∈l,r9 p.2
 len:l.length<1099511627776
theorem rB.nth{l:List (Bool × List Int)}(h:rB l){i:Nat}(hi:i<l.length):r9 (nth l i).2:=h.ok _ (bN hi)
def Sz(x:Int):Prop:=sz LL x<1099511627776
theorem Sz.VG{x:Int}(h:Sz x):r9 (aS LL x.natAbs):=⟨fI gF _,h⟩
theorem rB.aha{l:List Int}(h:∀x∈l,Sz x)(hl:l.length<1099511627776):rB (l.map tN):=⟨fun p hp=>by
 simp only [List.mem_map]at hp
 obtain⟨x,hx,rfl⟩:=hp
 exact(h x hx).VG,by simpa using hl⟩
theorem M8(n:Bool)(l:List Int):aE env.P 124 [IV n l] (.bool (decide (l.length=0))):=by
 refine cD [(0,IV n l)] Tryz.func124 ?_
 refine aA [1] ?_
 refine aA [2] ?_
 refine W.ret ?_
 simp [go]
 cases l<;>simp<;>omega
theorem wI(l:List Int)(hl:l.length<17592186044416):aE env.P 59 [Po l] (Po (aO l)):=by
 refine cD [(0,Po l)] Tryz.func59 ?_
 refine aA [0] ?_
 refine aA [0,3] ?_
 refine W.seq (W.block ?_)
 refine W.bE (fun k σ=>∃(rows:Pm.Rows) (clk:Nat),σ=⟨fa [(0,Po l),(3, .int .i64 (k:Int))],rows,clk⟩∧k≤l.length∧aO l=aO (l.take k)) l.length ?_ ?_
 ·exact⟨_, .refl,_,_,rfl,by omega,by simp⟩
 rintro k _ ⟨rows,clk,rfl,hk,hc⟩
 refine W.seq ?_
 refine W.eJ (fun σ=>∃(b:Bool),σ=⟨fa [(0,Po l),(3, .int .i64 (k:Int)),(15, .bool b)],rows,clk⟩∧(b=true↔0<k∧nth l (k-1)=0)) (fun K hK=>?_) ?_
 ·simp
  by_cases h0:0<k
  ·simp (disch:=omega) [gw,h0]
   refine aC (M8 _ (aS LL (nth l (k-1)).natAbs)) ?_
   simp (disch:=omega) [gw,h0]
   have e:(aS LL (nth l (k-1)).natAbs).length=0↔nth l (k-1)=0:=by
    rw [List.length_eq_zero_iff,eO gF];omega
   refine hK _ _ (aB _ [0,3,15]) ⟨_,rfl,?_⟩
   simp [h0,←e]
  ·simp (disch:=omega) [gw,h0]
   exact hK _ _ (aB _ [0,3,15]) ⟨_,rfl,by simp [h0]⟩
 rintro _ ⟨b,rfl,hb⟩
 refine bJ ?_ ?_<;>intro h
 ·obtain⟨h0,h1⟩:=hb.1 h
  refine W.skip (W.block ?_)
  refine W.b7 (fun K hK=>?_)
  simp (disch:=omega) [gw]
  refine hK _ ⟨k-1,_,Gh.fr [(0,_),(3, .int .i64 ((k-1:Nat):Int))] (by simp;omega),by omega,_,_,rfl,by omega,?_⟩
  rw [hc,show k=(k-1)+1 by omega,bF (by omega),h1,j2]
  simp
 ·have h2:aO l=l.take k:=by
   rw [hc]
   by_cases h0:0<k
   ·have h1:nth l (k-1)≠0:=fun h1=>by simp [hb.2 ⟨h0,h1⟩]at h
    rw [show k=(k-1)+1 by omega,bF (by omega)]
    exact jL h1 _
   ·have:k=0:=by omega
    subst this;simp [aO]
  refine fA ?_
  refine aA [2] ?_
  refine W.ret ?_
  simp [go,h2]
theorem gK(l:List (Bool × List Int))(h:rB l):aE env.P 64 [Pg l] (Po (aO (l.map gv))):=by
 refine cD [(0,Pg l)] Tryz.func64 ?_
 have hl:=h.len
 refine aA [0] ?_
 refine aA [0,3] ?_
 refine W.row (id:=8) (emap ie (List.replicate l.length 0)) (by simp;exact⟨rfl,rfl,rfl⟩) (sA _) ?_
 refine aQ [3,9,10,11] ?_
 refine W.block ?_
 refine W.bE (fun k σ=>∃(i:Nat) (z:List Int) (ver:Nat) (rows:Pm.Rows) (clk:Nat),σ=⟨fa [(3, .own 8 ver 0 l.length),(9,Pg l),(10, .int .i64 l.length),(11, .int .i64 i)],rows,clk⟩ ∧
  rows 8=some ⟨ver,38,2,emap ie z⟩∧k=l.length-i∧i≤l.length∧z.length=l.length∧z.take i=(l.take i).map gv) l.length ?_ ?_
 ·exact⟨_, .refl,0,List.replicate l.length 0,_,_,_,rfl,by simp,by omega,by omega,by simp,by simp⟩
 rintro k _ ⟨i,z,ver,rows,clk,rfl,hr,hk,hi,hz,hv⟩
 refine bU [3,9,10,11,12] ?_
 refine W.cond ⟨_,rfl,fun dK=>?_,fun dK=>?_⟩
 ·simp at dK
  refine lF ?_
  refine W.sr ?_
  simp (disch:=omega) [gw,hr]
  refine bH [3,4,5,9,10,11] ?_
  refine W.b7 (fun K hK=>?_)
  simp (disch:=omega) [gw,hr]
  refine aC (GH _ _ (h.nth dK)) ?_
  simp (disch:=omega) [gw,hr]
  refine W.lw [3,9,10,11] hK ?_;clear hK K;simp
  refine W.b7 (fun K hK=>?_)
  simp (disch:=omega) [gw]
  refine hK _ ⟨l.length-(i+1),_,aB _ [3,9,10,11],by omega,i+1,z.set i (iv (nth l i).1 (nth l i).2),ver,_,_,rfl,by simp,by omega,by omega,by simpa using hz,?_⟩
  rw [mG hv (by omega),oU dK];rfl
 ·simp at dK
  have iQ:i=l.length:=by omega
  subst iQ
  refine fA ?_
  rw [bL hz]at hv
  have uT:=bL hz
  refine W.sr ?_
  simp (disch:=omega) [gw,hr,uT]
  refine aC (wI z (by omega)) ?_
  simp (disch:=omega) [gw]
  refine bH [2] ?_
  refine W.ret ?_
  simp at hv
  simp [go,hv]
theorem JA(l:List (Bool × List Int))(k:Nat)(hl:l.length<1099511627776)(hk:k<9223372036854775808):aE env.P 243 [Pg l, .int .i64 k] (.ag (ge (nth l k))):=by
 refine cD [(0,Pg l),(1, .int .i64 k)] Tryz.func243 ?_
 refine aA [0,1,4] ?_
 refine aQ [0,1,4,8] ?_
 refine bJ ?_ ?_<;>intro h
 ·simp at h
  refine aA [4] ?_
  exact cC
 ·simp at h
  refine W.skip ?_
  refine aA [4] ?_
  refine W.ret ?_
  rw [iI h]
  simp [go]
  exact⟨rfl,rfl⟩
theorem sB(g:FuncId)(hw:I7 g=false)(caps:List PV)(hc:caps.all dA=true)(n:Nat)(hn:n<1099511627776)(val:Nat→Int)(hg:∀k,k<n→aE env.P g (.int .i64 (k:Int)::caps) (I (val k)))(hm:wF g=false:=by rfl) :
  aE env.P 163 [.int .i64 n, .fn g caps] (Po (aO ((List.range n).map val))):=by
 refine cD [(0, .int .i64 n),(1, .fn g caps)] Tryz.func163 ?_
 refine aA [0,1] ?_
 refine aA [1,5] ?_
 refine W.row (id:=8) (emap ie (List.replicate n 0)) (by simp;exact⟨rfl,rfl,rfl⟩) (sA _) ?_
 refine aQ [1,5,10,11] ?_
 refine W.block ?_
 refine W.bE (fun k σ=>∃(i:Nat) (z:List Int) (ver:Nat) (rows:Pm.Rows) (clk:Nat),σ=⟨fa [(1, .fn g caps),(5, .own 8 ver 0 n),(10, .int .i64 n),(11, .int .i64 i)],rows,clk⟩ ∧
  rows 8=some ⟨ver,38,2,emap ie z⟩∧k=n-i∧i≤n∧z.length=n∧z.take i=(List.range i).map val) n ?_ ?_
 ·exact⟨_, .refl,0,List.replicate n 0,_,_,_,rfl,by simp,by omega,by omega,by simp,by simp⟩
 rintro k _ ⟨i,z,ver,rows,clk,rfl,hr,hk,hi,hz,hv⟩
 refine bU [1,5,10,11,12] ?_
 refine bJ ?_ ?_<;>intro h
 ·simp at h
  refine lF ?_
  refine aA [1,5,6,10,11] ?_
  refine W.b7 (fun K hK=>?_)
  simp (disch:=omega) [gw,hr, -I7,hw, -wF,hm]
  refine aC (hg i h) ?_
  simp (disch:=omega) [gw,hr]
  refine W.lw [1,5,10,11] hK ?_;clear hK K;simp
  refine W.b7 (fun K hK=>?_)
  simp (disch:=omega) [gw]
  refine hK _ ⟨n-(i+1),_,aB _ [1,5,10,11],by omega,i+1,z.set i (val i),ver,_,_,rfl,by simp,by omega,by omega,by simpa using hz,?_⟩
  rw [mG hv (by omega),List.range_succ];simp
 ·simp at h
  have iQ:i=n:=by omega
  subst iQ
  refine fA ?_
  rw [bL hz]at hv
  have uT:=bL hz
  refine W.sr ?_
  simp (disch:=omega) [gw,hr,uT]
  refine aC (wI z (by omega)) ?_
  simp (disch:=omega) [gw]
  refine bH [4] ?_
  refine W.ret ?_
  simp [go,hv]
end Go.Proofs.YtiobceocpabjdaaGreat
