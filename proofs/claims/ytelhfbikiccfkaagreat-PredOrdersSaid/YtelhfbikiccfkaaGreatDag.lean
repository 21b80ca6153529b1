import Derived.KernelRfl
import Derived.Test.YtelhfbikiccfkaaGreatDad
import Derived.Test.YtelhfbikiccfkaaGreatDae
import Derived.Test.YtelhfbikiccfkaaGreatDaf
set_option linter.unusedSimpArgs false
set_option linter.unusedVariables false
namespace Go.Proofs.YtelhfbikiccfkaaGreat
open Go Pm
theorem b6{D5:FuncId}{fn:Func}{code:Code}{args:List PV}{r:PV}(l:List (Nat × PV))(h1:env.P.funcs[D5]? = some fn)(h:W env fn.ntmps (fun _=>0) code (acS env fn.results.toList r) ⟨fa l,fun _=>none,0⟩)(h2:fn.body=some code:=by rfl) (h3:(fn.name == "runtime.NumGoroutine") = false:=by kernel_rfl) (iI:fO env fn.ntmps (fun _=>0) code=true:=by kernel_rfl) (gZ:args.length≤fn.ntmps:=by exact of_decide_eq_true (by kernel_rfl)) (hl:∀p∈l,args.getD p.1 .undef=p.2:=by simp):aD env.P D5 args r:=
  dH (fun _=>0) l h1 h2 h3 iI gZ hl h
def u32(n:Int):List PV:=[.int .u32 n]
@[simp] theorem aw8{n:Int}:u32 n = [.int .u32 n]:=rfl
theorem aii:Enc u32 1:=fun _=>rfl
theorem adX:aso u32:=fun _=>rfl
@[simp] theorem aon{l:List Int}:bT 1 (emap u32 l)=True:=cY aii
@[simp] theorem ak7{v e n:Nat}{l:List Int}:dG (some ⟨v,e,n,emap u32 l⟩)=True:=cN adX
@[simp] theorem aw9{n:Nat}:List.replicate n [PV.int .u32 0]=emap u32 (List.replicate n 0):=by simp [emap]
@[simp] theorem arf{l:List Int}{i:Nat}{x:Int}:i5 (emap u32 l) i 0 [.int .u32 x]=emap u32 (l.set i x):=by
 simp only [i5,emap,List.map_set]
 by_cases h:i<l.length
 ·simp [h]
 ·rw [List.set_eq_of_length_le (by simp;omega),List.set_eq_of_length_le (by simp;omega)]
@[simp] theorem aun{α:Type}{g:α→List PV}{l:List α}:(emap g l).length=l.length:=by simp [emap]
abbrev us(l:List Int):PV:=aG u32 l
abbrev LL:Nat:=4294967296
abbrev N(x:Int):PV:=us (aP LL x.toNat)
theorem eB:2≤LL:=by decide
theorem xW{l:List Int}(h:cW 4294967296 l):us (aL l)=N (V 4294967296 l):=by rw [tB eB h];rfl
theorem dZ(l:List Int)(hl:l.length<17592186044416):aD env.P 214 [us l] (us (aL l)):=by
 refine b6 [(0,us l)] Tryz.func214 ?_
 refine aA [0] ?_
 refine aA [0,3] ?_
 refine W.seq (W.block ?_)
 refine W.bE (fun k σ=>∃(rows:Pm.Rows) (clk:Nat),σ=⟨fa [(0,us l),(3, .int .i64 (k:Int))],rows,clk⟩∧k≤l.length∧aL l=aL (l.take k)) l.length ?_ ?_
 ·exact⟨_, .refl,_,_,rfl,by omega,by simp⟩
 rintro k _ ⟨rows,clk,rfl,hk,hc⟩
 refine W.seq ?_
 refine W.fY (fun σ=>∃(b:Bool),σ=⟨fa [(0,us l),(3, .int .i64 (k:Int)),(15, .bool b)],rows,clk⟩∧(b=true↔0<k∧nth l (k-1)=0)) (fun K hK=>?_) ?_
 ·simp
  by_cases h0:0<k
  ·simp (disch:=omega) [gw,h0]
   exact hK _ _ (aC _ [0,3,15]) ⟨_,rfl,by simp [h0]⟩
  ·simp (disch:=omega) [gw,h0]
   exact hK _ _ (aC _ [0,3,15]) ⟨_,rfl,by simp [h0]⟩
 rintro _ ⟨b,rfl,hb⟩
 refine bF ?_ ?_<;>intro h
 ·obtain⟨h0,h1⟩:=hb.1 h
  refine W.skip (W.block ?_)
  refine W.cE (fun K hK=>?_)
  simp (disch:=omega) [gw]
  refine hK _ ⟨k-1,_,Gh.fr [(0,_),(3, .int .i64 ((k-1:Nat):Int))] (by simp;omega),by omega,_,_,rfl,by omega,?_⟩
  rw [hc,show k=(k-1)+1 by omega,aY (by omega),h1,j9]
  simp
 ·have h2:aL l=l.take k:=by
   rw [hc]
   by_cases h0:0<k
   ·have h1:nth l (k-1)≠0:=fun h1=>by simp [hb.2 ⟨h0,h1⟩]at h
    rw [show k=(k-1)+1 by omega,aY (by omega)]
    exact iZ h1 _
   ·have:k=0:=by omega
    subst this;simp [aL]
  refine eV ?_
  refine aA [2] ?_
  refine W.ret ?_
  simp [h2]
theorem oC(l:List Int)(hl:l.length<1099511627776)(hm:cW 4294967296 l):aD env.P 139 [us l] (N (V 4294967296 l)):=by
 rw [←xW hm]
 refine b6 [(0,us l)] Tryz.func139 ?_
 refine aA [0] ?_
 refine W.sr ?_
 simp
 refine aB (dZ l (by omega)) ?_
 have:=cG l
 simp (disch:=omega) [gw]
 refine bN [2] ?_
 refine W.ret ?_
 simp
theorem XK(a b:List Int)(ha:a.length<1099511627776)(hb:b.length<1099511627776)(la:cW 4294967296 a)(lb:cW 4294967296 b):aD env.P 149 [us a,us b] (N (V 4294967296 a+V 4294967296 b)):=by
 refine b6 [(0,us a),(1,us b)] Tryz.func149 ?_
 refine aA [0,1] ?_
 refine W.sr ?_
 simp
 refine aB (dZ a (by omega)) ?_
 simp
 refine aB (dZ b (by omega)) ?_
 simp
 refine bN [0,1] ?_
 refine W.gJ (fun σ=>∃(x y:List Int) (rows:Pm.Rows) (clk:Nat),σ=⟨fa [(0,us x),(1,us y)],rows,clk⟩∧cW 4294967296 x∧cW 4294967296 y∧y.length≤x.length∧x.length<1099511627776 ∧
  V 4294967296 a+V 4294967296 b=V 4294967296 x+V 4294967296 y) ?_ ?_
 ·have h1:=cG a
  have h2:=cG b
  refine aA [0,1,18] ?_
  refine bF ?_ ?_<;>intro h
  ·simp at h
   refine W.cE (fun K hK=>?_)
   simp (disch:=omega) [gw]
   exact hK _ ⟨_,aC _ [0,1],_,_,_,_,rfl,eS lb,eS la,by omega,by omega,by simp [dF];omega⟩
  ·simp at h
   refine W.skip ?_
   exact⟨_,aC _ [0,1],_,_,_,_,rfl,eS la,eS lb,by omega,by omega,by simp [dF]⟩
 rintro _ ⟨x,y,rows,clk,rfl,lx,ly,rU,hx,hV⟩
 rw [hV]
 clear hV la lb ha hb a b
 refine aA [0,1,5] ?_
 refine aA [0,1,5,6] ?_
 refine aM [0,1,5,6,25,26,27] ?_
 refine W.block ?_
 refine W.bE (fun k σ=>∃(i:Nat) (c:Int) (z:List Int) (ver:Nat) (rows:Pm.Rows) (clk:Nat),σ=⟨fa [(0,us x),(1,us y),(5, .own 24 ver 0 (x.length+1)),(6, .int .u64 c),(25,us x),(26, .int .i64 x.length),(27, .int .i64 i)],rows,clk⟩ ∧
   rows 24=some ⟨ver,182,1,emap u32 z⟩∧k=x.length-i∧i≤x.length∧z.length=x.length+1∧cW 4294967296 z∧0≤c∧c≤1 ∧
   V 4294967296 (z.take i)+4294967296^i*c=V 4294967296 (x.take i)+V 4294967296 (y.take i)) x.length ?_ ?_
 ·exact⟨_, .refl,0,0,List.replicate (x.length+1) 0,_,_,_,rfl,by simp,by omega,by omega,by simp,cW.rep (by decide) _,by omega,by omega,by simp [V]⟩
 rintro k _ ⟨i,c,z,ver,rows,clk,rfl,hr,hk,hi,hz,lz,zY,xI,hV⟩
 refine cB [0,1,5,6,25,26,27,28] ?_
 refine bF ?_ ?_<;>intro h
 ·simp at h
  have hxi:=lx.nth h
  refine jV ?_
  refine aA [0,1,5,6,7,8,25,26,27] ?_
  refine aA [0,1,5,7,9,25,26,27] ?_
  refine W.gJ (fun σ=>∃(s:Int),σ=⟨fa [(0,us x),(1,us y),(5, .own 24 ver 0 (x.length+1)),(7, .int .i64 i),(9, .int .u64 s),(25,us x),(26, .int .i64 x.length),(27, .int .i64 i)],rows,clk⟩∧0≤s∧s<8589934592 ∧
   V 4294967296 (x.take (i+1))+V 4294967296 (y.take (i+1))=V 4294967296 (z.take i)+4294967296^i*s) ?_ ?_
  ·
   refine aA [0,1,5,7,9,25,26,27,39] ?_
   refine bF ?_ ?_<;>intro h
   ·simp at h
    have R5:=ly.nth h
    refine W.cE (fun K hK=>?_)
    simp (disch:=omega) [gw]
    refine hK _ ⟨_,aC _ [0,1,5,7,9,25,26,27],_,rfl,by omega,by omega,?_⟩
    rw [aZ (by omega),aZ (by omega)]
    grind
   ·simp at h
    refine W.skip ?_
    refine⟨_,aC _ [0,1,5,7,9,25,26,27],_,rfl,by omega,by omega,?_⟩
    rw [aZ (by omega),bJ (l:=y) (by omega)]
    rw [bJ (l:=y) (by omega)]at hV
    grind
  rintro _ ⟨s,rfl,R9,sO,T7⟩
  refine W.cE (fun K hK=>?_)
  simp (disch:=omega) [gw,hr,wrap_u32']
  refine W.lw [0,1,5,6,25,26,27] hK ?_;clear hK K;simp
  refine W.cE (fun K hK=>?_)
  simp (disch:=omega) [gw]
  refine hK _ ⟨x.length-(i+1),_,aC _ [0,1,5,6,25,26,27],by omega,i+1,s/4294967296,z.set i (s%4294967296),ver,_,_,rfl,by simp,by omega,by omega,by simpa using hz,lz.set (by omega),by omega,by omega,?_⟩
  rw [fQ (by omega),T7,Int.pow_succ]
  have:=Int.emod_add_mul_ediv s 4294967296
  grind
 ·simp at h
  have kN:i=x.length:=by omega
  subst kN
  refine eV ?_
  refine W.sr ?_
  simp (disch:=omega) [gw,hr]
  refine bN [5] ?_
  have uN:List.take (x.length+1) (z.set x.length c)=z.set x.length c:=List.take_of_length_le (by simp;omega)
  refine W.sr ?_
  simp (disch:=omega) [gw,uN]
  refine aB (dZ (z.set x.length c) (by simp;omega)) ?_
  simp (disch:=omega) [gw]
  refine bN [4] ?_
  refine W.ret ?_
  have e:V 4294967296 (z.set x.length c)=V 4294967296 x+V 4294967296 y:=by
   rw [←bJ (l:=z.set x.length c) (i:=x.length+1) (by simp;omega),fQ (by omega),hV,bJ (l:=y) (by omega)]
   simp
  rw [←e,xW (lz.set (by omega))]
  simp
theorem KX(a b:List Int)(ha:a.length<1099511627776)(hb:b.length<1099511627776)(la:cW 4294967296 a)(lb:cW 4294967296 b):aD env.P 218 [us a,us b] (.int .i64 (dQ (V 4294967296 a) (V 4294967296 b))):=by
 refine b6 [(0,us a),(1,us b)] Tryz.func218 ?_
 refine aA [0,1] ?_
 refine W.sr ?_
 simp
 refine aB (dZ a (by omega)) ?_
 simp
 refine aB (dZ b (by omega)) ?_
 simp
 refine bN [0,1] ?_
 have cx:=dX a;have lx:=eS la;have hx:=cG a
 have cy:=dX b;have ly:=eS lb;have hy:=cG b
 rw [←dF a,←dF b]
 generalize aL a=x at *
 generalize aL b=y at *
 refine aM [0,1,14] ?_
 refine bF ?_ ?_<;>intro h
 ·simp at h
  refine aM [19] ?_
  refine bF ?_ ?_<;>intro h
  ·simp at h
   refine aA [4] ?_
   refine W.ret ?_
   simp [nK (kB (by decide) lx ly cy h)]
  ·simp at h
   refine W.skip ?_
   refine aA [4] ?_
   refine W.ret ?_
   simp [nM (kB (by decide) ly lx cx (by omega))]
 ·simp at h
  have hlen:x.length=y.length:=by omega
  clear h
  refine W.skip ?_
  refine aM [0,1,5] ?_
  refine W.block ?_
  refine W.bE (fun k σ=>∃(rows:Pm.Rows) (clk:Nat),σ=⟨fa [(0,us x),(1,us y),(5, .int .i64 ((k:Int)-1))],rows,clk⟩∧k≤x.length∧x.drop k=y.drop k) x.length ?_ ?_
  ·exact⟨_, .refl,_,_,rfl,by omega,by rw [List.drop_of_length_le (by omega),List.drop_of_length_le (by omega)]⟩
  rintro k _ ⟨rows,clk,rfl,hk,hd⟩
  refine aM [0,1,5,24] ?_
  refine bF ?_ ?_<;>intro h
  ·have h0:0<k:=by simp at h;omega
   obtain⟨j,rfl⟩:∃j,k=j+1:=⟨k-1,by omega⟩
   clear h
   refine jV ?_
   refine W.seq ?_
   refine iQ ?_
   refine bN [0,1,5,35] ?_
   refine bF ?_ ?_<;>intro h
   ·simp at h
    refine aA [4] ?_
    refine W.ret ?_
    simp [nK (oX (by decide) lx ly hlen (by omega) hd h)]
   ·simp at h
    refine W.skip ?_
    refine iQ ?_
    refine bN [0,1,5,44] ?_
    refine W.cond ⟨_,rfl,fun h2=>?_,fun h2=>?_⟩
    ·simp at h2
     refine aA [4] ?_
     refine W.ret ?_
     simp [nM (oX (by decide) ly lx hlen.symm (by omega) hd.symm h2)]
    ·simp at h2
     refine W.skip ?_
     refine W.cE (fun K hK=>?_)
     simp (disch:=omega) [gw]
     refine hK _ ⟨j,_,aC _ [0,1,5],by omega,_,_,rfl,by omega,?_⟩
     rw [fP (l:=x) (i:=j) (by omega),fP (l:=y) (i:=j) (by omega),hd,show nth x j=nth y j by omega]
  ·have h0:k=0:=by simp at h;omega
   subst h0
   simp at hd
   subst hd
   refine eV ?_
   refine aA [4] ?_
   refine W.ret ?_
   simp [xR]
def T8(x y:Int):PV:=if x<y then .fE [us [], .bool false]else .fE [N (x-y), .bool true]
theorem KY(a b:List Int)(ha:a.length<1099511627776)(hb:b.length<1099511627776)(la:cW 4294967296 a)(lb:cW 4294967296 b):aD env.P 150 [us a,us b] (T8 (V 4294967296 a) (V 4294967296 b)):=by
 refine b6 [(0,us a),(1,us b)] Tryz.func150 ?_
 refine aA [0,1] ?_
 refine W.sr ?_
 simp
 refine aB (dZ a (by omega)) ?_
 simp
 refine aB (dZ b (by omega)) ?_
 simp
 refine bN [0,1] ?_
 have cx:=dX a;have lx:=eS la;have hx:=cG a
 have cy:=dX b;have ly:=eS lb;have hy:=cG b
 rw [←dF a,←dF b]
 generalize aL a=x at *
 generalize aL b=y at *
 refine W.seq ?_
 refine W.sr ?_
 simp
 refine aB (KX x y (by omega) (by omega) lx ly) ?_
 simp (disch:=omega) [gw]
 refine bN [0,1,18] ?_
 refine bF ?_ ?_<;>intro h
 ·have h:V 4294967296 x<V 4294967296 y:=n6.1 (by simpa using h)
  refine aA [4,5] ?_
  refine W.ret ?_
  simp [T8,h]
  rfl
 ·have h:V 4294967296 y≤V 4294967296 x:=tC.1 (by simpa using h)
  have hyx:y.length≤x.length:=by
   rcases Nat.lt_or_ge x.length y.length with h2 | h2
   ·have:=kB (by decide) lx ly cy h2;omega
   ·exact h2
  refine W.skip ?_
  refine aA [0,1,6] ?_
  refine aA [0,1,6,7] ?_
  refine aM [1,6,7,22,23,24] ?_
  refine W.block ?_
  refine W.bE (fun k σ=>∃(i:Nat) (c:Int) (z:List Int) (ver:Nat) (rows:Pm.Rows) (clk:Nat),σ=⟨fa [(1,us y),(6, .own 21 ver 0 x.length),(7, .int .u64 c),(22,us x),(23, .int .i64 x.length),(24, .int .i64 i)],rows,clk⟩ ∧
   rows 21=some ⟨ver,182,1,emap u32 z⟩∧k=x.length-i∧i≤x.length∧z.length=x.length∧cW 4294967296 z∧0≤c∧c≤1 ∧
   V 4294967296 (z.take i)-4294967296^i*c=V 4294967296 (x.take i)-V 4294967296 (y.take i)) x.length ?_ ?_
  ·exact⟨_, .refl,0,0,List.replicate x.length 0,_,_,_,rfl,by simp,by omega,by omega,by simp,cW.rep (by decide) _,by omega,by omega,by simp [V]⟩
  rintro k _ ⟨i,c,z,ver,rows,clk,rfl,hr,hk,hi,hz,lz,zY,xI,hV⟩
  refine cB [1,6,7,22,23,24,25] ?_
  refine bF ?_ ?_<;>intro h
  ·simp at h
   have hxi:=lx.nth h
   refine jV ?_
   refine aA [1,6,7,8,9,22,23,24] ?_
   refine W.sr ?_
   simp (disch:=omega) [gA,wrap_u64 hxi.1]
   refine bN [1,6,8,10,22,23,24] ?_
   refine W.gJ (fun σ=>∃(d:Int),σ=⟨fa [(1,us y),(6, .own 21 ver 0 x.length),(8, .int .i64 i),(10, .int .u64 (IntKind.u64.wrap d)),(22,us x),(23, .int .i64 x.length),(24, .int .i64 i)],rows,clk⟩ ∧ -4294967296≤d∧d<4294967296 ∧
    V 4294967296 (x.take (i+1))-V 4294967296 (y.take (i+1))=V 4294967296 (z.take i)+4294967296^i*d) ?_ ?_
   ·
    refine aA [1,6,8,10,22,23,24,36] ?_
    refine bF ?_ ?_<;>intro h
    ·simp at h
     have R5:=ly.nth h
     refine W.cE (fun K hK=>?_)
     simp (disch:=omega) [gA,wrap_u64 R5.1]
     refine hK _ ⟨_,aC _ [1,6,8,10,22,23,24],nth x i-c-nth y i,?_,by omega,by omega,?_⟩
     ·have:IntKind.u64.wrap (IntKind.u64.wrap (nth x i-c)-nth y i)=IntKind.u64.wrap (nth x i-c-nth y i):=by
       simp only [j8];omega
      simp [this]
     rw [aZ (by omega),aZ (by omega)]
     grind
    ·simp at h
     refine W.skip ?_
     refine⟨_,aC _ [1,6,8,10,22,23,24],_,rfl,by omega,by omega,?_⟩
     rw [aZ (by omega),bJ (l:=y) (by omega)]
     rw [bJ (l:=y) (by omega)]at hV
     grind
   rintro _ ⟨d,rfl,R9,sO,T7⟩
   refine W.cE (fun K hK=>?_)
   simp (disch:=omega) [gw,hr,wrap_u32']
   refine W.lw [1,6,7,22,23,24] hK ?_;clear hK K;simp
   refine W.cE (fun K hK=>?_)
   simp (disch:=omega) [gw]
   have e1:d=IntKind.u64.wrap d%4294967296-4294967296*(IntKind.u64.wrap d/9223372036854775808)∧0≤IntKind.u64.wrap d/9223372036854775808∧IntKind.u64.wrap d/9223372036854775808≤1:=by
    rw [j8];omega
   generalize IntKind.u64.wrap d=s at *
   refine hK _ ⟨x.length-(i+1),_,aC _ [1,6,7,22,23,24],by omega,i+1,s/9223372036854775808,z.set i (s%4294967296),ver,_,_,rfl,by simp,by omega,by omega,by simpa using hz,lz.set (by omega),by omega,by omega,?_⟩
   rw [fQ (by omega),T7,Int.pow_succ]
   grind
  ·simp at h
   have kN:i=x.length:=by omega
   subst kN
   refine eV ?_
   have uN:z.take x.length=z:=List.take_of_length_le (by omega)
   have e:V 4294967296 z=V 4294967296 x-V 4294967296 y:=by
    rw [uN,bJ (Nat.le_refl _),bJ (l:=y) (by omega)]at hV
    have h1:=pJ (by decide) lz
    rw [hz]at h1
    have:c=0:=by
     rcases Int.lt_or_le c 1 with h2 | h2
     ·omega
     ·have h3:c=1:=by omega
      subst h3;omega
    subst this;omega
   refine W.sr ?_
   simp (disch:=omega) [gw,hr,uN]
   refine aB (dZ z (by omega)) ?_
   simp (disch:=omega) [gw]
   refine bN [4,5] ?_
   refine W.ret ?_
   rw [T8,if_neg (by omega),←e,←xW lz]
   simp
theorem aij{a b:Int}(ha:0≤a∧a<4294967296)(hb:0≤b∧b<4294967296):0≤a*b∧a*b≤18446744065119617025:=by
 refine⟨Int.mul_nonneg ha.1 hb.1,?_⟩
 have:=Int.mul_le_mul (show a≤4294967295 by omega) (show b≤4294967295 by omega) hb.1 (by decide)
 simpa using this
theorem aik(a b:List Int)(ha:a.length<1099511627776)(hb:b.length<1099511627776)(la:cW 4294967296 a)(lb:cW 4294967296 b):aD env.P 151 [us a,us b] (N (V 4294967296 a*V 4294967296 b)):=by
 refine b6 [(0,us a),(1,us b)] Tryz.func151 ?_
 refine aA [0,1] ?_
 refine W.sr ?_
 simp
 refine aB (dZ a (by omega)) ?_
 simp
 refine aB (dZ b (by omega)) ?_
 simp
 refine bN [0,1] ?_
 have lx:=eS la;have hx:=cG a
 have ly:=eS lb;have hy:=cG b
 rw [←dF a,←dF b]
 generalize aL a=x at *
 generalize aL b=y at *
 refine aA [0,1,5] ?_
 refine aM [1,5,22,23,24] ?_
 refine W.block ?_
 refine W.bE (fun k σ=>∃(i:Nat) (z:List Int) (ver:Nat) (rows:Pm.Rows) (clk:Nat),σ=⟨fa [(1,us y),(5, .own 21 ver 0 (x.length+y.length)),(22,us x),(23, .int .i64 x.length),(24, .int .i64 i)],rows,clk⟩ ∧
   rows 21=some ⟨ver,182,1,emap u32 z⟩∧k=x.length-i∧i≤x.length∧z.length=x.length+y.length∧cW 4294967296 z∧(∀j,i+y.length≤j→nth z j=0) ∧
   V 4294967296 z=V 4294967296 (x.take i)*V 4294967296 y) x.length ?_ ?_
 ·have e:((x.length:Int)+(y.length:Int)).toNat=x.length+y.length:=by omega
  refine⟨_, .refl,0,List.replicate (x.length+y.length) 0,_,_,_,rfl,by simp [e],by omega,by omega,by simp,cW.rep (by decide) _,fun j _=>?_,by simp [V,r7]⟩
  unfold nth
  cases h:(List.replicate (x.length+y.length) (0:Int))[j]? with
  | none=>rfl
  | some v=>have:=List.mem_of_getElem? h;simp at this;simp [this]
 rintro k _ ⟨i,z,ver,rows,clk,rfl,hr,hk,hi,hz,lz,pG,hV⟩
 refine cB [1,5,22,23,24,25] ?_
 refine bF ?_ ?_<;>intro h
 ·simp at h
  have hxi:=lx.nth h
  refine W.skip ?_
  refine W.dV (fun σ=>∃(z:List Int) (ver:Nat) (rows:Pm.Rows) (clk:Nat),σ=⟨fa [(1,us y),(5, .own 21 ver 0 (x.length+y.length)),(22,us x),(23, .int .i64 x.length),(24, .int .i64 i)],rows,clk⟩ ∧
   rows 21=some ⟨ver,182,1,emap u32 z⟩∧z.length=x.length+y.length∧cW 4294967296 z∧(∀j,i+1+y.length≤j→nth z j=0) ∧
   V 4294967296 z=V 4294967296 (x.take (i+1))*V 4294967296 y) ?_ ?_
  ·
   refine aA [1,5,6,7,22,23,24] ?_
   refine aA [1,5,6,7,8,22,23,24] ?_
   refine aM [1,5,6,7,8,22,23,24,29,30,31] ?_
   refine W.block ?_
   refine W.bE (fun m σ=>∃(k:Nat) (c:Int) (z:List Int) (ver:Nat) (rows:Pm.Rows) (clk:Nat),σ=⟨fa [(1,us y),(5, .own 21 ver 0 (x.length+y.length)),(6, .int .i64 i),(7, .int .u32 (nth x i)),(8, .int .u64 c),(22,us x),(23, .int .i64 x.length),(24, .int .i64 i),(29,us y),(30, .int .i64 y.length),(31, .int .i64 k)],rows,clk⟩ ∧
    rows 21=some ⟨ver,182,1,emap u32 z⟩∧m=y.length-k∧k≤y.length∧z.length=x.length+y.length∧cW 4294967296 z∧(∀j,i+y.length≤j→nth z j=0)∧0≤c∧c<4294967296 ∧
    V 4294967296 z+4294967296^(i+k)*c=V 4294967296 (x.take i)*V 4294967296 y+4294967296^i*nth x i*V 4294967296 (y.take k)) y.length ?_ ?_
   ·exact⟨_, .refl,0,0,z,ver,_,_,rfl,by simpa using hr,by omega,by omega,hz,lz,pG,by omega,by omega,by simp [V,hV]⟩
   clear hV pG lz hz hr z ver rows clk
   rintro m _ ⟨k,c,z,ver,rows,clk,rfl,hr,hm,hky,hz,lz,pG,zY,xI,hV⟩
   refine cB [1,5,6,7,8,22,23,24,29,30,31,32] ?_
   refine W.cond ⟨_,rfl,fun h2=>?_,fun h2=>?_⟩
   ·simp at h2
    have hyk:=ly.nth h2
    have hzk:=lz.nth (i:=i+k) (by omega)
    have hp:=aij hxi hyk
    refine jV ?_
    refine aA [1,5,6,7,8,9,10,22,23,24,29,30,31] ?_
    have e0:((i:Int)+(k:Int)).toNat=i+k:=by omega
    refine W.sr ?_
    simp (disch:=omega) [gw,hr,e0]
    refine bN [1,5,6,7,9,11,22,23,24,29,30,31] ?_
    refine W.cE (fun K hK=>?_)
    simp (disch:=omega) [gw,hr,e0,wrap_u32']
    refine W.lw [1,5,6,7,8,22,23,24,29,30,31] hK ?_;clear hK K;simp
    refine W.cE (fun K hK=>?_)
    simp (disch:=omega) [gw]
    have e1:=Int.emod_add_mul_ediv (nth x i*nth y k+nth z (i+k)+c) 4294967296
    have hs:0≤nth x i*nth y k+nth z (i+k)+c∧nth x i*nth y k+nth z (i+k)+c<18446744073709551616:=by omega
    have T7:=H9 (b:=4294967296) (l:=z) (i:=i+k) (x:=(nth x i*nth y k+nth z (i+k)+c)%4294967296) (by omega)
    refine hK _ ⟨y.length-(k+1),_,aC _ [1,5,6,7,8,22,23,24,29,30,31],by omega,k+1,_,z.set (i+k) ((nth x i*nth y k+nth z (i+k)+c)%4294967296),ver,_,_,rfl,by simp,by omega,by omega,by simpa using hz,lz.set (by omega),fun j hj=>?_,by omega,by omega,?_⟩
    ·rw [iG (by omega)];exact pG j hj
    ·rw [T7,aZ h2,show i+(k+1)=(i+k)+1 by omega,Int.pow_succ,Int.pow_add]
     rw [Int.pow_add]at hV
     grind
   ·simp at h2
    have zB:k=y.length:=by omega
    subst zB
    refine eV ?_
    refine aA [1,5,6,8,22,23,24,63] ?_
    refine W.cond ⟨_,rfl,fun h3=>?_,fun h3=>?_⟩
    ·simp at h3
     have e0:((i:Int)+(y.length:Int)).toNat=i+y.length:=by omega
     refine W.cE (fun K hK=>?_)
     simp (disch:=omega) [gw,hr,e0]
     have T7:=H9 (b:=4294967296) (l:=z) (i:=i+y.length) (x:=c) (by omega)
     refine hK _ ⟨_,aC _ [1,5,22,23,24],z.set (i+y.length) c,ver,_,_,rfl,by simp,by simpa using hz,lz.set (by omega),fun j hj=>?_,?_⟩
     ·rw [iG (by omega)];exact pG j (by omega)
     ·rw [T7,aZ h,pG _ (Nat.le_refl _)]
      rw [bJ (Nat.le_refl _)]at hV
      grind
    ·simp at h3
     refine W.skip ?_
     refine⟨_,aC _ [1,5,22,23,24],z,ver,_,_,rfl,hr,hz,lz,fun j hj=>pG j (by omega),?_⟩
     subst h3
     simp only [V,List.take_nil,Int.mul_zero,Int.add_zero,List.length_nil]at hV ⊢
     have h4:=bZ (by decide) lz
     have h5:0≤(4294967296:Int)^i*c:=Int.mul_nonneg (Int.le_of_lt (Int.pow_pos (by decide))) zY
     simp only [Nat.add_zero]at hV
     omega
  clear hV pG lz hz hr z ver rows clk
  rintro _ ⟨z,ver,rows,clk,rfl,hr,hz,lz,pG,hV⟩
  refine W.cE (fun K hK=>?_)
  simp (disch:=omega) [gw]
  exact hK _ ⟨x.length-(i+1),_,aC _ [1,5,22,23,24],by omega,i+1,z,ver,_,_,rfl,hr,by omega,by omega,hz,lz,pG,hV⟩
 ·simp at h
  have kN:i=x.length:=by omega
  subst kN
  have uN:List.take (x.length+y.length) z=z:=List.take_of_length_le (by omega)
  refine eV ?_
  refine W.sr ?_
  simp (disch:=omega) [gw,hr,uN]
  refine aB (dZ z (by omega)) ?_
  simp (disch:=omega) [gw]
  refine bN [4] ?_
  refine W.ret ?_
  rw [bJ (Nat.le_refl _)]at hV
  rw [←hV,←xW lz]
  simp
abbrev IV(neg:Bool)(l:List Int):PV:=.ag [.bool neg,us l]
def iv(neg:Bool)(l:List Int):Int:=if neg=true then-V 4294967296 l else V 4294967296 l
abbrev I(x:Int):PV:=IV (decide (x<0)) (aP LL x.natAbs)
structure qI(l:List Int):Prop where
 xX:cW 4294967296 l
 len:l.length<1099511627776
theorem gS(y:Int)(hy:0≤y)(neg:Bool):aD env.P 138 [N y, .bool neg] (I (if neg=true then -y else y)):=by
 refine b6 [(0,N y),(1, .bool neg)] Tryz.func138 ?_
 refine aA [0,1,4] ?_
 have e0:(aP LL y.toNat = [])↔y=0:=by rw [eZ eB];omega
 have e:I (if neg=true then -y else y) = .ag [.bool (neg&&decide (0<(aP LL y.toNat).length)),N y]:=by
  have h1:0<(aP LL y.toNat).length↔y≠0:=by
   rw [List.length_pos_iff];simp [e0]
  have e2:(if neg=true then -y else y).natAbs=y.toNat:=by split<;>omega
  have e3:(decide ((if neg=true then -y else y)<0))=(neg&&decide (0<(aP LL y.toNat).length)):=by
   cases neg
   ·simp only [Bool.false_and,Bool.false_eq_true,if_false,decide_eq_false_iff_not];omega
   ·simp only [Bool.true_and,if_true,h1];congr 1;apply propext;omega
  rw [I,e2,e3]
 rw [e]
 refine W.eM (fun K hK=>?_)
 cases neg
 ·simp (disch:=omega) [gw]
  refine W.lw [4] hK ?_;clear hK K;simp
  exact b7
 ·simp (disch:=omega) [gw]
  refine W.lw [4] hK ?_;clear hK K;simp
  exact b7
theorem r8{l:List Int}(h:qI l):0≤V 4294967296 l:=bZ (by decide) h.xX
theorem p8(n:Bool)(l:List Int)(h:qI l):aD env.P 148 [IV n l] (I (iv n l)):=by
 refine b6 [(0,IV n l)] Tryz.func148 ?_
 refine aA [1,2] ?_
 refine iQ ?_
 refine bW (oC l h.len h.xX) ?_
 refine aB (gS _ (r8 h) n) ?_
 simp (disch:=omega) [gw]
 refine bN [2] ?_
 refine W.ret ?_
 simp [go,iv]
theorem EN(n:Bool)(l:List Int)(h:qI l):aD env.P 115 [IV n l] (I (- iv n l)):=by
 refine b6 [(0,IV n l)] Tryz.func115 ?_
 have e : - iv n l=if (!n)=true then-V 4294967296 l else V 4294967296 l:=by cases n<;>simp [iv]
 rw [e]
 refine aA [1,2] ?_
 refine iQ ?_
 refine bW (oC l h.len h.xX) ?_
 refine aB (gS _ (r8 h) (!n)) ?_
 simp (disch:=omega) [gw]
 refine bN [2] ?_
 exact b7
theorem OJ(n m:Bool)(l k:List Int)(h:qI l)(h':qI k):aD env.P 70 [IV n l,IV m k] (I (iv n l*iv m k)):=by
 refine b6 [(0,IV n l),(1,IV m k)] Tryz.func70 ?_
 have e:iv n l*iv m k=if (n != m)=true then-(V 4294967296 l*V 4294967296 k)else V 4294967296 l*V 4294967296 k:=by cases n<;>cases m<;>simp [iv,Int.neg_mul,Int.mul_neg]
 rw [e]
 refine aA [2,3,4] ?_
 refine iQ ?_
 refine bW (aik l k h.len h'.len h.xX h'.xX) ?_
 refine aB (gS _ (Int.mul_nonneg (r8 h) (r8 h')) (n != m)) ?_
 simp (disch:=omega) [gw]
 refine bN [4] ?_
 exact b7
theorem EO(n m:Bool)(l k:List Int)(h:qI l)(h':qI k):aD env.P 69 [IV n l,IV m k] (I (iv n l+iv m k)):=by
 refine b6 [(0,IV n l),(1,IV m k)] Tryz.func69 ?_
 have p1:=r8 h
 have p2:=r8 h'
 refine aA [2,3,4] ?_
 refine aM [2,3,4,13] ?_
 refine W.cond ⟨_,rfl,fun hb=>?_,fun hb=>?_⟩
 ·have hb:n=m:=by simpa using hb
  subst hb
  have e:iv n l+iv n k=if n=true then-(V 4294967296 l+V 4294967296 k)else V 4294967296 l+V 4294967296 k:=by cases n<;>simp [iv];omega
  rw [e]
  refine iQ ?_
  refine bW (XK l k h.len h'.len h.xX h'.xX) ?_
  refine aB (gS _ (by omega) n) ?_
  simp (disch:=omega) [gw]
  refine bN [4] ?_
  exact b7
 ·have hb:m = !n:=by cases n<;>cases m<;>simp_all
  subst hb
  refine W.skip ?_
  refine W.seq ?_
  refine W.eM (fun K hK=>?_)
  simp (disch:=omega) [gw]
  refine aB (KY l k h.len h'.len h.xX h'.xX) ?_
  by_cases c8:V 4294967296 l<V 4294967296 k
  ·simp (disch:=omega) [gw,T8,c8]
   refine W.lw [2,3,4,5,6] hK ?_;clear hK K;simp
   refine aA [2,3,4,5,30] ?_
   refine W.cond ⟨_,rfl,fun hb=>?_,fun hb=>?_⟩
   ·cases hb
   ·refine W.skip ?_
    refine iM ?_
    refine aB (KY k l h'.len h.len h'.xX h.xX) ?_
    rw [T8,if_neg (by omega)]
    simp (disch:=omega) [gw]
    refine bN [3,4,7] ?_
    refine W.eM (fun K hK=>?_)
    simp (disch:=omega) [gw]
    refine aB (gS _ (by omega) (!n)) ?_
    simp (disch:=omega) [gw]
    refine W.lw [4] hK ?_;clear hK K;simp
    refine W.ret ?_
    have e:iv n l+iv (!n) k=if (!n)=true then-(V 4294967296 k-V 4294967296 l)else V 4294967296 k-V 4294967296 l:=by cases n<;>simp [iv]<;>omega
    rw [e]
    simp [go]
  ·simp (disch:=omega) [gw,T8,c8]
   refine W.lw [2,3,4,5,6] hK ?_;clear hK K;simp
   refine aA [2,3,4,5,30] ?_
   refine W.cond ⟨_,rfl,fun hb=>?_,fun hb=>?_⟩
   ·refine iM ?_
    refine aB (gS _ (by omega) n) ?_
    simp (disch:=omega) [gw]
    refine bN [4] ?_
    refine W.ret ?_
    have e:iv n l+iv (!n) k=if n=true then-(V 4294967296 l-V 4294967296 k)else V 4294967296 l-V 4294967296 k:=by cases n<;>simp [iv]<;>omega
    rw [e]
    simp [go]
   ·cases hb
theorem OL(n m:Bool)(l k:List Int)(h:qI l)(h':qI k):aD env.P 252 [IV n l,IV m k] (I (iv n l-iv m k)):=by
 refine b6 [(0,IV n l),(1,IV m k)] Tryz.func252 ?_
 have e:iv n l-iv m k=iv n l+iv (!m) k:=by cases m<;>simp [iv]<;>omega
 rw [e]
 refine aA [2,3,4] ?_
 refine aA [2,3,4] ?_
 refine aJ [4] (EO n (!m) l k h h') ?_
 exact b7
theorem wH(n:Int)(h1 : -9223372036854775808≤n)(h2:n<9223372036854775808):aD env.P 62 [.int .i64 n] (I n):=by
 refine b6 [(0, .int .i64 n)] Tryz.func62 ?_
 refine aA [0,2] ?_
 refine W.sr ?_
 simp (disch:=omega) [gw,j8]
 refine bN [0,2,3] ?_
 refine W.gJ (fun σ=>∃(w:Int) (rows:Pm.Rows) (clk:Nat),σ=⟨fa [(0, .int .i64 n),(2, .ptr 2 0 0 0),(3, .int .u64 w)],rows,clk⟩∧rows 2=some ⟨0,38,2,[[.bool false, .nil]]⟩∧w=n.natAbs∧0≤w∧w<18446744073709551616) ?_ ?_
 ·
  refine aA [0,2,3,7] ?_
  refine bF ?_ ?_<;>intro h
  ·simp at h
   refine W.cE (fun K hK=>?_)
   simp [j8]
   exact hK _ ⟨_,aC _ [0,2,3],_,_,_,rfl,by simp,by omega,by omega,by omega⟩
  ·simp at h
   refine W.skip ?_
   exact⟨_,aC _ [0,2,3],_,_,_,rfl,by simp,by omega,by omega,by omega⟩
 rintro _ ⟨w,rows,clk,rfl,hr,hw,hw0,zH⟩
 refine W.sr ?_
 have e1:V 4294967296 [w%4294967296,w/4294967296%4294967296]=w:=by simp [V];omega
 have lm:cW 4294967296 [w%4294967296,w/4294967296%4294967296]:=by
  intro x hx;simp at hx;omega
 simp [wrap_u32',hr]
 refine aB (oC [w%4294967296,w/4294967296%4294967296] (by simp) lm) ?_
 rw [e1]
 simp (disch:=omega) [gw,hr]
 refine aB (gS w hw0 (decide (n<0))) ?_
 simp (disch:=omega) [gw,hr]
 refine bN [2] ?_
 refine W.ret ?_
 have e:(if n<0 then -w else w)=n:=by split<;>omega
 rw [e]
 simp [go]
def ge(p:Bool × List Int):List PV:=[.bool p.1,us p.2]
def ie(x:Int):List PV:=[.bool (decide (x<0)),us (aP LL x.natAbs)]
@[simp] theorem azi{p:Bool × List Int}:ge p = [.bool p.1,us p.2]:=rfl
@[simp] theorem azj{x:Int}:ie x = [.bool (decide (x<0)),us (aP LL x.natAbs)]:=rfl
@[simp] theorem ari{l:List (Bool × List Int)}:bT 2 (emap ge l)=True:=cY fun _=>rfl
@[simp] theorem arj{l:List Int}:bT 2 (emap ie l)=True:=cY fun _=>rfl
@[simp] theorem aoo{v e n:Nat}{l:List Int}:dG (some ⟨v,e,n,emap ie l⟩)=True:=cN fun _=>rfl
@[simp] theorem aop{v e n:Nat}{l:List (Bool × List Int)}:dG (some ⟨v,e,n,emap ge l⟩)=True:=cN fun _=>rfl
theorem CW{α:Type}{g:α→List PV}{n:Nat}(hg:Enc g n){l:List α}{i:Nat}{x:α}:i5 (emap g l) i 0 (g x)=emap g (l.set i x):=by
 simp only [i5,emap,List.map_set]
 by_cases h:i<l.length
 ·have:(g l[i]).length=n:=hg _
  have h2:(g x).length=n:=hg _
  simp [h,List.drop_of_length_le,this,h2]
 ·rw [List.set_eq_of_length_le (by simp;omega),List.set_eq_of_length_le (by simp;omega)]
@[simp] theorem auo{l:List Int}{i:Nat}{x:Int}:i5 (emap ie l) i 0 [.bool (decide (x<0)),us (aP LL x.natAbs)]=emap ie (l.set i x):=CW (n:=2) (fun _=>rfl)
@[simp] theorem BH{α:Type}{g:α→List PV}{l k:List α}:emap g l++emap g k=emap g (l++k):=by simp [emap]
abbrev Po(l:List Int):PV:=aG ie l
abbrev Pg(l:List (Bool × List Int)):PV:=aG ge l
def gv(p:Bool × List Int):Int:=iv p.1 p.2
def jD(x:Int):Bool × List Int:=(decide (x<0),aP LL x.natAbs)
theorem fI(l:List Int):Po l=Pg (l.map jD):=by simp [aG,emap,jD]
theorem OM(x:Int):gv (jD x)=x:=by
 simp only [gv,jD,iv,jG eB]
 have:=jG eB x.natAbs
 simp only [show((LL:Nat):Int)=4294967296 from rfl]at this
 rw [this]
 by_cases h:x<0<;>simp [h]<;>omega
theorem bP(l:List Int):(l.map jD).map gv=l:=by simp [Function.comp_def,OM]
theorem qW(k:Nat):bO (bO fun q p=>Wk p q) (emap ie (List.replicate k 0)) (List.replicate k [.bool false, .nil]):=by
 have:emap ie (List.replicate k 0)=List.replicate k (ie 0):=by simp [emap]
 rw [this]
 exact OC ⟨.inl rfl, .inr ⟨rfl,rfl⟩,trivial⟩ k
structure oQ(l:List (Bool × List Int)):Prop where
 ok:∀p∈l,qI p.2
 len:l.length<1099511627776
theorem oQ.nth{l:List (Bool × List Int)}(h:oQ l){i:Nat}(hi:i<l.length):qI (nth l i).2:=h.ok _ (bS hi)
def Sz(x:Int):Prop:=sz LL x<1099511627776
theorem Sz.SA{x:Int}(h:Sz x):qI (aP LL x.natAbs):=⟨eN eB _,h⟩
theorem oQ.KZ{l:List Int}(h:∀x∈l,Sz x)(hl:l.length<1099511627776):oQ (l.map jD):=⟨fun p hp=>by
 simp only [List.mem_map]at hp
 obtain⟨x,hx,rfl⟩:=hp
 exact(h x hx).SA,by simpa using hl⟩
theorem EP(n:Bool)(l:List Int):aD env.P 140 [IV n l] (.bool (decide (l.length=0))):=by
 refine b6 [(0,IV n l)] Tryz.func140 ?_
 refine aA [1] ?_
 refine aA [2] ?_
 refine W.ret ?_
 simp [go]
 cases l<;>simp<;>omega
theorem xY(l:List Int)(hl:l.length<17592186044416):aD env.P 63 [Po l] (Po (aL l)):=by
 refine b6 [(0,Po l)] Tryz.func63 ?_
 refine aA [0] ?_
 refine aA [0,3] ?_
 refine W.seq (W.block ?_)
 refine W.bE (fun k σ=>∃(rows:Pm.Rows) (clk:Nat),σ=⟨fa [(0,Po l),(3, .int .i64 (k:Int))],rows,clk⟩∧k≤l.length∧aL l=aL (l.take k)) l.length ?_ ?_
 ·exact⟨_, .refl,_,_,rfl,by omega,by simp⟩
 rintro k _ ⟨rows,clk,rfl,hk,hc⟩
 refine W.seq ?_
 refine W.fY (fun σ=>∃(b:Bool),σ=⟨fa [(0,Po l),(3, .int .i64 (k:Int)),(15, .bool b)],rows,clk⟩∧(b=true↔0<k∧nth l (k-1)=0)) (fun K hK=>?_) ?_
 ·simp
  by_cases h0:0<k
  ·simp (disch:=omega) [gw,h0]
   refine aB (EP _ (aP LL (nth l (k-1)).natAbs)) ?_
   simp (disch:=omega) [gw,h0]
   have e:(aP LL (nth l (k-1)).natAbs).length=0↔nth l (k-1)=0:=by
    rw [List.length_eq_zero_iff,eZ eB];omega
   refine hK _ _ (aC _ [0,3,15]) ⟨_,rfl,?_⟩
   simp [h0,←e]
  ·simp (disch:=omega) [gw,h0]
   exact hK _ _ (aC _ [0,3,15]) ⟨_,rfl,by simp [h0]⟩
 rintro _ ⟨b,rfl,hb⟩
 refine bF ?_ ?_<;>intro h
 ·obtain⟨h0,h1⟩:=hb.1 h
  refine W.skip (W.block ?_)
  refine W.cE (fun K hK=>?_)
  simp (disch:=omega) [gw]
  refine hK _ ⟨k-1,_,Gh.fr [(0,_),(3, .int .i64 ((k-1:Nat):Int))] (by simp;omega),by omega,_,_,rfl,by omega,?_⟩
  rw [hc,show k=(k-1)+1 by omega,aY (by omega),h1,j9]
  simp
 ·have h2:aL l=l.take k:=by
   rw [hc]
   by_cases h0:0<k
   ·have h1:nth l (k-1)≠0:=fun h1=>by simp [hb.2 ⟨h0,h1⟩]at h
    rw [show k=(k-1)+1 by omega,aY (by omega)]
    exact iZ h1 _
   ·have:k=0:=by omega
    subst this;simp [aL]
  refine eV ?_
  refine aA [2] ?_
  refine W.ret ?_
  simp [go,h2]
theorem eY(l:List (Bool × List Int))(h:oQ l):aD env.P 68 [Pg l] (Po (aL (l.map gv))):=by
 refine b6 [(0,Pg l)] Tryz.func68 ?_
 have hl:=h.len
 refine aA [0] ?_
 refine aA [0,3] ?_
 refine W.row (id:=8) (emap ie (List.replicate l.length 0)) (by simp;exact⟨rfl,rfl,rfl⟩) (qW _) ?_
 refine aM [3,9,10,11] ?_
 refine W.block ?_
 refine W.bE (fun k σ=>∃(i:Nat) (z:List Int) (ver:Nat) (rows:Pm.Rows) (clk:Nat),σ=⟨fa [(3, .own 8 ver 0 l.length),(9,Pg l),(10, .int .i64 l.length),(11, .int .i64 i)],rows,clk⟩ ∧
  rows 8=some ⟨ver,38,2,emap ie z⟩∧k=l.length-i∧i≤l.length∧z.length=l.length∧z.take i=(l.take i).map gv) l.length ?_ ?_
 ·exact⟨_, .refl,0,List.replicate l.length 0,_,_,_,rfl,by simp,by omega,by omega,by simp,by simp⟩
 rintro k _ ⟨i,z,ver,rows,clk,rfl,hr,hk,hi,hz,hv⟩
 refine cB [3,9,10,11,12] ?_
 refine W.cond ⟨_,rfl,fun c8=>?_,fun c8=>?_⟩
 ·simp at c8
  refine jV ?_
  refine W.sr ?_
  simp (disch:=omega) [gw,hr]
  refine bN [3,4,5,9,10,11] ?_
  refine W.cE (fun K hK=>?_)
  simp (disch:=omega) [gw,hr]
  refine aB (p8 _ _ (h.nth c8)) ?_
  simp (disch:=omega) [gw,hr]
  refine W.lw [3,9,10,11] hK ?_;clear hK K;simp
  refine W.cE (fun K hK=>?_)
  simp (disch:=omega) [gw]
  refine hK _ ⟨l.length-(i+1),_,aC _ [3,9,10,11],by omega,i+1,z.set i (iv (nth l i).1 (nth l i).2),ver,_,_,rfl,by simp,by omega,by omega,by simpa using hz,?_⟩
  rw [kY hv (by omega),jH c8];rfl
 ·simp at c8
  have kN:i=l.length:=by omega
  subst kN
  refine eV ?_
  rw [bQ hz]at hv
  have uN:=bQ hz
  refine W.sr ?_
  simp (disch:=omega) [gw,hr,uN]
  refine aB (xY z (by omega)) ?_
  simp (disch:=omega) [gw]
  refine bN [2] ?_
  refine W.ret ?_
  simp at hv
  simp [go,hv]
theorem K1(l:List (Bool × List Int))(k:Nat)(hl:l.length<1099511627776)(hk:k<9223372036854775808):aD env.P 249 [Pg l, .int .i64 k] (.ag (ge (nth l k))):=by
 refine b6 [(0,Pg l),(1, .int .i64 k)] Tryz.func249 ?_
 refine aA [0,1,4] ?_
 refine aM [0,1,4,8] ?_
 refine bF ?_ ?_<;>intro h
 ·simp at h
  refine aA [4] ?_
  exact b7
 ·simp at h
  refine W.skip ?_
  refine aA [4] ?_
  refine W.ret ?_
  rw [iF h]
  simp [go]
  exact⟨rfl,rfl⟩
theorem tF(g:FuncId)(hw:KU g=false)(cV:List PV)(hc:cV.all gX=true)(n:Nat)(hn:n<1099511627776)(val:Nat→Int)(hg:∀k,k<n→aD env.P g (.int .i64 (k:Int)::cV) (I (val k))) :
  aD env.P 113 [.int .i64 n, .fn g cV] (Po (aL ((List.range n).map val))):=by
 refine b6 [(0, .int .i64 n),(1, .fn g cV)] Tryz.func113 ?_
 refine aA [0,1] ?_
 refine aA [1,5] ?_
 refine W.row (id:=8) (emap ie (List.replicate n 0)) (by simp;exact⟨rfl,rfl,rfl⟩) (qW _) ?_
 refine aM [1,5,10,11] ?_
 refine W.block ?_
 refine W.bE (fun k σ=>∃(i:Nat) (z:List Int) (ver:Nat) (rows:Pm.Rows) (clk:Nat),σ=⟨fa [(1, .fn g cV),(5, .own 8 ver 0 n),(10, .int .i64 n),(11, .int .i64 i)],rows,clk⟩ ∧
  rows 8=some ⟨ver,38,2,emap ie z⟩∧k=n-i∧i≤n∧z.length=n∧z.take i=(List.range i).map val) n ?_ ?_
 ·exact⟨_, .refl,0,List.replicate n 0,_,_,_,rfl,by simp,by omega,by omega,by simp,by simp⟩
 rintro k _ ⟨i,z,ver,rows,clk,rfl,hr,hk,hi,hz,hv⟩
 refine cB [1,5,10,11,12] ?_
 refine bF ?_ ?_<;>intro h
 ·simp at h
  refine jV ?_
  refine aA [1,5,6,10,11] ?_
  refine W.cE (fun K hK=>?_)
  simp (disch:=omega) [gw,hr, -KU,hw]
  refine aB (hg i h) ?_
  simp (disch:=omega) [gw,hr]
  refine W.lw [1,5,10,11] hK ?_;clear hK K;simp
  refine W.cE (fun K hK=>?_)
  simp (disch:=omega) [gw]
  refine hK _ ⟨n-(i+1),_,aC _ [1,5,10,11],by omega,i+1,z.set i (val i),ver,_,_,rfl,by simp,by omega,by omega,by simpa using hz,?_⟩
  rw [kY hv (by omega),List.range_succ];simp
 ·simp at h
  have kN:i=n:=by omega
  subst kN
  refine eV ?_
  rw [bQ hz]at hv
  have uN:=bQ hz
  refine W.sr ?_
  simp (disch:=omega) [gw,hr,uN]
  refine aB (xY z (by omega)) ?_
  simp (disch:=omega) [gw]
  refine bN [4] ?_
  refine W.ret ?_
  simp [go,hv]
end Go.Proofs.YtelhfbikiccfkaaGreat
