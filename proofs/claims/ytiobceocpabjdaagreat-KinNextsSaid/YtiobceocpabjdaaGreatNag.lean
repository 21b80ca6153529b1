import Derived.KernelRfl
import Derived.Test.YtiobceocpabjdaaGreatNad
import Derived.Test.YtiobceocpabjdaaGreatNae
import Derived.Test.YtiobceocpabjdaaGreatNaf
set_option linter.unusedSimpArgs false
set_option linter.unusedVariables false
namespace Go.Proofs.YtiobceocpabjdaaGreat
open Go Pm
variable {n v e i:Nat}{l:List Int}{x:Int}{α:Type}
theorem cG{yM:FuncId}{fn:Func}{code:Code}{args:List PV}{r:PV}(l:List (Nat × PV))(h1:env.P.funcs[yM]? = some fn)(h:W env fn.ntmps (fun _=>0) code (af6 env fn.results.toList r) ⟨fa l,fun _=>none,0⟩)(h2:fn.body=some code:=by rfl) (h3:(fn.name == "runtime.NumGoroutine") = false:=by kernel_rfl) (iD:fQ env fn.ntmps (fun _=>0) code=true:=by kernel_rfl) (dQ:args.length<=fn.ntmps:=by exact of_decide_eq_true (by kernel_rfl)) (hl:∀p∈l,args.getD p.1 .undef=p.2:=by simp):AB env.P yM args r:=
  dJ (fun _=>0) l h1 h2 h3 iD dQ hl h
theorem cT{p:Prop}(h:p:=by kernel_rfl):p:=h
abbrev aC(f:FuncId)(a:List PV)(r:PV):Prop:=AB env.P f a r
abbrev oA(f:FuncId)(a:List PV)(e:TypeId)(n:Nat)(core iC:List PV)(r:PV):Prop:=FD env.P f a e n core iC r
def u32(n:Int):List PV:=[.int .u32 n]
@[simp] theorem aBd{n:Int}:u32 n = [.int .u32 n]:=rfl
theorem alG:Enc u32 1:=fun _=>rfl
theorem ahd:awv u32:=fun _=>rfl
@[simp] theorem asa:bP 1 (emap u32 l)=True:=cS alG
@[simp] theorem aoL:dG (some ⟨v,e,n,emap u32 l⟩)=True:=cM ahd
@[simp] theorem aBe:List.replicate n [PV.int .u32 0]=emap u32 (List.replicate n 0):=by simp [emap]
@[simp] theorem avj:iP (emap u32 l) i 0 [.int .u32 x]=emap u32 (l.set i x):=by
 simp only [iP,emap,List.map_set]
 by_cases h:i<l.length
 ·simp [h]
 ·rw [List.set_eq_of_length_le (by simp;omega),List.set_eq_of_length_le (by simp;omega)]
@[simp] theorem aym{g:α->List PV}{l:List α}:(emap g l).length=l.length:=by simp [emap]
abbrev us(l:List Int):PV:=aJ u32 l
abbrev LL:Nat:=4294967296
abbrev N(x:Int):PV:=us (aV LL x.toNat)
theorem iT:2<=LL:=by decide
theorem BF(h:dH 4294967296 l):us (aZ l)=N (V 4294967296 l):=by rw [vQ iT h];rfl
theorem eJ(l:List Int)(hl:l.length<17592186044416):aC 208 [us l] (us (aZ l)):=by
 apply cG [(0,us l)] Tryz.func208
 apply fK [0] [0,3]
 refine W.seq (W.block ?_)
 refine W.bB (fun k σ=>bF σ [(0,us l),(3,aB (k:Int))] fun rows clk=>k<=l.length∧aZ l=aZ (l.take k)) l.length ?_ ?_
 ·exact⟨_, .refl,_,_,rfl,aA,aG⟩
 rintro k _ ⟨rows,clk,rfl,hk,hc⟩
 apply W.seq
 refine W.fI (fun σ=>∃(b:Bool),σ=⟨fa [(0,us l),(3,aB (k:Int)),(15, .bool b)],rows,clk⟩∧(b=true↔0<k∧nth l (k-1)=0)) (fun K hK=>?_) ?_
 ·simp
  by_cases h0:0<k
  ·apply eV h0
   exact hK _ _ (aD _ [0,3,15]) ⟨_,rfl,by simp [h0]⟩
  ·apply eV h0
   exact hK _ _ (aD _ [0,3,15]) ⟨_,rfl,by simp [h0]⟩
 rintro _ ⟨b,rfl,hb⟩
 refine W.cond ⟨_,rfl,fun h=>?_,fun h=>?_⟩
 ·obtain⟨h0,h1⟩:=hb.1 h
  refine W.skip (W.block ?_)
  refine W.bY fun K hK=>?_
  apply (cV)
  refine hK _ ⟨k-1,_,Gh.fr [(0,_),(3,aB ((k-1:Nat):Int))] (by simp;omega),aA,_,_,rfl,aA,?_⟩
  rw [hc,show k=(k-1)+1 by omega,bQ aA,h1,mH]
  simp
 ·have h2:aZ l=l.take k:=by
   rw [hc]
   by_cases h0:0<k
   ·have h1:nth l (k-1)≠0:=fun h1=>by simp [hb.2 ⟨h0,h1⟩]at h
    rw [show k=(k-1)+1 by omega,bQ aA]
    exact kS h1 _
   ·have:k=0:=by omega
    subst this;simp [aZ]
  apply xY [2]
  apply W.ret
  simp [h2]
theorem qK(l:List Int)(hl:l.length<1099511627776)(hm:dH 4294967296 l):aC 123 [us l] (N (V 4294967296 l)):=by
 rw [<-BF hm]
 apply cG [(0,us l)] Tryz.func123
 apply aQ [0]
 apply W.sr
 simp
 refine bC (eJ l aA) ?_
 have:=cL l
 apply bT [2]
 apply W.ret
 simp
theorem abi(a b:List Int)(ha:a.length<1099511627776)(hb:b.length<1099511627776)(la:dH 4294967296 a)(lb:dH 4294967296 b):aC 133 [us a,us b] (N (V 4294967296 a+V 4294967296 b)):=by
 apply cG [(0,us a),(1,us b)] Tryz.func133
 apply aQ [0,1]
 apply W.sr
 simp
 refine bC (eJ a aA) ?_
 simp
 refine bC (eJ b aA) ?_
 simp
 apply cO [0,1]
 refine W.iS (fun σ=>∃(x y:List Int),bF σ [(0,us x),(1,us y)] fun rows clk=>dH 4294967296 x∧dH 4294967296 y∧y.length<=x.length∧x.length<1099511627776 ∧
  V 4294967296 a+V 4294967296 b=V 4294967296 x+V 4294967296 y) ?_ ?_
 ·have h1:=cL a
  have h2:=cL b
  apply aQ [0,1,18]
  refine W.cond ⟨_,rfl,fun h=>?_,fun h=>?_⟩
  ·simp at h
   refine W.bY fun K hK=>?_
   apply (cV)
   exact hK _ ⟨_,aD _ [0,1],_,_,_,_,rfl,fR lb,fR la,aA,aA,by simp [dU];omega⟩
  ·simp at h
   apply W.skip
   exact⟨_,aD _ [0,1],_,_,_,_,rfl,fR la,fR lb,aA,aA,by simp [dU]⟩
 rintro _ ⟨x,y,rows,clk,rfl,lx,ly,w7,hx,hV⟩
 rw [hV]
 clear hV la lb ha hb a b
 apply fK [0,1,5] [0,1,5,6]
 apply eE [0,1,5,6,25,26,27]
 refine W.bB (fun k σ=>∃(i:Nat) (c:Int) (z:List Int) (ver:Nat),bF σ [(0,us x),(1,us y),(5, .own 24 ver 0 (x.length+1)),(6, .int .u64 c),(25,us x),(26,aB x.length),(27,aB i)] fun rows clk =>
   rows 24=some ⟨ver,185,1,emap u32 z⟩∧k=x.length-i∧i<=x.length∧z.length=x.length+1∧dH 4294967296 z∧0<=c∧c<=1 ∧
   V 4294967296 (z.take i)+4294967296^i*c=V 4294967296 (x.take i)+V 4294967296 (y.take i)) x.length ?_ ?_
 ·exact⟨_, .refl,0,0,List.replicate (x.length+1) 0,_,_,_,rfl,aG,aA,aA,aG,dH.rep aF _,aA,aA,by simp [V]⟩
 rintro k _ ⟨i,c,z,ver,rows,clk,rfl,hr,hk,hi,hz,lz,zF,AE,hV⟩
 apply cN [0,1,5,6,25,26,27,28]
 refine W.cond ⟨_,rfl,fun h=>?_,fun h=>?_⟩
 ·simp at h
  have hxi:=lx.nth h
  apply (iE)
  apply fK [0,1,5,6,7,8,25,26,27] [0,1,5,7,9,25,26,27]
  refine W.iS (fun σ=>∃(s:Int),σ=⟨fa [(0,us x),(1,us y),(5, .own 24 ver 0 (x.length+1)),(7,aB i),(9, .int .u64 s),(25,us x),(26,aB x.length),(27,aB i)],rows,clk⟩∧0<=s∧s<8589934592 ∧
   V 4294967296 (x.take (i+1))+V 4294967296 (y.take (i+1))=V 4294967296 (z.take i)+4294967296^i*s) ?_ ?_
  ·
   apply aQ [0,1,5,7,9,25,26,27,39]
   refine W.cond ⟨_,rfl,fun h=>?_,fun h=>?_⟩
   ·simp at h
    have hyi:=ly.nth h
    refine W.bY fun K hK=>?_
    apply (cV)
    refine hK _ ⟨_,aD _ [0,1,5,7,9,25,26,27],_,rfl,aA,aA,?_⟩
    rw [bG aA,bG aA]
    grind
   ·simp at h
    apply W.skip
    refine⟨_,aD _ [0,1,5,7,9,25,26,27],_,rfl,aA,aA,?_⟩
    rw [bG aA,bM (l:=y) aA]
    rw [bM (l:=y) aA]at hV
    grind
  rintro _ ⟨s,rfl,hs0,sX,YH⟩
  refine W.bY fun K hK=>?_
  simp (disch:=omega) [gw,hr,wrap_u32']
  refine W.lw [0,1,5,6,25,26,27] hK ?_;clear hK K;simp
  refine W.bY fun K hK=>?_
  apply (cV)
  refine hK _ ⟨x.length-(i+1),_,aD _ [0,1,5,6,25,26,27],aA,i+1,s/4294967296,z.set i (s%4294967296),ver,_,_,rfl,aG,aA,aA,by simpa using hz,lz.set aA,aA,aA,?_⟩
  rw [gY aA,YH,Int.pow_succ]
  have:=Int.emod_add_mul_ediv s 4294967296
  grind
 ·simp at h
  have jF:i=x.length:=aA
  subst jF
  apply (jV)
  apply sS hr [5]
  have xF:List.take (x.length+1) (z.set x.length c)=z.set x.length c:=List.take_of_length_le (by simp;omega)
  apply TG xF
  refine bC (eJ (z.set x.length c) (by simp;omega)) ?_
  apply bT [4]
  apply W.ret
  have e:V 4294967296 (z.set x.length c)=V 4294967296 x+V 4294967296 y:=by
   rw [<-bM (l:=z.set x.length c) (i:=x.length+1) (by simp;omega),gY aA,hV,bM (l:=y) aA]
   simp
  rw [<-e,BF (lz.set aA)]
  simp
theorem O5(a b:List Int)(ha:a.length<1099511627776)(hb:b.length<1099511627776)(la:dH 4294967296 a)(lb:dH 4294967296 b):aC 212 [us a,us b] (aB (eA (V 4294967296 a) (V 4294967296 b))):=by
 apply cG [(0,us a),(1,us b)] Tryz.func212
 apply aQ [0,1]
 apply W.sr
 simp
 refine bC (eJ a aA) ?_
 simp
 refine bC (eJ b aA) ?_
 simp
 apply cO [0,1]
 have cx:=fX a;have lx:=fR la;have hx:=cL a
 have cy:=fX b;have ly:=fR lb;have hy:=cL b
 rw [<-dU a,<-dU b]
 generalize aZ a=x at *
 generalize aZ b=y at *
 apply cQ [0,1,14]
 refine W.cond ⟨_,rfl,fun h=>?_,fun h=>?_⟩
 ·simp at h
  apply cQ [19]
  refine W.cond ⟨_,rfl,fun h=>?_,fun h=>?_⟩
  ·simp at h
   apply aQ [4]
   apply W.ret
   simp [pL (mJ aF lx ly cy h)]
  ·simp at h
   apply W.skip
   apply aQ [4]
   apply W.ret
   simp [pM (mJ aF ly lx cx aA)]
 ·simp at h
  have hlen:x.length=y.length:=aA
  clear h
  apply W.skip
  apply eE [0,1,5]
  refine W.bB (fun k σ=>bF σ [(0,us x),(1,us y),(5,aB ((k:Int)-1))] fun rows clk=>k<=x.length∧x.drop k=y.drop k) x.length ?_ ?_
  ·exact⟨_, .refl,_,_,rfl,aA,by rw [List.drop_of_length_le aA,List.drop_of_length_le aA]⟩
  rintro k _ ⟨rows,clk,rfl,hk,hd⟩
  apply cQ [0,1,5,24]
  refine W.cond ⟨_,rfl,fun h=>?_,fun h=>?_⟩
  ·have h0:0<k:=by simp at h;omega
   obtain⟨j,rfl⟩:∃j,k=j+1:=⟨k-1,aA⟩
   clear h
   apply (iE)
   apply W.seq
   apply W.sd
   apply bT [0,1,5,35]
   refine W.cond ⟨_,rfl,fun h=>?_,fun h=>?_⟩
   ·simp at h
    apply aQ [4]
    apply W.ret
    simp [pL (rK aF lx ly hlen aA hd h)]
   ·simp at h
    apply (HT)
    apply bT [0,1,5,44]
    refine W.cond ⟨_,rfl,fun h2=>?_,fun h2=>?_⟩
    ·simp at h2
     apply aQ [4]
     apply W.ret
     simp [pM (rK aF ly lx hlen.symm aA hd.symm h2)]
    ·simp at h2
     apply W.skip
     refine W.bY fun K hK=>?_
     apply (cV)
     refine hK _ ⟨j,_,aD _ [0,1,5],aA,_,_,rfl,aA,?_⟩
     rw [gW (l:=x) (i:=j) aA,gW (l:=y) (i:=j) aA,hd,show nth x j=nth y j by omega]
  ·have h0:k=0:=by simp at h;omega
   subst h0
   simp at hd
   subst hd
   apply xY [4]
   apply W.ret
   simp [FW]
def YI(x y:Int):PV:=if x<y then .dK [us [], .bool false]else .dK [N (x-y), .bool true]
theorem O6(a b:List Int)(ha:a.length<1099511627776)(hb:b.length<1099511627776)(la:dH 4294967296 a)(lb:dH 4294967296 b):aC 134 [us a,us b] (YI (V 4294967296 a) (V 4294967296 b)):=by
 apply cG [(0,us a),(1,us b)] Tryz.func134
 apply aQ [0,1]
 apply W.sr
 simp
 refine bC (eJ a aA) ?_
 simp
 refine bC (eJ b aA) ?_
 simp
 apply cO [0,1]
 have cx:=fX a;have lx:=fR la;have hx:=cL a
 have cy:=fX b;have ly:=fR lb;have hy:=cL b
 rw [<-dU a,<-dU b]
 generalize aZ a=x at *
 generalize aZ b=y at *
 apply W.seq
 apply W.sr
 simp
 refine bC (O5 x y aA aA lx ly) ?_
 apply bT [0,1,18]
 refine W.cond ⟨_,rfl,fun h=>?_,fun h=>?_⟩
 ·have h:V 4294967296 x<V 4294967296 y:=qF.1 (by simpa using h)
  apply aQ [4,5]
  apply W.ret
  simp [YI,h]
  rfl
 ·have h:V 4294967296 y<=V 4294967296 x:=vR.1 (by simpa using h)
  have hyx:y.length<=x.length:=by
   rcases Nat.lt_or_ge x.length y.length with h2 | h2
   ·have:=mJ aF lx ly cy h2;omega
   ·exact h2
  apply W.skip
  apply fK [0,1,6] [0,1,6,7]
  apply eE [1,6,7,22,23,24]
  refine W.bB (fun k σ=>∃(i:Nat) (c:Int) (z:List Int) (ver:Nat),bF σ [(1,us y),(6, .own 21 ver 0 x.length),(7, .int .u64 c),(22,us x),(23,aB x.length),(24,aB i)] fun rows clk =>
   rows 21=some ⟨ver,185,1,emap u32 z⟩∧k=x.length-i∧i<=x.length∧z.length=x.length∧dH 4294967296 z∧0<=c∧c<=1 ∧
   V 4294967296 (z.take i)-4294967296^i*c=V 4294967296 (x.take i)-V 4294967296 (y.take i)) x.length ?_ ?_
  ·exact⟨_, .refl,0,0,List.replicate x.length 0,_,_,_,rfl,aG,aA,aA,aG,dH.rep aF _,aA,aA,by simp [V]⟩
  rintro k _ ⟨i,c,z,ver,rows,clk,rfl,hr,hk,hi,hz,lz,zF,AE,hV⟩
  apply cN [1,6,7,22,23,24,25]
  refine W.cond ⟨_,rfl,fun h=>?_,fun h=>?_⟩
  ·simp at h
   have hxi:=lx.nth h
   apply oR [1,6,7,8,9,22,23,24]
   apply W.sr
   simp (disch:=omega) [gA,wrap_u64 hxi.1]
   apply cO [1,6,8,10,22,23,24]
   refine W.iS (fun σ=>∃(d:Int),σ=⟨fa [(1,us y),(6, .own 21 ver 0 x.length),(8,aB i),(10, .int .u64 (IntKind.u64.wrap d)),(22,us x),(23,aB x.length),(24,aB i)],rows,clk⟩ ∧ -4294967296<=d∧d<4294967296 ∧
    V 4294967296 (x.take (i+1))-V 4294967296 (y.take (i+1))=V 4294967296 (z.take i)+4294967296^i*d) ?_ ?_
   ·
    apply aQ [1,6,8,10,22,23,24,36]
    refine W.cond ⟨_,rfl,fun h=>?_,fun h=>?_⟩
    ·simp at h
     have hyi:=ly.nth h
     refine W.bY fun K hK=>?_
     simp (disch:=omega) [gA,wrap_u64 hyi.1]
     refine hK _ ⟨_,aD _ [1,6,8,10,22,23,24],nth x i-c-nth y i,?_,aA,aA,?_⟩
     ·have:IntKind.u64.wrap (IntKind.u64.wrap (nth x i-c)-nth y i)=IntKind.u64.wrap (nth x i-c-nth y i):=by
       simp only [mG];omega
      simp [this]
     rw [bG aA,bG aA]
     grind
    ·simp at h
     apply W.skip
     refine⟨_,aD _ [1,6,8,10,22,23,24],_,rfl,aA,aA,?_⟩
     rw [bG aA,bM (l:=y) aA]
     rw [bM (l:=y) aA]at hV
     grind
   rintro _ ⟨d,rfl,hs0,sX,YH⟩
   refine W.bY fun K hK=>?_
   simp (disch:=omega) [gw,hr,wrap_u32']
   refine W.lw [1,6,7,22,23,24] hK ?_;clear hK K;simp
   refine W.bY fun K hK=>?_
   apply (cV)
   have e1:d=IntKind.u64.wrap d%4294967296-4294967296*(IntKind.u64.wrap d/9223372036854775808)∧0<=IntKind.u64.wrap d/9223372036854775808∧IntKind.u64.wrap d/9223372036854775808<=1:=by
    rw [mG];omega
   generalize IntKind.u64.wrap d=s at *
   refine hK _ ⟨x.length-(i+1),_,aD _ [1,6,7,22,23,24],aA,i+1,s/9223372036854775808,z.set i (s%4294967296),ver,_,_,rfl,aG,aA,aA,by simpa using hz,lz.set aA,aA,aA,?_⟩
   rw [gY aA,YH,Int.pow_succ]
   grind
  ·simp at h
   have jF:i=x.length:=aA
   subst jF
   apply (gK)
   have xF:z.take x.length=z:=List.take_of_length_le aA
   have e:V 4294967296 z=V 4294967296 x-V 4294967296 y:=by
    rw [xF,bM (Nat.le_refl _),bM (l:=y) aA]at hV
    have h1:=sU aF lz
    rw [hz]at h1
    have:c=0:=by
     rcases Int.lt_or_le c 1 with h2 | h2
     ·omega
     ·have h3:c=1:=by omega
      subst h3;omega
    subst this;omega
   apply W.sr
   apply j1 hr xF
   refine bC (eJ z aA) ?_
   apply bT [4,5]
   apply W.ret
   rw [YI,if_neg aA,<-e,<-BF lz]
   simp
theorem alH{a b:Int}(ha:0<=a∧a<4294967296)(hb:0<=b∧b<4294967296):0<=a*b∧a*b<=18446744065119617025:=by
 refine⟨Int.mul_nonneg ha.1 hb.1,?_⟩
 have:=Int.mul_le_mul (show a<=4294967295 by omega) (show b<=4294967295 by omega) hb.1 aF
 simpa using this
theorem alI(a b:List Int)(ha:a.length<1099511627776)(hb:b.length<1099511627776)(la:dH 4294967296 a)(lb:dH 4294967296 b):aC 135 [us a,us b] (N (V 4294967296 a*V 4294967296 b)):=by
 apply cG [(0,us a),(1,us b)] Tryz.func135
 apply aQ [0,1]
 apply W.sr
 simp
 refine bC (eJ a aA) ?_
 simp
 refine bC (eJ b aA) ?_
 simp
 apply cO [0,1]
 have lx:=fR la;have hx:=cL a
 have ly:=fR lb;have hy:=cL b
 rw [<-dU a,<-dU b]
 generalize aZ a=x at *
 generalize aZ b=y at *
 apply aQ [0,1,5]
 apply eE [1,5,22,23,24]
 refine W.bB (fun k σ=>∃(i:Nat) (z:List Int) (ver:Nat),bF σ [(1,us y),(5, .own 21 ver 0 (x.length+y.length)),(22,us x),(23,aB x.length),(24,aB i)] fun rows clk =>
   rows 21=some ⟨ver,185,1,emap u32 z⟩∧k=x.length-i∧i<=x.length∧z.length=x.length+y.length∧dH 4294967296 z∧(∀j,i+y.length<=j->nth z j=0) ∧
   V 4294967296 z=V 4294967296 (x.take i)*V 4294967296 y) x.length ?_ ?_
 ·have e:((x.length:Int)+(y.length:Int)).toNat=x.length+y.length:=by omega
  refine⟨_, .refl,0,List.replicate (x.length+y.length) 0,_,_,_,rfl,by simp [e],aA,aA,aG,dH.rep aF _,fun j _=>?_,by simp [V,uN]⟩
  unfold nth
  cases h:(List.replicate (x.length+y.length) (0:Int))[j]? with
  | none=>rfl
  | some v=>have:=List.mem_of_getElem? h;simp at this;simp [this]
 rintro k _ ⟨i,z,ver,rows,clk,rfl,hr,hk,hi,hz,lz,oY,hV⟩
 apply cN [1,5,22,23,24,25]
 refine W.cond ⟨_,rfl,fun h=>?_,fun h=>?_⟩
 ·simp at h
  have hxi:=lx.nth h
  apply W.skip
  refine W.dS (fun σ=>∃(z:List Int) (ver:Nat),bF σ [(1,us y),(5, .own 21 ver 0 (x.length+y.length)),(22,us x),(23,aB x.length),(24,aB i)] fun rows clk =>
   rows 21=some ⟨ver,185,1,emap u32 z⟩∧z.length=x.length+y.length∧dH 4294967296 z∧(∀j,i+1+y.length<=j->nth z j=0) ∧
   V 4294967296 z=V 4294967296 (x.take (i+1))*V 4294967296 y) ?_ ?_
  ·
   apply fK [1,5,6,7,22,23,24] [1,5,6,7,8,22,23,24]
   apply eE [1,5,6,7,8,22,23,24,29,30,31]
   refine W.bB (fun m σ=>∃(k:Nat) (c:Int) (z:List Int) (ver:Nat),bF σ [(1,us y),(5, .own 21 ver 0 (x.length+y.length)),(6,aB i),(7, .int .u32 (nth x i)),(8, .int .u64 c),(22,us x),(23,aB x.length),(24,aB i),(29,us y),(30,aB y.length),(31,aB k)] fun rows clk =>
    rows 21=some ⟨ver,185,1,emap u32 z⟩∧m=y.length-k∧k<=y.length∧z.length=x.length+y.length∧dH 4294967296 z∧(∀j,i+y.length<=j->nth z j=0)∧0<=c∧c<4294967296 ∧
    V 4294967296 z+4294967296^(i+k)*c=V 4294967296 (x.take i)*V 4294967296 y+4294967296^i*nth x i*V 4294967296 (y.take k)) y.length ?_ ?_
   ·exact⟨_, .refl,0,0,z,ver,_,_,rfl,by simpa using hr,aA,aA,hz,lz,oY,aA,aA,by simp [V,hV]⟩
   clear hV oY lz hz hr z ver rows clk
   rintro m _ ⟨k,c,z,ver,rows,clk,rfl,hr,hm,hky,hz,lz,oY,zF,AE,hV⟩
   apply cN [1,5,6,7,8,22,23,24,29,30,31,32]
   refine W.cond ⟨_,rfl,fun h2=>?_,fun h2=>?_⟩
   ·simp at h2
    have hyk:=ly.nth h2
    have hzk:=lz.nth (i:=i+k) aA
    have hp:=alH hxi hyk
    apply oR [1,5,6,7,8,9,10,22,23,24,29,30,31]
    have e0:((i:Int)+(k:Int)).toNat=i+k:=aA
    apply W.sr
    simp (disch:=omega) [gw,hr,e0]
    apply cO [1,5,6,7,9,11,22,23,24,29,30,31]
    refine W.bY fun K hK=>?_
    simp (disch:=omega) [gw,hr,e0,wrap_u32']
    refine W.lw [1,5,6,7,8,22,23,24,29,30,31] hK ?_;clear hK K;simp
    refine W.bY fun K hK=>?_
    apply (cV)
    have e1:=Int.emod_add_mul_ediv (nth x i*nth y k+nth z (i+k)+c) 4294967296
    have hs:0<=nth x i*nth y k+nth z (i+k)+c∧nth x i*nth y k+nth z (i+k)+c<18446744073709551616:=aA
    have YH:=L9 (b:=4294967296) (l:=z) (i:=i+k) (x:=(nth x i*nth y k+nth z (i+k)+c)%4294967296) aA
    refine hK _ ⟨y.length-(k+1),_,aD _ [1,5,6,7,8,22,23,24,29,30,31],aA,k+1,_,z.set (i+k) ((nth x i*nth y k+nth z (i+k)+c)%4294967296),ver,_,_,rfl,aG,aA,aA,by simpa using hz,lz.set aA,fun j hj=>?_,aA,aA,?_⟩
    ·rw [jL aA];exact oY j hj
    ·rw [YH,bG h2,show i+(k+1)=(i+k)+1 by omega,Int.pow_succ,Int.pow_add]
     rw [Int.pow_add]at hV
     grind
   ·simp at h2
    have CN:k=y.length:=aA
    subst CN
    apply xY [1,5,6,8,22,23,24,63]
    refine W.cond ⟨_,rfl,fun h3=>?_,fun h3=>?_⟩
    ·simp at h3
     have e0:((i:Int)+(y.length:Int)).toNat=i+y.length:=aA
     refine W.bY fun K hK=>?_
     simp (disch:=omega) [gw,hr,e0]
     have YH:=L9 (b:=4294967296) (l:=z) (i:=i+y.length) (x:=c) aA
     refine hK _ ⟨_,aD _ [1,5,22,23,24],z.set (i+y.length) c,ver,_,_,rfl,aG,by simpa using hz,lz.set aA,fun j hj=>?_,?_⟩
     ·rw [jL aA];exact oY j aA
     ·rw [YH,bG h,oY _ (Nat.le_refl _)]
      rw [bM (Nat.le_refl _)]at hV
      grind
    ·simp at h3
     apply W.skip
     refine⟨_,aD _ [1,5,22,23,24],z,ver,_,_,rfl,hr,hz,lz,fun j hj=>oY j aA,?_⟩
     subst h3
     simp only [V,List.take_nil,Int.mul_zero,Int.add_zero,List.length_nil]at hV |-
     have h4:=bV aF lz
     have h5:0<=(4294967296:Int)^i*c:=Int.mul_nonneg (Int.le_of_lt (Int.pow_pos aF)) zF
     simp only [Nat.add_zero]at hV
     omega
  clear hV oY lz hz hr z ver rows clk
  rintro _ ⟨z,ver,rows,clk,rfl,hr,hz,lz,oY,hV⟩
  refine W.bY fun K hK=>?_
  apply (cV)
  exact hK _ ⟨x.length-(i+1),_,aD _ [1,5,22,23,24],aA,i+1,z,ver,_,_,rfl,hr,aA,aA,hz,lz,oY,hV⟩
 ·simp at h
  have jF:i=x.length:=aA
  subst jF
  have xF:List.take (x.length+y.length) z=z:=List.take_of_length_le aA
  apply (jV)
  apply j1 hr xF
  refine bC (eJ z aA) ?_
  apply bT [4]
  apply W.ret
  rw [bM (Nat.le_refl _)]at hV
  rw [<-hV,<-BF lz]
  simp
abbrev IV(neg:Bool)(l:List Int):PV:=.ag [.bool neg,us l]
def iv(neg:Bool)(l:List Int):Int:=if neg=true then-V 4294967296 l else V 4294967296 l
abbrev I(x:Int):PV:=IV (decide (x<0)) (aV LL x.natAbs)
structure xG(l:List Int):Prop where
 EM:dH 4294967296 l
 len:l.length<1099511627776
theorem i7(y:Int)(hy:0<=y)(neg:Bool):aC 122 [N y, .bool neg] (I (if neg=true then -y else y)):=by
 apply cG [(0,N y),(1, .bool neg)] Tryz.func122
 apply aQ [0,1,4]
 have e0:(aV LL y.toNat = [])↔y=0:=by rw [gC iT];omega
 have e:I (if neg=true then -y else y) = .ag [.bool (neg&&decide (0<(aV LL y.toNat).length)),N y]:=by
  have h1:0<(aV LL y.toNat).length↔y≠0:=by
   rw [List.length_pos_iff];simp [e0]
  have e2:(if neg=true then -y else y).natAbs=y.toNat:=by split<;>omega
  have e3:(decide ((if neg=true then -y else y)<0))=(neg&&decide (0<(aV LL y.toNat).length)):=by
   cases neg
   ·simp only [Bool.false_and,Bool.false_eq_true,if_false,decide_eq_false_iff_not];omega
   ·simp only [Bool.true_and,if_true,h1];congr 1;apply propext;omega
  rw [I,e2,e3]
 rw [e]
 refine W.fF fun K hK=>?_
 cases neg
 ·apply (cV)
  refine W.lw [4] hK ?_;clear hK K;simp
  exact j8
 ·apply (cV)
  refine W.lw [4] hK ?_;clear hK K;simp
  exact j8
theorem uO(h:xG l):0<=V 4294967296 l:=bV aF h.EM
theorem ME(n:Bool)(l:List Int)(h:xG l):aC 132 [IV n l] (I (iv n l)):=by
 apply cG [(0,IV n l)] Tryz.func132
 apply kR [1,2]
 apply o9 (qK l h.len h.EM)
 refine bC (i7 _ (uO h) n) ?_
 apply bT [2]
 apply W.ret
 simp [go,iv]
theorem H5(n:Bool)(l:List Int)(h:xG l):aC 148 [IV n l] (I (- iv n l)):=by
 apply cG [(0,IV n l)] Tryz.func148
 have e : - iv n l=if (!n)=true then-V 4294967296 l else V 4294967296 l:=by cases n<;>simp [iv]
 rw [e]
 apply kR [1,2]
 apply o9 (qK l h.len h.EM)
 refine bC (i7 _ (uO h) (!n)) ?_
 exact gI [2]
theorem TQ(n m:Bool)(l k:List Int)(h:xG l)(h':xG k):aC 66 [IV n l,IV m k] (I (iv n l*iv m k)):=by
 apply cG [(0,IV n l),(1,IV m k)] Tryz.func66
 have e:iv n l*iv m k=if (n != m)=true then-(V 4294967296 l*V 4294967296 k)else V 4294967296 l*V 4294967296 k:=by cases n<;>cases m<;>simp [iv,Int.neg_mul,Int.mul_neg]
 rw [e]
 apply kR [2,3,4]
 apply o9 (alI l k h.len h'.len h.EM h'.EM)
 refine bC (i7 _ (Int.mul_nonneg (uO h) (uO h')) (n != m)) ?_
 exact gI [4]
theorem H6(n m:Bool)(l k:List Int)(h:xG l)(h':xG k):aC 65 [IV n l,IV m k] (I (iv n l+iv m k)):=by
 apply cG [(0,IV n l),(1,IV m k)] Tryz.func65
 have p1:=uO h
 have p2:=uO h'
 apply aQ [2,3,4]
 apply cQ [2,3,4,13]
 refine W.cond ⟨_,rfl,fun hb=>?_,fun hb=>?_⟩
 ·have hb:n=m:=by simpa using hb
  subst hb
  have e:iv n l+iv n k=if n=true then-(V 4294967296 l+V 4294967296 k)else V 4294967296 l+V 4294967296 k:=by cases n<;>simp [iv];omega
  rw [e]
  apply W.sd
  apply o9 (abi l k h.len h'.len h.EM h'.EM)
  refine bC (i7 _ aA n) ?_
  exact gI [4]
 ·have hb:m = !n:=by cases n<;>cases m<;>simp_all
  subst hb
  apply (pK)
  refine W.fF fun K hK=>?_
  apply kZ (O6 l k h.len h'.len h.EM h'.EM)
  by_cases c8:V 4294967296 l<V 4294967296 k
  ·simp (disch:=omega) [gw,YI,c8]
   refine W.lw [2,3,4,5,6] hK ?_;clear hK K;simp
   apply aQ [2,3,4,5,30]
   refine W.cond ⟨_,rfl,fun hb=>?_,fun hb=>?_⟩
   ·cases hb
   ·apply W.skip
    apply nB (O6 k l h'.len h.len h'.EM h.EM)
    rw [YI,if_neg aA]
    apply bT [3,4,7]
    refine W.fF fun K hK=>?_
    apply (cV)
    refine bC (i7 _ aA (!n)) ?_
    apply (cV)
    refine W.lw [4] hK ?_;clear hK K;simp
    apply W.ret
    have e:iv n l+iv (!n) k=if (!n)=true then-(V 4294967296 k-V 4294967296 l)else V 4294967296 k-V 4294967296 l:=by cases n<;>simp [iv]<;>omega
    rw [e]
    simp [go]
  ·simp (disch:=omega) [gw,YI,c8]
   refine W.lw [2,3,4,5,6] hK ?_;clear hK K;simp
   apply aQ [2,3,4,5,30]
   refine W.cond ⟨_,rfl,fun hb=>?_,fun hb=>?_⟩
   ·apply (tI)
    refine bC (i7 _ aA n) ?_
    apply bT [4]
    apply W.ret
    have e:iv n l+iv (!n) k=if n=true then-(V 4294967296 l-V 4294967296 k)else V 4294967296 l-V 4294967296 k:=by cases n<;>simp [iv]<;>omega
    rw [e]
    simp [go]
   ·cases hb
theorem TR(n m:Bool)(l k:List Int)(h:xG l)(h':xG k):aC 248 [IV n l,IV m k] (I (iv n l-iv m k)):=by
 apply cG [(0,IV n l),(1,IV m k)] Tryz.func248
 have e:iv n l-iv m k=iv n l+iv (!m) k:=by cases m<;>simp [iv]<;>omega
 rw [e]
 apply fK [2,3,4] [2,3,4]
 exact C7 (H6 n (!m) l k h h') [4]
theorem H7(n:Int)(h1 : -9223372036854775808<=n)(h2:n<9223372036854775808):aC 58 [aB n] (I n):=by
 apply cG [(0,aB n)] Tryz.func58
 apply aQ [0,2]
 apply W.sr
 simp (disch:=omega) [gw,mG]
 apply cO [0,2,3]
 refine W.iS (fun σ=>∃(w:Int),bF σ [(0,aB n),(2, .ptr 2 0 0 0),(3, .int .u64 w)] fun rows clk=>rows 2=some ⟨0,38,2,[[.bool false, .nil]]⟩∧w=n.natAbs∧0<=w∧w<18446744073709551616) ?_ ?_
 ·
  apply aQ [0,2,3,7]
  refine W.cond ⟨_,rfl,fun h=>?_,fun h=>?_⟩
  ·simp at h
   refine W.bY fun K hK=>?_
   simp [mG]
   exact hK _ ⟨_,aD _ [0,2,3],_,_,_,rfl,aG,aA,aA,aA⟩
  ·simp at h
   apply W.skip
   exact⟨_,aD _ [0,2,3],_,_,_,rfl,aG,aA,aA,aA⟩
 rintro _ ⟨w,rows,clk,rfl,hr,hw,hw0,CS⟩
 apply W.sr
 have e1:V 4294967296 [w%4294967296,w/4294967296%4294967296]=w:=by simp [V];omega
 have lm:dH 4294967296 [w%4294967296,w/4294967296%4294967296]:=by
  intro x hx;simp at hx;omega
 simp [wrap_u32',hr]
 refine bC (qK [w%4294967296,w/4294967296%4294967296] aG lm) ?_
 rw [e1]
 apply j0 hr (i7 w hw0 (decide (n<0)))
 apply sS hr [2]
 apply W.ret
 have e:(if n<0 then -w else w)=n:=by split<;>omega
 rw [e]
 simp [go]
def ge(p:Bool × List Int):List PV:=[.bool p.1,us p.2]
def ie(x:Int):List PV:=[.bool (decide (x<0)),us (aV LL x.natAbs)]
@[simp] theorem aDv{p:Bool × List Int}:ge p = [.bool p.1,us p.2]:=rfl
@[simp] theorem aDw:ie x = [.bool (decide (x<0)),us (aV LL x.natAbs)]:=rfl
@[simp] theorem avk{l:List (Bool × List Int)}:bP 2 (emap ge l)=True:=cS fun _=>rfl
@[simp] theorem avl:bP 2 (emap ie l)=True:=cS fun _=>rfl
@[simp] theorem asb:dG (some ⟨v,e,n,emap ie l⟩)=True:=cM fun _=>rfl
@[simp] theorem asc{l:List (Bool × List Int)}:dG (some ⟨v,e,n,emap ge l⟩)=True:=cM fun _=>rfl
theorem F0{g:α->List PV}(hg:Enc g n){l:List α}{x:α}:iP (emap g l) i 0 (g x)=emap g (l.set i x):=by
 simp only [iP,emap,List.map_set]
 by_cases h:i<l.length
 ·have:(g l[i]).length=n:=hg _
  have h2:(g x).length=n:=hg _
  simp [h,List.drop_of_length_le,this,h2]
 ·rw [List.set_eq_of_length_le (by simp;omega),List.set_eq_of_length_le (by simp;omega)]
@[simp] theorem ayn:iP (emap ie l) i 0 [.bool (decide (x<0)),us (aV LL x.natAbs)]=emap ie (l.set i x):=F0 (n:=2) (fun _=>rfl)
@[simp] theorem EN{g:α->List PV}{l k:List α}:emap g l++emap g k=emap g (l++k):=by simp [emap]
abbrev Po(l:List Int):PV:=aJ ie l
abbrev Pg(l:List (Bool × List Int)):PV:=aJ ge l
def gv(p:Bool × List Int):Int:=iv p.1 p.2
def xZ(x:Int):Bool × List Int:=(decide (x<0),aV LL x.natAbs)
theorem lM(l:List Int):Po l=Pg (l.map xZ):=by simp [aJ,emap,xZ]
theorem TS(x:Int):gv (xZ x)=x:=by
 simp only [gv,xZ,iv,nD iT]
 have:=nD iT x.natAbs
 simp only [show((LL:Nat):Int)=4294967296 from rfl]at this
 rw [this]
 by_cases h:x<0<;>simp [h]<;>omega
theorem cZ(l:List Int):(l.map xZ).map gv=l:=by simp [Function.comp_def,TS]
theorem vY(k:Nat):bA (bA fun q p=>Wk p q) (emap ie (List.replicate k 0)) (List.replicate k [.bool false, .nil]):=by
 have:emap ie (List.replicate k 0)=List.replicate k (ie 0):=by simp [emap]
 rw [this]
 exact TE ⟨.inl rfl, .inr ⟨rfl,rfl⟩,trivial⟩ k
structure x6(l:List (Bool × List Int)):Prop where
 ok:∀p∈l,xG p.2
 len:l.length<1099511627776
theorem x6.nth{l:List (Bool × List Int)}(h:x6 l)(hi:i<l.length):xG (nth l i).2:=h.ok _ (bO hi)
def Sz(x:Int):Prop:=sz LL x<1099511627776
theorem Sz.lok(h:Sz x):xG (aV LL x.natAbs):=⟨gZ iT _,h⟩
theorem x6.alJ(h:∀x∈l,Sz x)(hl:l.length<1099511627776):x6 (l.map xZ):=⟨fun p hp=>by
 simp only [List.mem_map]at hp
 obtain⟨x,hx,rfl⟩:=hp
 exact(h x hx).lok,by simpa using hl⟩
theorem TT(n:Bool)(l:List Int):aC 124 [IV n l] (.bool (decide (l.length=0))):=by
 apply cG [(0,IV n l)] Tryz.func124
 apply fK [1] [2]
 apply W.ret
 simp [go]
 cases l<;>simp<;>omega
theorem BG(l:List Int)(hl:l.length<17592186044416):aC 59 [Po l] (Po (aZ l)):=by
 apply cG [(0,Po l)] Tryz.func59
 apply fK [0] [0,3]
 refine W.seq (W.block ?_)
 refine W.bB (fun k σ=>bF σ [(0,Po l),(3,aB (k:Int))] fun rows clk=>k<=l.length∧aZ l=aZ (l.take k)) l.length ?_ ?_
 ·exact⟨_, .refl,_,_,rfl,aA,aG⟩
 rintro k _ ⟨rows,clk,rfl,hk,hc⟩
 apply W.seq
 refine W.fI (fun σ=>∃(b:Bool),σ=⟨fa [(0,Po l),(3,aB (k:Int)),(15, .bool b)],rows,clk⟩∧(b=true↔0<k∧nth l (k-1)=0)) (fun K hK=>?_) ?_
 ·simp
  by_cases h0:0<k
  ·apply eV h0
   refine bC (TT _ (aV LL (nth l (k-1)).natAbs)) ?_
   apply eV h0
   have e:(aV LL (nth l (k-1)).natAbs).length=0↔nth l (k-1)=0:=by
    rw [List.length_eq_zero_iff,gC iT];omega
   refine hK _ _ (aD _ [0,3,15]) ⟨_,rfl,?_⟩
   simp [h0,<-e]
  ·apply eV h0
   exact hK _ _ (aD _ [0,3,15]) ⟨_,rfl,by simp [h0]⟩
 rintro _ ⟨b,rfl,hb⟩
 refine W.cond ⟨_,rfl,fun h=>?_,fun h=>?_⟩
 ·obtain⟨h0,h1⟩:=hb.1 h
  refine W.skip (W.block ?_)
  refine W.bY fun K hK=>?_
  apply (cV)
  refine hK _ ⟨k-1,_,Gh.fr [(0,_),(3,aB ((k-1:Nat):Int))] (by simp;omega),aA,_,_,rfl,aA,?_⟩
  rw [hc,show k=(k-1)+1 by omega,bQ aA,h1,mH]
  simp
 ·have h2:aZ l=l.take k:=by
   rw [hc]
   by_cases h0:0<k
   ·have h1:nth l (k-1)≠0:=fun h1=>by simp [hb.2 ⟨h0,h1⟩]at h
    rw [show k=(k-1)+1 by omega,bQ aA]
    exact kS h1 _
   ·have:k=0:=by omega
    subst this;simp [aZ]
  apply xY [2]
  apply W.ret
  simp [go,h2]
theorem kT(l:List (Bool × List Int))(h:x6 l):aC 64 [Pg l] (Po (aZ (l.map gv))):=by
 apply cG [(0,Pg l)] Tryz.func64
 have hl:=h.len
 apply fK [0] [0,3]
 refine W.row (id:=8) (emap ie (List.replicate l.length 0)) (by simp;exact⟨rfl,rfl,rfl⟩) (vY _) ?_
 apply eE [3,9,10,11]
 refine W.bB (fun k σ=>∃(i:Nat) (z:List Int) (ver:Nat),bF σ [(3, .own 8 ver 0 l.length),(9,Pg l),(10,aB l.length),(11,aB i)] fun rows clk =>
  rows 8=some ⟨ver,38,2,emap ie z⟩∧k=l.length-i∧i<=l.length∧z.length=l.length∧z.take i=(l.take i).map gv) l.length ?_ ?_
 ·exact⟨_, .refl,0,List.replicate l.length 0,_,_,_,rfl,aG,aA,aA,aG,aG⟩
 rintro k _ ⟨i,z,ver,rows,clk,rfl,hr,hk,hi,hz,hv⟩
 apply cN [3,9,10,11,12]
 refine W.cond ⟨_,rfl,fun c8=>?_,fun c8=>?_⟩
 ·simp at c8
  apply (iE)
  apply fJ hr [3,4,5,9,10,11]
  refine W.bY fun K hK=>?_
  apply eV hr
  refine bC (ME _ _ (h.nth c8)) ?_
  apply eV hr
  refine W.lw [3,9,10,11] hK ?_;clear hK K;simp
  refine W.bY fun K hK=>?_
  apply (cV)
  refine hK _ ⟨l.length-(i+1),_,aD _ [3,9,10,11],aA,i+1,z.set i (iv (nth l i).1 (nth l i).2),ver,_,_,rfl,aG,aA,aA,by simpa using hz,?_⟩
  rw [oT hv aA,sA c8];rfl
 ·simp at c8
  have jF:i=l.length:=aA
  subst jF
  apply (gK)
  rw [bW hz]at hv
  have xF:=bW hz
  apply W.sr
  apply j1 hr xF
  refine bC (BG z aA) ?_
  apply bT [2]
  apply W.ret
  simp at hv
  simp [go,hv]
theorem O7(l:List (Bool × List Int))(k:Nat)(hl:l.length<1099511627776)(hk:k<9223372036854775808):aC 243 [Pg l,aB k] (.ag (ge (nth l k))):=by
 apply cG [(0,Pg l),(1,aB k)] Tryz.func243
 apply aQ [0,1,4]
 apply cQ [0,1,4,8]
 refine W.cond ⟨_,rfl,fun h=>?_,fun h=>?_⟩
 ·simp at h
  exact eY [4]
 ·simp at h
  apply W.skip
  apply aQ [4]
  apply W.ret
  rw [kA h]
  simp [go]
  exact⟨rfl,rfl⟩
theorem vZ(g:FuncId)(hw:K3 g=false)(bR:List PV)(hc:bR.all cY=true)(n:Nat)(hn:n<1099511627776)(val:Nat->Int)(hg:∀k,k<n->aC g (aB (k:Int)::bR) (I (val k)))(hm:vX g=false:=by rfl) :
  aC 163 [aB n, .fn g bR] (Po (aZ ((List.range n).map val))):=by
 apply cG [(0,aB n),(1, .fn g bR)] Tryz.func163
 apply fK [0,1] [1,5]
 refine W.row (id:=8) (emap ie (List.replicate n 0)) (by simp;exact⟨rfl,rfl,rfl⟩) (vY _) ?_
 apply eE [1,5,10,11]
 refine W.bB (fun k σ=>∃(i:Nat) (z:List Int) (ver:Nat),bF σ [(1, .fn g bR),(5, .own 8 ver 0 n),(10,aB n),(11,aB i)] fun rows clk =>
  rows 8=some ⟨ver,38,2,emap ie z⟩∧k=n-i∧i<=n∧z.length=n∧z.take i=(List.range i).map val) n ?_ ?_
 ·exact⟨_, .refl,0,List.replicate n 0,_,_,_,rfl,aG,aA,aA,aG,aG⟩
 rintro k _ ⟨i,z,ver,rows,clk,rfl,hr,hk,hi,hz,hv⟩
 apply cN [1,5,10,11,12]
 refine W.cond ⟨_,rfl,fun h=>?_,fun h=>?_⟩
 ·simp at h
  apply oR [1,5,6,10,11]
  refine W.bY fun K hK=>?_
  simp (disch:=omega) [gw,hr, -K3,hw, -vX,hm]
  apply j9 (hg i h)
  apply eV hr
  refine W.lw [1,5,10,11] hK ?_;clear hK K;simp
  refine W.bY fun K hK=>?_
  apply (cV)
  refine hK _ ⟨n-(i+1),_,aD _ [1,5,10,11],aA,i+1,z.set i (val i),ver,_,_,rfl,aG,aA,aA,by simpa using hz,?_⟩
  rw [oT hv aA,List.range_succ];simp
 ·simp at h
  have jF:i=n:=aA
  subst jF
  apply (gK)
  rw [bW hz]at hv
  have xF:=bW hz
  apply W.sr
  apply j1 hr xF
  refine bC (BG z aA) ?_
  apply bT [4]
  apply W.ret
  simp [go,hv]
end Go.Proofs.YtiobceocpabjdaaGreat
