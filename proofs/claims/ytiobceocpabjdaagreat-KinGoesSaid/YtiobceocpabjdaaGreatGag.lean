import Derived.KernelRfl
import Derived.Test.YtiobceocpabjdaaGreatGad
import Derived.Test.YtiobceocpabjdaaGreatGae
import Derived.Test.YtiobceocpabjdaaGreatGaf
set_option linter.unusedSimpArgs false
set_option linter.unusedVariables false
namespace Go.Proofs.YtiobceocpabjdaaGreat
open Go Pm List
variable {n v e i:Nat}{l:List Int}{x:Int}{α:Type}
theorem bL{tG:FuncId}{fn:Func}{code:Code}{args:List PV}{r:PV}(l:List (Nat × PV))(h1:env.P.funcs[tG]? = some fn)(h:W env fn.ntmps (fun _=>0) code (Te env fn.results.toList r) ⟨fa l,fun _=>none,0⟩)(h2:fn.body=some code:=by rfl) (h3:(fn.name == "runtime.NumGoroutine") = false:=by kernel_rfl) (ec:dQ env fn.ntmps (fun _=>0) code=true:=by kernel_rfl) (di:args.length<=fn.ntmps:=by exact of_decide_eq_true (by kernel_rfl)) (hl:∀p∈l,args.getD p.1 .undef=p.2:=by simp):Xr env.P tG args r:=
  jx (fun _=>0) l h1 h2 h3 ec di hl h
theorem bX{p:Prop}(h:p:=by kernel_rfl):p:=h
abbrev aj(f:FuncId)(a:List PV)(r:PV):Prop:=Xr env.P f a r
abbrev jq(f:FuncId)(a:List PV)(e:TypeId)(n:Nat)(core fD:List PV)(r:PV):Prop:=yD env.P f a e n core fD r
def u32(n:Int):List PV:=[.int .u32 n]
@[simp] theorem apq{n:Int}:u32 n = [.int .u32 n]:=rfl
theorem Zc:Enc u32 1:=fun _=>rfl
theorem Ug:akl u32:=fun _=>rfl
@[simp] theorem afQ:bC 1 (emap u32 l)=True:=cE Zc
@[simp] theorem acC:da (some ⟨v,e,n,emap u32 l⟩)=True:=ck Ug
@[simp] theorem apr:replicate n [PV.int .u32 0]=emap u32 (replicate n 0):=by simp [emap]
@[simp] theorem ai3:fQ (emap u32 l) i 0 [.int .u32 x]=emap u32 (l.set i x):=by
 simp only [fQ,emap,map_set]
 by_cases h:i<l.length
 ·simp [h]
 ·rw [set_eq_of_length_le (by simp;omega),set_eq_of_length_le (by simp;omega)]
@[simp] theorem amg{g:α->List PV}{l:List α}:(emap g l).length=l.length:=by simp [emap]
abbrev us(l:List Int):PV:=aw u32 l
abbrev LL:Nat:=4294967296
abbrev N(x:Int):PV:=us (aI LL x.toNat)
theorem fV:2<=LL:=by decide
theorem vA(h:cV 4294967296 l):us (aK l)=N (V 4294967296 l):=by rw [rj fV h];rfl
theorem dy(l:List Int)(hl:l.length<17592186044416):aj 208 [us l] (us (aK l)):=by
 apply bL [(0,us l)] Tryz.func208;apply eQ [0] [0,3];refine W.seq (W.block ?_)
 refine W.aO (fun k σ=>aQ σ [(0,us l),(3,ae (k:Int))] fun rows clk=>k<=l.length∧aK l=aK (l.take k)) l.length ?_ ?_
 ·exact⟨_, .refl,_,_,rfl,aa,av⟩
 rintro k _ ⟨rows,clk,rfl,hk,hc⟩;apply W.seq
 refine W.dx (fun σ=>∃(b:Bool),σ=⟨fa [(0,us l),(3,ae (k:Int)),(15, .bool b)],rows,clk⟩∧(b=true↔0<k∧nth l (k-1)=0)) (fun K hK=>?_) ?_
 ·simp
  by_cases h0:0<k
  ·apply dB h0;exact hK _ _ (ak _ [0,3,15]) ⟨_,rfl,by simp [h0]⟩
  ·apply dB h0;exact hK _ _ (ak _ [0,3,15]) ⟨_,rfl,by simp [h0]⟩
 rintro _ ⟨b,rfl,hb⟩
 apply (dI)<;>intro h
 ·obtain⟨h0,h1⟩:=hb.1 h;refine W.skip (W.block ?_);refine bB fun K hK=>?_;refine hK _ ⟨k-1,_,Gh.fr [(0,_),(3,ae ((k-1:Nat):Int))] (by simp;omega),aa,_,_,rfl,aa,?_⟩;rw [hc,show k=(k-1)+1 by omega,bt aa,h1,jy];simp
 ·have h2:aK l=l.take k:=by
   rw [hc]
   by_cases h0:0<k
   ·have h1:nth l (k-1)≠0:=fun h1=>by simp [hb.2 ⟨h0,h1⟩]at h
    rw [show k=(k-1)+1 by omega,bt aa];exact iJ h1 _
   ·have:k=0:=(by omega);subst this;simp [aK]
  apply qZ [2];apply W.ret;simp [h2]
theorem mC(l:List Int)(hl:l.length<1099511627776)(hm:cV 4294967296 l):aj 123 [us l] (N (V 4294967296 l)):=by rw [<-vA hm];apply bL [(0,us l)] Tryz.func123;apply mz [0];simp;refine aU (dy l aa) ?_;have:=bS l;apply bM [2];apply W.ret;simp
theorem Na(a b:List Int)(ha:a.length<1099511627776)(hb:b.length<1099511627776)(la:cV 4294967296 a)(lb:cV 4294967296 b):aj 133 [us a,us b] (N (V 4294967296 a+V 4294967296 b)):=by
 apply bL [(0,us a),(1,us b)] Tryz.func133;apply mz [0,1];simp;refine aU (dy a aa) ?_;simp;refine aU (dy b aa) ?_;simp;apply c9 [0,1]
 refine W.fR (fun σ=>∃(x y:List Int),aQ σ [(0,us x),(1,us y)] fun rows clk=>cV 4294967296 x∧cV 4294967296 y∧y.length<=x.length∧x.length<1099511627776 ∧
  V 4294967296 a+V 4294967296 b=V 4294967296 x+V 4294967296 y) ?_ ?_
 ·have h1:=bS a;have h2:=bS b
  apply fi [0,1,18]<;>intro h
  ·simp at h;refine bB fun K hK=>?_;exact hK _ ⟨_,ak _ [0,1],_,_,_,_,rfl,eh lb,eh la,aa,aa,by simp [c8];omega⟩
  ·simp at h;apply W.skip;exact⟨_,ak _ [0,1],_,_,_,_,rfl,eh la,eh lb,aa,aa,by simp [c8]⟩
 rintro _ ⟨x,y,rows,clk,rfl,lx,ly,pR,hx,hV⟩;rw [hV];clear hV la lb ha hb a b;apply eQ [0,1,5] [0,1,5,6];apply dU [0,1,5,6,25,26,27]
 refine W.aO (fun k σ=>∃(i:Nat) (c:Int) (z:List Int) (ver:Nat),aQ σ [(0,us x),(1,us y),(5, .own 24 ver 0 (x.length+1)),(6, .int .u64 c),(25,us x),(26,ae x.length),(27,ae i)] fun rows clk =>
   rows 24=some ⟨ver,185,1,emap u32 z⟩∧k=x.length-i∧i<=x.length∧z.length=x.length+1∧cV 4294967296 z∧0<=c∧c<=1 ∧
   V 4294967296 (z.take i)+4294967296^i*c=V 4294967296 (x.take i)+V 4294967296 (y.take i)) x.length ?_ ?_
 ·exact⟨_, .refl,0,0,replicate (x.length+1) 0,_,_,_,rfl,av,aa,aa,av,cV.rep ar _,aa,aa,by simp [V]⟩
 rintro k _ ⟨i,c,z,ver,rows,clk,rfl,hr,hk,hi,hz,lz,pY,qQ,hV⟩
 apply ef [0,1,5,6,25,26,27,28]<;>intro h
 ·simp at h;have hxi:=lx.nth h;apply (ft);apply eQ [0,1,5,6,7,8,25,26,27] [0,1,5,7,9,25,26,27]
  refine W.fR (fun σ=>∃(s:Int),σ=⟨fa [(0,us x),(1,us y),(5, .own 24 ver 0 (x.length+1)),(7,ae i),(9, .int .u64 s),(25,us x),(26,ae x.length),(27,ae i)],rows,clk⟩∧0<=s∧s<8589934592 ∧
   V 4294967296 (x.take (i+1))+V 4294967296 (y.take (i+1))=V 4294967296 (z.take i)+4294967296^i*s) ?_ ?_
  ·
   apply fi [0,1,5,7,9,25,26,27,39]<;>intro h
   ·simp at h;have Pv:=ly.nth h;refine bB fun K hK=>?_;refine hK _ ⟨_,ak _ [0,1,5,7,9,25,26,27],_,rfl,aa,aa,?_⟩;rw [aT aa,aT aa];grind
   ·simp at h;apply W.skip;refine⟨_,ak _ [0,1,5,7,9,25,26,27],_,rfl,aa,aa,?_⟩;rw [aT aa,aZ (l:=y) aa];rw [aZ (l:=y) aa]at hV;grind
  rintro _ ⟨s,rfl,Nb,ni,KH⟩;refine W.wI fun K hK=>?_;simp (disch:=omega) [gw,hr,wrap_u32'];refine W.lw [0,1,5,6,25,26,27] hK ?_;clear hK K;simp;refine bB fun K hK=>?_;refine hK _ ⟨x.length-(i+1),_,ak _ [0,1,5,6,25,26,27],aa,i+1,s/4294967296,z.set i (s%4294967296),ver,_,_,rfl,av,aa,aa,au hz,lz.set aa,aa,aa,?_⟩;rw [fw aa,KH,Int.pow_succ];have:=Int.emod_add_mul_ediv s 4294967296;grind
 ·simp at h;have iK:i=x.length:=aa;subst iK;apply (iq);apply u6 hr [5];have n6:List.take (x.length+1) (z.set x.length c)=z.set x.length c:=take_of_length_le (by simp;omega);apply W.sr;apply dB n6;refine aU (dy (z.set x.length c) (by simp;omega)) ?_;apply bM [4];apply W.ret;have e:V 4294967296 (z.set x.length c)=V 4294967296 x+V 4294967296 y:=by rw [<-aZ (l:=z.set x.length c) (i:=x.length+1) (by simp;omega),fw aa,hV,aZ (l:=y) aa];simp
  rw [<-e,vA (lz.set aa)];simp
theorem E0(a b:List Int)(ha:a.length<1099511627776)(hb:b.length<1099511627776)(la:cV 4294967296 a)(lb:cV 4294967296 b):aj 212 [us a,us b] (ae (dc (V 4294967296 a) (V 4294967296 b))):=by
 apply bL [(0,us a),(1,us b)] Tryz.func212;apply mz [0,1];simp;refine aU (dy a aa) ?_;simp;refine aU (dy b aa) ?_;simp;apply c9 [0,1];have cx:=eD a;have lx:=eh la;have hx:=bS a;have cy:=eD b;have ly:=eh lb;have hy:=bS b;rw [<-c8 a,<-c8 b];generalize aK a=x,aK b=y at *
 apply cS [0,1,14]<;>intro h
 ·simp at h
  apply cS [19]<;>intro h
  ·simp at h;apply aR [4];apply W.ret;simp [kK (jA ar lx ly cy h)]
  ·simp at h;apply W.skip;apply aR [4];apply W.ret;simp [kN (jA ar ly lx cx aa)]
 ·simp at h;have hlen:x.length=y.length:=aa;clear h;apply (jm);apply yM [0,1,5]
  refine W.aO (fun k σ=>aQ σ [(0,us x),(1,us y),(5,ae ((k:Int)-1))] fun rows clk=>k<=x.length∧x.drop k=y.drop k) x.length ?_ ?_
  ·exact⟨_, .refl,_,_,rfl,aa,by rw [drop_of_length_le aa,drop_of_length_le aa]⟩
  rintro k _ ⟨rows,clk,rfl,hk,hd⟩
  apply cS [0,1,5,24]<;>intro h
  ·have h0:0<k:=(by simp at h;omega);obtain⟨j,rfl⟩:∃j,k=j+1:=⟨k-1,aa⟩
   clear h;apply (ft);apply W.seq;apply W.sd
   apply kt [0,1,5,35]<;>intro h
   ·simp at h;apply aR [4];apply W.ret;simp [kK (nB ar lx ly hlen aa hd h)]
   ·simp at h;apply W.skip;apply W.sd;apply bM [0,1,5,44]
    refine W.cond ⟨_,rfl,fun h2=>?_,fun h2=>?_⟩
    ·simp at h2;apply aR [4];apply W.ret;simp [kN (nB ar ly lx hlen.symm aa hd.symm h2)]
    ·simp at h2;apply W.skip;refine bB fun K hK=>?_;refine hK _ ⟨j,_,ak _ [0,1,5],aa,_,_,rfl,aa,?_⟩;rw [fu (l:=x) (i:=j) aa,fu (l:=y) (i:=j) aa,hd,show nth x j=nth y j by omega]
  ·have h0:k=0:=(by simp at h;omega);subst h0;simp at hd;subst hd;apply qZ [4];apply W.ret;simp [ve]
def KI(x y:Int):PV:=if x<y then .cW [us [], .bool false]else .cW [N (x-y), .bool true]
theorem E1(a b:List Int)(ha:a.length<1099511627776)(hb:b.length<1099511627776)(la:cV 4294967296 a)(lb:cV 4294967296 b):aj 134 [us a,us b] (KI (V 4294967296 a) (V 4294967296 b)):=by
 apply bL [(0,us a),(1,us b)] Tryz.func134;apply mz [0,1];simp;refine aU (dy a aa) ?_;simp;refine aU (dy b aa) ?_;simp;apply c9 [0,1];have cx:=eD a;have lx:=eh la;have hx:=bS a;have cy:=eD b;have ly:=eh lb;have hy:=bS b;rw [<-c8 a,<-c8 b];generalize aK a=x,aK b=y at *;apply W.seq;apply W.sr;simp;refine aU (E0 x y aa aa lx ly) ?_
 apply kt [0,1,18]<;>intro h
 ·have h:V 4294967296 x<V 4294967296 y:=kZ.1 (au h);apply aR [4,5];apply W.ret;simp [KI,h];rfl
 ·have h:V 4294967296 y<=V 4294967296 x:=rm.1 (au h)
  have hyx:y.length<=x.length:=by
   rcases Nat.lt_or_ge x.length y.length with h2 | h2
   ·have:=jA ar lx ly cy h2;omega
   ·exact h2
  apply W.skip;apply eQ [0,1,6] [0,1,6,7];apply dU [1,6,7,22,23,24]
  refine W.aO (fun k σ=>∃(i:Nat) (c:Int) (z:List Int) (ver:Nat),aQ σ [(1,us y),(6, .own 21 ver 0 x.length),(7, .int .u64 c),(22,us x),(23,ae x.length),(24,ae i)] fun rows clk =>
   rows 21=some ⟨ver,185,1,emap u32 z⟩∧k=x.length-i∧i<=x.length∧z.length=x.length∧cV 4294967296 z∧0<=c∧c<=1 ∧
   V 4294967296 (z.take i)-4294967296^i*c=V 4294967296 (x.take i)-V 4294967296 (y.take i)) x.length ?_ ?_
  ·exact⟨_, .refl,0,0,replicate x.length 0,_,_,_,rfl,av,aa,aa,av,cV.rep ar _,aa,aa,by simp [V]⟩
  rintro k _ ⟨i,c,z,ver,rows,clk,rfl,hr,hk,hi,hz,lz,pY,qQ,hV⟩
  apply ef [1,6,7,22,23,24,25]<;>intro h
  ·simp at h;have hxi:=lx.nth h;apply (ft);apply mz [1,6,7,8,9,22,23,24];simp (disch:=omega) [gA,wrap_u64 hxi.1];apply c9 [1,6,8,10,22,23,24]
   refine W.fR (fun σ=>∃(d:Int),σ=⟨fa [(1,us y),(6, .own 21 ver 0 x.length),(8,ae i),(10, .int .u64 (IntKind.u64.wrap d)),(22,us x),(23,ae x.length),(24,ae i)],rows,clk⟩ ∧ -4294967296<=d∧d<4294967296 ∧
    V 4294967296 (x.take (i+1))-V 4294967296 (y.take (i+1))=V 4294967296 (z.take i)+4294967296^i*d) ?_ ?_
   ·
    apply fi [1,6,8,10,22,23,24,36]<;>intro h
    ·simp at h;have Pv:=ly.nth h;refine W.wI fun K hK=>?_;simp (disch:=omega) [gA,wrap_u64 Pv.1]
     refine hK _ ⟨_,ak _ [1,6,8,10,22,23,24],nth x i-c-nth y i,?_,aa,aa,?_⟩
     ·have:IntKind.u64.wrap (IntKind.u64.wrap (nth x i-c)-nth y i)=IntKind.u64.wrap (nth x i-c-nth y i):=(by simp only [jw];omega);simp [this]
     rw [aT aa,aT aa];grind
    ·simp at h;apply W.skip;refine⟨_,ak _ [1,6,8,10,22,23,24],_,rfl,aa,aa,?_⟩;rw [aT aa,aZ (l:=y) aa];rw [aZ (l:=y) aa]at hV;grind
   rintro _ ⟨d,rfl,Nb,ni,KH⟩;refine W.wI fun K hK=>?_;simp (disch:=omega) [gw,hr,wrap_u32'];refine W.lw [1,6,7,22,23,24] hK ?_;clear hK K;simp;refine bB fun K hK=>?_;have e1:d=IntKind.u64.wrap d%4294967296-4294967296*(IntKind.u64.wrap d/9223372036854775808)∧0<=IntKind.u64.wrap d/9223372036854775808∧IntKind.u64.wrap d/9223372036854775808<=1:=(by rw [jw];omega);generalize IntKind.u64.wrap d=s at *;refine hK _ ⟨x.length-(i+1),_,ak _ [1,6,7,22,23,24],aa,i+1,s/9223372036854775808,z.set i (s%4294967296),ver,_,_,rfl,av,aa,aa,au hz,lz.set aa,aa,aa,?_⟩;rw [fw aa,KH,Int.pow_succ];grind
  ·simp at h;have iK:i=x.length:=aa;subst iK;apply (ey);have n6:z.take x.length=z:=take_of_length_le aa
   have e:V 4294967296 z=V 4294967296 x-V 4294967296 y:=by
    rw [n6,aZ (Nat.le_refl _),aZ (l:=y) aa]at hV;have h1:=nZ ar lz;rw [hz]at h1
    have:c=0:=by
     rcases Int.lt_or_le c 1 with h2 | h2
     ·omega
     ·have h3:c=1:=(by omega);subst h3;omega
    subst this;omega
   apply W.sr;apply fN hr n6;refine aU (dy z aa) ?_;apply bM [4,5];apply W.ret;rw [KI,if_neg aa,<-e,<-vA lz];simp
theorem Zd{a b:Int}(ha:0<=a∧a<4294967296)(hb:0<=b∧b<4294967296):0<=a*b∧a*b<=18446744065119617025:=by refine⟨Int.mul_nonneg ha.1 hb.1,?_⟩;have:=Int.mul_le_mul (show a<=4294967295 by omega) (show b<=4294967295 by omega) hb.1 ar;simpa using this
theorem Ze(a b:List Int)(ha:a.length<1099511627776)(hb:b.length<1099511627776)(la:cV 4294967296 a)(lb:cV 4294967296 b):aj 135 [us a,us b] (N (V 4294967296 a*V 4294967296 b)):=by
 apply bL [(0,us a),(1,us b)] Tryz.func135;apply mz [0,1];simp;refine aU (dy a aa) ?_;simp;refine aU (dy b aa) ?_;simp;apply c9 [0,1];have lx:=eh la;have hx:=bS a;have ly:=eh lb;have hy:=bS b;rw [<-c8 a,<-c8 b];generalize aK a=x,aK b=y at *;apply aR [0,1,5];apply dU [1,5,22,23,24]
 refine W.aO (fun k σ=>∃(i:Nat) (z:List Int) (ver:Nat),aQ σ [(1,us y),(5, .own 21 ver 0 (x.length+y.length)),(22,us x),(23,ae x.length),(24,ae i)] fun rows clk =>
   rows 21=some ⟨ver,185,1,emap u32 z⟩∧k=x.length-i∧i<=x.length∧z.length=x.length+y.length∧cV 4294967296 z∧(∀j,i+y.length<=j->nth z j=0) ∧
   V 4294967296 z=V 4294967296 (x.take i)*V 4294967296 y) x.length ?_ ?_
 ·have e:((x.length:Int)+(y.length:Int)).toNat=x.length+y.length:=by omega
  refine⟨_, .refl,0,replicate (x.length+y.length) 0,_,_,_,rfl,by simp [e],aa,aa,av,cV.rep ar _,fun j _=>?_,by simp [V,pW]⟩;unfold nth;cases h:(replicate (x.length+y.length) (0:Int))[j]? with
  | none=>rfl
  | some v=>have:=mem_of_getElem? h;simp at this;simp [this]
 rintro k _ ⟨i,z,ver,rows,clk,rfl,hr,hk,hi,hz,lz,lT,hV⟩
 apply ef [1,5,22,23,24,25]<;>intro h
 ·simp at h;have hxi:=lx.nth h;apply W.skip
  refine W.dh (fun σ=>∃(z:List Int) (ver:Nat),aQ σ [(1,us y),(5, .own 21 ver 0 (x.length+y.length)),(22,us x),(23,ae x.length),(24,ae i)] fun rows clk =>
   rows 21=some ⟨ver,185,1,emap u32 z⟩∧z.length=x.length+y.length∧cV 4294967296 z∧(∀j,i+1+y.length<=j->nth z j=0) ∧
   V 4294967296 z=V 4294967296 (x.take (i+1))*V 4294967296 y) ?_ ?_
  ·
   apply eQ [1,5,6,7,22,23,24] [1,5,6,7,8,22,23,24];apply dU [1,5,6,7,8,22,23,24,29,30,31]
   refine W.aO (fun m σ=>∃(k:Nat) (c:Int) (z:List Int) (ver:Nat),aQ σ [(1,us y),(5, .own 21 ver 0 (x.length+y.length)),(6,ae i),(7, .int .u32 (nth x i)),(8, .int .u64 c),(22,us x),(23,ae x.length),(24,ae i),(29,us y),(30,ae y.length),(31,ae k)] fun rows clk =>
    rows 21=some ⟨ver,185,1,emap u32 z⟩∧m=y.length-k∧k<=y.length∧z.length=x.length+y.length∧cV 4294967296 z∧(∀j,i+y.length<=j->nth z j=0)∧0<=c∧c<4294967296 ∧
    V 4294967296 z+4294967296^(i+k)*c=V 4294967296 (x.take i)*V 4294967296 y+4294967296^i*nth x i*V 4294967296 (y.take k)) y.length ?_ ?_
   ·exact⟨_, .refl,0,0,z,ver,_,_,rfl,au hr,aa,aa,hz,lz,lT,aa,aa,by simp [V,hV]⟩
   clear hV lT lz hz hr z ver rows clk;rintro m _ ⟨k,c,z,ver,rows,clk,rfl,hr,hm,hky,hz,lz,lT,pY,qQ,hV⟩;apply fB [1,5,6,7,8,22,23,24,29,30,31,32]
   refine W.cond ⟨_,rfl,fun h2=>?_,fun h2=>?_⟩
   ·simp at h2;have hyk:=ly.nth h2;have hzk:=lz.nth (i:=i+k) aa;have hp:=Zd hxi hyk;apply lW [1,5,6,7,8,9,10,22,23,24,29,30,31];have e0:((i:Int)+(k:Int)).toNat=i+k:=aa;apply W.sr;simp (disch:=omega) [gw,hr,e0];apply c9 [1,5,6,7,9,11,22,23,24,29,30,31];refine W.wI fun K hK=>?_;simp (disch:=omega) [gw,hr,e0,wrap_u32'];refine W.lw [1,5,6,7,8,22,23,24,29,30,31] hK ?_;clear hK K;simp;refine bB fun K hK=>?_;have e1:=Int.emod_add_mul_ediv (nth x i*nth y k+nth z (i+k)+c) 4294967296;have hs:0<=nth x i*nth y k+nth z (i+k)+c∧nth x i*nth y k+nth z (i+k)+c<18446744073709551616:=aa;have KH:=Dg (b:=4294967296) (l:=z) (i:=i+k) (x:=(nth x i*nth y k+nth z (i+k)+c)%4294967296) aa
    refine hK _ ⟨y.length-(k+1),_,ak _ [1,5,6,7,8,22,23,24,29,30,31],aa,k+1,_,z.set (i+k) ((nth x i*nth y k+nth z (i+k)+c)%4294967296),ver,_,_,rfl,av,aa,aa,au hz,lz.set aa,fun j hj=>?_,aa,aa,?_⟩
    ·rw [gG aa];exact lT j hj
    ·rw [KH,aT h2,show i+(k+1)=(i+k)+1 by omega,Int.pow_succ,Int.pow_add];rw [Int.pow_add]at hV;grind
   ·simp at h2;have wE:k=y.length:=aa;subst wE;apply qZ [1,5,6,8,22,23,24,63]
    refine W.cond ⟨_,rfl,fun h3=>?_,fun h3=>?_⟩
    ·simp at h3;have e0:((i:Int)+(y.length:Int)).toNat=i+y.length:=aa;refine W.wI fun K hK=>?_;simp (disch:=omega) [gw,hr,e0];have KH:=Dg (b:=4294967296) (l:=z) (i:=i+y.length) (x:=c) aa
     refine hK _ ⟨_,ak _ [1,5,22,23,24],z.set (i+y.length) c,ver,_,_,rfl,av,au hz,lz.set aa,fun j hj=>?_,?_⟩
     ·rw [gG aa];exact lT j aa
     ·rw [KH,aT h,lT _ (Nat.le_refl _)];rw [aZ (Nat.le_refl _)]at hV;grind
    ·simp at h3;apply W.skip;refine⟨_,ak _ [1,5,22,23,24],z,ver,_,_,rfl,hr,hz,lz,fun j hj=>lT j aa,?_⟩;subst h3;simp only [V,take_nil,Int.mul_zero,Int.add_zero,length_nil]at hV |-;have h4:=bH ar lz;have h5:0<=(4294967296:Int)^i*c:=Int.mul_nonneg (Int.le_of_lt (Int.pow_pos ar)) pY;simp only [Nat.add_zero]at hV;omega
  clear hV lT lz hz hr z ver rows clk;rintro _ ⟨z,ver,rows,clk,rfl,hr,hz,lz,lT,hV⟩;refine bB fun K hK=>?_;exact hK _ ⟨x.length-(i+1),_,ak _ [1,5,22,23,24],aa,i+1,z,ver,_,_,rfl,hr,aa,aa,hz,lz,lT,hV⟩
 ·simp at h;have iK:i=x.length:=aa;subst iK;have n6:List.take (x.length+y.length) z=z:=take_of_length_le aa;apply (iq);apply fN hr n6;refine aU (dy z aa) ?_;apply bM [4];apply W.ret;rw [aZ (Nat.le_refl _)]at hV;rw [<-hV,<-vA lz];simp
abbrev IV(neg:Bool)(l:List Int):PV:=.ag [.bool neg,us l]
def iv(neg:Bool)(l:List Int):Int:=if neg=true then-V 4294967296 l else V 4294967296 l
abbrev I(x:Int):PV:=IV (decide (x<0)) (aI LL x.natAbs)
structure rB(l:List Int):Prop where
 xd:cV 4294967296 l
 len:l.length<1099511627776
theorem gf(y:Int)(hy:0<=y)(neg:Bool):aj 122 [N y, .bool neg] (I (if neg=true then -y else y)):=by
 apply bL [(0,N y),(1, .bool neg)] Tryz.func122;apply aR [0,1,4];have e0:(aI LL y.toNat = [])↔y=0:=by rw [eT fV];omega
 have e:I (if neg=true then -y else y) = .ag [.bool (neg&&decide (0<(aI LL y.toNat).length)),N y]:=by
  have h1:0<(aI LL y.toNat).length↔y≠0:=by rw [length_pos_iff];simp [e0]
  have e2:(if neg=true then -y else y).natAbs=y.toNat:=by split<;>omega
  have e3:(decide ((if neg=true then -y else y)<0))=(neg&&decide (0<(aI LL y.toNat).length)):=by
   cases neg
   ·simp only [Bool.false_and,Bool.false_eq_true,if_false,decide_eq_false_iff_not];omega
   ·simp only [Bool.true_and,if_true,h1];congr 1;apply propext;omega
  rw [I,e2,e3]
 rw [e];refine W.EP fun K hK=>?_
 cases neg
 ·apply (cp);refine W.lw [4] hK ?_;clear hK K;simp;exact gK
 ·apply (cp);refine W.lw [4] hK ?_;clear hK K;simp;exact gK
theorem pZ(h:rB l):0<=V 4294967296 l:=bH ar h.xd
theorem Dl(n:Bool)(l:List Int)(h:rB l):aj 132 [IV n l] (I (iv n l)):=by apply bL [(0,IV n l)] Tryz.func132;apply gr [1,2];apply my (mC l h.len h.xd);refine aU (gf _ (pZ h) n) ?_;apply bM [2];apply W.ret;simp [go,iv]
theorem AR(n:Bool)(l:List Int)(h:rB l):aj 148 [IV n l] (I (- iv n l)):=by
 apply bL [(0,IV n l)] Tryz.func148;have e : - iv n l=if (!n)=true then-V 4294967296 l else V 4294967296 l:=by cases n<;>simp [iv]
 rw [e];apply gr [1,2];apply my (mC l h.len h.xd);refine aU (gf _ (pZ h) (!n)) ?_;exact eK [2]
theorem Hs(n m:Bool)(l k:List Int)(h:rB l)(h':rB k):aj 66 [IV n l,IV m k] (I (iv n l*iv m k)):=by
 apply bL [(0,IV n l),(1,IV m k)] Tryz.func66;have e:iv n l*iv m k=if (n != m)=true then-(V 4294967296 l*V 4294967296 k)else V 4294967296 l*V 4294967296 k:=by cases n<;>cases m<;>simp [iv,Int.neg_mul,Int.mul_neg]
 rw [e];apply gr [2,3,4];apply my (Ze l k h.len h'.len h.xd h'.xd);refine aU (gf _ (Int.mul_nonneg (pZ h) (pZ h')) (n != m)) ?_;exact eK [4]
theorem AS(n m:Bool)(l k:List Int)(h:rB l)(h':rB k):aj 65 [IV n l,IV m k] (I (iv n l+iv m k)):=by
 apply bL [(0,IV n l),(1,IV m k)] Tryz.func65;have p1:=pZ h;have p2:=pZ h';apply fB [2,3,4];apply aR [2,3,4,13]
 refine W.cond ⟨_,rfl,fun hb=>?_,fun hb=>?_⟩
 ·have hb:n=m:=au hb;subst hb;have e:iv n l+iv n k=if n=true then-(V 4294967296 l+V 4294967296 k)else V 4294967296 l+V 4294967296 k:=by cases n<;>simp [iv];omega
  rw [e];apply W.sd;apply my (Na l k h.len h'.len h.xd h'.xd);refine aU (gf _ aa n) ?_;exact eK [4]
 ·have hb:m = !n:=by cases n<;>cases m<;>simp_all
  subst hb;apply (jm);refine W.EP fun K hK=>?_;apply jK (E1 l k h.len h'.len h.xd h'.xd)
  by_cases bZ:V 4294967296 l<V 4294967296 k
  ·simp (disch:=omega) [gw,KI,bZ];refine W.lw [2,3,4,5,6] hK ?_;clear hK K;simp;apply aR [2,3,4,5,30]
   refine W.cond ⟨_,rfl,fun hb=>?_,fun hb=>?_⟩
   ·cases hb
   ·apply W.skip;apply lE (E1 k l h'.len h.len h'.xd h.xd);rw [KI,if_neg aa];apply bM [3,4,7];refine W.EP fun K hK=>?_;apply (cp);refine aU (gf _ aa (!n)) ?_;apply (cp);refine W.lw [4] hK ?_;clear hK K;simp;apply W.ret;have e:iv n l+iv (!n) k=if (!n)=true then-(V 4294967296 k-V 4294967296 l)else V 4294967296 k-V 4294967296 l:=by cases n<;>simp [iv]<;>omega
    rw [e];simp [go]
  ·simp (disch:=omega) [gw,KI,bZ];refine W.lw [2,3,4,5,6] hK ?_;clear hK K;simp;apply aR [2,3,4,5,30]
   refine W.cond ⟨_,rfl,fun hb=>?_,fun hb=>?_⟩
   ·apply (oC);refine aU (gf _ aa n) ?_;apply bM [4];apply W.ret;have e:iv n l+iv (!n) k=if n=true then-(V 4294967296 l-V 4294967296 k)else V 4294967296 l-V 4294967296 k:=by cases n<;>simp [iv]<;>omega
    rw [e];simp [go]
   ·cases hb
theorem Ht(n m:Bool)(l k:List Int)(h:rB l)(h':rB k):aj 248 [IV n l,IV m k] (I (iv n l-iv m k)):=by
 apply bL [(0,IV n l),(1,IV m k)] Tryz.func248;have e:iv n l-iv m k=iv n l+iv (!m) k:=by cases m<;>simp [iv]<;>omega
 rw [e];apply eQ [2,3,4] [2,3,4];exact yN (AS n (!m) l k h h') [4]
theorem AU(n:Int)(h1 : -9223372036854775808<=n)(h2:n<9223372036854775808):aj 58 [ae n] (I n):=by
 apply bL [(0,ae n)] Tryz.func58;apply mz [0,2];simp (disch:=omega) [gw,jw];apply c9 [0,2,3]
 refine W.fR (fun σ=>∃(w:Int),aQ σ [(0,ae n),(2, .ptr 2 0 0 0),(3, .int .u64 w)] fun rows clk=>rows 2=some ⟨0,38,2,[[.bool false, .nil]]⟩∧w=n.natAbs∧0<=w∧w<18446744073709551616) ?_ ?_
 ·
  apply fi [0,2,3,7]<;>intro h
  ·simp at h;refine W.wI fun K hK=>?_;simp [jw];exact hK _ ⟨_,ak _ [0,2,3],_,_,_,rfl,av,aa,aa,aa⟩
  ·simp at h;apply W.skip;exact⟨_,ak _ [0,2,3],_,_,_,rfl,av,aa,aa,aa⟩
 rintro _ ⟨w,rows,clk,rfl,hr,hw,hw0,wK⟩;apply W.sr;have e1:V 4294967296 [w%4294967296,w/4294967296%4294967296]=w:=by simp [V];omega
 have lm:cV 4294967296 [w%4294967296,w/4294967296%4294967296]:=by intro x hx;simp at hx;omega
 simp [wrap_u32',hr];refine aU (mC [w%4294967296,w/4294967296%4294967296] av lm) ?_;rw [e1];apply iI hr (gf w hw0 (decide (n<0)));apply u6 hr [2];apply W.ret;have e:(if n<0 then -w else w)=n:=by split<;>omega
 rw [e];simp [go]
def ge(p:Bool × List Int):List PV:=[.bool p.1,us p.2]
def ie(x:Int):List PV:=[.bool (decide (x<0)),us (aI LL x.natAbs)]
@[simp] theorem arI{p:Bool × List Int}:ge p = [.bool p.1,us p.2]:=rfl
@[simp] theorem arJ:ie x = [.bool (decide (x<0)),us (aI LL x.natAbs)]:=rfl
@[simp] theorem ai4{l:List (Bool × List Int)}:bC 2 (emap ge l)=True:=cE fun _=>rfl
@[simp] theorem ai5:bC 2 (emap ie l)=True:=cE fun _=>rfl
@[simp] theorem afR:da (some ⟨v,e,n,emap ie l⟩)=True:=ck fun _=>rfl
@[simp] theorem afS{l:List (Bool × List Int)}:da (some ⟨v,e,n,emap ge l⟩)=True:=ck fun _=>rfl
theorem y7{g:α->List PV}(hg:Enc g n){l:List α}{x:α}:fQ (emap g l) i 0 (g x)=emap g (l.set i x):=by
 simp only [fQ,emap,map_set]
 by_cases h:i<l.length
 ·have:(g l[i]).length=n:=hg _;have h2:(g x).length=n:=hg _;simp [h,drop_of_length_le,this,h2]
 ·rw [set_eq_of_length_le (by simp;omega),set_eq_of_length_le (by simp;omega)]
@[simp] theorem amh:fQ (emap ie l) i 0 [.bool (decide (x<0)),us (aI LL x.natAbs)]=emap ie (l.set i x):=y7 (n:=2) (fun _=>rfl)
@[simp] theorem xW{g:α->List PV}{l k:List α}:emap g l++emap g k=emap g (l++k):=by simp [emap]
abbrev Po(l:List Int):PV:=aw ie l
abbrev Pg(l:List (Bool × List Int)):PV:=aw ge l
def gv(p:Bool × List Int):Int:=iv p.1 p.2
def qA(x:Int):Bool × List Int:=(decide (x<0),aI LL x.natAbs)
theorem iA(l:List Int):Po l=Pg (l.map qA):=by simp [aw,emap,qA]
theorem Hu(x:Int):gv (qA x)=x:=by simp only [gv,qA,iv,jT fV];have:=jT fV x.natAbs;simp only [show((LL:Nat):Int)=4294967296 from rfl]at this;rw [this];by_cases h:x<0<;>simp [h]<;>omega
theorem bY(l:List Int):(l.map qA).map gv=l:=by simp [Function.comp_def,Hu]
theorem rC(k:Nat):aN (aN fun q p=>Wk p q) (emap ie (replicate k 0)) (replicate k [.bool false, .nil]):=by
 have:emap ie (replicate k 0)=replicate k (ie 0):=by simp [emap]
 rw [this];exact Hj ⟨.inl rfl, .inr ⟨rfl,rfl⟩,trivial⟩ k
structure qp(l:List (Bool × List Int)):Prop where
 ok:∀p∈l,rB p.2
 len:l.length<1099511627776
theorem qp.nth{l:List (Bool × List Int)}(h:qp l)(hi:i<l.length):rB (nth l i).2:=h.ok _ (bo hi)
def Sz(x:Int):Prop:=sz LL x<1099511627776
theorem Sz.Nc(h:Sz x):rB (aI LL x.natAbs):=⟨fy fV _,h⟩
theorem qp.Zf(h:∀x∈l,Sz x)(hl:l.length<1099511627776):qp (l.map qA):=⟨fun p hp=>by simp only [mem_map]at hp;obtain⟨x,hx,rfl⟩:=hp;exact(h x hx).Nc,au hl⟩
theorem Hv(n:Bool)(l:List Int):aj 124 [IV n l] (.bool (decide (l.length=0))):=by apply bL [(0,IV n l)] Tryz.func124;apply eQ [1] [2];apply W.ret;simp [go];cases l<;>simp<;>omega
theorem vB(l:List Int)(hl:l.length<17592186044416):aj 59 [Po l] (Po (aK l)):=by
 apply bL [(0,Po l)] Tryz.func59;apply eQ [0] [0,3];refine W.seq (W.block ?_)
 refine W.aO (fun k σ=>aQ σ [(0,Po l),(3,ae (k:Int))] fun rows clk=>k<=l.length∧aK l=aK (l.take k)) l.length ?_ ?_
 ·exact⟨_, .refl,_,_,rfl,aa,av⟩
 rintro k _ ⟨rows,clk,rfl,hk,hc⟩;apply W.seq
 refine W.dx (fun σ=>∃(b:Bool),σ=⟨fa [(0,Po l),(3,ae (k:Int)),(15, .bool b)],rows,clk⟩∧(b=true↔0<k∧nth l (k-1)=0)) (fun K hK=>?_) ?_
 ·simp
  by_cases h0:0<k
  ·apply dB h0;refine aU (Hv _ (aI LL (nth l (k-1)).natAbs)) ?_;apply dB h0;have e:(aI LL (nth l (k-1)).natAbs).length=0↔nth l (k-1)=0:=(by rw [length_eq_zero_iff,eT fV];omega);refine hK _ _ (ak _ [0,3,15]) ⟨_,rfl,?_⟩;simp [h0,<-e]
  ·apply dB h0;exact hK _ _ (ak _ [0,3,15]) ⟨_,rfl,by simp [h0]⟩
 rintro _ ⟨b,rfl,hb⟩
 apply (dI)<;>intro h
 ·obtain⟨h0,h1⟩:=hb.1 h;refine W.skip (W.block ?_);refine bB fun K hK=>?_;refine hK _ ⟨k-1,_,Gh.fr [(0,_),(3,ae ((k-1:Nat):Int))] (by simp;omega),aa,_,_,rfl,aa,?_⟩;rw [hc,show k=(k-1)+1 by omega,bt aa,h1,jy];simp
 ·have h2:aK l=l.take k:=by
   rw [hc]
   by_cases h0:0<k
   ·have h1:nth l (k-1)≠0:=fun h1=>by simp [hb.2 ⟨h0,h1⟩]at h
    rw [show k=(k-1)+1 by omega,bt aa];exact iJ h1 _
   ·have:k=0:=(by omega);subst this;simp [aK]
  apply qZ [2];apply W.ret;simp [go,h2]
theorem gi(l:List (Bool × List Int))(h:qp l):aj 64 [Pg l] (Po (aK (l.map gv))):=by
 apply bL [(0,Pg l)] Tryz.func64;have hl:=h.len;apply eQ [0] [0,3];refine W.row (id:=8) (emap ie (replicate l.length 0)) (by simp;exact⟨rfl,rfl,rfl⟩) (rC _) ?_;apply dU [3,9,10,11]
 refine W.aO (fun k σ=>∃(i:Nat) (z:List Int) (ver:Nat),aQ σ [(3, .own 8 ver 0 l.length),(9,Pg l),(10,ae l.length),(11,ae i)] fun rows clk =>
  rows 8=some ⟨ver,38,2,emap ie z⟩∧k=l.length-i∧i<=l.length∧z.length=l.length∧z.take i=(l.take i).map gv) l.length ?_ ?_
 ·exact⟨_, .refl,0,replicate l.length 0,_,_,_,rfl,av,aa,aa,av,av⟩
 rintro k _ ⟨i,z,ver,rows,clk,rfl,hr,hk,hi,hz,hv⟩;apply fB [3,9,10,11,12]
 refine W.cond ⟨_,rfl,fun bZ=>?_,fun bZ=>?_⟩
 ·simp at bZ;apply (ft);apply fj hr [3,4,5,9,10,11];refine q9 hr fun K hK=>?_;refine aU (Dl _ _ (h.nth bZ)) ?_;apply dB hr;refine W.lw [3,9,10,11] hK ?_;clear hK K;simp;refine bB fun K hK=>?_;refine hK _ ⟨l.length-(i+1),_,ak _ [3,9,10,11],aa,i+1,z.set i (iv (nth l i).1 (nth l i).2),ver,_,_,rfl,av,aa,aa,au hz,?_⟩;rw [lf hv aa,n5 bZ];rfl
 ·simp at bZ;have iK:i=l.length:=aa;subst iK;apply (ey);rw [bG hz]at hv;have n6:=bG hz;apply W.sr;apply fN hr n6;refine aU (vB z aa) ?_;apply bM [2];apply W.ret;simp at hv;simp [go,hv]
theorem E2(l:List (Bool × List Int))(k:Nat)(hl:l.length<1099511627776)(hk:k<9223372036854775808):aj 243 [Pg l,ae k] (.ag (ge (nth l k))):=by
 apply bL [(0,Pg l),(1,ae k)] Tryz.func243;apply aR [0,1,4]
 apply cS [0,1,4,8]<;>intro h
 ·simp at h;exact dS [4]
 ·simp at h;apply W.skip;apply aR [4];apply W.ret;rw [ir h];simp [go];exact⟨rfl,rfl⟩
theorem rD(g:FuncId)(hw:EZ g=false)(bF:List PV)(hc:bF.all cB=true)(n:Nat)(hn:n<1099511627776)(val:Nat->Int)(hg:∀k,k<n->aj g (ae (k:Int)::bF) (I (val k)))(hm:vz g=false:=by rfl) :
  aj 163 [ae n, .fn g bF] (Po (aK ((List.range n).map val))):=by
 apply bL [(0,ae n),(1, .fn g bF)] Tryz.func163;apply eQ [0,1] [1,5];refine W.row (id:=8) (emap ie (replicate n 0)) (by simp;exact⟨rfl,rfl,rfl⟩) (rC _) ?_;apply dU [1,5,10,11]
 refine W.aO (fun k σ=>∃(i:Nat) (z:List Int) (ver:Nat),aQ σ [(1, .fn g bF),(5, .own 8 ver 0 n),(10,ae n),(11,ae i)] fun rows clk =>
  rows 8=some ⟨ver,38,2,emap ie z⟩∧k=n-i∧i<=n∧z.length=n∧z.take i=(List.range i).map val) n ?_ ?_
 ·exact⟨_, .refl,0,replicate n 0,_,_,_,rfl,av,aa,aa,av,av⟩
 rintro k _ ⟨i,z,ver,rows,clk,rfl,hr,hk,hi,hz,hv⟩
 apply ef [1,5,10,11,12]<;>intro h
 ·simp at h;apply lW [1,5,6,10,11];refine W.wI fun K hK=>?_;simp (disch:=omega) [gw,hr, -EZ,hw, -vz,hm];apply cT (hg i h);apply dB hr;refine W.lw [1,5,10,11] hK ?_;clear hK K;simp;refine bB fun K hK=>?_;refine hK _ ⟨n-(i+1),_,ak _ [1,5,10,11],aa,i+1,z.set i (val i),ver,_,_,rfl,av,aa,aa,au hz,?_⟩;rw [lf hv aa,range_succ];simp
 ·simp at h;have iK:i=n:=aa;subst iK;apply (ey);rw [bG hz]at hv;have n6:=bG hz;apply W.sr;apply fN hr n6;refine aU (vB z aa) ?_;apply bM [4];apply W.ret;simp [go,hv]
end Go.Proofs.YtiobceocpabjdaaGreat
