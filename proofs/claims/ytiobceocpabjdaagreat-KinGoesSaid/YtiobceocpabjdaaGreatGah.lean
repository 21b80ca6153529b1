import Derived.Test.YtiobceocpabjdaaGreatGae
import Derived.Test.YtiobceocpabjdaaGreatGag
set_option linter.unusedSimpArgs false
set_option linter.unusedVariables false
namespace Go.Proofs.YtiobceocpabjdaaGreat
open Go Pm List
variable {l:List Int}{x y b:Int}{α β:Type}{k n e i s s' n':Nat}{q:Rat}{rows:Pm.Rows}
theorem rB.nil:rB []:=⟨cV.nil,av⟩
theorem qp.Qi{l:List (Bool × List Int)}(h:qp l)(i:Nat):rB (Pm.nth l i).2:=by
 by_cases hi:i<l.length
 ·exact h.nth hi
 ·rw [ir aa];exact rB.nil
theorem tX(l:List (Bool × List Int))(k:Nat):nth (l.map gv) k=gv (nth l k):=Pm.yY (f:=gv) rfl l k
theorem xe(x:Int):iv (decide (x<0)) (aI LL x.natAbs)=x:=Hu x
theorem vC(hx:Sz x)(hy:Sz y):aj 66 [I x,I y] (I (x*y)):=by have:=Hs (decide (x<0)) (decide (y<0)) (aI LL x.natAbs) (aI LL y.natAbs) hx.Nc hy.Nc;rwa [xe,xe]at this
theorem Nd(hx:Sz x)(hy:Sz y):aj 65 [I x,I y] (I (x+y)):=by have:=AS (decide (x<0)) (decide (y<0)) (aI LL x.natAbs) (aI LL y.natAbs) hx.Nc hy.Nc;rwa [xe,xe]at this
theorem Uh(hx:Sz x):aj 148 [I x] (I (-x)):=by have:=AR (decide (x<0)) (aI LL x.natAbs) hx.Nc;rwa [xe]at this
theorem E3(hx:Sz x):aj 132 [I x] (I x):=by have:=Dl (decide (x<0)) (aI LL x.natAbs) hx.Nc;rwa [xe]at this
theorem Ui(a b:List (Bool × List Int))(ha:qp a)(hb:qp b)(k:Nat)(hk:k<9223372036854775808):aj 242 [ae (k:Int), .rd [Pg a], .rd [Pg b]] (I (nth (a.map gv) k+nth (b.map gv) k)):=by apply bL [(0,ae (k:Int)),(1, .rd [Pg a]),(2, .rd [Pg b])] Tryz.func242;have:=ha.len;have:=hb.len;apply gr [0,1,2,4];apply eO (E2 a k ha.len hk) (E2 b k hb.len hk);apply (cp);refine aU (AS _ _ _ _ (ha.Qi k) (hb.Qi k)) ?_;apply bM [4];apply W.ret;rw [tX,tX];simp [go,gv]
theorem Uj(a b:List (Bool × List Int))(ha:qp a)(hb:qp b)(k:Nat)(hk:k<9223372036854775808):aj 247 [ae (k:Int), .rd [Pg a], .rd [Pg b]] (I (nth (a.map gv) k-nth (b.map gv) k)):=by apply bL [(0,ae (k:Int)),(1, .rd [Pg a]),(2, .rd [Pg b])] Tryz.func247;have:=ha.len;have:=hb.len;apply gr [0,1,2,4];apply eO (E2 a k ha.len hk) (E2 b k hb.len hk);apply (cp);refine aU (Ht _ _ _ _ (ha.Qi k) (hb.Qi k)) ?_;apply bM [4];apply W.ret;rw [tX,tX];simp [go,gv]
theorem Uk(a:List (Bool × List Int))(ha:qp a)(k:Nat)(hk:k<a.length):aj 216 [ae (k:Int), .rd [Pg a]] (I (- nth (a.map gv) k)):=by apply bL [(0,ae (k:Int)),(1, .rd [Pg a])] Tryz.func216;have:=ha.len;apply aR [0,1,3];apply (oC);refine aU (AR _ _ (ha.Qi k)) ?_;apply bM [3];apply W.ret;rw [tX];simp [go,gv]
theorem Um(a:List (Bool × List Int))(ha:qp a)(n:Bool)(c:List Int)(hc:rB c)(k:Nat)(hk:k<a.length):aj 241 [ae (k:Int), .rd [Pg a], .rd [.bool n,us c]] (I (nth (a.map gv) k*iv n c)):=by apply bL [(0,ae (k:Int)),(1, .rd [Pg a]),(2, .rd [.bool n,us c])] Tryz.func241;have:=ha.len;apply gr [0,1,2,4];apply (cp);refine aU (Hs _ _ _ _ (ha.Qi k) hc) ?_;apply bM [4];apply W.ret;rw [tX];simp [go,gv]
theorem Un(a b:List (Bool × List Int))(ha:qp a)(hb:qp b):aj 182 [Pg a,Pg b] (Po (iw (a.map gv) (b.map gv))):=by
 apply bL [(0,Pg a),(1,Pg b)] Tryz.func182;have KJ:=ha.len;have hlb:=hb.len;apply mz [2,3];have e:(if a.length<b.length then(b.length:Int)else(a.length:Int))=((max a.length b.length:Nat):Int):=by split<;>omega
 simp (disch:=omega) [gw,e];refine aU (rD 242 rfl [.rd [Pg a], .rd [Pg b]] rfl (max a.length b.length) aa (fun k=>nth (a.map gv) k+nth (b.map gv) k) (fun k hk=>Ui a b ha hb k aa)) ?_;apply bM [4];apply W.ret;simp [go,iw]
theorem Uo(a b:List (Bool × List Int))(ha:qp a)(hb:qp b):aj 186 [Pg a,Pg b] (Po (fC (a.map gv) (b.map gv))):=by
 apply bL [(0,Pg a),(1,Pg b)] Tryz.func186;have KJ:=ha.len;have hlb:=hb.len;apply mz [2,3];have e:(if a.length<b.length then(b.length:Int)else(a.length:Int))=((max a.length b.length:Nat):Int):=by split<;>omega
 simp (disch:=omega) [gw,e];refine aU (rD 247 rfl [.rd [Pg a], .rd [Pg b]] rfl (max a.length b.length) aa (fun k=>nth (a.map gv) k-nth (b.map gv) k) (fun k hk=>Uj a b ha hb k aa)) ?_;apply bM [4];apply W.ret;simp [go,fC]
theorem Dm[Inhabited α](l:List α)(f:α->β):(List.range l.length).map (fun k=>f (nth l k))=l.map f:=by
 apply ext_getElem
 ·simp
 ·intro i h1 h2;simp at h1;simp [bJ h1]
theorem Uq(a:List (Bool × List Int))(ha:qp a):aj 139 [Pg a] (Po (gL (a.map gv))):=by apply bL [(0,Pg a)] Tryz.func139;have KJ:=ha.len;apply aR [1];apply (oC);refine aU (rD 216 rfl [.rd [Pg a]] rfl a.length aa (fun k => - nth (a.map gv) k) (fun k hk=>Uk a ha k hk)) ?_;apply bM [2];apply W.ret;have e:=Dm (a.map gv) (fun c => -c);rw [length_map]at e;rw [e];simp [go,gL]
theorem KK(a:List (Bool × List Int))(ha:qp a)(n:Bool)(c:List Int)(hc:rB c):aj 181 [Pg a,IV n c] (Po (aY (a.map gv) (iv n c))):=by apply bL [(0,Pg a),(1,IV n c)] Tryz.func181;have KJ:=ha.len;apply aR [2,3];apply (oC);refine aU (rD 241 rfl [.rd [Pg a], .rd [.bool n,us c]] rfl a.length aa (fun k=>nth (a.map gv) k*iv n c) (fun k hk=>Um a ha n c hc k hk)) ?_;apply bM [4];apply W.ret;have e:=Dm (a.map gv) (fun a=>a*iv n c);rw [length_map]at e;rw [e];simp [go,aY]
theorem Ur(a b:List (Bool × List Int))(ha:qp a)(hb:qp b)(s s' n n':Nat)(hs:Bd LL s n (a.map gv))(wF:Bd LL s' n' (b.map gv))(hB:s+s'+n+n'<1099511627775) :
  aj 15 [Pg a,Pg b] (Po (bN (a.map gv) (b.map gv))):=by
 refine jx (E:=env) (fun id=>if id=11 then 1 else 0) [(0,Pg a),(1,Pg b)] Tryz.func15 rfl bX bX (show 2<=62 by decide) av ?_;apply aR [0,1];apply kh (gi a ha) (gi b hb);apply bM [0,1];have e:bN (a.map gv) (b.map gv)=bN (aK (a.map gv)) (aK (b.map gv)):=Cn.ext (Cn.bN _ _) (Cn.bN _ _) fun t=>by simp [dq,c8]
 rw [e]
 replace hs:=hs.cut
 replace wF:=wF.cut
 clear e ha hb;generalize aK (a.map gv)=x,aK (b.map gv)=y at *;have Zg:=hs.len;have hly:=wF.len;apply W.seq
 refine W.dx (fun σ=>∃(b:Bool),σ=⟨fa [(0,Po x),(1,Po y),(21, .bool b)],fun _=>none,0⟩∧(b=true↔x = []∨y = [])) (fun K hK=>?_) ?_
 ·simp;have e1:((x.length:Int)==0)=decide (x = []):=by cases x<;>simp<;>omega
  have e2:((y.length:Int)==0)=decide (y = []):=by cases y<;>simp<;>omega
  rw [e1]
  by_cases h0:x = []
  ·have e3:decide (x = [])=true:=(by simp [h0]);rw [e3];simp;exact hK _ _ (ak _ [0,1,21]) ⟨_,rfl,by simp [h0]⟩
  ·have e3:decide (x = [])=false:=(by simp [h0]);rw [e3];simp;exact hK _ _ (ak _ [0,1,21]) ⟨_,rfl,by rw [e2];simp [h0]⟩
 rintro _ ⟨b,rfl,hb⟩
 apply (dI)<;>intro h
 ·have e:bN x y = []:=by have h1:=hb.1 h;refine Cn.ext (Cn.bN _ _) Cn.nil fun t=>?_;rw [dq];rcases h1 with rfl | rfl<;>simp [V]
  apply aR [4];apply W.ret;simp [go,e];rfl
 ·have h1:¬(x = []∨y = []):=fun h2=>by simp [hb.2 h2]at h
  have n7:0<x.length:=length_pos_iff.2 fun h2=>h1 (.inl h2);have KL:0<y.length:=length_pos_iff.2 fun h2=>h1 (.inr h2);clear h hb h1;apply W.skip;apply aR [0,1,5];have e0:((x.length:Int)+(y.length:Int)-1).toNat=x.length+y.length-1:=aa;refine W.row (id:=28) (emap ie (replicate (x.length+y.length-1) 0)) (by simp;exact⟨rfl,rfl,rfl,aa⟩) (rC _) ?_;apply dU [1,5,29,30,31]
  refine W.aO (fun k σ=>∃(i:Nat) (z:List Int) (ver:Nat),aQ σ [(1,Po y),(5, .own 28 ver 0 (x.length+y.length-1)),(29,Po x),(30,ae x.length),(31,ae i)] fun rows clk =>
   rows 28=some ⟨ver,38,2,emap ie z⟩∧k=x.length-i∧i<=x.length∧z.length=x.length+y.length-1∧(∀j,sz LL (nth z j)<=s+s'+i) ∧
   ∀t,V t z=V t (x.take i)*V t y) x.length ?_ ?_
  ·refine⟨_, .refl,0,replicate (x.length+y.length-1) 0,_,_,_,rfl,av,aa,aa,av,fun j=>?_,fun t=>by simp [V,pW]⟩
   ·have:Bd LL 0 (x.length+y.length-1) (replicate (x.length+y.length-1) 0):=⟨av,fun c hc=>by rw [(mem_replicate.1 hc).2,jV];omega⟩
    have:=this.nth j;omega
  rintro k _ ⟨i,z,ver,rows,clk,rfl,hr,hk,hi,hz,Ca,hV⟩
  apply ef [1,5,29,30,31,32]<;>intro h
  ·simp at h;apply lW [1,5,6,7,29,30,31];apply yM [1,5,6,7,29,30,31,36,37,38]
   refine W.aO (fun m σ=>∃(k:Nat) (z:List Int) (ver v7:Nat),aQ σ [(1,Po y),(5, .own 28 ver 0 (x.length+y.length-1)),(6,ae i),(7, .ptr 7 v7 0 0),(29,Po x),(30,ae x.length),(31,ae i),(36,Po y),(37,ae y.length),(38,ae k)] fun rows clk =>
    rows 28=some ⟨ver,38,2,emap ie z⟩∧rows 7=some ⟨v7,38,2,[ie (nth x i)]⟩∧m=y.length-k∧k<=y.length∧z.length=x.length+y.length-1∧(∀j,sz LL (nth z j)<=s+s'+i+1)∧(∀j,i+k<=j->sz LL (nth z j)<=s+s'+i) ∧
    ∀t,V t z=V t (x.take i)*V t y+t^i*nth x i*V t (y.take k)) y.length ?_ ?_
   ·refine⟨_, .refl,0,z,ver,_,_,_,rfl,au hr,av,aa,aa,hz,fun j=>by have:=Ca j;omega,fun j _=>Ca j,fun t=>by simp [V,hV]⟩
   clear hV Ca hz hr z ver rows clk;rintro m _ ⟨k,z,ver,v7,rows,clk,rfl,hr,Us,hm,hky,hz,Ca,KM,hV⟩;apply fB [1,5,6,7,29,30,31,36,37,38,39]
   refine W.cond ⟨_,rfl,fun h2=>?_,fun h2=>?_⟩
   ·simp at h2;apply lW [1,5,6,7,8,9,29,30,31,36,37,38];have e1:((i:Int)+(k:Int)).toNat=i+k:=aa;refine W.Dd fun K hK=>?_;simp only [if_true];rw [fc];simp (disch:=omega) [gw,hr,Us,e1];refine aU (vC (Nat.lt_of_le_of_lt (hs.nth i) aa) (Nat.lt_of_le_of_lt (wF.nth k) aa)) ?_;simp (disch:=omega) [gw,hr,Us,e1];have Gp:sz LL (nth x i*nth y k)<=s+s'+i:=Nat.le_trans (ct fV (hs.nth i) (wF.nth k)) aa;have hm2:=mA fV (KM (i+k) (Nat.le_refl _)) Gp;have hlz:i+k<z.length:=aa;refine aU (Nd (Nat.lt_of_le_of_lt (KM (i+k) (Nat.le_refl _)) aa) (Nat.lt_of_le_of_lt Gp aa)) ?_;simp (disch:=omega) [gw,hr,Us,e1];refine W.lw [1,5,6,7,29,30,31,36,37,38] hK ?_;clear hK K;simp;refine bB fun K hK=>?_
    refine hK _ ⟨y.length-(k+1),_,ak _ [1,5,6,7,29,30,31,36,37,38],aa,k+1,z.set (i+k) (nth z (i+k)+nth x i*nth y k),ver,v7,_,_,rfl,av,by simp [Us],aa,aa,au hz,fun j=>?_,fun j hj=>?_,fun t=>?_⟩
    ·by_cases hj:i+k=j
     ·subst hj;rw [fe hlz];exact hm2
     ·rw [gG hj];exact Ca j
    ·rw [gG aa];exact KM j aa
    ·rw [Dg hlz,aT h2,hV,Int.pow_add];grind
   ·simp at h2;have wE:k=y.length:=aa;subst wE;apply (ey);refine bB fun K hK=>?_;refine hK _ ⟨x.length-(i+1),_,ak _ [1,5,29,30,31],aa,i+1,z,ver,_,_,rfl,hr,aa,aa,hz,fun j=>by have:=Ca j;omega,fun t=>?_⟩;rw [hV,aZ (Nat.le_refl _),aT h];grind
  ·simp at h;have iK:i=x.length:=aa;subst iK;apply (ey);have n6:=bG hz;apply W.sr;apply fN hr n6;refine aU (vB z aa) ?_;apply bM [4];apply W.ret;have e:aK z=bN x y:=(by refine Cn.ext (Cn.cut _) (Cn.bN _ _) fun t=>?_;rw [c8,hV,dq,aZ (Nat.le_refl _)]);simp [go,e]
theorem arK{S:ByteArray}{kk:IntKind}{K:PV->Prop}(h:(List.range 256).all (fun x=>decide ((S[x]?).map (fun b=>b.toNat)=some (nb x)))=true)(hk:k<256)(hK:go (K (.int .u8 (nb k)))):bu (fun v=>tN env .str (.str S) (.int kk (k:Int)) v) K:=by have h1:=all_eq_true.1 h k (au hk);simp only [decide_eq_true_eq]at h1;obtain⟨b,hb,h2⟩:=Option.map_eq_some_iff.1 h1;refine⟨_,⟨aa,b,au hb,rfl⟩,?_⟩;rw [h2];exact hK
set_option maxRecDepth 4000 in
theorem Dp(n:Int)(h0:0<=n)(h1:n<4294967296):Xr env.P 267 [.int .u32 n] (.int .i64 (nb n.toNat)):=by
 apply bL [(0, .int .u32 n)] Tryz.func267;apply aR [0,2]
 refine W.fR (fun σ=>∃(k:Nat) (x:Nat) (rows:Pm.Rows) (clk:Nat),σ=⟨fa [(0, .int .u32 x),(2, .int .i64 k)],rows,clk⟩∧nb n.toNat=k+nb x∧x<65536∧k<=16) ?_ ?_
 ·
  apply fi [0,2,4]<;>intro h
  ·simp at h;apply aR [0];refine bB fun K hK=>?_;refine hK _ ⟨_,Gh.fr [(0, .int .u32 ((n.toNat/65536:Nat):Int)),(2, .int .i64 16)] (by simp;rw [Int.fdiv_eq_ediv_of_nonneg _ ar];omega),16,n.toNat/65536,_,_,rfl,?_,aa,aa⟩;exact Hm (k:=16) (by simp;omega)
  ·simp at h;apply W.skip;refine⟨_,Gh.fr [(0, .int .u32 (n.toNat:Int)),(2, .int .i64 0)] (by simp;omega),0,n.toNat,_,_,rfl,av,aa,aa⟩
 rintro _ ⟨k,x,rows,clk,rfl,hn,hx,hk⟩
 refine W.fR (fun σ=>∃(k:Nat) (x:Nat) (rows:Pm.Rows) (clk:Nat),σ=⟨fa [(0, .int .u32 x),(2, .int .i64 k)],rows,clk⟩∧nb n.toNat=k+nb x∧x<256∧k<=24) ?_ ?_
 ·
  apply fi [0,2,8]<;>intro h
  ·simp at h;apply aR [0,2];refine bB fun K hK=>?_;refine hK _ ⟨_,Gh.fr [(0, .int .u32 ((x/256:Nat):Int)),(2, .int .i64 ((k+8:Nat):Int))] (by simp;exact Int.fdiv_eq_ediv_of_nonneg _ ar),k+8,x/256,_,_,rfl,?_,aa,aa⟩;have:=Hm (n:=x) (k:=8) (by simp;omega);simp at this;omega
  ·simp at h;apply W.skip;refine⟨_,ak _ [0,2],k,x,_,_,rfl,hn,aa,aa⟩
 rintro _ ⟨k,x,rows,clk,rfl,hn,hx,hk⟩;refine W.EP fun K hK=>?_;have hw:IntKind.u8.wrap (x:Int)=x:=wrap_u8 aa aa;have hz:nb x<=8:=nC.2 hx;simp only [M3,EJ,M4,Qb,Ku,Ar,EC,J9,if_true,if_false,reduceIte,Nat.reduceEqDiff,afP,amf,tj,ab9,hw,Hf,reduceCtorEq];refine arK bX hx ?_;simp (disch:=omega) only [EJ,TE,Dc,TV,M4,Ar,EC,J9,if_true,if_false,reduceIte,Nat.reduceEqDiff,arx,amf,tj,ab9,wrap_i64,Eg,kq,YM,reduceCtorEq,true_and];refine W.lw [2] hK ?_;clear hK K;simp;apply W.ret;rw [hn];simp [go]
def bl(l:List Int):Int:=if l = []then 0 else 32*((l.length:Int)-1)+nb (nth l (l.length-1)).toNat
theorem Hw(l:List Int)(h:rB l):aj 257 [us l] (ae (bl (aK l))):=by
 apply bL [(0,us l)] Tryz.func257;have hl:=h.len;have AV:=bS l;have hL:=eh h.xd;apply aR [0];apply (oC);refine aU (dy l aa) ?_;apply bM [0];generalize aK l=x at *
 apply cS [0,7]<;>intro h
 ·have h0:x = []:=au h;apply aR [2];apply W.ret;simp [go,bl,h0]
 ·have h0:0<x.length:=length_pos_iff.2 (au h);have hx:=hL.nth (i:=x.length-1) aa;have e:((x.length:Int)-1).toNat=x.length-1:=aa;have hz:nb (nth x (x.length-1)).toNat<=32:=nC.2 aa;apply W.skip;apply W.sr;simp (disch:=omega) [gw,e];refine aU (Dp _ hx.1 hx.2) ?_;apply bM [2];apply W.ret;have h1:x ≠ []:=fun h2=>by simp [h2]at h0
  simp [go,bl,h1]
theorem Zh(h:cV 4294967296 l)(hc:aK l=l):bl l=0↔V 4294967296 l=0:=by
 unfold bl
 split
 ·rename_i h0;subst h0;simp [V]
 ·rename_i h0;have h1:=ku ar h hc h0;have h2:0<(4294967296:Int)^(l.length-1):=Int.pow_pos ar;have h3:0<l.length:=length_pos_iff.2 h0;have h4:=h.nth (i:=l.length-1) aa
  have h5:nth l (l.length-1)≠0:=by
   intro h6
   have e:l=l.take (l.length-1) ++ [0]:=by
    conv=>lhs;rw [<-take_length (l:=l)]
    rw [<-h6,<-bt aa,show l.length-1+1=l.length by omega]
   rw [e,jy]at hc;have:=congrArg List.length hc;have:=bS (l.take (l.length-1));simp at *;omega
  have h6:nb (nth l (l.length-1)).toNat≠0:=by intro h7;have:=nC.1 (Nat.le_of_eq h7);simp at this;omega
  omega
theorem Hx(n:Bool)(l:List Int)(h:rB l):aj 218 [IV n l] (ae (iv n l).sign):=by
 apply bL [(0,IV n l)] Tryz.func218;have hz:=Zh (eh h.xd) (eD l);have hp:=pZ h;rw [c8]at hz;apply aR [1];apply (iR);apply gT (Hw l h) [1,3]
 refine W.cond ⟨_,rfl,fun hb=>?_,fun hb=>?_⟩
 ·have h0:V 4294967296 l=0:=hz.1 (au hb);apply aR [2];apply W.ret;simp [go,iv,h0]
 ·have h0:0<V 4294967296 l:=by
   have:V 4294967296 l≠0:=fun h1=>by simp [hz.2 h1]at hb
   omega
  apply aR [8]
  refine W.cond ⟨_,rfl,fun hn=>?_,fun hn=>?_⟩
  ·subst hn;apply aR [2];apply W.ret;have:(- V 4294967296 l).sign = -1:=Int.sign_eq_neg_one_of_neg aa;simp [go,iv,this]
  ·subst hn;apply W.skip;apply aR [2];apply W.ret;have:(V 4294967296 l).sign=1:=Int.sign_eq_one_of_pos h0;simp [go,iv,this]
theorem Qj(h:x.sign<y.sign):dc x y = -1:=by apply kK;rcases Int.lt_trichotomy x 0 with h1 | h1 | h1<;>rcases Int.lt_trichotomy y 0 with h2 | h2 | h2<;>first | omega | (simp [Int.sign_eq_neg_one_of_neg,Int.sign_eq_one_of_pos,h1,h2]at h)
theorem KN(h:y.sign<x.sign):dc x y=1:=by apply kN;rcases Int.lt_trichotomy x 0 with h1 | h1 | h1<;>rcases Int.lt_trichotomy y 0 with h2 | h2 | h2<;>first | omega | (simp [Int.sign_eq_neg_one_of_neg,Int.sign_eq_one_of_pos,h1,h2]at h)
theorem E4(x y:Int):dc (-x) (-y)=dc y x:=by simp only [dc];split<;>split<;>(try split)<;>(try split)<;>omega
theorem Ut(n m:Bool)(l k:List Int)(h:rB l)(h':rB k):aj 144 [IV n l,IV m k] (ae (dc (iv n l) (iv m k))):=by
 apply bL [(0,IV n l),(1,IV m k)] Tryz.func144;have p1:=pZ h;have p2:=pZ h';apply gr [2,3];apply eO (Hx n l h) (Hx m k h');apply bM [2,3,5,6];apply (iR);apply aR [2,3,5,6,11]
 refine W.cond ⟨_,rfl,fun h1=>?_,fun h1=>?_⟩
 ·apply aR [4];apply W.ret;simp [go,Qj (of_decide_eq_true h1)]
 ·have h1:=of_decide_eq_false h1;apply aR [2,3,5,15]
  refine W.cond ⟨_,rfl,fun h2=>?_,fun h2=>?_⟩
  ·apply aR [4];apply W.ret;simp [go,KN (of_decide_eq_true h2)]
  ·have h2:=of_decide_eq_false h2;have h3:(iv n l).sign=(iv m k).sign:=aa;apply aR [2,3,19]
   refine W.cond ⟨_,rfl,fun h4=>?_,fun h4=>?_⟩
   ·have h4:iv n l<0:=(by simpa using of_decide_eq_true h4);have h5:iv m k<0:=(by rw [Int.sign_eq_neg_one_of_neg h4]at h3;exact Int.sign_eq_neg_one_iff_neg.1 h3.symm);have en:n=true:=(by cases n;(· simp [iv]at h4;omega);rfl);have em:m=true:=(by cases m;(· simp [iv]at h5;omega);rfl);subst en;subst em;apply gT (E0 k l h'.len h.len h'.xd h.xd) [4];apply W.ret;simp [go,iv,E4]
   ·have h4:0<=iv n l:=by simpa using of_decide_eq_false h4
    have e1:iv n l=V 4294967296 l:=by
     cases n
     ·simp [iv]
     ·simp [iv]at h4 |-;omega
    have h5:0<=iv m k:=by have:0<=(iv n l).sign:=Int.sign_nonneg_iff.2 h4;rw [h3]at this;exact Int.sign_nonneg_iff.1 this
    have e2:iv m k=V 4294967296 k:=by
     cases m
     ·simp [iv]
     ·simp [iv]at h5 |-;omega
    apply rf (E0 l k h.len h'.len h.xd h'.xd) [4];apply W.ret;simp [go,e1,e2]
theorem Ng(hx:Sz x)(hy:Sz y):aj 144 [I x,I y] (ae (dc x y)):=by have:=Ut (decide (x<0)) (decide (y<0)) (aI LL x.natAbs) (aI LL y.natAbs) hx.Nc hy.Nc;rwa [xe,xe]at this
theorem amj{p:Bool × List Int}(h:rB p.2):Sz (gv p):=by
 have h1:=ars fV h.xd;have h2:=h.len;have e:sz LL (gv p)=sz LL (V 4294967296 p.2):=by unfold gv iv sz;split<;>simp
 show sz LL (gv p)<_;rw [e];exact Nat.lt_of_le_of_lt h1 h2
theorem qp.sz{l:List (Bool × List Int)}(h:qp l):∀c∈aK (l.map gv),Sz c:=fun c hc=>by have:=oF _ _ hc;simp only [mem_map]at this;obtain⟨p,hp,rfl⟩:=this;exact amj (h.ok p hp)
theorem Qk(a b:List (Bool × List Int))(ha:qp a)(hb:qp b):aj 251 [Pg a,Pg b] (.bool (decide (aK (a.map gv)=aK (b.map gv)))):=by
 apply bL [(0,Pg a),(1,Pg b)] Tryz.func251;apply aR [0,1];apply kh (gi a ha) (gi b hb);apply bM [0,1];have sa:=ha.sz;have sb:=hb.sz;have la:(aK (a.map gv)).length<1099511627776:=by have:=bS (a.map gv);have:=ha.len;simp at *;omega
 have lb:(aK (b.map gv)).length<1099511627776:=by have:=bS (b.map gv);have:=hb.len;simp at *;omega
 generalize aK (a.map gv)=x,aK (b.map gv)=y at *
 apply cS [0,1,15]<;>intro h
 ·have h0:x≠y:=fun h1=>by subst h1;simp at h
  apply aR [4];apply W.ret;simp [go,h0]
 ·have h0:x.length=y.length:=by simp at h;omega
  clear h;apply (jm);apply yM [1,16,17,18]
  refine W.aO (fun k σ=>∃(i:Nat),aQ σ [(1,Po y),(16,Po x),(17,ae x.length),(18,ae i)] fun rows clk=>k=x.length-i∧i<=x.length∧x.take i=y.take i) x.length ?_ ?_
  ·exact⟨_, .refl,0,_,_,rfl,aa,aa,av⟩
  rintro k _ ⟨i,rows,clk,rfl,hk,hi,pR⟩
  apply ef [1,16,17,18,19]<;>intro h
  ·simp at h;apply (ft);apply gr [1,5,6,16,17,18];apply (cp);refine aU (Ng (sa _ (bo h)) (sb _ (bo aa))) ?_;apply bM [1,16,17,18,29]
   refine W.cond ⟨_,rfl,fun h2=>?_,fun h2=>?_⟩
   ·have h3:x≠y:=fun h1=>by subst h1;simp [ve]at h2
    apply aR [4];apply W.ret;simp [go,h3]
   ·have h3:nth x i=nth y i:=(by have:dc (nth x i) (nth y i)=0:=au h2;exact sE.1 this);apply W.skip;refine bB fun K hK=>?_;refine hK _ ⟨x.length-(i+1),_,ak _ [1,16,17,18],aa,i+1,_,_,rfl,aa,aa,?_⟩;rw [bt h,bt aa,pR,h3]
  ·simp at h;have h3:x=y:=(by rw [bG (show x.length=i by omega),bG (show y.length=i by omega)]at pR;exact pR);apply qZ [4];apply W.ret;simp [go,h3]
abbrev RP:=List (Bool × List Int)
def ay(n:Int):List PV:=[ae n]
def pe(p:RP):List PV:=[Pg p]
@[simp] theorem amk{n:Int}:ay n = [ae n]:=rfl
@[simp] theorem arL{p:RP}:pe p = [Pg p]:=rfl
@[simp] theorem acG:bC 1 (emap ay l)=True:=cE fun _=>rfl
@[simp] theorem ai7{l:List RP}:bC 1 (emap pe l)=True:=cE fun _=>rfl
@[simp] theorem Zi{v:Nat}:da (some ⟨v,e,n,emap ay l⟩)=True:=ck fun _=>rfl
@[simp] theorem afV{v:Nat}{l:List RP}:da (some ⟨v,e,n,emap pe l⟩)=True:=ck fun _=>rfl
@[simp] theorem arM:emap ie l ++ [[.bool (decide (x<0)),us (aI LL x.natAbs)]]=emap ie (l ++ [x]):=by simp [emap]
def mi(p:RP):List Int:=aK (p.map gv)
theorem Zj(l:List Int)(hl:l.length<1099511627776)(hb:∀x∈l, -9223372036854775808<=x∧x<9223372036854775808):aj 11 [aw ay l] (Po (aK l)):=by
 apply bL [(0,aw ay l)] Tryz.func11;apply eQ [0] [0,3];refine W.row (id:=8) (emap ie (replicate l.length 0)) (by simp;exact⟨rfl,rfl,rfl⟩) (rC _) ?_;apply dU [3,9,10,11]
 refine W.aO (fun k σ=>∃(i:Nat) (z:List Int) (ver:Nat),aQ σ [(3, .own 8 ver 0 l.length),(9,aw ay l),(10,ae l.length),(11,ae i)] fun rows clk =>
  rows 8=some ⟨ver,38,2,emap ie z⟩∧k=l.length-i∧i<=l.length∧z.length=l.length∧z.take i=l.take i) l.length ?_ ?_
 ·exact⟨_, .refl,0,replicate l.length 0,_,_,_,rfl,av,aa,aa,av,av⟩
 rintro k _ ⟨i,z,ver,rows,clk,rfl,hr,hk,hi,hz,hv⟩;apply fB [3,9,10,11,12]
 refine W.cond ⟨_,rfl,fun bZ=>?_,fun bZ=>?_⟩
 ·simp at bZ;apply (ft);apply fj hr [3,4,5,9,10,11];refine q9 hr fun K hK=>?_;refine aU (AU _ (hb _ (bo bZ)).1 (hb _ (bo bZ)).2) ?_;apply dB hr;refine W.lw [3,9,10,11] hK ?_;clear hK K;simp;refine bB fun K hK=>?_;refine hK _ ⟨l.length-(i+1),_,ak _ [3,9,10,11],aa,i+1,z.set i (nth l i),ver,_,_,rfl,av,aa,aa,au hz,?_⟩;rw [lf hv aa,bt bZ]
 ·simp at bZ;have iK:i=l.length:=aa;subst iK;apply (ey);rw [bG hz,bG rfl]at hv;have n6:=bG hz;apply W.sr;apply fN hr n6;refine aU (vB z aa) ?_;apply bM [2];apply W.ret;simp [go,hv]
abbrev DD:Nat:=10000
theorem Jp:2<=DD:=by decide
abbrev Dn(x:Int):PV:=aw ay (aI DD x.toNat)
theorem tY(h:cV 10000 l):aw ay (aK l)=Dn (V 10000 l):=by rw [rj Jp h];rfl
@[simp] theorem apu:replicate n [PV.int .i64 0]=emap ay (replicate n 0):=by simp [emap]
@[simp] theorem afW:fQ (emap ay l) i 0 [ae x]=emap ay (l.set i x):=y7 (n:=1) (fun _=>rfl)
@[simp] theorem aml:emap ay l ++ [[ae x]]=emap ay (l ++ [x]):=by simp [emap]
theorem oH(l:List Int)(hl:l.length<17592186044416):aj 211 [aw ay l] (aw ay (aK l)):=by
 apply bL [(0,aw ay l)] Tryz.func211;apply eQ [0] [0,3];refine W.seq (W.block ?_)
 refine W.aO (fun k σ=>aQ σ [(0,aw ay l),(3,ae (k:Int))] fun rows clk=>k<=l.length∧aK l=aK (l.take k)) l.length ?_ ?_
 ·exact⟨_, .refl,_,_,rfl,aa,av⟩
 rintro k _ ⟨rows,clk,rfl,hk,hc⟩;apply W.seq
 refine W.dx (fun σ=>∃(b:Bool),σ=⟨fa [(0,aw ay l),(3,ae (k:Int)),(15, .bool b)],rows,clk⟩∧(b=true↔0<k∧nth l (k-1)=0)) (fun K hK=>?_) ?_
 ·simp
  by_cases h0:0<k
  ·apply dB h0;exact hK _ _ (ak _ [0,3,15]) ⟨_,rfl,by simp [h0]⟩
  ·apply dB h0;exact hK _ _ (ak _ [0,3,15]) ⟨_,rfl,by simp [h0]⟩
 rintro _ ⟨b,rfl,hb⟩
 apply (dI)<;>intro h
 ·obtain⟨h0,h1⟩:=hb.1 h;refine W.skip (W.block ?_);refine bB fun K hK=>?_;refine hK _ ⟨k-1,_,Gh.fr [(0,_),(3,ae ((k-1:Nat):Int))] (by simp;omega),aa,_,_,rfl,aa,?_⟩;rw [hc,show k=(k-1)+1 by omega,bt aa,h1,jy];simp
 ·have h2:aK l=l.take k:=by
   rw [hc]
   by_cases h0:0<k
   ·have h1:nth l (k-1)≠0:=fun h1=>by simp [hb.2 ⟨h0,h1⟩]at h
    rw [show k=(k-1)+1 by omega,bt aa];exact iJ h1 _
   ·have:k=0:=(by omega);subst this;simp [aK]
  apply qZ [2];apply W.ret;simp [h2]
theorem KO(a:List Int)(m c0:Int)(ha:a.length<1099511627776)(la:cV 10000 a)(Jm:0<=m)(Gp:m<=65536)(pY:0<=c0)(qQ:c0<=65536) :
  aj 210 [aw ay a,ae m,ae c0] (Dn (V 10000 a*m+c0)):=by
 apply bL [(0,aw ay a),(1,ae m),(2,ae c0)] Tryz.func210;apply eQ [0,1,2] [0,1,2,7];apply dU [0,1,2,7,8]
 refine W.aO (fun k σ=>∃(i:Nat) (c:Int) (z:List Int) (ver:Nat),aQ σ [(0,aw ay a),(1,ae m),(2,ae c),(7, .own 12 ver 0 i),(8,ae i)] fun rows clk =>
  rows 12=some ⟨ver,3,1,emap ay z⟩∧k=(a.length-i)*1000000+c.toNat∧z.length=i∧(i<=a.length∨i+c<=a.length+65536)∧cV 10000 z∧0<=c∧c<=65536 ∧
  V 10000 z+10000^i*c=V 10000 (a.take i)*m+c0) (a.length*1000000+c0.toNat) ?_ ?_
 ·exact⟨_, .refl,0,c0,[],_,_,_,rfl,by simp [emap],av,rfl,aa,cV.nil,pY,qQ,by simp [V]⟩
 rintro k _ ⟨i,c,z,ver,rows,clk,rfl,hr,hk,hz,hi,lz,h0,h1,hV⟩;apply W.seq
 refine W.dx (fun σ=>∃(b:Bool),σ=⟨fa [(0,aw ay a),(1,ae m),(2,ae c),(7, .own 12 ver 0 i),(8,ae i),(20, .bool b)],rows,clk⟩∧(b=true↔i<a.length∨0<c)) (fun K hK=>?_) ?_
 ·simp
  by_cases h2:i<a.length
  ·apply dB h2;exact hK _ _ (ak _ [0,1,2,7,8,20]) ⟨_,rfl,by simp [h2]⟩
  ·apply dB h2;exact hK _ _ (ak _ [0,1,2,7,8,20]) ⟨_,rfl,by simp [h2]⟩
 rintro _ ⟨b,rfl,hb⟩
 apply (dI)<;>intro h
 ·have hb:=hb.1 h;apply (ft)
  refine W.fR (fun σ=>∃(s:Int),σ=⟨fa [(0,aw ay a),(1,ae m),(2,ae s),(7, .own 12 ver 0 i),(8,ae i)],rows,clk⟩∧0<=s∧s<=655360000∧(a.length<=i->s=c) ∧
   V 10000 z+10000^i*s=V 10000 (a.take (i+1))*m+c0) ?_ ?_
  ·
   apply fi [0,1,2,7,8,26]<;>intro h
   ·simp at h;have hn:=la.nth h;have h2:0<=nth a i*m:=Int.mul_nonneg hn.1 Jm;have h3:nth a i*m<=9999*65536:=Int.mul_le_mul aa Gp Jm aa;refine bB fun K hK=>?_;refine hK _ ⟨_,ak _ [0,1,2,7,8],_,rfl,aa,aa,aa,?_⟩;rw [aT h,Int.mul_add,Int.add_mul];grind
   ·simp at h;apply W.skip;refine⟨_,ak _ [0,1,2,7,8],_,rfl,aa,aa,fun _=>rfl,?_⟩;rw [aZ aa];rw [aZ aa]at hV;exact hV
  rintro _ ⟨s,rfl,Nb,ni,hsc,hsV⟩;apply oD hr hz [0,1,2,7,8];refine bB fun K hK=>?_;refine W.lw [0,1,2,7,8] hK ?_;clear hK K;simp;refine bB fun K hK=>?_;refine hK _ ⟨(a.length-(i+1))*1000000+(s/10000).toNat,_,ak _ [0,1,2,7,8],aa,i+1,s/10000,z ++ [s%10000],_,_,_,rfl,av,rfl,by simp [hz],aa,cV.append.2 ⟨lz,cV.cons.2 ⟨aa,cV.nil⟩⟩,aa,aa,?_⟩;rw [dK,nv,hz,<-hsV,Int.pow_succ];have:=Int.emod_add_mul_ediv s 10000;grind
 ·have hb:¬(i<a.length∨0<c):=fun h2=>by simp [hb.2 h2]at h
  have hc:c=0:=aa;subst hc;apply (ey);have ez:z.take i=z:=bG hz;apply W.sr;simp (disch:=omega) [gw,hr,hz,ez];refine aU (oH z aa) ?_;apply bM [6];apply W.ret;rw [aZ aa]at hV;have e:V 10000 z=V 10000 a*m+c0:=au hV;rw [<-e,<-tY lz];simp
abbrev Z(x:Int):Prop:=sz 2 x<1099511627776
theorem Ni{b:Nat}(hb:2<=b)(x:Int):sz b x<=sz 2 x:=by refine dp hb (Nat.lt_of_lt_of_le (iu (b:=2) ar x) ?_);exact Nat.pow_le_pow_left hb _
theorem afY(y:Int):(aI DD y.natAbs).length<=sz 2 y:=Ni Jp y
theorem jW(h:0<=y):(aI DD y.toNat).length<=sz 2 y:=by have:=afY y;rwa [show y.natAbs=y.toNat by omega]at this
theorem vD(h:0<=y):V 10000 (aI DD y.toNat)=y:=by have:=jT Jp y.toNat;simp only [show((DD:Nat):Int)=10000 from rfl]at this;rw [this];omega
theorem amm(y:Int):V 10000 (aI DD y.natAbs)=y.natAbs:=by have:=jT Jp y.natAbs;simpa only [show((DD:Nat):Int)=10000 from rfl]using this
theorem lH(n:Nat):cV 10000 (aI DD n):=fy Jp n
theorem Uu(h:cV 4294967296 l):sz 2 (V 4294967296 l)<=32*l.length:=by
 refine dp ar ?_;have h1:=nZ (b:=(4294967296:Int)) ar h;have h2:=bH (b:=(4294967296:Int)) ar h;have h3:((4294967296:Int)^l.length)=((2^(32*l.length):Nat):Int):=by rw [Nat.pow_mul];simp
 rw [h3]at h1;omega
theorem lg(y m c:Int)(hy:0<=y)(hz:Z y)(Jm:0<=m)(Gp:m<=65536)(pY:0<=c)(qQ:c<=65536):aj 210 [Dn y,ae m,ae c] (Dn (y*m+c)):=by have:=KO (aI DD y.toNat) m c (by have:=jW hy;omega) (lH _) Jm Gp pY qQ;rwa [vD hy]at this
theorem Ql(l:List Int)(hl:l.length<=17179869184)(hm:cV 4294967296 l):aj 231 [us l] (Dn (V 4294967296 l)):=by
 apply bL [(0,us l)] Tryz.func231;apply eQ [0] [0,3];refine W.Kw 3 (Dn 0) av rfl fun K hK=>?_;refine W.lw [0,3] hK ?_;clear hK K;simp;apply dU [0,3,4]
 refine W.aO (fun k σ=>aQ σ [(0,us l),(3,Dn (V 4294967296 (l.drop k))),(4,ae ((k:Int)-1))] fun rows clk=>k<=l.length) l.length ?_ ?_
 ·exact⟨_,Gh.fr [(0,us l),(3,Dn (V 4294967296 (l.drop l.length))),(4,ae ((l.length:Int)-1))] (by simp [V]),_,_,rfl,aa⟩
 rintro k _ ⟨rows,clk,rfl,hk⟩;have h0:=bH (b:=4294967296) ar (hm.drop k);have hs:sz 2 (V 4294967296 (l.drop k))<=32*(l.length-k):=by have:=Uu (hm.drop k);simpa using this
 apply cS [0,3,4,9]<;>intro h
 ·simp at h;have hx:=hm.nth (i:=k-1) aa;have hd:V 4294967296 (l.drop (k-1))=nth l (k-1)+4294967296*V 4294967296 (l.drop k):=by rw [fu (i:=k-1) aa,show k-1+1=k by omega];rfl
  apply (ft);apply W.sr;have XK:((k:Int)-1).toNat=k-1:=aa;apply dB XK;refine aU (lg _ 65536 _ h0 aa ar ar aa aa) ?_;apply bM [0,3,4];have h1:0<=V 4294967296 (l.drop k)*65536+nth l (k-1)/65536:=aa;have h2:sz 2 (V 4294967296 (l.drop k)*65536+nth l (k-1)/65536)<=32*l.length:=by have h3:=Uu (hm.drop (k-1));refine Nat.le_trans (cY ar (y:=V 4294967296 (l.drop (k-1))) aa) ?_;simp at h3;omega
  refine q9 XK fun K hK=>?_;refine aU (lg _ 65536 _ h1 aa ar ar aa aa) ?_;apply (cp);refine W.lw [0,3,4] hK ?_;clear hK K;simp;refine bB fun K hK=>?_;refine hK _ ⟨k-1,_,Gh.fr [(0,us l),(3,Dn (V 4294967296 (l.drop (k-1)))),(4,ae (((k-1:Nat):Int)-1))] ?_,aa,_,_,rfl,aa⟩;have e:(V 4294967296 (l.drop k)*65536+nth l (k-1)/65536)*65536+nth l (k-1)%65536=V 4294967296 (l.drop (k-1)):=aa;simp [e];omega
 ·simp at h;have wG:k=0:=aa;subst wG;apply qZ [2];apply W.ret;simp
abbrev RI(x:Int):PV:=.ag [aw ay (aI DD x.natAbs), .bool (decide (x<0))]
theorem oI(y:Int)(hy:0<=y)(neg:Bool):aj 68 [Dn y, .bool neg] (RI (if neg=true then -y else y)):=by
 apply bL [(0,Dn y),(1, .bool neg)] Tryz.func68;apply aR [0,1,4];have e0:(aI DD y.toNat = [])↔y=0:=by rw [eT Jp];omega
 have e:RI (if neg=true then -y else y) = .ag [Dn y, .bool (neg&&decide (0<(aI DD y.toNat).length))]:=by
  have h1:0<(aI DD y.toNat).length↔y≠0:=by rw [length_pos_iff];simp [e0]
  have e2:(if neg=true then -y else y).natAbs=y.toNat:=by split<;>omega
  have e3:(decide ((if neg=true then -y else y)<0))=(neg&&decide (0<(aI DD y.toNat).length)):=by
   cases neg
   ·simp only [Bool.false_and,Bool.false_eq_true,if_false,decide_eq_false_iff_not];omega
   ·simp only [Bool.true_and,if_true,h1];congr 1;apply propext;omega
  rw [RI,e2,e3]
 rw [e];refine W.EP fun K hK=>?_
 cases neg
 ·apply (cp);refine W.lw [4] hK ?_;clear hK K;simp;exact gK
 ·apply (cp);refine W.lw [4] hK ?_;clear hK K;simp;exact gK
theorem Dq(n:Bool)(l:List Int)(hl:l.length<=17179869184)(hm:cV 4294967296 l):aj 156 [IV n l] (RI (iv n l)):=by apply bL [(0,IV n l)] Tryz.func156;apply gr [1,2];apply my (Ql l hl hm);refine aU (oI _ (bH ar hm) n) ?_;apply bM [2];apply W.ret;simp [go,iv]
theorem Uv(n:Nat)(hn:n<1099511627776):aj 128 [ae n] (Dn (2^n)):=by
 apply bL [(0,ae n)] Tryz.func128;apply eQ [0] [0,3];refine W.arq 3 [[ae 1]] (Dn 1) av rfl fun K hK=>?_;refine W.lw [0,3] hK ?_;clear hK K;simp;apply dU [0,3,4]
 refine W.aO (fun k σ=>∃(i:Nat),aQ σ [(0,ae n),(3,Dn (2^i)),(4,ae i)] fun rows clk=>k=n-i∧i<=n) n ?_ ?_
 ·exact⟨_, .refl,0,_,_,rfl,aa,aa⟩
 rintro k _ ⟨i,rows,clk,rfl,hk,hi⟩
 apply cS [0,3,4,8]<;>intro h
 ·simp at h;have hs:sz 2 (2^i)<=i+1:=by refine dp ar ?_;rw [show((2:Int)^i)=((2^i:Nat):Int)by simp,Int.natAbs_natCast,Nat.pow_succ];have:=Nat.pow_pos (n:=i) (show 0<2 by decide);omega
  apply (ft);refine bB fun K hK=>?_;refine aU (lg (2^i) 2 0 (Int.le_of_lt (Int.pow_pos ar)) aa ar ar ar ar) ?_;apply (cp);refine W.lw [0,3,4] hK ?_;clear hK K;simp;refine bB fun K hK=>?_;refine hK _ ⟨n-(i+1),_,Gh.fr [(0,ae n),(3,Dn (2^(i+1))),(4,ae ((i+1:Nat):Int))] ?_,aa,i+1,_,_,rfl,rfl,aa⟩;simp [Int.pow_succ]
 ·simp at h;have:i=n:=aa;subst this;apply qZ [2];apply W.ret;simp
theorem nE(n:Int)(h1 : -9223372036854775808<=n)(h2:n<9223372036854775808):aj 61 [ae n] (RI n):=by
 apply bL [(0,ae n)] Tryz.func61;apply aR [0,2]
 apply cS [0,2,6]<;>intro h
 ·simp at h;subst h;apply (oC);refine aU (Uv 63 ar) ?_;apply (cp);have hp:=oI 9223372036854775808 ar true;simp at hp;apply cT hp;exact eK [2]
 ·simp at h;apply W.skip;apply aR [0,2,3]
  refine W.fR (fun σ=>aQ σ [(0,ae n.natAbs),(2, .ptr 2 0 0 0),(3, .bool (decide (n<0)))] fun rows clk=>rows 2=some ⟨0,29,2,[[.nil, .bool false]]⟩) ?_ ?_
  ·
   apply fi [0,2,3,11]<;>intro h
   ·simp at h;refine bB fun K hK=>?_;refine hK _ ⟨_,Gh.fr [(0,ae n.natAbs),(2, .ptr 2 0 0 0),(3, .bool (decide (n<0)))] (by simp;omega),_,_,rfl,av⟩
   ·simp at h;apply W.skip;refine⟨_,Gh.fr [(0,ae n.natAbs),(2, .ptr 2 0 0 0),(3, .bool (decide (n<0)))] (by simp;omega),_,_,rfl,av⟩
  rintro _ ⟨rows,clk,rfl,bE⟩;apply aR [0,2,3,4];refine W.nil 4 4 3 1 av ar fun K hK=>?_;refine W.lw [0,2,3,4] hK ?_;clear hK K;simp;apply (iR)
  refine W.aO (fun k σ=>∃(z:List Int) (i ver:Nat),aQ σ [(0,ae k),(2, .ptr 2 0 0 0),(3, .bool (decide (n<0))),(4, .own 4 ver 0 i)] fun rows clk=>rows 2=some ⟨0,29,2,[[.nil, .bool false]]⟩ ∧
   rows 4=some ⟨ver,3,1,emap ay z⟩∧z.length=i∧k*2^i<=9223372036854775808∧cV 10000 z∧V 10000 z+10000^i*k=n.natAbs∧aI DD n.natAbs=z++aI DD k) n.natAbs ?_ ?_
  ·exact⟨_, .refl,[],0,_,_,_,rfl,by simp [bE],by simp [emap],rfl,by simp;omega,cV.nil,by simp [V],av⟩
  rintro k _ ⟨z,i,ver,rows,clk,rfl,bE,hr,hz,qu,lz,hV,hd⟩
  apply cS [0,2,3,4,15]<;>intro h
  ·simp at h;have axD:i<=63:=(by have h3:1*2^i<=k*2^i:=Nat.mul_le_mul_right _ aa;have h4:2^i<=2^63:=aa;exact(Nat.pow_le_pow_iff_right ar).1 h4);have axE:k<=9223372036854775808:=Nat.le_trans (by have:=Nat.mul_le_mul_left k (Nat.pow_pos (n:=i) (show 0<2 by decide));omega) qu;apply (qj);apply oD hr hz [0,2,3,4];refine bB fun K hK=>?_
   refine hK _ ⟨k/10000,_,Gh.fr [(0,ae ((k/10000:Nat):Int)),(2, .ptr 2 0 0 0),(3, .bool (decide (n<0))),(4, .own 4 _ 0 (i+1))] (by simp;rfl),aa,z ++ [((k%10000:Nat):Int)],i+1,_,_,_,rfl,by simp [bE],av,by simp [hz],?_,cV.append.2 ⟨lz,cV.cons.2 ⟨aa,cV.nil⟩⟩,?_,?_⟩
   ·rw [Nat.pow_succ];have h3:k/10000*(2^i*2)=k/10000*2*2^i:=(by rw [Nat.mul_comm (2^i),Nat.mul_assoc]);rw [h3];exact Nat.le_trans (Nat.mul_le_mul_right _ aa) qu
   ·rw [dK,nv,hz,<-hV,Int.pow_succ];have:(k:Int)=(k%10000:Nat)+10000*(k/10000:Nat):=aa;grind
   ·rw [hd,rh Jp aa];simp
  ·simp at h;have wG:k=0:=aa;subst wG;have e:z=aI DD n.natAbs:=(by rw [hd];simp [kY]);apply (iq);have ez:z.take i=aI DD n.natAbs:=(by rw [bG hz,e]);simp (disch:=omega) [gw,hr,hz,ez];refine aU (oI n.natAbs aa (decide (n<0))) ?_;apply u6 bE [2];apply W.ret;have e2:(if n<0 then -(n.natAbs:Int)else n.natAbs)=n:=(by split<;>omega);rw [e2];simp [go]
theorem rE:∀ {l:List Int},l.length<=(aK l).length->aK l=l
 | [],_=>rfl
 | x::l,h=>by
  rw [aK]at h |-
  split
  ·rename_i h1;rw [if_pos h1]at h;simp at h
  ·rename_i h1;rw [if_neg h1]at h;rw [rE (au h)]
theorem Hy(hb:1<=b)(hl:cV b l)(h:l ≠ []->b^(l.length-1)<=V b l):aK l=l:=by
 apply rE
 rcases Nat.lt_or_ge (aK l).length l.length with h1 | h1
 ·exfalso;have h2:=h (by intro h0;subst h0;simp at h1);have h3:=nZ aa (eh hl);rw [c8]at h3;obtain⟨m,hm⟩:∃m,l.length-1=(aK l).length+m:=⟨l.length-1-(aK l).length,aa⟩
  rw [hm,Int.pow_add]at h2;have h4:1<=b^m:=Int.pow_pos aa;have h5:=Int.mul_le_mul_of_nonneg_left h4 (show 0<=b^(aK l).length from Int.le_of_lt (Int.pow_pos aa));omega
 ·exact h1
@[simp] theorem Zk:emap u32 l ++ [[.int .u32 x]]=emap u32 (l ++ [x]):=by simp [emap]
theorem Dr(x:Int):aj 125 [RI x] (.bool (decide (x=0))):=by
 apply bL [(0,RI x)] Tryz.func125;apply eQ [1] [2];apply W.ret;simp [go];have e:((aI DD x.natAbs).length=0)↔x=0:=by rw [length_eq_zero_iff,eT Jp];omega
 rw [Bool.eq_iff_iff,decide_eq_true_iff,beq_iff_eq,<-e];omega
theorem Nj:(aI DD x.natAbs).length=0↔x=0:=by rw [length_eq_zero_iff,eT Jp];omega
theorem Ds(x:Int):aj 129 [RI x] (ae x.sign):=by
 apply bL [(0,RI x)] Tryz.func129;apply aR [1];apply (iR)
 apply fi [1,3]<;>intro h
 ·have h0:x=0:=by rw [<-Nj];simp at h;simp [h]
  subst h0;exact dS [2]
 ·have h0:x≠0:=by rw [Ne,<-Nj];simp at h;simpa using h
  apply fi [8]<;>intro h
  ·simp at h;apply aR [2];apply W.ret;simp [go,Int.sign_eq_neg_one_of_neg h]
  ·simp at h;apply W.skip;apply aR [2];apply W.ret;simp [go,Int.sign_eq_one_of_pos (show 0<x by omega)]
theorem rF(x:Int):aj 17 [RI x] (RI (-x)):=by
 apply bL [(0,RI x)] Tryz.func17;apply aR [1,2];apply (oC);refine aU (oI x.natAbs aa (!decide (x<0))) ?_;apply bM [2];apply W.ret;have e:(if 0<=x then -(x.natAbs:Int)else x.natAbs) = -x:=by split<;>omega
 simp only [e];simp [go]
theorem Qm(a:List Int)(d:Int)(ha:a.length<1099511627776)(la:cV 10000 a)(Uw:0<d)(E5:d<=65536):aj 136 [aw ay a,ae d] (.cW [Dn (V 10000 a/d),ae (V 10000 a%d)]):=by
 apply bL [(0,aw ay a),(1,ae d)] Tryz.func136;apply aR [0,1];apply eQ [0,1,6] [0,1,6,7];apply dU [0,1,6,7,8]
 refine W.aO (fun k σ=>∃(r:Int) (z:List Int) (ver:Nat),aQ σ [(0,aw ay a),(1,ae d),(6, .own 12 ver 0 a.length),(7,ae r),(8,ae ((k:Int)-1))] fun rows clk =>
  rows 12=some ⟨ver,3,1,emap ay z⟩∧k<=a.length∧z.length=a.length∧cV 10000 z∧0<=r∧r<d∧V 10000 (a.drop k)=d*V 10000 (z.drop k)+r) a.length ?_ ?_
 ·exact⟨_, .refl,0,replicate a.length 0,_,_,_,rfl,av,aa,av,cV.rep ar _,aa,Uw,by simp [V]⟩
 rintro k _ ⟨r,z,ver,rows,clk,rfl,hr,hk,hz,lz,oq,tB,hV⟩
 apply cS [0,1,6,7,8,17]<;>intro h
 ·simp at h;obtain⟨j,rfl⟩:∃j,k=j+1:=⟨k-1,aa⟩
  clear h;have hx:=la.nth (i:=j) aa;have Nb:0<=r*10000+nth a j:=aa;have ni:r*10000+nth a j<d*10000:=aa;have Jq:0<=(r*10000+nth a j)/d:=Int.ediv_nonneg Nb aa;have Ux:(r*10000+nth a j)/d<10000:=Int.ediv_lt_of_lt_mul Uw aa;have Jm:=Int.emod_nonneg (r*10000+nth a j) (show d≠0 by omega);have Gp:=Int.emod_lt_of_pos (r*10000+nth a j) Uw;have hdz:d≠0:=aa;apply lW [0,1,6,8,9];apply oD hr hdz [0,1,6,8,9];refine q9 hdz fun K hK=>?_;refine W.lw [0,1,6,7,8] hK ?_;clear hK K;simp;refine bB fun K hK=>?_;refine hK _ ⟨j,_,ak _ [0,1,6,7,8],aa,_,z.set j ((r*10000+nth a j)/d),ver,_,_,rfl,av,aa,au hz,lz.set ⟨Jq,Ux⟩,Jm,Gp,?_⟩;rw [fu (l:=a) (i:=j) aa,fu (l:=z.set j _) (i:=j) (by simp;omega),fe aa,drop_set_of_lt aa];simp only [V];rw [hV];have:=Int.emod_add_mul_ediv (r*10000+nth a j) d;grind
 ·simp at h;have wG:k=0:=aa;subst wG;simp only [drop_zero]at hV;have ez:z.take a.length=z:=bG hz;have hzn:=bH ar lz;have e1:V 10000 a/d=V 10000 z:=by rw [hV,Int.mul_add_ediv_left _ _ aa,Int.ediv_eq_zero_of_lt oq tB];simp
  have e2:V 10000 a%d=r:=by rw [hV,Int.mul_add_emod_self_left,Int.emod_eq_of_lt oq tB]
  apply (iq);simp (disch:=omega) [gw,hr,ez];refine aU (oH z aa) ?_;apply bM [4,5];apply W.ret;rw [e1,e2,<-tY lz];simp [go]
theorem AW(y d:Int)(hy:0<=y)(hz:Z y)(Uw:0<d)(E5:d<=65536):aj 136 [Dn y,ae d] (.cW [Dn (y/d),ae (y%d)]):=by have:=Qm (aI DD y.toNat) d (by have:=jW hy;omega) (lH _) Uw E5;rwa [vD hy]at this
theorem Zl(n:Nat)(hz:Z (n:Int)):aj 67 [aw ay (aI DD n)] (us (aI LL n)):=by
 have hln:(aI LL n).length<=sz 2 (n:Int):=Ni fV n;apply bL [(0,aw ay (aI DD n))] Tryz.func67;apply eQ [0] [0,3];refine W.nil 3 3 185 1 av ar fun K hK=>?_;refine W.lw [0,3] hK ?_;clear hK K;simp;apply (iR)
 refine W.aO (fun k σ=>∃(i:Nat) (z:List Int) (ver:Nat),aQ σ [(0,aw ay (aI DD k)),(3, .own 3 ver 0 i)] fun rows clk=>rows 3=some ⟨ver,185,1,emap u32 z⟩∧z.length=i∧k<=n∧aI LL n=z++aI LL k) n ?_ ?_
 ·exact⟨_, .refl,0,[],_,_,_,rfl,by simp [emap],rfl,aa,av⟩
 rintro k _ ⟨i,z,ver,rows,clk,rfl,hr,Ep,hk,hd⟩;have hzk:Z (k:Int):=Nat.lt_of_le_of_lt (cY ar (y:=(n:Int)) aa) hz;have tZ:i<=(aI LL n).length:=by rw [hd];simp [Ep]
 have e0:(aI DD k).length=0↔k=0:=by rw [length_eq_zero_iff,eT Jp]
 apply cS [0,3,9]<;>intro h
 ·have wG:k≠0:=by rw [Ne,<-e0];simp at h;omega
  have n6:Z ((k:Int)/65536):=Nat.lt_of_le_of_lt (cY ar (y:=(k:Int)) aa) hzk;apply (qj);apply (oC);refine aU (AW (k:Int) 65536 aa hzk ar ar) ?_;apply bM [3,4,5];apply (oC);refine aU (AW ((k:Int)/65536) 65536 aa n6 ar ar) ?_;apply bM [3,4,5,6];refine W.EP fun K hK=>?_;simp (disch:=omega) [gw,hr,Ep,wrap_u32'];have e1:(k:Int)/65536%65536*65536+k%65536=((k%LL:Nat):Int):=by simp;omega
  have e3:k/LL<k:=Nat.div_lt_self aa ar;obtain⟨dg,e2⟩:∃dg:Int,dg=((k%LL:Nat):Int):=⟨_,rfl⟩
  rw [<-e2]at e1;simp only [e1,Zk];refine W.lw [3,4] hK ?_;clear hK K;simp;refine bB fun K hK=>?_
  refine hK _ ⟨k/LL,_,Gh.fr [(0,aw ay (aI DD (k/LL))),(3, .own 3 _ 0 (i+1))] ?_,e3,i+1,z ++ [dg],_,_,_,rfl,by simp;rfl,by simp [Ep],aa,?_⟩
  ·have e2:((k:Int)/65536/65536).toNat=k/LL:=(by show _=k/4294967296;omega);simp only [Dn,e2];simp
  ·rw [hd,rh fV wG,e2];simp
 ·have wG:k=0:=by rw [<-e0];simp at h;simp [h]
  subst wG;apply qZ [2];apply W.ret;simp [kY]at hd;have ez:z.take i=z:=bG Ep;simp [go,hr,ez,hd]
theorem E6(x:Int)(hz:Z x):aj 16 [RI x] (I x):=by apply bL [(0,RI x)] Tryz.func16;apply gr [1,2];apply (cp);refine aU (Zl x.natAbs (by simpa [Z,sz]using hz)) ?_;exact eK [2]
theorem Qn(x y:List Int)(hx:x.length<1099511627776)(hy:y.length<1099511627776)(lx:cV 10000 x)(ly:cV 10000 y)(cx:aK x=x)(cy:aK y=y):aj 228 [aw ay x,aw ay y] (ae (dc (V 10000 x) (V 10000 y))):=by
 apply bL [(0,aw ay x),(1,aw ay y)] Tryz.func228;apply aR [0,1]
 apply cS [0,1,10]<;>intro h
 ·simp at h
  apply cS [15]<;>intro h
  ·simp at h;apply aR [4];apply W.ret;simp [kK (jA ar lx ly cy h)]
  ·simp at h;apply W.skip;apply aR [4];apply W.ret;simp [kN (jA ar ly lx cx aa)]
 ·simp at h;have hlen:x.length=y.length:=aa;clear h;apply (jm);apply yM [0,1,5]
  refine W.aO (fun k σ=>aQ σ [(0,aw ay x),(1,aw ay y),(5,ae ((k:Int)-1))] fun rows clk=>k<=x.length∧x.drop k=y.drop k) x.length ?_ ?_
  ·exact⟨_, .refl,_,_,rfl,aa,by rw [drop_of_length_le aa,drop_of_length_le aa]⟩
  rintro k _ ⟨rows,clk,rfl,hk,hd⟩
  apply cS [0,1,5,20]<;>intro h
  ·have h0:0<k:=(by simp at h;omega);obtain⟨j,rfl⟩:∃j,k=j+1:=⟨k-1,aa⟩
   clear h;apply (ft);apply W.sd
   apply kt [0,1,5,31]<;>intro h
   ·simp at h;apply W.seq;apply W.sd;apply bM [40]
    refine W.cond ⟨_,rfl,fun h2=>?_,fun h2=>?_⟩
    ·simp at h2;apply aR [4];apply W.ret;simp [kK (nB ar lx ly hlen aa hd h2)]
    ·simp at h2;apply W.skip;apply aR [4];apply W.ret;simp [kN (nB ar ly lx hlen.symm aa hd.symm aa)]
   ·simp at h;apply W.skip;refine bB fun K hK=>?_;refine hK _ ⟨j,_,ak _ [0,1,5],aa,_,_,rfl,aa,?_⟩;rw [fu (l:=x) (i:=j) aa,fu (l:=y) (i:=j) aa,hd,h]
  ·have h0:k=0:=(by simp at h;omega);subst h0;simp at hd;subst hd;apply qZ [4];apply W.ret;simp [ve]
theorem Hz(x y:Int)(hx:0<=x)(hy:0<=y)(zx:Z x)(zy:Z y):aj 228 [Dn x,Dn y] (ae (dc x y)):=by have:=Qn (aI DD x.toNat) (aI DD y.toNat) (by have:=jW hx;omega) (by have:=jW hy;omega) (lH _) (lH _) (jz Jp _) (jz Jp _);rwa [vD hx,vD hy]at this
theorem Qo(a b:List Int)(ha:a.length<1099511627776)(hb:b.length<1099511627776)(la:cV 10000 a)(lb:cV 10000 b)(ca:aK a=a)(cb:aK b=b):aj 227 [aw ay a,aw ay b] (Dn (V 10000 a+V 10000 b)):=by
 apply bL [(0,aw ay a),(1,aw ay b)] Tryz.func227;apply eQ [0,1] [0,1,5];refine W.nil 5 5 3 1 av ar fun K hK=>?_;refine W.lw [0,1,5] hK ?_;clear hK K;simp;apply aR [0,1,5,6];apply dU [0,1,5,6,7];obtain⟨M,hM⟩:∃M,M=max a.length b.length:=⟨_,rfl⟩
 refine W.aO (fun k σ=>∃(i:Nat) (c:Int) (z:List Int) (ver:Nat),aQ σ [(0,aw ay a),(1,aw ay b),(5, .own 5 ver 0 i),(6,ae c),(7,ae i)] fun rows clk =>
  rows 5=some ⟨ver,3,1,emap ay z⟩∧k=2*(M-i)+c.toNat∧z.length=i∧(i<=M∨(i=M+1∧c=0∧10000^M<=V 10000 a+V 10000 b))∧cV 10000 z∧0<=c∧c<=1 ∧
  V 10000 z+10000^i*c=V 10000 (a.take i)+V 10000 (b.take i)) (2*M) ?_ ?_
 ·exact⟨_, .refl,0,0,[],_,_,_,rfl,by simp [emap],av,rfl,aa,cV.nil,aa,aa,by simp [V]⟩
 rintro k _ ⟨i,c,z,ver,rows,clk,rfl,hr,hk,hz,hi,lz,pY,qQ,hV⟩;apply W.seq
 refine W.dx (fun σ=>∃(t:Bool),σ=⟨fa [(0,aw ay a),(1,aw ay b),(5, .own 5 ver 0 i),(6,ae c),(7,ae i),(21, .bool t)],rows,clk⟩∧(t=true↔i<M∨0<c)) (fun K hK=>?_) ?_
 ·simp
  by_cases h1:i<a.length
  ·apply dB h1;exact hK _ _ (ak _ [0,1,5,6,7,21]) ⟨_,rfl,by simp;omega⟩
  ·by_cases h2:i<b.length
   ·apply fN h1 h2;exact hK _ _ (ak _ [0,1,5,6,7,21]) ⟨_,rfl,by simp;omega⟩
   ·apply fN h1 h2;exact hK _ _ (ak _ [0,1,5,6,7,21]) ⟨_,rfl,by simp;omega⟩
 rintro _ ⟨t,rfl,ht⟩
 apply (dI)<;>intro h
 ·have ht:=ht.1 h;apply (ft)
  refine W.fR (fun σ=>∃(s:Int),σ=⟨fa [(0,aw ay a),(1,aw ay b),(5, .own 5 ver 0 i),(6,ae s),(7,ae i)],rows,clk⟩∧0<=s∧s<=c+9999∧(a.length<=i->s=c) ∧
   V 10000 z+10000^i*s=V 10000 (a.take (i+1))+V 10000 (b.take i)) ?_ ?_
  ·
   apply fi [0,1,5,6,7,27]<;>intro h
   ·simp at h;have hx:=la.nth h;refine bB fun K hK=>?_;refine hK _ ⟨_,ak _ [0,1,5,6,7],_,rfl,aa,aa,aa,?_⟩;rw [aT h];grind
   ·simp at h;apply W.skip;refine⟨_,ak _ [0,1,5,6,7],_,rfl,aa,aa,fun _=>rfl,?_⟩;rw [aZ (l:=a) aa];rwa [aZ (l:=a) aa]at hV
  rintro _ ⟨s,rfl,Nb,ni,hsc,hsV⟩
  refine W.fR (fun σ=>∃(u:Int),σ=⟨fa [(0,aw ay a),(1,aw ay b),(5, .own 5 ver 0 i),(6,ae u),(7,ae i)],rows,clk⟩∧0<=u∧u<=s+9999∧(b.length<=i->u=s) ∧
   V 10000 z+10000^i*u=V 10000 (a.take (i+1))+V 10000 (b.take (i+1))) ?_ ?_
  ·
   apply fi [0,1,5,6,7,37]<;>intro h
   ·simp at h;have hx:=lb.nth h;refine bB fun K hK=>?_;refine hK _ ⟨_,ak _ [0,1,5,6,7],_,rfl,aa,aa,aa,?_⟩;rw [aT h];grind
   ·simp at h;apply W.skip;refine⟨_,ak _ [0,1,5,6,7],_,rfl,aa,aa,fun _=>rfl,?_⟩;rw [aZ (l:=b) aa];rwa [aZ (l:=b) aa]at hsV
  rintro _ ⟨u,rfl,hu0,hu1,huc,huV⟩;apply oD hr hz [0,1,5,6,7];refine bB fun K hK=>?_;refine W.lw [0,1,5,6,7] hK ?_;clear hK K;simp;refine bB fun K hK=>?_
  refine hK _ ⟨2*(M-(i+1))+(u/10000).toNat,_,ak _ [0,1,5,6,7],?_,i+1,u/10000,z ++ [u%10000],_,_,_,rfl,av,rfl,by simp [hz],?_,cV.append.2 ⟨lz,cV.cons.2 ⟨aa,cV.nil⟩⟩,aa,aa,?_⟩
  ·rcases Nat.lt_or_ge i M with h1 | h1
   ·omega
   ·have:=hsc aa;have:=huc aa;omega
  ·rcases Nat.lt_or_ge i M with h1 | h1
   ·omega
   ·right;have hc:c=1:=aa;have hzn:=bH ar lz;rw [aZ (l:=a) aa,aZ (l:=b) aa,hc]at hV;have hiM:i=M:=aa;rw [<-hiM];refine⟨rfl,by have:=hsc aa;have:=huc aa;omega,?_⟩;rw [<-hV];omega
  ·rw [dK,nv,hz,<-huV,Int.pow_succ];have:=Int.emod_add_mul_ediv u 10000;grind
 ·have ht:¬(i<M∨0<c):=fun h2=>by simp [ht.2 h2]at h
  have hc:c=0:=aa;subst hc;apply qZ [4];apply W.ret;rw [aZ (l:=a) aa,aZ (l:=b) aa]at hV;have e:V 10000 a+V 10000 b=V 10000 z:=by rw [<-hV];simp
  have cz:aK z=z:=by
   refine Hy ar lz fun h0=>?_;rw [hz,<-e]
   rcases hi with h1 | ⟨h1,_,h2⟩
   ·have hna:=bH ar la;have hnb:=bH ar lb;have tZ:0<i:=by rw [<-hz];exact length_pos_iff.2 h0
    rcases Nat.le_total b.length a.length with h3 | h3
    ·have:=ku (b:=10000) ar la ca (by intro h5;rw [h5]at h3 hM;simp at h3;simp [h3]at hM;omega);rw [show i-1=a.length-1 by omega];omega
    ·have:=ku (b:=10000) ar lb cb (by intro h5;rw [h5]at h3 hM;simp at h3;simp [h3]at hM;omega);rw [show i-1=b.length-1 by omega];omega
   ·rw [h1];exact h2
  have ez:z.take i=z:=bG hz;rw [e,<-tY lz,cz];simp [go,hr,ez]
theorem Uy(x y:Int)(hx:0<=x)(hy:0<=y)(zx:Z x)(zy:Z y):aj 227 [Dn x,Dn y] (Dn (x+y)):=by have:=Qo (aI DD x.toNat) (aI DD y.toNat) (by have:=jW hx;omega) (by have:=jW hy;omega) (lH _) (lH _) (jz Jp _) (jz Jp _);rwa [vD hx,vD hy]at this
theorem Qp(a b:List Int)(ha:a.length<1099511627776)(hb:b.length<=a.length)(la:cV 10000 a)(lb:cV 10000 b)(hle:V 10000 b<=V 10000 a):aj 229 [aw ay a,aw ay b] (Dn (V 10000 a-V 10000 b)):=by
 apply bL [(0,aw ay a),(1,aw ay b)] Tryz.func229;apply aR [0,1];apply eQ [0,1,5] [0,1,5,6];apply dU [0,1,5,6,13,14]
 refine W.aO (fun k σ=>∃(i:Nat) (c:Int) (z:List Int) (ver:Nat),aQ σ [(0,aw ay a),(1,aw ay b),(5, .own 11 ver 0 a.length),(6,ae c),(13,ae a.length),(14,ae i)] fun rows clk =>
  rows 11=some ⟨ver,3,1,emap ay z⟩∧k=a.length-i∧i<=a.length∧z.length=a.length∧cV 10000 z∧0<=c∧c<=1 ∧
  V 10000 (z.take i)-10000^i*c=V 10000 (a.take i)-V 10000 (b.take i)) a.length ?_ ?_
 ·exact⟨_, .refl,0,0,replicate a.length 0,_,_,_,rfl,av,aa,aa,av,cV.rep ar _,aa,aa,by simp [V]⟩
 rintro k _ ⟨i,c,z,ver,rows,clk,rfl,hr,hk,hi,hz,lz,pY,qQ,hV⟩
 apply ef [0,1,5,6,13,14,15]<;>intro h
 ·simp at h;have hx:=la.nth h;apply (ft);apply eQ [0,1,5,6,7,13,14] [0,1,5,7,8,13,14]
  refine W.fR (fun σ=>∃(s:Int),σ=⟨fa [(0,aw ay a),(1,aw ay b),(5, .own 11 ver 0 a.length),(7,ae i),(8,ae s),(13,ae a.length),(14,ae i)],rows,clk⟩ ∧ -10000<=s∧s<=9999 ∧
   V 10000 (z.take i)+10000^i*s=V 10000 (a.take (i+1))-V 10000 (b.take (i+1))) ?_ ?_
  ·
   apply fi [0,1,5,7,8,13,14,26]<;>intro h
   ·simp at h;have hy:=lb.nth h;refine bB fun K hK=>?_;refine hK _ ⟨_,ak _ [0,1,5,7,8,13,14],_,rfl,aa,aa,?_⟩;rw [aT (l:=a) aa,aT h];grind
   ·simp at h;apply W.skip;refine⟨_,ak _ [0,1,5,7,8,13,14],_,rfl,aa,aa,?_⟩;rw [aT (l:=a) aa,aZ (l:=b) aa];rw [aZ (l:=b) aa]at hV;grind
  rintro _ ⟨s,rfl,Nb,ni,hsV⟩;apply aR [0,1,5,6,7,8,13,14]
  refine W.fR (fun σ=>∃(u c:Int),σ=⟨fa [(0,aw ay a),(1,aw ay b),(5, .own 11 ver 0 a.length),(6,ae c),(7,ae i),(8,ae u),(13,ae a.length),(14,ae i)],rows,clk⟩∧0<=u∧u<=9999∧0<=c∧c<=1∧s=u-10000*c) ?_ ?_
  ·
   apply fi [0,1,5,6,7,8,13,14,34]<;>intro h
   ·simp at h;apply aR [0,1,5,7,8,13,14];refine bB fun K hK=>?_;exact hK _ ⟨_,ak _ [0,1,5,6,7,8,13,14],_,1,rfl,aa,aa,aa,aa,aa⟩
   ·simp at h;apply W.skip;exact⟨_,ak _ [0,1,5,6,7,8,13,14],_,0,rfl,aa,aa,aa,aa,aa⟩
  rintro _ ⟨u,c',rfl,hu0,hu1,arO,arP,hu⟩;refine q9 hr fun K hK=>?_;refine W.lw [0,1,5,6,13,14] hK ?_;clear hK K;simp;refine bB fun K hK=>?_;refine hK _ ⟨a.length-(i+1),_,ak _ [0,1,5,6,13,14],aa,i+1,c',z.set i u,ver,_,_,rfl,av,aa,aa,au hz,lz.set aa,arO,arP,?_⟩;rw [fw aa,<-hsV,hu,Int.pow_succ];grind
 ·simp at h;have iK:i=a.length:=aa;subst iK;have ez:z.take a.length=z:=bG hz;apply (iq);simp (disch:=omega) [gw,hr,ez];refine aU (oH z aa) ?_;apply bM [4];apply W.ret;rw [ez,aZ (l:=a) aa,aZ (l:=b) aa]at hV;have h1:=nZ ar lz;rw [hz]at h1
  have hc:c=0:=by
   rcases(show c=0∨c=1 by omega)with h2 | h2
   ·exact h2
   ·subst h2;omega
  subst hc;have e:V 10000 a-V 10000 b=V 10000 z:=by rw [<-hV];simp
  rw [e,<-tY lz];simp [go]
theorem AX(x y:Int)(hy:0<=y)(hle:y<=x)(zx:Z x):aj 229 [Dn x,Dn y] (Dn (x-y)):=by
 have hlen:(aI DD y.toNat).length<=(aI DD x.toNat).length:=by have h1:=cY (b:=DD) Jp (x:=y) (y:=x) aa;simp only [sz]at h1;rwa [show y.natAbs=y.toNat by omega,show x.natAbs=x.toNat by omega]at h1
 have:=Qp (aI DD x.toNat) (aI DD y.toNat) (by have:=jW (show 0<=x by omega);omega) hlen (lH _) (lH _) (by rw [vD hy,vD aa];exact hle);rwa [vD hy,vD aa]at this
theorem afZ{a:Int}(ha:0<=a∧a<10000)(hb:0<=b∧b<10000):0<=a*b∧a*b<=99980001:=by refine⟨Int.mul_nonneg ha.1 hb.1,?_⟩;have:=Int.mul_le_mul (show a<=9999 by omega) (show b<=9999 by omega) hb.1 ar;simpa using this
theorem Qq(x y:List Int)(hx:x.length<1099511627776)(hy:y.length<1099511627776)(lx:cV 10000 x)(ly:cV 10000 y):aj 131 [aw ay x,aw ay y] (Dn (V 10000 x*V 10000 y)):=by
 apply bL [(0,aw ay x),(1,aw ay y)] Tryz.func131;apply aR [0,1];have e:((x.length:Int)+(y.length:Int)).toNat=x.length+y.length:=aa;apply W.sr;simp (disch:=omega) [gw,e];apply c9 [0,1,5];apply dU [0,1,5,17,18]
 refine W.aO (fun k σ=>∃(i:Nat) (z:List Int) (ver:Nat),aQ σ [(0,aw ay x),(1,aw ay y),(5, .own 15 ver 0 (x.length+y.length)),(17,ae x.length),(18,ae i)] fun rows clk =>
   rows 15=some ⟨ver,3,1,emap ay z⟩∧k=x.length-i∧i<=x.length∧z.length=x.length+y.length∧cV 10000 z∧(∀j,i+y.length<=j->nth z j=0) ∧
   V 10000 z=V 10000 (x.take i)*V 10000 y) x.length ?_ ?_
 ·refine⟨_, .refl,0,replicate (x.length+y.length) 0,_,_,_,rfl,by simp [e],aa,aa,av,cV.rep ar _,fun j _=>?_,by simp [V,pW]⟩;unfold nth;cases h:(replicate (x.length+y.length) (0:Int))[j]? with
  | none=>rfl
  | some v=>have:=mem_of_getElem? h;simp at this;simp [this]
 rintro k _ ⟨i,z,ver,rows,clk,rfl,hr,hk,hi,hz,lz,lT,hV⟩
 apply ef [0,1,5,17,18,19]<;>intro h
 ·simp at h;have hxi:=lx.nth h;apply (ft);apply eQ [0,1,5,6,17,18] [0,1,5,6,7,17,18];apply yM [0,1,5,6,7,8,17,18]
  refine W.aO (fun m σ=>∃(k:Nat) (c:Int) (z:List Int) (ver:Nat),aQ σ [(0,aw ay x),(1,aw ay y),(5, .own 15 ver 0 (x.length+y.length)),(6,ae i),(7,ae c),(8,ae k),(17,ae x.length),(18,ae i)] fun rows clk =>
   rows 15=some ⟨ver,3,1,emap ay z⟩∧m=y.length+1-k∧(k<=y.length∧(∀j,i+y.length<=j->nth z j=0)∨k=y.length+1∧c=0)∧z.length=x.length+y.length∧cV 10000 z∧(∀j,i+1+y.length<=j->nth z j=0)∧0<=c∧c<=9999 ∧
   V 10000 z+10000^(i+k)*c=V 10000 (x.take i)*V 10000 y+10000^i*nth x i*V 10000 (y.take k)) (y.length+1) ?_ ?_
  ·exact⟨_, .refl,0,0,z,ver,_,_,rfl,au hr,aa, .inl ⟨aa,lT⟩,hz,lz,fun j hj=>lT j aa,aa,aa,by simp [V,hV]⟩
  clear hV lT lz hz hr z ver rows clk;rintro m _ ⟨k,c,z,ver,rows,clk,rfl,hr,hm,hky,hz,lz,lT,pY,qQ,hV⟩;apply W.seq
  refine W.dx (fun σ=>∃(t:Bool),σ=⟨fa [(0,aw ay x),(1,aw ay y),(5, .own 15 ver 0 (x.length+y.length)),(6,ae i),(7,ae c),(8,ae k),(17,ae x.length),(18,ae i),(28, .bool t)],rows,clk⟩∧(t=true↔k<y.length∨0<c)) (fun K hK=>?_) ?_
  ·simp
   by_cases h2:k<y.length
   ·apply dB h2;exact hK _ _ (ak _ [0,1,5,6,7,8,17,18,28]) ⟨_,rfl,by simp [h2]⟩
   ·apply dB h2;exact hK _ _ (ak _ [0,1,5,6,7,8,17,18,28]) ⟨_,rfl,by simp [h2]⟩
  rintro _ ⟨t,rfl,ht⟩
  refine W.cond ⟨_,rfl,fun h2=>?_,fun h2=>?_⟩
  ·have ht:=ht.1 h2
   obtain⟨wG,XK⟩:k<=y.length∧(∀j,i+y.length<=j->nth z j=0):=by
    rcases hky with h3 | h3
    ·exact h3
    ·omega
   have hzk:=lz.nth (i:=i+k) aa;have e0:((i:Int)+(k:Int)).toNat=i+k:=aa;apply (ft);apply W.sr;simp (disch:=omega) [gw,hr,e0];apply c9 [0,1,5,6,8,9,17,18]
   refine W.fR (fun σ=>∃(s:Int),σ=⟨fa [(0,aw ay x),(1,aw ay y),(5, .own 15 ver 0 (x.length+y.length)),(6,ae i),(8,ae k),(9,ae s),(17,ae x.length),(18,ae i)],rows,clk⟩∧0<=s∧s<=99999999∧(k=y.length->s=c) ∧
    V 10000 z-10000^(i+k)*nth z (i+k)+10000^(i+k)*s=V 10000 (x.take i)*V 10000 y+10000^i*nth x i*V 10000 (y.take (k+1))) ?_ ?_
   ·
    apply fi [0,1,5,6,8,9,17,18,42]<;>intro h
    ·simp at h;have hyk:=ly.nth h;have hp:=afZ hxi hyk;refine W.Dd (fun K hK=>?_);simp (disch:=omega) [gw];refine hK _ ⟨_,ak _ [0,1,5,6,8,9,17,18],_,rfl,aa,aa,aa,?_⟩;rw [aT h,Int.pow_add];rw [Int.pow_add]at hV;grind
    ·simp at h;have hkl:k=y.length:=aa;have h0:=XK (i+k) aa;apply W.skip;refine⟨_,ak _ [0,1,5,6,8,9,17,18],_,rfl,aa,aa,aa,?_⟩;rw [aZ (l:=y) aa];rw [aZ (l:=y) aa]at hV;rw [h0];grind
   rintro _ ⟨s,rfl,Nb,ni,hsc,hsV⟩;apply W.sr;simp (disch:=omega) [gw,hr,e0];apply c9 [0,1,5,6,8,9,17,18];refine bB fun K hK=>?_;refine W.lw [0,1,5,6,7,8,17,18] hK ?_;clear hK K;simp;refine bB fun K hK=>?_;have KH:=Dg (b:=10000) (l:=z) (i:=i+k) (x:=s%10000) aa
   refine hK _ ⟨y.length+1-(k+1),_,ak _ [0,1,5,6,7,8,17,18],aa,k+1,s/10000,z.set (i+k) (s%10000),ver,_,_,rfl,av,rfl,?_,au hz,lz.set aa,fun j hj=>?_,aa,aa,?_⟩
   ·rcases Nat.lt_or_ge k y.length with h3 | h3
    ·left;refine⟨aa,fun j hj=>?_⟩;rw [gG aa];exact XK j hj
    ·right;have:=hsc aa;exact⟨aa,aa⟩
   ·rw [gG aa];exact lT j hj
   ·rw [KH,<-hsV,show i+(k+1)=(i+k)+1 by omega,Int.pow_succ];have:=Int.emod_add_mul_ediv s 10000;grind
  ·have ht:¬(k<y.length∨0<c):=fun h3=>by simp [ht.2 h3]at h2
   have hc:c=0:=aa;subst hc;apply (ey);refine bB fun K hK=>?_;refine hK _ ⟨x.length-(i+1),_,ak _ [0,1,5,17,18],aa,i+1,z,ver,_,_,rfl,hr,aa,aa,hz,lz,lT,?_⟩;rw [aT h];rw [aZ (l:=y) aa]at hV;grind
 ·simp at h;have iK:i=x.length:=aa;subst iK;have n6:List.take (x.length+y.length) z=z:=take_of_length_le aa;apply (iq);apply fN hr n6;refine aU (oH z aa) ?_;apply bM [4];apply W.ret;rw [aZ (Nat.le_refl _)]at hV;rw [<-hV,<-tY lz];simp
theorem Uz(x y:Int)(hx:0<=x)(hy:0<=y)(zx:Z x)(zy:Z y):aj 131 [Dn x,Dn y] (Dn (x*y)):=by have:=Qq (aI DD x.toNat) (aI DD y.toNat) (by have:=jW hx;omega) (by have:=jW hy;omega) (lH _) (lH _);rwa [vD hx,vD hy]at this
theorem HC(h:Z x):Z (x.natAbs:Int):=by simpa [Z,sz]using h
theorem mD(n:Nat)(neg:Bool):aj 68 [aw ay (aI DD n), .bool neg] (RI (if neg=true then -(n:Int)else n)):=oI n aa neg
theorem Qr(x y:Int):(if decide (x<0) != decide (y<0)then -((x.natAbs*y.natAbs:Nat):Int)else((x.natAbs*y.natAbs:Nat):Int))=x*y:=by
 rw [Int.natCast_mul]
 by_cases h1:x<0<;>by_cases h2:y<0
 ·simp only [h1,h2,show(x.natAbs:Int) = -x by omega,show(y.natAbs:Int) = -y by omega];simp<;>grind
 ·simp only [h1,h2,show(x.natAbs:Int) = -x by omega,show(y.natAbs:Int)=y by omega];simp<;>grind
 ·simp only [h1,h2,show(x.natAbs:Int)=x by omega,show(y.natAbs:Int) = -y by omega];simp<;>grind
 ·simp only [h1,h2,show(x.natAbs:Int)=x by omega,show(y.natAbs:Int)=y by omega];simp<;>grind
theorem eY(x y:Int)(zx:Z x)(zy:Z y):aj 63 [RI x,RI y] (RI (x*y)):=by
 apply bL [(0,RI x),(1,RI y)] Tryz.func63;apply aR [2,3,4];refine W.TZ fun K hK=>?_;apply (cp);refine aU (Uz x.natAbs y.natAbs aa aa (HC zx) (HC zy)) ?_;have e:((x.natAbs:Int)*y.natAbs).toNat=x.natAbs*y.natAbs:=by rw [<-Int.natCast_mul];exact Int.toNat_natCast _
 simp only [Dn,e];obtain⟨m,hm⟩:∃m,m=x.natAbs*y.natAbs:=⟨_,rfl⟩
 rw [<-hm];apply jK (mD m (decide (x<0) != decide (y<0)));have e2:=Qr x y;rw [<-hm]at e2;rw [e2];apply (cp);refine W.lw [4] hK ?_;clear hK K;simp;exact gK
theorem AY(x y:Int)(zx:Z x)(zy:Z y):aj 154 [RI x,RI y] (RI (x+y)):=by
 apply bL [(0,RI x),(1,RI y)] Tryz.func154;apply aR [2,3,4]
 apply cS [2,3,4,9]<;>intro h
 ·simp at h;refine W.TZ fun K hK=>?_;apply (cp);refine aU (Uy x.natAbs y.natAbs aa aa (HC zx) (HC zy)) ?_;have e:((x.natAbs:Int)+y.natAbs).toNat=x.natAbs+y.natAbs:=aa;simp only [Dn,e];obtain⟨m,hm⟩:∃m,m=x.natAbs+y.natAbs:=⟨_,rfl⟩
  rw [<-hm];apply (cp);refine aU (mD m _) ?_;have e2:(if decide (x<0)=true then -(m:Int)else m)=x+y:=by by_cases h1:x<0<;>simp [h1]<;>omega
  rw [e2];apply (cp);refine W.lw [4] hK ?_;clear hK K;simp;exact gK
 ·simp at h;apply (jm);apply (oC);refine aU (Hz x.natAbs y.natAbs aa aa (HC zx) (HC zy)) ?_;apply bM [2,3,4,23]
  refine W.cond ⟨_,rfl,fun h2=>?_,fun h2=>?_⟩
  ·have h2:(y.natAbs:Int)<=x.natAbs:=rm.1 (of_decide_eq_true h2);refine W.TZ fun K hK=>?_;apply (cp);refine aU (AX x.natAbs y.natAbs aa h2 (HC zx)) ?_;have e:((x.natAbs:Int)-y.natAbs).toNat=x.natAbs-y.natAbs:=aa;simp only [Dn,e];obtain⟨m,hm⟩:∃m,m=x.natAbs-y.natAbs:=⟨_,rfl⟩
   rw [<-hm];apply (cp);refine aU (mD m _) ?_;have e2:(if decide (x<0)=true then -(m:Int)else m)=x+y:=(by by_cases h1:x<0<;>simp [h1]<;>omega);rw [e2];apply (cp);refine W.lw [4] hK ?_;clear hK K;simp;exact gK
  ·have h2:(x.natAbs:Int)<y.natAbs:=(by have h3:=of_decide_eq_false h2;rw [rm]at h3;omega);apply W.skip;refine W.TZ fun K hK=>?_;apply (cp);refine aU (AX y.natAbs x.natAbs aa aa (HC zy)) ?_;have e:((y.natAbs:Int)-x.natAbs).toNat=y.natAbs-x.natAbs:=aa;simp only [Dn,e];obtain⟨m,hm⟩:∃m,m=y.natAbs-x.natAbs:=⟨_,rfl⟩
   rw [<-hm];apply (cp);refine aU (mD m _) ?_;have e2:(if decide (y<0)=true then -(m:Int)else m)=x+y:=(by by_cases h1:y<0<;>simp [h1]<;>omega);rw [e2];apply (cp);refine W.lw [4] hK ?_;clear hK K;simp;exact gK
theorem arQ(h:Z x):Z (-x):=by simpa [Z,n4]using h
theorem HD(x y:Int)(zx:Z x)(zy:Z y):aj 130 [RI x,RI y] (RI (x-y)):=by
 have hn:=rF y;have zn:=arQ zy;obtain⟨m,hm⟩:∃m,m = -y:=⟨_,rfl⟩
 rw [<-hm]at hn zn;have e:x-y=x+m:=aa;rw [e];apply bL [(0,RI x),(1,RI y)] Tryz.func130;apply gr [2,3,4];apply eO hn (AY x m zx zn);exact eK [4]
theorem Qt(x y:Int):(x-y).sign=dc x y:=by
 rcases Int.lt_trichotomy x y with h | h | h
 ·rw [kK h,Int.sign_eq_neg_one_of_neg aa]
 ·subst h;simp [ve]
 ·rw [kN h,Int.sign_eq_one_of_pos aa]
theorem UA(x y:Int)(zx:Z x)(zy:Z y):aj 62 [RI x,RI y] (ae (dc x y)):=by apply bL [(0,RI x),(1,RI y)] Tryz.func62;apply aR [2,3];apply kh (HD x y zx zy) (Ds (x-y));rw [Qt];exact eK [4]
abbrev Y(x:Int):Prop:=sz 2 x<549755813888
theorem Y.z(h:Y x):Z x:=by simp only [Y,Z]at *;omega
theorem AZ(h:Y y)(pR:x.natAbs<=y.natAbs):Y x:=Nat.lt_of_le_of_lt (cY ar pR) h
theorem xX:dc x y<=0↔x<=y:=by simp only [dc];split<;>(try split)<;>omega
@[simp] theorem ai8:[PV.int .i64 x]::emap ay l=emap ay (x::l):=by simp [emap]
@[simp] theorem Zm:(∀e∈emap ay l,∀p∈e,aF p=true)=True:=by simp [emap]
theorem Qu(h:cV 10000 l)(k:Nat)(hk:k<=l.length):V 10000 (l.drop k)<=V 10000 l:=by rw [jU l k hk];have h1:=bH ar (h.take k);have h2:=bH ar (h.drop k);have h3:1<=(10000:Int)^k:=Int.pow_pos ar;have h4:=Int.mul_le_mul_of_nonneg_right h3 h2;omega
theorem HE(x y:Int)(hx:0<=x)(hy:0<y)(zx:Y x)(zy:Y y):aj 209 [Dn x,Dn y] (.cW [Dn (x/y),Dn (x%y)]):=by
 have Zn:(aI DD x.toNat).length<549755813888:=Nat.lt_of_le_of_lt (jW hx) zx;have la:=lH x.toNat;have hVa:=vD hx;apply bL [(0,Dn x),(1,Dn y)] Tryz.func209;simp only [Dn];generalize ha:aI DD x.toNat=a at *;apply aR [0,1];apply eQ [0,1,6] [0,1,6,7];refine W.Kw 7 (Dn 0) av rfl fun K hK=>?_;refine W.lw [0,1,6,7] hK ?_;clear hK K;simp;apply dU [0,1,6,7,8]
 refine W.aO (fun k σ=>∃(r:Int) (z:List Int) (ver:Nat),aQ σ [(0,aw ay a),(1,Dn y),(6, .own 14 ver 0 a.length),(7,Dn r),(8,ae ((k:Int)-1))] fun rows clk =>
  rows 14=some ⟨ver,3,1,emap ay z⟩∧k<=a.length∧z.length=a.length∧cV 10000 z∧0<=r∧r<y∧V 10000 (a.drop k)=y*V 10000 (z.drop k)+r) a.length ?_ ?_
 ·exact⟨_,Gh.fr [(0,aw ay a),(1,Dn y),(6, .own 14 0 0 a.length),(7,Dn 0),(8,ae ((a.length:Int)-1))] av,0,replicate a.length 0,_,_,_,rfl,av,aa,av,cV.rep ar _,aa,hy,by simp [V]⟩
 rintro k _ ⟨r,z,ver,rows,clk,rfl,hr,hk,hz,lz,oq,tB,hV⟩
 apply cS [0,1,6,7,8,19]<;>intro h
 ·simp at h;obtain⟨j,rfl⟩:∃j,k=j+1:=⟨k-1,aa⟩
  clear h;have hxj:=la.nth (i:=j) aa;have hVz:=bH ar (lz.drop (j+1));have hyV:=Int.mul_nonneg (Int.le_of_lt hy) hVz;have hR:V 10000 (a.drop j)=y*(10000*V 10000 (z.drop (j+1)))+(nth a j+10000*r):=by rw [fu (l:=a) (i:=j) aa];simp only [V];rw [hV];grind
  have hRx:nth a j+10000*r<=x:=by have h1:=Qu la j aa;have h2:0<=y*(10000*V 10000 (z.drop (j+1))):=Int.mul_nonneg (Int.le_of_lt hy) aa;omega
  have KB:(aI DD r.toNat).length<549755813888:=Nat.lt_of_le_of_lt (jW oq) (AZ zy aa);have nj:aw ay (aK (nth a j::aI DD r.toNat))=Dn (nth a j+10000*r):=by rw [tY (cV.cons.2 ⟨hxj,lH _⟩)];simp only [V,vD oq]
  apply (ft);apply (oC);refine aU (oH (nth a j::aI DD r.toNat) (by simp;omega)) ?_;rw [nj];have Ap:0<=nth a j+10000*r:=aa;have hR1:nth a j+10000*r<y*10000:=aa;have zR:Y (nth a j+10000*r):=AZ zx aa;generalize nth a j+10000*r=R at *;apply bM [0,1,6,7,8];apply aR [0,1,6,7,8,9,10];apply (iR)
  refine W.aO (fun m σ=>∃(lo hi:Int),σ=⟨fa [(0,aw ay a),(1,Dn y),(6, .own 14 ver 0 a.length),(7,Dn R),(8,ae (j:Int)),(9,ae lo),(10,ae hi)],rows,clk⟩ ∧
   m=(hi-lo).toNat∧0<=lo∧lo<=hi∧hi<=9999∧y*lo<=R∧R<y*(hi+1)) 9999 ?_ ?_
  ·exact⟨_,Gh.fr [(0,aw ay a),(1,Dn y),(6, .own 14 ver 0 a.length),(7,Dn R),(8,ae (j:Int)),(9,ae 0),(10,ae 9999)] av,0,9999,rfl,ar,aa,aa,aa,aa,aa⟩
  rintro m _ ⟨lo,hi,rfl,hm,pP,So,CU,h1,h2⟩
  apply cS [0,1,6,7,8,9,10,32]<;>intro h
  ·simp at h;apply (qj);apply aR [0,1,6,7,8,9,10,11];have Gp:lo<(lo+hi+1)/2:=aa;have hm2:(lo+hi+1)/2<=hi:=aa;generalize (lo+hi+1)/2=A3 at *;have hp:0<=y*A3:=Int.mul_nonneg aa aa;have zp:Z (y*A3):=(by have h3:sz 2 A3<=14:=dp ar (by simp;omega);have h4:=ct (b:=2) ar (Nat.le_refl (sz 2 y)) h3;simp only [Z,Y]at *;omega);have hma:=lg y A3 0 aa zy.z aa aa ar ar;rw [Int.add_zero]at hma;apply kh hma (Hz (y*A3) R hp Ap zp zR.z)
   apply kt [0,1,6,7,8,9,10,11,43]<;>intro h
   ·have h:=xX.1 (of_decide_eq_true h);refine bB fun K hK=>?_;exact hK _ ⟨(hi-A3).toNat,_,ak _ [0,1,6,7,8,9,10],aa,A3,hi,rfl,rfl,aa,aa,aa,h,h2⟩
   ·have h:=of_decide_eq_false h;rw [xX]at h;refine bB fun K hK=>?_;refine hK _ ⟨(A3-1-lo).toNat,_,ak _ [0,1,6,7,8,9,10],aa,lo,A3-1,rfl,rfl,aa,aa,aa,h1,?_⟩;rw [show A3-1+1=A3 by omega];omega
  ·simp at h;have arR:lo=hi:=aa;subst arR;have hp:0<=y*lo:=Int.mul_nonneg aa aa;have zp:Y (y*lo):=AZ zR aa;have hma:=lg y lo 0 aa zy.z aa aa ar ar;rw [Int.add_zero]at hma;apply (iq);apply u6 hr [0,1,6,7,8,9];refine AE hma fun K hK=>?_;apply my (AX R (y*lo) hp h1 zR.z);refine W.lw [0,1,6,7,8] hK ?_;clear hK K;simp;refine bB fun K hK=>?_;refine hK _ ⟨j,_,ak _ [0,1,6,7,8],aa,R-y*lo,z.set j lo,ver,_,_,rfl,av,aa,au hz,lz.set aa,aa,by rw [Int.mul_add]at h2;omega,?_⟩;rw [hR,fu (l:=z.set j lo) (i:=j) (by simp;omega),fe aa,drop_set_of_lt aa];simp only [V];grind
 ·simp at h;have wG:k=0:=aa;subst wG;simp only [drop_zero]at hV;have ez:z.take a.length=z:=bG hz;have hzn:=bH ar lz;rw [hVa]at hV;have e1:x/y=V 10000 z:=by rw [hV,Int.mul_add_ediv_left _ _ aa,Int.ediv_eq_zero_of_lt oq tB];simp
  have e2:x%y=r:=by rw [hV,Int.mul_add_emod_self_left,Int.emod_eq_of_lt oq tB]
  apply (iq);simp (disch:=omega) [gw,hr,ez];refine aU (oH z aa) ?_;apply bM [4,5];apply W.ret;have h4:=tY lz;simp only [Dn]at h4;rw [e1,e2,<-h4];simp [go]
theorem A4(a b:Int)(za:Y a)(zb:Y b):aj 126 [RI a,RI b] (RI (Int.gcd a b)):=by
 apply bL [(0,RI a),(1,RI b)] Tryz.func126;apply gr [2,3,4];apply bM [4,5,6];apply (iR)
 refine W.aO (fun k σ=>∃(x:Nat),aQ σ [(4, .ptr 4 2 0 0),(5,aw ay (aI DD x)),(6,aw ay (aI DD k))] fun rows clk=>rows 4=some ⟨2,29,2,[[.nil, .bool false]]⟩∧Nat.gcd x k=Int.gcd a b∧Y (x:Int)∧Y (k:Int)) b.natAbs ?_ ?_
 ·exact⟨_, .refl,a.natAbs,_,_,rfl,av,rfl,by simpa [Y,sz]using za,by simpa [Y,sz]using zb⟩
 rintro k _ ⟨x,rows,clk,rfl,cN,hg,zx,zk⟩;have e0:(aI DD k).length=0↔k=0:=by rw [length_eq_zero_iff,eT Jp]
 apply cS [4,5,6,15]<;>intro h
 ·have wG:k≠0:=by intro h0;have h1:=e0.2 h0;simp at h;omega
  have hdiv:=HE (x:Int) (k:Int) aa aa zx zk;have em:(((x:Int)%k).toNat)=x%k:=by rw [<-Int.natCast_emod];exact Int.toNat_natCast _
  have ed:(((x:Int)/k).toNat)=x/k:=by rw [<-Int.natCast_ediv];exact Int.toNat_natCast _
  simp only [Dn,em,ed,Int.toNat_natCast]at hdiv;have bZ:=Nat.mod_lt x (show k>0 by omega);have nW:Nat.gcd k (x%k)=Int.gcd a b:=by rw [<-hg,Nat.gcd_comm x k,Nat.gcd_rec k x,Nat.gcd_comm]
  have zm:Y ((x%k:Nat):Int):=AZ zk (by simp only [Int.natAbs_natCast];omega);apply (qj);apply lE hdiv;generalize x%k=y at *;apply bM [4,6,8];refine bB fun K hK=>?_;exact hK _ ⟨y,_,ak _ [4,5,6],bZ,k,_,_,rfl,by simp [cN],nW,zk,zm⟩
 ·have wG:k=0:=by rw [<-e0];simp at h;simp [h]
  subst wG;rw [Nat.gcd_zero_right]at hg;subst hg;apply (iq);exact EU cN [4]
theorem KQ(a b:Int):(if decide (a<0) != decide (b<0)then -((a.natAbs/b.natAbs:Nat):Int)else((a.natAbs/b.natAbs:Nat):Int))=a.tdiv b:=by
 have h:∀x y:Nat,((x/y:Nat):Int)=(x:Int).tdiv y:=fun x y=>by rw [Int.natCast_ediv,Int.tdiv_eq_ediv_of_nonneg aa]
 rw [h]
 by_cases h1:a<0<;>by_cases h2:b<0
 ·simp only [h1,h2,show(a.natAbs:Int) = -a by omega,show(b.natAbs:Int) = -b by omega];simp
 ·simp only [h1,h2,show(a.natAbs:Int) = -a by omega,show(b.natAbs:Int)=b by omega];simp
 ·simp only [h1,h2,show(a.natAbs:Int)=a by omega,show(b.natAbs:Int) = -b by omega];simp
 ·simp only [h1,h2,show(a.natAbs:Int)=a by omega,show(b.natAbs:Int)=b by omega];simp
theorem vE(a b:Int)(hb:b≠0)(za:Y a)(zb:Y b):aj 127 [RI a,RI b] (RI (a.tdiv b)):=by
 have hdiv:=HE (a.natAbs:Int) (b.natAbs:Int) aa aa (by simpa [Y,sz]using za) (by simpa [Y,sz]using zb);have em:(((a.natAbs:Int)%b.natAbs).toNat)=a.natAbs%b.natAbs:=by rw [<-Int.natCast_emod];exact Int.toNat_natCast _
 have ed:(((a.natAbs:Int)/b.natAbs).toNat)=a.natAbs/b.natAbs:=by rw [<-Int.natCast_ediv];exact Int.toNat_natCast _
 have hs:=KQ a b;apply bL [(0,RI a),(1,RI b)] Tryz.func127;apply aR [2,3,4];simp only [Dn,em,ed,Int.toNat_natCast]at hdiv;generalize a.natAbs/b.natAbs=q,a.natAbs%b.natAbs=r at *;apply gT hdiv [2,3,4,5];apply lE (mD q (decide (a<0) != decide (b<0)));rw [hs];exact eK [4]
def re(q:Rat):List PV:=[aw ay (aI DD q.num.natAbs), .bool (decide (q.num<0)),aw ay (aI DD q.den), .bool false]
@[simp] theorem arS:re q = [aw ay (aI DD q.num.natAbs), .bool (decide (q.num<0)),aw ay (aI DD q.den), .bool false]:=rfl
abbrev RR(q:Rat):PV:=.ag (re q)
def dw(n d:Int):Rat:=if d=0 then n else Rat.divInt n d
theorem kO(n:Int):dw n 1=n:=by rw [dw,if_neg ar,Rat.divInt_eq_div];grind
structure ZR(k:Nat)(q:Rat):Prop where
 n:sz 2 q.num<=k
 d:sz 2 (q.den:Int)<=k
abbrev YY:Nat:=137438953472
theorem o9(n d:Int)(hd:d≠0):(dw n d).num=(if d<0 then -n else n)/(Int.gcd (if d<0 then -n else n) (if d<0 then -d else d)):=by
 rw [dw,if_neg hd,Rat.num_divInt]
 by_cases h:d<0
 ·simp only [h,if_true];rw [Int.sign_eq_neg_one_of_neg h,Int.gcd_comm d n,Int.neg_gcd,Int.gcd_neg];simp
 ·simp only [h,if_false];rw [Int.sign_eq_one_of_pos aa,Int.gcd_comm d n];simp
theorem pg(n d:Int)(hd:d≠0):((dw n d).den:Int)=(if d<0 then -d else d)/(Int.gcd (if d<0 then -n else n) (if d<0 then -d else d)):=by
 rw [dw,if_neg hd,Rat.den_divInt,if_neg hd]
 by_cases h:d<0
 ·simp only [h,if_true];rw [Int.gcd_comm d n,Int.neg_gcd,Int.gcd_neg];rw [Int.natCast_ediv];congr 1;omega
 ·simp only [h,if_false];rw [Int.gcd_comm d n,Int.natCast_ediv];congr 1;omega
theorem A5{n d:Int}(h1:q.num=n)(h2:(q.den:Int)=d):RR q = .ag [aw ay (aI DD n.natAbs), .bool (decide (n<0)),aw ay (aI DD d.natAbs), .bool (decide (d<0))]:=by subst h1;subst h2;have:¬((q.den:Int)<0):=aa;simp [this]
theorem jX(n d:Int)(zn:Y n)(zd:Y d):aj 60 [RI n,RI d] (RR (dw n d)):=by
 refine jx (E:=env) (fun id=>if id=4 then 2 else 0) [(0,RI n),(1,RI d)] Tryz.func60 rfl bX bX (show 2<=39 by decide) av ?_;apply aR [2,3,4]
 refine W.fR (fun σ=>∃(d1:Int),aQ σ [(2, .ptr 2 0 0 0),(3, .ptr 3 1 0 0),(4, .ptr 4 2 0 0)] fun rows clk=>rows 2=some ⟨0,29,2,[[aw ay (aI DD n.natAbs), .bool (decide (n<0))]]⟩ ∧
  rows 3=some ⟨1,29,2,[[aw ay (aI DD d1.natAbs), .bool (decide (d1<0))]]⟩∧rows 4=some ⟨2,31,4,[[.nil, .bool false, .nil, .bool false]]⟩∧d1≠0∧dw n d=dw n d1∧Y d1) ?_ ?_
 ·
  apply fH (Dr d) [2,3,4,7]<;>intro h
  ·have h:=of_decide_eq_true h;subst h;refine bB fun K hK=>?_;refine aU (nE 1 ar ar) ?_;apply (cp);refine hK _ ⟨_,ak _ [2,3,4],1,_,_,rfl,av,av,av,ar,by rw [kO];simp [dw],?_⟩;have:sz 2 1<=1:=dp ar ar;simp only [Y];omega
  ·have h:=of_decide_eq_false h;apply W.skip;exact⟨_,ak _ [2,3,4],d,_,_,rfl,av,av,av,h,rfl,zd⟩
 rintro _ ⟨d1,rows,clk,rfl,bE,bA,cN,E5,hq,zd1⟩;rw [hq];have q1:=o9 n d1 E5;have q2:=pg n d1 E5;generalize dw n d1=q at *;clear hq zd d
 refine W.fR (fun σ=>∃(n2 d2:Int),aQ σ [(2, .ptr 2 0 0 0),(3, .ptr 3 1 0 0),(4, .ptr 4 2 0 0)] fun rows clk=>rows 2=some ⟨0,29,2,[[aw ay (aI DD n2.natAbs), .bool (decide (n2<0))]]⟩ ∧
  rows 3=some ⟨1,29,2,[[aw ay (aI DD d2.natAbs), .bool (decide (d2<0))]]⟩∧rows 4=some ⟨2,31,4,[[.nil, .bool false, .nil, .bool false]]⟩∧0<d2∧q.num=n2/Int.gcd n2 d2∧(q.den:Int)=d2/Int.gcd n2 d2∧Y n2∧Y d2) ?_ ?_
 ·
  apply fj bA [2,3,4,10]
  apply (dI)<;>intro h
  ·have h:=of_decide_eq_true h;simp only [h,if_true]at q1 q2;have hn:=rF n;have hd:=rF d1;have zn2:Y (-n):=(by simpa [Y,n4]using zn);have zd2:Y (-d1):=(by simpa [Y,n4]using zd1);obtain⟨n2,UB⟩:∃m,m = -n:=⟨_,rfl⟩
   obtain⟨d2,GU⟩:∃m,m = -d1:=⟨_,rfl⟩
   rw [<-UB]at hn zn2 q1 q2;rw [<-GU]at hd zd2 q1 q2;refine W.Dd fun K hK=>?_;rw [if_pos rfl,fc];apply iI bE hn;apply iS bE bA hd;apply fN bE bA;exact hK _ ⟨_,ak _ [2,3,4],n2,d2,_,_,rfl,av,av,by simp [cN],aa,q1,q2,zn2,zd2⟩
  ·have h:=of_decide_eq_false h;simp only [h,if_false]at q1 q2;apply W.skip;exact⟨_,ak _ [2,3,4],n,d1,_,_,rfl,bE,bA,cN,aa,q1,q2,zn,zd1⟩
 clear bE bA cN q1 q2;rintro _ ⟨n2,d2,rows,clk,rfl,bE,bA,cN,h0,q1,q2,zn2,zd2⟩;apply W.seq
 refine W.dx (fun σ=>∃(b:Bool),σ=⟨fa [(2, .ptr 2 0 0 0),(3, .ptr 3 1 0 0),(4, .ptr 4 2 0 0),(25, .bool b)],rows,clk⟩∧(b=true↔(aI DD d2.natAbs).length=1∧nth (aI DD d2.natAbs) 0=1)) (fun K hK=>?_) ?_
 ·by_cases h1:(aI DD d2.natAbs).length=1
  ·have h2:((aI DD d2.natAbs).length:Int)=1:=(by omega);apply qk bA h1 h2;exact hK _ _ (ak _ [2,3,4,25]) ⟨_,rfl,by simp [h1]⟩
  ·have h2:¬((aI DD d2.natAbs).length:Int)=1:=(by omega);have h3:(((aI DD d2.natAbs).length:Int)==1)=false:=au h2;apply fN bA h3;exact hK _ _ (ak _ [2,3,4,25]) ⟨_,rfl,by simp [h1,h2]⟩
 rintro _ ⟨b,rfl,hb⟩
 apply (dI)<;>intro h
 ·have hb:=hb.1 h
  have GU:d2=1:=by
   have hv:=amm d2;obtain⟨h1,h2⟩:=hb
   match hl:aI DD d2.natAbs,h1 with
   | [x],_ =>
    rw [hl]at h2 hv;simp [nth,V]at h2 hv;omega
  subst GU;rw [Int.gcd_one]at q1 q2;rw [A5 (n:=n2) (d:=1) (au q1) (au q2)];apply W.sr;apply qk bE bA cN;exact qi [4]
 ·apply W.skip;have hgp:0<Int.gcd n2 d2:=Int.gcd_pos_of_ne_zero_right _ aa;have e1:n2.tdiv (Int.gcd n2 d2)=q.num:=by rw [q1];exact Int.tdiv_eq_ediv_of_dvd (Int.gcd_dvd_left ..)
  have e2:d2.tdiv (Int.gcd n2 d2)=q.den:=by rw [q2];exact Int.tdiv_eq_ediv_of_dvd (Int.gcd_dvd_right ..)
  have zg:Y (Int.gcd n2 d2:Int):=AZ zd2 (by have:=Int.le_of_dvd h0 (Int.gcd_dvd_right n2 d2);omega);have Ux:=vE n2 (Int.gcd n2 d2) aa zn2 zg;have XL:=vE d2 (Int.gcd n2 d2) aa zd2 zg;rw [e1]at Ux;rw [e2]at XL;have hg:=A4 n2 d2 zn2 zd2;obtain⟨g,hgd⟩:∃g:Int,g=Int.gcd n2 d2:=⟨_,rfl⟩
  rw [<-hgd]at hg Ux XL;have Qv:¬((q.den:Int)<0):=aa;apply lG bE bA hg;apply AA bE bA [2,3,4,5];apply W.sd;apply iS bE bA Ux;apply iS bE bA XL;apply qk bE bA cN;apply c9 [4];apply W.ret;simp [go,Qv]
theorem lY(n d:Int)(h1 : -9223372036854775808<=n∧n<9223372036854775808)(h2 : -9223372036854775808<=d∧d<9223372036854775808):aj 12 [ae n,ae d] (RR (dw n d)):=by
 have z:∀x:Int, -9223372036854775808<=x∧x<9223372036854775808->Y x:=fun x hx=>by have:sz 2 x<=64:=dp ar aa;simp only [Y];omega
 have hm:=jX n d (z n h1) (z d h2);generalize dw n d=q at *;apply bL [(0,ae n),(1,ae d)] Tryz.func12;apply aR [0,1,4];apply lE (nE n h1.1 h1.2);apply eO (nE d h2.1 h2.2) hm;exact eK [4]
theorem A6(q:Rat):aj 108 [RR q] (RR (-q)):=by have hn:=rF q.num;have e:RR (-q) = .ag [aw ay (aI DD (-q.num).natAbs), .bool (decide (-q.num<0)),aw ay (aI DD q.den), .bool false]:=rfl;rw [e];generalize -q.num=m at *;apply bL [(0,RR q)] Tryz.func108;apply gr [1,2];apply jK hn;exact eK [2]
theorem Zo(p q:Rat):dw (p.num*q.den+q.num*p.den) ((p.den:Int)*q.den)=p+q:=by
 have h:((p.den:Int)*q.den)≠0:=by have:=p.den_nz;have:=q.den_nz;simp [Int.mul_eq_zero];omega
 rw [dw,if_neg h,Rat.add_def',<-Int.natCast_mul,Rat.divInt_ofNat]
theorem Zp(p q:Rat):dw (p.num*q.num) ((p.den:Int)*q.den)=p*q:=by
 have h:((p.den:Int)*q.den)≠0:=by have:=p.den_nz;have:=q.den_nz;simp [Int.mul_eq_zero];omega
 rw [dw,if_neg h,Rat.mul_def',<-Int.natCast_mul,Rat.divInt_ofNat]
theorem Zq(p q:Rat)(hq:q≠0):dw (p.num*q.den) ((p.den:Int)*q.num)=p/q:=by
 have hn:q.num≠0:=fun h=>hq (Rat.num_eq_zero.1 h);have h:((p.den:Int)*q.num)≠0:=by have:=p.den_nz;exact Int.mul_ne_zero aa hn
 rw [dw,if_neg h,Rat.div_def,Rat.inv_def,<-Rat.divInt_mul_divInt,Rat.num_divInt_den]
theorem vF(p q:Rat)(hp:ZR YY p)(hq:ZR YY q):aj 225 [RR p,RR q] (RR (p+q)):=by
 have s1:=ct (b:=2) ar hp.n hq.d;have s2:=ct (b:=2) ar hq.n hp.d;have s3:=ct (b:=2) ar hp.d hq.d;have s4:=mA (b:=2) ar s1 s2;have zz:∀ {x:Int},sz 2 x<=YY->Z x:=fun h=>by simp only [Z,YY]at *;omega
 have m1:=eY p.num q.den (zz hp.n) (zz hq.d);have m2:=eY q.num p.den (zz hq.n) (zz hp.d);have m3:=eY p.den q.den (zz hp.d) (zz hq.d);have m4:=AY (p.num*q.den) (q.num*p.den) (by simp only [Z,YY]at *;omega) (by simp only [Z,YY]at *;omega);have m5:=jX (p.num*q.den+q.num*p.den) ((p.den:Int)*q.den) (by simp only [Y,YY]at *;omega) (by simp only [Y,YY]at *;omega);rw [Zo]at m5;generalize p.num*q.den+q.num*p.den=x5 at *;generalize p.num*q.den=x1,q.num*(p.den:Int)=x2,(p.den:Int)*q.den=x3 at *;generalize hr:p+q=r at *;have d1:RR p = .ag [aw ay (aI DD p.num.natAbs), .bool (decide (p.num<0)),aw ay (aI DD (p.den:Int).natAbs), .bool (decide ((p.den:Int)<0))]:=A5 rfl rfl;have d2:RR q = .ag [aw ay (aI DD q.num.natAbs), .bool (decide (q.num<0)),aw ay (aI DD (q.den:Int).natAbs), .bool (decide ((q.den:Int)<0))]:=A5 rfl rfl;rw [d1,d2];generalize (p.den:Int)=pd,(q.den:Int)=qd,p.num=pn,q.num=qn at *;apply bL [(0, .ag [aw ay (aI DD pn.natAbs), .bool (decide (pn<0)),aw ay (aI DD pd.natAbs), .bool (decide (pd<0))]),(1, .ag [aw ay (aI DD qn.natAbs), .bool (decide (qn<0)),aw ay (aI DD qd.natAbs), .bool (decide (qd<0))])] Tryz.func225;apply gr [2,3,4];apply jK m1;apply eO m2 m4;apply eO m3 m5;exact eK [4]
theorem A7(p q:Rat)(hp:ZR YY p)(hq:ZR YY q):aj 226 [RR p,RR q] (RR (p*q)):=by
 have s1:=ct (b:=2) ar hp.n hq.n;have s2:=ct (b:=2) ar hp.d hq.d;have zz:∀ {x:Int},sz 2 x<=YY->Z x:=fun h=>by simp only [Z,YY]at *;omega
 have m1:=eY p.num q.num (zz hp.n) (zz hq.n);have m2:=eY p.den q.den (zz hp.d) (zz hq.d);have m5:=jX (p.num*q.num) ((p.den:Int)*q.den) (by simp only [Y,YY]at *;omega) (by simp only [Y,YY]at *;omega);rw [Zp]at m5;generalize p.num*(q.num:Int)=x1,(p.den:Int)*q.den=x2 at *;generalize hr:p*q=r at *;have d1:RR p = .ag [aw ay (aI DD p.num.natAbs), .bool (decide (p.num<0)),aw ay (aI DD (p.den:Int).natAbs), .bool (decide ((p.den:Int)<0))]:=A5 rfl rfl;have d2:RR q = .ag [aw ay (aI DD q.num.natAbs), .bool (decide (q.num<0)),aw ay (aI DD (q.den:Int).natAbs), .bool (decide ((q.den:Int)<0))]:=A5 rfl rfl;rw [d1,d2];generalize (p.den:Int)=pd,(q.den:Int)=qd,p.num=pn,q.num=qn at *;apply bL [(0, .ag [aw ay (aI DD pn.natAbs), .bool (decide (pn<0)),aw ay (aI DD pd.natAbs), .bool (decide (pd<0))]),(1, .ag [aw ay (aI DD qn.natAbs), .bool (decide (qn<0)),aw ay (aI DD qd.natAbs), .bool (decide (qd<0))])] Tryz.func226;apply gr [2,3,4];apply jK m1;apply eO m2 m5;exact eK [4]
theorem A8(p q:Rat)(hp:ZR YY p)(hq:ZR YY q)(h0:q≠0):aj 230 [RR p,RR q] (RR (p/q)):=by
 have s1:=ct (b:=2) ar hp.n hq.d;have s2:=ct (b:=2) ar hp.d hq.n;have zz:∀ {x:Int},sz 2 x<=YY->Z x:=fun h=>by simp only [Z,YY]at *;omega
 have m1:=eY p.num q.den (zz hp.n) (zz hq.d);have m2:=eY p.den q.num (zz hp.d) (zz hq.n);have m5:=jX (p.num*q.den) ((p.den:Int)*q.num) (by simp only [Y,YY]at *;omega) (by simp only [Y,YY]at *;omega);rw [Zq p q h0]at m5;generalize p.num*(q.den:Int)=x1,(p.den:Int)*q.num=x2 at *;generalize hr:p/q=r at *;have d1:RR p = .ag [aw ay (aI DD p.num.natAbs), .bool (decide (p.num<0)),aw ay (aI DD (p.den:Int).natAbs), .bool (decide ((p.den:Int)<0))]:=A5 rfl rfl;have d2:RR q = .ag [aw ay (aI DD q.num.natAbs), .bool (decide (q.num<0)),aw ay (aI DD (q.den:Int).natAbs), .bool (decide ((q.den:Int)<0))]:=A5 rfl rfl;rw [d1,d2];generalize (p.den:Int)=pd,(q.den:Int)=qd,p.num=pn,q.num=qn at *;apply bL [(0, .ag [aw ay (aI DD pn.natAbs), .bool (decide (pn<0)),aw ay (aI DD pd.natAbs), .bool (decide (pd<0))]),(1, .ag [aw ay (aI DD qn.natAbs), .bool (decide (qn<0)),aw ay (aI DD qd.natAbs), .bool (decide (qd<0))])] Tryz.func230;apply gr [2,3,4];apply jK m1;apply eO m2 m5;exact eK [4]
theorem HF:aj 224 [] (RR 0):=by have h:=lY 0 1 ar ar;rw [kO]at h;apply bL [] Tryz.func224;apply fk [0] h [0];exact gK
def nk:List Rat->List Rat
 | []=>[]
 | x::l=>if nk l = []∧x=0 then []else x::nk l
theorem Dt:∀l:List Rat,nk (l ++ [0])=nk l
 | []=>by simp [nk]
 | x::l=>by simp [nk,Dt l]
theorem Nk{x:Rat}(h:x≠0):∀l:List Rat,nk (l ++ [x])=l ++ [x]
 | []=>by
  show nk [x] = [x]
  rw [nk,if_neg (fun hh=>h hh.2)];rfl
 | y::l=>by
  have ih:=Nk h l;have hn:¬(l ++ [x] = []∧y=0):=av;show nk (y::(l ++ [x]))=y::(l ++ [x])
  rw [nk,ih,if_neg hn]
abbrev qs(x:List Int):List Rat:=x.map fun(c:Int)=>(c:Rat)
theorem vG:∀x:List Int,nk (qs x)=qs (aK x)
 | []=>rfl
 | a::x=>by
  have ih:=vG x;simp only [qs,map_cons]at ih |-;rw [nk,ih,aK]
  by_cases h:aK x = []∧a=0
  ·simp [h]
  ·rw [if_neg h,if_neg (au h)];simp
@[simp] theorem ajb{l:List Rat}:bC 4 (emap re l)=True:=cE fun _=>rfl
@[simp] theorem af1{v:Nat}{l:List Rat}:da (some ⟨v,e,n,emap re l⟩)=True:=ck fun _=>rfl
abbrev PP(l:List Rat):PV:=aw re l
theorem vH(l:List Rat)(hl:l.length<17592186044416):aj 157 [PP l] (PP (nk l)):=by
 apply bL [(0,PP l)] Tryz.func157;apply eQ [0] [0,3];refine W.seq (W.block ?_)
 refine W.aO (fun k σ=>aQ σ [(0,PP l),(3,ae (k:Int))] fun rows clk=>k<=l.length∧nk l=nk (l.take k)) l.length ?_ ?_
 ·exact⟨_, .refl,_,_,rfl,aa,av⟩
 rintro k _ ⟨rows,clk,rfl,hk,hc⟩;apply W.seq
 refine W.dx (fun σ=>∃(b:Bool),σ=⟨fa [(0,PP l),(3,ae (k:Int)),(16, .bool b)],rows,clk⟩∧(b=true↔0<k∧nth l (k-1)=0)) (fun K hK=>?_) ?_
 ·simp
  by_cases h0:0<k
  ·apply iI h0 (Dr (nth l (k-1)).num);apply dB h0;refine hK _ _ (ak _ [0,3,16]) ⟨_,rfl,?_⟩;simp [h0,Rat.num_eq_zero]
  ·apply dB h0;exact hK _ _ (ak _ [0,3,16]) ⟨_,rfl,by simp [h0]⟩
 rintro _ ⟨b,rfl,hb⟩
 apply (dI)<;>intro h
 ·obtain⟨h0,h1⟩:=hb.1 h;refine W.skip (W.block ?_);refine bB fun K hK=>?_;refine hK _ ⟨k-1,_,Gh.fr [(0,_),(3,ae ((k-1:Nat):Int))] (by simp;omega),aa,_,_,rfl,aa,?_⟩;rw [hc,show k=(k-1)+1 by omega,bt aa,h1,Dt];simp
 ·have h2:nk l=l.take k:=by
   rw [hc]
   by_cases h0:0<k
   ·have h1:nth l (k-1)≠0:=fun h1=>by simp [hb.2 ⟨h0,h1⟩]at h
    rw [show k=(k-1)+1 by omega,bt aa];exact Nk h1 _
   ·have:k=0:=(by omega);subst this;simp [nk]
  apply qZ [2];apply W.ret;simp [h2]
def ri(x:Int):List PV:=[aw ay (aI DD x.natAbs), .bool (decide (x<0)),aw ay (aI DD 1), .bool false]
@[simp] theorem UC:ri x = [aw ay (aI DD x.natAbs), .bool (decide (x<0)),aw ay (aI DD 1), .bool false]:=rfl
theorem fP(x:Int):re (x:Rat)=ri x:=by simp only [re,ri,Rat.num_intCast,Rat.den_intCast];congr
theorem p7(x:List Int):PP (qs x)=aw ri x:=by simp only [PP,aw,emap,qs,map_map,Function.comp_def,fP]
abbrev PI(x:List Int):PV:=aw ri x
@[simp] theorem ajc:bC 4 (emap ri l)=True:=cE fun _=>rfl
@[simp] theorem af2{v:Nat}:da (some ⟨v,e,n,emap ri l⟩)=True:=ck fun _=>rfl
@[simp] theorem arT:emap ri l ++ [[aw ay (aI DD x.natAbs), .bool (decide (x<0)),aw ay (aI DD 1), .bool false]]=emap ri (l ++ [x]):=by simp [emap]
@[simp] theorem arU{l:List Rat}:emap re l ++ [[aw ay (aI DD q.num.natAbs), .bool (decide (q.num<0)),aw ay (aI DD q.den), .bool false]]=emap re (l ++ [q]):=by simp [emap]
@[simp] theorem amq:fQ (emap ri l) i 0 [aw ay (aI DD x.natAbs), .bool (decide (x<0)),aw ay (aI DD 1), .bool false]=emap ri (l.set i x):=y7 (n:=4) (fun _=>rfl)
theorem oJ(l:List Int)(hl:l.length<17592186044416):aj 157 [PI l] (PI (aK l)):=by have:=vH (qs l) (au hl);rwa [vG,p7,p7]at this
theorem Du(n:Int)(zn:Y n):aj 60 [RI n,RI 1] (.ag (ri n)):=by have:=jX n 1 zn (by have:sz 2 1<=1:=dp ar ar;simp only [Y];omega);rwa [kO,RR,fP]at this
theorem oK:aj 224 [] (.ag (ri 0)):=by have:=HF;rwa [RR,show(0:Rat)=((0:Int):Rat)by simp,fP]at this
theorem HG(n:Int)(h1 : -9223372036854775808<=n∧n<9223372036854775808):aj 12 [ae n,ae 1] (.ag (ri n)):=by have:=lY n 1 h1 ar;rwa [kO,RR,fP]at this
theorem n9(h:sz 2 x<=k)(h1:1<=k):ZR k (x:Rat):=⟨by simpa using h,by simp;exact Nat.le_trans (dp ar ar) h1⟩
theorem Qw(x y:Int)(hx:sz 2 x<=YY)(hy:sz 2 y<=YY):aj 225 [.ag (ri x), .ag (ri y)] (.ag (ri (x+y))):=by have:=vF x y (n9 hx ar) (n9 hy ar);rwa [<-Rat.intCast_add,RR,RR,RR,fP,fP,fP]at this
theorem Dw(x y:Int)(hx:sz 2 x<=YY)(hy:sz 2 y<=YY):aj 226 [.ag (ri x), .ag (ri y)] (.ag (ri (x*y))):=by have:=A7 x y (n9 hx ar) (n9 hy ar);rwa [<-Rat.intCast_mul,RR,RR,RR,fP,fP,fP]at this
structure FOK(p:RP):Prop where
 ok:∀c∈p,cV 4294967296 c.2∧c.2.length<4294967296
 len:p.length<1099511627776
theorem Qx(p:RP)(h:FOK p):aj 79 [Pg p] (PI (aK (p.map gv))):=by
 apply bL [(0,Pg p)] Tryz.func79;have hl:=h.len;apply eQ [0] [0,3];refine W.nil 3 3 31 4 av ar fun K hK=>?_;refine W.lw [0,3] hK ?_;clear hK K;simp;apply dU [0,3,6,7]
 refine W.aO (fun k σ=>∃(i ver:Nat),aQ σ [(0,Pg p),(3, .own 3 ver 0 i),(6,ae p.length),(7,ae i)] fun rows clk=>rows 3=some ⟨ver,31,4,emap ri ((p.take i).map gv)⟩∧k=p.length-i∧i<=p.length) p.length ?_ ?_
 ·exact⟨_, .refl,0,_,_,_,rfl,by simp [emap],aa,aa⟩
 rintro k _ ⟨i,ver,rows,clk,rfl,hr,hk,hi⟩;apply fB [0,3,6,7,8]
 refine W.cond ⟨_,rfl,fun h0=>?_,fun h0=>?_⟩
 ·simp at h0;obtain⟨qQ,JR⟩:=h.ok _ (bo h0);have eB:((p.take i).map gv).length=i:=by simp;omega
  have hz:Y (iv (nth p i).1 (nth p i).2):=by have h1:=Uu qQ;have h2:sz 2 (iv (nth p i).1 (nth p i).2)=sz 2 (V 4294967296 (nth p i).2):=(by unfold iv;split<;>simp [n4]);simp only [Y];omega
  have hF:=Dq (nth p i).1 (nth p i).2 aa qQ;have hM:=Du _ hz;obtain⟨v,hv⟩:∃v,v=iv (nth p i).1 (nth p i).2:=⟨_,rfl⟩
  rw [<-hv]at hF hM;apply lW [0,3,4,6,7];refine u9 hF fun K hK=>?_;refine aU (nE 1 ar ar) ?_;apply jK hM;apply fN hr eB;refine W.lw [0,3,6,7] hK ?_;clear hK K;simp;refine bB fun K hK=>?_;refine hK _ ⟨p.length-(i+1),_,ak _ [0,3,6,7],aa,i+1,_,_,_,rfl,?_,aa,aa⟩;rw [n5 h0,show gv (nth p i)=v from hv.symm];simp
 ·simp at h0;have iK:i=p.length:=aa;subst iK;apply (iq);have ez:(p.map gv).take p.length=p.map gv:=bG av;simp (disch:=omega) [gw,hr,ez];refine aU (oJ (p.map gv) (by simp;omega)) ?_;exact eK [2]
theorem vI(l:List Int)(hl:l.length<1099511627776)(hb:∀x∈l, -9223372036854775808<=x∧x<9223372036854775808):aj 97 [aw ay l] (PI (aK l)):=by
 apply bL [(0,aw ay l)] Tryz.func97;apply eQ [0] [0,3];refine W.nil 3 3 31 4 av ar fun K hK=>?_;refine W.lw [0,3] hK ?_;clear hK K;simp;apply dU [0,3,6,7]
 refine W.aO (fun k σ=>∃(i ver:Nat),aQ σ [(0,aw ay l),(3, .own 3 ver 0 i),(6,ae l.length),(7,ae i)] fun rows clk=>rows 3=some ⟨ver,31,4,emap ri (l.take i)⟩∧k=l.length-i∧i<=l.length) l.length ?_ ?_
 ·exact⟨_, .refl,0,_,_,_,rfl,by simp [emap],aa,aa⟩
 rintro k _ ⟨i,ver,rows,clk,rfl,hr,hk,hi⟩;apply fB [0,3,6,7,8]
 refine W.cond ⟨_,rfl,fun h0=>?_,fun h0=>?_⟩
 ·simp at h0;have eB:(l.take i).length=i:=by simp;omega
  apply lW [0,3,4,6,7];refine bB fun K hK=>?_;refine aU (HG (nth l i) (hb _ (bo h0))) ?_;apply fN hr eB;refine W.lw [0,3,6,7] hK ?_;clear hK K;simp;refine bB fun K hK=>?_;refine hK _ ⟨l.length-(i+1),_,ak _ [0,3,6,7],aa,i+1,_,_,_,rfl,?_,aa,aa⟩;rw [bt h0];simp
 ·simp at h0;have iK:i=l.length:=aa;subst iK;apply (iq);apply dB hr;refine aU (oJ l aa) ?_;exact eK [2]
structure Qy(l:List Rat):Prop where
 ok:∀q∈l,ZR YY q
 len:l.length<1099511627776
theorem Zr(k:Nat)(hk:1<=k):ZR k 0:=⟨by show sz 2 0<=k;rw [jV];omega,by show sz 2 1<=k;exact Nat.le_trans (dp ar ar) hk⟩
theorem Qy.nth{l:List Rat}(h:Qy l)(i:Nat):ZR YY (nth l i):=by
 by_cases hi:i<l.length
 ·exact h.ok _ (bo hi)
 ·rw [ir aa];exact Zr _ ar
theorem Qy.qs{x:List Int}(h:∀c∈x,sz 2 c<=YY)(hl:x.length<1099511627776):Qy (qs x):=⟨fun q hq=>by simp only [mem_map]at hq;obtain⟨c,hc,rfl⟩:=hq;exact n9 (h c hc) ar,au hl⟩
theorem Nl(l:List Rat)(i:Nat)(hi:i<9223372036854775808):aj 277 [PP l,ae i] (RR (nth l i)):=by
 have hzero:=HF;apply bL [(0,PP l),(1,ae i)] Tryz.func277;apply fB [0,1,4]
 refine W.dx (fun σ=>∃(b:Bool),aQ σ [(0,PP l),(1,ae i),(4, .ptr 4 0 0 0),(12, .bool b)] fun rows clk=>(b=true↔l.length<=i)∧rows 4=some ⟨0,31,4,[[.nil, .bool false, .nil, .bool false]]⟩) (fun K hK=>?_) ?_
 ·have hn:¬((i:Int)<0):=by omega
  apply dB hn;exact hK _ _ (ak _ [0,1,4,12]) ⟨_,_,_,rfl,av,av⟩
 rintro _ ⟨b,rows,clk,rfl,hb,cN⟩
 apply (dI)<;>intro h
 ·have hb:=hb.1 h;have e:nth l i=0:=ir hb;rw [e];generalize (0:Rat)=z at *;apply lE hzero;exact EU cN [4]
 ·have hb:i<l.length:=Nat.lt_of_not_le fun h2=>by simp [hb.2 h2]at h
  apply W.skip;apply fj cN [4];exact gK
def UD(a b:List Rat):List Rat:=nk ((List.range (max a.length b.length)).map fun k=>nth a k+nth b k)
theorem UE(a b:List Rat)(ha:Qy a)(hb:Qy b):aj 274 [PP a,PP b] (PP (UD a b)):=by
 have Zn:=ha.len;have R8:=hb.len;apply bL [(0,PP a),(1,PP b)] Tryz.func274;obtain⟨M,hM⟩:∃M,M=max a.length b.length:=⟨_,rfl⟩
 apply eQ [0,1] [0,1,5];refine W.nil 5 5 31 4 av ar fun K hK=>?_;refine W.lw [0,1,5] hK ?_;clear hK K;simp;apply dU [0,1,5,6]
 refine W.aO (fun k σ=>∃(i ver:Nat),aQ σ [(0,PP a),(1,PP b),(5, .own 5 ver 0 i),(6,ae i)] fun rows clk=>rows 5=some ⟨ver,31,4,emap re ((List.range i).map fun k=>nth a k+nth b k)⟩∧k=M-i∧i<=M) M ?_ ?_
 ·exact⟨_, .refl,0,_,_,_,rfl,by simp [emap],aa,aa⟩
 rintro k _ ⟨i,ver,rows,clk,rfl,hr,hk,hi⟩;have em:(if a.length<b.length then(b.length:Int)else(a.length:Int))=M:=by split<;>omega
 have em2:(if b.length<a.length then(a.length:Int)else(b.length:Int))=M:=by split<;>omega
 apply W.seq;apply W.sr;simp (disch:=omega) [gw,em,em2]
 apply u7 [0,1,5,6,13]<;>intro h
 ·have h:i<M:=by simp at h;omega
  apply (ft);have h1:=Nl a i aa;have h2:=Nl b i aa;have h3:=vF _ _ (ha.nth i) (hb.nth i);have er:(List.range (i+1)).map (fun k=>nth a k+nth b k)=(List.range i).map (fun k=>nth a k+nth b k) ++ [nth a i+nth b i]:=by rw [range_succ];simp
  have eB:((List.range i).map fun k=>nth a k+nth b k).length=i:=av;generalize ((List.range i).map fun k=>nth a k+nth b k)=acc,nth a i+nth b i=q at *;generalize nth a i=u,nth b i=v at *;refine AE h1 fun K hK=>?_;apply eO h2 h3;apply fN hr eB;refine W.lw [0,1,5,6] hK ?_;clear hK K;simp;refine bB fun K hK=>?_;refine hK _ ⟨M-(i+1),_,ak _ [0,1,5,6],aa,i+1,_,_,_,rfl,by rw [er];simp,aa,aa⟩
 ·have h:i=M:=by simp at h;omega
  subst h;apply (ey);have eB:((List.range i).map fun k=>nth a k+nth b k).length=i:=av;rw [UD,<-hM];generalize ((List.range i).map fun k=>nth a k+nth b k)=acc at *;have ez:=bG eB;apply W.sr;simp (disch:=omega) [gw,hr,ez];refine aU (vH acc aa) ?_;exact eK [4]
def jY(a:List Rat)(c:Rat):List Rat:=nk (a.map fun x=>x*c)
theorem ph(a:List Rat)(c:Rat)(ha:Qy a)(hc:ZR YY c):aj 201 [PP a,RR c] (PP (jY a c)):=by
 have Zn:=ha.len;refine jx (E:=env) (fun id=>if id=5 then 2 else 0) [(0,PP a),(1,RR c)] Tryz.func201 rfl bX bX (show 2<=24 by decide) av ?_;apply eQ [0,3] [0,3,5];refine W.nil 5 5 31 4 av ar fun K hK=>?_;refine W.lw [0,3,5] hK ?_;clear hK K;simp;apply dU [0,3,5,8,9]
 refine W.aO (fun k σ=>∃(i ver:Nat),aQ σ [(0,PP a),(3, .ptr 3 0 0 0),(5, .own 5 ver 0 i),(8,ae a.length),(9,ae i)] fun rows clk=>rows 5=some ⟨ver,31,4,emap re ((a.take i).map fun x=>x*c)⟩∧rows 3=some ⟨0,31,4,[re c]⟩∧k=a.length-i∧i<=a.length) a.length ?_ ?_
 ·exact⟨_, .refl,0,_,_,_,rfl,by simp [emap],av,aa,aa⟩
 rintro k _ ⟨i,ver,rows,clk,rfl,hr,bA,hk,hi⟩
 apply ef [0,3,5,8,9,10]<;>intro h
 ·simp at h;apply lW [0,3,5,6,8,9];have h3:=A7 _ _ (ha.nth i) hc;have er:=n5 (f:=fun x=>x*c) h;have eB:((a.take i).map fun x=>x*c).length=i:=by simp;omega
  generalize (a.take i).map (fun x=>x*c)=acc at *;generalize hq:nth a i*c=q at *;refine W.Dd fun K hK=>?_;rw [if_pos rfl,fc];apply iI bA h3;apply qk hr bA eB;refine W.lw [0,3,5,8,9] hK ?_;clear hK K;simp;refine bB fun K hK=>?_;refine hK _ ⟨a.length-(i+1),_,ak _ [0,3,5,8,9],aa,i+1,_,_,_,rfl,by rw [er];simp,by simp [bA],aa,aa⟩
 ·simp at h;have iK:i=a.length:=aa;subst iK;apply (ey);rw [take_length]at hr;rw [jY];have eB:(a.map fun x=>x*c).length=a.length:=av;generalize a.map (fun x=>x*c)=acc at *;have ez:=bG eB;apply W.sr;simp (disch:=omega) [gw,hr,ez];refine aU (vH acc aa) ?_;exact eK [4]
theorem HH(a:List Rat)(ha:Qy a):aj 161 [PP a] (PP (jY a (-1))):=by have h1:=lY (-1) 1 ar ar;rw [kO,show(((-1:Int)):Rat) = -1 by simp]at h1;have h2:=ph a (-1) ha ⟨by show sz 2 (-1)<=YY;exact Nat.le_trans (dp (k:=1) ar ar) ar,by show sz 2 1<=YY;exact Nat.le_trans (dp (k:=1) ar ar) ar⟩;generalize (-1:Rat)=c at *;apply bL [(0,PP a)] Tryz.func161;apply aR [0];apply kh h1 h2;exact eK [2]
theorem UF(x:List Int)(k:Nat):nth (qs x) k=((nth x k:Int):Rat):=yY (f:=fun(c:Int)=>(c:Rat)) rfl x k
theorem Dx(x:List Int)(c:Int):jY (qs x) (c:Rat)=qs (aY x c):=by rw [jY,aY,<-vG];congr 1;simp [qs,Function.comp_def]
theorem KR(x:List Int):aY x (-1)=gL x:=by simp [aY,gL]
theorem Dy(x:List Int)(hx:Bd 2 YY 1099511627775 x):aj 161 [PI x] (PI (gL x)):=by have:=HH (qs x) (.qs hx.sz (by have:=hx.len;omega));rwa [show(-1:Rat)=((-1:Int):Rat)by simp,Dx,KR,p7,p7]at this
theorem HI(x:List Int)(c:Int)(hx:Bd 2 YY 1099511627775 x)(hc:sz 2 c<=YY):aj 201 [PI x, .ag (ri c)] (PI (aY x c)):=by have:=ph (qs x) c (.qs hx.sz (by have:=hx.len;omega)) (n9 hc ar);rwa [Dx,p7,p7,RR,fP]at this
theorem oL(x y:List Int)(s s' n n':Nat)(hs:Bd 2 s n x)(wF:Bd 2 s' n' y)(hB:s+s'+n+n'<YY):aj 199 [PI x,PI y] (PI (bN x y)):=by
 have Zg:=hs.len;have hly:=wF.len;have hB2:s+s'+n+n'<137438953472:=hB;refine jx (E:=env) (fun id=>if id=15 then 1 else 0) [(0,PI x),(1,PI y)] Tryz.func199 rfl bX bX (show 2<=69 by decide) av ?_;apply fB [0,1]
 refine W.dx (fun σ=>∃(b:Bool),σ=⟨fa [(0,PI x),(1,PI y),(16, .bool b)],fun _=>none,0⟩∧(b=true↔x = []∨y = [])) (fun K hK=>?_) ?_
 ·simp;have e1:((x.length:Int)==0)=decide (x = []):=by cases x<;>simp<;>omega
  have e2:((y.length:Int)==0)=decide (y = []):=by cases y<;>simp<;>omega
  rw [e1]
  by_cases h0:x = []
  ·have e3:decide (x = [])=true:=(by simp [h0]);rw [e3];simp;exact hK _ _ (ak _ [0,1,16]) ⟨_,rfl,by simp [h0]⟩
  ·have e3:decide (x = [])=false:=(by simp [h0]);rw [e3];simp;exact hK _ _ (ak _ [0,1,16]) ⟨_,rfl,by rw [e2];simp [h0]⟩
 rintro _ ⟨b,rfl,hb⟩
 apply (dI)<;>intro h
 ·have e:bN x y = []:=by have h1:=hb.1 h;refine Cn.ext (Cn.bN _ _) Cn.nil fun t=>?_;rw [dq];rcases h1 with rfl | rfl<;>simp [V]
  apply aR [4];apply W.ret;simp [go,e];rfl
 ·have h1:¬(x = []∨y = []):=fun h2=>by simp [hb.2 h2]at h
  have n7:0<x.length:=length_pos_iff.2 fun h2=>h1 (.inl h2);have KL:0<y.length:=length_pos_iff.2 fun h2=>h1 (.inr h2);clear h hb h1;have e0:((x.length:Int)+(y.length:Int)-1).toNat=x.length+y.length-1:=aa;have e9:((x.length+y.length-1:Nat):Int)=(x.length:Int)+(y.length:Int)-1:=aa;apply W.skip;apply W.sr;simp (disch:=omega) [gw,e0];apply c9 [0,1,5];apply dU [0,1,5,25,26]
  refine W.aO (fun k σ=>∃(i ver:Nat) (els:List (List PV)) (rows:Pm.Rows) (clk:Nat),σ=⟨fa [(0,PI x),(1,PI y),(5, .own 23 ver 0 (x.length+y.length-1)),(25,ae ((x.length+y.length-1:Nat):Int)),(26,ae i)],rows,clk⟩ ∧
   rows 23=some ⟨ver,31,4,els⟩∧els.length=x.length+y.length-1∧(∀e∈els,e.length=4)∧els.take i=emap ri (replicate i 0)∧k=x.length+y.length-1-i∧i<=x.length+y.length-1) (x.length+y.length-1) ?_ ?_
  ·exact⟨_,Gh.fr [(0,PI x),(1,PI y),(5, .own 23 0 0 (x.length+y.length-1)),(25,ae ((x.length+y.length-1:Nat):Int)),(26,ae (0:Nat))] av,0,_,replicate (x.length+y.length-1) [.nil, .bool false, .nil, .bool false],_,_,rfl,by simp [e0],av,av,by simp [emap],aa,aa⟩
  rintro k _ ⟨i,ver,els,rows,clk,rfl,hr,mg,HJ,qw,hk,hi⟩;have KJ:bC 4 els=True:=by simp only [bC,eq_iff_iff,iff_true];exact HJ
  apply ef [0,1,5,25,26,27]<;>intro h
  ·have h:i<x.length+y.length-1:=(by simp at h;omega);apply lW [0,1,5,6,25,26];refine AE oK fun K hK=>?_;have tZ:i<els.length:=aa;have hE:tI els i 4=True:=(by simp only [eq_iff_iff,iff_true];exact⟨els[i],getElem?_eq_getElem tZ,by rw [HJ _ (getElem_mem tZ)];omega⟩);have hS:fQ els i 0 [aw ay (aI DD 0), .bool false,aw ay (aI DD 1), .bool false]=els.set i (ri 0):=(by have h4:=HJ _ (getElem_mem tZ);rw [fQ,getElem?_eq_getElem tZ];simp [drop_of_length_le,h4]);apply qk hr hE hS;refine W.lw [0,1,5,25,26] hK ?_;clear hK K;simp;refine bB fun K hK=>?_
   refine hK _ ⟨x.length+y.length-1-(i+1),_,ak _ [0,1,5,25,26],aa,i+1,ver,els.set i (ri 0),_,_,rfl,av,au mg,fun e he=>?_,?_,aa,aa⟩
   ·rcases mem_or_eq_of_mem_set he with h1 | h1
    ·exact HJ e h1
    ·rw [h1];rfl
   ·rw [lf qw aa,replicate_succ'];simp [emap]
  ·have h:i=x.length+y.length-1:=(by simp at h;omega);subst h;have lT:els=emap ri (replicate (x.length+y.length-1) 0):=(by rw [<-qw,bG mg]);subst lT;clear qw HJ mg KJ hk hi;apply (ey);apply dU [0,1,5,35,36]
   refine W.aO (fun k σ=>∃(i:Nat) (z:List Int) (ver:Nat),aQ σ [(0,PI x),(1,PI y),(5, .own 23 ver 0 (x.length+y.length-1)),(35,ae x.length),(36,ae i)] fun rows clk =>
    rows 23=some ⟨ver,31,4,emap ri z⟩∧k=x.length-i∧i<=x.length∧z.length=x.length+y.length-1∧(∀j,sz 2 (nth z j)<=s+s'+i) ∧
    ∀t,V t z=V t (x.take i)*V t y) x.length ?_ ?_
   ·refine⟨_, .refl,0,replicate (x.length+y.length-1) 0,_,_,_,rfl,hr,aa,aa,av,fun j=>?_,fun t=>by simp [V,pW]⟩;have:Bd 2 0 (x.length+y.length-1) (replicate (x.length+y.length-1) 0):=⟨av,fun c hc=>by rw [(mem_replicate.1 hc).2,jV];omega⟩
    have:=this.nth j;omega
   clear hr rows clk;rintro k _ ⟨i,z,ver,rows,clk,rfl,hr,hk,hi,hz,Ca,hV⟩
   apply ef [0,1,5,35,36,37]<;>intro h
   ·simp at h;apply lW [0,1,5,7,35,36];apply yM [0,1,5,7,35,36,40,41]
    refine W.aO (fun m σ=>∃(k:Nat) (z:List Int) (ver:Nat),aQ σ [(0,PI x),(1,PI y),(5, .own 23 ver 0 (x.length+y.length-1)),(7,ae i),(35,ae x.length),(36,ae i),(40,ae y.length),(41,ae k)] fun rows clk =>
     rows 23=some ⟨ver,31,4,emap ri z⟩∧m=y.length-k∧k<=y.length∧z.length=x.length+y.length-1∧(∀j,sz 2 (nth z j)<=s+s'+i+1)∧(∀j,i+k<=j->sz 2 (nth z j)<=s+s'+i) ∧
     ∀t,V t z=V t (x.take i)*V t y+t^i*nth x i*V t (y.take k)) y.length ?_ ?_
    ·refine⟨_, .refl,0,z,ver,_,_,rfl,au hr,aa,aa,hz,fun j=>by have:=Ca j;omega,fun j _=>Ca j,fun t=>by simp [V,hV]⟩
    clear hV Ca hz hr z ver rows clk;rintro m _ ⟨k,z,ver,rows,clk,rfl,hr,hm,hky,hz,Ca,KM,hV⟩;apply fB [0,1,5,7,35,36,40,41,42]
    refine W.cond ⟨_,rfl,fun h2=>?_,fun h2=>?_⟩
    ·simp at h2;apply lW [0,1,5,7,8,35,36,40,41];have e1:((i:Int)+(k:Int)).toNat=i+k:=aa;have Gp:sz 2 (nth x i*nth y k)<=s+s'+i:=Nat.le_trans (ct ar (hs.nth i) (wF.nth k)) aa;have hm2:=mA (b:=2) ar (KM (i+k) (Nat.le_refl _)) Gp;have hlz:i+k<z.length:=aa;have c1:=Dw (nth x i) (nth y k) (Nat.le_trans (hs.nth i) (by show _<=137438953472;omega)) (Nat.le_trans (wF.nth k) (by show _<=137438953472;omega));have c2:=Qw (nth z (i+k)) (nth x i*nth y k) (Nat.le_trans (KM (i+k) (Nat.le_refl _)) (by show _<=137438953472;omega)) (Nat.le_trans Gp (by show _<=137438953472;omega));have KH:=fun t=>Dg (b:=t) (x:=nth z (i+k)+nth x i*nth y k) hlz;generalize hu:nth z (i+k)+nth x i*nth y k=u at *;generalize hpq:nth x i*nth y k=pq at *;refine W.Dd fun K hK=>?_;rw [if_pos rfl,fc];simp (disch:=omega) [gw,hr,e1];apply cT c1;simp (disch:=omega) [gw,hr,e1];apply cT c2;simp (disch:=omega) [gw,hr,e1];refine W.lw [0,1,5,7,35,36,40,41] hK ?_;clear hK K;simp;refine bB fun K hK=>?_
     refine hK _ ⟨y.length-(k+1),_,ak _ [0,1,5,7,35,36,40,41],aa,k+1,z.set (i+k) u,ver,_,_,rfl,av,aa,aa,au hz,fun j=>?_,fun j hj=>?_,fun t=>?_⟩
     ·by_cases hj:i+k=j
      ·subst hj;rw [fe hlz];exact hm2
      ·rw [gG hj];exact Ca j
     ·rw [gG aa];exact KM j aa
     ·rw [KH,aT h2,hV,Int.pow_add,<-hu,<-hpq];clear hV KH;grind
    ·simp at h2;have wE:k=y.length:=aa;subst wE;apply (ey);refine bB fun K hK=>?_;refine hK _ ⟨x.length-(i+1),_,ak _ [0,1,5,35,36],aa,i+1,z,ver,_,_,rfl,hr,aa,aa,hz,fun j=>by have:=Ca j;omega,fun t=>?_⟩;rw [hV,aZ (Nat.le_refl _),aT h];grind
   ·simp at h;have iK:i=x.length:=aa;subst iK;have n6:=bG hz;apply (iq);apply fN hr n6;refine aU (oJ z aa) ?_;apply bM [4];apply W.ret;have e:aK z=bN x y:=(by refine Cn.ext (Cn.cut _) (Cn.bN _ _) fun t=>?_;rw [c8,hV,dq,aZ (Nat.le_refl _)]);simp [go,e]
theorem mE(v n:Int)(hv : -9223372036854775808<=v∧v<9223372036854775808)(hn:0<n)(UB:n<4611686018427387904):aj 13 [ae v,ae n] (ae (v%n)):=by
 have SS:n≠0:=aa
 have h12:(v.tmod n=v%n∨(v.tmod n<0∧v.tmod n+n=v%n)) ∧ -n<v.tmod n∧v.tmod n<n:=by
  have h2:=Int.emod_nonneg v SS;have h3:=Int.emod_lt_of_pos v hn
  rcases(show v<0∨0<=v by omega)with h | h
  ·have h4:=Int.tmod_eq_emod (a:=v) (b:=n);have h5:(n.natAbs:Int)=n:=aa
   split at h4
   ·simp at h4;omega
   ·rename_i h6;rw [h5]at h4;have h7:v%n≠0:=fun h8=>h6 (.inr (Int.dvd_of_emod_eq_zero h8));omega
  ·rw [Int.tmod_eq_emod_of_nonneg h];omega
 obtain⟨h1,h2⟩:=h12;have h5:=Int.emod_nonneg v SS;have h6:=Int.emod_lt_of_pos v hn;have Qv:¬n<1:=aa;apply bL [(0,ae v),(1,ae n)] Tryz.func13;apply aR [0,1]
 apply cS [0,1,7]<;>intro h
 ·exfalso;simp at h;omega
 ·apply W.skip;generalize hm:v.tmod n=m,v%n=r at *;apply W.sr;simp (disch:=omega) [gA,SS,hm];apply c9 [1,5]
  refine W.fR (fun σ=>∃(rows:Pm.Rows) (clk:Nat),σ=⟨fa [(5,ae r)],rows,clk⟩) ?_ ?_
  ·
   apply fi [1,5,12]<;>intro h
   ·simp at h;refine bB fun K hK=>?_;exact hK _ ⟨_,Gh.fr [(5,ae r)] (by simp;omega),_,_,rfl⟩
   ·simp at h;apply W.skip;exact⟨_,Gh.fr [(5,ae r)] (by simp;omega),_,_,rfl⟩
  rintro _ ⟨rows,clk,rfl⟩;exact dS [4]
structure PB(x:List Int):Prop where
 sz:∀c∈x,Sz c
 len:x.length<1099511627775
theorem PB.Ba{x:List Int}(h:PB x):qp (x.map qA):=qp.Zf h.sz (by have:=h.len;omega)
theorem PB.of{x:List Int}(h:Bd LL s n x)(hs:s<1099511627775)(hn:n<1099511627775):PB x:=⟨fun c hc=>Nat.lt_of_le_of_lt (h.sz c hc) aa,Nat.lt_of_le_of_lt h.len hn⟩
theorem Qz{x y:List Int}(hx:PB x)(hy:PB y):aj 182 [Po x,Po y] (Po (iw x y)):=by have:=Un _ _ hx.Ba hy.Ba;rwa [bY,bY,<-iA,<-iA]at this
theorem Dz{x y:List Int}(hx:PB x)(hy:PB y):aj 186 [Po x,Po y] (Po (fC x y)):=by have:=Uo _ _ hx.Ba hy.Ba;rwa [bY,bY,<-iA,<-iA]at this
theorem DA{x:List Int}(hx:PB x):aj 139 [Po x] (Po (gL x)):=by have:=Uq _ hx.Ba;rwa [bY,<-iA]at this
theorem dW{x:List Int}(hx:PB x):aj 64 [Po x] (Po (aK x)):=by have:=gi _ hx.Ba;rwa [bY,<-iA]at this
theorem KS{x y:List Int}(hx:PB x)(hy:PB y):aj 251 [Po x,Po y] (.bool (decide (aK x=aK y))):=by have:=Qk _ _ hx.Ba hy.Ba;rwa [bY,bY,<-iA,<-iA]at this
theorem QB{a:RP}{y:List Int}(ha:qp a)(hs:Bd LL s n (a.map gv))(wF:Bd LL s' n' y)(hB:s+s'+n+n'<1099511627775):aj 15 [Pg a,Po y] (Po (bN (a.map gv) y)):=by have:=Ur a (y.map qA) ha (PB.of wF aa aa).Ba s s' n n' hs (by rwa [bY]) hB;rwa [bY,<-iA]at this
theorem xf{x y:List Int}(hs:Bd LL s n x)(wF:Bd LL s' n' y)(hB:s+s'+n+n'<1099511627775):aj 15 [Po x,Po y] (Po (bN x y)):=by have:=QB (PB.of hs aa aa).Ba (by rwa [bY]) wF hB;rwa [bY,<-iA]at this
theorem maps{α:Type}{g:α->List PV}{R:List PV->Prop}{Q:α->Prop}(h:∀ps,R ps -> ∃a,ps=g a∧Q a):∀ {l:List (List PV)},(∀x∈l,R x) -> ∃m:List α,l=m.map g ∧ ∀a∈m,Q a
 | [],_=>⟨[],rfl,fun _ h=>(by cases h)⟩
 | x::l,hx=>by
  obtain⟨a,rfl,ha⟩:=h x (hx x av);obtain⟨m,rfl,hm⟩:=maps h (l:=l) fun y hy=>hx y (by simp [hy])
  exact⟨a::m,rfl,fun b hb=>by
   rcases mem_cons.1 hb with rfl | hb
   ·exact ha
   ·exact hm b hb⟩
theorem y8:tW Tryz.prog 3 (fun q=>∃n:Int,q=ae n ∧ -9223372036854775808<=n∧n<9223372036854775808):=
 (tW.int .i64 bX).mono fun q ⟨n,h1,h2,h3⟩=>⟨n,h1,by simpa [IntKind.min,IntKind.signed,IntKind.bits]using h2,by simp [IntKind.max,IntKind.signed,IntKind.bits]at h3;omega⟩
theorem own:ownKnob Tryz.prog.godebug=none:=by kernel_rfl
theorem laidOut:laidOutB Tryz.prog=true:=by kernel_rfl
structure Tg where
 k:Int
 a:Int
 b:Int
 c:Int
 d:Int
 deriving DecidableEq
variable {t:Tg}
instance:Inhabited Tg:=⟨⟨0,0,0,0,0⟩⟩
def tgc(t:Tg):List PV:=[ae t.k,ae t.a,ae t.b,ae t.c,ae t.d]
theorem y9(t:Tg):tgc t = [ae t.k,ae t.a,ae t.b,ae t.c,ae t.d]:=rfl
def tJ(s t:Tg):Bool:=
 if s.k≠t.k then decide (s.k<t.k)else if s.a≠t.a then decide (s.a<t.a)else if s.b≠t.b then decide (s.b<t.b)else if s.c≠t.c then decide (s.c<t.c)else if s.d≠t.d then decide (s.d<t.d)else false
theorem QC(s t:Tg):aj 38 [.ag (tgc s), .ag (tgc t)] (.bool (tJ s t)):=by
 simp only [y9,tJ];obtain⟨k,a,b,c,d⟩:=s;obtain⟨k',a',b',c',d'⟩:=t;simp only;apply bL [(0, .ag [ae k,ae a,ae b,ae c,ae d]),(1, .ag [ae k',ae a',ae b',ae c',ae d'])] Tryz.func38;apply aR [2,3]
 apply cS [2,3,11]<;>intro h
 ·have h:k≠k':=au h;rw [if_pos h];exact dS [4]
 ·have h:k=k':=au h;rw [if_neg (au h)];apply (jm);apply yM [3,18,19]
  refine W.aO (fun k σ=>∃(j:Nat),aQ σ [(3, .ptr 3 1 0 0),(18, .ag [ae a,ae b,ae c,ae d]),(19,ae j)] fun rows clk=>j+k=4∧rows 3=some ⟨1,78,5,[[ae k',ae a',ae b',ae c',ae d']]⟩∧(0<j->a=a')∧(1<j->b=b')∧(2<j->c=c')∧(3<j->d=d')) 4 ?_ ?_
  ·exact⟨_, .refl,0,_,_,rfl,rfl,av,av,av,av,av⟩
  rintro m _ ⟨j,rows,clk,rfl,hj,bA,h1,h2,h3,h4⟩;have Nn:j=0∨j=1∨j=2∨j=3∨j=4:=aa
  apply ef [3,18,19,20]<;>intro h
  ·have hj4:j<4:=(by simp at h;omega);apply (ft);have Nn:j=0∨j=1∨j=2∨j=3:=aa
   rcases Nn with rfl | rfl | rfl | rfl
   ·apply mz [3,5,6,18,19]
    apply s8 bA [3,5,6,18,19,28]<;>intro h
    ·have h:a≠a':=au h;rw [if_pos h];apply fj bA [4];exact gK
    ·have h:a=a':=au h;apply W.skip;refine bB fun K hK=>?_;exact hK _ ⟨m-1,_,ak _ [3,18,19],aa,1,_,_,rfl,aa,bA,fun _=>h,av,av,av⟩
   ·have e1:=h1 aa;apply mz [3,5,6,18,19]
    apply s8 bA [3,5,6,18,19,28]<;>intro h
    ·have h:b≠b':=au h;rw [if_neg (au e1),if_pos h];apply fj bA [4];exact gK
    ·have h:b=b':=au h;apply W.skip;refine bB fun K hK=>?_;exact hK _ ⟨m-1,_,ak _ [3,18,19],aa,2,_,_,rfl,aa,bA,fun _=>e1,fun _=>h,av,av⟩
   ·have e1:=h1 aa;have e2:=h2 aa;apply mz [3,5,6,18,19]
    apply s8 bA [3,5,6,18,19,28]<;>intro h
    ·have h:c≠c':=au h;rw [if_neg (au e1),if_neg (au e2),if_pos h];apply fj bA [4];exact gK
    ·have h:c=c':=au h;apply W.skip;refine bB fun K hK=>?_;exact hK _ ⟨m-1,_,ak _ [3,18,19],aa,3,_,_,rfl,aa,bA,fun _=>e1,fun _=>e2,fun _=>h,av⟩
   ·have e1:=h1 aa;have e2:=h2 aa;have e3:=h3 aa;apply mz [3,5,6,18,19]
    apply s8 bA [3,5,6,18,19,28]<;>intro h
    ·have h:d≠d':=au h;rw [if_neg (au e1),if_neg (au e2),if_neg (au e3),if_pos h];apply fj bA [4];exact gK
    ·have h:d=d':=au h;apply W.skip;refine bB fun K hK=>?_;exact hK _ ⟨m-1,_,ak _ [3,18,19],aa,4,_,_,rfl,aa,bA,fun _=>e1,fun _=>e2,fun _=>e3,fun _=>h⟩
  ·have hj4:j=4:=(by simp at h;omega);subst hj4;rw [if_neg (by simpa using h1 aa),if_neg (by simpa using h2 aa),if_neg (by simpa using h3 aa),if_neg (by simpa using h4 aa)];exact rb [4]
theorem QD(s t:Tg):aj 39 [.ag (tgc s), .ag (tgc t)] (.bool (tJ s t)):=by
 simp only [y9,tJ];obtain⟨k,a,b,c,d⟩:=s;obtain⟨k',a',b',c',d'⟩:=t;simp only;apply bL [(0, .ag [ae k,ae a,ae b,ae c,ae d]),(1, .ag [ae k',ae a',ae b',ae c',ae d'])] Tryz.func39;apply aR [2,3]
 apply cS [2,3,10]<;>intro h
 ·have h:k≠k':=au h;rw [if_pos h];exact dS [4]
 ·have h:k=k':=au h;rw [if_neg (au h)];apply (jm);apply yM [2,3,5]
  refine W.aO (fun m σ=>∃(j:Nat),aQ σ [(2, .ptr 2 0 0 0),(3, .ptr 3 1 0 0),(5,ae j)] fun rows clk=>j+m=4∧rows 2=some ⟨0,78,5,[[ae k,ae a,ae b,ae c,ae d]]⟩∧rows 3=some ⟨1,78,5,[[ae k',ae a',ae b',ae c',ae d']]⟩∧(0<j->a=a')∧(1<j->b=b')∧(2<j->c=c')∧(3<j->d=d')) 4 ?_ ?_
  ·exact⟨_, .refl,0,_,_,rfl,rfl,av,av,av,av,av,av⟩
  rintro m _ ⟨j,rows,clk,rfl,hj,bE,bA,h1,h2,h3,h4⟩
  apply cS [2,3,5,17]<;>intro h
  ·have hj4:j<4:=(by simp at h;omega);apply (ft);have Nn:j=0∨j=1∨j=2∨j=3:=aa
   rcases Nn with rfl | rfl | rfl | rfl
   ·apply W.sd;apply AA bE bA [2,3,5,28]
    apply (dI)<;>intro h
    ·have h:a≠a':=au h;rw [if_pos h];apply W.sd;exact AB bE bA [4]
    ·have h:a=a':=au h;apply W.skip;refine bB fun K hK=>?_;exact hK _ ⟨m-1,_,ak _ [2,3,5],aa,1,_,_,rfl,aa,bE,bA,fun _=>h,av,av,av⟩
   ·have e1:=h1 aa;apply W.sd;apply AA bE bA [2,3,5,28]
    apply (dI)<;>intro h
    ·have h:b≠b':=au h;rw [if_neg (au e1),if_pos h];apply W.sd;exact AB bE bA [4]
    ·have h:b=b':=au h;apply W.skip;refine bB fun K hK=>?_;exact hK _ ⟨m-1,_,ak _ [2,3,5],aa,2,_,_,rfl,aa,bE,bA,fun _=>e1,fun _=>h,av,av⟩
   ·have e1:=h1 aa;have e2:=h2 aa;apply W.sd;apply AA bE bA [2,3,5,28]
    apply (dI)<;>intro h
    ·have h:c≠c':=au h;rw [if_neg (au e1),if_neg (au e2),if_pos h];apply W.sd;exact AB bE bA [4]
    ·have h:c=c':=au h;apply W.skip;refine bB fun K hK=>?_;exact hK _ ⟨m-1,_,ak _ [2,3,5],aa,3,_,_,rfl,aa,bE,bA,fun _=>e1,fun _=>e2,fun _=>h,av⟩
   ·have e1:=h1 aa;have e2:=h2 aa;have e3:=h3 aa;apply W.sd;apply AA bE bA [2,3,5,28]
    apply (dI)<;>intro h
    ·have h:d≠d':=au h;rw [if_neg (au e1),if_neg (au e2),if_neg (au e3),if_pos h];apply W.sd;exact AB bE bA [4]
    ·have h:d=d':=au h;apply W.skip;refine bB fun K hK=>?_;exact hK _ ⟨m-1,_,ak _ [2,3,5],aa,4,_,_,rfl,aa,bE,bA,fun _=>e1,fun _=>e2,fun _=>e3,fun _=>h⟩
  ·have hj4:j=4:=(by simp at h;omega);subst hj4;rw [if_neg (by simpa using h1 aa),if_neg (by simpa using h2 aa),if_neg (by simpa using h3 aa),if_neg (by simpa using h4 aa)];exact rb [4]
def sc(z:Bool)(l:List (List PV)):PV:=if z=true then .nil else .sl l
def Zs(z:Bool)(l:List (List PV)):List (List PV):=if z=true then []else l
@[simp] theorem UG{l:List (List PV)}:sc false l = .sl l:=rfl
@[simp] theorem arV{l:List (List PV)}:sc true l = .nil:=rfl
@[simp] theorem avx{z:Bool}{l:List (List PV)}:fz rows (sc z l) = .sl (Zs z l):=by cases z<;>rfl
@[simp] theorem avy{z:Bool}{l:List (List PV)}:pz rows (sc z l) = .sl (Zs z l):=by cases z<;>rfl
@[simp] theorem Bb{z:Bool}{l:List (List PV)}:aF (sc z l)=true:=by cases z<;>rfl
@[simp] theorem apw{z:Bool}{l:List (List PV)}:aL (sc z l) = []:=by cases z<;>rfl
@[simp] theorem apx{z:Bool}{l:List (List PV)}:dA (sc z l) = []:=by cases z<;>rfl
@[simp] theorem apy{z:Bool}{l:List (List PV)}:ib rows (sc z l)=True:=by cases z<;>simp [sc,ib]
@[simp] theorem ajd{z:Bool}{l:List (List PV)}:eH (sc z l)=some [sc z l]:=by cases z<;>rfl
@[simp] theorem aje{z:Bool}{l:List (List PV)}:cD (sc z l)=some [sc z l]:=by cases z<;>rfl
structure CE where
 t:Tg
 z:Bool
 p:List Int
 w:Int
instance:Inhabited CE:=⟨⟨default,true,[],0⟩⟩
def fx(x:CE):List PV:=[ae x.t.k,ae x.t.a,ae x.t.b,ae x.t.c,ae x.t.d,sc x.z (emap ie x.p),ae x.w]
theorem fW(x:CE):fx x = [ae x.t.k,ae x.t.a,ae x.t.b,ae x.t.c,ae x.t.d,sc x.z (emap ie x.p),ae x.w]:=rfl
@[simp] theorem af3{l:List CE}:bC 7 (emap fx l)=True:=cE fun _=>rfl
theorem UH(x:CE):(fx x).all aF=true:=by simp only [fW,all_cons,Bb,all_nil];rfl
@[simp] theorem acI{v:Nat}{l:List CE}:da (some ⟨v,e,n,emap fx l⟩)=True:=ck UH
def CE.v(x:CE):List Int:=if x.z=true then []else x.p
def CE.nz(x:CE):CE:=⟨x.t,false,x.v,x.w⟩
structure RE where
 t:Tg
 z:Bool
 q:List (List PV)
 w:Int
 y:Bool
 s:List (List PV)
 a:Bool
instance:Inhabited RE:=⟨⟨default,true,[],0,true,[],false⟩⟩
def dr(x:RE):List PV:=[ae x.t.k,ae x.t.a,ae x.t.b,ae x.t.c,ae x.t.d,sc x.z x.q,ae x.w,sc x.y x.s, .bool x.a]
theorem gV(x:RE):dr x = [ae x.t.k,ae x.t.a,ae x.t.b,ae x.t.c,ae x.t.d,sc x.z x.q,ae x.w,sc x.y x.s, .bool x.a]:=rfl
@[simp] theorem af4{l:List RE}:bC 9 (emap dr l)=True:=cE fun _=>rfl
theorem vJ(x:RE):(dr x).all aF=true:=by simp only [gV,all_cons,Bb,all_nil];rfl
@[simp] theorem acJ{v:Nat}{l:List RE}:da (some ⟨v,e,n,emap dr l⟩)=True:=ck vJ
def RE.nz(x:RE):RE:=⟨x.t,false,Zs x.z x.q,x.w,false,Zs x.y x.s,x.a⟩
section
variable {α:Type} [Inhabited α]
def ua(tg:α->Tg)(t:Tg)(l:List α):Nat->Nat
 | 0=>0
 | k+1=>if tJ t (tg (nth l k))=true then ua tg t l k else k+1
theorem oM{tg:α->Tg}{l:List α}:ua tg t l (k+1)=if tJ t (tg (nth l k))=true then ua tg t l k else k+1:=rfl
def bef(tg:α->Tg)(t:Tg)(l:List α):Nat->Bool
 | 0=>false
 | k+1=>tJ t (tg (nth l k))
theorem HK{tg:α->Tg}{l:List α}(h:bef tg t l k=false):ua tg t l k=k:=by
 cases k with
 | zero=>rfl
 | succ k=>rw [oM,if_neg (by rw [show tJ t (tg (nth l k))=false from h];decide)]
theorem Np{tg:α->Tg}{t:Tg}{l:List α}:∀k,ua tg t l k<=k
 | 0=>Nat.le_refl _
 | k+1=>by
  unfold ua
  split
  ·exact Nat.le_succ_of_le (Np k)
  ·exact Nat.le_refl _
def vK(tg:α->Tg)(l:List α)(x:α):List α:=l.take (ua tg (tg x) l l.length)++x::l.drop (ua tg (tg x) l l.length)
def xY(tg:α->Tg)(l:List α):List α:=l.foldl (vK tg) []
theorem UI{tg:α->Tg}{l:List α}{x:α}:(vK tg l x).length=l.length+1:=by have:=Np (tg:=tg) (t:=tg x) (l:=l) l.length;simp [vK];omega
theorem HL{tg:α->Tg}{l:List α}(h:i<l.length):xY tg (l.take (i+1))=vK tg (xY tg (l.take i)) (nth l i):=by unfold xY;rw [bJ h,take_succ_eq_append_getElem h,foldl_append];rfl
theorem E7{tg:α->Tg}{l:List α}:(xY tg l).length=l.length:=by
 suffices h:∀(l S:List α),(l.foldl (vK tg) S).length=S.length+l.length by simpa [xY]using h l []
 intro l
 induction l with
 | nil=>intro S;simp
 | cons x l ih=>intro S;rw [foldl_cons,ih,UI];simp;omega
end
theorem af5{S:List α}{z y:α}(hk:k<=S.length):((S ++ [z]).take (k+1)++((S ++ [z]).drop k).take (S.length-k)).set k y=S.take k++y::S.drop k:=by
 obtain⟨A,B,rfl,rfl⟩:∃A B,S=A++B∧A.length=k:=⟨S.take k,S.drop k,(take_append_drop k S).symm,by simp;omega⟩
 have e1:(A++B ++ [z]).take (A.length+1)=A++(B ++ [z]).take 1:=by rw [append_assoc,take_length_add_append]
 have e2:(A++B ++ [z]).drop A.length=B ++ [z]:=by rw [append_assoc,drop_left]
 have e3:(A++B).length-A.length=B.length:=av;have e4:(B ++ [z]).take B.length=B:=av;rw [e1,e2,e3,e4,take_left,drop_left];cases B with
 | nil=>simp
 | cons b B=>simp
theorem arW(x:CE):x.nz.t=x.t:=rfl
theorem amu(x:RE):x.nz.t=x.t:=rfl
def lh(l:List CE):List CE:=xY CE.t (l.map CE.nz)
def yO(l:List RE):List RE:=xY RE.t (l.map RE.nz)
theorem Bc[Inhabited α][Inhabited β]{f:α->β}{l:List α}(h:i<l.length):nth (l.map f) i=f (nth l i):=by rw [bJ (au h),bJ h];simp
theorem QE{l:List CE}(h:i<l.length):lh (l.take (i+1))=vK CE.t (lh (l.take i)) (nth l i).nz:=by unfold lh;rw [map_take,map_take,HL (au h),Bc h]
theorem QF{l:List RE}(h:i<l.length):yO (l.take (i+1))=vK RE.t (yO (l.take i)) (nth l i).nz:=by unfold yO;rw [map_take,map_take,HL (au h),Bc h]
theorem Be{l:List CE}:(lh l).length=l.length:=by simp [lh,E7]
theorem HM{l:List RE}:(yO l).length=l.length:=by simp [yO,E7]
@[simp] theorem Zt{x:CE}:(fx x).length=7:=rfl
theorem QG{L:List CE}{j:Nat}{y:CE}(h:j<L.length):fQ (emap fx L) j 0 (fx y)=emap fx (L.set j y):=by simp [fQ,emap,map_set,h];rw [show(fx L[j]).drop 7 = []from rfl,append_nil]
def zC:CE:=⟨⟨0,0,0,0,0⟩,false,[],0⟩
set_option maxHeartbeats 2000000 in
theorem xg{l:List CE}(hl:l.length<1048576)(hN:∀x∈l,aj 64 [.sl (Zs x.z (emap ie x.p))] (.sl (emap ie x.v))) :
  aj 35 [aw fx l] (aw fx (lh l)):=by
 apply bL [(0,aw fx l)] Tryz.func35;apply eQ [0] [0,3];refine W.nil 3 3 82 7 av ar fun K hK=>?_;refine W.lw [0,3] hK ?_;clear hK K;simp;apply dU [3,7,8,9]
 refine W.aO (fun k σ=>∃(i v3:Nat),aQ σ [(3, .own 3 v3 0 i),(7,aw fx l),(8,ae l.length),(9,ae i)] fun rows clk=>i+k=l.length∧rows 3=some ⟨v3,82,7,emap fx (lh (l.take i))⟩) l.length ?_ ?_
 ·exact⟨_, .refl,0,_,_,_,rfl,aa,by simp [lh,xY,emap]⟩
 rintro k _ ⟨i,v3,rows,clk,rfl,qu,bA⟩
 apply ef [3,7,8,9,10]<;>intro h
 ·have hi:i<l.length:=by simp at h;omega
  have yE:(lh (l.take i)).length=i:=by rw [Be,length_take];omega
  have fI:=QE hi;have hNi:=hN _ (bo hi);rw [vK,arW,yE]at fI;generalize lh (l.take i)=S at *;apply (ft);generalize hx:nth l i=x at *;apply W.sr;simp (disch:=omega) [gw,hi,fW,hx];apply c9 [3,5,7,8,9];apply fj bA [3,5,6,7,8,9];apply (iR)
  refine W.aO (fun k σ=>∃(j:Nat) (rows:Pm.Rows) (clk:Nat),σ=⟨fa [(3, .own 3 v3 0 i),(5, .ptr 5 clk 0 0),(6,ae j),(7,aw fx l),(8,ae l.length),(9,ae i)],rows,clk+1⟩∧j<=i∧ua CE.t x.t S i=ua CE.t x.t S j∧j=k∧rows 3=some ⟨v3,82,7,emap fx S⟩∧rows 5=some ⟨clk,82,7,[fx x]⟩) i ?_ ?_
  ·exact⟨_, .refl,i,_,_,rfl,Nat.le_refl _,rfl,rfl,by simp [bA],by simp [fW]⟩
  clear bA rows clk;rintro m _ ⟨j,rows,clk,rfl,B9,hp,rfl,bA,dj⟩;simp only [fW]at dj;apply W.seq
  refine W.De (fun σ=>∃(b:Bool),σ=⟨fa [(3, .own 3 v3 0 i),(5, .ptr 5 clk 0 0),(6,ae j),(7,aw fx l),(8,ae l.length),(9,ae i),(27, .bool b)],rows,clk+1⟩∧b=bef CE.t x.t S j) (fun K hK=>?_) ?_
  ·cases j with
   | zero =>
    apply (cp);exact hK _ _ (ak _ [3,5,6,7,8,9,27]) ⟨_,rfl,rfl⟩
   | succ j =>
    have hL:=QC x.t (nth S j).t;simp only [y9]at hL;have hjS:j<S.length:=aa;have jO:(0:Int)<(j:Int)+1:=aa;simp (disch:=omega) [gw,bA,dj,fW,hjS,jO];apply cT hL;apply (cp);exact hK _ _ (ak _ [3,5,6,7,8,9,27]) ⟨_,rfl,rfl⟩
  rintro _ ⟨b,rfl,hb⟩
  apply (dI)<;>intro h
  ·subst h;cases j with
   | zero=>simp [bef]at hb
   | succ j =>
    have hb:tJ x.t (nth S j).t=true:=hb.symm;apply (qj);refine bB fun K hK=>?_;exact hK _ ⟨j,_,ak _ [3,5,6,7,8,9],aa,j,_,_,rfl,aa,by rw [hp,oM,if_pos hb],rfl,bA,by simp only [fW];exact dj⟩
  ·subst h;have hpj:ua CE.t x.t S j=j:=HK hb.symm;rw [hp,hpj]at fI;apply (ey);clear hp
   refine W.dx (fun σ=>∃(v:Nat) (rows:Pm.Rows) (bV:Nat),σ=⟨fa [(3, .own 3 v 0 (i+1)),(5, .ptr 5 clk 0 0),(6,ae j),(7,aw fx l),(8,ae l.length),(9,ae i)],rows,bV⟩∧rows 3=some ⟨v,82,7,emap fx (S ++ [zC])⟩∧rows 5=some ⟨clk,82,7,[fx x]⟩) (fun K hK=>?_) ?_
   ·apply qk bA dj yE
    refine hK _ _ (ak _ [3,5,6,7,8,9]) ⟨_,_,_,rfl,?_,?_⟩
    ·simp [emap,fW,zC]
    ·simp [dj,fW]
   clear bA dj rows;rintro _ ⟨v,rows,bV,rfl,bA,dj⟩
   refine W.De (fun σ=>∃(rows:Pm.Rows),σ=⟨fa [(3, .own 3 v 0 (i+1)),(5, .ptr 5 clk 0 0),(6,ae j),(7,aw fx l),(8,ae l.length),(9,ae i)],rows,bV⟩∧rows 3=some ⟨v,82,7,emap fx ((S ++ [zC]).take (j+1)++((S ++ [zC]).drop j).take (i-j))⟩∧rows 5=some ⟨clk,82,7,[fx x]⟩) (fun K hK=>?_) ?_
   ·have AV:(emap fx (S ++ [zC])).length=i+1:=(by simp [emap,yE]);apply dB bA
    refine akG (els:=emap fx (S ++ [zC])) (l:=emap fx ((S ++ [zC]).drop j)) bA (by rw [AV];omega) ⟨_,bA,rfl,?_⟩ ?_ ?_
    ·simp only;rw [take_of_length_le (by rw [length_drop,AV];exact Nat.le_refl _)];simp [emap]
    ·intro e he;obtain⟨y,_,rfl⟩:=mem_map.1 he;rfl
    have e1:min (emap fx ((S ++ [zC]).drop j)).length (i-j)=i-j:=(by simp [emap,yE];omega);have e2:(emap fx (S ++ [zC])).take (j+1)++(emap fx ((S ++ [zC]).drop j)).take (i-j)++(emap fx (S ++ [zC])).drop (j+1+(i-j))=emap fx ((S ++ [zC]).take (j+1)++((S ++ [zC]).drop j).take (i-j)):=(by rw [show(emap fx (S ++ [zC])).drop (j+1+(i-j)) = []from drop_eq_nil_of_le (by rw [AV];omega),append_nil];simp [emap]);rw [e1,e2];apply (cp);refine aM (by refine⟨?_,?_⟩<;>kernel_rfl) ?_;apply (cp);exact hK _ _ (ak _ [3,5,6,7,8,9]) ⟨_,rfl,av,by simp [dj]⟩
   clear bA dj rows;rintro _ ⟨rows,rfl,bA,dj⟩;simp only [fW]at dj;refine W.Dd fun K hK=>?_;apply iS bA dj hNi;have bZ:j<j+1+(i-j):=aa;simp (disch:=omega) [gw,bA,dj,Zt,bZ];refine aM bX ?_;apply (cp);have e3:=QG (L:=(S ++ [zC]).take (j+1)++((S ++ [zC]).drop j).take (i-j)) (j:=j) (y:=x.nz) (by simp [yE];omega);rw [<-yE,af5 aa,<-fI]at e3;simp only [fW,CE.nz,UG,yE]at e3;rw [e3];refine hK _ ?_;clear hK K;refine bB fun K hK=>?_;exact hK _ ⟨k-1,_,ak _ [3,7,8,9],aa,i+1,v,_,_,rfl,aa,av⟩
 ·have hi:i=l.length:=by simp at h;omega
  subst hi;rw [take_length]at bA;apply (ey);refine W.freeze 3 (by simp [bA]) fun K hK=>?_;simp [bA];refine hK _ ?_;clear hK K;apply aR [2];apply W.ret;simp [go,take_of_length_le (Nat.le_of_eq (Be (l:=l)))]
@[simp] theorem apz{x:RE}:(dr x).length=9:=rfl
end Go.Proofs.YtiobceocpabjdaaGreat
namespace Pm
open Go Go.RowKit List
variable {E:Env}{op:Op}{ρ:Operand->PV}{rows rows':Rows}{v:PV}{o:Oper}{σ:PS}{a:Act}{w:World}{f:Nat->PV}{clk s i id:Nat}{K':Act->World->Prop}{Q:Exit->Act->World->Prop}{ops:List Oper}{ao:Array Bool}{q:Nat->Prop}
def QH(E:Env):Op->Bool
 | .move _=>true
 | .assign _=>true
 | .load _ _=>true
 | .fieldAddr _ _ _=>true
 | .indexAddr _ _ _=>true
 | .nilCheck _=>true
 | .binOp _ _ _ _ _=>true
 | .unOp _ _ _=>true
 | .extract _ _=>true
 | .field _ _ _=>true
 | .build _ _=>true
 | .index _ _ _=>true
 | .makeInterface _ _=>true
 | .makeFunc (.func f) _ _=>E.uN f
 | _=>false
theorem lI(h:QH E op=true){u:Option (Nat × Row)}:ys E op ρ rows v u↔(yv E op ρ rows v∧u=none):=by unfold QH at h;split at h<;>first | exact Iff.rfl | cases h
section
variable {E:Env}
theorem DB(h:QH E o.op=true){K:PS->Prop}:dJ E o K σ ↔ ∃v,yv E o.op (aJ σ.f) σ.rows v∧K ⟨put σ.f o.dst v,σ.rows,σ.clock⟩:=by
 have JV:(∃v u,ys E o.op (aJ σ.f) σ.rows v u∧K ⟨put σ.f o.dst v,dP σ.rows u,σ.clock⟩) ↔ ∃v,yv E o.op (aJ σ.f) σ.rows v∧K ⟨put σ.f o.dst v,σ.rows,σ.clock⟩:=by
  constructor
  ·rintro⟨v,u,h1,h2⟩;obtain⟨h3,rfl⟩:=(lI h).1 h1;exact⟨v,h3,h2⟩
  ·rintro⟨v,h1,h2⟩;exact⟨v,none,(lI h).2 ⟨h1,rfl⟩,h2⟩
 obtain⟨dst,op,type,pos,after,guard⟩:=o;simp only at h JV;rw [<-JV];clear JV;unfold QH at h;split at h
 all_goals first
  | exact absurd h Bool.false_ne_true
  | exact Iff.rfl
  | skip
 rename_i f fs bF;unfold dJ;simp only;rw [if_pos h]
 constructor
 ·rintro⟨⟨h1,h2⟩,h3⟩;exact⟨_,none,⟨by simp only [yv];rw [if_pos h];exact⟨⟨h1,h2⟩,trivial⟩,rfl⟩,h3⟩
 ·rintro⟨v,u,⟨h1,rfl⟩,h3⟩;simp only [yv]at h1;rw [if_pos h]at h1;obtain⟨h1,rfl⟩:=h1;exact⟨h1,h3⟩
theorem KT{K:PS->Prop}(h:dJ E o K σ):dJ E o (fun σ'=>(∃v,σ'.f=put σ.f o.dst v)∧K σ') σ:=by
 revert h
 unfold dJ
 split
 ·rintro⟨h1,h2⟩;exact⟨h1,⟨_,rfl⟩,h2⟩
 ·rintro⟨h1,l,h2,h3,h4,h5⟩;exact⟨h1,l,h2,h3,h4,⟨_,rfl⟩,h5⟩
 ·intro h
  split at h
  ·rename_i e sz b z k1 x k2 y hE hl hc;obtain⟨h1,h2,h3,h4,h5⟩:=h
   try simp only [hE,hl,hc]
   exact⟨h1,h2,h3,h4,⟨_,rfl⟩,h5⟩
  ·exact h.elim
 ·rintro⟨h1,h2⟩;refine⟨h1,?_⟩;unfold yU at h2 |-
  split at h2
  ·rename_i e n b z hE
   try simp only [hE]
   obtain⟨l,q1,q2,q3⟩:=h2;refine⟨l,q1,q2,?_⟩
   split at q3
   ·rename_i hx;obtain⟨a1,a2,a3⟩:=q3
    try simp only [hx]
    exact⟨a1,a2,⟨_,rfl⟩,a3⟩
   ·rename_i hx;obtain⟨r,b1,b2,b3,b4,b5,b6,b7,b8,b9⟩:=q3
    try simp only [hx]
    exact⟨r,b1,b2,b3,b4,b5,b6,b7,b8,⟨_,rfl⟩,b9⟩
   ·rename_i hx;obtain⟨b1,b2,b3,b4,b5⟩:=q3
    try simp only [hx]
    exact⟨b1,b2,b3,b4,⟨_,rfl⟩,b5⟩
   ·exact q3.elim
  ·exact h2.elim
 ·intro h
  split at h
  ·rename_i hm;rw [if_pos hm];unfold Eo at h |-
   split at h
   ·rename_i hx
    try simp only [hx]
    obtain⟨R,h1,h2⟩:=h;exact⟨R,h1,fun r rows' bV hR=>⟨⟨_,rfl⟩,h2 r rows' bV hR⟩⟩
   ·rename_i hx
    try simp only [hx]
    obtain⟨R,h1,h2⟩:=h;exact⟨R,h1,fun r rows' bV hR=>⟨⟨_,rfl⟩,h2 r rows' bV hR⟩⟩
   ·exact h.elim
  ·rename_i hm;rw [if_neg hm];obtain⟨v,h1,h2,h3⟩:=h;exact⟨v,h1,h2,⟨_,rfl⟩,h3⟩
 ·rintro⟨t,id,ver,g,h1,h2,h3,R,h4,h5⟩;exact⟨t,id,ver,g,h1,h2,h3,R,h4,fun r rows' bV hR=>⟨⟨_,rfl⟩,h5 r rows' bV hR⟩⟩
 ·intro h
  split at h
  ·rename_i hm;rw [if_pos hm];exact⟨h.1,⟨_,rfl⟩,h.2⟩
  ·rename_i hm;rw [if_neg hm];obtain⟨h1,h2,h3,h4⟩:=h;exact⟨h1,h2,h3,⟨_,rfl⟩,h4⟩
 ·rintro⟨v,u,h1,h2⟩;exact⟨v,u,h1,⟨_,rfl⟩,h2⟩
variable {w0:World} {S0:dz} {n:Nat} {G:Gs}
theorem af6(hY:QH E o.op=true)(hy:yv E o.op (aJ f) rows v)(hR:Rel w0 S0 n G ⟨f,rows,clk⟩ a w)(hd:∀t,o.dst=some t->t<n)
 (hK:∀a' w',Rel w0 S0 n G ⟨put f o.dst v,rows,clk⟩ a' w'->K' a' w'):o.wp E.P a w K' Q:=
 nr (K:=fun σ'=>σ'=⟨put f o.dst v,rows,clk⟩) ((DB hY).2 ⟨v,hy,rfl⟩) hR hd fun σ' a' w' h gR=>hK a' w' (by rw [h]at gR;exact gR)
theorem Rel.KU{f':Nat->PV}(h:Rel w0 S0 n G ⟨f,rows,clk⟩ a w)(hf:∀s,f' s=f s∨f' s = .undef):Rel w0 S0 n G ⟨f',rows,clk⟩ a w:=by
 obtain⟨⟨c,h1,h2,h3,h4,h5,h6⟩,h7,h8⟩:=h;refine⟨⟨c,h1,h2,h3,h4,fun s=>?_,h6⟩,h7,h8⟩
 rcases hf s with h | h
 ·show az c (f' s) _;rw [h];exact h5 s
 ·show az c (f' s) _;rw [h];trivial
end
structure ShT(E:Env)(ops:Array Oper)(cl:Nat->Nat):Prop where
 one:∀i o,ops[i]? = some o->o.guard=none∧(∀e∈o.after,e.on<i)∧(cl i=0∨cl i=2->QH E o.op=true)∧cl i<=2∧(∀d,o.dst=some d->d ∉ o.looksAt ops) ∧ ∀cs b,o.op ≠ .select cs b
 two:∀i j oi oj,i≠j->ops[i]? = some oi->ops[j]? = some oj -> ∀d,oi.dst=some d->oj.dst≠some d∧(d∈oj.looksAt ops->lB .any ops.toList j i=true∧cl i<=cl j)
 chain:∀i j,i<j->j<ops.size->cl i=1->cl j=1->lB .any ops.toList j i=true
 last:∀i j,i<ops.size->j<ops.size->cl i=1->cl j=2->lB .any ops.toList j i=true
def af8(E:Env)(ops:List Oper)(cl:List Nat):Bool:=
 (List.range ops.length).all fun j=>match ops[j]? with
  | none=>false
  | some oj=>oj.guard.isNone&&(oj.after.toList.all fun e=>decide (e.on<j))&&(match cl.getD j 0 with | 0=>QH E oj.op | 1=>true | 2=>QH E oj.op | _=>false) &&
   (match oj.dst with | none=>true | some d => !(oj.looksAt ops.toArray).contains d)&&(match oj.op with | .select _ _=>false | _=>true) &&
   (List.range ops.length).all fun i=>match ops[i]? with
    | none=>false
    | some oi=>i==j || ((match oi.dst with | none=>true | some d=>(oj.dst != some d)&&(!(oj.looksAt ops.toArray).contains d || (lB .any ops j i&&decide (cl.getD i 0<=cl.getD j 0)))) &&
      (!(decide (i<j)&&cl.getD i 0==1&&cl.getD j 0==1) || lB .any ops j i)&&(!(cl.getD i 0==1&&cl.getD j 0==2) || lB .any ops j i))
theorem QI{cl:List Nat}(h:af8 E ops cl=true):ShT E ops.toArray (fun i=>cl.getD i 0):=by
 have h1:∀j oj,ops[j]? = some oj->_:=fun j oj hj=>by have bZ:j<ops.length:=(List.getElem?_eq_some_iff.1 hj).1;have:=all_eq_true.1 h j (mem_range.2 bZ);simp only [hj,Bool.and_eq_true]at this;exact this
 have h2:∀i j oi oj,i≠j->ops[i]? = some oi->ops[j]? = some oj->_:=fun i j oi oj qy hi hj=>by have bZ:i<ops.length:=(List.getElem?_eq_some_iff.1 hi).1;have:=all_eq_true.1 (h1 j oj hj).2 i (mem_range.2 bZ);simp only [hi,Bool.or_eq_true,beq_iff_eq,qy,false_or,Bool.and_eq_true]at this;exact this
 refine⟨fun i o ho=>?_,fun i j oi oj qy hi hj d hd=>?_,fun i j qy hj h3 h4=>?_,fun i j hi hj h3 h4=>?_⟩
 ·have tq:ops[i]? = some o:=au ho;obtain⟨⟨⟨⟨⟨q1,q2⟩,q3⟩,q4⟩,q5⟩,_⟩:=h1 i o tq
  refine⟨by simpa using q1,fun e he=>?_,fun hc=>?_,?_,fun d hd=>?_,fun cs b hs=>?_⟩
  ·have:=all_eq_true.1 q2 e (au he);simpa using this
  ·rcases hc with hc | hc<;>(rw [hc]at q3;exact q3)
  ·show cl.getD i 0<=2;split at q3<;>first | omega | cases q3
  ·rw [hd]at q4;simpa using q4
  ·rw [hs]at q5;cases q5
 ·have iK:ops[i]? = some oi:=au hi;have JP:ops[j]? = some oj:=au hj;obtain⟨⟨q1,_⟩,_⟩:=h2 i j oi oj qy iK JP;rw [hd]at q1;simp only [Bool.and_eq_true,bne_iff_ne,ne_eq,Bool.or_eq_true,Bool.not_eq_true',decide_eq_true_eq]at q1;refine⟨q1.1,fun hm=>?_⟩
  rcases q1.2 with q | q
  ·have:(oj.looksAt ops.toArray).contains d=true:=au hm;rw [q]at this;cases this
  ·exact q
 ·have JP:j<ops.length:=au hj;obtain⟨⟨_,q2⟩,_⟩:=h2 i j ops[i] ops[j] aa (getElem?_eq_getElem aa) (getElem?_eq_getElem JP);rw [decide_eq_true qy,h3,h4]at q2;simpa using q2
 ·have iK:i<ops.length:=au hi;have JP:j<ops.length:=au hj;have qy:i≠j:=fun e=>by subst e;rw [h3]at h4;cases h4
  obtain⟨_,q2⟩:=h2 i j ops[i] ops[j] qy (getElem?_eq_getElem iK) (getElem?_eq_getElem JP);rw [h3,h4]at q2;simpa using q2
section
variable {E:Env} {w0:World} {S0:dz} {n:Nat} {G:Gs} {ops:Array Oper} {cl:Nat->Nat}
theorem E8(hT:∀(i:Nat) (o:Oper),ops[i]? = some o -> ∀e∈o.after,e.on<i):∀(f j k:Nat),Cl .any ops.toList f j k=true->k<j
 | 0,j,k,h=>by rw [Cl]at h;cases h
 | f+1,j,k,h=>by
  obtain⟨oj,hj,e,he,_,h2⟩:=An.1 h;have h3:=hT j oj hj e he
  rcases h2 with rfl | h2
  ·exact h3
  ·have:=E8 hT f e.on k h2;omega
open Classical in
noncomputable def mask(ops:Array Oper)(ao:Array Bool)(q:Nat->Prop)(f:Nat->PV):Nat->PV:=fun s=>if ∃i o,ops[i]? = some o∧ao.getD i true=false∧q i∧o.dst=some s then .undef else f s
theorem kP(h:∃i o,ops[i]? = some o∧ao.getD i true=false∧q i∧o.dst=some s):mask ops ao q f s = .undef:=by unfold mask;rw [if_pos h]
theorem dt(h:¬ ∃i o,ops[i]? = some o∧ao.getD i true=false∧q i∧o.dst=some s):mask ops ao q f s=f s:=by unfold mask;rw [if_neg h]
def UJ(ops:Array Oper)(ao:Array Bool):Nat:=(List.range ops.size).countP fun i => !ao.getD i true
theorem Nr{p q:Nat->Bool}{i:Nat}(hp:p i=true)(hq:q i=false)(h:∀j,j≠i->p j=q j):∀n,i<n->(List.range n).countP p=(List.range n).countP q+1
 | 0,hi=>by omega
 | n+1,hi=>by
  rw [range_succ,countP_append,countP_append]
  by_cases hn:i=n
  ·subst hn;have:(List.range i).countP p=(List.range i).countP q:=countP_congr fun j hj=>by have:=mem_range.1 hj;rw [h j aa]
   rw [this];simp [hp,hq]
  ·have:=Nr hp hq h n aa;rw [this];simp [h n aa];omega
theorem Ns(hs:ao.size=ops.size)(hi:i<ops.size)(h:ao.getD i true=false):UJ ops ao=UJ ops (ao.setIfInBounds i true)+1:=by
 refine Nr (by rw [h];rfl) ?_ (fun j hj=>?_) _ hi
 ·have:(ao.setIfInBounds i true).getD i true=true:=by simp [Array.getD,hs,hi]
  rw [this];rfl
 ·rw [getD_set_ne true (Ne.symm hj)]
theorem mF(h:UJ ops ao=0)(ho:ops[i]? = some o):ao.getD i true=true:=by have hi:i<ops.size:=(Array.getElem?_eq_some_iff.1 ho).1;unfold UJ at h;rw [countP_eq_zero]at h;have:=h i (mem_range.2 hi);simpa using this
theorem xZ(hT:∀(i:Nat) (o:Oper),ops[i]? = some o -> ∀e∈o.after,e.on<i)(hs:ao.size=ops.size)(h:UJ ops ao≠0):Region.ready .any ops ao ≠ []:=by
 have h1:∃i,i<ops.size∧ao.getD i true=false:=by refine Classical.byContradiction fun h2=>h ?_;unfold UJ;rw [countP_eq_zero];intro i hi;have:=fun h3=>h2 ⟨i,mem_range.1 hi,h3⟩;simpa using this
 obtain⟨i,hi⟩:=h1
 obtain⟨m,⟨h2,h3⟩,h4⟩:∃m,(m<ops.size∧ao.getD m true=false) ∧ ∀k,k<m->¬(k<ops.size∧ao.getD k true=false):=by
  have:∀N k,k<=N->(k<ops.size∧ao.getD k true=false) -> ∃m,(m<ops.size∧ao.getD m true=false) ∧ ∀k,k<m->¬(k<ops.size∧ao.getD k true=false):=by
   intro N
   induction N with
   | zero=>intro k hk hh;exact⟨k,hh,fun j hj=>by omega⟩
   | succ N ih =>
    intro k hk hh
    by_cases hx:∃j,j<k∧(j<ops.size∧ao.getD j true=false)
    ·obtain⟨j,hj,hj2⟩:=hx;exact ih j aa hj2
    ·exact⟨k,hh,fun j hj hj2=>hx ⟨j,hj,hj2⟩⟩
  exact this i i (Nat.le_refl _) hi
 intro h0;have:m∈Region.ready .any ops ao:=mem_ready.2 ⟨h3,ops[m],by simp [h2],fun e he hb=>by have h5:=hT m ops[m] (by simp [h2]) e he;have h6:=fun h7=>h4 e.on h5 ⟨aa,h7⟩;have h8:e.on<ao.size:=aa;have h9:ao.getD e.on true=true:=au h6;simp [Array.getD,h8]at h9 |-;exact h9⟩;rw [h0]at this;cases this
theorem KV(hT:ShT E ops cl)(inv:HeadInv .any ops ops.size ao)(ho:ops[i]? = some o)(hr:i∈Region.ready .any ops ao) :
  ∀x∈o.op.operands,aJ (mask ops ao q f) x=aJ f x:=by
 intro x hx;cases x with
 | tmp t =>
  refine dt ?_;rintro⟨k,ok,hk,mY,_,hd⟩;have hl:t∈o.looksAt ops:=mem_append_left _ (mem_filterMap.2 ⟨.tmp t,au hx,rfl⟩)
  by_cases mZ:k=i
  ·subst mZ;rw [ho]at hk;cases hk;exact(hT.one _ o ho).2.2.2.2.1 t hd hl
  ·have h1:=((hT.two k i ok o mZ hk ho t hd).2 hl).1;obtain⟨_,o',tq,oX⟩:=mem_ready.1 hr;rw [ho]at tq;cases tq;have h2:=nt inv 12 i o ho oX h1;rw [getD_both mY]at h2;cases h2
 | _=>rfl
theorem UK(hT:ShT E ops cl)(hs:ao.size=ops.size)(ho:ops[i]? = some o)(hq:q i)(mY:ao.getD i true=false)(hv:∀d,o.dst=some d->f d=v) :
  put (mask ops ao q f) o.dst v=mask ops (ao.setIfInBounds i true) q f:=by
 funext s;have hi:i<ops.size:=(Array.getElem?_eq_some_iff.1 ho).1;have Cz:(ao.setIfInBounds i true).getD i true=true:=by simp [Array.getD,hs,hi]
 by_cases hd:o.dst=some s
 ·rw [hd];simp only [put];rw [if_pos trivial,dt,hv s hd];rintro⟨k,ok,hk,oN,_,CA⟩
  by_cases mZ:i=k
  ·subst mZ;rw [Cz]at oN;cases oN
  ·exact(hT.two i k o ok mZ ho hk s hd).1 CA
 ·have hp:put (mask ops ao q f) o.dst v s=mask ops ao q f s:=by
   cases h:o.dst with
   | none=>rfl
   | some d =>
    have:s≠d:=fun e=>hd (by rw [h,e]);simp [put,this]
  rw [hp]
  by_cases hm:∃k ok,ops[k]? = some ok∧ao.getD k true=false∧q k∧ok.dst=some s
  ·obtain⟨k,ok,hk,oN,hqk,CA⟩:=hm;have mZ:i≠k:=fun e=>by subst e;rw [ho]at hk;cases hk;exact hd CA
   rw [kP ⟨k,ok,hk,oN,hqk,CA⟩,kP ⟨k,ok,hk,by rw [getD_set_ne true mZ];exact oN,hqk,CA⟩]
  ·rw [dt hm,dt];rintro⟨k,ok,hk,oN,hqk,CA⟩;have mZ:i≠k:=fun e=>by subst e;rw [Cz]at oN;cases oN
   exact hm ⟨k,ok,hk,by rw [getD_set_ne true mZ]at oN;exact oN,hqk,CA⟩
theorem QJ(hq:¬q i):mask ops (ao.setIfInBounds i true) q f=mask ops ao q f:=by
 have e:∀s,(∃k o,ops[k]? = some o∧(ao.setIfInBounds i true).getD k true=false∧q k∧o.dst=some s) ↔ ∃k o,ops[k]? = some o∧ao.getD k true=false∧q k∧o.dst=some s:=by
  intro s
  constructor
  ·rintro⟨k,o,h1,h2,h3,h4⟩;have mZ:i≠k:=fun e=>by subst e;exact hq h3
   exact⟨k,o,h1,by rw [getD_set_ne true mZ]at h2;exact h2,h3,h4⟩
  ·rintro⟨k,o,h1,h2,h3,h4⟩;have mZ:i≠k:=fun e=>by subst e;exact hq h3
   exact⟨k,o,h1,by rw [getD_set_ne true mZ];exact h2,h3,h4⟩
 funext s
 by_cases h:∃k o,ops[k]? = some o∧ao.getD k true=false∧q k∧o.dst=some s
 ·rw [kP h,kP ((e s).2 h)]
 ·rw [dt h,dt fun h2=>h ((e s).1 h2)]
theorem Nt(hT:ShT E ops cl)(hd:∀o,o∈ops -> ∀t,o.dst=some t->t<n)(inv:HeadInv .any ops ops.size ao)
  (ho:ops[i]? = some o) (hr:i∈Region.ready .any ops ao) (hq:q i) (hY:QH E o.op=true) (hy:yv E o.op (aJ f) rows v) (hv:∀d,o.dst=some d->f d=v) (hR:Rel w0 S0 n G ⟨mask ops ao q f,rows,clk⟩ a w)
  (hK:∀a' w',Rel w0 S0 n G ⟨mask ops (ao.setIfInBounds i true) q f,rows,clk⟩ a' w'->K' a' w'):wpOp E.P ops Q i K' a w:=by
 unfold wpOp;rw [ho];simp only;rw [if_pos (by simp [Region.wanted,(hT.one i o ho).1])];refine .inl ?_;have e1:aJ (mask ops ao q f)=aJ (mask ops ao q f):=rfl;have tz:yv E o.op (aJ (mask ops ao q f)) rows v:=by have h1:=(lI (v:=v) (u:=none) hY (ρ:=aJ f) (rows:=rows)).2 ⟨hy,rfl⟩;exact((lI hY).1 ((oA (KV hT inv ho hr)).2 h1)).1
 refine af6 hY tz hR (hd o (Array.mem_of_getElem? ho)) fun a' w' gR=>hK a' w' ?_;rw [<-UK hT inv.size ho hq (mem_ready.1 hr).1 hv];exact gR
theorem Bf(hT:ShT E ops cl)(hd:∀o,o∈ops -> ∀t,o.dst=some t->t<n){Q:Exit->Act->World->Prop}{fv:Nat->PV}{rows:Rows}{clk:Nat}(hQ:∀a w,Rel w0 S0 n G ⟨fv,rows,clk⟩ a w->Q .normal a w) :
  ∀(fuel:Nat) (ao:Array Bool) (a:Act) (w:World),HeadInv .any ops ops.size ao->UJ ops ao=fuel ->
   (∀i o,ops[i]? = some o->ao.getD i true=false->QH E o.op=true ∧ ∃v,yv E o.op (aJ fv) rows v ∧ ∀d,o.dst=some d->fv d=v) ->
   Rel w0 S0 n G ⟨mask ops ao (fun _=>True) fv,rows,clk⟩ a w->wpAny E.P .any ops Q fuel ao a w
 | 0,ao,a,w,inv,hu,hy,hR=>by
  refine⟨?_,hQ a w ?_⟩
  ·cases h:Region.ready .any ops ao with
   | nil=>rfl
   | cons i l =>
    have hi:i∈Region.ready .any ops ao:=(by rw [h];simp);obtain⟨h1,o,ho,_⟩:=mem_ready.1 hi;rw [mF hu ho]at h1;cases h1
  ·have:mask ops ao (fun _=>True) fv=fv:=(by funext s;refine dt ?_;rintro⟨k,o,hk,mY,_⟩;rw [mF hu hk]at mY;cases mY);rw [this]at hR;exact hR
 | fuel+1,ao,a,w,inv,hu,hy,hR=>by
  refine⟨fun h=>absurd h (xZ (fun i o ho=>(hT.one i o ho).2.1) inv.size aa),fun i hi=>?_⟩;obtain⟨h1,o,ho,_⟩:=mem_ready.1 hi;have bZ:i<ops.size:=(Array.getElem?_eq_some_iff.1 ho).1;obtain⟨hY,v,h2,h3⟩:=hy i o ho h1;refine Nt hT hd inv ho hi trivial hY h2 h3 hR fun a' w' gR=>?_;refine Bf hT hd hQ fuel _ a' w' (inv.set hi bZ) (by have:=Ns inv.size bZ h1;omega) (fun k ok hk mY=>?_) gR
  by_cases mZ:i=k
  ·subst mZ;rw [show(ao.setIfInBounds i true).getD i true=true by simp [Array.getD,inv.size,bZ]]at mY;cases mY
  ·rw [getD_set_ne true mZ]at mY;exact hy k ok hk mY
end
def kpE(p:PV)(rows rows':Rows):Prop:=
 match p with
 | .ptr id _ _ _=>rows' id=rows id
 | .own id _ _ _=>rows' id=rows id
 | _=>True
def kpA(p:PV)(rows rows':Rows):Prop:=
 match p with
 | .ptr id _ _ _=>(rows' id).map Row.ver=(rows id).map Row.ver
 | _=>True
def kpO(op:Op)(ρ:Operand->PV)(rows rows':Rows):Prop:=
 match op with
 | .load _ p=>kpE (ρ p) rows rows'
 | .fieldAddr _ x _=>kpA (ρ x) rows rows'
 | .indexAddr _ x _=>kpE (ρ x) rows rows'
 | .nilCheck x=>kpA (ρ x) rows rows'
 | _=>True
theorem UL{p:PV}(h:kpE p rows rows')(hp:∀t id ver,p ≠ .m7 t id ver):iP (aL p) rows rows':=by
 intro id fp r hr;cases p with
 | ptr=>simp [aL]at fp;subst fp;exact(show rows' _=rows _ from h).trans hr
 | own=>simp [aL]at fp;subst fp;exact(show rows' _=rows _ from h).trans hr
 | m7 t id ver=>exact absurd rfl (hp t id ver)
 | _=>simp [aL]at fp
theorem Nu{ver j:Nat}(h:kpA (.ptr id ver i j) rows rows')(hr:∃r,rows id=some r∧r.ver=ver):∃r,rows' id=some r∧r.ver=ver:=by
 obtain⟨r,h1,h2⟩:=hr;have h3:(rows' id).map Row.ver=(rows id).map Row.ver:=h;rw [h1]at h3;cases h4:rows' id with
 | none=>rw [h4]at h3;cases h3
 | some r' =>
  rw [h4]at h3;simp at h3;exact⟨r',rfl,by rw [h3,h2]⟩
theorem UM(hY:QH E op=true)(h:kpO op ρ rows rows')(hy:yv E op ρ rows v):yv E op ρ rows' v:=by
 unfold QH at hY;split at hY
 case h_3 t p =>
  have hp:∀t id ver,ρ p ≠ .m7 t id ver:=fun t id ver he=>by have qB:qG E _ rows (ρ p) v:=hy;rw [he]at qB;exact qB.2.elim
  exact(GM (UL h hp) hy).1
 case h_4 t x i =>
  show dO E _ rows' _ _ v;have qB:dO E t rows i (ρ x) v:=hy;have h2:kpA (ρ x) rows rows':=h;unfold dO at qB |-
  split at qB
  ·rename_i fs z hE
   try simp only [hE]
   obtain⟨o,n,b,hf,qB⟩:=qB;refine⟨o,n,b,hf,?_⟩;cases hx:ρ x with
   | ptr id ver a j =>
    rw [hx]at qB h2;exact⟨Nu h2 qB.1,qB.2⟩
   | rd l=>rw [hx]at qB;exact qB
   | _=>rw [hx]at qB;exact qB.elim
  ·exact qB.elim
 case h_5 t x ix =>
  have hp:∀t id ver,ρ x ≠ .m7 t id ver:=fun t' id ver he=>by
   have qB:eG E t rows (ρ x) (ρ ix) v:=hy;rw [he]at qB;unfold eG at qB
   split at qB
   ·split at qB
    ·exact qB.2.elim
    ·exact qB.elim
   ·split at qB
    ·exact qB.2.elim
    ·exact qB.elim
   ·exact qB.elim
  exact(tC (UL h hp) hy).1
 case h_6 x =>
  have qB:wQ rows (ρ x) v:=hy;have h2:kpA (ρ x) rows rows':=h;show wQ rows' (ρ x) v;unfold wQ at qB |-;cases hx:ρ x with
  | ptr id ver a j =>
   rw [hx]at qB h2;exact⟨Nu h2 qB.1,qB.2⟩
  | rd l=>rw [hx]at qB;exact qB
  | _=>rw [hx]at qB;exact qB.elim
 all_goals first
  | exact absurd hY Bool.false_ne_true
  | exact hy
def XM(E:Env)(ops:List Oper)(kp:Rows->Rows->Prop):List Oper->(PS->Prop)->PS->Prop
 | [],K,σ=>K σ
 | o::os,K,σ=>aC E ops [o] (fun σ'=>kp σ.rows σ'.rows∧XM E ops kp os K σ') σ
def lZ(a:Act):List (Tmp × Value)->Act
 | []=>a
 | p::l=>(lZ a l).put (some p.1) p.2
section
variable {E:Env} {w0:World} {S0:dz} {n:Nat} {G:Gs} {ops:Array Oper} {cl:Nat->Nat}
theorem xh{L:List Oper}{K:PS->Prop}{rows:Rows}{clk:Nat}:∀(l:List Oper) (f:Nat->PV),(∀o∈l,QH E o.op=true∧o.guard=none ∧ ∀d,o.dst=some d -> ∀x∈o.op.operands,x ≠ .tmp d) ->
  l.Pairwise (fun o o'=>∀d,o'.dst=some d->o.dst≠some d ∧ ∀x∈o.op.operands,x ≠ .tmp d)->aC E L l K ⟨f,rows,clk⟩ ->
  ∃f',K ⟨f',rows,clk⟩∧(∀o∈l,∃v,yv E o.op (aJ f') rows v ∧ ∀d,o.dst=some d->f' d=v) ∧ ∀s,(∀o∈l,o.dst≠some s)->f' s=f s
 | [],f,_,_,h=>⟨f,h,av,fun _ _=>rfl⟩
 | o::os,f,h1,h2,h=>by
  obtain⟨hY,hg,ho⟩:=h1 o av;simp only [aC,hg]at h;obtain⟨v,hv,hk⟩:=(DB hY).1 h;obtain⟨hp,hos⟩:=pairwise_cons.1 h2;obtain⟨f',q1,q2,q3⟩:=xh os _ (fun o' tq=>h1 o' (by simp [tq])) hos hk
  have e1:∀x∈o.op.operands,aJ f' x=aJ f x:=fun x hx=>by
   cases x with
   | tmp t =>
    have h5:f' t=put f o.dst v t:=q3 t fun o' tq hd=>((hp o' tq t hd).2 _ hx) rfl;show f' t=f t;rw [h5];cases hd:o.dst with
    | none=>rfl
    | some d =>
     have:t≠d:=fun e=>ho d hd _ hx (by rw [e]);simp [put,this]
   | _=>rfl
  refine⟨f',q1,fun o' tq=>?_,fun s hs=>?_⟩
  ·rcases mem_cons.1 tq with rfl | tq
   ·refine⟨v,?_,fun d hd=>?_⟩
    ·have h6:=(lI (v:=v) (u:=none) hY (ρ:=aJ f) (rows:=rows)).2 ⟨hv,rfl⟩;exact((lI hY).1 ((oA e1).2 h6)).1
    ·have h5:f' d=put f o'.dst v d:=q3 d fun o2 ho2 GU=>(hp o2 ho2 d GU).1 hd;rw [h5,hd];simp [put]
   ·exact q2 o' tq
  ·rw [q3 s fun o' tq=>hs o' (by simp [tq])];cases hd:o.dst with
   | none=>rfl
   | some d =>
    have:s≠d:=fun e=>hs o av (by rw [hd,e]);simp [put,this]
theorem complete(hT:ShT E ops cl)(hd:∀o,o∈ops -> ∀t,o.dst=some t->t<n){ao:Array Bool}{fv:Nat->PV}{rows:Rows}{clk:Nat}(hH:∀i o,ops[i]? = some o->cl i=0 -> ∃v,yv E o.op (aJ fv) rows v ∧ ∀d,o.dst=some d->fv d=v){a:Act}{w:World}
  (hR:Rel w0 S0 n G ⟨mask ops ao (fun i=>cl i=0) fv,rows,clk⟩ a w):∀m,∃l:List (Tmp × Value),(∀p∈l,∃i o,ops[i]? = some o∧ao.getD i true=false∧cl i=0∧o.dst=some p.1)∧Rel w0 S0 n G ⟨mask ops ao (fun i=>cl i=0∧m<=i) fv,rows,clk⟩ (lZ a l) w
 | 0=>⟨[],av,hR.KU fun s=>by
  by_cases h:∃i o,ops[i]? = some o∧ao.getD i true=false∧(cl i=0∧0<=i)∧o.dst=some s
  ·exact .inr (kP h)
  ·left;rw [dt h,dt];rintro⟨i,o,h1,h2,h3,h4⟩;exact h ⟨i,o,h1,h2,⟨h3,Nat.zero_le _⟩,h4⟩⟩
 | m+1=>by
  obtain⟨l,h1,h2⟩:=complete hT hd hH hR m
  by_cases hm:∃o d,ops[m]? = some o∧ao.getD m true=false∧cl m=0∧o.dst=some d
  ·obtain⟨o,d,ho,mY,hc,yF⟩:=hm;obtain⟨v,hv,hvd⟩:=hH m o ho hc;have hY:=(hT.one m o ho).2.2.1 (.inl hc)
   have e1:∀x∈o.op.operands,aJ (mask ops ao (fun i=>cl i=0∧m<=i) fv) x=aJ fv x:=by
    intro x hx;cases x with
    | tmp t =>
     refine dt ?_;rintro⟨k,ok,hk,oN,⟨_,hmk⟩,CA⟩;have hl:t∈o.looksAt ops:=mem_append_left _ (mem_filterMap.2 ⟨.tmp t,au hx,rfl⟩)
     by_cases XY:k=m
     ·subst XY;rw [ho]at hk;cases hk;exact(hT.one _ o ho).2.2.2.2.1 t CA hl
     ·have:=E8 (fun i o ho=>(hT.one i o ho).2.1) 12 m k ((hT.two k m ok o XY hk ho t CA).2 hl).1;omega
    | _=>rfl
   have tz:yv E o.op (aJ (mask ops ao (fun i=>cl i=0∧m<=i) fv)) rows v:=(by have h6:=(lI (v:=v) (u:=none) hY (ρ:=aJ fv) (rows:=rows)).2 ⟨hv,rfl⟩;exact((lI hY).1 ((oA e1).2 h6)).1);obtain⟨⟨c,q1,q2,q3,q4,q5,q6⟩,q7,q8⟩:=h2;subst q1;have q2':c.rows=rows:=q2;rw [<-q2']at tz;obtain⟨u,_,hu⟩:=SJ (o:=o) q4 q5 tz
   refine⟨(d,u)::l,fun p hp=>?_,?_⟩
   ·rcases mem_cons.1 hp with rfl | hp
    ·exact⟨m,o,ho,mY,hc,yF⟩
    ·exact h1 p hp
   ·have JY:Rel w0 S0 n G ⟨put (mask ops ao (fun i=>cl i=0∧m<=i) fv) (some d) v,rows,clk⟩ ((lZ a l).put (some d) u) c.w:=
     oV q5 q6 q7 q8 (so.refl c) q4 hu (fun t ht=>by cases ht;exact hd o (Array.mem_of_getElem? ho) d yF) rfl q2'.symm q3
    refine JY.KU fun s=>?_
    by_cases h:∃i o,ops[i]? = some o∧ao.getD i true=false∧(cl i=0∧m+1<=i)∧o.dst=some s
    ·exact .inr (kP h)
    ·left;rw [dt h]
     by_cases hs:s=d
     ·subst hs;simp [put,hvd s yF]
     ·simp only [put,if_neg hs];rw [dt];rintro⟨k,ok,hk,oN,⟨Jr,hmk⟩,CA⟩
      by_cases XY:k=m
      ·subst XY;rw [ho]at hk;cases hk;rw [yF]at CA;cases CA;exact hs rfl
      ·exact h ⟨k,ok,hk,oN,⟨Jr,aa⟩,CA⟩
  ·refine⟨l,h1,h2.KU fun s=>?_⟩
   by_cases h:∃i o,ops[i]? = some o∧ao.getD i true=false∧(cl i=0∧m+1<=i)∧o.dst=some s
   ·exact .inr (kP h)
   ·left;rw [dt h,dt];rintro⟨k,ok,hk,oN,⟨Jr,hmk⟩,CA⟩
    by_cases XY:k=m
    ·subst XY;exact hm ⟨ok,s,hk,oN,Jr,CA⟩
    ·exact h ⟨k,ok,hk,oN,⟨Jr,aa⟩,CA⟩
theorem xj(a:Act){y:Option Tmp}(u:Value):∀ {l:List (Tmp × Value)},(∀p∈l,y≠some p.1)->(lZ a l).put y u=lZ (a.put y u) l
 | [],_=>rfl
 | p::l,h=>by show((lZ a l).put (some p.1) p.2).put y u=(lZ (a.put y u) l).put (some p.1) p.2;rw [Act.put_comm _ p.2 u (fun d hd=>by cases hd;exact h p av),xj a u fun q hq=>h q (by simp [hq])]
theorem x6(a:Act)(d:Deferred):∀ {l:List (Tmp × Value)},({ lZ a l with defers:=d::(lZ a l).defers }:Act)=lZ { a with defers:=d::a.defers } l
 | []=>rfl
 | p::l=>by show({ (lZ a l).put (some p.1) p.2 with defers:=d::((lZ a l).put (some p.1) p.2).defers }:Act)=(lZ { a with defers:=d::a.defers } l).put (some p.1) p.2;rw [Act.put_defers,x6 a d]
theorem DC{o:Oper}(hs:∀cs b,o.op ≠ .select cs b)(a:Act):∀ {l:List (Tmp × Value)},(∀p∈l,p.1 ∉ o.looksAt ops)->execOp (lZ a l).eval o=execOp a.eval o
 | [],_=>rfl
 | p::l,h=>by show execOp ((lZ a l).put (some p.1) p.2).eval o=_;rw [execOp_put (ops:=ops) o hs _ _ _ (fun d hd=>by cases hd;exact h p av),DC hs a fun q hq=>h q (by simp [hq])]
theorem QK{P:Program}(hs:∀cs b,o.op ≠ .select cs b){l:List (Tmp × Value)}(hl:∀p∈l,p.1 ∉ o.looksAt ops∧o.dst≠some p.1){K:Act->World->Prop}
  (h:o.wp P (lZ a l) w K (fun _ _ _=>False)):o.wp P a w (fun a' w'=>K (lZ a' l) w') Q:=by
 unfold Oper.wp at h |-;rw [DC (ops:=ops) hs a fun p hp=>(hl p hp).1]at h;have hc:=fun u=>xj a (y:=o.dst) u fun p hp=>(hl p hp).2;generalize (execOp a.eval o).run P w=r at *;cases r with
 | ok nx w' =>
  cases nx<;>simp only [Oper.upon]at h |-
  case value u=>rw [<-hc];exact h
  case skip=>rw [<-hc];exact h
  case defer d =>
   rw [x6,xj _ _ fun p hp=>(hl p hp).2]at h;exact h
  case enter f args =>
   refine Calls.mono h fun e w'' he=>?_;cases e with
   | returned u=>show K (lZ (a.put o.dst u) l) w'';rw [<-hc];exact he
   | panicked c=>exact he.elim
   | outgrown=>obtain⟨_,_,he⟩:=he;exact he.elim
  case row row args=>exact Rows.mono h fun u w'' he=>by rw [<-hc];exact he
 | halt x w' =>
  cases x<;>simp only [Oper.upon]at h |-
theorem HN{a:Act}{s:Nat}{d:Value}:∀ {l:List (Tmp × Value)},(∀p∈l,p.1≠s)->(lZ a l).tmps.getD s d=a.tmps.getD s d
 | [],_=>rfl
 | p::l,h=>by have h1:=h p av;have h2:=HN (a:=a) (d:=d) (l:=l) (s:=s) fun q hq=>h q (by simp [hq]);rw [<-h2];show((lZ a l).put (some p.1) p.2).tmps.getD s d=_;simp [Act.put,Array.getD_eq_getD_getElem?,Array.getElem?_setIfInBounds_ne h1]
theorem DE{a:Act}:∀ {l:List (Tmp × Value)},(lZ a l).tmps.size=a.tmps.size
 | []=>rfl
 | p::l=>by rw [<-DE (a:=a) (l:=l)];show((lZ a l).put (some p.1) p.2).tmps.size=_;simp [Act.put]
theorem HO{a:Act}:∀ {l:List (Tmp × Value)},(lZ a l).defers=a.defers
 | []=>rfl
 | p::l=>by rw [<-HO (a:=a) (l:=l)];rfl
end
def jZ(c:Nat):List Oper->List Nat->List Oper
 | o::os,k::ks=>if k=c then o::jZ c os ks else jZ c os ks
 | _,_=>[]
theorem Bh{c:Nat}{o:Oper}:∀ {l:List Oper} {ks:List Nat},l.length=ks.length->(o∈jZ c l ks ↔ ∃i,l[i]? = some o∧ks.getD i 0=c∧i<ks.length)
 | [],[],_=>by simp [jZ]
 | o'::os,k::ks,h=>by
  have ih:=Bh (c:=c) (o:=o) (l:=os) (ks:=ks) (au h)
  have e:(∃i,(o'::os)[i]? = some o∧(k::ks).getD i 0=c∧i<(k::ks).length)↔(o'=o∧k=c) ∨ ∃i,os[i]? = some o∧ks.getD i 0=c∧i<ks.length:=by
   constructor
   ·rintro⟨i,h1,h2,h3⟩;cases i with
    | zero=>left;exact⟨by simpa using h1,au h2⟩
    | succ i=>right;exact⟨i,au h1,au h2,au h3⟩
   ·rintro(⟨rfl,rfl⟩ | ⟨i,h1,h2,h3⟩)
    ·exact⟨0,av,av,av⟩
    ·exact⟨i+1,au h1,au h2,au h3⟩
  rw [e,jZ]
  split
  ·rename_i hk;rw [mem_cons,ih]
   constructor
   ·rintro(rfl | h)
    ·exact .inl ⟨rfl,hk⟩
    ·exact .inr h
   ·rintro(⟨rfl,_⟩ | h)
    ·exact .inl rfl
    ·exact .inr h
  ·rename_i hk;rw [ih]
   constructor
   ·exact .inr
   ·rintro(⟨_,h⟩ | h)
    ·exact absurd h hk
    ·exact h
 | [],_::_,h=>by simp at h
 | _::_,[],h=>by simp at h
theorem DF{c:Nat}{R:Oper->Oper->Prop}:∀ {l:List Oper} {ks:List Nat},l.length=ks.length->(∀i j oi oj,i<j->l[i]? = some oi->l[j]? = some oj->ks.getD i 0=c->ks.getD j 0=c->R oi oj)->(jZ c l ks).Pairwise R
 | [],[],_,_=>by simp [jZ]
 | o::os,k::ks,h,hR=>by
  have ih:=DF (c:=c) (R:=R) (l:=os) (ks:=ks) (au h) fun i j oi oj qy h1 h2 h3 h4=>hR (i+1) (j+1) oi oj aa (au h1) (au h2) (au h3) (au h4);rw [jZ]
  split
  ·rename_i hk;refine pairwise_cons.2 ⟨fun o' tq=>?_,ih⟩;obtain⟨i,h1,h2,_⟩:=(Bh (au h)).1 tq;exact hR 0 (i+1) o o' aa av (au h1) (au hk) (au h2)
  ·exact ih
 | [],_::_,h,_=>by simp at h
 | _::_,[],h,_=>by simp at h
def s9(ops:Array Oper)(cl:Nat->Nat)(ao:Array Bool):List Nat:=(List.range ops.size).filter fun i=>cl i==1 && !ao.getD i true
def opsOf(ops:Array Oper)(l:List Nat):List Oper:=l.filterMap fun i=>ops[i]?
theorem Bi{c:Nat}:∀(l:List Oper) (ks:List Nat),l.length=ks.length->((List.range l.length).filter fun i=>ks.getD i 0==c).filterMap (fun i=>l[i]?)=jZ c l ks
 | [],[],_=>by simp [jZ]
 | o::os,k::ks,h=>by
  have ih:=Bi (c:=c) os ks (au h);rw [length_cons,range_succ_eq_map,filter_cons,filter_map];have e:((filter ((fun i=>(k::ks).getD i 0==c) ∘ Nat.succ) (List.range os.length)).map Nat.succ).filterMap (fun i=>(o::os)[i]?)=jZ c os ks:=by rw [filterMap_map,<-ih];congr 1
  by_cases hk:k=c
  ·rw [if_pos (au hk),filterMap_cons,e,jZ,if_pos hk];rfl
  ·rw [if_neg (au hk),e,jZ,if_neg hk]
 | [],_::_,h=>by simp at h
 | _::_,[],h=>by simp at h
section
variable {E:Env} {w0:World} {S0:dz} {n:Nat} {G:Gs} {ops:Array Oper} {cl:Nat->Nat}
theorem QL(hT:ShT E ops cl)(hd:∀o,o∈ops -> ∀t,o.dst=some t->t<n){L:List Oper}{Rs:List Oper}(hRs:∀o,o∈Rs ↔ ∃i,ops[i]? = some o∧cl i=2)(hRp:Rs.Pairwise fun o o'=>∀d,o'.dst=some d->o.dst≠some d ∧ ∀x∈o.op.operands,x ≠ .tmp d)
  {K:PS->Prop} (hQ:∀σ a w,K σ->Rel w0 S0 n G σ a w->Q .normal a w) {f0:Nat->PV} {kp:Rows->Rows->Prop} (Nv:∀r r',kp r r' -> ∀i o,ops[i]? = some o->cl i=0 -> ∀v,yv E o.op (aJ f0) r v->yv E o.op (aJ f0) r' v) :
  ∀(fuel:Nat) (ao:Array Bool) (a:Act) (w:World) (fv:Nat->PV) (rows:Rows) (clk:Nat),HeadInv .any ops ops.size ao->UJ ops ao=fuel->(∀i o,ops[i]? = some o->cl i=2->ao.getD i true=false) ->
   (∀i o,ops[i]? = some o->cl i=0->(∀x∈o.op.operands,aJ fv x=aJ f0 x)∧(∀d,o.dst=some d->fv d=f0 d) ∧ ∃v,yv E o.op (aJ f0) rows v ∧ ∀d,o.dst=some d->f0 d=v) ->
   XM E L kp (opsOf ops (s9 ops cl ao)) (aC E L Rs K) ⟨fv,rows,clk⟩->Rel w0 S0 n G ⟨mask ops ao (fun i=>cl i=0) fv,rows,clk⟩ a w->wpAny E.P .any ops Q fuel ao a w:=by
 intro fuel
 induction fuel with
 | zero =>
  intro ao a w fv rows clk inv hu JY hH hp hR;have CB:s9 ops cl ao = []:=by refine filter_eq_nil_iff.2 fun i hi=>?_;have bZ:=mem_range.1 hi;have:=mF hu (i:=i) (o:=ops[i]) (by simp [bZ]);rw [this];simp
  rw [CB]at hp
  have wZ:Rs = []:=by
   cases h:Rs with
   | nil=>rfl
   | cons o l =>
    obtain⟨i,h1,h2⟩:=(hRs o).1 (by rw [h];simp);have:=JY i o h1 h2;rw [mF hu h1]at this;cases this
  rw [wZ]at hp;refine Bf hT hd (fv:=fv) (rows:=rows) (clk:=clk) (fun a w hh=>hQ _ a w hp hh) 0 ao a w inv hu (fun i o ho mY=>by rw [mF hu ho]at mY;cases mY) (hR.KU fun s=>?_);left
  rw [dt,dt]
  ·rintro⟨k,o,hk,mY,_⟩;rw [mF hu hk]at mY;cases mY
  ·rintro⟨k,o,hk,mY,_⟩;rw [mF hu hk]at mY;cases mY
 | succ fuel ih =>
  intro ao a w fv rows clk inv hu JY hH hp hR;have hHv:∀i o,ops[i]? = some o->cl i=0 -> ∃v,yv E o.op (aJ fv) rows v ∧ ∀d,o.dst=some d->fv d=v:=fun i o ho hc=>by obtain⟨e1,e2,v,h1,h2⟩:=hH i o ho hc;have hY:=(hT.one i o ho).2.2.1 (.inl hc);refine⟨v,?_,fun d hd=>by rw [e2 d hd,h2 d hd]⟩;have h6:=(lI (v:=v) (u:=none) hY (ρ:=aJ f0) (rows:=rows)).2 ⟨h1,rfl⟩;exact((lI hY).1 ((oA e1).2 h6)).1
  cases CB:s9 ops cl ao with
  | nil =>
   rw [CB]at hp;have lU:aC E L Rs K ⟨fv,rows,clk⟩:=hp;obtain⟨f',q1,q2,q3⟩:=xh Rs fv (fun o ho=>by obtain⟨i,h1,h2⟩:=(hRs o).1 ho;have t1:=hT.one i o h1;refine⟨t1.2.2.1 (.inr h2),t1.1,fun d Nw x hx hxd=>?_⟩;subst hxd;exact t1.2.2.2.2.1 d Nw (mem_append_left _ (mem_filterMap.2 ⟨.tmp d,au hx,rfl⟩))) hRp lU
   refine Bf hT hd (fv:=f') (rows:=rows) (clk:=clk) (fun a w hh=>hQ _ a w q1 hh) (fuel+1) ao a w inv hu (fun i o ho mY=>?_) (hR.KU fun s=>?_)
   ·have t1:=hT.one i o ho;have JR:cl i<=2:=t1.2.2.2.1
    by_cases hc:cl i=2
    ·exact⟨t1.2.2.1 (.inr hc),q2 o ((hRs o).2 ⟨i,ho,hc⟩)⟩
    ·have pY:cl i=0:=(by refine Classical.byContradiction fun h0=>?_;have h1:cl i=1:=aa;have bZ:i<ops.size:=(Array.getElem?_eq_some_iff.1 ho).1;have:i∈s9 ops cl ao:=mem_filter.2 ⟨mem_range.2 bZ,by simp only [h1,mY];rfl⟩;rw [CB]at this;cases this);obtain⟨v,h1,h2⟩:=hHv i o ho pY
     have wZ:∀t,(∃x∈o.op.operands,x = .tmp t)∨o.dst=some t -> ∀o'∈Rs,o'.dst≠some t:=by
      intro t ht o' tq MQ;obtain⟨k,k1,k2⟩:=(hRs o').1 tq;have mZ:k≠i:=fun e=>by subst e;omega
      rcases ht with ⟨x,hx,rfl⟩ | ht
      ·have:=((hT.two k i o' o mZ k1 ho t MQ).2 (mem_append_left _ (mem_filterMap.2 ⟨.tmp t,au hx,rfl⟩))).2;omega
      ·exact(hT.two k i o' o mZ k1 ho t MQ).1 ht
     have hY:=t1.2.2.1 (.inl pY)
     refine⟨hY,v,?_,fun d Nw=>?_⟩
     ·have h6:=(lI (v:=v) (u:=none) hY (ρ:=aJ fv) (rows:=rows)).2 ⟨h1,rfl⟩;refine((lI hY).1 ((oA (ρ:=aJ f') fun x hx=>?_).2 h6)).1;cases x with
      | tmp t=>exact q3 t (wZ t (.inl ⟨_,hx,rfl⟩))
      | _=>rfl
     ·rw [q3 d (wZ d (.inr Nw)),h2 d Nw]
   ·by_cases h:∃i o,ops[i]? = some o∧ao.getD i true=false∧True∧o.dst=some s
    ·exact .inr (kP h)
    ·left
     rw [dt h,dt]
     ·refine q3 s fun o ho yW=>?_;obtain⟨i,h1,h2⟩:=(hRs o).1 ho;exact h ⟨i,o,h1,JY i o h1 h2,trivial,yW⟩
     ·rintro⟨i,o,h1,h2,_,h4⟩;exact h ⟨i,o,h1,h2,trivial,h4⟩
  | cons j tr =>
   have hj:j∈s9 ops cl ao:=(by rw [CB];simp);obtain⟨hjr,hjc⟩:=mem_filter.1 hj;have amw:=mem_range.1 hjr;simp only [Bool.and_eq_true,beq_iff_eq,Bool.not_eq_true']at hjc;obtain⟨hj1,Ym⟩:=hjc;have EB:ops[j]? = some ops[j]:=(by simp [amw]);refine⟨fun h=>absurd h (xZ (fun i o ho=>(hT.one i o ho).2.1) inv.size aa),fun i hi=>?_⟩;obtain⟨mY,o,ho,oX⟩:=mem_ready.1 hi;have bZ:i<ops.size:=(Array.getElem?_eq_some_iff.1 ho).1;have JR:cl i<=2:=(hT.one i o ho).2.2.2.1;have Cz:(ao.setIfInBounds i true).getD i true=true:=(by simp [Array.getD,inv.size,bZ]);have amx:=inv.set hi bZ;have GD:UJ ops (ao.setIfInBounds i true)=fuel:=(by have:=Ns inv.size bZ mY;omega);have acK:lB .any ops.toList i j=true->False:=fun hdp=>by have:=nt inv 12 i o ho oX hdp;rw [getD_both Ym]at this;cases this
   by_cases pY:cl i=0
   ·-- one that only looks
    obtain⟨v,h1,h2⟩:=hHv i o ho pY;refine Nt hT hd inv ho hi pY ((hT.one i o ho).2.2.1 (.inl pY)) h1 h2 hR fun a' w' gR=>?_
    refine ih _ a' w' fv rows clk amx GD (fun k ok hk Jr=>?_) hH ?_ gR
    ·have mZ:i≠k:=fun e=>by subst e;omega
     rw [getD_set_ne true mZ];exact JY k ok hk Jr
    ·have:s9 ops cl (ao.setIfInBounds i true)=s9 ops cl ao:=by
      refine filter_congr fun k hk=>?_
      by_cases mZ:i=k
      ·subst mZ;rw [pY];rfl
      ·rw [getD_set_ne true mZ]
     rw [this];exact hp
   ·by_cases qQ:cl i=1
    ·-- the next call
     have qy:i=j:=by
      refine Classical.byContradiction fun km=>?_;have UN:i∈s9 ops cl ao:=mem_filter.2 ⟨mem_range.2 bZ,by simp only [qQ,mY];rfl⟩;rw [CB]at UN
      have hit:i∈tr:=by
       rcases mem_cons.1 UN with h | h
       ·exact absurd h km
       ·exact h
      have vL:(s9 ops cl ao).Pairwise (· < ·):=List.Pairwise.filter _ pairwise_lt_range;rw [CB]at vL;have Zu:=(pairwise_cons.1 vL).1 i hit;exact acK (hT.chain j i Zu bZ hj1 qQ)
     subst qy;rw [EB]at ho;cases ho;have t1:=hT.one i _ EB;rw [CB]at hp;have ar2:opsOf ops (i::tr)=ops[i]::opsOf ops tr:=(by simp only [opsOf,filterMap_cons,EB]);rw [ar2]at hp;have Zv:dJ E ops[i] (fun σ'=>kp rows σ'.rows∧XM E L kp (opsOf ops tr) (aC E L Rs K) σ') ⟨fv,rows,clk⟩:=(by have:aC E L [ops[i]] (fun σ'=>kp rows σ'.rows∧XM E L kp (opsOf ops tr) (aC E L Rs K) σ') ⟨fv,rows,clk⟩:=hp;simp only [aC,t1.1]at this;exact this);have Gq:=KT Zv;obtain⟨l,hl,hRl⟩:=complete hT hd hHv hR ops.size;have hRf:Rel w0 S0 n G ⟨fv,rows,clk⟩ (lZ a l) w:=hRl.KU fun s=>by left;rw [dt];rintro⟨k,ok,hk,_,⟨_,hle⟩,_⟩;have:=(Array.getElem?_eq_some_iff.1 hk).1;omega
     have AV:∀p∈l,p.1 ∉ ops[i].looksAt ops∧ops[i].dst≠some p.1:=fun p lU=>by
      obtain⟨k,ok,hk,oN,Jr,CA⟩:=hl p lU;have mZ:k≠i:=fun e=>by subst e;omega
      have h2:=hT.two k i ok ops[i] mZ hk EB p.1 CA;refine⟨fun hm=>?_,h2.1⟩;have:=nt inv 12 i ops[i] EB (by obtain⟨_,o',tq,amy⟩:=mem_ready.1 hi;rw [EB]at tq;cases tq;exact amy) (h2.2 hm).1;rw [getD_both oN]at this;cases this
     have hwp:=nr (Q:=fun _ _ _=>False) (K':=fun a' w'=>∃σ',((∃v,σ'.f=put fv ops[i].dst v)∧kp rows σ'.rows∧XM E L kp (opsOf ops tr) (aC E L Rs K) σ')∧Rel w0 S0 n G σ' a' w') Gq hRf (hd _ (Array.mem_of_getElem? EB)) fun σ' a' w' h1 h2=>⟨σ',h1,h2⟩
     have ar3:=QK (ops:=ops) (Q:=Q) t1.2.2.2.2.2 AV hwp;unfold wpOp;rw [EB];simp only;rw [if_pos (by simp [Region.wanted,t1.1])];refine .inl (Oper.wp_mono (fun a' w' hh=>?_) ar3);obtain⟨⟨f2,rG,ar4⟩,⟨⟨v,hf2⟩,hk2,hp3⟩,hR3⟩:=hh;simp only at hf2 hk2
     have wZ:∀k ok,ops[k]? = some ok->cl k=0->(∀x∈ok.op.operands,aJ f2 x=aJ fv x) ∧ ∀d,ok.dst=some d->f2 d=fv d:=fun k ok hk Jr=>by
      have mZ:i≠k:=fun e=>by subst e;omega
      refine⟨fun x hx=>?_,fun d Nw=>?_⟩
      ·cases x with
       | tmp t =>
        show f2 t=fv t;rw [hf2];cases yF:ops[i].dst with
        | none=>rfl
        | some d =>
         have:t≠d:=fun e=>by subst e;have:=((hT.two i k ops[i] ok mZ EB hk t yF).2 (mem_append_left _ (mem_filterMap.2 ⟨.tmp t,au hx,rfl⟩))).2;omega
         simp [put,this]
       | _=>rfl
      ·rw [hf2];cases yF:ops[i].dst with
       | none=>rfl
       | some d' =>
        have:d≠d':=fun e=>by subst e;exact(hT.two i k ops[i] ok mZ EB hk d yF).1 Nw
        simp [put,this]
     refine ih _ a' w' f2 rG ar4 amx GD (fun k ok hk Jr=>?_) (fun k ok hk Jr=>?_) ?_ ?_
     ·have mZ:i≠k:=fun e=>by subst e;omega
      rw [getD_set_ne true mZ];exact JY k ok hk Jr
     ·obtain⟨e1,e2,v',h1,h2⟩:=hH k ok hk Jr;obtain⟨g1,g2⟩:=wZ k ok hk Jr;exact⟨fun x hx=>(g1 x hx).trans (e1 x hx),fun d Nw=>(g2 d Nw).trans (e2 d Nw),v',Nv _ _ hk2 k ok hk Jr v' h1,h2⟩
     ·have:s9 ops cl (ao.setIfInBounds i true)=tr:=by
       have h0:s9 ops cl (ao.setIfInBounds i true)=(s9 ops cl ao).filter fun k=>k != i:=by
        unfold s9;rw [filter_filter];refine filter_congr fun k hk=>?_
        by_cases mZ:i=k
        ·subst mZ;rw [Cz];simp
        ·rw [getD_set_ne true mZ];have:(k != i)=true:=(by simpa using fun e=>mZ e.symm);rw [this,Bool.true_and]
       have vL:(s9 ops cl ao).Pairwise (· < ·):=List.Pairwise.filter _ pairwise_lt_range;rw [h0,CB];rw [CB]at vL;have h1:=(pairwise_cons.1 vL).1;rw [filter_cons,if_neg av];refine filter_eq_self.2 fun k hk=>?_;have:=h1 k hk;simp;omega
      rw [this];exact hp3
     ·obtain⟨⟨c,r1,r2,r3,r4,r5,r6⟩,r7,r8⟩:=hR3;refine⟨⟨c,r1,r2,r3,r4,fun s=>?_,r6⟩,by rw [<-r7,DE],by rw [<-r8,HO]⟩;show az c (mask ops (ao.setIfInBounds i true) (fun i=>cl i=0) f2 s) _;rw [QJ aa]
      by_cases hm:∃k ok,ops[k]? = some ok∧ao.getD k true=false∧cl k=0∧ok.dst=some s
      ·rw [kP hm];trivial
      ·rw [dt hm];have:=r5 s
       rw [HN]at this
       ·exact this
       ·intro p lU he;obtain⟨k,ok,hk,oN,Jr,CA⟩:=hl p lU;exact hm ⟨k,ok,hk,oN,Jr,by rw [CA,he]⟩
    ·exact(acK (hT.last j i amw bZ hj1 aa)).elim
end
def kpL(ρ:Operand->PV)(rows rows':Rows):List Oper->Prop
 | []=>True
 | o::os=>kpO o.op ρ rows rows'∧kpL ρ rows rows' os
theorem Nz{ρ:Operand->PV}{rows rows':Rows}:∀ {l:List Oper},kpL ρ rows rows' l -> ∀o∈l,kpO o.op ρ rows rows'
 | [],_,_,h=>by cases h
 | o::l,h,o',ho=>by
  rcases mem_cons.1 ho with rfl | ho
  ·exact h.1
  ·exact Nz h.2 o' ho
section
variable {E:Env} {n:Nat} {tl:Nat->Nat} {Q:PX->PS->Prop}
theorem DG{ops:Array Oper}{d:Tmp}(h:d ∉ o.looksAt ops):∀x∈o.op.operands,x ≠ .tmp d:=by rintro x hx rfl;exact h (mem_append_left _ (mem_filterMap.2 ⟨.tmp d,au hx,rfl⟩))
def aga(E:Env)(ops:List Oper)(cls:List Nat)(K:PS->Prop)(σ:PS):Prop:=
 aC E ops (jZ 0 ops cls) (fun σ1=>go (XM E ops (fun r r'=>kpL (aJ σ1.f) r r' (jZ 0 ops cls)) (jZ 1 ops cls) (fun σ2=>go (aC E ops (jZ 2 ops cls) K σ2)) σ1)) σ
theorem W.amz(cls:List Nat)(hB:af8 E ops cls=true)(hl:ops.length=cls.length)(h:∀K:PS->Prop,(∀σ,Q .normal σ->K σ)->aga E ops cls K σ):W E n tl (.region id ops.toArray true) Q σ:=by
 intro ec w0 S0 G a w Q' hR hQ;have hT:=QI hB;simp only [dQ,pS,Bool.and_eq_true]at ec;have hd:∀o,o∈ops.toArray -> ∀t,o.dst=some t->t<n:=by intro o ho t ht;have:=Array.all_eq_true_iff_forall_mem.1 ec.1 o ho;simpa [ht]using this
 refine wp_region_any E.mixed ?_;have Ap:=hR.drew;obtain⟨f,rows,clk⟩:=σ;have acM:∀c,(jZ c ops cls).Pairwise fun o o'=>∀d,o'.dst=some d->o.dst≠some d ∧ ∀x∈o.op.operands,x ≠ .tmp d:=fun c=>DF hl fun i j oi oj qy hi hj _ _ d hdj=>by have h2:=hT.two j i oj oi aa (au hj) (au hi) d hdj;refine⟨h2.1,DG (ops:=ops.toArray) fun hm=>?_⟩;have:=E8 (fun i o ho=>(hT.one i o ho).2.1) 12 i j (h2.2 hm).1;omega
 have lA:∀c o,o∈jZ c ops cls ↔ ∃i,ops.toArray[i]? = some o∧i<cls.length∧cls.getD i 0=c:=fun c o=>by
  rw [Bh hl]
  constructor
  ·rintro⟨i,h1,h2,h3⟩;exact⟨i,au h1,h3,h2⟩
  ·rintro⟨i,h1,h2,h3⟩;exact⟨i,au h1,h3,h2⟩
 have HP:∀c o,o∈jZ c ops cls ↔ ∃i,ops.toArray[i]? = some o∧cls.getD i 0=c:=fun c o=>by
  rw [lA]
  constructor
  ·rintro⟨i,h1,_,h3⟩;exact⟨i,h1,h3⟩
  ·rintro⟨i,h1,h3⟩;have:=(Array.getElem?_eq_some_iff.1 h1).1;exact⟨i,h1,by rw [<-hl];simpa using this,h3⟩
 have hK:=h (fun σ=>Q .normal σ) (fun _ h=>h);obtain⟨f',q1,q2,q3⟩:=xh (jZ 0 ops cls) f (fun o ho=>by obtain⟨i,h1,h2⟩:=(HP 0 o).1 ho;have t1:=hT.one i o h1;exact⟨t1.2.2.1 (.inl h2),t1.1,fun d Nw=>DG (t1.2.2.2.2.1 d Nw)⟩) (acM 0) hK;have mY:∀i o,ops.toArray[i]? = some o->(Array.replicate ops.toArray.size false).getD i true=false:=fun i o ho=>by have:=(Array.getElem?_eq_some_iff.1 ho).1;exact getD_in (au this) (getD_replicate_false _ _)
 have J0:HeadInv .any ops.toArray ops.toArray.size (Array.replicate ops.toArray.size false):=
  ⟨av,fun j oj _ hl=>(by rw [getD_replicate_false]at hl;cases hl),fun t h1 h2=>by omega⟩
 have ar6:UJ ops.toArray (Array.replicate ops.toArray.size false)=ops.toArray.size:=by unfold UJ;rw [countP_eq_length.2 fun i hi=>by have h1:=mem_range.1 hi;rw [mY i ops.toArray[i] av];rfl];simp
 refine QL hT hd (L:=ops) (Rs:=jZ 2 ops cls) (HP 2) (acM 2) (K:=fun σ=>Q .normal σ) (f0:=f') (kp:=fun r r'=>kpL (aJ f') r r' (jZ 0 ops cls)) (fun σ a w h1 h2=>hQ .normal σ a w h1 h2)
  (fun r r' hk i o ho hc v hv=>UM ((hT.one i o ho).2.2.1 (.inl hc)) (Nz hk o ((HP 0 o).2 ⟨i,ho,hc⟩)) hv) _ _ a _ f' rows clk J0 ar6 (fun i o ho _=>mY i o ho)
  (fun i o ho hc=>⟨fun _ _=>rfl,fun _ _=>rfl,q2 o ((HP 0 o).2 ⟨i,ho,hc⟩)⟩) ?_ ?_
 ·have e:opsOf ops.toArray (s9 ops.toArray (fun i=>cls.getD i 0) (Array.replicate ops.toArray.size false))=jZ 1 ops cls:=by rw [<-Bi ops cls hl];unfold opsOf s9;have e1:(List.range ops.toArray.size).filter (fun i=>cls.getD i 0==1 && !(Array.replicate ops.toArray.size false).getD i true)=(List.range ops.length).filter fun i=>cls.getD i 0==1:=(by rw [show ops.toArray.size=ops.length by simp];refine filter_congr fun i hi=>?_;have h1:=mem_range.1 hi;have h2:=mY i ops[i] (by simp [h1]);rw [show ops.toArray.size=ops.length by simp]at h2;rw [h2];simp);rw [e1];congr 1;funext i;simp
  rw [e];exact q1
 ·refine Rel.KU (f:=f) Ap fun s=>?_
  by_cases hm:∃i o,ops.toArray[i]? = some o∧(Array.replicate ops.toArray.size false).getD i true=false∧cls.getD i 0=0∧o.dst=some s
  ·exact .inr (kP hm)
  ·left;rw [dt hm];refine q3 s fun o ho yW=>?_;obtain⟨i,h1,h2⟩:=(HP 0 o).1 ho;exact hm ⟨i,o,h1,mY i o h1,h2,yW⟩
theorem W.ar7{y:Code}(cls:List Nat)(hB:af8 E ops cls=true)(hl:ops.length=cls.length)(h:∀K:PS->Prop,(∀σ,W E n tl y Q σ->K σ)->go (aga E ops cls K σ)):W E n tl (.seq (.region id ops.toArray true) y) Q σ:=
 W.seq (W.amz cls hB hl h)
end
@[simp] theorem apE{cls:List Nat}{K:PS->Prop}:go (aga E ops cls K σ)=go (aC E ops (jZ 0 ops cls) (fun σ1=>go (XM E ops (fun r r'=>kpL (aJ σ1.f) r r' (jZ 0 ops cls)) (jZ 1 ops cls) (fun σ2=>go (aC E ops (jZ 2 ops cls) K σ2)) σ1)) σ):=rfl
@[simp] theorem agb{kp:Rows->Rows->Prop}{K:PS->Prop}:go (XM E ops kp [] K σ)=K σ:=rfl
@[simp] theorem acN{kp:Rows->Rows->Prop}{os:List Oper}{K:PS->Prop}:go (XM E ops kp (o::os) K σ)=go (aC E ops [o] (fun σ'=>aA (kp σ.rows σ'.rows) (XM E ops kp os K σ')) σ):=rfl
attribute [simp] jZ kpL kpO kpE kpA
end Pm
