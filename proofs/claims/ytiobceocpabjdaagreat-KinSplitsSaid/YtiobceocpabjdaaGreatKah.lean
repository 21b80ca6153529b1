import Derived.Test.YtiobceocpabjdaaGreatKae
import Derived.Test.YtiobceocpabjdaaGreatKag
set_option linter.unusedSimpArgs false
set_option linter.unusedVariables false
namespace Go.Proofs.YtiobceocpabjdaaGreat
open Go Pm
theorem sY.nil:sY []:=⟨c8.nil,by simp⟩
theorem rW.aa2{l:List (Bool × List Int)}(h:rW l)(i:Nat):sY (Pm.nth l i).2:=by
 by_cases hi:i<l.length
 ·exact h.nth hi
 ·rw [i0 (by omega)];exact sY.nil
theorem vV(l:List (Bool × List Int))(k:Nat):nth (l.map gv) k=gv (nth l k):=Pm.B7 (f:=gv) rfl l k
theorem zJ(x:Int):iv (decide (x<0)) (aR LL x.natAbs)=x:=PH x
theorem xO{x y:Int}(hx:Sz x)(hy:Sz y):aE env.P 66 [I x,I y] (I (x*y)):=by
 have:=PE (decide (x<0)) (decide (y<0)) (aR LL x.natAbs) (aR LL y.natAbs) hx.XZ hy.XZ
 rwa [zJ,zJ]at this
theorem X0{x y:Int}(hx:Sz x)(hy:Sz y):aE env.P 65 [I x,I y] (I (x+y)):=by
 have:=EG (decide (x<0)) (decide (y<0)) (aR LL x.natAbs) (aR LL y.natAbs) hx.XZ hy.XZ
 rwa [zJ,zJ]at this
theorem aep{x:Int}(hx:Sz x):aE env.P 148 [I x] (I (-x)):=by
 have:=EF (decide (x<0)) (aR LL x.natAbs) hx.XZ
 rwa [zJ]at this
theorem K1{x:Int}(hx:Sz x):aE env.P 132 [I x] (I x):=by
 have:=H8 (decide (x<0)) (aR LL x.natAbs) hx.XZ
 rwa [zJ]at this
theorem aeq(a b:List (Bool × List Int))(ha:rW a)(hb:rW b)(k:Nat)(hk:k<9223372036854775808):aE env.P 242 [.int .i64 (k:Int), .rd [Pg a], .rd [Pg b]] (I (nth (a.map gv) k+nth (b.map gv) k)):=by
 refine dA (E:=env) (fun _=>0) [(0, .int .i64 (k:Int)),(1, .rd [Pg a]),(2, .rd [Pg b])] Tryz.func242 rfl (by kernel_rfl) (by kernel_rfl) (show 3≤12 by decide) (by simp) ?_
 have:=ha.len;have:=hb.len
 refine W.dS (fun K hK=>?_)
 simp (disch:=omega) [gA,wA]
 refine W.lv [0,1,2,4] hK fun J j=>?_;clear hK K;simp;refine j _ ?_;clear j J
 refine W.aaT (fun K hK=>?_)
 simp (disch:=omega) [gA,wA]
 refine aC (KZ a k ha.len hk) ?_
 simp (disch:=omega) [gA,wA]
 refine aC (KZ b k hb.len hk) ?_
 simp (disch:=omega) [gA,wA]
 refine aC (EG _ _ _ _ (ha.aa2 k) (hb.aa2 k)) ?_
 simp (disch:=omega) [gA,wA]
 refine W.lv [4] hK fun J j=>?_;clear hK K;simp;refine j _ ?_;clear j J
 refine W.ret ?_
 rw [vV,vV]
 simp [go,gv]
theorem aer(a b:List (Bool × List Int))(ha:rW a)(hb:rW b)(k:Nat)(hk:k<9223372036854775808):aE env.P 247 [.int .i64 (k:Int), .rd [Pg a], .rd [Pg b]] (I (nth (a.map gv) k-nth (b.map gv) k)):=by
 refine dA (E:=env) (fun _=>0) [(0, .int .i64 (k:Int)),(1, .rd [Pg a]),(2, .rd [Pg b])] Tryz.func247 rfl (by kernel_rfl) (by kernel_rfl) (show 3≤12 by decide) (by simp) ?_
 have:=ha.len;have:=hb.len
 refine W.dS (fun K hK=>?_)
 simp (disch:=omega) [gA,wA]
 refine W.lv [0,1,2,4] hK fun J j=>?_;clear hK K;simp;refine j _ ?_;clear j J
 refine W.aaT (fun K hK=>?_)
 simp (disch:=omega) [gA,wA]
 refine aC (KZ a k ha.len hk) ?_
 simp (disch:=omega) [gA,wA]
 refine aC (KZ b k hb.len hk) ?_
 simp (disch:=omega) [gA,wA]
 refine aC (PF _ _ _ _ (ha.aa2 k) (hb.aa2 k)) ?_
 simp (disch:=omega) [gA,wA]
 refine W.lv [4] hK fun J j=>?_;clear hK K;simp;refine j _ ?_;clear j J
 refine W.ret ?_
 rw [vV,vV]
 simp [go,gv]
theorem aes(a:List (Bool × List Int))(ha:rW a)(k:Nat)(hk:k<a.length):aE env.P 216 [.int .i64 (k:Int), .rd [Pg a]] (I (- nth (a.map gv) k)):=by
 refine dA (E:=env) (fun _=>0) [(0, .int .i64 (k:Int)),(1, .rd [Pg a])] Tryz.func216 rfl (by kernel_rfl) (by kernel_rfl) (show 2≤9 by decide) (by simp) ?_
 have:=ha.len
 refine W.dS (fun K hK=>?_)
 simp (disch:=omega) [gA,wA]
 refine W.lv [0,1,3] hK fun J j=>?_;clear hK K;simp;refine j _ ?_;clear j J
 refine W.dS (fun K hK=>?_)
 simp (disch:=omega) [gA,wA]
 refine aC (EF _ _ (ha.aa2 k)) ?_
 simp (disch:=omega) [gA,wA]
 refine W.lv [3] hK fun J j=>?_;clear hK K;simp;refine j _ ?_;clear j J
 refine W.ret ?_
 rw [vV]
 simp [go,gv]
theorem aet(a:List (Bool × List Int))(ha:rW a)(n:Bool)(c:List Int)(hc:sY c)(k:Nat)(hk:k<a.length):aE env.P 241 [.int .i64 (k:Int), .rd [Pg a], .rd [.bool n,us c]] (I (nth (a.map gv) k*iv n c)):=by
 refine dA (E:=env) (fun _=>0) [(0, .int .i64 (k:Int)),(1, .rd [Pg a]),(2, .rd [.bool n,us c])] Tryz.func241 rfl (by kernel_rfl) (by kernel_rfl) (show 3≤11 by decide) (by simp) ?_
 have:=ha.len
 refine W.dS (fun K hK=>?_)
 simp (disch:=omega) [gA,wA]
 refine W.lv [0,1,2,4] hK fun J j=>?_;clear hK K;simp;refine j _ ?_;clear j J
 refine W.aaT (fun K hK=>?_)
 simp (disch:=omega) [gA,wA]
 refine aC (PE _ _ _ _ (ha.aa2 k) hc) ?_
 simp (disch:=omega) [gA,wA]
 refine W.lv [4] hK fun J j=>?_;clear hK K;simp;refine j _ ?_;clear j J
 refine W.ret ?_
 rw [vV]
 simp [go,gv]
theorem aeu(a b:List (Bool × List Int))(ha:rW a)(hb:rW b):aE env.P 182 [Pg a,Pg b] (Po (i3 (a.map gv) (b.map gv))):=by
 refine dA (E:=env) (fun _=>0) [(0,Pg a),(1,Pg b)] Tryz.func182 rfl (by kernel_rfl) (by kernel_rfl) (show 2≤12 by decide) (by simp) ?_
 have ND:=ha.len;have hlb:=hb.len
 refine W.dS (fun K hK=>?_)
 simp (disch:=omega) [gA,wA]
 refine W.lv [2,3] hK fun J j=>?_;clear hK K;simp;refine j _ ?_;clear j J
 refine W.dS (fun K hK=>?_)
 have e:(if a.length<b.length then(b.length:Int)else(a.length:Int))=((max a.length b.length:Nat):Int):=by split<;>omega
 simp (disch:=omega) [gA,wA,e]
 refine aC (s5 242 rfl [.rd [Pg a], .rd [Pg b]] rfl (max a.length b.length) (by omega) (fun k=>nth (a.map gv) k+nth (b.map gv) k) (fun k hk=>aeq a b ha hb k (by omega))) ?_
 simp (disch:=omega) [gA,wA]
 refine W.lv [4] hK fun J j=>?_;clear hK K;simp;refine j _ ?_;clear j J
 refine W.ret ?_
 simp [go,i3]
theorem aev(a b:List (Bool × List Int))(ha:rW a)(hb:rW b):aE env.P 186 [Pg a,Pg b] (Po (fS (a.map gv) (b.map gv))):=by
 refine dA (E:=env) (fun _=>0) [(0,Pg a),(1,Pg b)] Tryz.func186 rfl (by kernel_rfl) (by kernel_rfl) (show 2≤12 by decide) (by simp) ?_
 have ND:=ha.len;have hlb:=hb.len
 refine W.dS (fun K hK=>?_)
 simp (disch:=omega) [gA,wA]
 refine W.lv [2,3] hK fun J j=>?_;clear hK K;simp;refine j _ ?_;clear j J
 refine W.dS (fun K hK=>?_)
 have e:(if a.length<b.length then(b.length:Int)else(a.length:Int))=((max a.length b.length:Nat):Int):=by split<;>omega
 simp (disch:=omega) [gA,wA,e]
 refine aC (s5 247 rfl [.rd [Pg a], .rd [Pg b]] rfl (max a.length b.length) (by omega) (fun k=>nth (a.map gv) k-nth (b.map gv) k) (fun k hk=>aer a b ha hb k (by omega))) ?_
 simp (disch:=omega) [gA,wA]
 refine W.lv [4] hK fun J j=>?_;clear hK K;simp;refine j _ ?_;clear j J
 refine W.ret ?_
 simp [go,fS]
theorem H9{α β:Type}[Inhabited α](l:List α)(f:α→β):(List.range l.length).map (fun k=>f (nth l k))=l.map f:=by
 apply List.ext_getElem
 ·simp
 ·intro i h1 h2
  simp at h1
  simp [cE h1]
theorem aew(a:List (Bool × List Int))(ha:rW a):aE env.P 139 [Pg a] (Po (iH (a.map gv))):=by
 refine dA (E:=env) (fun _=>0) [(0,Pg a)] Tryz.func139 rfl (by kernel_rfl) (by kernel_rfl) (show 1≤7 by decide) (by simp) ?_
 have ND:=ha.len
 refine W.dS (fun K hK=>?_)
 simp (disch:=omega) [gA,wA]
 refine W.lv [1] hK fun J j=>?_;clear hK K;simp;refine j _ ?_;clear j J
 refine W.dS (fun K hK=>?_)
 simp (disch:=omega) [gA,wA]
 refine aC (s5 216 rfl [.rd [Pg a]] rfl a.length (by omega) (fun k => - nth (a.map gv) k) (fun k hk=>aes a ha k hk)) ?_
 simp (disch:=omega) [gA,wA]
 refine W.lv [2] hK fun J j=>?_;clear hK K;simp;refine j _ ?_;clear j J
 refine W.ret ?_
 have e:=H9 (a.map gv) (fun c => -c)
 rw [List.length_map]at e
 rw [e]
 simp [go,iH]
theorem UQ(a:List (Bool × List Int))(ha:rW a)(n:Bool)(c:List Int)(hc:sY c):aE env.P 181 [Pg a,IV n c] (Po (a9 (a.map gv) (iv n c))):=by
 refine dA (E:=env) (fun _=>0) [(0,Pg a),(1,IV n c)] Tryz.func181 rfl (by kernel_rfl) (by kernel_rfl) (show 2≤9 by decide) (by simp) ?_
 have ND:=ha.len
 refine W.dS (fun K hK=>?_)
 simp (disch:=omega) [gA,wA]
 refine W.lv [2,3] hK fun J j=>?_;clear hK K;simp;refine j _ ?_;clear j J
 refine W.dS (fun K hK=>?_)
 simp (disch:=omega) [gA,wA]
 refine aC (s5 241 rfl [.rd [Pg a], .rd [.bool n,us c]] rfl a.length (by omega) (fun k=>nth (a.map gv) k*iv n c) (fun k hk=>aet a ha n c hc k hk)) ?_
 simp (disch:=omega) [gA,wA]
 refine W.lv [4] hK fun J j=>?_;clear hK K;simp;refine j _ ?_;clear j J
 refine W.ret ?_
 have e:=H9 (a.map gv) (fun a=>a*iv n c)
 rw [List.length_map]at e
 rw [e]
 simp [go,a9]
theorem aex(a b:List (Bool × List Int))(ha:rW a)(hb:rW b)(s s' n n':Nat)(hs:Bd LL s n (a.map gv))(yU:Bd LL s' n' (b.map gv))(hB:s+s'+n+n'<1099511627775) :
  aE env.P 15 [Pg a,Pg b] (Po (bR (a.map gv) (b.map gv))):=by
 refine dA (E:=env) (fun id=>if id=11 then 1 else 0) [(0,Pg a),(1,Pg b)] Tryz.func15 rfl (by kernel_rfl) (by kernel_rfl) (show 2≤62 by decide) (by simp) ?_
 refine W.dS (fun K hK=>?_)
 simp (disch:=omega) [gA,wA]
 refine W.lv [0,1] hK fun J j=>?_;clear hK K;simp;refine j _ ?_;clear j J
 refine W.dS (fun K hK=>?_)
 simp (disch:=omega) [gA,wA]
 refine aC (gU a ha) ?_
 simp (disch:=omega) [gA,wA]
 refine aC (gU b hb) ?_
 simp (disch:=omega) [gA,wA]
 refine W.lv [0,1] hK fun J j=>?_;clear hK K;simp;refine j _ ?_;clear j J
 have e:bR (a.map gv) (b.map gv)=bR (aP (a.map gv)) (aP (b.map gv)):=Cn.ext (Cn.bR _ _) (Cn.bR _ _) fun t=>by simp [dQ,dE]
 rw [e]
 replace hs:=hs.cut
 replace yU:=yU.cut
 clear e ha hb
 generalize aP (a.map gv)=x at *
 generalize aP (b.map gv)=y at *
 have hlx:=hs.len;have hly:=yU.len
 refine W.seq ?_
 refine W.eD (fun σ=>∃(b:Bool),σ=⟨fa [(0,Po x),(1,Po y),(21, .bool b)],fun _=>none,0⟩∧(b=true↔x = []∨y = [])) (fun K hK=>?_) ?_
 ·simp
  have e1:((x.length:Int)==0)=decide (x = []):=by
   cases x<;>simp<;>omega
  have e2:((y.length:Int)==0)=decide (y = []):=by
   cases y<;>simp<;>omega
  rw [e1]
  by_cases h0:x = []
  ·have e3:decide (x = [])=true:=by simp [h0]
   rw [e3]
   simp
   exact hK _ _ (aB _ [0,1,21]) ⟨_,rfl,by simp [h0]⟩
  ·have e3:decide (x = [])=false:=by simp [h0]
   rw [e3]
   simp
   exact hK _ _ (aB _ [0,1,21]) ⟨_,rfl,by rw [e2];simp [h0]⟩
 rintro _ ⟨b,rfl,hb⟩
 refine W.cond ⟨_,rfl,fun h=>?_,fun h=>?_⟩
 ·have e:bR x y = []:=by
   have h1:=hb.1 h
   refine Cn.ext (Cn.bR _ _) Cn.nil fun t=>?_
   rw [dQ]
   rcases h1 with rfl | rfl<;>simp [V]
  refine W.dS (fun K hK=>?_)
  simp (disch:=omega) [gA,wA]
  refine W.lv [4] hK fun J j=>?_;clear hK K;simp;refine j _ ?_;clear j J
  refine W.ret ?_
  simp [go,e]
  rfl
 ·have h1:¬(x = []∨y = []):=fun h2=>by simp [hb.2 h2]at h
  have qB:0<x.length:=List.length_pos_iff.2 fun h2=>h1 (.inl h2)
  have UR:0<y.length:=List.length_pos_iff.2 fun h2=>h1 (.inr h2)
  clear h hb h1
  refine W.skip ?_
  refine W.dS (fun K hK=>?_)
  simp (disch:=omega) [gA,wA]
  refine W.lv [0,1,5] hK fun J j=>?_;clear hK K;simp;refine j _ ?_;clear j J
  have e0:((x.length:Int)+(y.length:Int)-1).toNat=x.length+y.length-1:=by omega
  refine W.row (id:=28) (emap ie (List.replicate (x.length+y.length-1) 0)) (by simp;exact⟨rfl,rfl,rfl,by omega⟩) (sZ _) ?_
  refine W.seq ?_
  refine W.dS (fun K hK=>?_)
  simp (disch:=omega) [gA,wA]
  refine W.lv [1,5,29,30,31] hK fun J j=>?_;clear hK K;simp;refine j _ ?_;clear j J
  refine W.block ?_
  refine W.aY (fun k σ=>∃(i:Nat) (z:List Int) (ver:Nat) (rows:Pm.Rows) (clk:Nat),σ=⟨fa [(1,Po y),(5, .own 28 ver 0 (x.length+y.length-1)),(29,Po x),(30, .int .i64 x.length),(31, .int .i64 i)],rows,clk⟩ ∧
   rows 28=some ⟨ver,38,2,emap ie z⟩∧k=x.length-i∧i≤x.length∧z.length=x.length+y.length-1∧(∀j,sz LL (nth z j)≤s+s'+i) ∧
   ∀t,V t z=V t (x.take i)*V t y) x.length ?_ ?_
  ·refine⟨_, .refl,0,List.replicate (x.length+y.length-1) 0,_,_,_,rfl,by simp,by omega,by omega,by simp,fun j=>?_,fun t=>by simp [V,rO]⟩
   ·have:Bd LL 0 (x.length+y.length-1) (List.replicate (x.length+y.length-1) 0):=⟨by simp,fun c hc=>by rw [(List.mem_replicate.1 hc).2,lG];omega⟩
    have:=this.nth j
    omega
  rintro k _ ⟨i,z,ver,rows,clk,rfl,hr,hk,hi,hz,F8,hV⟩
  refine W.dS (fun K hK=>?_)
  simp (disch:=omega) [gA,wA]
  refine W.lv [1,5,29,30,31,32] hK fun J j=>?_;clear hK K;simp;refine j _ ?_;clear j J
  refine W.seq ?_
  refine W.cond ⟨_,rfl,fun h=>?_,fun h=>?_⟩
  ·simp at h
   refine W.skip ?_
   refine W.seq ?_
   refine W.block ?_
   refine W.dS (fun K hK=>?_)
   simp (disch:=omega) [gA,wA]
   refine W.lv [1,5,6,7,29,30,31] hK fun J j=>?_;clear hK K;simp;refine j _ ?_;clear j J
   refine W.dS (fun K hK=>?_)
   simp (disch:=omega) [gA,wA]
   refine W.lv [1,5,6,7,29,30,31,36,37,38] hK fun J j=>?_;clear hK K;simp;refine j _ ?_;clear j J
   refine W.block ?_
   refine W.aY (fun m σ=>∃(k:Nat) (z:List Int) (ver v7:Nat) (rows:Pm.Rows) (clk:Nat),σ=⟨fa [(1,Po y),(5, .own 28 ver 0 (x.length+y.length-1)),(6, .int .i64 i),(7, .ptr 7 v7 0 0),(29,Po x),(30, .int .i64 x.length),(31, .int .i64 i),(36,Po y),(37, .int .i64 y.length),(38, .int .i64 k)],rows,clk⟩ ∧
    rows 28=some ⟨ver,38,2,emap ie z⟩∧rows 7=some ⟨v7,38,2,[ie (nth x i)]⟩∧m=y.length-k∧k≤y.length∧z.length=x.length+y.length-1∧(∀j,sz LL (nth z j)≤s+s'+i+1)∧(∀j,i+k≤j→sz LL (nth z j)≤s+s'+i) ∧
    ∀t,V t z=V t (x.take i)*V t y+t^i*nth x i*V t (y.take k)) y.length ?_ ?_
   ·refine⟨_, .refl,0,z,ver,_,_,_,rfl,by simpa using hr,by simp,by omega,by omega,hz,fun j=>by have:=F8 j;omega,fun j _=>F8 j,fun t=>by simp [V,hV]⟩
   clear hV F8 hz hr z ver rows clk
   rintro m _ ⟨k,z,ver,v7,rows,clk,rfl,hr,hr7,hm,hky,hz,F8,US,hV⟩
   refine W.dS (fun K hK=>?_)
   simp (disch:=omega) [gA,wA]
   refine W.lv [1,5,6,7,29,30,31,36,37,38,39] hK fun J j=>?_;clear hK K;simp;refine j _ ?_;clear j J
   refine W.seq ?_
   refine W.cond ⟨_,rfl,fun h2=>?_,fun h2=>?_⟩
   ·simp at h2
    refine W.skip ?_
    refine W.seq ?_
    refine W.block ?_
    refine W.dS (fun K hK=>?_)
    simp (disch:=omega) [gA,wA]
    refine W.lv [1,5,6,7,8,9,29,30,31,36,37,38] hK fun J j=>?_;clear hK K;simp;refine j _ ?_;clear j J
    have e1:((i:Int)+(k:Int)).toNat=i+k:=by omega
    refine W.NB (fun K hK=>?_)
    simp only [if_true]
    rw [gB]
    simp (disch:=omega) [gA,wA,hr,hr7,e1]
    refine aC (xO (Nat.lt_of_le_of_lt (hs.nth i) (by omega)) (Nat.lt_of_le_of_lt (yU.nth k) (by omega))) ?_
    simp (disch:=omega) [gA,wA,hr,hr7,e1]
    have NF:sz LL (nth x i*nth y k)≤s+s'+i:=Nat.le_trans (cP gO (hs.nth i) (yU.nth k)) (by omega)
    have hm2:=n6 gO (US (i+k) (Nat.le_refl _)) NF
    have hlz:i+k<z.length:=by omega
    refine aC (X0 (Nat.lt_of_le_of_lt (US (i+k) (Nat.le_refl _)) (by omega)) (Nat.lt_of_le_of_lt NF (by omega))) ?_
    simp (disch:=omega) [gA,wA,hr,hr7,e1]
    refine W.lv [1,5,6,7,29,30,31,36,37,38] hK fun J j=>?_;clear hK K;simp;refine j _ ?_;clear j J
    refine W.bY (fun K hK=>?_)
    simp (disch:=omega) [gA,wA]
    refine hK _ ⟨y.length-(k+1),_,aB _ [1,5,6,7,29,30,31,36,37,38],by omega,k+1,z.set (i+k) (nth z (i+k)+nth x i*nth y k),ver,v7,_,_,rfl,by simp,by simp [hr7],by omega,by omega,by simpa using hz,fun j=>?_,fun j hj=>?_,fun t=>?_⟩
    ·by_cases hj:i+k=j
     ·subst hj;rw [fG hlz];exact hm2
     ·rw [iC hj];exact F8 j
    ·rw [iC (by omega)];exact US j (by omega)
    ·rw [H3 hlz,aV h2,hV,Int.pow_add];grind
   ·simp at h2
    have yS:k=y.length:=by omega
    subst yS
    refine W.exit ?_;simp only [pX,if_true,if_false,reduceIte,Nat.reduceEqDiff]
    refine W.bY (fun K hK=>?_)
    simp (disch:=omega) [gA,wA]
    refine hK _ ⟨x.length-(i+1),_,aB _ [1,5,29,30,31],by omega,i+1,z,ver,_,_,rfl,hr,by omega,by omega,hz,fun j=>by have:=F8 j;omega,fun t=>?_⟩
    rw [hV,bC (Nat.le_refl _),aV h];grind
  ·simp at h
   have lW:i=x.length:=by omega
   subst lW
   refine W.exit ?_;simp only [pX,if_true,if_false,reduceIte,Nat.reduceEqDiff]
   have vU:=bM hz
   refine W.dS (fun K hK=>?_)
   simp (disch:=omega) [gA,wA,hr,vU]
   refine aC (xN z (by omega)) ?_
   simp (disch:=omega) [gA,wA]
   refine W.lv [4] hK fun J j=>?_;clear hK K;simp;refine j _ ?_;clear j J
   refine W.ret ?_
   have e:aP z=bR x y:=by
    refine Cn.ext (Cn.cut _) (Cn.bR _ _) fun t=>?_
    rw [dE,hV,dQ,bC (Nat.le_refl _)]
   simp [go,e]
theorem aBl{S:ByteArray}{kk:IntKind}{k:Nat}{K:PV→Prop}(h:(List.range 256).all (fun x=>decide ((S[x]?).map (fun b=>b.toNat)=some (nb x)))=true)(hk:k<256)(hK:go (K (.int .u8 (nb k)))):aX (fun v=>vK env .str (.str S) (.int kk (k:Int)) v) K:=by
 have h1:=List.all_eq_true.1 h k (by simpa using hk)
 simp only [decide_eq_true_eq]at h1
 obtain⟨b,hb,h2⟩:=Option.map_eq_some_iff.1 h1
 refine⟨_,⟨by omega,b,by simpa using hb,rfl⟩,?_⟩
 rw [h2];exact hK
theorem IA(n:Int)(h0:0≤n)(h1:n<4294967296):aE env.P 267 [.int .u32 n] (.int .i64 (nb n.toNat)):=by
 refine dA (E:=env) (fun _=>0) [(0, .int .u32 n)] Tryz.func267 rfl (by kernel_rfl) (by kernel_rfl) (show 1≤19 by decide) (by simp) ?_
 refine W.dS (fun K hK=>?_)
 simp (disch:=omega) [gA,wA]
 refine W.lv [0,2] hK fun J j=>?_;clear hK K;simp;refine j _ ?_;clear j J
 refine W.iB (fun σ=>∃(k:Nat) (x:Nat) (rows:Pm.Rows) (clk:Nat),σ=⟨fa [(0, .int .u32 x),(2, .int .i64 k)],rows,clk⟩∧nb n.toNat=k+nb x∧x<65536∧k≤16) ?_ ?_
 ·
  refine W.dS (fun K hK=>?_)
  simp (disch:=omega) [gA,wA]
  refine W.lv [0,2,4] hK fun J j=>?_;clear hK K;simp;refine j _ ?_;clear j J
  refine W.cond ⟨_,rfl,fun h=>?_,fun h=>?_⟩
  ·simp at h
   refine W.dS (fun K hK=>?_)
   simp (disch:=omega) [gA,wA]
   refine W.lv [0] hK fun J j=>?_;clear hK K;simp;refine j _ ?_;clear j J
   refine W.bY (fun K hK=>?_)
   simp (disch:=omega) [gA,wA]
   refine hK _ ⟨_,Gh.fr [(0, .int .u32 ((n.toNat/65536:Nat):Int)),(2, .int .i64 16)] (by simp;rw [Int.fdiv_eq_ediv_of_nonneg _ (by decide)];omega),16,n.toNat/65536,_,_,rfl,?_,by omega,by omega⟩
   exact O6 (k:=16) (by simp;omega)
  ·simp at h
   refine W.skip ?_
   refine⟨_,Gh.fr [(0, .int .u32 (n.toNat:Int)),(2, .int .i64 0)] (by simp;omega),0,n.toNat,_,_,rfl,by simp,by omega,by omega⟩
 rintro _ ⟨k,x,rows,clk,rfl,hn,hx,hk⟩
 refine W.iB (fun σ=>∃(k:Nat) (x:Nat) (rows:Pm.Rows) (clk:Nat),σ=⟨fa [(0, .int .u32 x),(2, .int .i64 k)],rows,clk⟩∧nb n.toNat=k+nb x∧x<256∧k≤24) ?_ ?_
 ·
  refine W.dS (fun K hK=>?_)
  simp (disch:=omega) [gA,wA]
  refine W.lv [0,2,8] hK fun J j=>?_;clear hK K;simp;refine j _ ?_;clear j J
  refine W.cond ⟨_,rfl,fun h=>?_,fun h=>?_⟩
  ·simp at h
   refine W.dS (fun K hK=>?_)
   simp (disch:=omega) [gA,wA]
   refine W.lv [0,2] hK fun J j=>?_;clear hK K;simp;refine j _ ?_;clear j J
   refine W.bY (fun K hK=>?_)
   simp (disch:=omega) [gA,wA]
   refine hK _ ⟨_,Gh.fr [(0, .int .u32 ((x/256:Nat):Int)),(2, .int .i64 ((k+8:Nat):Int))] (by simp;exact Int.fdiv_eq_ediv_of_nonneg _ (by decide)),k+8,x/256,_,_,rfl,?_,by omega,by omega⟩
   have:=O6 (n:=x) (k:=8) (by simp;omega)
   simp at this
   omega
  ·simp at h
   refine W.skip ?_
   refine⟨_,aB _ [0,2],k,x,_,_,rfl,hn,by omega,by omega⟩
 rintro _ ⟨k,x,rows,clk,rfl,hn,hx,hk⟩
 refine W.dS (fun K hK=>?_)
 have hw:IntKind.u8.wrap (x:Int)=x:=wrap_u8 (by omega) (by omega)
 have hz:nb x≤8:=oX.2 hx
 simp only [XP,KK,XQ,aaS,UH,DT,KA,TV,if_true,if_false,reduceIte,Nat.reduceEqDiff,apP,awe,u4,alD,hw,OY,reduceCtorEq]
 refine aBl (by kernel_rfl) hx ?_
 simp (disch:=omega) only [KK,adO,HZ,ad6,XQ,DT,KA,TV,if_true,if_false,reduceIte,Nat.reduceEqDiff,aAW,awe,u4,alD,wrap_i64,JQ,kH,aip,reduceCtorEq,true_and]
 refine W.lv [2] hK fun J j=>?_;clear hK K;simp;refine j _ ?_;clear j J
 refine W.ret ?_
 rw [hn]
 simp [go]
def bl(l:List Int):Int:=if l = []then 0 else 32*((l.length:Int)-1)+nb (nth l (l.length-1)).toNat
theorem PM(l:List Int)(h:sY l):aE env.P 257 [us l] (.int .i64 (bl (aP l))):=by
 refine dA (E:=env) (fun _=>0) [(0,us l)] Tryz.func257 rfl (by kernel_rfl) (by kernel_rfl) (show 1≤20 by decide) (by simp) ?_
 have hl:=h.len
 have G2:=bW l
 have hL:=eT h.zI
 refine W.dS (fun K hK=>?_)
 simp (disch:=omega) [gA,wA]
 refine W.lv [0] hK fun J j=>?_;clear hK K;simp;refine j _ ?_;clear j J
 refine W.dS (fun K hK=>?_)
 simp (disch:=omega) [gA,wA]
 refine aC (dZ l (by omega)) ?_
 simp (disch:=omega) [gA,wA]
 refine W.lv [0] hK fun J j=>?_;clear hK K;simp;refine j _ ?_;clear j J
 generalize aP l=x at *
 refine W.seq ?_
 refine W.dS (fun K hK=>?_)
 simp (disch:=omega) [gA,wA]
 refine W.lv [0,7] hK fun J j=>?_;clear hK K;simp;refine j _ ?_;clear j J
 refine W.cond ⟨_,rfl,fun h=>?_,fun h=>?_⟩
 ·have h0:x = []:=by simpa using h
  refine W.dS (fun K hK=>?_)
  simp (disch:=omega) [gA,wA]
  refine W.lv [2] hK fun J j=>?_;clear hK K;simp;refine j _ ?_;clear j J
  refine W.ret ?_
  simp [go,bl,h0]
 ·have h0:0<x.length:=List.length_pos_iff.2 (by simpa using h)
  have hx:=hL.nth (i:=x.length-1) (by omega)
  have e:((x.length:Int)-1).toNat=x.length-1:=by omega
  have hz:nb (nth x (x.length-1)).toNat≤32:=oX.2 (by omega)
  refine W.skip ?_
  refine W.dS (fun K hK=>?_)
  simp (disch:=omega) [gA,wA,e]
  refine aC (IA _ hx.1 hx.2) ?_
  simp (disch:=omega) [gA,wA]
  refine W.lv [2] hK fun J j=>?_;clear hK K;simp;refine j _ ?_;clear j J
  refine W.ret ?_
  have h1:x ≠ []:=fun h2=>by simp [h2]at h0
  simp [go,bl,h1]
theorem ai1{l:List Int}(h:c8 4294967296 l)(hc:aP l=l):bl l=0↔V 4294967296 l=0:=by
 unfold bl
 split
 ·rename_i h0;subst h0;simp [V]
 ·rename_i h0
  have h1:=l9 (by decide) h hc h0
  have h2:0<(4294967296:Int)^(l.length-1):=Int.pow_pos (by decide)
  have h3:0<l.length:=List.length_pos_iff.2 h0
  have h4:=h.nth (i:=l.length-1) (by omega)
  have h5:nth l (l.length-1)≠0:=by
   intro h6
   have e:l=l.take (l.length-1) ++ [0]:=by
    conv=>lhs;rw [←List.take_length (l:=l)]
    rw [←h6,←bG (by omega),show l.length-1+1=l.length by omega]
   rw [e,kJ]at hc
   have:=congrArg List.length hc
   have:=bW (l.take (l.length-1))
   simp at *
   omega
  have h6:nb (nth l (l.length-1)).toNat≠0:=by
   intro h7
   have:=oX.1 (Nat.le_of_eq h7)
   simp at this;omega
  omega
theorem PN(n:Bool)(l:List Int)(h:sY l):aE env.P 218 [IV n l] (.int .i64 (iv n l).sign):=by
 refine dA (E:=env) (fun _=>0) [(0,IV n l)] Tryz.func218 rfl (by kernel_rfl) (by kernel_rfl) (show 1≤11 by decide) (by simp) ?_
 have hz:=ai1 (eT h.zI) (eX l)
 have hp:=rP h
 rw [dE]at hz
 refine W.dS (fun K hK=>?_)
 simp (disch:=omega) [gA,wA]
 refine W.lv [1] hK fun J j=>?_;clear hK K;simp;refine j _ ?_;clear j J
 refine W.seq ?_
 refine W.block ?_
 refine W.dS (fun K hK=>?_)
 simp (disch:=omega) [gA,wA]
 refine aC (PM l h) ?_
 simp (disch:=omega) [gA,wA]
 refine W.lv [1,3] hK fun J j=>?_;clear hK K;simp;refine j _ ?_;clear j J
 refine W.cond ⟨_,rfl,fun hb=>?_,fun hb=>?_⟩
 ·have h0:V 4294967296 l=0:=hz.1 (by simpa using hb)
  refine W.dS (fun K hK=>?_)
  simp (disch:=omega) [gA,wA]
  refine W.lv [2] hK fun J j=>?_;clear hK K;simp;refine j _ ?_;clear j J
  refine W.ret ?_
  simp [go,iv,h0]
 ·have h0:0<V 4294967296 l:=by
   have:V 4294967296 l≠0:=fun h1=>by simp [hz.2 h1]at hb
   omega
  refine W.dS (fun K hK=>?_)
  simp (disch:=omega) [gA,wA]
  refine W.lv [8] hK fun J j=>?_;clear hK K;simp;refine j _ ?_;clear j J
  refine W.cond ⟨_,rfl,fun hn=>?_,fun hn=>?_⟩
  ·subst hn
   refine W.dS (fun K hK=>?_)
   simp (disch:=omega) [gA,wA]
   refine W.lv [2] hK fun J j=>?_;clear hK K;simp;refine j _ ?_;clear j J
   refine W.ret ?_
   have:(- V 4294967296 l).sign = -1:=Int.sign_eq_neg_one_of_neg (by omega)
   simp [go,iv,this]
  ·subst hn
   refine W.skip ?_
   refine W.dS (fun K hK=>?_)
   simp (disch:=omega) [gA,wA]
   refine W.lv [2] hK fun J j=>?_;clear hK K;simp;refine j _ ?_;clear j J
   refine W.ret ?_
   have:(V 4294967296 l).sign=1:=Int.sign_eq_one_of_pos h0
   simp [go,iv,this]
theorem aa3{x y:Int}(h:x.sign<y.sign):dP x y = -1:=by
 apply mK
 rcases Int.lt_trichotomy x 0 with h1 | h1 | h1<;>rcases Int.lt_trichotomy y 0 with h2 | h2 | h2<;>first | omega | (simp [Int.sign_eq_neg_one_of_neg,Int.sign_eq_one_of_pos,h1,h2]at h)
theorem UT{x y:Int}(h:y.sign<x.sign):dP x y=1:=by
 apply mL
 rcases Int.lt_trichotomy x 0 with h1 | h1 | h1<;>rcases Int.lt_trichotomy y 0 with h2 | h2 | h2<;>first | omega | (simp [Int.sign_eq_neg_one_of_neg,Int.sign_eq_one_of_pos,h1,h2]at h)
theorem K2(x y:Int):dP (-x) (-y)=dP y x:=by simp only [dP];split<;>split<;>(try split)<;>(try split)<;>omega
theorem aez(n m:Bool)(l k:List Int)(h:sY l)(h':sY k):aE env.P 144 [IV n l,IV m k] (.int .i64 (dP (iv n l) (iv m k))):=by
 refine dA (E:=env) (fun _=>0) [(0,IV n l),(1,IV m k)] Tryz.func144 rfl (by kernel_rfl) (by kernel_rfl) (show 2≤32 by decide) (by simp) ?_
 have p1:=rP h;have p2:=rP h'
 refine W.dS (fun K hK=>?_)
 simp (disch:=omega) [gA,wA]
 refine W.lv [2,3] hK fun J j=>?_;clear hK K;simp;refine j _ ?_;clear j J
 refine W.aaT (fun K hK=>?_)
 simp (disch:=omega) [gA,wA]
 refine aC (PN n l h) ?_
 simp (disch:=omega) [gA,wA]
 refine aC (PN m k h') ?_
 simp (disch:=omega) [gA,wA]
 refine W.lv [2,3,5,6] hK fun J j=>?_;clear hK K;simp;refine j _ ?_;clear j J
 refine W.seq ?_
 refine W.block ?_
 refine W.dS (fun K hK=>?_)
 simp (disch:=omega) [gA,wA]
 refine W.lv [2,3,5,6,11] hK fun J j=>?_;clear hK K;simp;refine j _ ?_;clear j J
 refine W.cond ⟨_,rfl,fun h1=>?_,fun h1=>?_⟩
 ·refine W.dS (fun K hK=>?_)
  simp (disch:=omega) [gA,wA]
  refine W.lv [4] hK fun J j=>?_;clear hK K;simp;refine j _ ?_;clear j J
  refine W.ret ?_
  simp [go,aa3 (of_decide_eq_true h1)]
 ·have h1:=of_decide_eq_false h1
  refine W.dS (fun K hK=>?_)
  simp (disch:=omega) [gA,wA]
  refine W.lv [2,3,5,15] hK fun J j=>?_;clear hK K;simp;refine j _ ?_;clear j J
  refine W.cond ⟨_,rfl,fun h2=>?_,fun h2=>?_⟩
  ·refine W.dS (fun K hK=>?_)
   simp (disch:=omega) [gA,wA]
   refine W.lv [4] hK fun J j=>?_;clear hK K;simp;refine j _ ?_;clear j J
   refine W.ret ?_
   simp [go,UT (of_decide_eq_true h2)]
  ·have h2:=of_decide_eq_false h2
   have h3:(iv n l).sign=(iv m k).sign:=by omega
   refine W.dS (fun K hK=>?_)
   simp (disch:=omega) [gA,wA]
   refine W.lv [2,3,19] hK fun J j=>?_;clear hK K;simp;refine j _ ?_;clear j J
   refine W.cond ⟨_,rfl,fun h4=>?_,fun h4=>?_⟩
   ·have h4:iv n l<0:=by simpa using of_decide_eq_true h4
    have h5:iv m k<0:=by
     rw [Int.sign_eq_neg_one_of_neg h4]at h3
     exact Int.sign_eq_neg_one_iff_neg.1 h3.symm
    have en:n=true:=by cases n;(· simp [iv]at h4;omega);rfl
    have em:m=true:=by cases m;(· simp [iv]at h5;omega);rfl
    subst en;subst em
    refine W.dS (fun K hK=>?_)
    simp (disch:=omega) [gA,wA]
    refine aC (KX k l h'.len h.len h'.zI h.zI) ?_
    simp (disch:=omega) [gA,wA]
    refine W.lv [4] hK fun J j=>?_;clear hK K;simp;refine j _ ?_;clear j J
    refine W.ret ?_
    simp [go,iv,K2]
   ·have h4:0≤iv n l:=by simpa using of_decide_eq_false h4
    have e1:iv n l=V 4294967296 l:=by
     cases n
     ·simp [iv]
     ·simp [iv]at h4 ⊢;omega
    have h5:0≤iv m k:=by
     have:0≤(iv n l).sign:=Int.sign_nonneg_iff.2 h4
     rw [h3]at this
     exact Int.sign_nonneg_iff.1 this
    have e2:iv m k=V 4294967296 k:=by
     cases m
     ·simp [iv]
     ·simp [iv]at h5 ⊢;omega
    refine W.skip ?_
    refine W.dS (fun K hK=>?_)
    simp (disch:=omega) [gA,wA]
    refine aC (KX l k h.len h'.len h.zI h'.zI) ?_
    simp (disch:=omega) [gA,wA]
    refine W.lv [4] hK fun J j=>?_;clear hK K;simp;refine j _ ?_;clear j J
    refine W.ret ?_
    simp [go,e1,e2]
theorem X1{x y:Int}(hx:Sz x)(hy:Sz y):aE env.P 144 [I x,I y] (.int .i64 (dP x y)):=by
 have:=aez (decide (x<0)) (decide (y<0)) (aR LL x.natAbs) (aR LL y.natAbs) hx.XZ hy.XZ
 rwa [zJ,zJ]at this
theorem awj{p:Bool × List Int}(h:sY p.2):Sz (gv p):=by
 have h1:=aAP gO h.zI
 have h2:=h.len
 have e:sz LL (gv p)=sz LL (V 4294967296 p.2):=by
  unfold gv iv sz
  split<;>simp
 show sz LL (gv p)<_
 rw [e]
 exact Nat.lt_of_le_of_lt h1 h2
theorem rW.sz{l:List (Bool × List Int)}(h:rW l):∀c∈aP (l.map gv),Sz c:=fun c hc=>by
 have:=p9 _ _ hc
 simp only [List.mem_map]at this
 obtain⟨p,hp,rfl⟩:=this
 exact awj (h.ok p hp)
theorem aa4(a b:List (Bool × List Int))(ha:rW a)(hb:rW b):aE env.P 251 [Pg a,Pg b] (.bool (decide (aP (a.map gv)=aP (b.map gv)))):=by
 refine dA (E:=env) (fun _=>0) [(0,Pg a),(1,Pg b)] Tryz.func251 rfl (by kernel_rfl) (by kernel_rfl) (show 2≤31 by decide) (by simp) ?_
 refine W.dS (fun K hK=>?_)
 simp (disch:=omega) [gA,wA]
 refine W.lv [0,1] hK fun J j=>?_;clear hK K;simp;refine j _ ?_;clear j J
 refine W.dS (fun K hK=>?_)
 simp (disch:=omega) [gA,wA]
 refine aC (gU a ha) ?_
 simp (disch:=omega) [gA,wA]
 refine aC (gU b hb) ?_
 simp (disch:=omega) [gA,wA]
 refine W.lv [0,1] hK fun J j=>?_;clear hK K;simp;refine j _ ?_;clear j J
 have sa:=ha.sz;have sb:=hb.sz
 have la:(aP (a.map gv)).length<1099511627776:=by have:=bW (a.map gv);have:=ha.len;simp at *;omega
 have lb:(aP (b.map gv)).length<1099511627776:=by have:=bW (b.map gv);have:=hb.len;simp at *;omega
 generalize aP (a.map gv)=x at *
 generalize aP (b.map gv)=y at *
 refine W.seq ?_
 refine W.dS (fun K hK=>?_)
 simp (disch:=omega) [gA,wA]
 refine W.lv [0,1,15] hK fun J j=>?_;clear hK K;simp;refine j _ ?_;clear j J
 refine W.cond ⟨_,rfl,fun h=>?_,fun h=>?_⟩
 ·have h0:x≠y:=fun h1=>by subst h1;simp at h
  refine W.dS (fun K hK=>?_)
  simp (disch:=omega) [gA,wA]
  refine W.lv [4] hK fun J j=>?_;clear hK K;simp;refine j _ ?_;clear j J
  refine W.ret ?_
  simp [go,h0]
 ·have h0:x.length=y.length:=by simp at h;omega
  clear h
  refine W.skip ?_
  refine W.seq ?_
  refine W.dS (fun K hK=>?_)
  simp (disch:=omega) [gA,wA]
  refine W.lv [1,16,17,18] hK fun J j=>?_;clear hK K;simp;refine j _ ?_;clear j J
  refine W.block ?_
  refine W.aY (fun k σ=>∃(i:Nat) (rows:Pm.Rows) (clk:Nat),σ=⟨fa [(1,Po y),(16,Po x),(17, .int .i64 x.length),(18, .int .i64 i)],rows,clk⟩∧k=x.length-i∧i≤x.length∧x.take i=y.take i) x.length ?_ ?_
  ·exact⟨_, .refl,0,_,_,rfl,by omega,by omega,by simp⟩
  rintro k _ ⟨i,rows,clk,rfl,hk,hi,rL⟩
  refine W.dS (fun K hK=>?_)
  simp (disch:=omega) [gA,wA]
  refine W.lv [1,16,17,18,19] hK fun J j=>?_;clear hK K;simp;refine j _ ?_;clear j J
  refine W.seq ?_
  refine W.cond ⟨_,rfl,fun h=>?_,fun h=>?_⟩
  ·simp at h
   refine W.skip ?_
   refine W.seq ?_
   refine W.block ?_
   refine W.dS (fun K hK=>?_)
   simp (disch:=omega) [gA,wA]
   refine W.lv [1,5,6,16,17,18] hK fun J j=>?_;clear hK K;simp;refine j _ ?_;clear j J
   refine W.aaT (fun K hK=>?_)
   simp (disch:=omega) [gA,wA]
   refine aC (X1 (sa _ (bJ h)) (sb _ (bJ (by omega)))) ?_
   simp (disch:=omega) [gA,wA]
   refine W.lv [1,16,17,18,29] hK fun J j=>?_;clear hK K;simp;refine j _ ?_;clear j J
   refine W.cond ⟨_,rfl,fun h2=>?_,fun h2=>?_⟩
   ·have h3:x≠y:=fun h1=>by subst h1;simp [xF]at h2
    refine W.dS (fun K hK=>?_)
    simp (disch:=omega) [gA,wA]
    refine W.lv [4] hK fun J j=>?_;clear hK K;simp;refine j _ ?_;clear j J
    refine W.ret ?_
    simp [go,h3]
   ·have h3:nth x i=nth y i:=by
     have:dP (nth x i) (nth y i)=0:=by simpa using h2
     exact tX.1 this
    refine W.skip ?_
    refine W.bY (fun K hK=>?_)
    simp (disch:=omega) [gA,wA]
    refine hK _ ⟨x.length-(i+1),_,aB _ [1,16,17,18],by omega,i+1,_,_,rfl,by omega,by omega,?_⟩
    rw [bG h,bG (by omega),rL,h3]
  ·simp at h
   have h3:x=y:=by
    rw [bM (show x.length=i by omega),bM (show y.length=i by omega)]at rL
    exact rL
   refine W.exit ?_;simp only [pX,if_true,if_false,reduceIte,Nat.reduceEqDiff]
   refine W.dS (fun K hK=>?_)
   simp (disch:=omega) [gA,wA]
   refine W.lv [4] hK fun J j=>?_;clear hK K;simp;refine j _ ?_;clear j J
   refine W.ret ?_
   simp [go,h3]
abbrev RP:=List (Bool × List Int)
def aG(n:Int):List PV:=[.int .i64 n]
def pe(p:RP):List PV:=[Pg p]
def me(r:List RP):List PV:=[aH pe r]
@[simp] theorem awk{n:Int}:aG n = [.int .i64 n]:=rfl
@[simp] theorem aBm{p:RP}:pe p = [Pg p]:=rfl
@[simp] theorem aBn{p:List RP}:me p = [aH pe p]:=rfl
@[simp] theorem amj{l:List Int}:bK 1 (emap aG l)=True:=cL fun _=>rfl
@[simp] theorem as1{l:List RP}:bK 1 (emap pe l)=True:=cL fun _=>rfl
@[simp] theorem as2{l:List (List RP)}:bK 1 (emap me l)=True:=cL fun _=>rfl
@[simp] theorem ai2{v e n:Nat}{l:List Int}:c9 (some ⟨v,e,n,emap aG l⟩)=True:=b8 fun _=>rfl
@[simp] theorem apT{v e n:Nat}{l:List RP}:c9 (some ⟨v,e,n,emap pe l⟩)=True:=b8 fun _=>rfl
@[simp] theorem apU{v e n:Nat}{l:List (List RP)}:c9 (some ⟨v,e,n,emap me l⟩)=True:=b8 fun _=>rfl
@[simp] theorem aBo{l:RP}{n:Bool}{m:List Int}:emap ge l ++ [[.bool n,us m]]=emap ge (l ++ [(n,m)]):=by simp [emap]
@[simp] theorem aBp{l:List Int}{x:Int}:emap ie l ++ [[.bool (decide (x<0)),us (aR LL x.natAbs)]]=emap ie (l ++ [x]):=by simp [emap]
@[simp] theorem aBq{l:List RP}{p:RP}:emap pe l ++ [[aH ge p]]=emap pe (l ++ [p]):=by simp [emap]
@[simp] theorem aBr{l:List (List RP)}{p:List RP}:emap me l ++ [[aH pe p]]=emap me (l ++ [p]):=by simp [emap]
def nT(p:RP):List Int:=aP (p.map gv)
theorem ai3(l:List Int)(hl:l.length<1099511627776)(hb:∀x∈l, -9223372036854775808≤x∧x<9223372036854775808):aE env.P 11 [aH aG l] (Po (aP l)):=by
 refine cB [(0,aH aG l)] Tryz.func11 ?_
 refine aA [0] ?_
 refine aA [0,3] ?_
 refine W.row (id:=8) (emap ie (List.replicate l.length 0)) (by simp;exact⟨rfl,rfl,rfl⟩) (sZ _) ?_
 refine aK [3,9,10,11] ?_
 refine W.block ?_
 refine W.aY (fun k σ=>∃(i:Nat) (z:List Int) (ver:Nat) (rows:Pm.Rows) (clk:Nat),σ=⟨fa [(3, .own 8 ver 0 l.length),(9,aH aG l),(10, .int .i64 l.length),(11, .int .i64 i)],rows,clk⟩ ∧
  rows 8=some ⟨ver,38,2,emap ie z⟩∧k=l.length-i∧i≤l.length∧z.length=l.length∧z.take i=l.take i) l.length ?_ ?_
 ·exact⟨_, .refl,0,List.replicate l.length 0,_,_,_,rfl,by simp,by omega,by omega,by simp,by simp⟩
 rintro k _ ⟨i,z,ver,rows,clk,rfl,hr,hk,hi,hz,hv⟩
 refine bT [3,9,10,11,12] ?_
 refine W.cond ⟨_,rfl,fun dC=>?_,fun dC=>?_⟩
 ·simp at dC
  refine j7 ?_
  refine W.sr ?_
  simp (disch:=omega) [gw,hr]
  refine bI [3,4,5,9,10,11] ?_
  refine W.bY (fun K hK=>?_)
  simp (disch:=omega) [gw,hr]
  refine aC (EH _ (hb _ (bJ dC)).1 (hb _ (bJ dC)).2) ?_
  simp (disch:=omega) [gw,hr]
  refine W.lw [3,9,10,11] hK ?_;clear hK K;simp
  refine W.bY (fun K hK=>?_)
  simp (disch:=omega) [gw]
  refine hK _ ⟨l.length-(i+1),_,aB _ [3,9,10,11],by omega,i+1,z.set i (nth l i),ver,_,_,rfl,by simp,by omega,by omega,by simpa using hz,?_⟩
  rw [mW hv (by omega),bG dC]
 ·simp at dC
  have lW:i=l.length:=by omega
  subst lW
  refine eW ?_
  rw [bM hz,bM rfl]at hv
  have vU:=bM hz
  refine W.sr ?_
  simp (disch:=omega) [gw,hr,vU]
  refine aC (xN z (by omega)) ?_
  simp (disch:=omega) [gw]
  refine bI [2] ?_
  refine W.ret ?_
  simp [go,hv]
abbrev DD:Nat:=10000
theorem SM:2≤DD:=by decide
abbrev Dn(x:Int):PV:=aH aG (aR DD x.toNat)
theorem vW{l:List Int}(h:c8 10000 l):aH aG (aP l)=Dn (V 10000 l):=by rw [sS SM h];rfl
@[simp] theorem ay6{n:Nat}:List.replicate n [PV.int .i64 0]=emap aG (List.replicate n 0):=by simp [emap]
@[simp] theorem apV{l:List Int}{i:Nat}{x:Int}:iO (emap aG l) i 0 [.int .i64 x]=emap aG (l.set i x):=CA (n:=1) (fun _=>rfl)
@[simp] theorem awl{l:List Int}{x:Int}:emap aG l ++ [[.int .i64 x]]=emap aG (l ++ [x]):=by simp [emap]
theorem qC(l:List Int)(hl:l.length<17592186044416):aE env.P 211 [aH aG l] (aH aG (aP l)):=by
 refine cB [(0,aH aG l)] Tryz.func211 ?_
 refine aA [0] ?_
 refine aA [0,3] ?_
 refine W.seq (W.block ?_)
 refine W.aY (fun k σ=>∃(rows:Pm.Rows) (clk:Nat),σ=⟨fa [(0,aH aG l),(3, .int .i64 (k:Int))],rows,clk⟩∧k≤l.length∧aP l=aP (l.take k)) l.length ?_ ?_
 ·exact⟨_, .refl,_,_,rfl,by omega,by simp⟩
 rintro k _ ⟨rows,clk,rfl,hk,hc⟩
 refine W.seq ?_
 refine W.eD (fun σ=>∃(b:Bool),σ=⟨fa [(0,aH aG l),(3, .int .i64 (k:Int)),(15, .bool b)],rows,clk⟩∧(b=true↔0<k∧nth l (k-1)=0)) (fun K hK=>?_) ?_
 ·simp
  by_cases h0:0<k
  ·simp (disch:=omega) [gw,h0]
   exact hK _ _ (aB _ [0,3,15]) ⟨_,rfl,by simp [h0]⟩
  ·simp (disch:=omega) [gw,h0]
   exact hK _ _ (aB _ [0,3,15]) ⟨_,rfl,by simp [h0]⟩
 rintro _ ⟨b,rfl,hb⟩
 refine bH ?_ ?_<;>intro h
 ·obtain⟨h0,h1⟩:=hb.1 h
  refine W.skip (W.block ?_)
  refine W.bY (fun K hK=>?_)
  simp (disch:=omega) [gw]
  refine hK _ ⟨k-1,_,Gh.fr [(0,_),(3, .int .i64 ((k-1:Nat):Int))] (by simp;omega),by omega,_,_,rfl,by omega,?_⟩
  rw [hc,show k=(k-1)+1 by omega,bG (by omega),h1,kJ]
  simp
 ·have h2:aP l=l.take k:=by
   rw [hc]
   by_cases h0:0<k
   ·have h1:nth l (k-1)≠0:=fun h1=>by simp [hb.2 ⟨h0,h1⟩]at h
    rw [show k=(k-1)+1 by omega,bG (by omega)]
    exact jD h1 _
   ·have:k=0:=by omega
    subst this;simp [aP]
  refine eW ?_
  refine aA [2] ?_
  refine W.ret ?_
  simp [h2]
theorem UU(a:List Int)(m c0:Int)(ha:a.length<1099511627776)(la:c8 10000 a)(SL:0≤m)(NF:m≤65536)(zG:0≤c0)(u9:c0≤65536) :
  aE env.P 210 [aH aG a, .int .i64 m, .int .i64 c0] (Dn (V 10000 a*m+c0)):=by
 refine cB [(0,aH aG a),(1, .int .i64 m),(2, .int .i64 c0)] Tryz.func210 ?_
 refine aA [0,1,2] ?_
 refine aA [0,1,2,7] ?_
 refine aK [0,1,2,7,8] ?_
 refine W.block ?_
 refine W.aY (fun k σ=>∃(i:Nat) (c:Int) (z:List Int) (ver:Nat) (rows:Pm.Rows) (clk:Nat),σ=⟨fa [(0,aH aG a),(1, .int .i64 m),(2, .int .i64 c),(7, .own 12 ver 0 i),(8, .int .i64 i)],rows,clk⟩ ∧
  rows 12=some ⟨ver,3,1,emap aG z⟩∧k=(a.length-i)*1000000+c.toNat∧z.length=i∧(i≤a.length∨i+c≤a.length+65536)∧c8 10000 z∧0≤c∧c≤65536 ∧
  V 10000 z+10000^i*c=V 10000 (a.take i)*m+c0) (a.length*1000000+c0.toNat) ?_ ?_
 ·exact⟨_, .refl,0,c0,[],_,_,_,rfl,by simp [emap],by simp,rfl,by omega,c8.nil,zG,u9,by simp [V]⟩
 rintro k _ ⟨i,c,z,ver,rows,clk,rfl,hr,hk,hz,hi,lz,h0,h1,hV⟩
 refine W.seq ?_
 refine W.eD (fun σ=>∃(b:Bool),σ=⟨fa [(0,aH aG a),(1, .int .i64 m),(2, .int .i64 c),(7, .own 12 ver 0 i),(8, .int .i64 i),(20, .bool b)],rows,clk⟩∧(b=true↔i<a.length∨0<c)) (fun K hK=>?_) ?_
 ·simp
  by_cases h2:i<a.length
  ·simp (disch:=omega) [gw,h2]
   exact hK _ _ (aB _ [0,1,2,7,8,20]) ⟨_,rfl,by simp [h2]⟩
  ·simp (disch:=omega) [gw,h2]
   exact hK _ _ (aB _ [0,1,2,7,8,20]) ⟨_,rfl,by simp [h2]⟩
 rintro _ ⟨b,rfl,hb⟩
 refine bH ?_ ?_<;>intro h
 ·have hb:=hb.1 h
  refine j7 ?_
  refine W.iB (fun σ=>∃(s:Int),σ=⟨fa [(0,aH aG a),(1, .int .i64 m),(2, .int .i64 s),(7, .own 12 ver 0 i),(8, .int .i64 i)],rows,clk⟩∧0≤s∧s≤655360000∧(a.length≤i→s=c) ∧
   V 10000 z+10000^i*s=V 10000 (a.take (i+1))*m+c0) ?_ ?_
  ·
   refine aA [0,1,2,7,8,26] ?_
   refine bH ?_ ?_<;>intro h
   ·simp at h
    have hn:=la.nth h
    have h2:0≤nth a i*m:=Int.mul_nonneg hn.1 SL
    have h3:nth a i*m≤9999*65536:=Int.mul_le_mul (by omega) NF SL (by omega)
    refine W.bY (fun K hK=>?_);simp (disch:=omega) [gw]
    refine hK _ ⟨_,aB _ [0,1,2,7,8],_,rfl,by omega,by omega,by omega,?_⟩
    rw [aV h,Int.mul_add,Int.add_mul]
    grind
   ·simp at h
    refine W.skip ?_
    refine⟨_,aB _ [0,1,2,7,8],_,rfl,by omega,by omega,fun _=>rfl,?_⟩
    rw [bC (by omega)]
    rw [bC (by omega)]at hV
    exact hV
  rintro _ ⟨s,rfl,XY,vT,hsc,hsV⟩
  refine W.sr ?_
  simp (disch:=omega) [gw,hr,hz]
  refine bI [0,1,2,7,8] ?_
  refine W.bY (fun K hK=>?_);simp (disch:=omega) [gw];refine W.lw [0,1,2,7,8] hK ?_;clear hK K;simp
  refine W.bY (fun K hK=>?_);simp (disch:=omega) [gw]
  refine hK _ ⟨(a.length-(i+1))*1000000+(s/10000).toNat,_,aB _ [0,1,2,7,8],by omega,i+1,s/10000,z ++ [s%10000],_,_,_,rfl,by simp,rfl,by simp [hz],by omega,c8.append.2 ⟨lz,c8.cons.2 ⟨by omega,c8.nil⟩⟩,by omega,by omega,?_⟩
  rw [eJ,oV,hz,←hsV,Int.pow_succ]
  have:=Int.emod_add_mul_ediv s 10000
  grind
 ·have hb:¬(i<a.length∨0<c):=fun h2=>by simp [hb.2 h2]at h
  have hc:c=0:=by omega
  subst hc
  refine eW ?_
  have ez:z.take i=z:=bM hz
  refine W.sr ?_
  simp (disch:=omega) [gw,hr,hz,ez]
  refine aC (qC z (by omega)) ?_
  simp (disch:=omega) [gw]
  refine bI [6] ?_
  refine W.ret ?_
  rw [bC (by omega)]at hV
  have e:V 10000 z=V 10000 a*m+c0:=by simpa using hV
  rw [←e,←vW lz]
  simp
abbrev Z(x:Int):Prop:=sz 2 x<1099511627776
theorem X3{b:Nat}(hb:2≤b)(x:Int):sz b x≤sz 2 x:=by
 refine dV hb (Nat.lt_of_lt_of_le (jH (b:=2) (by decide) x) ?_)
 exact Nat.pow_le_pow_left hb _
theorem apX(y:Int):(aR DD y.natAbs).length≤sz 2 y:=X3 SM y
theorem lH{y:Int}(h:0≤y):(aR DD y.toNat).length≤sz 2 y:=by
 have:=apX y
 rwa [show y.natAbs=y.toNat by omega]at this
theorem xP{y:Int}(h:0≤y):V 10000 (aR DD y.toNat)=y:=by
 have:=lE SM y.toNat
 simp only [show((DD:Nat):Int)=10000 from rfl]at this
 rw [this];omega
theorem awm(y:Int):V 10000 (aR DD y.natAbs)=y.natAbs:=by
 have:=lE SM y.natAbs
 simpa only [show((DD:Nat):Int)=10000 from rfl]using this
theorem nB(n:Nat):c8 10000 (aR DD n):=fN SM n
theorem aeA{l:List Int}(h:c8 4294967296 l):sz 2 (V 4294967296 l)≤32*l.length:=by
 refine dV (by decide) ?_
 have h1:=pJ (b:=(4294967296:Int)) (by decide) h
 have h2:=bN (b:=(4294967296:Int)) (by decide) h
 have h3:((4294967296:Int)^l.length)=((2^(32*l.length):Nat):Int):=by rw [Nat.pow_mul];simp
 rw [h3]at h1
 omega
theorem mX(y m c:Int)(hy:0≤y)(hz:Z y)(SL:0≤m)(NF:m≤65536)(zG:0≤c)(u9:c≤65536):aE env.P 210 [Dn y, .int .i64 m, .int .i64 c] (Dn (y*m+c)):=by
 have:=UU (aR DD y.toNat) m c (by have:=lH hy;omega) (nB _) SL NF zG u9
 rwa [xP hy]at this
theorem aa5(l:List Int)(hl:l.length≤17179869184)(hm:c8 4294967296 l):aE env.P 231 [us l] (Dn (V 4294967296 l)):=by
 refine cB [(0,us l)] Tryz.func231 ?_
 refine aA [0] ?_
 refine aA [0,3] ?_
 refine W.UJ 3 (Dn 0) (by simp) rfl (fun K hK=>?_)
 refine W.lw [0,3] hK ?_;clear hK K;simp
 refine aK [0,3,4] ?_
 refine W.block ?_
 refine W.aY (fun k σ=>∃(rows:Pm.Rows) (clk:Nat),σ=⟨fa [(0,us l),(3,Dn (V 4294967296 (l.drop k))),(4, .int .i64 ((k:Int)-1))],rows,clk⟩∧k≤l.length) l.length ?_ ?_
 ·exact⟨_,Gh.fr [(0,us l),(3,Dn (V 4294967296 (l.drop l.length))),(4, .int .i64 ((l.length:Int)-1))] (by simp [V]),_,_,rfl,by omega⟩
 rintro k _ ⟨rows,clk,rfl,hk⟩
 have h0:=bN (b:=4294967296) (by decide) (hm.drop k)
 have hs:sz 2 (V 4294967296 (l.drop k))≤32*(l.length-k):=by have:=aeA (hm.drop k);simpa using this
 refine aK [0,3,4,9] ?_
 refine bH ?_ ?_<;>intro h
 ·simp at h
  have hx:=hm.nth (i:=k-1) (by omega)
  have hd:V 4294967296 (l.drop (k-1))=nth l (k-1)+4294967296*V 4294967296 (l.drop k):=by
   rw [fK (i:=k-1) (by omega),show k-1+1=k by omega];rfl
  refine j7 ?_
  refine W.sr ?_
  have hk1:((k:Int)-1).toNat=k-1:=by omega
  simp (disch:=omega) [gw,hk1]
  refine aC (mX _ 65536 _ h0 (by omega) (by decide) (by decide) (by omega) (by omega)) ?_
  simp (disch:=omega) [gw]
  refine bI [0,3,4] ?_
  have h1:0≤V 4294967296 (l.drop k)*65536+nth l (k-1)/65536:=by omega
  have h2:sz 2 (V 4294967296 (l.drop k)*65536+nth l (k-1)/65536)≤32*l.length:=by
   have h3:=aeA (hm.drop (k-1))
   refine Nat.le_trans (dY (by decide) (y:=V 4294967296 (l.drop (k-1))) (by omega)) ?_
   simp at h3;omega
  refine W.bY (fun K hK=>?_)
  simp (disch:=omega) [gw,hk1]
  refine aC (mX _ 65536 _ h1 (by omega) (by decide) (by decide) (by omega) (by omega)) ?_
  simp (disch:=omega) [gw]
  refine W.lw [0,3,4] hK ?_;clear hK K;simp
  refine W.bY (fun K hK=>?_);simp (disch:=omega) [gw]
  refine hK _ ⟨k-1,_,Gh.fr [(0,us l),(3,Dn (V 4294967296 (l.drop (k-1)))),(4, .int .i64 (((k-1:Nat):Int)-1))] ?_,by omega,_,_,rfl,by omega⟩
  have e:(V 4294967296 (l.drop k)*65536+nth l (k-1)/65536)*65536+nth l (k-1)%65536=V 4294967296 (l.drop (k-1)):=by omega
  simp [e];omega
 ·simp at h
  have zA:k=0:=by omega
  subst zA
  refine eW ?_
  refine aA [2] ?_
  refine W.ret ?_
  simp
abbrev RI(x:Int):PV:=.ag [aH aG (aR DD x.natAbs), .bool (decide (x<0))]
theorem qD(y:Int)(hy:0≤y)(neg:Bool):aE env.P 68 [Dn y, .bool neg] (RI (if neg=true then -y else y)):=by
 refine cB [(0,Dn y),(1, .bool neg)] Tryz.func68 ?_
 refine aA [0,1,4] ?_
 have e0:(aR DD y.toNat = [])↔y=0:=by rw [eZ SM];omega
 have e:RI (if neg=true then -y else y) = .ag [Dn y, .bool (neg&&decide (0<(aR DD y.toNat).length))]:=by
  have h1:0<(aR DD y.toNat).length↔y≠0:=by
   rw [List.length_pos_iff];simp [e0]
  have e2:(if neg=true then -y else y).natAbs=y.toNat:=by split<;>omega
  have e3:(decide ((if neg=true then -y else y)<0))=(neg&&decide (0<(aR DD y.toNat).length)):=by
   cases neg
   ·simp only [Bool.false_and,Bool.false_eq_true,if_false,decide_eq_false_iff_not];omega
   ·simp only [Bool.true_and,if_true,h1];congr 1;apply propext;omega
  rw [RI,e2,e3]
 rw [e]
 refine W.dS (fun K hK=>?_)
 cases neg
 ·simp (disch:=omega) [gw]
  refine W.lw [4] hK ?_;clear hK K;simp
  exact bZ
 ·simp (disch:=omega) [gw]
  refine W.lw [4] hK ?_;clear hK K;simp
  exact bZ
theorem IB(n:Bool)(l:List Int)(hl:l.length≤17179869184)(hm:c8 4294967296 l):aE env.P 156 [IV n l] (RI (iv n l)):=by
 refine cB [(0,IV n l)] Tryz.func156 ?_
 refine aA [1,2] ?_
 refine nH ?_
 refine cM (aa5 l hl hm) ?_
 refine aC (qD _ (bN (by decide) hm) n) ?_
 simp (disch:=omega) [gw]
 refine bI [2] ?_
 refine W.ret ?_
 simp [go,iv]
theorem aeB(n:Nat)(hn:n<1099511627776):aE env.P 128 [.int .i64 n] (Dn (2^n)):=by
 refine cB [(0, .int .i64 n)] Tryz.func128 ?_
 refine aA [0] ?_
 refine aA [0,3] ?_
 refine W.aAO 3 [[.int .i64 1]] (Dn 1) (by simp) rfl (fun K hK=>?_)
 refine W.lw [0,3] hK ?_;clear hK K;simp
 refine aK [0,3,4] ?_
 refine W.block ?_
 refine W.aY (fun k σ=>∃(i:Nat) (rows:Pm.Rows) (clk:Nat),σ=⟨fa [(0, .int .i64 n),(3,Dn (2^i)),(4, .int .i64 i)],rows,clk⟩∧k=n-i∧i≤n) n ?_ ?_
 ·exact⟨_, .refl,0,_,_,rfl,by omega,by omega⟩
 rintro k _ ⟨i,rows,clk,rfl,hk,hi⟩
 refine aK [0,3,4,8] ?_
 refine bH ?_ ?_<;>intro h
 ·simp at h
  have hs:sz 2 (2^i)≤i+1:=by
   refine dV (by decide) ?_
   rw [show((2:Int)^i)=((2^i:Nat):Int)by simp,Int.natAbs_natCast,Nat.pow_succ]
   have:=Nat.pow_pos (n:=i) (show 0<2 by decide)
   omega
  refine j7 ?_
  refine W.bY (fun K hK=>?_)
  simp (disch:=omega) [gw]
  refine aC (mX (2^i) 2 0 (Int.le_of_lt (Int.pow_pos (by decide))) (by omega) (by decide) (by decide) (by decide) (by decide)) ?_
  simp (disch:=omega) [gw]
  refine W.lw [0,3,4] hK ?_;clear hK K;simp
  refine W.bY (fun K hK=>?_);simp (disch:=omega) [gw]
  refine hK _ ⟨n-(i+1),_,Gh.fr [(0, .int .i64 n),(3,Dn (2^(i+1))),(4, .int .i64 ((i+1:Nat):Int))] ?_,by omega,i+1,_,_,rfl,rfl,by omega⟩
  simp [Int.pow_succ]
 ·simp at h
  have:i=n:=by omega
  subst this
  refine eW ?_
  refine aA [2] ?_
  refine W.ret ?_
  simp
theorem oZ(n:Int)(h1 : -9223372036854775808≤n)(h2:n<9223372036854775808):aE env.P 61 [.int .i64 n] (RI n):=by
 refine cB [(0, .int .i64 n)] Tryz.func61 ?_
 refine aA [0,2] ?_
 refine aK [0,2,6] ?_
 refine bH ?_ ?_<;>intro h
 ·simp at h
  subst h
  refine jG ?_
  refine aC (aeB 63 (by decide)) ?_
  simp (disch:=omega) [gw]
  have hp:=qD 9223372036854775808 (by decide) true
  simp at hp
  refine cN [2] hp ?_
  exact bZ
 ·simp at h
  refine W.skip ?_
  refine aA [0,2,3] ?_
  refine W.iB (fun σ=>∃(rows:Pm.Rows) (clk:Nat),σ=⟨fa [(0, .int .i64 n.natAbs),(2, .ptr 2 0 0 0),(3, .bool (decide (n<0)))],rows,clk⟩∧rows 2=some ⟨0,29,2,[[.nil, .bool false]]⟩) ?_ ?_
  ·
   refine aA [0,2,3,11] ?_
   refine bH ?_ ?_<;>intro h
   ·simp at h
    refine W.bY (fun K hK=>?_);simp (disch:=omega) [gw]
    refine hK _ ⟨_,Gh.fr [(0, .int .i64 n.natAbs),(2, .ptr 2 0 0 0),(3, .bool (decide (n<0)))] (by simp;omega),_,_,rfl,by simp⟩
   ·simp at h
    refine W.skip ?_
    refine⟨_,Gh.fr [(0, .int .i64 n.natAbs),(2, .ptr 2 0 0 0),(3, .bool (decide (n<0)))] (by simp;omega),_,_,rfl,by simp⟩
  rintro _ ⟨rows,clk,rfl,bU⟩
  refine aA [0,2,3,4] ?_
  refine W.nil 4 4 3 1 (by simp) (by decide) (fun K hK=>?_)
  refine W.lw [0,2,3,4] hK ?_;clear hK K;simp
  refine W.seq ?_
  refine W.block ?_
  refine W.aY (fun k σ=>∃(z:List Int) (i ver:Nat) (rows:Pm.Rows) (clk:Nat),σ=⟨fa [(0, .int .i64 k),(2, .ptr 2 0 0 0),(3, .bool (decide (n<0))),(4, .own 4 ver 0 i)],rows,clk⟩∧rows 2=some ⟨0,29,2,[[.nil, .bool false]]⟩ ∧
   rows 4=some ⟨ver,3,1,emap aG z⟩∧z.length=i∧k*2^i≤9223372036854775808∧c8 10000 z∧V 10000 z+10000^i*k=n.natAbs∧aR DD n.natAbs=z++aR DD k) n.natAbs ?_ ?_
  ·exact⟨_, .refl,[],0,_,_,_,rfl,by simp [bU],by simp [emap],rfl,by simp;omega,c8.nil,by simp [V],by simp⟩
  rintro k _ ⟨z,i,ver,rows,clk,rfl,bU,hr,hz,uA,lz,hV,hd⟩
  refine aK [0,2,3,4,15] ?_
  refine bH ?_ ?_<;>intro h
  ·simp at h
   have aGX:i≤63:=by
    have h3:1*2^i≤k*2^i:=Nat.mul_le_mul_right _ (by omega)
    have h4:2^i≤2^63:=by omega
    exact(Nat.pow_le_pow_iff_right (by decide)).1 h4
   have aGY:k≤9223372036854775808:=Nat.le_trans (by have:=Nat.mul_le_mul_left k (Nat.pow_pos (n:=i) (show 0<2 by decide));omega) uA
   refine W.skip ?_
   refine W.block ?_
   refine W.sr ?_
   simp (disch:=omega) [gw,hr,hz]
   refine bI [0,2,3,4] ?_
   refine W.bY (fun K hK=>?_);simp (disch:=omega) [gw]
   refine hK _ ⟨k/10000,_,Gh.fr [(0, .int .i64 ((k/10000:Nat):Int)),(2, .ptr 2 0 0 0),(3, .bool (decide (n<0))),(4, .own 4 _ 0 (i+1))] (by simp;rfl),by omega,z ++ [((k%10000:Nat):Int)],i+1,_,_,_,rfl,by simp [bU],by simp,by simp [hz],?_,c8.append.2 ⟨lz,c8.cons.2 ⟨by omega,c8.nil⟩⟩,?_,?_⟩
   ·rw [Nat.pow_succ]
    have h3:k/10000*(2^i*2)=k/10000*2*2^i:=by rw [Nat.mul_comm (2^i),Nat.mul_assoc]
    rw [h3]
    exact Nat.le_trans (Nat.mul_le_mul_right _ (by omega)) uA
   ·rw [eJ,oV,hz,←hV,Int.pow_succ]
    have:(k:Int)=(k%10000:Nat)+10000*(k/10000:Nat):=by omega
    grind
   ·rw [hd,sR SM (by omega)];simp
  ·simp at h
   have zA:k=0:=by omega
   subst zA
   have e:z=aR DD n.natAbs:=by rw [hd];simp [mU]
   refine eW ?_
   refine W.sr ?_
   have ez:z.take i=aR DD n.natAbs:=by rw [bM hz,e]
   simp (disch:=omega) [gw,hr,hz,ez]
   refine aC (qD n.natAbs (by omega) (decide (n<0))) ?_
   simp (disch:=omega) [gw,bU]
   refine bI [2] ?_
   refine W.ret ?_
   have e2:(if n<0 then -(n.natAbs:Int)else n.natAbs)=n:=by split<;>omega
   rw [e2]
   simp [go]
theorem s6:∀ {l:List Int},l.length≤(aP l).length→aP l=l
 | [],_=>rfl
 | x::l,h=>by
  rw [aP]at h ⊢
  split
  ·rename_i h1
   rw [if_pos h1]at h;simp at h
  ·rename_i h1
   rw [if_neg h1]at h
   rw [s6 (by simpa using h)]
theorem PO{b:Int}(hb:1≤b){l:List Int}(hl:c8 b l)(h:l ≠ []→b^(l.length-1)≤V b l):aP l=l:=by
 apply s6
 rcases Nat.lt_or_ge (aP l).length l.length with h1 | h1
 ·exfalso
  have h2:=h (by intro h0;subst h0;simp at h1)
  have h3:=pJ (by omega) (eT hl)
  rw [dE]at h3
  obtain⟨m,hm⟩:∃m,l.length-1=(aP l).length+m:=⟨l.length-1-(aP l).length,by omega⟩
  rw [hm,Int.pow_add]at h2
  have h4:1≤b^m:=Int.pow_pos (by omega)
  have h5:=Int.mul_le_mul_of_nonneg_left h4 (show 0≤b^(aP l).length from Int.le_of_lt (Int.pow_pos (by omega)))
  omega
 ·exact h1
@[simp] theorem ai4{l:List Int}{x:Int}:emap u32 l ++ [[.int .u32 x]]=emap u32 (l ++ [x]):=by simp [emap]
theorem IC(x:Int):aE env.P 125 [RI x] (.bool (decide (x=0))):=by
 refine cB [(0,RI x)] Tryz.func125 ?_
 refine aA [1] ?_
 refine aA [2] ?_
 refine W.ret ?_
 simp [go]
 have e:((aR DD x.natAbs).length=0)↔x=0:=by rw [List.length_eq_zero_iff,eZ SM];omega
 rw [Bool.eq_iff_iff,decide_eq_true_iff,beq_iff_eq,←e]
 omega
theorem X4{x:Int}:(aR DD x.natAbs).length=0↔x=0:=by rw [List.length_eq_zero_iff,eZ SM];omega
theorem ID(x:Int):aE env.P 129 [RI x] (.int .i64 x.sign):=by
 refine cB [(0,RI x)] Tryz.func129 ?_
 refine bT [1] ?_
 refine W.block ?_
 refine aA [1,3] ?_
 refine bH ?_ ?_<;>intro h
 ·have h0:x=0:=by rw [←X4];simp at h;simp [h]
  subst h0
  refine aA [2] ?_
  exact bZ
 ·have h0:x≠0:=by rw [Ne,←X4];simp at h;simpa using h
  refine aA [8] ?_
  refine bH ?_ ?_<;>intro h
  ·simp at h
   refine aA [2] ?_
   refine W.ret ?_
   simp [go,Int.sign_eq_neg_one_of_neg h]
  ·simp at h
   refine W.skip ?_
   refine aA [2] ?_
   refine W.ret ?_
   simp [go,Int.sign_eq_one_of_pos (show 0<x by omega)]
theorem s7(x:Int):aE env.P 17 [RI x] (RI (-x)):=by
 refine cB [(0,RI x)] Tryz.func17 ?_
 refine aA [1,2] ?_
 refine jG ?_
 refine aC (qD x.natAbs (by omega) (!decide (x<0))) ?_
 simp (disch:=omega) [gw]
 refine bI [2] ?_
 refine W.ret ?_
 have e:(if 0≤x then -(x.natAbs:Int)else x.natAbs) = -x:=by split<;>omega
 simp only [e]
 simp [go]
theorem aa6(a:List Int)(d:Int)(ha:a.length<1099511627776)(la:c8 10000 a)(hd0:0<d)(X5:d≤65536):aE env.P 136 [aH aG a, .int .i64 d] (.dX [Dn (V 10000 a/d), .int .i64 (V 10000 a%d)]):=by
 refine cB [(0,aH aG a),(1, .int .i64 d)] Tryz.func136 ?_
 refine aA [0,1] ?_
 refine aA [0,1,6] ?_
 refine aA [0,1,6,7] ?_
 refine aK [0,1,6,7,8] ?_
 refine W.block ?_
 refine W.aY (fun k σ=>∃(r:Int) (z:List Int) (ver:Nat) (rows:Pm.Rows) (clk:Nat),σ=⟨fa [(0,aH aG a),(1, .int .i64 d),(6, .own 12 ver 0 a.length),(7, .int .i64 r),(8, .int .i64 ((k:Int)-1))],rows,clk⟩ ∧
  rows 12=some ⟨ver,3,1,emap aG z⟩∧k≤a.length∧z.length=a.length∧c8 10000 z∧0≤r∧r<d∧V 10000 (a.drop k)=d*V 10000 (z.drop k)+r) a.length ?_ ?_
 ·exact⟨_, .refl,0,List.replicate a.length 0,_,_,_,rfl,by simp,by omega,by simp,c8.rep (by decide) _,by omega,hd0,by simp [V]⟩
 rintro k _ ⟨r,z,ver,rows,clk,rfl,hr,hk,hz,lz,HN,xE,hV⟩
 refine aK [0,1,6,7,8,17] ?_
 refine bH ?_ ?_<;>intro h
 ·simp at h
  obtain⟨j,rfl⟩:∃j,k=j+1:=⟨k-1,by omega⟩
  clear h
  have hx:=la.nth (i:=j) (by omega)
  have XY:0≤r*10000+nth a j:=by omega
  have vT:r*10000+nth a j<d*10000:=by omega
  have SN:0≤(r*10000+nth a j)/d:=Int.ediv_nonneg XY (by omega)
  have hq1:(r*10000+nth a j)/d<10000:=Int.ediv_lt_of_lt_mul hd0 (by omega)
  have SL:=Int.emod_nonneg (r*10000+nth a j) (show d≠0 by omega)
  have NF:=Int.emod_lt_of_pos (r*10000+nth a j) hd0
  have hdz:d≠0:=by omega
  refine j7 ?_
  refine aA [0,1,6,8,9] ?_
  refine W.sr ?_
  simp (disch:=omega) [gw,hr,hdz]
  refine bI [0,1,6,8,9] ?_
  refine W.bY (fun K hK=>?_);simp (disch:=omega) [gw,hdz]
  refine W.lw [0,1,6,7,8] hK ?_;clear hK K;simp
  refine W.bY (fun K hK=>?_);simp (disch:=omega) [gw]
  refine hK _ ⟨j,_,aB _ [0,1,6,7,8],by omega,_,z.set j ((r*10000+nth a j)/d),ver,_,_,rfl,by simp,by omega,by simpa using hz,lz.set ⟨SN,hq1⟩,SL,NF,?_⟩
  rw [fK (l:=a) (i:=j) (by omega),fK (l:=z.set j _) (i:=j) (by simp;omega),fG (by omega),List.drop_set_of_lt (by omega)]
  simp only [V]
  rw [hV]
  have:=Int.emod_add_mul_ediv (r*10000+nth a j) d
  grind
 ·simp at h
  have zA:k=0:=by omega
  subst zA
  simp only [List.drop_zero]at hV
  have ez:z.take a.length=z:=bM hz
  have hzn:=bN (by decide) lz
  have e1:V 10000 a/d=V 10000 z:=by
   rw [hV,Int.mul_add_ediv_left _ _ (by omega),Int.ediv_eq_zero_of_lt HN xE];simp
  have e2:V 10000 a%d=r:=by
   rw [hV,Int.mul_add_emod_self_left,Int.emod_eq_of_lt HN xE]
  refine eW ?_
  refine W.sr ?_
  simp (disch:=omega) [gw,hr,ez]
  refine aC (qC z (by omega)) ?_
  simp (disch:=omega) [gw]
  refine bI [4,5] ?_
  refine W.ret ?_
  rw [e1,e2,←vW lz]
  simp [go]
theorem EI(y d:Int)(hy:0≤y)(hz:Z y)(hd0:0<d)(X5:d≤65536):aE env.P 136 [Dn y, .int .i64 d] (.dX [Dn (y/d), .int .i64 (y%d)]):=by
 have:=aa6 (aR DD y.toNat) d (by have:=lH hy;omega) (nB _) hd0 X5
 rwa [xP hy]at this
theorem ai6(n:Nat)(hz:Z (n:Int)):aE env.P 67 [aH aG (aR DD n)] (us (aR LL n)):=by
 have hln:(aR LL n).length≤sz 2 (n:Int):=X3 gO n
 refine cB [(0,aH aG (aR DD n))] Tryz.func67 ?_
 refine aA [0] ?_
 refine aA [0,3] ?_
 refine W.nil 3 3 185 1 (by simp) (by decide) (fun K hK=>?_)
 refine W.lw [0,3] hK ?_;clear hK K;simp
 refine W.seq ?_
 refine W.block ?_
 refine W.aY (fun k σ=>∃(i:Nat) (z:List Int) (ver:Nat) (rows:Pm.Rows) (clk:Nat),σ=⟨fa [(0,aH aG (aR DD k)),(3, .own 3 ver 0 i)],rows,clk⟩∧rows 3=some ⟨ver,185,1,emap u32 z⟩∧z.length=i∧k≤n∧aR LL n=z++aR LL k) n ?_ ?_
 ·exact⟨_, .refl,0,[],_,_,_,rfl,by simp [emap],rfl,by omega,by simp⟩
 rintro k _ ⟨i,z,ver,rows,clk,rfl,hr,JX,hk,hd⟩
 have hzk:Z (k:Int):=Nat.lt_of_le_of_lt (dY (by decide) (y:=(n:Int)) (by omega)) hz
 have vX:i≤(aR LL n).length:=by rw [hd];simp [JX]
 have e0:(aR DD k).length=0↔k=0:=by rw [List.length_eq_zero_iff,eZ SM]
 refine aK [0,3,9] ?_
 refine bH ?_ ?_<;>intro h
 ·have zA:k≠0:=by rw [Ne,←e0];simp at h;omega
  have vU:Z ((k:Int)/65536):=Nat.lt_of_le_of_lt (dY (by decide) (y:=(k:Int)) (by omega)) hzk
  refine W.skip ?_
  refine W.block ?_
  refine jG ?_
  refine aC (EI (k:Int) 65536 (by omega) hzk (by decide) (by decide)) ?_
  simp (disch:=omega) [gw]
  refine bI [3,4,5] ?_
  refine jG ?_
  refine aC (EI ((k:Int)/65536) 65536 (by omega) vU (by decide) (by decide)) ?_
  simp (disch:=omega) [gw]
  refine bI [3,4,5,6] ?_
  refine W.sr ?_
  simp (disch:=omega) [gw,hr,JX,wrap_u32']
  have e1:(k:Int)/65536%65536*65536+k%65536=((k%LL:Nat):Int):=by simp;omega
  have e3:k/LL<k:=Nat.div_lt_self (by omega) (by decide)
  obtain⟨dg,e2⟩:∃dg:Int,dg=((k%LL:Nat):Int):=⟨_,rfl⟩
  rw [←e2]at e1
  simp only [e1,ai4]
  refine bI [3,4] ?_
  refine W.bY (fun K hK=>?_);simp (disch:=omega) [gw]
  refine hK _ ⟨k/LL,_,Gh.fr [(0,aH aG (aR DD (k/LL))),(3, .own 3 _ 0 (i+1))] ?_,e3,i+1,z ++ [dg],_,_,_,rfl,by simp;rfl,by simp [JX],by omega,?_⟩
  ·have e2:((k:Int)/65536/65536).toNat=k/LL:=by show _=k/4294967296;omega
   simp only [Dn,e2]
   simp
  ·rw [hd,sR gO zA,e2];simp
 ·have zA:k=0:=by rw [←e0];simp at h;simp [h]
  subst zA
  refine eW ?_
  refine aA [2] ?_
  refine W.ret ?_
  simp [mU]at hd
  have ez:z.take i=z:=bM JX
  simp [go,hr,ez,hd]
theorem K3(x:Int)(hz:Z x):aE env.P 16 [RI x] (I x):=by
 refine cB [(0,RI x)] Tryz.func16 ?_
 refine aA [1,2] ?_
 refine nH ?_
 refine aC (ai6 x.natAbs (by simpa [Z,sz]using hz)) ?_
 simp (disch:=omega) [gw]
 refine bI [2] ?_
 exact bZ
theorem aa7(x y:List Int)(hx:x.length<1099511627776)(hy:y.length<1099511627776)(lx:c8 10000 x)(ly:c8 10000 y)(cx:aP x=x)(cy:aP y=y):aE env.P 228 [aH aG x,aH aG y] (.int .i64 (dP (V 10000 x) (V 10000 y))):=by
 refine cB [(0,aH aG x),(1,aH aG y)] Tryz.func228 ?_
 refine aA [0,1] ?_
 refine aK [0,1,10] ?_
 refine bH ?_ ?_<;>intro h
 ·simp at h
  refine aK [15] ?_
  refine bH ?_ ?_<;>intro h
  ·simp at h
   refine aA [4] ?_
   refine W.ret ?_
   simp [mK (kN (by decide) lx ly cy h)]
  ·simp at h
   refine W.skip ?_
   refine aA [4] ?_
   refine W.ret ?_
   simp [mL (kN (by decide) ly lx cx (by omega))]
 ·simp at h
  have hlen:x.length=y.length:=by omega
  clear h
  refine W.skip ?_
  refine aK [0,1,5] ?_
  refine W.block ?_
  refine W.aY (fun k σ=>∃(rows:Pm.Rows) (clk:Nat),σ=⟨fa [(0,aH aG x),(1,aH aG y),(5, .int .i64 ((k:Int)-1))],rows,clk⟩∧k≤x.length∧x.drop k=y.drop k) x.length ?_ ?_
  ·exact⟨_, .refl,_,_,rfl,by omega,by rw [List.drop_of_length_le (by omega),List.drop_of_length_le (by omega)]⟩
  rintro k _ ⟨rows,clk,rfl,hk,hd⟩
  refine aK [0,1,5,20] ?_
  refine bH ?_ ?_<;>intro h
  ·have h0:0<k:=by simp at h;omega
   obtain⟨j,rfl⟩:∃j,k=j+1:=⟨k-1,by omega⟩
   clear h
   refine j7 ?_
   refine nH ?_
   refine bI [0,1,5,31] ?_
   refine bH ?_ ?_<;>intro h
   ·simp at h
    refine W.seq ?_
    refine nH ?_
    refine bI [40] ?_
    refine W.cond ⟨_,rfl,fun h2=>?_,fun h2=>?_⟩
    ·simp at h2
     refine aA [4] ?_
     refine W.ret ?_
     simp [mK (oW (by decide) lx ly hlen (by omega) hd h2)]
    ·simp at h2
     refine W.skip ?_
     refine aA [4] ?_
     refine W.ret ?_
     simp [mL (oW (by decide) ly lx hlen.symm (by omega) hd.symm (by omega))]
   ·simp at h
    refine W.skip ?_
    refine W.bY (fun K hK=>?_);simp (disch:=omega) [gw]
    refine hK _ ⟨j,_,aB _ [0,1,5],by omega,_,_,rfl,by omega,?_⟩
    rw [fK (l:=x) (i:=j) (by omega),fK (l:=y) (i:=j) (by omega),hd,h]
  ·have h0:k=0:=by simp at h;omega
   subst h0
   simp at hd
   subst hd
   refine eW ?_
   refine aA [4] ?_
   refine W.ret ?_
   simp [xF]
theorem PQ(x y:Int)(hx:0≤x)(hy:0≤y)(zx:Z x)(zy:Z y):aE env.P 228 [Dn x,Dn y] (.int .i64 (dP x y)):=by
 have:=aa7 (aR DD x.toNat) (aR DD y.toNat) (by have:=lH hx;omega) (by have:=lH hy;omega) (nB _) (nB _) (kK SM _) (kK SM _)
 rwa [xP hx,xP hy]at this
theorem aa8(a b:List Int)(ha:a.length<1099511627776)(hb:b.length<1099511627776)(la:c8 10000 a)(lb:c8 10000 b)(ca:aP a=a)(cb:aP b=b):aE env.P 227 [aH aG a,aH aG b] (Dn (V 10000 a+V 10000 b)):=by
 refine cB [(0,aH aG a),(1,aH aG b)] Tryz.func227 ?_
 refine aA [0,1] ?_
 refine aA [0,1,5] ?_
 refine W.nil 5 5 3 1 (by simp) (by decide) (fun K hK=>?_)
 refine W.lw [0,1,5] hK ?_;clear hK K;simp
 refine aA [0,1,5,6] ?_
 refine aK [0,1,5,6,7] ?_
 refine W.block ?_
 obtain⟨M,hM⟩:∃M,M=max a.length b.length:=⟨_,rfl⟩
 refine W.aY (fun k σ=>∃(i:Nat) (c:Int) (z:List Int) (ver:Nat) (rows:Pm.Rows) (clk:Nat),σ=⟨fa [(0,aH aG a),(1,aH aG b),(5, .own 5 ver 0 i),(6, .int .i64 c),(7, .int .i64 i)],rows,clk⟩ ∧
  rows 5=some ⟨ver,3,1,emap aG z⟩∧k=2*(M-i)+c.toNat∧z.length=i∧(i≤M∨(i=M+1∧c=0∧10000^M≤V 10000 a+V 10000 b))∧c8 10000 z∧0≤c∧c≤1 ∧
  V 10000 z+10000^i*c=V 10000 (a.take i)+V 10000 (b.take i)) (2*M) ?_ ?_
 ·exact⟨_, .refl,0,0,[],_,_,_,rfl,by simp [emap],by simp,rfl,by omega,c8.nil,by omega,by omega,by simp [V]⟩
 rintro k _ ⟨i,c,z,ver,rows,clk,rfl,hr,hk,hz,hi,lz,zG,u9,hV⟩
 refine W.seq ?_
 refine W.eD (fun σ=>∃(t:Bool),σ=⟨fa [(0,aH aG a),(1,aH aG b),(5, .own 5 ver 0 i),(6, .int .i64 c),(7, .int .i64 i),(21, .bool t)],rows,clk⟩∧(t=true↔i<M∨0<c)) (fun K hK=>?_) ?_
 ·simp
  by_cases h1:i<a.length
  ·simp (disch:=omega) [gw,h1]
   exact hK _ _ (aB _ [0,1,5,6,7,21]) ⟨_,rfl,by simp;omega⟩
  ·by_cases h2:i<b.length
   ·simp (disch:=omega) [gw,h1,h2]
    exact hK _ _ (aB _ [0,1,5,6,7,21]) ⟨_,rfl,by simp;omega⟩
   ·simp (disch:=omega) [gw,h1,h2]
    exact hK _ _ (aB _ [0,1,5,6,7,21]) ⟨_,rfl,by simp;omega⟩
 rintro _ ⟨t,rfl,ht⟩
 refine bH ?_ ?_<;>intro h
 ·have ht:=ht.1 h
  refine j7 ?_
  refine W.iB (fun σ=>∃(s:Int),σ=⟨fa [(0,aH aG a),(1,aH aG b),(5, .own 5 ver 0 i),(6, .int .i64 s),(7, .int .i64 i)],rows,clk⟩∧0≤s∧s≤c+9999∧(a.length≤i→s=c) ∧
   V 10000 z+10000^i*s=V 10000 (a.take (i+1))+V 10000 (b.take i)) ?_ ?_
  ·
   refine aA [0,1,5,6,7,27] ?_
   refine bH ?_ ?_<;>intro h
   ·simp at h
    have hx:=la.nth h
    refine W.bY (fun K hK=>?_);simp (disch:=omega) [gw]
    refine hK _ ⟨_,aB _ [0,1,5,6,7],_,rfl,by omega,by omega,by omega,?_⟩
    rw [aV h];grind
   ·simp at h
    refine W.skip ?_
    refine⟨_,aB _ [0,1,5,6,7],_,rfl,by omega,by omega,fun _=>rfl,?_⟩
    rw [bC (l:=a) (by omega)]
    rwa [bC (l:=a) (by omega)]at hV
  rintro _ ⟨s,rfl,XY,vT,hsc,hsV⟩
  refine W.iB (fun σ=>∃(u:Int),σ=⟨fa [(0,aH aG a),(1,aH aG b),(5, .own 5 ver 0 i),(6, .int .i64 u),(7, .int .i64 i)],rows,clk⟩∧0≤u∧u≤s+9999∧(b.length≤i→u=s) ∧
   V 10000 z+10000^i*u=V 10000 (a.take (i+1))+V 10000 (b.take (i+1))) ?_ ?_
  ·
   refine aA [0,1,5,6,7,37] ?_
   refine bH ?_ ?_<;>intro h
   ·simp at h
    have hx:=lb.nth h
    refine W.bY (fun K hK=>?_);simp (disch:=omega) [gw]
    refine hK _ ⟨_,aB _ [0,1,5,6,7],_,rfl,by omega,by omega,by omega,?_⟩
    rw [aV h];grind
   ·simp at h
    refine W.skip ?_
    refine⟨_,aB _ [0,1,5,6,7],_,rfl,by omega,by omega,fun _=>rfl,?_⟩
    rw [bC (l:=b) (by omega)]
    rwa [bC (l:=b) (by omega)]at hsV
  rintro _ ⟨u,rfl,hu0,hu1,huc,huV⟩
  refine W.sr ?_
  simp (disch:=omega) [gw,hr,hz]
  refine bI [0,1,5,6,7] ?_
  refine W.bY (fun K hK=>?_);simp (disch:=omega) [gw];refine W.lw [0,1,5,6,7] hK ?_;clear hK K;simp
  refine W.bY (fun K hK=>?_);simp (disch:=omega) [gw]
  refine hK _ ⟨2*(M-(i+1))+(u/10000).toNat,_,aB _ [0,1,5,6,7],?_,i+1,u/10000,z ++ [u%10000],_,_,_,rfl,by simp,rfl,by simp [hz],?_,c8.append.2 ⟨lz,c8.cons.2 ⟨by omega,c8.nil⟩⟩,by omega,by omega,?_⟩
  ·rcases Nat.lt_or_ge i M with h1 | h1
   ·omega
   ·have:=hsc (by omega);have:=huc (by omega);omega
  ·rcases Nat.lt_or_ge i M with h1 | h1
   ·omega
   ·right
    have hc:c=1:=by omega
    have hzn:=bN (by decide) lz
    rw [bC (l:=a) (by omega),bC (l:=b) (by omega),hc]at hV
    have hiM:i=M:=by omega
    rw [←hiM]
    refine⟨rfl,by have:=hsc (by omega);have:=huc (by omega);omega,?_⟩
    rw [←hV]
    omega
  ·rw [eJ,oV,hz,←huV,Int.pow_succ]
   have:=Int.emod_add_mul_ediv u 10000
   grind
 ·have ht:¬(i<M∨0<c):=fun h2=>by simp [ht.2 h2]at h
  have hc:c=0:=by omega
  subst hc
  refine eW ?_
  refine aA [4] ?_
  refine W.ret ?_
  rw [bC (l:=a) (by omega),bC (l:=b) (by omega)]at hV
  have e:V 10000 a+V 10000 b=V 10000 z:=by rw [←hV];simp
  have cz:aP z=z:=by
   refine PO (by decide) lz fun h0=>?_
   rw [hz,←e]
   rcases hi with h1 | ⟨h1,_,h2⟩
   ·have hna:=bN (by decide) la
    have hnb:=bN (by decide) lb
    have vX:0<i:=by rw [←hz];exact List.length_pos_iff.2 h0
    rcases Nat.le_total b.length a.length with h3 | h3
    ·have:=l9 (b:=10000) (by decide) la ca (by intro h5;rw [h5]at h3 hM;simp at h3;simp [h3]at hM;omega)
     rw [show i-1=a.length-1 by omega];omega
    ·have:=l9 (b:=10000) (by decide) lb cb (by intro h5;rw [h5]at h3 hM;simp at h3;simp [h3]at hM;omega)
     rw [show i-1=b.length-1 by omega];omega
   ·rw [h1];exact h2
  have ez:z.take i=z:=bM hz
  rw [e,←vW lz,cz]
  simp [go,hr,ez]
theorem aeC(x y:Int)(hx:0≤x)(hy:0≤y)(zx:Z x)(zy:Z y):aE env.P 227 [Dn x,Dn y] (Dn (x+y)):=by
 have:=aa8 (aR DD x.toNat) (aR DD y.toNat) (by have:=lH hx;omega) (by have:=lH hy;omega) (nB _) (nB _) (kK SM _) (kK SM _)
 rwa [xP hx,xP hy]at this
theorem aa9(a b:List Int)(ha:a.length<1099511627776)(hb:b.length≤a.length)(la:c8 10000 a)(lb:c8 10000 b)(hle:V 10000 b≤V 10000 a):aE env.P 229 [aH aG a,aH aG b] (Dn (V 10000 a-V 10000 b)):=by
 refine cB [(0,aH aG a),(1,aH aG b)] Tryz.func229 ?_
 refine aA [0,1] ?_
 refine aA [0,1,5] ?_
 refine aA [0,1,5,6] ?_
 refine aK [0,1,5,6,13,14] ?_
 refine W.block ?_
 refine W.aY (fun k σ=>∃(i:Nat) (c:Int) (z:List Int) (ver:Nat) (rows:Pm.Rows) (clk:Nat),σ=⟨fa [(0,aH aG a),(1,aH aG b),(5, .own 11 ver 0 a.length),(6, .int .i64 c),(13, .int .i64 a.length),(14, .int .i64 i)],rows,clk⟩ ∧
  rows 11=some ⟨ver,3,1,emap aG z⟩∧k=a.length-i∧i≤a.length∧z.length=a.length∧c8 10000 z∧0≤c∧c≤1 ∧
  V 10000 (z.take i)-10000^i*c=V 10000 (a.take i)-V 10000 (b.take i)) a.length ?_ ?_
 ·exact⟨_, .refl,0,0,List.replicate a.length 0,_,_,_,rfl,by simp,by omega,by omega,by simp,c8.rep (by decide) _,by omega,by omega,by simp [V]⟩
 rintro k _ ⟨i,c,z,ver,rows,clk,rfl,hr,hk,hi,hz,lz,zG,u9,hV⟩
 refine bT [0,1,5,6,13,14,15] ?_
 refine bH ?_ ?_<;>intro h
 ·simp at h
  have hx:=la.nth h
  refine j7 ?_
  refine aA [0,1,5,6,7,13,14] ?_
  refine aA [0,1,5,7,8,13,14] ?_
  refine W.iB (fun σ=>∃(s:Int),σ=⟨fa [(0,aH aG a),(1,aH aG b),(5, .own 11 ver 0 a.length),(7, .int .i64 i),(8, .int .i64 s),(13, .int .i64 a.length),(14, .int .i64 i)],rows,clk⟩ ∧ -10000≤s∧s≤9999 ∧
   V 10000 (z.take i)+10000^i*s=V 10000 (a.take (i+1))-V 10000 (b.take (i+1))) ?_ ?_
  ·
   refine aA [0,1,5,7,8,13,14,26] ?_
   refine bH ?_ ?_<;>intro h
   ·simp at h
    have hy:=lb.nth h
    refine W.bY (fun K hK=>?_);simp (disch:=omega) [gw]
    refine hK _ ⟨_,aB _ [0,1,5,7,8,13,14],_,rfl,by omega,by omega,?_⟩
    rw [aV (l:=a) (by omega),aV h];grind
   ·simp at h
    refine W.skip ?_
    refine⟨_,aB _ [0,1,5,7,8,13,14],_,rfl,by omega,by omega,?_⟩
    rw [aV (l:=a) (by omega),bC (l:=b) (by omega)]
    rw [bC (l:=b) (by omega)]at hV
    grind
  rintro _ ⟨s,rfl,XY,vT,hsV⟩
  refine aA [0,1,5,6,7,8,13,14] ?_
  refine W.iB (fun σ=>∃(u c:Int),σ=⟨fa [(0,aH aG a),(1,aH aG b),(5, .own 11 ver 0 a.length),(6, .int .i64 c),(7, .int .i64 i),(8, .int .i64 u),(13, .int .i64 a.length),(14, .int .i64 i)],rows,clk⟩∧0≤u∧u≤9999∧0≤c∧c≤1∧s=u-10000*c) ?_ ?_
  ·
   refine aA [0,1,5,6,7,8,13,14,34] ?_
   refine bH ?_ ?_<;>intro h
   ·simp at h
    refine aA [0,1,5,7,8,13,14] ?_
    refine W.bY (fun K hK=>?_);simp (disch:=omega) [gw]
    exact hK _ ⟨_,aB _ [0,1,5,6,7,8,13,14],_,1,rfl,by omega,by omega,by omega,by omega,by omega⟩
   ·simp at h
    refine W.skip ?_
    exact⟨_,aB _ [0,1,5,6,7,8,13,14],_,0,rfl,by omega,by omega,by omega,by omega,by omega⟩
  rintro _ ⟨u,c',rfl,hu0,hu1,aBs,aBt,hu⟩
  refine W.bY (fun K hK=>?_);simp (disch:=omega) [gw,hr]
  refine W.lw [0,1,5,6,13,14] hK ?_;clear hK K;simp
  refine W.bY (fun K hK=>?_);simp (disch:=omega) [gw]
  refine hK _ ⟨a.length-(i+1),_,aB _ [0,1,5,6,13,14],by omega,i+1,c',z.set i u,ver,_,_,rfl,by simp,by omega,by omega,by simpa using hz,lz.set (by omega),aBs,aBt,?_⟩
  rw [fL (by omega),←hsV,hu,Int.pow_succ]
  grind
 ·simp at h
  have lW:i=a.length:=by omega
  subst lW
  have ez:z.take a.length=z:=bM hz
  refine eW ?_
  refine W.sr ?_
  simp (disch:=omega) [gw,hr,ez]
  refine aC (qC z (by omega)) ?_
  simp (disch:=omega) [gw]
  refine bI [4] ?_
  refine W.ret ?_
  rw [ez,bC (l:=a) (by omega),bC (l:=b) (by omega)]at hV
  have h1:=pJ (by decide) lz
  rw [hz]at h1
  have hc:c=0:=by
   rcases(show c=0∨c=1 by omega)with h2 | h2
   ·exact h2
   ·subst h2;omega
  subst hc
  have e:V 10000 a-V 10000 b=V 10000 z:=by rw [←hV];simp
  rw [e,←vW lz]
  simp [go]
theorem EJ(x y:Int)(hy:0≤y)(hle:y≤x)(zx:Z x):aE env.P 229 [Dn x,Dn y] (Dn (x-y)):=by
 have hlen:(aR DD y.toNat).length≤(aR DD x.toNat).length:=by
  have h1:=dY (b:=DD) SM (x:=y) (y:=x) (by omega)
  simp only [sz]at h1
  rwa [show y.natAbs=y.toNat by omega,show x.natAbs=x.toNat by omega]at h1
 have:=aa9 (aR DD x.toNat) (aR DD y.toNat) (by have:=lH (show 0≤x by omega);omega) hlen (nB _) (nB _) (by rw [xP hy,xP (by omega)];exact hle)
 rwa [xP hy,xP (by omega)]at this
theorem apY{a b:Int}(ha:0≤a∧a<10000)(hb:0≤b∧b<10000):0≤a*b∧a*b≤99980001:=by
 refine⟨Int.mul_nonneg ha.1 hb.1,?_⟩
 have:=Int.mul_le_mul (show a≤9999 by omega) (show b≤9999 by omega) hb.1 (by decide)
 simpa using this
theorem aba(x y:List Int)(hx:x.length<1099511627776)(hy:y.length<1099511627776)(lx:c8 10000 x)(ly:c8 10000 y):aE env.P 131 [aH aG x,aH aG y] (Dn (V 10000 x*V 10000 y)):=by
 refine cB [(0,aH aG x),(1,aH aG y)] Tryz.func131 ?_
 refine aA [0,1] ?_
 have e:((x.length:Int)+(y.length:Int)).toNat=x.length+y.length:=by omega
 refine W.sr ?_
 simp (disch:=omega) [gw,e]
 refine bI [0,1,5] ?_
 refine aK [0,1,5,17,18] ?_
 refine W.block ?_
 refine W.aY (fun k σ=>∃(i:Nat) (z:List Int) (ver:Nat) (rows:Pm.Rows) (clk:Nat),σ=⟨fa [(0,aH aG x),(1,aH aG y),(5, .own 15 ver 0 (x.length+y.length)),(17, .int .i64 x.length),(18, .int .i64 i)],rows,clk⟩ ∧
   rows 15=some ⟨ver,3,1,emap aG z⟩∧k=x.length-i∧i≤x.length∧z.length=x.length+y.length∧c8 10000 z∧(∀j,i+y.length≤j→nth z j=0) ∧
   V 10000 z=V 10000 (x.take i)*V 10000 y) x.length ?_ ?_
 ·refine⟨_, .refl,0,List.replicate (x.length+y.length) 0,_,_,_,rfl,by simp [e],by omega,by omega,by simp,c8.rep (by decide) _,fun j _=>?_,by simp [V,rO]⟩
  unfold nth
  cases h:(List.replicate (x.length+y.length) (0:Int))[j]? with
  | none=>rfl
  | some v=>have:=List.mem_of_getElem? h;simp at this;simp [this]
 rintro k _ ⟨i,z,ver,rows,clk,rfl,hr,hk,hi,hz,lz,oT,hV⟩
 refine bT [0,1,5,17,18,19] ?_
 refine bH ?_ ?_<;>intro h
 ·simp at h
  have hxi:=lx.nth h
  refine j7 ?_
  refine aA [0,1,5,6,17,18] ?_
  refine aA [0,1,5,6,7,17,18] ?_
  refine aA [0,1,5,6,7,8,17,18] ?_
  refine W.block ?_
  refine W.aY (fun m σ=>∃(k:Nat) (c:Int) (z:List Int) (ver:Nat) (rows:Pm.Rows) (clk:Nat),σ=⟨fa [(0,aH aG x),(1,aH aG y),(5, .own 15 ver 0 (x.length+y.length)),(6, .int .i64 i),(7, .int .i64 c),(8, .int .i64 k),(17, .int .i64 x.length),(18, .int .i64 i)],rows,clk⟩ ∧
   rows 15=some ⟨ver,3,1,emap aG z⟩∧m=y.length+1-k∧(k≤y.length∧(∀j,i+y.length≤j→nth z j=0)∨k=y.length+1∧c=0)∧z.length=x.length+y.length∧c8 10000 z∧(∀j,i+1+y.length≤j→nth z j=0)∧0≤c∧c≤9999 ∧
   V 10000 z+10000^(i+k)*c=V 10000 (x.take i)*V 10000 y+10000^i*nth x i*V 10000 (y.take k)) (y.length+1) ?_ ?_
  ·exact⟨_, .refl,0,0,z,ver,_,_,rfl,by simpa using hr,by omega, .inl ⟨by omega,oT⟩,hz,lz,fun j hj=>oT j (by omega),by omega,by omega,by simp [V,hV]⟩
  clear hV oT lz hz hr z ver rows clk
  rintro m _ ⟨k,c,z,ver,rows,clk,rfl,hr,hm,hky,hz,lz,oT,zG,u9,hV⟩
  refine W.seq ?_
  refine W.eD (fun σ=>∃(t:Bool),σ=⟨fa [(0,aH aG x),(1,aH aG y),(5, .own 15 ver 0 (x.length+y.length)),(6, .int .i64 i),(7, .int .i64 c),(8, .int .i64 k),(17, .int .i64 x.length),(18, .int .i64 i),(28, .bool t)],rows,clk⟩∧(t=true↔k<y.length∨0<c)) (fun K hK=>?_) ?_
  ·simp
   by_cases h2:k<y.length
   ·simp (disch:=omega) [gw,h2]
    exact hK _ _ (aB _ [0,1,5,6,7,8,17,18,28]) ⟨_,rfl,by simp [h2]⟩
   ·simp (disch:=omega) [gw,h2]
    exact hK _ _ (aB _ [0,1,5,6,7,8,17,18,28]) ⟨_,rfl,by simp [h2]⟩
  rintro _ ⟨t,rfl,ht⟩
  refine W.cond ⟨_,rfl,fun h2=>?_,fun h2=>?_⟩
  ·have ht:=ht.1 h2
   obtain⟨zA,hk1⟩:k≤y.length∧(∀j,i+y.length≤j→nth z j=0):=by
    rcases hky with h3 | h3
    ·exact h3
    ·omega
   have hzk:=lz.nth (i:=i+k) (by omega)
   have e0:((i:Int)+(k:Int)).toNat=i+k:=by omega
   refine j7 ?_
   refine W.sr ?_
   simp (disch:=omega) [gw,hr,e0]
   refine bI [0,1,5,6,8,9,17,18] ?_
   refine W.iB (fun σ=>∃(s:Int),σ=⟨fa [(0,aH aG x),(1,aH aG y),(5, .own 15 ver 0 (x.length+y.length)),(6, .int .i64 i),(8, .int .i64 k),(9, .int .i64 s),(17, .int .i64 x.length),(18, .int .i64 i)],rows,clk⟩∧0≤s∧s≤99999999∧(k=y.length→s=c) ∧
    V 10000 z-10000^(i+k)*nth z (i+k)+10000^(i+k)*s=V 10000 (x.take i)*V 10000 y+10000^i*nth x i*V 10000 (y.take (k+1))) ?_ ?_
   ·
    refine aA [0,1,5,6,8,9,17,18,42] ?_
    refine bH ?_ ?_<;>intro h
    ·simp at h
     have hyk:=ly.nth h
     have hp:=apY hxi hyk
     refine W.NB (fun K hK=>?_);simp (disch:=omega) [gw]
     refine hK _ ⟨_,aB _ [0,1,5,6,8,9,17,18],_,rfl,by omega,by omega,by omega,?_⟩
     rw [aV h,Int.pow_add]
     rw [Int.pow_add]at hV
     grind
    ·simp at h
     have hkl:k=y.length:=by omega
     have h0:=hk1 (i+k) (by omega)
     refine W.skip ?_
     refine⟨_,aB _ [0,1,5,6,8,9,17,18],_,rfl,by omega,by omega,by omega,?_⟩
     rw [bC (l:=y) (by omega)]
     rw [bC (l:=y) (by omega)]at hV
     rw [h0]
     grind
   rintro _ ⟨s,rfl,XY,vT,hsc,hsV⟩
   refine W.sr ?_
   simp (disch:=omega) [gw,hr,e0]
   refine bI [0,1,5,6,8,9,17,18] ?_
   refine W.bY (fun K hK=>?_);simp (disch:=omega) [gw];refine W.lw [0,1,5,6,7,8,17,18] hK ?_;clear hK K;simp
   refine W.bY (fun K hK=>?_);simp (disch:=omega) [gw]
   have UO:=H3 (b:=10000) (l:=z) (i:=i+k) (x:=s%10000) (by omega)
   refine hK _ ⟨y.length+1-(k+1),_,aB _ [0,1,5,6,7,8,17,18],by omega,k+1,s/10000,z.set (i+k) (s%10000),ver,_,_,rfl,by simp,rfl,?_,by simpa using hz,lz.set (by omega),fun j hj=>?_,by omega,by omega,?_⟩
   ·rcases Nat.lt_or_ge k y.length with h3 | h3
    ·left
     refine⟨by omega,fun j hj=>?_⟩
     rw [iC (by omega)];exact hk1 j hj
    ·right
     have:=hsc (by omega)
     exact⟨by omega,by omega⟩
   ·rw [iC (by omega)];exact oT j hj
   ·rw [UO,←hsV,show i+(k+1)=(i+k)+1 by omega,Int.pow_succ]
    have:=Int.emod_add_mul_ediv s 10000
    grind
  ·have ht:¬(k<y.length∨0<c):=fun h3=>by simp [ht.2 h3]at h2
   have hc:c=0:=by omega
   subst hc
   refine eW ?_
   refine W.bY (fun K hK=>?_);simp (disch:=omega) [gw]
   refine hK _ ⟨x.length-(i+1),_,aB _ [0,1,5,17,18],by omega,i+1,z,ver,_,_,rfl,hr,by omega,by omega,hz,lz,oT,?_⟩
   rw [aV h]
   rw [bC (l:=y) (by omega)]at hV
   grind
 ·simp at h
  have lW:i=x.length:=by omega
  subst lW
  have vU:List.take (x.length+y.length) z=z:=List.take_of_length_le (by omega)
  refine eW ?_
  refine W.sr ?_
  simp (disch:=omega) [gw,hr,vU]
  refine aC (qC z (by omega)) ?_
  simp (disch:=omega) [gw]
  refine bI [4] ?_
  refine W.ret ?_
  rw [bC (Nat.le_refl _)]at hV
  rw [←hV,←vW lz]
  simp
theorem aeD(x y:Int)(hx:0≤x)(hy:0≤y)(zx:Z x)(zy:Z y):aE env.P 131 [Dn x,Dn y] (Dn (x*y)):=by
 have:=aba (aR DD x.toNat) (aR DD y.toNat) (by have:=lH hx;omega) (by have:=lH hy;omega) (nB _) (nB _)
 rwa [xP hx,xP hy]at this
theorem PR{x:Int}(h:Z x):Z (x.natAbs:Int):=by simpa [Z,sz]using h
theorem oA(n:Nat)(neg:Bool):aE env.P 68 [aH aG (aR DD n), .bool neg] (RI (if neg=true then -(n:Int)else n)):=qD n (by omega) neg
theorem abb(x y:Int):(if decide (x<0) != decide (y<0)then -((x.natAbs*y.natAbs:Nat):Int)else((x.natAbs*y.natAbs:Nat):Int))=x*y:=by
 rw [Int.natCast_mul]
 by_cases h1:x<0<;>by_cases h2:y<0
 ·simp only [h1,h2,show(x.natAbs:Int) = -x by omega,show(y.natAbs:Int) = -y by omega];simp<;>grind
 ·simp only [h1,h2,show(x.natAbs:Int) = -x by omega,show(y.natAbs:Int)=y by omega];simp<;>grind
 ·simp only [h1,h2,show(x.natAbs:Int)=x by omega,show(y.natAbs:Int) = -y by omega];simp<;>grind
 ·simp only [h1,h2,show(x.natAbs:Int)=x by omega,show(y.natAbs:Int)=y by omega];simp<;>grind
theorem fD(x y:Int)(zx:Z x)(zy:Z y):aE env.P 63 [RI x,RI y] (RI (x*y)):=by
 refine cB [(0,RI x),(1,RI y)] Tryz.func63 ?_
 refine aA [2,3,4] ?_
 refine nH ?_
 refine aC (aeD x.natAbs y.natAbs (by omega) (by omega) (PR zx) (PR zy)) ?_
 have e:((x.natAbs:Int)*y.natAbs).toNat=x.natAbs*y.natAbs:=by rw [←Int.natCast_mul];exact Int.toNat_natCast _
 simp only [Dn,e]
 obtain⟨m,hm⟩:∃m,m=x.natAbs*y.natAbs:=⟨_,rfl⟩
 rw [←hm]
 simp (disch:=omega) [gw]
 refine aC (oA m (decide (x<0) != decide (y<0))) ?_
 have e2:=abb x y
 rw [←hm]at e2
 rw [e2]
 simp (disch:=omega) [gw]
 refine bI [4] ?_
 exact bZ
theorem EK(x y:Int)(zx:Z x)(zy:Z y):aE env.P 154 [RI x,RI y] (RI (x+y)):=by
 refine cB [(0,RI x),(1,RI y)] Tryz.func154 ?_
 refine aA [2,3,4] ?_
 refine aK [2,3,4,9] ?_
 refine bH ?_ ?_<;>intro h
 ·simp at h
  refine nH ?_
  refine aC (aeC x.natAbs y.natAbs (by omega) (by omega) (PR zx) (PR zy)) ?_
  have e:((x.natAbs:Int)+y.natAbs).toNat=x.natAbs+y.natAbs:=by omega
  simp only [Dn,e]
  obtain⟨m,hm⟩:∃m,m=x.natAbs+y.natAbs:=⟨_,rfl⟩
  rw [←hm]
  simp (disch:=omega) [gw]
  refine aC (oA m _) ?_
  have e2:(if decide (x<0)=true then -(m:Int)else m)=x+y:=by by_cases h1:x<0<;>simp [h1]<;>omega
  rw [e2]
  simp (disch:=omega) [gw]
  refine bI [4] ?_
  exact bZ
 ·simp at h
  refine W.skip ?_
  refine W.seq ?_
  refine jG ?_
  refine aC (PQ x.natAbs y.natAbs (by omega) (by omega) (PR zx) (PR zy)) ?_
  simp (disch:=omega) [gw]
  refine bI [2,3,4,23] ?_
  refine W.cond ⟨_,rfl,fun h2=>?_,fun h2=>?_⟩
  ·have h2:(y.natAbs:Int)≤x.natAbs:=sU.1 (of_decide_eq_true h2)
   refine nH ?_
   refine aC (EJ x.natAbs y.natAbs (by omega) h2 (PR zx)) ?_
   have e:((x.natAbs:Int)-y.natAbs).toNat=x.natAbs-y.natAbs:=by omega
   simp only [Dn,e]
   obtain⟨m,hm⟩:∃m,m=x.natAbs-y.natAbs:=⟨_,rfl⟩
   rw [←hm]
   simp (disch:=omega) [gw]
   refine aC (oA m _) ?_
   have e2:(if decide (x<0)=true then -(m:Int)else m)=x+y:=by by_cases h1:x<0<;>simp [h1]<;>omega
   rw [e2]
   simp (disch:=omega) [gw]
   refine bI [4] ?_
   exact bZ
  ·have h2:(x.natAbs:Int)<y.natAbs:=by
    have h3:=of_decide_eq_false h2
    rw [sU]at h3;omega
   refine W.skip ?_
   refine nH ?_
   refine aC (EJ y.natAbs x.natAbs (by omega) (by omega) (PR zy)) ?_
   have e:((y.natAbs:Int)-x.natAbs).toNat=y.natAbs-x.natAbs:=by omega
   simp only [Dn,e]
   obtain⟨m,hm⟩:∃m,m=y.natAbs-x.natAbs:=⟨_,rfl⟩
   rw [←hm]
   simp (disch:=omega) [gw]
   refine aC (oA m _) ?_
   have e2:(if decide (y<0)=true then -(m:Int)else m)=x+y:=by by_cases h1:y<0<;>simp [h1]<;>omega
   rw [e2]
   simp (disch:=omega) [gw]
   refine bI [4] ?_
   exact bZ
theorem aBu{x:Int}(h:Z x):Z (-x):=by simpa [Z,pK]using h
theorem PT(x y:Int)(zx:Z x)(zy:Z y):aE env.P 130 [RI x,RI y] (RI (x-y)):=by
 have hn:=s7 y
 have zn:=aBu zy
 obtain⟨m,hm⟩:∃m,m = -y:=⟨_,rfl⟩
 rw [←hm]at hn zn
 have e:x-y=x+m:=by omega
 rw [e]
 refine cB [(0,RI x),(1,RI y)] Tryz.func130 ?_
 refine aA [2,3,4] ?_
 refine nH ?_
 refine cM hn ?_
 refine cN [4] (EK x m zx zn) ?_
 exact bZ
theorem abc(x y:Int):(x-y).sign=dP x y:=by
 rcases Int.lt_trichotomy x y with h | h | h
 ·rw [mK h,Int.sign_eq_neg_one_of_neg (by omega)]
 ·subst h;simp [xF]
 ·rw [mL h,Int.sign_eq_one_of_pos (by omega)]
theorem aeE(x y:Int)(zx:Z x)(zy:Z y):aE env.P 62 [RI x,RI y] (.int .i64 (dP x y)):=by
 refine cB [(0,RI x),(1,RI y)] Tryz.func62 ?_
 refine aA [2,3] ?_
 refine jG ?_
 refine cM (PT x y zx zy) ?_
 refine aC (ID (x-y)) ?_
 rw [abc]
 simp (disch:=omega) [gw]
 refine bI [4] ?_
 exact bZ
abbrev Y(x:Int):Prop:=sz 2 x<549755813888
theorem Y.z{x:Int}(h:Y x):Z x:=by simp only [Y,Z]at *;omega
theorem EL{x y:Int}(h:Y y)(rL:x.natAbs≤y.natAbs):Y x:=Nat.lt_of_le_of_lt (dY (by decide) rL) h
theorem AZ{x y:Int}:dP x y≤0↔x≤y:=by simp only [dP];split<;>(try split)<;>omega
@[simp] theorem as4{l:List Int}{x:Int}:[PV.int .i64 x]::emap aG l=emap aG (x::l):=by simp [emap]
@[simp] theorem ai7{l:List Int}:(∀e∈emap aG l,∀p∈e,bL p=true)=True:=by simp [emap]
theorem abd{l:List Int}(h:c8 10000 l)(k:Nat)(hk:k≤l.length):V 10000 (l.drop k)≤V 10000 l:=by
 rw [lF l k hk]
 have h1:=bN (by decide) (h.take k)
 have h2:=bN (by decide) (h.drop k)
 have h3:1≤(10000:Int)^k:=Int.pow_pos (by decide)
 have h4:=Int.mul_le_mul_of_nonneg_right h3 h2
 omega
theorem PU(x y:Int)(hx:0≤x)(hy:0<y)(zx:Y x)(zy:Y y):aE env.P 209 [Dn x,Dn y] (.dX [Dn (x/y),Dn (x%y)]):=by
 have hal:(aR DD x.toNat).length<549755813888:=Nat.lt_of_le_of_lt (lH hx) zx
 have la:=nB x.toNat
 have hVa:=xP hx
 refine cB [(0,Dn x),(1,Dn y)] Tryz.func209 ?_
 simp only [Dn]
 generalize ha:aR DD x.toNat=a at *
 refine aA [0,1] ?_
 refine aA [0,1,6] ?_
 refine aA [0,1,6,7] ?_
 refine W.UJ 7 (Dn 0) (by simp) rfl (fun K hK=>?_)
 refine W.lw [0,1,6,7] hK ?_;clear hK K;simp
 refine aK [0,1,6,7,8] ?_
 refine W.block ?_
 refine W.aY (fun k σ=>∃(r:Int) (z:List Int) (ver:Nat) (rows:Pm.Rows) (clk:Nat),σ=⟨fa [(0,aH aG a),(1,Dn y),(6, .own 14 ver 0 a.length),(7,Dn r),(8, .int .i64 ((k:Int)-1))],rows,clk⟩ ∧
  rows 14=some ⟨ver,3,1,emap aG z⟩∧k≤a.length∧z.length=a.length∧c8 10000 z∧0≤r∧r<y∧V 10000 (a.drop k)=y*V 10000 (z.drop k)+r) a.length ?_ ?_
 ·exact⟨_,Gh.fr [(0,aH aG a),(1,Dn y),(6, .own 14 0 0 a.length),(7,Dn 0),(8, .int .i64 ((a.length:Int)-1))] (by simp),0,List.replicate a.length 0,_,_,_,rfl,by simp,by omega,by simp,c8.rep (by decide) _,by omega,hy,by simp [V]⟩
 rintro k _ ⟨r,z,ver,rows,clk,rfl,hr,hk,hz,lz,HN,xE,hV⟩
 refine aK [0,1,6,7,8,19] ?_
 refine bH ?_ ?_<;>intro h
 ·simp at h
  obtain⟨j,rfl⟩:∃j,k=j+1:=⟨k-1,by omega⟩
  clear h
  have hxj:=la.nth (i:=j) (by omega)
  have hVz:=bN (by decide) (lz.drop (j+1))
  have hyV:=Int.mul_nonneg (Int.le_of_lt hy) hVz
  have hR:V 10000 (a.drop j)=y*(10000*V 10000 (z.drop (j+1)))+(nth a j+10000*r):=by
   rw [fK (l:=a) (i:=j) (by omega)];simp only [V];rw [hV];grind
  have hRx:nth a j+10000*r≤x:=by
   have h1:=abd la j (by omega)
   have h2:0≤y*(10000*V 10000 (z.drop (j+1))):=Int.mul_nonneg (Int.le_of_lt hy) (by omega)
   omega
  have hrl:(aR DD r.toNat).length<549755813888:=Nat.lt_of_le_of_lt (lH HN) (EL zy (by omega))
  have oM:aH aG (aP (nth a j::aR DD r.toNat))=Dn (nth a j+10000*r):=by
   rw [vW (c8.cons.2 ⟨hxj,nB _⟩)]
   simp only [V,xP HN]
  refine j7 ?_
  refine jG ?_
  refine aC (qC (nth a j::aR DD r.toNat) (by simp;omega)) ?_
  rw [oM]
  have J9:0≤nth a j+10000*r:=by omega
  have hR1:nth a j+10000*r<y*10000:=by omega
  have zR:Y (nth a j+10000*r):=EL zx (by omega)
  generalize nth a j+10000*r=R at *
  simp (disch:=omega) [gw]
  refine bI [0,1,6,7,8] ?_
  refine bT [0,1,6,7,8,9,10] ?_
  refine W.block ?_
  refine W.aY (fun m σ=>∃(lo hi:Int),σ=⟨fa [(0,aH aG a),(1,Dn y),(6, .own 14 ver 0 a.length),(7,Dn R),(8, .int .i64 (j:Int)),(9, .int .i64 lo),(10, .int .i64 hi)],rows,clk⟩ ∧
   m=(hi-lo).toNat∧0≤lo∧lo≤hi∧hi≤9999∧y*lo≤R∧R<y*(hi+1)) 9999 ?_ ?_
  ·exact⟨_,Gh.fr [(0,aH aG a),(1,Dn y),(6, .own 14 ver 0 a.length),(7,Dn R),(8, .int .i64 (j:Int)),(9, .int .i64 0),(10, .int .i64 9999)] (by simp),0,9999,rfl,by decide,by omega,by omega,by omega,by omega,by omega⟩
  rintro m _ ⟨lo,hi,rfl,hm,y6,hlh,SK,h1,h2⟩
  refine aK [0,1,6,7,8,9,10,32] ?_
  refine bH ?_ ?_<;>intro h
  ·simp at h
   refine W.skip ?_
   refine W.block ?_
   refine aA [0,1,6,7,8,9,10,11] ?_
   have NF:lo<(lo+hi+1)/2:=by omega
   have hm2:(lo+hi+1)/2≤hi:=by omega
   generalize (lo+hi+1)/2=K4 at *
   have hp:0≤y*K4:=Int.mul_nonneg (by omega) (by omega)
   have zp:Z (y*K4):=by
    have h3:sz 2 K4≤14:=dV (by decide) (by simp;omega)
    have h4:=cP (b:=2) (by decide) (Nat.le_refl (sz 2 y)) h3
    simp only [Z,Y]at *;omega
   have hma:=mX y K4 0 (by omega) zy.z (by omega) (by omega) (by decide) (by decide)
   rw [Int.add_zero]at hma
   refine jG ?_
   refine cM hma ?_
   refine cN [0,1,6,7,8,9,10,11,43] (PQ (y*K4) R hp J9 zp zR.z) ?_
   refine bH ?_ ?_<;>intro h
   ·have h:=AZ.1 (of_decide_eq_true h)
    refine W.bY (fun K hK=>?_);simp (disch:=omega) [gw]
    exact hK _ ⟨(hi-K4).toNat,_,aB _ [0,1,6,7,8,9,10],by omega,K4,hi,rfl,rfl,by omega,by omega,by omega,h,h2⟩
   ·have h:=of_decide_eq_false h
    rw [AZ]at h
    refine W.bY (fun K hK=>?_);simp (disch:=omega) [gw]
    refine hK _ ⟨(K4-1-lo).toNat,_,aB _ [0,1,6,7,8,9,10],by omega,lo,K4-1,rfl,rfl,by omega,by omega,by omega,h1,?_⟩
    rw [show K4-1+1=K4 by omega];omega
  ·simp at h
   have aBv:lo=hi:=by omega
   subst aBv
   have hp:0≤y*lo:=Int.mul_nonneg (by omega) (by omega)
   have zp:Y (y*lo):=EL zR (by omega)
   have hma:=mX y lo 0 (by omega) zy.z (by omega) (by omega) (by decide) (by decide)
   rw [Int.add_zero]at hma
   refine eW ?_
   refine W.sr ?_
   simp (disch:=omega) [gw,hr]
   refine bI [0,1,6,7,8,9] ?_
   refine W.bY (fun K hK=>?_)
   simp (disch:=omega) [gw]
   refine cM hma ?_
   refine cM (EJ R (y*lo) hp h1 zR.z) ?_
   refine W.lw [0,1,6,7,8] hK ?_;clear hK K;simp
   refine W.bY (fun K hK=>?_);simp (disch:=omega) [gw]
   refine hK _ ⟨j,_,aB _ [0,1,6,7,8],by omega,R-y*lo,z.set j lo,ver,_,_,rfl,by simp,by omega,by simpa using hz,lz.set (by omega),by omega,by rw [Int.mul_add]at h2;omega,?_⟩
   rw [hR,fK (l:=z.set j lo) (i:=j) (by simp;omega),fG (by omega),List.drop_set_of_lt (by omega)]
   simp only [V]
   grind
 ·simp at h
  have zA:k=0:=by omega
  subst zA
  simp only [List.drop_zero]at hV
  have ez:z.take a.length=z:=bM hz
  have hzn:=bN (by decide) lz
  rw [hVa]at hV
  have e1:x/y=V 10000 z:=by
   rw [hV,Int.mul_add_ediv_left _ _ (by omega),Int.ediv_eq_zero_of_lt HN xE];simp
  have e2:x%y=r:=by
   rw [hV,Int.mul_add_emod_self_left,Int.emod_eq_of_lt HN xE]
  refine eW ?_
  refine W.sr ?_
  simp (disch:=omega) [gw,hr,ez]
  refine aC (qC z (by omega)) ?_
  simp (disch:=omega) [gw]
  refine bI [4,5] ?_
  refine W.ret ?_
  have h4:=vW lz
  simp only [Dn]at h4
  rw [e1,e2,←h4]
  simp [go]
theorem EM(a b:Int)(za:Y a)(zb:Y b):aE env.P 126 [RI a,RI b] (RI (Int.gcd a b)):=by
 refine cB [(0,RI a),(1,RI b)] Tryz.func126 ?_
 refine aA [2,3,4] ?_
 refine nH ?_
 refine bI [4,5,6] ?_
 refine W.seq ?_
 refine W.block ?_
 refine W.aY (fun k σ=>∃(x:Nat) (rows:Pm.Rows) (clk:Nat),σ=⟨fa [(4, .ptr 4 2 0 0),(5,aH aG (aR DD x)),(6,aH aG (aR DD k))],rows,clk⟩∧rows 4=some ⟨2,29,2,[[.nil, .bool false]]⟩∧Nat.gcd x k=Int.gcd a b∧Y (x:Int)∧Y (k:Int)) b.natAbs ?_ ?_
 ·exact⟨_, .refl,a.natAbs,_,_,rfl,by simp,rfl,by simpa [Y,sz]using za,by simpa [Y,sz]using zb⟩
 rintro k _ ⟨x,rows,clk,rfl,dF,hg,zx,zk⟩
 have e0:(aR DD k).length=0↔k=0:=by rw [List.length_eq_zero_iff,eZ SM]
 refine aK [4,5,6,15] ?_
 refine bH ?_ ?_<;>intro h
 ·have zA:k≠0:=by intro h0;have h1:=e0.2 h0;simp at h;omega
  have hdiv:=PU (x:Int) (k:Int) (by omega) (by omega) zx zk
  have em:(((x:Int)%k).toNat)=x%k:=by rw [←Int.natCast_emod];exact Int.toNat_natCast _
  have ed:(((x:Int)/k).toNat)=x/k:=by rw [←Int.natCast_ediv];exact Int.toNat_natCast _
  simp only [Dn,em,ed,Int.toNat_natCast]at hdiv
  have dC:=Nat.mod_lt x (show k>0 by omega)
  have pT:Nat.gcd k (x%k)=Int.gcd a b:=by rw [←hg,Nat.gcd_comm x k,Nat.gcd_rec k x,Nat.gcd_comm]
  have zm:Y ((x%k:Nat):Int):=EL zk (by simp only [Int.natAbs_natCast];omega)
  refine W.skip ?_
  refine W.block ?_
  refine jG ?_
  refine aC hdiv ?_
  generalize x%k=y at *
  simp (disch:=omega) [gw]
  refine bI [4,6,8] ?_
  refine W.bY (fun K hK=>?_);simp (disch:=omega) [gw]
  exact hK _ ⟨y,_,aB _ [4,5,6],dC,k,_,_,rfl,by simp [dF],pT,zk,zm⟩
 ·have zA:k=0:=by rw [←e0];simp at h;simp [h]
  subst zA
  rw [Nat.gcd_zero_right]at hg
  subst hg
  refine eW ?_
  refine W.sr ?_
  simp (disch:=omega) [gw,dF]
  refine bI [4] ?_
  exact bZ
theorem UW(a b:Int):(if decide (a<0) != decide (b<0)then -((a.natAbs/b.natAbs:Nat):Int)else((a.natAbs/b.natAbs:Nat):Int))=a.tdiv b:=by
 have h:∀x y:Nat,((x/y:Nat):Int)=(x:Int).tdiv y:=fun x y=>by rw [Int.natCast_ediv,Int.tdiv_eq_ediv_of_nonneg (by omega)]
 rw [h]
 by_cases h1:a<0<;>by_cases h2:b<0
 ·simp only [h1,h2,show(a.natAbs:Int) = -a by omega,show(b.natAbs:Int) = -b by omega];simp
 ·simp only [h1,h2,show(a.natAbs:Int) = -a by omega,show(b.natAbs:Int)=b by omega];simp
 ·simp only [h1,h2,show(a.natAbs:Int)=a by omega,show(b.natAbs:Int) = -b by omega];simp
 ·simp only [h1,h2,show(a.natAbs:Int)=a by omega,show(b.natAbs:Int)=b by omega];simp
theorem xQ(a b:Int)(hb:b≠0)(za:Y a)(zb:Y b):aE env.P 127 [RI a,RI b] (RI (a.tdiv b)):=by
 have hdiv:=PU (a.natAbs:Int) (b.natAbs:Int) (by omega) (by omega) (by simpa [Y,sz]using za) (by simpa [Y,sz]using zb)
 have em:(((a.natAbs:Int)%b.natAbs).toNat)=a.natAbs%b.natAbs:=by rw [←Int.natCast_emod];exact Int.toNat_natCast _
 have ed:(((a.natAbs:Int)/b.natAbs).toNat)=a.natAbs/b.natAbs:=by rw [←Int.natCast_ediv];exact Int.toNat_natCast _
 have hs:=UW a b
 refine cB [(0,RI a),(1,RI b)] Tryz.func127 ?_
 refine aA [2,3,4] ?_
 simp only [Dn,em,ed,Int.toNat_natCast]at hdiv
 generalize a.natAbs/b.natAbs=q at *
 generalize a.natAbs%b.natAbs=r at *
 refine aL [2,3,4,5] hdiv ?_
 refine jG ?_
 refine aC (oA q (decide (a<0) != decide (b<0))) ?_
 rw [hs]
 simp (disch:=omega) [gw]
 refine bI [4] ?_
 exact bZ
def re(q:Rat):List PV:=[aH aG (aR DD q.num.natAbs), .bool (decide (q.num<0)),aH aG (aR DD q.den), .bool false]
@[simp] theorem aBw{q:Rat}:re q = [aH aG (aR DD q.num.natAbs), .bool (decide (q.num<0)),aH aG (aR DD q.den), .bool false]:=rfl
abbrev RR(q:Rat):PV:=.ag (re q)
def dU(n d:Int):Rat:=if d=0 then n else Rat.divInt n d
theorem mM(n:Int):dU n 1=n:=by
 rw [dU,if_neg (by decide),Rat.divInt_eq_div]
 grind
structure ZR(k:Nat)(q:Rat):Prop where
 n:sz 2 q.num≤k
 d:sz 2 (q.den:Int)≤k
abbrev YY:Nat:=137438953472
theorem uB(n d:Int)(hd:d≠0):(dU n d).num=(if d<0 then -n else n)/(Int.gcd (if d<0 then -n else n) (if d<0 then -d else d)):=by
 rw [dU,if_neg hd,Rat.num_divInt]
 by_cases h:d<0
 ·simp only [h,if_true]
  rw [Int.sign_eq_neg_one_of_neg h,Int.gcd_comm d n,Int.neg_gcd,Int.gcd_neg];simp
 ·simp only [h,if_false]
  rw [Int.sign_eq_one_of_pos (by omega),Int.gcd_comm d n];simp
theorem uC(n d:Int)(hd:d≠0):((dU n d).den:Int)=(if d<0 then -d else d)/(Int.gcd (if d<0 then -n else n) (if d<0 then -d else d)):=by
 rw [dU,if_neg hd,Rat.den_divInt,if_neg hd]
 by_cases h:d<0
 ·simp only [h,if_true]
  rw [Int.gcd_comm d n,Int.neg_gcd,Int.gcd_neg]
  rw [Int.natCast_ediv];congr 1;omega
 ·simp only [h,if_false]
  rw [Int.gcd_comm d n,Int.natCast_ediv];congr 1;omega
theorem EN{q:Rat}{n d:Int}(h1:q.num=n)(h2:(q.den:Int)=d):RR q = .ag [aH aG (aR DD n.natAbs), .bool (decide (n<0)),aH aG (aR DD d.natAbs), .bool (decide (d<0))]:=by
 subst h1;subst h2
 have:¬((q.den:Int)<0):=by omega
 simp [this]
theorem lI(n d:Int)(zn:Y n)(zd:Y d):aE env.P 60 [RI n,RI d] (RR (dU n d)):=by
 refine dA (E:=env) (fun id=>if id=4 then 2 else 0) [(0,RI n),(1,RI d)] Tryz.func60 rfl (by kernel_rfl) (by kernel_rfl) (show 2≤39 by decide) (by simp) ?_
 refine aA [2,3,4] ?_
 refine W.iB (fun σ=>∃(d1:Int) (rows:Pm.Rows) (clk:Nat),σ=⟨fa [(2, .ptr 2 0 0 0),(3, .ptr 3 1 0 0),(4, .ptr 4 2 0 0)],rows,clk⟩∧rows 2=some ⟨0,29,2,[[aH aG (aR DD n.natAbs), .bool (decide (n<0))]]⟩ ∧
  rows 3=some ⟨1,29,2,[[aH aG (aR DD d1.natAbs), .bool (decide (d1<0))]]⟩∧rows 4=some ⟨2,31,4,[[.nil, .bool false, .nil, .bool false]]⟩∧d1≠0∧dU n d=dU n d1∧Y d1) ?_ ?_
 ·
  refine aL [2,3,4,7] (IC d) ?_
  refine bH ?_ ?_<;>intro h
  ·have h:=of_decide_eq_true h
   subst h
   refine W.bY (fun K hK=>?_)
   simp (disch:=omega) [gw]
   refine aC (oZ 1 (by decide) (by decide)) ?_
   simp (disch:=omega) [gw]
   refine hK _ ⟨_,aB _ [2,3,4],1,_,_,rfl,by simp,by simp,by simp,by decide,by rw [mM];simp [dU],?_⟩
   have:sz 2 1≤1:=dV (by decide) (by decide)
   simp only [Y];omega
  ·have h:=of_decide_eq_false h
   refine W.skip ?_
   exact⟨_,aB _ [2,3,4],d,_,_,rfl,by simp,by simp,by simp,h,rfl,zd⟩
 rintro _ ⟨d1,rows,clk,rfl,bU,bQ,dF,X5,hq,zd1⟩
 rw [hq]
 have q1:=uB n d1 X5
 have q2:=uC n d1 X5
 generalize dU n d1=q at *
 clear hq zd d
 refine W.iB (fun σ=>∃(n2 d2:Int) (rows:Pm.Rows) (clk:Nat),σ=⟨fa [(2, .ptr 2 0 0 0),(3, .ptr 3 1 0 0),(4, .ptr 4 2 0 0)],rows,clk⟩∧rows 2=some ⟨0,29,2,[[aH aG (aR DD n2.natAbs), .bool (decide (n2<0))]]⟩ ∧
  rows 3=some ⟨1,29,2,[[aH aG (aR DD d2.natAbs), .bool (decide (d2<0))]]⟩∧rows 4=some ⟨2,31,4,[[.nil, .bool false, .nil, .bool false]]⟩∧0<d2∧q.num=n2/Int.gcd n2 d2∧(q.den:Int)=d2/Int.gcd n2 d2∧Y n2∧Y d2) ?_ ?_
 ·
  refine W.sr ?_
  simp (disch:=omega) [gw,bQ]
  refine bI [2,3,4,10] ?_
  refine bH ?_ ?_<;>intro h
  ·have h:=of_decide_eq_true h
   simp only [h,if_true]at q1 q2
   have hn:=s7 n
   have hd:=s7 d1
   have zn2:Y (-n):=by simpa [Y,pK]using zn
   have zd2:Y (-d1):=by simpa [Y,pK]using zd1
   obtain⟨n2,hn2⟩:∃m,m = -n:=⟨_,rfl⟩
   obtain⟨d2,TQ⟩:∃m,m = -d1:=⟨_,rfl⟩
   rw [←hn2]at hn zn2 q1 q2
   rw [←TQ]at hd zd2 q1 q2
   refine W.NB (fun K hK=>?_)
   rw [if_pos rfl,gB]
   simp (disch:=omega) [gw,bU]
   refine aC hn ?_
   simp (disch:=omega) [gw,bU,bQ]
   refine aC hd ?_
   simp (disch:=omega) [gw,bU,bQ]
   exact hK _ ⟨_,aB _ [2,3,4],n2,d2,_,_,rfl,by simp,by simp,by simp [dF],by omega,q1,q2,zn2,zd2⟩
  ·have h:=of_decide_eq_false h
   simp only [h,if_false]at q1 q2
   refine W.skip ?_
   exact⟨_,aB _ [2,3,4],n,d1,_,_,rfl,bU,bQ,dF,by omega,q1,q2,zn,zd1⟩
 clear bU bQ dF q1 q2
 rintro _ ⟨n2,d2,rows,clk,rfl,bU,bQ,dF,h0,q1,q2,zn2,zd2⟩
 refine W.seq ?_
 refine W.eD (fun σ=>∃(b:Bool),σ=⟨fa [(2, .ptr 2 0 0 0),(3, .ptr 3 1 0 0),(4, .ptr 4 2 0 0),(25, .bool b)],rows,clk⟩∧(b=true↔(aR DD d2.natAbs).length=1∧nth (aR DD d2.natAbs) 0=1)) (fun K hK=>?_) ?_
 ·by_cases h1:(aR DD d2.natAbs).length=1
  ·have h2:((aR DD d2.natAbs).length:Int)=1:=by omega
   simp (disch:=omega) [gw,bQ,h1,h2]
   exact hK _ _ (aB _ [2,3,4,25]) ⟨_,rfl,by simp [h1]⟩
  ·have h2:¬((aR DD d2.natAbs).length:Int)=1:=by omega
   have h3:(((aR DD d2.natAbs).length:Int)==1)=false:=by simpa using h2
   simp (disch:=omega) [gw,bQ,h3]
   exact hK _ _ (aB _ [2,3,4,25]) ⟨_,rfl,by simp [h1,h2]⟩
 rintro _ ⟨b,rfl,hb⟩
 refine bH ?_ ?_<;>intro h
 ·have hb:=hb.1 h
  have TQ:d2=1:=by
   have hv:=awm d2
   obtain⟨h1,h2⟩:=hb
   match hl:aR DD d2.natAbs,h1 with
   | [x],_ =>
    rw [hl]at h2 hv
    simp [nth,V]at h2 hv
    omega
  subst TQ
  rw [Int.gcd_one]at q1 q2
  rw [EN (n:=n2) (d:=1) (by simpa using q1) (by simpa using q2)]
  refine W.sr ?_
  simp (disch:=omega) [gw,bU,bQ,dF]
  refine bI [4] ?_
  exact bZ
 ·refine W.skip ?_
  have hgp:0<Int.gcd n2 d2:=Int.gcd_pos_of_ne_zero_right _ (by omega)
  have e1:n2.tdiv (Int.gcd n2 d2)=q.num:=by rw [q1];exact Int.tdiv_eq_ediv_of_dvd (Int.gcd_dvd_left ..)
  have e2:d2.tdiv (Int.gcd n2 d2)=q.den:=by rw [q2];exact Int.tdiv_eq_ediv_of_dvd (Int.gcd_dvd_right ..)
  have zg:Y (Int.gcd n2 d2:Int):=EL zd2 (by
   have:=Int.le_of_dvd h0 (Int.gcd_dvd_right n2 d2);omega)
  have hq1:=xQ n2 (Int.gcd n2 d2) (by omega) zn2 zg
  have hq2:=xQ d2 (Int.gcd n2 d2) (by omega) zd2 zg
  rw [e1]at hq1
  rw [e2]at hq2
  have hg:=EM n2 d2 zn2 zd2
  obtain⟨g,hgd⟩:∃g:Int,g=Int.gcd n2 d2:=⟨_,rfl⟩
  rw [←hgd]at hg hq1 hq2
  have hnn:¬((q.den:Int)<0):=by omega
  refine W.sr ?_
  simp (disch:=omega) [gw,bU,bQ]
  refine aC hg ?_
  simp (disch:=omega) [gw,bU,bQ]
  refine bI [2,3,4,5] ?_
  refine W.sd ?_
  simp (disch:=omega) [gw,bU,bQ]
  refine aC hq1 ?_
  simp (disch:=omega) [gw,bU,bQ]
  refine aC hq2 ?_
  simp (disch:=omega) [gw,bU,bQ,dF]
  refine bI [4] ?_
  refine W.ret ?_
  simp [go,hnn]
theorem mN(n d:Int)(h1 : -9223372036854775808≤n∧n<9223372036854775808)(h2 : -9223372036854775808≤d∧d<9223372036854775808):aE env.P 12 [.int .i64 n, .int .i64 d] (RR (dU n d)):=by
 have z:∀x:Int, -9223372036854775808≤x∧x<9223372036854775808→Y x:=fun x hx=>by
  have:sz 2 x≤64:=dV (by decide) (by omega)
  simp only [Y];omega
 have hm:=lI n d (z n h1) (z d h2)
 generalize dU n d=q at *
 refine cB [(0, .int .i64 n),(1, .int .i64 d)] Tryz.func12 ?_
 refine aA [0,1,4] ?_
 refine jG ?_
 refine cM (oZ n h1.1 h1.2) ?_
 refine cM (oZ d h2.1 h2.2) ?_
 refine cN [4] hm ?_
 exact bZ
theorem PW(q:Rat):aE env.P 108 [RR q] (RR (-q)):=by
 have hn:=s7 q.num
 have e:RR (-q) = .ag [aH aG (aR DD (-q.num).natAbs), .bool (decide (-q.num<0)),aH aG (aR DD q.den), .bool false]:=rfl
 rw [e]
 generalize -q.num=m at *
 refine cB [(0,RR q)] Tryz.func108 ?_
 refine aA [1,2] ?_
 refine nH ?_
 refine cN [2] hn ?_
 exact bZ
theorem ai9(p q:Rat):dU (p.num*q.den+q.num*p.den) ((p.den:Int)*q.den)=p+q:=by
 have h:((p.den:Int)*q.den)≠0:=by have:=p.den_nz;have:=q.den_nz;simp [Int.mul_eq_zero];omega
 rw [dU,if_neg h,Rat.add_def',←Int.natCast_mul,Rat.divInt_ofNat]
theorem aja(p q:Rat):dU (p.num*q.num) ((p.den:Int)*q.den)=p*q:=by
 have h:((p.den:Int)*q.den)≠0:=by have:=p.den_nz;have:=q.den_nz;simp [Int.mul_eq_zero];omega
 rw [dU,if_neg h,Rat.mul_def',←Int.natCast_mul,Rat.divInt_ofNat]
theorem ajb(p q:Rat)(hq:q≠0):dU (p.num*q.den) ((p.den:Int)*q.num)=p/q:=by
 have hn:q.num≠0:=fun h=>hq (Rat.num_eq_zero.1 h)
 have h:((p.den:Int)*q.num)≠0:=by have:=p.den_nz;exact Int.mul_ne_zero (by omega) hn
 rw [dU,if_neg h,Rat.div_def,Rat.inv_def,←Rat.divInt_mul_divInt,Rat.num_divInt_den]
theorem EO(p q:Rat)(hp:ZR YY p)(hq:ZR YY q):aE env.P 225 [RR p,RR q] (RR (p+q)):=by
 have s1:=cP (b:=2) (by decide) hp.n hq.d
 have s2:=cP (b:=2) (by decide) hq.n hp.d
 have s3:=cP (b:=2) (by decide) hp.d hq.d
 have s4:=n6 (b:=2) (by decide) s1 s2
 have zz:∀ {x:Int},sz 2 x≤YY→Z x:=fun h=>by simp only [Z,YY]at *;omega
 have m1:=fD p.num q.den (zz hp.n) (zz hq.d)
 have m2:=fD q.num p.den (zz hq.n) (zz hp.d)
 have m3:=fD p.den q.den (zz hp.d) (zz hq.d)
 have m4:=EK (p.num*q.den) (q.num*p.den) (by simp only [Z,YY]at *;omega) (by simp only [Z,YY]at *;omega)
 have m5:=lI (p.num*q.den+q.num*p.den) ((p.den:Int)*q.den) (by simp only [Y,YY]at *;omega) (by simp only [Y,YY]at *;omega)
 rw [ai9]at m5
 generalize p.num*q.den+q.num*p.den=x5 at *
 generalize p.num*q.den=x1 at *
 generalize q.num*(p.den:Int)=x2 at *
 generalize (p.den:Int)*q.den=x3 at *
 generalize hr:p+q=r at *
 have d1:RR p = .ag [aH aG (aR DD p.num.natAbs), .bool (decide (p.num<0)),aH aG (aR DD (p.den:Int).natAbs), .bool (decide ((p.den:Int)<0))]:=EN rfl rfl
 have d2:RR q = .ag [aH aG (aR DD q.num.natAbs), .bool (decide (q.num<0)),aH aG (aR DD (q.den:Int).natAbs), .bool (decide ((q.den:Int)<0))]:=EN rfl rfl
 rw [d1,d2]
 generalize (p.den:Int)=pd at *
 generalize (q.den:Int)=qd at *
 generalize p.num=pn at *
 generalize q.num=qn at *
 refine cB [(0, .ag [aH aG (aR DD pn.natAbs), .bool (decide (pn<0)),aH aG (aR DD pd.natAbs), .bool (decide (pd<0))]),(1, .ag [aH aG (aR DD qn.natAbs), .bool (decide (qn<0)),aH aG (aR DD qd.natAbs), .bool (decide (qd<0))])] Tryz.func225 ?_
 refine aA [2,3,4] ?_
 refine nH ?_
 refine cM m1 ?_
 refine cM m2 ?_
 refine cM m4 ?_
 refine cM m3 ?_
 refine cN [4] m5 ?_
 exact bZ
theorem EP(p q:Rat)(hp:ZR YY p)(hq:ZR YY q):aE env.P 226 [RR p,RR q] (RR (p*q)):=by
 have s1:=cP (b:=2) (by decide) hp.n hq.n
 have s2:=cP (b:=2) (by decide) hp.d hq.d
 have zz:∀ {x:Int},sz 2 x≤YY→Z x:=fun h=>by simp only [Z,YY]at *;omega
 have m1:=fD p.num q.num (zz hp.n) (zz hq.n)
 have m2:=fD p.den q.den (zz hp.d) (zz hq.d)
 have m5:=lI (p.num*q.num) ((p.den:Int)*q.den) (by simp only [Y,YY]at *;omega) (by simp only [Y,YY]at *;omega)
 rw [aja]at m5
 generalize p.num*(q.num:Int)=x1 at *
 generalize (p.den:Int)*q.den=x2 at *
 generalize hr:p*q=r at *
 have d1:RR p = .ag [aH aG (aR DD p.num.natAbs), .bool (decide (p.num<0)),aH aG (aR DD (p.den:Int).natAbs), .bool (decide ((p.den:Int)<0))]:=EN rfl rfl
 have d2:RR q = .ag [aH aG (aR DD q.num.natAbs), .bool (decide (q.num<0)),aH aG (aR DD (q.den:Int).natAbs), .bool (decide ((q.den:Int)<0))]:=EN rfl rfl
 rw [d1,d2]
 generalize (p.den:Int)=pd at *
 generalize (q.den:Int)=qd at *
 generalize p.num=pn at *
 generalize q.num=qn at *
 refine cB [(0, .ag [aH aG (aR DD pn.natAbs), .bool (decide (pn<0)),aH aG (aR DD pd.natAbs), .bool (decide (pd<0))]),(1, .ag [aH aG (aR DD qn.natAbs), .bool (decide (qn<0)),aH aG (aR DD qd.natAbs), .bool (decide (qd<0))])] Tryz.func226 ?_
 refine aA [2,3,4] ?_
 refine nH ?_
 refine cM m1 ?_
 refine cM m2 ?_
 refine cN [4] m5 ?_
 exact bZ
theorem PY(p q:Rat)(hp:ZR YY p)(hq:ZR YY q)(h0:q≠0):aE env.P 230 [RR p,RR q] (RR (p/q)):=by
 have s1:=cP (b:=2) (by decide) hp.n hq.d
 have s2:=cP (b:=2) (by decide) hp.d hq.n
 have zz:∀ {x:Int},sz 2 x≤YY→Z x:=fun h=>by simp only [Z,YY]at *;omega
 have m1:=fD p.num q.den (zz hp.n) (zz hq.d)
 have m2:=fD p.den q.num (zz hp.d) (zz hq.n)
 have m5:=lI (p.num*q.den) ((p.den:Int)*q.num) (by simp only [Y,YY]at *;omega) (by simp only [Y,YY]at *;omega)
 rw [ajb p q h0]at m5
 generalize p.num*(q.den:Int)=x1 at *
 generalize (p.den:Int)*q.num=x2 at *
 generalize hr:p/q=r at *
 have d1:RR p = .ag [aH aG (aR DD p.num.natAbs), .bool (decide (p.num<0)),aH aG (aR DD (p.den:Int).natAbs), .bool (decide ((p.den:Int)<0))]:=EN rfl rfl
 have d2:RR q = .ag [aH aG (aR DD q.num.natAbs), .bool (decide (q.num<0)),aH aG (aR DD (q.den:Int).natAbs), .bool (decide ((q.den:Int)<0))]:=EN rfl rfl
 rw [d1,d2]
 generalize (p.den:Int)=pd at *
 generalize (q.den:Int)=qd at *
 generalize p.num=pn at *
 generalize q.num=qn at *
 refine cB [(0, .ag [aH aG (aR DD pn.natAbs), .bool (decide (pn<0)),aH aG (aR DD pd.natAbs), .bool (decide (pd<0))]),(1, .ag [aH aG (aR DD qn.natAbs), .bool (decide (qn<0)),aH aG (aR DD qd.natAbs), .bool (decide (qd<0))])] Tryz.func230 ?_
 refine aA [2,3,4] ?_
 refine nH ?_
 refine cM m1 ?_
 refine cM m2 ?_
 refine cN [4] m5 ?_
 exact bZ
theorem PZ:aE env.P 224 [] (RR 0):=by
 have h:=mN 0 1 (by decide) (by decide)
 rw [mM]at h
 refine cB [] Tryz.func224 ?_
 refine aA [0] ?_
 refine aL [0] h ?_
 exact bZ
def oN:List Rat→List Rat
 | []=>[]
 | x::l=>if oN l = []∧x=0 then []else x::oN l
theorem IE:∀l:List Rat,oN (l ++ [0])=oN l
 | []=>by simp [oN]
 | x::l=>by simp [oN,IE l]
theorem X6{x:Rat}(h:x≠0):∀l:List Rat,oN (l ++ [x])=l ++ [x]
 | []=>by
  show oN [x] = [x]
  rw [oN,if_neg (fun hh=>h hh.2)];rfl
 | y::l=>by
  have ih:=X6 h l
  have hn:¬(l ++ [x] = []∧y=0):=by simp
  show oN (y::(l ++ [x]))=y::(l ++ [x])
  rw [oN,ih,if_neg hn]
abbrev qs(x:List Int):List Rat:=x.map fun(c:Int)=>(c:Rat)
theorem xR:∀x:List Int,oN (qs x)=qs (aP x)
 | []=>rfl
 | a::x=>by
  have ih:=xR x
  simp only [qs,List.map_cons]at ih ⊢
  rw [oN,ih,aP]
  by_cases h:aP x = []∧a=0
  ·simp [h]
  ·rw [if_neg h,if_neg (by simpa using h)];simp
@[simp] theorem as7{l:List Rat}:bK 4 (emap re l)=True:=cL fun _=>rfl
@[simp] theorem ap0{v e n:Nat}{l:List Rat}:c9 (some ⟨v,e,n,emap re l⟩)=True:=b8 fun _=>rfl
abbrev PP(l:List Rat):PV:=aH re l
theorem xS(l:List Rat)(hl:l.length<17592186044416):aE env.P 157 [PP l] (PP (oN l)):=by
 refine cB [(0,PP l)] Tryz.func157 ?_
 refine aA [0] ?_
 refine aA [0,3] ?_
 refine W.seq (W.block ?_)
 refine W.aY (fun k σ=>∃(rows:Pm.Rows) (clk:Nat),σ=⟨fa [(0,PP l),(3, .int .i64 (k:Int))],rows,clk⟩∧k≤l.length∧oN l=oN (l.take k)) l.length ?_ ?_
 ·exact⟨_, .refl,_,_,rfl,by omega,by simp⟩
 rintro k _ ⟨rows,clk,rfl,hk,hc⟩
 refine W.seq ?_
 refine W.eD (fun σ=>∃(b:Bool),σ=⟨fa [(0,PP l),(3, .int .i64 (k:Int)),(16, .bool b)],rows,clk⟩∧(b=true↔0<k∧nth l (k-1)=0)) (fun K hK=>?_) ?_
 ·simp
  by_cases h0:0<k
  ·simp (disch:=omega) [gw,h0]
   refine aC (IC (nth l (k-1)).num) ?_
   simp (disch:=omega) [gw,h0]
   refine hK _ _ (aB _ [0,3,16]) ⟨_,rfl,?_⟩
   simp [h0,Rat.num_eq_zero]
  ·simp (disch:=omega) [gw,h0]
   exact hK _ _ (aB _ [0,3,16]) ⟨_,rfl,by simp [h0]⟩
 rintro _ ⟨b,rfl,hb⟩
 refine bH ?_ ?_<;>intro h
 ·obtain⟨h0,h1⟩:=hb.1 h
  refine W.skip (W.block ?_)
  refine W.bY (fun K hK=>?_)
  simp (disch:=omega) [gw]
  refine hK _ ⟨k-1,_,Gh.fr [(0,_),(3, .int .i64 ((k-1:Nat):Int))] (by simp;omega),by omega,_,_,rfl,by omega,?_⟩
  rw [hc,show k=(k-1)+1 by omega,bG (by omega),h1,IE]
  simp
 ·have h2:oN l=l.take k:=by
   rw [hc]
   by_cases h0:0<k
   ·have h1:nth l (k-1)≠0:=fun h1=>by simp [hb.2 ⟨h0,h1⟩]at h
    rw [show k=(k-1)+1 by omega,bG (by omega)]
    exact X6 h1 _
   ·have:k=0:=by omega
    subst this;simp [oN]
  refine eW ?_
  refine aA [2] ?_
  refine W.ret ?_
  simp [h2]
end Go.Proofs.YtiobceocpabjdaaGreat
