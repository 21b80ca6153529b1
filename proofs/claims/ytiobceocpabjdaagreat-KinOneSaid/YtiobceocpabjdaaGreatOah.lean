import Derived.Test.YtiobceocpabjdaaGreatOae
import Derived.Test.YtiobceocpabjdaaGreatOag
set_option linter.unusedSimpArgs false
set_option linter.unusedVariables false
namespace Go.Proofs.YtiobceocpabjdaaGreat
open Go Pm
theorem r9.nil:r9 []:=⟨cV.nil,by simp⟩
theorem rB.Y8{l:List (Bool × List Int)}(h:rB l)(i:Nat):r9 (Pm.nth l i).2:=by
 by_cases hi:i<l.length
 ·exact h.nth hi
 ·rw [iI (by omega)];exact r9.nil
theorem uU(l:List (Bool × List Int))(k:Nat):nth (l.map gv) k=gv (nth l k):=Pm.AS (f:=gv) rfl l k
theorem x7(x:Int):iv (decide (x<0)) (aS LL x.natAbs)=x:=M7 x
theorem wJ{x y:Int}(hx:Sz x)(hy:Sz y):aE env.P 66 [I x,I y] (I (x*y)):=by
 have:=M4 (decide (x<0)) (decide (y<0)) (aS LL x.natAbs) (aS LL y.natAbs) hx.VG hy.VG
 rwa [x7,x7]at this
theorem VH{x y:Int}(hx:Sz x)(hy:Sz y):aE env.P 65 [I x,I y] (I (x+y)):=by
 have:=C3 (decide (x<0)) (decide (y<0)) (aS LL x.natAbs) (aS LL y.natAbs) hx.VG hy.VG
 rwa [x7,x7]at this
theorem acQ{x:Int}(hx:Sz x):aE env.P 148 [I x] (I (-x)):=by
 have:=C0 (decide (x<0)) (aS LL x.natAbs) hx.VG
 rwa [x7]at this
theorem JB{x:Int}(hx:Sz x):aE env.P 132 [I x] (I x):=by
 have:=GH (decide (x<0)) (aS LL x.natAbs) hx.VG
 rwa [x7]at this
theorem acR(a b:List (Bool × List Int))(ha:rB a)(hb:rB b)(k:Nat)(hk:k<9223372036854775808):aE env.P 242 [.int .i64 (k:Int), .rd [Pg a], .rd [Pg b]] (I (nth (a.map gv) k+nth (b.map gv) k)):=by
 refine cX (E:=env) (fun _=>0) [(0, .int .i64 (k:Int)),(1, .rd [Pg a]),(2, .rd [Pg b])] Tryz.func242 rfl (by kernel_rfl) (by kernel_rfl) (show 3≤12 by decide) (by simp) ?_
 have:=ha.len;have:=hb.len
 refine W.dN (fun K hK=>?_)
 simp (disch:=omega) [gA,wA]
 refine W.lv [0,1,2,4] hK fun J j=>?_;clear hK K;simp;refine j _ ?_;clear j J
 refine W.YX (fun K hK=>?_)
 simp (disch:=omega) [gA,wA]
 refine aC (JA a k ha.len hk) ?_
 simp (disch:=omega) [gA,wA]
 refine aC (JA b k hb.len hk) ?_
 simp (disch:=omega) [gA,wA]
 refine aC (C3 _ _ _ _ (ha.Y8 k) (hb.Y8 k)) ?_
 simp (disch:=omega) [gA,wA]
 refine W.lv [4] hK fun J j=>?_;clear hK K;simp;refine j _ ?_;clear j J
 refine W.ret ?_
 rw [uU,uU]
 simp [go,gv]
theorem acS(a b:List (Bool × List Int))(ha:rB a)(hb:rB b)(k:Nat)(hk:k<9223372036854775808):aE env.P 247 [.int .i64 (k:Int), .rd [Pg a], .rd [Pg b]] (I (nth (a.map gv) k-nth (b.map gv) k)):=by
 refine cX (E:=env) (fun _=>0) [(0, .int .i64 (k:Int)),(1, .rd [Pg a]),(2, .rd [Pg b])] Tryz.func247 rfl (by kernel_rfl) (by kernel_rfl) (show 3≤12 by decide) (by simp) ?_
 have:=ha.len;have:=hb.len
 refine W.dN (fun K hK=>?_)
 simp (disch:=omega) [gA,wA]
 refine W.lv [0,1,2,4] hK fun J j=>?_;clear hK K;simp;refine j _ ?_;clear j J
 refine W.YX (fun K hK=>?_)
 simp (disch:=omega) [gA,wA]
 refine aC (JA a k ha.len hk) ?_
 simp (disch:=omega) [gA,wA]
 refine aC (JA b k hb.len hk) ?_
 simp (disch:=omega) [gA,wA]
 refine aC (M5 _ _ _ _ (ha.Y8 k) (hb.Y8 k)) ?_
 simp (disch:=omega) [gA,wA]
 refine W.lv [4] hK fun J j=>?_;clear hK K;simp;refine j _ ?_;clear j J
 refine W.ret ?_
 rw [uU,uU]
 simp [go,gv]
theorem acT(a:List (Bool × List Int))(ha:rB a)(k:Nat)(hk:k<a.length):aE env.P 216 [.int .i64 (k:Int), .rd [Pg a]] (I (- nth (a.map gv) k)):=by
 refine cX (E:=env) (fun _=>0) [(0, .int .i64 (k:Int)),(1, .rd [Pg a])] Tryz.func216 rfl (by kernel_rfl) (by kernel_rfl) (show 2≤9 by decide) (by simp) ?_
 have:=ha.len
 refine W.dN (fun K hK=>?_)
 simp (disch:=omega) [gA,wA]
 refine W.lv [0,1,3] hK fun J j=>?_;clear hK K;simp;refine j _ ?_;clear j J
 refine W.dN (fun K hK=>?_)
 simp (disch:=omega) [gA,wA]
 refine aC (C0 _ _ (ha.Y8 k)) ?_
 simp (disch:=omega) [gA,wA]
 refine W.lv [3] hK fun J j=>?_;clear hK K;simp;refine j _ ?_;clear j J
 refine W.ret ?_
 rw [uU]
 simp [go,gv]
theorem acU(a:List (Bool × List Int))(ha:rB a)(n:Bool)(c:List Int)(hc:r9 c)(k:Nat)(hk:k<a.length):aE env.P 241 [.int .i64 (k:Int), .rd [Pg a], .rd [.bool n,us c]] (I (nth (a.map gv) k*iv n c)):=by
 refine cX (E:=env) (fun _=>0) [(0, .int .i64 (k:Int)),(1, .rd [Pg a]),(2, .rd [.bool n,us c])] Tryz.func241 rfl (by kernel_rfl) (by kernel_rfl) (show 3≤11 by decide) (by simp) ?_
 have:=ha.len
 refine W.dN (fun K hK=>?_)
 simp (disch:=omega) [gA,wA]
 refine W.lv [0,1,2,4] hK fun J j=>?_;clear hK K;simp;refine j _ ?_;clear j J
 refine W.YX (fun K hK=>?_)
 simp (disch:=omega) [gA,wA]
 refine aC (M4 _ _ _ _ (ha.Y8 k) hc) ?_
 simp (disch:=omega) [gA,wA]
 refine W.lv [4] hK fun J j=>?_;clear hK K;simp;refine j _ ?_;clear j J
 refine W.ret ?_
 rw [uU]
 simp [go,gv]
theorem acV(a b:List (Bool × List Int))(ha:rB a)(hb:rB b):aE env.P 182 [Pg a,Pg b] (Po (iJ (a.map gv) (b.map gv))):=by
 refine cX (E:=env) (fun _=>0) [(0,Pg a),(1,Pg b)] Tryz.func182 rfl (by kernel_rfl) (by kernel_rfl) (show 2≤12 by decide) (by simp) ?_
 have Y9:=ha.len;have hlb:=hb.len
 refine W.dN (fun K hK=>?_)
 simp (disch:=omega) [gA,wA]
 refine W.lv [2,3] hK fun J j=>?_;clear hK K;simp;refine j _ ?_;clear j J
 refine W.dN (fun K hK=>?_)
 have e:(if a.length<b.length then(b.length:Int)else(a.length:Int))=((max a.length b.length:Nat):Int):=by split<;>omega
 simp (disch:=omega) [gA,wA,e]
 refine aC (sB 242 rfl [.rd [Pg a], .rd [Pg b]] rfl (max a.length b.length) (by omega) (fun k=>nth (a.map gv) k+nth (b.map gv) k) (fun k hk=>acR a b ha hb k (by omega))) ?_
 simp (disch:=omega) [gA,wA]
 refine W.lv [4] hK fun J j=>?_;clear hK K;simp;refine j _ ?_;clear j J
 refine W.ret ?_
 simp [go,iJ]
theorem acW(a b:List (Bool × List Int))(ha:rB a)(hb:rB b):aE env.P 186 [Pg a,Pg b] (Po (fL (a.map gv) (b.map gv))):=by
 refine cX (E:=env) (fun _=>0) [(0,Pg a),(1,Pg b)] Tryz.func186 rfl (by kernel_rfl) (by kernel_rfl) (show 2≤12 by decide) (by simp) ?_
 have Y9:=ha.len;have hlb:=hb.len
 refine W.dN (fun K hK=>?_)
 simp (disch:=omega) [gA,wA]
 refine W.lv [2,3] hK fun J j=>?_;clear hK K;simp;refine j _ ?_;clear j J
 refine W.dN (fun K hK=>?_)
 have e:(if a.length<b.length then(b.length:Int)else(a.length:Int))=((max a.length b.length:Nat):Int):=by split<;>omega
 simp (disch:=omega) [gA,wA,e]
 refine aC (sB 247 rfl [.rd [Pg a], .rd [Pg b]] rfl (max a.length b.length) (by omega) (fun k=>nth (a.map gv) k-nth (b.map gv) k) (fun k hk=>acS a b ha hb k (by omega))) ?_
 simp (disch:=omega) [gA,wA]
 refine W.lv [4] hK fun J j=>?_;clear hK K;simp;refine j _ ?_;clear j J
 refine W.ret ?_
 simp [go,fL]
theorem GI{α β:Type}[Inhabited α](l:List α)(f:α→β):(List.range l.length).map (fun k=>f (nth l k))=l.map f:=by
 apply List.ext_getElem
 ·simp
 ·intro i h1 h2
  simp at h1
  simp [bW h1]
theorem acX(a:List (Bool × List Int))(ha:rB a):aE env.P 139 [Pg a] (Po (gV (a.map gv))):=by
 refine cX (E:=env) (fun _=>0) [(0,Pg a)] Tryz.func139 rfl (by kernel_rfl) (by kernel_rfl) (show 1≤7 by decide) (by simp) ?_
 have Y9:=ha.len
 refine W.dN (fun K hK=>?_)
 simp (disch:=omega) [gA,wA]
 refine W.lv [1] hK fun J j=>?_;clear hK K;simp;refine j _ ?_;clear j J
 refine W.dN (fun K hK=>?_)
 simp (disch:=omega) [gA,wA]
 refine aC (sB 216 rfl [.rd [Pg a]] rfl a.length (by omega) (fun k => - nth (a.map gv) k) (fun k hk=>acT a ha k hk)) ?_
 simp (disch:=omega) [gA,wA]
 refine W.lv [2] hK fun J j=>?_;clear hK K;simp;refine j _ ?_;clear j J
 refine W.ret ?_
 have e:=GI (a.map gv) (fun c => -c)
 rw [List.length_map]at e
 rw [e]
 simp [go,gV]
theorem SA(a:List (Bool × List Int))(ha:rB a)(n:Bool)(c:List Int)(hc:r9 c):aE env.P 181 [Pg a,IV n c] (Po (bB (a.map gv) (iv n c))):=by
 refine cX (E:=env) (fun _=>0) [(0,Pg a),(1,IV n c)] Tryz.func181 rfl (by kernel_rfl) (by kernel_rfl) (show 2≤9 by decide) (by simp) ?_
 have Y9:=ha.len
 refine W.dN (fun K hK=>?_)
 simp (disch:=omega) [gA,wA]
 refine W.lv [2,3] hK fun J j=>?_;clear hK K;simp;refine j _ ?_;clear j J
 refine W.dN (fun K hK=>?_)
 simp (disch:=omega) [gA,wA]
 refine aC (sB 241 rfl [.rd [Pg a], .rd [.bool n,us c]] rfl a.length (by omega) (fun k=>nth (a.map gv) k*iv n c) (fun k hk=>acU a ha n c hc k hk)) ?_
 simp (disch:=omega) [gA,wA]
 refine W.lv [4] hK fun J j=>?_;clear hK K;simp;refine j _ ?_;clear j J
 refine W.ret ?_
 have e:=GI (a.map gv) (fun a=>a*iv n c)
 rw [List.length_map]at e
 rw [e]
 simp [go,bB]
theorem acY(a b:List (Bool × List Int))(ha:rB a)(hb:rB b)(s s' n n':Nat)(hs:Bd LL s n (a.map gv))(AQ:Bd LL s' n' (b.map gv))(hB:s+s'+n+n'<1099511627775) :
  aE env.P 15 [Pg a,Pg b] (Po (bR (a.map gv) (b.map gv))):=by
 refine cX (E:=env) (fun id=>if id=11 then 1 else 0) [(0,Pg a),(1,Pg b)] Tryz.func15 rfl (by kernel_rfl) (by kernel_rfl) (show 2≤62 by decide) (by simp) ?_
 refine W.dN (fun K hK=>?_)
 simp (disch:=omega) [gA,wA]
 refine W.lv [0,1] hK fun J j=>?_;clear hK K;simp;refine j _ ?_;clear j J
 refine W.dN (fun K hK=>?_)
 simp (disch:=omega) [gA,wA]
 refine aC (gK a ha) ?_
 simp (disch:=omega) [gA,wA]
 refine aC (gK b hb) ?_
 simp (disch:=omega) [gA,wA]
 refine W.lv [0,1] hK fun J j=>?_;clear hK K;simp;refine j _ ?_;clear j J
 have e:bR (a.map gv) (b.map gv)=bR (aO (a.map gv)) (aO (b.map gv)):=Cn.ext (Cn.bR _ _) (Cn.bR _ _) fun t=>by simp [dJ,c8]
 rw [e]
 replace hs:=hs.cut
 replace AQ:=AQ.cut
 clear e ha hb
 generalize aO (a.map gv)=x at *
 generalize aO (b.map gv)=y at *
 have hlx:=hs.len;have hly:=AQ.len
 refine W.seq ?_
 refine W.eJ (fun σ=>∃(b:Bool),σ=⟨fa [(0,Po x),(1,Po y),(21, .bool b)],fun _=>none,0⟩∧(b=true↔x = []∨y = [])) (fun K hK=>?_) ?_
 ·simp
  have e1:((x.length:Int)==0)=decide (x = []):=by
   cases x<;>simp<;>omega
  have e2:((y.length:Int)==0)=decide (y = []):=by
   cases y<;>simp<;>omega
  rw [e1]
  by_cases h0:x = []
  ·have e3:decide (x = [])=true:=by simp [h0]
   rw [e3]
   simp
   exact hK _ _ (aB _ [0,1,21]) ⟨_,rfl,by simp [h0]⟩
  ·have e3:decide (x = [])=false:=by simp [h0]
   rw [e3]
   simp
   exact hK _ _ (aB _ [0,1,21]) ⟨_,rfl,by rw [e2];simp [h0]⟩
 rintro _ ⟨b,rfl,hb⟩
 refine W.cond ⟨_,rfl,fun h=>?_,fun h=>?_⟩
 ·have e:bR x y = []:=by
   have h1:=hb.1 h
   refine Cn.ext (Cn.bR _ _) Cn.nil fun t=>?_
   rw [dJ]
   rcases h1 with rfl | rfl<;>simp [V]
  refine W.dN (fun K hK=>?_)
  simp (disch:=omega) [gA,wA]
  refine W.lv [4] hK fun J j=>?_;clear hK K;simp;refine j _ ?_;clear j J
  refine W.ret ?_
  simp [go,e]
  rfl
 ·have h1:¬(x = []∨y = []):=fun h2=>by simp [hb.2 h2]at h
  have pM:0<x.length:=List.length_pos_iff.2 fun h2=>h1 (.inl h2)
  have SB:0<y.length:=List.length_pos_iff.2 fun h2=>h1 (.inr h2)
  clear h hb h1
  refine W.skip ?_
  refine W.dN (fun K hK=>?_)
  simp (disch:=omega) [gA,wA]
  refine W.lv [0,1,5] hK fun J j=>?_;clear hK K;simp;refine j _ ?_;clear j J
  have e0:((x.length:Int)+(y.length:Int)-1).toNat=x.length+y.length-1:=by omega
  refine W.row (id:=28) (emap ie (List.replicate (x.length+y.length-1) 0)) (by simp;exact⟨rfl,rfl,rfl,by omega⟩) (sA _) ?_
  refine W.seq ?_
  refine W.dN (fun K hK=>?_)
  simp (disch:=omega) [gA,wA]
  refine W.lv [1,5,29,30,31] hK fun J j=>?_;clear hK K;simp;refine j _ ?_;clear j J
  refine W.block ?_
  refine W.bE (fun k σ=>∃(i:Nat) (z:List Int) (ver:Nat) (rows:Pm.Rows) (clk:Nat),σ=⟨fa [(1,Po y),(5, .own 28 ver 0 (x.length+y.length-1)),(29,Po x),(30, .int .i64 x.length),(31, .int .i64 i)],rows,clk⟩ ∧
   rows 28=some ⟨ver,38,2,emap ie z⟩∧k=x.length-i∧i≤x.length∧z.length=x.length+y.length-1∧(∀j,sz LL (nth z j)≤s+s'+i) ∧
   ∀t,V t z=V t (x.take i)*V t y) x.length ?_ ?_
  ·refine⟨_, .refl,0,List.replicate (x.length+y.length-1) 0,_,_,_,rfl,by simp,by omega,by omega,by simp,fun j=>?_,fun t=>by simp [V,qW]⟩
   ·have:Bd LL 0 (x.length+y.length-1) (List.replicate (x.length+y.length-1) 0):=⟨by simp,fun c hc=>by rw [(List.mem_replicate.1 hc).2,kR];omega⟩
    have:=this.nth j
    omega
  rintro k _ ⟨i,z,ver,rows,clk,rfl,hr,hk,hi,hz,EN,hV⟩
  refine W.dN (fun K hK=>?_)
  simp (disch:=omega) [gA,wA]
  refine W.lv [1,5,29,30,31,32] hK fun J j=>?_;clear hK K;simp;refine j _ ?_;clear j J
  refine W.seq ?_
  refine W.cond ⟨_,rfl,fun h=>?_,fun h=>?_⟩
  ·simp at h
   refine W.skip ?_
   refine W.seq ?_
   refine W.block ?_
   refine W.dN (fun K hK=>?_)
   simp (disch:=omega) [gA,wA]
   refine W.lv [1,5,6,7,29,30,31] hK fun J j=>?_;clear hK K;simp;refine j _ ?_;clear j J
   refine W.dN (fun K hK=>?_)
   simp (disch:=omega) [gA,wA]
   refine W.lv [1,5,6,7,29,30,31,36,37,38] hK fun J j=>?_;clear hK K;simp;refine j _ ?_;clear j J
   refine W.block ?_
   refine W.bE (fun m σ=>∃(k:Nat) (z:List Int) (ver v7:Nat) (rows:Pm.Rows) (clk:Nat),σ=⟨fa [(1,Po y),(5, .own 28 ver 0 (x.length+y.length-1)),(6, .int .i64 i),(7, .ptr 7 v7 0 0),(29,Po x),(30, .int .i64 x.length),(31, .int .i64 i),(36,Po y),(37, .int .i64 y.length),(38, .int .i64 k)],rows,clk⟩ ∧
    rows 28=some ⟨ver,38,2,emap ie z⟩∧rows 7=some ⟨v7,38,2,[ie (nth x i)]⟩∧m=y.length-k∧k≤y.length∧z.length=x.length+y.length-1∧(∀j,sz LL (nth z j)≤s+s'+i+1)∧(∀j,i+k≤j→sz LL (nth z j)≤s+s'+i) ∧
    ∀t,V t z=V t (x.take i)*V t y+t^i*nth x i*V t (y.take k)) y.length ?_ ?_
   ·refine⟨_, .refl,0,z,ver,_,_,_,rfl,by simpa using hr,by simp,by omega,by omega,hz,fun j=>by have:=EN j;omega,fun j _=>EN j,fun t=>by simp [V,hV]⟩
   clear hV EN hz hr z ver rows clk
   rintro m _ ⟨k,z,ver,v7,rows,clk,rfl,hr,hr7,hm,hky,hz,EN,SC,hV⟩
   refine W.dN (fun K hK=>?_)
   simp (disch:=omega) [gA,wA]
   refine W.lv [1,5,6,7,29,30,31,36,37,38,39] hK fun J j=>?_;clear hK K;simp;refine j _ ?_;clear j J
   refine W.seq ?_
   refine W.cond ⟨_,rfl,fun h2=>?_,fun h2=>?_⟩
   ·simp at h2
    refine W.skip ?_
    refine W.seq ?_
    refine W.block ?_
    refine W.dN (fun K hK=>?_)
    simp (disch:=omega) [gA,wA]
    refine W.lv [1,5,6,7,8,9,29,30,31,36,37,38] hK fun J j=>?_;clear hK K;simp;refine j _ ?_;clear j J
    have e1:((i:Int)+(k:Int)).toNat=i+k:=by omega
    refine W.I2 (fun K hK=>?_)
    simp only [if_true]
    rw [fR]
    simp (disch:=omega) [gA,wA,hr,hr7,e1]
    refine aC (wJ (Nat.lt_of_le_of_lt (hs.nth i) (by omega)) (Nat.lt_of_le_of_lt (AQ.nth k) (by omega))) ?_
    simp (disch:=omega) [gA,wA,hr,hr7,e1]
    have K9:sz LL (nth x i*nth y k)≤s+s'+i:=Nat.le_trans (cG gF (hs.nth i) (AQ.nth k)) (by omega)
    have hm2:=nJ gF (SC (i+k) (Nat.le_refl _)) K9
    have hlz:i+k<z.length:=by omega
    refine aC (VH (Nat.lt_of_le_of_lt (SC (i+k) (Nat.le_refl _)) (by omega)) (Nat.lt_of_le_of_lt K9 (by omega))) ?_
    simp (disch:=omega) [gA,wA,hr,hr7,e1]
    refine W.lv [1,5,6,7,29,30,31,36,37,38] hK fun J j=>?_;clear hK K;simp;refine j _ ?_;clear j J
    refine W.b7 (fun K hK=>?_)
    simp (disch:=omega) [gA,wA]
    refine hK _ ⟨y.length-(k+1),_,aB _ [1,5,6,7,29,30,31,36,37,38],by omega,k+1,z.set (i+k) (nth z (i+k)+nth x i*nth y k),ver,v7,_,_,rfl,by simp,by simp [hr7],by omega,by omega,by simpa using hz,fun j=>?_,fun j hj=>?_,fun t=>?_⟩
    ·by_cases hj:i+k=j
     ·subst hj;rw [eZ hlz];exact hm2
     ·rw [gS hj];exact EN j
    ·rw [gS (by omega)];exact SC j (by omega)
    ·rw [GB hlz,aV h2,hV,Int.pow_add];grind
   ·simp at h2
    have xL:k=y.length:=by omega
    subst xL
    refine W.exit ?_;simp only [pX,if_true,if_false,reduceIte,Nat.reduceEqDiff]
    refine W.b7 (fun K hK=>?_)
    simp (disch:=omega) [gA,wA]
    refine hK _ ⟨x.length-(i+1),_,aB _ [1,5,29,30,31],by omega,i+1,z,ver,_,_,rfl,hr,by omega,by omega,hz,fun j=>by have:=EN j;omega,fun t=>?_⟩
    rw [hV,a9 (Nat.le_refl _),aV h];grind
  ·simp at h
   have iQ:i=x.length:=by omega
   subst iQ
   refine W.exit ?_;simp only [pX,if_true,if_false,reduceIte,Nat.reduceEqDiff]
   have uT:=bL hz
   refine W.dN (fun K hK=>?_)
   simp (disch:=omega) [gA,wA,hr,uT]
   refine aC (wI z (by omega)) ?_
   simp (disch:=omega) [gA,wA]
   refine W.lv [4] hK fun J j=>?_;clear hK K;simp;refine j _ ?_;clear j J
   refine W.ret ?_
   have e:aO z=bR x y:=by
    refine Cn.ext (Cn.cut _) (Cn.bR _ _) fun t=>?_
    rw [c8,hV,dJ,a9 (Nat.le_refl _)]
   simp [go,e]
theorem ay6{S:ByteArray}{kk:IntKind}{k:Nat}{K:PV→Prop}(h:(List.range 256).all (fun x=>decide ((S[x]?).map (fun b=>b.toNat)=some (nb x)))=true)(hk:k<256)(hK:go (K (.int .u8 (nb k)))):aX (fun v=>uK env .str (.str S) (.int kk (k:Int)) v) K:=by
 have h1:=List.all_eq_true.1 h k (by simpa using hk)
 simp only [decide_eq_true_eq]at h1
 obtain⟨b,hb,h2⟩:=Option.map_eq_some_iff.1 h1
 refine⟨_,⟨by omega,b,by simpa using hb,rfl⟩,?_⟩
 rw [h2];exact hK
theorem GJ(n:Int)(h0:0≤n)(h1:n<4294967296):aE env.P 267 [.int .u32 n] (.int .i64 (nb n.toNat)):=by
 refine cX (E:=env) (fun _=>0) [(0, .int .u32 n)] Tryz.func267 rfl (by kernel_rfl) (by kernel_rfl) (show 1≤19 by decide) (by simp) ?_
 refine W.dN (fun K hK=>?_)
 simp (disch:=omega) [gA,wA]
 refine W.lv [0,2] hK fun J j=>?_;clear hK K;simp;refine j _ ?_;clear j J
 refine W.iB (fun σ=>∃(k:Nat) (x:Nat) (rows:Pm.Rows) (clk:Nat),σ=⟨fa [(0, .int .u32 x),(2, .int .i64 k)],rows,clk⟩∧nb n.toNat=k+nb x∧x<65536∧k≤16) ?_ ?_
 ·
  refine W.dN (fun K hK=>?_)
  simp (disch:=omega) [gA,wA]
  refine W.lv [0,2,4] hK fun J j=>?_;clear hK K;simp;refine j _ ?_;clear j J
  refine W.cond ⟨_,rfl,fun h=>?_,fun h=>?_⟩
  ·simp at h
   refine W.dN (fun K hK=>?_)
   simp (disch:=omega) [gA,wA]
   refine W.lv [0] hK fun J j=>?_;clear hK K;simp;refine j _ ?_;clear j J
   refine W.b7 (fun K hK=>?_)
   simp (disch:=omega) [gA,wA]
   refine hK _ ⟨_,Gh.fr [(0, .int .u32 ((n.toNat/65536:Nat):Int)),(2, .int .i64 16)] (by simp;rw [Int.fdiv_eq_ediv_of_nonneg _ (by decide)];omega),16,n.toNat/65536,_,_,rfl,?_,by omega,by omega⟩
   exact MW (k:=16) (by simp;omega)
  ·simp at h
   refine W.skip ?_
   refine⟨_,Gh.fr [(0, .int .u32 (n.toNat:Int)),(2, .int .i64 0)] (by simp;omega),0,n.toNat,_,_,rfl,by simp,by omega,by omega⟩
 rintro _ ⟨k,x,rows,clk,rfl,hn,hx,hk⟩
 refine W.iB (fun σ=>∃(k:Nat) (x:Nat) (rows:Pm.Rows) (clk:Nat),σ=⟨fa [(0, .int .u32 x),(2, .int .i64 k)],rows,clk⟩∧nb n.toNat=k+nb x∧x<256∧k≤24) ?_ ?_
 ·
  refine W.dN (fun K hK=>?_)
  simp (disch:=omega) [gA,wA]
  refine W.lv [0,2,8] hK fun J j=>?_;clear hK K;simp;refine j _ ?_;clear j J
  refine W.cond ⟨_,rfl,fun h=>?_,fun h=>?_⟩
  ·simp at h
   refine W.dN (fun K hK=>?_)
   simp (disch:=omega) [gA,wA]
   refine W.lv [0,2] hK fun J j=>?_;clear hK K;simp;refine j _ ?_;clear j J
   refine W.b7 (fun K hK=>?_)
   simp (disch:=omega) [gA,wA]
   refine hK _ ⟨_,Gh.fr [(0, .int .u32 ((x/256:Nat):Int)),(2, .int .i64 ((k+8:Nat):Int))] (by simp;exact Int.fdiv_eq_ediv_of_nonneg _ (by decide)),k+8,x/256,_,_,rfl,?_,by omega,by omega⟩
   have:=MW (n:=x) (k:=8) (by simp;omega)
   simp at this
   omega
  ·simp at h
   refine W.skip ?_
   refine⟨_,aB _ [0,2],k,x,_,_,rfl,hn,by omega,by omega⟩
 rintro _ ⟨k,x,rows,clk,rfl,hn,hx,hk⟩
 refine W.dN (fun K hK=>?_)
 have hw:IntKind.u8.wrap (x:Int)=x:=wrap_u8 (by omega) (by omega)
 have hz:nb x≤8:=oB.2 hx
 simp only [U6,IQ,U7,YW,RY,CC,IF,Q9,if_true,if_false,reduceIte,Nat.reduceEqDiff,anD,at3,tU,ajz,hw,MO,reduceCtorEq]
 refine ay6 (by kernel_rfl) hx ?_
 simp (disch:=omega) only [IQ,ace,F8,acx,U7,CC,IF,Q9,if_true,if_false,reduceIte,Nat.reduceEqDiff,ayH,at3,tU,ajz,wrap_i64,HX,j0,agz,reduceCtorEq,true_and]
 refine W.lv [2] hK fun J j=>?_;clear hK K;simp;refine j _ ?_;clear j J
 refine W.ret ?_
 rw [hn]
 simp [go]
def bl(l:List Int):Int:=if l = []then 0 else 32*((l.length:Int)-1)+nb (nth l (l.length-1)).toNat
theorem M9(l:List Int)(h:r9 l):aE env.P 257 [us l] (.int .i64 (bl (aO l))):=by
 refine cX (E:=env) (fun _=>0) [(0,us l)] Tryz.func257 rfl (by kernel_rfl) (by kernel_rfl) (show 1≤20 by decide) (by simp) ?_
 have hl:=h.len
 have LA:=bV l
 have hL:=eG h.x6
 refine W.dN (fun K hK=>?_)
 simp (disch:=omega) [gA,wA]
 refine W.lv [0] hK fun J j=>?_;clear hK K;simp;refine j _ ?_;clear j J
 refine W.dN (fun K hK=>?_)
 simp (disch:=omega) [gA,wA]
 refine aC (dQ l (by omega)) ?_
 simp (disch:=omega) [gA,wA]
 refine W.lv [0] hK fun J j=>?_;clear hK K;simp;refine j _ ?_;clear j J
 generalize aO l=x at *
 refine W.seq ?_
 refine W.dN (fun K hK=>?_)
 simp (disch:=omega) [gA,wA]
 refine W.lv [0,7] hK fun J j=>?_;clear hK K;simp;refine j _ ?_;clear j J
 refine W.cond ⟨_,rfl,fun h=>?_,fun h=>?_⟩
 ·have h0:x = []:=by simpa using h
  refine W.dN (fun K hK=>?_)
  simp (disch:=omega) [gA,wA]
  refine W.lv [2] hK fun J j=>?_;clear hK K;simp;refine j _ ?_;clear j J
  refine W.ret ?_
  simp [go,bl,h0]
 ·have h0:0<x.length:=List.length_pos_iff.2 (by simpa using h)
  have hx:=hL.nth (i:=x.length-1) (by omega)
  have e:((x.length:Int)-1).toNat=x.length-1:=by omega
  have hz:nb (nth x (x.length-1)).toNat≤32:=oB.2 (by omega)
  refine W.skip ?_
  refine W.dN (fun K hK=>?_)
  simp (disch:=omega) [gA,wA,e]
  refine aC (GJ _ hx.1 hx.2) ?_
  simp (disch:=omega) [gA,wA]
  refine W.lv [2] hK fun J j=>?_;clear hK K;simp;refine j _ ?_;clear j J
  refine W.ret ?_
  have h1:x ≠ []:=fun h2=>by simp [h2]at h0
  simp [go,bl,h1]
theorem ahc{l:List Int}(h:cV 4294967296 l)(hc:aO l=l):bl l=0↔V 4294967296 l=0:=by
 unfold bl
 split
 ·rename_i h0;subst h0;simp [V]
 ·rename_i h0
  have h1:=lO (by decide) h hc h0
  have h2:0<(4294967296:Int)^(l.length-1):=Int.pow_pos (by decide)
  have h3:0<l.length:=List.length_pos_iff.2 h0
  have h4:=h.nth (i:=l.length-1) (by omega)
  have h5:nth l (l.length-1)≠0:=by
   intro h6
   have e:l=l.take (l.length-1) ++ [0]:=by
    conv=>lhs;rw [←List.take_length (l:=l)]
    rw [←h6,←bF (by omega),show l.length-1+1=l.length by omega]
   rw [e,j2]at hc
   have:=congrArg List.length hc
   have:=bV (l.take (l.length-1))
   simp at *
   omega
  have h6:nb (nth l (l.length-1)).toNat≠0:=by
   intro h7
   have:=oB.1 (Nat.le_of_eq h7)
   simp at this;omega
  omega
theorem NA(n:Bool)(l:List Int)(h:r9 l):aE env.P 218 [IV n l] (.int .i64 (iv n l).sign):=by
 refine cX (E:=env) (fun _=>0) [(0,IV n l)] Tryz.func218 rfl (by kernel_rfl) (by kernel_rfl) (show 1≤11 by decide) (by simp) ?_
 have hz:=ahc (eG h.x6) (eK l)
 have hp:=qX h
 rw [c8]at hz
 refine W.dN (fun K hK=>?_)
 simp (disch:=omega) [gA,wA]
 refine W.lv [1] hK fun J j=>?_;clear hK K;simp;refine j _ ?_;clear j J
 refine W.seq ?_
 refine W.block ?_
 refine W.dN (fun K hK=>?_)
 simp (disch:=omega) [gA,wA]
 refine aC (M9 l h) ?_
 simp (disch:=omega) [gA,wA]
 refine W.lv [1,3] hK fun J j=>?_;clear hK K;simp;refine j _ ?_;clear j J
 refine W.cond ⟨_,rfl,fun hb=>?_,fun hb=>?_⟩
 ·have h0:V 4294967296 l=0:=hz.1 (by simpa using hb)
  refine W.dN (fun K hK=>?_)
  simp (disch:=omega) [gA,wA]
  refine W.lv [2] hK fun J j=>?_;clear hK K;simp;refine j _ ?_;clear j J
  refine W.ret ?_
  simp [go,iv,h0]
 ·have h0:0<V 4294967296 l:=by
   have:V 4294967296 l≠0:=fun h1=>by simp [hz.2 h1]at hb
   omega
  refine W.dN (fun K hK=>?_)
  simp (disch:=omega) [gA,wA]
  refine W.lv [8] hK fun J j=>?_;clear hK K;simp;refine j _ ?_;clear j J
  refine W.cond ⟨_,rfl,fun hn=>?_,fun hn=>?_⟩
  ·subst hn
   refine W.dN (fun K hK=>?_)
   simp (disch:=omega) [gA,wA]
   refine W.lv [2] hK fun J j=>?_;clear hK K;simp;refine j _ ?_;clear j J
   refine W.ret ?_
   have:(- V 4294967296 l).sign = -1:=Int.sign_eq_neg_one_of_neg (by omega)
   simp [go,iv,this]
  ·subst hn
   refine W.skip ?_
   refine W.dN (fun K hK=>?_)
   simp (disch:=omega) [gA,wA]
   refine W.lv [2] hK fun J j=>?_;clear hK K;simp;refine j _ ?_;clear j J
   refine W.ret ?_
   have:(V 4294967296 l).sign=1:=Int.sign_eq_one_of_pos h0
   simp [go,iv,this]
theorem ZA{x y:Int}(h:x.sign<y.sign):dI x y = -1:=by
 apply l5
 rcases Int.lt_trichotomy x 0 with h1 | h1 | h1<;>rcases Int.lt_trichotomy y 0 with h2 | h2 | h2<;>first | omega | (simp [Int.sign_eq_neg_one_of_neg,Int.sign_eq_one_of_pos,h1,h2]at h)
theorem SD{x y:Int}(h:y.sign<x.sign):dI x y=1:=by
 apply l6
 rcases Int.lt_trichotomy x 0 with h1 | h1 | h1<;>rcases Int.lt_trichotomy y 0 with h2 | h2 | h2<;>first | omega | (simp [Int.sign_eq_neg_one_of_neg,Int.sign_eq_one_of_pos,h1,h2]at h)
theorem JC(x y:Int):dI (-x) (-y)=dI y x:=by simp only [dI];split<;>split<;>(try split)<;>(try split)<;>omega
theorem ac0(n m:Bool)(l k:List Int)(h:r9 l)(h':r9 k):aE env.P 144 [IV n l,IV m k] (.int .i64 (dI (iv n l) (iv m k))):=by
 refine cX (E:=env) (fun _=>0) [(0,IV n l),(1,IV m k)] Tryz.func144 rfl (by kernel_rfl) (by kernel_rfl) (show 2≤32 by decide) (by simp) ?_
 have p1:=qX h;have p2:=qX h'
 refine W.dN (fun K hK=>?_)
 simp (disch:=omega) [gA,wA]
 refine W.lv [2,3] hK fun J j=>?_;clear hK K;simp;refine j _ ?_;clear j J
 refine W.YX (fun K hK=>?_)
 simp (disch:=omega) [gA,wA]
 refine aC (NA n l h) ?_
 simp (disch:=omega) [gA,wA]
 refine aC (NA m k h') ?_
 simp (disch:=omega) [gA,wA]
 refine W.lv [2,3,5,6] hK fun J j=>?_;clear hK K;simp;refine j _ ?_;clear j J
 refine W.seq ?_
 refine W.block ?_
 refine W.dN (fun K hK=>?_)
 simp (disch:=omega) [gA,wA]
 refine W.lv [2,3,5,6,11] hK fun J j=>?_;clear hK K;simp;refine j _ ?_;clear j J
 refine W.cond ⟨_,rfl,fun h1=>?_,fun h1=>?_⟩
 ·refine W.dN (fun K hK=>?_)
  simp (disch:=omega) [gA,wA]
  refine W.lv [4] hK fun J j=>?_;clear hK K;simp;refine j _ ?_;clear j J
  refine W.ret ?_
  simp [go,ZA (of_decide_eq_true h1)]
 ·have h1:=of_decide_eq_false h1
  refine W.dN (fun K hK=>?_)
  simp (disch:=omega) [gA,wA]
  refine W.lv [2,3,5,15] hK fun J j=>?_;clear hK K;simp;refine j _ ?_;clear j J
  refine W.cond ⟨_,rfl,fun h2=>?_,fun h2=>?_⟩
  ·refine W.dN (fun K hK=>?_)
   simp (disch:=omega) [gA,wA]
   refine W.lv [4] hK fun J j=>?_;clear hK K;simp;refine j _ ?_;clear j J
   refine W.ret ?_
   simp [go,SD (of_decide_eq_true h2)]
  ·have h2:=of_decide_eq_false h2
   have h3:(iv n l).sign=(iv m k).sign:=by omega
   refine W.dN (fun K hK=>?_)
   simp (disch:=omega) [gA,wA]
   refine W.lv [2,3,19] hK fun J j=>?_;clear hK K;simp;refine j _ ?_;clear j J
   refine W.cond ⟨_,rfl,fun h4=>?_,fun h4=>?_⟩
   ·have h4:iv n l<0:=by simpa using of_decide_eq_true h4
    have h5:iv m k<0:=by
     rw [Int.sign_eq_neg_one_of_neg h4]at h3
     exact Int.sign_eq_neg_one_iff_neg.1 h3.symm
    have en:n=true:=by cases n;(· simp [iv]at h4;omega);rfl
    have em:m=true:=by cases m;(· simp [iv]at h5;omega);rfl
    subst en;subst em
    refine W.dN (fun K hK=>?_)
    simp (disch:=omega) [gA,wA]
    refine aC (I8 k l h'.len h.len h'.x6 h.x6) ?_
    simp (disch:=omega) [gA,wA]
    refine W.lv [4] hK fun J j=>?_;clear hK K;simp;refine j _ ?_;clear j J
    refine W.ret ?_
    simp [go,iv,JC]
   ·have h4:0≤iv n l:=by simpa using of_decide_eq_false h4
    have e1:iv n l=V 4294967296 l:=by
     cases n
     ·simp [iv]
     ·simp [iv]at h4 ⊢;omega
    have h5:0≤iv m k:=by
     have:0≤(iv n l).sign:=Int.sign_nonneg_iff.2 h4
     rw [h3]at this
     exact Int.sign_nonneg_iff.1 this
    have e2:iv m k=V 4294967296 k:=by
     cases m
     ·simp [iv]
     ·simp [iv]at h5 ⊢;omega
    refine W.skip ?_
    refine W.dN (fun K hK=>?_)
    simp (disch:=omega) [gA,wA]
    refine aC (I8 l k h.len h'.len h.x6 h'.x6) ?_
    simp (disch:=omega) [gA,wA]
    refine W.lv [4] hK fun J j=>?_;clear hK K;simp;refine j _ ?_;clear j J
    refine W.ret ?_
    simp [go,e1,e2]
theorem VI{x y:Int}(hx:Sz x)(hy:Sz y):aE env.P 144 [I x,I y] (.int .i64 (dI x y)):=by
 have:=ac0 (decide (x<0)) (decide (y<0)) (aS LL x.natAbs) (aS LL y.natAbs) hx.VG hy.VG
 rwa [x7,x7]at this
theorem at8{p:Bool × List Int}(h:r9 p.2):Sz (gv p):=by
 have h1:=ayB gF h.x6
 have h2:=h.len
 have e:sz LL (gv p)=sz LL (V 4294967296 p.2):=by
  unfold gv iv sz
  split<;>simp
 show sz LL (gv p)<_
 rw [e]
 exact Nat.lt_of_le_of_lt h1 h2
theorem rB.sz{l:List (Bool × List Int)}(h:rB l):∀c∈aO (l.map gv),Sz c:=fun c hc=>by
 have:=pK _ _ hc
 simp only [List.mem_map]at this
 obtain⟨p,hp,rfl⟩:=this
 exact at8 (h.ok p hp)
theorem ZB(a b:List (Bool × List Int))(ha:rB a)(hb:rB b):aE env.P 251 [Pg a,Pg b] (.bool (decide (aO (a.map gv)=aO (b.map gv)))):=by
 refine cX (E:=env) (fun _=>0) [(0,Pg a),(1,Pg b)] Tryz.func251 rfl (by kernel_rfl) (by kernel_rfl) (show 2≤31 by decide) (by simp) ?_
 refine W.dN (fun K hK=>?_)
 simp (disch:=omega) [gA,wA]
 refine W.lv [0,1] hK fun J j=>?_;clear hK K;simp;refine j _ ?_;clear j J
 refine W.dN (fun K hK=>?_)
 simp (disch:=omega) [gA,wA]
 refine aC (gK a ha) ?_
 simp (disch:=omega) [gA,wA]
 refine aC (gK b hb) ?_
 simp (disch:=omega) [gA,wA]
 refine W.lv [0,1] hK fun J j=>?_;clear hK K;simp;refine j _ ?_;clear j J
 have sa:=ha.sz;have sb:=hb.sz
 have la:(aO (a.map gv)).length<1099511627776:=by have:=bV (a.map gv);have:=ha.len;simp at *;omega
 have lb:(aO (b.map gv)).length<1099511627776:=by have:=bV (b.map gv);have:=hb.len;simp at *;omega
 generalize aO (a.map gv)=x at *
 generalize aO (b.map gv)=y at *
 refine W.seq ?_
 refine W.dN (fun K hK=>?_)
 simp (disch:=omega) [gA,wA]
 refine W.lv [0,1,15] hK fun J j=>?_;clear hK K;simp;refine j _ ?_;clear j J
 refine W.cond ⟨_,rfl,fun h=>?_,fun h=>?_⟩
 ·have h0:x≠y:=fun h1=>by subst h1;simp at h
  refine W.dN (fun K hK=>?_)
  simp (disch:=omega) [gA,wA]
  refine W.lv [4] hK fun J j=>?_;clear hK K;simp;refine j _ ?_;clear j J
  refine W.ret ?_
  simp [go,h0]
 ·have h0:x.length=y.length:=by simp at h;omega
  clear h
  refine W.skip ?_
  refine W.seq ?_
  refine W.dN (fun K hK=>?_)
  simp (disch:=omega) [gA,wA]
  refine W.lv [1,16,17,18] hK fun J j=>?_;clear hK K;simp;refine j _ ?_;clear j J
  refine W.block ?_
  refine W.bE (fun k σ=>∃(i:Nat) (rows:Pm.Rows) (clk:Nat),σ=⟨fa [(1,Po y),(16,Po x),(17, .int .i64 x.length),(18, .int .i64 i)],rows,clk⟩∧k=x.length-i∧i≤x.length∧x.take i=y.take i) x.length ?_ ?_
  ·exact⟨_, .refl,0,_,_,rfl,by omega,by omega,by simp⟩
  rintro k _ ⟨i,rows,clk,rfl,hk,hi,qT⟩
  refine W.dN (fun K hK=>?_)
  simp (disch:=omega) [gA,wA]
  refine W.lv [1,16,17,18,19] hK fun J j=>?_;clear hK K;simp;refine j _ ?_;clear j J
  refine W.seq ?_
  refine W.cond ⟨_,rfl,fun h=>?_,fun h=>?_⟩
  ·simp at h
   refine W.skip ?_
   refine W.seq ?_
   refine W.block ?_
   refine W.dN (fun K hK=>?_)
   simp (disch:=omega) [gA,wA]
   refine W.lv [1,5,6,16,17,18] hK fun J j=>?_;clear hK K;simp;refine j _ ?_;clear j J
   refine W.YX (fun K hK=>?_)
   simp (disch:=omega) [gA,wA]
   refine aC (VI (sa _ (bN h)) (sb _ (bN (by omega)))) ?_
   simp (disch:=omega) [gA,wA]
   refine W.lv [1,16,17,18,29] hK fun J j=>?_;clear hK K;simp;refine j _ ?_;clear j J
   refine W.cond ⟨_,rfl,fun h2=>?_,fun h2=>?_⟩
   ·have h3:x≠y:=fun h1=>by subst h1;simp [vY]at h2
    refine W.dN (fun K hK=>?_)
    simp (disch:=omega) [gA,wA]
    refine W.lv [4] hK fun J j=>?_;clear hK K;simp;refine j _ ?_;clear j J
    refine W.ret ?_
    simp [go,h3]
   ·have h3:nth x i=nth y i:=by
     have:dI (nth x i) (nth y i)=0:=by simpa using h2
     exact s5.1 this
    refine W.skip ?_
    refine W.b7 (fun K hK=>?_)
    simp (disch:=omega) [gA,wA]
    refine hK _ ⟨x.length-(i+1),_,aB _ [1,16,17,18],by omega,i+1,_,_,rfl,by omega,by omega,?_⟩
    rw [bF h,bF (by omega),qT,h3]
  ·simp at h
   have h3:x=y:=by
    rw [bL (show x.length=i by omega),bL (show y.length=i by omega)]at qT
    exact qT
   refine W.exit ?_;simp only [pX,if_true,if_false,reduceIte,Nat.reduceEqDiff]
   refine W.dN (fun K hK=>?_)
   simp (disch:=omega) [gA,wA]
   refine W.lv [4] hK fun J j=>?_;clear hK K;simp;refine j _ ?_;clear j J
   refine W.ret ?_
   simp [go,h3]
abbrev RP:=List (Bool × List Int)
def aI(n:Int):List PV:=[.int .i64 n]
def pe(p:RP):List PV:=[Pg p]
def me(r:List RP):List PV:=[aJ pe r]
@[simp] theorem at9{n:Int}:aI n = [.int .i64 n]:=rfl
@[simp] theorem ay7{p:RP}:pe p = [Pg p]:=rfl
@[simp] theorem ay8{p:List RP}:me p = [aJ pe p]:=rfl
@[simp] theorem akf{l:List Int}:bG 1 (emap aI l)=True:=cB fun _=>rfl
@[simp] theorem aqJ{l:List RP}:bG 1 (emap pe l)=True:=cB fun _=>rfl
@[simp] theorem aqK{l:List (List RP)}:bG 1 (emap me l)=True:=cB fun _=>rfl
@[simp] theorem ahd{v e n:Nat}{l:List Int}:cQ (some ⟨v,e,n,emap aI l⟩)=True:=bT fun _=>rfl
@[simp] theorem anH{v e n:Nat}{l:List RP}:cQ (some ⟨v,e,n,emap pe l⟩)=True:=bT fun _=>rfl
@[simp] theorem anI{v e n:Nat}{l:List (List RP)}:cQ (some ⟨v,e,n,emap me l⟩)=True:=bT fun _=>rfl
@[simp] theorem ay9{l:RP}{n:Bool}{m:List Int}:emap ge l ++ [[.bool n,us m]]=emap ge (l ++ [(n,m)]):=by simp [emap]
@[simp] theorem aza{l:List Int}{x:Int}:emap ie l ++ [[.bool (decide (x<0)),us (aS LL x.natAbs)]]=emap ie (l ++ [x]):=by simp [emap]
@[simp] theorem azb{l:List RP}{p:RP}:emap pe l ++ [[aJ ge p]]=emap pe (l ++ [p]):=by simp [emap]
@[simp] theorem azc{l:List (List RP)}{p:List RP}:emap me l ++ [[aJ pe p]]=emap me (l ++ [p]):=by simp [emap]
def m7(p:RP):List Int:=aO (p.map gv)
theorem VJ(l:List Int)(hl:l.length<1099511627776)(hb:∀x∈l, -9223372036854775808≤x∧x<9223372036854775808):aE env.P 11 [aJ aI l] (Po (aO l)):=by
 refine cD [(0,aJ aI l)] Tryz.func11 ?_
 refine aA [0] ?_
 refine aA [0,3] ?_
 refine W.row (id:=8) (emap ie (List.replicate l.length 0)) (by simp;exact⟨rfl,rfl,rfl⟩) (sA _) ?_
 refine aQ [3,9,10,11] ?_
 refine W.block ?_
 refine W.bE (fun k σ=>∃(i:Nat) (z:List Int) (ver:Nat) (rows:Pm.Rows) (clk:Nat),σ=⟨fa [(3, .own 8 ver 0 l.length),(9,aJ aI l),(10, .int .i64 l.length),(11, .int .i64 i)],rows,clk⟩ ∧
  rows 8=some ⟨ver,38,2,emap ie z⟩∧k=l.length-i∧i≤l.length∧z.length=l.length∧z.take i=l.take i) l.length ?_ ?_
 ·exact⟨_, .refl,0,List.replicate l.length 0,_,_,_,rfl,by simp,by omega,by omega,by simp,by simp⟩
 rintro k _ ⟨i,z,ver,rows,clk,rfl,hr,hk,hi,hz,hv⟩
 refine bU [3,9,10,11,12] ?_
 refine W.cond ⟨_,rfl,fun dK=>?_,fun dK=>?_⟩
 ·simp at dK
  refine lF ?_
  refine W.sr ?_
  simp (disch:=omega) [gw,hr]
  refine bH [3,4,5,9,10,11] ?_
  refine W.b7 (fun K hK=>?_)
  simp (disch:=omega) [gw,hr]
  refine aC (C4 _ (hb _ (bN dK)).1 (hb _ (bN dK)).2) ?_
  simp (disch:=omega) [gw,hr]
  refine W.lw [3,9,10,11] hK ?_;clear hK K;simp
  refine W.b7 (fun K hK=>?_)
  simp (disch:=omega) [gw]
  refine hK _ ⟨l.length-(i+1),_,aB _ [3,9,10,11],by omega,i+1,z.set i (nth l i),ver,_,_,rfl,by simp,by omega,by omega,by simpa using hz,?_⟩
  rw [mG hv (by omega),bF dK]
 ·simp at dK
  have iQ:i=l.length:=by omega
  subst iQ
  refine fA ?_
  rw [bL hz,bL rfl]at hv
  have uT:=bL hz
  refine W.sr ?_
  simp (disch:=omega) [gw,hr,uT]
  refine aC (wI z (by omega)) ?_
  simp (disch:=omega) [gw]
  refine bH [2] ?_
  refine W.ret ?_
  simp [go,hv]
abbrev DD:Nat:=10000
theorem PY:2≤DD:=by decide
abbrev Dn(x:Int):PV:=aJ aI (aS DD x.toNat)
theorem uV{l:List Int}(h:cV 10000 l):aJ aI (aO l)=Dn (V 10000 l):=by rw [rZ PY h];rfl
@[simp] theorem awV{n:Nat}:List.replicate n [PV.int .i64 0]=emap aI (List.replicate n 0):=by simp [emap]
@[simp] theorem anJ{l:List Int}{i:Nat}{x:Int}:iA (emap aI l) i 0 [.int .i64 x]=emap aI (l.set i x):=AW (n:=1) (fun _=>rfl)
@[simp] theorem aua{l:List Int}{x:Int}:emap aI l ++ [[.int .i64 x]]=emap aI (l ++ [x]):=by simp [emap]
theorem pN(l:List Int)(hl:l.length<17592186044416):aE env.P 211 [aJ aI l] (aJ aI (aO l)):=by
 refine cD [(0,aJ aI l)] Tryz.func211 ?_
 refine aA [0] ?_
 refine aA [0,3] ?_
 refine W.seq (W.block ?_)
 refine W.bE (fun k σ=>∃(rows:Pm.Rows) (clk:Nat),σ=⟨fa [(0,aJ aI l),(3, .int .i64 (k:Int))],rows,clk⟩∧k≤l.length∧aO l=aO (l.take k)) l.length ?_ ?_
 ·exact⟨_, .refl,_,_,rfl,by omega,by simp⟩
 rintro k _ ⟨rows,clk,rfl,hk,hc⟩
 refine W.seq ?_
 refine W.eJ (fun σ=>∃(b:Bool),σ=⟨fa [(0,aJ aI l),(3, .int .i64 (k:Int)),(15, .bool b)],rows,clk⟩∧(b=true↔0<k∧nth l (k-1)=0)) (fun K hK=>?_) ?_
 ·simp
  by_cases h0:0<k
  ·simp (disch:=omega) [gw,h0]
   exact hK _ _ (aB _ [0,3,15]) ⟨_,rfl,by simp [h0]⟩
  ·simp (disch:=omega) [gw,h0]
   exact hK _ _ (aB _ [0,3,15]) ⟨_,rfl,by simp [h0]⟩
 rintro _ ⟨b,rfl,hb⟩
 refine bJ ?_ ?_<;>intro h
 ·obtain⟨h0,h1⟩:=hb.1 h
  refine W.skip (W.block ?_)
  refine W.b7 (fun K hK=>?_)
  simp (disch:=omega) [gw]
  refine hK _ ⟨k-1,_,Gh.fr [(0,_),(3, .int .i64 ((k-1:Nat):Int))] (by simp;omega),by omega,_,_,rfl,by omega,?_⟩
  rw [hc,show k=(k-1)+1 by omega,bF (by omega),h1,j2]
  simp
 ·have h2:aO l=l.take k:=by
   rw [hc]
   by_cases h0:0<k
   ·have h1:nth l (k-1)≠0:=fun h1=>by simp [hb.2 ⟨h0,h1⟩]at h
    rw [show k=(k-1)+1 by omega,bF (by omega)]
    exact jL h1 _
   ·have:k=0:=by omega
    subst this;simp [aO]
  refine fA ?_
  refine aA [2] ?_
  refine W.ret ?_
  simp [h2]
theorem SE(a:List Int)(m c0:Int)(ha:a.length<1099511627776)(la:cV 10000 a)(PW:0≤m)(K9:m≤65536)(xY:0≤c0)(vP:c0≤65536) :
  aE env.P 210 [aJ aI a, .int .i64 m, .int .i64 c0] (Dn (V 10000 a*m+c0)):=by
 refine cD [(0,aJ aI a),(1, .int .i64 m),(2, .int .i64 c0)] Tryz.func210 ?_
 refine aA [0,1,2] ?_
 refine aA [0,1,2,7] ?_
 refine aQ [0,1,2,7,8] ?_
 refine W.block ?_
 refine W.bE (fun k σ=>∃(i:Nat) (c:Int) (z:List Int) (ver:Nat) (rows:Pm.Rows) (clk:Nat),σ=⟨fa [(0,aJ aI a),(1, .int .i64 m),(2, .int .i64 c),(7, .own 12 ver 0 i),(8, .int .i64 i)],rows,clk⟩ ∧
  rows 12=some ⟨ver,3,1,emap aI z⟩∧k=(a.length-i)*1000000+c.toNat∧z.length=i∧(i≤a.length∨i+c≤a.length+65536)∧cV 10000 z∧0≤c∧c≤65536 ∧
  V 10000 z+10000^i*c=V 10000 (a.take i)*m+c0) (a.length*1000000+c0.toNat) ?_ ?_
 ·exact⟨_, .refl,0,c0,[],_,_,_,rfl,by simp [emap],by simp,rfl,by omega,cV.nil,xY,vP,by simp [V]⟩
 rintro k _ ⟨i,c,z,ver,rows,clk,rfl,hr,hk,hz,hi,lz,h0,h1,hV⟩
 refine W.seq ?_
 refine W.eJ (fun σ=>∃(b:Bool),σ=⟨fa [(0,aJ aI a),(1, .int .i64 m),(2, .int .i64 c),(7, .own 12 ver 0 i),(8, .int .i64 i),(20, .bool b)],rows,clk⟩∧(b=true↔i<a.length∨0<c)) (fun K hK=>?_) ?_
 ·simp
  by_cases h2:i<a.length
  ·simp (disch:=omega) [gw,h2]
   exact hK _ _ (aB _ [0,1,2,7,8,20]) ⟨_,rfl,by simp [h2]⟩
  ·simp (disch:=omega) [gw,h2]
   exact hK _ _ (aB _ [0,1,2,7,8,20]) ⟨_,rfl,by simp [h2]⟩
 rintro _ ⟨b,rfl,hb⟩
 refine bJ ?_ ?_<;>intro h
 ·have hb:=hb.1 h
  refine lF ?_
  refine W.iB (fun σ=>∃(s:Int),σ=⟨fa [(0,aJ aI a),(1, .int .i64 m),(2, .int .i64 s),(7, .own 12 ver 0 i),(8, .int .i64 i)],rows,clk⟩∧0≤s∧s≤655360000∧(a.length≤i→s=c) ∧
   V 10000 z+10000^i*s=V 10000 (a.take (i+1))*m+c0) ?_ ?_
  ·
   refine aA [0,1,2,7,8,26] ?_
   refine bJ ?_ ?_<;>intro h
   ·simp at h
    have hn:=la.nth h
    have h2:0≤nth a i*m:=Int.mul_nonneg hn.1 PW
    have h3:nth a i*m≤9999*65536:=Int.mul_le_mul (by omega) K9 PW (by omega)
    refine W.b7 (fun K hK=>?_);simp (disch:=omega) [gw]
    refine hK _ ⟨_,aB _ [0,1,2,7,8],_,rfl,by omega,by omega,by omega,?_⟩
    rw [aV h,Int.mul_add,Int.add_mul]
    grind
   ·simp at h
    refine W.skip ?_
    refine⟨_,aB _ [0,1,2,7,8],_,rfl,by omega,by omega,fun _=>rfl,?_⟩
    rw [a9 (by omega)]
    rw [a9 (by omega)]at hV
    exact hV
  rintro _ ⟨s,rfl,VF,wH,hsc,hsV⟩
  refine W.sr ?_
  simp (disch:=omega) [gw,hr,hz]
  refine bH [0,1,2,7,8] ?_
  refine W.b7 (fun K hK=>?_);simp (disch:=omega) [gw];refine W.lw [0,1,2,7,8] hK ?_;clear hK K;simp
  refine W.b7 (fun K hK=>?_);simp (disch:=omega) [gw]
  refine hK _ ⟨(a.length-(i+1))*1000000+(s/10000).toNat,_,aB _ [0,1,2,7,8],by omega,i+1,s/10000,z ++ [s%10000],_,_,_,rfl,by simp,rfl,by simp [hz],by omega,cV.append.2 ⟨lz,cV.cons.2 ⟨by omega,cV.nil⟩⟩,by omega,by omega,?_⟩
  rw [eB,n9,hz,←hsV,Int.pow_succ]
  have:=Int.emod_add_mul_ediv s 10000
  grind
 ·have hb:¬(i<a.length∨0<c):=fun h2=>by simp [hb.2 h2]at h
  have hc:c=0:=by omega
  subst hc
  refine fA ?_
  have ez:z.take i=z:=bL hz
  refine W.sr ?_
  simp (disch:=omega) [gw,hr,hz,ez]
  refine aC (pN z (by omega)) ?_
  simp (disch:=omega) [gw]
  refine bH [6] ?_
  refine W.ret ?_
  rw [a9 (by omega)]at hV
  have e:V 10000 z=V 10000 a*m+c0:=by simpa using hV
  rw [←e,←uV lz]
  simp
abbrev Z(x:Int):Prop:=sz 2 x<1099511627776
theorem VK{b:Nat}(hb:2≤b)(x:Int):sz b x≤sz 2 x:=by
 refine dY hb (Nat.lt_of_lt_of_le (iZ (b:=2) (by decide) x) ?_)
 exact Nat.pow_le_pow_left hb _
theorem anL(y:Int):(aS DD y.natAbs).length≤sz 2 y:=VK PY y
theorem kS{y:Int}(h:0≤y):(aS DD y.toNat).length≤sz 2 y:=by
 have:=anL y
 rwa [show y.natAbs=y.toNat by omega]at this
theorem wK{y:Int}(h:0≤y):V 10000 (aS DD y.toNat)=y:=by
 have:=kP PY y.toNat
 simp only [show((DD:Nat):Int)=10000 from rfl]at this
 rw [this];omega
theorem auc(y:Int):V 10000 (aS DD y.natAbs)=y.natAbs:=by
 have:=kP PY y.natAbs
 simpa only [show((DD:Nat):Int)=10000 from rfl]using this
theorem mL(n:Nat):cV 10000 (aS DD n):=fI PY n
theorem ac1{l:List Int}(h:cV 4294967296 l):sz 2 (V 4294967296 l)≤32*l.length:=by
 refine dY (by decide) ?_
 have h1:=oS (b:=(4294967296:Int)) (by decide) h
 have h2:=bM (b:=(4294967296:Int)) (by decide) h
 have h3:((4294967296:Int)^l.length)=((2^(32*l.length):Nat):Int):=by rw [Nat.pow_mul];simp
 rw [h3]at h1
 omega
theorem mH(y m c:Int)(hy:0≤y)(hz:Z y)(PW:0≤m)(K9:m≤65536)(xY:0≤c)(vP:c≤65536):aE env.P 210 [Dn y, .int .i64 m, .int .i64 c] (Dn (y*m+c)):=by
 have:=SE (aS DD y.toNat) m c (by have:=kS hy;omega) (mL _) PW K9 xY vP
 rwa [wK hy]at this
theorem ZC(l:List Int)(hl:l.length≤17179869184)(hm:cV 4294967296 l):aE env.P 231 [us l] (Dn (V 4294967296 l)):=by
 refine cD [(0,us l)] Tryz.func231 ?_
 refine aA [0] ?_
 refine aA [0,3] ?_
 refine W.R3 3 (Dn 0) (by simp) rfl (fun K hK=>?_)
 refine W.lw [0,3] hK ?_;clear hK K;simp
 refine aQ [0,3,4] ?_
 refine W.block ?_
 refine W.bE (fun k σ=>∃(rows:Pm.Rows) (clk:Nat),σ=⟨fa [(0,us l),(3,Dn (V 4294967296 (l.drop k))),(4, .int .i64 ((k:Int)-1))],rows,clk⟩∧k≤l.length) l.length ?_ ?_
 ·exact⟨_,Gh.fr [(0,us l),(3,Dn (V 4294967296 (l.drop l.length))),(4, .int .i64 ((l.length:Int)-1))] (by simp [V]),_,_,rfl,by omega⟩
 rintro k _ ⟨rows,clk,rfl,hk⟩
 have h0:=bM (b:=4294967296) (by decide) (hm.drop k)
 have hs:sz 2 (V 4294967296 (l.drop k))≤32*(l.length-k):=by have:=ac1 (hm.drop k);simpa using this
 refine aQ [0,3,4,9] ?_
 refine bJ ?_ ?_<;>intro h
 ·simp at h
  have hx:=hm.nth (i:=k-1) (by omega)
  have hd:V 4294967296 (l.drop (k-1))=nth l (k-1)+4294967296*V 4294967296 (l.drop k):=by
   rw [fE (i:=k-1) (by omega),show k-1+1=k by omega];rfl
  refine lF ?_
  refine W.sr ?_
  have hk1:((k:Int)-1).toNat=k-1:=by omega
  simp (disch:=omega) [gw,hk1]
  refine aC (mH _ 65536 _ h0 (by omega) (by decide) (by decide) (by omega) (by omega)) ?_
  simp (disch:=omega) [gw]
  refine bH [0,3,4] ?_
  have h1:0≤V 4294967296 (l.drop k)*65536+nth l (k-1)/65536:=by omega
  have h2:sz 2 (V 4294967296 (l.drop k)*65536+nth l (k-1)/65536)≤32*l.length:=by
   have h3:=ac1 (hm.drop (k-1))
   refine Nat.le_trans (dP (by decide) (y:=V 4294967296 (l.drop (k-1))) (by omega)) ?_
   simp at h3;omega
  refine W.b7 (fun K hK=>?_)
  simp (disch:=omega) [gw,hk1]
  refine aC (mH _ 65536 _ h1 (by omega) (by decide) (by decide) (by omega) (by omega)) ?_
  simp (disch:=omega) [gw]
  refine W.lw [0,3,4] hK ?_;clear hK K;simp
  refine W.b7 (fun K hK=>?_);simp (disch:=omega) [gw]
  refine hK _ ⟨k-1,_,Gh.fr [(0,us l),(3,Dn (V 4294967296 (l.drop (k-1)))),(4, .int .i64 (((k-1:Nat):Int)-1))] ?_,by omega,_,_,rfl,by omega⟩
  have e:(V 4294967296 (l.drop k)*65536+nth l (k-1)/65536)*65536+nth l (k-1)%65536=V 4294967296 (l.drop (k-1)):=by omega
  simp [e];omega
 ·simp at h
  have xU:k=0:=by omega
  subst xU
  refine fA ?_
  refine aA [2] ?_
  refine W.ret ?_
  simp
abbrev RI(x:Int):PV:=.ag [aJ aI (aS DD x.natAbs), .bool (decide (x<0))]
theorem pO(y:Int)(hy:0≤y)(neg:Bool):aE env.P 68 [Dn y, .bool neg] (RI (if neg=true then -y else y)):=by
 refine cD [(0,Dn y),(1, .bool neg)] Tryz.func68 ?_
 refine aA [0,1,4] ?_
 have e0:(aS DD y.toNat = [])↔y=0:=by rw [eO PY];omega
 have e:RI (if neg=true then -y else y) = .ag [Dn y, .bool (neg&&decide (0<(aS DD y.toNat).length))]:=by
  have h1:0<(aS DD y.toNat).length↔y≠0:=by
   rw [List.length_pos_iff];simp [e0]
  have e2:(if neg=true then -y else y).natAbs=y.toNat:=by split<;>omega
  have e3:(decide ((if neg=true then -y else y)<0))=(neg&&decide (0<(aS DD y.toNat).length)):=by
   cases neg
   ·simp only [Bool.false_and,Bool.false_eq_true,if_false,decide_eq_false_iff_not];omega
   ·simp only [Bool.true_and,if_true,h1];congr 1;apply propext;omega
  rw [RI,e2,e3]
 rw [e]
 refine W.dN (fun K hK=>?_)
 cases neg
 ·simp (disch:=omega) [gw]
  refine W.lw [4] hK ?_;clear hK K;simp
  exact cC
 ·simp (disch:=omega) [gw]
  refine W.lw [4] hK ?_;clear hK K;simp
  exact cC
theorem GK(n:Bool)(l:List Int)(hl:l.length≤17179869184)(hm:cV 4294967296 l):aE env.P 156 [IV n l] (RI (iv n l)):=by
 refine cD [(0,IV n l)] Tryz.func156 ?_
 refine aA [1,2] ?_
 refine nU ?_
 refine cS (ZC l hl hm) ?_
 refine aC (pO _ (bM (by decide) hm) n) ?_
 simp (disch:=omega) [gw]
 refine bH [2] ?_
 refine W.ret ?_
 simp [go,iv]
theorem ac3(n:Nat)(hn:n<1099511627776):aE env.P 128 [.int .i64 n] (Dn (2^n)):=by
 refine cD [(0, .int .i64 n)] Tryz.func128 ?_
 refine aA [0] ?_
 refine aA [0,3] ?_
 refine W.ayA 3 [[.int .i64 1]] (Dn 1) (by simp) rfl (fun K hK=>?_)
 refine W.lw [0,3] hK ?_;clear hK K;simp
 refine aQ [0,3,4] ?_
 refine W.block ?_
 refine W.bE (fun k σ=>∃(i:Nat) (rows:Pm.Rows) (clk:Nat),σ=⟨fa [(0, .int .i64 n),(3,Dn (2^i)),(4, .int .i64 i)],rows,clk⟩∧k=n-i∧i≤n) n ?_ ?_
 ·exact⟨_, .refl,0,_,_,rfl,by omega,by omega⟩
 rintro k _ ⟨i,rows,clk,rfl,hk,hi⟩
 refine aQ [0,3,4,8] ?_
 refine bJ ?_ ?_<;>intro h
 ·simp at h
  have hs:sz 2 (2^i)≤i+1:=by
   refine dY (by decide) ?_
   rw [show((2:Int)^i)=((2^i:Nat):Int)by simp,Int.natAbs_natCast,Nat.pow_succ]
   have:=Nat.pow_pos (n:=i) (show 0<2 by decide)
   omega
  refine lF ?_
  refine W.b7 (fun K hK=>?_)
  simp (disch:=omega) [gw]
  refine aC (mH (2^i) 2 0 (Int.le_of_lt (Int.pow_pos (by decide))) (by omega) (by decide) (by decide) (by decide) (by decide)) ?_
  simp (disch:=omega) [gw]
  refine W.lw [0,3,4] hK ?_;clear hK K;simp
  refine W.b7 (fun K hK=>?_);simp (disch:=omega) [gw]
  refine hK _ ⟨n-(i+1),_,Gh.fr [(0, .int .i64 n),(3,Dn (2^(i+1))),(4, .int .i64 ((i+1:Nat):Int))] ?_,by omega,i+1,_,_,rfl,rfl,by omega⟩
  simp [Int.pow_succ]
 ·simp at h
  have:i=n:=by omega
  subst this
  refine fA ?_
  refine aA [2] ?_
  refine W.ret ?_
  simp
theorem oD(n:Int)(h1 : -9223372036854775808≤n)(h2:n<9223372036854775808):aE env.P 61 [.int .i64 n] (RI n):=by
 refine cD [(0, .int .i64 n)] Tryz.func61 ?_
 refine aA [0,2] ?_
 refine aQ [0,2,6] ?_
 refine bJ ?_ ?_<;>intro h
 ·simp at h
  subst h
  refine jC ?_
  refine aC (ac3 63 (by decide)) ?_
  simp (disch:=omega) [gw]
  have hp:=pO 9223372036854775808 (by decide) true
  simp at hp
  refine cN [2] hp ?_
  exact cC
 ·simp at h
  refine W.skip ?_
  refine aA [0,2,3] ?_
  refine W.iB (fun σ=>∃(rows:Pm.Rows) (clk:Nat),σ=⟨fa [(0, .int .i64 n.natAbs),(2, .ptr 2 0 0 0),(3, .bool (decide (n<0)))],rows,clk⟩∧rows 2=some ⟨0,29,2,[[.nil, .bool false]]⟩) ?_ ?_
  ·
   refine aA [0,2,3,11] ?_
   refine bJ ?_ ?_<;>intro h
   ·simp at h
    refine W.b7 (fun K hK=>?_);simp (disch:=omega) [gw]
    refine hK _ ⟨_,Gh.fr [(0, .int .i64 n.natAbs),(2, .ptr 2 0 0 0),(3, .bool (decide (n<0)))] (by simp;omega),_,_,rfl,by simp⟩
   ·simp at h
    refine W.skip ?_
    refine⟨_,Gh.fr [(0, .int .i64 n.natAbs),(2, .ptr 2 0 0 0),(3, .bool (decide (n<0)))] (by simp;omega),_,_,rfl,by simp⟩
  rintro _ ⟨rows,clk,rfl,bX⟩
  refine aA [0,2,3,4] ?_
  refine W.nil 4 4 3 1 (by simp) (by decide) (fun K hK=>?_)
  refine W.lw [0,2,3,4] hK ?_;clear hK K;simp
  refine W.seq ?_
  refine W.block ?_
  refine W.bE (fun k σ=>∃(z:List Int) (i ver:Nat) (rows:Pm.Rows) (clk:Nat),σ=⟨fa [(0, .int .i64 k),(2, .ptr 2 0 0 0),(3, .bool (decide (n<0))),(4, .own 4 ver 0 i)],rows,clk⟩∧rows 2=some ⟨0,29,2,[[.nil, .bool false]]⟩ ∧
   rows 4=some ⟨ver,3,1,emap aI z⟩∧z.length=i∧k*2^i≤9223372036854775808∧cV 10000 z∧V 10000 z+10000^i*k=n.natAbs∧aS DD n.natAbs=z++aS DD k) n.natAbs ?_ ?_
  ·exact⟨_, .refl,[],0,_,_,_,rfl,by simp [bX],by simp [emap],rfl,by simp;omega,cV.nil,by simp [V],by simp⟩
  rintro k _ ⟨z,i,ver,rows,clk,rfl,bX,hr,hz,zH,lz,hV,hd⟩
  refine aQ [0,2,3,4,15] ?_
  refine bJ ?_ ?_<;>intro h
  ·simp at h
   have aEu:i≤63:=by
    have h3:1*2^i≤k*2^i:=Nat.mul_le_mul_right _ (by omega)
    have h4:2^i≤2^63:=by omega
    exact(Nat.pow_le_pow_iff_right (by decide)).1 h4
   have aEv:k≤9223372036854775808:=Nat.le_trans (by have:=Nat.mul_le_mul_left k (Nat.pow_pos (n:=i) (show 0<2 by decide));omega) zH
   refine W.skip ?_
   refine W.block ?_
   refine W.sr ?_
   simp (disch:=omega) [gw,hr,hz]
   refine bH [0,2,3,4] ?_
   refine W.b7 (fun K hK=>?_);simp (disch:=omega) [gw]
   refine hK _ ⟨k/10000,_,Gh.fr [(0, .int .i64 ((k/10000:Nat):Int)),(2, .ptr 2 0 0 0),(3, .bool (decide (n<0))),(4, .own 4 _ 0 (i+1))] (by simp;rfl),by omega,z ++ [((k%10000:Nat):Int)],i+1,_,_,_,rfl,by simp [bX],by simp,by simp [hz],?_,cV.append.2 ⟨lz,cV.cons.2 ⟨by omega,cV.nil⟩⟩,?_,?_⟩
   ·rw [Nat.pow_succ]
    have h3:k/10000*(2^i*2)=k/10000*2*2^i:=by rw [Nat.mul_comm (2^i),Nat.mul_assoc]
    rw [h3]
    exact Nat.le_trans (Nat.mul_le_mul_right _ (by omega)) zH
   ·rw [eB,n9,hz,←hV,Int.pow_succ]
    have:(k:Int)=(k%10000:Nat)+10000*(k/10000:Nat):=by omega
    grind
   ·rw [hd,rY PY (by omega)];simp
  ·simp at h
   have xU:k=0:=by omega
   subst xU
   have e:z=aS DD n.natAbs:=by rw [hd];simp [mE]
   refine fA ?_
   refine W.sr ?_
   have ez:z.take i=aS DD n.natAbs:=by rw [bL hz,e]
   simp (disch:=omega) [gw,hr,hz,ez]
   refine aC (pO n.natAbs (by omega) (decide (n<0))) ?_
   simp (disch:=omega) [gw,bX]
   refine bH [2] ?_
   refine W.ret ?_
   have e2:(if n<0 then -(n.natAbs:Int)else n.natAbs)=n:=by split<;>omega
   rw [e2]
   simp [go]
theorem sC:∀ {l:List Int},l.length≤(aO l).length→aO l=l
 | [],_=>rfl
 | x::l,h=>by
  rw [aO]at h ⊢
  split
  ·rename_i h1
   rw [if_pos h1]at h;simp at h
  ·rename_i h1
   rw [if_neg h1]at h
   rw [sC (by simpa using h)]
theorem NB{b:Int}(hb:1≤b){l:List Int}(hl:cV b l)(h:l ≠ []→b^(l.length-1)≤V b l):aO l=l:=by
 apply sC
 rcases Nat.lt_or_ge (aO l).length l.length with h1 | h1
 ·exfalso
  have h2:=h (by intro h0;subst h0;simp at h1)
  have h3:=oS (by omega) (eG hl)
  rw [c8]at h3
  obtain⟨m,hm⟩:∃m,l.length-1=(aO l).length+m:=⟨l.length-1-(aO l).length,by omega⟩
  rw [hm,Int.pow_add]at h2
  have h4:1≤b^m:=Int.pow_pos (by omega)
  have h5:=Int.mul_le_mul_of_nonneg_left h4 (show 0≤b^(aO l).length from Int.le_of_lt (Int.pow_pos (by omega)))
  omega
 ·exact h1
@[simp] theorem ahe{l:List Int}{x:Int}:emap u32 l ++ [[.int .u32 x]]=emap u32 (l ++ [x]):=by simp [emap]
theorem GL(x:Int):aE env.P 125 [RI x] (.bool (decide (x=0))):=by
 refine cD [(0,RI x)] Tryz.func125 ?_
 refine aA [1] ?_
 refine aA [2] ?_
 refine W.ret ?_
 simp [go]
 have e:((aS DD x.natAbs).length=0)↔x=0:=by rw [List.length_eq_zero_iff,eO PY];omega
 rw [Bool.eq_iff_iff,decide_eq_true_iff,beq_iff_eq,←e]
 omega
theorem VL{x:Int}:(aS DD x.natAbs).length=0↔x=0:=by rw [List.length_eq_zero_iff,eO PY];omega
theorem GM(x:Int):aE env.P 129 [RI x] (.int .i64 x.sign):=by
 refine cD [(0,RI x)] Tryz.func129 ?_
 refine bU [1] ?_
 refine W.block ?_
 refine aA [1,3] ?_
 refine bJ ?_ ?_<;>intro h
 ·have h0:x=0:=by rw [←VL];simp at h;simp [h]
  subst h0
  refine aA [2] ?_
  exact cC
 ·have h0:x≠0:=by rw [Ne,←VL];simp at h;simpa using h
  refine aA [8] ?_
  refine bJ ?_ ?_<;>intro h
  ·simp at h
   refine aA [2] ?_
   refine W.ret ?_
   simp [go,Int.sign_eq_neg_one_of_neg h]
  ·simp at h
   refine W.skip ?_
   refine aA [2] ?_
   refine W.ret ?_
   simp [go,Int.sign_eq_one_of_pos (show 0<x by omega)]
theorem pP(x:Int):aE env.P 17 [RI x] (RI (-x)):=by
 refine cD [(0,RI x)] Tryz.func17 ?_
 refine aA [1,2] ?_
 refine jC ?_
 refine aC (pO x.natAbs (by omega) (!decide (x<0))) ?_
 simp (disch:=omega) [gw]
 refine bH [2] ?_
 refine W.ret ?_
 have e:(if 0≤x then -(x.natAbs:Int)else x.natAbs) = -x:=by split<;>omega
 simp only [e]
 simp [go]
theorem ZD(a:List Int)(d:Int)(ha:a.length<1099511627776)(la:cV 10000 a)(hd0:0<d)(VM:d≤65536):aE env.P 136 [aJ aI a, .int .i64 d] (.dU [Dn (V 10000 a/d), .int .i64 (V 10000 a%d)]):=by
 refine cD [(0,aJ aI a),(1, .int .i64 d)] Tryz.func136 ?_
 refine aA [0,1] ?_
 refine aA [0,1,6] ?_
 refine aA [0,1,6,7] ?_
 refine aQ [0,1,6,7,8] ?_
 refine W.block ?_
 refine W.bE (fun k σ=>∃(r:Int) (z:List Int) (ver:Nat) (rows:Pm.Rows) (clk:Nat),σ=⟨fa [(0,aJ aI a),(1, .int .i64 d),(6, .own 12 ver 0 a.length),(7, .int .i64 r),(8, .int .i64 ((k:Int)-1))],rows,clk⟩ ∧
  rows 12=some ⟨ver,3,1,emap aI z⟩∧k≤a.length∧z.length=a.length∧cV 10000 z∧0≤r∧r<d∧V 10000 (a.drop k)=d*V 10000 (z.drop k)+r) a.length ?_ ?_
 ·exact⟨_, .refl,0,List.replicate a.length 0,_,_,_,rfl,by simp,by omega,by simp,cV.rep (by decide) _,by omega,hd0,by simp [V]⟩
 rintro k _ ⟨r,z,ver,rows,clk,rfl,hr,hk,hz,lz,FV,CO,hV⟩
 refine aQ [0,1,6,7,8,17] ?_
 refine bJ ?_ ?_<;>intro h
 ·simp at h
  obtain⟨j,rfl⟩:∃j,k=j+1:=⟨k-1,by omega⟩
  clear h
  have hx:=la.nth (i:=j) (by omega)
  have VF:0≤r*10000+nth a j:=by omega
  have wH:r*10000+nth a j<d*10000:=by omega
  have PZ:0≤(r*10000+nth a j)/d:=Int.ediv_nonneg VF (by omega)
  have hq1:(r*10000+nth a j)/d<10000:=Int.ediv_lt_of_lt_mul hd0 (by omega)
  have PW:=Int.emod_nonneg (r*10000+nth a j) (show d≠0 by omega)
  have K9:=Int.emod_lt_of_pos (r*10000+nth a j) hd0
  have hdz:d≠0:=by omega
  refine lF ?_
  refine aA [0,1,6,8,9] ?_
  refine W.sr ?_
  simp (disch:=omega) [gw,hr,hdz]
  refine bH [0,1,6,8,9] ?_
  refine W.b7 (fun K hK=>?_);simp (disch:=omega) [gw,hdz]
  refine W.lw [0,1,6,7,8] hK ?_;clear hK K;simp
  refine W.b7 (fun K hK=>?_);simp (disch:=omega) [gw]
  refine hK _ ⟨j,_,aB _ [0,1,6,7,8],by omega,_,z.set j ((r*10000+nth a j)/d),ver,_,_,rfl,by simp,by omega,by simpa using hz,lz.set ⟨PZ,hq1⟩,PW,K9,?_⟩
  rw [fE (l:=a) (i:=j) (by omega),fE (l:=z.set j _) (i:=j) (by simp;omega),eZ (by omega),List.drop_set_of_lt (by omega)]
  simp only [V]
  rw [hV]
  have:=Int.emod_add_mul_ediv (r*10000+nth a j) d
  grind
 ·simp at h
  have xU:k=0:=by omega
  subst xU
  simp only [List.drop_zero]at hV
  have ez:z.take a.length=z:=bL hz
  have hzn:=bM (by decide) lz
  have e1:V 10000 a/d=V 10000 z:=by
   rw [hV,Int.mul_add_ediv_left _ _ (by omega),Int.ediv_eq_zero_of_lt FV CO];simp
  have e2:V 10000 a%d=r:=by
   rw [hV,Int.mul_add_emod_self_left,Int.emod_eq_of_lt FV CO]
  refine fA ?_
  refine W.sr ?_
  simp (disch:=omega) [gw,hr,ez]
  refine aC (pN z (by omega)) ?_
  simp (disch:=omega) [gw]
  refine bH [4,5] ?_
  refine W.ret ?_
  rw [e1,e2,←uV lz]
  simp [go]
theorem C5(y d:Int)(hy:0≤y)(hz:Z y)(hd0:0<d)(VM:d≤65536):aE env.P 136 [Dn y, .int .i64 d] (.dU [Dn (y/d), .int .i64 (y%d)]):=by
 have:=ZD (aS DD y.toNat) d (by have:=kS hy;omega) (mL _) hd0 VM
 rwa [wK hy]at this
theorem ahg(n:Nat)(hz:Z (n:Int)):aE env.P 67 [aJ aI (aS DD n)] (us (aS LL n)):=by
 have hln:(aS LL n).length≤sz 2 (n:Int):=VK gF n
 refine cD [(0,aJ aI (aS DD n))] Tryz.func67 ?_
 refine aA [0] ?_
 refine aA [0,3] ?_
 refine W.nil 3 3 185 1 (by simp) (by decide) (fun K hK=>?_)
 refine W.lw [0,3] hK ?_;clear hK K;simp
 refine W.seq ?_
 refine W.block ?_
 refine W.bE (fun k σ=>∃(i:Nat) (z:List Int) (ver:Nat) (rows:Pm.Rows) (clk:Nat),σ=⟨fa [(0,aJ aI (aS DD k)),(3, .own 3 ver 0 i)],rows,clk⟩∧rows 3=some ⟨ver,185,1,emap u32 z⟩∧z.length=i∧k≤n∧aS LL n=z++aS LL k) n ?_ ?_
 ·exact⟨_, .refl,0,[],_,_,_,rfl,by simp [emap],rfl,by omega,by simp⟩
 rintro k _ ⟨i,z,ver,rows,clk,rfl,hr,H6,hk,hd⟩
 have hzk:Z (k:Int):=Nat.lt_of_le_of_lt (dP (by decide) (y:=(n:Int)) (by omega)) hz
 have tO:i≤(aS LL n).length:=by rw [hd];simp [H6]
 have e0:(aS DD k).length=0↔k=0:=by rw [List.length_eq_zero_iff,eO PY]
 refine aQ [0,3,9] ?_
 refine bJ ?_ ?_<;>intro h
 ·have xU:k≠0:=by rw [Ne,←e0];simp at h;omega
  have uT:Z ((k:Int)/65536):=Nat.lt_of_le_of_lt (dP (by decide) (y:=(k:Int)) (by omega)) hzk
  refine W.skip ?_
  refine W.block ?_
  refine jC ?_
  refine aC (C5 (k:Int) 65536 (by omega) hzk (by decide) (by decide)) ?_
  simp (disch:=omega) [gw]
  refine bH [3,4,5] ?_
  refine jC ?_
  refine aC (C5 ((k:Int)/65536) 65536 (by omega) uT (by decide) (by decide)) ?_
  simp (disch:=omega) [gw]
  refine bH [3,4,5,6] ?_
  refine W.sr ?_
  simp (disch:=omega) [gw,hr,H6,wrap_u32']
  have e1:(k:Int)/65536%65536*65536+k%65536=((k%LL:Nat):Int):=by simp;omega
  have e3:k/LL<k:=Nat.div_lt_self (by omega) (by decide)
  obtain⟨dg,e2⟩:∃dg:Int,dg=((k%LL:Nat):Int):=⟨_,rfl⟩
  rw [←e2]at e1
  simp only [e1,ahe]
  refine bH [3,4] ?_
  refine W.b7 (fun K hK=>?_);simp (disch:=omega) [gw]
  refine hK _ ⟨k/LL,_,Gh.fr [(0,aJ aI (aS DD (k/LL))),(3, .own 3 _ 0 (i+1))] ?_,e3,i+1,z ++ [dg],_,_,_,rfl,by simp;rfl,by simp [H6],by omega,?_⟩
  ·have e2:((k:Int)/65536/65536).toNat=k/LL:=by show _=k/4294967296;omega
   simp only [Dn,e2]
   simp
  ·rw [hd,rY gF xU,e2];simp
 ·have xU:k=0:=by rw [←e0];simp at h;simp [h]
  subst xU
  refine fA ?_
  refine aA [2] ?_
  refine W.ret ?_
  simp [mE]at hd
  have ez:z.take i=z:=bL H6
  simp [go,hr,ez,hd]
theorem wL(x:Int)(hz:Z x):aE env.P 16 [RI x] (I x):=by
 refine cD [(0,RI x)] Tryz.func16 ?_
 refine aA [1,2] ?_
 refine nU ?_
 refine aC (ahg x.natAbs (by simpa [Z,sz]using hz)) ?_
 simp (disch:=omega) [gw]
 refine bH [2] ?_
 exact cC
theorem ZE(x y:List Int)(hx:x.length<1099511627776)(hy:y.length<1099511627776)(lx:cV 10000 x)(ly:cV 10000 y)(cx:aO x=x)(cy:aO y=y):aE env.P 228 [aJ aI x,aJ aI y] (.int .i64 (dI (V 10000 x) (V 10000 y))):=by
 refine cD [(0,aJ aI x),(1,aJ aI y)] Tryz.func228 ?_
 refine aA [0,1] ?_
 refine aQ [0,1,10] ?_
 refine bJ ?_ ?_<;>intro h
 ·simp at h
  refine aQ [15] ?_
  refine bJ ?_ ?_<;>intro h
  ·simp at h
   refine aA [4] ?_
   refine W.ret ?_
   simp [l5 (j4 (by decide) lx ly cy h)]
  ·simp at h
   refine W.skip ?_
   refine aA [4] ?_
   refine W.ret ?_
   simp [l6 (j4 (by decide) ly lx cx (by omega))]
 ·simp at h
  have hlen:x.length=y.length:=by omega
  clear h
  refine W.skip ?_
  refine aQ [0,1,5] ?_
  refine W.block ?_
  refine W.bE (fun k σ=>∃(rows:Pm.Rows) (clk:Nat),σ=⟨fa [(0,aJ aI x),(1,aJ aI y),(5, .int .i64 ((k:Int)-1))],rows,clk⟩∧k≤x.length∧x.drop k=y.drop k) x.length ?_ ?_
  ·exact⟨_, .refl,_,_,rfl,by omega,by rw [List.drop_of_length_le (by omega),List.drop_of_length_le (by omega)]⟩
  rintro k _ ⟨rows,clk,rfl,hk,hd⟩
  refine aQ [0,1,5,20] ?_
  refine bJ ?_ ?_<;>intro h
  ·have h0:0<k:=by simp at h;omega
   obtain⟨j,rfl⟩:∃j,k=j+1:=⟨k-1,by omega⟩
   clear h
   refine lF ?_
   refine nU ?_
   refine bH [0,1,5,31] ?_
   refine bJ ?_ ?_<;>intro h
   ·simp at h
    refine W.seq ?_
    refine nU ?_
    refine bH [40] ?_
    refine W.cond ⟨_,rfl,fun h2=>?_,fun h2=>?_⟩
    ·simp at h2
     refine aA [4] ?_
     refine W.ret ?_
     simp [l5 (oA (by decide) lx ly hlen (by omega) hd h2)]
    ·simp at h2
     refine W.skip ?_
     refine aA [4] ?_
     refine W.ret ?_
     simp [l6 (oA (by decide) ly lx hlen.symm (by omega) hd.symm (by omega))]
   ·simp at h
    refine W.skip ?_
    refine W.b7 (fun K hK=>?_);simp (disch:=omega) [gw]
    refine hK _ ⟨j,_,aB _ [0,1,5],by omega,_,_,rfl,by omega,?_⟩
    rw [fE (l:=x) (i:=j) (by omega),fE (l:=y) (i:=j) (by omega),hd,h]
  ·have h0:k=0:=by simp at h;omega
   subst h0
   simp at hd
   subst hd
   refine fA ?_
   refine aA [4] ?_
   refine W.ret ?_
   simp [vY]
theorem NC(x y:Int)(hx:0≤x)(hy:0≤y)(zx:Z x)(zy:Z y):aE env.P 228 [Dn x,Dn y] (.int .i64 (dI x y)):=by
 have:=ZE (aS DD x.toNat) (aS DD y.toNat) (by have:=kS hx;omega) (by have:=kS hy;omega) (mL _) (mL _) (j3 PY _) (j3 PY _)
 rwa [wK hx,wK hy]at this
theorem ZF(a b:List Int)(ha:a.length<1099511627776)(hb:b.length<1099511627776)(la:cV 10000 a)(lb:cV 10000 b)(ca:aO a=a)(cb:aO b=b):aE env.P 227 [aJ aI a,aJ aI b] (Dn (V 10000 a+V 10000 b)):=by
 refine cD [(0,aJ aI a),(1,aJ aI b)] Tryz.func227 ?_
 refine aA [0,1] ?_
 refine aA [0,1,5] ?_
 refine W.nil 5 5 3 1 (by simp) (by decide) (fun K hK=>?_)
 refine W.lw [0,1,5] hK ?_;clear hK K;simp
 refine aA [0,1,5,6] ?_
 refine aQ [0,1,5,6,7] ?_
 refine W.block ?_
 obtain⟨M,hM⟩:∃M,M=max a.length b.length:=⟨_,rfl⟩
 refine W.bE (fun k σ=>∃(i:Nat) (c:Int) (z:List Int) (ver:Nat) (rows:Pm.Rows) (clk:Nat),σ=⟨fa [(0,aJ aI a),(1,aJ aI b),(5, .own 5 ver 0 i),(6, .int .i64 c),(7, .int .i64 i)],rows,clk⟩ ∧
  rows 5=some ⟨ver,3,1,emap aI z⟩∧k=2*(M-i)+c.toNat∧z.length=i∧(i≤M∨(i=M+1∧c=0∧10000^M≤V 10000 a+V 10000 b))∧cV 10000 z∧0≤c∧c≤1 ∧
  V 10000 z+10000^i*c=V 10000 (a.take i)+V 10000 (b.take i)) (2*M) ?_ ?_
 ·exact⟨_, .refl,0,0,[],_,_,_,rfl,by simp [emap],by simp,rfl,by omega,cV.nil,by omega,by omega,by simp [V]⟩
 rintro k _ ⟨i,c,z,ver,rows,clk,rfl,hr,hk,hz,hi,lz,xY,vP,hV⟩
 refine W.seq ?_
 refine W.eJ (fun σ=>∃(t:Bool),σ=⟨fa [(0,aJ aI a),(1,aJ aI b),(5, .own 5 ver 0 i),(6, .int .i64 c),(7, .int .i64 i),(21, .bool t)],rows,clk⟩∧(t=true↔i<M∨0<c)) (fun K hK=>?_) ?_
 ·simp
  by_cases h1:i<a.length
  ·simp (disch:=omega) [gw,h1]
   exact hK _ _ (aB _ [0,1,5,6,7,21]) ⟨_,rfl,by simp;omega⟩
  ·by_cases h2:i<b.length
   ·simp (disch:=omega) [gw,h1,h2]
    exact hK _ _ (aB _ [0,1,5,6,7,21]) ⟨_,rfl,by simp;omega⟩
   ·simp (disch:=omega) [gw,h1,h2]
    exact hK _ _ (aB _ [0,1,5,6,7,21]) ⟨_,rfl,by simp;omega⟩
 rintro _ ⟨t,rfl,ht⟩
 refine bJ ?_ ?_<;>intro h
 ·have ht:=ht.1 h
  refine lF ?_
  refine W.iB (fun σ=>∃(s:Int),σ=⟨fa [(0,aJ aI a),(1,aJ aI b),(5, .own 5 ver 0 i),(6, .int .i64 s),(7, .int .i64 i)],rows,clk⟩∧0≤s∧s≤c+9999∧(a.length≤i→s=c) ∧
   V 10000 z+10000^i*s=V 10000 (a.take (i+1))+V 10000 (b.take i)) ?_ ?_
  ·
   refine aA [0,1,5,6,7,27] ?_
   refine bJ ?_ ?_<;>intro h
   ·simp at h
    have hx:=la.nth h
    refine W.b7 (fun K hK=>?_);simp (disch:=omega) [gw]
    refine hK _ ⟨_,aB _ [0,1,5,6,7],_,rfl,by omega,by omega,by omega,?_⟩
    rw [aV h];grind
   ·simp at h
    refine W.skip ?_
    refine⟨_,aB _ [0,1,5,6,7],_,rfl,by omega,by omega,fun _=>rfl,?_⟩
    rw [a9 (l:=a) (by omega)]
    rwa [a9 (l:=a) (by omega)]at hV
  rintro _ ⟨s,rfl,VF,wH,hsc,hsV⟩
  refine W.iB (fun σ=>∃(u:Int),σ=⟨fa [(0,aJ aI a),(1,aJ aI b),(5, .own 5 ver 0 i),(6, .int .i64 u),(7, .int .i64 i)],rows,clk⟩∧0≤u∧u≤s+9999∧(b.length≤i→u=s) ∧
   V 10000 z+10000^i*u=V 10000 (a.take (i+1))+V 10000 (b.take (i+1))) ?_ ?_
  ·
   refine aA [0,1,5,6,7,37] ?_
   refine bJ ?_ ?_<;>intro h
   ·simp at h
    have hx:=lb.nth h
    refine W.b7 (fun K hK=>?_);simp (disch:=omega) [gw]
    refine hK _ ⟨_,aB _ [0,1,5,6,7],_,rfl,by omega,by omega,by omega,?_⟩
    rw [aV h];grind
   ·simp at h
    refine W.skip ?_
    refine⟨_,aB _ [0,1,5,6,7],_,rfl,by omega,by omega,fun _=>rfl,?_⟩
    rw [a9 (l:=b) (by omega)]
    rwa [a9 (l:=b) (by omega)]at hsV
  rintro _ ⟨u,rfl,hu0,hu1,huc,huV⟩
  refine W.sr ?_
  simp (disch:=omega) [gw,hr,hz]
  refine bH [0,1,5,6,7] ?_
  refine W.b7 (fun K hK=>?_);simp (disch:=omega) [gw];refine W.lw [0,1,5,6,7] hK ?_;clear hK K;simp
  refine W.b7 (fun K hK=>?_);simp (disch:=omega) [gw]
  refine hK _ ⟨2*(M-(i+1))+(u/10000).toNat,_,aB _ [0,1,5,6,7],?_,i+1,u/10000,z ++ [u%10000],_,_,_,rfl,by simp,rfl,by simp [hz],?_,cV.append.2 ⟨lz,cV.cons.2 ⟨by omega,cV.nil⟩⟩,by omega,by omega,?_⟩
  ·rcases Nat.lt_or_ge i M with h1 | h1
   ·omega
   ·have:=hsc (by omega);have:=huc (by omega);omega
  ·rcases Nat.lt_or_ge i M with h1 | h1
   ·omega
   ·right
    have hc:c=1:=by omega
    have hzn:=bM (by decide) lz
    rw [a9 (l:=a) (by omega),a9 (l:=b) (by omega),hc]at hV
    have hiM:i=M:=by omega
    rw [←hiM]
    refine⟨rfl,by have:=hsc (by omega);have:=huc (by omega);omega,?_⟩
    rw [←hV]
    omega
  ·rw [eB,n9,hz,←huV,Int.pow_succ]
   have:=Int.emod_add_mul_ediv u 10000
   grind
 ·have ht:¬(i<M∨0<c):=fun h2=>by simp [ht.2 h2]at h
  have hc:c=0:=by omega
  subst hc
  refine fA ?_
  refine aA [4] ?_
  refine W.ret ?_
  rw [a9 (l:=a) (by omega),a9 (l:=b) (by omega)]at hV
  have e:V 10000 a+V 10000 b=V 10000 z:=by rw [←hV];simp
  have cz:aO z=z:=by
   refine NB (by decide) lz fun h0=>?_
   rw [hz,←e]
   rcases hi with h1 | ⟨h1,_,h2⟩
   ·have hna:=bM (by decide) la
    have hnb:=bM (by decide) lb
    have tO:0<i:=by rw [←hz];exact List.length_pos_iff.2 h0
    rcases Nat.le_total b.length a.length with h3 | h3
    ·have:=lO (b:=10000) (by decide) la ca (by intro h5;rw [h5]at h3 hM;simp at h3;simp [h3]at hM;omega)
     rw [show i-1=a.length-1 by omega];omega
    ·have:=lO (b:=10000) (by decide) lb cb (by intro h5;rw [h5]at h3 hM;simp at h3;simp [h3]at hM;omega)
     rw [show i-1=b.length-1 by omega];omega
   ·rw [h1];exact h2
  have ez:z.take i=z:=bL hz
  rw [e,←uV lz,cz]
  simp [go,hr,ez]
theorem ac4(x y:Int)(hx:0≤x)(hy:0≤y)(zx:Z x)(zy:Z y):aE env.P 227 [Dn x,Dn y] (Dn (x+y)):=by
 have:=ZF (aS DD x.toNat) (aS DD y.toNat) (by have:=kS hx;omega) (by have:=kS hy;omega) (mL _) (mL _) (j3 PY _) (j3 PY _)
 rwa [wK hx,wK hy]at this
theorem ZG(a b:List Int)(ha:a.length<1099511627776)(hb:b.length≤a.length)(la:cV 10000 a)(lb:cV 10000 b)(hle:V 10000 b≤V 10000 a):aE env.P 229 [aJ aI a,aJ aI b] (Dn (V 10000 a-V 10000 b)):=by
 refine cD [(0,aJ aI a),(1,aJ aI b)] Tryz.func229 ?_
 refine aA [0,1] ?_
 refine aA [0,1,5] ?_
 refine aA [0,1,5,6] ?_
 refine aQ [0,1,5,6,13,14] ?_
 refine W.block ?_
 refine W.bE (fun k σ=>∃(i:Nat) (c:Int) (z:List Int) (ver:Nat) (rows:Pm.Rows) (clk:Nat),σ=⟨fa [(0,aJ aI a),(1,aJ aI b),(5, .own 11 ver 0 a.length),(6, .int .i64 c),(13, .int .i64 a.length),(14, .int .i64 i)],rows,clk⟩ ∧
  rows 11=some ⟨ver,3,1,emap aI z⟩∧k=a.length-i∧i≤a.length∧z.length=a.length∧cV 10000 z∧0≤c∧c≤1 ∧
  V 10000 (z.take i)-10000^i*c=V 10000 (a.take i)-V 10000 (b.take i)) a.length ?_ ?_
 ·exact⟨_, .refl,0,0,List.replicate a.length 0,_,_,_,rfl,by simp,by omega,by omega,by simp,cV.rep (by decide) _,by omega,by omega,by simp [V]⟩
 rintro k _ ⟨i,c,z,ver,rows,clk,rfl,hr,hk,hi,hz,lz,xY,vP,hV⟩
 refine bU [0,1,5,6,13,14,15] ?_
 refine bJ ?_ ?_<;>intro h
 ·simp at h
  have hx:=la.nth h
  refine lF ?_
  refine aA [0,1,5,6,7,13,14] ?_
  refine aA [0,1,5,7,8,13,14] ?_
  refine W.iB (fun σ=>∃(s:Int),σ=⟨fa [(0,aJ aI a),(1,aJ aI b),(5, .own 11 ver 0 a.length),(7, .int .i64 i),(8, .int .i64 s),(13, .int .i64 a.length),(14, .int .i64 i)],rows,clk⟩ ∧ -10000≤s∧s≤9999 ∧
   V 10000 (z.take i)+10000^i*s=V 10000 (a.take (i+1))-V 10000 (b.take (i+1))) ?_ ?_
  ·
   refine aA [0,1,5,7,8,13,14,26] ?_
   refine bJ ?_ ?_<;>intro h
   ·simp at h
    have hy:=lb.nth h
    refine W.b7 (fun K hK=>?_);simp (disch:=omega) [gw]
    refine hK _ ⟨_,aB _ [0,1,5,7,8,13,14],_,rfl,by omega,by omega,?_⟩
    rw [aV (l:=a) (by omega),aV h];grind
   ·simp at h
    refine W.skip ?_
    refine⟨_,aB _ [0,1,5,7,8,13,14],_,rfl,by omega,by omega,?_⟩
    rw [aV (l:=a) (by omega),a9 (l:=b) (by omega)]
    rw [a9 (l:=b) (by omega)]at hV
    grind
  rintro _ ⟨s,rfl,VF,wH,hsV⟩
  refine aA [0,1,5,6,7,8,13,14] ?_
  refine W.iB (fun σ=>∃(u c:Int),σ=⟨fa [(0,aJ aI a),(1,aJ aI b),(5, .own 11 ver 0 a.length),(6, .int .i64 c),(7, .int .i64 i),(8, .int .i64 u),(13, .int .i64 a.length),(14, .int .i64 i)],rows,clk⟩∧0≤u∧u≤9999∧0≤c∧c≤1∧s=u-10000*c) ?_ ?_
  ·
   refine aA [0,1,5,6,7,8,13,14,34] ?_
   refine bJ ?_ ?_<;>intro h
   ·simp at h
    refine aA [0,1,5,7,8,13,14] ?_
    refine W.b7 (fun K hK=>?_);simp (disch:=omega) [gw]
    exact hK _ ⟨_,aB _ [0,1,5,6,7,8,13,14],_,1,rfl,by omega,by omega,by omega,by omega,by omega⟩
   ·simp at h
    refine W.skip ?_
    exact⟨_,aB _ [0,1,5,6,7,8,13,14],_,0,rfl,by omega,by omega,by omega,by omega,by omega⟩
  rintro _ ⟨u,c',rfl,hu0,hu1,azd,aze,hu⟩
  refine W.b7 (fun K hK=>?_);simp (disch:=omega) [gw,hr]
  refine W.lw [0,1,5,6,13,14] hK ?_;clear hK K;simp
  refine W.b7 (fun K hK=>?_);simp (disch:=omega) [gw]
  refine hK _ ⟨a.length-(i+1),_,aB _ [0,1,5,6,13,14],by omega,i+1,c',z.set i u,ver,_,_,rfl,by simp,by omega,by omega,by simpa using hz,lz.set (by omega),azd,aze,?_⟩
  rw [fF (by omega),←hsV,hu,Int.pow_succ]
  grind
 ·simp at h
  have iQ:i=a.length:=by omega
  subst iQ
  have ez:z.take a.length=z:=bL hz
  refine fA ?_
  refine W.sr ?_
  simp (disch:=omega) [gw,hr,ez]
  refine aC (pN z (by omega)) ?_
  simp (disch:=omega) [gw]
  refine bH [4] ?_
  refine W.ret ?_
  rw [ez,a9 (l:=a) (by omega),a9 (l:=b) (by omega)]at hV
  have h1:=oS (by decide) lz
  rw [hz]at h1
  have hc:c=0:=by
   rcases(show c=0∨c=1 by omega)with h2 | h2
   ·exact h2
   ·subst h2;omega
  subst hc
  have e:V 10000 a-V 10000 b=V 10000 z:=by rw [←hV];simp
  rw [e,←uV lz]
  simp [go]
theorem C6(x y:Int)(hy:0≤y)(hle:y≤x)(zx:Z x):aE env.P 229 [Dn x,Dn y] (Dn (x-y)):=by
 have hlen:(aS DD y.toNat).length≤(aS DD x.toNat).length:=by
  have h1:=dP (b:=DD) PY (x:=y) (y:=x) (by omega)
  simp only [sz]at h1
  rwa [show y.natAbs=y.toNat by omega,show x.natAbs=x.toNat by omega]at h1
 have:=ZG (aS DD x.toNat) (aS DD y.toNat) (by have:=kS (show 0≤x by omega);omega) hlen (mL _) (mL _) (by rw [wK hy,wK (by omega)];exact hle)
 rwa [wK hy,wK (by omega)]at this
theorem anM{a b:Int}(ha:0≤a∧a<10000)(hb:0≤b∧b<10000):0≤a*b∧a*b≤99980001:=by
 refine⟨Int.mul_nonneg ha.1 hb.1,?_⟩
 have:=Int.mul_le_mul (show a≤9999 by omega) (show b≤9999 by omega) hb.1 (by decide)
 simpa using this
theorem ZH(x y:List Int)(hx:x.length<1099511627776)(hy:y.length<1099511627776)(lx:cV 10000 x)(ly:cV 10000 y):aE env.P 131 [aJ aI x,aJ aI y] (Dn (V 10000 x*V 10000 y)):=by
 refine cD [(0,aJ aI x),(1,aJ aI y)] Tryz.func131 ?_
 refine aA [0,1] ?_
 have e:((x.length:Int)+(y.length:Int)).toNat=x.length+y.length:=by omega
 refine W.sr ?_
 simp (disch:=omega) [gw,e]
 refine bH [0,1,5] ?_
 refine aQ [0,1,5,17,18] ?_
 refine W.block ?_
 refine W.bE (fun k σ=>∃(i:Nat) (z:List Int) (ver:Nat) (rows:Pm.Rows) (clk:Nat),σ=⟨fa [(0,aJ aI x),(1,aJ aI y),(5, .own 15 ver 0 (x.length+y.length)),(17, .int .i64 x.length),(18, .int .i64 i)],rows,clk⟩ ∧
   rows 15=some ⟨ver,3,1,emap aI z⟩∧k=x.length-i∧i≤x.length∧z.length=x.length+y.length∧cV 10000 z∧(∀j,i+y.length≤j→nth z j=0) ∧
   V 10000 z=V 10000 (x.take i)*V 10000 y) x.length ?_ ?_
 ·refine⟨_, .refl,0,List.replicate (x.length+y.length) 0,_,_,_,rfl,by simp [e],by omega,by omega,by simp,cV.rep (by decide) _,fun j _=>?_,by simp [V,qW]⟩
  unfold nth
  cases h:(List.replicate (x.length+y.length) (0:Int))[j]? with
  | none=>rfl
  | some v=>have:=List.mem_of_getElem? h;simp at this;simp [this]
 rintro k _ ⟨i,z,ver,rows,clk,rfl,hr,hk,hi,hz,lz,n6,hV⟩
 refine bU [0,1,5,17,18,19] ?_
 refine bJ ?_ ?_<;>intro h
 ·simp at h
  have hxi:=lx.nth h
  refine lF ?_
  refine aA [0,1,5,6,17,18] ?_
  refine aA [0,1,5,6,7,17,18] ?_
  refine aA [0,1,5,6,7,8,17,18] ?_
  refine W.block ?_
  refine W.bE (fun m σ=>∃(k:Nat) (c:Int) (z:List Int) (ver:Nat) (rows:Pm.Rows) (clk:Nat),σ=⟨fa [(0,aJ aI x),(1,aJ aI y),(5, .own 15 ver 0 (x.length+y.length)),(6, .int .i64 i),(7, .int .i64 c),(8, .int .i64 k),(17, .int .i64 x.length),(18, .int .i64 i)],rows,clk⟩ ∧
   rows 15=some ⟨ver,3,1,emap aI z⟩∧m=y.length+1-k∧(k≤y.length∧(∀j,i+y.length≤j→nth z j=0)∨k=y.length+1∧c=0)∧z.length=x.length+y.length∧cV 10000 z∧(∀j,i+1+y.length≤j→nth z j=0)∧0≤c∧c≤9999 ∧
   V 10000 z+10000^(i+k)*c=V 10000 (x.take i)*V 10000 y+10000^i*nth x i*V 10000 (y.take k)) (y.length+1) ?_ ?_
  ·exact⟨_, .refl,0,0,z,ver,_,_,rfl,by simpa using hr,by omega, .inl ⟨by omega,n6⟩,hz,lz,fun j hj=>n6 j (by omega),by omega,by omega,by simp [V,hV]⟩
  clear hV n6 lz hz hr z ver rows clk
  rintro m _ ⟨k,c,z,ver,rows,clk,rfl,hr,hm,hky,hz,lz,n6,xY,vP,hV⟩
  refine W.seq ?_
  refine W.eJ (fun σ=>∃(t:Bool),σ=⟨fa [(0,aJ aI x),(1,aJ aI y),(5, .own 15 ver 0 (x.length+y.length)),(6, .int .i64 i),(7, .int .i64 c),(8, .int .i64 k),(17, .int .i64 x.length),(18, .int .i64 i),(28, .bool t)],rows,clk⟩∧(t=true↔k<y.length∨0<c)) (fun K hK=>?_) ?_
  ·simp
   by_cases h2:k<y.length
   ·simp (disch:=omega) [gw,h2]
    exact hK _ _ (aB _ [0,1,5,6,7,8,17,18,28]) ⟨_,rfl,by simp [h2]⟩
   ·simp (disch:=omega) [gw,h2]
    exact hK _ _ (aB _ [0,1,5,6,7,8,17,18,28]) ⟨_,rfl,by simp [h2]⟩
  rintro _ ⟨t,rfl,ht⟩
  refine W.cond ⟨_,rfl,fun h2=>?_,fun h2=>?_⟩
  ·have ht:=ht.1 h2
   obtain⟨xU,hk1⟩:k≤y.length∧(∀j,i+y.length≤j→nth z j=0):=by
    rcases hky with h3 | h3
    ·exact h3
    ·omega
   have hzk:=lz.nth (i:=i+k) (by omega)
   have e0:((i:Int)+(k:Int)).toNat=i+k:=by omega
   refine lF ?_
   refine W.sr ?_
   simp (disch:=omega) [gw,hr,e0]
   refine bH [0,1,5,6,8,9,17,18] ?_
   refine W.iB (fun σ=>∃(s:Int),σ=⟨fa [(0,aJ aI x),(1,aJ aI y),(5, .own 15 ver 0 (x.length+y.length)),(6, .int .i64 i),(8, .int .i64 k),(9, .int .i64 s),(17, .int .i64 x.length),(18, .int .i64 i)],rows,clk⟩∧0≤s∧s≤99999999∧(k=y.length→s=c) ∧
    V 10000 z-10000^(i+k)*nth z (i+k)+10000^(i+k)*s=V 10000 (x.take i)*V 10000 y+10000^i*nth x i*V 10000 (y.take (k+1))) ?_ ?_
   ·
    refine aA [0,1,5,6,8,9,17,18,42] ?_
    refine bJ ?_ ?_<;>intro h
    ·simp at h
     have hyk:=ly.nth h
     have hp:=anM hxi hyk
     refine W.I2 (fun K hK=>?_);simp (disch:=omega) [gw]
     refine hK _ ⟨_,aB _ [0,1,5,6,8,9,17,18],_,rfl,by omega,by omega,by omega,?_⟩
     rw [aV h,Int.pow_add]
     rw [Int.pow_add]at hV
     grind
    ·simp at h
     have hkl:k=y.length:=by omega
     have h0:=hk1 (i+k) (by omega)
     refine W.skip ?_
     refine⟨_,aB _ [0,1,5,6,8,9,17,18],_,rfl,by omega,by omega,by omega,?_⟩
     rw [a9 (l:=y) (by omega)]
     rw [a9 (l:=y) (by omega)]at hV
     rw [h0]
     grind
   rintro _ ⟨s,rfl,VF,wH,hsc,hsV⟩
   refine W.sr ?_
   simp (disch:=omega) [gw,hr,e0]
   refine bH [0,1,5,6,8,9,17,18] ?_
   refine W.b7 (fun K hK=>?_);simp (disch:=omega) [gw];refine W.lw [0,1,5,6,7,8,17,18] hK ?_;clear hK K;simp
   refine W.b7 (fun K hK=>?_);simp (disch:=omega) [gw]
   have R8:=GB (b:=10000) (l:=z) (i:=i+k) (x:=s%10000) (by omega)
   refine hK _ ⟨y.length+1-(k+1),_,aB _ [0,1,5,6,7,8,17,18],by omega,k+1,s/10000,z.set (i+k) (s%10000),ver,_,_,rfl,by simp,rfl,?_,by simpa using hz,lz.set (by omega),fun j hj=>?_,by omega,by omega,?_⟩
   ·rcases Nat.lt_or_ge k y.length with h3 | h3
    ·left
     refine⟨by omega,fun j hj=>?_⟩
     rw [gS (by omega)];exact hk1 j hj
    ·right
     have:=hsc (by omega)
     exact⟨by omega,by omega⟩
   ·rw [gS (by omega)];exact n6 j hj
   ·rw [R8,←hsV,show i+(k+1)=(i+k)+1 by omega,Int.pow_succ]
    have:=Int.emod_add_mul_ediv s 10000
    grind
  ·have ht:¬(k<y.length∨0<c):=fun h3=>by simp [ht.2 h3]at h2
   have hc:c=0:=by omega
   subst hc
   refine fA ?_
   refine W.b7 (fun K hK=>?_);simp (disch:=omega) [gw]
   refine hK _ ⟨x.length-(i+1),_,aB _ [0,1,5,17,18],by omega,i+1,z,ver,_,_,rfl,hr,by omega,by omega,hz,lz,n6,?_⟩
   rw [aV h]
   rw [a9 (l:=y) (by omega)]at hV
   grind
 ·simp at h
  have iQ:i=x.length:=by omega
  subst iQ
  have uT:List.take (x.length+y.length) z=z:=List.take_of_length_le (by omega)
  refine fA ?_
  refine W.sr ?_
  simp (disch:=omega) [gw,hr,uT]
  refine aC (pN z (by omega)) ?_
  simp (disch:=omega) [gw]
  refine bH [4] ?_
  refine W.ret ?_
  rw [a9 (Nat.le_refl _)]at hV
  rw [←hV,←uV lz]
  simp
theorem ac5(x y:Int)(hx:0≤x)(hy:0≤y)(zx:Z x)(zy:Z y):aE env.P 131 [Dn x,Dn y] (Dn (x*y)):=by
 have:=ZH (aS DD x.toNat) (aS DD y.toNat) (by have:=kS hx;omega) (by have:=kS hy;omega) (mL _) (mL _)
 rwa [wK hx,wK hy]at this
theorem ND{x:Int}(h:Z x):Z (x.natAbs:Int):=by simpa [Z,sz]using h
theorem nO(n:Nat)(neg:Bool):aE env.P 68 [aJ aI (aS DD n), .bool neg] (RI (if neg=true then -(n:Int)else n)):=pO n (by omega) neg
theorem ZI(x y:Int):(if decide (x<0) != decide (y<0)then -((x.natAbs*y.natAbs:Nat):Int)else((x.natAbs*y.natAbs:Nat):Int))=x*y:=by
 rw [Int.natCast_mul]
 by_cases h1:x<0<;>by_cases h2:y<0
 ·simp only [h1,h2,show(x.natAbs:Int) = -x by omega,show(y.natAbs:Int) = -y by omega];simp<;>grind
 ·simp only [h1,h2,show(x.natAbs:Int) = -x by omega,show(y.natAbs:Int)=y by omega];simp<;>grind
 ·simp only [h1,h2,show(x.natAbs:Int)=x by omega,show(y.natAbs:Int) = -y by omega];simp<;>grind
 ·simp only [h1,h2,show(x.natAbs:Int)=x by omega,show(y.natAbs:Int)=y by omega];simp<;>grind
theorem eV(x y:Int)(zx:Z x)(zy:Z y):aE env.P 63 [RI x,RI y] (RI (x*y)):=by
 refine cD [(0,RI x),(1,RI y)] Tryz.func63 ?_
 refine aA [2,3,4] ?_
 refine nU ?_
 refine aC (ac5 x.natAbs y.natAbs (by omega) (by omega) (ND zx) (ND zy)) ?_
 have e:((x.natAbs:Int)*y.natAbs).toNat=x.natAbs*y.natAbs:=by rw [←Int.natCast_mul];exact Int.toNat_natCast _
 simp only [Dn,e]
 obtain⟨m,hm⟩:∃m,m=x.natAbs*y.natAbs:=⟨_,rfl⟩
 rw [←hm]
 simp (disch:=omega) [gw]
 refine aC (nO m (decide (x<0) != decide (y<0))) ?_
 have e2:=ZI x y
 rw [←hm]at e2
 rw [e2]
 simp (disch:=omega) [gw]
 refine bH [4] ?_
 exact cC
theorem C7(x y:Int)(zx:Z x)(zy:Z y):aE env.P 154 [RI x,RI y] (RI (x+y)):=by
 refine cD [(0,RI x),(1,RI y)] Tryz.func154 ?_
 refine aA [2,3,4] ?_
 refine aQ [2,3,4,9] ?_
 refine bJ ?_ ?_<;>intro h
 ·simp at h
  refine nU ?_
  refine aC (ac4 x.natAbs y.natAbs (by omega) (by omega) (ND zx) (ND zy)) ?_
  have e:((x.natAbs:Int)+y.natAbs).toNat=x.natAbs+y.natAbs:=by omega
  simp only [Dn,e]
  obtain⟨m,hm⟩:∃m,m=x.natAbs+y.natAbs:=⟨_,rfl⟩
  rw [←hm]
  simp (disch:=omega) [gw]
  refine aC (nO m _) ?_
  have e2:(if decide (x<0)=true then -(m:Int)else m)=x+y:=by by_cases h1:x<0<;>simp [h1]<;>omega
  rw [e2]
  simp (disch:=omega) [gw]
  refine bH [4] ?_
  exact cC
 ·simp at h
  refine W.skip ?_
  refine W.seq ?_
  refine jC ?_
  refine aC (NC x.natAbs y.natAbs (by omega) (by omega) (ND zx) (ND zy)) ?_
  simp (disch:=omega) [gw]
  refine bH [2,3,4,23] ?_
  refine W.cond ⟨_,rfl,fun h2=>?_,fun h2=>?_⟩
  ·have h2:(y.natAbs:Int)≤x.natAbs:=r5.1 (of_decide_eq_true h2)
   refine nU ?_
   refine aC (C6 x.natAbs y.natAbs (by omega) h2 (ND zx)) ?_
   have e:((x.natAbs:Int)-y.natAbs).toNat=x.natAbs-y.natAbs:=by omega
   simp only [Dn,e]
   obtain⟨m,hm⟩:∃m,m=x.natAbs-y.natAbs:=⟨_,rfl⟩
   rw [←hm]
   simp (disch:=omega) [gw]
   refine aC (nO m _) ?_
   have e2:(if decide (x<0)=true then -(m:Int)else m)=x+y:=by by_cases h1:x<0<;>simp [h1]<;>omega
   rw [e2]
   simp (disch:=omega) [gw]
   refine bH [4] ?_
   exact cC
  ·have h2:(x.natAbs:Int)<y.natAbs:=by
    have h3:=of_decide_eq_false h2
    rw [r5]at h3;omega
   refine W.skip ?_
   refine nU ?_
   refine aC (C6 y.natAbs x.natAbs (by omega) (by omega) (ND zy)) ?_
   have e:((y.natAbs:Int)-x.natAbs).toNat=y.natAbs-x.natAbs:=by omega
   simp only [Dn,e]
   obtain⟨m,hm⟩:∃m,m=y.natAbs-x.natAbs:=⟨_,rfl⟩
   rw [←hm]
   simp (disch:=omega) [gw]
   refine aC (nO m _) ?_
   have e2:(if decide (y<0)=true then -(m:Int)else m)=x+y:=by by_cases h1:y<0<;>simp [h1]<;>omega
   rw [e2]
   simp (disch:=omega) [gw]
   refine bH [4] ?_
   exact cC
theorem azf{x:Int}(h:Z x):Z (-x):=by simpa [Z,oT]using h
theorem NF(x y:Int)(zx:Z x)(zy:Z y):aE env.P 130 [RI x,RI y] (RI (x-y)):=by
 have hn:=pP y
 have zn:=azf zy
 obtain⟨m,hm⟩:∃m,m = -y:=⟨_,rfl⟩
 rw [←hm]at hn zn
 have e:x-y=x+m:=by omega
 rw [e]
 refine cD [(0,RI x),(1,RI y)] Tryz.func130 ?_
 refine aA [2,3,4] ?_
 refine nU ?_
 refine cS hn ?_
 refine cN [4] (C7 x m zx zn) ?_
 exact cC
theorem ZJ(x y:Int):(x-y).sign=dI x y:=by
 rcases Int.lt_trichotomy x y with h | h | h
 ·rw [l5 h,Int.sign_eq_neg_one_of_neg (by omega)]
 ·subst h;simp [vY]
 ·rw [l6 h,Int.sign_eq_one_of_pos (by omega)]
theorem ac6(x y:Int)(zx:Z x)(zy:Z y):aE env.P 62 [RI x,RI y] (.int .i64 (dI x y)):=by
 refine cD [(0,RI x),(1,RI y)] Tryz.func62 ?_
 refine aA [2,3] ?_
 refine jC ?_
 refine cS (NF x y zx zy) ?_
 refine aC (GM (x-y)) ?_
 rw [ZJ]
 simp (disch:=omega) [gw]
 refine bH [4] ?_
 exact cC
end Go.Proofs.YtiobceocpabjdaaGreat
