import Derived.ProofKit
import Derived.JoinedOf
import Derived.SizedLaws
import Derived.Carry
import Derived.Deep.Slices
import Derived.Test.YtiobceocpabjdaaGreatKad
import Derived.Test.YtiobceocpabjdaaGreatKaf
import Derived.Test.YtiobceocpabjdaaGreatKag
set_option linter.unusedSimpArgs false
set_option linter.unusedVariables false
namespace Go.Proofs.YtiobceocpabjdaaGreat
open Go Pm
theorem pT.nil:pT []:=⟨b9.nil,by simp⟩
theorem qJ.SA{l:List (Bool × List Int)}(h:qJ l)(i:Nat):pT (Pm.nth l i).2:=by
 by_cases hi:i<l.length
 ·exact h.nth hi
 ·rw [fY (by omega)];exact pT.nil
theorem rM(l:List (Bool × List Int))(k:Nat):nth (l.map gv) k=gv (nth l k):=Pm.wV (f:=gv) rfl l k
theorem yS(x:Int):iv (decide (x<0)) (aY LL x.natAbs)=x:=HM x
theorem s6{x y:Int}(hx:Sz x)(hy:Sz y):aL env.P 66 [I x,I y] (I (x*y)):=by
 have:=HK (decide (x<0)) (decide (y<0)) (aY LL x.natAbs) (aY LL y.natAbs) hx.UF hy.UF
 rwa [yS,yS]at this
theorem OX{x y:Int}(hx:Sz x)(hy:Sz y):aL env.P 65 [I x,I y] (I (x+y)):=by
 have:=yQ (decide (x<0)) (decide (y<0)) (aY LL x.natAbs) (aY LL y.natAbs) hx.UF hy.UF
 rwa [yS,yS]at this
theorem ae0{x:Int}(hx:Sz x):aL env.P 148 [I x] (I (-x)):=by
 have:=yP (decide (x<0)) (aY LL x.natAbs) hx.UF
 rwa [yS]at this
theorem EG{x:Int}(hx:Sz x):aL env.P 132 [I x] (I x):=by
 have:=B9 (decide (x<0)) (aY LL x.natAbs) hx.UF
 rwa [yS]at this
theorem XH(a b:List (Bool × List Int))(ha:qJ a)(hb:qJ b)(k:Nat)(hk:k<9223372036854775808):aL env.P 242 [.int .i64 (k:Int), .rd [Pg a], .rd [Pg b]] (I (nth (a.map gv) k+nth (b.map gv) k)):=by
 refine cD (E:=env) (fun _=>0) [(0, .int .i64 (k:Int)),(1, .rd [Pg a]),(2, .rd [Pg b])] Tryz.func242 rfl (by kernel_rfl) (by kernel_rfl) (show 3≤12 by decide) (by simp) ?_
 have:=ha.len;have:=hb.len
 refine W.dI (fun K hK=>?_)
 simp (disch:=omega) [gA,wA]
 refine W.lv [0,1,2,4] hK fun J j=>?_;clear hK K;simp;refine j _ ?_;clear j J
 refine W.WZ (fun K hK=>?_)
 simp (disch:=omega) [gA,wA]
 refine aC (EF a k ha.len hk) ?_
 simp (disch:=omega) [gA,wA]
 refine aC (EF b k hb.len hk) ?_
 simp (disch:=omega) [gA,wA]
 refine aC (yQ _ _ _ _ (ha.SA k) (hb.SA k)) ?_
 simp (disch:=omega) [gA,wA]
 refine W.lv [4] hK fun J j=>?_;clear hK K;simp;refine j _ ?_;clear j J
 refine W.ret ?_
 rw [rM,rM]
 simp [go,gv]
theorem XI(a b:List (Bool × List Int))(ha:qJ a)(hb:qJ b)(k:Nat)(hk:k<9223372036854775808):aL env.P 247 [.int .i64 (k:Int), .rd [Pg a], .rd [Pg b]] (I (nth (a.map gv) k-nth (b.map gv) k)):=by
 refine cD (E:=env) (fun _=>0) [(0, .int .i64 (k:Int)),(1, .rd [Pg a]),(2, .rd [Pg b])] Tryz.func247 rfl (by kernel_rfl) (by kernel_rfl) (show 3≤12 by decide) (by simp) ?_
 have:=ha.len;have:=hb.len
 refine W.dI (fun K hK=>?_)
 simp (disch:=omega) [gA,wA]
 refine W.lv [0,1,2,4] hK fun J j=>?_;clear hK K;simp;refine j _ ?_;clear j J
 refine W.WZ (fun K hK=>?_)
 simp (disch:=omega) [gA,wA]
 refine aC (EF a k ha.len hk) ?_
 simp (disch:=omega) [gA,wA]
 refine aC (EF b k hb.len hk) ?_
 simp (disch:=omega) [gA,wA]
 refine aC (XG _ _ _ _ (ha.SA k) (hb.SA k)) ?_
 simp (disch:=omega) [gA,wA]
 refine W.lv [4] hK fun J j=>?_;clear hK K;simp;refine j _ ?_;clear j J
 refine W.ret ?_
 rw [rM,rM]
 simp [go,gv]
theorem XJ(a:List (Bool × List Int))(ha:qJ a)(k:Nat)(hk:k<a.length):aL env.P 216 [.int .i64 (k:Int), .rd [Pg a]] (I (- nth (a.map gv) k)):=by
 refine cD (E:=env) (fun _=>0) [(0, .int .i64 (k:Int)),(1, .rd [Pg a])] Tryz.func216 rfl (by kernel_rfl) (by kernel_rfl) (show 2≤9 by decide) (by simp) ?_
 have:=ha.len
 refine W.dI (fun K hK=>?_)
 simp (disch:=omega) [gA,wA]
 refine W.lv [0,1,3] hK fun J j=>?_;clear hK K;simp;refine j _ ?_;clear j J
 refine W.dI (fun K hK=>?_)
 simp (disch:=omega) [gA,wA]
 refine aC (yP _ _ (ha.SA k)) ?_
 simp (disch:=omega) [gA,wA]
 refine W.lv [3] hK fun J j=>?_;clear hK K;simp;refine j _ ?_;clear j J
 refine W.ret ?_
 rw [rM]
 simp [go,gv]
theorem XK(a:List (Bool × List Int))(ha:qJ a)(n:Bool)(c:List Int)(hc:pT c)(k:Nat)(hk:k<a.length):aL env.P 241 [.int .i64 (k:Int), .rd [Pg a], .rd [.bool n,us c]] (I (nth (a.map gv) k*iv n c)):=by
 refine cD (E:=env) (fun _=>0) [(0, .int .i64 (k:Int)),(1, .rd [Pg a]),(2, .rd [.bool n,us c])] Tryz.func241 rfl (by kernel_rfl) (by kernel_rfl) (show 3≤11 by decide) (by simp) ?_
 have:=ha.len
 refine W.dI (fun K hK=>?_)
 simp (disch:=omega) [gA,wA]
 refine W.lv [0,1,2,4] hK fun J j=>?_;clear hK K;simp;refine j _ ?_;clear j J
 refine W.WZ (fun K hK=>?_)
 simp (disch:=omega) [gA,wA]
 refine aC (HK _ _ _ _ (ha.SA k) hc) ?_
 simp (disch:=omega) [gA,wA]
 refine W.lv [4] hK fun J j=>?_;clear hK K;simp;refine j _ ?_;clear j J
 refine W.ret ?_
 rw [rM]
 simp [go,gv]
theorem XL(a b:List (Bool × List Int))(ha:qJ a)(hb:qJ b):aL env.P 182 [Pg a,Pg b] (Po (gB (a.map gv) (b.map gv))):=by
 refine cD (E:=env) (fun _=>0) [(0,Pg a),(1,Pg b)] Tryz.func182 rfl (by kernel_rfl) (by kernel_rfl) (show 2≤12 by decide) (by simp) ?_
 have L3:=ha.len;have hlb:=hb.len
 refine W.dI (fun K hK=>?_)
 simp (disch:=omega) [gA,wA]
 refine W.lv [2,3] hK fun J j=>?_;clear hK K;simp;refine j _ ?_;clear j J
 refine W.dI (fun K hK=>?_)
 have e:(if a.length<b.length then(b.length:Int)else(a.length:Int))=((max a.length b.length:Nat):Int):=by split<;>omega
 simp (disch:=omega) [gA,wA,e]
 refine aC (oY 242 rfl [.rd [Pg a], .rd [Pg b]] rfl (max a.length b.length) (by omega) (fun k=>nth (a.map gv) k+nth (b.map gv) k) (fun k hk=>XH a b ha hb k (by omega))) ?_
 simp (disch:=omega) [gA,wA]
 refine W.lv [4] hK fun J j=>?_;clear hK K;simp;refine j _ ?_;clear j J
 refine W.ret ?_
 simp [go,gB]
theorem XM(a b:List (Bool × List Int))(ha:qJ a)(hb:qJ b):aL env.P 186 [Pg a,Pg b] (Po (eE (a.map gv) (b.map gv))):=by
 refine cD (E:=env) (fun _=>0) [(0,Pg a),(1,Pg b)] Tryz.func186 rfl (by kernel_rfl) (by kernel_rfl) (show 2≤12 by decide) (by simp) ?_
 have L3:=ha.len;have hlb:=hb.len
 refine W.dI (fun K hK=>?_)
 simp (disch:=omega) [gA,wA]
 refine W.lv [2,3] hK fun J j=>?_;clear hK K;simp;refine j _ ?_;clear j J
 refine W.dI (fun K hK=>?_)
 have e:(if a.length<b.length then(b.length:Int)else(a.length:Int))=((max a.length b.length:Nat):Int):=by split<;>omega
 simp (disch:=omega) [gA,wA,e]
 refine aC (oY 247 rfl [.rd [Pg a], .rd [Pg b]] rfl (max a.length b.length) (by omega) (fun k=>nth (a.map gv) k-nth (b.map gv) k) (fun k hk=>XI a b ha hb k (by omega))) ?_
 simp (disch:=omega) [gA,wA]
 refine W.lv [4] hK fun J j=>?_;clear hK K;simp;refine j _ ?_;clear j J
 refine W.ret ?_
 simp [go,eE]
theorem CA{α β:Type}[Inhabited α](l:List α)(f:α→β):(List.range l.length).map (fun k=>f (nth l k))=l.map f:=by
 apply List.ext_getElem
 ·simp
 ·intro i h1 h2
  simp at h1
  simp [bZ h1]
theorem XN(a:List (Bool × List Int))(ha:qJ a):aL env.P 139 [Pg a] (Po (fK (a.map gv))):=by
 refine cD (E:=env) (fun _=>0) [(0,Pg a)] Tryz.func139 rfl (by kernel_rfl) (by kernel_rfl) (show 1≤7 by decide) (by simp) ?_
 have L3:=ha.len
 refine W.dI (fun K hK=>?_)
 simp (disch:=omega) [gA,wA]
 refine W.lv [1] hK fun J j=>?_;clear hK K;simp;refine j _ ?_;clear j J
 refine W.dI (fun K hK=>?_)
 simp (disch:=omega) [gA,wA]
 refine aC (oY 216 rfl [.rd [Pg a]] rfl a.length (by omega) (fun k => - nth (a.map gv) k) (fun k hk=>XJ a ha k hk)) ?_
 simp (disch:=omega) [gA,wA]
 refine W.lv [2] hK fun J j=>?_;clear hK K;simp;refine j _ ?_;clear j J
 refine W.ret ?_
 have e:=CA (a.map gv) (fun c => -c)
 rw [List.length_map]at e
 rw [e]
 simp [go,fK]
theorem L4(a:List (Bool × List Int))(ha:qJ a)(n:Bool)(c:List Int)(hc:pT c):aL env.P 181 [Pg a,IV n c] (Po (aX (a.map gv) (iv n c))):=by
 refine cD (E:=env) (fun _=>0) [(0,Pg a),(1,IV n c)] Tryz.func181 rfl (by kernel_rfl) (by kernel_rfl) (show 2≤9 by decide) (by simp) ?_
 have L3:=ha.len
 refine W.dI (fun K hK=>?_)
 simp (disch:=omega) [gA,wA]
 refine W.lv [2,3] hK fun J j=>?_;clear hK K;simp;refine j _ ?_;clear j J
 refine W.dI (fun K hK=>?_)
 simp (disch:=omega) [gA,wA]
 refine aC (oY 241 rfl [.rd [Pg a], .rd [.bool n,us c]] rfl a.length (by omega) (fun k=>nth (a.map gv) k*iv n c) (fun k hk=>XK a ha n c hc k hk)) ?_
 simp (disch:=omega) [gA,wA]
 refine W.lv [4] hK fun J j=>?_;clear hK K;simp;refine j _ ?_;clear j J
 refine W.ret ?_
 have e:=CA (a.map gv) (fun a=>a*iv n c)
 rw [List.length_map]at e
 rw [e]
 simp [go,aX]
theorem XO(a b:List (Bool × List Int))(ha:qJ a)(hb:qJ b)(s s' n n':Nat)(hs:Bd LL s n (a.map gv))(F7:Bd LL s' n' (b.map gv))(hB:s+s'+n+n'<1099511627775) :
  aL env.P 15 [Pg a,Pg b] (Po (bJ (a.map gv) (b.map gv))):=by
 refine cD (E:=env) (fun id=>if id=11 then 1 else 0) [(0,Pg a),(1,Pg b)] Tryz.func15 rfl (by kernel_rfl) (by kernel_rfl) (show 2≤62 by decide) (by simp) ?_
 refine W.dI (fun K hK=>?_)
 simp (disch:=omega) [gA,wA]
 refine W.lv [0,1] hK fun J j=>?_;clear hK K;simp;refine j _ ?_;clear j J
 refine W.dI (fun K hK=>?_)
 simp (disch:=omega) [gA,wA]
 refine aC (gI a ha) ?_
 simp (disch:=omega) [gA,wA]
 refine aC (gI b hb) ?_
 simp (disch:=omega) [gA,wA]
 refine W.lv [0,1] hK fun J j=>?_;clear hK K;simp;refine j _ ?_;clear j J
 have e:bJ (a.map gv) (b.map gv)=bJ (aM (a.map gv)) (aM (b.map gv)):=Cn.ext (Cn.bJ _ _) (Cn.bJ _ _) fun t=>by simp [cQ,cE]
 rw [e]
 replace hs:=hs.cut
 replace F7:=F7.cut
 clear e ha hb
 generalize aM (a.map gv)=x at *
 generalize aM (b.map gv)=y at *
 have hlx:=hs.len;have hly:=F7.len
 refine W.seq ?_
 refine W.fX (fun σ=>∃(b:Bool),σ=⟨fa [(0,Po x),(1,Po y),(21, .bool b)],fun _=>none,0⟩∧(b=true↔x = []∨y = [])) (fun K hK=>?_) ?_
 ·simp
  have e1:((x.length:Int)==0)=decide (x = []):=by
   cases x<;>simp<;>omega
  have e2:((y.length:Int)==0)=decide (y = []):=by
   cases y<;>simp<;>omega
  rw [e1]
  by_cases h0:x = []
  ·have e3:decide (x = [])=true:=by simp [h0]
   rw [e3]
   simp
   exact hK _ _ (aD _ [0,1,21]) ⟨_,rfl,by simp [h0]⟩
  ·have e3:decide (x = [])=false:=by simp [h0]
   rw [e3]
   simp
   exact hK _ _ (aD _ [0,1,21]) ⟨_,rfl,by rw [e2];simp [h0]⟩
 rintro _ ⟨b,rfl,hb⟩
 refine W.cond ⟨_,rfl,fun h=>?_,fun h=>?_⟩
 ·have e:bJ x y = []:=by
   have h1:=hb.1 h
   refine Cn.ext (Cn.bJ _ _) Cn.nil fun t=>?_
   rw [cQ]
   rcases h1 with rfl | rfl<;>simp [V]
  refine W.dI (fun K hK=>?_)
  simp (disch:=omega) [gA,wA]
  refine W.lv [4] hK fun J j=>?_;clear hK K;simp;refine j _ ?_;clear j J
  refine W.ret ?_
  simp [go,e]
  rfl
 ·have h1:¬(x = []∨y = []):=fun h2=>by simp [hb.2 h2]at h
  have nZ:0<x.length:=List.length_pos_iff.2 fun h2=>h1 (.inl h2)
  have L5:0<y.length:=List.length_pos_iff.2 fun h2=>h1 (.inr h2)
  clear h hb h1
  refine W.skip ?_
  refine W.dI (fun K hK=>?_)
  simp (disch:=omega) [gA,wA]
  refine W.lv [0,1,5] hK fun J j=>?_;clear hK K;simp;refine j _ ?_;clear j J
  have e0:((x.length:Int)+(y.length:Int)-1).toNat=x.length+y.length-1:=by omega
  refine W.row (id:=28) (emap ie (List.replicate (x.length+y.length-1) 0)) (by simp;exact⟨rfl,rfl,rfl,by omega⟩) (oX _) ?_
  refine W.seq ?_
  refine W.dI (fun K hK=>?_)
  simp (disch:=omega) [gA,wA]
  refine W.lv [1,5,29,30,31] hK fun J j=>?_;clear hK K;simp;refine j _ ?_;clear j J
  refine W.block ?_
  refine W.bC (fun k σ=>∃(i:Nat) (z:List Int) (ver:Nat) (rows:Pm.Rows) (clk:Nat),σ=⟨fa [(1,Po y),(5, .own 28 ver 0 (x.length+y.length-1)),(29,Po x),(30, .int .i64 x.length),(31, .int .i64 i)],rows,clk⟩ ∧
   rows 28=some ⟨ver,38,2,emap ie z⟩∧k=x.length-i∧i≤x.length∧z.length=x.length+y.length-1∧(∀j,sz LL (nth z j)≤s+s'+i) ∧
   ∀t,V t z=V t (x.take i)*V t y) x.length ?_ ?_
  ·refine⟨_, .refl,0,List.replicate (x.length+y.length-1) 0,_,_,_,rfl,by simp,by omega,by omega,by simp,fun j=>?_,fun t=>by simp [V,nW]⟩
   ·have:Bd LL 0 (x.length+y.length-1) (List.replicate (x.length+y.length-1) 0):=⟨by simp,fun c hc=>by rw [(List.mem_replicate.1 hc).2,i7];omega⟩
    have:=this.nth j
    omega
  rintro k _ ⟨i,z,ver,rows,clk,rfl,hr,hk,hi,hz,AF,hV⟩
  refine W.dI (fun K hK=>?_)
  simp (disch:=omega) [gA,wA]
  refine W.lv [1,5,29,30,31,32] hK fun J j=>?_;clear hK K;simp;refine j _ ?_;clear j J
  refine W.seq ?_
  refine W.cond ⟨_,rfl,fun h=>?_,fun h=>?_⟩
  ·simp at h
   refine W.skip ?_
   refine W.seq ?_
   refine W.block ?_
   refine W.dI (fun K hK=>?_)
   simp (disch:=omega) [gA,wA]
   refine W.lv [1,5,6,7,29,30,31] hK fun J j=>?_;clear hK K;simp;refine j _ ?_;clear j J
   refine W.dI (fun K hK=>?_)
   simp (disch:=omega) [gA,wA]
   refine W.lv [1,5,6,7,29,30,31,36,37,38] hK fun J j=>?_;clear hK K;simp;refine j _ ?_;clear j J
   refine W.block ?_
   refine W.bC (fun m σ=>∃(k:Nat) (z:List Int) (ver v7:Nat) (rows:Pm.Rows) (clk:Nat),σ=⟨fa [(1,Po y),(5, .own 28 ver 0 (x.length+y.length-1)),(6, .int .i64 i),(7, .ptr 7 v7 0 0),(29,Po x),(30, .int .i64 x.length),(31, .int .i64 i),(36,Po y),(37, .int .i64 y.length),(38, .int .i64 k)],rows,clk⟩ ∧
    rows 28=some ⟨ver,38,2,emap ie z⟩∧rows 7=some ⟨v7,38,2,[ie (nth x i)]⟩∧m=y.length-k∧k≤y.length∧z.length=x.length+y.length-1∧(∀j,sz LL (nth z j)≤s+s'+i+1)∧(∀j,i+k≤j→sz LL (nth z j)≤s+s'+i) ∧
    ∀t,V t z=V t (x.take i)*V t y+t^i*nth x i*V t (y.take k)) y.length ?_ ?_
   ·refine⟨_, .refl,0,z,ver,_,_,_,rfl,by simpa using hr,by simp,by omega,by omega,hz,fun j=>by have:=AF j;omega,fun j _=>AF j,fun t=>by simp [V,hV]⟩
   clear hV AF hz hr z ver rows clk
   rintro m _ ⟨k,z,ver,v7,rows,clk,rfl,hr,XP,hm,hky,hz,AF,L6,hV⟩
   refine W.dI (fun K hK=>?_)
   simp (disch:=omega) [gA,wA]
   refine W.lv [1,5,6,7,29,30,31,36,37,38,39] hK fun J j=>?_;clear hK K;simp;refine j _ ?_;clear j J
   refine W.seq ?_
   refine W.cond ⟨_,rfl,fun h2=>?_,fun h2=>?_⟩
   ·simp at h2
    refine W.skip ?_
    refine W.seq ?_
    refine W.block ?_
    refine W.dI (fun K hK=>?_)
    simp (disch:=omega) [gA,wA]
    refine W.lv [1,5,6,7,8,9,29,30,31,36,37,38] hK fun J j=>?_;clear hK K;simp;refine j _ ?_;clear j J
    have e1:((i:Int)+(k:Int)).toNat=i+k:=by omega
    refine W.LV (fun K hK=>?_)
    simp only [if_true]
    rw [eH]
    simp (disch:=omega) [gA,wA,hr,XP,e1]
    refine aC (s6 (Nat.lt_of_le_of_lt (hs.nth i) (by omega)) (Nat.lt_of_le_of_lt (F7.nth k) (by omega))) ?_
    simp (disch:=omega) [gA,wA,hr,XP,e1]
    have J0:sz LL (nth x i*nth y k)≤s+s'+i:=Nat.le_trans (b5 fR (hs.nth i) (F7.nth k)) (by omega)
    have hm2:=l6 fR (L6 (i+k) (Nat.le_refl _)) J0
    have hlz:i+k<z.length:=by omega
    refine aC (OX (Nat.lt_of_le_of_lt (L6 (i+k) (Nat.le_refl _)) (by omega)) (Nat.lt_of_le_of_lt J0 (by omega))) ?_
    simp (disch:=omega) [gA,wA,hr,XP,e1]
    refine W.lv [1,5,6,7,29,30,31,36,37,38] hK fun J j=>?_;clear hK K;simp;refine j _ ?_;clear j J
    refine W.cG (fun K hK=>?_)
    simp (disch:=omega) [gA,wA]
    refine hK _ ⟨y.length-(k+1),_,aD _ [1,5,6,7,29,30,31,36,37,38],by omega,k+1,z.set (i+k) (nth z (i+k)+nth x i*nth y k),ver,v7,_,_,rfl,by simp,by simp [XP],by omega,by omega,by simpa using hz,fun j=>?_,fun j hj=>?_,fun t=>?_⟩
    ·by_cases hj:i+k=j
     ·subst hj;rw [dV hlz];exact hm2
     ·rw [fD hj];exact AF j
    ·rw [fD (by omega)];exact L6 j (by omega)
    ·rw [B5 hlz,aS h2,hV,Int.pow_add];grind
   ·simp at h2
    have u4:k=y.length:=by omega
    subst u4
    refine W.exit ?_;simp only [pX,if_true,if_false,reduceIte,Nat.reduceEqDiff]
    refine W.cG (fun K hK=>?_)
    simp (disch:=omega) [gA,wA]
    refine hK _ ⟨x.length-(i+1),_,aD _ [1,5,29,30,31],by omega,i+1,z,ver,_,_,rfl,hr,by omega,by omega,hz,fun j=>by have:=AF j;omega,fun t=>?_⟩
    rw [hV,aV (Nat.le_refl _),aS h];grind
  ·simp at h
   have kD:i=x.length:=by omega
   subst kD
   refine W.exit ?_;simp only [pX,if_true,if_false,reduceIte,Nat.reduceEqDiff]
   have rL:=bG hz
   refine W.dI (fun K hK=>?_)
   simp (disch:=omega) [gA,wA,hr,rL]
   refine aC (s5 z (by omega)) ?_
   simp (disch:=omega) [gA,wA]
   refine W.lv [4] hK fun J j=>?_;clear hK K;simp;refine j _ ?_;clear j J
   refine W.ret ?_
   have e:aM z=bJ x y:=by
    refine Cn.ext (Cn.cut _) (Cn.bJ _ _) fun t=>?_
    rw [cE,hV,cQ,aV (Nat.le_refl _)]
   simp [go,e]
theorem asV{S:ByteArray}{kk:IntKind}{k:Nat}{K:PV→Prop}(h:(List.range 256).all (fun x=>decide ((S[x]?).map (fun b=>b.toNat)=some (nb x)))=true)(hk:k<256)(hK:go (K (.int .u8 (nb k)))):aT (fun v=>rA env .str (.str S) (.int kk (k:Int)) v) K:=by
 have h1:=List.all_eq_true.1 h k (by simpa using hk)
 simp only [decide_eq_true_eq]at h1
 obtain⟨b,hb,h2⟩:=Option.map_eq_some_iff.1 h1
 refine⟨_,⟨by omega,b,by simpa using hb,rfl⟩,?_⟩
 rw [h2];exact hK
theorem CB(n:Int)(h0:0≤n)(h1:n<4294967296):aL env.P 267 [.int .u32 n] (.int .i64 (nb n.toNat)):=by
 refine cD (E:=env) (fun _=>0) [(0, .int .u32 n)] Tryz.func267 rfl (by kernel_rfl) (by kernel_rfl) (show 1≤19 by decide) (by simp) ?_
 refine W.dI (fun K hK=>?_)
 simp (disch:=omega) [gA,wA]
 refine W.lv [0,2] hK fun J j=>?_;clear hK K;simp;refine j _ ?_;clear j J
 refine W.iF (fun σ=>∃(k:Nat) (x:Nat) (rows:Pm.Rows) (clk:Nat),σ=⟨fa [(0, .int .u32 x),(2, .int .i64 k)],rows,clk⟩∧nb n.toNat=k+nb x∧x<65536∧k≤16) ?_ ?_
 ·
  refine W.dI (fun K hK=>?_)
  simp (disch:=omega) [gA,wA]
  refine W.lv [0,2,4] hK fun J j=>?_;clear hK K;simp;refine j _ ?_;clear j J
  refine W.cond ⟨_,rfl,fun h=>?_,fun h=>?_⟩
  ·simp at h
   refine W.dI (fun K hK=>?_)
   simp (disch:=omega) [gA,wA]
   refine W.lv [0] hK fun J j=>?_;clear hK K;simp;refine j _ ?_;clear j J
   refine W.cG (fun K hK=>?_)
   simp (disch:=omega) [gA,wA]
   refine hK _ ⟨_,Gh.fr [(0, .int .u32 ((n.toNat/65536:Nat):Int)),(2, .int .i64 16)] (by simp;rw [Int.fdiv_eq_ediv_of_nonneg _ (by decide)];omega),16,n.toNat/65536,_,_,rfl,?_,by omega,by omega⟩
   exact HH (k:=16) (by simp;omega)
  ·simp at h
   refine W.skip ?_
   refine⟨_,Gh.fr [(0, .int .u32 (n.toNat:Int)),(2, .int .i64 0)] (by simp;omega),0,n.toNat,_,_,rfl,by simp,by omega,by omega⟩
 rintro _ ⟨k,x,rows,clk,rfl,hn,hx,hk⟩
 refine W.iF (fun σ=>∃(k:Nat) (x:Nat) (rows:Pm.Rows) (clk:Nat),σ=⟨fa [(0, .int .u32 x),(2, .int .i64 k)],rows,clk⟩∧nb n.toNat=k+nb x∧x<256∧k≤24) ?_ ?_
 ·
  refine W.dI (fun K hK=>?_)
  simp (disch:=omega) [gA,wA]
  refine W.lv [0,2,8] hK fun J j=>?_;clear hK K;simp;refine j _ ?_;clear j J
  refine W.cond ⟨_,rfl,fun h=>?_,fun h=>?_⟩
  ·simp at h
   refine W.dI (fun K hK=>?_)
   simp (disch:=omega) [gA,wA]
   refine W.lv [0,2] hK fun J j=>?_;clear hK K;simp;refine j _ ?_;clear j J
   refine W.cG (fun K hK=>?_)
   simp (disch:=omega) [gA,wA]
   refine hK _ ⟨_,Gh.fr [(0, .int .u32 ((x/256:Nat):Int)),(2, .int .i64 ((k+8:Nat):Int))] (by simp;exact Int.fdiv_eq_ediv_of_nonneg _ (by decide)),k+8,x/256,_,_,rfl,?_,by omega,by omega⟩
   have:=HH (n:=x) (k:=8) (by simp;omega)
   simp at this
   omega
  ·simp at h
   refine W.skip ?_
   refine⟨_,aD _ [0,2],k,x,_,_,rfl,hn,by omega,by omega⟩
 rintro _ ⟨k,x,rows,clk,rfl,hn,hx,hk⟩
 refine W.dI (fun K hK=>?_)
 have hw:IntKind.u8.wrap (x:Int)=x:=wrap_u8 (by omega) (by omega)
 have hz:nb x≤8:=nX.2 hx
 simp only [OP,DY,OR,RY,LU,x9,DP,K7,if_true,if_false,reduceIte,Nat.reduceEqDiff,ah5,an3,qM,aeq,hw,G7,reduceCtorEq]
 refine asV (by kernel_rfl) hx ?_
 simp (disch:=omega) only [DY,WD,B3,WV,OR,x9,DP,K7,if_true,if_false,reduceIte,Nat.reduceEqDiff,asw,an3,qM,aeq,wrap_i64,C9,iM,abG,reduceCtorEq,true_and]
 refine W.lv [2] hK fun J j=>?_;clear hK K;simp;refine j _ ?_;clear j J
 refine W.ret ?_
 rw [hn]
 simp [go]
def bl(l:List Int):Int:=if l = []then 0 else 32*((l.length:Int)-1)+nb (nth l (l.length-1)).toNat
theorem XQ(l:List Int)(h:pT l):aL env.P 257 [us l] (.int .i64 (bl (aM l))):=by
 refine cD (E:=env) (fun _=>0) [(0,us l)] Tryz.func257 rfl (by kernel_rfl) (by kernel_rfl) (show 1≤20 by decide) (by simp) ?_
 have hl:=h.len
 have hl2:=bN l
 have hL:=dM h.vL
 refine W.dI (fun K hK=>?_)
 simp (disch:=omega) [gA,wA]
 refine W.lv [0] hK fun J j=>?_;clear hK K;simp;refine j _ ?_;clear j J
 refine W.dI (fun K hK=>?_)
 simp (disch:=omega) [gA,wA]
 refine aC (cT l (by omega)) ?_
 simp (disch:=omega) [gA,wA]
 refine W.lv [0] hK fun J j=>?_;clear hK K;simp;refine j _ ?_;clear j J
 generalize aM l=x at *
 refine W.seq ?_
 refine W.dI (fun K hK=>?_)
 simp (disch:=omega) [gA,wA]
 refine W.lv [0,7] hK fun J j=>?_;clear hK K;simp;refine j _ ?_;clear j J
 refine W.cond ⟨_,rfl,fun h=>?_,fun h=>?_⟩
 ·have h0:x = []:=by simpa using h
  refine W.dI (fun K hK=>?_)
  simp (disch:=omega) [gA,wA]
  refine W.lv [2] hK fun J j=>?_;clear hK K;simp;refine j _ ?_;clear j J
  refine W.ret ?_
  simp [go,bl,h0]
 ·have h0:0<x.length:=List.length_pos_iff.2 (by simpa using h)
  have hx:=hL.nth (i:=x.length-1) (by omega)
  have e:((x.length:Int)-1).toNat=x.length-1:=by omega
  have hz:nb (nth x (x.length-1)).toNat≤32:=nX.2 (by omega)
  refine W.skip ?_
  refine W.dI (fun K hK=>?_)
  simp (disch:=omega) [gA,wA,e]
  refine aC (CB _ hx.1 hx.2) ?_
  simp (disch:=omega) [gA,wA]
  refine W.lv [2] hK fun J j=>?_;clear hK K;simp;refine j _ ?_;clear j J
  refine W.ret ?_
  have h1:x ≠ []:=fun h2=>by simp [h2]at h0
  simp [go,bl,h1]
theorem aci{l:List Int}(h:b9 4294967296 l)(hc:aM l=l):bl l=0↔V 4294967296 l=0:=by
 unfold bl
 split
 ·rename_i h0;subst h0;simp [V]
 ·rename_i h0
  have h1:=kQ (by decide) h hc h0
  have h2:0<(4294967296:Int)^(l.length-1):=Int.pow_pos (by decide)
  have h3:0<l.length:=List.length_pos_iff.2 h0
  have h4:=h.nth (i:=l.length-1) (by omega)
  have h5:nth l (l.length-1)≠0:=by
   intro h6
   have e:l=l.take (l.length-1) ++ [0]:=by
    conv=>lhs;rw [←List.take_length (l:=l)]
    rw [←h6,←bA (by omega),show l.length-1+1=l.length by omega]
   rw [e,iP]at hc
   have:=congrArg List.length hc
   have:=bN (l.take (l.length-1))
   simp at *
   omega
  have h6:nb (nth l (l.length-1)).toNat≠0:=by
   intro h7
   have:=nX.1 (Nat.le_of_eq h7)
   simp at this;omega
  omega
theorem HO(n:Bool)(l:List Int)(h:pT l):aL env.P 218 [IV n l] (.int .i64 (iv n l).sign):=by
 refine cD (E:=env) (fun _=>0) [(0,IV n l)] Tryz.func218 rfl (by kernel_rfl) (by kernel_rfl) (show 1≤11 by decide) (by simp) ?_
 have hz:=aci (dM h.vL) (dP l)
 have hp:=nY h
 rw [cE]at hz
 refine W.dI (fun K hK=>?_)
 simp (disch:=omega) [gA,wA]
 refine W.lv [1] hK fun J j=>?_;clear hK K;simp;refine j _ ?_;clear j J
 refine W.seq ?_
 refine W.block ?_
 refine W.dI (fun K hK=>?_)
 simp (disch:=omega) [gA,wA]
 refine aC (XQ l h) ?_
 simp (disch:=omega) [gA,wA]
 refine W.lv [1,3] hK fun J j=>?_;clear hK K;simp;refine j _ ?_;clear j J
 refine W.cond ⟨_,rfl,fun hb=>?_,fun hb=>?_⟩
 ·have h0:V 4294967296 l=0:=hz.1 (by simpa using hb)
  refine W.dI (fun K hK=>?_)
  simp (disch:=omega) [gA,wA]
  refine W.lv [2] hK fun J j=>?_;clear hK K;simp;refine j _ ?_;clear j J
  refine W.ret ?_
  simp [go,iv,h0]
 ·have h0:0<V 4294967296 l:=by
   have:V 4294967296 l≠0:=fun h1=>by simp [hz.2 h1]at hb
   omega
  refine W.dI (fun K hK=>?_)
  simp (disch:=omega) [gA,wA]
  refine W.lv [8] hK fun J j=>?_;clear hK K;simp;refine j _ ?_;clear j J
  refine W.cond ⟨_,rfl,fun hn=>?_,fun hn=>?_⟩
  ·subst hn
   refine W.dI (fun K hK=>?_)
   simp (disch:=omega) [gA,wA]
   refine W.lv [2] hK fun J j=>?_;clear hK K;simp;refine j _ ?_;clear j J
   refine W.ret ?_
   have:(- V 4294967296 l).sign = -1:=Int.sign_eq_neg_one_of_neg (by omega)
   simp [go,iv,this]
  ·subst hn
   refine W.skip ?_
   refine W.dI (fun K hK=>?_)
   simp (disch:=omega) [gA,wA]
   refine W.lv [2] hK fun J j=>?_;clear hK K;simp;refine j _ ?_;clear j J
   refine W.ret ?_
   have:(V 4294967296 l).sign=1:=Int.sign_eq_one_of_pos h0
   simp [go,iv,this]
theorem SB{x y:Int}(h:x.sign<y.sign):dJ x y = -1:=by
 apply lF
 rcases Int.lt_trichotomy x 0 with h1 | h1 | h1<;>rcases Int.lt_trichotomy y 0 with h2 | h2 | h2<;>first | omega | (simp [Int.sign_eq_neg_one_of_neg,Int.sign_eq_one_of_pos,h1,h2]at h)
theorem L7{x y:Int}(h:y.sign<x.sign):dJ x y=1:=by
 apply lG
 rcases Int.lt_trichotomy x 0 with h1 | h1 | h1<;>rcases Int.lt_trichotomy y 0 with h2 | h2 | h2<;>first | omega | (simp [Int.sign_eq_neg_one_of_neg,Int.sign_eq_one_of_pos,h1,h2]at h)
theorem EH(x y:Int):dJ (-x) (-y)=dJ y x:=by simp only [dJ];split<;>split<;>(try split)<;>(try split)<;>omega
theorem XR(n m:Bool)(l k:List Int)(h:pT l)(h':pT k):aL env.P 144 [IV n l,IV m k] (.int .i64 (dJ (iv n l) (iv m k))):=by
 refine cD (E:=env) (fun _=>0) [(0,IV n l),(1,IV m k)] Tryz.func144 rfl (by kernel_rfl) (by kernel_rfl) (show 2≤32 by decide) (by simp) ?_
 have p1:=nY h;have p2:=nY h'
 refine W.dI (fun K hK=>?_)
 simp (disch:=omega) [gA,wA]
 refine W.lv [2,3] hK fun J j=>?_;clear hK K;simp;refine j _ ?_;clear j J
 refine W.WZ (fun K hK=>?_)
 simp (disch:=omega) [gA,wA]
 refine aC (HO n l h) ?_
 simp (disch:=omega) [gA,wA]
 refine aC (HO m k h') ?_
 simp (disch:=omega) [gA,wA]
 refine W.lv [2,3,5,6] hK fun J j=>?_;clear hK K;simp;refine j _ ?_;clear j J
 refine W.seq ?_
 refine W.block ?_
 refine W.dI (fun K hK=>?_)
 simp (disch:=omega) [gA,wA]
 refine W.lv [2,3,5,6,11] hK fun J j=>?_;clear hK K;simp;refine j _ ?_;clear j J
 refine W.cond ⟨_,rfl,fun h1=>?_,fun h1=>?_⟩
 ·refine W.dI (fun K hK=>?_)
  simp (disch:=omega) [gA,wA]
  refine W.lv [4] hK fun J j=>?_;clear hK K;simp;refine j _ ?_;clear j J
  refine W.ret ?_
  simp [go,SB (of_decide_eq_true h1)]
 ·have h1:=of_decide_eq_false h1
  refine W.dI (fun K hK=>?_)
  simp (disch:=omega) [gA,wA]
  refine W.lv [2,3,5,15] hK fun J j=>?_;clear hK K;simp;refine j _ ?_;clear j J
  refine W.cond ⟨_,rfl,fun h2=>?_,fun h2=>?_⟩
  ·refine W.dI (fun K hK=>?_)
   simp (disch:=omega) [gA,wA]
   refine W.lv [4] hK fun J j=>?_;clear hK K;simp;refine j _ ?_;clear j J
   refine W.ret ?_
   simp [go,L7 (of_decide_eq_true h2)]
  ·have h2:=of_decide_eq_false h2
   have h3:(iv n l).sign=(iv m k).sign:=by omega
   refine W.dI (fun K hK=>?_)
   simp (disch:=omega) [gA,wA]
   refine W.lv [2,3,19] hK fun J j=>?_;clear hK K;simp;refine j _ ?_;clear j J
   refine W.cond ⟨_,rfl,fun h4=>?_,fun h4=>?_⟩
   ·have h4:iv n l<0:=by simpa using of_decide_eq_true h4
    have h5:iv m k<0:=by
     rw [Int.sign_eq_neg_one_of_neg h4]at h3
     exact Int.sign_eq_neg_one_iff_neg.1 h3.symm
    have en:n=true:=by cases n;(· simp [iv]at h4;omega);rfl
    have em:m=true:=by cases m;(· simp [iv]at h5;omega);rfl
    subst en;subst em
    refine W.dI (fun K hK=>?_)
    simp (disch:=omega) [gA,wA]
    refine aC (ED k l h'.len h.len h'.vL h.vL) ?_
    simp (disch:=omega) [gA,wA]
    refine W.lv [4] hK fun J j=>?_;clear hK K;simp;refine j _ ?_;clear j J
    refine W.ret ?_
    simp [go,iv,EH]
   ·have h4:0≤iv n l:=by simpa using of_decide_eq_false h4
    have e1:iv n l=V 4294967296 l:=by
     cases n
     ·simp [iv]
     ·simp [iv]at h4 ⊢;omega
    have h5:0≤iv m k:=by
     have:0≤(iv n l).sign:=Int.sign_nonneg_iff.2 h4
     rw [h3]at this
     exact Int.sign_nonneg_iff.1 this
    have e2:iv m k=V 4294967296 k:=by
     cases m
     ·simp [iv]
     ·simp [iv]at h5 ⊢;omega
    refine W.skip ?_
    refine W.dI (fun K hK=>?_)
    simp (disch:=omega) [gA,wA]
    refine aC (ED l k h.len h'.len h.vL h'.vL) ?_
    simp (disch:=omega) [gA,wA]
    refine W.lv [4] hK fun J j=>?_;clear hK K;simp;refine j _ ?_;clear j J
    refine W.ret ?_
    simp [go,e1,e2]
theorem XS{x y:Int}(hx:Sz x)(hy:Sz y):aL env.P 144 [I x,I y] (.int .i64 (dJ x y)):=by
 have:=XR (decide (x<0)) (decide (y<0)) (aY LL x.natAbs) (aY LL y.natAbs) hx.UF hy.UF
 rwa [yS,yS]at this
end Go.Proofs.YtiobceocpabjdaaGreat
namespace Pm
open Go Go.RowKit Go.ChangeShapes Go.WideShapes Go.Deep
def Low(w:World):dF:=fun b _=>b<w.heap.size
theorem HP{w:World}{a:Addr}{v:Value}(h:w.cell? a=some v):a.block<w.heap.size∧a.spot=none:=by
 unfold World.cell? at h
 split at h
 ·rename_i hb
  refine⟨?_,?_⟩
  ·exact(Array.getElem?_eq_some_iff.1 hb).1
  ·split at h
   ·cases h
   ·rename_i hs;simpa using hs
 ·cases h
def FY(P:Program)(t:TypeId)(R:List PV→Prop):Prop:=
 ∀(H:Type) (enc:TypeId × Value→H) (w:World) (fuel:Nat) (cs:List Value) (x:DataW H × List MemPlace),
  DataW.trod enc P w 0 (fun _=>true) true fuel t cs=some x → ∃ps,R ps∧bI (Low w) w ps cs ∧ ∀v∈cs,v.oneCell'=true
theorem bI.length{S:dF}{w:World}:∀ {ps:List PV} {vs:List Value},bI S w ps vs→ps.length=vs.length
 | [],vs,h=>by simp only [bI]at h;simp [h]
 | p::ps,vs,h=>by
  simp only [bI]at h
  obtain⟨v,J4,rfl,_,h2⟩:=h
  simp [bI.length h2]
theorem FY.int{P:Program}{t:TypeId}(k:IntKind)(ht:P.underlying t=some (.int k)):FY P t (fun ps=>∃n,ps = [.int k n]∧k.min≤n∧n≤k.max):=by
 intro H enc w fuel cs x h
 obtain⟨n,rfl,_,hw⟩:=DataW.trod_int ht h
 simp only [Lit.wf,Bool.and_eq_true,decide_eq_true_eq]at hw
 exact⟨[.int k n],⟨n,rfl,hw⟩,⟨_,_,rfl,by simp [cN],rfl⟩,by simp [Value.oneCell']⟩
theorem FY.bool{P:Program}{t:TypeId}(ht:P.underlying t=some .bool):FY P t (fun ps=>∃b,ps = [.bool b]):=by
 intro H enc w fuel cs x h
 obtain⟨n,rfl,_⟩:=DataW.trod_bool ht h
 exact⟨[.bool n],⟨n,rfl⟩,⟨_,_,rfl,by simp [cN],rfl⟩,by simp [Value.oneCell']⟩
theorem s7{w:World}{b:Nat}:∀ {ps:List PV} {vs:List Value} {o:Nat},bI (Low w) w ps vs→(∀v∈vs,v.oneCell'=true)→(∀i,i<vs.length→w.cell? ⟨b,o+i,none⟩=vs[i]?)→cO (Low w) w b o ps
 | [],_,_,_,_,_=>by simp [cO]
 | p::ps,vs,o,h,h1,h2=>by
  simp only [bI]at h
  obtain⟨v,J4,rfl,h3,h4⟩:=h
  have hc:w.cell? ⟨b,o,none⟩=some v:=by simpa using h2 0 (by simp)
  simp only [cO]
  refine⟨⟨v,hc,(HP hc).1,h1 v (by simp),h3⟩,s7 h4 (fun u hu=>h1 u (by simp [hu])) fun i hi=>?_⟩
  have:=h2 (i+1) (by simpa using hi)
  simpa [Nat.add_assoc,Nat.add_comm 1]using this
theorem yT{w:World}{b c:Nat}{f:Nat→List PV}:∀(n o k:Nat),(∀i,k≤i→i<k+n→cO (Low w) w b (o+(i-k)*c) (f i)∧(f i).length=c)→eJ (Low w) w b o ((List.range' k n).map f)
 | 0,o,k,_=>by simp [eJ]
 | n+1,o,k,h=>by
  obtain⟨h1,h2⟩:=h k (Nat.le_refl _) (by omega)
  simp only [List.range'_succ,List.map_cons,eJ]
  refine⟨by simpa using h1,yT (c:=c) n _ _ fun i hi hi2=>?_⟩
  obtain⟨h3,h4⟩:=h i (by omega) (by omega)
  refine⟨?_,h4⟩
  rw [h2]
  have e:o+c+(i-(k+1))*c=o+(i-k)*c:=by
   have:i-k=(i-(k+1))+1:=by omega
   rw [this,Nat.add_mul];omega
  rw [e];exact h3
theorem FY.slice{P:Program}{t e:TypeId}{R:List PV→Prop}(ht:P.underlying t=some (.slice e))(uI:0<P.cellsOf e)(he:FY P e R):FY P t (fun ps=>∃l:List (List PV),ps = [.sl l]∧(∀x∈l,R x)∧l.length≤maxLen):=by
 intro H enc w fuel cs x h
 rcases open_slice ht h with ⟨rfl,_⟩ | ⟨a,len,cap,m,n,D,Pl,rfl,_,hl,hm,hmm,_,hx⟩
 ·refine⟨[.sl []],⟨[],rfl,by simp,by simp⟩,⟨_,_,rfl,?_,rfl⟩,by simp [Value.oneCell']⟩
  simp only [cN]
  exact⟨none,0,rfl,by simp,by simp, .inl trivial⟩
 ·have hlm:len≤m:=by rw [hmm];split<;>omega
  have each:∀i,i<len → ∃ps:List PV,R ps∧ps.length=P.cellsOf e ∧ ∃cs',w.cells? 0 (a.add (i*P.cellsOf e)) (P.cellsOf e)=some cs'∧bI (Low w) w ps cs' ∧ ∀v∈cs',v.oneCell'=true:=by
   intro i hi
   obtain⟨cs',h1,h2⟩:=hx i (by omega)
   obtain⟨ps,h3,h4,h5⟩:=he H enc w _ _ _ h2
   refine⟨ps,h3,?_,cs',h1,h4,h5⟩
   rw [h4.length];exact(World.cells?_some h1).2.1
  obtain⟨f,hf⟩:=choose_lt each
  refine⟨[.sl ((List.range' 0 len).map f)],⟨_,rfl,?_,by simp;omega⟩,⟨_,_,rfl,?_,rfl⟩,by simp [Value.oneCell']⟩
  ·intro y hy
   simp only [List.mem_map,List.mem_range'_1]at hy
   obtain⟨i,hi,rfl⟩:=hy
   exact(hf i (by omega)).1
  ·simp only [cN]
   refine⟨some a,cap,by simp,by simpa using hl,hm,?_⟩
   by_cases h0:len=0
   ·left;simp [h0]
   right
   have hsp:a.spot=none:=by
    obtain⟨_,_,cs',h3,_,_⟩:=hf 0 (by omega)
    obtain⟨_,h4,h5⟩:=World.cells?_some h3
    have h6:=h5 0 (by omega)
    rw [List.getElem?_eq_getElem (by omega)]at h6
    have h7:=(HP h6).2
    simpa [Addr.add]using h7
   obtain⟨b,o,sp⟩:=a
   simp only at hsp
   subst hsp
   refine⟨b,o,rfl,yT (c:=P.cellsOf e) len o 0 fun i _ hi=>?_⟩
   obtain⟨_,h2,cs',h3,h4,h5⟩:=hf i (by omega)
   obtain⟨_,h6,h7⟩:=World.cells?_some h3
   refine⟨s7 h4 h5 fun j hj=>?_,h2⟩
   rw [←h7 j (by omega),add_plain,add_plain]
   simp
theorem FY.mono{P:Program}{t:TypeId}{R R':List PV→Prop}(h:FY P t R)(hR:∀ps,R ps→R' ps):FY P t R':=fun H enc w fuel cs x hx=>by
 obtain⟨ps,h1,h2⟩:=h H enc w fuel cs x hx
 exact⟨ps,hR _ h1,h2⟩
def uJ(P:Program)(t:TypeId)(Q:PV→Prop):Prop:=
 ∀(H:Type) (enc:TypeId × Value→H) (w:World) (base:Nat) (v:Value) (d:DataW H) (p:List MemPlace),
  Value.okWide P w .any base t v→DataW.Trod enc P w 0 (fun _=>true) true t v d p → ∃q,Q q∧cN (Low w) w q v
theorem FY.one{P:Program}{t:TypeId}{R:List PV→Prop}(h:FY P t R)(hs:∀w base v,Value.okWide P w .any base t v→v.cells = #[v]):uJ P t (fun q=>R [q]):=by
 intro H enc w base v d p fG ⟨fuel,hf⟩
 obtain⟨ps,h1,h2,_⟩:=h _ _ _ _ _ _ hf
 rw [hs _ _ _ fG]at h2
 have hl:=h2.length
 match ps,hl with
 | [q],_ =>
  simp only [bI]at h2
  obtain⟨v',J4,h3,h4,_⟩:=h2
  cases h3
  exact⟨q,h1,h4⟩
theorem uJ.int{P:Program}{t:TypeId}(k:IntKind)(ht:P.underlying t=some (.int k)):uJ P t (fun q=>∃n,q = .int k n∧k.min≤n∧n≤k.max):=by
 have:=(FY.int k ht).one fun w base v h=>by obtain⟨n,rfl⟩:=okWide_int ht h;rfl
 intro H enc w base v d p h1 h2
 obtain⟨q,⟨n,h3,h4⟩,h5⟩:=this H enc w base v d p h1 h2
 exact⟨q,⟨n,by simpa using h3,h4⟩,h5⟩
theorem uJ.bool{P:Program}{t:TypeId}(ht:P.underlying t=some .bool):uJ P t (fun q=>∃b,q = .bool b):=by
 have:=(FY.bool ht).one fun w base v h=>by obtain⟨n,rfl⟩:=okWide_bool ht h;rfl
 intro H enc w base v d p h1 h2
 obtain⟨q,⟨n,h3⟩,h5⟩:=this H enc w base v d p h1 h2
 exact⟨q,⟨n,by simpa using h3⟩,h5⟩
theorem uJ.slice{P:Program}{t e:TypeId}{R:List PV→Prop}(ht:P.underlying t=some (.slice e))(uI:0<P.cellsOf e)(he:FY P e R):uJ P t (fun q=>∃l:List (List PV),q = .sl l∧(∀x∈l,R x)∧l.length≤maxLen):=by
 have:=(FY.slice ht uI he).one fun w base v h=>by obtain⟨a,len,cap,rfl⟩:=okWide_slice ht h;rfl
 intro H enc w base v d p h1 h2
 obtain⟨q,⟨n,h3,h4⟩,h5⟩:=this H enc w base v d p h1 h2
 exact⟨q,⟨n,by simpa using h3,h4⟩,h5⟩
theorem uJ.mono{P:Program}{t:TypeId}{Q Q':PV→Prop}(h:uJ P t Q)(hQ:∀q,Q q→Q' q):uJ P t Q':=fun H enc w base v d p h1 h2=>by
 obtain⟨q,h3,h4⟩:=h H enc w base v d p h1 h2
 exact⟨q,hQ _ h3,h4⟩
def HQ(P:Program):List TypeId→List (PV→Prop)→Prop
 | [],[]=>True
 | t::ts,Q::Qs=>uJ P t Q∧P.readableRec t=true∧t<P.types.size∧HQ P ts Qs
 | _,_=>False
def aib:List (PV→Prop)→List PV→Prop
 | [],ps=>ps = []
 | Q::Qs,ps=>∃q qs,ps=q::qs∧Q q∧aib Qs qs
theorem HR{P:Program}{H:Type}{enc:TypeId × Value→H}{w:World}{base:Nat}:∀ {ts:List TypeId} {Qs:List (PV→Prop)} {vs:List Value} {ds:List (DataW H)} {p:List MemPlace},HQ P ts Qs →
  (∀(j:Nat) t v,ts[j]? = some t→vs[j]? = some v→Value.okWide P w .any base t v)→DataW.TrodAll enc P w 0 (fun _=>true) true ts vs ds p → ∃ps,aib Qs ps∧bI (Low w) w ps vs
 | [],[],vs,ds,p,_,_,h=>by
  obtain⟨rfl,_⟩:=trodAll_nil h
  exact⟨[],rfl,rfl⟩
 | t::ts,Q::Qs,vs,ds,p,hA,fG,h=>by
  obtain⟨v,J4,d,ds',p1,q1,rfl,rfl,rfl,h1,h2⟩:=trodAll_cons h
  obtain⟨hO,_,_,hA'⟩:=hA
  obtain⟨q,h3,h4⟩:=hO _ _ _ base _ _ _ (fG 0 t v rfl rfl) h1
  obtain⟨ps,h5,h6⟩:=HR hA' (fun j t' v' hj hv=>fG (j+1) t' v' (by simpa using hj) (by simpa using hv)) h2
  exact⟨q::ps,⟨q,ps,rfl,h3,h5⟩,⟨v,J4,rfl,h4,h6⟩⟩
 | [],_::_,_,_,_,h,_,_=>by simp [HQ]at h
 | _::_,[],_,_,_,h,_,_=>by simp [HQ]at h
theorem CC{P:Program}(hl:laidOutB P=true){H:Type}{enc:TypeId × Value→H}{w w':World}(hb:Below w.heap.size w w'):∀ {ts:List TypeId} {Qs:List (PV→Prop)} {vs:List Value} {ds:List (DataW H)} {p:List MemPlace},HQ P ts Qs→(∀x∈p,x.block<w.heap.size) →
  DataW.TrodAll enc P w 0 (fun _=>true) true ts vs ds p→DataW.TrodAll enc P w' 0 (fun b=>decide (b<w.heap.size)) true ts vs ds p
 | [],[],vs,ds,p,_,_,h=>by
  obtain⟨rfl,rfl,rfl⟩:=trodAll_nil h
  exact trodAll_mk0
 | t::ts,Q::Qs,vs,ds,p,hA,fS,h=>by
  obtain⟨v,J4,d,ds',p1,q1,rfl,rfl,rfl,h1,h2⟩:=trodAll_cons h
  obtain⟨_,h3,h4,hA'⟩:=hA
  exact⟨p1,q1,Below.trod hl h3 h4 h1 hb (fun x hx=>fS x (by simp [hx])),CC hl hb hA' (fun x hx=>fS x (by simp [hx])) h2,rfl⟩
 | [],_::_,_,_,_,h,_,_=>by simp [HQ]at h
 | _::_,[],_,_,_,h,_,_=>by simp [HQ]at h
theorem XT{C:Checked}{f:FuncId}{fn:Func}{s:ChangeSpec}{Qs:List (PV→Prop)}{os:Os}{H:Type}{enc:TypeId × Value→H}{tb:TypeId}
  (own:ownKnob C.prog.godebug=none) (hl:laidOutB C.prog=true) (started:os.Started) (aic:C.prog.inits.idxOf? f=none) (hfn:C.prog.funcs[f]? = some fn)
  (witness:∃(w:World) (tape:Tape) (i:Input),w.os=os∧(w.forCall tape i).Shaped C.prog∧i.vars = []∧Input.okWide C.prog (w.forCall tape i) .any w.heap.size f i ∧
   s.pre6 enc C.prog fn [] false (w.forCall tape i).memory i.args∧({}:Assume).holds C.prog (lone (Frame.enter C.prog f i.args .normal) [] (w.forCall tape i)))
  (hv:s.vars = []) (hs:∀ds:List (DataW H),ds.length=fn.params.size→s.fn H ds = { results:=[.lit (.bool true)],args:=ds })
  (yU:fn.resultTypes = #[tb]) (htb:C.prog.underlying tb=some .bool)
  (hA:HQ C.prog fn.params.toList Qs) (h:∀ps,aib Qs ps→aL C.prog f ps (.bool true)) :
  ReturnsInHanded {} C os f .any (s.pre6 enc C.prog fn [] false) (s.post enc C.prog fn false true false false):=by
 refine returnsInHanded_of_change own started aic hfn witness ?_
 intro W base args ds gs before asW hW _ _
 have hW':=hW
 obtain⟨p,q,hT,hV,rfl,_,_⟩:=hW
 rw [hv]at hV
 obtain⟨rfl,rfl⟩:=trodVars_none hV
 obtain⟨ps,h1,h2⟩:=HR (base:=base) hA (fun j t v hj hv=>asW j t v (by simpa using hj) (by simpa using hv)) hT
 obtain⟨_,oK⟩:=h ps h1
 have h3:=oK W (Low W) args.toList (fun b o hb=>hb) h2
 refine Calls.mono h3 fun e w' hw=>?_
 obtain⟨v,rfl,QW,S',_,_,fH⟩:=hw
 simp only [cN]at fH
 subst fH
 refine⟨_,rfl,?_⟩
 have hlen:ds.length=fn.params.size:=by
  have:∀ {ts:List TypeId} {vs:List Value} {ds:List (DataW H)} {p:List MemPlace},DataW.TrodAll enc C.prog W 0 (fun _=>true) true ts vs ds p→ds.length=ts.length:=by
   intro ts
   induction ts with
   | nil=>intro vs ds p h;obtain⟨_,rfl,_⟩:=trodAll_nil h;rfl
   | cons t ts ih =>
    intro vs ds p h
    obtain⟨v,J4,d,ds',p1,q1,rfl,rfl,rfl,h1,h2⟩:=trodAll_cons h
    simp [ih h2]
  rw [this hT];simp
 have fS:∀x∈p,x.block<W.heap.size:=fun x hx=>hW'.lt x (by simpa using hx)
 have hold:∀x∈p,(fun b=>decide (b<W.heap.size)) x.block=true:=fun x hx=>by simpa using fS x hx
 have aid:s.fn H (ds ++ []) = { results:=[.lit (.bool true)],args:=ds }:=by rw [List.append_nil,hs ds hlen]
 refine⟨ds,[],p ++ [],[],p,[],hW',?_,?_,?_,World.keptBut_mono (fun x hx=>⟨hx, .inr (.inl (by simpa using hx))⟩) (QW.frame (· ∈ p ++ [])),?_⟩
 ·rw [aid,yU]
  exact trodAll_mk1 (shut_bool htb true)
 ·rw [aid]
  exact CC hl QW hA fS hT
 ·rw [aid,hv];rfl
 ·intro h0;cases h0
end Pm
namespace Pm
open Go Go.RowKit
section
variable {E:Env} {w0:World} {S0:dF} {c:Cx}
theorem HS(hI:Inv w0 S0 c){clk:Nat}{fn:Func}{a:Act}{f:Nat→PV}(hf:∀s,aH c (f s) (a.tmps.getD s undef)){K:List PV→Prop}(hp:nT E ⟨f,c.rows,clk⟩ fn.results.toList K) :
  ∃vs us,K vs∧a9 (aH c) vs us∧(results fn a.tmps).run E.P c.w = .ok (if h:us.toArray.size=1 then us.toArray[0]else .tuple us.toArray) c.w:=by
 have key:∀g:ResultVar→Sem Value,(∀t,g (.tmp t)=pure (a.tmps.getD t undef))→(∀x t,g (.cell x t)=do loadVar t (←asAddr (a.tmps.getD x undef))) →
   ∃vs us,K vs∧a9 (aH c) vs us∧(do let vs ←fn.results.mapM g;pure (if h:vs.size=1 then vs[0]else .tuple vs):Sem Value).run E.P c.w = .ok (if h:us.toArray.size=1 then us.toArray[0]else .tuple us.toArray) c.w:=by
  intro g VJ sI
  obtain⟨vs,us,g1,g4,g5⟩:=pN hI hf VJ sI _ _ hp
  refine⟨vs,us,g1,g4,?_⟩
  have:(fn.results.mapM g).run E.P c.w = .ok us.toArray c.w:=by
   rw [Array.mapM_eq_mapM_toList]
   simp [g5]
  rw [Sem.run_bind,this,Result.andThen_ok,Sem.run_pure]
 unfold results
 exact key _ (fun _=>rfl) (fun _ _=>rfl)
theorem yV(hI:Inv w0 S0 c){fn:Func}{t:Tmp}(yU:fn.results.toList = [.tmp t]){a:Act}{f:Nat→PV}(hf:∀s,aH c (f s) (a.tmps.getD s undef)) :
  ∃u,aH c (f t) u∧(results fn a.tmps).run E.P c.w = .ok u c.w:=by
 obtain⟨vs,us,h1,h2,h3⟩:=HS (E:=E) (K:=fun vs=>vs = [f t]) (clk:=0) hI (fn:=fn) hf (by rw [yU];rfl)
 subst h1
 match us,h2 with
 | [u],h2=>exact⟨u,h2.1,by simpa using h3⟩
 | [],h2=>exact h2.elim
 | _::_::_,h2=>exact h2.2.elim
def ae3(t:Tmp)(R:PV→Rows→Nat→Prop):PX→PS→Prop
 | .normal,σ=>R (σ.f t) σ.rows σ.clock
 | .ret,σ=>R (σ.f t) σ.rows σ.clock
 | .exit _,_=>False
def XU(args:List PV)(rows:Rows)(clk:Nat):PS:=⟨fun s=>args.getD s .undef,rows,clk⟩
theorem HT{args:List PV}{vs:List Value}{m:Nat}(h:a9 (aH c) args vs)(s:Nat):aH c (args.getD s .undef) ((vs.toArray++Array.replicate m undef).getD s undef):=by
 have KB:=h.length
 by_cases hs:s<args.length
 ·obtain⟨u,hu,hr⟩:=h.get (List.getElem?_eq_getElem hs)
  have e1:args.getD s .undef=args[s]:=by simp [List.getD,List.getElem?_eq_getElem hs]
  have e2:(vs.toArray++Array.replicate m undef).getD s undef=u:=by
   have:s<vs.length:=by omega
   simp [this]at hu ⊢
   simp [Array.getElem?_append,this,hu]
  rw [e1,e2];exact hr
 ·have e1:args.getD s .undef = .undef:=by simp [List.getD,List.getElem?_eq_none (show args.length≤s by omega)]
  rw [e1]
  simp [aH,aN]
theorem SC{x7:FuncId}{fn:Func}{code:Code}(tl:Nat→Nat){args:List PV}{rows:Rows}{clk:Nat}{R:PV→Rows→Nat→Prop}{t:Tmp}(h1:E.P.funcs[x7]? = some fn)(h2:fn.body=some code) (h3:(fn.name == "runtime.NumGoroutine") = false)
  (fG:eA E fn.ntmps tl code=true) (eX:args.length≤fn.ntmps) (yU:fn.results.toList = [.tmp t]) (h:W E fn.ntmps tl code (ae3 t R) (XU args rows clk)):QX E.P x7 args rows clk R:=by
 refine⟨⟨fn,code,h1,h2,h3⟩,fun w0 S0 c vs G hI hr eY fH hG=>?_⟩
 refine calls_of_wp h1 h2 ?_
 have KB:=fH.length
 have GN:Rel w0 S0 fn.ntmps G (XU args rows clk) { tmps:=vs.toArray++Array.replicate (fn.ntmps-vs.toArray.size) undef,defers:=[] } c.w:=
  ⟨⟨c,rfl,hr,eY,hI,fun s=>HT fH s,hG⟩,by simp;omega,rfl⟩
 refine h fG w0 S0 G _ _ _ GN ?_
 have fin:∀σ' a' w',R (σ'.f t) σ'.rows σ'.clock→Rel w0 S0 fn.ntmps G σ' a' w'→a'.defers = [] ∧ ∃v,(results fn a'.tmps).run E.P w' = .ok v w' ∧
   ∃v' c' r fQ,Ending.returned v = .returned v'∧c'.w=w'∧Inv w0 S0 c'∧(∀p∈G,aH c' p.1 p.2)∧R r c'.rows fQ∧(∀v,c'.used v→v<fQ)∧aH c' r v':=by
  rintro σ' a' w' hx ⟨⟨c',rfl,jW,af6,tV,hf',hG'⟩,hn,eQ⟩
  obtain⟨u,hu,iC⟩:=yV (E:=E) tV yU hf'
  exact⟨eQ,u,iC,u,c',_,σ'.clock,rfl,rfl,tV,hG',by rw [jW];exact hx,af6,hu⟩
 intro x σ' a' w' hx jZ
 cases x with
 | normal=>exact fin σ' a' w' hx jZ
 | ret=>exact fin σ' a' w' hx jZ
 | exit id=>exact hx.elim
def ae4(t:Tmp)(e:TypeId)(n:Nat)(els:List (List PV)):PX→PS→Prop
 | .normal,σ=>∃id ver,σ.f t = .own id ver 0 els.length∧σ.rows id=some ⟨ver,e,n,els⟩ ∧ ∀x∈els,∀p∈x,bU p=true
 | .ret,σ=>∃id ver,σ.f t = .own id ver 0 els.length∧σ.rows id=some ⟨ver,e,n,els⟩ ∧ ∀x∈els,∀p∈x,bU p=true
 | .exit _,_=>False
theorem SD{x7:FuncId}{fn:Func}{code:Code}(tl:Nat→Nat){args:List PV}{e:TypeId}{n:Nat}{els:List (List PV)}{t:Tmp}(h1:E.P.funcs[x7]? = some fn)(h2:fn.body=some code) (h3:(fn.name == "runtime.NumGoroutine") = false)
  (fG:eA E fn.ntmps tl code=true) (eX:args.length≤fn.ntmps) (yU:fn.results.toList = [.tmp t]) (h:W E fn.ntmps tl code (ae4 t e n els) (BQ args)):i0 E.P x7 args e n els:=by
 refine⟨⟨fn,code,h1,h2,h3⟩,fun w S vs hS fH=>?_⟩
 refine calls_of_wp h1 h2 ?_
 have xP:=cA.1 fH
 have KB:=xP.length
 let c0:Cx:=⟨S,w,fun _ => .slice none 0 0,fun _=>none,fun _=>False⟩
 have hI0:Inv w S c0:=⟨Below.refl _ _,fun _ _ h=>h,fun _ _ h => .inl h,hS,fun _ _ h=>by simp [c0]at h,fun _ _ h=>by simp [c0]at h,fun _ _ _ _ _ h=>by simp [c0]at h⟩
 have GN:Rel w S fn.ntmps Gs.none (BQ args) { tmps:=vs.toArray++Array.replicate (fn.ntmps-vs.toArray.size) undef,defers:=[] } w:=
  ⟨⟨c0,rfl,rfl,fun _ h=>h.elim,hI0,fun s=>HT (c:=c0) (xP.mono fun _ _ h=>aH.gY h) s,fun p hp=>(Gs.F8 hp).elim⟩,by simp;omega,rfl⟩
 refine h fG w S Gs.none _ _ _ GN ?_
 have fin:∀(σ':PS) a' w',(∃id ver,σ'.f t = .own id ver 0 els.length∧σ'.rows id=some ⟨ver,e,n,els⟩ ∧ ∀x∈els,∀p∈x,bU p=true)→Rel w S fn.ntmps Gs.none σ' a' w'→a'.defers = [] ∧ ∃v,(results fn a'.tmps).run E.P w' = .ok v w' ∧
   ∃(v':Value) (xs:List Value) (S':dF),Ending.returned v = .returned v'∧Below w.heap.size w w'∧(∀b o,S b o→S' b o)∧(∀b o,S' b o→S b o∨(w.heap.size≤b∧b<w'.heap.size)) ∧
   w'.ownsRow w.heap.size e n v' els.length xs∧a9 (cN S' w') els.flatten xs∧(∀y∈xs,y.oneCell'=true)∧(∀x∈els,x.length=n)∧0<n∧(∀g o,v'.ownBlock=some g→¬S' g o):=by
  rintro σ' a' w' ⟨id,ver,e1,e2,e3⟩ ⟨⟨c,rfl,hr,eY,hI,hf,_⟩,hn,eQ⟩
  obtain⟨u,hu,iC⟩:=yV (E:=E) hI yU hf
  rw [e1]at hu
  rw [←hr]at e2
  obtain⟨⟨xs,g1,g2,g3⟩,g4,g5,g6⟩:=hI.row id _ e2
  simp only [aH,aN]at hu
  obtain⟨_,hu⟩:=hu
  obtain⟨_,hu⟩:=hu _ e2 rfl
  have hub:u=c.β id:=by
   rcases hu with ⟨_,A,m,cap,h5,h6⟩ | ⟨h5,_⟩
   ·rcases g1.2 with ⟨h7,h8⟩ | ⟨g,iB,cur,h7,_⟩
    ·rw [h7]at h5;cases h5
     simp only at h8
     rw [h6,h7,h8]
    ·rw [h7]at h5;cases h5
     rw [h6,h7]
   ·omega
  refine⟨eQ,u,iC,u,xs,c.S,rfl,hI.below,hI.ext,hI.new,by rw [hub];exact g1,?_,g3,g4,g6,fun g o hg=>g5 g o (by rw [←hub];exact hg)⟩
  refine a9.dA g2.length fun k p y hp hy=>?_
  obtain⟨y',JX,jW⟩:=g2.get hp
  rw [hy]at JX;cases JX
  have mG:=List.mem_of_getElem? hp
  obtain⟨x,hx,hpx⟩:=List.mem_flatten.1 mG
  exact jW.rep (e3 x hx p hpx)
 intro x σ' a' w' hx jZ
 cases x with
 | normal=>exact fin σ' a' w' hx jZ
 | ret=>exact fin σ' a' w' hx jZ
 | exit id=>exact hx.elim
theorem i0.ret{P:Program}{f:FuncId}{args:List PV}{e:TypeId}{n:Nat}{els:List (List PV)}(h:i0 P f args e n els){fJ:List PV}{rows:Rows}{clk:Nat}(d:Nat)(ha:fJ.map (pz rows)=args)(qQ:(fJ.map (pz rows)).all fA=true)(hp:dS rows (fJ.flatMap dG)) :
  QX P f fJ rows clk (fun r rows' fQ=>r = .own d clk 0 els.length∧rows'=dH (AN rows (fJ.flatMap dG)) d (some ⟨clk,e,n,els⟩)∧fQ=clk+1):=by
 obtain⟨h0,KU⟩:=h
 refine⟨h0,fun w0 S0 c vs G hI qH eY eX hG=>?_⟩
 subst qH
 generalize rC:fJ.flatMap dG=ids at *
 have GC:=hI.freeze ids
 have fS:∀b o,KO c ids b o→b<c.w.heap.size:=fun b o hb=>GC.lt (c:=AE c ids) hb
 have fH:bI (KO c ids) c.w args vs:=by
  rw [←ha]
  refine cA.2 (a9.dA (by simp [eX.length]) fun k p u tU hu=>?_)
  simp at tU
  obtain⟨q,hq,rfl⟩:=tU
  obtain⟨u',g1,g2⟩:=eX.get hq
  rw [hu]at g1;cases g1
  exact DG hI hp g2 (fun id fI=>by rw [←rC];simp only [List.mem_flatMap];exact⟨q,List.mem_of_getElem? hq,fI⟩) (List.all_eq_true.1 qQ _ (by simp;exact⟨q,List.mem_of_getElem? hq,rfl⟩))
 refine(KU c.w (KO c ids) vs fS fH).mono ?_
 rintro x w' ⟨v,xs,S',rfl,hb,g1,g2,g3,g4,g5,g6,g7,g8⟩
 obtain⟨hI2,hA2⟩:=GC.grow (c:=AE c ids) hb g1 g2
 have hA1:=kE c ids
 obtain⟨hI3,hA3⟩:=hI2.set (w':=w') (ob:=v.ownBlock) (id:=d) (r':=⟨clk,e,n,els⟩) (v':=v) (xs:=xs) (World.grownBy.refl _ _)
  (fun g hg=>by
   have QT:=(g3.lt g hg).1
   refine⟨by have:=hI.below.size;omega,fun o=>g8 g o hg,fun gX r hr _ AK=>?_⟩
   obtain⟨⟨ys,q1,_,_⟩,_⟩:=GC.row gX r hr
   have:=(q1.lt g AK).2
   simp only [AE]at this
   omega) ⟨g3.1,g3.2.imp id fun⟨g,cap,cur,q1,q2,q3⟩=>⟨g,cap,cur,q1,Nat.le_trans hI.below.size q2,q3⟩⟩ (g4.mono fun _ _ h=>aN.gY h) g5 g6 g7 (fun g hg => .inl hg) (fun hu=>Nat.lt_irrefl _ (eY _ hu))
 refine⟨v,_, .own d clk 0 els.length,clk+1,rfl,rfl,hI3,fun p tU=>?_,⟨rfl,rfl,rfl⟩,fun v hv=>?_,?_⟩
 ·exact aH.qY hA3 _ _ (aH.qY hA2 _ _ (aH.qY hA1 _ _ (hG p tU)))
 ·rcases hv with hv | hv
  ·have:v=clk:=hv
   omega
  ·have:=eY v hv;omega
 ·rcases g3.2 with ⟨rfl,h8⟩ | ⟨g,iB,cur,rfl,_⟩
  ·have:els.length=0:=h8
   rw [this]
   exact jY (r:=⟨clk,e,n,els⟩) (A:=none) (cap:=0) (by simp [dH]) (by simpa using h8) (Or.inl rfl) (by simp [dH])
  ·exact jY (r:=⟨clk,e,n,els⟩) (by simp [dH]) rfl (Or.inl rfl) (by simp [dH])
end
theorem ae5{P:Program}{g:FuncId}{fJ:List PV}{rows:Rows}{clk:Nat}{K:PV→Rows→Nat→Prop}{args:List PV}{e:TypeId}{n:Nat}{els:List (List PV)}(h:i0 P g args e n els)(d:Nat)(ha:fJ.map (pz rows)=args)(qQ:(fJ.map (pz rows)).all fA=true)
  (hp:dS rows (fJ.flatMap dG)) (hK:go (K (.own d clk 0 els.length) (dH (AN rows (fJ.flatMap dG)) d (some ⟨clk,e,n,els⟩)) (clk+1))):u7 P g fJ rows clk K:=
 ⟨_,h.ret d ha qQ hp,by rintro r rows' fQ ⟨rfl,rfl,rfl⟩;exact hK⟩
theorem nG{E:Env}{x7:FuncId}{fn:Func}{code:Code}(tl:Nat→Nat){args:List PV}{e:TypeId}{n:Nat}{els:List (List PV)}{t:Tmp}(l:List (Nat × PV))(h1:E.P.funcs[x7]? = some fn)(h2:fn.body=some code) (h3:(fn.name == "runtime.NumGoroutine") = false)
  (fG:eA E fn.ntmps tl code=true) (eX:args.length≤fn.ntmps) (yU:fn.results.toList = [.tmp t]) (hl:∀p∈l,args.getD p.1 .undef=p.2) (h:W E fn.ntmps tl code (ae4 t e n els) ⟨fa l,fun _=>none,0⟩):i0 E.P x7 args e n els:=
 SD tl h1 h2 h3 fG eX yU (W.ghf l (by simpa using hl) h)
theorem L8{E:Env}{x7:FuncId}{fn:Func}{code:Code}(tl:Nat→Nat){args:List PV}{rows:Rows}{clk:Nat}{R:PV→Rows→Nat→Prop}{t:Tmp}(l:List (Nat × PV))(h1:E.P.funcs[x7]? = some fn)(h2:fn.body=some code) (h3:(fn.name == "runtime.NumGoroutine") = false)
  (fG:eA E fn.ntmps tl code=true) (eX:args.length≤fn.ntmps) (yU:fn.results.toList = [.tmp t]) (hl:∀p∈l,args.getD p.1 .undef=p.2) (h:W E fn.ntmps tl code (ae3 t R) ⟨fa l,rows,clk⟩):QX E.P x7 args rows clk R:=
 SC tl h1 h2 h3 fG eX yU (W.ghf l (by simpa using hl) h)
def uK(t:TI)(rows:Rows)(x y:PV)(K:PV→Rows→Prop):Prop:=
 match t,x with
 | .slice _ n _ _, .own id ver off len=>∃r,rows id=some r∧r.ver=ver∧r.size=n∧off+len≤r.els.length ∧ ∃l,qG rows y l∧(∀e∈l,e.length=n) ∧
   K (.int .i64 (min l.length len)) (dH rows id (some { r with els:=r.els.take off++l.take len++r.els.drop (off+min l.length len) }))
 | _,_=>False
@[simp] theorem aqN{E:Env}{ops os:List Oper}{K:PS→Prop}{f:Nat→PV}{rows:Rows}{clk:Nat}{d:Option Tmp}{ty:TypeId}{pos:String}{af:Array Edge}{x y:Operand}{t t2:TypeId} :
  go (aI E ops (⟨d, .call { callee:=.builtin .copy,args:=⟨[x,y]⟩,argTypes:=⟨[t,t2]⟩ },ty,pos,af,none⟩::os) K ⟨f,rows,clk⟩)=uK (E.ty t) rows (aO f x) (aO f y) fun v rows=>aI E ops os K ⟨put f d v,rows,clk⟩:=by
 simp only [go,aI,dZ,ys,qP,uK]
 generalize E.ty t=T
 generalize aO f x=X
 apply propext
 constructor
 ·rintro⟨v,u,h,hK⟩
  split at h
  ·obtain⟨r,h1,h2,h3,h4,l,h5,h6,rfl,rfl⟩:=h
   exact⟨r,h1,h2,h3,h4,l,h5,h6,hK⟩
  ·exact h.elim
 ·intro h
  split at h
  ·obtain⟨r,h1,h2,h3,h4,l,h5,h6,hK⟩:=h
   exact⟨_,_,⟨r,h1,h2,h3,h4,l,h5,h6,rfl,rfl⟩,hK⟩
  ·exact h.elim
@[congr] theorem ack{t t':TI}{rows rows':Rows}{x x' y y':PV}{K:PV→Rows→Prop}(h1:t=t')(h2:rows=rows')(h3:x=x')(h4:y=y'):uK t rows x y K=uK t' rows' x' y' K:=by rw [h1,h2,h3,h4]
theorem aoe{e e':TypeId}{n b:Nat}{z:List PV}{rows:Rows}{id ver off len:Nat}{y:PV}{K:PV→Rows→Prop}{els l:List (List PV)}(hr:rows id=some ⟨ver,e',n,els⟩)(hl:off+len≤els.length)(hy:qG rows y l)(h1:∀e∈l,e.length=n)
  (hK:go (K (.int .i64 (min l.length len)) (dH rows id (some ⟨ver,e',n,els.take off++l.take len++els.drop (off+min l.length len)⟩)))):uK (.slice e n b z) rows (.own id ver off len) y K:=
 ⟨_,hr,rfl,rfl,hl,l,hy,h1,hK⟩
theorem aof{e e':TypeId}{b:Nat}{z:List PV}{rows:Rows}{id ver off len:Nat}{y:PV}{K:PV→Rows→Prop}{els l:List (List PV)}(hr:rows id=some ⟨ver,e',1,els⟩)(hl:off+len≤els.length)(h0:0<len)(hy:qG rows y l)(h1:∀e∈l,e.length=1)
  (hK:go (K (.int .i64 (min l.length len)) (dH rows id (some ⟨ver,e',1,els.take off++l.take len++els.drop (off+min l.length len)⟩)))):uK (.slice e 1 b z) rows (.own id ver off len) y K:=
 aoe hr hl hy h1 hK
theorem cU{c B:Prop}(h:c)(hB:go B):aE c B:=⟨h,hB⟩
end Pm
