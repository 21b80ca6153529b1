import Derived.Test.YtiobceocpabjdaaGreatCae
import Derived.Test.YtiobceocpabjdaaGreatCag
set_option linter.unusedSimpArgs false
set_option linter.unusedVariables false
namespace Go.Proofs.YtiobceocpabjdaaGreat
open Go Pm
theorem lR.nil:lR []:=⟨b6.nil,by simp⟩
theorem mG.L5{l:List (Bool × List Int)}(h:mG l)(i:Nat):lR (Pm.nth l i).2:=by
 by_cases hi:i<l.length
 ·exact h.nth hi
 ·rw [gL (by omega)];exact lR.nil
theorem pK(l:List (Bool × List Int))(k:Nat):nth (l.map gv) k=gv (nth l k):=Pm.tI (f:=gv) rfl l k
theorem qG(x:Int):iv (decide (x<0)) (a5 LL x.natAbs)=x:=JD x
theorem sH{x y:Int}(hx:Sz x)(hy:Sz y):aZ env.P 66 [I x,I y] (I (x*y)):=by
 have:=DA (decide (x<0)) (decide (y<0)) (a5 LL x.natAbs) (a5 LL y.natAbs) hx.L4 hy.L4
 rwa [qG,qG]at this
theorem abl{x y:Int}(hx:Sz x)(hy:Sz y):aZ env.P 65 [I x,I y] (I (x+y)):=by
 have:=vE (decide (x<0)) (decide (y<0)) (a5 LL x.natAbs) (a5 LL y.natAbs) hx.L4 hy.L4
 rwa [qG,qG]at this
theorem abm{x:Int}(hx:Sz x):aZ env.P 148 [I x] (I (-x)):=by
 have:=vD (decide (x<0)) (a5 LL x.natAbs) hx.L4
 rwa [qG]at this
theorem RS{x:Int}(hx:Sz x):aZ env.P 132 [I x] (I x):=by
 have:=kZ (decide (x<0)) (a5 LL x.natAbs) hx.L4
 rwa [qG]at this
theorem RU(a b:List (Bool × List Int))(ha:mG a)(hb:mG b)(k:Nat)(hk:k<9223372036854775808):aZ env.P 242 [.int .i64 (k:Int), .rd [Pg a], .rd [Pg b]] (I (nth (a.map gv) k+nth (b.map gv) k)):=by
 refine b9 (E:=env) (fun _=>0) [(0, .int .i64 (k:Int)),(1, .rd [Pg a]),(2, .rd [Pg b])] Tryz.func242 rfl (by kernel_rfl) (by kernel_rfl) (show 3≤12 by decide) (by simp) ?_
 have:=ha.len;have:=hb.len
 refine W.c6 (fun K hK=>?_)
 simp (disch:=omega) [gA,wA]
 refine W.lv [0,1,2,4] hK fun J j=>?_;clear hK K;simp;refine j _ ?_;clear j J
 refine W.Q3 (fun K hK=>?_)
 simp (disch:=omega) [gA,wA]
 refine aD (AE a k ha.len hk) ?_
 simp (disch:=omega) [gA,wA]
 refine aD (AE b k hb.len hk) ?_
 simp (disch:=omega) [gA,wA]
 refine aD (vE _ _ _ _ (ha.L5 k) (hb.L5 k)) ?_
 simp (disch:=omega) [gA,wA]
 refine W.lv [4] hK fun J j=>?_;clear hK K;simp;refine j _ ?_;clear j J
 refine W.ret ?_
 rw [pK,pK]
 simp [go,gv]
theorem RV(a b:List (Bool × List Int))(ha:mG a)(hb:mG b)(k:Nat)(hk:k<9223372036854775808):aZ env.P 247 [.int .i64 (k:Int), .rd [Pg a], .rd [Pg b]] (I (nth (a.map gv) k-nth (b.map gv) k)):=by
 refine b9 (E:=env) (fun _=>0) [(0, .int .i64 (k:Int)),(1, .rd [Pg a]),(2, .rd [Pg b])] Tryz.func247 rfl (by kernel_rfl) (by kernel_rfl) (show 3≤12 by decide) (by simp) ?_
 have:=ha.len;have:=hb.len
 refine W.c6 (fun K hK=>?_)
 simp (disch:=omega) [gA,wA]
 refine W.lv [0,1,2,4] hK fun J j=>?_;clear hK K;simp;refine j _ ?_;clear j J
 refine W.Q3 (fun K hK=>?_)
 simp (disch:=omega) [gA,wA]
 refine aD (AE a k ha.len hk) ?_
 simp (disch:=omega) [gA,wA]
 refine aD (AE b k hb.len hk) ?_
 simp (disch:=omega) [gA,wA]
 refine aD (RQ _ _ _ _ (ha.L5 k) (hb.L5 k)) ?_
 simp (disch:=omega) [gA,wA]
 refine W.lv [4] hK fun J j=>?_;clear hK K;simp;refine j _ ?_;clear j J
 refine W.ret ?_
 rw [pK,pK]
 simp [go,gv]
theorem RW(a:List (Bool × List Int))(ha:mG a)(k:Nat)(hk:k<a.length):aZ env.P 216 [.int .i64 (k:Int), .rd [Pg a]] (I (- nth (a.map gv) k)):=by
 refine b9 (E:=env) (fun _=>0) [(0, .int .i64 (k:Int)),(1, .rd [Pg a])] Tryz.func216 rfl (by kernel_rfl) (by kernel_rfl) (show 2≤9 by decide) (by simp) ?_
 have:=ha.len
 refine W.c6 (fun K hK=>?_)
 simp (disch:=omega) [gA,wA]
 refine W.lv [0,1,3] hK fun J j=>?_;clear hK K;simp;refine j _ ?_;clear j J
 refine W.c6 (fun K hK=>?_)
 simp (disch:=omega) [gA,wA]
 refine aD (vD _ _ (ha.L5 k)) ?_
 simp (disch:=omega) [gA,wA]
 refine W.lv [3] hK fun J j=>?_;clear hK K;simp;refine j _ ?_;clear j J
 refine W.ret ?_
 rw [pK]
 simp [go,gv]
theorem RX(a:List (Bool × List Int))(ha:mG a)(n:Bool)(c:List Int)(hc:lR c)(k:Nat)(hk:k<a.length):aZ env.P 241 [.int .i64 (k:Int), .rd [Pg a], .rd [.bool n,us c]] (I (nth (a.map gv) k*iv n c)):=by
 refine b9 (E:=env) (fun _=>0) [(0, .int .i64 (k:Int)),(1, .rd [Pg a]),(2, .rd [.bool n,us c])] Tryz.func241 rfl (by kernel_rfl) (by kernel_rfl) (show 3≤11 by decide) (by simp) ?_
 have:=ha.len
 refine W.c6 (fun K hK=>?_)
 simp (disch:=omega) [gA,wA]
 refine W.lv [0,1,2,4] hK fun J j=>?_;clear hK K;simp;refine j _ ?_;clear j J
 refine W.Q3 (fun K hK=>?_)
 simp (disch:=omega) [gA,wA]
 refine aD (DA _ _ _ _ (ha.L5 k) hc) ?_
 simp (disch:=omega) [gA,wA]
 refine W.lv [4] hK fun J j=>?_;clear hK K;simp;refine j _ ?_;clear j J
 refine W.ret ?_
 rw [pK]
 simp [go,gv]
theorem RY(a b:List (Bool × List Int))(ha:mG a)(hb:mG b):aZ env.P 182 [Pg a,Pg b] (Po (iP (a.map gv) (b.map gv))):=by
 refine b9 (E:=env) (fun _=>0) [(0,Pg a),(1,Pg b)] Tryz.func182 rfl (by kernel_rfl) (by kernel_rfl) (show 2≤12 by decide) (by simp) ?_
 have RZ:=ha.len;have hlb:=hb.len
 refine W.c6 (fun K hK=>?_)
 simp (disch:=omega) [gA,wA]
 refine W.lv [2,3] hK fun J j=>?_;clear hK K;simp;refine j _ ?_;clear j J
 refine W.c6 (fun K hK=>?_)
 have e:(if a.length<b.length then(b.length:Int)else(a.length:Int))=((max a.length b.length:Nat):Int):=by split<;>omega
 simp (disch:=omega) [gA,wA,e]
 refine aD (nI 242 rfl [.rd [Pg a], .rd [Pg b]] rfl (max a.length b.length) (by omega) (fun k=>nth (a.map gv) k+nth (b.map gv) k) (fun k hk=>RU a b ha hb k (by omega))) ?_
 simp (disch:=omega) [gA,wA]
 refine W.lv [4] hK fun J j=>?_;clear hK K;simp;refine j _ ?_;clear j J
 refine W.ret ?_
 simp [go,iP]
theorem R1(a b:List (Bool × List Int))(ha:mG a)(hb:mG b):aZ env.P 186 [Pg a,Pg b] (Po (dJ (a.map gv) (b.map gv))):=by
 refine b9 (E:=env) (fun _=>0) [(0,Pg a),(1,Pg b)] Tryz.func186 rfl (by kernel_rfl) (by kernel_rfl) (show 2≤12 by decide) (by simp) ?_
 have RZ:=ha.len;have hlb:=hb.len
 refine W.c6 (fun K hK=>?_)
 simp (disch:=omega) [gA,wA]
 refine W.lv [2,3] hK fun J j=>?_;clear hK K;simp;refine j _ ?_;clear j J
 refine W.c6 (fun K hK=>?_)
 have e:(if a.length<b.length then(b.length:Int)else(a.length:Int))=((max a.length b.length:Nat):Int):=by split<;>omega
 simp (disch:=omega) [gA,wA,e]
 refine aD (nI 247 rfl [.rd [Pg a], .rd [Pg b]] rfl (max a.length b.length) (by omega) (fun k=>nth (a.map gv) k-nth (b.map gv) k) (fun k hk=>RV a b ha hb k (by omega))) ?_
 simp (disch:=omega) [gA,wA]
 refine W.lv [4] hK fun J j=>?_;clear hK K;simp;refine j _ ?_;clear j J
 refine W.ret ?_
 simp [go,dJ]
theorem yI{α β:Type}[Inhabited α](l:List α)(f:α→β):(List.range l.length).map (fun k=>f (nth l k))=l.map f:=by
 apply List.ext_getElem
 ·simp
 ·intro i h1 h2
  simp at h1
  simp [dP h1]
theorem R3(a:List (Bool × List Int))(ha:mG a):aZ env.P 139 [Pg a] (Po (fC (a.map gv))):=by
 refine b9 (E:=env) (fun _=>0) [(0,Pg a)] Tryz.func139 rfl (by kernel_rfl) (by kernel_rfl) (show 1≤7 by decide) (by simp) ?_
 have RZ:=ha.len
 refine W.c6 (fun K hK=>?_)
 simp (disch:=omega) [gA,wA]
 refine W.lv [1] hK fun J j=>?_;clear hK K;simp;refine j _ ?_;clear j J
 refine W.c6 (fun K hK=>?_)
 simp (disch:=omega) [gA,wA]
 refine aD (nI 216 rfl [.rd [Pg a]] rfl a.length (by omega) (fun k => - nth (a.map gv) k) (fun k hk=>RW a ha k hk)) ?_
 simp (disch:=omega) [gA,wA]
 refine W.lv [2] hK fun J j=>?_;clear hK K;simp;refine j _ ?_;clear j J
 refine W.ret ?_
 have e:=yI (a.map gv) (fun c => -c)
 rw [List.length_map]at e
 rw [e]
 simp [go,fC]
theorem G5(a:List (Bool × List Int))(ha:mG a)(n:Bool)(c:List Int)(hc:lR c):aZ env.P 181 [Pg a,IV n c] (Po (aL (a.map gv) (iv n c))):=by
 refine b9 (E:=env) (fun _=>0) [(0,Pg a),(1,IV n c)] Tryz.func181 rfl (by kernel_rfl) (by kernel_rfl) (show 2≤9 by decide) (by simp) ?_
 have RZ:=ha.len
 refine W.c6 (fun K hK=>?_)
 simp (disch:=omega) [gA,wA]
 refine W.lv [2,3] hK fun J j=>?_;clear hK K;simp;refine j _ ?_;clear j J
 refine W.c6 (fun K hK=>?_)
 simp (disch:=omega) [gA,wA]
 refine aD (nI 241 rfl [.rd [Pg a], .rd [.bool n,us c]] rfl a.length (by omega) (fun k=>nth (a.map gv) k*iv n c) (fun k hk=>RX a ha n c hc k hk)) ?_
 simp (disch:=omega) [gA,wA]
 refine W.lv [4] hK fun J j=>?_;clear hK K;simp;refine j _ ?_;clear j J
 refine W.ret ?_
 have e:=yI (a.map gv) (fun a=>a*iv n c)
 rw [List.length_map]at e
 rw [e]
 simp [go,aL]
theorem R4(a b:List (Bool × List Int))(ha:mG a)(hb:mG b)(s s' n n':Nat)(hs:Bd LL s n (a.map gv))(BI:Bd LL s' n' (b.map gv))(hB:s+s'+n+n'<1099511627775) :
  aZ env.P 15 [Pg a,Pg b] (Po (bK (a.map gv) (b.map gv))):=by
 refine b9 (E:=env) (fun id=>if id=11 then 1 else 0) [(0,Pg a),(1,Pg b)] Tryz.func15 rfl (by kernel_rfl) (by kernel_rfl) (show 2≤62 by decide) (by simp) ?_
 refine W.c6 (fun K hK=>?_)
 simp (disch:=omega) [gA,wA]
 refine W.lv [0,1] hK fun J j=>?_;clear hK K;simp;refine j _ ?_;clear j J
 refine W.c6 (fun K hK=>?_)
 simp (disch:=omega) [gA,wA]
 refine aD (eE a ha) ?_
 simp (disch:=omega) [gA,wA]
 refine aD (eE b hb) ?_
 simp (disch:=omega) [gA,wA]
 refine W.lv [0,1] hK fun J j=>?_;clear hK K;simp;refine j _ ?_;clear j J
 have e:bK (a.map gv) (b.map gv)=bK (aG (a.map gv)) (aG (b.map gv)):=Cn.ext (Cn.bK _ _) (Cn.bK _ _) fun t=>by simp [cK,cD]
 rw [e]
 replace hs:=hs.cut
 replace BI:=BI.cut
 clear e ha hb
 generalize aG (a.map gv)=x at *
 generalize aG (b.map gv)=y at *
 have XV:=hs.len;have hly:=BI.len
 refine W.seq ?_
 refine W.fW (fun σ=>∃(b:Bool),σ=⟨fa [(0,Po x),(1,Po y),(21, .bool b)],fun _=>none,0⟩∧(b=true↔x = []∨y = [])) (fun K hK=>?_) ?_
 ·simp
  have e1:((x.length:Int)==0)=decide (x = []):=by
   cases x<;>simp<;>omega
  have e2:((y.length:Int)==0)=decide (y = []):=by
   cases y<;>simp<;>omega
  rw [e1]
  by_cases h0:x = []
  ·have e3:decide (x = [])=true:=by simp [h0]
   rw [e3]
   simp
   exact hK _ _ (aC _ [0,1,21]) ⟨_,rfl,by simp [h0]⟩
  ·have e3:decide (x = [])=false:=by simp [h0]
   rw [e3]
   simp
   exact hK _ _ (aC _ [0,1,21]) ⟨_,rfl,by rw [e2];simp [h0]⟩
 rintro _ ⟨b,rfl,hb⟩
 refine W.cond ⟨_,rfl,fun h=>?_,fun h=>?_⟩
 ·have e:bK x y = []:=by
   have h1:=hb.1 h
   refine Cn.ext (Cn.bK _ _) Cn.nil fun t=>?_
   rw [cK]
   rcases h1 with rfl | rfl<;>simp [V]
  refine W.c6 (fun K hK=>?_)
  simp (disch:=omega) [gA,wA]
  refine W.lv [4] hK fun J j=>?_;clear hK K;simp;refine j _ ?_;clear j J
  refine W.ret ?_
  simp [go,e]
  rfl
 ·have h1:¬(x = []∨y = []):=fun h2=>by simp [hb.2 h2]at h
  have vG:0<x.length:=List.length_pos_iff.2 fun h2=>h1 (.inl h2)
  have G6:0<y.length:=List.length_pos_iff.2 fun h2=>h1 (.inr h2)
  clear h hb h1
  refine W.skip ?_
  refine W.c6 (fun K hK=>?_)
  simp (disch:=omega) [gA,wA]
  refine W.lv [0,1,5] hK fun J j=>?_;clear hK K;simp;refine j _ ?_;clear j J
  have e0:((x.length:Int)+(y.length:Int)-1).toNat=x.length+y.length-1:=by omega
  refine W.row (id:=28) (emap ie (List.replicate (x.length+y.length-1) 0)) (by simp;exact⟨rfl,rfl,rfl,by omega⟩) (lS _) ?_
  refine W.seq ?_
  refine W.c6 (fun K hK=>?_)
  simp (disch:=omega) [gA,wA]
  refine W.lv [1,5,29,30,31] hK fun J j=>?_;clear hK K;simp;refine j _ ?_;clear j J
  refine W.block ?_
  refine W.a9 (fun k σ=>∃(i:Nat) (z:List Int) (ver:Nat) (rows:Pm.Rows) (clk:Nat),σ=⟨fa [(1,Po y),(5, .own 28 ver 0 (x.length+y.length-1)),(29,Po x),(30, .int .i64 x.length),(31, .int .i64 i)],rows,clk⟩ ∧
   rows 28=some ⟨ver,38,2,emap ie z⟩∧k=x.length-i∧i≤x.length∧z.length=x.length+y.length-1∧(∀j,sz LL (nth z j)≤s+s'+i) ∧
   ∀t,V t z=V t (x.take i)*V t y) x.length ?_ ?_
  ·refine⟨_, .refl,0,List.replicate (x.length+y.length-1) 0,_,_,_,rfl,by simp,by omega,by omega,by simp,fun j=>?_,fun t=>by simp [V,l9]⟩
   ·have:Bd LL 0 (x.length+y.length-1) (List.replicate (x.length+y.length-1) 0):=⟨by simp,fun c hc=>by rw [(List.mem_replicate.1 hc).2,iH];omega⟩
    have:=this.nth j
    omega
  rintro k _ ⟨i,z,ver,rows,clk,rfl,hr,hk,hi,hz,wR,hV⟩
  refine W.c6 (fun K hK=>?_)
  simp (disch:=omega) [gA,wA]
  refine W.lv [1,5,29,30,31,32] hK fun J j=>?_;clear hK K;simp;refine j _ ?_;clear j J
  refine W.seq ?_
  refine W.cond ⟨_,rfl,fun h=>?_,fun h=>?_⟩
  ·simp at h
   refine W.skip ?_
   refine W.seq ?_
   refine W.block ?_
   refine W.c6 (fun K hK=>?_)
   simp (disch:=omega) [gA,wA]
   refine W.lv [1,5,6,7,29,30,31] hK fun J j=>?_;clear hK K;simp;refine j _ ?_;clear j J
   refine W.c6 (fun K hK=>?_)
   simp (disch:=omega) [gA,wA]
   refine W.lv [1,5,6,7,29,30,31,36,37,38] hK fun J j=>?_;clear hK K;simp;refine j _ ?_;clear j J
   refine W.block ?_
   refine W.a9 (fun m σ=>∃(k:Nat) (z:List Int) (ver v7:Nat) (rows:Pm.Rows) (clk:Nat),σ=⟨fa [(1,Po y),(5, .own 28 ver 0 (x.length+y.length-1)),(6, .int .i64 i),(7, .ptr 7 v7 0 0),(29,Po x),(30, .int .i64 x.length),(31, .int .i64 i),(36,Po y),(37, .int .i64 y.length),(38, .int .i64 k)],rows,clk⟩ ∧
    rows 28=some ⟨ver,38,2,emap ie z⟩∧rows 7=some ⟨v7,38,2,[ie (nth x i)]⟩∧m=y.length-k∧k≤y.length∧z.length=x.length+y.length-1∧(∀j,sz LL (nth z j)≤s+s'+i+1)∧(∀j,i+k≤j→sz LL (nth z j)≤s+s'+i) ∧
    ∀t,V t z=V t (x.take i)*V t y+t^i*nth x i*V t (y.take k)) y.length ?_ ?_
   ·refine⟨_, .refl,0,z,ver,_,_,_,rfl,by simpa using hr,by simp,by omega,by omega,hz,fun j=>by have:=wR j;omega,fun j _=>wR j,fun t=>by simp [V,hV]⟩
   clear hV wR hz hr z ver rows clk
   rintro m _ ⟨k,z,ver,v7,rows,clk,rfl,hr,E7,hm,hky,hz,wR,G7,hV⟩
   refine W.c6 (fun K hK=>?_)
   simp (disch:=omega) [gA,wA]
   refine W.lv [1,5,6,7,29,30,31,36,37,38,39] hK fun J j=>?_;clear hK K;simp;refine j _ ?_;clear j J
   refine W.seq ?_
   refine W.cond ⟨_,rfl,fun h2=>?_,fun h2=>?_⟩
   ·simp at h2
    refine W.skip ?_
    refine W.seq ?_
    refine W.block ?_
    refine W.c6 (fun K hK=>?_)
    simp (disch:=omega) [gA,wA]
    refine W.lv [1,5,6,7,8,9,29,30,31,36,37,38] hK fun J j=>?_;clear hK K;simp;refine j _ ?_;clear j J
    have e1:((i:Int)+(k:Int)).toNat=i+k:=by omega
    refine W.CS (fun K hK=>?_)
    simp only [if_true]
    rw [eL]
    simp (disch:=omega) [gA,wA,hr,E7,e1]
    refine aD (sH (Nat.lt_of_le_of_lt (hs.nth i) (by omega)) (Nat.lt_of_le_of_lt (BI.nth k) (by omega))) ?_
    simp (disch:=omega) [gA,wA,hr,E7,e1]
    have E8:sz LL (nth x i*nth y k)≤s+s'+i:=Nat.le_trans (cZ eV (hs.nth i) (BI.nth k)) (by omega)
    have hm2:=pG eV (G7 (i+k) (Nat.le_refl _)) E8
    have hlz:i+k<z.length:=by omega
    refine aD (abl (Nat.lt_of_le_of_lt (G7 (i+k) (Nat.le_refl _)) (by omega)) (Nat.lt_of_le_of_lt E8 (by omega))) ?_
    simp (disch:=omega) [gA,wA,hr,E7,e1]
    refine W.lv [1,5,6,7,29,30,31,36,37,38] hK fun J j=>?_;clear hK K;simp;refine j _ ?_;clear j J
    refine W.cA (fun K hK=>?_)
    simp (disch:=omega) [gA,wA]
    refine hK _ ⟨y.length-(k+1),_,aC _ [1,5,6,7,29,30,31,36,37,38],by omega,k+1,z.set (i+k) (nth z (i+k)+nth x i*nth y k),ver,v7,_,_,rfl,by simp,by simp [E7],by omega,by omega,by simpa using hz,fun j=>?_,fun j hj=>?_,fun t=>?_⟩
    ·by_cases hj:i+k=j
     ·subst hj;rw [dI hlz];exact hm2
     ·rw [eM hj];exact wR j
    ·rw [eM (by omega)];exact G7 j (by omega)
    ·rw [yB hlz,aR h2,hV,Int.pow_add];grind
   ·simp at h2
    have rW:k=y.length:=by omega
    subst rW
    refine W.exit ?_;simp only [pX,if_true,if_false,reduceIte,Nat.reduceEqDiff]
    refine W.cA (fun K hK=>?_)
    simp (disch:=omega) [gA,wA]
    refine hK _ ⟨x.length-(i+1),_,aC _ [1,5,29,30,31],by omega,i+1,z,ver,_,_,rfl,hr,by omega,by omega,hz,fun j=>by have:=wR j;omega,fun t=>?_⟩
    rw [hV,aV (Nat.le_refl _),aR h];grind
  ·simp at h
   have oP:i=x.length:=by omega
   subst oP
   refine W.exit ?_;simp only [pX,if_true,if_false,reduceIte,Nat.reduceEqDiff]
   have pJ:=bA hz
   refine W.c6 (fun K hK=>?_)
   simp (disch:=omega) [gA,wA,hr,pJ]
   refine aD (qF z (by omega)) ?_
   simp (disch:=omega) [gA,wA]
   refine W.lv [4] hK fun J j=>?_;clear hK K;simp;refine j _ ?_;clear j J
   refine W.ret ?_
   have e:aG z=bK x y:=by
    refine Cn.ext (Cn.cut _) (Cn.bK _ _) fun t=>?_
    rw [cD,hV,cK,aV (Nat.le_refl _)]
   simp [go,e]
theorem aor{S:ByteArray}{kk:IntKind}{k:Nat}{K:PV→Prop}(h:(List.range 256).all (fun x=>decide ((S[x]?).map (fun b=>b.toNat)=some (nb x)))=true)(hk:k<256)(hK:go (K (.int .u8 (nb k)))):aT (fun v=>o8 env .str (.str S) (.int kk (k:Int)) v) K:=by
 have h1:=List.all_eq_true.1 h k (by simpa using hk)
 simp only [decide_eq_true_eq]at h1
 obtain⟨b,hb,h2⟩:=Option.map_eq_some_iff.1 h1
 refine⟨_,⟨by omega,b,by simpa using hb,rfl⟩,?_⟩
 rw [h2];exact hK
theorem yJ(n:Int)(h0:0≤n)(h1:n<4294967296):aZ env.P 267 [.int .u32 n] (.int .i64 (nb n.toNat)):=by
 refine b9 (E:=env) (fun _=>0) [(0, .int .u32 n)] Tryz.func267 rfl (by kernel_rfl) (by kernel_rfl) (show 1≤19 by decide) (by simp) ?_
 refine W.c6 (fun K hK=>?_)
 simp (disch:=omega) [gA,wA]
 refine W.lv [0,2] hK fun J j=>?_;clear hK K;simp;refine j _ ?_;clear j J
 refine W.gK (fun σ=>∃(k:Nat) (x:Nat) (rows:Pm.Rows) (clk:Nat),σ=⟨fa [(0, .int .u32 x),(2, .int .i64 k)],rows,clk⟩∧nb n.toNat=k+nb x∧x<65536∧k≤16) ?_ ?_
 ·
  refine W.c6 (fun K hK=>?_)
  simp (disch:=omega) [gA,wA]
  refine W.lv [0,2,4] hK fun J j=>?_;clear hK K;simp;refine j _ ?_;clear j J
  refine W.cond ⟨_,rfl,fun h=>?_,fun h=>?_⟩
  ·simp at h
   refine W.c6 (fun K hK=>?_)
   simp (disch:=omega) [gA,wA]
   refine W.lv [0] hK fun J j=>?_;clear hK K;simp;refine j _ ?_;clear j J
   refine W.cA (fun K hK=>?_)
   simp (disch:=omega) [gA,wA]
   refine hK _ ⟨_,Gh.fr [(0, .int .u32 ((n.toNat/65536:Nat):Int)),(2, .int .i64 16)] (by simp;rw [Int.fdiv_eq_ediv_of_nonneg _ (by decide)];omega),16,n.toNat/65536,_,_,rfl,?_,by omega,by omega⟩
   exact CY (k:=16) (by simp;omega)
  ·simp at h
   refine W.skip ?_
   refine⟨_,Gh.fr [(0, .int .u32 (n.toNat:Int)),(2, .int .i64 0)] (by simp;omega),0,n.toNat,_,_,rfl,by simp,by omega,by omega⟩
 rintro _ ⟨k,x,rows,clk,rfl,hn,hx,hk⟩
 refine W.gK (fun σ=>∃(k:Nat) (x:Nat) (rows:Pm.Rows) (clk:Nat),σ=⟨fa [(0, .int .u32 x),(2, .int .i64 k)],rows,clk⟩∧nb n.toNat=k+nb x∧x<256∧k≤24) ?_ ?_
 ·
  refine W.c6 (fun K hK=>?_)
  simp (disch:=omega) [gA,wA]
  refine W.lv [0,2,8] hK fun J j=>?_;clear hK K;simp;refine j _ ?_;clear j J
  refine W.cond ⟨_,rfl,fun h=>?_,fun h=>?_⟩
  ·simp at h
   refine W.c6 (fun K hK=>?_)
   simp (disch:=omega) [gA,wA]
   refine W.lv [0,2] hK fun J j=>?_;clear hK K;simp;refine j _ ?_;clear j J
   refine W.cA (fun K hK=>?_)
   simp (disch:=omega) [gA,wA]
   refine hK _ ⟨_,Gh.fr [(0, .int .u32 ((x/256:Nat):Int)),(2, .int .i64 ((k+8:Nat):Int))] (by simp;exact Int.fdiv_eq_ediv_of_nonneg _ (by decide)),k+8,x/256,_,_,rfl,?_,by omega,by omega⟩
   have:=CY (n:=x) (k:=8) (by simp;omega)
   simp at this
   omega
  ·simp at h
   refine W.skip ?_
   refine⟨_,aC _ [0,2],k,x,_,_,rfl,hn,by omega,by omega⟩
 rintro _ ⟨k,x,rows,clk,rfl,hn,hx,hk⟩
 refine W.c6 (fun K hK=>?_)
 have hw:IntKind.u8.wrap (x:Int)=x:=wrap_u8 (by omega) (by omega)
 have hz:nb x≤8:=mA.2 hx
 simp only [I5,zS,I6,LU,GX,uT,zI,GB,if_true,if_false,reduceIte,Nat.reduceEqDiff,aec,ajU,oM,aaG,hw,CN,reduceCtorEq]
 refine aor (by kernel_rfl) hx ?_
 simp (disch:=omega) only [zS,QI,x8,QY,I6,uT,zI,GB,if_true,if_false,reduceIte,Nat.reduceEqDiff,an1,ajU,oM,aaG,wrap_i64,yZ,gR,WR,reduceCtorEq,true_and]
 refine W.lv [2] hK fun J j=>?_;clear hK K;simp;refine j _ ?_;clear j J
 refine W.ret ?_
 rw [hn]
 simp [go]
def bl(l:List Int):Int:=if l = []then 0 else 32*((l.length:Int)-1)+nb (nth l (l.length-1)).toNat
theorem R5(l:List Int)(h:lR l):aZ env.P 257 [us l] (.int .i64 (bl (aG l))):=by
 refine b9 (E:=env) (fun _=>0) [(0,us l)] Tryz.func257 rfl (by kernel_rfl) (by kernel_rfl) (show 1≤20 by decide) (by simp) ?_
 have hl:=h.len
 have N9:=bN l
 have hL:=c9 h.tE
 refine W.c6 (fun K hK=>?_)
 simp (disch:=omega) [gA,wA]
 refine W.lv [0] hK fun J j=>?_;clear hK K;simp;refine j _ ?_;clear j J
 refine W.c6 (fun K hK=>?_)
 simp (disch:=omega) [gA,wA]
 refine aD (cN l (by omega)) ?_
 simp (disch:=omega) [gA,wA]
 refine W.lv [0] hK fun J j=>?_;clear hK K;simp;refine j _ ?_;clear j J
 generalize aG l=x at *
 refine W.seq ?_
 refine W.c6 (fun K hK=>?_)
 simp (disch:=omega) [gA,wA]
 refine W.lv [0,7] hK fun J j=>?_;clear hK K;simp;refine j _ ?_;clear j J
 refine W.cond ⟨_,rfl,fun h=>?_,fun h=>?_⟩
 ·have h0:x = []:=by simpa using h
  refine W.c6 (fun K hK=>?_)
  simp (disch:=omega) [gA,wA]
  refine W.lv [2] hK fun J j=>?_;clear hK K;simp;refine j _ ?_;clear j J
  refine W.ret ?_
  simp [go,bl,h0]
 ·have h0:0<x.length:=List.length_pos_iff.2 (by simpa using h)
  have hx:=hL.nth (i:=x.length-1) (by omega)
  have e:((x.length:Int)-1).toNat=x.length-1:=by omega
  have hz:nb (nth x (x.length-1)).toNat≤32:=mA.2 (by omega)
  refine W.skip ?_
  refine W.c6 (fun K hK=>?_)
  simp (disch:=omega) [gA,wA,e]
  refine aD (yJ _ hx.1 hx.2) ?_
  simp (disch:=omega) [gA,wA]
  refine W.lv [2] hK fun J j=>?_;clear hK K;simp;refine j _ ?_;clear j J
  refine W.ret ?_
  have h1:x ≠ []:=fun h2=>by simp [h2]at h0
  simp [go,bl,h1]
theorem XW{l:List Int}(h:b6 4294967296 l)(hc:aG l=l):bl l=0↔V 4294967296 l=0:=by
 unfold bl
 split
 ·rename_i h0;subst h0;simp [V]
 ·rename_i h0
  have h1:=j2 (by decide) h hc h0
  have h2:0<(4294967296:Int)^(l.length-1):=Int.pow_pos (by decide)
  have h3:0<l.length:=List.length_pos_iff.2 h0
  have h4:=h.nth (i:=l.length-1) (by omega)
  have h5:nth l (l.length-1)≠0:=by
   intro h6
   have e:l=l.take (l.length-1) ++ [0]:=by
    conv=>lhs;rw [←List.take_length (l:=l)]
    rw [←h6,←aU (by omega),show l.length-1+1=l.length by omega]
   rw [e,gT]at hc
   have:=congrArg List.length hc
   have:=bN (l.take (l.length-1))
   simp at *
   omega
  have h6:nb (nth l (l.length-1)).toNat≠0:=by
   intro h7
   have:=mA.1 (Nat.le_of_eq h7)
   simp at this;omega
  omega
theorem DB(n:Bool)(l:List Int)(h:lR l):aZ env.P 218 [IV n l] (.int .i64 (iv n l).sign):=by
 refine b9 (E:=env) (fun _=>0) [(0,IV n l)] Tryz.func218 rfl (by kernel_rfl) (by kernel_rfl) (show 1≤11 by decide) (by simp) ?_
 have hz:=XW (c9 h.tE) (cR l)
 have hp:=nH h
 rw [cD]at hz
 refine W.c6 (fun K hK=>?_)
 simp (disch:=omega) [gA,wA]
 refine W.lv [1] hK fun J j=>?_;clear hK K;simp;refine j _ ?_;clear j J
 refine W.seq ?_
 refine W.block ?_
 refine W.c6 (fun K hK=>?_)
 simp (disch:=omega) [gA,wA]
 refine aD (R5 l h) ?_
 simp (disch:=omega) [gA,wA]
 refine W.lv [1,3] hK fun J j=>?_;clear hK K;simp;refine j _ ?_;clear j J
 refine W.cond ⟨_,rfl,fun hb=>?_,fun hb=>?_⟩
 ·have h0:V 4294967296 l=0:=hz.1 (by simpa using hb)
  refine W.c6 (fun K hK=>?_)
  simp (disch:=omega) [gA,wA]
  refine W.lv [2] hK fun J j=>?_;clear hK K;simp;refine j _ ?_;clear j J
  refine W.ret ?_
  simp [go,iv,h0]
 ·have h0:0<V 4294967296 l:=by
   have:V 4294967296 l≠0:=fun h1=>by simp [hz.2 h1]at hb
   omega
  refine W.c6 (fun K hK=>?_)
  simp (disch:=omega) [gA,wA]
  refine W.lv [8] hK fun J j=>?_;clear hK K;simp;refine j _ ?_;clear j J
  refine W.cond ⟨_,rfl,fun hn=>?_,fun hn=>?_⟩
  ·subst hn
   refine W.c6 (fun K hK=>?_)
   simp (disch:=omega) [gA,wA]
   refine W.lv [2] hK fun J j=>?_;clear hK K;simp;refine j _ ?_;clear j J
   refine W.ret ?_
   have:(- V 4294967296 l).sign = -1:=Int.sign_eq_neg_one_of_neg (by omega)
   simp [go,iv,this]
  ·subst hn
   refine W.skip ?_
   refine W.c6 (fun K hK=>?_)
   simp (disch:=omega) [gA,wA]
   refine W.lv [2] hK fun J j=>?_;clear hK K;simp;refine j _ ?_;clear j J
   refine W.ret ?_
   have:(V 4294967296 l).sign=1:=Int.sign_eq_one_of_pos h0
   simp [go,iv,this]
theorem L6{x y:Int}(h:x.sign<y.sign):iG x y = -1:=by
 apply lM
 rcases Int.lt_trichotomy x 0 with h1 | h1 | h1<;>rcases Int.lt_trichotomy y 0 with h2 | h2 | h2<;>first | omega | (simp [Int.sign_eq_neg_one_of_neg,Int.sign_eq_one_of_pos,h1,h2]at h)
theorem G8{x y:Int}(h:y.sign<x.sign):iG x y=1:=by
 apply lN
 rcases Int.lt_trichotomy x 0 with h1 | h1 | h1<;>rcases Int.lt_trichotomy y 0 with h2 | h2 | h2<;>first | omega | (simp [Int.sign_eq_neg_one_of_neg,Int.sign_eq_one_of_pos,h1,h2]at h)
theorem AF(x y:Int):iG (-x) (-y)=iG y x:=by simp only [iG];split<;>split<;>(try split)<;>(try split)<;>omega
theorem R6(n m:Bool)(l k:List Int)(h:lR l)(h':lR k):aZ env.P 144 [IV n l,IV m k] (.int .i64 (iG (iv n l) (iv m k))):=by
 refine b9 (E:=env) (fun _=>0) [(0,IV n l),(1,IV m k)] Tryz.func144 rfl (by kernel_rfl) (by kernel_rfl) (show 2≤32 by decide) (by simp) ?_
 have p1:=nH h;have p2:=nH h'
 refine W.c6 (fun K hK=>?_)
 simp (disch:=omega) [gA,wA]
 refine W.lv [2,3] hK fun J j=>?_;clear hK K;simp;refine j _ ?_;clear j J
 refine W.Q3 (fun K hK=>?_)
 simp (disch:=omega) [gA,wA]
 refine aD (DB n l h) ?_
 simp (disch:=omega) [gA,wA]
 refine aD (DB m k h') ?_
 simp (disch:=omega) [gA,wA]
 refine W.lv [2,3,5,6] hK fun J j=>?_;clear hK K;simp;refine j _ ?_;clear j J
 refine W.seq ?_
 refine W.block ?_
 refine W.c6 (fun K hK=>?_)
 simp (disch:=omega) [gA,wA]
 refine W.lv [2,3,5,6,11] hK fun J j=>?_;clear hK K;simp;refine j _ ?_;clear j J
 refine W.cond ⟨_,rfl,fun h1=>?_,fun h1=>?_⟩
 ·refine W.c6 (fun K hK=>?_)
  simp (disch:=omega) [gA,wA]
  refine W.lv [4] hK fun J j=>?_;clear hK K;simp;refine j _ ?_;clear j J
  refine W.ret ?_
  simp [go,L6 (of_decide_eq_true h1)]
 ·have h1:=of_decide_eq_false h1
  refine W.c6 (fun K hK=>?_)
  simp (disch:=omega) [gA,wA]
  refine W.lv [2,3,5,15] hK fun J j=>?_;clear hK K;simp;refine j _ ?_;clear j J
  refine W.cond ⟨_,rfl,fun h2=>?_,fun h2=>?_⟩
  ·refine W.c6 (fun K hK=>?_)
   simp (disch:=omega) [gA,wA]
   refine W.lv [4] hK fun J j=>?_;clear hK K;simp;refine j _ ?_;clear j J
   refine W.ret ?_
   simp [go,G8 (of_decide_eq_true h2)]
  ·have h2:=of_decide_eq_false h2
   have h3:(iv n l).sign=(iv m k).sign:=by omega
   refine W.c6 (fun K hK=>?_)
   simp (disch:=omega) [gA,wA]
   refine W.lv [2,3,19] hK fun J j=>?_;clear hK K;simp;refine j _ ?_;clear j J
   refine W.cond ⟨_,rfl,fun h4=>?_,fun h4=>?_⟩
   ·have h4:iv n l<0:=by simpa using of_decide_eq_true h4
    have h5:iv m k<0:=by
     rw [Int.sign_eq_neg_one_of_neg h4]at h3
     exact Int.sign_eq_neg_one_iff_neg.1 h3.symm
    have en:n=true:=by cases n;(· simp [iv]at h4;omega);rfl
    have em:m=true:=by cases m;(· simp [iv]at h5;omega);rfl
    subst en;subst em
    refine W.c6 (fun K hK=>?_)
    simp (disch:=omega) [gA,wA]
    refine aD (AB k l h'.len h.len h'.tE h.tE) ?_
    simp (disch:=omega) [gA,wA]
    refine W.lv [4] hK fun J j=>?_;clear hK K;simp;refine j _ ?_;clear j J
    refine W.ret ?_
    simp [go,iv,AF]
   ·have h4:0≤iv n l:=by simpa using of_decide_eq_false h4
    have e1:iv n l=V 4294967296 l:=by
     cases n
     ·simp [iv]
     ·simp [iv]at h4 ⊢;omega
    have h5:0≤iv m k:=by
     have:0≤(iv n l).sign:=Int.sign_nonneg_iff.2 h4
     rw [h3]at this
     exact Int.sign_nonneg_iff.1 this
    have e2:iv m k=V 4294967296 k:=by
     cases m
     ·simp [iv]
     ·simp [iv]at h5 ⊢;omega
    refine W.skip ?_
    refine W.c6 (fun K hK=>?_)
    simp (disch:=omega) [gA,wA]
    refine aD (AB l k h.len h'.len h.tE h'.tE) ?_
    simp (disch:=omega) [gA,wA]
    refine W.lv [4] hK fun J j=>?_;clear hK K;simp;refine j _ ?_;clear j J
    refine W.ret ?_
    simp [go,e1,e2]
theorem abo{x y:Int}(hx:Sz x)(hy:Sz y):aZ env.P 144 [I x,I y] (.int .i64 (iG x y)):=by
 have:=R6 (decide (x<0)) (decide (y<0)) (a5 LL x.natAbs) (a5 LL y.natAbs) hx.L4 hy.L4
 rwa [qG,qG]at this
abbrev RP:=List (Bool × List Int)
def aO(n:Int):List PV:=[.int .i64 n]
def pe(p:RP):List PV:=[Pg p]
def me(r:List RP):List PV:=[aX pe r]
@[simp] theorem ajY{n:Int}:aO n = [.int .i64 n]:=rfl
@[simp] theorem aos{p:RP}:pe p = [Pg p]:=rfl
@[simp] theorem aot{p:List RP}:me p = [aX pe p]:=rfl
@[simp] theorem abp{l:List Int}:a8 1 (emap aO l)=True:=bQ fun _=>rfl
@[simp] theorem agI{l:List RP}:a8 1 (emap pe l)=True:=bQ fun _=>rfl
@[simp] theorem agJ{l:List (List RP)}:a8 1 (emap me l)=True:=bQ fun _=>rfl
@[simp] theorem XX{v e n:Nat}{l:List Int}:cB (some ⟨v,e,n,emap aO l⟩)=True:=bR fun _=>rfl
@[simp] theorem aeg{v e n:Nat}{l:List RP}:cB (some ⟨v,e,n,emap pe l⟩)=True:=bR fun _=>rfl
@[simp] theorem aeh{v e n:Nat}{l:List (List RP)}:cB (some ⟨v,e,n,emap me l⟩)=True:=bR fun _=>rfl
@[simp] theorem aou{l:RP}{n:Bool}{m:List Int}:emap ge l ++ [[.bool n,us m]]=emap ge (l ++ [(n,m)]):=by simp [emap]
@[simp] theorem aov{l:List Int}{x:Int}:emap ie l ++ [[.bool (decide (x<0)),us (a5 LL x.natAbs)]]=emap ie (l ++ [x]):=by simp [emap]
@[simp] theorem aow{l:List RP}{p:RP}:emap pe l ++ [[aX ge p]]=emap pe (l ++ [p]):=by simp [emap]
@[simp] theorem aox{l:List (List RP)}{p:List RP}:emap me l ++ [[aX pe p]]=emap me (l ++ [p]):=by simp [emap]
def fP(p:RP):List Int:=aG (p.map gv)
theorem JE(l:List Int)(hl:l.length<1099511627776)(hb:∀x∈l, -9223372036854775808≤x∧x<9223372036854775808):aZ env.P 11 [aX aO l] (Po (aG l)):=by
 refine cL [(0,aX aO l)] Tryz.func11 ?_
 refine aB [0] ?_
 refine aB [0,3] ?_
 refine W.row (id:=8) (emap ie (List.replicate l.length 0)) (by simp;exact⟨rfl,rfl,rfl⟩) (lS _) ?_
 refine aQ [3,9,10,11] ?_
 refine W.block ?_
 refine W.a9 (fun k σ=>∃(i:Nat) (z:List Int) (ver:Nat) (rows:Pm.Rows) (clk:Nat),σ=⟨fa [(3, .own 8 ver 0 l.length),(9,aX aO l),(10, .int .i64 l.length),(11, .int .i64 i)],rows,clk⟩ ∧
  rows 8=some ⟨ver,38,2,emap ie z⟩∧k=l.length-i∧i≤l.length∧z.length=l.length∧z.take i=l.take i) l.length ?_ ?_
 ·exact⟨_, .refl,0,List.replicate l.length 0,_,_,_,rfl,by simp,by omega,by omega,by simp,by simp⟩
 rintro k _ ⟨i,z,ver,rows,clk,rfl,hr,hk,hi,hz,hv⟩
 refine cH [3,9,10,11,12] ?_
 refine W.cond ⟨_,rfl,fun jH=>?_,fun jH=>?_⟩
 ·simp at jH
  refine iS ?_
  refine W.sr ?_
  simp (disch:=omega) [gw,hr]
  refine bF [3,4,5,9,10,11] ?_
  refine W.cA (fun K hK=>?_)
  simp (disch:=omega) [gw,hr]
  refine aD (rM _ (hb _ (cP jH)).1 (hb _ (cP jH)).2) ?_
  simp (disch:=omega) [gw,hr]
  refine W.lw [3,9,10,11] hK ?_;clear hK K;simp
  refine W.cA (fun K hK=>?_)
  simp (disch:=omega) [gw]
  refine hK _ ⟨l.length-(i+1),_,aC _ [3,9,10,11],by omega,i+1,z.set i (nth l i),ver,_,_,rfl,by simp,by omega,by omega,by simpa using hz,?_⟩
  rw [jC hv (by omega),aU jH]
 ·simp at jH
  have oP:i=l.length:=by omega
  subst oP
  refine eH ?_
  rw [bA hz,bA rfl]at hv
  have pJ:=bA hz
  refine W.sr ?_
  simp (disch:=omega) [gw,hr,pJ]
  refine aD (qF z (by omega)) ?_
  simp (disch:=omega) [gw]
  refine bF [2] ?_
  refine W.ret ?_
  simp [go,hv]
abbrev DD:Nat:=10000
theorem E9:2≤DD:=by decide
abbrev Dn(x:Int):PV:=aX aO (a5 DD x.toNat)
theorem pL{l:List Int}(h:b6 10000 l):aX aO (aG l)=Dn (V 10000 l):=by rw [m9 E9 h];rfl
@[simp] theorem ami{n:Nat}:List.replicate n [PV.int .i64 0]=emap aO (List.replicate n 0):=by simp [emap]
@[simp] theorem aei{l:List Int}{i:Nat}{x:Int}:fO (emap aO l) i 0 [.int .i64 x]=emap aO (l.set i x):=tL (n:=1) (fun _=>rfl)
@[simp] theorem ajZ{l:List Int}{x:Int}:emap aO l ++ [[.int .i64 x]]=emap aO (l ++ [x]):=by simp [emap]
theorem k5(l:List Int)(hl:l.length<17592186044416):aZ env.P 211 [aX aO l] (aX aO (aG l)):=by
 refine cL [(0,aX aO l)] Tryz.func211 ?_
 refine aB [0] ?_
 refine aB [0,3] ?_
 refine W.seq (W.block ?_)
 refine W.a9 (fun k σ=>∃(rows:Pm.Rows) (clk:Nat),σ=⟨fa [(0,aX aO l),(3, .int .i64 (k:Int))],rows,clk⟩∧k≤l.length∧aG l=aG (l.take k)) l.length ?_ ?_
 ·exact⟨_, .refl,_,_,rfl,by omega,by simp⟩
 rintro k _ ⟨rows,clk,rfl,hk,hc⟩
 refine W.seq ?_
 refine W.fW (fun σ=>∃(b:Bool),σ=⟨fa [(0,aX aO l),(3, .int .i64 (k:Int)),(15, .bool b)],rows,clk⟩∧(b=true↔0<k∧nth l (k-1)=0)) (fun K hK=>?_) ?_
 ·simp
  by_cases h0:0<k
  ·simp (disch:=omega) [gw,h0]
   exact hK _ _ (aC _ [0,3,15]) ⟨_,rfl,by simp [h0]⟩
  ·simp (disch:=omega) [gw,h0]
   exact hK _ _ (aC _ [0,3,15]) ⟨_,rfl,by simp [h0]⟩
 rintro _ ⟨b,rfl,hb⟩
 refine bO ?_ ?_<;>intro h
 ·obtain⟨h0,h1⟩:=hb.1 h
  refine W.skip (W.block ?_)
  refine W.cA (fun K hK=>?_)
  simp (disch:=omega) [gw]
  refine hK _ ⟨k-1,_,Gh.fr [(0,_),(3, .int .i64 ((k-1:Nat):Int))] (by simp;omega),by omega,_,_,rfl,by omega,?_⟩
  rw [hc,show k=(k-1)+1 by omega,aU (by omega),h1,gT]
  simp
 ·have h2:aG l=l.take k:=by
   rw [hc]
   by_cases h0:0<k
   ·have h1:nth l (k-1)≠0:=fun h1=>by simp [hb.2 ⟨h0,h1⟩]at h
    rw [show k=(k-1)+1 by omega,aU (by omega)]
    exact fA h1 _
   ·have:k=0:=by omega
    subst this;simp [aG]
  refine eH ?_
  refine aB [2] ?_
  refine W.ret ?_
  simp [h2]
theorem HA(a:List Int)(m c0:Int)(ha:a.length<1099511627776)(la:b6 10000 a)(E5:0≤m)(E8:m≤65536)(yG:0≤c0)(wP:c0≤65536) :
  aZ env.P 210 [aX aO a, .int .i64 m, .int .i64 c0] (Dn (V 10000 a*m+c0)):=by
 refine cL [(0,aX aO a),(1, .int .i64 m),(2, .int .i64 c0)] Tryz.func210 ?_
 refine aB [0,1,2] ?_
 refine aB [0,1,2,7] ?_
 refine aQ [0,1,2,7,8] ?_
 refine W.block ?_
 refine W.a9 (fun k σ=>∃(i:Nat) (c:Int) (z:List Int) (ver:Nat) (rows:Pm.Rows) (clk:Nat),σ=⟨fa [(0,aX aO a),(1, .int .i64 m),(2, .int .i64 c),(7, .own 12 ver 0 i),(8, .int .i64 i)],rows,clk⟩ ∧
  rows 12=some ⟨ver,3,1,emap aO z⟩∧k=(a.length-i)*1000000+c.toNat∧z.length=i∧(i≤a.length∨i+c≤a.length+65536)∧b6 10000 z∧0≤c∧c≤65536 ∧
  V 10000 z+10000^i*c=V 10000 (a.take i)*m+c0) (a.length*1000000+c0.toNat) ?_ ?_
 ·exact⟨_, .refl,0,c0,[],_,_,_,rfl,by simp [emap],by simp,rfl,by omega,b6.nil,yG,wP,by simp [V]⟩
 rintro k _ ⟨i,c,z,ver,rows,clk,rfl,hr,hk,hz,hi,lz,h0,h1,hV⟩
 refine W.seq ?_
 refine W.fW (fun σ=>∃(b:Bool),σ=⟨fa [(0,aX aO a),(1, .int .i64 m),(2, .int .i64 c),(7, .own 12 ver 0 i),(8, .int .i64 i),(20, .bool b)],rows,clk⟩∧(b=true↔i<a.length∨0<c)) (fun K hK=>?_) ?_
 ·simp
  by_cases h2:i<a.length
  ·simp (disch:=omega) [gw,h2]
   exact hK _ _ (aC _ [0,1,2,7,8,20]) ⟨_,rfl,by simp [h2]⟩
  ·simp (disch:=omega) [gw,h2]
   exact hK _ _ (aC _ [0,1,2,7,8,20]) ⟨_,rfl,by simp [h2]⟩
 rintro _ ⟨b,rfl,hb⟩
 refine bO ?_ ?_<;>intro h
 ·have hb:=hb.1 h
  refine iS ?_
  refine W.gK (fun σ=>∃(s:Int),σ=⟨fa [(0,aX aO a),(1, .int .i64 m),(2, .int .i64 s),(7, .own 12 ver 0 i),(8, .int .i64 i)],rows,clk⟩∧0≤s∧s≤655360000∧(a.length≤i→s=c) ∧
   V 10000 z+10000^i*s=V 10000 (a.take (i+1))*m+c0) ?_ ?_
  ·
   refine aB [0,1,2,7,8,26] ?_
   refine bO ?_ ?_<;>intro h
   ·simp at h
    have hn:=la.nth h
    have h2:0≤nth a i*m:=Int.mul_nonneg hn.1 E5
    have h3:nth a i*m≤9999*65536:=Int.mul_le_mul (by omega) E8 E5 (by omega)
    refine W.cA (fun K hK=>?_);simp (disch:=omega) [gw]
    refine hK _ ⟨_,aC _ [0,1,2,7,8],_,rfl,by omega,by omega,by omega,?_⟩
    rw [aR h,Int.mul_add,Int.add_mul]
    grind
   ·simp at h
    refine W.skip ?_
    refine⟨_,aC _ [0,1,2,7,8],_,rfl,by omega,by omega,fun _=>rfl,?_⟩
    rw [aV (by omega)]
    rw [aV (by omega)]at hV
    exact hV
  rintro _ ⟨s,rfl,XR,xF,hsc,hsV⟩
  refine W.sr ?_
  simp (disch:=omega) [gw,hr,hz]
  refine bF [0,1,2,7,8] ?_
  refine W.cA (fun K hK=>?_);simp (disch:=omega) [gw];refine W.lw [0,1,2,7,8] hK ?_;clear hK K;simp
  refine W.cA (fun K hK=>?_);simp (disch:=omega) [gw]
  refine hK _ ⟨(a.length-(i+1))*1000000+(s/10000).toNat,_,aC _ [0,1,2,7,8],by omega,i+1,s/10000,z ++ [s%10000],_,_,_,rfl,by simp,rfl,by simp [hz],by omega,b6.append.2 ⟨lz,b6.cons.2 ⟨by omega,b6.nil⟩⟩,by omega,by omega,?_⟩
  rw [c8,kD,hz,←hsV,Int.pow_succ]
  have:=Int.emod_add_mul_ediv s 10000
  grind
 ·have hb:¬(i<a.length∨0<c):=fun h2=>by simp [hb.2 h2]at h
  have hc:c=0:=by omega
  subst hc
  refine eH ?_
  have ez:z.take i=z:=bA hz
  refine W.sr ?_
  simp (disch:=omega) [gw,hr,hz,ez]
  refine aD (k5 z (by omega)) ?_
  simp (disch:=omega) [gw]
  refine bF [6] ?_
  refine W.ret ?_
  rw [aV (by omega)]at hV
  have e:V 10000 z=V 10000 a*m+c0:=by simpa using hV
  rw [←e,←pL lz]
  simp
abbrev Z(x:Int):Prop:=sz 2 x<1099511627776
theorem tM{b:Nat}(hb:2≤b)(x:Int):sz b x≤sz 2 x:=by
 refine cX hb (Nat.lt_of_lt_of_le (sF (b:=2) (by decide) x) ?_)
 exact Nat.pow_le_pow_left hb _
theorem aek(y:Int):(a5 DD y.natAbs).length≤sz 2 y:=tM E9 y
theorem iL{y:Int}(h:0≤y):(a5 DD y.toNat).length≤sz 2 y:=by
 have:=aek y
 rwa [show y.natAbs=y.toNat by omega]at this
theorem qH{y:Int}(h:0≤y):V 10000 (a5 DD y.toNat)=y:=by
 have:=iT E9 y.toNat
 simp only [show((DD:Nat):Int)=10000 from rfl]at this
 rw [this];omega
theorem aj1(y:Int):V 10000 (a5 DD y.natAbs)=y.natAbs:=by
 have:=iT E9 y.natAbs
 simpa only [show((DD:Nat):Int)=10000 from rfl]using this
theorem jJ(n:Nat):b6 10000 (a5 DD n):=eN E9 n
theorem aj2(n:Nat):V 4294967296 (a5 LL n)=n:=by
 have:=iT eV n
 simpa only [show((LL:Nat):Int)=4294967296 from rfl]using this
theorem nJ(y m c:Int)(hy:0≤y)(hz:Z y)(E5:0≤m)(E8:m≤65536)(yG:0≤c)(wP:c≤65536):aZ env.P 210 [Dn y, .int .i64 m, .int .i64 c] (Dn (y*m+c)):=by
 have:=HA (a5 DD y.toNat) m c (by have:=iL hy;omega) (jJ _) E5 E8 yG wP
 rwa [qH hy]at this
abbrev RI(x:Int):PV:=.ag [aX aO (a5 DD x.natAbs), .bool (decide (x<0))]
theorem n6(y:Int)(hy:0≤y)(neg:Bool):aZ env.P 68 [Dn y, .bool neg] (RI (if neg=true then -y else y)):=by
 refine cL [(0,Dn y),(1, .bool neg)] Tryz.func68 ?_
 refine aB [0,1,4] ?_
 have e0:(a5 DD y.toNat = [])↔y=0:=by rw [dF E9];omega
 have e:RI (if neg=true then -y else y) = .ag [Dn y, .bool (neg&&decide (0<(a5 DD y.toNat).length))]:=by
  have h1:0<(a5 DD y.toNat).length↔y≠0:=by
   rw [List.length_pos_iff];simp [e0]
  have e2:(if neg=true then -y else y).natAbs=y.toNat:=by split<;>omega
  have e3:(decide ((if neg=true then -y else y)<0))=(neg&&decide (0<(a5 DD y.toNat).length)):=by
   cases neg
   ·simp only [Bool.false_and,Bool.false_eq_true,if_false,decide_eq_false_iff_not];omega
   ·simp only [Bool.true_and,if_true,h1];congr 1;apply propext;omega
  rw [RI,e2,e3]
 rw [e]
 refine W.c6 (fun K hK=>?_)
 cases neg
 ·simp (disch:=omega) [gw]
  refine W.lw [4] hK ?_;clear hK K;simp
  exact cV
 ·simp (disch:=omega) [gw]
  refine W.lw [4] hK ?_;clear hK K;simp
  exact cV
theorem R7(n:Nat)(hn:n<1099511627776):aZ env.P 128 [.int .i64 n] (Dn (2^n)):=by
 refine cL [(0, .int .i64 n)] Tryz.func128 ?_
 refine aB [0] ?_
 refine aB [0,3] ?_
 refine W.anV 3 [[.int .i64 1]] (Dn 1) (by simp) rfl (fun K hK=>?_)
 refine W.lw [0,3] hK ?_;clear hK K;simp
 refine aQ [0,3,4] ?_
 refine W.block ?_
 refine W.a9 (fun k σ=>∃(i:Nat) (rows:Pm.Rows) (clk:Nat),σ=⟨fa [(0, .int .i64 n),(3,Dn (2^i)),(4, .int .i64 i)],rows,clk⟩∧k=n-i∧i≤n) n ?_ ?_
 ·exact⟨_, .refl,0,_,_,rfl,by omega,by omega⟩
 rintro k _ ⟨i,rows,clk,rfl,hk,hi⟩
 refine aQ [0,3,4,8] ?_
 refine bO ?_ ?_<;>intro h
 ·simp at h
  have hs:sz 2 (2^i)≤i+1:=by
   refine cX (by decide) ?_
   rw [show((2:Int)^i)=((2^i:Nat):Int)by simp,Int.natAbs_natCast,Nat.pow_succ]
   have:=Nat.pow_pos (n:=i) (show 0<2 by decide)
   omega
  refine iS ?_
  refine W.cA (fun K hK=>?_)
  simp (disch:=omega) [gw]
  refine aD (nJ (2^i) 2 0 (Int.le_of_lt (Int.pow_pos (by decide))) (by omega) (by decide) (by decide) (by decide) (by decide)) ?_
  simp (disch:=omega) [gw]
  refine W.lw [0,3,4] hK ?_;clear hK K;simp
  refine W.cA (fun K hK=>?_);simp (disch:=omega) [gw]
  refine hK _ ⟨n-(i+1),_,Gh.fr [(0, .int .i64 n),(3,Dn (2^(i+1))),(4, .int .i64 ((i+1:Nat):Int))] ?_,by omega,i+1,_,_,rfl,rfl,by omega⟩
  simp [Int.pow_succ]
 ·simp at h
  have:i=n:=by omega
  subst this
  refine eH ?_
  refine aB [2] ?_
  refine W.ret ?_
  simp
theorem lT(n:Int)(h1 : -9223372036854775808≤n)(h2:n<9223372036854775808):aZ env.P 61 [.int .i64 n] (RI n):=by
 refine cL [(0, .int .i64 n)] Tryz.func61 ?_
 refine aB [0,2] ?_
 refine aQ [0,2,6] ?_
 refine bO ?_ ?_<;>intro h
 ·simp at h
  subst h
  refine j1 ?_
  refine aD (R7 63 (by decide)) ?_
  simp (disch:=omega) [gw]
  have hp:=n6 9223372036854775808 (by decide) true
  simp at hp
  refine c7 [2] hp ?_
  exact cV
 ·simp at h
  refine W.skip ?_
  refine aB [0,2,3] ?_
  refine W.gK (fun σ=>∃(rows:Pm.Rows) (clk:Nat),σ=⟨fa [(0, .int .i64 n.natAbs),(2, .ptr 2 0 0 0),(3, .bool (decide (n<0)))],rows,clk⟩∧rows 2=some ⟨0,29,2,[[.nil, .bool false]]⟩) ?_ ?_
  ·
   refine aB [0,2,3,11] ?_
   refine bO ?_ ?_<;>intro h
   ·simp at h
    refine W.cA (fun K hK=>?_);simp (disch:=omega) [gw]
    refine hK _ ⟨_,Gh.fr [(0, .int .i64 n.natAbs),(2, .ptr 2 0 0 0),(3, .bool (decide (n<0)))] (by simp;omega),_,_,rfl,by simp⟩
   ·simp at h
    refine W.skip ?_
    refine⟨_,Gh.fr [(0, .int .i64 n.natAbs),(2, .ptr 2 0 0 0),(3, .bool (decide (n<0)))] (by simp;omega),_,_,rfl,by simp⟩
  rintro _ ⟨rows,clk,rfl,dB⟩
  refine aB [0,2,3,4] ?_
  refine W.nil 4 4 3 1 (by simp) (by decide) (fun K hK=>?_)
  refine W.lw [0,2,3,4] hK ?_;clear hK K;simp
  refine W.seq ?_
  refine W.block ?_
  refine W.a9 (fun k σ=>∃(z:List Int) (i ver:Nat) (rows:Pm.Rows) (clk:Nat),σ=⟨fa [(0, .int .i64 k),(2, .ptr 2 0 0 0),(3, .bool (decide (n<0))),(4, .own 4 ver 0 i)],rows,clk⟩∧rows 2=some ⟨0,29,2,[[.nil, .bool false]]⟩ ∧
   rows 4=some ⟨ver,3,1,emap aO z⟩∧z.length=i∧k*2^i≤9223372036854775808∧b6 10000 z∧V 10000 z+10000^i*k=n.natAbs∧a5 DD n.natAbs=z++a5 DD k) n.natAbs ?_ ?_
  ·exact⟨_, .refl,[],0,_,_,_,rfl,by simp [dB],by simp [emap],rfl,by simp;omega,b6.nil,by simp [V],by simp⟩
  rintro k _ ⟨z,i,ver,rows,clk,rfl,dB,hr,hz,L7,lz,hV,hd⟩
  refine aQ [0,2,3,4,15] ?_
  refine bO ?_ ?_<;>intro h
  ·simp at h
   have atl:i≤63:=by
    have h3:1*2^i≤k*2^i:=Nat.mul_le_mul_right _ (by omega)
    have h4:2^i≤2^63:=by omega
    exact(Nat.pow_le_pow_iff_right (by decide)).1 h4
   have atm:k≤9223372036854775808:=Nat.le_trans (by have:=Nat.mul_le_mul_left k (Nat.pow_pos (n:=i) (show 0<2 by decide));omega) L7
   refine W.skip ?_
   refine W.block ?_
   refine W.sr ?_
   simp (disch:=omega) [gw,hr,hz]
   refine bF [0,2,3,4] ?_
   refine W.cA (fun K hK=>?_);simp (disch:=omega) [gw]
   refine hK _ ⟨k/10000,_,Gh.fr [(0, .int .i64 ((k/10000:Nat):Int)),(2, .ptr 2 0 0 0),(3, .bool (decide (n<0))),(4, .own 4 _ 0 (i+1))] (by simp;rfl),by omega,z ++ [((k%10000:Nat):Int)],i+1,_,_,_,rfl,by simp [dB],by simp,by simp [hz],?_,b6.append.2 ⟨lz,b6.cons.2 ⟨by omega,b6.nil⟩⟩,?_,?_⟩
   ·rw [Nat.pow_succ]
    have h3:k/10000*(2^i*2)=k/10000*2*2^i:=by rw [Nat.mul_comm (2^i),Nat.mul_assoc]
    rw [h3]
    exact Nat.le_trans (Nat.mul_le_mul_right _ (by omega)) L7
   ·rw [c8,kD,hz,←hV,Int.pow_succ]
    have:(k:Int)=(k%10000:Nat)+10000*(k/10000:Nat):=by omega
    grind
   ·rw [hd,m8 E9 (by omega)];simp
  ·simp at h
   have wQ:k=0:=by omega
   subst wQ
   have e:z=a5 DD n.natAbs:=by rw [hd];simp [jB]
   refine eH ?_
   refine W.sr ?_
   have ez:z.take i=a5 DD n.natAbs:=by rw [bA hz,e]
   simp (disch:=omega) [gw,hr,hz,ez]
   refine aD (n6 n.natAbs (by omega) (decide (n<0))) ?_
   simp (disch:=omega) [gw,dB]
   refine bF [2] ?_
   refine W.ret ?_
   have e2:(if n<0 then -(n.natAbs:Int)else n.natAbs)=n:=by split<;>omega
   rw [e2]
   simp [go]
theorem nK:∀ {l:List Int},l.length≤(aG l).length→aG l=l
 | [],_=>rfl
 | x::l,h=>by
  rw [aG]at h ⊢
  split
  ·rename_i h1
   rw [if_pos h1]at h;simp at h
  ·rename_i h1
   rw [if_neg h1]at h
   rw [nK (by simpa using h)]
theorem DC{b:Int}(hb:1≤b){l:List Int}(hl:b6 b l)(h:l ≠ []→b^(l.length-1)≤V b l):aG l=l:=by
 apply nK
 rcases Nat.lt_or_ge (aG l).length l.length with h1 | h1
 ·exfalso
  have h2:=h (by intro h0;subst h0;simp at h1)
  have h3:=mF (by omega) (c9 hl)
  rw [cD]at h3
  obtain⟨m,hm⟩:∃m,l.length-1=(aG l).length+m:=⟨l.length-1-(aG l).length,by omega⟩
  rw [hm,Int.pow_add]at h2
  have h4:1≤b^m:=Int.pow_pos (by omega)
  have h5:=Int.mul_le_mul_of_nonneg_left h4 (show 0≤b^(aG l).length from Int.le_of_lt (Int.pow_pos (by omega)))
  omega
 ·exact h1
@[simp] theorem XY{l:List Int}{x:Int}:emap u32 l ++ [[.int .u32 x]]=emap u32 (l ++ [x]):=by simp [emap]
theorem yK(x:Int):aZ env.P 125 [RI x] (.bool (decide (x=0))):=by
 refine cL [(0,RI x)] Tryz.func125 ?_
 refine aB [1] ?_
 refine aB [2] ?_
 refine W.ret ?_
 simp [go]
 have e:((a5 DD x.natAbs).length=0)↔x=0:=by rw [List.length_eq_zero_iff,dF E9];omega
 rw [Bool.eq_iff_iff,decide_eq_true_iff,beq_iff_eq,←e]
 omega
theorem JF{x:Int}:(a5 DD x.natAbs).length=0↔x=0:=by rw [List.length_eq_zero_iff,dF E9];omega
theorem L8(x:Int):aZ env.P 129 [RI x] (.int .i64 x.sign):=by
 refine cL [(0,RI x)] Tryz.func129 ?_
 refine cH [1] ?_
 refine W.block ?_
 refine aB [1,3] ?_
 refine bO ?_ ?_<;>intro h
 ·have h0:x=0:=by rw [←JF];simp at h;simp [h]
  subst h0
  refine aB [2] ?_
  exact cV
 ·have h0:x≠0:=by rw [Ne,←JF];simp at h;simpa using h
  refine aB [8] ?_
  refine bO ?_ ?_<;>intro h
  ·simp at h
   refine aB [2] ?_
   refine W.ret ?_
   simp [go,Int.sign_eq_neg_one_of_neg h]
  ·simp at h
   refine W.skip ?_
   refine aB [2] ?_
   refine W.ret ?_
   simp [go,Int.sign_eq_one_of_pos (show 0<x by omega)]
theorem nM(x:Int):aZ env.P 17 [RI x] (RI (-x)):=by
 refine cL [(0,RI x)] Tryz.func17 ?_
 refine aB [1,2] ?_
 refine j1 ?_
 refine aD (n6 x.natAbs (by omega) (!decide (x<0))) ?_
 simp (disch:=omega) [gw]
 refine bF [2] ?_
 refine W.ret ?_
 have e:(if 0≤x then -(x.natAbs:Int)else x.natAbs) = -x:=by split<;>omega
 simp only [e]
 simp [go]
theorem L9(a:List Int)(d:Int)(ha:a.length<1099511627776)(la:b6 10000 a)(hd0:0<d)(VE:d≤65536):aZ env.P 136 [aX aO a, .int .i64 d] (.eQ [Dn (V 10000 a/d), .int .i64 (V 10000 a%d)]):=by
 refine cL [(0,aX aO a),(1, .int .i64 d)] Tryz.func136 ?_
 refine aB [0,1] ?_
 refine aB [0,1,6] ?_
 refine aB [0,1,6,7] ?_
 refine aQ [0,1,6,7,8] ?_
 refine W.block ?_
 refine W.a9 (fun k σ=>∃(r:Int) (z:List Int) (ver:Nat) (rows:Pm.Rows) (clk:Nat),σ=⟨fa [(0,aX aO a),(1, .int .i64 d),(6, .own 12 ver 0 a.length),(7, .int .i64 r),(8, .int .i64 ((k:Int)-1))],rows,clk⟩ ∧
  rows 12=some ⟨ver,3,1,emap aO z⟩∧k≤a.length∧z.length=a.length∧b6 10000 z∧0≤r∧r<d∧V 10000 (a.drop k)=d*V 10000 (z.drop k)+r) a.length ?_ ?_
 ·exact⟨_, .refl,0,List.replicate a.length 0,_,_,_,rfl,by simp,by omega,by simp,b6.rep (by decide) _,by omega,hd0,by simp [V]⟩
 rintro k _ ⟨r,z,ver,rows,clk,rfl,hr,hk,hz,lz,E3,I8,hV⟩
 refine aQ [0,1,6,7,8,17] ?_
 refine bO ?_ ?_<;>intro h
 ·simp at h
  obtain⟨j,rfl⟩:∃j,k=j+1:=⟨k-1,by omega⟩
  clear h
  have hx:=la.nth (i:=j) (by omega)
  have XR:0≤r*10000+nth a j:=by omega
  have xF:r*10000+nth a j<d*10000:=by omega
  have OA:0≤(r*10000+nth a j)/d:=Int.ediv_nonneg XR (by omega)
  have VF:(r*10000+nth a j)/d<10000:=Int.ediv_lt_of_lt_mul hd0 (by omega)
  have E5:=Int.emod_nonneg (r*10000+nth a j) (show d≠0 by omega)
  have E8:=Int.emod_lt_of_pos (r*10000+nth a j) hd0
  have hdz:d≠0:=by omega
  refine iS ?_
  refine aB [0,1,6,8,9] ?_
  refine W.sr ?_
  simp (disch:=omega) [gw,hr,hdz]
  refine bF [0,1,6,8,9] ?_
  refine W.cA (fun K hK=>?_);simp (disch:=omega) [gw,hdz]
  refine W.lw [0,1,6,7,8] hK ?_;clear hK K;simp
  refine W.cA (fun K hK=>?_);simp (disch:=omega) [gw]
  refine hK _ ⟨j,_,aC _ [0,1,6,7,8],by omega,_,z.set j ((r*10000+nth a j)/d),ver,_,_,rfl,by simp,by omega,by simpa using hz,lz.set ⟨OA,VF⟩,E5,E8,?_⟩
  rw [dW (l:=a) (i:=j) (by omega),dW (l:=z.set j _) (i:=j) (by simp;omega),dI (by omega),List.drop_set_of_lt (by omega)]
  simp only [V]
  rw [hV]
  have:=Int.emod_add_mul_ediv (r*10000+nth a j) d
  grind
 ·simp at h
  have wQ:k=0:=by omega
  subst wQ
  simp only [List.drop_zero]at hV
  have ez:z.take a.length=z:=bA hz
  have hzn:=bH (by decide) lz
  have e1:V 10000 a/d=V 10000 z:=by
   rw [hV,Int.mul_add_ediv_left _ _ (by omega),Int.ediv_eq_zero_of_lt E3 I8];simp
  have e2:V 10000 a%d=r:=by
   rw [hV,Int.mul_add_emod_self_left,Int.emod_eq_of_lt E3 I8]
  refine eH ?_
  refine W.sr ?_
  simp (disch:=omega) [gw,hr,ez]
  refine aD (k5 z (by omega)) ?_
  simp (disch:=omega) [gw]
  refine bF [4,5] ?_
  refine W.ret ?_
  rw [e1,e2,←pL lz]
  simp [go]
theorem vH(y d:Int)(hy:0≤y)(hz:Z y)(hd0:0<d)(VE:d≤65536):aZ env.P 136 [Dn y, .int .i64 d] (.eQ [Dn (y/d), .int .i64 (y%d)]):=by
 have:=L9 (a5 DD y.toNat) d (by have:=iL hy;omega) (jJ _) hd0 VE
 rwa [qH hy]at this
theorem JG(n:Nat)(hz:Z (n:Int)):aZ env.P 67 [aX aO (a5 DD n)] (us (a5 LL n)):=by
 have hln:(a5 LL n).length≤sz 2 (n:Int):=tM eV n
 refine cL [(0,aX aO (a5 DD n))] Tryz.func67 ?_
 refine aB [0] ?_
 refine aB [0,3] ?_
 refine W.nil 3 3 185 1 (by simp) (by decide) (fun K hK=>?_)
 refine W.lw [0,3] hK ?_;clear hK K;simp
 refine W.seq ?_
 refine W.block ?_
 refine W.a9 (fun k σ=>∃(i:Nat) (z:List Int) (ver:Nat) (rows:Pm.Rows) (clk:Nat),σ=⟨fa [(0,aX aO (a5 DD k)),(3, .own 3 ver 0 i)],rows,clk⟩∧rows 3=some ⟨ver,185,1,emap u32 z⟩∧z.length=i∧k≤n∧a5 LL n=z++a5 LL k) n ?_ ?_
 ·exact⟨_, .refl,0,[],_,_,_,rfl,by simp [emap],rfl,by omega,by simp⟩
 rintro k _ ⟨i,z,ver,rows,clk,rfl,hr,y9,hk,hd⟩
 have hzk:Z (k:Int):=Nat.lt_of_le_of_lt (cQ (by decide) (y:=(n:Int)) (by omega)) hz
 have sI:i≤(a5 LL n).length:=by rw [hd];simp [y9]
 have e0:(a5 DD k).length=0↔k=0:=by rw [List.length_eq_zero_iff,dF E9]
 refine aQ [0,3,9] ?_
 refine bO ?_ ?_<;>intro h
 ·have wQ:k≠0:=by rw [Ne,←e0];simp at h;omega
  have pJ:Z ((k:Int)/65536):=Nat.lt_of_le_of_lt (cQ (by decide) (y:=(k:Int)) (by omega)) hzk
  refine W.skip ?_
  refine W.block ?_
  refine j1 ?_
  refine aD (vH (k:Int) 65536 (by omega) hzk (by decide) (by decide)) ?_
  simp (disch:=omega) [gw]
  refine bF [3,4,5] ?_
  refine j1 ?_
  refine aD (vH ((k:Int)/65536) 65536 (by omega) pJ (by decide) (by decide)) ?_
  simp (disch:=omega) [gw]
  refine bF [3,4,5,6] ?_
  refine W.sr ?_
  simp (disch:=omega) [gw,hr,y9,wrap_u32']
  have e1:(k:Int)/65536%65536*65536+k%65536=((k%LL:Nat):Int):=by simp;omega
  have e3:k/LL<k:=Nat.div_lt_self (by omega) (by decide)
  obtain⟨dg,e2⟩:∃dg:Int,dg=((k%LL:Nat):Int):=⟨_,rfl⟩
  rw [←e2]at e1
  simp only [e1,XY]
  refine bF [3,4] ?_
  refine W.cA (fun K hK=>?_);simp (disch:=omega) [gw]
  refine hK _ ⟨k/LL,_,Gh.fr [(0,aX aO (a5 DD (k/LL))),(3, .own 3 _ 0 (i+1))] ?_,e3,i+1,z ++ [dg],_,_,_,rfl,by simp;rfl,by simp [y9],by omega,?_⟩
  ·have e2:((k:Int)/65536/65536).toNat=k/LL:=by show _=k/4294967296;omega
   simp only [Dn,e2]
   simp
  ·rw [hd,m8 eV wQ,e2];simp
 ·have wQ:k=0:=by rw [←e0];simp at h;simp [h]
  subst wQ
  refine eH ?_
  refine aB [2] ?_
  refine W.ret ?_
  simp [jB]at hd
  have ez:z.take i=z:=bA y9
  simp [go,hr,ez,hd]
theorem AG(x:Int)(hz:Z x):aZ env.P 16 [RI x] (I x):=by
 refine cL [(0,RI x)] Tryz.func16 ?_
 refine aB [1,2] ?_
 refine oW ?_
 refine aD (JG x.natAbs (by simpa [Z,sz]using hz)) ?_
 simp (disch:=omega) [gw]
 refine bF [2] ?_
 exact cV
theorem MA(x y:List Int)(hx:x.length<1099511627776)(hy:y.length<1099511627776)(lx:b6 10000 x)(ly:b6 10000 y)(cx:aG x=x)(cy:aG y=y):aZ env.P 228 [aX aO x,aX aO y] (.int .i64 (iG (V 10000 x) (V 10000 y))):=by
 refine cL [(0,aX aO x),(1,aX aO y)] Tryz.func228 ?_
 refine aB [0,1] ?_
 refine aQ [0,1,10] ?_
 refine bO ?_ ?_<;>intro h
 ·simp at h
  refine aQ [15] ?_
  refine bO ?_ ?_<;>intro h
  ·simp at h
   refine aB [4] ?_
   refine W.ret ?_
   simp [lM (gU (by decide) lx ly cy h)]
  ·simp at h
   refine W.skip ?_
   refine aB [4] ?_
   refine W.ret ?_
   simp [lN (gU (by decide) ly lx cx (by omega))]
 ·simp at h
  have hlen:x.length=y.length:=by omega
  clear h
  refine W.skip ?_
  refine aQ [0,1,5] ?_
  refine W.block ?_
  refine W.a9 (fun k σ=>∃(rows:Pm.Rows) (clk:Nat),σ=⟨fa [(0,aX aO x),(1,aX aO y),(5, .int .i64 ((k:Int)-1))],rows,clk⟩∧k≤x.length∧x.drop k=y.drop k) x.length ?_ ?_
  ·exact⟨_, .refl,_,_,rfl,by omega,by rw [List.drop_of_length_le (by omega),List.drop_of_length_le (by omega)]⟩
  rintro k _ ⟨rows,clk,rfl,hk,hd⟩
  refine aQ [0,1,5,20] ?_
  refine bO ?_ ?_<;>intro h
  ·have h0:0<k:=by simp at h;omega
   obtain⟨j,rfl⟩:∃j,k=j+1:=⟨k-1,by omega⟩
   clear h
   refine iS ?_
   refine oW ?_
   refine bF [0,1,5,31] ?_
   refine bO ?_ ?_<;>intro h
   ·simp at h
    refine W.seq ?_
    refine oW ?_
    refine bF [40] ?_
    refine W.cond ⟨_,rfl,fun h2=>?_,fun h2=>?_⟩
    ·simp at h2
     refine aB [4] ?_
     refine W.ret ?_
     simp [lM (kG (by decide) lx ly hlen (by omega) hd h2)]
    ·simp at h2
     refine W.skip ?_
     refine aB [4] ?_
     refine W.ret ?_
     simp [lN (kG (by decide) ly lx hlen.symm (by omega) hd.symm (by omega))]
   ·simp at h
    refine W.skip ?_
    refine W.cA (fun K hK=>?_);simp (disch:=omega) [gw]
    refine hK _ ⟨j,_,aC _ [0,1,5],by omega,_,_,rfl,by omega,?_⟩
    rw [dW (l:=x) (i:=j) (by omega),dW (l:=y) (i:=j) (by omega),hd,h]
  ·have h0:k=0:=by simp at h;omega
   subst h0
   simp at hd
   subst hd
   refine eH ?_
   refine aB [4] ?_
   refine W.ret ?_
   simp [tH]
theorem DE(x y:Int)(hx:0≤x)(hy:0≤y)(zx:Z x)(zy:Z y):aZ env.P 228 [Dn x,Dn y] (.int .i64 (iG x y)):=by
 have:=MA (a5 DD x.toNat) (a5 DD y.toNat) (by have:=iL hx;omega) (by have:=iL hy;omega) (jJ _) (jJ _) (kF E9 _) (kF E9 _)
 rwa [qH hx,qH hy]at this
theorem MB(a b:List Int)(ha:a.length<1099511627776)(hb:b.length<1099511627776)(la:b6 10000 a)(lb:b6 10000 b)(ca:aG a=a)(cb:aG b=b):aZ env.P 227 [aX aO a,aX aO b] (Dn (V 10000 a+V 10000 b)):=by
 refine cL [(0,aX aO a),(1,aX aO b)] Tryz.func227 ?_
 refine aB [0,1] ?_
 refine aB [0,1,5] ?_
 refine W.nil 5 5 3 1 (by simp) (by decide) (fun K hK=>?_)
 refine W.lw [0,1,5] hK ?_;clear hK K;simp
 refine aB [0,1,5,6] ?_
 refine aQ [0,1,5,6,7] ?_
 refine W.block ?_
 obtain⟨M,hM⟩:∃M,M=max a.length b.length:=⟨_,rfl⟩
 refine W.a9 (fun k σ=>∃(i:Nat) (c:Int) (z:List Int) (ver:Nat) (rows:Pm.Rows) (clk:Nat),σ=⟨fa [(0,aX aO a),(1,aX aO b),(5, .own 5 ver 0 i),(6, .int .i64 c),(7, .int .i64 i)],rows,clk⟩ ∧
  rows 5=some ⟨ver,3,1,emap aO z⟩∧k=2*(M-i)+c.toNat∧z.length=i∧(i≤M∨(i=M+1∧c=0∧10000^M≤V 10000 a+V 10000 b))∧b6 10000 z∧0≤c∧c≤1 ∧
  V 10000 z+10000^i*c=V 10000 (a.take i)+V 10000 (b.take i)) (2*M) ?_ ?_
 ·exact⟨_, .refl,0,0,[],_,_,_,rfl,by simp [emap],by simp,rfl,by omega,b6.nil,by omega,by omega,by simp [V]⟩
 rintro k _ ⟨i,c,z,ver,rows,clk,rfl,hr,hk,hz,hi,lz,yG,wP,hV⟩
 refine W.seq ?_
 refine W.fW (fun σ=>∃(t:Bool),σ=⟨fa [(0,aX aO a),(1,aX aO b),(5, .own 5 ver 0 i),(6, .int .i64 c),(7, .int .i64 i),(21, .bool t)],rows,clk⟩∧(t=true↔i<M∨0<c)) (fun K hK=>?_) ?_
 ·simp
  by_cases h1:i<a.length
  ·simp (disch:=omega) [gw,h1]
   exact hK _ _ (aC _ [0,1,5,6,7,21]) ⟨_,rfl,by simp;omega⟩
  ·by_cases h2:i<b.length
   ·simp (disch:=omega) [gw,h1,h2]
    exact hK _ _ (aC _ [0,1,5,6,7,21]) ⟨_,rfl,by simp;omega⟩
   ·simp (disch:=omega) [gw,h1,h2]
    exact hK _ _ (aC _ [0,1,5,6,7,21]) ⟨_,rfl,by simp;omega⟩
 rintro _ ⟨t,rfl,ht⟩
 refine bO ?_ ?_<;>intro h
 ·have ht:=ht.1 h
  refine iS ?_
  refine W.gK (fun σ=>∃(s:Int),σ=⟨fa [(0,aX aO a),(1,aX aO b),(5, .own 5 ver 0 i),(6, .int .i64 s),(7, .int .i64 i)],rows,clk⟩∧0≤s∧s≤c+9999∧(a.length≤i→s=c) ∧
   V 10000 z+10000^i*s=V 10000 (a.take (i+1))+V 10000 (b.take i)) ?_ ?_
  ·
   refine aB [0,1,5,6,7,27] ?_
   refine bO ?_ ?_<;>intro h
   ·simp at h
    have hx:=la.nth h
    refine W.cA (fun K hK=>?_);simp (disch:=omega) [gw]
    refine hK _ ⟨_,aC _ [0,1,5,6,7],_,rfl,by omega,by omega,by omega,?_⟩
    rw [aR h];grind
   ·simp at h
    refine W.skip ?_
    refine⟨_,aC _ [0,1,5,6,7],_,rfl,by omega,by omega,fun _=>rfl,?_⟩
    rw [aV (l:=a) (by omega)]
    rwa [aV (l:=a) (by omega)]at hV
  rintro _ ⟨s,rfl,XR,xF,hsc,hsV⟩
  refine W.gK (fun σ=>∃(u:Int),σ=⟨fa [(0,aX aO a),(1,aX aO b),(5, .own 5 ver 0 i),(6, .int .i64 u),(7, .int .i64 i)],rows,clk⟩∧0≤u∧u≤s+9999∧(b.length≤i→u=s) ∧
   V 10000 z+10000^i*u=V 10000 (a.take (i+1))+V 10000 (b.take (i+1))) ?_ ?_
  ·
   refine aB [0,1,5,6,7,37] ?_
   refine bO ?_ ?_<;>intro h
   ·simp at h
    have hx:=lb.nth h
    refine W.cA (fun K hK=>?_);simp (disch:=omega) [gw]
    refine hK _ ⟨_,aC _ [0,1,5,6,7],_,rfl,by omega,by omega,by omega,?_⟩
    rw [aR h];grind
   ·simp at h
    refine W.skip ?_
    refine⟨_,aC _ [0,1,5,6,7],_,rfl,by omega,by omega,fun _=>rfl,?_⟩
    rw [aV (l:=b) (by omega)]
    rwa [aV (l:=b) (by omega)]at hsV
  rintro _ ⟨u,rfl,hu0,Z3,huc,huV⟩
  refine W.sr ?_
  simp (disch:=omega) [gw,hr,hz]
  refine bF [0,1,5,6,7] ?_
  refine W.cA (fun K hK=>?_);simp (disch:=omega) [gw];refine W.lw [0,1,5,6,7] hK ?_;clear hK K;simp
  refine W.cA (fun K hK=>?_);simp (disch:=omega) [gw]
  refine hK _ ⟨2*(M-(i+1))+(u/10000).toNat,_,aC _ [0,1,5,6,7],?_,i+1,u/10000,z ++ [u%10000],_,_,_,rfl,by simp,rfl,by simp [hz],?_,b6.append.2 ⟨lz,b6.cons.2 ⟨by omega,b6.nil⟩⟩,by omega,by omega,?_⟩
  ·rcases Nat.lt_or_ge i M with h1 | h1
   ·omega
   ·have:=hsc (by omega);have:=huc (by omega);omega
  ·rcases Nat.lt_or_ge i M with h1 | h1
   ·omega
   ·right
    have hc:c=1:=by omega
    have hzn:=bH (by decide) lz
    rw [aV (l:=a) (by omega),aV (l:=b) (by omega),hc]at hV
    have hiM:i=M:=by omega
    rw [←hiM]
    refine⟨rfl,by have:=hsc (by omega);have:=huc (by omega);omega,?_⟩
    rw [←hV]
    omega
  ·rw [c8,kD,hz,←huV,Int.pow_succ]
   have:=Int.emod_add_mul_ediv u 10000
   grind
 ·have ht:¬(i<M∨0<c):=fun h2=>by simp [ht.2 h2]at h
  have hc:c=0:=by omega
  subst hc
  refine eH ?_
  refine aB [4] ?_
  refine W.ret ?_
  rw [aV (l:=a) (by omega),aV (l:=b) (by omega)]at hV
  have e:V 10000 a+V 10000 b=V 10000 z:=by rw [←hV];simp
  have cz:aG z=z:=by
   refine DC (by decide) lz fun h0=>?_
   rw [hz,←e]
   rcases hi with h1 | ⟨h1,_,h2⟩
   ·have hna:=bH (by decide) la
    have hnb:=bH (by decide) lb
    have sI:0<i:=by rw [←hz];exact List.length_pos_iff.2 h0
    rcases Nat.le_total b.length a.length with h3 | h3
    ·have:=j2 (b:=10000) (by decide) la ca (by intro h5;rw [h5]at h3 hM;simp at h3;simp [h3]at hM;omega)
     rw [show i-1=a.length-1 by omega];omega
    ·have:=j2 (b:=10000) (by decide) lb cb (by intro h5;rw [h5]at h3 hM;simp at h3;simp [h3]at hM;omega)
     rw [show i-1=b.length-1 by omega];omega
   ·rw [h1];exact h2
  have ez:z.take i=z:=bA hz
  rw [e,←pL lz,cz]
  simp [go,hr,ez]
theorem R8(x y:Int)(hx:0≤x)(hy:0≤y)(zx:Z x)(zy:Z y):aZ env.P 227 [Dn x,Dn y] (Dn (x+y)):=by
 have:=MB (a5 DD x.toNat) (a5 DD y.toNat) (by have:=iL hx;omega) (by have:=iL hy;omega) (jJ _) (jJ _) (kF E9 _) (kF E9 _)
 rwa [qH hx,qH hy]at this
theorem MC(a b:List Int)(ha:a.length<1099511627776)(hb:b.length≤a.length)(la:b6 10000 a)(lb:b6 10000 b)(hle:V 10000 b≤V 10000 a):aZ env.P 229 [aX aO a,aX aO b] (Dn (V 10000 a-V 10000 b)):=by
 refine cL [(0,aX aO a),(1,aX aO b)] Tryz.func229 ?_
 refine aB [0,1] ?_
 refine aB [0,1,5] ?_
 refine aB [0,1,5,6] ?_
 refine aQ [0,1,5,6,13,14] ?_
 refine W.block ?_
 refine W.a9 (fun k σ=>∃(i:Nat) (c:Int) (z:List Int) (ver:Nat) (rows:Pm.Rows) (clk:Nat),σ=⟨fa [(0,aX aO a),(1,aX aO b),(5, .own 11 ver 0 a.length),(6, .int .i64 c),(13, .int .i64 a.length),(14, .int .i64 i)],rows,clk⟩ ∧
  rows 11=some ⟨ver,3,1,emap aO z⟩∧k=a.length-i∧i≤a.length∧z.length=a.length∧b6 10000 z∧0≤c∧c≤1 ∧
  V 10000 (z.take i)-10000^i*c=V 10000 (a.take i)-V 10000 (b.take i)) a.length ?_ ?_
 ·exact⟨_, .refl,0,0,List.replicate a.length 0,_,_,_,rfl,by simp,by omega,by omega,by simp,b6.rep (by decide) _,by omega,by omega,by simp [V]⟩
 rintro k _ ⟨i,c,z,ver,rows,clk,rfl,hr,hk,hi,hz,lz,yG,wP,hV⟩
 refine cH [0,1,5,6,13,14,15] ?_
 refine bO ?_ ?_<;>intro h
 ·simp at h
  have hx:=la.nth h
  refine iS ?_
  refine aB [0,1,5,6,7,13,14] ?_
  refine aB [0,1,5,7,8,13,14] ?_
  refine W.gK (fun σ=>∃(s:Int),σ=⟨fa [(0,aX aO a),(1,aX aO b),(5, .own 11 ver 0 a.length),(7, .int .i64 i),(8, .int .i64 s),(13, .int .i64 a.length),(14, .int .i64 i)],rows,clk⟩ ∧ -10000≤s∧s≤9999 ∧
   V 10000 (z.take i)+10000^i*s=V 10000 (a.take (i+1))-V 10000 (b.take (i+1))) ?_ ?_
  ·
   refine aB [0,1,5,7,8,13,14,26] ?_
   refine bO ?_ ?_<;>intro h
   ·simp at h
    have hy:=lb.nth h
    refine W.cA (fun K hK=>?_);simp (disch:=omega) [gw]
    refine hK _ ⟨_,aC _ [0,1,5,7,8,13,14],_,rfl,by omega,by omega,?_⟩
    rw [aR (l:=a) (by omega),aR h];grind
   ·simp at h
    refine W.skip ?_
    refine⟨_,aC _ [0,1,5,7,8,13,14],_,rfl,by omega,by omega,?_⟩
    rw [aR (l:=a) (by omega),aV (l:=b) (by omega)]
    rw [aV (l:=b) (by omega)]at hV
    grind
  rintro _ ⟨s,rfl,XR,xF,hsV⟩
  refine aB [0,1,5,6,7,8,13,14] ?_
  refine W.gK (fun σ=>∃(u c:Int),σ=⟨fa [(0,aX aO a),(1,aX aO b),(5, .own 11 ver 0 a.length),(6, .int .i64 c),(7, .int .i64 i),(8, .int .i64 u),(13, .int .i64 a.length),(14, .int .i64 i)],rows,clk⟩∧0≤u∧u≤9999∧0≤c∧c≤1∧s=u-10000*c) ?_ ?_
  ·
   refine aB [0,1,5,6,7,8,13,14,34] ?_
   refine bO ?_ ?_<;>intro h
   ·simp at h
    refine aB [0,1,5,7,8,13,14] ?_
    refine W.cA (fun K hK=>?_);simp (disch:=omega) [gw]
    exact hK _ ⟨_,aC _ [0,1,5,6,7,8,13,14],_,1,rfl,by omega,by omega,by omega,by omega,by omega⟩
   ·simp at h
    refine W.skip ?_
    exact⟨_,aC _ [0,1,5,6,7,8,13,14],_,0,rfl,by omega,by omega,by omega,by omega,by omega⟩
  rintro _ ⟨u,c',rfl,hu0,Z3,aoy,aoz,hu⟩
  refine W.cA (fun K hK=>?_);simp (disch:=omega) [gw,hr]
  refine W.lw [0,1,5,6,13,14] hK ?_;clear hK K;simp
  refine W.cA (fun K hK=>?_);simp (disch:=omega) [gw]
  refine hK _ ⟨a.length-(i+1),_,aC _ [0,1,5,6,13,14],by omega,i+1,c',z.set i u,ver,_,_,rfl,by simp,by omega,by omega,by simpa using hz,lz.set (by omega),aoy,aoz,?_⟩
  rw [dQ (by omega),←hsV,hu,Int.pow_succ]
  grind
 ·simp at h
  have oP:i=a.length:=by omega
  subst oP
  have ez:z.take a.length=z:=bA hz
  refine eH ?_
  refine W.sr ?_
  simp (disch:=omega) [gw,hr,ez]
  refine aD (k5 z (by omega)) ?_
  simp (disch:=omega) [gw]
  refine bF [4] ?_
  refine W.ret ?_
  rw [ez,aV (l:=a) (by omega),aV (l:=b) (by omega)]at hV
  have h1:=mF (by decide) lz
  rw [hz]at h1
  have hc:c=0:=by
   rcases(show c=0∨c=1 by omega)with h2 | h2
   ·exact h2
   ·subst h2;omega
  subst hc
  have e:V 10000 a-V 10000 b=V 10000 z:=by rw [←hV];simp
  rw [e,←pL lz]
  simp [go]
theorem vI(x y:Int)(hy:0≤y)(hle:y≤x)(zx:Z x):aZ env.P 229 [Dn x,Dn y] (Dn (x-y)):=by
 have hlen:(a5 DD y.toNat).length≤(a5 DD x.toNat).length:=by
  have h1:=cQ (b:=DD) E9 (x:=y) (y:=x) (by omega)
  simp only [sz]at h1
  rwa [show y.natAbs=y.toNat by omega,show x.natAbs=x.toNat by omega]at h1
 have:=MC (a5 DD x.toNat) (a5 DD y.toNat) (by have:=iL (show 0≤x by omega);omega) hlen (jJ _) (jJ _) (by rw [qH hy,qH (by omega)];exact hle)
 rwa [qH hy,qH (by omega)]at this
theorem ael{a b:Int}(ha:0≤a∧a<10000)(hb:0≤b∧b<10000):0≤a*b∧a*b≤99980001:=by
 refine⟨Int.mul_nonneg ha.1 hb.1,?_⟩
 have:=Int.mul_le_mul (show a≤9999 by omega) (show b≤9999 by omega) hb.1 (by decide)
 simpa using this
theorem MD(x y:List Int)(hx:x.length<1099511627776)(hy:y.length<1099511627776)(lx:b6 10000 x)(ly:b6 10000 y):aZ env.P 131 [aX aO x,aX aO y] (Dn (V 10000 x*V 10000 y)):=by
 refine cL [(0,aX aO x),(1,aX aO y)] Tryz.func131 ?_
 refine aB [0,1] ?_
 have e:((x.length:Int)+(y.length:Int)).toNat=x.length+y.length:=by omega
 refine W.sr ?_
 simp (disch:=omega) [gw,e]
 refine bF [0,1,5] ?_
 refine aQ [0,1,5,17,18] ?_
 refine W.block ?_
 refine W.a9 (fun k σ=>∃(i:Nat) (z:List Int) (ver:Nat) (rows:Pm.Rows) (clk:Nat),σ=⟨fa [(0,aX aO x),(1,aX aO y),(5, .own 15 ver 0 (x.length+y.length)),(17, .int .i64 x.length),(18, .int .i64 i)],rows,clk⟩ ∧
   rows 15=some ⟨ver,3,1,emap aO z⟩∧k=x.length-i∧i≤x.length∧z.length=x.length+y.length∧b6 10000 z∧(∀j,i+y.length≤j→nth z j=0) ∧
   V 10000 z=V 10000 (x.take i)*V 10000 y) x.length ?_ ?_
 ·refine⟨_, .refl,0,List.replicate (x.length+y.length) 0,_,_,_,rfl,by simp [e],by omega,by omega,by simp,b6.rep (by decide) _,fun j _=>?_,by simp [V,l9]⟩
  unfold nth
  cases h:(List.replicate (x.length+y.length) (0:Int))[j]? with
  | none=>rfl
  | some v=>have:=List.mem_of_getElem? h;simp at this;simp [this]
 rintro k _ ⟨i,z,ver,rows,clk,rfl,hr,hk,hi,hz,lz,o9,hV⟩
 refine cH [0,1,5,17,18,19] ?_
 refine bO ?_ ?_<;>intro h
 ·simp at h
  have hxi:=lx.nth h
  refine iS ?_
  refine aB [0,1,5,6,17,18] ?_
  refine aB [0,1,5,6,7,17,18] ?_
  refine aB [0,1,5,6,7,8,17,18] ?_
  refine W.block ?_
  refine W.a9 (fun m σ=>∃(k:Nat) (c:Int) (z:List Int) (ver:Nat) (rows:Pm.Rows) (clk:Nat),σ=⟨fa [(0,aX aO x),(1,aX aO y),(5, .own 15 ver 0 (x.length+y.length)),(6, .int .i64 i),(7, .int .i64 c),(8, .int .i64 k),(17, .int .i64 x.length),(18, .int .i64 i)],rows,clk⟩ ∧
   rows 15=some ⟨ver,3,1,emap aO z⟩∧m=y.length+1-k∧(k≤y.length∧(∀j,i+y.length≤j→nth z j=0)∨k=y.length+1∧c=0)∧z.length=x.length+y.length∧b6 10000 z∧(∀j,i+1+y.length≤j→nth z j=0)∧0≤c∧c≤9999 ∧
   V 10000 z+10000^(i+k)*c=V 10000 (x.take i)*V 10000 y+10000^i*nth x i*V 10000 (y.take k)) (y.length+1) ?_ ?_
  ·exact⟨_, .refl,0,0,z,ver,_,_,rfl,by simpa using hr,by omega, .inl ⟨by omega,o9⟩,hz,lz,fun j hj=>o9 j (by omega),by omega,by omega,by simp [V,hV]⟩
  clear hV o9 lz hz hr z ver rows clk
  rintro m _ ⟨k,c,z,ver,rows,clk,rfl,hr,hm,hky,hz,lz,o9,yG,wP,hV⟩
  refine W.seq ?_
  refine W.fW (fun σ=>∃(t:Bool),σ=⟨fa [(0,aX aO x),(1,aX aO y),(5, .own 15 ver 0 (x.length+y.length)),(6, .int .i64 i),(7, .int .i64 c),(8, .int .i64 k),(17, .int .i64 x.length),(18, .int .i64 i),(28, .bool t)],rows,clk⟩∧(t=true↔k<y.length∨0<c)) (fun K hK=>?_) ?_
  ·simp
   by_cases h2:k<y.length
   ·simp (disch:=omega) [gw,h2]
    exact hK _ _ (aC _ [0,1,5,6,7,8,17,18,28]) ⟨_,rfl,by simp [h2]⟩
   ·simp (disch:=omega) [gw,h2]
    exact hK _ _ (aC _ [0,1,5,6,7,8,17,18,28]) ⟨_,rfl,by simp [h2]⟩
  rintro _ ⟨t,rfl,ht⟩
  refine W.cond ⟨_,rfl,fun h2=>?_,fun h2=>?_⟩
  ·have ht:=ht.1 h2
   obtain⟨wQ,hk1⟩:k≤y.length∧(∀j,i+y.length≤j→nth z j=0):=by
    rcases hky with h3 | h3
    ·exact h3
    ·omega
   have hzk:=lz.nth (i:=i+k) (by omega)
   have e0:((i:Int)+(k:Int)).toNat=i+k:=by omega
   refine iS ?_
   refine W.sr ?_
   simp (disch:=omega) [gw,hr,e0]
   refine bF [0,1,5,6,8,9,17,18] ?_
   refine W.gK (fun σ=>∃(s:Int),σ=⟨fa [(0,aX aO x),(1,aX aO y),(5, .own 15 ver 0 (x.length+y.length)),(6, .int .i64 i),(8, .int .i64 k),(9, .int .i64 s),(17, .int .i64 x.length),(18, .int .i64 i)],rows,clk⟩∧0≤s∧s≤99999999∧(k=y.length→s=c) ∧
    V 10000 z-10000^(i+k)*nth z (i+k)+10000^(i+k)*s=V 10000 (x.take i)*V 10000 y+10000^i*nth x i*V 10000 (y.take (k+1))) ?_ ?_
   ·
    refine aB [0,1,5,6,8,9,17,18,42] ?_
    refine bO ?_ ?_<;>intro h
    ·simp at h
     have hyk:=ly.nth h
     have hp:=ael hxi hyk
     refine W.CS (fun K hK=>?_);simp (disch:=omega) [gw]
     refine hK _ ⟨_,aC _ [0,1,5,6,8,9,17,18],_,rfl,by omega,by omega,by omega,?_⟩
     rw [aR h,Int.pow_add]
     rw [Int.pow_add]at hV
     grind
    ·simp at h
     have hkl:k=y.length:=by omega
     have h0:=hk1 (i+k) (by omega)
     refine W.skip ?_
     refine⟨_,aC _ [0,1,5,6,8,9,17,18],_,rfl,by omega,by omega,by omega,?_⟩
     rw [aV (l:=y) (by omega)]
     rw [aV (l:=y) (by omega)]at hV
     rw [h0]
     grind
   rintro _ ⟨s,rfl,XR,xF,hsc,hsV⟩
   refine W.sr ?_
   simp (disch:=omega) [gw,hr,e0]
   refine bF [0,1,5,6,8,9,17,18] ?_
   refine W.cA (fun K hK=>?_);simp (disch:=omega) [gw];refine W.lw [0,1,5,6,7,8,17,18] hK ?_;clear hK K;simp
   refine W.cA (fun K hK=>?_);simp (disch:=omega) [gw]
   have L3:=yB (b:=10000) (l:=z) (i:=i+k) (x:=s%10000) (by omega)
   refine hK _ ⟨y.length+1-(k+1),_,aC _ [0,1,5,6,7,8,17,18],by omega,k+1,s/10000,z.set (i+k) (s%10000),ver,_,_,rfl,by simp,rfl,?_,by simpa using hz,lz.set (by omega),fun j hj=>?_,by omega,by omega,?_⟩
   ·rcases Nat.lt_or_ge k y.length with h3 | h3
    ·left
     refine⟨by omega,fun j hj=>?_⟩
     rw [eM (by omega)];exact hk1 j hj
    ·right
     have:=hsc (by omega)
     exact⟨by omega,by omega⟩
   ·rw [eM (by omega)];exact o9 j hj
   ·rw [L3,←hsV,show i+(k+1)=(i+k)+1 by omega,Int.pow_succ]
    have:=Int.emod_add_mul_ediv s 10000
    grind
  ·have ht:¬(k<y.length∨0<c):=fun h3=>by simp [ht.2 h3]at h2
   have hc:c=0:=by omega
   subst hc
   refine eH ?_
   refine W.cA (fun K hK=>?_);simp (disch:=omega) [gw]
   refine hK _ ⟨x.length-(i+1),_,aC _ [0,1,5,17,18],by omega,i+1,z,ver,_,_,rfl,hr,by omega,by omega,hz,lz,o9,?_⟩
   rw [aR h]
   rw [aV (l:=y) (by omega)]at hV
   grind
 ·simp at h
  have oP:i=x.length:=by omega
  subst oP
  have pJ:List.take (x.length+y.length) z=z:=List.take_of_length_le (by omega)
  refine eH ?_
  refine W.sr ?_
  simp (disch:=omega) [gw,hr,pJ]
  refine aD (k5 z (by omega)) ?_
  simp (disch:=omega) [gw]
  refine bF [4] ?_
  refine W.ret ?_
  rw [aV (Nat.le_refl _)]at hV
  rw [←hV,←pL lz]
  simp
theorem R9(x y:Int)(hx:0≤x)(hy:0≤y)(zx:Z x)(zy:Z y):aZ env.P 131 [Dn x,Dn y] (Dn (x*y)):=by
 have:=MD (a5 DD x.toNat) (a5 DD y.toNat) (by have:=iL hx;omega) (by have:=iL hy;omega) (jJ _) (jJ _)
 rwa [qH hx,qH hy]at this
theorem AH{x:Int}(h:Z x):Z (x.natAbs:Int):=by simpa [Z,sz]using h
theorem j3(n:Nat)(neg:Bool):aZ env.P 68 [aX aO (a5 DD n), .bool neg] (RI (if neg=true then -(n:Int)else n)):=n6 n (by omega) neg
theorem ME(x y:Int):(if decide (x<0) != decide (y<0)then -((x.natAbs*y.natAbs:Nat):Int)else((x.natAbs*y.natAbs:Nat):Int))=x*y:=by
 rw [Int.natCast_mul]
 by_cases h1:x<0<;>by_cases h2:y<0
 ·simp only [h1,h2,show(x.natAbs:Int) = -x by omega,show(y.natAbs:Int) = -y by omega];simp<;>grind
 ·simp only [h1,h2,show(x.natAbs:Int) = -x by omega,show(y.natAbs:Int)=y by omega];simp<;>grind
 ·simp only [h1,h2,show(x.natAbs:Int)=x by omega,show(y.natAbs:Int) = -y by omega];simp<;>grind
 ·simp only [h1,h2,show(x.natAbs:Int)=x by omega,show(y.natAbs:Int)=y by omega];simp<;>grind
theorem fI(x y:Int)(zx:Z x)(zy:Z y):aZ env.P 63 [RI x,RI y] (RI (x*y)):=by
 refine cL [(0,RI x),(1,RI y)] Tryz.func63 ?_
 refine aB [2,3,4] ?_
 refine oW ?_
 refine aD (R9 x.natAbs y.natAbs (by omega) (by omega) (AH zx) (AH zy)) ?_
 have e:((x.natAbs:Int)*y.natAbs).toNat=x.natAbs*y.natAbs:=by rw [←Int.natCast_mul];exact Int.toNat_natCast _
 simp only [Dn,e]
 obtain⟨m,hm⟩:∃m,m=x.natAbs*y.natAbs:=⟨_,rfl⟩
 rw [←hm]
 simp (disch:=omega) [gw]
 refine aD (j3 m (decide (x<0) != decide (y<0))) ?_
 have e2:=ME x y
 rw [←hm]at e2
 rw [e2]
 simp (disch:=omega) [gw]
 refine bF [4] ?_
 exact cV
theorem DF(x y:Int)(zx:Z x)(zy:Z y):aZ env.P 154 [RI x,RI y] (RI (x+y)):=by
 refine cL [(0,RI x),(1,RI y)] Tryz.func154 ?_
 refine aB [2,3,4] ?_
 refine aQ [2,3,4,9] ?_
 refine bO ?_ ?_<;>intro h
 ·simp at h
  refine oW ?_
  refine aD (R8 x.natAbs y.natAbs (by omega) (by omega) (AH zx) (AH zy)) ?_
  have e:((x.natAbs:Int)+y.natAbs).toNat=x.natAbs+y.natAbs:=by omega
  simp only [Dn,e]
  obtain⟨m,hm⟩:∃m,m=x.natAbs+y.natAbs:=⟨_,rfl⟩
  rw [←hm]
  simp (disch:=omega) [gw]
  refine aD (j3 m _) ?_
  have e2:(if decide (x<0)=true then -(m:Int)else m)=x+y:=by by_cases h1:x<0<;>simp [h1]<;>omega
  rw [e2]
  simp (disch:=omega) [gw]
  refine bF [4] ?_
  exact cV
 ·simp at h
  refine W.skip ?_
  refine W.seq ?_
  refine j1 ?_
  refine aD (DE x.natAbs y.natAbs (by omega) (by omega) (AH zx) (AH zy)) ?_
  simp (disch:=omega) [gw]
  refine bF [2,3,4,23] ?_
  refine W.cond ⟨_,rfl,fun h2=>?_,fun h2=>?_⟩
  ·have h2:(y.natAbs:Int)≤x.natAbs:=nB.1 (of_decide_eq_true h2)
   refine oW ?_
   refine aD (vI x.natAbs y.natAbs (by omega) h2 (AH zx)) ?_
   have e:((x.natAbs:Int)-y.natAbs).toNat=x.natAbs-y.natAbs:=by omega
   simp only [Dn,e]
   obtain⟨m,hm⟩:∃m,m=x.natAbs-y.natAbs:=⟨_,rfl⟩
   rw [←hm]
   simp (disch:=omega) [gw]
   refine aD (j3 m _) ?_
   have e2:(if decide (x<0)=true then -(m:Int)else m)=x+y:=by by_cases h1:x<0<;>simp [h1]<;>omega
   rw [e2]
   simp (disch:=omega) [gw]
   refine bF [4] ?_
   exact cV
  ·have h2:(x.natAbs:Int)<y.natAbs:=by
    have h3:=of_decide_eq_false h2
    rw [nB]at h3;omega
   refine W.skip ?_
   refine oW ?_
   refine aD (vI y.natAbs x.natAbs (by omega) (by omega) (AH zy)) ?_
   have e:((y.natAbs:Int)-x.natAbs).toNat=y.natAbs-x.natAbs:=by omega
   simp only [Dn,e]
   obtain⟨m,hm⟩:∃m,m=y.natAbs-x.natAbs:=⟨_,rfl⟩
   rw [←hm]
   simp (disch:=omega) [gw]
   refine aD (j3 m _) ?_
   have e2:(if decide (y<0)=true then -(m:Int)else m)=x+y:=by by_cases h1:y<0<;>simp [h1]<;>omega
   rw [e2]
   simp (disch:=omega) [gw]
   refine bF [4] ?_
   exact cV
theorem aoA{x:Int}(h:Z x):Z (-x):=by simpa [Z,nD]using h
theorem DG(x y:Int)(zx:Z x)(zy:Z y):aZ env.P 130 [RI x,RI y] (RI (x-y)):=by
 have hn:=nM y
 have zn:=aoA zy
 obtain⟨m,hm⟩:∃m,m = -y:=⟨_,rfl⟩
 rw [←hm]at hn zn
 have e:x-y=x+m:=by omega
 rw [e]
 refine cL [(0,RI x),(1,RI y)] Tryz.func130 ?_
 refine aB [2,3,4] ?_
 refine oW ?_
 refine cM hn ?_
 refine c7 [4] (DF x m zx zn) ?_
 exact cV
theorem MF(x y:Int):(x-y).sign=iG x y:=by
 rcases Int.lt_trichotomy x y with h | h | h
 ·rw [lM h,Int.sign_eq_neg_one_of_neg (by omega)]
 ·subst h;simp [tH]
 ·rw [lN h,Int.sign_eq_one_of_pos (by omega)]
theorem SA(x y:Int)(zx:Z x)(zy:Z y):aZ env.P 62 [RI x,RI y] (.int .i64 (iG x y)):=by
 refine cL [(0,RI x),(1,RI y)] Tryz.func62 ?_
 refine aB [2,3] ?_
 refine j1 ?_
 refine cM (DG x y zx zy) ?_
 refine aD (L8 (x-y)) ?_
 rw [MF]
 simp (disch:=omega) [gw]
 refine bF [4] ?_
 exact cV
theorem MG(x:Int)(n:Bool)(l:List Int)(zx:Z x)(hl:l.length<1099511627776):aZ env.P 175 [RI x,IV n l] (.bool (decide (n=decide (x<0)∧l=a5 LL x.natAbs))):=by
 have hln:(a5 LL x.natAbs).length≤sz 2 x:=tM eV x
 refine cL [(0,RI x),(1,IV n l)] Tryz.func175 ?_
 refine aB [2,3] ?_
 refine j1 ?_
 refine cM (JG x.natAbs (AH zx)) ?_
 generalize a5 LL x.natAbs=m at *
 refine bF [2,3,5] ?_
 refine W.seq ?_
 refine W.fW (fun σ=>∃(b:Bool) (rows:Pm.Rows) (clk:Nat),σ=⟨fa [(3, .ptr 3 1 0 0),(5,us m),(22, .bool b)],rows,clk⟩∧(b=true↔¬(n=decide (x<0)∧l.length=m.length))∧rows 3=some ⟨1,38,2,[[.bool n,us l]]⟩) (fun K hK=>?_) ?_
 ·simp
  cases n<;>by_cases h1:x<0
  all_goals
   simp (disch:=omega) [gw,h1]
   refine hK _ _ (aC _ [3,5,22]) ⟨_,_,_,rfl,?_,by simp⟩
   simp [h1]
  all_goals omega
 rintro _ ⟨b,rows,clk,rfl,hb,c5⟩
 refine bO ?_ ?_<;>intro h
 ·have hb:=hb.1 h
  have e:¬(n=decide (x<0)∧l=m):=fun h2=>hb ⟨h2.1,by rw [h2.2]⟩
  refine aB [4] ?_
  refine W.ret ?_
  simp [go,e]
 ·have hb:n=decide (x<0)∧l.length=m.length:=Classical.byContradiction fun h2=>by simp [hb.2 h2]at h
  refine W.skip ?_
  refine aQ [3,5,24,25] ?_
  refine W.block ?_
  refine W.a9 (fun k σ=>∃(i:Nat) (rows:Pm.Rows) (clk:Nat),σ=⟨fa [(3, .ptr 3 1 0 0),(5,us m),(24, .int .i64 m.length),(25, .int .i64 i)],rows,clk⟩∧rows 3=some ⟨1,38,2,[[.bool n,us l]]⟩∧k=m.length-i∧i≤m.length∧l.take i=m.take i) m.length ?_ ?_
  ·exact⟨_, .refl,0,_,_,rfl,by simpa using c5,by omega,by omega,by simp⟩
  rintro k _ ⟨i,rows,clk,rfl,c5,hk,hi,hI⟩
  refine cH [3,5,24,25,26] ?_
  refine bO ?_ ?_<;>intro h
  ·simp at h
   refine iS ?_
   refine aB [3,5,6,24,25] ?_
   refine W.sd ?_
   simp (disch:=omega) [gw,c5]
   refine bF [3,5,24,25,37] ?_
   refine W.cond ⟨_,rfl,fun h2=>?_,fun h2=>?_⟩
   ·have h2:nth m i≠nth l i:=by simpa using h2
    have e:¬(n=decide (x<0)∧l=m):=fun h3=>h2 (by rw [h3.2])
    refine aB [4] ?_
    refine W.ret ?_
    simp [go,e]
   ·have h2:nth m i=nth l i:=by simpa using h2
    refine W.skip ?_
    refine W.cA (fun K hK=>?_);simp (disch:=omega) [gw]
    refine hK _ ⟨m.length-(i+1),_,aC _ [3,5,24,25],by omega,i+1,_,_,rfl,by simp [c5],by omega,by omega,?_⟩
    rw [aU (by omega),aU h,hI,h2]
  ·simp at h
   have oP:i=m.length:=by omega
   subst oP
   rw [List.take_of_length_le (by omega),List.take_of_length_le (by omega)]at hI
   refine eH ?_
   refine aB [4] ?_
   refine W.ret ?_
   simp [go,hb,hI]
end Go.Proofs.YtiobceocpabjdaaGreat
