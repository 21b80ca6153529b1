import Derived.Test.YtiobceocpabjdaaGreatZae
import Derived.Test.YtiobceocpabjdaaGreatZag
set_option linter.unusedSimpArgs false
set_option linter.unusedVariables false
namespace Go.Proofs.YtiobceocpabjdaaGreat
open Go Pm
theorem sH.nil:sH []:=⟨cX.nil,by simp⟩
theorem s6.X5{l:List (Bool × List Int)}(h:s6 l)(i:Nat):sH (Pm.nth l i).2:=by
 by_cases hi:i<l.length
 ·exact h.nth hi
 ·rw [iF (by omega)];exact sH.nil
theorem uA(l:List (Bool × List Int))(k:Nat):nth (l.map gv) k=gv (nth l k):=Pm.z7 (f:=gv) rfl l k
theorem xM(x:Int):iv (decide (x<0)) (aU LL x.natAbs)=x:=MD x
theorem vQ{x y:Int}(hx:Sz x)(hy:Sz y):aF env.P 66 [I x,I y] (I (x*y)):=by
 have:=MA (decide (x<0)) (decide (y<0)) (aU LL x.natAbs) (aU LL y.natAbs) hx.UM hy.UM
 rwa [xM,xM]at this
theorem UN{x y:Int}(hx:Sz x)(hy:Sz y):aF env.P 65 [I x,I y] (I (x+y)):=by
 have:=CK (decide (x<0)) (decide (y<0)) (aU LL x.natAbs) (aU LL y.natAbs) hx.UM hy.UM
 rwa [xM,xM]at this
theorem ach{x:Int}(hx:Sz x):aF env.P 148 [I x] (I (-x)):=by
 have:=CJ (decide (x<0)) (aU LL x.natAbs) hx.UM
 rwa [xM]at this
theorem CL{x:Int}(hx:Sz x):aF env.P 132 [I x] (I x):=by
 have:=FY (decide (x<0)) (aU LL x.natAbs) hx.UM
 rwa [xM]at this
theorem aci(a b:List (Bool × List Int))(ha:s6 a)(hb:s6 b)(k:Nat)(hk:k<9223372036854775808):aF env.P 242 [.int .i64 (k:Int), .rd [Pg a], .rd [Pg b]] (I (nth (a.map gv) k+nth (b.map gv) k)):=by
 refine cZ (E:=env) (fun _=>0) [(0, .int .i64 (k:Int)),(1, .rd [Pg a]),(2, .rd [Pg b])] Tryz.func242 rfl (by kernel_rfl) (by kernel_rfl) (show 3≤12 by decide) (by simp) ?_
 have:=ha.len;have:=hb.len
 refine W.eE (fun K hK=>?_)
 simp (disch:=omega) [gA,wA]
 refine W.lv [0,1,2,4] hK fun J j=>?_;clear hK K;simp;refine j _ ?_;clear j J
 refine W.abZ (fun K hK=>?_)
 simp (disch:=omega) [gA,wA]
 refine aC (IJ a k ha.len hk) ?_
 simp (disch:=omega) [gA,wA]
 refine aC (IJ b k hb.len hk) ?_
 simp (disch:=omega) [gA,wA]
 refine aC (CK _ _ _ _ (ha.X5 k) (hb.X5 k)) ?_
 simp (disch:=omega) [gA,wA]
 refine W.lv [4] hK fun J j=>?_;clear hK K;simp;refine j _ ?_;clear j J
 refine W.ret ?_
 rw [uA,uA]
 simp [go,gv]
theorem acj(a b:List (Bool × List Int))(ha:s6 a)(hb:s6 b)(k:Nat)(hk:k<9223372036854775808):aF env.P 247 [.int .i64 (k:Int), .rd [Pg a], .rd [Pg b]] (I (nth (a.map gv) k-nth (b.map gv) k)):=by
 refine cZ (E:=env) (fun _=>0) [(0, .int .i64 (k:Int)),(1, .rd [Pg a]),(2, .rd [Pg b])] Tryz.func247 rfl (by kernel_rfl) (by kernel_rfl) (show 3≤12 by decide) (by simp) ?_
 have:=ha.len;have:=hb.len
 refine W.eE (fun K hK=>?_)
 simp (disch:=omega) [gA,wA]
 refine W.lv [0,1,2,4] hK fun J j=>?_;clear hK K;simp;refine j _ ?_;clear j J
 refine W.abZ (fun K hK=>?_)
 simp (disch:=omega) [gA,wA]
 refine aC (IJ a k ha.len hk) ?_
 simp (disch:=omega) [gA,wA]
 refine aC (IJ b k hb.len hk) ?_
 simp (disch:=omega) [gA,wA]
 refine aC (MB _ _ _ _ (ha.X5 k) (hb.X5 k)) ?_
 simp (disch:=omega) [gA,wA]
 refine W.lv [4] hK fun J j=>?_;clear hK K;simp;refine j _ ?_;clear j J
 refine W.ret ?_
 rw [uA,uA]
 simp [go,gv]
theorem ack(a:List (Bool × List Int))(ha:s6 a)(k:Nat)(hk:k<a.length):aF env.P 216 [.int .i64 (k:Int), .rd [Pg a]] (I (- nth (a.map gv) k)):=by
 refine cZ (E:=env) (fun _=>0) [(0, .int .i64 (k:Int)),(1, .rd [Pg a])] Tryz.func216 rfl (by kernel_rfl) (by kernel_rfl) (show 2≤9 by decide) (by simp) ?_
 have:=ha.len
 refine W.eE (fun K hK=>?_)
 simp (disch:=omega) [gA,wA]
 refine W.lv [0,1,3] hK fun J j=>?_;clear hK K;simp;refine j _ ?_;clear j J
 refine W.eE (fun K hK=>?_)
 simp (disch:=omega) [gA,wA]
 refine aC (CJ _ _ (ha.X5 k)) ?_
 simp (disch:=omega) [gA,wA]
 refine W.lv [3] hK fun J j=>?_;clear hK K;simp;refine j _ ?_;clear j J
 refine W.ret ?_
 rw [uA]
 simp [go,gv]
theorem acm(a:List (Bool × List Int))(ha:s6 a)(n:Bool)(c:List Int)(hc:sH c)(k:Nat)(hk:k<a.length):aF env.P 241 [.int .i64 (k:Int), .rd [Pg a], .rd [.bool n,us c]] (I (nth (a.map gv) k*iv n c)):=by
 refine cZ (E:=env) (fun _=>0) [(0, .int .i64 (k:Int)),(1, .rd [Pg a]),(2, .rd [.bool n,us c])] Tryz.func241 rfl (by kernel_rfl) (by kernel_rfl) (show 3≤11 by decide) (by simp) ?_
 have:=ha.len
 refine W.eE (fun K hK=>?_)
 simp (disch:=omega) [gA,wA]
 refine W.lv [0,1,2,4] hK fun J j=>?_;clear hK K;simp;refine j _ ?_;clear j J
 refine W.abZ (fun K hK=>?_)
 simp (disch:=omega) [gA,wA]
 refine aC (MA _ _ _ _ (ha.X5 k) hc) ?_
 simp (disch:=omega) [gA,wA]
 refine W.lv [4] hK fun J j=>?_;clear hK K;simp;refine j _ ?_;clear j J
 refine W.ret ?_
 rw [uA]
 simp [go,gv]
theorem acn(a b:List (Bool × List Int))(ha:s6 a)(hb:s6 b):aF env.P 182 [Pg a,Pg b] (Po (iG (a.map gv) (b.map gv))):=by
 refine cZ (E:=env) (fun _=>0) [(0,Pg a),(1,Pg b)] Tryz.func182 rfl (by kernel_rfl) (by kernel_rfl) (show 2≤12 by decide) (by simp) ?_
 have X6:=ha.len;have hlb:=hb.len
 refine W.eE (fun K hK=>?_)
 simp (disch:=omega) [gA,wA]
 refine W.lv [2,3] hK fun J j=>?_;clear hK K;simp;refine j _ ?_;clear j J
 refine W.eE (fun K hK=>?_)
 have e:(if a.length<b.length then(b.length:Int)else(a.length:Int))=((max a.length b.length:Nat):Int):=by split<;>omega
 simp (disch:=omega) [gA,wA,e]
 refine aC (rL 242 rfl [.rd [Pg a], .rd [Pg b]] rfl (max a.length b.length) (by omega) (fun k=>nth (a.map gv) k+nth (b.map gv) k) (fun k hk=>aci a b ha hb k (by omega))) ?_
 simp (disch:=omega) [gA,wA]
 refine W.lv [4] hK fun J j=>?_;clear hK K;simp;refine j _ ?_;clear j J
 refine W.ret ?_
 simp [go,iG]
theorem aco(a b:List (Bool × List Int))(ha:s6 a)(hb:s6 b):aF env.P 186 [Pg a,Pg b] (Po (fM (a.map gv) (b.map gv))):=by
 refine cZ (E:=env) (fun _=>0) [(0,Pg a),(1,Pg b)] Tryz.func186 rfl (by kernel_rfl) (by kernel_rfl) (show 2≤12 by decide) (by simp) ?_
 have X6:=ha.len;have hlb:=hb.len
 refine W.eE (fun K hK=>?_)
 simp (disch:=omega) [gA,wA]
 refine W.lv [2,3] hK fun J j=>?_;clear hK K;simp;refine j _ ?_;clear j J
 refine W.eE (fun K hK=>?_)
 have e:(if a.length<b.length then(b.length:Int)else(a.length:Int))=((max a.length b.length:Nat):Int):=by split<;>omega
 simp (disch:=omega) [gA,wA,e]
 refine aC (rL 247 rfl [.rd [Pg a], .rd [Pg b]] rfl (max a.length b.length) (by omega) (fun k=>nth (a.map gv) k-nth (b.map gv) k) (fun k hk=>acj a b ha hb k (by omega))) ?_
 simp (disch:=omega) [gA,wA]
 refine W.lv [4] hK fun J j=>?_;clear hK K;simp;refine j _ ?_;clear j J
 refine W.ret ?_
 simp [go,fM]
theorem FZ{α β:Type}[Inhabited α](l:List α)(f:α→β):(List.range l.length).map (fun k=>f (nth l k))=l.map f:=by
 apply List.ext_getElem
 ·simp
 ·intro i h1 h2
  simp at h1
  simp [cB h1]
theorem acp(a:List (Bool × List Int))(ha:s6 a):aF env.P 139 [Pg a] (Po (gW (a.map gv))):=by
 refine cZ (E:=env) (fun _=>0) [(0,Pg a)] Tryz.func139 rfl (by kernel_rfl) (by kernel_rfl) (show 1≤7 by decide) (by simp) ?_
 have X6:=ha.len
 refine W.eE (fun K hK=>?_)
 simp (disch:=omega) [gA,wA]
 refine W.lv [1] hK fun J j=>?_;clear hK K;simp;refine j _ ?_;clear j J
 refine W.eE (fun K hK=>?_)
 simp (disch:=omega) [gA,wA]
 refine aC (rL 216 rfl [.rd [Pg a]] rfl a.length (by omega) (fun k => - nth (a.map gv) k) (fun k hk=>ack a ha k hk)) ?_
 simp (disch:=omega) [gA,wA]
 refine W.lv [2] hK fun J j=>?_;clear hK K;simp;refine j _ ?_;clear j J
 refine W.ret ?_
 have e:=FZ (a.map gv) (fun c => -c)
 rw [List.length_map]at e
 rw [e]
 simp [go,gW]
theorem RA(a:List (Bool × List Int))(ha:s6 a)(n:Bool)(c:List Int)(hc:sH c):aF env.P 181 [Pg a,IV n c] (Po (bA (a.map gv) (iv n c))):=by
 refine cZ (E:=env) (fun _=>0) [(0,Pg a),(1,IV n c)] Tryz.func181 rfl (by kernel_rfl) (by kernel_rfl) (show 2≤9 by decide) (by simp) ?_
 have X6:=ha.len
 refine W.eE (fun K hK=>?_)
 simp (disch:=omega) [gA,wA]
 refine W.lv [2,3] hK fun J j=>?_;clear hK K;simp;refine j _ ?_;clear j J
 refine W.eE (fun K hK=>?_)
 simp (disch:=omega) [gA,wA]
 refine aC (rL 241 rfl [.rd [Pg a], .rd [.bool n,us c]] rfl a.length (by omega) (fun k=>nth (a.map gv) k*iv n c) (fun k hk=>acm a ha n c hc k hk)) ?_
 simp (disch:=omega) [gA,wA]
 refine W.lv [4] hK fun J j=>?_;clear hK K;simp;refine j _ ?_;clear j J
 refine W.ret ?_
 have e:=FZ (a.map gv) (fun a=>a*iv n c)
 rw [List.length_map]at e
 rw [e]
 simp [go,bA]
theorem acq(a b:List (Bool × List Int))(ha:s6 a)(hb:s6 b)(s s' n n':Nat)(hs:Bd LL s n (a.map gv))(zZ:Bd LL s' n' (b.map gv))(hB:s+s'+n+n'<1099511627775) :
  aF env.P 15 [Pg a,Pg b] (Po (bQ (a.map gv) (b.map gv))):=by
 refine cZ (E:=env) (fun id=>if id=11 then 1 else 0) [(0,Pg a),(1,Pg b)] Tryz.func15 rfl (by kernel_rfl) (by kernel_rfl) (show 2≤62 by decide) (by simp) ?_
 refine W.eE (fun K hK=>?_)
 simp (disch:=omega) [gA,wA]
 refine W.lv [0,1] hK fun J j=>?_;clear hK K;simp;refine j _ ?_;clear j J
 refine W.eE (fun K hK=>?_)
 simp (disch:=omega) [gA,wA]
 refine aC (iO a ha) ?_
 simp (disch:=omega) [gA,wA]
 refine aC (iO b hb) ?_
 simp (disch:=omega) [gA,wA]
 refine W.lv [0,1] hK fun J j=>?_;clear hK K;simp;refine j _ ?_;clear j J
 have e:bQ (a.map gv) (b.map gv)=bQ (aQ (a.map gv)) (aQ (b.map gv)):=Cn.ext (Cn.bQ _ _) (Cn.bQ _ _) fun t=>by simp [dG,c8]
 rw [e]
 replace hs:=hs.cut
 replace zZ:=zZ.cut
 clear e ha hb
 generalize aQ (a.map gv)=x at *
 generalize aQ (b.map gv)=y at *
 have hlx:=hs.len;have hly:=zZ.len
 refine W.seq ?_
 refine W.fA (fun σ=>∃(b:Bool),σ=⟨fa [(0,Po x),(1,Po y),(21, .bool b)],fun _=>none,0⟩∧(b=true↔x = []∨y = [])) (fun K hK=>?_) ?_
 ·simp
  have e1:((x.length:Int)==0)=decide (x = []):=by
   cases x<;>simp<;>omega
  have e2:((y.length:Int)==0)=decide (y = []):=by
   cases y<;>simp<;>omega
  rw [e1]
  by_cases h0:x = []
  ·have e3:decide (x = [])=true:=by simp [h0]
   rw [e3]
   simp
   exact hK _ _ (aB _ [0,1,21]) ⟨_,rfl,by simp [h0]⟩
  ·have e3:decide (x = [])=false:=by simp [h0]
   rw [e3]
   simp
   exact hK _ _ (aB _ [0,1,21]) ⟨_,rfl,by rw [e2];simp [h0]⟩
 rintro _ ⟨b,rfl,hb⟩
 refine W.cond ⟨_,rfl,fun h=>?_,fun h=>?_⟩
 ·have e:bQ x y = []:=by
   have h1:=hb.1 h
   refine Cn.ext (Cn.bQ _ _) Cn.nil fun t=>?_
   rw [dG]
   rcases h1 with rfl | rfl<;>simp [V]
  refine W.eE (fun K hK=>?_)
  simp (disch:=omega) [gA,wA]
  refine W.lv [4] hK fun J j=>?_;clear hK K;simp;refine j _ ?_;clear j J
  refine W.ret ?_
  simp [go,e]
  rfl
 ·have h1:¬(x = []∨y = []):=fun h2=>by simp [hb.2 h2]at h
  have o7:0<x.length:=List.length_pos_iff.2 fun h2=>h1 (.inl h2)
  have RB:0<y.length:=List.length_pos_iff.2 fun h2=>h1 (.inr h2)
  clear h hb h1
  refine W.skip ?_
  refine W.eE (fun K hK=>?_)
  simp (disch:=omega) [gA,wA]
  refine W.lv [0,1,5] hK fun J j=>?_;clear hK K;simp;refine j _ ?_;clear j J
  have e0:((x.length:Int)+(y.length:Int)-1).toNat=x.length+y.length-1:=by omega
  refine W.row (id:=28) (emap ie (List.replicate (x.length+y.length-1) 0)) (by simp;exact⟨rfl,rfl,rfl,by omega⟩) (rK _) ?_
  refine W.seq ?_
  refine W.eE (fun K hK=>?_)
  simp (disch:=omega) [gA,wA]
  refine W.lv [1,5,29,30,31] hK fun J j=>?_;clear hK K;simp;refine j _ ?_;clear j J
  refine W.block ?_
  refine W.bE (fun k σ=>∃(i:Nat) (z:List Int) (ver:Nat) (rows:Pm.Rows) (clk:Nat),σ=⟨fa [(1,Po y),(5, .own 28 ver 0 (x.length+y.length-1)),(29,Po x),(30, .int .i64 x.length),(31, .int .i64 i)],rows,clk⟩ ∧
   rows 28=some ⟨ver,38,2,emap ie z⟩∧k=x.length-i∧i≤x.length∧z.length=x.length+y.length-1∧(∀j,sz LL (nth z j)≤s+s'+i) ∧
   ∀t,V t z=V t (x.take i)*V t y) x.length ?_ ?_
  ·refine⟨_, .refl,0,List.replicate (x.length+y.length-1) 0,_,_,_,rfl,by simp,by omega,by omega,by simp,fun j=>?_,fun t=>by simp [V,qB]⟩
   ·have:Bd LL 0 (x.length+y.length-1) (List.replicate (x.length+y.length-1) 0):=⟨by simp,fun c hc=>by rw [(List.mem_replicate.1 hc).2,kJ];omega⟩
    have:=this.nth j
    omega
  rintro k _ ⟨i,z,ver,rows,clk,rfl,hr,hk,hi,hz,D4,hV⟩
  refine W.eE (fun K hK=>?_)
  simp (disch:=omega) [gA,wA]
  refine W.lv [1,5,29,30,31,32] hK fun J j=>?_;clear hK K;simp;refine j _ ?_;clear j J
  refine W.seq ?_
  refine W.cond ⟨_,rfl,fun h=>?_,fun h=>?_⟩
  ·simp at h
   refine W.skip ?_
   refine W.seq ?_
   refine W.block ?_
   refine W.eE (fun K hK=>?_)
   simp (disch:=omega) [gA,wA]
   refine W.lv [1,5,6,7,29,30,31] hK fun J j=>?_;clear hK K;simp;refine j _ ?_;clear j J
   refine W.eE (fun K hK=>?_)
   simp (disch:=omega) [gA,wA]
   refine W.lv [1,5,6,7,29,30,31,36,37,38] hK fun J j=>?_;clear hK K;simp;refine j _ ?_;clear j J
   refine W.block ?_
   refine W.bE (fun m σ=>∃(k:Nat) (z:List Int) (ver v7:Nat) (rows:Pm.Rows) (clk:Nat),σ=⟨fa [(1,Po y),(5, .own 28 ver 0 (x.length+y.length-1)),(6, .int .i64 i),(7, .ptr 7 v7 0 0),(29,Po x),(30, .int .i64 x.length),(31, .int .i64 i),(36,Po y),(37, .int .i64 y.length),(38, .int .i64 k)],rows,clk⟩ ∧
    rows 28=some ⟨ver,38,2,emap ie z⟩∧rows 7=some ⟨v7,38,2,[ie (nth x i)]⟩∧m=y.length-k∧k≤y.length∧z.length=x.length+y.length-1∧(∀j,sz LL (nth z j)≤s+s'+i+1)∧(∀j,i+k≤j→sz LL (nth z j)≤s+s'+i) ∧
    ∀t,V t z=V t (x.take i)*V t y+t^i*nth x i*V t (y.take k)) y.length ?_ ?_
   ·refine⟨_, .refl,0,z,ver,_,_,_,rfl,by simpa using hr,by simp,by omega,by omega,hz,fun j=>by have:=D4 j;omega,fun j _=>D4 j,fun t=>by simp [V,hV]⟩
   clear hV D4 hz hr z ver rows clk
   rintro m _ ⟨k,z,ver,v7,rows,clk,rfl,hr,hr7,hm,hky,hz,D4,RC,hV⟩
   refine W.eE (fun K hK=>?_)
   simp (disch:=omega) [gA,wA]
   refine W.lv [1,5,6,7,29,30,31,36,37,38,39] hK fun J j=>?_;clear hK K;simp;refine j _ ?_;clear j J
   refine W.seq ?_
   refine W.cond ⟨_,rfl,fun h2=>?_,fun h2=>?_⟩
   ·simp at h2
    refine W.skip ?_
    refine W.seq ?_
    refine W.block ?_
    refine W.eE (fun K hK=>?_)
    simp (disch:=omega) [gA,wA]
    refine W.lv [1,5,6,7,8,9,29,30,31,36,37,38] hK fun J j=>?_;clear hK K;simp;refine j _ ?_;clear j J
    have e1:((i:Int)+(k:Int)).toNat=i+k:=by omega
    refine W.LY (fun K hK=>?_)
    simp only [if_true]
    rw [fR]
    simp (disch:=omega) [gA,wA,hr,hr7,e1]
    refine aC (vQ (Nat.lt_of_le_of_lt (hs.nth i) (by omega)) (Nat.lt_of_le_of_lt (zZ.nth k) (by omega))) ?_
    simp (disch:=omega) [gA,wA,hr,hr7,e1]
    have KG:sz LL (nth x i*nth y k)≤s+s'+i:=Nat.le_trans (cG gF (hs.nth i) (zZ.nth k)) (by omega)
    have hm2:=m7 gF (RC (i+k) (Nat.le_refl _)) KG
    have hlz:i+k<z.length:=by omega
    refine aC (UN (Nat.lt_of_le_of_lt (RC (i+k) (Nat.le_refl _)) (by omega)) (Nat.lt_of_le_of_lt KG (by omega))) ?_
    simp (disch:=omega) [gA,wA,hr,hr7,e1]
    refine W.lv [1,5,6,7,29,30,31,36,37,38] hK fun J j=>?_;clear hK K;simp;refine j _ ?_;clear j J
    refine W.cA (fun K hK=>?_)
    simp (disch:=omega) [gA,wA]
    refine hK _ ⟨y.length-(k+1),_,aB _ [1,5,6,7,29,30,31,36,37,38],by omega,k+1,z.set (i+k) (nth z (i+k)+nth x i*nth y k),ver,v7,_,_,rfl,by simp,by simp [hr7],by omega,by omega,by simpa using hz,fun j=>?_,fun j hj=>?_,fun t=>?_⟩
    ·by_cases hj:i+k=j
     ·subst hj;rw [eW hlz];exact hm2
     ·rw [gT hj];exact D4 j
    ·rw [gT (by omega)];exact RC j (by omega)
    ·rw [FT hlz,aV h2,hV,Int.pow_add];grind
   ·simp at h2
    have wX:k=y.length:=by omega
    subst wX
    refine W.exit ?_;simp only [pX,if_true,if_false,reduceIte,Nat.reduceEqDiff]
    refine W.cA (fun K hK=>?_)
    simp (disch:=omega) [gA,wA]
    refine hK _ ⟨x.length-(i+1),_,aB _ [1,5,29,30,31],by omega,i+1,z,ver,_,_,rfl,hr,by omega,by omega,hz,fun j=>by have:=D4 j;omega,fun t=>?_⟩
    rw [hV,a9 (Nat.le_refl _),aV h];grind
  ·simp at h
   have lV:i=x.length:=by omega
   subst lV
   refine W.exit ?_;simp only [pX,if_true,if_false,reduceIte,Nat.reduceEqDiff]
   have tZ:=bM hz
   refine W.eE (fun K hK=>?_)
   simp (disch:=omega) [gA,wA,hr,tZ]
   refine aC (vP z (by omega)) ?_
   simp (disch:=omega) [gA,wA]
   refine W.lv [4] hK fun J j=>?_;clear hK K;simp;refine j _ ?_;clear j J
   refine W.ret ?_
   have e:aQ z=bQ x y:=by
    refine Cn.ext (Cn.cut _) (Cn.bQ _ _) fun t=>?_
    rw [c8,hV,dG,a9 (Nat.le_refl _)]
   simp [go,e]
theorem ax6{S:ByteArray}{kk:IntKind}{k:Nat}{K:PV→Prop}(h:(List.range 256).all (fun x=>decide ((S[x]?).map (fun b=>b.toNat)=some (nb x)))=true)(hk:k<256)(hK:go (K (.int .u8 (nb k)))):aX (fun v=>tR env .str (.str S) (.int kk (k:Int)) v) K:=by
 have h1:=List.all_eq_true.1 h k (by simpa using hk)
 simp only [decide_eq_true_eq]at h1
 obtain⟨b,hb,h2⟩:=Option.map_eq_some_iff.1 h1
 refine⟨_,⟨by omega,b,by simpa using hb,rfl⟩,?_⟩
 rw [h2];exact hK
theorem F0(n:Int)(h0:0≤n)(h1:n<4294967296):aF env.P 267 [.int .u32 n] (.int .i64 (nb n.toNat)):=by
 refine cZ (E:=env) (fun _=>0) [(0, .int .u32 n)] Tryz.func267 rfl (by kernel_rfl) (by kernel_rfl) (show 1≤19 by decide) (by simp) ?_
 refine W.eE (fun K hK=>?_)
 simp (disch:=omega) [gA,wA]
 refine W.lv [0,2] hK fun J j=>?_;clear hK K;simp;refine j _ ?_;clear j J
 refine W.iE (fun σ=>∃(k:Nat) (x:Nat) (rows:Pm.Rows) (clk:Nat),σ=⟨fa [(0, .int .u32 x),(2, .int .i64 k)],rows,clk⟩∧nb n.toNat=k+nb x∧x<65536∧k≤16) ?_ ?_
 ·
  refine W.eE (fun K hK=>?_)
  simp (disch:=omega) [gA,wA]
  refine W.lv [0,2,4] hK fun J j=>?_;clear hK K;simp;refine j _ ?_;clear j J
  refine W.cond ⟨_,rfl,fun h=>?_,fun h=>?_⟩
  ·simp at h
   refine W.eE (fun K hK=>?_)
   simp (disch:=omega) [gA,wA]
   refine W.lv [0] hK fun J j=>?_;clear hK K;simp;refine j _ ?_;clear j J
   refine W.cA (fun K hK=>?_)
   simp (disch:=omega) [gA,wA]
   refine hK _ ⟨_,Gh.fr [(0, .int .u32 ((n.toNat/65536:Nat):Int)),(2, .int .i64 16)] (by simp;rw [Int.fdiv_eq_ediv_of_nonneg _ (by decide)];omega),16,n.toNat/65536,_,_,rfl,?_,by omega,by omega⟩
   exact L4 (k:=16) (by simp;omega)
  ·simp at h
   refine W.skip ?_
   refine⟨_,Gh.fr [(0, .int .u32 (n.toNat:Int)),(2, .int .i64 0)] (by simp;omega),0,n.toNat,_,_,rfl,by simp,by omega,by omega⟩
 rintro _ ⟨k,x,rows,clk,rfl,hn,hx,hk⟩
 refine W.iE (fun σ=>∃(k:Nat) (x:Nat) (rows:Pm.Rows) (clk:Nat),σ=⟨fa [(0, .int .u32 x),(2, .int .i64 k)],rows,clk⟩∧nb n.toNat=k+nb x∧x<256∧k≤24) ?_ ?_
 ·
  refine W.eE (fun K hK=>?_)
  simp (disch:=omega) [gA,wA]
  refine W.lv [0,2,8] hK fun J j=>?_;clear hK K;simp;refine j _ ?_;clear j J
  refine W.cond ⟨_,rfl,fun h=>?_,fun h=>?_⟩
  ·simp at h
   refine W.eE (fun K hK=>?_)
   simp (disch:=omega) [gA,wA]
   refine W.lv [0,2] hK fun J j=>?_;clear hK K;simp;refine j _ ?_;clear j J
   refine W.cA (fun K hK=>?_)
   simp (disch:=omega) [gA,wA]
   refine hK _ ⟨_,Gh.fr [(0, .int .u32 ((x/256:Nat):Int)),(2, .int .i64 ((k+8:Nat):Int))] (by simp;exact Int.fdiv_eq_ediv_of_nonneg _ (by decide)),k+8,x/256,_,_,rfl,?_,by omega,by omega⟩
   have:=L4 (n:=x) (k:=8) (by simp;omega)
   simp at this
   omega
  ·simp at h
   refine W.skip ?_
   refine⟨_,aB _ [0,2],k,x,_,_,rfl,hn,by omega,by omega⟩
 rintro _ ⟨k,x,rows,clk,rfl,hn,hx,hk⟩
 refine W.eE (fun K hK=>?_)
 have hw:IntKind.u8.wrap (x:Int)=x:=wrap_u8 (by omega) (by omega)
 have hz:nb x≤8:=nX.2 hx
 simp only [UC,H4,UD,XU,Q0,BS,HU,QG,if_true,if_false,reduceIte,Nat.reduceEqDiff,amZ,atb,tC,aiX,hw,LS,reduceCtorEq]
 refine ax6 (by kernel_rfl) hx ?_
 simp (disch:=omega) only [H4,abE,FQ,abV,UD,BS,HU,QG,if_true,if_false,reduceIte,Nat.reduceEqDiff,axH,atb,tC,aiX,wrap_i64,HE,jU,afT,reduceCtorEq,true_and]
 refine W.lv [2] hK fun J j=>?_;clear hK K;simp;refine j _ ?_;clear j J
 refine W.ret ?_
 rw [hn]
 simp [go]
def bl(l:List Int):Int:=if l = []then 0 else 32*((l.length:Int)-1)+nb (nth l (l.length-1)).toNat
theorem MF(l:List Int)(h:sH l):aF env.P 257 [us l] (.int .i64 (bl (aQ l))):=by
 refine cZ (E:=env) (fun _=>0) [(0,us l)] Tryz.func257 rfl (by kernel_rfl) (by kernel_rfl) (show 1≤20 by decide) (by simp) ?_
 have hl:=h.len
 have KH:=bX l
 have hL:=eG h.yU
 refine W.eE (fun K hK=>?_)
 simp (disch:=omega) [gA,wA]
 refine W.lv [0] hK fun J j=>?_;clear hK K;simp;refine j _ ?_;clear j J
 refine W.eE (fun K hK=>?_)
 simp (disch:=omega) [gA,wA]
 refine aC (dK l (by omega)) ?_
 simp (disch:=omega) [gA,wA]
 refine W.lv [0] hK fun J j=>?_;clear hK K;simp;refine j _ ?_;clear j J
 generalize aQ l=x at *
 refine W.seq ?_
 refine W.eE (fun K hK=>?_)
 simp (disch:=omega) [gA,wA]
 refine W.lv [0,7] hK fun J j=>?_;clear hK K;simp;refine j _ ?_;clear j J
 refine W.cond ⟨_,rfl,fun h=>?_,fun h=>?_⟩
 ·have h0:x = []:=by simpa using h
  refine W.eE (fun K hK=>?_)
  simp (disch:=omega) [gA,wA]
  refine W.lv [2] hK fun J j=>?_;clear hK K;simp;refine j _ ?_;clear j J
  refine W.ret ?_
  simp [go,bl,h0]
 ·have h0:0<x.length:=List.length_pos_iff.2 (by simpa using h)
  have hx:=hL.nth (i:=x.length-1) (by omega)
  have e:((x.length:Int)-1).toNat=x.length-1:=by omega
  have hz:nb (nth x (x.length-1)).toNat≤32:=nX.2 (by omega)
  refine W.skip ?_
  refine W.eE (fun K hK=>?_)
  simp (disch:=omega) [gA,wA,e]
  refine aC (F0 _ hx.1 hx.2) ?_
  simp (disch:=omega) [gA,wA]
  refine W.lv [2] hK fun J j=>?_;clear hK K;simp;refine j _ ?_;clear j J
  refine W.ret ?_
  have h1:x ≠ []:=fun h2=>by simp [h2]at h0
  simp [go,bl,h1]
theorem agx{l:List Int}(h:cX 4294967296 l)(hc:aQ l=l):bl l=0↔V 4294967296 l=0:=by
 unfold bl
 split
 ·rename_i h0;subst h0;simp [V]
 ·rename_i h0
  have h1:=lG (by decide) h hc h0
  have h2:0<(4294967296:Int)^(l.length-1):=Int.pow_pos (by decide)
  have h3:0<l.length:=List.length_pos_iff.2 h0
  have h4:=h.nth (i:=l.length-1) (by omega)
  have h5:nth l (l.length-1)≠0:=by
   intro h6
   have e:l=l.take (l.length-1) ++ [0]:=by
    conv=>lhs;rw [←List.take_length (l:=l)]
    rw [←h6,←bF (by omega),show l.length-1+1=l.length by omega]
   rw [e,jW]at hc
   have:=congrArg List.length hc
   have:=bX (l.take (l.length-1))
   simp at *
   omega
  have h6:nb (nth l (l.length-1)).toNat≠0:=by
   intro h7
   have:=nX.1 (Nat.le_of_eq h7)
   simp at this;omega
  omega
theorem MG(n:Bool)(l:List Int)(h:sH l):aF env.P 218 [IV n l] (.int .i64 (iv n l).sign):=by
 refine cZ (E:=env) (fun _=>0) [(0,IV n l)] Tryz.func218 rfl (by kernel_rfl) (by kernel_rfl) (show 1≤11 by decide) (by simp) ?_
 have hz:=agx (eG h.yU) (eI l)
 have hp:=qC h
 rw [c8]at hz
 refine W.eE (fun K hK=>?_)
 simp (disch:=omega) [gA,wA]
 refine W.lv [1] hK fun J j=>?_;clear hK K;simp;refine j _ ?_;clear j J
 refine W.seq ?_
 refine W.block ?_
 refine W.eE (fun K hK=>?_)
 simp (disch:=omega) [gA,wA]
 refine aC (MF l h) ?_
 simp (disch:=omega) [gA,wA]
 refine W.lv [1,3] hK fun J j=>?_;clear hK K;simp;refine j _ ?_;clear j J
 refine W.cond ⟨_,rfl,fun hb=>?_,fun hb=>?_⟩
 ·have h0:V 4294967296 l=0:=hz.1 (by simpa using hb)
  refine W.eE (fun K hK=>?_)
  simp (disch:=omega) [gA,wA]
  refine W.lv [2] hK fun J j=>?_;clear hK K;simp;refine j _ ?_;clear j J
  refine W.ret ?_
  simp [go,iv,h0]
 ·have h0:0<V 4294967296 l:=by
   have:V 4294967296 l≠0:=fun h1=>by simp [hz.2 h1]at hb
   omega
  refine W.eE (fun K hK=>?_)
  simp (disch:=omega) [gA,wA]
  refine W.lv [8] hK fun J j=>?_;clear hK K;simp;refine j _ ?_;clear j J
  refine W.cond ⟨_,rfl,fun hn=>?_,fun hn=>?_⟩
  ·subst hn
   refine W.eE (fun K hK=>?_)
   simp (disch:=omega) [gA,wA]
   refine W.lv [2] hK fun J j=>?_;clear hK K;simp;refine j _ ?_;clear j J
   refine W.ret ?_
   have:(- V 4294967296 l).sign = -1:=Int.sign_eq_neg_one_of_neg (by omega)
   simp [go,iv,this]
  ·subst hn
   refine W.skip ?_
   refine W.eE (fun K hK=>?_)
   simp (disch:=omega) [gA,wA]
   refine W.lv [2] hK fun J j=>?_;clear hK K;simp;refine j _ ?_;clear j J
   refine W.ret ?_
   have:(V 4294967296 l).sign=1:=Int.sign_eq_one_of_pos h0
   simp [go,iv,this]
theorem X7{x y:Int}(h:x.sign<y.sign):dH x y = -1:=by
 apply mJ
 rcases Int.lt_trichotomy x 0 with h1 | h1 | h1<;>rcases Int.lt_trichotomy y 0 with h2 | h2 | h2<;>first | omega | (simp [Int.sign_eq_neg_one_of_neg,Int.sign_eq_one_of_pos,h1,h2]at h)
theorem RD{x y:Int}(h:y.sign<x.sign):dH x y=1:=by
 apply mK
 rcases Int.lt_trichotomy x 0 with h1 | h1 | h1<;>rcases Int.lt_trichotomy y 0 with h2 | h2 | h2<;>first | omega | (simp [Int.sign_eq_neg_one_of_neg,Int.sign_eq_one_of_pos,h1,h2]at h)
theorem IK(x y:Int):dH (-x) (-y)=dH y x:=by simp only [dH];split<;>split<;>(try split)<;>(try split)<;>omega
theorem acs(n m:Bool)(l k:List Int)(h:sH l)(h':sH k):aF env.P 144 [IV n l,IV m k] (.int .i64 (dH (iv n l) (iv m k))):=by
 refine cZ (E:=env) (fun _=>0) [(0,IV n l),(1,IV m k)] Tryz.func144 rfl (by kernel_rfl) (by kernel_rfl) (show 2≤32 by decide) (by simp) ?_
 have p1:=qC h;have p2:=qC h'
 refine W.eE (fun K hK=>?_)
 simp (disch:=omega) [gA,wA]
 refine W.lv [2,3] hK fun J j=>?_;clear hK K;simp;refine j _ ?_;clear j J
 refine W.abZ (fun K hK=>?_)
 simp (disch:=omega) [gA,wA]
 refine aC (MG n l h) ?_
 simp (disch:=omega) [gA,wA]
 refine aC (MG m k h') ?_
 simp (disch:=omega) [gA,wA]
 refine W.lv [2,3,5,6] hK fun J j=>?_;clear hK K;simp;refine j _ ?_;clear j J
 refine W.seq ?_
 refine W.block ?_
 refine W.eE (fun K hK=>?_)
 simp (disch:=omega) [gA,wA]
 refine W.lv [2,3,5,6,11] hK fun J j=>?_;clear hK K;simp;refine j _ ?_;clear j J
 refine W.cond ⟨_,rfl,fun h1=>?_,fun h1=>?_⟩
 ·refine W.eE (fun K hK=>?_)
  simp (disch:=omega) [gA,wA]
  refine W.lv [4] hK fun J j=>?_;clear hK K;simp;refine j _ ?_;clear j J
  refine W.ret ?_
  simp [go,X7 (of_decide_eq_true h1)]
 ·have h1:=of_decide_eq_false h1
  refine W.eE (fun K hK=>?_)
  simp (disch:=omega) [gA,wA]
  refine W.lv [2,3,5,15] hK fun J j=>?_;clear hK K;simp;refine j _ ?_;clear j J
  refine W.cond ⟨_,rfl,fun h2=>?_,fun h2=>?_⟩
  ·refine W.eE (fun K hK=>?_)
   simp (disch:=omega) [gA,wA]
   refine W.lv [4] hK fun J j=>?_;clear hK K;simp;refine j _ ?_;clear j J
   refine W.ret ?_
   simp [go,RD (of_decide_eq_true h2)]
  ·have h2:=of_decide_eq_false h2
   have h3:(iv n l).sign=(iv m k).sign:=by omega
   refine W.eE (fun K hK=>?_)
   simp (disch:=omega) [gA,wA]
   refine W.lv [2,3,19] hK fun J j=>?_;clear hK K;simp;refine j _ ?_;clear j J
   refine W.cond ⟨_,rfl,fun h4=>?_,fun h4=>?_⟩
   ·have h4:iv n l<0:=by simpa using of_decide_eq_true h4
    have h5:iv m k<0:=by
     rw [Int.sign_eq_neg_one_of_neg h4]at h3
     exact Int.sign_eq_neg_one_iff_neg.1 h3.symm
    have en:n=true:=by cases n;(· simp [iv]at h4;omega);rfl
    have em:m=true:=by cases m;(· simp [iv]at h5;omega);rfl
    subst en;subst em
    refine W.eE (fun K hK=>?_)
    simp (disch:=omega) [gA,wA]
    refine aC (IH k l h'.len h.len h'.yU h.yU) ?_
    simp (disch:=omega) [gA,wA]
    refine W.lv [4] hK fun J j=>?_;clear hK K;simp;refine j _ ?_;clear j J
    refine W.ret ?_
    simp [go,iv,IK]
   ·have h4:0≤iv n l:=by simpa using of_decide_eq_false h4
    have e1:iv n l=V 4294967296 l:=by
     cases n
     ·simp [iv]
     ·simp [iv]at h4 ⊢;omega
    have h5:0≤iv m k:=by
     have:0≤(iv n l).sign:=Int.sign_nonneg_iff.2 h4
     rw [h3]at this
     exact Int.sign_nonneg_iff.1 this
    have e2:iv m k=V 4294967296 k:=by
     cases m
     ·simp [iv]
     ·simp [iv]at h5 ⊢;omega
    refine W.skip ?_
    refine W.eE (fun K hK=>?_)
    simp (disch:=omega) [gA,wA]
    refine aC (IH l k h.len h'.len h.yU h'.yU) ?_
    simp (disch:=omega) [gA,wA]
    refine W.lv [4] hK fun J j=>?_;clear hK K;simp;refine j _ ?_;clear j J
    refine W.ret ?_
    simp [go,e1,e2]
theorem acu{x y:Int}(hx:Sz x)(hy:Sz y):aF env.P 144 [I x,I y] (.int .i64 (dH x y)):=by
 have:=acs (decide (x<0)) (decide (y<0)) (aU LL x.natAbs) (aU LL y.natAbs) hx.UM hy.UM
 rwa [xM,xM]at this
abbrev RP:=List (Bool × List Int)
def aI(n:Int):List PV:=[.int .i64 n]
def pe(p:RP):List PV:=[Pg p]
def me(r:List RP):List PV:=[aN pe r]
@[simp] theorem atg{n:Int}:aI n = [.int .i64 n]:=rfl
@[simp] theorem ax7{p:RP}:pe p = [Pg p]:=rfl
@[simp] theorem ax8{p:List RP}:me p = [aN pe p]:=rfl
@[simp] theorem ajE{l:List Int}:bH 1 (emap aI l)=True:=cH fun _=>rfl
@[simp] theorem apW{l:List RP}:bH 1 (emap pe l)=True:=cH fun _=>rfl
@[simp] theorem apX{l:List (List RP)}:bH 1 (emap me l)=True:=cH fun _=>rfl
@[simp] theorem agy{v e n:Nat}{l:List Int}:cW (some ⟨v,e,n,emap aI l⟩)=True:=bU fun _=>rfl
@[simp] theorem am3{v e n:Nat}{l:List RP}:cW (some ⟨v,e,n,emap pe l⟩)=True:=bU fun _=>rfl
@[simp] theorem am4{v e n:Nat}{l:List (List RP)}:cW (some ⟨v,e,n,emap me l⟩)=True:=bU fun _=>rfl
@[simp] theorem ax9{l:RP}{n:Bool}{m:List Int}:emap ge l ++ [[.bool n,us m]]=emap ge (l ++ [(n,m)]):=by simp [emap]
@[simp] theorem aya{l:List Int}{x:Int}:emap ie l ++ [[.bool (decide (x<0)),us (aU LL x.natAbs)]]=emap ie (l ++ [x]):=by simp [emap]
@[simp] theorem ayb{l:List RP}{p:RP}:emap pe l ++ [[aN ge p]]=emap pe (l ++ [p]):=by simp [emap]
@[simp] theorem ayc{l:List (List RP)}{p:List RP}:emap me l ++ [[aN pe p]]=emap me (l ++ [p]):=by simp [emap]
def mS(p:RP):List Int:=aQ (p.map gv)
theorem agz(l:List Int)(hl:l.length<1099511627776)(hb:∀x∈l, -9223372036854775808≤x∧x<9223372036854775808):aF env.P 11 [aN aI l] (Po (aQ l)):=by
 refine cD [(0,aN aI l)] Tryz.func11 ?_
 refine aA [0] ?_
 refine aA [0,3] ?_
 refine W.row (id:=8) (emap ie (List.replicate l.length 0)) (by simp;exact⟨rfl,rfl,rfl⟩) (rK _) ?_
 refine aP [3,9,10,11] ?_
 refine W.block ?_
 refine W.bE (fun k σ=>∃(i:Nat) (z:List Int) (ver:Nat) (rows:Pm.Rows) (clk:Nat),σ=⟨fa [(3, .own 8 ver 0 l.length),(9,aN aI l),(10, .int .i64 l.length),(11, .int .i64 i)],rows,clk⟩ ∧
  rows 8=some ⟨ver,38,2,emap ie z⟩∧k=l.length-i∧i≤l.length∧z.length=l.length∧z.take i=l.take i) l.length ?_ ?_
 ·exact⟨_, .refl,0,List.replicate l.length 0,_,_,_,rfl,by simp,by omega,by omega,by simp,by simp⟩
 rintro k _ ⟨i,z,ver,rows,clk,rfl,hr,hk,hi,hz,hv⟩
 refine bV [3,9,10,11,12] ?_
 refine W.cond ⟨_,rfl,fun dN=>?_,fun dN=>?_⟩
 ·simp at dN
  refine kY ?_
  refine W.sr ?_
  simp (disch:=omega) [gw,hr]
  refine bG [3,4,5,9,10,11] ?_
  refine W.cA (fun K hK=>?_)
  simp (disch:=omega) [gw,hr]
  refine aC (xL _ (hb _ (b7 dN)).1 (hb _ (b7 dN)).2) ?_
  simp (disch:=omega) [gw,hr]
  refine W.lw [3,9,10,11] hK ?_;clear hK K;simp
  refine W.cA (fun K hK=>?_)
  simp (disch:=omega) [gw]
  refine hK _ ⟨l.length-(i+1),_,aB _ [3,9,10,11],by omega,i+1,z.set i (nth l i),ver,_,_,rfl,by simp,by omega,by omega,by simpa using hz,?_⟩
  rw [l5 hv (by omega),bF dN]
 ·simp at dN
  have lV:i=l.length:=by omega
  subst lV
  refine fH ?_
  rw [bM hz,bM rfl]at hv
  have tZ:=bM hz
  refine W.sr ?_
  simp (disch:=omega) [gw,hr,tZ]
  refine aC (vP z (by omega)) ?_
  simp (disch:=omega) [gw]
  refine bG [2] ?_
  refine W.ret ?_
  simp [go,hv]
abbrev DD:Nat:=10000
theorem O2:2≤DD:=by decide
abbrev Dn(x:Int):PV:=aN aI (aU DD x.toNat)
theorem uB{l:List Int}(h:cX 10000 l):aN aI (aQ l)=Dn (V 10000 l):=by rw [rD O2 h];rfl
@[simp] theorem avW{n:Nat}:List.replicate n [PV.int .i64 0]=emap aI (List.replicate n 0):=by simp [emap]
@[simp] theorem am5{l:List Int}{i:Nat}{x:Int}:gZ (emap aI l) i 0 [.int .i64 x]=emap aI (l.set i x):=AA (n:=1) (fun _=>rfl)
@[simp] theorem ath{l:List Int}{x:Int}:emap aI l ++ [[.int .i64 x]]=emap aI (l ++ [x]):=by simp [emap]
theorem o8(l:List Int)(hl:l.length<17592186044416):aF env.P 211 [aN aI l] (aN aI (aQ l)):=by
 refine cD [(0,aN aI l)] Tryz.func211 ?_
 refine aA [0] ?_
 refine aA [0,3] ?_
 refine W.seq (W.block ?_)
 refine W.bE (fun k σ=>∃(rows:Pm.Rows) (clk:Nat),σ=⟨fa [(0,aN aI l),(3, .int .i64 (k:Int))],rows,clk⟩∧k≤l.length∧aQ l=aQ (l.take k)) l.length ?_ ?_
 ·exact⟨_, .refl,_,_,rfl,by omega,by simp⟩
 rintro k _ ⟨rows,clk,rfl,hk,hc⟩
 refine W.seq ?_
 refine W.fA (fun σ=>∃(b:Bool),σ=⟨fa [(0,aN aI l),(3, .int .i64 (k:Int)),(15, .bool b)],rows,clk⟩∧(b=true↔0<k∧nth l (k-1)=0)) (fun K hK=>?_) ?_
 ·simp
  by_cases h0:0<k
  ·simp (disch:=omega) [gw,h0]
   exact hK _ _ (aB _ [0,3,15]) ⟨_,rfl,by simp [h0]⟩
  ·simp (disch:=omega) [gw,h0]
   exact hK _ _ (aB _ [0,3,15]) ⟨_,rfl,by simp [h0]⟩
 rintro _ ⟨b,rfl,hb⟩
 refine bJ ?_ ?_<;>intro h
 ·obtain⟨h0,h1⟩:=hb.1 h
  refine W.skip (W.block ?_)
  refine W.cA (fun K hK=>?_)
  simp (disch:=omega) [gw]
  refine hK _ ⟨k-1,_,Gh.fr [(0,_),(3, .int .i64 ((k-1:Nat):Int))] (by simp;omega),by omega,_,_,rfl,by omega,?_⟩
  rw [hc,show k=(k-1)+1 by omega,bF (by omega),h1,jW]
  simp
 ·have h2:aQ l=l.take k:=by
   rw [hc]
   by_cases h0:0<k
   ·have h1:nth l (k-1)≠0:=fun h1=>by simp [hb.2 ⟨h0,h1⟩]at h
    rw [show k=(k-1)+1 by omega,bF (by omega)]
    exact jH h1 _
   ·have:k=0:=by omega
    subst this;simp [aQ]
  refine fH ?_
  refine aA [2] ?_
  refine W.ret ?_
  simp [h2]
theorem RF(a:List Int)(m c0:Int)(ha:a.length<1099511627776)(la:cX 10000 a)(O1:0≤m)(KG:m≤65536)(xI:0≤c0)(uW:c0≤65536) :
  aF env.P 210 [aN aI a, .int .i64 m, .int .i64 c0] (Dn (V 10000 a*m+c0)):=by
 refine cD [(0,aN aI a),(1, .int .i64 m),(2, .int .i64 c0)] Tryz.func210 ?_
 refine aA [0,1,2] ?_
 refine aA [0,1,2,7] ?_
 refine aP [0,1,2,7,8] ?_
 refine W.block ?_
 refine W.bE (fun k σ=>∃(i:Nat) (c:Int) (z:List Int) (ver:Nat) (rows:Pm.Rows) (clk:Nat),σ=⟨fa [(0,aN aI a),(1, .int .i64 m),(2, .int .i64 c),(7, .own 12 ver 0 i),(8, .int .i64 i)],rows,clk⟩ ∧
  rows 12=some ⟨ver,3,1,emap aI z⟩∧k=(a.length-i)*1000000+c.toNat∧z.length=i∧(i≤a.length∨i+c≤a.length+65536)∧cX 10000 z∧0≤c∧c≤65536 ∧
  V 10000 z+10000^i*c=V 10000 (a.take i)*m+c0) (a.length*1000000+c0.toNat) ?_ ?_
 ·exact⟨_, .refl,0,c0,[],_,_,_,rfl,by simp [emap],by simp,rfl,by omega,cX.nil,xI,uW,by simp [V]⟩
 rintro k _ ⟨i,c,z,ver,rows,clk,rfl,hr,hk,hz,hi,lz,h0,h1,hV⟩
 refine W.seq ?_
 refine W.fA (fun σ=>∃(b:Bool),σ=⟨fa [(0,aN aI a),(1, .int .i64 m),(2, .int .i64 c),(7, .own 12 ver 0 i),(8, .int .i64 i),(20, .bool b)],rows,clk⟩∧(b=true↔i<a.length∨0<c)) (fun K hK=>?_) ?_
 ·simp
  by_cases h2:i<a.length
  ·simp (disch:=omega) [gw,h2]
   exact hK _ _ (aB _ [0,1,2,7,8,20]) ⟨_,rfl,by simp [h2]⟩
  ·simp (disch:=omega) [gw,h2]
   exact hK _ _ (aB _ [0,1,2,7,8,20]) ⟨_,rfl,by simp [h2]⟩
 rintro _ ⟨b,rfl,hb⟩
 refine bJ ?_ ?_<;>intro h
 ·have hb:=hb.1 h
  refine kY ?_
  refine W.iE (fun σ=>∃(s:Int),σ=⟨fa [(0,aN aI a),(1, .int .i64 m),(2, .int .i64 s),(7, .own 12 ver 0 i),(8, .int .i64 i)],rows,clk⟩∧0≤s∧s≤655360000∧(a.length≤i→s=c) ∧
   V 10000 z+10000^i*s=V 10000 (a.take (i+1))*m+c0) ?_ ?_
  ·
   refine aA [0,1,2,7,8,26] ?_
   refine bJ ?_ ?_<;>intro h
   ·simp at h
    have hn:=la.nth h
    have h2:0≤nth a i*m:=Int.mul_nonneg hn.1 O1
    have h3:nth a i*m≤9999*65536:=Int.mul_le_mul (by omega) KG O1 (by omega)
    refine W.cA (fun K hK=>?_);simp (disch:=omega) [gw]
    refine hK _ ⟨_,aB _ [0,1,2,7,8],_,rfl,by omega,by omega,by omega,?_⟩
    rw [aV h,Int.mul_add,Int.add_mul]
    grind
   ·simp at h
    refine W.skip ?_
    refine⟨_,aB _ [0,1,2,7,8],_,rfl,by omega,by omega,fun _=>rfl,?_⟩
    rw [a9 (by omega)]
    rw [a9 (by omega)]at hV
    exact hV
  rintro _ ⟨s,rfl,UL,vO,hsc,hsV⟩
  refine W.sr ?_
  simp (disch:=omega) [gw,hr,hz]
  refine bG [0,1,2,7,8] ?_
  refine W.cA (fun K hK=>?_);simp (disch:=omega) [gw];refine W.lw [0,1,2,7,8] hK ?_;clear hK K;simp
  refine W.cA (fun K hK=>?_);simp (disch:=omega) [gw]
  refine hK _ ⟨(a.length-(i+1))*1000000+(s/10000).toNat,_,aB _ [0,1,2,7,8],by omega,i+1,s/10000,z ++ [s%10000],_,_,_,rfl,by simp,rfl,by simp [hz],by omega,cX.append.2 ⟨lz,cX.cons.2 ⟨by omega,cX.nil⟩⟩,by omega,by omega,?_⟩
  rw [dZ,nV,hz,←hsV,Int.pow_succ]
  have:=Int.emod_add_mul_ediv s 10000
  grind
 ·have hb:¬(i<a.length∨0<c):=fun h2=>by simp [hb.2 h2]at h
  have hc:c=0:=by omega
  subst hc
  refine fH ?_
  have ez:z.take i=z:=bM hz
  refine W.sr ?_
  simp (disch:=omega) [gw,hr,hz,ez]
  refine aC (o8 z (by omega)) ?_
  simp (disch:=omega) [gw]
  refine bG [6] ?_
  refine W.ret ?_
  rw [a9 (by omega)]at hV
  have e:V 10000 z=V 10000 a*m+c0:=by simpa using hV
  rw [←e,←uB lz]
  simp
abbrev Z(x:Int):Prop:=sz 2 x<1099511627776
theorem UO{b:Nat}(hb:2≤b)(x:Int):sz b x≤sz 2 x:=by
 refine dW hb (Nat.lt_of_lt_of_le (iS (b:=2) (by decide) x) ?_)
 exact Nat.pow_le_pow_left hb _
theorem am7(y:Int):(aU DD y.natAbs).length≤sz 2 y:=UO O2 y
theorem kK{y:Int}(h:0≤y):(aU DD y.toNat).length≤sz 2 y:=by
 have:=am7 y
 rwa [show y.natAbs=y.toNat by omega]at this
theorem vR{y:Int}(h:0≤y):V 10000 (aU DD y.toNat)=y:=by
 have:=kH O2 y.toNat
 simp only [show((DD:Nat):Int)=10000 from rfl]at this
 rw [this];omega
theorem atj(y:Int):V 10000 (aU DD y.natAbs)=y.natAbs:=by
 have:=kH O2 y.natAbs
 simpa only [show((DD:Nat):Int)=10000 from rfl]using this
theorem mB(n:Nat):cX 10000 (aU DD n):=fI O2 n
theorem acv{l:List Int}(h:cX 4294967296 l):sz 2 (V 4294967296 l)≤32*l.length:=by
 refine dW (by decide) ?_
 have h1:=oY (b:=(4294967296:Int)) (by decide) h
 have h2:=bL (b:=(4294967296:Int)) (by decide) h
 have h3:((4294967296:Int)^l.length)=((2^(32*l.length):Nat):Int):=by rw [Nat.pow_mul];simp
 rw [h3]at h1
 omega
theorem l6(y m c:Int)(hy:0≤y)(hz:Z y)(O1:0≤m)(KG:m≤65536)(xI:0≤c)(uW:c≤65536):aF env.P 210 [Dn y, .int .i64 m, .int .i64 c] (Dn (y*m+c)):=by
 have:=RF (aU DD y.toNat) m c (by have:=kK hy;omega) (mB _) O1 KG xI uW
 rwa [vR hy]at this
theorem X8(l:List Int)(hl:l.length≤17179869184)(hm:cX 4294967296 l):aF env.P 231 [us l] (Dn (V 4294967296 l)):=by
 refine cD [(0,us l)] Tryz.func231 ?_
 refine aA [0] ?_
 refine aA [0,3] ?_
 refine W.L0 3 (Dn 0) (by simp) rfl (fun K hK=>?_)
 refine W.lw [0,3] hK ?_;clear hK K;simp
 refine aP [0,3,4] ?_
 refine W.block ?_
 refine W.bE (fun k σ=>∃(rows:Pm.Rows) (clk:Nat),σ=⟨fa [(0,us l),(3,Dn (V 4294967296 (l.drop k))),(4, .int .i64 ((k:Int)-1))],rows,clk⟩∧k≤l.length) l.length ?_ ?_
 ·exact⟨_,Gh.fr [(0,us l),(3,Dn (V 4294967296 (l.drop l.length))),(4, .int .i64 ((l.length:Int)-1))] (by simp [V]),_,_,rfl,by omega⟩
 rintro k _ ⟨rows,clk,rfl,hk⟩
 have h0:=bL (b:=4294967296) (by decide) (hm.drop k)
 have hs:sz 2 (V 4294967296 (l.drop k))≤32*(l.length-k):=by have:=acv (hm.drop k);simpa using this
 refine aP [0,3,4,9] ?_
 refine bJ ?_ ?_<;>intro h
 ·simp at h
  have hx:=hm.nth (i:=k-1) (by omega)
  have hd:V 4294967296 (l.drop (k-1))=nth l (k-1)+4294967296*V 4294967296 (l.drop k):=by
   rw [fB (i:=k-1) (by omega),show k-1+1=k by omega];rfl
  refine kY ?_
  refine W.sr ?_
  have hk1:((k:Int)-1).toNat=k-1:=by omega
  simp (disch:=omega) [gw,hk1]
  refine aC (l6 _ 65536 _ h0 (by omega) (by decide) (by decide) (by omega) (by omega)) ?_
  simp (disch:=omega) [gw]
  refine bG [0,3,4] ?_
  have h1:0≤V 4294967296 (l.drop k)*65536+nth l (k-1)/65536:=by omega
  have h2:sz 2 (V 4294967296 (l.drop k)*65536+nth l (k-1)/65536)≤32*l.length:=by
   have h3:=acv (hm.drop (k-1))
   refine Nat.le_trans (dJ (by decide) (y:=V 4294967296 (l.drop (k-1))) (by omega)) ?_
   simp at h3;omega
  refine W.cA (fun K hK=>?_)
  simp (disch:=omega) [gw,hk1]
  refine aC (l6 _ 65536 _ h1 (by omega) (by decide) (by decide) (by omega) (by omega)) ?_
  simp (disch:=omega) [gw]
  refine W.lw [0,3,4] hK ?_;clear hK K;simp
  refine W.cA (fun K hK=>?_);simp (disch:=omega) [gw]
  refine hK _ ⟨k-1,_,Gh.fr [(0,us l),(3,Dn (V 4294967296 (l.drop (k-1)))),(4, .int .i64 (((k-1:Nat):Int)-1))] ?_,by omega,_,_,rfl,by omega⟩
  have e:(V 4294967296 (l.drop k)*65536+nth l (k-1)/65536)*65536+nth l (k-1)%65536=V 4294967296 (l.drop (k-1)):=by omega
  simp [e];omega
 ·simp at h
  have xC:k=0:=by omega
  subst xC
  refine fH ?_
  refine aA [2] ?_
  refine W.ret ?_
  simp
abbrev RI(x:Int):PV:=.ag [aN aI (aU DD x.natAbs), .bool (decide (x<0))]
theorem o9(y:Int)(hy:0≤y)(neg:Bool):aF env.P 68 [Dn y, .bool neg] (RI (if neg=true then -y else y)):=by
 refine cD [(0,Dn y),(1, .bool neg)] Tryz.func68 ?_
 refine aA [0,1,4] ?_
 have e0:(aU DD y.toNat = [])↔y=0:=by rw [eO O2];omega
 have e:RI (if neg=true then -y else y) = .ag [Dn y, .bool (neg&&decide (0<(aU DD y.toNat).length))]:=by
  have h1:0<(aU DD y.toNat).length↔y≠0:=by
   rw [List.length_pos_iff];simp [e0]
  have e2:(if neg=true then -y else y).natAbs=y.toNat:=by split<;>omega
  have e3:(decide ((if neg=true then -y else y)<0))=(neg&&decide (0<(aU DD y.toNat).length)):=by
   cases neg
   ·simp only [Bool.false_and,Bool.false_eq_true,if_false,decide_eq_false_iff_not];omega
   ·simp only [Bool.true_and,if_true,h1];congr 1;apply propext;omega
  rw [RI,e2,e3]
 rw [e]
 refine W.eE (fun K hK=>?_)
 cases neg
 ·simp (disch:=omega) [gw]
  refine W.lw [4] hK ?_;clear hK K;simp
  exact cC
 ·simp (disch:=omega) [gw]
  refine W.lw [4] hK ?_;clear hK K;simp
  exact cC
theorem F2(n:Bool)(l:List Int)(hl:l.length≤17179869184)(hm:cX 4294967296 l):aF env.P 156 [IV n l] (RI (iv n l)):=by
 refine cD [(0,IV n l)] Tryz.func156 ?_
 refine aA [1,2] ?_
 refine nK ?_
 refine cU (X8 l hl hm) ?_
 refine aC (o9 _ (bL (by decide) hm) n) ?_
 simp (disch:=omega) [gw]
 refine bG [2] ?_
 refine W.ret ?_
 simp [go,iv]
theorem acw(n:Nat)(hn:n<1099511627776):aF env.P 128 [.int .i64 n] (Dn (2^n)):=by
 refine cD [(0, .int .i64 n)] Tryz.func128 ?_
 refine aA [0] ?_
 refine aA [0,3] ?_
 refine W.axA 3 [[.int .i64 1]] (Dn 1) (by simp) rfl (fun K hK=>?_)
 refine W.lw [0,3] hK ?_;clear hK K;simp
 refine aP [0,3,4] ?_
 refine W.block ?_
 refine W.bE (fun k σ=>∃(i:Nat) (rows:Pm.Rows) (clk:Nat),σ=⟨fa [(0, .int .i64 n),(3,Dn (2^i)),(4, .int .i64 i)],rows,clk⟩∧k=n-i∧i≤n) n ?_ ?_
 ·exact⟨_, .refl,0,_,_,rfl,by omega,by omega⟩
 rintro k _ ⟨i,rows,clk,rfl,hk,hi⟩
 refine aP [0,3,4,8] ?_
 refine bJ ?_ ?_<;>intro h
 ·simp at h
  have hs:sz 2 (2^i)≤i+1:=by
   refine dW (by decide) ?_
   rw [show((2:Int)^i)=((2^i:Nat):Int)by simp,Int.natAbs_natCast,Nat.pow_succ]
   have:=Nat.pow_pos (n:=i) (show 0<2 by decide)
   omega
  refine kY ?_
  refine W.cA (fun K hK=>?_)
  simp (disch:=omega) [gw]
  refine aC (l6 (2^i) 2 0 (Int.le_of_lt (Int.pow_pos (by decide))) (by omega) (by decide) (by decide) (by decide) (by decide)) ?_
  simp (disch:=omega) [gw]
  refine W.lw [0,3,4] hK ?_;clear hK K;simp
  refine W.cA (fun K hK=>?_);simp (disch:=omega) [gw]
  refine hK _ ⟨n-(i+1),_,Gh.fr [(0, .int .i64 n),(3,Dn (2^(i+1))),(4, .int .i64 ((i+1:Nat):Int))] ?_,by omega,i+1,_,_,rfl,rfl,by omega⟩
  simp [Int.pow_succ]
 ·simp at h
  have:i=n:=by omega
  subst this
  refine fH ?_
  refine aA [2] ?_
  refine W.ret ?_
  simp
theorem nZ(n:Int)(h1 : -9223372036854775808≤n)(h2:n<9223372036854775808):aF env.P 61 [.int .i64 n] (RI n):=by
 refine cD [(0, .int .i64 n)] Tryz.func61 ?_
 refine aA [0,2] ?_
 refine aP [0,2,6] ?_
 refine bJ ?_ ?_<;>intro h
 ·simp at h
  subst h
  refine jG ?_
  refine aC (acw 63 (by decide)) ?_
  simp (disch:=omega) [gw]
  have hp:=o9 9223372036854775808 (by decide) true
  simp at hp
  refine cQ [2] hp ?_
  exact cC
 ·simp at h
  refine W.skip ?_
  refine aA [0,2,3] ?_
  refine W.iE (fun σ=>∃(rows:Pm.Rows) (clk:Nat),σ=⟨fa [(0, .int .i64 n.natAbs),(2, .ptr 2 0 0 0),(3, .bool (decide (n<0)))],rows,clk⟩∧rows 2=some ⟨0,29,2,[[.nil, .bool false]]⟩) ?_ ?_
  ·
   refine aA [0,2,3,11] ?_
   refine bJ ?_ ?_<;>intro h
   ·simp at h
    refine W.cA (fun K hK=>?_);simp (disch:=omega) [gw]
    refine hK _ ⟨_,Gh.fr [(0, .int .i64 n.natAbs),(2, .ptr 2 0 0 0),(3, .bool (decide (n<0)))] (by simp;omega),_,_,rfl,by simp⟩
   ·simp at h
    refine W.skip ?_
    refine⟨_,Gh.fr [(0, .int .i64 n.natAbs),(2, .ptr 2 0 0 0),(3, .bool (decide (n<0)))] (by simp;omega),_,_,rfl,by simp⟩
  rintro _ ⟨rows,clk,rfl,bS⟩
  refine aA [0,2,3,4] ?_
  refine W.nil 4 4 3 1 (by simp) (by decide) (fun K hK=>?_)
  refine W.lw [0,2,3,4] hK ?_;clear hK K;simp
  refine W.seq ?_
  refine W.block ?_
  refine W.bE (fun k σ=>∃(z:List Int) (i ver:Nat) (rows:Pm.Rows) (clk:Nat),σ=⟨fa [(0, .int .i64 k),(2, .ptr 2 0 0 0),(3, .bool (decide (n<0))),(4, .own 4 ver 0 i)],rows,clk⟩∧rows 2=some ⟨0,29,2,[[.nil, .bool false]]⟩ ∧
   rows 4=some ⟨ver,3,1,emap aI z⟩∧z.length=i∧k*2^i≤9223372036854775808∧cX 10000 z∧V 10000 z+10000^i*k=n.natAbs∧aU DD n.natAbs=z++aU DD k) n.natAbs ?_ ?_
  ·exact⟨_, .refl,[],0,_,_,_,rfl,by simp [bS],by simp [emap],rfl,by simp;omega,cX.nil,by simp [V],by simp⟩
  rintro k _ ⟨z,i,ver,rows,clk,rfl,bS,hr,hz,zT,lz,hV,hd⟩
  refine aP [0,2,3,4,15] ?_
  refine bJ ?_ ?_<;>intro h
  ·simp at h
   have aDn:i≤63:=by
    have h3:1*2^i≤k*2^i:=Nat.mul_le_mul_right _ (by omega)
    have h4:2^i≤2^63:=by omega
    exact(Nat.pow_le_pow_iff_right (by decide)).1 h4
   have aDo:k≤9223372036854775808:=Nat.le_trans (by have:=Nat.mul_le_mul_left k (Nat.pow_pos (n:=i) (show 0<2 by decide));omega) zT
   refine W.skip ?_
   refine W.block ?_
   refine W.sr ?_
   simp (disch:=omega) [gw,hr,hz]
   refine bG [0,2,3,4] ?_
   refine W.cA (fun K hK=>?_);simp (disch:=omega) [gw]
   refine hK _ ⟨k/10000,_,Gh.fr [(0, .int .i64 ((k/10000:Nat):Int)),(2, .ptr 2 0 0 0),(3, .bool (decide (n<0))),(4, .own 4 _ 0 (i+1))] (by simp;rfl),by omega,z ++ [((k%10000:Nat):Int)],i+1,_,_,_,rfl,by simp [bS],by simp,by simp [hz],?_,cX.append.2 ⟨lz,cX.cons.2 ⟨by omega,cX.nil⟩⟩,?_,?_⟩
   ·rw [Nat.pow_succ]
    have h3:k/10000*(2^i*2)=k/10000*2*2^i:=by rw [Nat.mul_comm (2^i),Nat.mul_assoc]
    rw [h3]
    exact Nat.le_trans (Nat.mul_le_mul_right _ (by omega)) zT
   ·rw [dZ,nV,hz,←hV,Int.pow_succ]
    have:(k:Int)=(k%10000:Nat)+10000*(k/10000:Nat):=by omega
    grind
   ·rw [hd,rC O2 (by omega)];simp
  ·simp at h
   have xC:k=0:=by omega
   subst xC
   have e:z=aU DD n.natAbs:=by rw [hd];simp [lZ]
   refine fH ?_
   refine W.sr ?_
   have ez:z.take i=aU DD n.natAbs:=by rw [bM hz,e]
   simp (disch:=omega) [gw,hr,hz,ez]
   refine aC (o9 n.natAbs (by omega) (decide (n<0))) ?_
   simp (disch:=omega) [gw,bS]
   refine bG [2] ?_
   refine W.ret ?_
   have e2:(if n<0 then -(n.natAbs:Int)else n.natAbs)=n:=by split<;>omega
   rw [e2]
   simp [go]
theorem rM:∀ {l:List Int},l.length≤(aQ l).length→aQ l=l
 | [],_=>rfl
 | x::l,h=>by
  rw [aQ]at h ⊢
  split
  ·rename_i h1
   rw [if_pos h1]at h;simp at h
  ·rename_i h1
   rw [if_neg h1]at h
   rw [rM (by simpa using h)]
theorem MH{b:Int}(hb:1≤b){l:List Int}(hl:cX b l)(h:l ≠ []→b^(l.length-1)≤V b l):aQ l=l:=by
 apply rM
 rcases Nat.lt_or_ge (aQ l).length l.length with h1 | h1
 ·exfalso
  have h2:=h (by intro h0;subst h0;simp at h1)
  have h3:=oY (by omega) (eG hl)
  rw [c8]at h3
  obtain⟨m,hm⟩:∃m,l.length-1=(aQ l).length+m:=⟨l.length-1-(aQ l).length,by omega⟩
  rw [hm,Int.pow_add]at h2
  have h4:1≤b^m:=Int.pow_pos (by omega)
  have h5:=Int.mul_le_mul_of_nonneg_left h4 (show 0≤b^(aQ l).length from Int.le_of_lt (Int.pow_pos (by omega)))
  omega
 ·exact h1
@[simp] theorem agA{l:List Int}{x:Int}:emap u32 l ++ [[.int .u32 x]]=emap u32 (l ++ [x]):=by simp [emap]
theorem F3(x:Int):aF env.P 125 [RI x] (.bool (decide (x=0))):=by
 refine cD [(0,RI x)] Tryz.func125 ?_
 refine aA [1] ?_
 refine aA [2] ?_
 refine W.ret ?_
 simp [go]
 have e:((aU DD x.natAbs).length=0)↔x=0:=by rw [List.length_eq_zero_iff,eO O2];omega
 rw [Bool.eq_iff_iff,decide_eq_true_iff,beq_iff_eq,←e]
 omega
theorem UP{x:Int}:(aU DD x.natAbs).length=0↔x=0:=by rw [List.length_eq_zero_iff,eO O2];omega
theorem F4(x:Int):aF env.P 129 [RI x] (.int .i64 x.sign):=by
 refine cD [(0,RI x)] Tryz.func129 ?_
 refine bV [1] ?_
 refine W.block ?_
 refine aA [1,3] ?_
 refine bJ ?_ ?_<;>intro h
 ·have h0:x=0:=by rw [←UP];simp at h;simp [h]
  subst h0
  refine aA [2] ?_
  exact cC
 ·have h0:x≠0:=by rw [Ne,←UP];simp at h;simpa using h
  refine aA [8] ?_
  refine bJ ?_ ?_<;>intro h
  ·simp at h
   refine aA [2] ?_
   refine W.ret ?_
   simp [go,Int.sign_eq_neg_one_of_neg h]
  ·simp at h
   refine W.skip ?_
   refine aA [2] ?_
   refine W.ret ?_
   simp [go,Int.sign_eq_one_of_pos (show 0<x by omega)]
theorem rN(x:Int):aF env.P 17 [RI x] (RI (-x)):=by
 refine cD [(0,RI x)] Tryz.func17 ?_
 refine aA [1,2] ?_
 refine jG ?_
 refine aC (o9 x.natAbs (by omega) (!decide (x<0))) ?_
 simp (disch:=omega) [gw]
 refine bG [2] ?_
 refine W.ret ?_
 have e:(if 0≤x then -(x.natAbs:Int)else x.natAbs) = -x:=by split<;>omega
 simp only [e]
 simp [go]
theorem X9(a:List Int)(d:Int)(ha:a.length<1099511627776)(la:cX 10000 a)(hd0:0<d)(UQ:d≤65536):aF env.P 136 [aN aI a, .int .i64 d] (.dU [Dn (V 10000 a/d), .int .i64 (V 10000 a%d)]):=by
 refine cD [(0,aN aI a),(1, .int .i64 d)] Tryz.func136 ?_
 refine aA [0,1] ?_
 refine aA [0,1,6] ?_
 refine aA [0,1,6,7] ?_
 refine aP [0,1,6,7,8] ?_
 refine W.block ?_
 refine W.bE (fun k σ=>∃(r:Int) (z:List Int) (ver:Nat) (rows:Pm.Rows) (clk:Nat),σ=⟨fa [(0,aN aI a),(1, .int .i64 d),(6, .own 12 ver 0 a.length),(7, .int .i64 r),(8, .int .i64 ((k:Int)-1))],rows,clk⟩ ∧
  rows 12=some ⟨ver,3,1,emap aI z⟩∧k≤a.length∧z.length=a.length∧cX 10000 z∧0≤r∧r<d∧V 10000 (a.drop k)=d*V 10000 (z.drop k)+r) a.length ?_ ?_
 ·exact⟨_, .refl,0,List.replicate a.length 0,_,_,_,rfl,by simp,by omega,by simp,cX.rep (by decide) _,by omega,hd0,by simp [V]⟩
 rintro k _ ⟨r,z,ver,rows,clk,rfl,hr,hk,hz,lz,FE,B6,hV⟩
 refine aP [0,1,6,7,8,17] ?_
 refine bJ ?_ ?_<;>intro h
 ·simp at h
  obtain⟨j,rfl⟩:∃j,k=j+1:=⟨k-1,by omega⟩
  clear h
  have hx:=la.nth (i:=j) (by omega)
  have UL:0≤r*10000+nth a j:=by omega
  have vO:r*10000+nth a j<d*10000:=by omega
  have O3:0≤(r*10000+nth a j)/d:=Int.ediv_nonneg UL (by omega)
  have hq1:(r*10000+nth a j)/d<10000:=Int.ediv_lt_of_lt_mul hd0 (by omega)
  have O1:=Int.emod_nonneg (r*10000+nth a j) (show d≠0 by omega)
  have KG:=Int.emod_lt_of_pos (r*10000+nth a j) hd0
  have hdz:d≠0:=by omega
  refine kY ?_
  refine aA [0,1,6,8,9] ?_
  refine W.sr ?_
  simp (disch:=omega) [gw,hr,hdz]
  refine bG [0,1,6,8,9] ?_
  refine W.cA (fun K hK=>?_);simp (disch:=omega) [gw,hdz]
  refine W.lw [0,1,6,7,8] hK ?_;clear hK K;simp
  refine W.cA (fun K hK=>?_);simp (disch:=omega) [gw]
  refine hK _ ⟨j,_,aB _ [0,1,6,7,8],by omega,_,z.set j ((r*10000+nth a j)/d),ver,_,_,rfl,by simp,by omega,by simpa using hz,lz.set ⟨O3,hq1⟩,O1,KG,?_⟩
  rw [fB (l:=a) (i:=j) (by omega),fB (l:=z.set j _) (i:=j) (by simp;omega),eW (by omega),List.drop_set_of_lt (by omega)]
  simp only [V]
  rw [hV]
  have:=Int.emod_add_mul_ediv (r*10000+nth a j) d
  grind
 ·simp at h
  have xC:k=0:=by omega
  subst xC
  simp only [List.drop_zero]at hV
  have ez:z.take a.length=z:=bM hz
  have hzn:=bL (by decide) lz
  have e1:V 10000 a/d=V 10000 z:=by
   rw [hV,Int.mul_add_ediv_left _ _ (by omega),Int.ediv_eq_zero_of_lt FE B6];simp
  have e2:V 10000 a%d=r:=by
   rw [hV,Int.mul_add_emod_self_left,Int.emod_eq_of_lt FE B6]
  refine fH ?_
  refine W.sr ?_
  simp (disch:=omega) [gw,hr,ez]
  refine aC (o8 z (by omega)) ?_
  simp (disch:=omega) [gw]
  refine bG [4,5] ?_
  refine W.ret ?_
  rw [e1,e2,←uB lz]
  simp [go]
theorem CM(y d:Int)(hy:0≤y)(hz:Z y)(hd0:0<d)(UQ:d≤65536):aF env.P 136 [Dn y, .int .i64 d] (.dU [Dn (y/d), .int .i64 (y%d)]):=by
 have:=X9 (aU DD y.toNat) d (by have:=kK hy;omega) (mB _) hd0 UQ
 rwa [vR hy]at this
theorem agC(n:Nat)(hz:Z (n:Int)):aF env.P 67 [aN aI (aU DD n)] (us (aU LL n)):=by
 have hln:(aU LL n).length≤sz 2 (n:Int):=UO gF n
 refine cD [(0,aN aI (aU DD n))] Tryz.func67 ?_
 refine aA [0] ?_
 refine aA [0,3] ?_
 refine W.nil 3 3 185 1 (by simp) (by decide) (fun K hK=>?_)
 refine W.lw [0,3] hK ?_;clear hK K;simp
 refine W.seq ?_
 refine W.block ?_
 refine W.bE (fun k σ=>∃(i:Nat) (z:List Int) (ver:Nat) (rows:Pm.Rows) (clk:Nat),σ=⟨fa [(0,aN aI (aU DD k)),(3, .own 3 ver 0 i)],rows,clk⟩∧rows 3=some ⟨ver,185,1,emap u32 z⟩∧z.length=i∧k≤n∧aU LL n=z++aU LL k) n ?_ ?_
 ·exact⟨_, .refl,0,[],_,_,_,rfl,by simp [emap],rfl,by omega,by simp⟩
 rintro k _ ⟨i,z,ver,rows,clk,rfl,hr,HL,hk,hd⟩
 have hzk:Z (k:Int):=Nat.lt_of_le_of_lt (dJ (by decide) (y:=(n:Int)) (by omega)) hz
 have uC:i≤(aU LL n).length:=by rw [hd];simp [HL]
 have e0:(aU DD k).length=0↔k=0:=by rw [List.length_eq_zero_iff,eO O2]
 refine aP [0,3,9] ?_
 refine bJ ?_ ?_<;>intro h
 ·have xC:k≠0:=by rw [Ne,←e0];simp at h;omega
  have tZ:Z ((k:Int)/65536):=Nat.lt_of_le_of_lt (dJ (by decide) (y:=(k:Int)) (by omega)) hzk
  refine W.skip ?_
  refine W.block ?_
  refine jG ?_
  refine aC (CM (k:Int) 65536 (by omega) hzk (by decide) (by decide)) ?_
  simp (disch:=omega) [gw]
  refine bG [3,4,5] ?_
  refine jG ?_
  refine aC (CM ((k:Int)/65536) 65536 (by omega) tZ (by decide) (by decide)) ?_
  simp (disch:=omega) [gw]
  refine bG [3,4,5,6] ?_
  refine W.sr ?_
  simp (disch:=omega) [gw,hr,HL,wrap_u32']
  have e1:(k:Int)/65536%65536*65536+k%65536=((k%LL:Nat):Int):=by simp;omega
  have e3:k/LL<k:=Nat.div_lt_self (by omega) (by decide)
  obtain⟨dg,e2⟩:∃dg:Int,dg=((k%LL:Nat):Int):=⟨_,rfl⟩
  rw [←e2]at e1
  simp only [e1,agA]
  refine bG [3,4] ?_
  refine W.cA (fun K hK=>?_);simp (disch:=omega) [gw]
  refine hK _ ⟨k/LL,_,Gh.fr [(0,aN aI (aU DD (k/LL))),(3, .own 3 _ 0 (i+1))] ?_,e3,i+1,z ++ [dg],_,_,_,rfl,by simp;rfl,by simp [HL],by omega,?_⟩
  ·have e2:((k:Int)/65536/65536).toNat=k/LL:=by show _=k/4294967296;omega
   simp only [Dn,e2]
   simp
  ·rw [hd,rC gF xC,e2];simp
 ·have xC:k=0:=by rw [←e0];simp at h;simp [h]
  subst xC
  refine fH ?_
  refine aA [2] ?_
  refine W.ret ?_
  simp [lZ]at hd
  have ez:z.take i=z:=bM HL
  simp [go,hr,ez,hd]
theorem IL(x:Int)(hz:Z x):aF env.P 16 [RI x] (I x):=by
 refine cD [(0,RI x)] Tryz.func16 ?_
 refine aA [1,2] ?_
 refine nK ?_
 refine aC (agC x.natAbs (by simpa [Z,sz]using hz)) ?_
 simp (disch:=omega) [gw]
 refine bG [2] ?_
 exact cC
theorem YA(x y:List Int)(hx:x.length<1099511627776)(hy:y.length<1099511627776)(lx:cX 10000 x)(ly:cX 10000 y)(cx:aQ x=x)(cy:aQ y=y):aF env.P 228 [aN aI x,aN aI y] (.int .i64 (dH (V 10000 x) (V 10000 y))):=by
 refine cD [(0,aN aI x),(1,aN aI y)] Tryz.func228 ?_
 refine aA [0,1] ?_
 refine aP [0,1,10] ?_
 refine bJ ?_ ?_<;>intro h
 ·simp at h
  refine aP [15] ?_
  refine bJ ?_ ?_<;>intro h
  ·simp at h
   refine aA [4] ?_
   refine W.ret ?_
   simp [mJ (jY (by decide) lx ly cy h)]
  ·simp at h
   refine W.skip ?_
   refine aA [4] ?_
   refine W.ret ?_
   simp [mK (jY (by decide) ly lx cx (by omega))]
 ·simp at h
  have hlen:x.length=y.length:=by omega
  clear h
  refine W.skip ?_
  refine aP [0,1,5] ?_
  refine W.block ?_
  refine W.bE (fun k σ=>∃(rows:Pm.Rows) (clk:Nat),σ=⟨fa [(0,aN aI x),(1,aN aI y),(5, .int .i64 ((k:Int)-1))],rows,clk⟩∧k≤x.length∧x.drop k=y.drop k) x.length ?_ ?_
  ·exact⟨_, .refl,_,_,rfl,by omega,by rw [List.drop_of_length_le (by omega),List.drop_of_length_le (by omega)]⟩
  rintro k _ ⟨rows,clk,rfl,hk,hd⟩
  refine aP [0,1,5,20] ?_
  refine bJ ?_ ?_<;>intro h
  ·have h0:0<k:=by simp at h;omega
   obtain⟨j,rfl⟩:∃j,k=j+1:=⟨k-1,by omega⟩
   clear h
   refine kY ?_
   refine nK ?_
   refine bG [0,1,5,31] ?_
   refine bJ ?_ ?_<;>intro h
   ·simp at h
    refine W.seq ?_
    refine nK ?_
    refine bG [40] ?_
    refine W.cond ⟨_,rfl,fun h2=>?_,fun h2=>?_⟩
    ·simp at h2
     refine aA [4] ?_
     refine W.ret ?_
     simp [mJ (nW (by decide) lx ly hlen (by omega) hd h2)]
    ·simp at h2
     refine W.skip ?_
     refine aA [4] ?_
     refine W.ret ?_
     simp [mK (nW (by decide) ly lx hlen.symm (by omega) hd.symm (by omega))]
   ·simp at h
    refine W.skip ?_
    refine W.cA (fun K hK=>?_);simp (disch:=omega) [gw]
    refine hK _ ⟨j,_,aB _ [0,1,5],by omega,_,_,rfl,by omega,?_⟩
    rw [fB (l:=x) (i:=j) (by omega),fB (l:=y) (i:=j) (by omega),hd,h]
  ·have h0:k=0:=by simp at h;omega
   subst h0
   simp at hd
   subst hd
   refine fH ?_
   refine aA [4] ?_
   refine W.ret ?_
   simp [z6]
theorem MI(x y:Int)(hx:0≤x)(hy:0≤y)(zx:Z x)(zy:Z y):aF env.P 228 [Dn x,Dn y] (.int .i64 (dH x y)):=by
 have:=YA (aU DD x.toNat) (aU DD y.toNat) (by have:=kK hx;omega) (by have:=kK hy;omega) (mB _) (mB _) (jX O2 _) (jX O2 _)
 rwa [vR hx,vR hy]at this
theorem YB(a b:List Int)(ha:a.length<1099511627776)(hb:b.length<1099511627776)(la:cX 10000 a)(lb:cX 10000 b)(ca:aQ a=a)(cb:aQ b=b):aF env.P 227 [aN aI a,aN aI b] (Dn (V 10000 a+V 10000 b)):=by
 refine cD [(0,aN aI a),(1,aN aI b)] Tryz.func227 ?_
 refine aA [0,1] ?_
 refine aA [0,1,5] ?_
 refine W.nil 5 5 3 1 (by simp) (by decide) (fun K hK=>?_)
 refine W.lw [0,1,5] hK ?_;clear hK K;simp
 refine aA [0,1,5,6] ?_
 refine aP [0,1,5,6,7] ?_
 refine W.block ?_
 obtain⟨M,hM⟩:∃M,M=max a.length b.length:=⟨_,rfl⟩
 refine W.bE (fun k σ=>∃(i:Nat) (c:Int) (z:List Int) (ver:Nat) (rows:Pm.Rows) (clk:Nat),σ=⟨fa [(0,aN aI a),(1,aN aI b),(5, .own 5 ver 0 i),(6, .int .i64 c),(7, .int .i64 i)],rows,clk⟩ ∧
  rows 5=some ⟨ver,3,1,emap aI z⟩∧k=2*(M-i)+c.toNat∧z.length=i∧(i≤M∨(i=M+1∧c=0∧10000^M≤V 10000 a+V 10000 b))∧cX 10000 z∧0≤c∧c≤1 ∧
  V 10000 z+10000^i*c=V 10000 (a.take i)+V 10000 (b.take i)) (2*M) ?_ ?_
 ·exact⟨_, .refl,0,0,[],_,_,_,rfl,by simp [emap],by simp,rfl,by omega,cX.nil,by omega,by omega,by simp [V]⟩
 rintro k _ ⟨i,c,z,ver,rows,clk,rfl,hr,hk,hz,hi,lz,xI,uW,hV⟩
 refine W.seq ?_
 refine W.fA (fun σ=>∃(t:Bool),σ=⟨fa [(0,aN aI a),(1,aN aI b),(5, .own 5 ver 0 i),(6, .int .i64 c),(7, .int .i64 i),(21, .bool t)],rows,clk⟩∧(t=true↔i<M∨0<c)) (fun K hK=>?_) ?_
 ·simp
  by_cases h1:i<a.length
  ·simp (disch:=omega) [gw,h1]
   exact hK _ _ (aB _ [0,1,5,6,7,21]) ⟨_,rfl,by simp;omega⟩
  ·by_cases h2:i<b.length
   ·simp (disch:=omega) [gw,h1,h2]
    exact hK _ _ (aB _ [0,1,5,6,7,21]) ⟨_,rfl,by simp;omega⟩
   ·simp (disch:=omega) [gw,h1,h2]
    exact hK _ _ (aB _ [0,1,5,6,7,21]) ⟨_,rfl,by simp;omega⟩
 rintro _ ⟨t,rfl,ht⟩
 refine bJ ?_ ?_<;>intro h
 ·have ht:=ht.1 h
  refine kY ?_
  refine W.iE (fun σ=>∃(s:Int),σ=⟨fa [(0,aN aI a),(1,aN aI b),(5, .own 5 ver 0 i),(6, .int .i64 s),(7, .int .i64 i)],rows,clk⟩∧0≤s∧s≤c+9999∧(a.length≤i→s=c) ∧
   V 10000 z+10000^i*s=V 10000 (a.take (i+1))+V 10000 (b.take i)) ?_ ?_
  ·
   refine aA [0,1,5,6,7,27] ?_
   refine bJ ?_ ?_<;>intro h
   ·simp at h
    have hx:=la.nth h
    refine W.cA (fun K hK=>?_);simp (disch:=omega) [gw]
    refine hK _ ⟨_,aB _ [0,1,5,6,7],_,rfl,by omega,by omega,by omega,?_⟩
    rw [aV h];grind
   ·simp at h
    refine W.skip ?_
    refine⟨_,aB _ [0,1,5,6,7],_,rfl,by omega,by omega,fun _=>rfl,?_⟩
    rw [a9 (l:=a) (by omega)]
    rwa [a9 (l:=a) (by omega)]at hV
  rintro _ ⟨s,rfl,UL,vO,hsc,hsV⟩
  refine W.iE (fun σ=>∃(u:Int),σ=⟨fa [(0,aN aI a),(1,aN aI b),(5, .own 5 ver 0 i),(6, .int .i64 u),(7, .int .i64 i)],rows,clk⟩∧0≤u∧u≤s+9999∧(b.length≤i→u=s) ∧
   V 10000 z+10000^i*u=V 10000 (a.take (i+1))+V 10000 (b.take (i+1))) ?_ ?_
  ·
   refine aA [0,1,5,6,7,37] ?_
   refine bJ ?_ ?_<;>intro h
   ·simp at h
    have hx:=lb.nth h
    refine W.cA (fun K hK=>?_);simp (disch:=omega) [gw]
    refine hK _ ⟨_,aB _ [0,1,5,6,7],_,rfl,by omega,by omega,by omega,?_⟩
    rw [aV h];grind
   ·simp at h
    refine W.skip ?_
    refine⟨_,aB _ [0,1,5,6,7],_,rfl,by omega,by omega,fun _=>rfl,?_⟩
    rw [a9 (l:=b) (by omega)]
    rwa [a9 (l:=b) (by omega)]at hsV
  rintro _ ⟨u,rfl,hu0,hu1,huc,huV⟩
  refine W.sr ?_
  simp (disch:=omega) [gw,hr,hz]
  refine bG [0,1,5,6,7] ?_
  refine W.cA (fun K hK=>?_);simp (disch:=omega) [gw];refine W.lw [0,1,5,6,7] hK ?_;clear hK K;simp
  refine W.cA (fun K hK=>?_);simp (disch:=omega) [gw]
  refine hK _ ⟨2*(M-(i+1))+(u/10000).toNat,_,aB _ [0,1,5,6,7],?_,i+1,u/10000,z ++ [u%10000],_,_,_,rfl,by simp,rfl,by simp [hz],?_,cX.append.2 ⟨lz,cX.cons.2 ⟨by omega,cX.nil⟩⟩,by omega,by omega,?_⟩
  ·rcases Nat.lt_or_ge i M with h1 | h1
   ·omega
   ·have:=hsc (by omega);have:=huc (by omega);omega
  ·rcases Nat.lt_or_ge i M with h1 | h1
   ·omega
   ·right
    have hc:c=1:=by omega
    have hzn:=bL (by decide) lz
    rw [a9 (l:=a) (by omega),a9 (l:=b) (by omega),hc]at hV
    have hiM:i=M:=by omega
    rw [←hiM]
    refine⟨rfl,by have:=hsc (by omega);have:=huc (by omega);omega,?_⟩
    rw [←hV]
    omega
  ·rw [dZ,nV,hz,←huV,Int.pow_succ]
   have:=Int.emod_add_mul_ediv u 10000
   grind
 ·have ht:¬(i<M∨0<c):=fun h2=>by simp [ht.2 h2]at h
  have hc:c=0:=by omega
  subst hc
  refine fH ?_
  refine aA [4] ?_
  refine W.ret ?_
  rw [a9 (l:=a) (by omega),a9 (l:=b) (by omega)]at hV
  have e:V 10000 a+V 10000 b=V 10000 z:=by rw [←hV];simp
  have cz:aQ z=z:=by
   refine MH (by decide) lz fun h0=>?_
   rw [hz,←e]
   rcases hi with h1 | ⟨h1,_,h2⟩
   ·have hna:=bL (by decide) la
    have hnb:=bL (by decide) lb
    have uC:0<i:=by rw [←hz];exact List.length_pos_iff.2 h0
    rcases Nat.le_total b.length a.length with h3 | h3
    ·have:=lG (b:=10000) (by decide) la ca (by intro h5;rw [h5]at h3 hM;simp at h3;simp [h3]at hM;omega)
     rw [show i-1=a.length-1 by omega];omega
    ·have:=lG (b:=10000) (by decide) lb cb (by intro h5;rw [h5]at h3 hM;simp at h3;simp [h3]at hM;omega)
     rw [show i-1=b.length-1 by omega];omega
   ·rw [h1];exact h2
  have ez:z.take i=z:=bM hz
  rw [e,←uB lz,cz]
  simp [go,hr,ez]
theorem acx(x y:Int)(hx:0≤x)(hy:0≤y)(zx:Z x)(zy:Z y):aF env.P 227 [Dn x,Dn y] (Dn (x+y)):=by
 have:=YB (aU DD x.toNat) (aU DD y.toNat) (by have:=kK hx;omega) (by have:=kK hy;omega) (mB _) (mB _) (jX O2 _) (jX O2 _)
 rwa [vR hx,vR hy]at this
theorem YC(a b:List Int)(ha:a.length<1099511627776)(hb:b.length≤a.length)(la:cX 10000 a)(lb:cX 10000 b)(hle:V 10000 b≤V 10000 a):aF env.P 229 [aN aI a,aN aI b] (Dn (V 10000 a-V 10000 b)):=by
 refine cD [(0,aN aI a),(1,aN aI b)] Tryz.func229 ?_
 refine aA [0,1] ?_
 refine aA [0,1,5] ?_
 refine aA [0,1,5,6] ?_
 refine aP [0,1,5,6,13,14] ?_
 refine W.block ?_
 refine W.bE (fun k σ=>∃(i:Nat) (c:Int) (z:List Int) (ver:Nat) (rows:Pm.Rows) (clk:Nat),σ=⟨fa [(0,aN aI a),(1,aN aI b),(5, .own 11 ver 0 a.length),(6, .int .i64 c),(13, .int .i64 a.length),(14, .int .i64 i)],rows,clk⟩ ∧
  rows 11=some ⟨ver,3,1,emap aI z⟩∧k=a.length-i∧i≤a.length∧z.length=a.length∧cX 10000 z∧0≤c∧c≤1 ∧
  V 10000 (z.take i)-10000^i*c=V 10000 (a.take i)-V 10000 (b.take i)) a.length ?_ ?_
 ·exact⟨_, .refl,0,0,List.replicate a.length 0,_,_,_,rfl,by simp,by omega,by omega,by simp,cX.rep (by decide) _,by omega,by omega,by simp [V]⟩
 rintro k _ ⟨i,c,z,ver,rows,clk,rfl,hr,hk,hi,hz,lz,xI,uW,hV⟩
 refine bV [0,1,5,6,13,14,15] ?_
 refine bJ ?_ ?_<;>intro h
 ·simp at h
  have hx:=la.nth h
  refine kY ?_
  refine aA [0,1,5,6,7,13,14] ?_
  refine aA [0,1,5,7,8,13,14] ?_
  refine W.iE (fun σ=>∃(s:Int),σ=⟨fa [(0,aN aI a),(1,aN aI b),(5, .own 11 ver 0 a.length),(7, .int .i64 i),(8, .int .i64 s),(13, .int .i64 a.length),(14, .int .i64 i)],rows,clk⟩ ∧ -10000≤s∧s≤9999 ∧
   V 10000 (z.take i)+10000^i*s=V 10000 (a.take (i+1))-V 10000 (b.take (i+1))) ?_ ?_
  ·
   refine aA [0,1,5,7,8,13,14,26] ?_
   refine bJ ?_ ?_<;>intro h
   ·simp at h
    have hy:=lb.nth h
    refine W.cA (fun K hK=>?_);simp (disch:=omega) [gw]
    refine hK _ ⟨_,aB _ [0,1,5,7,8,13,14],_,rfl,by omega,by omega,?_⟩
    rw [aV (l:=a) (by omega),aV h];grind
   ·simp at h
    refine W.skip ?_
    refine⟨_,aB _ [0,1,5,7,8,13,14],_,rfl,by omega,by omega,?_⟩
    rw [aV (l:=a) (by omega),a9 (l:=b) (by omega)]
    rw [a9 (l:=b) (by omega)]at hV
    grind
  rintro _ ⟨s,rfl,UL,vO,hsV⟩
  refine aA [0,1,5,6,7,8,13,14] ?_
  refine W.iE (fun σ=>∃(u c:Int),σ=⟨fa [(0,aN aI a),(1,aN aI b),(5, .own 11 ver 0 a.length),(6, .int .i64 c),(7, .int .i64 i),(8, .int .i64 u),(13, .int .i64 a.length),(14, .int .i64 i)],rows,clk⟩∧0≤u∧u≤9999∧0≤c∧c≤1∧s=u-10000*c) ?_ ?_
  ·
   refine aA [0,1,5,6,7,8,13,14,34] ?_
   refine bJ ?_ ?_<;>intro h
   ·simp at h
    refine aA [0,1,5,7,8,13,14] ?_
    refine W.cA (fun K hK=>?_);simp (disch:=omega) [gw]
    exact hK _ ⟨_,aB _ [0,1,5,6,7,8,13,14],_,1,rfl,by omega,by omega,by omega,by omega,by omega⟩
   ·simp at h
    refine W.skip ?_
    exact⟨_,aB _ [0,1,5,6,7,8,13,14],_,0,rfl,by omega,by omega,by omega,by omega,by omega⟩
  rintro _ ⟨u,c',rfl,hu0,hu1,ayd,aye,hu⟩
  refine W.cA (fun K hK=>?_);simp (disch:=omega) [gw,hr]
  refine W.lw [0,1,5,6,13,14] hK ?_;clear hK K;simp
  refine W.cA (fun K hK=>?_);simp (disch:=omega) [gw]
  refine hK _ ⟨a.length-(i+1),_,aB _ [0,1,5,6,13,14],by omega,i+1,c',z.set i u,ver,_,_,rfl,by simp,by omega,by omega,by simpa using hz,lz.set (by omega),ayd,aye,?_⟩
  rw [fC (by omega),←hsV,hu,Int.pow_succ]
  grind
 ·simp at h
  have lV:i=a.length:=by omega
  subst lV
  have ez:z.take a.length=z:=bM hz
  refine fH ?_
  refine W.sr ?_
  simp (disch:=omega) [gw,hr,ez]
  refine aC (o8 z (by omega)) ?_
  simp (disch:=omega) [gw]
  refine bG [4] ?_
  refine W.ret ?_
  rw [ez,a9 (l:=a) (by omega),a9 (l:=b) (by omega)]at hV
  have h1:=oY (by decide) lz
  rw [hz]at h1
  have hc:c=0:=by
   rcases(show c=0∨c=1 by omega)with h2 | h2
   ·exact h2
   ·subst h2;omega
  subst hc
  have e:V 10000 a-V 10000 b=V 10000 z:=by rw [←hV];simp
  rw [e,←uB lz]
  simp [go]
theorem CN(x y:Int)(hy:0≤y)(hle:y≤x)(zx:Z x):aF env.P 229 [Dn x,Dn y] (Dn (x-y)):=by
 have hlen:(aU DD y.toNat).length≤(aU DD x.toNat).length:=by
  have h1:=dJ (b:=DD) O2 (x:=y) (y:=x) (by omega)
  simp only [sz]at h1
  rwa [show y.natAbs=y.toNat by omega,show x.natAbs=x.toNat by omega]at h1
 have:=YC (aU DD x.toNat) (aU DD y.toNat) (by have:=kK (show 0≤x by omega);omega) hlen (mB _) (mB _) (by rw [vR hy,vR (by omega)];exact hle)
 rwa [vR hy,vR (by omega)]at this
theorem am8{a b:Int}(ha:0≤a∧a<10000)(hb:0≤b∧b<10000):0≤a*b∧a*b≤99980001:=by
 refine⟨Int.mul_nonneg ha.1 hb.1,?_⟩
 have:=Int.mul_le_mul (show a≤9999 by omega) (show b≤9999 by omega) hb.1 (by decide)
 simpa using this
theorem YD(x y:List Int)(hx:x.length<1099511627776)(hy:y.length<1099511627776)(lx:cX 10000 x)(ly:cX 10000 y):aF env.P 131 [aN aI x,aN aI y] (Dn (V 10000 x*V 10000 y)):=by
 refine cD [(0,aN aI x),(1,aN aI y)] Tryz.func131 ?_
 refine aA [0,1] ?_
 have e:((x.length:Int)+(y.length:Int)).toNat=x.length+y.length:=by omega
 refine W.sr ?_
 simp (disch:=omega) [gw,e]
 refine bG [0,1,5] ?_
 refine aP [0,1,5,17,18] ?_
 refine W.block ?_
 refine W.bE (fun k σ=>∃(i:Nat) (z:List Int) (ver:Nat) (rows:Pm.Rows) (clk:Nat),σ=⟨fa [(0,aN aI x),(1,aN aI y),(5, .own 15 ver 0 (x.length+y.length)),(17, .int .i64 x.length),(18, .int .i64 i)],rows,clk⟩ ∧
   rows 15=some ⟨ver,3,1,emap aI z⟩∧k=x.length-i∧i≤x.length∧z.length=x.length+y.length∧cX 10000 z∧(∀j,i+y.length≤j→nth z j=0) ∧
   V 10000 z=V 10000 (x.take i)*V 10000 y) x.length ?_ ?_
 ·refine⟨_, .refl,0,List.replicate (x.length+y.length) 0,_,_,_,rfl,by simp [e],by omega,by omega,by simp,cX.rep (by decide) _,fun j _=>?_,by simp [V,qB]⟩
  unfold nth
  cases h:(List.replicate (x.length+y.length) (0:Int))[j]? with
  | none=>rfl
  | some v=>have:=List.mem_of_getElem? h;simp at this;simp [this]
 rintro k _ ⟨i,z,ver,rows,clk,rfl,hr,hk,hi,hz,lz,nT,hV⟩
 refine bV [0,1,5,17,18,19] ?_
 refine bJ ?_ ?_<;>intro h
 ·simp at h
  have hxi:=lx.nth h
  refine kY ?_
  refine aA [0,1,5,6,17,18] ?_
  refine aA [0,1,5,6,7,17,18] ?_
  refine aA [0,1,5,6,7,8,17,18] ?_
  refine W.block ?_
  refine W.bE (fun m σ=>∃(k:Nat) (c:Int) (z:List Int) (ver:Nat) (rows:Pm.Rows) (clk:Nat),σ=⟨fa [(0,aN aI x),(1,aN aI y),(5, .own 15 ver 0 (x.length+y.length)),(6, .int .i64 i),(7, .int .i64 c),(8, .int .i64 k),(17, .int .i64 x.length),(18, .int .i64 i)],rows,clk⟩ ∧
   rows 15=some ⟨ver,3,1,emap aI z⟩∧m=y.length+1-k∧(k≤y.length∧(∀j,i+y.length≤j→nth z j=0)∨k=y.length+1∧c=0)∧z.length=x.length+y.length∧cX 10000 z∧(∀j,i+1+y.length≤j→nth z j=0)∧0≤c∧c≤9999 ∧
   V 10000 z+10000^(i+k)*c=V 10000 (x.take i)*V 10000 y+10000^i*nth x i*V 10000 (y.take k)) (y.length+1) ?_ ?_
  ·exact⟨_, .refl,0,0,z,ver,_,_,rfl,by simpa using hr,by omega, .inl ⟨by omega,nT⟩,hz,lz,fun j hj=>nT j (by omega),by omega,by omega,by simp [V,hV]⟩
  clear hV nT lz hz hr z ver rows clk
  rintro m _ ⟨k,c,z,ver,rows,clk,rfl,hr,hm,hky,hz,lz,nT,xI,uW,hV⟩
  refine W.seq ?_
  refine W.fA (fun σ=>∃(t:Bool),σ=⟨fa [(0,aN aI x),(1,aN aI y),(5, .own 15 ver 0 (x.length+y.length)),(6, .int .i64 i),(7, .int .i64 c),(8, .int .i64 k),(17, .int .i64 x.length),(18, .int .i64 i),(28, .bool t)],rows,clk⟩∧(t=true↔k<y.length∨0<c)) (fun K hK=>?_) ?_
  ·simp
   by_cases h2:k<y.length
   ·simp (disch:=omega) [gw,h2]
    exact hK _ _ (aB _ [0,1,5,6,7,8,17,18,28]) ⟨_,rfl,by simp [h2]⟩
   ·simp (disch:=omega) [gw,h2]
    exact hK _ _ (aB _ [0,1,5,6,7,8,17,18,28]) ⟨_,rfl,by simp [h2]⟩
  rintro _ ⟨t,rfl,ht⟩
  refine W.cond ⟨_,rfl,fun h2=>?_,fun h2=>?_⟩
  ·have ht:=ht.1 h2
   obtain⟨xC,hk1⟩:k≤y.length∧(∀j,i+y.length≤j→nth z j=0):=by
    rcases hky with h3 | h3
    ·exact h3
    ·omega
   have hzk:=lz.nth (i:=i+k) (by omega)
   have e0:((i:Int)+(k:Int)).toNat=i+k:=by omega
   refine kY ?_
   refine W.sr ?_
   simp (disch:=omega) [gw,hr,e0]
   refine bG [0,1,5,6,8,9,17,18] ?_
   refine W.iE (fun σ=>∃(s:Int),σ=⟨fa [(0,aN aI x),(1,aN aI y),(5, .own 15 ver 0 (x.length+y.length)),(6, .int .i64 i),(8, .int .i64 k),(9, .int .i64 s),(17, .int .i64 x.length),(18, .int .i64 i)],rows,clk⟩∧0≤s∧s≤99999999∧(k=y.length→s=c) ∧
    V 10000 z-10000^(i+k)*nth z (i+k)+10000^(i+k)*s=V 10000 (x.take i)*V 10000 y+10000^i*nth x i*V 10000 (y.take (k+1))) ?_ ?_
   ·
    refine aA [0,1,5,6,8,9,17,18,42] ?_
    refine bJ ?_ ?_<;>intro h
    ·simp at h
     have hyk:=ly.nth h
     have hp:=am8 hxi hyk
     refine W.LY (fun K hK=>?_);simp (disch:=omega) [gw]
     refine hK _ ⟨_,aB _ [0,1,5,6,8,9,17,18],_,rfl,by omega,by omega,by omega,?_⟩
     rw [aV h,Int.pow_add]
     rw [Int.pow_add]at hV
     grind
    ·simp at h
     have hkl:k=y.length:=by omega
     have h0:=hk1 (i+k) (by omega)
     refine W.skip ?_
     refine⟨_,aB _ [0,1,5,6,8,9,17,18],_,rfl,by omega,by omega,by omega,?_⟩
     rw [a9 (l:=y) (by omega)]
     rw [a9 (l:=y) (by omega)]at hV
     rw [h0]
     grind
   rintro _ ⟨s,rfl,UL,vO,hsc,hsV⟩
   refine W.sr ?_
   simp (disch:=omega) [gw,hr,e0]
   refine bG [0,1,5,6,8,9,17,18] ?_
   refine W.cA (fun K hK=>?_);simp (disch:=omega) [gw];refine W.lw [0,1,5,6,7,8,17,18] hK ?_;clear hK K;simp
   refine W.cA (fun K hK=>?_);simp (disch:=omega) [gw]
   have Q8:=FT (b:=10000) (l:=z) (i:=i+k) (x:=s%10000) (by omega)
   refine hK _ ⟨y.length+1-(k+1),_,aB _ [0,1,5,6,7,8,17,18],by omega,k+1,s/10000,z.set (i+k) (s%10000),ver,_,_,rfl,by simp,rfl,?_,by simpa using hz,lz.set (by omega),fun j hj=>?_,by omega,by omega,?_⟩
   ·rcases Nat.lt_or_ge k y.length with h3 | h3
    ·left
     refine⟨by omega,fun j hj=>?_⟩
     rw [gT (by omega)];exact hk1 j hj
    ·right
     have:=hsc (by omega)
     exact⟨by omega,by omega⟩
   ·rw [gT (by omega)];exact nT j hj
   ·rw [Q8,←hsV,show i+(k+1)=(i+k)+1 by omega,Int.pow_succ]
    have:=Int.emod_add_mul_ediv s 10000
    grind
  ·have ht:¬(k<y.length∨0<c):=fun h3=>by simp [ht.2 h3]at h2
   have hc:c=0:=by omega
   subst hc
   refine fH ?_
   refine W.cA (fun K hK=>?_);simp (disch:=omega) [gw]
   refine hK _ ⟨x.length-(i+1),_,aB _ [0,1,5,17,18],by omega,i+1,z,ver,_,_,rfl,hr,by omega,by omega,hz,lz,nT,?_⟩
   rw [aV h]
   rw [a9 (l:=y) (by omega)]at hV
   grind
 ·simp at h
  have lV:i=x.length:=by omega
  subst lV
  have tZ:List.take (x.length+y.length) z=z:=List.take_of_length_le (by omega)
  refine fH ?_
  refine W.sr ?_
  simp (disch:=omega) [gw,hr,tZ]
  refine aC (o8 z (by omega)) ?_
  simp (disch:=omega) [gw]
  refine bG [4] ?_
  refine W.ret ?_
  rw [a9 (Nat.le_refl _)]at hV
  rw [←hV,←uB lz]
  simp
theorem acy(x y:Int)(hx:0≤x)(hy:0≤y)(zx:Z x)(zy:Z y):aF env.P 131 [Dn x,Dn y] (Dn (x*y)):=by
 have:=YD (aU DD x.toNat) (aU DD y.toNat) (by have:=kK hx;omega) (by have:=kK hy;omega) (mB _) (mB _)
 rwa [vR hx,vR hy]at this
theorem MJ{x:Int}(h:Z x):Z (x.natAbs:Int):=by simpa [Z,sz]using h
theorem nC(n:Nat)(neg:Bool):aF env.P 68 [aN aI (aU DD n), .bool neg] (RI (if neg=true then -(n:Int)else n)):=o9 n (by omega) neg
theorem YE(x y:Int):(if decide (x<0) != decide (y<0)then -((x.natAbs*y.natAbs:Nat):Int)else((x.natAbs*y.natAbs:Nat):Int))=x*y:=by
 rw [Int.natCast_mul]
 by_cases h1:x<0<;>by_cases h2:y<0
 ·simp only [h1,h2,show(x.natAbs:Int) = -x by omega,show(y.natAbs:Int) = -y by omega];simp<;>grind
 ·simp only [h1,h2,show(x.natAbs:Int) = -x by omega,show(y.natAbs:Int)=y by omega];simp<;>grind
 ·simp only [h1,h2,show(x.natAbs:Int)=x by omega,show(y.natAbs:Int) = -y by omega];simp<;>grind
 ·simp only [h1,h2,show(x.natAbs:Int)=x by omega,show(y.natAbs:Int)=y by omega];simp<;>grind
theorem eT(x y:Int)(zx:Z x)(zy:Z y):aF env.P 63 [RI x,RI y] (RI (x*y)):=by
 refine cD [(0,RI x),(1,RI y)] Tryz.func63 ?_
 refine aA [2,3,4] ?_
 refine nK ?_
 refine aC (acy x.natAbs y.natAbs (by omega) (by omega) (MJ zx) (MJ zy)) ?_
 have e:((x.natAbs:Int)*y.natAbs).toNat=x.natAbs*y.natAbs:=by rw [←Int.natCast_mul];exact Int.toNat_natCast _
 simp only [Dn,e]
 obtain⟨m,hm⟩:∃m,m=x.natAbs*y.natAbs:=⟨_,rfl⟩
 rw [←hm]
 simp (disch:=omega) [gw]
 refine aC (nC m (decide (x<0) != decide (y<0))) ?_
 have e2:=YE x y
 rw [←hm]at e2
 rw [e2]
 simp (disch:=omega) [gw]
 refine bG [4] ?_
 exact cC
theorem CO(x y:Int)(zx:Z x)(zy:Z y):aF env.P 154 [RI x,RI y] (RI (x+y)):=by
 refine cD [(0,RI x),(1,RI y)] Tryz.func154 ?_
 refine aA [2,3,4] ?_
 refine aP [2,3,4,9] ?_
 refine bJ ?_ ?_<;>intro h
 ·simp at h
  refine nK ?_
  refine aC (acx x.natAbs y.natAbs (by omega) (by omega) (MJ zx) (MJ zy)) ?_
  have e:((x.natAbs:Int)+y.natAbs).toNat=x.natAbs+y.natAbs:=by omega
  simp only [Dn,e]
  obtain⟨m,hm⟩:∃m,m=x.natAbs+y.natAbs:=⟨_,rfl⟩
  rw [←hm]
  simp (disch:=omega) [gw]
  refine aC (nC m _) ?_
  have e2:(if decide (x<0)=true then -(m:Int)else m)=x+y:=by by_cases h1:x<0<;>simp [h1]<;>omega
  rw [e2]
  simp (disch:=omega) [gw]
  refine bG [4] ?_
  exact cC
 ·simp at h
  refine W.skip ?_
  refine W.seq ?_
  refine jG ?_
  refine aC (MI x.natAbs y.natAbs (by omega) (by omega) (MJ zx) (MJ zy)) ?_
  simp (disch:=omega) [gw]
  refine bG [2,3,4,23] ?_
  refine W.cond ⟨_,rfl,fun h2=>?_,fun h2=>?_⟩
  ·have h2:(y.natAbs:Int)≤x.natAbs:=rE.1 (of_decide_eq_true h2)
   refine nK ?_
   refine aC (CN x.natAbs y.natAbs (by omega) h2 (MJ zx)) ?_
   have e:((x.natAbs:Int)-y.natAbs).toNat=x.natAbs-y.natAbs:=by omega
   simp only [Dn,e]
   obtain⟨m,hm⟩:∃m,m=x.natAbs-y.natAbs:=⟨_,rfl⟩
   rw [←hm]
   simp (disch:=omega) [gw]
   refine aC (nC m _) ?_
   have e2:(if decide (x<0)=true then -(m:Int)else m)=x+y:=by by_cases h1:x<0<;>simp [h1]<;>omega
   rw [e2]
   simp (disch:=omega) [gw]
   refine bG [4] ?_
   exact cC
  ·have h2:(x.natAbs:Int)<y.natAbs:=by
    have h3:=of_decide_eq_false h2
    rw [rE]at h3;omega
   refine W.skip ?_
   refine nK ?_
   refine aC (CN y.natAbs x.natAbs (by omega) (by omega) (MJ zy)) ?_
   have e:((y.natAbs:Int)-x.natAbs).toNat=y.natAbs-x.natAbs:=by omega
   simp only [Dn,e]
   obtain⟨m,hm⟩:∃m,m=y.natAbs-x.natAbs:=⟨_,rfl⟩
   rw [←hm]
   simp (disch:=omega) [gw]
   refine aC (nC m _) ?_
   have e2:(if decide (y<0)=true then -(m:Int)else m)=x+y:=by by_cases h1:y<0<;>simp [h1]<;>omega
   rw [e2]
   simp (disch:=omega) [gw]
   refine bG [4] ?_
   exact cC
theorem ayf{x:Int}(h:Z x):Z (-x):=by simpa [Z,oI]using h
theorem ML(x y:Int)(zx:Z x)(zy:Z y):aF env.P 130 [RI x,RI y] (RI (x-y)):=by
 have hn:=rN y
 have zn:=ayf zy
 obtain⟨m,hm⟩:∃m,m = -y:=⟨_,rfl⟩
 rw [←hm]at hn zn
 have e:x-y=x+m:=by omega
 rw [e]
 refine cD [(0,RI x),(1,RI y)] Tryz.func130 ?_
 refine aA [2,3,4] ?_
 refine nK ?_
 refine cU hn ?_
 refine cQ [4] (CO x m zx zn) ?_
 exact cC
theorem YF(x y:Int):(x-y).sign=dH x y:=by
 rcases Int.lt_trichotomy x y with h | h | h
 ·rw [mJ h,Int.sign_eq_neg_one_of_neg (by omega)]
 ·subst h;simp [z6]
 ·rw [mK h,Int.sign_eq_one_of_pos (by omega)]
theorem acz(x y:Int)(zx:Z x)(zy:Z y):aF env.P 62 [RI x,RI y] (.int .i64 (dH x y)):=by
 refine cD [(0,RI x),(1,RI y)] Tryz.func62 ?_
 refine aA [2,3] ?_
 refine jG ?_
 refine cU (ML x y zx zy) ?_
 refine aC (F4 (x-y)) ?_
 rw [YF]
 simp (disch:=omega) [gw]
 refine bG [4] ?_
 exact cC
end Go.Proofs.YtiobceocpabjdaaGreat
