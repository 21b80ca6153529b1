import Derived.Test.YtiobceocpabjdaaGreatNae
import Derived.Test.YtiobceocpabjdaaGreatNag
set_option linter.unusedSimpArgs false
set_option linter.unusedVariables false
namespace Go.Proofs.YtiobceocpabjdaaGreat
open Go Pm
variable {l:List Int}{x y b:Int}{k n v e i s s' n':Nat}{q:Rat}
theorem xG.nil:xG []:=⟨dH.nil,aG⟩
theorem x6.adA{l:List (Bool × List Int)}(h:x6 l)(i:Nat):xG (Pm.nth l i).2:=by
 by_cases hi:i<l.length
 ·exact h.nth hi
 ·rw [kA aA];exact xG.nil
theorem zG(l:List (Bool × List Int))(k:Nat):nth (l.map gv) k=gv (nth l k):=Pm.FX (f:=gv) rfl l k
theorem DE(x:Int):iv (decide (x<0)) (aV LL x.natAbs)=x:=TS x
theorem BH(hx:Sz x)(hy:Sz y):AB env.P 66 [I x,I y] (I (x*y)):=by
 have:=TQ (decide (x<0)) (decide (y<0)) (aV LL x.natAbs) (aV LL y.natAbs) hx.lok hy.lok
 rwa [DE,DE]at this
theorem abl(hx:Sz x)(hy:Sz y):AB env.P 65 [I x,I y] (I (x+y)):=by
 have:=H6 (decide (x<0)) (decide (y<0)) (aV LL x.natAbs) (aV LL y.natAbs) hx.lok hy.lok
 rwa [DE,DE]at this
theorem aoO(hx:Sz x):AB env.P 148 [I x] (I (-x)):=by
 have:=H5 (decide (x<0)) (aV LL x.natAbs) hx.lok
 rwa [DE]at this
theorem O8(hx:Sz x):AB env.P 132 [I x] (I x):=by
 have:=ME (decide (x<0)) (aV LL x.natAbs) hx.lok
 rwa [DE]at this
theorem ahe(a b:List (Bool × List Int))(ha:x6 a)(hb:x6 b)(k:Nat)(hk:k<9223372036854775808):AB env.P 242 [.int .i64 (k:Int), .rd [Pg a], .rd [Pg b]] (I (nth (a.map gv) k+nth (b.map gv) k)):=by
 refine dJ (E:=env) (fun _=>0) [(0, .int .i64 (k:Int)),(1, .rd [Pg a]),(2, .rd [Pg b])] Tryz.func242 rfl (by kernel_rfl) (by kernel_rfl) (show 3<=12 by decide) aG ?_
 have:=ha.len;have:=hb.len
 refine W.fF (fun K hK=>?_)
 simp (disch:=omega) [gA,wA]
 refine W.lv [0,1,2,4] hK fun J j=>?_;clear hK K;simp;refine j _ ?_;clear j J
 refine W.agX (fun K hK=>?_)
 simp (disch:=omega) [gA,wA]
 refine bC (O7 a k ha.len hk) ?_
 simp (disch:=omega) [gA,wA]
 refine bC (O7 b k hb.len hk) ?_
 simp (disch:=omega) [gA,wA]
 refine bC (H6 _ _ _ _ (ha.adA k) (hb.adA k)) ?_
 simp (disch:=omega) [gA,wA]
 refine W.lv [4] hK fun J j=>?_;clear hK K;simp;refine j _ ?_;clear j J
 refine W.ret ?_
 rw [zG,zG]
 simp [go,gv]
theorem ahf(a b:List (Bool × List Int))(ha:x6 a)(hb:x6 b)(k:Nat)(hk:k<9223372036854775808):AB env.P 247 [.int .i64 (k:Int), .rd [Pg a], .rd [Pg b]] (I (nth (a.map gv) k-nth (b.map gv) k)):=by
 refine dJ (E:=env) (fun _=>0) [(0, .int .i64 (k:Int)),(1, .rd [Pg a]),(2, .rd [Pg b])] Tryz.func247 rfl (by kernel_rfl) (by kernel_rfl) (show 3<=12 by decide) aG ?_
 have:=ha.len;have:=hb.len
 refine W.fF (fun K hK=>?_)
 simp (disch:=omega) [gA,wA]
 refine W.lv [0,1,2,4] hK fun J j=>?_;clear hK K;simp;refine j _ ?_;clear j J
 refine W.agX (fun K hK=>?_)
 simp (disch:=omega) [gA,wA]
 refine bC (O7 a k ha.len hk) ?_
 simp (disch:=omega) [gA,wA]
 refine bC (O7 b k hb.len hk) ?_
 simp (disch:=omega) [gA,wA]
 refine bC (TR _ _ _ _ (ha.adA k) (hb.adA k)) ?_
 simp (disch:=omega) [gA,wA]
 refine W.lv [4] hK fun J j=>?_;clear hK K;simp;refine j _ ?_;clear j J
 refine W.ret ?_
 rw [zG,zG]
 simp [go,gv]
theorem ahg(a:List (Bool × List Int))(ha:x6 a)(k:Nat)(hk:k<a.length):AB env.P 216 [.int .i64 (k:Int), .rd [Pg a]] (I (- nth (a.map gv) k)):=by
 refine dJ (E:=env) (fun _=>0) [(0, .int .i64 (k:Int)),(1, .rd [Pg a])] Tryz.func216 rfl (by kernel_rfl) (by kernel_rfl) (show 2<=9 by decide) aG ?_
 have:=ha.len
 refine W.fF (fun K hK=>?_)
 simp (disch:=omega) [gA,wA]
 refine W.lv [0,1,3] hK fun J j=>?_;clear hK K;simp;refine j _ ?_;clear j J
 refine W.fF (fun K hK=>?_)
 simp (disch:=omega) [gA,wA]
 refine bC (H5 _ _ (ha.adA k)) ?_
 simp (disch:=omega) [gA,wA]
 refine W.lv [3] hK fun J j=>?_;clear hK K;simp;refine j _ ?_;clear j J
 refine W.ret ?_
 rw [zG]
 simp [go,gv]
theorem ahh(a:List (Bool × List Int))(ha:x6 a)(n:Bool)(c:List Int)(hc:xG c)(k:Nat)(hk:k<a.length):AB env.P 241 [.int .i64 (k:Int), .rd [Pg a], .rd [.bool n,us c]] (I (nth (a.map gv) k*iv n c)):=by
 refine dJ (E:=env) (fun _=>0) [(0, .int .i64 (k:Int)),(1, .rd [Pg a]),(2, .rd [.bool n,us c])] Tryz.func241 rfl (by kernel_rfl) (by kernel_rfl) (show 3<=11 by decide) aG ?_
 have:=ha.len
 refine W.fF (fun K hK=>?_)
 simp (disch:=omega) [gA,wA]
 refine W.lv [0,1,2,4] hK fun J j=>?_;clear hK K;simp;refine j _ ?_;clear j J
 refine W.agX (fun K hK=>?_)
 simp (disch:=omega) [gA,wA]
 refine bC (TQ _ _ _ _ (ha.adA k) hc) ?_
 simp (disch:=omega) [gA,wA]
 refine W.lv [4] hK fun J j=>?_;clear hK K;simp;refine j _ ?_;clear j J
 refine W.ret ?_
 rw [zG]
 simp [go,gv]
theorem ahj(a b:List (Bool × List Int))(ha:x6 a)(hb:x6 b):AB env.P 182 [Pg a,Pg b] (Po (kC (a.map gv) (b.map gv))):=by
 refine dJ (E:=env) (fun _=>0) [(0,Pg a),(1,Pg b)] Tryz.func182 rfl (by kernel_rfl) (by kernel_rfl) (show 2<=12 by decide) aG ?_
 have YJ:=ha.len;have hlb:=hb.len
 refine W.fF (fun K hK=>?_)
 simp (disch:=omega) [gA,wA]
 refine W.lv [2,3] hK fun J j=>?_;clear hK K;simp;refine j _ ?_;clear j J
 refine W.fF (fun K hK=>?_)
 have e:(if a.length<b.length then(b.length:Int)else(a.length:Int))=((max a.length b.length:Nat):Int):=by split<;>omega
 simp (disch:=omega) [gA,wA,e]
 refine bC (vZ 242 rfl [.rd [Pg a], .rd [Pg b]] rfl (max a.length b.length) aA (fun k=>nth (a.map gv) k+nth (b.map gv) k) (fun k hk=>ahe a b ha hb k aA)) ?_
 simp (disch:=omega) [gA,wA]
 refine W.lv [4] hK fun J j=>?_;clear hK K;simp;refine j _ ?_;clear j J
 refine W.ret ?_
 simp [go,kC]
theorem ahk(a b:List (Bool × List Int))(ha:x6 a)(hb:x6 b):AB env.P 186 [Pg a,Pg b] (Po (iB (a.map gv) (b.map gv))):=by
 refine dJ (E:=env) (fun _=>0) [(0,Pg a),(1,Pg b)] Tryz.func186 rfl (by kernel_rfl) (by kernel_rfl) (show 2<=12 by decide) aG ?_
 have YJ:=ha.len;have hlb:=hb.len
 refine W.fF (fun K hK=>?_)
 simp (disch:=omega) [gA,wA]
 refine W.lv [2,3] hK fun J j=>?_;clear hK K;simp;refine j _ ?_;clear j J
 refine W.fF (fun K hK=>?_)
 have e:(if a.length<b.length then(b.length:Int)else(a.length:Int))=((max a.length b.length:Nat):Int):=by split<;>omega
 simp (disch:=omega) [gA,wA,e]
 refine bC (vZ 247 rfl [.rd [Pg a], .rd [Pg b]] rfl (max a.length b.length) aA (fun k=>nth (a.map gv) k-nth (b.map gv) k) (fun k hk=>ahf a b ha hb k aA)) ?_
 simp (disch:=omega) [gA,wA]
 refine W.lv [4] hK fun J j=>?_;clear hK K;simp;refine j _ ?_;clear j J
 refine W.ret ?_
 simp [go,iB]
theorem MF{α β:Type}[Inhabited α](l:List α)(f:α->β):(List.range l.length).map (fun k=>f (nth l k))=l.map f:=by
 apply List.ext_getElem
 ·simp
 ·intro i h1 h2
  simp at h1
  simp [bZ h1]
theorem ahl(a:List (Bool × List Int))(ha:x6 a):AB env.P 139 [Pg a] (Po (jP (a.map gv))):=by
 refine dJ (E:=env) (fun _=>0) [(0,Pg a)] Tryz.func139 rfl (by kernel_rfl) (by kernel_rfl) (show 1<=7 by decide) aG ?_
 have YJ:=ha.len
 refine W.fF (fun K hK=>?_)
 simp (disch:=omega) [gA,wA]
 refine W.lv [1] hK fun J j=>?_;clear hK K;simp;refine j _ ?_;clear j J
 refine W.fF (fun K hK=>?_)
 simp (disch:=omega) [gA,wA]
 refine bC (vZ 216 rfl [.rd [Pg a]] rfl a.length aA (fun k => - nth (a.map gv) k) (fun k hk=>ahg a ha k hk)) ?_
 simp (disch:=omega) [gA,wA]
 refine W.lv [2] hK fun J j=>?_;clear hK K;simp;refine j _ ?_;clear j J
 refine W.ret ?_
 have e:=MF (a.map gv) (fun c => -c)
 rw [List.length_map]at e
 rw [e]
 simp [go,jP]
theorem YK(a:List (Bool × List Int))(ha:x6 a)(n:Bool)(c:List Int)(hc:xG c):AB env.P 181 [Pg a,IV n c] (Po (bJ (a.map gv) (iv n c))):=by
 refine dJ (E:=env) (fun _=>0) [(0,Pg a),(1,IV n c)] Tryz.func181 rfl (by kernel_rfl) (by kernel_rfl) (show 2<=9 by decide) aG ?_
 have YJ:=ha.len
 refine W.fF (fun K hK=>?_)
 simp (disch:=omega) [gA,wA]
 refine W.lv [2,3] hK fun J j=>?_;clear hK K;simp;refine j _ ?_;clear j J
 refine W.fF (fun K hK=>?_)
 simp (disch:=omega) [gA,wA]
 refine bC (vZ 241 rfl [.rd [Pg a], .rd [.bool n,us c]] rfl a.length aA (fun k=>nth (a.map gv) k*iv n c) (fun k hk=>ahh a ha n c hc k hk)) ?_
 simp (disch:=omega) [gA,wA]
 refine W.lv [4] hK fun J j=>?_;clear hK K;simp;refine j _ ?_;clear j J
 refine W.ret ?_
 have e:=MF (a.map gv) (fun a=>a*iv n c)
 rw [List.length_map]at e
 rw [e]
 simp [go,bJ]
theorem ahm(a b:List (Bool × List Int))(ha:x6 a)(hb:x6 b)(s s' n n':Nat)(hs:Bd LL s n (a.map gv))(CO:Bd LL s' n' (b.map gv))(hB:s+s'+n+n'<1099511627775) :
  AB env.P 15 [Pg a,Pg b] (Po (cB (a.map gv) (b.map gv))):=by
 refine dJ (E:=env) (fun id=>if id=11 then 1 else 0) [(0,Pg a),(1,Pg b)] Tryz.func15 rfl (by kernel_rfl) (by kernel_rfl) (show 2<=62 by decide) aG ?_
 refine W.fF (fun K hK=>?_)
 simp (disch:=omega) [gA,wA]
 refine W.lv [0,1] hK fun J j=>?_;clear hK K;simp;refine j _ ?_;clear j J
 refine W.fF (fun K hK=>?_)
 simp (disch:=omega) [gA,wA]
 refine bC (kT a ha) ?_
 simp (disch:=omega) [gA,wA]
 refine bC (kT b hb) ?_
 simp (disch:=omega) [gA,wA]
 refine W.lv [0,1] hK fun J j=>?_;clear hK K;simp;refine j _ ?_;clear j J
 have e:cB (a.map gv) (b.map gv)=cB (aZ (a.map gv)) (aZ (b.map gv)):=Cn.ext (Cn.cB _ _) (Cn.cB _ _) fun t=>by simp [eF,dU]
 rw [e]
 replace hs:=hs.cut
 replace CO:=CO.cut
 clear e ha hb
 generalize aZ (a.map gv)=x at *
 generalize aZ (b.map gv)=y at *
 have hlx:=hs.len;have hly:=CO.len
 refine W.seq ?_
 refine W.fI (fun σ=>∃(b:Bool),σ=⟨fa [(0,Po x),(1,Po y),(21, .bool b)],fun _=>none,0⟩∧(b=true↔x = []∨y = [])) (fun K hK=>?_) ?_
 ·simp
  have e1:((x.length:Int)==0)=decide (x = []):=by
   cases x<;>simp<;>omega
  have e2:((y.length:Int)==0)=decide (y = []):=by
   cases y<;>simp<;>omega
  rw [e1]
  by_cases h0:x = []
  ·have e3:decide (x = [])=true:=by simp [h0]
   rw [e3]
   simp
   exact hK _ _ (aD _ [0,1,21]) ⟨_,rfl,by simp [h0]⟩
  ·have e3:decide (x = [])=false:=by simp [h0]
   rw [e3]
   simp
   exact hK _ _ (aD _ [0,1,21]) ⟨_,rfl,by rw [e2];simp [h0]⟩
 rintro _ ⟨b,rfl,hb⟩
 refine W.cond ⟨_,rfl,fun h=>?_,fun h=>?_⟩
 ·have e:cB x y = []:=by
   have h1:=hb.1 h
   refine Cn.ext (Cn.cB _ _) Cn.nil fun t=>?_
   rw [eF]
   rcases h1 with rfl | rfl<;>simp [V]
  refine W.fF (fun K hK=>?_)
  simp (disch:=omega) [gA,wA]
  refine W.lv [4] hK fun J j=>?_;clear hK K;simp;refine j _ ?_;clear j J
  refine W.ret ?_
  simp [go,e]
  rfl
 ·have h1:¬(x = []∨y = []):=fun h2=>by simp [hb.2 h2]at h
  have sB:0<x.length:=List.length_pos_iff.2 fun h2=>h1 (.inl h2)
  have YL:0<y.length:=List.length_pos_iff.2 fun h2=>h1 (.inr h2)
  clear h hb h1
  refine W.skip ?_
  refine W.fF (fun K hK=>?_)
  simp (disch:=omega) [gA,wA]
  refine W.lv [0,1,5] hK fun J j=>?_;clear hK K;simp;refine j _ ?_;clear j J
  have e0:((x.length:Int)+(y.length:Int)-1).toNat=x.length+y.length-1:=aA
  refine W.row (id:=28) (emap ie (List.replicate (x.length+y.length-1) 0)) (by simp;exact⟨rfl,rfl,rfl,aA⟩) (vY _) ?_
  refine W.seq ?_
  refine W.fF (fun K hK=>?_)
  simp (disch:=omega) [gA,wA]
  refine W.lv [1,5,29,30,31] hK fun J j=>?_;clear hK K;simp;refine j _ ?_;clear j J
  refine W.block ?_
  refine W.bB (fun k σ=>∃(i:Nat) (z:List Int) (ver:Nat) (rows:Pm.Rows) (clk:Nat),σ=⟨fa [(1,Po y),(5, .own 28 ver 0 (x.length+y.length-1)),(29,Po x),(30, .int .i64 x.length),(31, .int .i64 i)],rows,clk⟩ ∧
   rows 28=some ⟨ver,38,2,emap ie z⟩∧k=x.length-i∧i<=x.length∧z.length=x.length+y.length-1∧(∀j,sz LL (nth z j)<=s+s'+i) ∧
   ∀t,V t z=V t (x.take i)*V t y) x.length ?_ ?_
  ·refine⟨_, .refl,0,List.replicate (x.length+y.length-1) 0,_,_,_,rfl,aG,aA,aA,aG,fun j=>?_,fun t=>by simp [V,uN]⟩
   ·have:Bd LL 0 (x.length+y.length-1) (List.replicate (x.length+y.length-1) 0):=⟨aG,fun c hc=>by rw [(List.mem_replicate.1 hc).2,nG];omega⟩
    have:=this.nth j
    omega
  rintro k _ ⟨i,z,ver,rows,clk,rfl,hr,hk,hi,hz,J8,hV⟩
  refine W.fF (fun K hK=>?_)
  simp (disch:=omega) [gA,wA]
  refine W.lv [1,5,29,30,31,32] hK fun J j=>?_;clear hK K;simp;refine j _ ?_;clear j J
  refine W.seq ?_
  refine W.cond ⟨_,rfl,fun h=>?_,fun h=>?_⟩
  ·simp at h
   refine W.skip ?_
   refine W.seq ?_
   refine W.block ?_
   refine W.fF (fun K hK=>?_)
   simp (disch:=omega) [gA,wA]
   refine W.lv [1,5,6,7,29,30,31] hK fun J j=>?_;clear hK K;simp;refine j _ ?_;clear j J
   refine W.fF (fun K hK=>?_)
   simp (disch:=omega) [gA,wA]
   refine W.lv [1,5,6,7,29,30,31,36,37,38] hK fun J j=>?_;clear hK K;simp;refine j _ ?_;clear j J
   refine W.block ?_
   refine W.bB (fun m σ=>∃(k:Nat) (z:List Int) (ver v7:Nat) (rows:Pm.Rows) (clk:Nat),σ=⟨fa [(1,Po y),(5, .own 28 ver 0 (x.length+y.length-1)),(6, .int .i64 i),(7, .ptr 7 v7 0 0),(29,Po x),(30, .int .i64 x.length),(31, .int .i64 i),(36,Po y),(37, .int .i64 y.length),(38, .int .i64 k)],rows,clk⟩ ∧
    rows 28=some ⟨ver,38,2,emap ie z⟩∧rows 7=some ⟨v7,38,2,[ie (nth x i)]⟩∧m=y.length-k∧k<=y.length∧z.length=x.length+y.length-1∧(∀j,sz LL (nth z j)<=s+s'+i+1)∧(∀j,i+k<=j->sz LL (nth z j)<=s+s'+i) ∧
    ∀t,V t z=V t (x.take i)*V t y+t^i*nth x i*V t (y.take k)) y.length ?_ ?_
   ·refine⟨_, .refl,0,z,ver,_,_,_,rfl,by simpa using hr,aG,aA,aA,hz,fun j=>by have:=J8 j;omega,fun j _=>J8 j,fun t=>by simp [V,hV]⟩
   clear hV J8 hz hr z ver rows clk
   rintro m _ ⟨k,z,ver,v7,rows,clk,rfl,hr,yP,hm,hky,hz,J8,YM,hV⟩
   refine W.fF (fun K hK=>?_)
   simp (disch:=omega) [gA,wA]
   refine W.lv [1,5,6,7,29,30,31,36,37,38,39] hK fun J j=>?_;clear hK K;simp;refine j _ ?_;clear j J
   refine W.seq ?_
   refine W.cond ⟨_,rfl,fun h2=>?_,fun h2=>?_⟩
   ·simp at h2
    refine W.skip ?_
    refine W.seq ?_
    refine W.block ?_
    refine W.fF (fun K hK=>?_)
    simp (disch:=omega) [gA,wA]
    refine W.lv [1,5,6,7,8,9,29,30,31,36,37,38] hK fun J j=>?_;clear hK K;simp;refine j _ ?_;clear j J
    have e1:((i:Int)+(k:Int)).toNat=i+k:=aA
    refine W.K1 (fun K hK=>?_)
    simp only [if_true]
    rw [gO]
    simp (disch:=omega) [gA,wA,hr,yP,e1]
    refine bC (BH (Nat.lt_of_le_of_lt (hs.nth i) aA) (Nat.lt_of_le_of_lt (CO.nth k) aA)) ?_
    simp (disch:=omega) [gA,wA,hr,yP,e1]
    have MG:sz LL (nth x i*nth y k)<=s+s'+i:=Nat.le_trans (cW iT (hs.nth i) (CO.nth k)) aA
    have hm2:=qH iT (YM (i+k) (Nat.le_refl _)) MG
    have hlz:i+k<z.length:=aA
    refine bC (abl (Nat.lt_of_le_of_lt (YM (i+k) (Nat.le_refl _)) aA) (Nat.lt_of_le_of_lt MG aA)) ?_
    simp (disch:=omega) [gA,wA,hr,yP,e1]
    refine W.lv [1,5,6,7,29,30,31,36,37,38] hK fun J j=>?_;clear hK K;simp;refine j _ ?_;clear j J
    refine W.bY (fun K hK=>?_)
    simp (disch:=omega) [gA,wA]
    refine hK _ ⟨y.length-(k+1),_,aD _ [1,5,6,7,29,30,31,36,37,38],aA,k+1,z.set (i+k) (nth z (i+k)+nth x i*nth y k),ver,v7,_,_,rfl,aG,by simp [yP],aA,aA,by simpa using hz,fun j=>?_,fun j hj=>?_,fun t=>?_⟩
    ·by_cases hj:i+k=j
     ·subst hj;rw [gP hlz];exact hm2
     ·rw [jL hj];exact J8 j
    ·rw [jL aA];exact YM j aA
    ·rw [L9 hlz,bG h2,hV,Int.pow_add];grind
   ·simp at h2
    have CN:k=y.length:=aA
    subst CN
    refine W.exit ?_;simp only [pX,if_true,if_false,reduceIte,Nat.reduceEqDiff]
    refine W.bY (fun K hK=>?_)
    simp (disch:=omega) [gA,wA]
    refine hK _ ⟨x.length-(i+1),_,aD _ [1,5,29,30,31],aA,i+1,z,ver,_,_,rfl,hr,aA,aA,hz,fun j=>by have:=J8 j;omega,fun t=>?_⟩
    rw [hV,bM (Nat.le_refl _),bG h];grind
  ·simp at h
   have jF:i=x.length:=aA
   subst jF
   refine W.exit ?_;simp only [pX,if_true,if_false,reduceIte,Nat.reduceEqDiff]
   have xF:=bW hz
   refine W.fF (fun K hK=>?_)
   simp (disch:=omega) [gA,wA,hr,xF]
   refine bC (BG z aA) ?_
   simp (disch:=omega) [gA,wA]
   refine W.lv [4] hK fun J j=>?_;clear hK K;simp;refine j _ ?_;clear j J
   refine W.ret ?_
   have e:aZ z=cB x y:=by
    refine Cn.ext (Cn.cut _) (Cn.cB _ _) fun t=>?_
    rw [dU,hV,eF,bM (Nat.le_refl _)]
   simp [go,e]
theorem aDx{S:ByteArray}{kk:IntKind}{K:PV->Prop}(h:(List.range 256).all (fun x=>decide ((S[x]?).map (fun b=>b.toNat)=some (nb x)))=true)(hk:k<256)(hK:go (K (.int .u8 (nb k)))):bH (fun v=>yY env .str (.str S) (.int kk (k:Int)) v) K:=by
 have h1:=List.all_eq_true.1 h k (by simpa using hk)
 simp only [decide_eq_true_eq]at h1
 obtain⟨b,hb,h2⟩:=Option.map_eq_some_iff.1 h1
 refine⟨_,⟨aA,b,by simpa using hb,rfl⟩,?_⟩
 rw [h2];exact hK
theorem MH(n:Int)(h0:0<=n)(h1:n<4294967296):AB env.P 267 [.int .u32 n] (.int .i64 (nb n.toNat)):=by
 refine dJ (E:=env) (fun _=>0) [(0, .int .u32 n)] Tryz.func267 rfl (by kernel_rfl) (by kernel_rfl) (show 1<=19 by decide) aG ?_
 refine W.fF (fun K hK=>?_)
 simp (disch:=omega) [gA,wA]
 refine W.lv [0,2] hK fun J j=>?_;clear hK K;simp;refine j _ ?_;clear j J
 refine W.iS (fun σ=>∃(k:Nat) (x:Nat) (rows:Pm.Rows) (clk:Nat),σ=⟨fa [(0, .int .u32 x),(2, .int .i64 k)],rows,clk⟩∧nb n.toNat=k+nb x∧x<65536∧k<=16) ?_ ?_
 ·
  refine W.fF (fun K hK=>?_)
  simp (disch:=omega) [gA,wA]
  refine W.lv [0,2,4] hK fun J j=>?_;clear hK K;simp;refine j _ ?_;clear j J
  refine W.cond ⟨_,rfl,fun h=>?_,fun h=>?_⟩
  ·simp at h
   refine W.fF (fun K hK=>?_)
   simp (disch:=omega) [gA,wA]
   refine W.lv [0] hK fun J j=>?_;clear hK K;simp;refine j _ ?_;clear j J
   refine W.bY (fun K hK=>?_)
   simp (disch:=omega) [gA,wA]
   refine hK _ ⟨_,Gh.fr [(0, .int .u32 ((n.toNat/65536:Nat):Int)),(2, .int .i64 16)] (by simp;rw [Int.fdiv_eq_ediv_of_nonneg _ aF];omega),16,n.toNat/65536,_,_,rfl,?_,aA,aA⟩
   exact TK (k:=16) (by simp;omega)
  ·simp at h
   refine W.skip ?_
   refine⟨_,Gh.fr [(0, .int .u32 (n.toNat:Int)),(2, .int .i64 0)] (by simp;omega),0,n.toNat,_,_,rfl,aG,aA,aA⟩
 rintro _ ⟨k,x,rows,clk,rfl,hn,hx,hk⟩
 refine W.iS (fun σ=>∃(k:Nat) (x:Nat) (rows:Pm.Rows) (clk:Nat),σ=⟨fa [(0, .int .u32 x),(2, .int .i64 k)],rows,clk⟩∧nb n.toNat=k+nb x∧x<256∧k<=24) ?_ ?_
 ·
  refine W.fF (fun K hK=>?_)
  simp (disch:=omega) [gA,wA]
  refine W.lv [0,2,8] hK fun J j=>?_;clear hK K;simp;refine j _ ?_;clear j J
  refine W.cond ⟨_,rfl,fun h=>?_,fun h=>?_⟩
  ·simp at h
   refine W.fF (fun K hK=>?_)
   simp (disch:=omega) [gA,wA]
   refine W.lv [0,2] hK fun J j=>?_;clear hK K;simp;refine j _ ?_;clear j J
   refine W.bY (fun K hK=>?_)
   simp (disch:=omega) [gA,wA]
   refine hK _ ⟨_,Gh.fr [(0, .int .u32 ((x/256:Nat):Int)),(2, .int .i64 ((k+8:Nat):Int))] (by simp;exact Int.fdiv_eq_ediv_of_nonneg _ aF),k+8,x/256,_,_,rfl,?_,aA,aA⟩
   have:=TK (n:=x) (k:=8) (by simp;omega)
   simp at this
   omega
  ·simp at h
   refine W.skip ?_
   refine⟨_,aD _ [0,2],k,x,_,_,rfl,hn,aA,aA⟩
 rintro _ ⟨k,x,rows,clk,rfl,hn,hx,hk⟩
 refine W.fF (fun K hK=>?_)
 have hw:IntKind.u8.wrap (x:Int)=x:=wrap_u8 aA aA
 have hz:nb x<=8:=rL.2 hx
 simp only [aba,OP,abc,adr,YB,HI,OH,XQ,if_true,if_false,reduceIte,Nat.reduceEqDiff,ar9,ayl,yB,aoi,hw,S8,reduceCtorEq]
 refine aDx (by kernel_rfl) hx ?_
 simp (disch:=omega) only [OP,agC,L6,agT,abc,HI,OH,XQ,if_true,if_false,reduceIte,Nat.reduceEqDiff,aDi,ayl,yB,aoi,wrap_i64,NU,kP,alg,reduceCtorEq,true_and]
 refine W.lv [2] hK fun J j=>?_;clear hK K;simp;refine j _ ?_;clear j J
 refine W.ret ?_
 rw [hn]
 simp [go]
def bl(l:List Int):Int:=if l = []then 0 else 32*((l.length:Int)-1)+nb (nth l (l.length-1)).toNat
theorem TU(l:List Int)(h:xG l):AB env.P 257 [us l] (.int .i64 (bl (aZ l))):=by
 refine dJ (E:=env) (fun _=>0) [(0,us l)] Tryz.func257 rfl (by kernel_rfl) (by kernel_rfl) (show 1<=20 by decide) aG ?_
 have hl:=h.len
 have J9:=cL l
 have hL:=fR h.EM
 refine W.fF (fun K hK=>?_)
 simp (disch:=omega) [gA,wA]
 refine W.lv [0] hK fun J j=>?_;clear hK K;simp;refine j _ ?_;clear j J
 refine W.fF (fun K hK=>?_)
 simp (disch:=omega) [gA,wA]
 refine bC (eJ l aA) ?_
 simp (disch:=omega) [gA,wA]
 refine W.lv [0] hK fun J j=>?_;clear hK K;simp;refine j _ ?_;clear j J
 generalize aZ l=x at *
 refine W.seq ?_
 refine W.fF (fun K hK=>?_)
 simp (disch:=omega) [gA,wA]
 refine W.lv [0,7] hK fun J j=>?_;clear hK K;simp;refine j _ ?_;clear j J
 refine W.cond ⟨_,rfl,fun h=>?_,fun h=>?_⟩
 ·have h0:x = []:=by simpa using h
  refine W.fF (fun K hK=>?_)
  simp (disch:=omega) [gA,wA]
  refine W.lv [2] hK fun J j=>?_;clear hK K;simp;refine j _ ?_;clear j J
  refine W.ret ?_
  simp [go,bl,h0]
 ·have h0:0<x.length:=List.length_pos_iff.2 (by simpa using h)
  have hx:=hL.nth (i:=x.length-1) aA
  have e:((x.length:Int)-1).toNat=x.length-1:=aA
  have hz:nb (nth x (x.length-1)).toNat<=32:=rL.2 aA
  refine W.skip ?_
  refine W.fF (fun K hK=>?_)
  simp (disch:=omega) [gA,wA,e]
  refine bC (MH _ hx.1 hx.2) ?_
  simp (disch:=omega) [gA,wA]
  refine W.lv [2] hK fun J j=>?_;clear hK K;simp;refine j _ ?_;clear j J
  refine W.ret ?_
  have h1:x ≠ []:=fun h2=>by simp [h2]at h0
  simp [go,bl,h1]
theorem alL(h:dH 4294967296 l)(hc:aZ l=l):bl l=0↔V 4294967296 l=0:=by
 unfold bl
 split
 ·rename_i h0;subst h0;simp [V]
 ·rename_i h0
  have h1:=n9 aF h hc h0
  have h2:0<(4294967296:Int)^(l.length-1):=Int.pow_pos aF
  have h3:0<l.length:=List.length_pos_iff.2 h0
  have h4:=h.nth (i:=l.length-1) aA
  have h5:nth l (l.length-1)≠0:=by
   intro h6
   have e:l=l.take (l.length-1) ++ [0]:=by
    conv=>lhs;rw [<-List.take_length (l:=l)]
    rw [<-h6,<-bQ aA,show l.length-1+1=l.length by omega]
   rw [e,mH]at hc
   have:=congrArg List.length hc
   have:=cL (l.take (l.length-1))
   simp at *
   omega
  have h6:nb (nth l (l.length-1)).toNat≠0:=by
   intro h7
   have:=rL.1 (Nat.le_of_eq h7)
   simp at this;omega
  omega
theorem TV(n:Bool)(l:List Int)(h:xG l):AB env.P 218 [IV n l] (.int .i64 (iv n l).sign):=by
 refine dJ (E:=env) (fun _=>0) [(0,IV n l)] Tryz.func218 rfl (by kernel_rfl) (by kernel_rfl) (show 1<=11 by decide) aG ?_
 have hz:=alL (fR h.EM) (fX l)
 have hp:=uO h
 rw [dU]at hz
 refine W.fF (fun K hK=>?_)
 simp (disch:=omega) [gA,wA]
 refine W.lv [1] hK fun J j=>?_;clear hK K;simp;refine j _ ?_;clear j J
 refine W.seq ?_
 refine W.block ?_
 refine W.fF (fun K hK=>?_)
 simp (disch:=omega) [gA,wA]
 refine bC (TU l h) ?_
 simp (disch:=omega) [gA,wA]
 refine W.lv [1,3] hK fun J j=>?_;clear hK K;simp;refine j _ ?_;clear j J
 refine W.cond ⟨_,rfl,fun hb=>?_,fun hb=>?_⟩
 ·have h0:V 4294967296 l=0:=hz.1 (by simpa using hb)
  refine W.fF (fun K hK=>?_)
  simp (disch:=omega) [gA,wA]
  refine W.lv [2] hK fun J j=>?_;clear hK K;simp;refine j _ ?_;clear j J
  refine W.ret ?_
  simp [go,iv,h0]
 ·have h0:0<V 4294967296 l:=by
   have:V 4294967296 l≠0:=fun h1=>by simp [hz.2 h1]at hb
   omega
  refine W.fF (fun K hK=>?_)
  simp (disch:=omega) [gA,wA]
  refine W.lv [8] hK fun J j=>?_;clear hK K;simp;refine j _ ?_;clear j J
  refine W.cond ⟨_,rfl,fun hn=>?_,fun hn=>?_⟩
  ·subst hn
   refine W.fF (fun K hK=>?_)
   simp (disch:=omega) [gA,wA]
   refine W.lv [2] hK fun J j=>?_;clear hK K;simp;refine j _ ?_;clear j J
   refine W.ret ?_
   have:(- V 4294967296 l).sign = -1:=Int.sign_eq_neg_one_of_neg aA
   simp [go,iv,this]
  ·subst hn
   refine W.skip ?_
   refine W.fF (fun K hK=>?_)
   simp (disch:=omega) [gA,wA]
   refine W.lv [2] hK fun J j=>?_;clear hK K;simp;refine j _ ?_;clear j J
   refine W.ret ?_
   have:(V 4294967296 l).sign=1:=Int.sign_eq_one_of_pos h0
   simp [go,iv,this]
theorem adB(h:x.sign<y.sign):eA x y = -1:=by
 apply pL
 rcases Int.lt_trichotomy x 0 with h1 | h1 | h1<;>rcases Int.lt_trichotomy y 0 with h2 | h2 | h2<;>first | omega | (simp [Int.sign_eq_neg_one_of_neg,Int.sign_eq_one_of_pos,h1,h2]at h)
theorem YN(h:y.sign<x.sign):eA x y=1:=by
 apply pM
 rcases Int.lt_trichotomy x 0 with h1 | h1 | h1<;>rcases Int.lt_trichotomy y 0 with h2 | h2 | h2<;>first | omega | (simp [Int.sign_eq_neg_one_of_neg,Int.sign_eq_one_of_pos,h1,h2]at h)
theorem O9(x y:Int):eA (-x) (-y)=eA y x:=by simp only [eA];split<;>split<;>(try split)<;>(try split)<;>omega
theorem ahn(n m:Bool)(l k:List Int)(h:xG l)(h':xG k):AB env.P 144 [IV n l,IV m k] (.int .i64 (eA (iv n l) (iv m k))):=by
 refine dJ (E:=env) (fun _=>0) [(0,IV n l),(1,IV m k)] Tryz.func144 rfl (by kernel_rfl) (by kernel_rfl) (show 2<=32 by decide) aG ?_
 have p1:=uO h;have p2:=uO h'
 refine W.fF (fun K hK=>?_)
 simp (disch:=omega) [gA,wA]
 refine W.lv [2,3] hK fun J j=>?_;clear hK K;simp;refine j _ ?_;clear j J
 refine W.agX (fun K hK=>?_)
 simp (disch:=omega) [gA,wA]
 refine bC (TV n l h) ?_
 simp (disch:=omega) [gA,wA]
 refine bC (TV m k h') ?_
 simp (disch:=omega) [gA,wA]
 refine W.lv [2,3,5,6] hK fun J j=>?_;clear hK K;simp;refine j _ ?_;clear j J
 refine W.seq ?_
 refine W.block ?_
 refine W.fF (fun K hK=>?_)
 simp (disch:=omega) [gA,wA]
 refine W.lv [2,3,5,6,11] hK fun J j=>?_;clear hK K;simp;refine j _ ?_;clear j J
 refine W.cond ⟨_,rfl,fun h1=>?_,fun h1=>?_⟩
 ·refine W.fF (fun K hK=>?_)
  simp (disch:=omega) [gA,wA]
  refine W.lv [4] hK fun J j=>?_;clear hK K;simp;refine j _ ?_;clear j J
  refine W.ret ?_
  simp [go,adB (of_decide_eq_true h1)]
 ·have h1:=of_decide_eq_false h1
  refine W.fF (fun K hK=>?_)
  simp (disch:=omega) [gA,wA]
  refine W.lv [2,3,5,15] hK fun J j=>?_;clear hK K;simp;refine j _ ?_;clear j J
  refine W.cond ⟨_,rfl,fun h2=>?_,fun h2=>?_⟩
  ·refine W.fF (fun K hK=>?_)
   simp (disch:=omega) [gA,wA]
   refine W.lv [4] hK fun J j=>?_;clear hK K;simp;refine j _ ?_;clear j J
   refine W.ret ?_
   simp [go,YN (of_decide_eq_true h2)]
  ·have h2:=of_decide_eq_false h2
   have h3:(iv n l).sign=(iv m k).sign:=aA
   refine W.fF (fun K hK=>?_)
   simp (disch:=omega) [gA,wA]
   refine W.lv [2,3,19] hK fun J j=>?_;clear hK K;simp;refine j _ ?_;clear j J
   refine W.cond ⟨_,rfl,fun h4=>?_,fun h4=>?_⟩
   ·have h4:iv n l<0:=by simpa using of_decide_eq_true h4
    have h5:iv m k<0:=by
     rw [Int.sign_eq_neg_one_of_neg h4]at h3
     exact Int.sign_eq_neg_one_iff_neg.1 h3.symm
    have en:n=true:=by cases n;(· simp [iv]at h4;omega);rfl
    have em:m=true:=by cases m;(· simp [iv]at h5;omega);rfl
    subst en;subst em
    refine W.fF (fun K hK=>?_)
    simp (disch:=omega) [gA,wA]
    refine bC (O5 k l h'.len h.len h'.EM h.EM) ?_
    simp (disch:=omega) [gA,wA]
    refine W.lv [4] hK fun J j=>?_;clear hK K;simp;refine j _ ?_;clear j J
    refine W.ret ?_
    simp [go,iv,O9]
   ·have h4:0<=iv n l:=by simpa using of_decide_eq_false h4
    have e1:iv n l=V 4294967296 l:=by
     cases n
     ·simp [iv]
     ·simp [iv]at h4 |-;omega
    have h5:0<=iv m k:=by
     have:0<=(iv n l).sign:=Int.sign_nonneg_iff.2 h4
     rw [h3]at this
     exact Int.sign_nonneg_iff.1 this
    have e2:iv m k=V 4294967296 k:=by
     cases m
     ·simp [iv]
     ·simp [iv]at h5 |-;omega
    refine W.skip ?_
    refine W.fF (fun K hK=>?_)
    simp (disch:=omega) [gA,wA]
    refine bC (O5 l k h.len h'.len h.EM h'.EM) ?_
    simp (disch:=omega) [gA,wA]
    refine W.lv [4] hK fun J j=>?_;clear hK K;simp;refine j _ ?_;clear j J
    refine W.ret ?_
    simp [go,e1,e2]
theorem aho(hx:Sz x)(hy:Sz y):AB env.P 144 [I x,I y] (.int .i64 (eA x y)):=by
 have:=ahn (decide (x<0)) (decide (y<0)) (aV LL x.natAbs) (aV LL y.natAbs) hx.lok hy.lok
 rwa [DE,DE]at this
abbrev RP:=List (Bool × List Int)
variable {p:RP}
def aI(n:Int):List PV:=[aB n]
def pe(p:RP):List PV:=[Pg p]
def me(r:List RP):List PV:=[aJ pe r]
@[simp] theorem ayp{n:Int}:aI n = [aB n]:=rfl
@[simp] theorem aDy:pe p = [Pg p]:=rfl
@[simp] theorem aDz{p:List RP}:me p = [aJ pe p]:=rfl
@[simp] theorem aoS:bP 1 (emap aI l)=True:=cS fun _=>rfl
@[simp] theorem avm{l:List RP}:bP 1 (emap pe l)=True:=cS fun _=>rfl
@[simp] theorem avn{l:List (List RP)}:bP 1 (emap me l)=True:=cS fun _=>rfl
@[simp] theorem alM:dG (some ⟨v,e,n,emap aI l⟩)=True:=cM fun _=>rfl
@[simp] theorem asd{l:List RP}:dG (some ⟨v,e,n,emap pe l⟩)=True:=cM fun _=>rfl
@[simp] theorem ase{l:List (List RP)}:dG (some ⟨v,e,n,emap me l⟩)=True:=cM fun _=>rfl
@[simp] theorem aDA{l:RP}{n:Bool}{m:List Int}:emap ge l ++ [[.bool n,us m]]=emap ge (l ++ [(n,m)]):=by simp [emap]
@[simp] theorem aDB:emap ie l ++ [[.bool (decide (x<0)),us (aV LL x.natAbs)]]=emap ie (l ++ [x]):=by simp [emap]
@[simp] theorem aDC{l:List RP}:emap pe l ++ [[aJ ge p]]=emap pe (l ++ [p]):=by simp [emap]
@[simp] theorem aDD{l:List (List RP)}{p:List RP}:emap me l ++ [[aJ pe p]]=emap me (l ++ [p]):=by simp [emap]
def pV(p:RP):List Int:=aZ (p.map gv)
theorem alN(l:List Int)(hl:l.length<1099511627776)(hb:∀x∈l, -9223372036854775808<=x∧x<9223372036854775808):aC 11 [aJ aI l] (Po (aZ l)):=by
 apply cG [(0,aJ aI l)] Tryz.func11
 apply fK [0] [0,3]
 refine W.row (id:=8) (emap ie (List.replicate l.length 0)) (by simp;exact⟨rfl,rfl,rfl⟩) (vY _) ?_
 apply eE [3,9,10,11]
 refine W.bB (fun k σ=>∃(i:Nat) (z:List Int) (ver:Nat),bF σ [(3, .own 8 ver 0 l.length),(9,aJ aI l),(10,aB l.length),(11,aB i)] fun rows clk =>
  rows 8=some ⟨ver,38,2,emap ie z⟩∧k=l.length-i∧i<=l.length∧z.length=l.length∧z.take i=l.take i) l.length ?_ ?_
 ·exact⟨_, .refl,0,List.replicate l.length 0,_,_,_,rfl,aG,aA,aA,aG,aG⟩
 rintro k _ ⟨i,z,ver,rows,clk,rfl,hr,hk,hi,hz,hv⟩
 apply cN [3,9,10,11,12]
 refine W.cond ⟨_,rfl,fun c8=>?_,fun c8=>?_⟩
 ·simp at c8
  apply (iE)
  apply fJ hr [3,4,5,9,10,11]
  refine W.bY fun K hK=>?_
  apply eV hr
  refine bC (H7 _ (hb _ (bO c8)).1 (hb _ (bO c8)).2) ?_
  apply eV hr
  refine W.lw [3,9,10,11] hK ?_;clear hK K;simp
  refine W.bY fun K hK=>?_
  apply (cV)
  refine hK _ ⟨l.length-(i+1),_,aD _ [3,9,10,11],aA,i+1,z.set i (nth l i),ver,_,_,rfl,aG,aA,aA,by simpa using hz,?_⟩
  rw [oT hv aA,bQ c8]
 ·simp at c8
  have jF:i=l.length:=aA
  subst jF
  apply (gK)
  rw [bW hz,bW rfl]at hv
  have xF:=bW hz
  apply W.sr
  apply j1 hr xF
  refine bC (BG z aA) ?_
  apply bT [2]
  apply W.ret
  simp [go,hv]
abbrev DD:Nat:=10000
theorem WK:2<=DD:=by decide
abbrev Dn(x:Int):PV:=aJ aI (aV DD x.toNat)
theorem zH(h:dH 10000 l):aJ aI (aZ l)=Dn (V 10000 l):=by rw [vQ WK h];rfl
@[simp] theorem aBh:List.replicate n [PV.int .i64 0]=emap aI (List.replicate n 0):=by simp [emap]
@[simp] theorem asf:iP (emap aI l) i 0 [aB x]=emap aI (l.set i x):=F0 (n:=1) (fun _=>rfl)
@[simp] theorem ayq:emap aI l ++ [[aB x]]=emap aI (l ++ [x]):=by simp [emap]
theorem sY(l:List Int)(hl:l.length<17592186044416):aC 211 [aJ aI l] (aJ aI (aZ l)):=by
 apply cG [(0,aJ aI l)] Tryz.func211
 apply fK [0] [0,3]
 refine W.seq (W.block ?_)
 refine W.bB (fun k σ=>bF σ [(0,aJ aI l),(3,aB (k:Int))] fun rows clk=>k<=l.length∧aZ l=aZ (l.take k)) l.length ?_ ?_
 ·exact⟨_, .refl,_,_,rfl,aA,aG⟩
 rintro k _ ⟨rows,clk,rfl,hk,hc⟩
 apply W.seq
 refine W.fI (fun σ=>∃(b:Bool),σ=⟨fa [(0,aJ aI l),(3,aB (k:Int)),(15, .bool b)],rows,clk⟩∧(b=true↔0<k∧nth l (k-1)=0)) (fun K hK=>?_) ?_
 ·simp
  by_cases h0:0<k
  ·apply eV h0
   exact hK _ _ (aD _ [0,3,15]) ⟨_,rfl,by simp [h0]⟩
  ·apply eV h0
   exact hK _ _ (aD _ [0,3,15]) ⟨_,rfl,by simp [h0]⟩
 rintro _ ⟨b,rfl,hb⟩
 refine W.cond ⟨_,rfl,fun h=>?_,fun h=>?_⟩
 ·obtain⟨h0,h1⟩:=hb.1 h
  refine W.skip (W.block ?_)
  refine W.bY fun K hK=>?_
  apply (cV)
  refine hK _ ⟨k-1,_,Gh.fr [(0,_),(3,aB ((k-1:Nat):Int))] (by simp;omega),aA,_,_,rfl,aA,?_⟩
  rw [hc,show k=(k-1)+1 by omega,bQ aA,h1,mH]
  simp
 ·have h2:aZ l=l.take k:=by
   rw [hc]
   by_cases h0:0<k
   ·have h1:nth l (k-1)≠0:=fun h1=>by simp [hb.2 ⟨h0,h1⟩]at h
    rw [show k=(k-1)+1 by omega,bQ aA]
    exact kS h1 _
   ·have:k=0:=by omega
    subst this;simp [aZ]
  apply xY [2]
  apply W.ret
  simp [h2]
theorem YO(a:List Int)(m c0:Int)(ha:a.length<1099511627776)(la:dH 10000 a)(WI:0<=m)(MG:m<=65536)(zF:0<=c0)(AE:c0<=65536) :
  aC 210 [aJ aI a,aB m,aB c0] (Dn (V 10000 a*m+c0)):=by
 apply cG [(0,aJ aI a),(1,aB m),(2,aB c0)] Tryz.func210
 apply fK [0,1,2] [0,1,2,7]
 apply eE [0,1,2,7,8]
 refine W.bB (fun k σ=>∃(i:Nat) (c:Int) (z:List Int) (ver:Nat),bF σ [(0,aJ aI a),(1,aB m),(2,aB c),(7, .own 12 ver 0 i),(8,aB i)] fun rows clk =>
  rows 12=some ⟨ver,3,1,emap aI z⟩∧k=(a.length-i)*1000000+c.toNat∧z.length=i∧(i<=a.length∨i+c<=a.length+65536)∧dH 10000 z∧0<=c∧c<=65536 ∧
  V 10000 z+10000^i*c=V 10000 (a.take i)*m+c0) (a.length*1000000+c0.toNat) ?_ ?_
 ·exact⟨_, .refl,0,c0,[],_,_,_,rfl,by simp [emap],aG,rfl,aA,dH.nil,zF,AE,by simp [V]⟩
 rintro k _ ⟨i,c,z,ver,rows,clk,rfl,hr,hk,hz,hi,lz,h0,h1,hV⟩
 apply W.seq
 refine W.fI (fun σ=>∃(b:Bool),σ=⟨fa [(0,aJ aI a),(1,aB m),(2,aB c),(7, .own 12 ver 0 i),(8,aB i),(20, .bool b)],rows,clk⟩∧(b=true↔i<a.length∨0<c)) (fun K hK=>?_) ?_
 ·simp
  by_cases h2:i<a.length
  ·apply eV h2
   exact hK _ _ (aD _ [0,1,2,7,8,20]) ⟨_,rfl,by simp [h2]⟩
  ·apply eV h2
   exact hK _ _ (aD _ [0,1,2,7,8,20]) ⟨_,rfl,by simp [h2]⟩
 rintro _ ⟨b,rfl,hb⟩
 refine W.cond ⟨_,rfl,fun h=>?_,fun h=>?_⟩
 ·have hb:=hb.1 h
  apply (iE)
  refine W.iS (fun σ=>∃(s:Int),σ=⟨fa [(0,aJ aI a),(1,aB m),(2,aB s),(7, .own 12 ver 0 i),(8,aB i)],rows,clk⟩∧0<=s∧s<=655360000∧(a.length<=i->s=c) ∧
   V 10000 z+10000^i*s=V 10000 (a.take (i+1))*m+c0) ?_ ?_
  ·
   apply aQ [0,1,2,7,8,26]
   refine W.cond ⟨_,rfl,fun h=>?_,fun h=>?_⟩
   ·simp at h
    have hn:=la.nth h
    have h2:0<=nth a i*m:=Int.mul_nonneg hn.1 WI
    have h3:nth a i*m<=9999*65536:=Int.mul_le_mul aA MG WI aA
    refine W.bY (fun K hK=>?_);simp (disch:=omega) [gw]
    refine hK _ ⟨_,aD _ [0,1,2,7,8],_,rfl,aA,aA,aA,?_⟩
    rw [bG h,Int.mul_add,Int.add_mul]
    grind
   ·simp at h
    apply W.skip
    refine⟨_,aD _ [0,1,2,7,8],_,rfl,aA,aA,fun _=>rfl,?_⟩
    rw [bM aA]
    rw [bM aA]at hV
    exact hV
  rintro _ ⟨s,rfl,hs0,sX,hsc,hsV⟩
  apply qY hr hz [0,1,2,7,8]
  refine W.bY (fun K hK=>?_);simp (disch:=omega) [gw];refine W.lw [0,1,2,7,8] hK ?_;clear hK K;simp
  refine W.bY (fun K hK=>?_);simp (disch:=omega) [gw]
  refine hK _ ⟨(a.length-(i+1))*1000000+(s/10000).toNat,_,aD _ [0,1,2,7,8],aA,i+1,s/10000,z ++ [s%10000],_,_,_,rfl,aG,rfl,by simp [hz],aA,dH.append.2 ⟨lz,dH.cons.2 ⟨aA,dH.nil⟩⟩,aA,aA,?_⟩
  rw [eZ,rJ,hz,<-hsV,Int.pow_succ]
  have:=Int.emod_add_mul_ediv s 10000
  grind
 ·have hb:¬(i<a.length∨0<c):=fun h2=>by simp [hb.2 h2]at h
  have hc:c=0:=aA
  subst hc
  apply (gK)
  have ez:z.take i=z:=bW hz
  apply W.sr
  simp (disch:=omega) [gw,hr,hz,ez]
  refine bC (sY z aA) ?_
  apply bT [6]
  apply W.ret
  rw [bM aA]at hV
  have e:V 10000 z=V 10000 a*m+c0:=by simpa using hV
  rw [<-e,<-zH lz]
  simp
abbrev Z(x:Int):Prop:=sz 2 x<1099511627776
theorem abm{b:Nat}(hb:2<=b)(x:Int):sz b x<=sz 2 x:=by
 refine dZ hb (Nat.lt_of_lt_of_le (kB (b:=2) aF x) ?_)
 exact Nat.pow_le_pow_left hb _
theorem ash(y:Int):(aV DD y.natAbs).length<=sz 2 y:=abm WK y
theorem nI(h:0<=y):(aV DD y.toNat).length<=sz 2 y:=by
 have:=ash y
 rwa [show y.natAbs=y.toNat by omega]at this
theorem BI(h:0<=y):V 10000 (aV DD y.toNat)=y:=by
 have:=nD WK y.toNat
 simp only [show((DD:Nat):Int)=10000 from rfl]at this
 rw [this];omega
theorem ayr(y:Int):V 10000 (aV DD y.natAbs)=y.natAbs:=by
 have:=nD WK y.natAbs
 simpa only [show((DD:Nat):Int)=10000 from rfl]using this
theorem pB(n:Nat):dH 10000 (aV DD n):=gZ WK n
theorem ahp(h:dH 4294967296 l):sz 2 (V 4294967296 l)<=32*l.length:=by
 refine dZ aF ?_
 have h1:=sU (b:=(4294967296:Int)) aF h
 have h2:=bV (b:=(4294967296:Int)) aF h
 have h3:((4294967296:Int)^l.length)=((2^(32*l.length):Nat):Int):=by rw [Nat.pow_mul];simp
 rw [h3]at h1
 omega
theorem oU(y m c:Int)(hy:0<=y)(hz:Z y)(WI:0<=m)(MG:m<=65536)(zF:0<=c)(AE:c<=65536):aC 210 [Dn y,aB m,aB c] (Dn (y*m+c)):=by
 have:=YO (aV DD y.toNat) m c (by have:=nI hy;omega) (pB _) WI MG zF AE
 rwa [BI hy]at this
theorem adC(l:List Int)(hl:l.length<=17179869184)(hm:dH 4294967296 l):aC 231 [us l] (Dn (V 4294967296 l)):=by
 apply cG [(0,us l)] Tryz.func231
 apply fK [0] [0,3]
 refine W.TF 3 (Dn 0) aG rfl fun K hK=>?_
 refine W.lw [0,3] hK ?_;clear hK K;simp
 apply eE [0,3,4]
 refine W.bB (fun k σ=>bF σ [(0,us l),(3,Dn (V 4294967296 (l.drop k))),(4,aB ((k:Int)-1))] fun rows clk=>k<=l.length) l.length ?_ ?_
 ·exact⟨_,Gh.fr [(0,us l),(3,Dn (V 4294967296 (l.drop l.length))),(4,aB ((l.length:Int)-1))] (by simp [V]),_,_,rfl,aA⟩
 rintro k _ ⟨rows,clk,rfl,hk⟩
 have h0:=bV (b:=4294967296) aF (hm.drop k)
 have hs:sz 2 (V 4294967296 (l.drop k))<=32*(l.length-k):=by have:=ahp (hm.drop k);simpa using this
 apply cQ [0,3,4,9]
 refine W.cond ⟨_,rfl,fun h=>?_,fun h=>?_⟩
 ·simp at h
  have hx:=hm.nth (i:=k-1) aA
  have hd:V 4294967296 (l.drop (k-1))=nth l (k-1)+4294967296*V 4294967296 (l.drop k):=by
   rw [gW (i:=k-1) aA,show k-1+1=k by omega];rfl
  apply (iE)
  apply W.sr
  have hk1:((k:Int)-1).toNat=k-1:=aA
  apply eV hk1
  refine bC (oU _ 65536 _ h0 aA aF aF aA aA) ?_
  apply bT [0,3,4]
  have h1:0<=V 4294967296 (l.drop k)*65536+nth l (k-1)/65536:=aA
  have h2:sz 2 (V 4294967296 (l.drop k)*65536+nth l (k-1)/65536)<=32*l.length:=by
   have h3:=ahp (hm.drop (k-1))
   refine Nat.le_trans (dN aF (y:=V 4294967296 (l.drop (k-1))) aA) ?_
   simp at h3;omega
  refine W.bY fun K hK=>?_
  apply eV hk1
  refine bC (oU _ 65536 _ h1 aA aF aF aA aA) ?_
  apply (cV)
  refine W.lw [0,3,4] hK ?_;clear hK K;simp
  refine W.bY (fun K hK=>?_);simp (disch:=omega) [gw]
  refine hK _ ⟨k-1,_,Gh.fr [(0,us l),(3,Dn (V 4294967296 (l.drop (k-1)))),(4,aB (((k-1:Nat):Int)-1))] ?_,aA,_,_,rfl,aA⟩
  have e:(V 4294967296 (l.drop k)*65536+nth l (k-1)/65536)*65536+nth l (k-1)%65536=V 4294967296 (l.drop (k-1)):=aA
  simp [e];omega
 ·simp at h
  have CP:k=0:=aA
  subst CP
  apply xY [2]
  apply W.ret
  simp
abbrev RI(x:Int):PV:=.ag [aJ aI (aV DD x.natAbs), .bool (decide (x<0))]
theorem sZ(y:Int)(hy:0<=y)(neg:Bool):aC 68 [Dn y, .bool neg] (RI (if neg=true then -y else y)):=by
 apply cG [(0,Dn y),(1, .bool neg)] Tryz.func68
 apply aQ [0,1,4]
 have e0:(aV DD y.toNat = [])↔y=0:=by rw [gC WK];omega
 have e:RI (if neg=true then -y else y) = .ag [Dn y, .bool (neg&&decide (0<(aV DD y.toNat).length))]:=by
  have h1:0<(aV DD y.toNat).length↔y≠0:=by
   rw [List.length_pos_iff];simp [e0]
  have e2:(if neg=true then -y else y).natAbs=y.toNat:=by split<;>omega
  have e3:(decide ((if neg=true then -y else y)<0))=(neg&&decide (0<(aV DD y.toNat).length)):=by
   cases neg
   ·simp only [Bool.false_and,Bool.false_eq_true,if_false,decide_eq_false_iff_not];omega
   ·simp only [Bool.true_and,if_true,h1];congr 1;apply propext;omega
  rw [RI,e2,e3]
 rw [e]
 refine W.fF fun K hK=>?_
 cases neg
 ·apply (cV)
  refine W.lw [4] hK ?_;clear hK K;simp
  exact j8
 ·apply (cV)
  refine W.lw [4] hK ?_;clear hK K;simp
  exact j8
theorem MI(n:Bool)(l:List Int)(hl:l.length<=17179869184)(hm:dH 4294967296 l):aC 156 [IV n l] (RI (iv n l)):=by
 apply cG [(0,IV n l)] Tryz.func156
 apply kR [1,2]
 apply o9 (adC l hl hm)
 refine bC (sZ _ (bV aF hm) n) ?_
 apply bT [2]
 apply W.ret
 simp [go,iv]
theorem ahq(n:Nat)(hn:n<1099511627776):aC 128 [aB n] (Dn (2^n)):=by
 apply cG [(0,aB n)] Tryz.func128
 apply fK [0] [0,3]
 refine W.aDd 3 [[aB 1]] (Dn 1) aG rfl fun K hK=>?_
 refine W.lw [0,3] hK ?_;clear hK K;simp
 apply eE [0,3,4]
 refine W.bB (fun k σ=>∃(i:Nat),bF σ [(0,aB n),(3,Dn (2^i)),(4,aB i)] fun rows clk=>k=n-i∧i<=n) n ?_ ?_
 ·exact⟨_, .refl,0,_,_,rfl,aA,aA⟩
 rintro k _ ⟨i,rows,clk,rfl,hk,hi⟩
 apply cQ [0,3,4,8]
 refine W.cond ⟨_,rfl,fun h=>?_,fun h=>?_⟩
 ·simp at h
  have hs:sz 2 (2^i)<=i+1:=by
   refine dZ aF ?_
   rw [show((2:Int)^i)=((2^i:Nat):Int)by simp,Int.natAbs_natCast,Nat.pow_succ]
   have:=Nat.pow_pos (n:=i) (show 0<2 by decide)
   omega
  apply (iE)
  refine W.bY fun K hK=>?_
  apply (cV)
  refine bC (oU (2^i) 2 0 (Int.le_of_lt (Int.pow_pos aF)) aA aF aF aF aF) ?_
  apply (cV)
  refine W.lw [0,3,4] hK ?_;clear hK K;simp
  refine W.bY (fun K hK=>?_);simp (disch:=omega) [gw]
  refine hK _ ⟨n-(i+1),_,Gh.fr [(0,aB n),(3,Dn (2^(i+1))),(4,aB ((i+1:Nat):Int))] ?_,aA,i+1,_,_,rfl,rfl,aA⟩
  simp [Int.pow_succ]
 ·simp at h
  have:i=n:=aA
  subst this
  apply xY [2]
  apply W.ret
  simp
theorem rN(n:Int)(h1 : -9223372036854775808<=n)(h2:n<9223372036854775808):aC 61 [aB n] (RI n):=by
 apply cG [(0,aB n)] Tryz.func61
 apply aQ [0,2]
 apply cQ [0,2,6]
 refine W.cond ⟨_,rfl,fun h=>?_,fun h=>?_⟩
 ·simp at h
  subst h
  apply (tI)
  refine bC (ahq 63 aF) ?_
  apply (cV)
  have hp:=sZ 9223372036854775808 aF true
  simp at hp
  apply jW hp
  exact pJ [2]
 ·simp at h
  apply W.skip
  apply aQ [0,2,3]
  refine W.iS (fun σ=>bF σ [(0,aB n.natAbs),(2, .ptr 2 0 0 0),(3, .bool (decide (n<0)))] fun rows clk=>rows 2=some ⟨0,29,2,[[.nil, .bool false]]⟩) ?_ ?_
  ·
   apply aQ [0,2,3,11]
   refine W.cond ⟨_,rfl,fun h=>?_,fun h=>?_⟩
   ·simp at h
    refine W.bY (fun K hK=>?_);simp (disch:=omega) [gw]
    refine hK _ ⟨_,Gh.fr [(0,aB n.natAbs),(2, .ptr 2 0 0 0),(3, .bool (decide (n<0)))] (by simp;omega),_,_,rfl,aG⟩
   ·simp at h
    apply W.skip
    refine⟨_,Gh.fr [(0,aB n.natAbs),(2, .ptr 2 0 0 0),(3, .bool (decide (n<0)))] (by simp;omega),_,_,rfl,aG⟩
  rintro _ ⟨rows,clk,rfl,bS⟩
  apply aQ [0,2,3,4]
  refine W.nil 4 4 3 1 aG aF fun K hK=>?_
  refine W.lw [0,2,3,4] hK ?_;clear hK K;simp
  apply (nC)
  refine W.bB (fun k σ=>∃(z:List Int) (i ver:Nat),bF σ [(0,aB k),(2, .ptr 2 0 0 0),(3, .bool (decide (n<0))),(4, .own 4 ver 0 i)] fun rows clk=>rows 2=some ⟨0,29,2,[[.nil, .bool false]]⟩ ∧
   rows 4=some ⟨ver,3,1,emap aI z⟩∧z.length=i∧k*2^i<=9223372036854775808∧dH 10000 z∧V 10000 z+10000^i*k=n.natAbs∧aV DD n.natAbs=z++aV DD k) n.natAbs ?_ ?_
  ·exact⟨_, .refl,[],0,_,_,_,rfl,by simp [bS],by simp [emap],rfl,by simp;omega,dH.nil,by simp [V],aG⟩
  rintro k _ ⟨z,i,ver,rows,clk,rfl,bS,hr,hz,tM,lz,hV,hd⟩
  apply cQ [0,2,3,4,15]
  refine W.cond ⟨_,rfl,fun h=>?_,fun h=>?_⟩
  ·simp at h
   have aIZ:i<=63:=by
    have h3:1*2^i<=k*2^i:=Nat.mul_le_mul_right _ aA
    have h4:2^i<=2^63:=aA
    exact(Nat.pow_le_pow_iff_right aF).1 h4
   have aI0:k<=9223372036854775808:=Nat.le_trans (by have:=Nat.mul_le_mul_left k (Nat.pow_pos (n:=i) (show 0<2 by decide));omega) tM
   apply (uV)
   apply qY hr hz [0,2,3,4]
   refine W.bY (fun K hK=>?_);simp (disch:=omega) [gw]
   refine hK _ ⟨k/10000,_,Gh.fr [(0,aB ((k/10000:Nat):Int)),(2, .ptr 2 0 0 0),(3, .bool (decide (n<0))),(4, .own 4 _ 0 (i+1))] (by simp;rfl),aA,z ++ [((k%10000:Nat):Int)],i+1,_,_,_,rfl,by simp [bS],aG,by simp [hz],?_,dH.append.2 ⟨lz,dH.cons.2 ⟨aA,dH.nil⟩⟩,?_,?_⟩
   ·rw [Nat.pow_succ]
    have h3:k/10000*(2^i*2)=k/10000*2*2^i:=by rw [Nat.mul_comm (2^i),Nat.mul_assoc]
    rw [h3]
    exact Nat.le_trans (Nat.mul_le_mul_right _ aA) tM
   ·rw [eZ,rJ,hz,<-hV,Int.pow_succ]
    have:(k:Int)=(k%10000:Nat)+10000*(k/10000:Nat):=aA
    grind
   ·rw [hd,vP WK aA];simp
  ·simp at h
   have CP:k=0:=aA
   subst CP
   have e:z=aV DD n.natAbs:=by rw [hd];simp [oS]
   apply (jV)
   have ez:z.take i=aV DD n.natAbs:=by rw [bW hz,e]
   simp (disch:=omega) [gw,hr,hz,ez]
   refine bC (sZ n.natAbs aA (decide (n<0))) ?_
   apply sS bS [2]
   apply W.ret
   have e2:(if n<0 then -(n.natAbs:Int)else n.natAbs)=n:=by split<;>omega
   rw [e2]
   simp [go]
theorem wB:∀ {l:List Int},l.length<=(aZ l).length->aZ l=l
 | [],_=>rfl
 | x::l,h=>by
  rw [aZ]at h |-
  split
  ·rename_i h1
   rw [if_pos h1]at h;simp at h
  ·rename_i h1
   rw [if_neg h1]at h
   rw [wB (by simpa using h)]
theorem TW(hb:1<=b)(hl:dH b l)(h:l ≠ []->b^(l.length-1)<=V b l):aZ l=l:=by
 apply wB
 rcases Nat.lt_or_ge (aZ l).length l.length with h1 | h1
 ·exfalso
  have h2:=h (by intro h0;subst h0;simp at h1)
  have h3:=sU aA (fR hl)
  rw [dU]at h3
  obtain⟨m,hm⟩:∃m,l.length-1=(aZ l).length+m:=⟨l.length-1-(aZ l).length,aA⟩
  rw [hm,Int.pow_add]at h2
  have h4:1<=b^m:=Int.pow_pos aA
  have h5:=Int.mul_le_mul_of_nonneg_left h4 (show 0<=b^(aZ l).length from Int.le_of_lt (Int.pow_pos aA))
  omega
 ·exact h1
@[simp] theorem alO:emap u32 l ++ [[.int .u32 x]]=emap u32 (l ++ [x]):=by simp [emap]
theorem MJ(x:Int):aC 125 [RI x] (.bool (decide (x=0))):=by
 apply cG [(0,RI x)] Tryz.func125
 apply fK [1] [2]
 apply W.ret
 simp [go]
 have e:((aV DD x.natAbs).length=0)↔x=0:=by rw [List.length_eq_zero_iff,gC WK];omega
 rw [Bool.eq_iff_iff,decide_eq_true_iff,beq_iff_eq,<-e]
 omega
theorem abn:(aV DD x.natAbs).length=0↔x=0:=by rw [List.length_eq_zero_iff,gC WK];omega
theorem ML(x:Int):aC 129 [RI x] (aB x.sign):=by
 apply cG [(0,RI x)] Tryz.func129
 apply aQ [1]
 apply (nC)
 apply aQ [1,3]
 refine W.cond ⟨_,rfl,fun h=>?_,fun h=>?_⟩
 ·have h0:x=0:=by rw [<-abn];simp at h;simp [h]
  subst h0
  exact eY [2]
 ·have h0:x≠0:=by rw [Ne,<-abn];simp at h;simpa using h
  apply aQ [8]
  refine W.cond ⟨_,rfl,fun h=>?_,fun h=>?_⟩
  ·simp at h
   apply aQ [2]
   apply W.ret
   simp [go,Int.sign_eq_neg_one_of_neg h]
  ·simp at h
   apply W.skip
   apply aQ [2]
   apply W.ret
   simp [go,Int.sign_eq_one_of_pos (show 0<x by omega)]
theorem wC(x:Int):aC 17 [RI x] (RI (-x)):=by
 apply cG [(0,RI x)] Tryz.func17
 apply aQ [1,2]
 apply (tI)
 refine bC (sZ x.natAbs aA (!decide (x<0))) ?_
 apply bT [2]
 apply W.ret
 have e:(if 0<=x then -(x.natAbs:Int)else x.natAbs) = -x:=by split<;>omega
 simp only [e]
 simp [go]
theorem adD(a:List Int)(d:Int)(ha:a.length<1099511627776)(la:dH 10000 a)(hd0:0<d)(PA:d<=65536):aC 136 [aJ aI a,aB d] (.dK [Dn (V 10000 a/d),aB (V 10000 a%d)]):=by
 apply cG [(0,aJ aI a),(1,aB d)] Tryz.func136
 apply aQ [0,1]
 apply fK [0,1,6] [0,1,6,7]
 apply eE [0,1,6,7,8]
 refine W.bB (fun k σ=>∃(r:Int) (z:List Int) (ver:Nat),bF σ [(0,aJ aI a),(1,aB d),(6, .own 12 ver 0 a.length),(7,aB r),(8,aB ((k:Int)-1))] fun rows clk =>
  rows 12=some ⟨ver,3,1,emap aI z⟩∧k<=a.length∧z.length=a.length∧dH 10000 z∧0<=r∧r<d∧V 10000 (a.drop k)=d*V 10000 (z.drop k)+r) a.length ?_ ?_
 ·exact⟨_, .refl,0,List.replicate a.length 0,_,_,_,rfl,aG,aA,aG,dH.rep aF _,aA,hd0,by simp [V]⟩
 rintro k _ ⟨r,z,ver,rows,clk,rfl,hr,hk,hz,lz,qW,yI,hV⟩
 apply cQ [0,1,6,7,8,17]
 refine W.cond ⟨_,rfl,fun h=>?_,fun h=>?_⟩
 ·simp at h
  obtain⟨j,rfl⟩:∃j,k=j+1:=⟨k-1,aA⟩
  clear h
  have hx:=la.nth (i:=j) aA
  have hs0:0<=r*10000+nth a j:=aA
  have sX:r*10000+nth a j<d*10000:=aA
  have WL:0<=(r*10000+nth a j)/d:=Int.ediv_nonneg hs0 aA
  have hq1:(r*10000+nth a j)/d<10000:=Int.ediv_lt_of_lt_mul hd0 aA
  have WI:=Int.emod_nonneg (r*10000+nth a j) (show d≠0 by omega)
  have MG:=Int.emod_lt_of_pos (r*10000+nth a j) hd0
  have hdz:d≠0:=aA
  apply oR [0,1,6,8,9]
  apply qY hr hdz [0,1,6,8,9]
  refine W.bY (fun K hK=>?_);simp (disch:=omega) [gw,hdz]
  refine W.lw [0,1,6,7,8] hK ?_;clear hK K;simp
  refine W.bY (fun K hK=>?_);simp (disch:=omega) [gw]
  refine hK _ ⟨j,_,aD _ [0,1,6,7,8],aA,_,z.set j ((r*10000+nth a j)/d),ver,_,_,rfl,aG,aA,by simpa using hz,lz.set ⟨WL,hq1⟩,WI,MG,?_⟩
  rw [gW (l:=a) (i:=j) aA,gW (l:=z.set j _) (i:=j) (by simp;omega),gP aA,List.drop_set_of_lt aA]
  simp only [V]
  rw [hV]
  have:=Int.emod_add_mul_ediv (r*10000+nth a j) d
  grind
 ·simp at h
  have CP:k=0:=aA
  subst CP
  simp only [List.drop_zero]at hV
  have ez:z.take a.length=z:=bW hz
  have hzn:=bV aF lz
  have e1:V 10000 a/d=V 10000 z:=by
   rw [hV,Int.mul_add_ediv_left _ _ aA,Int.ediv_eq_zero_of_lt qW yI];simp
  have e2:V 10000 a%d=r:=by
   rw [hV,Int.mul_add_emod_self_left,Int.emod_eq_of_lt qW yI]
  apply (jV)
  simp (disch:=omega) [gw,hr,ez]
  refine bC (sY z aA) ?_
  apply bT [4,5]
  apply W.ret
  rw [e1,e2,<-zH lz]
  simp [go]
theorem H8(y d:Int)(hy:0<=y)(hz:Z y)(hd0:0<d)(PA:d<=65536):aC 136 [Dn y,aB d] (.dK [Dn (y/d),aB (y%d)]):=by
 have:=adD (aV DD y.toNat) d (by have:=nI hy;omega) (pB _) hd0 PA
 rwa [BI hy]at this
theorem alP(n:Nat)(hz:Z (n:Int)):aC 67 [aJ aI (aV DD n)] (us (aV LL n)):=by
 have hln:(aV LL n).length<=sz 2 (n:Int):=abm iT n
 apply cG [(0,aJ aI (aV DD n))] Tryz.func67
 apply fK [0] [0,3]
 refine W.nil 3 3 185 1 aG aF fun K hK=>?_
 refine W.lw [0,3] hK ?_;clear hK K;simp
 apply (nC)
 refine W.bB (fun k σ=>∃(i:Nat) (z:List Int) (ver:Nat),bF σ [(0,aJ aI (aV DD k)),(3, .own 3 ver 0 i)] fun rows clk=>rows 3=some ⟨ver,185,1,emap u32 z⟩∧z.length=i∧k<=n∧aV LL n=z++aV LL k) n ?_ ?_
 ·exact⟨_, .refl,0,[],_,_,_,rfl,by simp [emap],rfl,aA,aG⟩
 rintro k _ ⟨i,z,ver,rows,clk,rfl,hr,N7,hk,hd⟩
 have hzk:Z (k:Int):=Nat.lt_of_le_of_lt (dN aF (y:=(n:Int)) aA) hz
 have zI:i<=(aV LL n).length:=by rw [hd];simp [N7]
 have e0:(aV DD k).length=0↔k=0:=by rw [List.length_eq_zero_iff,gC WK]
 apply cQ [0,3,9]
 refine W.cond ⟨_,rfl,fun h=>?_,fun h=>?_⟩
 ·have CP:k≠0:=by rw [Ne,<-e0];simp at h;omega
  have xF:Z ((k:Int)/65536):=Nat.lt_of_le_of_lt (dN aF (y:=(k:Int)) aA) hzk
  apply (uV)
  apply (tI)
  refine bC (H8 (k:Int) 65536 aA hzk aF aF) ?_
  apply bT [3,4,5]
  apply (tI)
  refine bC (H8 ((k:Int)/65536) 65536 aA xF aF aF) ?_
  apply bT [3,4,5,6]
  apply W.sr
  simp (disch:=omega) [gw,hr,N7,wrap_u32']
  have e1:(k:Int)/65536%65536*65536+k%65536=((k%LL:Nat):Int):=by simp;omega
  have e3:k/LL<k:=Nat.div_lt_self aA aF
  obtain⟨dg,e2⟩:∃dg:Int,dg=((k%LL:Nat):Int):=⟨_,rfl⟩
  rw [<-e2]at e1
  simp only [e1,alO]
  apply cO [3,4]
  refine W.bY (fun K hK=>?_);simp (disch:=omega) [gw]
  refine hK _ ⟨k/LL,_,Gh.fr [(0,aJ aI (aV DD (k/LL))),(3, .own 3 _ 0 (i+1))] ?_,e3,i+1,z ++ [dg],_,_,_,rfl,by simp;rfl,by simp [N7],aA,?_⟩
  ·have e2:((k:Int)/65536/65536).toNat=k/LL:=by show _=k/4294967296;omega
   simp only [Dn,e2]
   simp
  ·rw [hd,vP iT CP,e2];simp
 ·have CP:k=0:=by rw [<-e0];simp at h;simp [h]
  subst CP
  apply xY [2]
  apply W.ret
  simp [oS]at hd
  have ez:z.take i=z:=bW N7
  simp [go,hr,ez,hd]
theorem PC(x:Int)(hz:Z x):aC 16 [RI x] (I x):=by
 apply cG [(0,RI x)] Tryz.func16
 apply kR [1,2]
 apply (cV)
 refine bC (alP x.natAbs (by simpa [Z,sz]using hz)) ?_
 exact gI [2]
theorem adE(x y:List Int)(hx:x.length<1099511627776)(hy:y.length<1099511627776)(lx:dH 10000 x)(ly:dH 10000 y)(cx:aZ x=x)(cy:aZ y=y):aC 228 [aJ aI x,aJ aI y] (aB (eA (V 10000 x) (V 10000 y))):=by
 apply cG [(0,aJ aI x),(1,aJ aI y)] Tryz.func228
 apply aQ [0,1]
 apply cQ [0,1,10]
 refine W.cond ⟨_,rfl,fun h=>?_,fun h=>?_⟩
 ·simp at h
  apply cQ [15]
  refine W.cond ⟨_,rfl,fun h=>?_,fun h=>?_⟩
  ·simp at h
   apply aQ [4]
   apply W.ret
   simp [pL (mJ aF lx ly cy h)]
  ·simp at h
   apply W.skip
   apply aQ [4]
   apply W.ret
   simp [pM (mJ aF ly lx cx aA)]
 ·simp at h
  have hlen:x.length=y.length:=aA
  clear h
  apply W.skip
  apply eE [0,1,5]
  refine W.bB (fun k σ=>bF σ [(0,aJ aI x),(1,aJ aI y),(5,aB ((k:Int)-1))] fun rows clk=>k<=x.length∧x.drop k=y.drop k) x.length ?_ ?_
  ·exact⟨_, .refl,_,_,rfl,aA,by rw [List.drop_of_length_le aA,List.drop_of_length_le aA]⟩
  rintro k _ ⟨rows,clk,rfl,hk,hd⟩
  apply cQ [0,1,5,20]
  refine W.cond ⟨_,rfl,fun h=>?_,fun h=>?_⟩
  ·have h0:0<k:=by simp at h;omega
   obtain⟨j,rfl⟩:∃j,k=j+1:=⟨k-1,aA⟩
   clear h
   apply (iE)
   apply W.sd
   apply bT [0,1,5,31]
   refine W.cond ⟨_,rfl,fun h=>?_,fun h=>?_⟩
   ·simp at h
    apply W.seq
    apply W.sd
    apply bT [40]
    refine W.cond ⟨_,rfl,fun h2=>?_,fun h2=>?_⟩
    ·simp at h2
     apply aQ [4]
     apply W.ret
     simp [pL (rK aF lx ly hlen aA hd h2)]
    ·simp at h2
     apply W.skip
     apply aQ [4]
     apply W.ret
     simp [pM (rK aF ly lx hlen.symm aA hd.symm aA)]
   ·simp at h
    apply W.skip
    refine W.bY (fun K hK=>?_);simp (disch:=omega) [gw]
    refine hK _ ⟨j,_,aD _ [0,1,5],aA,_,_,rfl,aA,?_⟩
    rw [gW (l:=x) (i:=j) aA,gW (l:=y) (i:=j) aA,hd,h]
  ·have h0:k=0:=by simp at h;omega
   subst h0
   simp at hd
   subst hd
   apply xY [4]
   apply W.ret
   simp [FW]
theorem TX(x y:Int)(hx:0<=x)(hy:0<=y)(zx:Z x)(zy:Z y):aC 228 [Dn x,Dn y] (aB (eA x y)):=by
 have:=adE (aV DD x.toNat) (aV DD y.toNat) (by have:=nI hx;omega) (by have:=nI hy;omega) (pB _) (pB _) (mI WK _) (mI WK _)
 rwa [BI hx,BI hy]at this
theorem adF(a b:List Int)(ha:a.length<1099511627776)(hb:b.length<1099511627776)(la:dH 10000 a)(lb:dH 10000 b)(ca:aZ a=a)(cb:aZ b=b):aC 227 [aJ aI a,aJ aI b] (Dn (V 10000 a+V 10000 b)):=by
 apply cG [(0,aJ aI a),(1,aJ aI b)] Tryz.func227
 apply fK [0,1] [0,1,5]
 refine W.nil 5 5 3 1 aG aF fun K hK=>?_
 refine W.lw [0,1,5] hK ?_;clear hK K;simp
 apply aQ [0,1,5,6]
 apply eE [0,1,5,6,7]
 obtain⟨M,hM⟩:∃M,M=max a.length b.length:=⟨_,rfl⟩
 refine W.bB (fun k σ=>∃(i:Nat) (c:Int) (z:List Int) (ver:Nat),bF σ [(0,aJ aI a),(1,aJ aI b),(5, .own 5 ver 0 i),(6,aB c),(7,aB i)] fun rows clk =>
  rows 5=some ⟨ver,3,1,emap aI z⟩∧k=2*(M-i)+c.toNat∧z.length=i∧(i<=M∨(i=M+1∧c=0∧10000^M<=V 10000 a+V 10000 b))∧dH 10000 z∧0<=c∧c<=1 ∧
  V 10000 z+10000^i*c=V 10000 (a.take i)+V 10000 (b.take i)) (2*M) ?_ ?_
 ·exact⟨_, .refl,0,0,[],_,_,_,rfl,by simp [emap],aG,rfl,aA,dH.nil,aA,aA,by simp [V]⟩
 rintro k _ ⟨i,c,z,ver,rows,clk,rfl,hr,hk,hz,hi,lz,zF,AE,hV⟩
 apply W.seq
 refine W.fI (fun σ=>∃(t:Bool),σ=⟨fa [(0,aJ aI a),(1,aJ aI b),(5, .own 5 ver 0 i),(6,aB c),(7,aB i),(21, .bool t)],rows,clk⟩∧(t=true↔i<M∨0<c)) (fun K hK=>?_) ?_
 ·simp
  by_cases h1:i<a.length
  ·apply eV h1
   exact hK _ _ (aD _ [0,1,5,6,7,21]) ⟨_,rfl,by simp;omega⟩
  ·by_cases h2:i<b.length
   ·apply j1 h1 h2
    exact hK _ _ (aD _ [0,1,5,6,7,21]) ⟨_,rfl,by simp;omega⟩
   ·apply j1 h1 h2
    exact hK _ _ (aD _ [0,1,5,6,7,21]) ⟨_,rfl,by simp;omega⟩
 rintro _ ⟨t,rfl,ht⟩
 refine W.cond ⟨_,rfl,fun h=>?_,fun h=>?_⟩
 ·have ht:=ht.1 h
  apply (iE)
  refine W.iS (fun σ=>∃(s:Int),σ=⟨fa [(0,aJ aI a),(1,aJ aI b),(5, .own 5 ver 0 i),(6,aB s),(7,aB i)],rows,clk⟩∧0<=s∧s<=c+9999∧(a.length<=i->s=c) ∧
   V 10000 z+10000^i*s=V 10000 (a.take (i+1))+V 10000 (b.take i)) ?_ ?_
  ·
   apply aQ [0,1,5,6,7,27]
   refine W.cond ⟨_,rfl,fun h=>?_,fun h=>?_⟩
   ·simp at h
    have hx:=la.nth h
    refine W.bY (fun K hK=>?_);simp (disch:=omega) [gw]
    refine hK _ ⟨_,aD _ [0,1,5,6,7],_,rfl,aA,aA,aA,?_⟩
    rw [bG h];grind
   ·simp at h
    apply W.skip
    refine⟨_,aD _ [0,1,5,6,7],_,rfl,aA,aA,fun _=>rfl,?_⟩
    rw [bM (l:=a) aA]
    rwa [bM (l:=a) aA]at hV
  rintro _ ⟨s,rfl,hs0,sX,hsc,hsV⟩
  refine W.iS (fun σ=>∃(u:Int),σ=⟨fa [(0,aJ aI a),(1,aJ aI b),(5, .own 5 ver 0 i),(6,aB u),(7,aB i)],rows,clk⟩∧0<=u∧u<=s+9999∧(b.length<=i->u=s) ∧
   V 10000 z+10000^i*u=V 10000 (a.take (i+1))+V 10000 (b.take (i+1))) ?_ ?_
  ·
   apply aQ [0,1,5,6,7,37]
   refine W.cond ⟨_,rfl,fun h=>?_,fun h=>?_⟩
   ·simp at h
    have hx:=lb.nth h
    refine W.bY (fun K hK=>?_);simp (disch:=omega) [gw]
    refine hK _ ⟨_,aD _ [0,1,5,6,7],_,rfl,aA,aA,aA,?_⟩
    rw [bG h];grind
   ·simp at h
    apply W.skip
    refine⟨_,aD _ [0,1,5,6,7],_,rfl,aA,aA,fun _=>rfl,?_⟩
    rw [bM (l:=b) aA]
    rwa [bM (l:=b) aA]at hsV
  rintro _ ⟨u,rfl,hu0,hu1,huc,huV⟩
  apply qY hr hz [0,1,5,6,7]
  refine W.bY (fun K hK=>?_);simp (disch:=omega) [gw];refine W.lw [0,1,5,6,7] hK ?_;clear hK K;simp
  refine W.bY (fun K hK=>?_);simp (disch:=omega) [gw]
  refine hK _ ⟨2*(M-(i+1))+(u/10000).toNat,_,aD _ [0,1,5,6,7],?_,i+1,u/10000,z ++ [u%10000],_,_,_,rfl,aG,rfl,by simp [hz],?_,dH.append.2 ⟨lz,dH.cons.2 ⟨aA,dH.nil⟩⟩,aA,aA,?_⟩
  ·rcases Nat.lt_or_ge i M with h1 | h1
   ·omega
   ·have:=hsc aA;have:=huc aA;omega
  ·rcases Nat.lt_or_ge i M with h1 | h1
   ·omega
   ·right
    have hc:c=1:=aA
    have hzn:=bV aF lz
    rw [bM (l:=a) aA,bM (l:=b) aA,hc]at hV
    have hiM:i=M:=aA
    rw [<-hiM]
    refine⟨rfl,by have:=hsc aA;have:=huc aA;omega,?_⟩
    rw [<-hV]
    omega
  ·rw [eZ,rJ,hz,<-huV,Int.pow_succ]
   have:=Int.emod_add_mul_ediv u 10000
   grind
 ·have ht:¬(i<M∨0<c):=fun h2=>by simp [ht.2 h2]at h
  have hc:c=0:=aA
  subst hc
  apply xY [4]
  apply W.ret
  rw [bM (l:=a) aA,bM (l:=b) aA]at hV
  have e:V 10000 a+V 10000 b=V 10000 z:=by rw [<-hV];simp
  have cz:aZ z=z:=by
   refine TW aF lz fun h0=>?_
   rw [hz,<-e]
   rcases hi with h1 | ⟨h1,_,h2⟩
   ·have hna:=bV aF la
    have hnb:=bV aF lb
    have zI:0<i:=by rw [<-hz];exact List.length_pos_iff.2 h0
    rcases Nat.le_total b.length a.length with h3 | h3
    ·have:=n9 (b:=10000) aF la ca (by intro h5;rw [h5]at h3 hM;simp at h3;simp [h3]at hM;omega)
     rw [show i-1=a.length-1 by omega];omega
    ·have:=n9 (b:=10000) aF lb cb (by intro h5;rw [h5]at h3 hM;simp at h3;simp [h3]at hM;omega)
     rw [show i-1=b.length-1 by omega];omega
   ·rw [h1];exact h2
  have ez:z.take i=z:=bW hz
  rw [e,<-zH lz,cz]
  simp [go,hr,ez]
theorem ahu(x y:Int)(hx:0<=x)(hy:0<=y)(zx:Z x)(zy:Z y):aC 227 [Dn x,Dn y] (Dn (x+y)):=by
 have:=adF (aV DD x.toNat) (aV DD y.toNat) (by have:=nI hx;omega) (by have:=nI hy;omega) (pB _) (pB _) (mI WK _) (mI WK _)
 rwa [BI hx,BI hy]at this
theorem adG(a b:List Int)(ha:a.length<1099511627776)(hb:b.length<=a.length)(la:dH 10000 a)(lb:dH 10000 b)(hle:V 10000 b<=V 10000 a):aC 229 [aJ aI a,aJ aI b] (Dn (V 10000 a-V 10000 b)):=by
 apply cG [(0,aJ aI a),(1,aJ aI b)] Tryz.func229
 apply aQ [0,1]
 apply fK [0,1,5] [0,1,5,6]
 apply eE [0,1,5,6,13,14]
 refine W.bB (fun k σ=>∃(i:Nat) (c:Int) (z:List Int) (ver:Nat),bF σ [(0,aJ aI a),(1,aJ aI b),(5, .own 11 ver 0 a.length),(6,aB c),(13,aB a.length),(14,aB i)] fun rows clk =>
  rows 11=some ⟨ver,3,1,emap aI z⟩∧k=a.length-i∧i<=a.length∧z.length=a.length∧dH 10000 z∧0<=c∧c<=1 ∧
  V 10000 (z.take i)-10000^i*c=V 10000 (a.take i)-V 10000 (b.take i)) a.length ?_ ?_
 ·exact⟨_, .refl,0,0,List.replicate a.length 0,_,_,_,rfl,aG,aA,aA,aG,dH.rep aF _,aA,aA,by simp [V]⟩
 rintro k _ ⟨i,c,z,ver,rows,clk,rfl,hr,hk,hi,hz,lz,zF,AE,hV⟩
 apply cN [0,1,5,6,13,14,15]
 refine W.cond ⟨_,rfl,fun h=>?_,fun h=>?_⟩
 ·simp at h
  have hx:=la.nth h
  apply (iE)
  apply fK [0,1,5,6,7,13,14] [0,1,5,7,8,13,14]
  refine W.iS (fun σ=>∃(s:Int),σ=⟨fa [(0,aJ aI a),(1,aJ aI b),(5, .own 11 ver 0 a.length),(7,aB i),(8,aB s),(13,aB a.length),(14,aB i)],rows,clk⟩ ∧ -10000<=s∧s<=9999 ∧
   V 10000 (z.take i)+10000^i*s=V 10000 (a.take (i+1))-V 10000 (b.take (i+1))) ?_ ?_
  ·
   apply aQ [0,1,5,7,8,13,14,26]
   refine W.cond ⟨_,rfl,fun h=>?_,fun h=>?_⟩
   ·simp at h
    have hy:=lb.nth h
    refine W.bY (fun K hK=>?_);simp (disch:=omega) [gw]
    refine hK _ ⟨_,aD _ [0,1,5,7,8,13,14],_,rfl,aA,aA,?_⟩
    rw [bG (l:=a) aA,bG h];grind
   ·simp at h
    apply W.skip
    refine⟨_,aD _ [0,1,5,7,8,13,14],_,rfl,aA,aA,?_⟩
    rw [bG (l:=a) aA,bM (l:=b) aA]
    rw [bM (l:=b) aA]at hV
    grind
  rintro _ ⟨s,rfl,hs0,sX,hsV⟩
  apply aQ [0,1,5,6,7,8,13,14]
  refine W.iS (fun σ=>∃(u c:Int),σ=⟨fa [(0,aJ aI a),(1,aJ aI b),(5, .own 11 ver 0 a.length),(6,aB c),(7,aB i),(8,aB u),(13,aB a.length),(14,aB i)],rows,clk⟩∧0<=u∧u<=9999∧0<=c∧c<=1∧s=u-10000*c) ?_ ?_
  ·
   apply aQ [0,1,5,6,7,8,13,14,34]
   refine W.cond ⟨_,rfl,fun h=>?_,fun h=>?_⟩
   ·simp at h
    apply aQ [0,1,5,7,8,13,14]
    refine W.bY (fun K hK=>?_);simp (disch:=omega) [gw]
    exact hK _ ⟨_,aD _ [0,1,5,6,7,8,13,14],_,1,rfl,aA,aA,aA,aA,aA⟩
   ·simp at h
    apply W.skip
    exact⟨_,aD _ [0,1,5,6,7,8,13,14],_,0,rfl,aA,aA,aA,aA,aA⟩
  rintro _ ⟨u,c',rfl,hu0,hu1,aDF,aDG,hu⟩
  refine W.bY (fun K hK=>?_);simp (disch:=omega) [gw,hr]
  refine W.lw [0,1,5,6,13,14] hK ?_;clear hK K;simp
  refine W.bY (fun K hK=>?_);simp (disch:=omega) [gw]
  refine hK _ ⟨a.length-(i+1),_,aD _ [0,1,5,6,13,14],aA,i+1,c',z.set i u,ver,_,_,rfl,aG,aA,aA,by simpa using hz,lz.set aA,aDF,aDG,?_⟩
  rw [gY aA,<-hsV,hu,Int.pow_succ]
  grind
 ·simp at h
  have jF:i=a.length:=aA
  subst jF
  have ez:z.take a.length=z:=bW hz
  apply (jV)
  simp (disch:=omega) [gw,hr,ez]
  refine bC (sY z aA) ?_
  apply bT [4]
  apply W.ret
  rw [ez,bM (l:=a) aA,bM (l:=b) aA]at hV
  have h1:=sU aF lz
  rw [hz]at h1
  have hc:c=0:=by
   rcases(show c=0∨c=1 by omega)with h2 | h2
   ·exact h2
   ·subst h2;omega
  subst hc
  have e:V 10000 a-V 10000 b=V 10000 z:=by rw [<-hV];simp
  rw [e,<-zH lz]
  simp [go]
theorem H9(x y:Int)(hy:0<=y)(hle:y<=x)(zx:Z x):aC 229 [Dn x,Dn y] (Dn (x-y)):=by
 have hlen:(aV DD y.toNat).length<=(aV DD x.toNat).length:=by
  have h1:=dN (b:=DD) WK (x:=y) (y:=x) aA
  simp only [sz]at h1
  rwa [show y.natAbs=y.toNat by omega,show x.natAbs=x.toNat by omega]at h1
 have:=adG (aV DD x.toNat) (aV DD y.toNat) (by have:=nI (show 0<=x by omega);omega) hlen (pB _) (pB _) (by rw [BI hy,BI aA];exact hle)
 rwa [BI hy,BI aA]at this
theorem asi{a:Int}(ha:0<=a∧a<10000)(hb:0<=b∧b<10000):0<=a*b∧a*b<=99980001:=by
 refine⟨Int.mul_nonneg ha.1 hb.1,?_⟩
 have:=Int.mul_le_mul (show a<=9999 by omega) (show b<=9999 by omega) hb.1 aF
 simpa using this
theorem adH(x y:List Int)(hx:x.length<1099511627776)(hy:y.length<1099511627776)(lx:dH 10000 x)(ly:dH 10000 y):aC 131 [aJ aI x,aJ aI y] (Dn (V 10000 x*V 10000 y)):=by
 apply cG [(0,aJ aI x),(1,aJ aI y)] Tryz.func131
 apply aQ [0,1]
 have e:((x.length:Int)+(y.length:Int)).toNat=x.length+y.length:=aA
 apply W.sr
 simp (disch:=omega) [gw,e]
 apply cO [0,1,5]
 apply eE [0,1,5,17,18]
 refine W.bB (fun k σ=>∃(i:Nat) (z:List Int) (ver:Nat),bF σ [(0,aJ aI x),(1,aJ aI y),(5, .own 15 ver 0 (x.length+y.length)),(17,aB x.length),(18,aB i)] fun rows clk =>
   rows 15=some ⟨ver,3,1,emap aI z⟩∧k=x.length-i∧i<=x.length∧z.length=x.length+y.length∧dH 10000 z∧(∀j,i+y.length<=j->nth z j=0) ∧
   V 10000 z=V 10000 (x.take i)*V 10000 y) x.length ?_ ?_
 ·refine⟨_, .refl,0,List.replicate (x.length+y.length) 0,_,_,_,rfl,by simp [e],aA,aA,aG,dH.rep aF _,fun j _=>?_,by simp [V,uN]⟩
  unfold nth
  cases h:(List.replicate (x.length+y.length) (0:Int))[j]? with
  | none=>rfl
  | some v=>have:=List.mem_of_getElem? h;simp at this;simp [this]
 rintro k _ ⟨i,z,ver,rows,clk,rfl,hr,hk,hi,hz,lz,oY,hV⟩
 apply cN [0,1,5,17,18,19]
 refine W.cond ⟨_,rfl,fun h=>?_,fun h=>?_⟩
 ·simp at h
  have hxi:=lx.nth h
  apply oR [0,1,5,6,17,18]
  apply fK [0,1,5,6,7,17,18] [0,1,5,6,7,8,17,18]
  apply W.block
  refine W.bB (fun m σ=>∃(k:Nat) (c:Int) (z:List Int) (ver:Nat),bF σ [(0,aJ aI x),(1,aJ aI y),(5, .own 15 ver 0 (x.length+y.length)),(6,aB i),(7,aB c),(8,aB k),(17,aB x.length),(18,aB i)] fun rows clk =>
   rows 15=some ⟨ver,3,1,emap aI z⟩∧m=y.length+1-k∧(k<=y.length∧(∀j,i+y.length<=j->nth z j=0)∨k=y.length+1∧c=0)∧z.length=x.length+y.length∧dH 10000 z∧(∀j,i+1+y.length<=j->nth z j=0)∧0<=c∧c<=9999 ∧
   V 10000 z+10000^(i+k)*c=V 10000 (x.take i)*V 10000 y+10000^i*nth x i*V 10000 (y.take k)) (y.length+1) ?_ ?_
  ·exact⟨_, .refl,0,0,z,ver,_,_,rfl,by simpa using hr,aA, .inl ⟨aA,oY⟩,hz,lz,fun j hj=>oY j aA,aA,aA,by simp [V,hV]⟩
  clear hV oY lz hz hr z ver rows clk
  rintro m _ ⟨k,c,z,ver,rows,clk,rfl,hr,hm,hky,hz,lz,oY,zF,AE,hV⟩
  apply W.seq
  refine W.fI (fun σ=>∃(t:Bool),σ=⟨fa [(0,aJ aI x),(1,aJ aI y),(5, .own 15 ver 0 (x.length+y.length)),(6,aB i),(7,aB c),(8,aB k),(17,aB x.length),(18,aB i),(28, .bool t)],rows,clk⟩∧(t=true↔k<y.length∨0<c)) (fun K hK=>?_) ?_
  ·simp
   by_cases h2:k<y.length
   ·apply eV h2
    exact hK _ _ (aD _ [0,1,5,6,7,8,17,18,28]) ⟨_,rfl,by simp [h2]⟩
   ·apply eV h2
    exact hK _ _ (aD _ [0,1,5,6,7,8,17,18,28]) ⟨_,rfl,by simp [h2]⟩
  rintro _ ⟨t,rfl,ht⟩
  refine W.cond ⟨_,rfl,fun h2=>?_,fun h2=>?_⟩
  ·have ht:=ht.1 h2
   obtain⟨CP,hk1⟩:k<=y.length∧(∀j,i+y.length<=j->nth z j=0):=by
    rcases hky with h3 | h3
    ·exact h3
    ·omega
   have hzk:=lz.nth (i:=i+k) aA
   have e0:((i:Int)+(k:Int)).toNat=i+k:=aA
   apply (iE)
   apply W.sr
   simp (disch:=omega) [gw,hr,e0]
   apply cO [0,1,5,6,8,9,17,18]
   refine W.iS (fun σ=>∃(s:Int),σ=⟨fa [(0,aJ aI x),(1,aJ aI y),(5, .own 15 ver 0 (x.length+y.length)),(6,aB i),(8,aB k),(9,aB s),(17,aB x.length),(18,aB i)],rows,clk⟩∧0<=s∧s<=99999999∧(k=y.length->s=c) ∧
    V 10000 z-10000^(i+k)*nth z (i+k)+10000^(i+k)*s=V 10000 (x.take i)*V 10000 y+10000^i*nth x i*V 10000 (y.take (k+1))) ?_ ?_
   ·
    apply aQ [0,1,5,6,8,9,17,18,42]
    refine W.cond ⟨_,rfl,fun h=>?_,fun h=>?_⟩
    ·simp at h
     have hyk:=ly.nth h
     have hp:=asi hxi hyk
     refine W.K1 (fun K hK=>?_);simp (disch:=omega) [gw]
     refine hK _ ⟨_,aD _ [0,1,5,6,8,9,17,18],_,rfl,aA,aA,aA,?_⟩
     rw [bG h,Int.pow_add]
     rw [Int.pow_add]at hV
     grind
    ·simp at h
     have hkl:k=y.length:=aA
     have h0:=hk1 (i+k) aA
     apply W.skip
     refine⟨_,aD _ [0,1,5,6,8,9,17,18],_,rfl,aA,aA,aA,?_⟩
     rw [bM (l:=y) aA]
     rw [bM (l:=y) aA]at hV
     rw [h0]
     grind
   rintro _ ⟨s,rfl,hs0,sX,hsc,hsV⟩
   apply W.sr
   simp (disch:=omega) [gw,hr,e0]
   apply cO [0,1,5,6,8,9,17,18]
   refine W.bY (fun K hK=>?_);simp (disch:=omega) [gw];refine W.lw [0,1,5,6,7,8,17,18] hK ?_;clear hK K;simp
   refine W.bY (fun K hK=>?_);simp (disch:=omega) [gw]
   have YH:=L9 (b:=10000) (l:=z) (i:=i+k) (x:=s%10000) aA
   refine hK _ ⟨y.length+1-(k+1),_,aD _ [0,1,5,6,7,8,17,18],aA,k+1,s/10000,z.set (i+k) (s%10000),ver,_,_,rfl,aG,rfl,?_,by simpa using hz,lz.set aA,fun j hj=>?_,aA,aA,?_⟩
   ·rcases Nat.lt_or_ge k y.length with h3 | h3
    ·left
     refine⟨aA,fun j hj=>?_⟩
     rw [jL aA];exact hk1 j hj
    ·right
     have:=hsc aA
     exact⟨aA,aA⟩
   ·rw [jL aA];exact oY j hj
   ·rw [YH,<-hsV,show i+(k+1)=(i+k)+1 by omega,Int.pow_succ]
    have:=Int.emod_add_mul_ediv s 10000
    grind
  ·have ht:¬(k<y.length∨0<c):=fun h3=>by simp [ht.2 h3]at h2
   have hc:c=0:=aA
   subst hc
   apply (gK)
   refine W.bY (fun K hK=>?_);simp (disch:=omega) [gw]
   refine hK _ ⟨x.length-(i+1),_,aD _ [0,1,5,17,18],aA,i+1,z,ver,_,_,rfl,hr,aA,aA,hz,lz,oY,?_⟩
   rw [bG h]
   rw [bM (l:=y) aA]at hV
   grind
 ·simp at h
  have jF:i=x.length:=aA
  subst jF
  have xF:List.take (x.length+y.length) z=z:=List.take_of_length_le aA
  apply (jV)
  apply j1 hr xF
  refine bC (sY z aA) ?_
  apply bT [4]
  apply W.ret
  rw [bM (Nat.le_refl _)]at hV
  rw [<-hV,<-zH lz]
  simp
theorem ahw(x y:Int)(hx:0<=x)(hy:0<=y)(zx:Z x)(zy:Z y):aC 131 [Dn x,Dn y] (Dn (x*y)):=by
 have:=adH (aV DD x.toNat) (aV DD y.toNat) (by have:=nI hx;omega) (by have:=nI hy;omega) (pB _) (pB _)
 rwa [BI hx,BI hy]at this
theorem TY(h:Z x):Z (x.natAbs:Int):=by simpa [Z,sz]using h
theorem qL(n:Nat)(neg:Bool):aC 68 [aJ aI (aV DD n), .bool neg] (RI (if neg=true then -(n:Int)else n)):=sZ n aA neg
theorem adI(x y:Int):(if decide (x<0) != decide (y<0)then -((x.natAbs*y.natAbs:Nat):Int)else((x.natAbs*y.natAbs:Nat):Int))=x*y:=by
 rw [Int.natCast_mul]
 by_cases h1:x<0<;>by_cases h2:y<0
 ·simp only [h1,h2,show(x.natAbs:Int) = -x by omega,show(y.natAbs:Int) = -y by omega];simp<;>grind
 ·simp only [h1,h2,show(x.natAbs:Int) = -x by omega,show(y.natAbs:Int)=y by omega];simp<;>grind
 ·simp only [h1,h2,show(x.natAbs:Int)=x by omega,show(y.natAbs:Int) = -y by omega];simp<;>grind
 ·simp only [h1,h2,show(x.natAbs:Int)=x by omega,show(y.natAbs:Int)=y by omega];simp<;>grind
theorem gL(x y:Int)(zx:Z x)(zy:Z y):aC 63 [RI x,RI y] (RI (x*y)):=by
 apply cG [(0,RI x),(1,RI y)] Tryz.func63
 apply kR [2,3,4]
 apply (cV)
 refine bC (ahw x.natAbs y.natAbs aA aA (TY zx) (TY zy)) ?_
 have e:((x.natAbs:Int)*y.natAbs).toNat=x.natAbs*y.natAbs:=by rw [<-Int.natCast_mul];exact Int.toNat_natCast _
 simp only [Dn,e]
 obtain⟨m,hm⟩:∃m,m=x.natAbs*y.natAbs:=⟨_,rfl⟩
 rw [<-hm]
 apply kZ (qL m (decide (x<0) != decide (y<0)))
 have e2:=adI x y
 rw [<-hm]at e2
 rw [e2]
 exact gI [4]
theorem IA(x y:Int)(zx:Z x)(zy:Z y):aC 154 [RI x,RI y] (RI (x+y)):=by
 apply cG [(0,RI x),(1,RI y)] Tryz.func154
 apply aQ [2,3,4]
 apply cQ [2,3,4,9]
 refine W.cond ⟨_,rfl,fun h=>?_,fun h=>?_⟩
 ·simp at h
  apply W.sd
  apply (cV)
  refine bC (ahu x.natAbs y.natAbs aA aA (TY zx) (TY zy)) ?_
  have e:((x.natAbs:Int)+y.natAbs).toNat=x.natAbs+y.natAbs:=aA
  simp only [Dn,e]
  obtain⟨m,hm⟩:∃m,m=x.natAbs+y.natAbs:=⟨_,rfl⟩
  rw [<-hm]
  apply (cV)
  refine bC (qL m _) ?_
  have e2:(if decide (x<0)=true then -(m:Int)else m)=x+y:=by by_cases h1:x<0<;>simp [h1]<;>omega
  rw [e2]
  exact gI [4]
 ·simp at h
  apply (pK)
  apply (tI)
  refine bC (TX x.natAbs y.natAbs aA aA (TY zx) (TY zy)) ?_
  apply bT [2,3,4,23]
  refine W.cond ⟨_,rfl,fun h2=>?_,fun h2=>?_⟩
  ·have h2:(y.natAbs:Int)<=x.natAbs:=vR.1 (of_decide_eq_true h2)
   apply W.sd
   apply (cV)
   refine bC (H9 x.natAbs y.natAbs aA h2 (TY zx)) ?_
   have e:((x.natAbs:Int)-y.natAbs).toNat=x.natAbs-y.natAbs:=aA
   simp only [Dn,e]
   obtain⟨m,hm⟩:∃m,m=x.natAbs-y.natAbs:=⟨_,rfl⟩
   rw [<-hm]
   apply (cV)
   refine bC (qL m _) ?_
   have e2:(if decide (x<0)=true then -(m:Int)else m)=x+y:=by by_cases h1:x<0<;>simp [h1]<;>omega
   rw [e2]
   exact gI [4]
  ·have h2:(x.natAbs:Int)<y.natAbs:=by
    have h3:=of_decide_eq_false h2
    rw [vR]at h3;omega
   apply (HT)
   apply (cV)
   refine bC (H9 y.natAbs x.natAbs aA aA (TY zy)) ?_
   have e:((y.natAbs:Int)-x.natAbs).toNat=y.natAbs-x.natAbs:=aA
   simp only [Dn,e]
   obtain⟨m,hm⟩:∃m,m=y.natAbs-x.natAbs:=⟨_,rfl⟩
   rw [<-hm]
   apply (cV)
   refine bC (qL m _) ?_
   have e2:(if decide (y<0)=true then -(m:Int)else m)=x+y:=by by_cases h1:y<0<;>simp [h1]<;>omega
   rw [e2]
   exact gI [4]
theorem aDH(h:Z x):Z (-x):=by simpa [Z,r9]using h
theorem TZ(x y:Int)(zx:Z x)(zy:Z y):aC 130 [RI x,RI y] (RI (x-y)):=by
 have hn:=wC y
 have zn:=aDH zy
 obtain⟨m,hm⟩:∃m,m = -y:=⟨_,rfl⟩
 rw [<-hm]at hn zn
 have e:x-y=x+m:=aA
 rw [e]
 apply cG [(0,RI x),(1,RI y)] Tryz.func130
 apply kR [2,3,4]
 apply fV hn (IA x m zx zn)
 exact gI [4]
theorem adJ(x y:Int):(x-y).sign=eA x y:=by
 rcases Int.lt_trichotomy x y with h | h | h
 ·rw [pL h,Int.sign_eq_neg_one_of_neg aA]
 ·subst h;simp [FW]
 ·rw [pM h,Int.sign_eq_one_of_pos aA]
theorem ahx(x y:Int)(zx:Z x)(zy:Z y):aC 62 [RI x,RI y] (aB (eA x y)):=by
 apply cG [(0,RI x),(1,RI y)] Tryz.func62
 apply aQ [2,3]
 apply n7 (TZ x y zx zy) (ML (x-y))
 rw [adJ]
 exact gI [4]
abbrev Y(x:Int):Prop:=sz 2 x<549755813888
theorem Y.z(h:Y x):Z x:=by simp only [Y,Z]at *;omega
theorem IB(h:Y y)(w7:x.natAbs<=y.natAbs):Y x:=Nat.lt_of_le_of_lt (dN aF w7) h
theorem EO:eA x y<=0↔x<=y:=by simp only [eA];split<;>(try split)<;>omega
@[simp] theorem avo:[PV.int .i64 x]::emap aI l=emap aI (x::l):=by simp [emap]
@[simp] theorem alQ:(∀e∈emap aI l,∀p∈e,bE p=true)=True:=by simp [emap]
theorem adK(h:dH 10000 l)(k:Nat)(hk:k<=l.length):V 10000 (l.drop k)<=V 10000 l:=by
 rw [nE l k hk]
 have h1:=bV aF (h.take k)
 have h2:=bV aF (h.drop k)
 have h3:1<=(10000:Int)^k:=Int.pow_pos aF
 have h4:=Int.mul_le_mul_of_nonneg_right h3 h2
 omega
theorem T0(x y:Int)(hx:0<=x)(hy:0<y)(zx:Y x)(zy:Y y):aC 209 [Dn x,Dn y] (.dK [Dn (x/y),Dn (x%y)]):=by
 have hal:(aV DD x.toNat).length<549755813888:=Nat.lt_of_le_of_lt (nI hx) zx
 have la:=pB x.toNat
 have hVa:=BI hx
 apply cG [(0,Dn x),(1,Dn y)] Tryz.func209
 simp only [Dn]
 generalize ha:aV DD x.toNat=a at *
 apply aQ [0,1]
 apply fK [0,1,6] [0,1,6,7]
 refine W.TF 7 (Dn 0) aG rfl fun K hK=>?_
 refine W.lw [0,1,6,7] hK ?_;clear hK K;simp
 apply eE [0,1,6,7,8]
 refine W.bB (fun k σ=>∃(r:Int) (z:List Int) (ver:Nat),bF σ [(0,aJ aI a),(1,Dn y),(6, .own 14 ver 0 a.length),(7,Dn r),(8,aB ((k:Int)-1))] fun rows clk =>
  rows 14=some ⟨ver,3,1,emap aI z⟩∧k<=a.length∧z.length=a.length∧dH 10000 z∧0<=r∧r<y∧V 10000 (a.drop k)=y*V 10000 (z.drop k)+r) a.length ?_ ?_
 ·exact⟨_,Gh.fr [(0,aJ aI a),(1,Dn y),(6, .own 14 0 0 a.length),(7,Dn 0),(8,aB ((a.length:Int)-1))] aG,0,List.replicate a.length 0,_,_,_,rfl,aG,aA,aG,dH.rep aF _,aA,hy,by simp [V]⟩
 rintro k _ ⟨r,z,ver,rows,clk,rfl,hr,hk,hz,lz,qW,yI,hV⟩
 apply cQ [0,1,6,7,8,19]
 refine W.cond ⟨_,rfl,fun h=>?_,fun h=>?_⟩
 ·simp at h
  obtain⟨j,rfl⟩:∃j,k=j+1:=⟨k-1,aA⟩
  clear h
  have hxj:=la.nth (i:=j) aA
  have hVz:=bV aF (lz.drop (j+1))
  have hyV:=Int.mul_nonneg (Int.le_of_lt hy) hVz
  have hR:V 10000 (a.drop j)=y*(10000*V 10000 (z.drop (j+1)))+(nth a j+10000*r):=by
   rw [gW (l:=a) (i:=j) aA];simp only [V];rw [hV];grind
  have hRx:nth a j+10000*r<=x:=by
   have h1:=adK la j aA
   have h2:0<=y*(10000*V 10000 (z.drop (j+1))):=Int.mul_nonneg (Int.le_of_lt hy) aA
   omega
  have hrl:(aV DD r.toNat).length<549755813888:=Nat.lt_of_le_of_lt (nI qW) (IB zy aA)
  have qZ:aJ aI (aZ (nth a j::aV DD r.toNat))=Dn (nth a j+10000*r):=by
   rw [zH (dH.cons.2 ⟨hxj,pB _⟩)]
   simp only [V,BI qW]
  apply (iE)
  apply (tI)
  refine bC (sY (nth a j::aV DD r.toNat) (by simp;omega)) ?_
  rw [qZ]
  have KR:0<=nth a j+10000*r:=aA
  have hR1:nth a j+10000*r<y*10000:=aA
  have zR:Y (nth a j+10000*r):=IB zx aA
  generalize nth a j+10000*r=R at *
  apply bT [0,1,6,7,8]
  apply aQ [0,1,6,7,8,9,10]
  apply (nC)
  refine W.bB (fun m σ=>∃(lo hi:Int),σ=⟨fa [(0,aJ aI a),(1,Dn y),(6, .own 14 ver 0 a.length),(7,Dn R),(8,aB (j:Int)),(9,aB lo),(10,aB hi)],rows,clk⟩ ∧
   m=(hi-lo).toNat∧0<=lo∧lo<=hi∧hi<=9999∧y*lo<=R∧R<y*(hi+1)) 9999 ?_ ?_
  ·exact⟨_,Gh.fr [(0,aJ aI a),(1,Dn y),(6, .own 14 ver 0 a.length),(7,Dn R),(8,aB (j:Int)),(9,aB 0),(10,aB 9999)] aG,0,9999,rfl,aF,aA,aA,aA,aA,aA⟩
  rintro m _ ⟨lo,hi,rfl,hm,GW,hlh,WG,h1,h2⟩
  apply cQ [0,1,6,7,8,9,10,32]
  refine W.cond ⟨_,rfl,fun h=>?_,fun h=>?_⟩
  ·simp at h
   apply (uV)
   apply aQ [0,1,6,7,8,9,10,11]
   have MG:lo<(lo+hi+1)/2:=aA
   have hm2:(lo+hi+1)/2<=hi:=aA
   generalize (lo+hi+1)/2=IC at *
   have hp:0<=y*IC:=Int.mul_nonneg aA aA
   have zp:Z (y*IC):=by
    have h3:sz 2 IC<=14:=dZ aF (by simp;omega)
    have h4:=cW (b:=2) aF (Nat.le_refl (sz 2 y)) h3
    simp only [Z,Y]at *;omega
   have hma:=oU y IC 0 aA zy.z aA aA aF aF
   rw [Int.add_zero]at hma
   apply n7 hma (TX (y*IC) R hp KR zp zR.z)
   apply bT [0,1,6,7,8,9,10,11,43]
   refine W.cond ⟨_,rfl,fun h=>?_,fun h=>?_⟩
   ·have h:=EO.1 (of_decide_eq_true h)
    refine W.bY (fun K hK=>?_);simp (disch:=omega) [gw]
    exact hK _ ⟨(hi-IC).toNat,_,aD _ [0,1,6,7,8,9,10],aA,IC,hi,rfl,rfl,aA,aA,aA,h,h2⟩
   ·have h:=of_decide_eq_false h
    rw [EO]at h
    refine W.bY (fun K hK=>?_);simp (disch:=omega) [gw]
    refine hK _ ⟨(IC-1-lo).toNat,_,aD _ [0,1,6,7,8,9,10],aA,lo,IC-1,rfl,rfl,aA,aA,aA,h1,?_⟩
    rw [show IC-1+1=IC by omega];omega
  ·simp at h
   have aDI:lo=hi:=aA
   subst aDI
   have hp:0<=y*lo:=Int.mul_nonneg aA aA
   have zp:Y (y*lo):=IB zR aA
   have hma:=oU y lo 0 aA zy.z aA aA aF aF
   rw [Int.add_zero]at hma
   apply (jV)
   apply sS hr [0,1,6,7,8,9]
   refine W.bY fun K hK=>?_
   apply fV hma (H9 R (y*lo) hp h1 zR.z)
   apply (cV)
   refine W.lw [0,1,6,7,8] hK ?_;clear hK K;simp
   refine W.bY (fun K hK=>?_);simp (disch:=omega) [gw]
   refine hK _ ⟨j,_,aD _ [0,1,6,7,8],aA,R-y*lo,z.set j lo,ver,_,_,rfl,aG,aA,by simpa using hz,lz.set aA,aA,by rw [Int.mul_add]at h2;omega,?_⟩
   rw [hR,gW (l:=z.set j lo) (i:=j) (by simp;omega),gP aA,List.drop_set_of_lt aA]
   simp only [V]
   grind
 ·simp at h
  have CP:k=0:=aA
  subst CP
  simp only [List.drop_zero]at hV
  have ez:z.take a.length=z:=bW hz
  have hzn:=bV aF lz
  rw [hVa]at hV
  have e1:x/y=V 10000 z:=by
   rw [hV,Int.mul_add_ediv_left _ _ aA,Int.ediv_eq_zero_of_lt qW yI];simp
  have e2:x%y=r:=by
   rw [hV,Int.mul_add_emod_self_left,Int.emod_eq_of_lt qW yI]
  apply (jV)
  simp (disch:=omega) [gw,hr,ez]
  refine bC (sY z aA) ?_
  apply bT [4,5]
  apply W.ret
  have h4:=zH lz
  simp only [Dn]at h4
  rw [e1,e2,<-h4]
  simp [go]
theorem ID(a b:Int)(za:Y a)(zb:Y b):aC 126 [RI a,RI b] (RI (Int.gcd a b)):=by
 apply cG [(0,RI a),(1,RI b)] Tryz.func126
 apply kR [2,3,4]
 apply bT [4,5,6]
 apply (nC)
 refine W.bB (fun k σ=>∃(x:Nat),bF σ [(4, .ptr 4 2 0 0),(5,aJ aI (aV DD x)),(6,aJ aI (aV DD k))] fun rows clk=>rows 4=some ⟨2,29,2,[[.nil, .bool false]]⟩∧Nat.gcd x k=Int.gcd a b∧Y (x:Int)∧Y (k:Int)) b.natAbs ?_ ?_
 ·exact⟨_, .refl,a.natAbs,_,_,rfl,aG,rfl,by simpa [Y,sz]using za,by simpa [Y,sz]using zb⟩
 rintro k _ ⟨x,rows,clk,rfl,dW,hg,zx,zk⟩
 have e0:(aV DD k).length=0↔k=0:=by rw [List.length_eq_zero_iff,gC WK]
 apply cQ [4,5,6,15]
 refine W.cond ⟨_,rfl,fun h=>?_,fun h=>?_⟩
 ·have CP:k≠0:=by intro h0;have h1:=e0.2 h0;simp at h;omega
  have hdiv:=T0 (x:Int) (k:Int) aA aA zx zk
  have em:(((x:Int)%k).toNat)=x%k:=by rw [<-Int.natCast_emod];exact Int.toNat_natCast _
  have ed:(((x:Int)/k).toNat)=x/k:=by rw [<-Int.natCast_ediv];exact Int.toNat_natCast _
  simp only [Dn,em,ed,Int.toNat_natCast]at hdiv
  have c8:=Nat.mod_lt x (show k>0 by omega)
  have r5:Nat.gcd k (x%k)=Int.gcd a b:=by rw [<-hg,Nat.gcd_comm x k,Nat.gcd_rec k x,Nat.gcd_comm]
  have zm:Y ((x%k:Nat):Int):=IB zk (by simp only [Int.natAbs_natCast];omega)
  apply (uV)
  apply nB hdiv
  generalize x%k=y at *
  apply bT [4,6,8]
  refine W.bY (fun K hK=>?_);simp (disch:=omega) [gw]
  exact hK _ ⟨y,_,aD _ [4,5,6],c8,k,_,_,rfl,by simp [dW],r5,zk,zm⟩
 ·have CP:k=0:=by rw [<-e0];simp at h;simp [h]
  subst CP
  rw [Nat.gcd_zero_right]at hg
  subst hg
  apply (jV)
  exact FM dW [4]
theorem YP(a b:Int):(if decide (a<0) != decide (b<0)then -((a.natAbs/b.natAbs:Nat):Int)else((a.natAbs/b.natAbs:Nat):Int))=a.tdiv b:=by
 have h:∀x y:Nat,((x/y:Nat):Int)=(x:Int).tdiv y:=fun x y=>by rw [Int.natCast_ediv,Int.tdiv_eq_ediv_of_nonneg aA]
 rw [h]
 by_cases h1:a<0<;>by_cases h2:b<0
 ·simp only [h1,h2,show(a.natAbs:Int) = -a by omega,show(b.natAbs:Int) = -b by omega];simp
 ·simp only [h1,h2,show(a.natAbs:Int) = -a by omega,show(b.natAbs:Int)=b by omega];simp
 ·simp only [h1,h2,show(a.natAbs:Int)=a by omega,show(b.natAbs:Int) = -b by omega];simp
 ·simp only [h1,h2,show(a.natAbs:Int)=a by omega,show(b.natAbs:Int)=b by omega];simp
theorem BJ(a b:Int)(hb:b≠0)(za:Y a)(zb:Y b):aC 127 [RI a,RI b] (RI (a.tdiv b)):=by
 have hdiv:=T0 (a.natAbs:Int) (b.natAbs:Int) aA aA (by simpa [Y,sz]using za) (by simpa [Y,sz]using zb)
 have em:(((a.natAbs:Int)%b.natAbs).toNat)=a.natAbs%b.natAbs:=by rw [<-Int.natCast_emod];exact Int.toNat_natCast _
 have ed:(((a.natAbs:Int)/b.natAbs).toNat)=a.natAbs/b.natAbs:=by rw [<-Int.natCast_ediv];exact Int.toNat_natCast _
 have hs:=YP a b
 apply cG [(0,RI a),(1,RI b)] Tryz.func127
 apply aQ [2,3,4]
 simp only [Dn,em,ed,Int.toNat_natCast]at hdiv
 generalize a.natAbs/b.natAbs=q at *
 generalize a.natAbs%b.natAbs=r at *
 apply cK hdiv [2,3,4,5]
 apply nB (qL q (decide (a<0) != decide (b<0)))
 rw [hs]
 exact gI [4]
def re(q:Rat):List PV:=[aJ aI (aV DD q.num.natAbs), .bool (decide (q.num<0)),aJ aI (aV DD q.den), .bool false]
@[simp] theorem aDJ:re q = [aJ aI (aV DD q.num.natAbs), .bool (decide (q.num<0)),aJ aI (aV DD q.den), .bool false]:=rfl
abbrev RR(q:Rat):PV:=.ag (re q)
def eH(n d:Int):Rat:=if d=0 then n else Rat.divInt n d
theorem oM(n:Int):eH n 1=n:=by
 rw [eH,if_neg aF,Rat.divInt_eq_div]
 grind
structure ZR(k:Nat)(q:Rat):Prop where
 n:sz 2 q.num<=k
 d:sz 2 (q.den:Int)<=k
abbrev YY:Nat:=137438953472
theorem tN(n d:Int)(hd:d≠0):(eH n d).num=(if d<0 then -n else n)/(Int.gcd (if d<0 then -n else n) (if d<0 then -d else d)):=by
 rw [eH,if_neg hd,Rat.num_divInt]
 by_cases h:d<0
 ·simp only [h,if_true]
  rw [Int.sign_eq_neg_one_of_neg h,Int.gcd_comm d n,Int.neg_gcd,Int.gcd_neg];simp
 ·simp only [h,if_false]
  rw [Int.sign_eq_one_of_pos aA,Int.gcd_comm d n];simp
theorem tP(n d:Int)(hd:d≠0):((eH n d).den:Int)=(if d<0 then -d else d)/(Int.gcd (if d<0 then -n else n) (if d<0 then -d else d)):=by
 rw [eH,if_neg hd,Rat.den_divInt,if_neg hd]
 by_cases h:d<0
 ·simp only [h,if_true]
  rw [Int.gcd_comm d n,Int.neg_gcd,Int.gcd_neg]
  rw [Int.natCast_ediv];congr 1;omega
 ·simp only [h,if_false]
  rw [Int.gcd_comm d n,Int.natCast_ediv];congr 1;omega
theorem IE{n d:Int}(h1:q.num=n)(h2:(q.den:Int)=d):RR q = .ag [aJ aI (aV DD n.natAbs), .bool (decide (n<0)),aJ aI (aV DD d.natAbs), .bool (decide (d<0))]:=by
 subst h1;subst h2
 have:¬((q.den:Int)<0):=aA
 simp [this]
theorem nJ(n d:Int)(zn:Y n)(zd:Y d):aC 60 [RI n,RI d] (RR (eH n d)):=by
 refine dJ (E:=env) (fun id=>if id=4 then 2 else 0) [(0,RI n),(1,RI d)] Tryz.func60 rfl cT cT (show 2<=39 by decide) aG ?_
 apply aQ [2,3,4]
 refine W.iS (fun σ=>∃(d1:Int),bF σ [(2, .ptr 2 0 0 0),(3, .ptr 3 1 0 0),(4, .ptr 4 2 0 0)] fun rows clk=>rows 2=some ⟨0,29,2,[[aJ aI (aV DD n.natAbs), .bool (decide (n<0))]]⟩ ∧
  rows 3=some ⟨1,29,2,[[aJ aI (aV DD d1.natAbs), .bool (decide (d1<0))]]⟩∧rows 4=some ⟨2,31,4,[[.nil, .bool false, .nil, .bool false]]⟩∧d1≠0∧eH n d=eH n d1∧Y d1) ?_ ?_
 ·
  apply cK (MJ d) [2,3,4,7]
  refine W.cond ⟨_,rfl,fun h=>?_,fun h=>?_⟩
  ·have h:=of_decide_eq_true h
   subst h
   refine W.bY fun K hK=>?_
   apply (cV)
   refine bC (rN 1 aF aF) ?_
   apply (cV)
   refine hK _ ⟨_,aD _ [2,3,4],1,_,_,rfl,aG,aG,aG,aF,by rw [oM];simp [eH],?_⟩
   have:sz 2 1<=1:=dZ aF aF
   simp only [Y];omega
  ·have h:=of_decide_eq_false h
   apply W.skip
   exact⟨_,aD _ [2,3,4],d,_,_,rfl,aG,aG,aG,h,rfl,zd⟩
 rintro _ ⟨d1,rows,clk,rfl,bS,bK,dW,PA,hq,zd1⟩
 rw [hq]
 have q1:=tN n d1 PA
 have q2:=tP n d1 PA
 generalize eH n d1=q at *
 clear hq zd d
 refine W.iS (fun σ=>∃(n2 d2:Int),bF σ [(2, .ptr 2 0 0 0),(3, .ptr 3 1 0 0),(4, .ptr 4 2 0 0)] fun rows clk=>rows 2=some ⟨0,29,2,[[aJ aI (aV DD n2.natAbs), .bool (decide (n2<0))]]⟩ ∧
  rows 3=some ⟨1,29,2,[[aJ aI (aV DD d2.natAbs), .bool (decide (d2<0))]]⟩∧rows 4=some ⟨2,31,4,[[.nil, .bool false, .nil, .bool false]]⟩∧0<d2∧q.num=n2/Int.gcd n2 d2∧(q.den:Int)=d2/Int.gcd n2 d2∧Y n2∧Y d2) ?_ ?_
 ·
  apply fJ bK [2,3,4,10]
  refine W.cond ⟨_,rfl,fun h=>?_,fun h=>?_⟩
  ·have h:=of_decide_eq_true h
   simp only [h,if_true]at q1 q2
   have hn:=wC n
   have hd:=wC d1
   have zn2:Y (-n):=by simpa [Y,r9]using zn
   have zd2:Y (-d1):=by simpa [Y,r9]using zd1
   obtain⟨n2,hn2⟩:∃m,m = -n:=⟨_,rfl⟩
   obtain⟨d2,XL⟩:∃m,m = -d1:=⟨_,rfl⟩
   rw [<-hn2]at hn zn2 q1 q2
   rw [<-XL]at hd zd2 q1 q2
   refine W.K1 fun K hK=>?_
   rw [if_pos rfl,gO]
   apply j0 bS hn
   apply j7 bS bK hd
   apply j1 bS bK
   exact hK _ ⟨_,aD _ [2,3,4],n2,d2,_,_,rfl,aG,aG,by simp [dW],aA,q1,q2,zn2,zd2⟩
  ·have h:=of_decide_eq_false h
   simp only [h,if_false]at q1 q2
   apply W.skip
   exact⟨_,aD _ [2,3,4],n,d1,_,_,rfl,bS,bK,dW,aA,q1,q2,zn,zd1⟩
 clear bS bK dW q1 q2
 rintro _ ⟨n2,d2,rows,clk,rfl,bS,bK,dW,h0,q1,q2,zn2,zd2⟩
 apply W.seq
 refine W.fI (fun σ=>∃(b:Bool),σ=⟨fa [(2, .ptr 2 0 0 0),(3, .ptr 3 1 0 0),(4, .ptr 4 2 0 0),(25, .bool b)],rows,clk⟩∧(b=true↔(aV DD d2.natAbs).length=1∧nth (aV DD d2.natAbs) 0=1)) (fun K hK=>?_) ?_
 ·by_cases h1:(aV DD d2.natAbs).length=1
  ·have h2:((aV DD d2.natAbs).length:Int)=1:=by omega
   apply zD bK h1 h2
   exact hK _ _ (aD _ [2,3,4,25]) ⟨_,rfl,by simp [h1]⟩
  ·have h2:¬((aV DD d2.natAbs).length:Int)=1:=by omega
   have h3:(((aV DD d2.natAbs).length:Int)==1)=false:=by simpa using h2
   apply j1 bK h3
   exact hK _ _ (aD _ [2,3,4,25]) ⟨_,rfl,by simp [h1,h2]⟩
 rintro _ ⟨b,rfl,hb⟩
 refine W.cond ⟨_,rfl,fun h=>?_,fun h=>?_⟩
 ·have hb:=hb.1 h
  have XL:d2=1:=by
   have hv:=ayr d2
   obtain⟨h1,h2⟩:=hb
   match hl:aV DD d2.natAbs,h1 with
   | [x],_ =>
    rw [hl]at h2 hv
    simp [nth,V]at h2 hv
    omega
  subst XL
  rw [Int.gcd_one]at q1 q2
  rw [IE (n:=n2) (d:=1) (by simpa using q1) (by simpa using q2)]
  apply W.sr
  apply zD bS bK dW
  exact pJ [4]
 ·apply W.skip
  have hgp:0<Int.gcd n2 d2:=Int.gcd_pos_of_ne_zero_right _ aA
  have e1:n2.tdiv (Int.gcd n2 d2)=q.num:=by rw [q1];exact Int.tdiv_eq_ediv_of_dvd (Int.gcd_dvd_left ..)
  have e2:d2.tdiv (Int.gcd n2 d2)=q.den:=by rw [q2];exact Int.tdiv_eq_ediv_of_dvd (Int.gcd_dvd_right ..)
  have zg:Y (Int.gcd n2 d2:Int):=IB zd2 (by
   have:=Int.le_of_dvd h0 (Int.gcd_dvd_right n2 d2);omega)
  have hq1:=BJ n2 (Int.gcd n2 d2) aA zn2 zg
  have hq2:=BJ d2 (Int.gcd n2 d2) aA zd2 zg
  rw [e1]at hq1
  rw [e2]at hq2
  have hg:=ID n2 d2 zn2 zd2
  obtain⟨g,hgd⟩:∃g:Int,g=Int.gcd n2 d2:=⟨_,rfl⟩
  rw [<-hgd]at hg hq1 hq2
  have hnn:¬((q.den:Int)<0):=aA
  apply qE bS bK hg
  apply HS bS bK [2,3,4,5]
  apply W.sd
  apply j7 bS bK hq1
  apply j7 bS bK hq2
  apply zD bS bK dW
  apply cO [4]
  apply W.ret
  simp [go,hnn]
theorem pN(n d:Int)(h1 : -9223372036854775808<=n∧n<9223372036854775808)(h2 : -9223372036854775808<=d∧d<9223372036854775808):aC 12 [aB n,aB d] (RR (eH n d)):=by
 have z:∀x:Int, -9223372036854775808<=x∧x<9223372036854775808->Y x:=fun x hx=>by
  have:sz 2 x<=64:=dZ aF aA
  simp only [Y];omega
 have hm:=nJ n d (z n h1) (z d h2)
 generalize eH n d=q at *
 apply cG [(0,aB n),(1,aB d)] Tryz.func12
 apply aQ [0,1,4]
 apply nB (rN n h1.1 h1.2)
 apply fV (rN d h2.1 h2.2) hm
 exact gI [4]
theorem IF(q:Rat):aC 108 [RR q] (RR (-q)):=by
 have hn:=wC q.num
 have e:RR (-q) = .ag [aJ aI (aV DD (-q.num).natAbs), .bool (decide (-q.num<0)),aJ aI (aV DD q.den), .bool false]:=rfl
 rw [e]
 generalize -q.num=m at *
 apply cG [(0,RR q)] Tryz.func108
 apply kR [1,2]
 apply kZ hn
 exact gI [2]
theorem alR(p q:Rat):eH (p.num*q.den+q.num*p.den) ((p.den:Int)*q.den)=p+q:=by
 have h:((p.den:Int)*q.den)≠0:=by have:=p.den_nz;have:=q.den_nz;simp [Int.mul_eq_zero];omega
 rw [eH,if_neg h,Rat.add_def',<-Int.natCast_mul,Rat.divInt_ofNat]
theorem alS(p q:Rat):eH (p.num*q.num) ((p.den:Int)*q.den)=p*q:=by
 have h:((p.den:Int)*q.den)≠0:=by have:=p.den_nz;have:=q.den_nz;simp [Int.mul_eq_zero];omega
 rw [eH,if_neg h,Rat.mul_def',<-Int.natCast_mul,Rat.divInt_ofNat]
theorem alT(p q:Rat)(hq:q≠0):eH (p.num*q.den) ((p.den:Int)*q.num)=p/q:=by
 have hn:q.num≠0:=fun h=>hq (Rat.num_eq_zero.1 h)
 have h:((p.den:Int)*q.num)≠0:=by have:=p.den_nz;exact Int.mul_ne_zero aA hn
 rw [eH,if_neg h,Rat.div_def,Rat.inv_def,<-Rat.divInt_mul_divInt,Rat.num_divInt_den]
theorem BK(p q:Rat)(hp:ZR YY p)(hq:ZR YY q):aC 225 [RR p,RR q] (RR (p+q)):=by
 have s1:=cW (b:=2) aF hp.n hq.d
 have s2:=cW (b:=2) aF hq.n hp.d
 have s3:=cW (b:=2) aF hp.d hq.d
 have s4:=qH (b:=2) aF s1 s2
 have zz:∀ {x:Int},sz 2 x<=YY->Z x:=fun h=>by simp only [Z,YY]at *;omega
 have m1:=gL p.num q.den (zz hp.n) (zz hq.d)
 have m2:=gL q.num p.den (zz hq.n) (zz hp.d)
 have m3:=gL p.den q.den (zz hp.d) (zz hq.d)
 have m4:=IA (p.num*q.den) (q.num*p.den) (by simp only [Z,YY]at *;omega) (by simp only [Z,YY]at *;omega)
 have m5:=nJ (p.num*q.den+q.num*p.den) ((p.den:Int)*q.den) (by simp only [Y,YY]at *;omega) (by simp only [Y,YY]at *;omega)
 rw [alR]at m5
 generalize p.num*q.den+q.num*p.den=x5 at *
 generalize p.num*q.den=x1 at *
 generalize q.num*(p.den:Int)=x2 at *
 generalize (p.den:Int)*q.den=x3 at *
 generalize hr:p+q=r at *
 have d1:RR p = .ag [aJ aI (aV DD p.num.natAbs), .bool (decide (p.num<0)),aJ aI (aV DD (p.den:Int).natAbs), .bool (decide ((p.den:Int)<0))]:=IE rfl rfl
 have d2:RR q = .ag [aJ aI (aV DD q.num.natAbs), .bool (decide (q.num<0)),aJ aI (aV DD (q.den:Int).natAbs), .bool (decide ((q.den:Int)<0))]:=IE rfl rfl
 rw [d1,d2]
 generalize (p.den:Int)=pd at *
 generalize (q.den:Int)=qd at *
 generalize p.num=pn at *
 generalize q.num=qn at *
 apply cG [(0, .ag [aJ aI (aV DD pn.natAbs), .bool (decide (pn<0)),aJ aI (aV DD pd.natAbs), .bool (decide (pd<0))]),(1, .ag [aJ aI (aV DD qn.natAbs), .bool (decide (qn<0)),aJ aI (aV DD qd.natAbs), .bool (decide (qd<0))])] Tryz.func225
 apply kR [2,3,4]
 apply kZ m1
 apply fV m2 m4
 apply fV m3 m5
 exact gI [4]
theorem IH(p q:Rat)(hp:ZR YY p)(hq:ZR YY q):aC 226 [RR p,RR q] (RR (p*q)):=by
 have s1:=cW (b:=2) aF hp.n hq.n
 have s2:=cW (b:=2) aF hp.d hq.d
 have zz:∀ {x:Int},sz 2 x<=YY->Z x:=fun h=>by simp only [Z,YY]at *;omega
 have m1:=gL p.num q.num (zz hp.n) (zz hq.n)
 have m2:=gL p.den q.den (zz hp.d) (zz hq.d)
 have m5:=nJ (p.num*q.num) ((p.den:Int)*q.den) (by simp only [Y,YY]at *;omega) (by simp only [Y,YY]at *;omega)
 rw [alS]at m5
 generalize p.num*(q.num:Int)=x1 at *
 generalize (p.den:Int)*q.den=x2 at *
 generalize hr:p*q=r at *
 have d1:RR p = .ag [aJ aI (aV DD p.num.natAbs), .bool (decide (p.num<0)),aJ aI (aV DD (p.den:Int).natAbs), .bool (decide ((p.den:Int)<0))]:=IE rfl rfl
 have d2:RR q = .ag [aJ aI (aV DD q.num.natAbs), .bool (decide (q.num<0)),aJ aI (aV DD (q.den:Int).natAbs), .bool (decide ((q.den:Int)<0))]:=IE rfl rfl
 rw [d1,d2]
 generalize (p.den:Int)=pd at *
 generalize (q.den:Int)=qd at *
 generalize p.num=pn at *
 generalize q.num=qn at *
 apply cG [(0, .ag [aJ aI (aV DD pn.natAbs), .bool (decide (pn<0)),aJ aI (aV DD pd.natAbs), .bool (decide (pd<0))]),(1, .ag [aJ aI (aV DD qn.natAbs), .bool (decide (qn<0)),aJ aI (aV DD qd.natAbs), .bool (decide (qd<0))])] Tryz.func226
 apply kR [2,3,4]
 apply kZ m1
 apply fV m2 m5
 exact gI [4]
theorem II(p q:Rat)(hp:ZR YY p)(hq:ZR YY q)(h0:q≠0):aC 230 [RR p,RR q] (RR (p/q)):=by
 have s1:=cW (b:=2) aF hp.n hq.d
 have s2:=cW (b:=2) aF hp.d hq.n
 have zz:∀ {x:Int},sz 2 x<=YY->Z x:=fun h=>by simp only [Z,YY]at *;omega
 have m1:=gL p.num q.den (zz hp.n) (zz hq.d)
 have m2:=gL p.den q.num (zz hp.d) (zz hq.n)
 have m5:=nJ (p.num*q.den) ((p.den:Int)*q.num) (by simp only [Y,YY]at *;omega) (by simp only [Y,YY]at *;omega)
 rw [alT p q h0]at m5
 generalize p.num*(q.den:Int)=x1 at *
 generalize (p.den:Int)*q.num=x2 at *
 generalize hr:p/q=r at *
 have d1:RR p = .ag [aJ aI (aV DD p.num.natAbs), .bool (decide (p.num<0)),aJ aI (aV DD (p.den:Int).natAbs), .bool (decide ((p.den:Int)<0))]:=IE rfl rfl
 have d2:RR q = .ag [aJ aI (aV DD q.num.natAbs), .bool (decide (q.num<0)),aJ aI (aV DD (q.den:Int).natAbs), .bool (decide ((q.den:Int)<0))]:=IE rfl rfl
 rw [d1,d2]
 generalize (p.den:Int)=pd at *
 generalize (q.den:Int)=qd at *
 generalize p.num=pn at *
 generalize q.num=qn at *
 apply cG [(0, .ag [aJ aI (aV DD pn.natAbs), .bool (decide (pn<0)),aJ aI (aV DD pd.natAbs), .bool (decide (pd<0))]),(1, .ag [aJ aI (aV DD qn.natAbs), .bool (decide (qn<0)),aJ aI (aV DD qd.natAbs), .bool (decide (qd<0))])] Tryz.func230
 apply kR [2,3,4]
 apply kZ m1
 apply fV m2 m5
 exact gI [4]
theorem T1:aC 224 [] (RR 0):=by
 have h:=pN 0 1 aF aF
 rw [oM]at h
 apply cG [] Tryz.func224
 apply gJ [0] h [0]
 exact j8
def q9:List Rat->List Rat
 | []=>[]
 | x::l=>if q9 l = []∧x=0 then []else x::q9 l
theorem MM:∀l:List Rat,q9 (l ++ [0])=q9 l
 | []=>by simp [q9]
 | x::l=>by simp [q9,MM l]
theorem abo{x:Rat}(h:x≠0):∀l:List Rat,q9 (l ++ [x])=l ++ [x]
 | []=>by
  show q9 [x] = [x]
  rw [q9,if_neg (fun hh=>h hh.2)];rfl
 | y::l=>by
  have ih:=abo h l
  have hn:¬(l ++ [x] = []∧y=0):=aG
  show q9 (y::(l ++ [x]))=y::(l ++ [x])
  rw [q9,ih,if_neg hn]
abbrev qs(x:List Int):List Rat:=x.map fun(c:Int)=>(c:Rat)
theorem BL:∀x:List Int,q9 (qs x)=qs (aZ x)
 | []=>rfl
 | a::x=>by
  have ih:=BL x
  simp only [qs,List.map_cons]at ih |-
  rw [q9,ih,aZ]
  by_cases h:aZ x = []∧a=0
  ·simp [h]
  ·rw [if_neg h,if_neg (by simpa using h)];simp
@[simp] theorem avr{l:List Rat}:bP 4 (emap re l)=True:=cS fun _=>rfl
@[simp] theorem asl{l:List Rat}:dG (some ⟨v,e,n,emap re l⟩)=True:=cM fun _=>rfl
abbrev PP(l:List Rat):PV:=aJ re l
theorem BM(l:List Rat)(hl:l.length<17592186044416):aC 157 [PP l] (PP (q9 l)):=by
 apply cG [(0,PP l)] Tryz.func157
 apply fK [0] [0,3]
 refine W.seq (W.block ?_)
 refine W.bB (fun k σ=>bF σ [(0,PP l),(3,aB (k:Int))] fun rows clk=>k<=l.length∧q9 l=q9 (l.take k)) l.length ?_ ?_
 ·exact⟨_, .refl,_,_,rfl,aA,aG⟩
 rintro k _ ⟨rows,clk,rfl,hk,hc⟩
 apply W.seq
 refine W.fI (fun σ=>∃(b:Bool),σ=⟨fa [(0,PP l),(3,aB (k:Int)),(16, .bool b)],rows,clk⟩∧(b=true↔0<k∧nth l (k-1)=0)) (fun K hK=>?_) ?_
 ·simp
  by_cases h0:0<k
  ·apply j0 h0 (MJ (nth l (k-1)).num)
   apply eV h0
   refine hK _ _ (aD _ [0,3,16]) ⟨_,rfl,?_⟩
   simp [h0,Rat.num_eq_zero]
  ·apply eV h0
   exact hK _ _ (aD _ [0,3,16]) ⟨_,rfl,by simp [h0]⟩
 rintro _ ⟨b,rfl,hb⟩
 refine W.cond ⟨_,rfl,fun h=>?_,fun h=>?_⟩
 ·obtain⟨h0,h1⟩:=hb.1 h
  refine W.skip (W.block ?_)
  refine W.bY fun K hK=>?_
  apply (cV)
  refine hK _ ⟨k-1,_,Gh.fr [(0,_),(3,aB ((k-1:Nat):Int))] (by simp;omega),aA,_,_,rfl,aA,?_⟩
  rw [hc,show k=(k-1)+1 by omega,bQ aA,h1,MM]
  simp
 ·have h2:q9 l=l.take k:=by
   rw [hc]
   by_cases h0:0<k
   ·have h1:nth l (k-1)≠0:=fun h1=>by simp [hb.2 ⟨h0,h1⟩]at h
    rw [show k=(k-1)+1 by omega,bQ aA]
    exact abo h1 _
   ·have:k=0:=by omega
    subst this;simp [q9]
  apply xY [2]
  apply W.ret
  simp [h2]
def ri(x:Int):List PV:=[aJ aI (aV DD x.natAbs), .bool (decide (x<0)),aJ aI (aV DD 1), .bool false]
@[simp] theorem ahy:ri x = [aJ aI (aV DD x.natAbs), .bool (decide (x<0)),aJ aI (aV DD 1), .bool false]:=rfl
theorem iO(x:Int):re (x:Rat)=ri x:=by
 simp only [re,ri,Rat.num_intCast,Rat.den_intCast]
 congr
theorem uP(x:List Int):PP (qs x)=aJ ri x:=by simp only [PP,aJ,emap,qs,List.map_map,Function.comp_def,iO]
abbrev PI(x:List Int):PV:=aJ ri x
@[simp] theorem avs:bP 4 (emap ri l)=True:=cS fun _=>rfl
@[simp] theorem asm:dG (some ⟨v,e,n,emap ri l⟩)=True:=cM fun _=>rfl
@[simp] theorem aDK:emap ri l ++ [[aJ aI (aV DD x.natAbs), .bool (decide (x<0)),aJ aI (aV DD 1), .bool false]]=emap ri (l ++ [x]):=by simp [emap]
@[simp] theorem aDL{l:List Rat}:emap re l ++ [[aJ aI (aV DD q.num.natAbs), .bool (decide (q.num<0)),aJ aI (aV DD q.den), .bool false]]=emap re (l ++ [q]):=by simp [emap]
@[simp] theorem ayv:iP (emap ri l) i 0 [aJ aI (aV DD x.natAbs), .bool (decide (x<0)),aJ aI (aV DD 1), .bool false]=emap ri (l.set i x):=F0 (n:=4) (fun _=>rfl)
theorem s5(l:List Int)(hl:l.length<17592186044416):aC 157 [PI l] (PI (aZ l)):=by
 have:=BM (qs l) (by simpa using hl)
 rwa [BL,uP,uP]at this
theorem MN(n:Int)(zn:Y n):aC 60 [RI n,RI 1] (.ag (ri n)):=by
 have:=nJ n 1 zn (by have:sz 2 1<=1:=dZ aF aF;simp only [Y];omega)
 rwa [oM,RR,iO]at this
theorem s6:aC 224 [] (.ag (ri 0)):=by
 have:=T1
 rwa [RR,show(0:Rat)=((0:Int):Rat)by simp,iO]at this
theorem T3(n:Int)(h1 : -9223372036854775808<=n∧n<9223372036854775808):aC 12 [aB n,aB 1] (.ag (ri n)):=by
 have:=pN n 1 h1 aF
 rwa [oM,RR,iO]at this
theorem sC(h:sz 2 x<=k)(h1:1<=k):ZR k (x:Rat):=⟨by simpa using h,by simp;exact Nat.le_trans (dZ aF aF) h1⟩
theorem adN(x y:Int)(hx:sz 2 x<=YY)(hy:sz 2 y<=YY):aC 225 [.ag (ri x), .ag (ri y)] (.ag (ri (x+y))):=by
 have:=BK x y (sC hx aF) (sC hy aF)
 rwa [<-Rat.intCast_add,RR,RR,RR,iO,iO,iO]at this
theorem MO(x y:Int)(hx:sz 2 x<=YY)(hy:sz 2 y<=YY):aC 226 [.ag (ri x), .ag (ri y)] (.ag (ri (x*y))):=by
 have:=IH x y (sC hx aF) (sC hy aF)
 rwa [<-Rat.intCast_mul,RR,RR,RR,iO,iO,iO]at this
structure FOK(p:RP):Prop where
 ok:∀c∈p,dH 4294967296 c.2∧c.2.length<4294967296
 len:p.length<1099511627776
theorem adO(p:RP)(h:FOK p):aC 79 [Pg p] (PI (aZ (p.map gv))):=by
 apply cG [(0,Pg p)] Tryz.func79
 have hl:=h.len
 apply fK [0] [0,3]
 refine W.nil 3 3 31 4 aG aF fun K hK=>?_
 refine W.lw [0,3] hK ?_;clear hK K;simp
 apply eE [0,3,6,7]
 refine W.bB (fun k σ=>∃(i ver:Nat),bF σ [(0,Pg p),(3, .own 3 ver 0 i),(6,aB p.length),(7,aB i)] fun rows clk=>rows 3=some ⟨ver,31,4,emap ri ((p.take i).map gv)⟩∧k=p.length-i∧i<=p.length) p.length ?_ ?_
 ·exact⟨_, .refl,0,_,_,_,rfl,by simp [emap],aA,aA⟩
 rintro k _ ⟨i,ver,rows,clk,rfl,hr,hk,hi⟩
 apply cN [0,3,6,7,8]
 refine W.cond ⟨_,rfl,fun h0=>?_,fun h0=>?_⟩
 ·simp at h0
  obtain⟨AE,hc2⟩:=h.ok _ (bO h0)
  have gS:((p.take i).map gv).length=i:=by simp;omega
  have hz:Y (iv (nth p i).1 (nth p i).2):=by
   have h1:=ahp AE
   have h2:sz 2 (iv (nth p i).1 (nth p i).2)=sz 2 (V 4294967296 (nth p i).2):=by unfold iv;split<;>simp [r9]
   simp only [Y];omega
  have hF:=MI (nth p i).1 (nth p i).2 aA AE
  have hM:=MN _ hz
  obtain⟨v,hv⟩:∃v,v=iv (nth p i).1 (nth p i).2:=⟨_,rfl⟩
  rw [<-hv]at hF hM
  apply oR [0,3,4,6,7]
  refine W.bY fun K hK=>?_
  apply o9 hF
  refine bC (rN 1 aF aF) ?_
  apply kZ hM
  apply j1 hr gS
  refine W.lw [0,3,6,7] hK ?_;clear hK K;simp
  refine W.bY (fun K hK=>?_);simp (disch:=omega) [gw]
  refine hK _ ⟨p.length-(i+1),_,aD _ [0,3,6,7],aA,i+1,_,_,_,rfl,?_,aA,aA⟩
  rw [sA h0,show gv (nth p i)=v from hv.symm]
  simp
 ·simp at h0
  have jF:i=p.length:=aA
  subst jF
  apply (jV)
  have ez:(p.map gv).take p.length=p.map gv:=bW aG
  simp (disch:=omega) [gw,hr,ez]
  refine bC (s5 (p.map gv) (by simp;omega)) ?_
  exact gI [2]
theorem xH(l:List Int)(hl:l.length<1099511627776)(hb:∀x∈l, -9223372036854775808<=x∧x<9223372036854775808):aC 97 [aJ aI l] (PI (aZ l)):=by
 apply cG [(0,aJ aI l)] Tryz.func97
 apply fK [0] [0,3]
 refine W.nil 3 3 31 4 aG aF fun K hK=>?_
 refine W.lw [0,3] hK ?_;clear hK K;simp
 apply eE [0,3,6,7]
 refine W.bB (fun k σ=>∃(i ver:Nat),bF σ [(0,aJ aI l),(3, .own 3 ver 0 i),(6,aB l.length),(7,aB i)] fun rows clk=>rows 3=some ⟨ver,31,4,emap ri (l.take i)⟩∧k=l.length-i∧i<=l.length) l.length ?_ ?_
 ·exact⟨_, .refl,0,_,_,_,rfl,by simp [emap],aA,aA⟩
 rintro k _ ⟨i,ver,rows,clk,rfl,hr,hk,hi⟩
 apply cN [0,3,6,7,8]
 refine W.cond ⟨_,rfl,fun h0=>?_,fun h0=>?_⟩
 ·simp at h0
  have gS:(l.take i).length=i:=by simp;omega
  apply oR [0,3,4,6,7]
  refine W.bY fun K hK=>?_
  apply (cV)
  refine bC (T3 (nth l i) (hb _ (bO h0))) ?_
  apply j1 hr gS
  refine W.lw [0,3,6,7] hK ?_;clear hK K;simp
  refine W.bY (fun K hK=>?_);simp (disch:=omega) [gw]
  refine hK _ ⟨l.length-(i+1),_,aD _ [0,3,6,7],aA,i+1,_,_,_,rfl,?_,aA,aA⟩
  rw [bQ h0]
  simp
 ·simp at h0
  have jF:i=l.length:=aA
  subst jF
  apply (jV)
  apply eV hr
  refine bC (s5 l aA) ?_
  exact gI [2]
structure QOK(l:List Rat):Prop where
 ok:∀q∈l,ZR YY q
 len:l.length<1099511627776
theorem alU(k:Nat)(hk:1<=k):ZR k 0:=⟨by show sz 2 0<=k;rw [nG];omega,by show sz 2 1<=k;exact Nat.le_trans (dZ aF aF) hk⟩
theorem QOK.nth{l:List Rat}(h:QOK l)(i:Nat):ZR YY (nth l i):=by
 by_cases hi:i<l.length
 ·exact h.ok _ (bO hi)
 ·rw [kA aA];exact alU _ aF
theorem QOK.qs{x:List Int}(h:∀c∈x,sz 2 c<=YY)(hl:x.length<1099511627776):QOK (qs x):=⟨fun q hq=>by
 simp only [List.mem_map]at hq
 obtain⟨c,hc,rfl⟩:=hq
 exact sC (h c hc) aF,by simpa using hl⟩
@[simp] theorem asn{l:List Rat}:(∀e∈emap re l,∀p∈e,bE p=true)=True:=by simp [emap]
theorem abp(l:List Rat)(i:Nat)(hi:i<9223372036854775808):aC 277 [PP l,aB i] (RR (nth l i)):=by
 have hzero:=T1
 apply cG [(0,PP l),(1,aB i)] Tryz.func277
 apply cN [0,1,4]
 refine W.fI (fun σ=>∃(b:Bool),bF σ [(0,PP l),(1,aB i),(4, .ptr 4 0 0 0),(12, .bool b)] fun rows clk=>(b=true↔l.length<=i)∧rows 4=some ⟨0,31,4,[[.nil, .bool false, .nil, .bool false]]⟩) (fun K hK=>?_) ?_
 ·have hn:¬((i:Int)<0):=by omega
  apply eV hn
  exact hK _ _ (aD _ [0,1,4,12]) ⟨_,_,_,rfl,aG,aG⟩
 rintro _ ⟨b,rows,clk,rfl,hb,dW⟩
 refine W.cond ⟨_,rfl,fun h=>?_,fun h=>?_⟩
 ·have hb:=hb.1 h
  have e:nth l i=0:=kA hb
  rw [e]
  generalize (0:Rat)=z at *
  apply nB hzero
  exact FM dW [4]
 ·have hb:i<l.length:=Nat.lt_of_not_le fun h2=>by simp [hb.2 h2]at h
  apply W.skip
  apply fJ dW [4]
  exact j8
def ahz(a b:List Rat):List Rat:=q9 ((List.range (max a.length b.length)).map fun k=>nth a k+nth b k)
theorem ahA(a b:List Rat)(ha:QOK a)(hb:QOK b):aC 274 [PP a,PP b] (PP (ahz a b)):=by
 have hal:=ha.len;have hbl:=hb.len
 apply cG [(0,PP a),(1,PP b)] Tryz.func274
 obtain⟨M,hM⟩:∃M,M=max a.length b.length:=⟨_,rfl⟩
 apply fK [0,1] [0,1,5]
 refine W.nil 5 5 31 4 aG aF fun K hK=>?_
 refine W.lw [0,1,5] hK ?_;clear hK K;simp
 apply eE [0,1,5,6]
 refine W.bB (fun k σ=>∃(i ver:Nat),bF σ [(0,PP a),(1,PP b),(5, .own 5 ver 0 i),(6,aB i)] fun rows clk=>rows 5=some ⟨ver,31,4,emap re ((List.range i).map fun k=>nth a k+nth b k)⟩∧k=M-i∧i<=M) M ?_ ?_
 ·exact⟨_, .refl,0,_,_,_,rfl,by simp [emap],aA,aA⟩
 rintro k _ ⟨i,ver,rows,clk,rfl,hr,hk,hi⟩
 have em:(if a.length<b.length then(b.length:Int)else(a.length:Int))=M:=by split<;>omega
 have em2:(if b.length<a.length then(a.length:Int)else(b.length:Int))=M:=by split<;>omega
 apply W.seq
 apply W.sr
 simp (disch:=omega) [gw,em,em2]
 apply cO [0,1,5,6,13]
 refine W.cond ⟨_,rfl,fun h=>?_,fun h=>?_⟩
 ·have h:i<M:=by simp at h;omega
  apply (iE)
  have h1:=abp a i aA
  have h2:=abp b i aA
  have h3:=BK _ _ (ha.nth i) (hb.nth i)
  have er:(List.range (i+1)).map (fun k=>nth a k+nth b k)=(List.range i).map (fun k=>nth a k+nth b k) ++ [nth a i+nth b i]:=by rw [List.range_succ];simp
  have gS:((List.range i).map fun k=>nth a k+nth b k).length=i:=aG
  generalize ((List.range i).map fun k=>nth a k+nth b k)=acc at *
  generalize nth a i+nth b i=q at *
  generalize nth a i=u at *
  generalize nth b i=v at *
  refine W.bY fun K hK=>?_
  apply kZ h1
  apply fV h2 h3
  apply j1 hr gS
  refine W.lw [0,1,5,6] hK ?_;clear hK K;simp
  refine W.bY (fun K hK=>?_);simp (disch:=omega) [gw]
  refine hK _ ⟨M-(i+1),_,aD _ [0,1,5,6],aA,i+1,_,_,_,rfl,by rw [er];simp,aA,aA⟩
 ·have h:i=M:=by simp at h;omega
  subst h
  apply (gK)
  have gS:((List.range i).map fun k=>nth a k+nth b k).length=i:=aG
  rw [ahz,<-hM]
  generalize ((List.range i).map fun k=>nth a k+nth b k)=acc at *
  have ez:=bW gS
  apply W.sr
  simp (disch:=omega) [gw,hr,ez]
  refine bC (BM acc aA) ?_
  exact gI [4]
def nK(a:List Rat)(c:Rat):List Rat:=q9 (a.map fun x=>x*c)
theorem tQ(a:List Rat)(c:Rat)(ha:QOK a)(hc:ZR YY c):aC 201 [PP a,RR c] (PP (nK a c)):=by
 have hal:=ha.len
 refine dJ (E:=env) (fun id=>if id=5 then 2 else 0) [(0,PP a),(1,RR c)] Tryz.func201 rfl cT cT (show 2<=24 by decide) aG ?_
 apply fK [0,3] [0,3,5]
 refine W.nil 5 5 31 4 aG aF fun K hK=>?_
 refine W.lw [0,3,5] hK ?_;clear hK K;simp
 apply eE [0,3,5,8,9]
 refine W.bB (fun k σ=>∃(i ver:Nat),bF σ [(0,PP a),(3, .ptr 3 0 0 0),(5, .own 5 ver 0 i),(8,aB a.length),(9,aB i)] fun rows clk=>rows 5=some ⟨ver,31,4,emap re ((a.take i).map fun x=>x*c)⟩∧rows 3=some ⟨0,31,4,[re c]⟩∧k=a.length-i∧i<=a.length) a.length ?_ ?_
 ·exact⟨_, .refl,0,_,_,_,rfl,by simp [emap],aG,aA,aA⟩
 rintro k _ ⟨i,ver,rows,clk,rfl,hr,bK,hk,hi⟩
 apply cN [0,3,5,8,9,10]
 refine W.cond ⟨_,rfl,fun h=>?_,fun h=>?_⟩
 ·simp at h
  apply oR [0,3,5,6,8,9]
  have h3:=IH _ _ (ha.nth i) hc
  have er:=sA (f:=fun x=>x*c) h
  have gS:((a.take i).map fun x=>x*c).length=i:=by simp;omega
  generalize (a.take i).map (fun x=>x*c)=acc at *
  generalize hq:nth a i*c=q at *
  refine W.K1 fun K hK=>?_
  rw [if_pos rfl,gO]
  apply j0 bK h3
  apply zD hr bK gS
  refine W.lw [0,3,5,8,9] hK ?_;clear hK K;simp
  refine W.bY (fun K hK=>?_);simp (disch:=omega) [gw]
  refine hK _ ⟨a.length-(i+1),_,aD _ [0,3,5,8,9],aA,i+1,_,_,_,rfl,by rw [er];simp,by simp [bK],aA,aA⟩
 ·simp at h
  have jF:i=a.length:=aA
  subst jF
  apply (gK)
  rw [List.take_length]at hr
  rw [nK]
  have gS:(a.map fun x=>x*c).length=a.length:=aG
  generalize a.map (fun x=>x*c)=acc at *
  have ez:=bW gS
  apply W.sr
  simp (disch:=omega) [gw,hr,ez]
  refine bC (BM acc aA) ?_
  exact gI [4]
theorem T4(a:List Rat)(ha:QOK a):aC 161 [PP a] (PP (nK a (-1))):=by
 have h1:=pN (-1) 1 aF aF
 rw [oM,show(((-1:Int)):Rat) = -1 by simp]at h1
 have h2:=tQ a (-1) ha ⟨by show sz 2 (-1)<=YY;exact Nat.le_trans (dZ (k:=1) aF aF) aF,by show sz 2 1<=YY;exact Nat.le_trans (dZ (k:=1) aF aF) aF⟩
 generalize (-1:Rat)=c at *
 apply cG [(0,PP a)] Tryz.func161
 apply aQ [0]
 apply n7 h1 h2
 exact gI [2]
theorem ahB(x:List Int)(k:Nat):nth (qs x) k=((nth x k:Int):Rat):=FX (f:=fun(c:Int)=>(c:Rat)) rfl x k
theorem MP(x:List Int)(c:Int):nK (qs x) (c:Rat)=qs (bJ x c):=by
 rw [nK,bJ,<-BL]
 congr 1
 simp [qs,Function.comp_def]
theorem YQ(x:List Int):bJ x (-1)=jP x:=by simp [bJ,jP]
theorem MQ(x:List Int)(hx:Bd 2 YY 1099511627775 x):aC 161 [PI x] (PI (jP x)):=by
 have:=T4 (qs x) (.qs hx.sz (by have:=hx.len;omega))
 rwa [show(-1:Rat)=((-1:Int):Rat)by simp,MP,YQ,uP,uP]at this
theorem T5(x:List Int)(c:Int)(hx:Bd 2 YY 1099511627775 x)(hc:sz 2 c<=YY):aC 201 [PI x, .ag (ri c)] (PI (bJ x c)):=by
 have:=tQ (qs x) c (.qs hx.sz (by have:=hx.len;omega)) (sC hc aF)
 rwa [MP,uP,uP,RR,iO]at this
theorem s7(x y:List Int)(s s' n n':Nat)(hs:Bd 2 s n x)(CO:Bd 2 s' n' y)(hB:s+s'+n+n'<YY):aC 199 [PI x,PI y] (PI (cB x y)):=by
 have hlx:=hs.len;have hly:=CO.len
 have hB2:s+s'+n+n'<137438953472:=hB
 refine dJ (E:=env) (fun id=>if id=15 then 1 else 0) [(0,PI x),(1,PI y)] Tryz.func199 rfl cT cT (show 2<=69 by decide) aG ?_
 apply cN [0,1]
 refine W.fI (fun σ=>∃(b:Bool),σ=⟨fa [(0,PI x),(1,PI y),(16, .bool b)],fun _=>none,0⟩∧(b=true↔x = []∨y = [])) (fun K hK=>?_) ?_
 ·simp
  have e1:((x.length:Int)==0)=decide (x = []):=by
   cases x<;>simp<;>omega
  have e2:((y.length:Int)==0)=decide (y = []):=by
   cases y<;>simp<;>omega
  rw [e1]
  by_cases h0:x = []
  ·have e3:decide (x = [])=true:=by simp [h0]
   rw [e3]
   simp
   exact hK _ _ (aD _ [0,1,16]) ⟨_,rfl,by simp [h0]⟩
  ·have e3:decide (x = [])=false:=by simp [h0]
   rw [e3]
   simp
   exact hK _ _ (aD _ [0,1,16]) ⟨_,rfl,by rw [e2];simp [h0]⟩
 rintro _ ⟨b,rfl,hb⟩
 refine W.cond ⟨_,rfl,fun h=>?_,fun h=>?_⟩
 ·have e:cB x y = []:=by
   have h1:=hb.1 h
   refine Cn.ext (Cn.cB _ _) Cn.nil fun t=>?_
   rw [eF]
   rcases h1 with rfl | rfl<;>simp [V]
  apply aQ [4]
  apply W.ret
  simp [go,e]
  rfl
 ·have h1:¬(x = []∨y = []):=fun h2=>by simp [hb.2 h2]at h
  have sB:0<x.length:=List.length_pos_iff.2 fun h2=>h1 (.inl h2)
  have YL:0<y.length:=List.length_pos_iff.2 fun h2=>h1 (.inr h2)
  clear h hb h1
  have e0:((x.length:Int)+(y.length:Int)-1).toNat=x.length+y.length-1:=aA
  have e9:((x.length+y.length-1:Nat):Int)=(x.length:Int)+(y.length:Int)-1:=aA
  apply W.skip
  apply W.sr
  simp (disch:=omega) [gw,e0]
  apply cO [0,1,5]
  apply eE [0,1,5,25,26]
  refine W.bB (fun k σ=>∃(i ver:Nat) (els:List (List PV)) (rows:Pm.Rows) (clk:Nat),σ=⟨fa [(0,PI x),(1,PI y),(5, .own 23 ver 0 (x.length+y.length-1)),(25,aB ((x.length+y.length-1:Nat):Int)),(26,aB i)],rows,clk⟩ ∧
   rows 23=some ⟨ver,31,4,els⟩∧els.length=x.length+y.length-1∧(∀e∈els,e.length=4)∧els.take i=emap ri (List.replicate i 0)∧k=x.length+y.length-1-i∧i<=x.length+y.length-1) (x.length+y.length-1) ?_ ?_
  ·exact⟨_,Gh.fr [(0,PI x),(1,PI y),(5, .own 23 0 0 (x.length+y.length-1)),(25,aB ((x.length+y.length-1:Nat):Int)),(26,aB (0:Nat))] aG,0,_,List.replicate (x.length+y.length-1) [.nil, .bool false, .nil, .bool false],_,_,rfl,by simp [e0],aG,aG,by simp [emap],aA,aA⟩
  rintro k _ ⟨i,ver,els,rows,clk,rfl,hr,pS,T6,uY,hk,hi⟩
  have YJ:bP 4 els=True:=by simp only [bP,eq_iff_iff,iff_true];exact T6
  apply cN [0,1,5,25,26,27]
  refine W.cond ⟨_,rfl,fun h=>?_,fun h=>?_⟩
  ·have h:i<x.length+y.length-1:=by simp at h;omega
   apply oR [0,1,5,6,25,26]
   refine W.bY fun K hK=>?_
   apply kZ s6
   have zI:i<els.length:=aA
   have hE:yO els i 4=True:=by
    simp only [eq_iff_iff,iff_true]
    exact⟨els[i],List.getElem?_eq_getElem zI,by rw [T6 _ (List.getElem_mem zI)];omega⟩
   have hS:iP els i 0 [aJ aI (aV DD 0), .bool false,aJ aI (aV DD 1), .bool false]=els.set i (ri 0):=by
    have h4:=T6 _ (List.getElem_mem zI)
    rw [iP,List.getElem?_eq_getElem zI]
    simp [List.drop_of_length_le,h4]
   apply zD hr hE hS
   refine W.lw [0,1,5,25,26] hK ?_;clear hK K;simp
   refine W.bY (fun K hK=>?_);simp (disch:=omega) [gw]
   refine hK _ ⟨x.length+y.length-1-(i+1),_,aD _ [0,1,5,25,26],aA,i+1,ver,els.set i (ri 0),_,_,rfl,aG,by simpa using pS,fun e he=>?_,?_,aA,aA⟩
   ·rcases List.mem_or_eq_of_mem_set he with h1 | h1
    ·exact T6 e h1
    ·rw [h1];rfl
   ·rw [oT uY aA,List.replicate_succ']
    simp [emap]
  ·have h:i=x.length+y.length-1:=by simp at h;omega
   subst h
   have oY:els=emap ri (List.replicate (x.length+y.length-1) 0):=by rw [<-uY,bW pS]
   subst oY
   clear uY T6 pS YJ hk hi
   apply (gK)
   apply eE [0,1,5,35,36]
   refine W.bB (fun k σ=>∃(i:Nat) (z:List Int) (ver:Nat),bF σ [(0,PI x),(1,PI y),(5, .own 23 ver 0 (x.length+y.length-1)),(35,aB x.length),(36,aB i)] fun rows clk =>
    rows 23=some ⟨ver,31,4,emap ri z⟩∧k=x.length-i∧i<=x.length∧z.length=x.length+y.length-1∧(∀j,sz 2 (nth z j)<=s+s'+i) ∧
    ∀t,V t z=V t (x.take i)*V t y) x.length ?_ ?_
   ·refine⟨_, .refl,0,List.replicate (x.length+y.length-1) 0,_,_,_,rfl,hr,aA,aA,aG,fun j=>?_,fun t=>by simp [V,uN]⟩
    have:Bd 2 0 (x.length+y.length-1) (List.replicate (x.length+y.length-1) 0):=⟨aG,fun c hc=>by rw [(List.mem_replicate.1 hc).2,nG];omega⟩
    have:=this.nth j
    omega
   clear hr rows clk
   rintro k _ ⟨i,z,ver,rows,clk,rfl,hr,hk,hi,hz,J8,hV⟩
   apply cN [0,1,5,35,36,37]
   refine W.cond ⟨_,rfl,fun h=>?_,fun h=>?_⟩
   ·simp at h
    apply (iE)
    apply fK [0,1,5,7,35,36] [0,1,5,7,35,36,40,41]
    apply W.block
    refine W.bB (fun m σ=>∃(k:Nat) (z:List Int) (ver:Nat),bF σ [(0,PI x),(1,PI y),(5, .own 23 ver 0 (x.length+y.length-1)),(7,aB i),(35,aB x.length),(36,aB i),(40,aB y.length),(41,aB k)] fun rows clk =>
     rows 23=some ⟨ver,31,4,emap ri z⟩∧m=y.length-k∧k<=y.length∧z.length=x.length+y.length-1∧(∀j,sz 2 (nth z j)<=s+s'+i+1)∧(∀j,i+k<=j->sz 2 (nth z j)<=s+s'+i) ∧
     ∀t,V t z=V t (x.take i)*V t y+t^i*nth x i*V t (y.take k)) y.length ?_ ?_
    ·refine⟨_, .refl,0,z,ver,_,_,rfl,by simpa using hr,aA,aA,hz,fun j=>by have:=J8 j;omega,fun j _=>J8 j,fun t=>by simp [V,hV]⟩
    clear hV J8 hz hr z ver rows clk
    rintro m _ ⟨k,z,ver,rows,clk,rfl,hr,hm,hky,hz,J8,YM,hV⟩
    apply cN [0,1,5,7,35,36,40,41,42]
    refine W.cond ⟨_,rfl,fun h2=>?_,fun h2=>?_⟩
    ·simp at h2
     apply oR [0,1,5,7,8,35,36,40,41]
     have e1:((i:Int)+(k:Int)).toNat=i+k:=aA
     have MG:sz 2 (nth x i*nth y k)<=s+s'+i:=Nat.le_trans (cW aF (hs.nth i) (CO.nth k)) aA
     have hm2:=qH (b:=2) aF (YM (i+k) (Nat.le_refl _)) MG
     have hlz:i+k<z.length:=aA
     have c1:=MO (nth x i) (nth y k) (Nat.le_trans (hs.nth i) (by show _<=137438953472;omega)) (Nat.le_trans (CO.nth k) (by show _<=137438953472;omega))
     have c2:=adN (nth z (i+k)) (nth x i*nth y k) (Nat.le_trans (YM (i+k) (Nat.le_refl _)) (by show _<=137438953472;omega)) (Nat.le_trans MG (by show _<=137438953472;omega))
     have YH:=fun t=>L9 (b:=t) (x:=nth z (i+k)+nth x i*nth y k) hlz
     generalize hu:nth z (i+k)+nth x i*nth y k=u at *
     generalize hpq:nth x i*nth y k=pq at *
     refine W.K1 fun K hK=>?_
     rw [if_pos rfl,gO]
     simp (disch:=omega) [gw,hr,e1]
     apply j9 c1
     simp (disch:=omega) [gw,hr,e1]
     apply j9 c2
     simp (disch:=omega) [gw,hr,e1]
     refine W.lw [0,1,5,7,35,36,40,41] hK ?_;clear hK K;simp
     refine W.bY (fun K hK=>?_);simp (disch:=omega) [gw]
     refine hK _ ⟨y.length-(k+1),_,aD _ [0,1,5,7,35,36,40,41],aA,k+1,z.set (i+k) u,ver,_,_,rfl,aG,aA,aA,by simpa using hz,fun j=>?_,fun j hj=>?_,fun t=>?_⟩
     ·by_cases hj:i+k=j
      ·subst hj;rw [gP hlz];exact hm2
      ·rw [jL hj];exact J8 j
     ·rw [jL aA];exact YM j aA
     ·rw [YH,bG h2,hV,Int.pow_add,<-hu,<-hpq];clear hV YH;grind
    ·simp at h2
     have CN:k=y.length:=aA
     subst CN
     apply (gK)
     refine W.bY (fun K hK=>?_);simp (disch:=omega) [gw]
     refine hK _ ⟨x.length-(i+1),_,aD _ [0,1,5,35,36],aA,i+1,z,ver,_,_,rfl,hr,aA,aA,hz,fun j=>by have:=J8 j;omega,fun t=>?_⟩
     rw [hV,bM (Nat.le_refl _),bG h];grind
   ·simp at h
    have jF:i=x.length:=aA
    subst jF
    have xF:=bW hz
    apply (jV)
    apply j1 hr xF
    refine bC (s5 z aA) ?_
    apply bT [4]
    apply W.ret
    have e:aZ z=cB x y:=by
     refine Cn.ext (Cn.cut _) (Cn.cB _ _) fun t=>?_
     rw [dU,hV,eF,bM (Nat.le_refl _)]
    simp [go,e]
theorem mC(v n:Int)(hv : -9223372036854775808<=v∧v<9223372036854775808)(hn:0<n)(hn2:n<4611686018427387904):aC 13 [aB v,aB n] (aB (v%n)):=by
 have hn0:n≠0:=aA
 have h12:(v.tmod n=v%n∨(v.tmod n<0∧v.tmod n+n=v%n)) ∧ -n<v.tmod n∧v.tmod n<n:=by
  have h2:=Int.emod_nonneg v hn0
  have h3:=Int.emod_lt_of_pos v hn
  rcases(show v<0∨0<=v by omega)with h | h
  ·have h4:=Int.tmod_eq_emod (a:=v) (b:=n)
   have h5:(n.natAbs:Int)=n:=aA
   split at h4
   ·simp at h4;omega
   ·rename_i h6
    rw [h5]at h4
    have h7:v%n≠0:=fun h8=>h6 (.inr (Int.dvd_of_emod_eq_zero h8))
    omega
  ·rw [Int.tmod_eq_emod_of_nonneg h];omega
 obtain⟨h1,h2⟩:=h12
 have h5:=Int.emod_nonneg v hn0
 have h6:=Int.emod_lt_of_pos v hn
 have hnn:¬n<1:=aA
 apply cG [(0,aB v),(1,aB n)] Tryz.func13
 apply aQ [0,1]
 apply cQ [0,1,7]
 refine W.cond ⟨_,rfl,fun h=>?_,fun h=>?_⟩
 ·exfalso;simp at h;omega
 ·apply W.skip
  generalize hm:v.tmod n=m at *
  generalize v%n=r at *
  apply W.sr
  simp (disch:=omega) [gA,hn0,hm]
  apply cO [1,5]
  refine W.iS (fun σ=>∃(rows:Pm.Rows) (clk:Nat),σ=⟨fa [(5,aB r)],rows,clk⟩) ?_ ?_
  ·
   apply aQ [1,5,12]
   refine W.cond ⟨_,rfl,fun h=>?_,fun h=>?_⟩
   ·simp at h
    refine W.bY (fun K hK=>?_);simp (disch:=omega) [gw]
    exact hK _ ⟨_,Gh.fr [(5,aB r)] (by simp;omega),_,_,rfl⟩
   ·simp at h
    apply W.skip
    exact⟨_,Gh.fr [(5,aB r)] (by simp;omega),_,_,rfl⟩
  rintro _ ⟨rows,clk,rfl⟩
  exact eY [4]
structure PB(x:List Int):Prop where
 sz:∀c∈x,Sz c
 len:x.length<1099511627775
theorem PB.K4{x:List Int}(h:PB x):x6 (x.map xZ):=x6.alJ h.sz (by have:=h.len;omega)
theorem PB.of{x:List Int}(h:Bd LL s n x)(hs:s<1099511627775)(hn:n<1099511627775):PB x:=⟨fun c hc=>Nat.lt_of_le_of_lt (h.sz c hc) aA,Nat.lt_of_le_of_lt h.len hn⟩
theorem adQ{x y:List Int}(hx:PB x)(hy:PB y):aC 182 [Po x,Po y] (Po (kC x y)):=by
 have:=ahj _ _ hx.K4 hy.K4
 rwa [cZ,cZ,<-lM,<-lM]at this
theorem MR{x y:List Int}(hx:PB x)(hy:PB y):aC 186 [Po x,Po y] (Po (iB x y)):=by
 have:=ahk _ _ hx.K4 hy.K4
 rwa [cZ,cZ,<-lM,<-lM]at this
theorem MS{x:List Int}(hx:PB x):aC 139 [Po x] (Po (jP x)):=by
 have:=ahl _ hx.K4
 rwa [cZ,<-lM]at this
theorem fG{x:List Int}(hx:PB x):aC 64 [Po x] (Po (aZ x)):=by
 have:=kT _ hx.K4
 rwa [cZ,<-lM]at this
theorem adR{a:RP}{y:List Int}(ha:x6 a)(hs:Bd LL s n (a.map gv))(CO:Bd LL s' n' y)(hB:s+s'+n+n'<1099511627775):aC 15 [Pg a,Po y] (Po (cB (a.map gv) y)):=by
 have:=ahm a (y.map xZ) ha (PB.of CO aA aA).K4 s s' n n' hs (by rwa [cZ]) hB
 rwa [cZ,<-lM]at this
theorem DF{x y:List Int}(hs:Bd LL s n x)(CO:Bd LL s' n' y)(hB:s+s'+n+n'<1099511627775):aC 15 [Po x,Po y] (Po (cB x y)):=by
 have:=adR (PB.of hs aA aA).K4 (by rwa [cZ]) CO hB
 rwa [cZ,<-lM]at this
theorem maps{α:Type}{g:α->List PV}{R:List PV->Prop}{Q:α->Prop}(h:∀ps,R ps -> ∃a,ps=g a∧Q a):∀ {l:List (List PV)},(∀x∈l,R x) -> ∃m:List α,l=m.map g ∧ ∀a∈m,Q a
 | [],_=>⟨[],rfl,fun _ h=>(by cases h)⟩
 | x::l,hx=>by
  obtain⟨a,rfl,ha⟩:=h x (hx x aG)
  obtain⟨m,rfl,hm⟩:=maps h (l:=l) fun y hy=>hx y (by simp [hy])
  exact⟨a::m,rfl,fun b hb=>by
   rcases List.mem_cons.1 hb with rfl | hb
   ·exact ha
   ·exact hm b hb⟩
theorem alV:vV Tryz.prog 3 (fun q=>∃n:Int,q=aB n ∧ -9223372036854775808<=n∧n<9223372036854775808):=
 (vV.int .i64 cT).mono fun q ⟨n,h1,h2,h3⟩=>⟨n,h1,by simpa [IntKind.min,IntKind.signed,IntKind.bits]using h2,by simp [IntKind.max,IntKind.signed,IntKind.bits]at h3;omega⟩
theorem own:ownKnob Tryz.prog.godebug=none:=by kernel_rfl
theorem laidOut:laidOutB Tryz.prog=true:=by kernel_rfl
end Go.Proofs.YtiobceocpabjdaaGreat
