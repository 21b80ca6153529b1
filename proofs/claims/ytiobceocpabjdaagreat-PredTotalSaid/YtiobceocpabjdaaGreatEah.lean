import Derived.ProofKit
import Derived.JoinedOf
import Derived.SizedLaws
import Derived.Carry
import Derived.Deep.Slices
import Derived.Test.YtiobceocpabjdaaGreatEad
import Derived.Test.YtiobceocpabjdaaGreatEaf
import Derived.Test.YtiobceocpabjdaaGreatEag
set_option linter.unusedSimpArgs false
set_option linter.unusedVariables false
namespace Go.Proofs.YtiobceocpabjdaaGreat
open Go Pm
theorem pB.nil:pB []:=⟨cM.nil,by simp⟩
theorem mL.WK{l:List (Bool × List Int)}(h:mL l)(i:Nat):pB (Pm.nth l i).2:=by
 by_cases hi:i<l.length
 ·exact h.nth hi
 ·rw [gE (by omega)];exact pB.nil
theorem tO(l:List (Bool × List Int))(k:Nat):nth (l.map gv) k=gv (nth l k):=Pm.rW (f:=gv) rfl l k
theorem vD(x:Int):iv (decide (x<0)) (aU LL x.natAbs)=x:=S1 x
theorem s8{x y:Int}(hx:Sz x)(hy:Sz y):aH env.P 66 [I x,I y] (I (x*y)):=by
 have:=KI (decide (x<0)) (decide (y<0)) (aU LL x.natAbs) (aU LL y.natAbs) hx.WJ hy.WJ
 rwa [vD,vD]at this
theorem abi{x y:Int}(hx:Sz x)(hy:Sz y):aH env.P 65 [I x,I y] (I (x+y)):=by
 have:=BR (decide (x<0)) (decide (y<0)) (aU LL x.natAbs) (aU LL y.natAbs) hx.WJ hy.WJ
 rwa [vD,vD]at this
theorem aij{x:Int}(hx:Sz x):aH env.P 148 [I x] (I (-x)):=by
 have:=BQ (decide (x<0)) (aU LL x.natAbs) hx.WJ
 rwa [vD]at this
theorem abj{x:Int}(hx:Sz x):aH env.P 132 [I x] (I x):=by
 have:=oE (decide (x<0)) (aU LL x.natAbs) hx.WJ
 rwa [vD]at this
theorem abk(a b:List (Bool × List Int))(ha:mL a)(hb:mL b)(k:Nat)(hk:k<9223372036854775808):aH env.P 242 [.int .i64 (k:Int), .rd [Pg a], .rd [Pg b]] (I (nth (a.map gv) k+nth (b.map gv) k)):=by
 refine cY (E:=env) (fun _=>0) [(0, .int .i64 (k:Int)),(1, .rd [Pg a]),(2, .rd [Pg b])] Tryz.func242 rfl (by kernel_rfl) (by kernel_rfl) (show 3≤12 by decide) (by simp) ?_
 have:=ha.len;have:=hb.len
 refine W.eA (fun K hK=>?_)
 simp (disch:=omega) [gA,wA]
 refine W.lv [0,1,2,4] hK fun J j=>?_;clear hK K;simp;refine j _ ?_;clear j J
 refine W.aa2 (fun K hK=>?_)
 simp (disch:=omega) [gA,wA]
 refine aD (HA a k ha.len hk) ?_
 simp (disch:=omega) [gA,wA]
 refine aD (HA b k hb.len hk) ?_
 simp (disch:=omega) [gA,wA]
 refine aD (BR _ _ _ _ (ha.WK k) (hb.WK k)) ?_
 simp (disch:=omega) [gA,wA]
 refine W.lv [4] hK fun J j=>?_;clear hK K;simp;refine j _ ?_;clear j J
 refine W.ret ?_
 rw [tO,tO]
 simp [go,gv]
theorem abl(a b:List (Bool × List Int))(ha:mL a)(hb:mL b)(k:Nat)(hk:k<9223372036854775808):aH env.P 247 [.int .i64 (k:Int), .rd [Pg a], .rd [Pg b]] (I (nth (a.map gv) k-nth (b.map gv) k)):=by
 refine cY (E:=env) (fun _=>0) [(0, .int .i64 (k:Int)),(1, .rd [Pg a]),(2, .rd [Pg b])] Tryz.func247 rfl (by kernel_rfl) (by kernel_rfl) (show 3≤12 by decide) (by simp) ?_
 have:=ha.len;have:=hb.len
 refine W.eA (fun K hK=>?_)
 simp (disch:=omega) [gA,wA]
 refine W.lv [0,1,2,4] hK fun J j=>?_;clear hK K;simp;refine j _ ?_;clear j J
 refine W.aa2 (fun K hK=>?_)
 simp (disch:=omega) [gA,wA]
 refine aD (HA a k ha.len hk) ?_
 simp (disch:=omega) [gA,wA]
 refine aD (HA b k hb.len hk) ?_
 simp (disch:=omega) [gA,wA]
 refine aD (abh _ _ _ _ (ha.WK k) (hb.WK k)) ?_
 simp (disch:=omega) [gA,wA]
 refine W.lv [4] hK fun J j=>?_;clear hK K;simp;refine j _ ?_;clear j J
 refine W.ret ?_
 rw [tO,tO]
 simp [go,gv]
theorem abm(a:List (Bool × List Int))(ha:mL a)(k:Nat)(hk:k<a.length):aH env.P 216 [.int .i64 (k:Int), .rd [Pg a]] (I (- nth (a.map gv) k)):=by
 refine cY (E:=env) (fun _=>0) [(0, .int .i64 (k:Int)),(1, .rd [Pg a])] Tryz.func216 rfl (by kernel_rfl) (by kernel_rfl) (show 2≤9 by decide) (by simp) ?_
 have:=ha.len
 refine W.eA (fun K hK=>?_)
 simp (disch:=omega) [gA,wA]
 refine W.lv [0,1,3] hK fun J j=>?_;clear hK K;simp;refine j _ ?_;clear j J
 refine W.eA (fun K hK=>?_)
 simp (disch:=omega) [gA,wA]
 refine aD (BQ _ _ (ha.WK k)) ?_
 simp (disch:=omega) [gA,wA]
 refine W.lv [3] hK fun J j=>?_;clear hK K;simp;refine j _ ?_;clear j J
 refine W.ret ?_
 rw [tO]
 simp [go,gv]
theorem abn(a:List (Bool × List Int))(ha:mL a)(n:Bool)(c:List Int)(hc:pB c)(k:Nat)(hk:k<a.length):aH env.P 241 [.int .i64 (k:Int), .rd [Pg a], .rd [.bool n,us c]] (I (nth (a.map gv) k*iv n c)):=by
 refine cY (E:=env) (fun _=>0) [(0, .int .i64 (k:Int)),(1, .rd [Pg a]),(2, .rd [.bool n,us c])] Tryz.func241 rfl (by kernel_rfl) (by kernel_rfl) (show 3≤11 by decide) (by simp) ?_
 have:=ha.len
 refine W.eA (fun K hK=>?_)
 simp (disch:=omega) [gA,wA]
 refine W.lv [0,1,2,4] hK fun J j=>?_;clear hK K;simp;refine j _ ?_;clear j J
 refine W.aa2 (fun K hK=>?_)
 simp (disch:=omega) [gA,wA]
 refine aD (KI _ _ _ _ (ha.WK k) hc) ?_
 simp (disch:=omega) [gA,wA]
 refine W.lv [4] hK fun J j=>?_;clear hK K;simp;refine j _ ?_;clear j J
 refine W.ret ?_
 rw [tO]
 simp [go,gv]
theorem abo(a b:List (Bool × List Int))(ha:mL a)(hb:mL b):aH env.P 182 [Pg a,Pg b] (Po (eV (a.map gv) (b.map gv))):=by
 refine cY (E:=env) (fun _=>0) [(0,Pg a),(1,Pg b)] Tryz.func182 rfl (by kernel_rfl) (by kernel_rfl) (show 2≤12 by decide) (by simp) ?_
 have WL:=ha.len;have hlb:=hb.len
 refine W.eA (fun K hK=>?_)
 simp (disch:=omega) [gA,wA]
 refine W.lv [2,3] hK fun J j=>?_;clear hK K;simp;refine j _ ?_;clear j J
 refine W.eA (fun K hK=>?_)
 have e:(if a.length<b.length then(b.length:Int)else(a.length:Int))=((max a.length b.length:Nat):Int):=by split<;>omega
 simp (disch:=omega) [gA,wA,e]
 refine aD (qY 242 rfl [.rd [Pg a], .rd [Pg b]] rfl (max a.length b.length) (by omega) (fun k=>nth (a.map gv) k+nth (b.map gv) k) (fun k hk=>abk a b ha hb k (by omega))) ?_
 simp (disch:=omega) [gA,wA]
 refine W.lv [4] hK fun J j=>?_;clear hK K;simp;refine j _ ?_;clear j J
 refine W.ret ?_
 simp [go,eV]
theorem abp(a b:List (Bool × List Int))(ha:mL a)(hb:mL b):aH env.P 186 [Pg a,Pg b] (Po (dA (a.map gv) (b.map gv))):=by
 refine cY (E:=env) (fun _=>0) [(0,Pg a),(1,Pg b)] Tryz.func186 rfl (by kernel_rfl) (by kernel_rfl) (show 2≤12 by decide) (by simp) ?_
 have WL:=ha.len;have hlb:=hb.len
 refine W.eA (fun K hK=>?_)
 simp (disch:=omega) [gA,wA]
 refine W.lv [2,3] hK fun J j=>?_;clear hK K;simp;refine j _ ?_;clear j J
 refine W.eA (fun K hK=>?_)
 have e:(if a.length<b.length then(b.length:Int)else(a.length:Int))=((max a.length b.length:Nat):Int):=by split<;>omega
 simp (disch:=omega) [gA,wA,e]
 refine aD (qY 247 rfl [.rd [Pg a], .rd [Pg b]] rfl (max a.length b.length) (by omega) (fun k=>nth (a.map gv) k-nth (b.map gv) k) (fun k hk=>abl a b ha hb k (by omega))) ?_
 simp (disch:=omega) [gA,wA]
 refine W.lv [4] hK fun J j=>?_;clear hK K;simp;refine j _ ?_;clear j J
 refine W.ret ?_
 simp [go,dA]
theorem E3{α β:Type}[Inhabited α](l:List α)(f:α→β):(List.range l.length).map (fun k=>f (nth l k))=l.map f:=by
 apply List.ext_getElem
 ·simp
 ·intro i h1 h2
  simp at h1
  simp [c9 h1]
theorem abq(a:List (Bool × List Int))(ha:mL a):aH env.P 139 [Pg a] (Po (fW (a.map gv))):=by
 refine cY (E:=env) (fun _=>0) [(0,Pg a)] Tryz.func139 rfl (by kernel_rfl) (by kernel_rfl) (show 1≤7 by decide) (by simp) ?_
 have WL:=ha.len
 refine W.eA (fun K hK=>?_)
 simp (disch:=omega) [gA,wA]
 refine W.lv [1] hK fun J j=>?_;clear hK K;simp;refine j _ ?_;clear j J
 refine W.eA (fun K hK=>?_)
 simp (disch:=omega) [gA,wA]
 refine aD (qY 216 rfl [.rd [Pg a]] rfl a.length (by omega) (fun k => - nth (a.map gv) k) (fun k hk=>abm a ha k hk)) ?_
 simp (disch:=omega) [gA,wA]
 refine W.lv [2] hK fun J j=>?_;clear hK K;simp;refine j _ ?_;clear j J
 refine W.ret ?_
 have e:=E3 (a.map gv) (fun c => -c)
 rw [List.length_map]at e
 rw [e]
 simp [go,fW]
theorem PH(a:List (Bool × List Int))(ha:mL a)(n:Bool)(c:List Int)(hc:pB c):aH env.P 181 [Pg a,IV n c] (Po (aL (a.map gv) (iv n c))):=by
 refine cY (E:=env) (fun _=>0) [(0,Pg a),(1,IV n c)] Tryz.func181 rfl (by kernel_rfl) (by kernel_rfl) (show 2≤9 by decide) (by simp) ?_
 have WL:=ha.len
 refine W.eA (fun K hK=>?_)
 simp (disch:=omega) [gA,wA]
 refine W.lv [2,3] hK fun J j=>?_;clear hK K;simp;refine j _ ?_;clear j J
 refine W.eA (fun K hK=>?_)
 simp (disch:=omega) [gA,wA]
 refine aD (qY 241 rfl [.rd [Pg a], .rd [.bool n,us c]] rfl a.length (by omega) (fun k=>nth (a.map gv) k*iv n c) (fun k hk=>abn a ha n c hc k hk)) ?_
 simp (disch:=omega) [gA,wA]
 refine W.lv [4] hK fun J j=>?_;clear hK K;simp;refine j _ ?_;clear j J
 refine W.ret ?_
 have e:=E3 (a.map gv) (fun a=>a*iv n c)
 rw [List.length_map]at e
 rw [e]
 simp [go,aL]
theorem abr(a b:List (Bool × List Int))(ha:mL a)(hb:mL b)(s s' n n':Nat)(hs:Bd LL s n (a.map gv))(zU:Bd LL s' n' (b.map gv))(hB:s+s'+n+n'<1099511627775) :
  aH env.P 15 [Pg a,Pg b] (Po (bA (a.map gv) (b.map gv))):=by
 refine cY (E:=env) (fun id=>if id=11 then 1 else 0) [(0,Pg a),(1,Pg b)] Tryz.func15 rfl (by kernel_rfl) (by kernel_rfl) (show 2≤62 by decide) (by simp) ?_
 refine W.eA (fun K hK=>?_)
 simp (disch:=omega) [gA,wA]
 refine W.lv [0,1] hK fun J j=>?_;clear hK K;simp;refine j _ ?_;clear j J
 refine W.eA (fun K hK=>?_)
 simp (disch:=omega) [gA,wA]
 refine aD (eG a ha) ?_
 simp (disch:=omega) [gA,wA]
 refine aD (eG b hb) ?_
 simp (disch:=omega) [gA,wA]
 refine W.lv [0,1] hK fun J j=>?_;clear hK K;simp;refine j _ ?_;clear j J
 have e:bA (a.map gv) (b.map gv)=bA (aI (a.map gv)) (aI (b.map gv)):=Cn.ext (Cn.bA _ _) (Cn.bA _ _) fun t=>by simp [c7,cV]
 rw [e]
 replace hs:=hs.cut
 replace zU:=zU.cut
 clear e ha hb
 generalize aI (a.map gv)=x at *
 generalize aI (b.map gv)=y at *
 have hlx:=hs.len;have hly:=zU.len
 refine W.seq ?_
 refine W.gK (fun σ=>∃(b:Bool),σ=⟨fa [(0,Po x),(1,Po y),(21, .bool b)],fun _=>none,0⟩∧(b=true↔x = []∨y = [])) (fun K hK=>?_) ?_
 ·simp
  have e1:((x.length:Int)==0)=decide (x = []):=by
   cases x<;>simp<;>omega
  have e2:((y.length:Int)==0)=decide (y = []):=by
   cases y<;>simp<;>omega
  rw [e1]
  by_cases h0:x = []
  ·have e3:decide (x = [])=true:=by simp [h0]
   rw [e3]
   simp
   exact hK _ _ (aC _ [0,1,21]) ⟨_,rfl,by simp [h0]⟩
  ·have e3:decide (x = [])=false:=by simp [h0]
   rw [e3]
   simp
   exact hK _ _ (aC _ [0,1,21]) ⟨_,rfl,by rw [e2];simp [h0]⟩
 rintro _ ⟨b,rfl,hb⟩
 refine W.cond ⟨_,rfl,fun h=>?_,fun h=>?_⟩
 ·have e:bA x y = []:=by
   have h1:=hb.1 h
   refine Cn.ext (Cn.bA _ _) Cn.nil fun t=>?_
   rw [c7]
   rcases h1 with rfl | rfl<;>simp [V]
  refine W.eA (fun K hK=>?_)
  simp (disch:=omega) [gA,wA]
  refine W.lv [4] hK fun J j=>?_;clear hK K;simp;refine j _ ?_;clear j J
  refine W.ret ?_
  simp [go,e]
  rfl
 ·have h1:¬(x = []∨y = []):=fun h2=>by simp [hb.2 h2]at h
  have oF:0<x.length:=List.length_pos_iff.2 fun h2=>h1 (.inl h2)
  have PJ:0<y.length:=List.length_pos_iff.2 fun h2=>h1 (.inr h2)
  clear h hb h1
  refine W.skip ?_
  refine W.eA (fun K hK=>?_)
  simp (disch:=omega) [gA,wA]
  refine W.lv [0,1,5] hK fun J j=>?_;clear hK K;simp;refine j _ ?_;clear j J
  have e0:((x.length:Int)+(y.length:Int)-1).toNat=x.length+y.length-1:=by omega
  refine W.row (id:=28) (emap ie (List.replicate (x.length+y.length-1) 0)) (by simp;exact⟨rfl,rfl,rfl,by omega⟩) (pC _) ?_
  refine W.seq ?_
  refine W.eA (fun K hK=>?_)
  simp (disch:=omega) [gA,wA]
  refine W.lv [1,5,29,30,31] hK fun J j=>?_;clear hK K;simp;refine j _ ?_;clear j J
  refine W.block ?_
  refine W.a8 (fun k σ=>∃(i:Nat) (z:List Int) (ver:Nat) (rows:Pm.Rows) (clk:Nat),σ=⟨fa [(1,Po y),(5, .own 28 ver 0 (x.length+y.length-1)),(29,Po x),(30, .int .i64 x.length),(31, .int .i64 i)],rows,clk⟩ ∧
   rows 28=some ⟨ver,38,2,emap ie z⟩∧k=x.length-i∧i≤x.length∧z.length=x.length+y.length-1∧(∀j,sz LL (nth z j)≤s+s'+i) ∧
   ∀t,V t z=V t (x.take i)*V t y) x.length ?_ ?_
  ·refine⟨_, .refl,0,List.replicate (x.length+y.length-1) 0,_,_,_,rfl,by simp,by omega,by omega,by simp,fun j=>?_,fun t=>by simp [V,pY]⟩
   ·have:Bd LL 0 (x.length+y.length-1) (List.replicate (x.length+y.length-1) 0):=⟨by simp,fun c hc=>by rw [(List.mem_replicate.1 hc).2,iU];omega⟩
    have:=this.nth j
    omega
  rintro k _ ⟨i,z,ver,rows,clk,rfl,hr,hk,hi,hz,DL,hV⟩
  refine W.eA (fun K hK=>?_)
  simp (disch:=omega) [gA,wA]
  refine W.lv [1,5,29,30,31,32] hK fun J j=>?_;clear hK K;simp;refine j _ ?_;clear j J
  refine W.seq ?_
  refine W.cond ⟨_,rfl,fun h=>?_,fun h=>?_⟩
  ·simp at h
   refine W.skip ?_
   refine W.seq ?_
   refine W.block ?_
   refine W.eA (fun K hK=>?_)
   simp (disch:=omega) [gA,wA]
   refine W.lv [1,5,6,7,29,30,31] hK fun J j=>?_;clear hK K;simp;refine j _ ?_;clear j J
   refine W.eA (fun K hK=>?_)
   simp (disch:=omega) [gA,wA]
   refine W.lv [1,5,6,7,29,30,31,36,37,38] hK fun J j=>?_;clear hK K;simp;refine j _ ?_;clear j J
   refine W.block ?_
   refine W.a8 (fun m σ=>∃(k:Nat) (z:List Int) (ver v7:Nat) (rows:Pm.Rows) (clk:Nat),σ=⟨fa [(1,Po y),(5, .own 28 ver 0 (x.length+y.length-1)),(6, .int .i64 i),(7, .ptr 7 v7 0 0),(29,Po x),(30, .int .i64 x.length),(31, .int .i64 i),(36,Po y),(37, .int .i64 y.length),(38, .int .i64 k)],rows,clk⟩ ∧
    rows 28=some ⟨ver,38,2,emap ie z⟩∧rows 7=some ⟨v7,38,2,[ie (nth x i)]⟩∧m=y.length-k∧k≤y.length∧z.length=x.length+y.length-1∧(∀j,sz LL (nth z j)≤s+s'+i+1)∧(∀j,i+k≤j→sz LL (nth z j)≤s+s'+i) ∧
    ∀t,V t z=V t (x.take i)*V t y+t^i*nth x i*V t (y.take k)) y.length ?_ ?_
   ·refine⟨_, .refl,0,z,ver,_,_,_,rfl,by simpa using hr,by simp,by omega,by omega,hz,fun j=>by have:=DL j;omega,fun j _=>DL j,fun t=>by simp [V,hV]⟩
   clear hV DL hz hr z ver rows clk
   rintro m _ ⟨k,z,ver,v7,rows,clk,rfl,hr,nZ,hm,hky,hz,DL,PK,hV⟩
   refine W.eA (fun K hK=>?_)
   simp (disch:=omega) [gA,wA]
   refine W.lv [1,5,6,7,29,30,31,36,37,38,39] hK fun J j=>?_;clear hK K;simp;refine j _ ?_;clear j J
   refine W.seq ?_
   refine W.cond ⟨_,rfl,fun h2=>?_,fun h2=>?_⟩
   ·simp at h2
    refine W.skip ?_
    refine W.seq ?_
    refine W.block ?_
    refine W.eA (fun K hK=>?_)
    simp (disch:=omega) [gA,wA]
    refine W.lv [1,5,6,7,8,9,29,30,31,36,37,38] hK fun J j=>?_;clear hK K;simp;refine j _ ?_;clear j J
    have e1:((i:Int)+(k:Int)).toNat=i+k:=by omega
    refine W.BI (fun K hK=>?_)
    simp only [if_true]
    rw [fE]
    simp (disch:=omega) [gA,wA,hr,nZ,e1]
    refine aD (s8 (Nat.lt_of_le_of_lt (hs.nth i) (by omega)) (Nat.lt_of_le_of_lt (zU.nth k) (by omega))) ?_
    simp (disch:=omega) [gA,wA,hr,nZ,e1]
    have E4:sz LL (nth x i*nth y k)≤s+s'+i:=Nat.le_trans (cE eB (hs.nth i) (zU.nth k)) (by omega)
    have hm2:=o0 eB (PK (i+k) (Nat.le_refl _)) E4
    have hlz:i+k<z.length:=by omega
    refine aD (abi (Nat.lt_of_le_of_lt (PK (i+k) (Nat.le_refl _)) (by omega)) (Nat.lt_of_le_of_lt E4 (by omega))) ?_
    simp (disch:=omega) [gA,wA,hr,nZ,e1]
    refine W.lv [1,5,6,7,29,30,31,36,37,38] hK fun J j=>?_;clear hK K;simp;refine j _ ?_;clear j J
    refine W.b9 (fun K hK=>?_)
    simp (disch:=omega) [gA,wA]
    refine hK _ ⟨y.length-(k+1),_,aC _ [1,5,6,7,29,30,31,36,37,38],by omega,k+1,z.set (i+k) (nth z (i+k)+nth x i*nth y k),ver,v7,_,_,rfl,by simp,by simp [nZ],by omega,by omega,by simpa using hz,fun j=>?_,fun j hj=>?_,fun t=>?_⟩
    ·by_cases hj:i+k=j
     ·subst hj;rw [eO hlz];exact hm2
     ·rw [gF hj];exact DL j
    ·rw [gF (by omega)];exact PK j (by omega)
    ·rw [EZ hlz,aV h2,hV,Int.pow_add];grind
   ·simp at h2
    have wM:k=y.length:=by omega
    subst wM
    refine W.exit ?_;simp only [pX,if_true,if_false,reduceIte,Nat.reduceEqDiff]
    refine W.b9 (fun K hK=>?_)
    simp (disch:=omega) [gA,wA]
    refine hK _ ⟨x.length-(i+1),_,aC _ [1,5,29,30,31],by omega,i+1,z,ver,_,_,rfl,hr,by omega,by omega,hz,fun j=>by have:=DL j;omega,fun t=>?_⟩
    rw [hV,aZ (Nat.le_refl _),aV h];grind
  ·simp at h
   have mQ:i=x.length:=by omega
   subst mQ
   refine W.exit ?_;simp only [pX,if_true,if_false,reduceIte,Nat.reduceEqDiff]
   have tM:=bJ hz
   refine W.eA (fun K hK=>?_)
   simp (disch:=omega) [gA,wA,hr,tM]
   refine aD (vC z (by omega)) ?_
   simp (disch:=omega) [gA,wA]
   refine W.lv [4] hK fun J j=>?_;clear hK K;simp;refine j _ ?_;clear j J
   refine W.ret ?_
   have e:aI z=bA x y:=by
    refine Cn.ext (Cn.cut _) (Cn.bA _ _) fun t=>?_
    rw [cV,hV,c7,aZ (Nat.le_refl _)]
   simp [go,e]
theorem awd{S:ByteArray}{kk:IntKind}{k:Nat}{K:PV→Prop}(h:(List.range 256).all (fun x=>decide ((S[x]?).map (fun b=>b.toNat)=some (nb x)))=true)(hk:k<256)(hK:go (K (.int .u8 (nb k)))):aX (fun v=>tD .str (.str S) (.int kk (k:Int)) v) K:=by
 have h1:=List.all_eq_true.1 h k (by simpa using hk)
 simp only [decide_eq_true_eq]at h1
 obtain⟨b,hb,h2⟩:=Option.map_eq_some_iff.1 h1
 refine⟨_,⟨by omega,b,by simpa using hb,rfl⟩,?_⟩
 rw [h2];exact hK
theorem E5(n:Int)(h0:0≤n)(h1:n<4294967296):aH env.P 267 [.int .u32 n] (.int .i64 (nb n.toNat)):=by
 refine cY (E:=env) (fun _=>0) [(0, .int .u32 n)] Tryz.func267 rfl (by kernel_rfl) (by kernel_rfl) (show 1≤19 by decide) (by simp) ?_
 refine W.eA (fun K hK=>?_)
 simp (disch:=omega) [gA,wA]
 refine W.lv [0,2] hK fun J j=>?_;clear hK K;simp;refine j _ ?_;clear j J
 refine W.gD (fun σ=>∃(k:Nat) (x:Nat) (rows:Pm.Rows) (clk:Nat),σ=⟨fa [(0, .int .u32 x),(2, .int .i64 k)],rows,clk⟩∧nb n.toNat=k+nb x∧x<65536∧k≤16) ?_ ?_
 ·
  refine W.eA (fun K hK=>?_)
  simp (disch:=omega) [gA,wA]
  refine W.lv [0,2,4] hK fun J j=>?_;clear hK K;simp;refine j _ ?_;clear j J
  refine W.cond ⟨_,rfl,fun h=>?_,fun h=>?_⟩
  ·simp at h
   refine W.eA (fun K hK=>?_)
   simp (disch:=omega) [gA,wA]
   refine W.lv [0] hK fun J j=>?_;clear hK K;simp;refine j _ ?_;clear j J
   refine W.b9 (fun K hK=>?_)
   simp (disch:=omega) [gA,wA]
   refine hK _ ⟨_,Gh.fr [(0, .int .u32 ((n.toNat/65536:Nat):Int)),(2, .int .i64 16)] (by simp;rw [Int.fdiv_eq_ediv_of_nonneg _ (by decide)];omega),16,n.toNat/65536,_,_,rfl,?_,by omega,by omega⟩
   exact KF (k:=16) (by simp;omega)
  ·simp at h
   refine W.skip ?_
   refine⟨_,Gh.fr [(0, .int .u32 (n.toNat:Int)),(2, .int .i64 0)] (by simp;omega),0,n.toNat,_,_,rfl,by simp,by omega,by omega⟩
 rintro _ ⟨k,x,rows,clk,rfl,hn,hx,hk⟩
 refine W.gD (fun σ=>∃(k:Nat) (x:Nat) (rows:Pm.Rows) (clk:Nat),σ=⟨fa [(0, .int .u32 x),(2, .int .i64 k)],rows,clk⟩∧nb n.toNat=k+nb x∧x<256∧k≤24) ?_ ?_
 ·
  refine W.eA (fun K hK=>?_)
  simp (disch:=omega) [gA,wA]
  refine W.lv [0,2,8] hK fun J j=>?_;clear hK K;simp;refine j _ ?_;clear j J
  refine W.cond ⟨_,rfl,fun h=>?_,fun h=>?_⟩
  ·simp at h
   refine W.eA (fun K hK=>?_)
   simp (disch:=omega) [gA,wA]
   refine W.lv [0,2] hK fun J j=>?_;clear hK K;simp;refine j _ ?_;clear j J
   refine W.b9 (fun K hK=>?_)
   simp (disch:=omega) [gA,wA]
   refine hK _ ⟨_,Gh.fr [(0, .int .u32 ((x/256:Nat):Int)),(2, .int .i64 ((k+8:Nat):Int))] (by simp;exact Int.fdiv_eq_ediv_of_nonneg _ (by decide)),k+8,x/256,_,_,rfl,?_,by omega,by omega⟩
   have:=KF (n:=x) (k:=8) (by simp;omega)
   simp at this
   omega
  ·simp at h
   refine W.skip ?_
   refine⟨_,aC _ [0,2],k,x,_,_,rfl,hn,by omega,by omega⟩
 rintro _ ⟨k,x,rows,clk,rfl,hn,hx,hk⟩
 refine W.eA (fun K hK=>?_)
 have hw:IntKind.u8.wrap (x:Int)=x:=wrap_u8 (by omega) (by omega)
 have hz:nb x≤8:=mU.2 hx
 simp only [SS,GU,SU,WD,O9,A9,GL,OP,if_true,if_false,reduceIte,Nat.reduceEqDiff,ali,arp,sV,ahH,hw,J5,reduceCtorEq]
 refine awd (by kernel_rfl) hx ?_
 simp (disch:=omega) only [GU,aaH,EX,aaY,SU,A9,GL,OP,if_true,if_false,reduceIte,Nat.reduceEqDiff,avN,arp,sV,ahH,wrap_i64,F2,jE,aeO,reduceCtorEq,true_and]
 refine W.lv [2] hK fun J j=>?_;clear hK K;simp;refine j _ ?_;clear j J
 refine W.ret ?_
 rw [hn]
 simp [go]
def bl(l:List Int):Int:=if l = []then 0 else 32*((l.length:Int)-1)+nb (nth l (l.length-1)).toNat
theorem KK(l:List Int)(h:pB l):aH env.P 257 [us l] (.int .i64 (bl (aI l))):=by
 refine cY (E:=env) (fun _=>0) [(0,us l)] Tryz.func257 rfl (by kernel_rfl) (by kernel_rfl) (show 1≤20 by decide) (by simp) ?_
 have hl:=h.len
 have NG:=bU l
 have hL:=eC h.wP
 refine W.eA (fun K hK=>?_)
 simp (disch:=omega) [gA,wA]
 refine W.lv [0] hK fun J j=>?_;clear hK K;simp;refine j _ ?_;clear j J
 refine W.eA (fun K hK=>?_)
 simp (disch:=omega) [gA,wA]
 refine aD (dI l (by omega)) ?_
 simp (disch:=omega) [gA,wA]
 refine W.lv [0] hK fun J j=>?_;clear hK K;simp;refine j _ ?_;clear j J
 generalize aI l=x at *
 refine W.seq ?_
 refine W.eA (fun K hK=>?_)
 simp (disch:=omega) [gA,wA]
 refine W.lv [0,7] hK fun J j=>?_;clear hK K;simp;refine j _ ?_;clear j J
 refine W.cond ⟨_,rfl,fun h=>?_,fun h=>?_⟩
 ·have h0:x = []:=by simpa using h
  refine W.eA (fun K hK=>?_)
  simp (disch:=omega) [gA,wA]
  refine W.lv [2] hK fun J j=>?_;clear hK K;simp;refine j _ ?_;clear j J
  refine W.ret ?_
  simp [go,bl,h0]
 ·have h0:0<x.length:=List.length_pos_iff.2 (by simpa using h)
  have hx:=hL.nth (i:=x.length-1) (by omega)
  have e:((x.length:Int)-1).toNat=x.length-1:=by omega
  have hz:nb (nth x (x.length-1)).toNat≤32:=mU.2 (by omega)
  refine W.skip ?_
  refine W.eA (fun K hK=>?_)
  simp (disch:=omega) [gA,wA,e]
  refine aD (E5 _ hx.1 hx.2) ?_
  simp (disch:=omega) [gA,wA]
  refine W.lv [2] hK fun J j=>?_;clear hK K;simp;refine j _ ?_;clear j J
  refine W.ret ?_
  have h1:x ≠ []:=fun h2=>by simp [h2]at h0
  simp [go,bl,h1]
theorem afo{l:List Int}(h:cM 4294967296 l)(hc:aI l=l):bl l=0↔V 4294967296 l=0:=by
 unfold bl
 split
 ·rename_i h0;subst h0;simp [V]
 ·rename_i h0
  have h1:=kJ (by decide) h hc h0
  have h2:0<(4294967296:Int)^(l.length-1):=Int.pow_pos (by decide)
  have h3:0<l.length:=List.length_pos_iff.2 h0
  have h4:=h.nth (i:=l.length-1) (by omega)
  have h5:nth l (l.length-1)≠0:=by
   intro h6
   have e:l=l.take (l.length-1) ++ [0]:=by
    conv=>lhs;rw [←List.take_length (l:=l)]
    rw [←h6,←aT (by omega),show l.length-1+1=l.length by omega]
   rw [e,jH]at hc
   have:=congrArg List.length hc
   have:=bU (l.take (l.length-1))
   simp at *
   omega
  have h6:nb (nth l (l.length-1)).toNat≠0:=by
   intro h7
   have:=mU.1 (Nat.le_of_eq h7)
   simp at this;omega
  omega
theorem KL(n:Bool)(l:List Int)(h:pB l):aH env.P 218 [IV n l] (.int .i64 (iv n l).sign):=by
 refine cY (E:=env) (fun _=>0) [(0,IV n l)] Tryz.func218 rfl (by kernel_rfl) (by kernel_rfl) (show 1≤11 by decide) (by simp) ?_
 have hz:=afo (eC h.wP) (dG l)
 have hp:=qX h
 rw [cV]at hz
 refine W.eA (fun K hK=>?_)
 simp (disch:=omega) [gA,wA]
 refine W.lv [1] hK fun J j=>?_;clear hK K;simp;refine j _ ?_;clear j J
 refine W.seq ?_
 refine W.block ?_
 refine W.eA (fun K hK=>?_)
 simp (disch:=omega) [gA,wA]
 refine aD (KK l h) ?_
 simp (disch:=omega) [gA,wA]
 refine W.lv [1,3] hK fun J j=>?_;clear hK K;simp;refine j _ ?_;clear j J
 refine W.cond ⟨_,rfl,fun hb=>?_,fun hb=>?_⟩
 ·have h0:V 4294967296 l=0:=hz.1 (by simpa using hb)
  refine W.eA (fun K hK=>?_)
  simp (disch:=omega) [gA,wA]
  refine W.lv [2] hK fun J j=>?_;clear hK K;simp;refine j _ ?_;clear j J
  refine W.ret ?_
  simp [go,iv,h0]
 ·have h0:0<V 4294967296 l:=by
   have:V 4294967296 l≠0:=fun h1=>by simp [hz.2 h1]at hb
   omega
  refine W.eA (fun K hK=>?_)
  simp (disch:=omega) [gA,wA]
  refine W.lv [8] hK fun J j=>?_;clear hK K;simp;refine j _ ?_;clear j J
  refine W.cond ⟨_,rfl,fun hn=>?_,fun hn=>?_⟩
  ·subst hn
   refine W.eA (fun K hK=>?_)
   simp (disch:=omega) [gA,wA]
   refine W.lv [2] hK fun J j=>?_;clear hK K;simp;refine j _ ?_;clear j J
   refine W.ret ?_
   have:(- V 4294967296 l).sign = -1:=Int.sign_eq_neg_one_of_neg (by omega)
   simp [go,iv,this]
  ·subst hn
   refine W.skip ?_
   refine W.eA (fun K hK=>?_)
   simp (disch:=omega) [gA,wA]
   refine W.lv [2] hK fun J j=>?_;clear hK K;simp;refine j _ ?_;clear j J
   refine W.ret ?_
   have:(V 4294967296 l).sign=1:=Int.sign_eq_one_of_pos h0
   simp [go,iv,this]
theorem WM{x y:Int}(h:x.sign<y.sign):eD x y = -1:=by
 apply oY
 rcases Int.lt_trichotomy x 0 with h1 | h1 | h1<;>rcases Int.lt_trichotomy y 0 with h2 | h2 | h2<;>first | omega | (simp [Int.sign_eq_neg_one_of_neg,Int.sign_eq_one_of_pos,h1,h2]at h)
theorem PL{x y:Int}(h:y.sign<x.sign):eD x y=1:=by
 apply oZ
 rcases Int.lt_trichotomy x 0 with h1 | h1 | h1<;>rcases Int.lt_trichotomy y 0 with h2 | h2 | h2<;>first | omega | (simp [Int.sign_eq_neg_one_of_neg,Int.sign_eq_one_of_pos,h1,h2]at h)
theorem HB(x y:Int):eD (-x) (-y)=eD y x:=by simp only [eD];split<;>split<;>(try split)<;>(try split)<;>omega
theorem abt(n m:Bool)(l k:List Int)(h:pB l)(h':pB k):aH env.P 144 [IV n l,IV m k] (.int .i64 (eD (iv n l) (iv m k))):=by
 refine cY (E:=env) (fun _=>0) [(0,IV n l),(1,IV m k)] Tryz.func144 rfl (by kernel_rfl) (by kernel_rfl) (show 2≤32 by decide) (by simp) ?_
 have p1:=qX h;have p2:=qX h'
 refine W.eA (fun K hK=>?_)
 simp (disch:=omega) [gA,wA]
 refine W.lv [2,3] hK fun J j=>?_;clear hK K;simp;refine j _ ?_;clear j J
 refine W.aa2 (fun K hK=>?_)
 simp (disch:=omega) [gA,wA]
 refine aD (KL n l h) ?_
 simp (disch:=omega) [gA,wA]
 refine aD (KL m k h') ?_
 simp (disch:=omega) [gA,wA]
 refine W.lv [2,3,5,6] hK fun J j=>?_;clear hK K;simp;refine j _ ?_;clear j J
 refine W.seq ?_
 refine W.block ?_
 refine W.eA (fun K hK=>?_)
 simp (disch:=omega) [gA,wA]
 refine W.lv [2,3,5,6,11] hK fun J j=>?_;clear hK K;simp;refine j _ ?_;clear j J
 refine W.cond ⟨_,rfl,fun h1=>?_,fun h1=>?_⟩
 ·refine W.eA (fun K hK=>?_)
  simp (disch:=omega) [gA,wA]
  refine W.lv [4] hK fun J j=>?_;clear hK K;simp;refine j _ ?_;clear j J
  refine W.ret ?_
  simp [go,WM (of_decide_eq_true h1)]
 ·have h1:=of_decide_eq_false h1
  refine W.eA (fun K hK=>?_)
  simp (disch:=omega) [gA,wA]
  refine W.lv [2,3,5,15] hK fun J j=>?_;clear hK K;simp;refine j _ ?_;clear j J
  refine W.cond ⟨_,rfl,fun h2=>?_,fun h2=>?_⟩
  ·refine W.eA (fun K hK=>?_)
   simp (disch:=omega) [gA,wA]
   refine W.lv [4] hK fun J j=>?_;clear hK K;simp;refine j _ ?_;clear j J
   refine W.ret ?_
   simp [go,PL (of_decide_eq_true h2)]
  ·have h2:=of_decide_eq_false h2
   have h3:(iv n l).sign=(iv m k).sign:=by omega
   refine W.eA (fun K hK=>?_)
   simp (disch:=omega) [gA,wA]
   refine W.lv [2,3,19] hK fun J j=>?_;clear hK K;simp;refine j _ ?_;clear j J
   refine W.cond ⟨_,rfl,fun h4=>?_,fun h4=>?_⟩
   ·have h4:iv n l<0:=by simpa using of_decide_eq_true h4
    have h5:iv m k<0:=by
     rw [Int.sign_eq_neg_one_of_neg h4]at h3
     exact Int.sign_eq_neg_one_iff_neg.1 h3.symm
    have en:n=true:=by cases n;(· simp [iv]at h4;omega);rfl
    have em:m=true:=by cases m;(· simp [iv]at h5;omega);rfl
    subst en;subst em
    refine W.eA (fun K hK=>?_)
    simp (disch:=omega) [gA,wA]
    refine aD (G6 k l h'.len h.len h'.wP h.wP) ?_
    simp (disch:=omega) [gA,wA]
    refine W.lv [4] hK fun J j=>?_;clear hK K;simp;refine j _ ?_;clear j J
    refine W.ret ?_
    simp [go,iv,HB]
   ·have h4:0≤iv n l:=by simpa using of_decide_eq_false h4
    have e1:iv n l=V 4294967296 l:=by
     cases n
     ·simp [iv]
     ·simp [iv]at h4 ⊢;omega
    have h5:0≤iv m k:=by
     have:0≤(iv n l).sign:=Int.sign_nonneg_iff.2 h4
     rw [h3]at this
     exact Int.sign_nonneg_iff.1 this
    have e2:iv m k=V 4294967296 k:=by
     cases m
     ·simp [iv]
     ·simp [iv]at h5 ⊢;omega
    refine W.skip ?_
    refine W.eA (fun K hK=>?_)
    simp (disch:=omega) [gA,wA]
    refine aD (G6 l k h.len h'.len h.wP h'.wP) ?_
    simp (disch:=omega) [gA,wA]
    refine W.lv [4] hK fun J j=>?_;clear hK K;simp;refine j _ ?_;clear j J
    refine W.ret ?_
    simp [go,e1,e2]
theorem ain{x y:Int}(hx:Sz x)(hy:Sz y):aH env.P 144 [I x,I y] (.int .i64 (eD x y)):=by
 have:=abt (decide (x<0)) (decide (y<0)) (aU LL x.natAbs) (aU LL y.natAbs) hx.WJ hy.WJ
 rwa [vD,vD]at this
end Go.Proofs.YtiobceocpabjdaaGreat
namespace Pm
open Go Go.RowKit Go.ChangeShapes Go.WideShapes Go.Deep
def Low(w:World):dV:=fun b _=>b<w.heap.size
theorem KM{w:World}{a:Addr}{v:Value}(h:w.cell? a=some v):a.block<w.heap.size∧a.spot=none:=by
 unfold World.cell? at h
 split at h
 ·rename_i hb
  refine⟨?_,?_⟩
  ·exact(Array.getElem?_eq_some_iff.1 hb).1
  ·split at h
   ·cases h
   ·rename_i hs;simpa using hs
 ·cases h
def qZ(P:Program)(t:TypeId)(R:List PV→Prop):Prop:=
 ∀(H:Type) (enc:TypeId × Value→H) (w:World) (fuel:Nat) (cs:List Value) (x:DataW H × List MemPlace),
  DataW.trod enc P w 0 (fun _=>true) true fuel t cs=some x → ∃ps,R ps∧bH (Low w) w ps cs ∧ ∀v∈cs,v.oneCell'=true
theorem bH.length{S:dV}{w:World}:∀ {ps:List PV} {vs:List Value},bH S w ps vs→ps.length=vs.length
 | [],vs,h=>by simp only [bH]at h;simp [h]
 | p::ps,vs,h=>by
  simp only [bH]at h
  obtain⟨v,NM,rfl,_,h2⟩:=h
  simp [bH.length h2]
theorem bH.append{S:dV}{w:World}:∀ {ps qs:List PV} {vs us:List Value},bH S w ps vs→bH S w qs us→bH S w (ps++qs) (vs++us)
 | [],qs,vs,us,h,h'=>by simp only [bH]at h;subst h;simpa using h'
 | p::ps,qs,vs,us,h,h'=>by
  simp only [bH]at h
  obtain⟨v,NM,rfl,h1,h2⟩:=h
  simp only [List.cons_append,bH]
  exact⟨v,NM++us,rfl,h1,bH.append h2 h'⟩
theorem qZ.int{P:Program}{t:TypeId}(k:IntKind)(ht:P.underlying t=some (.int k)):qZ P t (fun ps=>∃n,ps = [.int k n]∧k.min≤n∧n≤k.max):=by
 intro H enc w fuel cs x h
 obtain⟨n,rfl,_,hw⟩:=DataW.trod_int ht h
 simp only [Lit.wf,Bool.and_eq_true,decide_eq_true_eq]at hw
 exact⟨[.int k n],⟨n,rfl,hw⟩,⟨_,_,rfl,by simp [dC],rfl⟩,by simp [Value.oneCell']⟩
theorem qZ.bool{P:Program}{t:TypeId}(ht:P.underlying t=some .bool):qZ P t (fun ps=>∃b,ps = [.bool b]):=by
 intro H enc w fuel cs x h
 obtain⟨n,rfl,_⟩:=DataW.trod_bool ht h
 exact⟨[.bool n],⟨n,rfl⟩,⟨_,_,rfl,by simp [dC],rfl⟩,by simp [Value.oneCell']⟩
theorem vE{w:World}{b:Nat}:∀ {ps:List PV} {vs:List Value} {o:Nat},bH (Low w) w ps vs→(∀v∈vs,v.oneCell'=true)→(∀i,i<vs.length→w.cell? ⟨b,o+i,none⟩=vs[i]?)→dD (Low w) w b o ps
 | [],_,_,_,_,_=>by simp [dD]
 | p::ps,vs,o,h,h1,h2=>by
  simp only [bH]at h
  obtain⟨v,NM,rfl,h3,h4⟩:=h
  have hc:w.cell? ⟨b,o,none⟩=some v:=by simpa using h2 0 (by simp)
  simp only [dD]
  refine⟨⟨v,hc,(KM hc).1,h1 v (by simp),h3⟩,vE h4 (fun u hu=>h1 u (by simp [hu])) fun i hi=>?_⟩
  have:=h2 (i+1) (by simpa using hi)
  simpa [Nat.add_assoc,Nat.add_comm 1]using this
theorem BT{w:World}{b c:Nat}{f:Nat→List PV}:∀(n o k:Nat),(∀i,k≤i→i<k+n→dD (Low w) w b (o+(i-k)*c) (f i)∧(f i).length=c)→fH (Low w) w b o ((List.range' k n).map f)
 | 0,o,k,_=>by simp [fH]
 | n+1,o,k,h=>by
  obtain⟨h1,h2⟩:=h k (Nat.le_refl _) (by omega)
  simp only [List.range'_succ,List.map_cons,fH]
  refine⟨by simpa using h1,BT (c:=c) n _ _ fun i hi R4=>?_⟩
  obtain⟨h3,h4⟩:=h i (by omega) (by omega)
  refine⟨?_,h4⟩
  rw [h2]
  have e:o+c+(i-(k+1))*c=o+(i-k)*c:=by
   have:i-k=(i-(k+1))+1:=by omega
   rw [this,Nat.add_mul];omega
  rw [e];exact h3
theorem qZ.slice{P:Program}{t e:TypeId}{R:List PV→Prop}(ht:P.underlying t=some (.slice e))(xA:0<P.cellsOf e)(he:qZ P e R):qZ P t (fun ps=>∃l:List (List PV),ps = [.sl l]∧(∀x∈l,R x)∧l.length≤maxLen):=by
 intro H enc w fuel cs x h
 rcases open_slice ht h with ⟨rfl,_⟩ | ⟨a,len,cap,m,n,D,Pl,rfl,_,hl,hm,hmm,_,hx⟩
 ·refine⟨[.sl []],⟨[],rfl,by simp,by simp⟩,⟨_,_,rfl,?_,rfl⟩,by simp [Value.oneCell']⟩
  simp only [dC]
  exact⟨none,0,rfl,by simp,by simp, .inl trivial⟩
 ·have hlm:len≤m:=by rw [hmm];split<;>omega
  have each:∀i,i<len → ∃ps:List PV,R ps∧ps.length=P.cellsOf e ∧ ∃cs',w.cells? 0 (a.add (i*P.cellsOf e)) (P.cellsOf e)=some cs'∧bH (Low w) w ps cs' ∧ ∀v∈cs',v.oneCell'=true:=by
   intro i hi
   obtain⟨cs',h1,h2⟩:=hx i (by omega)
   obtain⟨ps,h3,h4,h5⟩:=he H enc w _ _ _ h2
   refine⟨ps,h3,?_,cs',h1,h4,h5⟩
   rw [h4.length];exact(World.cells?_some h1).2.1
  obtain⟨f,hf⟩:=choose_lt each
  refine⟨[.sl ((List.range' 0 len).map f)],⟨_,rfl,?_,by simp;omega⟩,⟨_,_,rfl,?_,rfl⟩,by simp [Value.oneCell']⟩
  ·intro y hy
   simp only [List.mem_map,List.mem_range'_1]at hy
   obtain⟨i,hi,rfl⟩:=hy
   exact(hf i (by omega)).1
  ·simp only [dC]
   refine⟨some a,cap,by simp,by simpa using hl,hm,?_⟩
   by_cases h0:len=0
   ·left;simp [h0]
   right
   have hsp:a.spot=none:=by
    obtain⟨_,_,cs',h3,_,_⟩:=hf 0 (by omega)
    obtain⟨_,h4,h5⟩:=World.cells?_some h3
    have h6:=h5 0 (by omega)
    rw [List.getElem?_eq_getElem (by omega)]at h6
    have h7:=(KM h6).2
    simpa [Addr.add]using h7
   obtain⟨b,o,sp⟩:=a
   simp only at hsp
   subst hsp
   refine⟨b,o,rfl,BT (c:=P.cellsOf e) len o 0 fun i _ hi=>?_⟩
   obtain⟨_,h2,cs',h3,h4,h5⟩:=hf i (by omega)
   obtain⟨_,h6,h7⟩:=World.cells?_some h3
   refine⟨vE h4 h5 fun j hj=>?_,h2⟩
   rw [←h7 j (by omega),add_plain,add_plain]
   simp
def Fits(P:Program):Nat→List Field→List (List PV→Prop)→Nat→Prop
 | o,[],[],n=>o=n
 | o,f::fs,R::Rs,n=>f.offset=o∧qZ P f.type R∧Fits P (o+P.cellsOf f.type) fs Rs n
 | _,_,_,_=>False
def WN:List (List PV→Prop)→List PV→Prop
 | [],ps=>ps = []
 | R::Rs,ps=>∃a b,ps=a++b∧R a∧WN Rs b
theorem KN{P:Program}{H:Type}{enc:TypeId × Value→H}{w:World}{m n:Nat}:∀ {fs:List Field} {Rs:List (List PV→Prop)} {o:Nat} {cs:List Value} {xs:List (DataW H × List MemPlace)},Fits P o fs Rs n→cs.length=n→xs.length=fs.length →
  (∀(i:Nat) (f:Field),fs[i]? = some f→DataW.trod enc P w 0 (fun _=>true) true m f.type ((cs.drop f.offset).take (P.cellsOf f.type))=xs[i]?) →
  ∃ps,WN Rs ps∧bH (Low w) w ps (cs.drop o) ∧ ∀v∈cs.drop o,v.oneCell'=true
 | [],[],o,cs,xs,h,hn,_,_=>by
  simp only [Fits]at h
  subst h
  refine⟨[],rfl,?_,?_⟩
  ·simp only [bH];simp [←hn]
  ·simp [←hn]
 | f::fs,R::Rs,o,cs,xs,h,hn,hl,hx=>by
  simp only [Fits]at h
  obtain⟨ho,hO,hF⟩:=h
  have h0:=hx 0 f rfl
  match xs,hl with
  | y::xs,hl =>
   rw [List.getElem?_cons_zero,ho]at h0
   obtain⟨a,h1,h2,h3⟩:=hO _ _ _ _ _ _ h0
   obtain⟨b,h4,h5,h6⟩:=KN (xs:=xs) hF hn (by simpa using hl) (fun i g hg=>by simpa using hx (i+1) g (by simpa using hg))
   have e:cs.drop o=(cs.drop o).take (P.cellsOf f.type)++cs.drop (o+P.cellsOf f.type):=by
    rw [←List.drop_drop,List.take_append_drop]
   refine⟨a++b,⟨a,b,rfl,h1,h4⟩,?_,?_⟩
   ·rw [e];exact h2.append h5
   ·rw [e];intro v hv
    rcases List.mem_append.1 hv with hv | hv
    ·exact h3 v hv
    ·exact h6 v hv
 | [],_::_,_,_,_,h,_,_,_=>by simp [Fits]at h
 | _::_,[],_,_,_,h,_,_,_=>by simp [Fits]at h
theorem qZ.struct{P:Program}{t:TypeId}{fs:List Field}{Rs:List (List PV→Prop)}(ht:P.underlying t=some (.struct fs.toArray))(hF:Fits P 0 fs Rs (P.cellsOf t)):qZ P t (WN Rs):=by
 intro H enc w fuel cs x h
 obtain⟨xs,n,_,_,hl,hxl,hx⟩:=DataW.trod_struct ht h
 obtain⟨ps,h1,h2,h3⟩:=KN hF hl (by simpa using hxl) (fun i f hf=>hx i f (by simpa using hf))
 exact⟨ps,h1,by simpa using h2,by simpa using h3⟩
theorem qZ.mono{P:Program}{t:TypeId}{R R':List PV→Prop}(h:qZ P t R)(hR:∀ps,R ps→R' ps):qZ P t R':=fun H enc w fuel cs x hx=>by
 obtain⟨ps,h1,h2⟩:=h H enc w fuel cs x hx
 exact⟨ps,hR _ h1,h2⟩
def q9(P:Program)(t:TypeId)(Q:PV→Prop):Prop:=
 ∀(H:Type) (enc:TypeId × Value→H) (w:World) (base:Nat) (v:Value) (d:DataW H) (p:List MemPlace),
  Value.okWide P w .any base t v→DataW.Trod enc P w 0 (fun _=>true) true t v d p → ∃q,Q q∧dC (Low w) w q v
theorem qZ.one{P:Program}{t:TypeId}{R:List PV→Prop}(h:qZ P t R)(hs:∀w base v,Value.okWide P w .any base t v→v.cells = #[v]):q9 P t (fun q=>R [q]):=by
 intro H enc w base v d p iC ⟨fuel,hf⟩
 obtain⟨ps,h1,h2,_⟩:=h _ _ _ _ _ _ hf
 rw [hs _ _ _ iC]at h2
 have hl:=h2.length
 match ps,hl with
 | [q],_ =>
  simp only [bH]at h2
  obtain⟨v',NM,h3,h4,_⟩:=h2
  cases h3
  exact⟨q,h1,h4⟩
theorem q9.int{P:Program}{t:TypeId}(k:IntKind)(ht:P.underlying t=some (.int k)):q9 P t (fun q=>∃n,q = .int k n∧k.min≤n∧n≤k.max):=by
 have:=(qZ.int k ht).one fun w base v h=>by obtain⟨n,rfl⟩:=okWide_int ht h;rfl
 intro H enc w base v d p h1 h2
 obtain⟨q,⟨n,h3,h4⟩,h5⟩:=this H enc w base v d p h1 h2
 exact⟨q,⟨n,by simpa using h3,h4⟩,h5⟩
theorem q9.bool{P:Program}{t:TypeId}(ht:P.underlying t=some .bool):q9 P t (fun q=>∃b,q = .bool b):=by
 have:=(qZ.bool ht).one fun w base v h=>by obtain⟨n,rfl⟩:=okWide_bool ht h;rfl
 intro H enc w base v d p h1 h2
 obtain⟨q,⟨n,h3⟩,h5⟩:=this H enc w base v d p h1 h2
 exact⟨q,⟨n,by simpa using h3⟩,h5⟩
theorem q9.slice{P:Program}{t e:TypeId}{R:List PV→Prop}(ht:P.underlying t=some (.slice e))(xA:0<P.cellsOf e)(he:qZ P e R):q9 P t (fun q=>∃l:List (List PV),q = .sl l∧(∀x∈l,R x)∧l.length≤maxLen):=by
 have:=(qZ.slice ht xA he).one fun w base v h=>by obtain⟨a,len,cap,rfl⟩:=okWide_slice ht h;rfl
 intro H enc w base v d p h1 h2
 obtain⟨q,⟨n,h3,h4⟩,h5⟩:=this H enc w base v d p h1 h2
 exact⟨q,⟨n,by simpa using h3,h4⟩,h5⟩
theorem q9.mono{P:Program}{t:TypeId}{Q Q':PV→Prop}(h:q9 P t Q)(hQ:∀q,Q q→Q' q):q9 P t Q':=fun H enc w base v d p h1 h2=>by
 obtain⟨q,h3,h4⟩:=h H enc w base v d p h1 h2
 exact⟨q,hQ _ h3,h4⟩
def KO(P:Program):List TypeId→List (PV→Prop)→Prop
 | [],[]=>True
 | t::ts,Q::Qs=>q9 P t Q∧P.readableRec t=true∧t<P.types.size∧KO P ts Qs
 | _,_=>False
def alr:List (PV→Prop)→List PV→Prop
 | [],ps=>ps = []
 | Q::Qs,ps=>∃q qs,ps=q::qs∧Q q∧alr Qs qs
theorem KP{P:Program}{H:Type}{enc:TypeId × Value→H}{w:World}{base:Nat}:∀ {ts:List TypeId} {Qs:List (PV→Prop)} {vs:List Value} {ds:List (DataW H)} {p:List MemPlace},KO P ts Qs →
  (∀(j:Nat) t v,ts[j]? = some t→vs[j]? = some v→Value.okWide P w .any base t v)→DataW.TrodAll enc P w 0 (fun _=>true) true ts vs ds p → ∃ps,alr Qs ps∧bH (Low w) w ps vs
 | [],[],vs,ds,p,_,_,h=>by
  obtain⟨rfl,_⟩:=trodAll_nil h
  exact⟨[],rfl,rfl⟩
 | t::ts,Q::Qs,vs,ds,p,hA,iC,h=>by
  obtain⟨v,NM,d,ds',p1,q1,rfl,rfl,rfl,h1,h2⟩:=trodAll_cons h
  obtain⟨hO,_,_,hA'⟩:=hA
  obtain⟨q,h3,h4⟩:=hO _ _ _ base _ _ _ (iC 0 t v rfl rfl) h1
  obtain⟨ps,h5,h6⟩:=KP hA' (fun j t' v' hj hv=>iC (j+1) t' v' (by simpa using hj) (by simpa using hv)) h2
  exact⟨q::ps,⟨q,ps,rfl,h3,h5⟩,⟨v,NM,rfl,h4,h6⟩⟩
 | [],_::_,_,_,_,h,_,_=>by simp [KO]at h
 | _::_,[],_,_,_,h,_,_=>by simp [KO]at h
theorem E6{P:Program}(hl:laidOutB P=true){H:Type}{enc:TypeId × Value→H}{w w':World}(hb:Below w.heap.size w w'):∀ {ts:List TypeId} {Qs:List (PV→Prop)} {vs:List Value} {ds:List (DataW H)} {p:List MemPlace},KO P ts Qs→(∀x∈p,x.block<w.heap.size) →
  DataW.TrodAll enc P w 0 (fun _=>true) true ts vs ds p→DataW.TrodAll enc P w' 0 (fun b=>decide (b<w.heap.size)) true ts vs ds p
 | [],[],vs,ds,p,_,_,h=>by
  obtain⟨rfl,rfl,rfl⟩:=trodAll_nil h
  exact trodAll_mk0
 | t::ts,Q::Qs,vs,ds,p,hA,dM,h=>by
  obtain⟨v,NM,d,ds',p1,q1,rfl,rfl,rfl,h1,h2⟩:=trodAll_cons h
  obtain⟨_,h3,h4,hA'⟩:=hA
  exact⟨p1,q1,Below.trod hl h3 h4 h1 hb (fun x hx=>dM x (by simp [hx])),E6 hl hb hA' (fun x hx=>dM x (by simp [hx])) h2,rfl⟩
 | [],_::_,_,_,_,h,_,_=>by simp [KO]at h
 | _::_,[],_,_,_,h,_,_=>by simp [KO]at h
theorem abu{C:Checked}{f:FuncId}{fn:Func}{s:ChangeSpec}{Qs:List (PV→Prop)}{os:Os}{H:Type}{enc:TypeId × Value→H}{tb:TypeId}
  (own:ownKnob C.prog.godebug=none) (hl:laidOutB C.prog=true) (started:os.Started) (als:C.prog.inits.idxOf? f=none) (hfn:C.prog.funcs[f]? = some fn)
  (witness:∃(w:World) (tape:Tape) (i:Input),w.os=os∧(w.forCall tape i).Shaped C.prog∧i.vars = []∧Input.okWide C.prog (w.forCall tape i) .any w.heap.size f i ∧
   s.pre6 enc C.prog fn [] false (w.forCall tape i).memory i.args∧({}:Assume).holds C.prog (lone (Frame.enter C.prog f i.args .normal) [] (w.forCall tape i)))
  (hv:s.vars = []) (hs:∀ds:List (DataW H),ds.length=fn.params.size→s.fn H ds = { results:=[.lit (.bool true)],args:=ds })
  (BU:fn.resultTypes = #[tb]) (htb:C.prog.underlying tb=some .bool)
  (hA:KO C.prog fn.params.toList Qs) (h:∀ps,alr Qs ps→aH C.prog f ps (.bool true)) :
  ReturnsInHanded {} C os f .any (s.pre6 enc C.prog fn [] false) (s.post enc C.prog fn false true false false):=by
 refine returnsInHanded_of_change own started als hfn witness ?_
 intro W base args ds gs before awe hW _ _
 have hW':=hW
 obtain⟨p,q,hT,hV,rfl,_,_⟩:=hW
 rw [hv]at hV
 obtain⟨rfl,rfl⟩:=trodVars_none hV
 obtain⟨ps,h1,h2⟩:=KP (base:=base) hA (fun j t v hj hv=>awe j t v (by simpa using hj) (by simpa using hv)) hT
 obtain⟨_,qL⟩:=h ps h1
 have h3:=qL W (Low W) args.toList (fun b o hb=>hb) h2
 refine Calls.mono h3 fun e w' hw=>?_
 obtain⟨v,rfl,VK,S',_,_,gI⟩:=hw
 simp only [dC]at gI
 subst gI
 refine⟨_,rfl,?_⟩
 have hlen:ds.length=fn.params.size:=by
  have:∀ {ts:List TypeId} {vs:List Value} {ds:List (DataW H)} {p:List MemPlace},DataW.TrodAll enc C.prog W 0 (fun _=>true) true ts vs ds p→ds.length=ts.length:=by
   intro ts
   induction ts with
   | nil=>intro vs ds p h;obtain⟨_,rfl,_⟩:=trodAll_nil h;rfl
   | cons t ts ih =>
    intro vs ds p h
    obtain⟨v,NM,d,ds',p1,q1,rfl,rfl,rfl,h1,h2⟩:=trodAll_cons h
    simp [ih h2]
  rw [this hT];simp
 have dM:∀x∈p,x.block<W.heap.size:=fun x hx=>hW'.lt x (by simpa using hx)
 have hold:∀x∈p,(fun b=>decide (b<W.heap.size)) x.block=true:=fun x hx=>by simpa using dM x hx
 have alu:s.fn H (ds ++ []) = { results:=[.lit (.bool true)],args:=ds }:=by rw [List.append_nil,hs ds hlen]
 refine⟨ds,[],p ++ [],[],p,[],hW',?_,?_,?_,World.keptBut_mono (fun x hx=>⟨hx, .inr (.inl (by simpa using hx))⟩) (VK.frame (· ∈ p ++ [])),?_⟩
 ·rw [alu,BU]
  exact trodAll_mk1 (shut_bool htb true)
 ·rw [alu]
  exact E6 hl VK hA dM hT
 ·rw [alu,hv];rfl
 ·intro h0;cases h0
end Pm
namespace Pm
abbrev nP{α:Type}(i k:Nat)(m:List (List α)):List (List α):=(m.eraseIdx i).map fun r=>r.eraseIdx k
end Pm
namespace Pm
open Go Go.RowKit
section
variable {E:Env} {w0:World} {S0:dV} {c:Cx}
theorem KQ(hI:Inv w0 S0 c){clk:Nat}{fn:Func}{a:Act}{f:Nat→PV}(hf:∀s,aK c (f s) (a.tmps.getD s undef)){K:List PV→Prop}(hp:pU E ⟨f,c.rows,clk⟩ fn.results.toList K) :
  ∃vs us,K vs∧bE (aK c) vs us∧(results fn a.tmps).run E.P c.w = .ok (if h:us.toArray.size=1 then us.toArray[0]else .tuple us.toArray) c.w:=by
 have key:∀g:ResultVar→Sem Value,(∀t,g (.tmp t)=pure (a.tmps.getD t undef))→(∀x t,g (.cell x t)=do loadVar t (←asAddr (a.tmps.getD x undef))) →
   ∃vs us,K vs∧bE (aK c) vs us∧(do let vs ←fn.results.mapM g;pure (if h:vs.size=1 then vs[0]else .tuple vs):Sem Value).run E.P c.w = .ok (if h:us.toArray.size=1 then us.toArray[0]else .tuple us.toArray) c.w:=by
  intro g hg1 tF
  obtain⟨vs,us,g1,g4,g5⟩:=rS hI hf hg1 tF _ _ hp
  refine⟨vs,us,g1,g4,?_⟩
  have:(fn.results.mapM g).run E.P c.w = .ok us.toArray c.w:=by
   rw [Array.mapM_eq_mapM_toList]
   simp [g5]
  rw [Sem.run_bind,this,Result.andThen_ok,Sem.run_pure]
 unfold results
 exact key _ (fun _=>rfl) (fun _ _=>rfl)
theorem BV(hI:Inv w0 S0 c){fn:Func}{t:Tmp}(BU:fn.results.toList = [.tmp t]){a:Act}{f:Nat→PV}(hf:∀s,aK c (f s) (a.tmps.getD s undef)) :
  ∃u,aK c (f t) u∧(results fn a.tmps).run E.P c.w = .ok u c.w:=by
 obtain⟨vs,us,h1,h2,h3⟩:=KQ (E:=E) (K:=fun vs=>vs = [f t]) (clk:=0) hI (fn:=fn) hf (by rw [BU];rfl)
 subst h1
 match us,h2 with
 | [u],h2=>exact⟨u,h2.1,by simpa using h3⟩
 | [],h2=>exact h2.elim
 | _::_::_,h2=>exact h2.2.elim
def aio(t:Tmp)(R:PV→Rows→Nat→Prop):PX→PS→Prop
 | .normal,σ=>R (σ.f t) σ.rows σ.clock
 | .ret,σ=>R (σ.f t) σ.rows σ.clock
 | .exit _,_=>False
def abv(args:List PV)(rows:Rows)(clk:Nat):PS:=⟨fun s=>args.getD s .undef,rows,clk⟩
theorem KR{args:List PV}{vs:List Value}{m:Nat}(h:bE (aK c) args vs)(s:Nat):aK c (args.getD s .undef) ((vs.toArray++Array.replicate m undef).getD s undef):=by
 have NT:=h.length
 by_cases hs:s<args.length
 ·obtain⟨u,hu,hr⟩:=h.get (List.getElem?_eq_getElem hs)
  have e1:args.getD s .undef=args[s]:=by simp [List.getD,List.getElem?_eq_getElem hs]
  have e2:(vs.toArray++Array.replicate m undef).getD s undef=u:=by
   have:s<vs.length:=by omega
   simp [this]at hu ⊢
   simp [Array.getElem?_append,this,hu]
  rw [e1,e2];exact hr
 ·have e1:args.getD s .undef = .undef:=by simp [List.getD,List.getElem?_eq_none (show args.length≤s by omega)]
  rw [e1]
  simp [aK,aQ]
theorem WO{A7:FuncId}{fn:Func}{code:Code}(tl:Nat→Nat){args:List PV}{rows:Rows}{clk:Nat}{R:PV→Rows→Nat→Prop}{t:Tmp}(h1:E.P.funcs[A7]? = some fn)(h2:fn.body=some code) (h3:(fn.name == "runtime.NumGoroutine") = false)
  (iC:fB E fn.ntmps tl code=true) (fX:args.length≤fn.ntmps) (BU:fn.results.toList = [.tmp t]) (h:W E fn.ntmps tl code (aio t R) (abv args rows clk)):VL E.P A7 args rows clk R:=by
 refine⟨⟨fn,code,h1,h2,h3⟩,fun w0 S0 c vs G hI hr fF gI hG=>?_⟩
 refine calls_of_wp h1 h2 ?_
 have NT:=gI.length
 have OJ:Rel w0 S0 fn.ntmps G (abv args rows clk) { tmps:=vs.toArray++Array.replicate (fn.ntmps-vs.toArray.size) undef,defers:=[] } c.w:=
  ⟨⟨c,rfl,hr,fF,hI,fun s=>KR gI s,hG⟩,by simp;omega,rfl⟩
 refine h iC w0 S0 G _ _ _ OJ ?_
 have fin:∀σ' a' w',R (σ'.f t) σ'.rows σ'.clock→Rel w0 S0 fn.ntmps G σ' a' w'→a'.defers = [] ∧ ∃v,(results fn a'.tmps).run E.P w' = .ok v w' ∧
   ∃v' c' r kG,Ending.returned v = .returned v'∧c'.w=w'∧Inv w0 S0 c'∧(∀p∈G,aK c' p.1 p.2)∧R r c'.rows kG∧(∀v,c'.used v→v<kG)∧aK c' r v':=by
  rintro σ' a' w' hx ⟨⟨c',rfl,jP,ajl,wN,hf',hG'⟩,hn,fC⟩
  obtain⟨u,hu,iZ⟩:=BV (E:=E) wN BU hf'
  exact⟨fC,u,iZ,u,c',_,σ'.clock,rfl,rfl,wN,hG',by rw [jP];exact hx,ajl,hu⟩
 intro x σ' a' w' hx lM
 cases x with
 | normal=>exact fin σ' a' w' hx lM
 | ret=>exact fin σ' a' w' hx lM
 | exit id=>exact hx.elim
def aip(t:Tmp)(e:TypeId)(n:Nat)(els:List (List PV)):PX→PS→Prop
 | .normal,σ=>∃id ver,σ.f t = .own id ver 0 els.length∧σ.rows id=some ⟨ver,e,n,els⟩ ∧ ∀x∈els,∀p∈x,cW p=true
 | .ret,σ=>∃id ver,σ.f t = .own id ver 0 els.length∧σ.rows id=some ⟨ver,e,n,els⟩ ∧ ∀x∈els,∀p∈x,cW p=true
 | .exit _,_=>False
theorem WQ{A7:FuncId}{fn:Func}{code:Code}(tl:Nat→Nat){args:List PV}{e:TypeId}{n:Nat}{els:List (List PV)}{t:Tmp}(h1:E.P.funcs[A7]? = some fn)(h2:fn.body=some code) (h3:(fn.name == "runtime.NumGoroutine") = false)
  (iC:fB E fn.ntmps tl code=true) (fX:args.length≤fn.ntmps) (BU:fn.results.toList = [.tmp t]) (h:W E fn.ntmps tl code (aip t e n els) (EN args)):oB E.P A7 args e n els:=by
 refine⟨⟨fn,code,h1,h2,h3⟩,fun w S vs hS gI=>?_⟩
 refine calls_of_wp h1 h2 ?_
 have AR:=cZ.1 gI
 have NT:=AR.length
 let c0:Cx:=⟨S,w,fun _ => .slice none 0 0,fun _=>none,fun _=>False⟩
 have hI0:Inv w S c0:=⟨Below.refl _ _,fun _ _ h=>h,fun _ _ h => .inl h,hS,fun _ _ h=>by simp [c0]at h,fun _ _ h=>by simp [c0]at h,fun _ _ _ _ _ h=>by simp [c0]at h⟩
 have OJ:Rel w S fn.ntmps Gs.none (EN args) { tmps:=vs.toArray++Array.replicate (fn.ntmps-vs.toArray.size) undef,defers:=[] } w:=
  ⟨⟨c0,rfl,rfl,fun _ h=>h.elim,hI0,fun s=>KR (c:=c0) (AR.mono fun _ _ h=>aK.jR h) s,fun p hp=>(Gs.JB hp).elim⟩,by simp;omega,rfl⟩
 refine h iC w S Gs.none _ _ _ OJ ?_
 have fin:∀(σ':PS) a' w',(∃id ver,σ'.f t = .own id ver 0 els.length∧σ'.rows id=some ⟨ver,e,n,els⟩ ∧ ∀x∈els,∀p∈x,cW p=true)→Rel w S fn.ntmps Gs.none σ' a' w'→a'.defers = [] ∧ ∃v,(results fn a'.tmps).run E.P w' = .ok v w' ∧
   ∃(v':Value) (xs:List Value) (S':dV),Ending.returned v = .returned v'∧Below w.heap.size w w'∧(∀b o,S b o→S' b o)∧(∀b o,S' b o→S b o∨(w.heap.size≤b∧b<w'.heap.size)) ∧
   w'.ownsRow w.heap.size e n v' els.length xs∧bE (dC S' w') els.flatten xs∧(∀y∈xs,y.oneCell'=true)∧(∀x∈els,x.length=n)∧0<n∧(∀g o,v'.ownBlock=some g→¬S' g o):=by
  rintro σ' a' w' ⟨id,ver,e1,e2,e3⟩ ⟨⟨c,rfl,hr,fF,hI,hf,_⟩,hn,fC⟩
  obtain⟨u,hu,iZ⟩:=BV (E:=E) hI BU hf
  rw [e1]at hu
  rw [←hr]at e2
  obtain⟨⟨xs,g1,g2,g3⟩,g4,g5,g6⟩:=hI.row id _ e2
  simp only [aK,aQ]at hu
  obtain⟨_,hu⟩:=hu
  obtain⟨_,hu⟩:=hu _ e2 rfl
  have hub:u=c.β id:=by
   rcases hu with ⟨_,A,m,cap,h5,h6⟩ | ⟨h5,_⟩
   ·rcases g1.2 with ⟨h7,h8⟩ | ⟨g,iY,cur,h7,_⟩
    ·rw [h7]at h5;cases h5
     simp only at h8
     rw [h6,h7,h8]
    ·rw [h7]at h5;cases h5
     rw [h6,h7]
   ·omega
  refine⟨fC,u,iZ,u,xs,c.S,rfl,hI.below,hI.ext,hI.new,by rw [hub];exact g1,?_,g3,g4,g6,fun g o hg=>g5 g o (by rw [←hub];exact hg)⟩
  refine bE.dO g2.length fun k p y hp hy=>?_
  obtain⟨y',NB,jP⟩:=g2.get hp
  rw [hy]at NB;cases NB
  have zE:=List.mem_of_getElem? hp
  obtain⟨x,hx,hpx⟩:=List.mem_flatten.1 zE
  exact jP.rep (e3 x hx p hpx)
 intro x σ' a' w' hx lM
 cases x with
 | normal=>exact fin σ' a' w' hx lM
 | ret=>exact fin σ' a' w' hx lM
 | exit id=>exact hx.elim
theorem oB.ret{P:Program}{f:FuncId}{args:List PV}{e:TypeId}{n:Nat}{els:List (List PV)}(h:oB P f args e n els){gJ:List PV}{rows:Rows}{clk:Nat}(d:Nat)(ha:gJ.map (pz rows)=args)(sY:(gJ.map (pz rows)).all fV=true)(hp:eK rows (gJ.flatMap dW)) :
  VL P f gJ rows clk (fun r rows' kG=>r = .own d clk 0 els.length∧rows'=dX (EI rows (gJ.flatMap dW)) d (some ⟨clk,e,n,els⟩)∧kG=clk+1):=by
 obtain⟨h0,OC⟩:=h
 refine⟨h0,fun w0 S0 c vs G hI oA fF fX hG=>?_⟩
 subst oA
 generalize tE:gJ.flatMap dW=ids at *
 have JD:=hI.freeze ids
 have dM:∀b o,N7 c ids b o→b<c.w.heap.size:=fun b o hb=>JD.lt (c:=DJ c ids) hb
 have gI:bH (N7 c ids) c.w args vs:=by
  rw [←ha]
  refine cZ.2 (bE.dO (by simp [fX.length]) fun k p u uJ hu=>?_)
  simp at uJ
  obtain⟨q,hq,rfl⟩:=uJ
  obtain⟨u',g1,g2⟩:=fX.get hq
  rw [hu]at g1;cases g1
  exact F9 hI hp g2 (fun id iA=>by rw [←tE];simp only [List.mem_flatMap];exact⟨q,List.mem_of_getElem? hq,iA⟩) (List.all_eq_true.1 sY _ (by simp;exact⟨q,List.mem_of_getElem? hq,rfl⟩))
 refine(OC c.w (N7 c ids) vs dM gI).mono ?_
 rintro x w' ⟨v,xs,S',rfl,hb,g1,g2,g3,g4,g5,g6,g7,g8⟩
 obtain⟨hI2,hA2⟩:=JD.grow (c:=DJ c ids) hb g1 g2
 have hA1:=lK c ids
 obtain⟨hI3,hA3⟩:=hI2.set (w':=w') (ob:=v.ownBlock) (id:=d) (r':=⟨clk,e,n,els⟩) (v':=v) (xs:=xs) (World.grownBy.refl _ _)
  (fun g hg=>by
   have VH:=(g3.lt g hg).1
   refine⟨by have:=hI.below.size;omega,fun o=>g8 g o hg,fun jO r hr _ AF=>?_⟩
   obtain⟨⟨ys,q1,_,_⟩,_⟩:=JD.row jO r hr
   have:=(q1.lt g AF).2
   simp only [DJ]at this
   omega) ⟨g3.1,g3.2.imp id fun⟨g,cap,cur,q1,q2,q3⟩=>⟨g,cap,cur,q1,Nat.le_trans hI.below.size q2,q3⟩⟩ (g4.mono fun _ _ h=>aQ.jR h) g5 g6 g7 (fun g hg => .inl hg) (fun hu=>Nat.lt_irrefl _ (fF _ hu))
 refine⟨v,_, .own d clk 0 els.length,clk+1,rfl,rfl,hI3,fun p uJ=>?_,⟨rfl,rfl,rfl⟩,fun v hv=>?_,?_⟩
 ·exact aK.tB hA3 _ _ (aK.tB hA2 _ _ (aK.tB hA1 _ _ (hG p uJ)))
 ·rcases hv with hv | hv
  ·have:v=clk:=hv
   omega
  ·have:=fF v hv;omega
 ·rcases g3.2 with ⟨rfl,h8⟩ | ⟨g,iY,cur,rfl,_⟩
  ·have:els.length=0:=h8
   rw [this]
   exact kU (r:=⟨clk,e,n,els⟩) (A:=none) (cap:=0) (by simp [dX]) (by simpa using h8) (Or.inl rfl) (by simp [dX])
  ·exact kU (r:=⟨clk,e,n,els⟩) (by simp [dX]) rfl (Or.inl rfl) (by simp [dX])
end
theorem aiq{P:Program}{g:FuncId}{gJ:List PV}{rows:Rows}{clk:Nat}{K:PV→Rows→Nat→Prop}{args:List PV}{e:TypeId}{n:Nat}{els:List (List PV)}(h:oB P g args e n els)(d:Nat)(ha:gJ.map (pz rows)=args)(sY:(gJ.map (pz rows)).all fV=true)
  (hp:eK rows (gJ.flatMap dW)) (hK:go (K (.own d clk 0 els.length) (dX (EI rows (gJ.flatMap dW)) d (some ⟨clk,e,n,els⟩)) (clk+1))):yC P g gJ rows clk K:=
 ⟨_,h.ret d ha sY hp,by rintro r rows' kG ⟨rfl,rfl,rfl⟩;exact hK⟩
theorem pD{E:Env}{A7:FuncId}{fn:Func}{code:Code}(tl:Nat→Nat){args:List PV}{e:TypeId}{n:Nat}{els:List (List PV)}{t:Tmp}(l:List (Nat × PV))(h1:E.P.funcs[A7]? = some fn)(h2:fn.body=some code) (h3:(fn.name == "runtime.NumGoroutine") = false)
  (iC:fB E fn.ntmps tl code=true) (fX:args.length≤fn.ntmps) (BU:fn.results.toList = [.tmp t]) (hl:∀p∈l,args.getD p.1 .undef=p.2) (h:W E fn.ntmps tl code (aip t e n els) ⟨fa l,fun _=>none,0⟩):oB E.P A7 args e n els:=
 WQ tl h1 h2 h3 iC fX BU (W.ghf l (by simpa using hl) h)
theorem PM{E:Env}{A7:FuncId}{fn:Func}{code:Code}(tl:Nat→Nat){args:List PV}{rows:Rows}{clk:Nat}{R:PV→Rows→Nat→Prop}{t:Tmp}(l:List (Nat × PV))(h1:E.P.funcs[A7]? = some fn)(h2:fn.body=some code) (h3:(fn.name == "runtime.NumGoroutine") = false)
  (iC:fB E fn.ntmps tl code=true) (fX:args.length≤fn.ntmps) (BU:fn.results.toList = [.tmp t]) (hl:∀p∈l,args.getD p.1 .undef=p.2) (h:W E fn.ntmps tl code (aio t R) ⟨fa l,rows,clk⟩):VL E.P A7 args rows clk R:=
 WO tl h1 h2 h3 iC fX BU (W.ghf l (by simpa using hl) h)
def xB(t:TI)(rows:Rows)(x y:PV)(K:PV→Rows→Prop):Prop:=
 match t,x with
 | .slice _ n _ _, .own id ver off len=>∃r,rows id=some r∧r.ver=ver∧r.size=n∧off+len≤r.els.length ∧ ∃l,tG rows y l∧(∀e∈l,e.length=n) ∧
   K (.int .i64 (min l.length len)) (dX rows id (some { r with els:=r.els.take off++l.take len++r.els.drop (off+min l.length len) }))
 | _,_=>False
@[simp] theorem at6{E:Env}{ops os:List Oper}{K:PS→Prop}{f:Nat→PV}{rows:Rows}{clk:Nat}{d:Option Tmp}{ty:TypeId}{pos:String}{af:Array Edge}{x y:Operand}{t t2:TypeId} :
  go (aN E ops (⟨d, .call { callee:=.builtin .copy,args:=⟨[x,y]⟩,argTypes:=⟨[t,t2]⟩ },ty,pos,af,none⟩::os) K ⟨f,rows,clk⟩)=xB (E.ty t) rows (aS f x) (aS f y) fun v rows=>aN E ops os K ⟨put f d v,rows,clk⟩:=by
 simp only [go,aN,eW,xB]
 generalize E.ty t=T
 generalize aS f x=X
 cases T<;>cases X<;>rfl
@[congr] theorem afp{t t':TI}{rows rows':Rows}{x x' y y':PV}{K:PV→Rows→Prop}(h1:t=t')(h2:rows=rows')(h3:x=x')(h4:y=y'):xB t rows x y K=xB t' rows' x' y' K:=by rw [h1,h2,h3,h4]
theorem arB{e e':TypeId}{n b:Nat}{z:List PV}{rows:Rows}{id ver off len:Nat}{y:PV}{K:PV→Rows→Prop}{els l:List (List PV)}(hr:rows id=some ⟨ver,e',n,els⟩)(hl:off+len≤els.length)(hy:tG rows y l)(h1:∀e∈l,e.length=n)
  (hK:go (K (.int .i64 (min l.length len)) (dX rows id (some ⟨ver,e',n,els.take off++l.take len++els.drop (off+min l.length len)⟩)))):xB (.slice e n b z) rows (.own id ver off len) y K:=
 ⟨_,hr,rfl,rfl,hl,l,hy,h1,hK⟩
theorem arC{e e':TypeId}{b:Nat}{z:List PV}{rows:Rows}{id ver off len:Nat}{y:PV}{K:PV→Rows→Prop}{els l:List (List PV)}(hr:rows id=some ⟨ver,e',1,els⟩)(hl:off+len≤els.length)(h0:0<len)(hy:tG rows y l)(h1:∀e∈l,e.length=1)
  (hK:go (K (.int .i64 (min l.length len)) (dX rows id (some ⟨ver,e',1,els.take off++l.take len++els.drop (off+min l.length len)⟩)))):xB (.slice e 1 b z) rows (.own id ver off len) y K:=
 arB hr hl hy h1 hK
theorem bF{c B:Prop}(h:c)(hB:go B):aG c B:=⟨h,hB⟩
end Pm
