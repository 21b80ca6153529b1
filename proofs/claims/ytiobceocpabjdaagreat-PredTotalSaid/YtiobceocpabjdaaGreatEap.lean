import Derived.Test.YtiobceocpabjdaaGreatEal
import Derived.Test.YtiobceocpabjdaaGreatEao
set_option linter.unusedSimpArgs false
set_option linter.unusedVariables false
namespace Go.Proofs.YtiobceocpabjdaaGreat
open Go Pm
open ZX hiding N W
def uC(st:Nat × Int)(s:Int):Nat × Int:=if s=0 then st else(if st.2≠0∧s≠st.2 then st.1+1 else st.1,s)
def vr(l:List Int):Nat:=(l.foldl uC (0,0)).1
theorem QQ(l:List Int):∀st:Nat × Int,(l.foldl uC st).1≤st.1+l.length:=by
 induction l with
 | nil=>intro st;simp
 | cons s l ih =>
  intro st
  have h:=ih (uC st s)
  have:(uC st s).1≤st.1+1:=by
   unfold uC
   split
   ·omega
   ·simp only;split<;>omega
  simp only [List.foldl_cons,List.length_cons]
  omega
theorem MJ(l:List Int):vr l≤l.length:=by have:=QQ l (0,0);simpa [vr]using this
theorem xR{l:List Int}{i:Nat}(h:i<l.length):(l.take (i+1)).foldl uC (0,0)=uC ((l.take i).foldl uC (0,0)) (nth l i):=by
 rw [List.take_add_one,List.getElem?_eq_getElem h,c9 h,List.foldl_append]
 rfl
theorem AB(l:List Int)(i:Nat):aF (nth l i) = [.int .i64 (nth l i)]:=rfl
theorem QR(l:List Int)(hl:l.length<1099511627776):aH env.P 223 [aJ aF l] (.int .i64 (vr l)):=by
 have hv:vr l=((l.take l.length).foldl uC (0,0)).1:=by rw [List.take_length];rfl
 rw [hv]
 have hb:∀i,((l.take i).foldl uC (0,0)).1≤i:=fun i=>by have:=QQ (l.take i) (0,0);simp at this;omega
 have j3:=fun i (h:i<l.length)=>xR h
 generalize (fun i=>(l.take i).foldl uC (0,0))=F at *
 refine cA [(0,aJ aF l)] Tryz.func223 ?_
 refine aA [0] ?_
 refine aA [0,3,4] ?_
 refine aM [0,3,4,7,8] ?_
 refine W.block ?_
 refine W.a8 (fun k σ=>∃(i:Nat) (n:Nat) (s:Int) (rows:Pm.Rows) (clk:Nat),σ=⟨fa [(0,aJ aF l),(3, .int .i64 n),(4, .int .i64 s),(7, .int .i64 l.length),(8, .int .i64 i)],rows,clk⟩∧i+k=l.length∧(l.take i).foldl uC (0,0)=(n,s)) l.length ?_ ?_
 ·exact⟨_, .refl,0,0,0,_,_,rfl,by omega,by simp⟩
 rintro k _ ⟨i,n,s,rows,clk,rfl,KX,hF⟩
 have hni:n≤i:=by have:=hb i;rw [hF]at this;exact this
 refine cC [0,3,4,7,8,9] ?_
 refine bP ?_ ?_<;>intro h
 ·have hi:i<l.length:=by simp at h;omega
  have uK:=j3 i hi
  rw [hF]at uK
  generalize hx:nth l i=x at *
  refine W.skip ?_
  refine W.fM (fun σ=>∃(n':Nat) (s':Int) (rows:Pm.Rows) (clk:Nat),σ=⟨fa [(0,aJ aF l),(3, .int .i64 n'),(4, .int .i64 s'),(7, .int .i64 l.length),(8, .int .i64 i)],rows,clk⟩∧uC (n,s) x=(n',s')) ?_ ?_
  ·refine aA [0,3,4,5,7,8] ?_
   refine W.sr ?_
   simp (disch:=omega) [gw,hi,hx,AB]
   refine bO [0,3,4,5,7,8,15] ?_
   refine bP ?_ ?_<;>intro h
   ·have oF:x≠0:=by simpa using h
    refine W.gD (fun σ=>∃(n':Nat) (rows:Pm.Rows) (clk:Nat),σ=⟨fa [(0,aJ aF l),(3, .int .i64 n'),(5, .int .i64 i),(7, .int .i64 l.length),(8, .int .i64 i)],rows,clk⟩∧uC (n,s) x=(n',x)) ?_ ?_
    ·refine W.gK (fun σ=>∃(b:Bool) (rows:Pm.Rows) (clk:Nat),σ=⟨fa [(0,aJ aF l),(3, .int .i64 n),(5, .int .i64 i),(7, .int .i64 l.length),(8, .int .i64 i),(25, .bool b)],rows,clk⟩∧b=decide (s≠0∧x≠s)) (fun K hK=>?_) ?_
     ·by_cases NF:s=0
      ·subst NF
       simp (disch:=omega) [gw,hi,hx,AB]
       exact hK _ _ (aC _ [0,3,5,7,8,25]) ⟨_,_,_,rfl,by simp⟩
      ·have JF:(s != 0)=true:=by simpa using NF
       simp (disch:=omega) [gw,hi,hx,AB,JF]
       exact hK _ _ (aC _ [0,3,5,7,8,25]) ⟨_,_,_,rfl,by simp [NF];rfl⟩
     rintro _ ⟨b,rows,clk,rfl,rfl⟩
     refine bP ?_ ?_<;>intro h
     ·have h:=of_decide_eq_true h
      refine W.b9 (fun K hK=>?_);simp (disch:=omega) [gw]
      exact hK _ ⟨_,aC _ [0,3,5,7,8],n+1,_,_,rfl,by unfold uC;rw [if_neg oF];simp only;rw [if_pos h]⟩
     ·have h:=of_decide_eq_false h
      refine W.skip ?_
      exact⟨_,aC _ [0,3,5,7,8],n,_,_,rfl,by unfold uC;rw [if_neg oF];simp only;rw [if_neg h]⟩
    rintro _ ⟨n',rows,clk,rfl,EL⟩
    refine W.b9 (fun K hK=>?_);simp (disch:=omega) [gw,hi,hx,AB]
    exact hK _ ⟨_,aC _ [0,3,4,7,8],n',x,_,_,rfl,EL⟩
   ·have oF:x=0:=by simpa using h
    refine W.skip ?_
    exact⟨_,aC _ [0,3,4,7,8],n,s,_,_,rfl,by unfold uC;rw [if_pos oF]⟩
  rintro _ ⟨n',s',rows,clk,rfl,EL⟩
  refine W.b9 (fun K hK=>?_);simp (disch:=omega) [gw]
  refine hK _ ⟨k-1,_,aC _ [0,3,4,7,8],by omega,i+1,n',s',_,_,rfl,by omega,by rw [uK,EL]⟩
 ·have hi:i=l.length:=by simp at h;omega
  subst hi
  refine eJ ?_
  refine aA [2] ?_
  rw [hF]
  exact cP
def nD(c:List ZX)(n d:Int):List Int:=c.map fun p=>H5 p.l n d
theorem AD{l:List Int}{v:Int}:emap aF l ++ [[.int .i64 v]]=emap aF (l ++ [v]):=by simp [emap,aF]
theorem EA{α:Type}[Inhabited α](f:α→Int){c:List α}{i:Nat}(h:i<c.length):(c.take i).map f ++ [f (nth c i)]=(c.take (i+1)).map f:=by
 rw [List.take_add_one,List.getElem?_eq_getElem h,c9 h,List.map_append];rfl
theorem ML{c:List ZX}{n d:Int}(hl:c.length<1000000)(hS:∀p∈c,aH env.P 77 [PI p.l,R2 n d] (.int .i64 (H5 p.l n d))):aH env.P 151 [aJ zq c,R2 n d] (.int .i64 (vr (nD c n d))):=by
 have hT:=QR (nD c n d) (by simp [nD];omega)
 have fF:(emap aF (nD c n d)).length=c.length:=by simp [nD,emap]
 have DW:(nD c n d)=(c.take c.length).map fun p=>H5 p.l n d:=by rw [List.take_length];rfl
 have htG:(nD c n d).take c.length=nD c n d:=List.take_of_length_le (by simp [nD])
 generalize vr (nD c n d)=r at *
 generalize hg:nD c n d=G at *
 refine cA [(0,aJ zq c),(1,R2 n d)] Tryz.func151 ?_
 refine aA [0,3] ?_
 refine aA [0,3,5] ?_
 refine W.nil 5 5 3 1 (by simp) (by decide) (fun K hK=>?_)
 refine W.lw [0,3,5] hK ?_;clear hK K;simp
 refine aM [0,3,5,8,9] ?_
 refine W.block ?_
 refine W.a8 (fun k σ=>∃(i ver v3 e3:Nat) (rows:Pm.Rows) (clk:Nat),σ=⟨fa [(0,aJ zq c),(3, .ptr 3 v3 0 0),(5, .own 5 ver 0 i),(8, .int .i64 c.length),(9, .int .i64 i)],rows,clk⟩∧i+k=c.length ∧
  rows 3=some ⟨v3,e3,4,[[aJ aF (aU DD n.natAbs), .bool (decide (n<0)),aJ aF (aU DD d.natAbs), .bool (decide (d<0))]]⟩∧rows 5=some ⟨ver,3,1,emap aF ((c.take i).map fun p=>H5 p.l n d)⟩) c.length ?_ ?_
 ·exact⟨_, .refl,0,_,_,_,_,_,rfl,by omega,by simp;first | exact⟨rfl,rfl⟩ | exact rfl,by simp [emap]⟩
 rintro k _ ⟨i,ver,v3,e3,rows,clk,rfl,KX,fU,dY⟩
 have wQ:((c.take i).map fun p=>H5 p.l n d).length=i:=by simp;omega
 refine cC [0,3,5,8,9,10] ?_
 refine bP ?_ ?_<;>intro h
 ·have hi:i<c.length:=by simp at h;omega
  have hSi:=hS _ (bI hi)
  have ZK:=EA (fun p:ZX=>H5 p.l n d) hi
  generalize hpr:(c.take i).map (fun p=>H5 p.l n d)=pr at *
  generalize hv:H5 (nth c i).l n d=v at *
  have oQ:(emap aF pr).length=i:=by simp [emap,wQ]
  refine iT ?_
  refine aA [0,3,5,6,8,9] ?_
  refine W.BI (fun K hK=>?_)
  simp (disch:=omega) [gw,hi,fU,dY]
  refine aD hSi ?_
  simp (disch:=omega) [gw,dY,oQ,AD]
  (try (refine bF (of_decide_eq_true (by kernel_rfl)) ?_));(try simp (maxSteps:=4000000) (disch:=omega) [gw,dY,oQ,AD]);(repeat rw [if_pos (by kernel_rfl)]);(try simp (maxSteps:=4000000) (disch:=omega) [gw,dY,oQ,AD])
  refine W.lw [0,3,5,8,9] hK ?_;clear hK K;simp
  refine W.b9 (fun K hK=>?_);simp (disch:=omega) [gw]
  refine hK _ ⟨k-1,_,aC _ [0,3,5,8,9],by omega,i+1,_,v3,e3,_,_,rfl,by omega,by simp [fU],by simp [AD,ZK]⟩
 ·have hi:i=c.length:=by simp at h;omega
  subst hi
  rw [←DW]at dY
  refine eJ ?_
  refine W.sr ?_
  simp (disch:=omega) [gw,dY,fF,htG]
  refine cI [4] hT ?_
  exact cP
theorem MM{c:List ZX}{n d m e:Int}(hn:sz 2 n≤YY)(hd:sz 2 d≤YY)(hm:sz 2 m≤YY)(he:sz 2 e≤YY)(hl:c.length<1000000)(h1:aH env.P 151 [aJ zq c,R2 n d] (.int .i64 (vr (nD c n d))))(h2:aH env.P 151 [aJ zq c,R2 m e] (.int .i64 (vr (nD c m e)))) :
  aH env.P 76 [aJ zq c,R2 n d,R2 m e] (.int .i64 (if m*d<n*e then 0 else(vr (nD c n d):Int)-vr (nD c m e))):=by
 have c1:=xO m e n d hm he hn hd
 have v1:=MJ (nD c n d)
 have v2:=MJ (nD c m e)
 have l1:(nD c n d).length=c.length:=by simp [nD]
 have l2:(nD c m e).length=c.length:=by simp [nD]
 generalize vr (nD c n d)=a at *
 generalize vr (nD c m e)=b at *
 have hc:(eD (m*d) (n*e)<0)↔m*d<n*e:=by
  unfold eD;split
  ·omega
  ·split<;>omega
 generalize m*d=xx at *
 generalize n*e=yy at *
 generalize eD xx yy=z at *
 refine cA [(0,aJ zq c),(1,R2 n d),(2,R2 m e)] Tryz.func76 ?_
 refine aA [0,4,5] ?_
 refine W.seq ?_
 refine aY [0,4,5,10] c1 ?_
 refine bP ?_ ?_<;>intro h
 ·have h:z<0:=by simpa using h
  rw [if_pos (hc.1 h)]
  refine aA [6] ?_
  exact cP
 ·have h:¬z<0:=by simpa using h
  rw [if_neg (fun hh=>h (hc.2 hh))]
  refine W.skip ?_
  refine kB ?_
  refine b8 h1 ?_
  refine cI [6] h2 ?_
  exact cP
theorem agw{n d:Int}(hn:Z n)(hd:Z d):aH env.P 23 [R2 n d] (T2 n d):=by
 have t1:=vH n hn
 have t2:=vH d hd
 refine cA [(0,R2 n d)] Tryz.func23 ?_
 refine aA [1,2] ?_
 refine kB ?_
 refine b8 t1 ?_
 refine b8 t2 ?_
 (try (refine bF (of_decide_eq_true (by kernel_rfl)) ?_));(try simp (maxSteps:=4000000) (disch:=omega) [gw]);(repeat rw [if_pos (by kernel_rfl)]);(try simp (maxSteps:=4000000) (disch:=omega) [gw])
 refine bO [2] ?_
 exact cP
abbrev CH(c:List ZX):PV:=.rd [aJ zp c]
theorem MN{l:List Int}(hs:∀s∈l,s = -1∨s=0∨s=1):∀i,i≤l.length→((l.take i).foldl uC (0,0)).2 = -1∨((l.take i).foldl uC (0,0)).2=0∨((l.take i).foldl uC (0,0)).2=1
 | 0,_ => .inr (.inl (by simp))
 | i+1,h=>by
  rw [xR (by omega)]
  have ih:=MN hs i (by omega)
  have:=hs _ (bI (show i<l.length by omega))
  unfold uC
  split
  ·exact ih
  ·exact this
theorem QS(g:FuncId)(hw:G3 g=false)(cL:List PV)(hc:cL.all fV=true)(c:List ZX)(sg:ZX→Int)(hl:c.length<1000000)(hs:∀p∈c,sg p = -1∨sg p=0∨sg p=1)(hg:∀p∈c,aH env.P g (Po p.l::cL) (.int .i64 (sg p))) :
  aH env.P 219 [CH c, .fn g cL] (.int .i64 (vr (c.map sg))):=by
 have hv:vr (c.map sg)=(((c.map sg).take c.length).foldl uC (0,0)).1:=by rw [List.take_of_length_le (by simp)];rfl
 rw [hv]
 have hb:∀i,(((c.map sg).take i).foldl uC (0,0)).1≤i:=fun i=>by have:=QQ ((c.map sg).take i) (0,0);simp at this;omega
 have j3:=fun i (h:i<(c.map sg).length)=>xR h
 have XU:=MN (l:=c.map sg) (fun s h=>by
  simp only [List.mem_map]at h
  obtain⟨p,hp,rfl⟩:=h
  exact hs p hp)
 have hln:(c.map sg).length=c.length:=by simp
 have CW:∀i,i<c.length→nth (c.map sg) i=sg (nth c i):=fun i hi=>by rw [c9 (by simpa using hi),c9 hi];simp
 refine cA [(0,CH c),(1, .fn g cL)] Tryz.func219 ?_
 refine aA [0,1] ?_
 refine aA [0,1,5,6] ?_
 refine aM [1,5,6,13,14,15] ?_
 refine W.block ?_
 refine W.a8 (fun k σ=>∃(i:Nat) (n:Nat) (s:Int) (rows:Pm.Rows) (clk:Nat),σ=⟨fa [(1, .fn g cL),(5, .int .i64 n),(6, .int .i64 s),(13,aJ zp c),(14, .int .i64 c.length),(15, .int .i64 i)],rows,clk⟩∧i+k=c.length∧((c.map sg).take i).foldl uC (0,0)=(n,s)) c.length ?_ ?_
 ·exact⟨_, .refl,0,0,0,_,_,rfl,by omega,by simp⟩
 rintro k _ ⟨i,n,s,rows,clk,rfl,KX,hF⟩
 have hni:n≤i:=by have:=hb i;rw [hF]at this;exact this
 have hsv:=XU i (by omega)
 rw [hF]at hsv
 simp only at hsv
 refine cC [1,5,6,13,14,15,16] ?_
 refine bP ?_ ?_<;>intro h
 ·have hi:i<c.length:=by simp at h;omega
  have uK:=j3 i (by omega)
  have hgi:=hg _ (bI hi)
  have hxv:=hs _ (bI hi)
  rw [hF,CW i hi]at uK
  generalize hx:sg (nth c i)=x at *
  refine W.skip ?_
  refine W.fM (fun σ=>∃(n':Nat) (s':Int) (rows:Pm.Rows) (clk:Nat),σ=⟨fa [(1, .fn g cL),(5, .int .i64 n'),(6, .int .i64 s'),(13,aJ zp c),(14, .int .i64 c.length),(15, .int .i64 i)],rows,clk⟩∧uC (n,s) x=(n',s')) ?_ ?_
  ·refine W.sr ?_
   simp (disch:=omega) [gw,hi]
   refine bO [1,5,6,8,13,14,15] ?_
   refine W.sr ?_
   simp only [G3]at hw
   simp (disch:=omega) [gw,hw,hc]
   refine cI [1,5,6,9,13,14,15] hgi ?_
   refine aM [1,5,6,9,13,14,15,23] ?_
   refine bP ?_ ?_<;>intro h
   ·have oF:x=0:=by simpa using h
    refine eJ ?_
    exact⟨_,aC _ [1,5,6,13,14,15],n,s,_,_,rfl,by unfold uC;rw [if_pos oF]⟩
   ·have oF:x≠0:=by simpa using h
    refine W.skip ?_
    refine W.gD (fun σ=>∃(n':Nat) (rows:Pm.Rows) (clk:Nat),σ=⟨fa [(1, .fn g cL),(5, .int .i64 n'),(9, .int .i64 x),(13,aJ zp c),(14, .int .i64 c.length),(15, .int .i64 i)],rows,clk⟩∧uC (n,s) x=(n',x)) ?_ ?_
    ·refine aA [1,5,9,13,14,15,27] ?_
     refine bP ?_ ?_<;>intro h
     ·have h:s = -x:=by simpa using h
      refine W.b9 (fun K hK=>?_);simp (disch:=omega) [gw]
      exact hK _ ⟨_,aC _ [1,5,9,13,14,15],n+1,_,_,rfl,by unfold uC;rw [if_neg oF];simp only;rw [if_pos ⟨by omega,by omega⟩]⟩
     ·have h:¬s = -x:=by simpa using h
      refine W.skip ?_
      exact⟨_,aC _ [1,5,9,13,14,15],n,_,_,rfl,by unfold uC;rw [if_neg oF];simp only;rw [if_neg (fun hh=>by obtain⟨h1,h2⟩:=hh;omega)]⟩
    rintro _ ⟨n',rows,clk,rfl,EL⟩
    refine W.b9 (fun K hK=>?_);simp (disch:=omega) [gw]
    exact hK _ ⟨_,aC _ [1,5,6,13,14,15],n',x,_,_,rfl,EL⟩
  rintro _ ⟨n',s',rows,clk,rfl,EL⟩
  refine W.b9 (fun K hK=>?_);simp (disch:=omega) [gw]
  refine hK _ ⟨k-1,_,aC _ [1,5,6,13,14,15],by omega,i+1,n',s',_,_,rfl,by omega,by rw [uK,EL]⟩
 ·have hi:i=c.length:=by simp at h;omega
  subst hi
  refine eJ ?_
  refine aA [4] ?_
  rw [hF]
  exact cP
theorem acI{s k u:Nat}{n d:Int}(hn:sz LL n≤u)(hd:sz LL d≤u)(hu:1≤u):∀ {x:List Int},Bd LL s k x→sz LL (hm n d x).1≤s+x.length*(u+1)∧sz LL (hm n d x).2≤x.length*u+1
 | [],_=>⟨by show sz LL 0≤_;rw [show sz LL 0=0 by decide];omega,by show sz LL 1≤_;exact Nat.le_trans (cK (k:=1) eB (by decide)) (by omega)⟩
 | a::l,h=>by
  obtain⟨h1,h2⟩:=acI hn hd hu (x:=l) ⟨Nat.le_trans (by simp) h.len,fun c hc=>h.sz c (by simp [hc])⟩
  have ha:=h.sz a (by simp)
  have e:(a::l).length*u=l.length*u+u:=by rw [List.length_cons,Nat.add_mul];omega
  have e':(a::l).length*(u+1)=l.length*u+l.length+u+1:=by rw [List.length_cons,Nat.add_mul,Nat.mul_add];omega
  have e'':l.length*(u+1)=l.length*u+l.length:=by rw [Nat.mul_add];omega
  refine⟨?_,?_⟩
  ·have g1:=cE (b:=LL) eB h1 hn
   have g2:=cE (b:=LL) eB ha h2
   have:=o0 (b:=LL) eB (Nat.le_trans g1 (Nat.le_max_left _ (s+(l.length*u+1)))) (Nat.le_trans g2 (Nat.le_max_right (s+l.length*(u+1)+u) _))
   refine Nat.le_trans this ?_
   rw [e',e'']
   omega
  ·have:=cE (b:=LL) eB h2 hd
   rw [e]
   exact Nat.le_trans this (by omega)
theorem X6{x:List Int}{n d:Int}{s k u:Nat}(hx:Bd LL s k x)(hn:sz LL n≤u)(hd:sz LL d≤u)(hu:1≤u)(hk:k<1099511627776)(hB:s+k*(u+1)+u<500000000000):aH env.P 167 [Po x,I n,I d] (I (hm n d x).1)∧Sz (hm n d x).1:=by
 have hl:=hx.len
 have hO:=tN 1 (by decide) (by decide)
 have bd:=fun i=>acI (s:=s) (k:=k) (x:=x.drop i) hn hd hu ⟨by simp;omega,fun c hc=>hx.sz c (List.mem_of_mem_drop hc)⟩
 have hle:∀i,(x.drop i).length*(u+1)≤k*(u+1):=fun i=>Nat.mul_le_mul_right _ (by simp;omega)
 have acA:∀i,(x.drop i).length*u≤(x.drop i).length*(u+1):=fun i=>Nat.mul_le_mul_left _ (by omega)
 have step:∀i,i<x.length→hm n d (x.drop i)=((hm n d (x.drop (i+1))).1*n+nth x i*(hm n d (x.drop (i+1))).2,(hm n d (x.drop (i+1))).2*d):=fun i hi=>by
  rw [List.drop_eq_getElem_cons hi,c9 hi];rfl
 have QE:hm n d (x.drop x.length)=(0,1):=by rw [List.drop_length];rfl
 have h0:hm n d (x.drop 0)=hm n d x:=rfl
 have hz:Sz (hm n d x).1:=by have:=(bd 0).1;have:=hle 0;rw [h0]at *;show _<_;omega
 refine⟨?_,hz⟩
 have M:∀i,i<x.length→aH env.P 66 [I (hm n d (x.drop (i+1))).1,I n] (I ((hm n d (x.drop (i+1))).1*n))∧aH env.P 66 [I (nth x i),I (hm n d (x.drop (i+1))).2] (I (nth x i*(hm n d (x.drop (i+1))).2)) ∧
   aH env.P 65 [I ((hm n d (x.drop (i+1))).1*n),I (nth x i*(hm n d (x.drop (i+1))).2)] (I (hm n d (x.drop i)).1)∧aH env.P 66 [I (hm n d (x.drop (i+1))).2,I d] (I (hm n d (x.drop i)).2):=fun i hi=>by
  obtain⟨b1,b2⟩:=bd (i+1)
  have l1:=hle (i+1)
  have l2:=acA (i+1)
  have ha:=hx.sz _ (bI hi)
  have g1:=cE (b:=LL) eB b1 hn
  have g2:=cE (b:=LL) eB ha b2
  have zz:∀ {v:Int},sz LL v<1099511627776→Sz v:=fun h=>h
  have e:=step i hi
  rw [e]
  exact⟨s8 (zz (by omega)) (zz (by omega)),s8 (zz (by omega)) (zz (by omega)),abi (zz (by omega)) (zz (by omega)),s8 (zz (by omega)) (zz (by omega))⟩
 clear bd hle acA step hz
 generalize hm n d x=r0 at *
 refine cA [(0,Po x),(1,I n),(2,I d)] Tryz.func167 ?_
 refine aA [0,4,5,6] ?_
 refine aA [0,4,5,6,7] ?_
 refine aY [0,4,5,6,7,8] hO ?_
 refine aM [0,4,5,6,7,8,9] ?_
 refine W.row (id:=7) (els:=[[.bool false, .nil]]) [[.bool (decide ((0:Int)<0)),us (aU LL (0:Int).natAbs)]] (by simp;first | exact⟨rfl,rfl,rfl⟩ | exact⟨rfl,rfl⟩ | rfl) ⟨⟨.inl rfl, .inr ⟨rfl,rfl⟩,trivial⟩,trivial⟩ ?_
 refine W.block ?_
 refine W.a8 (fun k σ=>∃(v4 v5 v6 v7 v8 e4 e5 e6 e7 e8:Nat) (rows:Pm.Rows) (clk:Nat),σ=⟨fa [(0,Po x),(4, .ptr 4 v4 0 0),(5, .ptr 5 v5 0 0),(6, .ptr 6 v6 0 0),(7, .ptr 7 v7 0 0),(8, .ptr 8 v8 0 0),(9, .int .i64 ((k:Int)-1))],rows,clk⟩∧k≤x.length ∧
  rows 4=some ⟨v4,e4,2,[[.bool (decide (n<0)),us (aU LL n.natAbs)]]⟩∧rows 5=some ⟨v5,e5,2,[[.bool (decide (d<0)),us (aU LL d.natAbs)]]⟩∧rows 6=some ⟨v6,e6,2,[[.bool false, .nil]]⟩ ∧
  rows 7=some ⟨v7,e7,2,[[.bool (decide ((hm n d (x.drop k)).1<0)),us (aU LL (hm n d (x.drop k)).1.natAbs)]]⟩ ∧
  rows 8=some ⟨v8,e8,2,[[.bool (decide ((hm n d (x.drop k)).2<0)),us (aU LL (hm n d (x.drop k)).2.natAbs)]]⟩) x.length ?_ ?_
 ·exact⟨_, .refl,_,_,_,_,_,_,_,_,_,_,_,_,rfl,Nat.le_refl _,by simp;(first | exact⟨rfl,rfl⟩ | rfl),by simp;(first | exact⟨rfl,rfl⟩ | rfl),by simp;(first | exact⟨rfl,rfl⟩ | rfl),by rw [QE];simp;(first | exact⟨rfl,rfl⟩ | rfl),by rw [QE];simp;(first | exact⟨rfl,rfl⟩ | rfl)⟩
 rintro k _ ⟨v4,v5,v6,v7,v8,e4,e5,e6,e7,e8,rows,clk,rfl,hkl,gN,dY,kS,nZ,zM⟩
 refine aM [0,4,5,6,7,8,9,15] ?_
 refine bP ?_ ?_<;>intro h
 ·have uR:0<k:=by simp at h;omega
  obtain⟨k,rfl⟩:∃j,k=j+1:=⟨k-1,by omega⟩
  obtain⟨m1,m2,m3,m4⟩:=M k (by omega)
  generalize hm n d (x.drop (k+1))=A at *
  have e1:(((k+1:Nat):Int)-1).toNat=k:=by omega
  refine iT ?_
  refine W.sd ?_
  simp (disch:=omega) [gw,gN,nZ]
  refine aD m1 ?_
  simp (disch:=omega) [gw,zM]
  refine b8 m2 ?_
  refine aD m3 ?_
  simp (disch:=omega) [gw,nZ]
  (try (refine bF (of_decide_eq_true (by kernel_rfl)) ?_));(try simp (maxSteps:=4000000) (disch:=omega) [gw,nZ]);(repeat rw [if_pos (by kernel_rfl)]);(try simp (maxSteps:=4000000) (disch:=omega) [gw,nZ])
  refine bO [0,4,5,6,7,8,9] ?_
  refine W.b9 (fun K hK=>?_)
  simp (disch:=omega) [gw,zM,dY]
  refine aD m4 ?_
  simp (disch:=omega) [gw,zM]
  refine W.lw [0,4,5,6,7,8,9] hK ?_;clear hK K;simp
  refine W.b9 (fun K hK=>?_);simp (disch:=omega) [gw]
  refine hK _ ⟨k,_,aC _ [0,4,5,6,7,8,9],by omega,v4,v5,v6,v7,v8,_,_,_,_,_,_,_,rfl,by omega,by simp [gN];exact rfl,by simp [dY];exact rfl,by simp [kS];exact rfl,by simp;exact rfl,by simp;exact rfl⟩
 ·have uR:k=0:=by simp at h;omega
  subst uR
  rw [h0]at nZ
  refine eJ ?_
  refine W.sr ?_
  simp (disch:=omega) [gw,nZ,kS]
  refine bO [6] ?_
  exact cP
theorem w5(v:Int):eD v 0=v.sign:=by
 rcases Int.lt_trichotomy v 0 with h | h | h
 ·rw [Int.sign_eq_neg_one_of_neg h,oY h]
 ·subst h;decide
 ·rw [Int.sign_eq_one_of_pos h,oZ h]
theorem FQ{x:List Int}{n d:Int}{s k u:Nat}(hx:Bd LL s k x)(cx:Cn x)(hn:sz LL n≤u)(hd:sz LL d≤u)(hu:1≤u)(hk:k<1099511627774)(hu2:u<500000000000)(hB:s+k*(u+1)+u<500000000000){q:Rat}(hq:dJ n d=q)(sq:sz LL q.num≤u∧sz LL (q.den:Int)≤u):aH env.P 87 [Po x,T2 n d] (.int .i64 (H5 x q.num q.den)):=by
 have p1:=X5 (n:=n) (d:=d) (Nat.lt_of_le_of_lt hn (by omega)) (Nat.lt_of_le_of_lt hd (by omega))
 rw [hq]at p1
 have n1:=gY (x:=x) (PB.of hx (by omega) (by omega))
 rw [show aI x=x from cx]at n1
 obtain⟨hV,hz⟩:=X6 hx sq.1 sq.2 hu (by omega) hB
 have c1:=ain (x:=(hm q.num q.den x).1) (y:=0) hz (show sz LL 0<_ by decide)
 rw [w5,show(hm q.num q.den x).1.sign=H5 x q.num q.den from rfl]at c1
 replace p1:aH env.P 166 [T2 n d] (T2 q.num q.den):=p1
 generalize H5 x q.num q.den=r at *
 generalize (hm q.num q.den x).1=v at *
 generalize q.num=qn at *
 generalize (q.den:Int)=qd at *
 refine cA [(0,Po x),(1,T2 n d)] Tryz.func87 ?_
 refine aA [0,3] ?_
 refine aY [0,3] p1 ?_
 refine kB ?_
 refine b8 n1 ?_
 refine b8 hV ?_
 refine cI [4] c1 ?_
 exact cP
@[simp] theorem aeP{l:List PV}:fV (.rd l)=true:=rfl
@[simp] theorem aa1{l:List PV}:cW (.rd l)=true:=rfl
@[simp] theorem aeQ{l:List PV}:a9 (.rd l) = []:=rfl
@[simp] theorem auy{l:List PV}:dW (.rd l) = []:=rfl
@[simp] theorem aAA{rows:Pm.Rows}{l:List PV}:fz rows (.rd l) = .rd l:=rfl
@[simp] theorem aAB{rows:Pm.Rows}{l:List PV}:pz rows (.rd l) = .rd l:=rfl
theorem axL(v:Int):v.sign = -1∨v.sign=0∨v.sign=1:=by
 rcases Int.lt_trichotomy v 0 with h | h | h
 ·exact .inl (Int.sign_eq_neg_one_of_neg h)
 ·rw [h];exact .inr (.inl rfl)
 ·exact .inr (.inr (Int.sign_eq_one_of_pos h))
theorem QT{c:List ZX}(hl:c.length<1000000){n d:Int}{q:Rat}(hS:∀p∈c,aH env.P 87 [Po p.l,T2 n d] (.int .i64 (H5 p.l q.num q.den))):aH env.P 168 [CH c,T2 n d] (.int .i64 (vr (nD c q.num q.den))):=by
 have hT1:∀p∈c,aH env.P 232 [Po p.l, .rd [.bool (decide (n<0)),us (aU LL n.natAbs), .bool (decide (d<0)),us (aU LL d.natAbs)]] (.int .i64 (H5 p.l q.num q.den)):=fun p hp=>by
  have h1:=hS p hp
  generalize H5 p.l q.num q.den=r at *
  generalize p.l=x at *
  refine cA [(0,Po x),(1, .rd [.bool (decide (n<0)),us (aU LL n.natAbs), .bool (decide (d<0)),us (aU LL d.natAbs)])] Tryz.func232 ?_
  refine aA [0,1] ?_
  refine aY [3] h1 ?_
  exact cP
 have h1:=QS 232 rfl [.rd [.bool (decide (n<0)),us (aU LL n.natAbs), .bool (decide (d<0)),us (aU LL d.natAbs)]] rfl c (fun p=>H5 p.l q.num q.den) hl (fun p hp=>axL _) hT1
 rw [show c.map (fun p=>H5 p.l q.num q.den)=nD c q.num q.den from rfl]at h1
 generalize vr (nD c q.num q.den)=r at *
 refine cA [(0,CH c),(1,T2 n d)] Tryz.func168 ?_
 refine aA [0,3] ?_
 refine aY [4] h1 ?_
 exact cP
theorem ID{c:List ZX}(hl:c.length<1000000){n d m e:Int}{p q:Rat}{z:Int}(hz:aH env.P 86 [T2 m e,T2 n d] (.int .i64 z))(h1:aH env.P 168 [CH c,T2 n d] (.int .i64 (vr (nD c p.num p.den))))(h2:aH env.P 168 [CH c,T2 m e] (.int .i64 (vr (nD c q.num q.den)))) :
  aH env.P 88 [CH c,T2 n d,T2 m e] (.int .i64 (if z<0 then 0 else(vr (nD c p.num p.den):Int)-vr (nD c q.num q.den))):=by
 have v1:=MJ (nD c p.num p.den)
 have v2:=MJ (nD c q.num q.den)
 have l1:(nD c p.num p.den).length=c.length:=by simp [nD]
 have l2:(nD c q.num q.den).length=c.length:=by simp [nD]
 generalize vr (nD c p.num p.den)=a at *
 generalize vr (nD c q.num q.den)=b at *
 refine cA [(0,CH c),(1,T2 n d),(2,T2 m e)] Tryz.func88 ?_
 refine aA [0,4,5] ?_
 refine W.seq ?_
 refine aY [0,4,5,10] hz ?_
 refine bP ?_ ?_<;>intro h
 ·have h:z<0:=by simpa using h
  rw [if_pos h]
  refine aA [6] ?_
  exact cP
 ·have h:¬z<0:=by simpa using h
  rw [if_neg h]
  refine W.skip ?_
  refine kB ?_
  refine b8 h1 ?_
  refine cI [6] h2 ?_
  exact cP
theorem y9{a:ZX}(ha:a≠0):Nf (sq a)∧dv (sq a) (nf a):=by
 have nA:=lH ha
 unfold sq
 split
 ·exact⟨nA,dv.refl _⟩
 ·exact⟨(iV nA 0).1,H3 nA 0⟩
theorem wR.sqb{s n:Nat}{a:ZX}(h:wR s n a)(ha:a≠0):BZ (qb s n) n (sq a):=h.nfz.dv (lH ha) (y9 ha).1 (y9 ha).2
theorem wR.ch{s n:Nat}{a:ZX}(h:wR s n a)(ha:a≠0)(n3:1≤n):Ch (qb s n) n (sq a):=⟨h.sqb ha,h.hn,n3,Nat.le_trans (Nat.mul_le_mul_right _ (by omega)) h.hC⟩
theorem uD{s n:Nat}{a:ZX}(h:wR s n a)(ha:a≠0)(n3:1≤n)(h1:1≤s):aH env.P 81 [PI a.l] (aJ zq (cH (sq a))):=
 ME (wB h h1) (h.ch ha n3) (by unfold qb;omega)
abbrev AP(x:List Int)(c:List ZX)(n d:Int):PV:=.ag [PI x,aJ zq c,aJ aF (aU DD n.natAbs), .bool (decide (n<0)),aJ aF (aU DD d.natAbs), .bool (decide (d<0)),aJ aF (aU DD n.natAbs), .bool (decide (n<0)),aJ aF (aU DD d.natAbs), .bool (decide (d<0))]
theorem mK{v:Int}{k:Nat}(h:v.natAbs<2^k):sz 2 v≤k:=cK (by decide) h
theorem EC{n d:Int}(hn:n.natAbs<65536)(hd:d.natAbs<65536)(h0:d≠0){x:ZX}(hx:x.l = [-n,d]):aH env.P 41 [R2 n d] (AP [-n,d] (cH (sq x)) n d):=by
 have bz:BZ 16 2 x:=⟨by rw [hx];simp,fun c hc=>by
  rw [hx]at hc
  simp only [List.mem_cons,List.not_mem_nil,or_false]at hc
  rcases hc with rfl | rfl
  ·exact mK (by rw [Int.natAbs_neg];exact hn)
  ·exact mK hd⟩
 have hL:wR 16 2 x:=⟨bz,by decide,by decide,by decide⟩
 have hc:=uD hL (ZX.aE.2 (by show 0<x.l.length;rw [hx];simp)) (by decide) (by decide)
 rw [hx]at hc
 generalize cH (sq x)=C at *
 have zs:∀ {v:Int},v.natAbs<65536→sz 2 v≤16:=fun h=>mK h
 have hO:=iF 1 (by decide) (by decide)
 have m1:=j0 n 1 (by have:=zs hn;simp only [Y];omega) (by decide)
 have m2:=j0 d 1 (by have:=zs hd;simp only [Y];omega) (by decide)
 have hng:=B6 (n:Rat)
 rw [kR]at m1 m2
 rw [show -((n:Int):Rat)=((-n:Int):Rat)by simp]at hng
 rw [show RR ((n:Int):Rat) = .ag (ri n)from congrArg PV.ag (fN n)]at m1 hng
 rw [show RR ((d:Int):Rat) = .ag (ri d)from congrArg PV.ag (fN d)]at m2
 rw [show RR ((-n:Int):Rat) = .ag (ri (-n))from congrArg PV.ag (fN (-n))]at hng
 have e1:PI [-n,d] = .sl [ri (-n),ri d]:=rfl
 rw [e1]at hc
 unfold AP
 rw [e1]
 clear e1 hL bz hx x
 generalize -n=m at *
 simp only [abI,H6]at *
 refine cA [(0,R2 n d)] Tryz.func41 ?_
 refine aA [1,2] ?_
 refine W.sd ?_
 simp (maxSteps:=4000000) (disch:=omega) [gw]
 refine aD hO ?_
 simp (maxSteps:=4000000) (disch:=omega) [gw]
 refine aD m1 ?_
 simp (maxSteps:=4000000) (disch:=omega) [gw]
 refine aD hng ?_
 simp (maxSteps:=4000000) (disch:=omega) [gw]
 refine aD hO ?_
 simp (maxSteps:=4000000) (disch:=omega) [gw]
 refine aD m2 ?_
 simp (maxSteps:=4000000) (disch:=omega) [gw]
 refine bO [1,2,3] ?_
 refine W.sd ?_
 simp (maxSteps:=4000000) (disch:=omega) [gw]
 refine aD hc ?_
 simp (maxSteps:=4000000) (disch:=omega) [gw]
 try (refine bF (by kernel_rfl) ?_)
 try simp (maxSteps:=4000000) (disch:=omega) [gw]
 refine bO [2] ?_
 exact cP
def sml(n d:Int):Rat:=dJ (n%61-30) (1+d%6)
theorem X7(n d:Int)(hn : -9223372036854775808≤n∧n<9223372036854775808)(hd : -9223372036854775808≤d∧d<9223372036854775808):aH env.P 25 [.int .i64 n, .int .i64 d] (RR (sml n d)):=by
 have w1:=mB n 61 hn (by decide) (by decide)
 have w2:=mB d 6 hd (by decide) (by decide)
 have h1:=Int.emod_nonneg n (show (61:Int)≠0 by decide)
 have h2:=Int.emod_lt_of_pos n (show (0:Int)<61 by decide)
 have h3:=Int.emod_nonneg d (show (6:Int)≠0 by decide)
 have h4:=Int.emod_lt_of_pos d (show (0:Int)<6 by decide)
 have o1:=pI (n%61-30) (1+d%6) (by omega) (by omega)
 have e:dJ (n%61-30) (1+d%6)=sml n d:=rfl
 rw [e]at o1
 generalize sml n d=q at *
 generalize n%61=a at *
 generalize d%6=b at *
 rw [gR]at *
 generalize q.num=qn at *
 generalize (q.den:Int)=qd at *
 refine cA [(0, .int .i64 n),(1, .int .i64 d)] Tryz.func25 ?_
 refine aA [0,1,4] ?_
 refine j4 ?_
 refine b8 w1 ?_
 refine b8 w2 ?_
 refine cI [4] o1 ?_
 exact cP
end Go.Proofs.YtiobceocpabjdaaGreat
namespace Pm
open Go Go.RowKit
def X8(E:Env)(o:Oper)(K:PS→Prop)(σ:PS):Prop:=
 match o.op with
 | .build t ⟨[(0,x)]⟩=>E.ty t = .struct [(0,1,false)] (E.ty t).zero∧(E.ty t).zero.length=1∧cD (aS σ.f x)=some [aS σ.f x]∧iP σ.rows (aS σ.f x)∧K (σ.put o.dst (.ag [aS σ.f x]))
 | _=>False
section
variable {E:Env} {w0:World} {S0:dV} {m:Nat} {G:Gs}
theorem QU{o:Oper}{a:Act}{w:World}{σ:PS}{K:PS→Prop}(h:X8 E o K σ)(hR:Rel w0 S0 m G σ a w)(hd:∀t,o.dst=some t→t<m)
  {K':Act→World→Prop} {Q:Exit→Act→World→Prop} (hK:∀σ' a' w',K σ'→Rel w0 S0 m G σ' a' w'→K' a' w'):o.wp E.P a w K' Q:=by
 obtain⟨⟨c,rfl,hr,fF,hI,hf,hG⟩,hn,fC⟩:=hR
 have hρ:=lJ hf
 obtain⟨dst,op,type,pos,after,guard⟩:=o
 simp only at hd
 unfold X8 at h
 simp only at h
 split at h
 ·rename_i t x
  obtain⟨hE,GB,hc,ho,hk⟩:=h
  rw [←hr]at ho
  obtain⟨g1,g2⟩:=lW (hρ x) hc (fun q hq=>by simp at hq;subst hq;exact ho)
  have ht:=E.ok t
  rw [hE]at ht
  obtain⟨⟨fields,hu,ha⟩,hz⟩:=ht
  obtain⟨i,zv,hi,hzv,_,N6,_⟩:=hz.ok
  have DL:zv.cells.size=1:=by
   have:(zv.cells.toList.map iW).length=1:=by rw [N6];exact GB
   simpa using this
  have JA:(a.eval x).cells.size=1:=by have:=g1.length;simpa using this.symm
  have EG:=oR 0 (a.eval x).cells.toList 0 zv.cells (by simp;omega)
  have hl:((a.eval x).cells.toList.zipIdx 0).foldl (fun cs (x:Value × Nat)=>cs.setIfInBounds (0+x.2) x.1) zv.cells=(a.eval x).cells:=by
   apply Array.toList_inj.1
   rw [EG]
   have h1:(a.eval x).cells.toList.length=1:=by simpa using JA
   have h2:zv.cells.toList.length=1:=by simpa using DL
   rw [h1]
   simp [List.drop_of_length_le,h2]
  have iZ:(execOp a.eval { dst:=dst,op:=.build t ⟨[(0,x)]⟩,type:=type,pos:=pos,after:=after,guard:=guard }).run E.P c.w = .ok (.value (.agg (a.eval x).cells)) c.w:=by
   have aiS:Instr.fill (fun x=>(([(0,1,false)]:List (Nat × Nat × Bool)).toArray.map fun x=>(x.1,x.2.1))[x]?) zv.cells [(0,a.eval x)]=some (a.eval x).cells:=by
    have ZL:(([(0,1,false)]:List (Nat × Nat × Bool)).toArray.map fun x=>(x.1,x.2.1))[0]? = some (0,1):=by simp
    simp only [Instr.fill,ZL]
    rw [if_neg (by simp [JA,DL])]
    have hz3:(a.eval x).cells.toList.zipIdx=(a.eval x).cells.zipIdx.toList:=by simp
    have h5:(a.eval x).cells.zipIdx.foldl (fun cs (x:Value × Nat)=>cs.setIfInBounds (0+x.2) x.1) zv.cells=(a.eval x).cells:=by
     rw [←Array.foldl_toList,←hz3];exact hl
    simp only [h5]
   simp only [execOp,Instr.build,zeroValue,typeInfo,program,Sem.run_bind,Sem.run,hi,hzv,Sem.run_pure,Result.andThen_ok,run_underlying hu,run_places ha]
   simp at aiS
   simp [aiS]
  unfold Oper.wp
  rw [iZ]
  refine hK _ _ _ hk ?_
  exact lL hf hG hn fC (sR.refl c) hI (show aK c (.ag [aS σ.f x]) (.agg (a.eval x).cells)from⟨(a.eval x).cells.toList,by simp,g1⟩) hd rfl (by simp [PS.put,hr]) fF
 ·exact h.elim
end
theorem W.ams{E:Env}{n:Nat}{tl:Nat→Nat}{Q:PX→PS→Prop}{σ:PS}{id:Nat}{ops:List Oper}{y:Code}(i:Nat){o o2:Oper}(ho:ops=ops.take i++o::o2::ops.drop (i+2))(hg:o.guard=none)(tF:o2.guard=none)
  (h:∀K:PS→Prop,(∀σ,W E n tl y Q σ→K σ)→go (aN E ops (ops.take i) (fun σ=>LR E o (fun σ=>X8 E o2 (aN E ops (ops.drop (i+2)) K) σ) σ) σ)):W E n tl (.seq (.region id ops.toArray false) y) Q σ:=by
 refine W.seq ?_
 intro iC w0 S0 G a w Q' hR hQ
 simp only [fB,A6,Bool.and_eq_true]at iC
 have hd:∀o∈ops,∀t,o.dst=some t→t<n:=fun o ho t ht=>by
  have:=Array.all_eq_true_iff_forall_mem.1 iC.1 o (by simpa using ho)
  simpa [ht]using this
 refine wp_region_list ?_
 show wpList E.P ops.toArray Q' ops a w
 have h1:=h (fun σ=>W E n tl y Q σ) fun _ h=>h
 have zE:o∈ops:=by rw [ho];simp
 have asE:o2∈ops:=by rw [ho];simp
 have:=mY (E:=E) (w0:=w0) (S0:=S0) (m:=n) (G:=G) (ops:=ops.toArray) (Q:=Q') (l2:=o::o2::ops.drop (i+2)) (K:=fun σ=>LR E o (fun σ=>X8 E o2 (aN E ops (ops.drop (i+2)) (fun σ=>W E n tl y Q σ)) σ) σ) (fun σ' a' w' hl lM=>by
  unfold wpList
  rw [if_pos (by simp [Region.wanted,hg])]
  refine .inl (CE hl lM (hd o zE) fun σ2 a2 w2 hk hR2=>?_)
  unfold wpList
  rw [if_pos (by simp [Region.wanted,tF])]
  refine .inl (QU hk hR2 (hd o2 asE) fun σ3 a3 w3 hk3 hR3=>?_)
  exact i0 (E:=E) (ops:=ops.toArray) (fun σ4 a4 w4 hk4 hR4=>hQ .normal σ4 a4 w4 hk4 hR4) _ σ3 a3 w3 (fun o ho=>hd o (List.mem_of_mem_drop ho)) hk3 hR3) (ops.take i) σ a w (fun o ho=>hd o (List.mem_of_mem_take ho)) h1 hR
 rwa [←ho]at this
@[simp] theorem auz{E:Env}{K:PS→Prop}{f:Nat→PV}{rows:Rows}{clk:Nat}{d:Option Tmp}{ty:TypeId}{pos:String}{af:Array Edge}{t:TypeId}{x:Operand} :
  X8 E ⟨d, .build t ⟨[(0,x)]⟩,ty,pos,af,none⟩ K ⟨f,rows,clk⟩=aG (E.ty t = .struct [(0,1,false)] (E.ty t).zero∧(E.ty t).zero.length=1) (fL (cD (aS f x)) fun l=>aG (l = [aS f x]∧gW rows [aS f x]) (K ⟨put f d (.ag [aS f x]),rows,clk⟩)):=by
 simp only [X8,aG,fL,gW,PS.put]
 apply propext
 constructor
 ·rintro⟨h1,h2,h3,h4,h5⟩;exact⟨⟨h1,h2⟩,_,h3,⟨rfl,by simpa using h4⟩,h5⟩
 ·rintro⟨⟨h1,h2⟩,l,h3,⟨rfl,h4⟩,h5⟩;exact⟨h1,h2,h3,by simpa using h4,h5⟩
end Pm
namespace Go.Proofs.YtiobceocpabjdaaGreat
open Go Pm
theorem BZ.z{h n:Nat}{a:ZX}(b:BZ h n a)(hh:h<1099511627776):∀c∈a.l,Z c:=fun c hc=>Nat.lt_of_le_of_lt (b.sz c hc) hh
theorem UI{h n:Nat}{a:ZX}(b:BZ h n a)(hh:h<1099511627776)(hn:n<1099511627776):aH env.P 100 [PI a.l] (Po a.l):=HM a.l (b.z hh) (Nat.lt_of_le_of_lt b.len hn)
theorem asF{a b:ZX}(ha:a≠0)(hb:Nf b)(h:∀p,ZX.pZ p→ZX.mu p b=min (ZX.mu p a) 1):sq a=b:=by
 have nA:=lH ha
 have e:sq a=sz' (nf a):=by
  unfold sq
  split
  ·rename_i h2
   have h3:nf a=1:=nA.N1 (by rw [vX];exact h2)
   rw [h3]
   show 1=wz 1 0
   rw [wz]
   show 1=qz 1 (gd 1)
   rw [acm,Nf.one.self]
  ·rfl
 rw [e]
 exact Nf.rM (acq nA) hb fun p hp=>by rw [acr nA hp,acj hp ha,h p hp]
theorem acJ{a:ZX}{n:Nat}(hn:a.l.length≤n)(hc:∀c∈a.l,c.natAbs<8):BZ 3 n a:=⟨hn,fun c h=>cK (by decide) (by have:=hc c h;show _<8;exact this)⟩
theorem X9{a:ZX}(b:BZ 3 5 a):wR 3 5 a:=⟨b,by decide,by decide,by decide⟩
end Go.Proofs.YtiobceocpabjdaaGreat
namespace Go.Proofs.YtiobceocpabjdaaGreat
open Go Pm
open ZX hiding N W
theorem UJ{a:ZX}(h:2≤ZX.N a):nth (bS a).l (ZX.N a-2)=lead a.l*((ZX.N a-1:Nat):Int):=by
 have h1:a.l.length=ZX.N a:=rfl
 have h2:nth (bS a).l (ZX.N a-2)=nth a.l (ZX.N a-1)*((ZX.N a-1:Nat):Int):=by
  show nth (aI (xN a.l)) _=_
  rw [iR,xN,c9 (by simp;omega)]
  simp only [List.getElem_map,List.getElem_range]
  rw [show ZX.N a-2+1=ZX.N a-1 by omega]
 rw [h2,lead,h1]
theorem acK{a:ZX}(h:2≤ZX.N a):ZX.N (bS a)=ZX.N a-1:=by
 have h1:=mG a
 have h2:=UJ h
 have hl:=dB a.c (show 0<a.l.length from by have:a.l.length=ZX.N a:=rfl;omega)
 have h3:nth (bS a).l (ZX.N a-2)≠0:=by rw [h2];exact Int.mul_ne_zero hl (by omega)
 rcases Nat.lt_or_ge (ZX.N a-2) (bS a).l.length with h4 | h4
 ·have:ZX.N (bS a)=(bS a).l.length:=rfl
  omega
 ·exact absurd (gE h4) h3
theorem acL{a:ZX}(h:2≤ZX.N a):lead (bS a).l=lead a.l*((ZX.N a-1:Nat):Int):=by
 rw [←UJ h,lead,show(bS a).l.length=ZX.N (bS a)from rfl,acK h,show ZX.N a-1-1=ZX.N a-2 by omega]
theorem YA{a:ZX}(h:ZX.N a≤1):bS a=0:=by
 refine Classical.byContradiction fun h0=>?_
 have h1:=ZX.aE.1 h0
 have:=mG a
 omega
theorem agx{f:ZX}(hf:Nf f):rF (bS f).l=(p0 (bS f)).l:=by
 have h:¬lead (bS f).l<0:=by
  rcases Nat.lt_or_ge (ZX.N f) 2 with h2 | h2
  ·rw [YA (by omega)];decide
  ·rw [acL h2]
   have:=Int.mul_nonneg (Int.le_of_lt hf.l) (show (0:Int)≤((ZX.N f-1:Nat):Int)by omega)
   omega
 show _=jQ (bS f).l
 rw [LP,if_neg h]
theorem UK{α:Type}{g:α→List PV}{l:List α}{s n:Nat}{f:ZX}(hS:aH env.P 70 [aJ g l] (Po f.l))(h:Ch s n f)(hf:Nf f):aH env.P 69 [aJ g l] (.fG [CH (cH f), .int .i64 0]):=by
 have hn:=h.hn
 have hp:=h.pot
 have hs:=hp.le
 have bd:BZ (s+5) n (bS f):=h.bz.bS (by omega)
 have d1:=pN h.bz (by omega) (by omega)
 have d2:=s9 ((bS f).l.map iM) (bd.r8 (by omega) (by omega)) (s:=s+5) (n:=n) (by rw [bK];exact XT bd) (by omega) (by omega)
 rw [y5,←eT,agx hf]at d2
 have b2:BZ (s+5) n (p0 (bS f)):=iS bd
 have b1:BZ (s+5) n f:=h.bz.mono (by omega) (Nat.le_refl _)
 have D5:ZX.N (p0 (bS f))≤ZX.N f:=Nat.le_trans (kZ _) (Nat.le_trans (mG f) (by omega))
 have hc:cH f=f::tZ (ZX.N f) f (p0 (bS f)):=rfl
 rw [CX D5 (Nat.le_refl _)]at hc
 have hf0:f.l.length≠0:=by have:=ZX.aE.1 hf.ne;exact Nat.pos_iff_ne_zero.1 this
 have hf1:¬f.l = []:=fun h0=>hf0 (by rw [h0];rfl)
 generalize hC:cH f=C at *
 generalize p0 (bS f)=g0 at *
 generalize kL (bS f).l=pc at *
 generalize (bS f).l=dl at *
 refine cA [(0,aJ g l)] Tryz.func69 ?_
 refine aA [0] ?_
 refine aY [4] hS ?_
 refine aM [4,14] ?_
 refine bP ?_ ?_<;>intro h
 ·simp at h;exact absurd h hf1
 refine W.skip ?_
 refine W.ams 1 rfl rfl rfl (fun K hK=>?_)
 simp (disch:=omega) [gw]
 refine W.lw [4,5] hK ?_;clear hK K;simp
 refine j4 ?_
 refine b8 d1 ?_
 refine cI [4,5,7] d2 ?_
 refine W.seq ?_
 refine W.block ?_
 refine W.a8 (fun k σ=>∃(L:List ZX) (x y:ZX) (i ver v18 e18 s:Nat) (rows:Pm.Rows) (clk:Nat),σ=⟨fa [(4,Po x.l),(5, .ptr 18 v18 0 0),(7,Po y.l)],rows,clk⟩∧rows 16=some ⟨ver,24,1,emap zp L⟩∧rows 18=some ⟨v18,e18,1,[[.own 16 ver 0 (i+1)]]⟩∧L.length=i+1 ∧
  L++tZ k x y=C∧k=ZX.N y∧BZ s n x∧BZ s n y∧zO 4500000000 n s x y∧i+ZX.N y≤20) (ZX.N g0) ?_ ?_
 ·exact⟨_, .refl,[f],f,g0,0,_,_,_,s+5,_,_,rfl,by simp [emap];(first | exact rfl | exact⟨rfl,rfl⟩),by simp;(first | exact rfl | exact⟨rfl,rfl⟩ | exact⟨rfl,rfl,rfl⟩),rfl,hc.symm,rfl,b1,b2,hp,by have:=b2.N;omega⟩
 rintro k _ ⟨L,x,y,i,ver,v18,e18,s,rows,clk,rfl,acM,amt,hL,Y8,rfl,bx,nR,hp,hiN⟩
 have hs:=hp.le
 have hlx:=bx.len
 have hly:=nR.len
 have hLl:(emap zp L).length=i+1:=by simp [emap,hL]
 refine aM [4,5,7,27] ?_
 refine bP ?_ ?_<;>intro h
 ·have hy:y≠0:=ZX.aE.2 (by show 0<y.l.length;simp at h;omega)
  have hR:=LK (x.l.map iM) (y.l.map iM) (bx.r8 (by omega) (by omega)) (nR.r8 (by omega) (by omega)) (s:=s) (s':=s) (N:=n) (by rw [bK];exact XT bx) (by rw [bK];exact XT nR) (by
   have:n*(s+n+1)≤20*4500000000:=Nat.mul_le_mul hn hs
   omega)
  rw [y5,y5,if_neg (vW hy),←eT,←eT]at hR
  have br:=UA bx nR hy
  have aiP:(ZX.N x+1-ZX.N y)*(s+n+1)≤22*4500000000:=Nat.mul_le_mul (by have:ZX.N x=x.l.length:=rfl;omega) (by omega)
  have hrz:LI x.l y.l=(p0 (rz x y)).l:=by
   obtain⟨ND,hN,_⟩:=sK (a:=x) hy
   obtain⟨m,q,hm,e⟩:=acB y.c (ZX.aE.1 hy) (x.l.length+1) x.l x.c (by omega)
   rw [←ND]at e
   exact acC x.c y.c (ZX.aE.1 hy) (rz x y).c hN hm e
  rw [hrz]at hR
  have hNg:=FE (x:=(p0 (rz x y)).l) (PB.of (XT (iS br)) (by omega) (by omega))
  have e3:fW (p0 (rz x y)).l=(nx x y).l:=rfl
  rw [e3]at hNg
  have D5:=X0 (a:=x) hy
  have WR:=hp.step D5
  have bn:=UB bx nR hy
  have hch:L ++ [y]++tZ (ZX.N (nx x y)) y (nx x y)=C:=by
   rw [←Y8]
   obtain⟨j,hj⟩:∃j,ZX.N y=j+1:=⟨ZX.N y-1,by have:=ZX.aE.1 hy;have:ZX.N y=y.l.length:=rfl;omega⟩
   rw [hj,tZ,if_neg (by omega),CX (k:=j) (j:=ZX.N (nx x y)) (by omega) (Nat.le_refl _)]
   simp
  generalize (p0 (rz x y)).l=pl at *
  generalize hnx:nx x y=nn at *
  refine W.skip ?_
  refine W.block ?_
  refine W.sr ?_
  simp (disch:=omega) [gw,acM,amt,hLl]
  refine bO [4,5,7] ?_
  refine aY [5,7,8] hR ?_
  refine W.b9 (fun K hK=>?_)
  simp (disch:=omega) [gw]
  refine b8 hNg ?_
  refine hK _ ⟨ZX.N nn,_,aC _ [4,5,7],D5,L ++ [y],y,nn,i+1,_,v18,e18,_,_,_,rfl,by simp;first | exact rfl | skip,by simp;first | exact rfl | skip,by simp [hL],hch,rfl,nR.mono (by omega) (Nat.le_refl _),bn,WR,by omega⟩
 ·have hy:y=0:=by
   refine Classical.byContradiction fun h0=>?_
   have h1:=ZX.aE.1 h0
   have h2:ZX.N y=y.l.length:=rfl
   simp at h;rw [h2,h]at h1;simp at h1
  subst hy
  rw [j2,List.append_nil]at Y8
  subst Y8
  have DW:List.take (i+1) L=L:=List.take_of_length_le (by omega)
  refine eJ ?_
  refine W.zV 16 (by rw [acM];simp) (fun K hK=>?_)
  simp [acM]
  refine hK _ ?_
  have asH:sP rows 16 18=some ⟨v18,e18,1,[[aJ zp L]]⟩:=by
   simp [amt,acM,hLl,DW]
  clear acM amt
  generalize sP rows 16=vF at *
  refine aA [2,3] ?_
  refine W.ret ?_
  simp [go,asH]
theorem acN{n:Nat}(hn:n≤20):∀(j s:Nat) (x g:ZX),BZ s n x→BZ s n g→zO 4500000000 n s x g → ∀p∈tZ j x g,BZ 4500000000 n p
 | 0,_,_,_,_,_,_,p,hp=>by cases hp
 | j+1,s,x,g,bx,bg,hP,p,hp=>by
  have hs:=hP.le
  rw [tZ]at hp
  split at hp
  ·cases hp
  ·rename_i h0
   have h0':g≠0:=ZX.aE.2 (Nat.pos_of_ne_zero h0)
   rcases List.mem_cons.1 hp with rfl | hp
   ·exact bg.mono (by omega) (Nat.le_refl _)
   ·exact acN hn j _ g (nx x g) (bg.mono (by omega) (Nat.le_refl _)) (UB bx bg h0') (hP.step (X0 h0')) p hp
theorem UL:∀(j:Nat) (x g:ZX),(tZ j x g).length≤j
 | 0,_,_=>Nat.le_refl _
 | j+1,x,g=>by
  rw [tZ]
  split
  ·simp
  ·simp only [List.length_cons];have:=UL j g (nx x g);omega
theorem Ch.all{s n:Nat}{f:ZX}(h:Ch s n f):(∀p∈cH f,BZ 4500000000 n p)∧(cH f).length≤21:=by
 have hp:=h.pot
 have hs:=hp.le
 have hn:=h.hn
 refine⟨fun p hq=>?_,?_⟩
 ·rcases List.mem_cons.1 hq with rfl | hq
  ·exact h.bz.mono (by omega) (Nat.le_refl _)
  ·exact acN hn _ _ _ _ (h.bz.mono (by omega) (Nat.le_refl _)) (iS (h.bz.bS (by omega))) hp p hq
 ·have:=UL (ZX.N f) f (p0 (bS f))
  have h2:=h.bz.N
  show(f::tZ (ZX.N f) f (p0 (bS f))).length≤21
  simp only [List.length_cons];omega
theorem agy{a u v:ZX}{c:Int}(na:Nf a)(hc:c≠0)(h:u*a+v*bS a=K c):sq a=a:=asF na.ne na fun p hp=>by
 have hm:mu p a≤1:=by
  rcases Nat.lt_or_ge (mu p a) 2 with h1 | h1
  ·omega
  ·exfalso
   obtain⟨m,hmm⟩:∃m,mu p a=m+1:=⟨mu p a-1,by omega⟩
   obtain⟨_,h2⟩:=CM hp na.ne hmm
   have d1:dv p a:=by have:=(m7 hp na.ne).1 (show 1≤mu p a by omega);rwa [show p^1=p by rw [pow_succ',gO];grind]at this
   have hd:bS a≠0:=fun h0=>by rw [h0]at h2;have:mu p (0:ZX)=m:=h2;have h9:=(CM hp na.ne hmm).1;exact h9 h0
   have d2:dv p (bS a):=by have:=(m7 hp hd).1 (show 1≤mu p (bS a)by omega);rwa [show p^1=p by rw [pow_succ',gO];grind]at this
   have d3:dv p (K c):=by rw [←h];exact(d1.mul_left u).add (d2.mul_left v)
   have h3:=d3.nS (p9 hc)
   have h4:=hp.deg
   rw [N_K hc]at h3
   omega
 omega
theorem dQ(q:Rat):dJ q.num q.den=q:=by
 rw [dJ,if_neg (by have:=q.den_nz;omega)]
 exact Rat.num_divInt_den q
theorem acO(n d:Int):(sml n d).num.natAbs≤30∧((sml n d).den:Int).natAbs≤6:=by
 have h1:=Int.emod_nonneg n (show (61:Int)≠0 by decide)
 have h2:=Int.emod_lt_of_pos n (show (0:Int)<61 by decide)
 have h3:=Int.emod_nonneg d (show (6:Int)≠0 by decide)
 have h4:=Int.emod_lt_of_pos d (show (0:Int)<6 by decide)
 unfold sml
 rw [pG _ _ (by omega),pH _ _ (by omega)]
 rw [if_neg (by omega),if_neg (by omega)]
 refine⟨Nat.le_trans (Int.natAbs_ediv_le_natAbs _ _) (by omega),Nat.le_trans (Int.natAbs_ediv_le_natAbs _ _) (by omega)⟩
structure SQ(u:Nat)(q:Rat):Prop where
 n2:sz 2 q.num≤u
 d2:sz 2 (q.den:Int)≤u
 hu:1≤u
theorem SQ.nL{u:Nat}{q:Rat}(h:SQ u q):sz LL q.num≤u:=Nat.le_trans (CR _) h.n2
theorem SQ.dL{u:Nat}{q:Rat}(h:SQ u q):sz LL (q.den:Int)≤u:=Nat.le_trans (CR _) h.d2
theorem amu(n d:Int):SQ 5 (sml n d):=by
 obtain⟨h1,h2⟩:=acO n d
 exact⟨mK (by omega),mK (by omega),by decide⟩
section
variable {c:List ZX} {n u:Nat} {q:Rat} (hb:∀p∈c,BZ 4500000000 n p) (hn:n≤20) (hl:c.length≤21) (hq:SQ u q) (hu:u≤1000000000)
include hb hn hl hq hu
theorem acP:aH env.P 151 [aJ zq c,R2 q.num q.den] (.int .i64 (vr (nD c q.num q.den))):=ML (by omega) fun p hp=>by
 have hmul:n*(u+1)≤20*(u+1):=Nat.mul_le_mul_right _ hn
 exact FO (hb p hp) hq.n2 hq.d2 hq.hu (by omega) (by show _<137438953472;omega)
theorem acQ:aH env.P 168 [CH c,T2 q.num q.den] (.int .i64 (vr (nD c q.num q.den))):=QT (by omega) fun p hp=>by
 have hmul:n*(u+1)≤20*(u+1):=Nat.mul_le_mul_right _ hn
 exact FQ (XT (hb p hp)) p.c hq.nL hq.dL hq.hu (by omega) (by omega) (by omega) (dQ q) ⟨hq.nL,hq.dL⟩
end
structure MK(a:ZX)(c:List ZX):Prop where
 to:aH env.P 100 [PI a.l] (Po a.l)
 new:aH env.P 69 [Po a.l] (.fG [CH c, .int .i64 0])
 chain:aH env.P 81 [PI a.l] (aJ zq c)
 bd:∀p∈c,BZ 4500000000 20 p
 len:c.length≤21
theorem MK.of{s n:Nat}{a:ZX}(h:wR s n a)(h0:a≠0)(n3:1≤n)(h1:1≤s):MK a (cH (sq a)):=by
 have hC:=h.ch h0 n3
 obtain⟨hb,hl⟩:=hC.all
 have hqb:=h.y6
 have hs:s<1099511627776:=by unfold qb at hqb;omega
 have hn:=h.hn
 exact⟨UI h.bz hs (by omega),UK (CU h) hC (y9 h0).1,uD h h0 n3 h1,fun p hp=>(hb p hp).mono (Nat.le_refl _) hn,hl⟩
theorem nE(a b:Nat):(2:Rat)^(a+b)=2^a*2^b:=by
 induction b with
 | zero=>simp
 | succ b ih=>rw [←Nat.add_assoc,Rat.pow_succ,Rat.pow_succ,ih];grind
theorem two_pow_pos(a:Nat):(0:Rat)<2^a:=Rat.pow_pos (by decide)
theorem nG:∀a:Nat,(1:Rat)≤2^a
 | 0=>by simp
 | a+1=>by
  have:=nG a
  rw [Rat.pow_succ];grind
theorem kN{a b:Nat}(h:a≤b):(2:Rat)^a≤2^b:=by
 obtain⟨c,rfl⟩:=Nat.exists_eq_add_of_le h
 rw [nE]
 have h1:=nG c
 have h2:=Rat.mul_le_mul_of_nonneg_left h1 (Rat.le_of_lt (two_pow_pos a))
 grind
theorem MO{c:Int}{s:Nat}(h:c.natAbs<2^s):Ab (c:Rat) (2^s):=by
 have h1:((2^s:Int):Rat)=2^s:=by rw [Rat.intCast_pow];rfl
 have h2:(2^s:Int)=((2^s:Nat):Int):=by rw [Int.natCast_pow];rfl
 constructor
 ·rw [←h1,←Rat.intCast_neg]
  exact Rat.intCast_le_intCast.2 (by omega)
 ·rw [←h1]
  exact Rat.intCast_le_intCast.2 (by omega)
theorem aiT{c:Int}{s:Nat}(h:sz 2 c≤s):Ab (c:Rat) (2^s):=
 MO (Nat.lt_of_lt_of_le (kC (b:=2) (by decide) c) (Nat.pow_le_pow_right (by decide) h))
theorem BZ.ab{s n:Nat}{a:ZX}(h:BZ s n a):∀c∈a.l,Ab (c:Rat) (2^s):=fun c hc=>aiT (h.sz c hc)
theorem IE(s β:Nat):∀k,xP (2^s) (2^β) k=2^(s+k*(β+2))
 | 0=>by simp [xP]
 | k+1=>by
  rw [xP,IE s β k,show s+(k+1)*(β+2)=s+k*(β+2)+β+1+1 by rw [Nat.add_mul];omega,Rat.pow_succ,Rat.pow_succ,nE _ β]
  grind
theorem BZ.axM{s n β:Nat}{a:ZX}(h:BZ s n a){t:Rat}(ht:Ab t (2^β)):Ab (e t a) (2^(s+n*(β+2))):=by
 have h1:=UD (S:=2^s) (B:=2^β) (Rat.le_of_lt (two_pow_pos s)) (nG β) ht a.l h.ab
 rw [IE]at h1
 exact h1.mono (kN (by have:=Nat.mul_le_mul_right (β+2) h.len;omega))
theorem UM{s' N:Nat}{y:List Int}(nR:Bd 2 s' N y)(cy:Cn y)(hy:0<y.length):∀(n j s:Nat) (x:List Int),Cn x→x.length<n→Bd 2 s N x→x.length+1≤y.length+j →
  ∃(m:Int) (q:List Int),0<m∧sz 2 m≤j*s'+1∧Bd 2 (s+j*(2*s'+N+2)) N q ∧ ∀t,m*V t x=V t q*V t y+V t (rq y n x)
 | 0,j,s,x,_,h,_,_=>by omega
 | n+1,j,s,x,cx,h,bx,hj=>by
  rw [rq]
  split
  ·exact⟨1,[],by decide,Nat.le_trans (cK (k:=1) (by decide) (by decide)) (by omega),⟨by simp,fun c hc=>by cases hc⟩,fun t=>by simp [V]⟩
  ·rename_i h1
   obtain⟨j,rfl⟩:∃i,j=i+1:=⟨j-1,by omega⟩
   have hl:=sJ hy (show y.length≤x.length by omega)
   have hb:=QN nR bx hy (show y.length≤x.length by omega)
   obtain⟨m,q,hm,hms,hq,h4⟩:=UM nR cy hy n j _ (T7 y x) (Cn.dA _ _) (by omega) hb (by omega)
   have DK:=dB cy hy
   have e1:(j+1)*s'=j*s'+s':=by rw [Nat.add_mul];omega
   have e2:(j+1)*(2*s'+N+2)=j*(2*s'+N+2)+(2*s'+N+2):=by rw [Nat.add_mul];omega
   have e3:j*s'≤j*(2*s'+N+2):=Nat.mul_le_mul_left _ (by omega)
   have sx:sz 2 (wS (lead y)*lead x)≤s:=by
    refine Nat.le_trans (cB (b:=2) (by decide) ?_) (gH bx)
    rw [Int.natAbs_mul]
    have:(wS (lead y)).natAbs=1:=by unfold wS;split<;>rfl
    rw [this,Nat.one_mul];exact Nat.le_refl _
   have j3:=(Bd.aL (b:=2) (by decide) (Bd.p8 (b:=2) sx (x.length-y.length)) hms)
   have hlen:=bx.len
   refine⟨m*(lead y).natAbs,eV q (aL (p8 (x.length-y.length) (wS (lead y)*lead x)) m),Int.mul_pos hm (by omega),?_,?_,fun t=>?_⟩
   ·have h8:sz 2 ((lead y).natAbs:Int)≤s':=Nat.le_trans (cB (b:=2) (by decide) (by simp)) (gH nR)
    have:=cE (b:=2) (by decide) hms h8
    omega
   ·refine(Bd.eV (b:=2) (s:=s+(j+1)*(2*s'+N+2)-1) (by decide) (hq.mono (by omega) (Nat.le_refl _)) (j3.mono (by omega) (by omega))).mono (by omega) (Nat.le_refl _)
   ·have h5:=acy t y x
    have h6:=h4 t
    rw [o8,cG,mV]
    have:m*((lead y).natAbs:Int)*V t x=m*(((lead y).natAbs:Int)*V t x):=by grind
    rw [this,h5]
    grind
theorem amv{s n:Nat}{a b:ZX}(ha:BZ s n a)(hb:BZ s n b)(h0:b≠0):∃(m:Int) (q:ZX),0<m∧sz 2 m≤(n+1)*s+1∧BZ (s+(n+1)*(2*s+n+2)) n q∧((nx a b=0∧K m*a=q*b)∨(nx a b≠0 ∧ ∃k:Int,0<k∧K m*a=q*b-K k*nx a b)):=by
 obtain⟨ND,hN,_⟩:=sK (a:=a) h0
 obtain⟨m,q,hm,hms,hq,e⟩:=UM hb b.c (ZX.aE.1 h0) (a.l.length+1) (n+1) s a.l a.c (by omega) ha (by have:=ha.len;have:=ZX.aE.1 h0;show a.l.length+1≤b.l.length+(n+1);omega)
 rw [←ND]at e
 have e1:K m*a=ZX.of q*b+rz a b:=ZX.ext fun t=>by rw [dZ,vV,lG,dZ,XO];exact e t
 refine⟨m,ZX.of q,hm,hms,Bd.cut hq,?_⟩
 by_cases hr:rz a b=0
 ·left
  refine⟨?_,by rw [e1,hr];grind⟩
  exact ZX.ext fun t=>by
   show V t (fW (jQ (rz a b).l))=_
   rw [hr];rfl
 ·right
  have hrn:(rz a b).l ≠ []:=vW hr
  have hp:=CS (rz a b).c hrn
  have hg:=cQ (rz a b).c hrn
  have hnx:K (bL (rz a b).l:Int)*nx a b = -(rz a b):=ZX.ext fun t=>by
   rw [dZ,vV,FI]
   show _*V t (fW (jQ (rz a b).l))=_
   rw [w8]
   have h2:V t (rz a b).l=V t (jQ (rz a b).l)*(bL (rz a b).l:Int):=by rw [←dH,hp]
   rw [h2];grind
  refine⟨fun h=>hr ?_,_,Int.natCast_pos.2 (Nat.pos_of_ne_zero hg),by rw [hnx,e1];grind⟩
  rw [h]at hnx
  have:(rz a b) = -(K (bL (rz a b).l:Int)*0):=by rw [hnx];grind
  rw [this];grind
theorem MP{a b:ZX}(hb:b≠0)(hg:gz a b=1)(hd:dv b a):∃c:Int,c≠0∧b=K c:=by
 have h1:=(eS a b).least hd (dv.refl b)
 rw [hg]at h1
 have h2:=h1.nS tX
 rw [ZX.CI]at h2
 have:=ZX.aE.1 hb
 exact ZX.k8 (by omega)
def I6(C n β:Nat):Nat:=C+(n+1)*(2*C+n+2)+n*(β+2)+2
theorem UN{C n β:Nat}(hn:n≤20):∀(k s:Nat) (a b:ZX),ZX.N b≤k→b≠0→BZ s n a→BZ s n b→zO C n s a b→gz a b=1→StC (2^I6 C n β) (2^β) (a::tZ k a b) ∧ ∀p∈tZ k a b,BZ C n p
 | 0,s,a,b,hk,h0,_,_,_,_=>absurd hk (by have:=ZX.aE.1 h0;omega)
 | k+1,s,a,b,hk,h0,ha,hb,hp,hg=>by
  have hs:=hp.le
  have hNb:=ZX.aE.1 h0
  obtain⟨m,q,hm,hms,hq,hr⟩:=amv ha hb h0
  rw [tZ,if_neg (by omega)]
  have hbC:BZ C n b:=hb.mono (by omega) (Nat.le_refl _)
  rcases hr with ⟨hz,e1⟩ | ⟨hz,kk,hkk,e1⟩
  ·rw [hz,j2]
   exact⟨MP h0 hg ⟨m,by omega,q,e1⟩,fun p hp=>by
    simp only [List.mem_cons,List.not_mem_nil,or_false]at hp
    subst hp;exact hbC⟩
  ·have hN:=X0 (a:=a) h0
   have tF:gz b (nx a b)=1:=by
    rw [←hg]
    exact(H0 (c:=m) (k := -kk) (q:=q) (by omega) (by omega) (by rw [e1,show K (-kk) = -K kk from ZX.ext fun t=>by rw [vV,FI,vV]];grind)).symm
   obtain⟨ih,ih2⟩:=UN hn k _ b (nx a b) (by omega) hz (hb.mono (Nat.le_add_right _ _) (Nat.le_refl _)) (UB ha hb h0) (hp.step hN) tF
   refine⟨?_,fun p hp=>?_⟩
   ·obtain⟨k2,rfl⟩:∃k2,k=k2+1:=⟨k-1,by have:=ZX.aE.1 hz;omega⟩
    rw [tZ,if_neg (by have:=ZX.aE.1 hz;omega)]at ih ⊢
    have c1:(n+1)*s≤(n+1)*(2*C+n+2):=Nat.mul_le_mul_left _ (by omega)
    have c2:(n+1)*(2*s+n+2)≤(n+1)*(2*C+n+2):=Nat.mul_le_mul_left _ (by omega)
    refine⟨ih,m,kk,q,hm,hkk,e1,?_,fun t ht=>?_⟩
    ·have h1:=(aiT hms).2
     have h2:=kN (show (n+1)*s+1+1≤I6 C n β by unfold I6;omega)
     rw [Rat.pow_succ]at h2
     grind
    ·have h1:=(BZ.axM hq ht)
     have h2:=(Ab.mul (x:=2) (M:=2) ⟨by decide,by decide⟩ h1)
     refine h2.mono ?_
     have h3:=kN (show s+(n+1)*(2*s+n+2)+n*(β+2)+1≤I6 C n β by unfold I6;omega)
     rw [Rat.pow_succ]at h3
     grind
   ·rcases List.mem_cons.1 hp with rfl | hp
    ·exact hbC
    ·exact ih2 p hp
theorem MQ:∀(k:Nat) (a b:ZX),(tZ k a b).length≤ZX.N b
 | 0,a,b=>by simp [tZ]
 | k+1,a,b=>by
  rw [tZ]
  split
  ·simp
  ·rename_i h0
   have:=X0 (a:=a) (ZX.aE.2 (Nat.pos_of_ne_zero h0))
   have:=MQ k b (nx a b)
   simp only [List.length_cons];omega
theorem asI{a:ZX}(ha:a≠0):∃c:Int,0<c∧a=K c*p0 a:=by
 have hp:=CS a.c (vW ha)
 refine⟨(bL a.l:Int),Int.natCast_pos.2 (Nat.pos_of_ne_zero (cQ a.c (vW ha))),ZX.ext fun t=>?_⟩
 rw [dZ,vV]
 show _=_*V t (jQ a.l)
 have h2:V t a.l=V t (jQ a.l)*(bL a.l:Int):=by rw [←dH,hp]
 rw [h2];grind
theorem agz{C s n β:Nat}{f:ZX}(hn:n≤20)(hf:f≠0)(hb:BZ (s+5) n f)(hp:zO C n (s+5) f (p0 (bS f)))(bd:BZ (s+5) n (p0 (bS f)))(hg:gz f (bS f)=1):StC (2^I6 C n β) (2^β) (cH f)∧(∀p∈cH f,BZ C n p)∧(cH f).length≤n+1 ∧ ∀g k,tZ (ZX.N f) f (p0 (bS f))=g::k → ∃c:Int,0<c∧bS f=K c*g:=by
 have hs:=hp.le
 have hfC:BZ C n f:=hb.mono (by omega) (Nat.le_refl _)
 have hNf:=hb.N
 have h1:=mG f
 have h2:ZX.N (p0 (bS f))≤ZX.N (bS f):=kZ _
 by_cases h0:bS f=0
 ·have yR:p0 (bS f)=0:=by rw [h0];exact ZX.ext fun t=>rfl
  have hc:cH f = [f]:=by unfold cH;rw [yR,j2]
  rw [hc]
  have hN1:ZX.N f≤1:=Classical.byContradiction fun h=>CL (a:=f) (by omega) h0
  refine⟨ZX.k8 (by have:=ZX.aE.1 hf;omega),fun p hp=>by
   simp only [List.mem_cons,List.not_mem_nil,or_false]at hp
   subst hp;exact hfC,by simp,fun g k h=>?_⟩
  rw [yR,j2]at h;cases h
 ·obtain⟨c,hc,e⟩:=asI h0
  have yR:p0 (bS f)≠0:=fun h=>h0 (by rw [e,h];grind)
  have tF:gz f (p0 (bS f))=1:=by
   rw [←hg]
   refine CP (dv.refl f) (dv.refl f) ⟨1,by decide,K c,by rw [e];show(1:ZX)*_=_;grind⟩ ⟨c,by omega,1,by grind⟩
  obtain⟨g1,g2⟩:=UN (β:=β) hn (ZX.N f) (s+5) f (p0 (bS f)) (by omega) yR hb bd hp tF
  refine⟨g1,fun p hp=>?_,?_,fun g k h=>?_⟩
  ·rcases List.mem_cons.1 hp with rfl | hp
   ·exact hfC
   ·exact g2 p hp
  ·have:=MQ (ZX.N f) f (p0 (bS f))
   show(f::tZ (ZX.N f) f (p0 (bS f))).length≤_
   simp only [List.length_cons]
   omega
  ·obtain⟨j,hj⟩:∃j,ZX.N f=j+1:=⟨ZX.N f-1,by have:=ZX.aE.1 hf;omega⟩
   rw [hj,tZ,if_neg (by have:=ZX.aE.1 yR;omega)]at h
   cases h
   exact⟨c,hc,e⟩
theorem UO(μ:Nat):∀k,(2:Rat)^(μ*k)*zP (2^μ) k=1
 | 0=>by simp [zP]
 | k+1=>by
  have h1:=UO μ k
  have h2:zP (2^μ) (k+1)=zP (2^μ) k/2^μ:=rfl
  have h3:zP ((2:Rat)^μ) k/2^μ*2^μ=zP (2^μ) k:=Rat.div_mul_cancel (Rat.ne_of_gt (two_pow_pos μ))
  rw [h2,Nat.mul_add,Nat.mul_one,nE]
  grind
def jb(C n β:Nat):Nat:=(n+1)*I6 C n β+C+n*(β+2)+1
theorem UP{C s n β:Nat}{f:ZX}(hn:n≤20)(hf:f≠0)(hb:BZ (s+5) n f)(hp:zO C n (s+5) f (p0 (bS f)))(bd:BZ (s+5) n (p0 (bS f)))(hg:gz f (bS f)=1){δ:Rat}(hδ:δ*2^jb C n β≤1):Lcl (cH f) f (2^β) δ:=by
 obtain⟨h1,h2,h3,h4⟩:=agz (β:=β) hn hf hb hp bd hg
 have hM:(2:Rat)≤2^I6 C n β:=by
  have:=kN (show 1≤I6 C n β by unfold I6;omega)
  rw [Rat.pow_one]at this
  exact this
 refine StC.loc (Q:=2^(C+n*(β+2))) hM (nG β) (Rat.le_of_lt (two_pow_pos C)) h1 (fun p hp=>⟨(h2 p hp).ab,?_⟩) h4 ?_
 ·rw [IE]
  exact kN (by have:=Nat.mul_le_mul_right (β+2) (h2 p hp).len;omega)
 ·have e1:=UO (I6 C n β) (cH f).length
  have hε:=wE hM (cH f).length
  have h5:I6 C n β*(cH f).length+(C+n*(β+2))+1≤jb C n β:=by
   have:=Nat.mul_le_mul_left (I6 C n β) h3
   rw [Nat.mul_comm (I6 C n β) (n+1)]at this
   unfold jb;omega
  have h6:=kN h5
  rw [Rat.pow_succ,nE]at h6
  have hA:=two_pow_pos (I6 C n β*(cH f).length)
  have hB:=two_pow_pos (C+n*(β+2))
  show δ*2^(C+n*(β+2))<zP (2^I6 C n β) (cH f).length
  generalize (2:Rat)^(I6 C n β*(cH f).length)=A at *
  generalize (2:Rat)^(C+n*(β+2))=Q at *
  generalize zP ((2:Rat)^I6 C n β) (cH f).length=ε at *
  generalize (2:Rat)^jb C n β=J at *
  by_cases h0:0<δ
  ·have h7:=Rat.mul_le_mul_of_nonneg_left h6 (Rat.le_of_lt h0)
   have h8:δ*Q*A≤1/2:=by grind
   refine Rat.lt_of_mul_lt_mul_right (c:=A) ?_ (Rat.le_of_lt hA)
   grind
  ·have h7:=Rat.mul_le_mul_of_nonneg_right (show δ≤0 by grind) (Rat.le_of_lt hB)
   grind
theorem IF:∀(l:List Int) (n:Nat) (p:Int),(l.foldl uC (n,p)).1=n+D9 p l
 | [],n,p=>rfl
 | s::l,n,p=>by
  have h:uC (n,p) s=if s=0 then(n,p)else(if p≠0∧s≠p then n+1 else n,s):=rfl
  rw [List.foldl_cons,h]
  simp only [D9]
  split
  ·exact IF l n p
  ·split<;>rw [IF l]<;>omega
theorem amw(l:List Int):vr l=D9 0 l:=by
 rw [vr,IF];omega
theorem aiU{n d:Int}{q:Rat}(h:(n:Rat)=q*d):∀x:List Int,((hm n d x).1:Rat)*d=qv q x*(d:Rat)^x.length∧((hm n d x).2:Rat)=(d:Rat)^x.length
 | []=>by
  refine⟨?_,?_⟩
  ·show((0:Int):Rat)*d=0*_
   rw [Rat.intCast_zero,Rat.zero_mul,Rat.zero_mul]
  ·show((1:Int):Rat)=(d:Rat)^0
   rw [Rat.intCast_one,Rat.pow_zero]
 | a::l=>by
  obtain⟨h1,h2⟩:=aiU h l
  have e:hm n d (a::l)=((hm n d l).1*n+a*(hm n d l).2,(hm n d l).2*d):=rfl
  rw [e]
  simp only [qv,List.length_cons,Rat.pow_succ,Rat.intCast_add,Rat.intCast_mul]
  rw [h,h2]
  refine⟨?_,rfl⟩
  have:(((hm n d l).1:Rat)*(q*d)+a*(d:Rat)^l.length)*d=((hm n d l).1:Rat)*d*(q*d)+a*((d:Rat)^l.length*d):=by grind
  rw [this,h1];grind
theorem YB(v:Int):v.sign=bT (v:Rat):=by
 rcases Int.lt_trichotomy v 0 with h | h | h
 ·rw [Int.sign_eq_neg_one_of_neg h,gS (Rat.intCast_neg_iff.2 h)]
 ·subst h;decide
 ·rw [Int.sign_eq_one_of_pos h,eZ (Rat.intCast_pos.2 h)]
theorem IH(p:ZX)(q:Rat):H5 p.l q.num q.den=bT (e q p):=by
 have hd:(0:Rat)<((q.den:Int):Rat):=Rat.intCast_pos.2 (by have:=q.den_pos;omega)
 have hq:((q.num:Int):Rat)=q*((q.den:Int):Rat):=by
  have h1:q=(q.num:Rat)/((q.den:Int):Rat):=by
   rw [←Rat.divInt_eq_div,Rat.num_divInt_den]
  have h2:=Rat.div_mul_cancel (a:=(q.num:Rat)) (Rat.ne_of_gt hd)
  rw [←h1]at h2
  exact h2.symm
 have h1:=(aiU hq p.l).1
 show(hm q.num q.den p.l).1.sign=bT (qv q p.l)
 rw [YB]
 have h2:bT (((hm q.num q.den p.l).1:Rat)*((q.den:Int):Rat))=bT (qv q p.l*((q.den:Int):Rat)^p.l.length):=by rw [h1]
 rw [sL,sL,eZ hd,eZ (Rat.pow_pos hd)]at h2
 omega
theorem C3(c:List ZX)(q:Rat):vr (nD c q.num q.den)=vt c q:=by
 rw [amw]
 unfold vt nD IA
 congr 1
 exact List.map_congr_left fun p _=>IH p q
theorem nV{a:ZX}(ha:a≠0):Nf (sq a) ∧ ∀p,ZX.pZ p→ZX.mu p (sq a)=min (ZX.mu p a) 1:=by
 have hA:=lH ha
 unfold sq
 split
 ·rename_i h
  refine⟨hA,fun p hp=>?_⟩
  obtain⟨c,hc,rfl⟩:=ZX.k8 (x:=a) (by have:=ZX.aE.1 ha;omega)
  rw [acj hp ha,ZX.XR hp hc];rfl
 ·exact⟨acq hA,fun p hp=>by rw [acr hA hp,acj hp ha]⟩
theorem UQ{a:ZX}(ha:a≠0):gz (sq a) (bS (sq a))=1:=by
 obtain⟨h1,h2⟩:=nV ha
 refine Nf.rM (T3 h1.ne) Nf.one fun p hp=>?_
 have e1:mu p (1:ZX)=0:=XR hp (by decide)
 have h3:=aiL h1.ne hp
 rw [h2 p hp]at h3
 rw [e1]
 show mu p (gd (sq a))=0
 rw [h3]
 omega
theorem wG{a:ZX}(ha:a≠0):dv (sq a) a:=(y9 ha).2.trans (FK a).2
theorem Lcl.mono{L:List ZX}{f:ZX}{B C δ:Rat}(h:Lcl L f B δ)(hc:C≤B):Lcl L f C δ:=
 ⟨fun s t hs ht=>h.turns s t (hs.mono hc) (ht.mono hc),fun s t hs ht=>h.simple s t (hs.mono hc) (ht.mono hc)⟩
theorem QV(B:Rat):∃β:Nat,B≤2^β:=by
 have h1:=Rat.lt_floor_add_one B
 refine⟨(B.floor+1).toNat,Rat.le_trans (Rat.le_of_lt h1) ?_⟩
 have h2:((2^(B.floor+1).toNat:Int):Rat)=2^(B.floor+1).toNat:=by rw [Rat.intCast_pow];rfl
 rw [←h2]
 refine Rat.intCast_le_intCast.2 ?_
 have h3:(B.floor+1).toNat<2^(B.floor+1).toNat:=Nat.lt_two_pow_self
 have h4:((2^(B.floor+1).toNat:Nat):Int)=2^(B.floor+1).toNat:=by rw [Int.natCast_pow];rfl
 omega
theorem Ch.acR{s n:Nat}{f:ZX}(h:Ch s n f)(hf:f≠0)(hg:gz f (bS f)=1):QO (cH f) f:=⟨fun B hB=>by
 have hn:=h.hn
 obtain⟨β,hβ⟩:=QV B
 have bd:BZ (s+5) n (bS f):=h.bz.bS (by omega)
 have hJ:=two_pow_pos (jb 4500000000 n β)
 have hJ1:(1:Rat)/2^jb 4500000000 n β*2^jb 4500000000 n β=1:=Rat.div_mul_cancel (Rat.ne_of_gt hJ)
 refine⟨1/2^jb 4500000000 n β,(Rat.lt_div_iff hJ).2 (by grind),?_⟩
 exact Lcl.mono (UP hn hf (h.bz.mono (by omega) (Nat.le_refl _)) h.pot (iS bd) hg (by rw [hJ1];exact Rat.le_refl)) hβ⟩
def nW(t:Rat):ZX:=of [-t.num,(t.den:Int)]
theorem amx(s t:Rat):e s (nW t)=((t.den:Int):Rat)*(s-t):=by
 rw [nW,asC,Rat.intCast_neg]
 have hd:(0:Rat)<((t.den:Int):Rat):=Rat.intCast_pos.2 (by have:=t.den_pos;omega)
 have hq:((t.num:Int):Rat)=t*((t.den:Int):Rat):=by
  have h1:t=(t.num:Rat)/((t.den:Int):Rat):=by
   rw [←Rat.divInt_eq_div,Rat.num_divInt_den]
  have h2:=Rat.div_mul_cancel (a:=(t.num:Rat)) (Rat.ne_of_gt hd)
  rw [←h1]at h2
  exact h2.symm
 rw [hq];grind
theorem C4(t:Rat):ZX.N (nW t)=2:=by
 have:aI [-t.num,(t.den:Int)] = [-t.num,(t.den:Int)]:=iE (x:=(t.den:Int)) (by have:=t.den_nz;omega) [-t.num]
 show(aI [-t.num,(t.den:Int)]).length=2
 rw [this];rfl
theorem jN(p q:Rat):(eD (p.num*q.den) (q.num*p.den)<0)↔p<q:=by
 rw [qT,Rat.lt_iff]
theorem aiV(C:List ZX)(q:Rat):vt C q≤C.length:=by
 have:=MJ (nD C q.num q.den)
 rw [C3]at this
 simpa [nD]using this
theorem C5{n d:Int}(h:d≠0):dJ n d=(n:Rat)/d:=by rw [dJ,if_neg h,Rat.divInt_eq_div]
theorem QW{n d:Int}(h:d≠0){q:Rat}(e:(n:Rat)=q*d):dJ n d=q:=by
 have hd:(d:Rat)≠0:=fun h0=>h (Rat.intCast_eq_zero_iff.1 h0)
 rw [C5 h,e,Rat.mul_div_cancel hd]
theorem II(q:Rat):((q.num:Int):Rat)=q*((q.den:Int):Rat):=by
 have hd:(0:Rat)<((q.den:Int):Rat):=Rat.intCast_pos.2 (by have:=q.den_pos;omega)
 have h1:q=(q.num:Rat)/((q.den:Int):Rat):=by
  rw [←Rat.divInt_eq_div,Rat.num_divInt_den]
 have h2:=Rat.div_mul_cancel (a:=(q.num:Rat)) (Rat.ne_of_gt hd)
 rw [←h1]at h2
 exact h2.symm
theorem amy(p q:Rat):dJ (p.num*q.den+q.num*p.den) (p.den*q.den*2)=(p+q)/2:=by
 have h1:((p.den:Int)*q.den*2)≠0:=by
  have:=p.den_nz;have:=q.den_nz
  refine Int.mul_ne_zero (Int.mul_ne_zero ?_ ?_) (by decide)<;>omega
 refine QW h1 ?_
 rw [Rat.intCast_add,Rat.intCast_mul,Rat.intCast_mul,Rat.intCast_mul,Rat.intCast_mul,II p,II q]
 have h2:(p+q)/2*2=p+q:=Rat.div_mul_cancel (by decide)
 show _=(p+q)/2*(((p.den:Int):Rat)*((q.den:Int):Rat)*2)
 generalize (p+q)/2=m at *
 grind
theorem acS{p q:Rat}{k:Nat}(hp:sz LL p.num≤k∧sz LL (p.den:Int)≤k)(hq:sz LL q.num≤k∧sz LL (q.den:Int)≤k)(hk:k≤300000000000):aH env.P 91 [RT p,RT q] (RT ((p+q)/2)):=by
 have c1:=FP hp.1 hp.2 hq.1 hq.2 (by omega) (dQ p) (dQ q) hp hq
 have g1:=cE (b:=LL) eB hp.1 hq.2
 have g2:=cE (b:=LL) eB hq.1 hp.2
 have g3:=cE (b:=LL) eB hp.2 hq.2
 have s2:sz LL 2≤1:=cK (k:=1) eB (by decide)
 have g4:=cE (b:=LL) eB g3 s2
 have g5:=o0 (b:=LL) eB (Nat.le_trans g1 (show k+k≤k+k from Nat.le_refl _)) (Nat.le_trans g2 (show k+k≤k+k from Nat.le_refl _))
 have a1:=abi (x:=p.num*q.den) (y:=q.num*p.den) (by show _<_;omega) (by show _<_;omega)
 have o1:=tN 2 (by decide) (by decide)
 have m1:=s8 (x:=(p.den:Int)*q.den) (y:=2) (by show _<_;omega) (by show _<_;omega)
 have h1:((p.den:Int)*q.den*2)≠0:=by
  have:=p.den_nz;have:=q.den_nz
  refine Int.mul_ne_zero (Int.mul_ne_zero ?_ ?_) (by decide)<;>omega
 have l1:=C2 (n:=p.num*q.den+q.num*p.den) (d:=p.den*q.den*2) (by omega) (by omega) h1
 rw [amy]at l1
 show aH env.P _ [T2 p.num p.den,T2 q.num q.den] (T2 ((p+q)/2).num ((p+q)/2).den)
 replace l1:aH env.P 169 [I (p.num*q.den+q.num*p.den),I (p.den*q.den*2)] (T2 ((p+q)/2).num ((p+q)/2).den):=l1
 clear g1 g2 g3 g4 g5 h1 hp hq
 generalize ((p+q)/2).num=rn at *
 generalize (((p+q)/2).den:Int)=rd at *
 generalize p.num*(q.den:Int)+q.num*p.den=x4 at *
 generalize (p.den:Int)*q.den*2=x5 at *
 generalize p.num*(q.den:Int)=x1 at *
 generalize q.num*(p.den:Int)=x2 at *
 generalize (p.den:Int)*(q.den:Int)=x3 at *
 generalize p.num=pn at *
 generalize (p.den:Int)=pd at *
 generalize q.num=qn at *
 generalize (q.den:Int)=qd at *
 refine cA [(0,T2 pn pd),(1,T2 qn qd)] Tryz.func91 ?_
 refine aA [2,3,4] ?_
 refine aY [4,5,6,7] c1 ?_
 refine W.sd ?_
 simp (maxSteps:=4000000) (disch:=omega) [gw]
 refine aD a1 ?_
 simp (maxSteps:=4000000) (disch:=omega) [gw]
 refine aD o1 ?_
 simp (maxSteps:=4000000) (disch:=omega) [gw]
 refine aD m1 ?_
 simp (maxSteps:=4000000) (disch:=omega) [gw]
 refine aD l1 ?_
 simp (maxSteps:=4000000) (disch:=omega) [gw]
 (try (refine bF (of_decide_eq_true (by kernel_rfl)) ?_));(try simp (maxSteps:=4000000) (disch:=omega) [gw]);(repeat rw [if_pos (by kernel_rfl)]);(try simp (maxSteps:=4000000) (disch:=omega) [gw])
 refine bO [4] ?_
 exact cP
theorem acT{p q:Rat}(hp:ZR YY p)(hq:ZR YY q)(hs:ZR YY (p+q)):aH env.P 204 [RR p,RR q] (RR ((p+q)/2)):=by
 have a1:=vJ p q hp hq
 have o1:=pI 1 2 (by decide) (by decide)
 have m1:=B7 (p+q) (dJ 1 2) hs ⟨by decide,by decide⟩
 have e:(p+q)*dJ 1 2=(p+q)/2:=by
  rw [show dJ 1 2=(1:Rat)/2 by rw [C5 (by decide)];rfl];grind
 rw [e]at m1
 rw [gR]at *
 rw [gR q,gR (p+q),gR (dJ 1 2)]at *
 generalize (p+q)/2=m at *
 generalize p+q=s at *
 generalize dJ 1 2=hf at *
 generalize p.num=pn at *
 generalize (p.den:Int)=pd at *
 generalize q.num=qn at *
 generalize (q.den:Int)=qd at *
 generalize s.num=sn at *
 generalize (s.den:Int)=sd at *
 generalize hf.num=fn at *
 generalize (hf.den:Int)=fd at *
 rw [gR]at *
 generalize m.num=mn at *
 generalize (m.den:Int)=md at *
 refine cA [(0,R2 pn pd),(1,R2 qn qd)] Tryz.func204 ?_
 refine aA [2,3,4] ?_
 refine j4 ?_
 refine b8 a1 ?_
 refine b8 o1 ?_
 refine cI [4] m1 ?_
 exact cP
def n4(x:List Int):Nat→Int
 | 0=>0
 | i+1=>if n4 x i<((nth x i).natAbs:Int)then((nth x i).natAbs:Int)else n4 x i
theorem acU(x:List Int):∀i,0≤n4 x i
 | 0=>Int.le_refl _
 | i+1=>by
  have:=acU x i
  rw [n4];split<;>omega
theorem acV(x:List Int):∀i k,k<i→((nth x k).natAbs:Int)≤n4 x i
 | 0,k,h=>by omega
 | i+1,k,h=>by
  rw [n4]
  by_cases hk:k=i
  ·subst hk;split<;>omega
  ·have:=acV x i k (by omega)
   split<;>omega
theorem C6{b s n:Nat}{x:List Int}(h:Bd b s n x):∀i,Pm.sz b (n4 x i)≤s
 | 0=>by show Pm.sz b 0≤s;rw [iU];omega
 | i+1=>by
  have ih:=C6 h i
  have h1:=h.nth i
  have h2:Pm.sz b ((nth x i).natAbs:Int)=Pm.sz b (nth x i):=by unfold Pm.sz;rw [Int.natAbs_natCast]
  rw [n4];split
  ·rw [h2];exact h1
  ·exact ih
def tA(x:List Int):Rat:=dJ (((lead x).natAbs:Int)+n4 x (x.length-1)) ((lead x).natAbs:Int)
theorem xS{x:List Int}(cx:Cn x)(hx:x ≠ []):tA x=1+((n4 x (x.length-1):Int):Rat)/(((lead x).natAbs:Int):Rat):=by
 have DK:=dB cx (List.length_pos_iff.2 hx)
 have h1:((lead x).natAbs:Int)≠0:=by omega
 have h2:(((lead x).natAbs:Int):Rat)≠0:=fun h=>h1 (Rat.intCast_eq_zero_iff.1 h)
 refine QW h1 ?_
 rw [Rat.intCast_add]
 have h3:=Rat.div_mul_cancel (a:=((n4 x (x.length-1):Int):Rat)) h2
 generalize ((n4 x (x.length-1):Int):Rat)/(((lead x).natAbs:Int):Rat)=w at *
 grind
theorem amz{u v:Int}{k:Nat}(hu:sz 2 u≤k)(hv:sz 2 v≤k)(h0:v≠0):ZR k ((u:Rat)/(v:Rat)):=by
 rw [←C5 h0]
 have e:∀w:Int,sz 2 (-w)=sz 2 w:=fun w=>by unfold sz;rw [Int.natAbs_neg]
 constructor
 ·rw [pG u v h0]
  refine Nat.le_trans (cB (b:=2) (by decide) (Int.natAbs_ediv_le_natAbs _ _)) ?_
  split
  ·rw [e];exact hu
  ·exact hu
 ·rw [pH u v h0]
  refine Nat.le_trans (cB (b:=2) (by decide) (Int.natAbs_ediv_le_natAbs _ _)) ?_
  split
  ·rw [e];exact hv
  ·exact hv
theorem QX{s n:Nat}{x:List Int}(cx:Cn x)(hx:x ≠ [])(b:Bd 2 s n x)(uK:1≤s)(hs:s≤1000000000)(hn:n<1099511627776):aH env.P 183 [PI x] (RR (tA x)):=by
 have oF:0<x.length:=List.length_pos_iff.2 hx
 have hlen:=b.len
 have DK:=dB cx oF
 have hY:YY=137438953472:=rfl
 have hO:=pI 1 1 (by decide) (by decide)
 rw [show dJ 1 1=1 from by decide]at hO
 have JF:x.length<2→tA x=1:=fun h=>by
  rw [xS cx hx,show x.length-1=0 by omega]
  show 1+((0:Int):Rat)/_=1
  rw [Rat.intCast_zero,Rat.div_def,Rat.zero_mul,Rat.add_zero]
 have hld:=gH b
 have amA:sz 2 ((lead x).natAbs:Int)≤s:=Nat.le_trans (cB (b:=2) (by decide) (by simp)) hld
 have hm:=C6 b (x.length-1)
 have Z1:∀ {v:Int},sz 2 v≤s→ZR YY ((v:Int):Rat):=fun h=>nQ (by omega) (by decide)
 have Q1:=B8 ((n4 x (x.length-1):Int):Rat) (((lead x).natAbs:Int):Rat) (Z1 hm) (Z1 amA) (fun h=>by have:=Rat.intCast_eq_zero_iff.1 h;omega)
 have hz:=amz (k:=YY) (Nat.le_trans hm (by omega)) (Nat.le_trans amA (by omega)) (by omega:((lead x).natAbs:Int)≠0)
 have A1:=vJ 1 (((n4 x (x.length-1):Int):Rat)/(((lead x).natAbs:Int):Rat)) ⟨by decide,by decide⟩ hz
 rw [←xS cx hx]at A1
 have C1:∀i,i<x.length→aH env.P 14 [R2 ((nth x i).natAbs:Int) 1,R2 (n4 x i) 1] (.int .i64 (eD ((nth x i).natAbs:Int) (n4 x i))):=fun i hi=>by
  have h1:=b.nth i
  have h2:sz 2 ((nth x i).natAbs:Int)≤s:=Nat.le_trans (cB (b:=2) (by decide) (by simp)) h1
  have h3:=C6 b i
  have:=xO ((nth x i).natAbs:Int) 1 (n4 x i) 1 (by omega) (by decide) (by omega) (by decide)
  rwa [Int.mul_one,Int.mul_one]at this
 have YT:∀i,n4 x (i+1)=if 0<eD ((nth x i).natAbs:Int) (n4 x i)then((nth x i).natAbs:Int)else n4 x i:=fun i=>by
  rw [n4]
  by_cases h:n4 x i<((nth x i).natAbs:Int)
  ·rw [if_pos h,if_pos (BL.2 h)]
  ·rw [if_neg h,if_neg (fun q=>h (BL.1 q))]
 have h0:n4 x 0=0:=rfl
 have oS:=oK
 have asJ:nth x (x.length-1)=lead x:=rfl
 have hd:∀v:Int,decide (((v.natAbs:Int))<0)=false:=fun v=>decide_eq_false (by omega)
 have hna:∀v:Int,((v.natAbs:Int)).natAbs=v.natAbs:=fun v=>Int.natAbs_natCast _
 clear hm hld amA hz Z1
 rw [show RR ((n4 x (x.length-1):Int):Rat) = .ag (ri (n4 x (x.length-1)))from congrArg PV.ag (fN _),show RR (((lead x).natAbs:Int):Rat) = .ag (ri ((lead x).natAbs:Int))from congrArg PV.ag (fN _)]at Q1
 rw [show RR (1:Rat) = .ag (ri 1)from congrArg PV.ag (fN 1)]at A1 hO
 generalize ((n4 x (x.length-1):Int):Rat)/(((lead x).natAbs:Int):Rat)=qq at *
 generalize hbd:tA x=B at *
 simp only [gR]at Q1 A1 ⊢
 have GF:x.length<2→R2 B.num (B.den:Int) = .ag (ri 1):=fun h=>by rw [JF h];rfl
 generalize B.num=bn at *
 generalize (B.den:Int)=bd at *
 generalize qq.num=qn at *
 generalize (qq.den:Int)=qd at *
 generalize hmf:n4 x=mf at *
 have e1:((x.length:Int)-1).toNat=x.length-1:=by omega
 refine cA [(0,PI x)] Tryz.func183 ?_
 refine aA [0,2] ?_
 refine aY [0,2,3] oS ?_
 refine aM [0,2,3,4] ?_
 refine W.block ?_
 refine W.a8 (fun k σ=>∃(v2 e2 v3 e3 i:Nat) (rows:Pm.Rows) (clk:Nat),σ=⟨fa [(0,PI x),(2, .ptr 2 v2 0 0),(3, .ptr 3 v3 0 0),(4, .int .i64 i)],rows,clk⟩∧i+k=x.length-1 ∧
  rows 2=some ⟨v2,e2,4,[[.nil, .bool false, .nil, .bool false]]⟩∧rows 3=some ⟨v3,e3,4,[[aJ aF (aU DD (mf i).natAbs), .bool (decide (mf i<0)),aJ aF (aU DD 1), .bool false]]⟩) (x.length-1) ?_ ?_
 ·exact⟨_, .refl,_,_,_,_,0,_,_,rfl,by omega,by simp;(first | exact⟨rfl,rfl⟩ | rfl),by rw [h0];simp;(first | exact⟨rfl,rfl⟩ | rfl)⟩
 rintro k _ ⟨v2,e2,v3,e3,i,rows,clk,rfl,KX,cR,fU⟩
 refine aM [0,2,3,4,12] ?_
 refine bP ?_ ?_<;>intro h
 ·have hi:i<x.length-1:=by simp at h;omega
  have R4:i<x.length:=by omega
  have c1:=C1 i R4
  have hm:=YT i
  have HE:=hd (nth x i)
  have n3:=hna (nth x i)
  simp only [HE,n3,H6,R2]at c1
  generalize eD ((nth x i).natAbs:Int) (mf i)=cv at *
  refine W.skip ?_
  refine W.fM (fun σ=>∃(v2 e2 v3 e3:Nat) (rows:Pm.Rows) (clk:Nat),σ=⟨fa [(0,PI x),(2, .ptr 2 v2 0 0),(3, .ptr 3 v3 0 0),(4, .int .i64 i)],rows,clk⟩ ∧
   rows 2=some ⟨v2,e2,4,[[.nil, .bool false, .nil, .bool false]]⟩∧rows 3=some ⟨v3,e3,4,[[aJ aF (aU DD (mf (i+1)).natAbs), .bool (decide (mf (i+1)<0)),aJ aF (aU DD 1), .bool false]]⟩) ?_ ?_
  ·refine W.sr ?_
   simp (disch:=omega) [gw,R4]
   refine bO [0,2,3,4,5] ?_
   refine aA [0,2,3,4,5] ?_
   refine W.sr ?_
   simp (disch:=omega) [gw,fU]
   refine cI [0,2,3,4,5,24] c1 ?_
   refine bP ?_ ?_<;>intro h
   ·have h:0<cv:=by simpa using h
    rw [if_pos h]at hm
    refine W.b9 (fun K hK=>?_);simp (disch:=omega) [gw,fU]
    exact hK _ ⟨_,aC _ [0,2,3,4],_,_,_,_,_,_,rfl,by simp [cR];exact rfl,by simp [hm,HE,n3];exact rfl⟩
   ·have h:¬0<cv:=by simpa using h
    rw [if_neg h]at hm
    refine W.skip ?_
    exact⟨_,aC _ [0,2,3,4],_,_,_,_,_,_,rfl,by simp [cR];exact rfl,by simp [hm,fU];exact rfl⟩
  rintro _ ⟨v2,e2,v3,e3,rows,clk,rfl,cR,fU⟩
  refine W.b9 (fun K hK=>?_);simp (disch:=omega) [gw]
  refine hK _ ⟨k-1,_,aC _ [0,2,3,4],by omega,_,_,_,_,i+1,_,_,rfl,by omega,cR,fU⟩
 ·have hi:i=x.length-1:=by simp at h;omega
  subst hi
  refine eJ ?_
  refine aM [0,2,3,28] ?_
  refine bP ?_ ?_<;>intro h
  ·have h:x.length<2:=by simp at h;omega
   rw [GF h]
   refine j4 ?_
   refine aD hO ?_
   simp (disch:=omega) [gw,cR]
   refine bO [2] ?_
   exact cP
  ·have h:¬x.length<2:=by simp at h;omega
   have R4:x.length-1<x.length:=by omega
   have HE:=hd (lead x)
   have n3:=hna (lead x)
   simp only [R2,abI,H6,HE,n3]at Q1 A1
   refine W.skip ?_
   refine W.sr ?_
   simp (disch:=omega) [gw,R4,e1,asJ]
   refine bO [2,3,6] ?_
   refine aA [2,3,6] ?_
   refine kB ?_
   refine aD hO ?_
   simp (disch:=omega) [gw,fU]
   refine b8 Q1 ?_
   refine aD A1 ?_
   simp (disch:=omega) [gw,cR]
   (try (refine bF (of_decide_eq_true (by kernel_rfl)) ?_));(try simp (maxSteps:=4000000) (disch:=omega) [gw,cR]);(repeat rw [if_pos (by kernel_rfl)]);(try simp (maxSteps:=4000000) (disch:=omega) [gw,cR])
   refine bO [2] ?_
   exact cP
end Go.Proofs.YtiobceocpabjdaaGreat
