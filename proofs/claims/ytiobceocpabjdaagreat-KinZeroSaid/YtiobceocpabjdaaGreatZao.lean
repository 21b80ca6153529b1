import Derived.Test.YtiobceocpabjdaaGreatZak
import Derived.Test.YtiobceocpabjdaaGreatZam
import Derived.Test.YtiobceocpabjdaaGreatZan
set_option linter.unusedSimpArgs false
set_option linter.unusedVariables false
namespace Go.Proofs.YtiobceocpabjdaaGreat
open Go Pm
abbrev T2(n d:Int):PV:=.ag [.bool (decide (n<0)),us (aU LL n.natAbs), .bool (decide (d<0)),us (aU LL d.natAbs)]
abbrev RT(q:Rat):PV:=T2 q.num q.den
theorem ahH(n d:Int):((bN [n,d]:Nat):Int)=Int.gcd n d:=by
 simp only [bN,List.foldl_cons,List.foldl_nil,Nat.gcd_zero_left]
 rfl
theorem anU{n d:Int}(h:d≠0):(dM n d).num=(if d<0 then -n else n)/(bN [n,d]:Nat)∧((dM n d).den:Int)=(if d<0 then -d else d)/(bN [n,d]:Nat):=by
 have e:∀m k:Int,(m=n∨m = -n)→(k=d∨k = -d)→((Int.gcd m k:Nat):Int)=(bN [n,d]:Nat):=fun m k hm hk=>by
  rw [ahH]
  rcases hm with rfl | rfl<;>rcases hk with rfl | rfl<;>simp
 rw [sI n d h,sJ n d h]
 constructor
 ·rw [e _ _ (by split<;>simp) (by split<;>simp)]
 ·rw [e _ _ (by split<;>simp) (by split<;>simp)]
theorem pZ{n d:Int}(hn:sz LL n<1099511627770)(hd:sz LL d<1099511627770)(h0:d≠0):aF env.P 169 [I n,I d] (RT (dM n d)):=by
 have sn:Sz n:=by show _<_;omega
 have sd:Sz d:=by show _<_;omega
 have g0:=M6 [s5 n,s5 d] 1099511627770 (by decide) (fun c hc=>by
  simp only [List.mem_cons,List.not_mem_nil,or_false]at hc
  rcases hc with rfl | rfl
  ·exact⟨fI gF _,by unfold sz at hn;show(aU LL n.natAbs).length≤_;omega⟩
  ·exact⟨fI gF _,by unfold sz at hd;show(aU LL d.natAbs).length≤_;omega⟩) (by simp)
 rw [show [s5 n,s5 d].map gv = [n,d]by simp [MD]]at g0
 obtain⟨q1,q2⟩:=anU (n:=n) h0
 have gd1:((bN [n,d]:Nat):Int)∣n:=iI _ n (by simp)
 have gd2:((bN [n,d]:Nat):Int)∣d:=iI _ d (by simp)
 have gne:((bN [n,d]:Nat):Int)≠0:=by
  have:=NC (x:=[n,d]) (c:=d) (by simp) h0;omega
 have gle:((bN [n,d]:Nat):Int).natAbs≤d.natAbs:=Nat.le_of_dvd (by omega) (Int.natAbs_dvd_natAbs.2 gd2)
 have gsz:sz LL ((bN [n,d]:Nat):Int)<1099511627774:=Nat.lt_of_le_of_lt (dJ gF gle) (by omega)
 have nn:∀v,sH (aU LL v)↔sH (aU LL v):=fun _=>Iff.rfl
 have neg:∀v:Int,Sz v→aF env.P 148 [I v] (I (-v)):=fun v hv=>by
  have:=CJ (decide (v<0)) (aU LL v.natAbs) hv.UM
  rw [show iv (decide (v<0)) (aU LL v.natAbs)=v from MD v]at this
  exact this
 generalize hg:((bN [n,d]:Nat):Int)=g at *
 have ex:∀v:Int,g∣v→sz LL v<1099511627774→aF env.P 234 [I v,I g] (.dU [I (v/g), .int .i64 0]):=fun v hv hs=>by
  have:=IP hs gsz gne
  rw [if_pos (Int.emod_eq_zero_of_dvd hv)]at this
  exact this
 have n1:=neg n sn
 have n2:=neg d sd
 have aun:∀v:Int,sz LL (-v)=sz LL v:=fun v=>by unfold sz;rw [Int.natAbs_neg]
 have e1:=ex (if d<0 then -n else n) (by split;exact(Int.dvd_neg.2 gd1);exact gd1) (by split;rw [aun];omega;omega)
 have e2:=ex (if d<0 then -d else d) (by split;exact(Int.dvd_neg.2 gd2);exact gd2) (by split;rw [aun];omega;omega)
 rw [←q1]at e1
 rw [←q2]at e2
 have eg:Pg [s5 n,s5 d] = .sl [[.bool (decide (n<0)),us (aU LL n.natAbs)],[.bool (decide (d<0)),us (aU LL d.natAbs)]]:=rfl
 rw [eg]at g0
 show aF env.P _ _ (T2 (dM n d).num (dM n d).den)
 generalize (dM n d).num=rn at *
 generalize ((dM n d).den:Int)=rd at *
 refine cD [(0,I n),(1,I d)] Tryz.func169 ?_
 refine aA [2,3,4] ?_
 refine aR [2,3,4,5] g0 ?_
 generalize BL:(if d<0 then -n else n)=n' at *
 generalize hd':(if d<0 then -d else d)=d' at *
 refine W.iE (fun σ=>∃(rows:Pm.Rows) (clk:Nat),σ=⟨fa [(2, .ptr 2 0 0 0),(3, .ptr 3 1 0 0),(4, .ptr 4 2 0 0),(5, .ptr 5 3 0 0)],rows,clk⟩∧rows 2=some ⟨0,38,2,[ie n']⟩∧rows 3=some ⟨1,38,2,[ie d']⟩∧rows 4=some ⟨2,52,4,[[.bool false, .nil, .bool false, .nil]]⟩∧rows 5=some ⟨3,38,2,[ie g]⟩) ?_ ?_
 ·refine aA [2,3,4,5,11] ?_
  refine bJ ?_ ?_<;>intro h
  ·have h:d<0:=by simpa using h
   rw [if_pos h]at BL hd'
   subst BL hd'
   refine W.LY (fun K hK=>?_)
   simp (disch:=omega) [gw]
   refine cU n1 ?_
   refine cU n2 ?_
   (try (refine bC (of_decide_eq_true (by kernel_rfl)) ?_));(try simp (maxSteps:=4000000) (disch:=omega) [gw]);(repeat rw [if_pos (by kernel_rfl)]);(try simp (maxSteps:=4000000) (disch:=omega) [gw])
   (try (refine bC (of_decide_eq_true (by kernel_rfl)) ?_));(try simp (maxSteps:=4000000) (disch:=omega) [gw]);(repeat rw [if_pos (by kernel_rfl)]);(try simp (maxSteps:=4000000) (disch:=omega) [gw])
   exact hK _ ⟨_,aB _ [2,3,4,5],_,_,rfl,by simp,by simp,by simp,by simp⟩
  ·have h:¬d<0:=by simpa using h
   rw [if_neg h]at BL hd'
   subst BL hd'
   refine W.skip ?_
   exact⟨_,aB _ [2,3,4,5],_,_,rfl,by simp,by simp,by simp,by simp⟩
 rintro _ ⟨rows,clk,rfl,bS,b8,dS,eB⟩
 simp only [ie]at bS b8 eB
 refine W.sr ?_
 simp (disch:=omega) [gw,bS,eB]
 refine aC e1 ?_
 simp (disch:=omega) [gw,bS]
 refine bG [2,3,4,5] ?_
 refine W.sr ?_
 simp (disch:=omega) [gw,b8,eB]
 refine aC e2 ?_
 simp (disch:=omega) [gw,b8]
 refine bG [2,3,4] ?_
 refine W.sr ?_
 simp (disch:=omega) [gw,dS]
 refine bG [4] ?_
 exact cC
theorem GW(d:Int):aF env.P 124 [I d] (.bool (decide (d=0))):=by
 have:=ME (decide (d<0)) (aU LL d.natAbs)
 rw [show decide ((aU LL d.natAbs).length=0)=decide (d=0)from by
  by_cases h:d=0
  ·subst h;rfl
  ·have:aU LL d.natAbs ≠ []:=fun h2=>h (by have:=kH gF d.natAbs;rw [h2]at this;simp [V]at this;omega)
   have h3:=List.length_pos_iff.2 this
   simp [h];omega]at this
 exact this
theorem SJ(n:Int):dM n 0=dM n 1:=by rw [lS,dM,if_pos rfl]
theorem mV{n d:Int}(hn:sz LL n<1099511627770)(hd:sz LL d<1099511627770):aF env.P 147 [T2 n d] (RT (dM n d)):=by
 have sn:Sz n:=by show _<_;omega
 have sd:Sz d:=by show _<_;omega
 have n1:=CL sn
 have n2:=CL sd
 have z1:=GW d
 have o1:=xL 1 (by decide) (by decide)
 obtain⟨e,he,hed⟩:∃e,e=(if d=0 then 1 else d)∧dM n e=dM n d:=by
  refine⟨_,rfl,?_⟩
  split
  ·rename_i h;rw [h,SJ]
  ·rfl
 have KV:sz LL e<1099511627770:=by
  rw [he]
  split
  ·exact Nat.lt_of_le_of_lt (dW (k:=1) gF (by decide)) (by decide)
  ·exact hd
 have JC:e≠0:=by
  rw [he]
  split
  ·decide
  ·assumption
 have l1:=pZ (n:=n) (d:=e) hn KV JC
 rw [hed]at l1
 show aF env.P _ _ (T2 (dM n d).num (dM n d).den)
 replace l1:aF env.P 169 [I n,I e] (T2 (dM n d).num (dM n d).den):=l1
 clear hed KV JC
 generalize (dM n d).num=rn at *
 generalize ((dM n d).den:Int)=rd at *
 refine cD [(0,T2 n d)] Tryz.func147 ?_
 refine aA [1,2] ?_
 refine aR [1,2,3] n2 ?_
 refine W.iE (fun σ=>∃(rows:Pm.Rows) (clk:Nat),σ=⟨fa [(1, .ptr 1 0 0 0),(2, .ptr 2 1 0 0),(3, .ptr 3 2 0 0)],rows,clk⟩∧rows 1=some ⟨0,52,4,[[.bool (decide (n<0)),us (aU LL n.natAbs), .bool (decide (d<0)),us (aU LL d.natAbs)]]⟩∧rows 2=some ⟨1,52,4,[[.bool false, .nil, .bool false, .nil]]⟩∧rows 3=some ⟨2,38,2,[[.bool (decide (e<0)),us (aU LL e.natAbs)]]⟩) ?_ ?_
 ·refine aR [1,2,3,8] z1 ?_
  refine bJ ?_ ?_<;>intro h
  ·have h:d=0:=by simpa using h
   rw [if_pos h]at he
   subst he
   refine W.cA (fun K hK=>?_)
   simp (disch:=omega) [gw]
   refine cU o1 ?_
   exact hK _ ⟨_,aB _ [1,2,3],_,_,rfl,by simp,by simp,by simp⟩
  ·have h:¬d=0:=by simpa using h
   rw [if_neg h]at he
   subst he
   refine W.skip ?_
   exact⟨_,aB _ [1,2,3],_,_,rfl,by simp,by simp,by simp⟩
 rintro _ ⟨rows,clk,rfl,B6,bS,b8⟩
 refine W.sd ?_
 simp (disch:=omega) [gw,B6]
 refine aC n1 ?_
 simp (disch:=omega) [gw,b8]
 refine aC l1 ?_
 simp (disch:=omega) [gw,bS]
 (try (refine bC (of_decide_eq_true (by kernel_rfl)) ?_));(try simp (maxSteps:=4000000) (disch:=omega) [gw,bS]);(repeat rw [if_pos (by kernel_rfl)]);(try simp (maxSteps:=4000000) (disch:=omega) [gw,bS])
 refine bG [2] ?_
 exact cC
theorem xX{n d m e:Int}{k:Nat}(hn:sz LL n≤k)(hd:sz LL d≤k)(hm:sz LL m≤k)(he:sz LL e≤k)(hk:k≤500000000000){p q:Rat}(hp:dM n d=p)(hq:dM m e=q)(sp:sz LL p.num≤k∧sz LL (p.den:Int)≤k)(sq:sz LL q.num≤k∧sz LL (q.den:Int)≤k) :
  aF env.P 165 [T2 n d,T2 m e] (.dU [I (p.num*q.den),I (q.num*p.den),I ((p.den:Int)*q.den)]):=by
 have n1:=mV (n:=n) (d:=d) (by omega) (by omega)
 have n2:=mV (n:=m) (d:=e) (by omega) (by omega)
 rw [hp]at n1
 rw [hq]at n2
 have z:∀ {v:Int},sz LL v≤k→Sz v:=fun h=>by show _<_;omega
 have m1:=vQ (z sp.1) (z sq.2)
 have m2:=vQ (z sq.1) (z sp.2)
 have m3:=vQ (z sp.2) (z sq.2)
 replace n1:aF env.P 147 [T2 n d] (T2 p.num p.den):=n1
 replace n2:aF env.P 147 [T2 m e] (T2 q.num q.den):=n2
 clear sp sq hp hq
 generalize p.num*(q.den:Int)=x1 at *
 generalize q.num*(p.den:Int)=x2 at *
 generalize (p.den:Int)*(q.den:Int)=x3 at *
 generalize p.num=pn at *
 generalize (p.den:Int)=pd at *
 generalize q.num=qn at *
 generalize (q.den:Int)=qd at *
 refine cD [(0,T2 n d),(1,T2 m e)] Tryz.func165 ?_
 refine aA [2,3,4,5,6] ?_
 refine nK ?_
 refine cU n1 ?_
 refine cU n2 ?_
 (try (refine bC (of_decide_eq_true (by kernel_rfl)) ?_));(try simp (maxSteps:=4000000) (disch:=omega) [gw]);(repeat rw [if_pos (by kernel_rfl)]);(try simp (maxSteps:=4000000) (disch:=omega) [gw])
 (try (refine bC (of_decide_eq_true (by kernel_rfl)) ?_));(try simp (maxSteps:=4000000) (disch:=omega) [gw]);(repeat rw [if_pos (by kernel_rfl)]);(try simp (maxSteps:=4000000) (disch:=omega) [gw])
 refine bG [2,3,4,5,6] ?_
 refine W.sd ?_
 simp (maxSteps:=4000000) (disch:=omega) [gw]
 refine aC m1 ?_
 simp (maxSteps:=4000000) (disch:=omega) [gw]
 refine aC m2 ?_
 simp (maxSteps:=4000000) (disch:=omega) [gw]
 refine aC m3 ?_
 simp (maxSteps:=4000000) (disch:=omega) [gw]
 (try (refine bC (of_decide_eq_true (by kernel_rfl)) ?_));(try simp (maxSteps:=4000000) (disch:=omega) [gw]);(repeat rw [if_pos (by kernel_rfl)]);(try simp (maxSteps:=4000000) (disch:=omega) [gw])
 (try (refine bC (of_decide_eq_true (by kernel_rfl)) ?_));(try simp (maxSteps:=4000000) (disch:=omega) [gw]);(repeat rw [if_pos (by kernel_rfl)]);(try simp (maxSteps:=4000000) (disch:=omega) [gw])
 (try (refine bC (of_decide_eq_true (by kernel_rfl)) ?_));(try simp (maxSteps:=4000000) (disch:=omega) [gw]);(repeat rw [if_pos (by kernel_rfl)]);(try simp (maxSteps:=4000000) (disch:=omega) [gw])
 refine bG [4,5,6] ?_
 exact cC
theorem c7{n d m e:Int}{k:Nat}(hn:sz LL n≤k)(hd:sz LL d≤k)(hm:sz LL m≤k)(he:sz LL e≤k)(hk:k≤500000000000){p q:Rat}(hp:dM n d=p)(hq:dM m e=q)(sp:sz LL p.num≤k∧sz LL (p.den:Int)≤k)(sq:sz LL q.num≤k∧sz LL (q.den:Int)≤k) :
  aF env.P 86 [T2 n d,T2 m e] (.int .i64 (dH (p.num*q.den) (q.num*p.den))):=by
 have c1:=xX hn hd hm he hk hp hq sp sq
 have g1:=cG (b:=LL) gF sp.1 sq.2
 have g2:=cG (b:=LL) gF sq.1 sp.2
 have w1:=acu (x:=p.num*q.den) (y:=q.num*p.den) (by show _<_;omega) (by show _<_;omega)
 clear sp sq hp hq g1 g2
 generalize dH (p.num*(q.den:Int)) (q.num*(p.den:Int))=r at *
 generalize p.num*(q.den:Int)=x1 at *
 generalize q.num*(p.den:Int)=x2 at *
 generalize (p.den:Int)*(q.den:Int)=x3 at *
 refine cD [(0,T2 n d),(1,T2 m e)] Tryz.func86 ?_
 refine aA [2,3] ?_
 refine aR [5,6] c1 ?_
 refine aR [4] w1 ?_
 exact cC
theorem wJ{n d:Int}(hn:sz LL n<1099511627770)(hd:sz LL d<1099511627770):aF env.P 90 [T2 n d, .sl []] (RT (dM n d)):=by
 have n1:=mV hn hd
 show aF env.P _ _ (T2 (dM n d).num (dM n d).den)
 replace n1:aF env.P 147 [T2 n d] (T2 (dM n d).num (dM n d).den):=n1
 generalize (dM n d).num=rn at *
 generalize ((dM n d).den:Int)=rd at *
 refine cD [(0,T2 n d),(1, .sl [])] Tryz.func90 ?_
 refine aA [1,2,4] ?_
 refine aR [1,4,5] n1 ?_
 refine aP [4,5,10,11,12] ?_
 refine W.block ?_
 refine W.bE (fun k σ=>∃(rows:Pm.Rows) (clk:Nat),σ=⟨fa [(4, .ptr 4 1 0 0),(5, .ptr 5 2 0 0),(11, .int .i64 0),(12, .int .i64 0)],rows,clk⟩∧rows 4=some ⟨1,52,4,[[.bool false, .nil, .bool false, .nil]]⟩∧rows 5=some ⟨2,52,4,[[.bool (decide (rn<0)),us (aU LL rn.natAbs), .bool (decide (rd<0)),us (aU LL rd.natAbs)]]⟩) 0 ?_ ?_
 ·exact⟨_,aB _ [4,5,11,12],_,_,rfl,by simp,by simp⟩
 rintro k _ ⟨rows,clk,rfl,dS,eB⟩
 refine bV [4,5,11,12,13] ?_
 refine bJ ?_ ?_<;>intro h
 ·simp at h
 ·refine fH ?_
  refine W.sr ?_
  simp (disch:=omega) [gw,dS,eB]
  refine bG [4] ?_
  exact cC
theorem ZO{n d:Int}(hn:sz LL n<1099511627770)(hd:sz LL d<1099511627770):aF env.P 166 [T2 n d] (RT (dM n d)):=by
 have n1:=wJ hn hd
 show aF env.P _ _ (T2 (dM n d).num (dM n d).den)
 replace n1:aF env.P 90 [T2 n d, .sl []] (T2 (dM n d).num (dM n d).den):=n1
 generalize (dM n d).num=rn at *
 generalize ((dM n d).den:Int)=rd at *
 refine cD [(0,T2 n d)] Tryz.func166 ?_
 refine aA [1,2] ?_
 refine aR [2] n1 ?_
 exact cC
end Go.Proofs.YtiobceocpabjdaaGreat
namespace Go.Proofs.YtiobceocpabjdaaGreat
open Go Pm
open ZX hiding N W
def uO(st:Nat × Int)(s:Int):Nat × Int:=if s=0 then st else(if st.2≠0∧s≠st.2 then st.1+1 else st.1,s)
def vr(l:List Int):Nat:=(l.foldl uO (0,0)).1
theorem SK(l:List Int):∀st:Nat × Int,(l.foldl uO st).1≤st.1+l.length:=by
 induction l with
 | nil=>intro st;simp
 | cons s l ih =>
  intro st
  have h:=ih (uO st s)
  have:(uO st s).1≤st.1+1:=by
   unfold uO
   split
   ·omega
   ·simp only;split<;>omega
  simp only [List.foldl_cons,List.length_cons]
  omega
theorem DK(l:List Int):vr l≤l.length:=by have:=SK l (0,0);simpa [vr]using this
theorem xY{l:List Int}{i:Nat}(h:i<l.length):(l.take (i+1)).foldl uO (0,0)=uO ((l.take i).foldl uO (0,0)) (nth l i):=by
 rw [List.take_add_one,List.getElem?_eq_getElem h,cB h,List.foldl_append]
 rfl
theorem AM(l:List Int)(i:Nat):aI (nth l i) = [.int .i64 (nth l i)]:=rfl
theorem SL(l:List Int)(hl:l.length<1099511627776):aF env.P 223 [aN aI l] (.int .i64 (vr l)):=by
 have hv:vr l=((l.take l.length).foldl uO (0,0)).1:=by rw [List.take_length];rfl
 rw [hv]
 have hb:∀i,((l.take i).foldl uO (0,0)).1≤i:=fun i=>by have:=SK (l.take i) (0,0);simp at this;omega
 have iQ:=fun i (h:i<l.length)=>xY h
 generalize (fun i=>(l.take i).foldl uO (0,0))=F at *
 refine cD [(0,aN aI l)] Tryz.func223 ?_
 refine aA [0] ?_
 refine aA [0,3,4] ?_
 refine aP [0,3,4,7,8] ?_
 refine W.block ?_
 refine W.bE (fun k σ=>∃(i:Nat) (n:Nat) (s:Int) (rows:Pm.Rows) (clk:Nat),σ=⟨fa [(0,aN aI l),(3, .int .i64 n),(4, .int .i64 s),(7, .int .i64 l.length),(8, .int .i64 i)],rows,clk⟩∧i+k=l.length∧(l.take i).foldl uO (0,0)=(n,s)) l.length ?_ ?_
 ·exact⟨_, .refl,0,0,0,_,_,rfl,by omega,by simp⟩
 rintro k _ ⟨i,n,s,rows,clk,rfl,zT,hF⟩
 have hni:n≤i:=by have:=hb i;rw [hF]at this;exact this
 refine bV [0,3,4,7,8,9] ?_
 refine bJ ?_ ?_<;>intro h
 ·have hi:i<l.length:=by simp at h;omega
  have vO:=iQ i hi
  rw [hF]at vO
  generalize hx:nth l i=x at *
  refine W.skip ?_
  refine W.eN (fun σ=>∃(n':Nat) (s':Int) (rows:Pm.Rows) (clk:Nat),σ=⟨fa [(0,aN aI l),(3, .int .i64 n'),(4, .int .i64 s'),(7, .int .i64 l.length),(8, .int .i64 i)],rows,clk⟩∧uO (n,s) x=(n',s')) ?_ ?_
  ·refine aA [0,3,4,5,7,8] ?_
   refine W.sr ?_
   simp (disch:=omega) [gw,hi,hx,AM]
   refine bG [0,3,4,5,7,8,15] ?_
   refine bJ ?_ ?_<;>intro h
   ·have o7:x≠0:=by simpa using h
    refine W.iE (fun σ=>∃(n':Nat) (rows:Pm.Rows) (clk:Nat),σ=⟨fa [(0,aN aI l),(3, .int .i64 n'),(5, .int .i64 i),(7, .int .i64 l.length),(8, .int .i64 i)],rows,clk⟩∧uO (n,s) x=(n',x)) ?_ ?_
    ·refine W.fA (fun σ=>∃(b:Bool) (rows:Pm.Rows) (clk:Nat),σ=⟨fa [(0,aN aI l),(3, .int .i64 n),(5, .int .i64 i),(7, .int .i64 l.length),(8, .int .i64 i),(25, .bool b)],rows,clk⟩∧b=decide (s≠0∧x≠s)) (fun K hK=>?_) ?_
     ·by_cases UL:s=0
      ·subst UL
       simp (disch:=omega) [gw,hi,hx,AM]
       exact hK _ _ (aB _ [0,3,5,7,8,25]) ⟨_,_,_,rfl,by simp⟩
      ·have P6:(s != 0)=true:=by simpa using UL
       simp (disch:=omega) [gw,hi,hx,AM,P6]
       exact hK _ _ (aB _ [0,3,5,7,8,25]) ⟨_,_,_,rfl,by simp [UL];rfl⟩
     rintro _ ⟨b,rows,clk,rfl,rfl⟩
     refine bJ ?_ ?_<;>intro h
     ·have h:=of_decide_eq_true h
      refine W.cA (fun K hK=>?_);simp (disch:=omega) [gw]
      exact hK _ ⟨_,aB _ [0,3,5,7,8],n+1,_,_,rfl,by unfold uO;rw [if_neg o7];simp only;rw [if_pos h]⟩
     ·have h:=of_decide_eq_false h
      refine W.skip ?_
      exact⟨_,aB _ [0,3,5,7,8],n,_,_,rfl,by unfold uO;rw [if_neg o7];simp only;rw [if_neg h]⟩
    rintro _ ⟨n',rows,clk,rfl,BL⟩
    refine W.cA (fun K hK=>?_);simp (disch:=omega) [gw,hi,hx,AM]
    exact hK _ ⟨_,aB _ [0,3,4,7,8],n',x,_,_,rfl,BL⟩
   ·have o7:x=0:=by simpa using h
    refine W.skip ?_
    exact⟨_,aB _ [0,3,4,7,8],n,s,_,_,rfl,by unfold uO;rw [if_pos o7]⟩
  rintro _ ⟨n',s',rows,clk,rfl,BL⟩
  refine W.cA (fun K hK=>?_);simp (disch:=omega) [gw]
  refine hK _ ⟨k-1,_,aB _ [0,3,4,7,8],by omega,i+1,n',s',_,_,rfl,by omega,by rw [vO,BL]⟩
 ·have hi:i=l.length:=by simp at h;omega
  subst hi
  refine fH ?_
  refine aA [2] ?_
  rw [hF]
  exact cC
def eL(x:List Int):Int:=if x.length%2=0 then -(lead x).sign else(lead x).sign
def eR(x:List Int):Int:=(lead x).sign
def oB(c:List ZX)(n d:Int):List Int:=c.map fun p=>JE p.l n d
def ZP(c:List ZX):List Int:=c.map fun p=>eL p.l
def ZQ(c:List ZX):List Int:=c.map fun p=>eR p.l
theorem AO{l:List Int}{v:Int}:emap aI l ++ [[.int .i64 v]]=emap aI (l ++ [v]):=by simp [emap,aI]
theorem E2{α:Type}[Inhabited α](f:α→Int){c:List α}{i:Nat}(h:i<c.length):(c.take i).map f ++ [f (nth c i)]=(c.take (i+1)).map f:=by
 rw [List.take_add_one,List.getElem?_eq_getElem h,cB h,List.map_append];rfl
theorem OB{c:List ZX}{n d:Int}(hl:c.length<1000000)(hS:∀p∈c,aF env.P 77 [PI p.l,R2 n d] (.int .i64 (JE p.l n d))):aF env.P 151 [aN zq c,R2 n d] (.int .i64 (vr (oB c n d))):=by
 have hT:=SL (oB c n d) (by simp [oB];omega)
 have gC:(emap aI (oB c n d)).length=c.length:=by simp [oB,emap]
 have wZ:(oB c n d)=(c.take c.length).map fun p=>JE p.l n d:=by rw [List.take_length];rfl
 have htG:(oB c n d).take c.length=oB c n d:=List.take_of_length_le (by simp [oB])
 generalize vr (oB c n d)=r at *
 generalize hg:oB c n d=G at *
 refine cD [(0,aN zq c),(1,R2 n d)] Tryz.func151 ?_
 refine aA [0,3] ?_
 refine aA [0,3,5] ?_
 refine W.nil 5 5 3 1 (by simp) (by decide) (fun K hK=>?_)
 refine W.lw [0,3,5] hK ?_;clear hK K;simp
 refine aP [0,3,5,8,9] ?_
 refine W.block ?_
 refine W.bE (fun k σ=>∃(i ver v3 e3:Nat) (rows:Pm.Rows) (clk:Nat),σ=⟨fa [(0,aN zq c),(3, .ptr 3 v3 0 0),(5, .own 5 ver 0 i),(8, .int .i64 c.length),(9, .int .i64 i)],rows,clk⟩∧i+k=c.length ∧
  rows 3=some ⟨v3,e3,4,[[aN aI (aU DD n.natAbs), .bool (decide (n<0)),aN aI (aU DD d.natAbs), .bool (decide (d<0))]]⟩∧rows 5=some ⟨ver,3,1,emap aI ((c.take i).map fun p=>JE p.l n d)⟩) c.length ?_ ?_
 ·exact⟨_, .refl,0,_,_,_,_,_,rfl,by omega,by simp;first | exact⟨rfl,rfl⟩ | exact rfl,by simp [emap]⟩
 rintro k _ ⟨i,ver,v3,e3,rows,clk,rfl,zT,b8,eB⟩
 have uC:((c.take i).map fun p=>JE p.l n d).length=i:=by simp;omega
 refine bV [0,3,5,8,9,10] ?_
 refine bJ ?_ ?_<;>intro h
 ·have hi:i<c.length:=by simp at h;omega
  have hSi:=hS _ (b7 hi)
  have TO:=E2 (fun p:ZX=>JE p.l n d) hi
  generalize hpr:(c.take i).map (fun p=>JE p.l n d)=pr at *
  generalize hv:JE (nth c i).l n d=v at *
  have mR:(emap aI pr).length=i:=by simp [emap,uC]
  refine kY ?_
  refine aA [0,3,5,6,8,9] ?_
  refine W.LY (fun K hK=>?_)
  simp (disch:=omega) [gw,hi,b8,eB]
  refine aC hSi ?_
  simp (disch:=omega) [gw,eB,mR,AO]
  (try (refine bC (of_decide_eq_true (by kernel_rfl)) ?_));(try simp (maxSteps:=4000000) (disch:=omega) [gw,eB,mR,AO]);(repeat rw [if_pos (by kernel_rfl)]);(try simp (maxSteps:=4000000) (disch:=omega) [gw,eB,mR,AO])
  refine W.lw [0,3,5,8,9] hK ?_;clear hK K;simp
  refine W.cA (fun K hK=>?_);simp (disch:=omega) [gw]
  refine hK _ ⟨k-1,_,aB _ [0,3,5,8,9],by omega,i+1,_,v3,e3,_,_,rfl,by omega,by simp [b8],by simp [AO,TO]⟩
 ·have hi:i=c.length:=by simp at h;omega
  subst hi
  rw [←wZ]at eB
  refine fH ?_
  refine W.sr ?_
  simp (disch:=omega) [gw,eB,gC,htG]
  refine cQ [4] hT ?_
  exact cC
theorem OC{c:List ZX}{n d m e:Int}(hn:sz 2 n≤YY)(hd:sz 2 d≤YY)(hm:sz 2 m≤YY)(he:sz 2 e≤YY)(hl:c.length<1000000)(h1:aF env.P 151 [aN zq c,R2 n d] (.int .i64 (vr (oB c n d))))(h2:aF env.P 151 [aN zq c,R2 m e] (.int .i64 (vr (oB c m e)))) :
  aF env.P 76 [aN zq c,R2 n d,R2 m e] (.int .i64 (if m*d<n*e then 0 else(vr (oB c n d):Int)-vr (oB c m e))):=by
 have c1:=GQ m e n d hm he hn hd
 have v1:=DK (oB c n d)
 have v2:=DK (oB c m e)
 have l1:(oB c n d).length=c.length:=by simp [oB]
 have l2:(oB c m e).length=c.length:=by simp [oB]
 generalize vr (oB c n d)=a at *
 generalize vr (oB c m e)=b at *
 have hc:(dH (m*d) (n*e)<0)↔m*d<n*e:=by
  unfold dH;split
  ·omega
  ·split<;>omega
 generalize m*d=xx at *
 generalize n*e=yy at *
 generalize dH xx yy=z at *
 refine cD [(0,aN zq c),(1,R2 n d),(2,R2 m e)] Tryz.func76 ?_
 refine aA [0,4,5] ?_
 refine W.seq ?_
 refine aR [0,4,5,10] c1 ?_
 refine bJ ?_ ?_<;>intro h
 ·have h:z<0:=by simpa using h
  rw [if_pos (hc.1 h)]
  refine aA [6] ?_
  exact cC
 ·have h:¬z<0:=by simpa using h
  rw [if_neg (fun hh=>h (hc.2 hh))]
  refine W.skip ?_
  refine nK ?_
  refine cU h1 ?_
  refine cQ [6] h2 ?_
  exact cC
theorem ahI{n d:Int}(hn:Z n)(hd:Z d):aF env.P 23 [R2 n d] (T2 n d):=by
 have t1:=IL n hn
 have t2:=IL d hd
 refine cD [(0,R2 n d)] Tryz.func23 ?_
 refine aA [1,2] ?_
 refine nK ?_
 refine cU t1 ?_
 refine cU t2 ?_
 (try (refine bC (of_decide_eq_true (by kernel_rfl)) ?_));(try simp (maxSteps:=4000000) (disch:=omega) [gw]);(repeat rw [if_pos (by kernel_rfl)]);(try simp (maxSteps:=4000000) (disch:=omega) [gw])
 refine bG [2] ?_
 exact cC
abbrev CH(c:List ZX):PV:=.rd [aN zp c]
theorem OD{l:List Int}(hs:∀s∈l,s = -1∨s=0∨s=1):∀i,i≤l.length→((l.take i).foldl uO (0,0)).2 = -1∨((l.take i).foldl uO (0,0)).2=0∨((l.take i).foldl uO (0,0)).2=1
 | 0,_ => .inr (.inl (by simp))
 | i+1,h=>by
  rw [xY (by omega)]
  have ih:=OD hs i (by omega)
  have:=hs _ (b7 (show i<l.length by omega))
  unfold uO
  split
  ·exact ih
  ·exact this
theorem uP(g:FuncId)(hw:IF g=false)(bW:List PV)(hc:bW.all dB=true)(c:List ZX)(sg:ZX→Int)(hl:c.length<1000000)(hs:∀p∈c,sg p = -1∨sg p=0∨sg p=1)(hg:∀p∈c,aF env.P g (Po p.l::bW) (.int .i64 (sg p)))(hm:vM g=false:=by rfl) :
  aF env.P 219 [CH c, .fn g bW] (.int .i64 (vr (c.map sg))):=by
 have hv:vr (c.map sg)=(((c.map sg).take c.length).foldl uO (0,0)).1:=by rw [List.take_of_length_le (by simp)];rfl
 rw [hv]
 have hb:∀i,(((c.map sg).take i).foldl uO (0,0)).1≤i:=fun i=>by have:=SK ((c.map sg).take i) (0,0);simp at this;omega
 have iQ:=fun i (h:i<(c.map sg).length)=>xY h
 have SC:=OD (l:=c.map sg) (fun s h=>by
  simp only [List.mem_map]at h
  obtain⟨p,hp,rfl⟩:=h
  exact hs p hp)
 have hln:(c.map sg).length=c.length:=by simp
 have xU:∀i,i<c.length→nth (c.map sg) i=sg (nth c i):=fun i hi=>by rw [cB (by simpa using hi),cB hi];simp
 refine cD [(0,CH c),(1, .fn g bW)] Tryz.func219 ?_
 refine aA [0,1] ?_
 refine aA [0,1,5,6] ?_
 refine aP [1,5,6,13,14,15] ?_
 refine W.block ?_
 refine W.bE (fun k σ=>∃(i:Nat) (n:Nat) (s:Int) (rows:Pm.Rows) (clk:Nat),σ=⟨fa [(1, .fn g bW),(5, .int .i64 n),(6, .int .i64 s),(13,aN zp c),(14, .int .i64 c.length),(15, .int .i64 i)],rows,clk⟩∧i+k=c.length∧((c.map sg).take i).foldl uO (0,0)=(n,s)) c.length ?_ ?_
 ·exact⟨_, .refl,0,0,0,_,_,rfl,by omega,by simp⟩
 rintro k _ ⟨i,n,s,rows,clk,rfl,zT,hF⟩
 have hni:n≤i:=by have:=hb i;rw [hF]at this;exact this
 have hsv:=SC i (by omega)
 rw [hF]at hsv
 simp only at hsv
 refine bV [1,5,6,13,14,15,16] ?_
 refine bJ ?_ ?_<;>intro h
 ·have hi:i<c.length:=by simp at h;omega
  have vO:=iQ i (by omega)
  have hgi:=hg _ (b7 hi)
  have hxv:=hs _ (b7 hi)
  rw [hF,xU i hi]at vO
  generalize hx:sg (nth c i)=x at *
  refine W.skip ?_
  refine W.eN (fun σ=>∃(n':Nat) (s':Int) (rows:Pm.Rows) (clk:Nat),σ=⟨fa [(1, .fn g bW),(5, .int .i64 n'),(6, .int .i64 s'),(13,aN zp c),(14, .int .i64 c.length),(15, .int .i64 i)],rows,clk⟩∧uO (n,s) x=(n',s')) ?_ ?_
  ·refine W.sr ?_
   simp (disch:=omega) [gw,hi]
   refine bG [1,5,6,8,13,14,15] ?_
   refine W.sr ?_
   simp (disch:=omega) [gw, -IF,hw, -vM,hm,hc]
   refine cQ [1,5,6,9,13,14,15] hgi ?_
   refine aP [1,5,6,9,13,14,15,23] ?_
   refine bJ ?_ ?_<;>intro h
   ·have o7:x=0:=by simpa using h
    refine fH ?_
    exact⟨_,aB _ [1,5,6,13,14,15],n,s,_,_,rfl,by unfold uO;rw [if_pos o7]⟩
   ·have o7:x≠0:=by simpa using h
    refine W.skip ?_
    refine W.iE (fun σ=>∃(n':Nat) (rows:Pm.Rows) (clk:Nat),σ=⟨fa [(1, .fn g bW),(5, .int .i64 n'),(9, .int .i64 x),(13,aN zp c),(14, .int .i64 c.length),(15, .int .i64 i)],rows,clk⟩∧uO (n,s) x=(n',x)) ?_ ?_
    ·refine aA [1,5,9,13,14,15,27] ?_
     refine bJ ?_ ?_<;>intro h
     ·have h:s = -x:=by simpa using h
      refine W.cA (fun K hK=>?_);simp (disch:=omega) [gw]
      exact hK _ ⟨_,aB _ [1,5,9,13,14,15],n+1,_,_,rfl,by unfold uO;rw [if_neg o7];simp only;rw [if_pos ⟨by omega,by omega⟩]⟩
     ·have h:¬s = -x:=by simpa using h
      refine W.skip ?_
      exact⟨_,aB _ [1,5,9,13,14,15],n,_,_,rfl,by unfold uO;rw [if_neg o7];simp only;rw [if_neg (fun hh=>by obtain⟨h1,h2⟩:=hh;omega)]⟩
    rintro _ ⟨n',rows,clk,rfl,BL⟩
    refine W.cA (fun K hK=>?_);simp (disch:=omega) [gw]
    exact hK _ ⟨_,aB _ [1,5,6,13,14,15],n',x,_,_,rfl,BL⟩
  rintro _ ⟨n',s',rows,clk,rfl,BL⟩
  refine W.cA (fun K hK=>?_);simp (disch:=omega) [gw]
  refine hK _ ⟨k-1,_,aB _ [1,5,6,13,14,15],by omega,i+1,n',s',_,_,rfl,by omega,by rw [vO,BL]⟩
 ·have hi:i=c.length:=by simp at h;omega
  subst hi
  refine fH ?_
  refine aA [4] ?_
  rw [hF]
  exact cC
theorem adK{s k u:Nat}{n d:Int}(hn:sz LL n≤u)(hd:sz LL d≤u)(hu:1≤u):∀ {x:List Int},Bd LL s k x→sz LL (hm n d x).1≤s+x.length*(u+1)∧sz LL (hm n d x).2≤x.length*u+1
 | [],_=>⟨by show sz LL 0≤_;rw [show sz LL 0=0 by decide];omega,by show sz LL 1≤_;exact Nat.le_trans (dW (k:=1) gF (by decide)) (by omega)⟩
 | a::l,h=>by
  obtain⟨h1,h2⟩:=adK hn hd hu (x:=l) ⟨Nat.le_trans (by simp) h.len,fun c hc=>h.sz c (by simp [hc])⟩
  have ha:=h.sz a (by simp)
  have e:(a::l).length*u=l.length*u+u:=by rw [List.length_cons,Nat.add_mul];omega
  have e':(a::l).length*(u+1)=l.length*u+l.length+u+1:=by rw [List.length_cons,Nat.add_mul,Nat.mul_add];omega
  have e'':l.length*(u+1)=l.length*u+l.length:=by rw [Nat.mul_add];omega
  refine⟨?_,?_⟩
  ·have g1:=cG (b:=LL) gF h1 hn
   have g2:=cG (b:=LL) gF ha h2
   have:=m7 (b:=LL) gF (Nat.le_trans g1 (Nat.le_max_left _ (s+(l.length*u+1)))) (Nat.le_trans g2 (Nat.le_max_right (s+l.length*(u+1)+u) _))
   refine Nat.le_trans this ?_
   rw [e',e'']
   omega
  ·have:=cG (b:=LL) gF h2 hd
   rw [e]
   exact Nat.le_trans this (by omega)
theorem ZS{x:List Int}{n d:Int}{s k u:Nat}(hx:Bd LL s k x)(hn:sz LL n≤u)(hd:sz LL d≤u)(hu:1≤u)(hk:k<1099511627776)(hB:s+k*(u+1)+u<500000000000):aF env.P 167 [Po x,I n,I d] (I (hm n d x).1)∧Sz (hm n d x).1:=by
 have hl:=hx.len
 have hO:=xL 1 (by decide) (by decide)
 have bd:=fun i=>adK (s:=s) (k:=k) (x:=x.drop i) hn hd hu ⟨by simp;omega,fun c hc=>hx.sz c (List.mem_of_mem_drop hc)⟩
 have hle:∀i,(x.drop i).length*(u+1)≤k*(u+1):=fun i=>Nat.mul_le_mul_right _ (by simp;omega)
 have adB:∀i,(x.drop i).length*u≤(x.drop i).length*(u+1):=fun i=>Nat.mul_le_mul_left _ (by omega)
 have step:∀i,i<x.length→hm n d (x.drop i)=((hm n d (x.drop (i+1))).1*n+nth x i*(hm n d (x.drop (i+1))).2,(hm n d (x.drop (i+1))).2*d):=fun i hi=>by
  rw [List.drop_eq_getElem_cons hi,cB hi];rfl
 have adC:hm n d (x.drop x.length)=(0,1):=by rw [List.drop_length];rfl
 have h0:hm n d (x.drop 0)=hm n d x:=rfl
 have hz:Sz (hm n d x).1:=by have:=(bd 0).1;have:=hle 0;rw [h0]at *;show _<_;omega
 refine⟨?_,hz⟩
 have M:∀i,i<x.length→aF env.P 66 [I (hm n d (x.drop (i+1))).1,I n] (I ((hm n d (x.drop (i+1))).1*n))∧aF env.P 66 [I (nth x i),I (hm n d (x.drop (i+1))).2] (I (nth x i*(hm n d (x.drop (i+1))).2)) ∧
   aF env.P 65 [I ((hm n d (x.drop (i+1))).1*n),I (nth x i*(hm n d (x.drop (i+1))).2)] (I (hm n d (x.drop i)).1)∧aF env.P 66 [I (hm n d (x.drop (i+1))).2,I d] (I (hm n d (x.drop i)).2):=fun i hi=>by
  obtain⟨b1,b2⟩:=bd (i+1)
  have l1:=hle (i+1)
  have l2:=adB (i+1)
  have ha:=hx.sz _ (b7 hi)
  have g1:=cG (b:=LL) gF b1 hn
  have g2:=cG (b:=LL) gF ha b2
  have zz:∀ {v:Int},sz LL v<1099511627776→Sz v:=fun h=>h
  have e:=step i hi
  rw [e]
  exact⟨vQ (zz (by omega)) (zz (by omega)),vQ (zz (by omega)) (zz (by omega)),UN (zz (by omega)) (zz (by omega)),vQ (zz (by omega)) (zz (by omega))⟩
 clear bd hle adB step hz
 generalize hm n d x=r0 at *
 refine cD [(0,Po x),(1,I n),(2,I d)] Tryz.func167 ?_
 refine aA [0,4,5,6] ?_
 refine aA [0,4,5,6,7] ?_
 refine aR [0,4,5,6,7,8] hO ?_
 refine aP [0,4,5,6,7,8,9] ?_
 refine W.row (id:=7) (els:=[[.bool false, .nil]]) [[.bool (decide ((0:Int)<0)),us (aU LL (0:Int).natAbs)]] (by simp;first | exact⟨rfl,rfl,rfl⟩ | exact⟨rfl,rfl⟩ | rfl) ⟨⟨.inl rfl, .inr ⟨rfl,rfl⟩,trivial⟩,trivial⟩ ?_
 refine W.block ?_
 refine W.bE (fun k σ=>∃(v4 v5 v6 v7 v8 e4 e5 e6 e7 e8:Nat) (rows:Pm.Rows) (clk:Nat),σ=⟨fa [(0,Po x),(4, .ptr 4 v4 0 0),(5, .ptr 5 v5 0 0),(6, .ptr 6 v6 0 0),(7, .ptr 7 v7 0 0),(8, .ptr 8 v8 0 0),(9, .int .i64 ((k:Int)-1))],rows,clk⟩∧k≤x.length ∧
  rows 4=some ⟨v4,e4,2,[[.bool (decide (n<0)),us (aU LL n.natAbs)]]⟩∧rows 5=some ⟨v5,e5,2,[[.bool (decide (d<0)),us (aU LL d.natAbs)]]⟩∧rows 6=some ⟨v6,e6,2,[[.bool false, .nil]]⟩ ∧
  rows 7=some ⟨v7,e7,2,[[.bool (decide ((hm n d (x.drop k)).1<0)),us (aU LL (hm n d (x.drop k)).1.natAbs)]]⟩ ∧
  rows 8=some ⟨v8,e8,2,[[.bool (decide ((hm n d (x.drop k)).2<0)),us (aU LL (hm n d (x.drop k)).2.natAbs)]]⟩) x.length ?_ ?_
 ·exact⟨_, .refl,_,_,_,_,_,_,_,_,_,_,_,_,rfl,Nat.le_refl _,by simp;(first | exact⟨rfl,rfl⟩ | rfl),by simp;(first | exact⟨rfl,rfl⟩ | rfl),by simp;(first | exact⟨rfl,rfl⟩ | rfl),by rw [adC];simp;(first | exact⟨rfl,rfl⟩ | rfl),by rw [adC];simp;(first | exact⟨rfl,rfl⟩ | rfl)⟩
 rintro k _ ⟨v4,v5,v6,v7,v8,e4,e5,e6,e7,e8,rows,clk,rfl,hkl,dS,eB,pH,hr7,qH⟩
 refine aP [0,4,5,6,7,8,9,15] ?_
 refine bJ ?_ ?_<;>intro h
 ·have xC:0<k:=by simp at h;omega
  obtain⟨k,rfl⟩:∃j,k=j+1:=⟨k-1,by omega⟩
  obtain⟨m1,m2,m3,m4⟩:=M k (by omega)
  generalize hm n d (x.drop (k+1))=A at *
  have e1:(((k+1:Nat):Int)-1).toNat=k:=by omega
  refine kY ?_
  refine W.sd ?_
  simp (disch:=omega) [gw,dS,hr7]
  refine aC m1 ?_
  simp (disch:=omega) [gw,qH]
  refine cU m2 ?_
  refine aC m3 ?_
  simp (disch:=omega) [gw,hr7]
  (try (refine bC (of_decide_eq_true (by kernel_rfl)) ?_));(try simp (maxSteps:=4000000) (disch:=omega) [gw,hr7]);(repeat rw [if_pos (by kernel_rfl)]);(try simp (maxSteps:=4000000) (disch:=omega) [gw,hr7])
  refine bG [0,4,5,6,7,8,9] ?_
  refine W.cA (fun K hK=>?_)
  simp (disch:=omega) [gw,qH,eB]
  refine aC m4 ?_
  simp (disch:=omega) [gw,qH]
  refine W.lw [0,4,5,6,7,8,9] hK ?_;clear hK K;simp
  refine W.cA (fun K hK=>?_);simp (disch:=omega) [gw]
  refine hK _ ⟨k,_,aB _ [0,4,5,6,7,8,9],by omega,v4,v5,v6,v7,v8,_,_,_,_,_,_,_,rfl,by omega,by simp [dS];exact rfl,by simp [eB];exact rfl,by simp [pH];exact rfl,by simp;exact rfl,by simp;exact rfl⟩
 ·have xC:k=0:=by simp at h;omega
  subst xC
  rw [h0]at hr7
  refine fH ?_
  refine W.sr ?_
  simp (disch:=omega) [gw,hr7,pH]
  refine bG [6] ?_
  exact cC
theorem xF(v:Int):dH v 0=v.sign:=by
 rcases Int.lt_trichotomy v 0 with h | h | h
 ·rw [Int.sign_eq_neg_one_of_neg h,mJ h]
 ·subst h;decide
 ·rw [Int.sign_eq_one_of_pos h,mK h]
theorem GX{x:List Int}{n d:Int}{s k u:Nat}(hx:Bd LL s k x)(cx:Cn x)(hn:sz LL n≤u)(hd:sz LL d≤u)(hu:1≤u)(hk:k<1099511627774)(hu2:u<500000000000)(hB:s+k*(u+1)+u<500000000000){q:Rat}(hq:dM n d=q)(sq:sz LL q.num≤u∧sz LL (q.den:Int)≤u):aF env.P 87 [Po x,T2 n d] (.int .i64 (JE x q.num q.den)):=by
 have p1:=ZO (n:=n) (d:=d) (Nat.lt_of_le_of_lt hn (by omega)) (Nat.lt_of_le_of_lt hd (by omega))
 rw [hq]at p1
 have n1:=fE (x:=x) (PB.of hx (by omega) (by omega))
 rw [show aQ x=x from cx]at n1
 obtain⟨hV,hz⟩:=ZS hx sq.1 sq.2 hu (by omega) hB
 have c1:=acu (x:=(hm q.num q.den x).1) (y:=0) hz (show sz LL 0<_ by decide)
 rw [xF,show(hm q.num q.den x).1.sign=JE x q.num q.den from rfl]at c1
 replace p1:aF env.P 166 [T2 n d] (T2 q.num q.den):=p1
 generalize JE x q.num q.den=r at *
 generalize (hm q.num q.den x).1=v at *
 generalize q.num=qn at *
 generalize (q.den:Int)=qd at *
 refine cD [(0,Po x),(1,T2 n d)] Tryz.func87 ?_
 refine aA [0,3] ?_
 refine aR [0,3] p1 ?_
 refine nK ?_
 refine cU n1 ?_
 refine cU hV ?_
 refine cQ [4] c1 ?_
 exact cC
@[simp] theorem afV{l:List PV}:dB (.rd l)=true:=rfl
@[simp] theorem abY{l:List PV}:bI (.rd l)=true:=rfl
@[simp] theorem afW{l:List PV}:aT (.rd l) = []:=rfl
@[simp] theorem awq{l:List PV}:dQ (.rd l) = []:=rfl
@[simp] theorem aCr{rows:Pm.Rows}{l:List PV}:fz rows (.rd l) = .rd l:=rfl
@[simp] theorem aCs{rows:Pm.Rows}{l:List PV}:pz rows (.rd l) = .rd l:=rfl
theorem ZT(v:Int):aF env.P 258 [I v] (.int .i64 v.sign):=by
 have h1:=acS (decide (v<0)) (aU LL v.natAbs)
 have e:(if (aU LL v.natAbs).length=0 then 0 else if decide (v<0)=true then -1 else 1:Int)=v.sign:=by
  by_cases h:v=0
  ·subst h;decide
  ·have:aU LL v.natAbs ≠ []:=fun h2=>h (by have:=kH gF v.natAbs;rw [h2]at this;simp [V]at this;omega)
   have h3:=List.length_pos_iff.2 this
   rw [if_neg (by omega)]
   rcases Int.lt_trichotomy v 0 with h4 | h4 | h4
   ·rw [if_pos (by simpa using h4),Int.sign_eq_neg_one_of_neg h4]
   ·exact absurd h4 h
   ·rw [if_neg (by simp;omega),Int.sign_eq_one_of_pos h4]
 rw [e]at h1;exact h1
theorem GY{x:List Int}(hx:PB x)(cx:Cn x):aF env.P 221 [Po x] (.dU [.int .i64 (eL x), .int .i64 (eR x)]):=by
 have n1:=fE hx
 rw [show aQ x=x from cx]at n1
 have l1:=lI hx cx
 have hS:=ZT (lead x)
 have hl:x.length<1099511627776:=by have:=hx.EV.len;simpa using this
 have hL:eL x=if x.length%2=0 then -(lead x).sign else(lead x).sign:=rfl
 have hR:eR x=(lead x).sign:=rfl
 have hs : -1≤(lead x).sign∧(lead x).sign≤1:=by
  rcases Int.lt_trichotomy (lead x) 0 with h | h | h
  ·rw [Int.sign_eq_neg_one_of_neg h];decide
  ·rw [h];decide
  ·rw [Int.sign_eq_one_of_pos h];decide
 generalize (lead x).sign=s at *
 generalize lead x=lx at *
 generalize eL x=a at *
 generalize eR x=b at *
 refine cD [(0,Po x)] Tryz.func221 ?_
 refine aA [0] ?_
 refine aR [0] n1 ?_
 refine jG ?_
 refine cU l1 ?_
 refine cQ [0,3] hS ?_
 refine W.seq ?_
 refine W.fA (fun σ=>∃(q:Bool) (rows:Pm.Rows) (clk:Nat),σ=⟨fa [(3, .int .i64 s),(12, .bool q)],rows,clk⟩∧q=decide (x.length%2=0)) (fun K hK=>?_) ?_
 ·simp (disch:=omega) [gw]
  exact hK _ _ (aB _ [3,12]) ⟨_,_,_,rfl,by rw [Bool.eq_iff_iff];simp;omega⟩
 rintro _ ⟨q,rows,clk,rfl,rfl⟩
 refine bJ ?_ ?_<;>intro h
 ·rw [if_pos (of_decide_eq_true h)]at hL
  subst hL hR
  refine aA [2,3] ?_
  exact cC
 ·rw [if_neg (of_decide_eq_false h)]at hL
  subst hL hR
  refine W.skip ?_
  refine aA [2,3] ?_
  exact cC
theorem SM{x:List Int}(hx:PB x)(cx:Cn x):aF env.P 220 [Po x] (.int .i64 (eL x)):=by
 have h1:=GY hx cx
 generalize eL x=a at *
 generalize eR x=b at *
 refine cD [(0,Po x)] Tryz.func220 ?_
 refine aA [0] ?_
 refine aR [3] h1 ?_
 refine aA [2] ?_
 exact cC
theorem ZU{x:List Int}(hx:PB x)(cx:Cn x):aF env.P 222 [Po x] (.int .i64 (eR x)):=by
 have h1:=GY hx cx
 generalize eL x=a at *
 generalize eR x=b at *
 refine cD [(0,Po x)] Tryz.func222 ?_
 refine aA [0] ?_
 refine aR [4] h1 ?_
 refine aA [2] ?_
 exact cC
theorem anV(v:Int):v.sign = -1∨v.sign=0∨v.sign=1:=by
 rcases Int.lt_trichotomy v 0 with h | h | h
 ·exact .inl (Int.sign_eq_neg_one_of_neg h)
 ·rw [h];exact .inr (.inl rfl)
 ·exact .inr (.inr (Int.sign_eq_one_of_pos h))
theorem eL3(x:List Int):eL x = -1∨eL x=0∨eL x=1:=by
 have:=anV (lead x)
 unfold eL;split<;>omega
theorem SN{c:List ZX}(hl:c.length<1000000){n d:Int}{q:Rat}(hS:∀p∈c,aF env.P 87 [Po p.l,T2 n d] (.int .i64 (JE p.l q.num q.den))):aF env.P 168 [CH c,T2 n d] (.int .i64 (vr (oB c q.num q.den))):=by
 have hT1:∀p∈c,aF env.P 232 [Po p.l, .rd [.bool (decide (n<0)),us (aU LL n.natAbs), .bool (decide (d<0)),us (aU LL d.natAbs)]] (.int .i64 (JE p.l q.num q.den)):=fun p hp=>by
  have h1:=hS p hp
  generalize JE p.l q.num q.den=r at *
  generalize p.l=x at *
  refine cD [(0,Po x),(1, .rd [.bool (decide (n<0)),us (aU LL n.natAbs), .bool (decide (d<0)),us (aU LL d.natAbs)])] Tryz.func232 ?_
  refine aA [0,1] ?_
  refine aR [3] h1 ?_
  exact cC
 have h1:=uP 232 rfl [.rd [.bool (decide (n<0)),us (aU LL n.natAbs), .bool (decide (d<0)),us (aU LL d.natAbs)]] rfl c (fun p=>JE p.l q.num q.den) hl (fun p hp=>anV _) hT1
 rw [show c.map (fun p=>JE p.l q.num q.den)=oB c q.num q.den from rfl]at h1
 generalize vr (oB c q.num q.den)=r at *
 refine cD [(0,CH c),(1,T2 n d)] Tryz.func168 ?_
 refine aA [0,3] ?_
 refine aR [4] h1 ?_
 exact cC
theorem JI{c:List ZX}(hl:c.length<1000000){n d m e:Int}{p q:Rat}{z:Int}(hz:aF env.P 86 [T2 m e,T2 n d] (.int .i64 z))(h1:aF env.P 168 [CH c,T2 n d] (.int .i64 (vr (oB c p.num p.den))))(h2:aF env.P 168 [CH c,T2 m e] (.int .i64 (vr (oB c q.num q.den)))) :
  aF env.P 88 [CH c,T2 n d,T2 m e] (.int .i64 (if z<0 then 0 else(vr (oB c p.num p.den):Int)-vr (oB c q.num q.den))):=by
 have v1:=DK (oB c p.num p.den)
 have v2:=DK (oB c q.num q.den)
 have l1:(oB c p.num p.den).length=c.length:=by simp [oB]
 have l2:(oB c q.num q.den).length=c.length:=by simp [oB]
 generalize vr (oB c p.num p.den)=a at *
 generalize vr (oB c q.num q.den)=b at *
 refine cD [(0,CH c),(1,T2 n d),(2,T2 m e)] Tryz.func88 ?_
 refine aA [0,4,5] ?_
 refine W.seq ?_
 refine aR [0,4,5,10] hz ?_
 refine bJ ?_ ?_<;>intro h
 ·have h:z<0:=by simpa using h
  rw [if_pos h]
  refine aA [6] ?_
  exact cC
 ·have h:¬z<0:=by simpa using h
  rw [if_neg h]
  refine W.skip ?_
  refine nK ?_
  refine cU h1 ?_
  refine cQ [6] h2 ?_
  exact cC
section
variable {c:List ZX} (hl:c.length<1000000) (hb:∀p∈c,PB p.l)
include hl hb
theorem ZV:aF env.P 149 [CH c] (.int .i64 (vr (ZP c))):=by
 have h1:=uP 220 rfl [] rfl c (fun p=>eL p.l) hl (fun p hp=>eL3 p.l) (fun p hp=>SM (hb p hp) p.c)
 rw [show c.map (fun p=>eL p.l)=ZP c from rfl]at h1
 generalize vr (ZP c)=r at *
 refine cD [(0,CH c)] Tryz.func149 ?_
 refine aA [0] ?_
 refine aR [2] h1 ?_
 exact cC
theorem adL:aF env.P 150 [CH c] (.int .i64 (vr (ZQ c))):=by
 have h1:=uP 222 rfl [] rfl c (fun p=>eR p.l) hl (fun p hp=>anV _) (fun p hp=>ZU (hb p hp) p.c)
 rw [show c.map (fun p=>eR p.l)=ZQ c from rfl]at h1
 generalize vr (ZQ c)=r at *
 refine cD [(0,CH c)] Tryz.func150 ?_
 refine aA [0] ?_
 refine aR [2] h1 ?_
 exact cC
theorem SO:aF env.P 74 [CH c] (.int .i64 ((vr (ZP c):Int)-vr (ZQ c))):=by
 have h1:=ZV hl hb
 have h2:=adL hl hb
 have v1:=DK (ZP c)
 have v2:=DK (ZQ c)
 have l1:(ZP c).length=c.length:=by simp [ZP]
 have l2:(ZQ c).length=c.length:=by simp [ZQ]
 generalize vr (ZP c)=a at *
 generalize vr (ZQ c)=b at *
 refine cD [(0,CH c)] Tryz.func74 ?_
 refine aA [0] ?_
 refine jG ?_
 refine cU h1 ?_
 refine cQ [2] h2 ?_
 exact cC
end
theorem DL{a:ZX}(ha:a≠0):Nf (sq a)∧dv (sq a) (nf a):=by
 have nA:=jB ha
 unfold sq
 split
 ·exact⟨nA,dv.refl _⟩
 ·exact⟨(gH nA 0).1,AF nA 0⟩
theorem qL.sqb{s n:Nat}{a:ZX}(h:qL s n a)(ha:a≠0):BZ (qb s n) n (sq a):=h.nfz.dv (jB ha) (DL ha).1 (DL ha).2
theorem qL.ch{s n:Nat}{a:ZX}(h:qL s n a)(ha:a≠0)(AG:1≤n):Ch (qb s n) n (sq a):=⟨h.sqb ha,h.hn,AG,Nat.le_trans (Nat.mul_le_mul_right _ (by omega)) h.hC⟩
theorem DM{s n:Nat}{a:ZX}(h:qL s n a)(ha:a≠0)(AG:1≤n)(h1:1≤s):aF env.P 81 [PI a.l] (aN zq (bK (sq a))):=
 zF (wD h h1) (h.ch ha AG) (by unfold qb;omega)
abbrev AP(x:List Int)(c:List ZX)(n d:Int):PV:=.ag [PI x,aN zq c,aN aI (aU DD n.natAbs), .bool (decide (n<0)),aN aI (aU DD d.natAbs), .bool (decide (d<0)),aN aI (aU DD n.natAbs), .bool (decide (n<0)),aN aI (aU DD d.natAbs), .bool (decide (d<0))]
theorem nI{v:Int}{k:Nat}(h:v.natAbs<2^k):sz 2 v≤k:=dW (by decide) h
theorem E3{n d:Int}(hn:n.natAbs<65536)(hd:d.natAbs<65536)(h0:d≠0){x:ZX}(hx:x.l = [-n,d]):aF env.P 41 [R2 n d] (AP [-n,d] (bK (sq x)) n d):=by
 have bz:BZ 16 2 x:=⟨by rw [hx];simp,fun c hc=>by
  rw [hx]at hc
  simp only [List.mem_cons,List.not_mem_nil,or_false]at hc
  rcases hc with rfl | rfl
  ·exact nI (by rw [Int.natAbs_neg];exact hn)
  ·exact nI hd⟩
 have hL:qL 16 2 x:=⟨bz,by decide,by decide,by decide⟩
 have hc:=DM hL (ZX.aE.2 (by show 0<x.l.length;rw [hx];simp)) (by decide) (by decide)
 rw [hx]at hc
 generalize bK (sq x)=C at *
 have zs:∀ {v:Int},v.natAbs<65536→sz 2 v≤16:=fun h=>nI h
 have hO:=nZ 1 (by decide) (by decide)
 have m1:=kN n 1 (by have:=zs hn;simp only [Y];omega) (by decide)
 have m2:=kN d 1 (by have:=zs hd;simp only [Y];omega) (by decide)
 have hng:=MN (n:Rat)
 rw [lS]at m1 m2
 rw [show -((n:Int):Rat)=((-n:Int):Rat)by simp]at hng
 rw [show RR ((n:Int):Rat) = .ag (ri n)from congrArg PV.ag (iH n)]at m1 hng
 rw [show RR ((d:Int):Rat) = .ag (ri d)from congrArg PV.ag (iH d)]at m2
 rw [show RR ((-n:Int):Rat) = .ag (ri (-n))from congrArg PV.ag (iH (-n))]at hng
 have e1:PI [-n,d] = .sl [ri (-n),ri d]:=rfl
 rw [e1]at hc
 unfold AP
 rw [e1]
 clear e1 hL bz hx x
 generalize -n=m at *
 simp only [anb,ahA]at *
 refine cD [(0,R2 n d)] Tryz.func41 ?_
 refine aA [1,2] ?_
 refine W.sd ?_
 simp (maxSteps:=4000000) (disch:=omega) [gw]
 refine aC hO ?_
 simp (maxSteps:=4000000) (disch:=omega) [gw]
 refine aC m1 ?_
 simp (maxSteps:=4000000) (disch:=omega) [gw]
 refine aC hng ?_
 simp (maxSteps:=4000000) (disch:=omega) [gw]
 refine aC hO ?_
 simp (maxSteps:=4000000) (disch:=omega) [gw]
 refine aC m2 ?_
 simp (maxSteps:=4000000) (disch:=omega) [gw]
 refine bG [1,2,3] ?_
 refine W.sd ?_
 simp (maxSteps:=4000000) (disch:=omega) [gw]
 refine aC hc ?_
 simp (maxSteps:=4000000) (disch:=omega) [gw]
 try (refine bC (by kernel_rfl) ?_)
 try simp (maxSteps:=4000000) (disch:=omega) [gw]
 refine bG [2] ?_
 exact cC
def sml(n d:Int):Rat:=dM (n%61-30) (1+d%6)
theorem ZW(n d:Int)(hn : -9223372036854775808≤n∧n<9223372036854775808)(hd : -9223372036854775808≤d∧d<9223372036854775808):aF env.P 25 [.int .i64 n, .int .i64 d] (RR (sml n d)):=by
 have w1:=CT n 61 hn (by decide) (by decide)
 have w2:=CT d 6 hd (by decide) (by decide)
 have h1:=Int.emod_nonneg n (show (61:Int)≠0 by decide)
 have h2:=Int.emod_lt_of_pos n (show (0:Int)<61 by decide)
 have h3:=Int.emod_nonneg d (show (6:Int)≠0 by decide)
 have h4:=Int.emod_lt_of_pos d (show (0:Int)<6 by decide)
 have o1:=n3 (n%61-30) (1+d%6) (by omega) (by omega)
 have e:dM (n%61-30) (1+d%6)=sml n d:=rfl
 rw [e]at o1
 generalize sml n d=q at *
 generalize n%61=a at *
 generalize d%6=b at *
 rw [gR]at *
 generalize q.num=qn at *
 generalize (q.den:Int)=qd at *
 refine cD [(0, .int .i64 n),(1, .int .i64 d)] Tryz.func25 ?_
 refine aA [0,1,4] ?_
 refine jG ?_
 refine cU w1 ?_
 refine cU w2 ?_
 refine cQ [4] o1 ?_
 exact cC
end Go.Proofs.YtiobceocpabjdaaGreat
namespace Pm
open Go Go.RowKit
def ZY(E:Env)(o:Oper)(K:PS→Prop)(σ:PS):Prop:=
 match o.op with
 | .build t ⟨[(0,x)]⟩=>E.ty t = .struct [(0,1,false)] (E.ty t).zero∧(E.ty t).zero.length=1∧cE (aO σ.f x)=some [aO σ.f x]∧iM σ.rows (aO σ.f x)∧K (σ.put o.dst (.ag [aO σ.f x]))
 | _=>False
section
variable {E:Env} {w0:World} {S0:dX} {m:Nat} {G:Gs}
theorem SP{o:Oper}{a:Act}{w:World}{σ:PS}{K:PS→Prop}(h:ZY E o K σ)(hR:Rel w0 S0 m G σ a w)(hd:∀t,o.dst=some t→t<m)
  {K':Act→World→Prop} {Q:Exit→Act→World→Prop} (hK:∀σ' a' w',K σ'→Rel w0 S0 m G σ' a' w'→K' a' w'):o.wp E.P a w K' Q:=by
 obtain⟨⟨c,rfl,hr,gC,hI,hf,hG⟩,hn,fL⟩:=hR
 have hρ:=mH hf
 obtain⟨dst,op,type,pos,after,guard⟩:=o
 simp only at hd
 unfold ZY at h
 simp only at h
 split at h
 ·rename_i t x
  obtain⟨hE,HL,hc,ho,hk⟩:=h
  rw [←hr]at ho
  obtain⟨g1,g2⟩:=mW (hρ x) hc (fun q hq=>by simp at hq;subst hq;exact ho)
  have ht:=E.ok t
  rw [hE]at ht
  obtain⟨⟨fields,hu,ha⟩,hz⟩:=ht
  obtain⟨i,zv,hi,hzv,_,PQ,_⟩:=hz.ok
  have D4:zv.cells.size=1:=by
   have:(zv.cells.toList.map jJ).length=1:=by rw [PQ];exact HL
   simpa using this
  have A3:(a.eval x).cells.size=1:=by have:=g1.length;simpa using this.symm
  have E8:=pJ 0 (a.eval x).cells.toList 0 zv.cells (by simp;omega)
  have hl:((a.eval x).cells.toList.zipIdx 0).foldl (fun cs (x:Value × Nat)=>cs.setIfInBounds (0+x.2) x.1) zv.cells=(a.eval x).cells:=by
   apply Array.toList_inj.1
   rw [E8]
   have h1:(a.eval x).cells.toList.length=1:=by simpa using A3
   have h2:zv.cells.toList.length=1:=by simpa using D4
   rw [h1]
   simp [List.drop_of_length_le,h2]
  have iU:(execOp a.eval { dst:=dst,op:=.build t ⟨[(0,x)]⟩,type:=type,pos:=pos,after:=after,guard:=guard }).run E.P c.w = .ok (.value (.agg (a.eval x).cells)) c.w:=by
   have ake:Instr.fill (fun x=>(([(0,1,false)]:List (Nat × Nat × Bool)).toArray.map fun x=>(x.1,x.2.1))[x]?) zv.cells [(0,a.eval x)]=some (a.eval x).cells:=by
    have hpl:(([(0,1,false)]:List (Nat × Nat × Bool)).toArray.map fun x=>(x.1,x.2.1))[0]? = some (0,1):=by simp
    simp only [Instr.fill,hpl]
    rw [if_neg (by simp [A3,D4])]
    have hz3:(a.eval x).cells.toList.zipIdx=(a.eval x).cells.zipIdx.toList:=by simp
    have h5:(a.eval x).cells.zipIdx.foldl (fun cs (x:Value × Nat)=>cs.setIfInBounds (0+x.2) x.1) zv.cells=(a.eval x).cells:=by
     rw [←Array.foldl_toList,←hz3];exact hl
    simp only [h5]
   simp only [execOp,Instr.build,zeroValue,typeInfo,program,Sem.run_bind,Sem.run,hi,hzv,Sem.run_pure,Result.andThen_ok,run_underlying hu,run_places ha]
   simp at ake
   simp [ake]
  unfold Oper.wp
  rw [iU]
  refine hK _ _ _ hk ?_
  exact r7 hf hG hn fL (sX.refl c) hI (show aG c (.ag [aO σ.f x]) (.agg (a.eval x).cells)from⟨(a.eval x).cells.toList,by simp,g1⟩) hd rfl (by simp [PS.put,hr]) gC
 ·exact h.elim
end
theorem W.anW{E:Env}{n:Nat}{tl:Nat→Nat}{Q:PX→PS→Prop}{σ:PS}{id:Nat}{ops:List Oper}{y:Code}(i:Nat){o o2:Oper}(ho:ops=ops.take i++o::o2::ops.drop (i+2))(hg:o.guard=none)(qT:o2.guard=none)
  (h:∀K:PS→Prop,(∀σ,W E n tl y Q σ→K σ)→go (aL E ops (ops.take i) (fun σ=>EY E o (fun σ=>ZY E o2 (aL E ops (ops.drop (i+2)) K) σ) σ) σ)):W E n tl (.seq (.region id ops.toArray false) y) Q σ:=by
 refine W.seq ?_
 intro gO w0 S0 G a w Q' hR hQ
 simp only [eV,qW,Bool.and_eq_true]at gO
 have hd:∀o∈ops,∀t,o.dst=some t→t<n:=fun o ho t ht=>by
  have:=Array.all_eq_true_iff_forall_mem.1 gO.1 o (by simpa using ho)
  simpa [ht]using this
 refine wp_region_list ?_
 show wpList E.P ops.toArray Q' ops a w
 have h1:=h (fun σ=>W E n tl y Q σ) fun _ h=>h
 have oW:o∈ops:=by rw [ho];simp
 have auo:o2∈ops:=by rw [ho];simp
 have:=n7 (E:=E) (w0:=w0) (S0:=S0) (m:=n) (G:=G) (ops:=ops.toArray) (Q:=Q') (l2:=o::o2::ops.drop (i+2)) (K:=fun σ=>EY E o (fun σ=>ZY E o2 (aL E ops (ops.drop (i+2)) (fun σ=>W E n tl y Q σ)) σ) σ) (fun σ' a' w' hl k8=>by
  unfold wpList
  rw [if_pos (by simp [Region.wanted,hg])]
  refine .inl (uK hl k8 (hd o oW) fun σ2 a2 w2 hk hR2=>?_)
  unfold wpList
  rw [if_pos (by simp [Region.wanted,qT])]
  refine .inl (SP hk hR2 (hd o2 auo) fun σ3 a3 w3 hk3 hR3=>?_)
  exact iC (E:=E) (ops:=ops.toArray) (fun σ4 a4 w4 hk4 hR4=>hQ .normal σ4 a4 w4 hk4 hR4) _ σ3 a3 w3 (fun o ho=>hd o (List.mem_of_mem_drop ho)) hk3 hR3) (ops.take i) σ a w (fun o ho=>hd o (List.mem_of_mem_take ho)) h1 hR
 rwa [←ho]at this
@[simp] theorem awr{E:Env}{K:PS→Prop}{f:Nat→PV}{rows:Rows}{clk:Nat}{d:Option Tmp}{ty:TypeId}{pos:String}{af:Array Edge}{t:TypeId}{x:Operand} :
  ZY E ⟨d, .build t ⟨[(0,x)]⟩,ty,pos,af,none⟩ K ⟨f,rows,clk⟩=aH (E.ty t = .struct [(0,1,false)] (E.ty t).zero∧(E.ty t).zero.length=1) (fY (cE (aO f x)) fun l=>aH (l = [aO f x]∧iD rows [aO f x]) (K ⟨put f d (.ag [aO f x]),rows,clk⟩)):=by
 simp only [ZY,aH,fY,iD,PS.put]
 apply propext
 constructor
 ·rintro⟨h1,h2,h3,h4,h5⟩;exact⟨⟨h1,h2⟩,_,h3,⟨rfl,by simpa using h4⟩,h5⟩
 ·rintro⟨⟨h1,h2⟩,l,h3,⟨rfl,h4⟩,h5⟩;exact⟨h1,h2,h3,by simpa using h4,h5⟩
end Pm
namespace Go.Proofs.YtiobceocpabjdaaGreat
open Go Pm
theorem BZ.z{h n:Nat}{a:ZX}(b:BZ h n a)(hh:h<1099511627776):∀c∈a.l,Z c:=fun c hc=>Nat.lt_of_le_of_lt (b.sz c hc) hh
theorem VX{h n:Nat}{a:ZX}(b:BZ h n a)(hh:h<1099511627776)(hn:n<1099511627776):aF env.P 100 [PI a.l] (Po a.l):=U5 a.l (b.z hh) (Nat.lt_of_le_of_lt b.len hn)
theorem aup{a b:ZX}(ha:a≠0)(hb:Nf b)(h:∀p,ZX.oL p→ZX.mu p b=min (ZX.mu p a) 1):sq a=b:=by
 have nA:=jB ha
 have e:sq a=sz' (nf a):=by
  unfold sq
  split
  ·rename_i h2
   have h3:nf a=1:=nA.N1 (by rw [xT];exact h2)
   rw [h3]
   show 1=wz 1 0
   rw [wz]
   show 1=qz 1 (gd 1)
   rw [adp,Nf.one.self]
  ·rfl
 rw [e]
 exact Nf.rV (adr nA) hb fun p hp=>by rw [ads nA hp,VH hp ha,h p hp]
end Go.Proofs.YtiobceocpabjdaaGreat
namespace Go.Proofs.YtiobceocpabjdaaGreat
open Go Pm
open ZX hiding N W
theorem VY{a:ZX}(h:2≤ZX.N a):nth (bT a).l (ZX.N a-2)=lead a.l*((ZX.N a-1:Nat):Int):=by
 have h1:a.l.length=ZX.N a:=rfl
 have h2:nth (bT a).l (ZX.N a-2)=nth a.l (ZX.N a-1)*((ZX.N a-1:Nat):Int):=by
  show nth (aQ (xR a.l)) _=_
  rw [i6,xR,cB (by simp;omega)]
  simp only [List.getElem_map,List.getElem_range]
  rw [show ZX.N a-2+1=ZX.N a-1 by omega]
 rw [h2,lead,h1]
theorem adM{a:ZX}(h:2≤ZX.N a):ZX.N (bT a)=ZX.N a-1:=by
 have h1:=n5 a
 have h2:=VY h
 have hl:=dA a.c (show 0<a.l.length from by have:a.l.length=ZX.N a:=rfl;omega)
 have h3:nth (bT a).l (ZX.N a-2)≠0:=by rw [h2];exact Int.mul_ne_zero hl (by omega)
 rcases Nat.lt_or_ge (ZX.N a-2) (bT a).l.length with h4 | h4
 ·have:ZX.N (bT a)=(bT a).l.length:=rfl
  omega
 ·exact absurd (iF h4) h3
theorem adN{a:ZX}(h:2≤ZX.N a):lead (bT a).l=lead a.l*((ZX.N a-1:Nat):Int):=by
 rw [←VY h,lead,show(bT a).l.length=ZX.N (bT a)from rfl,adM h,show ZX.N a-1-1=ZX.N a-2 by omega]
theorem ZZ{a:ZX}(h:ZX.N a≤1):bT a=0:=by
 refine Classical.byContradiction fun h0=>?_
 have h1:=ZX.aE.1 h0
 have:=n5 a
 omega
theorem ahJ{f:ZX}(hf:Nf f):rQ (bT f).l=(qD (bT f)).l:=by
 have h:¬lead (bT f).l<0:=by
  rcases Nat.lt_or_ge (ZX.N f) 2 with h2 | h2
  ·rw [ZZ (by omega)];decide
  ·rw [adN h2]
   have:=Int.mul_nonneg (Int.le_of_lt hf.l) (show (0:Int)≤((ZX.N f-1:Nat):Int)by omega)
   omega
 show _=j6 (bT f).l
 rw [NG,if_neg h]
theorem JJ{α:Type}{g:α→List PV}{l:List α}{s n:Nat}{f:ZX}(hS:aF env.P 70 [aN g l] (Po f.l))(h:Ch s n f)(hf:Nf f):aF env.P 69 [aN g l] (.dU [CH (bK f), .int .i64 0]):=by
 have hn:=h.hn
 have hp:=h.pot
 have hs:=hp.le
 have bd:BZ (s+5) n (bT f):=h.bz.bT (by omega)
 have d1:=pY h.bz (by omega) (by omega)
 have d2:=tO ((bT f).l.map s5) (bd.EV (by omega) (by omega)) (s:=s+5) (n:=n) (by rw [cI];exact NY bd) (by omega) (by omega)
 rw [zD,←i7,ahJ hf]at d2
 have b2:BZ (s+5) n (qD (bT f)):=jC bd
 have b1:BZ (s+5) n f:=h.bz.mono (by omega) (Nat.le_refl _)
 have D5:ZX.N (qD (bT f))≤ZX.N f:=Nat.le_trans (l7 _) (Nat.le_trans (n5 f) (by omega))
 have hc:bK f=f::uL (ZX.N f) f (qD (bT f)):=rfl
 rw [DI D5 (Nat.le_refl _)]at hc
 have hf0:f.l.length≠0:=by have:=ZX.aE.1 hf.ne;exact Nat.pos_iff_ne_zero.1 this
 have hf1:¬f.l = []:=fun h0=>hf0 (by rw [h0];rfl)
 generalize hC:bK f=C at *
 generalize qD (bT f)=g0 at *
 generalize lL (bT f).l=pc at *
 generalize (bT f).l=dl at *
 refine cD [(0,aN g l)] Tryz.func69 ?_
 refine aA [0] ?_
 refine aR [4] hS ?_
 refine aP [4,14] ?_
 refine bJ ?_ ?_<;>intro h
 ·simp at h;exact absurd h hf1
 refine W.skip ?_
 refine W.anW 1 rfl rfl rfl (fun K hK=>?_)
 simp (disch:=omega) [gw]
 refine W.lw [4,5] hK ?_;clear hK K;simp
 refine jG ?_
 refine cU d1 ?_
 refine cQ [4,5,7] d2 ?_
 refine W.seq ?_
 refine W.block ?_
 refine W.bE (fun k σ=>∃(L:List ZX) (x y:ZX) (i ver v18 e18 s:Nat) (rows:Pm.Rows) (clk:Nat),σ=⟨fa [(4,Po x.l),(5, .ptr 18 v18 0 0),(7,Po y.l)],rows,clk⟩∧rows 16=some ⟨ver,24,1,emap zp L⟩∧rows 18=some ⟨v18,e18,1,[[.own 16 ver 0 (i+1)]]⟩∧L.length=i+1 ∧
  L++uL k x y=C∧k=ZX.N y∧BZ s n x∧BZ s n y∧zU 4500000000 n s x y∧i+ZX.N y≤20) (ZX.N g0) ?_ ?_
 ·exact⟨_, .refl,[f],f,g0,0,_,_,_,s+5,_,_,rfl,by simp [emap];(first | exact rfl | exact⟨rfl,rfl⟩),by simp;(first | exact rfl | exact⟨rfl,rfl⟩ | exact⟨rfl,rfl,rfl⟩),rfl,hc.symm,rfl,b1,b2,hp,by have:=b2.N;omega⟩
 rintro k _ ⟨L,x,y,i,ver,v18,e18,s,rows,clk,rfl,adO,anX,hL,hcc,rfl,bx,sP,hp,hiN⟩
 have hs:=hp.le
 have hlx:=bx.len
 have hly:=sP.len
 have hLl:(emap zp L).length=i+1:=by simp [emap,hL]
 refine aP [4,5,7,27] ?_
 refine bJ ?_ ?_<;>intro h
 ·have hy:y≠0:=ZX.aE.2 (by show 0<y.l.length;simp at h;omega)
  have hR:=ND (x.l.map s5) (y.l.map s5) (bx.EV (by omega) (by omega)) (sP.EV (by omega) (by omega)) (s:=s) (s':=s) (N:=n) (by rw [cI];exact NY bx) (by rw [cI];exact NY sP) (by
   have:n*(s+n+1)≤20*4500000000:=Nat.mul_le_mul hn hs
   omega)
  rw [zD,zD,if_neg (uI hy),←i7,←i7]at hR
  have br:=VT bx sP hy
  have aj9:(ZX.N x+1-ZX.N y)*(s+n+1)≤22*4500000000:=Nat.mul_le_mul (by have:ZX.N x=x.l.length:=rfl;omega) (by omega)
  have hrz:NB x.l y.l=(qD (rz x y)).l:=by
   obtain⟨XZ,hN,_⟩:=sS (a:=x) hy
   obtain⟨m,q,hm,e⟩:=adD y.c (ZX.aE.1 hy) (x.l.length+1) x.l x.c (by omega)
   rw [←XZ]at e
   exact adE x.c y.c (ZX.aE.1 hy) (rz x y).c hN hm e
  rw [hrz]at hR
  have hNg:=GB (x:=(qD (rz x y)).l) (PB.of (NY (jC br)) (by omega) (by omega))
  have e3:gW (qD (rz x y)).l=(nx x y).l:=rfl
  rw [e3]at hNg
  have D5:=ZL (a:=x) hy
  have D6:=hp.step D5
  have bn:=VU bx sP hy
  have hch:L ++ [y]++uL (ZX.N (nx x y)) y (nx x y)=C:=by
   rw [←hcc]
   obtain⟨j,hj⟩:∃j,ZX.N y=j+1:=⟨ZX.N y-1,by have:=ZX.aE.1 hy;have:ZX.N y=y.l.length:=rfl;omega⟩
   rw [hj,uL,if_neg (by omega),DI (k:=j) (j:=ZX.N (nx x y)) (by omega) (Nat.le_refl _)]
   simp
  generalize (qD (rz x y)).l=pl at *
  generalize hnx:nx x y=nn at *
  refine W.skip ?_
  refine W.block ?_
  refine W.sr ?_
  simp (disch:=omega) [gw,adO,anX,hLl]
  refine bG [4,5,7] ?_
  refine aR [5,7,8] hR ?_
  refine W.cA (fun K hK=>?_)
  simp (disch:=omega) [gw]
  refine cU hNg ?_
  refine hK _ ⟨ZX.N nn,_,aB _ [4,5,7],D5,L ++ [y],y,nn,i+1,_,v18,e18,_,_,_,rfl,by simp;first | exact rfl | skip,by simp;first | exact rfl | skip,by simp [hL],hch,rfl,sP.mono (by omega) (Nat.le_refl _),bn,D6,by omega⟩
 ·have hy:y=0:=by
   refine Classical.byContradiction fun h0=>?_
   have h1:=ZX.aE.1 h0
   have h2:ZX.N y=y.l.length:=rfl
   simp at h;rw [h2,h]at h1;simp at h1
  subst hy
  rw [kS,List.append_nil]at hcc
  subst hcc
  have wZ:List.take (i+1) L=L:=List.take_of_length_le (by omega)
  refine fH ?_
  refine W.UG 16 (by rw [adO];simp) (fun K hK=>?_)
  simp [adO]
  refine hK _ ?_
  have aur:EU rows 16 18=some ⟨v18,e18,1,[[aN zp L]]⟩:=by
   simp [anX,adO,hLl,wZ]
  clear adO anX
  generalize EU rows 16=vV at *
  refine aA [2,3] ?_
  refine W.ret ?_
  simp [go,aur]
theorem adP{n:Nat}(hn:n≤20):∀(j s:Nat) (x g:ZX),BZ s n x→BZ s n g→zU 4500000000 n s x g → ∀p∈uL j x g,BZ 4500000000 n p
 | 0,_,_,_,_,_,_,p,hp=>by cases hp
 | j+1,s,x,g,bx,bg,hP,p,hp=>by
  have hs:=hP.le
  rw [uL]at hp
  split at hp
  ·cases hp
  ·rename_i h0
   have h0':g≠0:=ZX.aE.2 (Nat.pos_of_ne_zero h0)
   rcases List.mem_cons.1 hp with rfl | hp
   ·exact bg.mono (by omega) (Nat.le_refl _)
   ·exact adP hn j _ g (nx x g) (bg.mono (by omega) (Nat.le_refl _)) (VU bx bg h0') (hP.step (ZL h0')) p hp
theorem VZ:∀(j:Nat) (x g:ZX),(uL j x g).length≤j
 | 0,_,_=>Nat.le_refl _
 | j+1,x,g=>by
  rw [uL]
  split
  ·simp
  ·simp only [List.length_cons];have:=VZ j g (nx x g);omega
theorem Ch.all{s n:Nat}{f:ZX}(h:Ch s n f):(∀p∈bK f,BZ 4500000000 n p)∧(bK f).length≤21:=by
 have hp:=h.pot
 have hs:=hp.le
 have hn:=h.hn
 refine⟨fun p hq=>?_,?_⟩
 ·rcases List.mem_cons.1 hq with rfl | hq
  ·exact h.bz.mono (by omega) (Nat.le_refl _)
  ·exact adP hn _ _ _ _ (h.bz.mono (by omega) (Nat.le_refl _)) (jC (h.bz.bT (by omega))) hp p hq
 ·have:=VZ (ZX.N f) f (qD (bT f))
  have h2:=h.bz.N
  show(f::uL (ZX.N f) f (qD (bT f))).length≤21
  simp only [List.length_cons];omega
theorem ahK{a u v:ZX}{c:Int}(na:Nf a)(hc:c≠0)(h:u*a+v*bT a=K c):sq a=a:=aup na.ne na fun p hp=>by
 have hm:mu p a≤1:=by
  rcases Nat.lt_or_ge (mu p a) 2 with h1 | h1
  ·omega
  ·exfalso
   obtain⟨m,hmm⟩:∃m,mu p a=m+1:=⟨mu p a-1,by omega⟩
   obtain⟨_,h2⟩:=xS hp na.ne hmm
   have d1:dv p a:=by have:=(jA hp na.ne).1 (show 1≤mu p a by omega);rwa [show p^1=p by rw [pow_succ',eK];grind]at this
   have hd:bT a≠0:=fun h0=>by rw [h0]at h2;have:mu p (0:ZX)=m:=h2;have h9:=(xS hp na.ne hmm).1;exact h9 h0
   have d2:dv p (bT a):=by have:=(jA hp hd).1 (show 1≤mu p (bT a)by omega);rwa [show p^1=p by rw [pow_succ',eK];grind]at this
   have d3:dv p (K c):=by rw [←h];exact(d1.mul_left u).add (d2.mul_left v)
   have h3:=d3.nD (pB hc)
   have h4:=hp.deg
   rw [N_K hc]at h3
   omega
 omega
theorem aY(q:Rat):dM q.num q.den=q:=by
 rw [dM,if_neg (by have:=q.den_nz;omega)]
 exact Rat.num_divInt_den q
theorem adQ(n d:Int):(sml n d).num.natAbs≤30∧((sml n d).den:Int).natAbs≤6:=by
 have h1:=Int.emod_nonneg n (show (61:Int)≠0 by decide)
 have h2:=Int.emod_lt_of_pos n (show (0:Int)<61 by decide)
 have h3:=Int.emod_nonneg d (show (6:Int)≠0 by decide)
 have h4:=Int.emod_lt_of_pos d (show (0:Int)<6 by decide)
 unfold sml
 rw [sI _ _ (by omega),sJ _ _ (by omega)]
 rw [if_neg (by omega),if_neg (by omega)]
 refine⟨Nat.le_trans (Int.natAbs_ediv_le_natAbs _ _) (by omega),Nat.le_trans (Int.natAbs_ediv_le_natAbs _ _) (by omega)⟩
structure SQ(u:Nat)(q:Rat):Prop where
 n2:sz 2 q.num≤u
 d2:sz 2 (q.den:Int)≤u
 hu:1≤u
theorem SQ.nL{u:Nat}{q:Rat}(h:SQ u q):sz LL q.num≤u:=Nat.le_trans (DC _) h.n2
theorem SQ.dL{u:Nat}{q:Rat}(h:SQ u q):sz LL (q.den:Int)≤u:=Nat.le_trans (DC _) h.d2
theorem anY(n d:Int):SQ 5 (sml n d):=by
 obtain⟨h1,h2⟩:=adQ n d
 exact⟨nI (by omega),nI (by omega),by decide⟩
section
variable {c:List ZX} {n u:Nat} {q:Rat} (hb:∀p∈c,BZ 4500000000 n p) (hn:n≤20) (hl:c.length≤21) (hq:SQ u q) (hu:u≤1000000000)
include hb hn hl hq hu
theorem adR:aF env.P 151 [aN zq c,R2 q.num q.den] (.int .i64 (vr (oB c q.num q.den))):=OB (by omega) fun p hp=>by
 have hmul:n*(u+1)≤20*(u+1):=Nat.mul_le_mul_right _ hn
 exact xV (hb p hp) hq.n2 hq.d2 hq.hu (by omega) (by show _<137438953472;omega)
theorem adS:aF env.P 168 [CH c,T2 q.num q.den] (.int .i64 (vr (oB c q.num q.den))):=SN (by omega) fun p hp=>by
 have hmul:n*(u+1)≤20*(u+1):=Nat.mul_le_mul_right _ hn
 exact GX (NY (hb p hp)) p.c hq.nL hq.dL hq.hu (by omega) (by omega) (by omega) (aY q) ⟨hq.nL,hq.dL⟩
end
theorem pbs{c:List ZX}{n:Nat}(hb:∀p∈c,BZ 4500000000 n p)(hn:n≤20):∀p∈c,PB p.l:=fun p hp=>(hb p hp).pb (by decide) (by omega)
structure MK(a:ZX)(c:List ZX):Prop where
 to:aF env.P 100 [PI a.l] (Po a.l)
 new:aF env.P 69 [Po a.l] (.dU [CH c, .int .i64 0])
 chain:aF env.P 81 [PI a.l] (aN zq c)
 bd:∀p∈c,BZ 4500000000 20 p
 len:c.length≤21
theorem MK.of{s n:Nat}{a:ZX}(h:qL s n a)(h0:a≠0)(AG:1≤n)(h1:1≤s):MK a (bK (sq a)):=by
 have hC:=h.ch h0 AG
 obtain⟨hb,hl⟩:=hC.all
 have hqb:=h.rW
 have hs:s<1099511627776:=by unfold qb at hqb;omega
 have hn:=h.hn
 exact⟨VX h.bz hs (by omega),JJ (uJ h) hC (DL h0).1,DM h h0 AG h1,fun p hp=>(hb p hp).mono (Nat.le_refl _) hn,hl⟩
theorem oC(a b:Nat):(2:Rat)^(a+b)=2^a*2^b:=by
 induction b with
 | zero=>simp
 | succ b ih=>rw [←Nat.add_assoc,Rat.pow_succ,Rat.pow_succ,ih];grind
theorem two_pow_pos(a:Nat):(0:Rat)<2^a:=Rat.pow_pos (by decide)
theorem oD:∀a:Nat,(1:Rat)≤2^a
 | 0=>by simp
 | a+1=>by
  have:=oD a
  rw [Rat.pow_succ];grind
theorem lN{a b:Nat}(h:a≤b):(2:Rat)^a≤2^b:=by
 obtain⟨c,rfl⟩:=Nat.exists_eq_add_of_le h
 rw [oC]
 have h1:=oD c
 have h2:=Rat.mul_le_mul_of_nonneg_left h1 (Rat.le_of_lt (two_pow_pos a))
 grind
theorem OE{c:Int}{s:Nat}(h:c.natAbs<2^s):Ab (c:Rat) (2^s):=by
 have h1:((2^s:Int):Rat)=2^s:=by rw [Rat.intCast_pow];rfl
 have h2:(2^s:Int)=((2^s:Nat):Int):=by rw [Int.natCast_pow];rfl
 constructor
 ·rw [←h1,←Rat.intCast_neg]
  exact Rat.intCast_le_intCast.2 (by omega)
 ·rw [←h1]
  exact Rat.intCast_le_intCast.2 (by omega)
theorem akf{c:Int}{s:Nat}(h:sz 2 c≤s):Ab (c:Rat) (2^s):=
 OE (Nat.lt_of_lt_of_le (iS (b:=2) (by decide) c) (Nat.pow_le_pow_right (by decide) h))
theorem BZ.ab{s n:Nat}{a:ZX}(h:BZ s n a):∀c∈a.l,Ab (c:Rat) (2^s):=fun c hc=>akf (h.sz c hc)
theorem JK(s β:Nat):∀k,D7 (2^s) (2^β) k=2^(s+k*(β+2))
 | 0=>by simp [D7]
 | k+1=>by
  rw [D7,JK s β k,show s+(k+1)*(β+2)=s+k*(β+2)+β+1+1 by rw [Nat.add_mul];omega,Rat.pow_succ,Rat.pow_succ,oC _ β]
  grind
theorem BZ.azl{s n β:Nat}{a:ZX}(h:BZ s n a){t:Rat}(ht:Ab t (2^β)):Ab (e t a) (2^(s+n*(β+2))):=by
 have h1:=N9 (S:=2^s) (B:=2^β) (Rat.le_of_lt (two_pow_pos s)) (oD β) ht a.l h.ab
 rw [JK]at h1
 exact h1.mono (lN (by have:=Nat.mul_le_mul_right (β+2) h.len;omega))
theorem V0{s' N:Nat}{y:List Int}(sP:Bd 2 s' N y)(cy:Cn y)(hy:0<y.length):∀(n j s:Nat) (x:List Int),Cn x→x.length<n→Bd 2 s N x→x.length+1≤y.length+j →
  ∃(m:Int) (q:List Int),0<m∧sz 2 m≤j*s'+1∧Bd 2 (s+j*(2*s'+N+2)) N q ∧ ∀t,m*V t x=V t q*V t y+V t (rq y n x)
 | 0,j,s,x,_,h,_,_=>by omega
 | n+1,j,s,x,cx,h,bx,hj=>by
  rw [rq]
  split
  ·exact⟨1,[],by decide,Nat.le_trans (dW (k:=1) (by decide) (by decide)) (by omega),⟨by simp,fun c hc=>by cases hc⟩,fun t=>by simp [V]⟩
  ·rename_i h1
   obtain⟨j,rfl⟩:∃i,j=i+1:=⟨j-1,by omega⟩
   have hl:=sR hy (show y.length≤x.length by omega)
   have hb:=SE sP bx hy (show y.length≤x.length by omega)
   obtain⟨m,q,hm,hms,hq,h4⟩:=V0 sP cy hy n j _ (VQ y x) (Cn.fM _ _) (by omega) hb (by omega)
   have KU:=dA cy hy
   have e1:(j+1)*s'=j*s'+s':=by rw [Nat.add_mul];omega
   have e2:(j+1)*(2*s'+N+2)=j*(2*s'+N+2)+(2*s'+N+2):=by rw [Nat.add_mul];omega
   have e3:j*s'≤j*(2*s'+N+2):=Nat.mul_le_mul_left _ (by omega)
   have sx:sz 2 (w6 (lead y)*lead x)≤s:=by
    refine Nat.le_trans (dJ (b:=2) (by decide) ?_) (gU bx)
    rw [Int.natAbs_mul]
    have:(w6 (lead y)).natAbs=1:=by unfold w6;split<;>rfl
    rw [this,Nat.one_mul];exact Nat.le_refl _
   have iQ:=(Bd.bA (b:=2) (by decide) (Bd.qF (b:=2) sx (x.length-y.length)) hms)
   have hlen:=bx.len
   refine⟨m*(lead y).natAbs,iG q (bA (qF (x.length-y.length) (w6 (lead y)*lead x)) m),Int.mul_pos hm (by omega),?_,?_,fun t=>?_⟩
   ·have h8:sz 2 ((lead y).natAbs:Int)≤s':=Nat.le_trans (dJ (b:=2) (by decide) (by simp)) (gU sP)
    have:=cG (b:=2) (by decide) hms h8
    omega
   ·refine(Bd.iG (b:=2) (s:=s+(j+1)*(2*s'+N+2)-1) (by decide) (hq.mono (by omega) (Nat.le_refl _)) (iQ.mono (by omega) (by omega))).mono (by omega) (Nat.le_refl _)
   ·have h5:=adA t y x
    have h6:=h4 t
    rw [rG,cV,nY]
    have:m*((lead y).natAbs:Int)*V t x=m*(((lead y).natAbs:Int)*V t x):=by grind
    rw [this,h5]
    grind
theorem anZ{s n:Nat}{a b:ZX}(ha:BZ s n a)(hb:BZ s n b)(h0:b≠0):∃(m:Int) (q:ZX),0<m∧sz 2 m≤(n+1)*s+1∧BZ (s+(n+1)*(2*s+n+2)) n q∧((nx a b=0∧K m*a=q*b)∨(nx a b≠0 ∧ ∃k:Int,0<k∧K m*a=q*b-K k*nx a b)):=by
 obtain⟨XZ,hN,_⟩:=sS (a:=a) h0
 obtain⟨m,q,hm,hms,hq,e⟩:=V0 hb b.c (ZX.aE.1 h0) (a.l.length+1) (n+1) s a.l a.c (by omega) ha (by have:=ha.len;have:=ZX.aE.1 h0;show a.l.length+1≤b.l.length+(n+1);omega)
 rw [←XZ]at e
 have e1:K m*a=ZX.of q*b+rz a b:=ZX.ext fun t=>by rw [eD,wB,mG,eD,ZC];exact e t
 refine⟨m,ZX.of q,hm,hms,Bd.cut hq,?_⟩
 by_cases hr:rz a b=0
 ·left
  refine⟨?_,by rw [e1,hr];grind⟩
  exact ZX.ext fun t=>by
   show V t (gW (j6 (rz a b).l))=_
   rw [hr];rfl
 ·right
  have hrn:(rz a b).l ≠ []:=uI hr
  have hp:=DE (rz a b).c hrn
  have hg:=cO (rz a b).c hrn
  have hnx:K (bN (rz a b).l:Int)*nx a b = -(rz a b):=ZX.ext fun t=>by
   rw [eD,wB,GJ]
   show _*V t (gW (j6 (rz a b).l))=_
   rw [B8]
   have h2:V t (rz a b).l=V t (j6 (rz a b).l)*(bN (rz a b).l:Int):=by rw [←eA,hp]
   rw [h2];grind
  refine⟨fun h=>hr ?_,_,Int.natCast_pos.2 (Nat.pos_of_ne_zero hg),by rw [hnx,e1];grind⟩
  rw [h]at hnx
  have:(rz a b) = -(K (bN (rz a b).l:Int)*0):=by rw [hnx];grind
  rw [this];grind
theorem OG{a b:ZX}(hb:b≠0)(hg:gz a b=1)(hd:dv b a):∃c:Int,c≠0∧b=K c:=by
 have h1:=(fG a b).least hd (dv.refl b)
 rw [hg]at h1
 have h2:=h1.nD xP
 rw [ZX.GK]at h2
 have:=ZX.aE.1 hb
 exact ZX.lA (by omega)
def KK(C n β:Nat):Nat:=C+(n+1)*(2*C+n+2)+n*(β+2)+2
theorem V1{C n β:Nat}(hn:n≤20):∀(k s:Nat) (a b:ZX),ZX.N b≤k→b≠0→BZ s n a→BZ s n b→zU C n s a b→gz a b=1→StC (2^KK C n β) (2^β) (a::uL k a b) ∧ ∀p∈uL k a b,BZ C n p
 | 0,s,a,b,hk,h0,_,_,_,_=>absurd hk (by have:=ZX.aE.1 h0;omega)
 | k+1,s,a,b,hk,h0,ha,hb,hp,hg=>by
  have hs:=hp.le
  have hNb:=ZX.aE.1 h0
  obtain⟨m,q,hm,hms,hq,hr⟩:=anZ ha hb h0
  rw [uL,if_neg (by omega)]
  have hbC:BZ C n b:=hb.mono (by omega) (Nat.le_refl _)
  rcases hr with ⟨hz,e1⟩ | ⟨hz,kk,hkk,e1⟩
  ·rw [hz,kS]
   exact⟨OG h0 hg ⟨m,by omega,q,e1⟩,fun p hp=>by
    simp only [List.mem_cons,List.not_mem_nil,or_false]at hp
    subst hp;exact hbC⟩
  ·have hN:=ZL (a:=a) h0
   have qT:gz b (nx a b)=1:=by
    rw [←hg]
    exact(JA (c:=m) (k := -kk) (q:=q) (by omega) (by omega) (by rw [e1,show K (-kk) = -K kk from ZX.ext fun t=>by rw [wB,GJ,wB]];grind)).symm
   obtain⟨ih,ih2⟩:=V1 hn k _ b (nx a b) (by omega) hz (hb.mono (Nat.le_add_right _ _) (Nat.le_refl _)) (VU ha hb h0) (hp.step hN) qT
   refine⟨?_,fun p hp=>?_⟩
   ·obtain⟨k2,rfl⟩:∃k2,k=k2+1:=⟨k-1,by have:=ZX.aE.1 hz;omega⟩
    rw [uL,if_neg (by have:=ZX.aE.1 hz;omega)]at ih ⊢
    have c1:(n+1)*s≤(n+1)*(2*C+n+2):=Nat.mul_le_mul_left _ (by omega)
    have c2:(n+1)*(2*s+n+2)≤(n+1)*(2*C+n+2):=Nat.mul_le_mul_left _ (by omega)
    refine⟨ih,m,kk,q,hm,hkk,e1,?_,fun t ht=>?_⟩
    ·have h1:=(akf hms).2
     have h2:=lN (show (n+1)*s+1+1≤KK C n β by unfold KK;omega)
     rw [Rat.pow_succ]at h2
     grind
    ·have h1:=(BZ.azl hq ht)
     have h2:=(Ab.mul (x:=2) (M:=2) ⟨by decide,by decide⟩ h1)
     refine h2.mono ?_
     have h3:=lN (show s+(n+1)*(2*s+n+2)+n*(β+2)+1≤KK C n β by unfold KK;omega)
     rw [Rat.pow_succ]at h3
     grind
   ·rcases List.mem_cons.1 hp with rfl | hp
    ·exact hbC
    ·exact ih2 p hp
theorem OH:∀(k:Nat) (a b:ZX),(uL k a b).length≤ZX.N b
 | 0,a,b=>by simp [uL]
 | k+1,a,b=>by
  rw [uL]
  split
  ·simp
  ·rename_i h0
   have:=ZL (a:=a) (ZX.aE.2 (Nat.pos_of_ne_zero h0))
   have:=OH k b (nx a b)
   simp only [List.length_cons];omega
theorem aus{a:ZX}(ha:a≠0):∃c:Int,0<c∧a=K c*qD a:=by
 have hp:=DE a.c (uI ha)
 refine⟨(bN a.l:Int),Int.natCast_pos.2 (Nat.pos_of_ne_zero (cO a.c (uI ha))),ZX.ext fun t=>?_⟩
 rw [eD,wB]
 show _=_*V t (j6 a.l)
 have h2:V t a.l=V t (j6 a.l)*(bN a.l:Int):=by rw [←eA,hp]
 rw [h2];grind
theorem ahL{C s n β:Nat}{f:ZX}(hn:n≤20)(hf:f≠0)(hb:BZ (s+5) n f)(hp:zU C n (s+5) f (qD (bT f)))(bd:BZ (s+5) n (qD (bT f)))(hg:gz f (bT f)=1):StC (2^KK C n β) (2^β) (bK f)∧(∀p∈bK f,BZ C n p)∧(bK f).length≤n+1 ∧ ∀g k,uL (ZX.N f) f (qD (bT f))=g::k → ∃c:Int,0<c∧bT f=K c*g:=by
 have hs:=hp.le
 have hfC:BZ C n f:=hb.mono (by omega) (Nat.le_refl _)
 have hNf:=hb.N
 have h1:=n5 f
 have h2:ZX.N (qD (bT f))≤ZX.N (bT f):=l7 _
 by_cases h0:bT f=0
 ·have yX:qD (bT f)=0:=by rw [h0];exact ZX.ext fun t=>rfl
  have hc:bK f = [f]:=by unfold bK;rw [yX,kS]
  rw [hc]
  have RV:ZX.N f≤1:=Classical.byContradiction fun h=>I5 (a:=f) (by omega) h0
  refine⟨ZX.lA (by have:=ZX.aE.1 hf;omega),fun p hp=>by
   simp only [List.mem_cons,List.not_mem_nil,or_false]at hp
   subst hp;exact hfC,by simp,fun g k h=>?_⟩
  rw [yX,kS]at h;cases h
 ·obtain⟨c,hc,e⟩:=aus h0
  have yX:qD (bT f)≠0:=fun h=>h0 (by rw [e,h];grind)
  have qT:gz f (qD (bT f))=1:=by
   rw [←hg]
   refine DB (dv.refl f) (dv.refl f) ⟨1,by decide,K c,by rw [e];show(1:ZX)*_=_;grind⟩ ⟨c,by omega,1,by grind⟩
  obtain⟨g1,g2⟩:=V1 (β:=β) hn (ZX.N f) (s+5) f (qD (bT f)) (by omega) yX hb bd hp qT
  refine⟨g1,fun p hp=>?_,?_,fun g k h=>?_⟩
  ·rcases List.mem_cons.1 hp with rfl | hp
   ·exact hfC
   ·exact g2 p hp
  ·have:=OH (ZX.N f) f (qD (bT f))
   show(f::uL (ZX.N f) f (qD (bT f))).length≤_
   simp only [List.length_cons]
   omega
  ·obtain⟨j,hj⟩:∃j,ZX.N f=j+1:=⟨ZX.N f-1,by have:=ZX.aE.1 hf;omega⟩
   rw [hj,uL,if_neg (by have:=ZX.aE.1 yX;omega)]at h
   cases h
   exact⟨c,hc,e⟩
theorem V2(μ:Nat):∀k,(2:Rat)^(μ*k)*zW (2^μ) k=1
 | 0=>by simp [zW]
 | k+1=>by
  have h1:=V2 μ k
  have h2:zW (2^μ) (k+1)=zW (2^μ) k/2^μ:=rfl
  have h3:zW ((2:Rat)^μ) k/2^μ*2^μ=zW (2^μ) k:=Rat.div_mul_cancel (Rat.ne_of_gt (two_pow_pos μ))
  rw [h2,Nat.mul_add,Nat.mul_one,oC]
  grind
def jb(C n β:Nat):Nat:=(n+1)*KK C n β+C+n*(β+2)+1
theorem V3{C s n β:Nat}{f:ZX}(hn:n≤20)(hf:f≠0)(hb:BZ (s+5) n f)(hp:zU C n (s+5) f (qD (bT f)))(bd:BZ (s+5) n (qD (bT f)))(hg:gz f (bT f)=1){δ:Rat}(hδ:δ*2^jb C n β≤1):Lcl (bK f) f (2^β) δ:=by
 obtain⟨h1,h2,h3,h4⟩:=ahL (β:=β) hn hf hb hp bd hg
 have hM:(2:Rat)≤2^KK C n β:=by
  have:=lN (show 1≤KK C n β by unfold KK;omega)
  rw [Rat.pow_one]at this
  exact this
 refine StC.loc (Q:=2^(C+n*(β+2))) hM (oD β) (Rat.le_of_lt (two_pow_pos C)) h1 (fun p hp=>⟨(h2 p hp).ab,?_⟩) h4 ?_
 ·rw [JK]
  exact lN (by have:=Nat.mul_le_mul_right (β+2) (h2 p hp).len;omega)
 ·have e1:=V2 (KK C n β) (bK f).length
  have hε:=wG hM (bK f).length
  have h5:KK C n β*(bK f).length+(C+n*(β+2))+1≤jb C n β:=by
   have:=Nat.mul_le_mul_left (KK C n β) h3
   rw [Nat.mul_comm (KK C n β) (n+1)]at this
   unfold jb;omega
  have h6:=lN h5
  rw [Rat.pow_succ,oC]at h6
  have hA:=two_pow_pos (KK C n β*(bK f).length)
  have hB:=two_pow_pos (C+n*(β+2))
  show δ*2^(C+n*(β+2))<zW (2^KK C n β) (bK f).length
  generalize (2:Rat)^(KK C n β*(bK f).length)=A at *
  generalize (2:Rat)^(C+n*(β+2))=Q at *
  generalize zW ((2:Rat)^KK C n β) (bK f).length=ε at *
  generalize (2:Rat)^jb C n β=J at *
  by_cases h0:0<δ
  ·have h7:=Rat.mul_le_mul_of_nonneg_left h6 (Rat.le_of_lt h0)
   have h8:δ*Q*A≤1/2:=by grind
   refine Rat.lt_of_mul_lt_mul_right (c:=A) ?_ (Rat.le_of_lt hA)
   grind
  ·have h7:=Rat.mul_le_mul_of_nonneg_right (show δ≤0 by grind) (Rat.le_of_lt hB)
   grind
theorem JL:∀(l:List Int) (n:Nat) (p:Int),(l.foldl uO (n,p)).1=n+E0 p l
 | [],n,p=>rfl
 | s::l,n,p=>by
  have h:uO (n,p) s=if s=0 then(n,p)else(if p≠0∧s≠p then n+1 else n,s):=rfl
  rw [List.foldl_cons,h]
  simp only [E0]
  split
  ·exact JL l n p
  ·split<;>rw [JL l]<;>omega
theorem SR(l:List Int):vr l=E0 0 l:=by
 rw [vr,JL];omega
theorem akg{n d:Int}{q:Rat}(h:(n:Rat)=q*d):∀x:List Int,((hm n d x).1:Rat)*d=qv q x*(d:Rat)^x.length∧((hm n d x).2:Rat)=(d:Rat)^x.length
 | []=>by
  refine⟨?_,?_⟩
  ·show((0:Int):Rat)*d=0*_
   rw [Rat.intCast_zero,Rat.zero_mul,Rat.zero_mul]
  ·show((1:Int):Rat)=(d:Rat)^0
   rw [Rat.intCast_one,Rat.pow_zero]
 | a::l=>by
  obtain⟨h1,h2⟩:=akg h l
  have e:hm n d (a::l)=((hm n d l).1*n+a*(hm n d l).2,(hm n d l).2*d):=rfl
  rw [e]
  simp only [qv,List.length_cons,Rat.pow_succ,Rat.intCast_add,Rat.intCast_mul]
  rw [h,h2]
  refine⟨?_,rfl⟩
  have:(((hm n d l).1:Rat)*(q*d)+a*(d:Rat)^l.length)*d=((hm n d l).1:Rat)*d*(q*d)+a*((d:Rat)^l.length*d):=by grind
  rw [this,h1];grind
theorem Z0(v:Int):v.sign=bZ (v:Rat):=by
 rcases Int.lt_trichotomy v 0 with h | h | h
 ·rw [Int.sign_eq_neg_one_of_neg h,gI (Rat.intCast_neg_iff.2 h)]
 ·subst h;decide
 ·rw [Int.sign_eq_one_of_pos h,eM (Rat.intCast_pos.2 h)]
theorem AQ(p:ZX)(q:Rat):JE p.l q.num q.den=bZ (e q p):=by
 have hd:(0:Rat)<((q.den:Int):Rat):=Rat.intCast_pos.2 (by have:=q.den_pos;omega)
 have hq:((q.num:Int):Rat)=q*((q.den:Int):Rat):=by
  have h1:q=(q.num:Rat)/((q.den:Int):Rat):=by
   rw [←Rat.divInt_eq_div,Rat.num_divInt_den]
  have h2:=Rat.div_mul_cancel (a:=(q.num:Rat)) (Rat.ne_of_gt hd)
  rw [←h1]at h2
  exact h2.symm
 have h1:=(akg hq p.l).1
 show(hm q.num q.den p.l).1.sign=bZ (qv q p.l)
 rw [Z0]
 have h2:bZ (((hm q.num q.den p.l).1:Rat)*((q.den:Int):Rat))=bZ (qv q p.l*((q.den:Int):Rat)^p.l.length):=by rw [h1]
 rw [sU,sU,eM hd,eM (Rat.pow_pos hd)]at h2
 omega
theorem DN(c:List ZX)(q:Rat):vr (oB c q.num q.den)=vt c q:=by
 rw [SR]
 unfold vt oB E1
 congr 1
 exact List.map_congr_left fun p _=>AQ p q
theorem an0(c:List ZX):∃S:Rat,0≤S ∧ ∀p∈c,∀x∈p.l,Ab (x:Rat) S:=by
 induction c with
 | nil=>exact⟨0,Rat.le_refl,fun p hp=>by cases hp⟩
 | cons a c ih =>
  obtain⟨S,hS,h⟩:=ih
  obtain⟨A,hA,ha⟩:=AL a.l
  refine⟨S+A,by grind,fun p hp x hx=>?_⟩
  rcases List.mem_cons.1 hp with rfl | hp
  ·exact(ha x hx).mono (by grind)
  ·exact(h p hp x hx).mono (by grind)
theorem adT(c:List ZX):∃X:Rat,1≤X∧(∀t,X≤t→vt c t=vr (ZQ c)) ∧ ∀t,t ≤ -X→vt c t=vr (ZP c):=by
 obtain⟨S,hS,h⟩:=an0 c
 refine⟨S+1,by grind,fun t ht=>?_,fun t ht=>?_⟩
 ·rw [SR]
  unfold vt ZQ E1
  congr 1
  exact List.map_congr_left fun p hp=>(GU hS p.c (h p hp)).1 ht
 ·rw [SR]
  unfold vt ZP E1
  congr 1
  exact List.map_congr_left fun p hp=>(GU hS p.c (h p hp)).2 ht
theorem mC{a:ZX}(ha:a≠0):Nf (sq a) ∧ ∀p,ZX.oL p→ZX.mu p (sq a)=min (ZX.mu p a) 1:=by
 have hA:=jB ha
 unfold sq
 split
 ·rename_i h
  refine⟨hA,fun p hp=>?_⟩
  obtain⟨c,hc,rfl⟩:=ZX.lA (x:=a) (by have:=ZX.aE.1 ha;omega)
  rw [VH hp ha,ZX.ZF hp hc];rfl
 ·exact⟨adr hA,fun p hp=>by rw [ads hA hp,VH hp ha]⟩
theorem V4{a:ZX}(ha:a≠0):gz (sq a) (bT (sq a))=1:=by
 obtain⟨h1,h2⟩:=mC ha
 refine Nf.rV (VK h1.ne) Nf.one fun p hp=>?_
 have e1:mu p (1:ZX)=0:=ZF hp (by decide)
 have h3:=aj2 h1.ne hp
 rw [h2 p hp]at h3
 rw [e1]
 show mu p (gd (sq a))=0
 rw [h3]
 omega
theorem wK{a:ZX}(ha:a≠0):dv (sq a) a:=(DL ha).2.trans (GM a).2
theorem Lcl.mono{L:List ZX}{f:ZX}{B C δ:Rat}(h:Lcl L f B δ)(hc:C≤B):Lcl L f C δ:=
 ⟨fun s t hs ht=>h.turns s t (hs.mono hc) (ht.mono hc),fun s t hs ht=>h.simple s t (hs.mono hc) (ht.mono hc)⟩
theorem SS(B:Rat):∃β:Nat,B≤2^β:=by
 have h1:=Rat.lt_floor_add_one B
 refine⟨(B.floor+1).toNat,Rat.le_trans (Rat.le_of_lt h1) ?_⟩
 have h2:((2^(B.floor+1).toNat:Int):Rat)=2^(B.floor+1).toNat:=by rw [Rat.intCast_pow];rfl
 rw [←h2]
 refine Rat.intCast_le_intCast.2 ?_
 have h3:(B.floor+1).toNat<2^(B.floor+1).toNat:=Nat.lt_two_pow_self
 have h4:((2^(B.floor+1).toNat:Nat):Int)=2^(B.floor+1).toNat:=by rw [Int.natCast_pow];rfl
 omega
theorem Ch.JM{s n:Nat}{f:ZX}(h:Ch s n f)(hf:f≠0)(hg:gz f (bT f)=1):wI (bK f) f:=⟨fun B hB=>by
 have hn:=h.hn
 obtain⟨β,hβ⟩:=SS B
 have bd:BZ (s+5) n (bT f):=h.bz.bT (by omega)
 have hJ:=two_pow_pos (jb 4500000000 n β)
 have hJ1:(1:Rat)/2^jb 4500000000 n β*2^jb 4500000000 n β=1:=Rat.div_mul_cancel (Rat.ne_of_gt hJ)
 refine⟨1/2^jb 4500000000 n β,(Rat.lt_div_iff hJ).2 (by grind),?_⟩
 exact Lcl.mono (V3 hn hf (h.bz.mono (by omega) (Nat.le_refl _)) h.pot (jC bd) hg (by rw [hJ1];exact Rat.le_refl)) hβ⟩
theorem qL.JM{s n:Nat}{a:ZX}(h:qL s n a)(h0:a≠0)(AG:1≤n):wI (bK (sq a)) (sq a):=(h.ch h0 AG).JM (mC h0).1.ne (V4 h0)
def dP(t:Rat):ZX:=of [-t.num,(t.den:Int)]
theorem JN(s t:Rat):e s (dP t)=((t.den:Int):Rat)*(s-t):=by
 rw [dP,GV,Rat.intCast_neg]
 have hd:(0:Rat)<((t.den:Int):Rat):=Rat.intCast_pos.2 (by have:=t.den_pos;omega)
 have hq:((t.num:Int):Rat)=t*((t.den:Int):Rat):=by
  have h1:t=(t.num:Rat)/((t.den:Int):Rat):=by
   rw [←Rat.divInt_eq_div,Rat.num_divInt_den]
  have h2:=Rat.div_mul_cancel (a:=(t.num:Rat)) (Rat.ne_of_gt hd)
  rw [←h1]at h2
  exact h2.symm
 rw [hq];grind
theorem lO(t:Rat):ZX.N (dP t)=2:=by
 have:aQ [-t.num,(t.den:Int)] = [-t.num,(t.den:Int)]:=jH (x:=(t.den:Int)) (by have:=t.den_nz;omega) [-t.num]
 show(aQ [-t.num,(t.den:Int)]).length=2
 rw [this];rfl
theorem OI(t:Rat):oL (dP t):=⟨by rw [lO];decide,fun d hd=>by
 have h0:dP t≠0:=ZX.aE.2 (by rw [lO];decide)
 have h1:=hd.nD h0
 have h2:=ZX.aE.1 (hd.ne h0)
 rw [lO]at h1 ⊢
 omega⟩
theorem aut{a b:ZX}{t:Rat}(h:dv b a)(hb:e t b=0):e t a=0:=by
 obtain⟨c,hc,q,he⟩:=h
 have h1:(c:Rat)*e t a=e t q*e t b:=by rw [←zV (t:=t) c,←iJ,he,iJ]
 rw [hb,Rat.mul_zero]at h1
 exact(Rat.mul_eq_zero.1 h1).resolve_left fun h=>hc (Rat.intCast_eq_zero_iff.1 h)
theorem JO{a:ZX}{t:Rat}:e t a=0↔dv (dP t) a:=by
 have h0:dP t≠0:=ZX.aE.2 (by rw [lO];decide)
 have hz:e t (dP t)=0:=by rw [JN];grind
 refine⟨fun ha=>?_,fun h=>aut h hz⟩
 obtain⟨c,hc,q,r,he,hN⟩:=ZX.adh a h0
 have h1:e t (K c*a)=e t q*e t (dP t)+e t r:=by rw [he,akb,iJ]
 rw [iJ,ha,hz]at h1
 have hr:e t r=0:=by grind
 have FE:r=0:=Classical.byContradiction fun FE=>by
  rw [lO]at hN
  obtain⟨k,hk,rfl⟩:=ZX.lA (x:=r) (by have:=ZX.aE.1 FE;omega)
  rw [zV]at hr
  exact hk (Rat.intCast_eq_zero_iff.1 hr)
 exact⟨c,hc,q,by rw [he,FE];grind⟩
theorem V5{a:ZX}(ha:a≠0){t:Rat}:e t (sq a)=0↔e t a=0:=by
 refine⟨aut (wK ha),fun h=>?_⟩
 have hp:=OI t
 have h1:=JO.1 h
 obtain⟨g1,g2⟩:=mC ha
 have p1:(dP t)^1=dP t:=by rw [pow_succ',eK];grind
 have h2:1≤mu (dP t) a:=(jA hp ha).2 (by rw [p1];exact h1)
 have h3:1≤mu (dP t) (sq a):=by rw [g2 _ hp];omega
 have h4:=(jA hp g1.ne).1 h3
 rw [p1]at h4
 exact JO.2 h4
theorem Z1{L:List ZX}{f:ZX}(h:wI L f){b:Rat}(hb:∀a,Bg a b f):vr (ZP L)=vt L b:=by
 obtain⟨X,hX,_,h2⟩:=adT L
 by_cases BJ:b ≤ -X
 ·exact(h2 b BJ).symm
 ·rw [←h2 (-X) Rat.le_refl]
  exact h.bg (hb (-X)) (Rat.not_le.1 BJ)
theorem SU{L:List ZX}{f:ZX}(h:wI L f){a:Rat}(ha:∀b,Bg a b f):vr (ZQ L)=vt L a:=by
 obtain⟨X,hX,h1,_⟩:=adT L
 by_cases BJ:X≤a
 ·exact(h1 a BJ).symm
 ·rw [←h1 X Rat.le_refl]
  exact(h.bg (ha X) (Rat.not_le.1 BJ)).symm
theorem j3(p q:Rat):(dH (p.num*q.den) (q.num*p.den)<0)↔p<q:=by
 rw [mZ,Rat.lt_iff]
theorem akh(C:List ZX)(q:Rat):vt C q≤C.length:=by
 have:=DK (oB C q.num q.den)
 rw [DN]at this
 simpa [oB]using this
end Go.Proofs.YtiobceocpabjdaaGreat
