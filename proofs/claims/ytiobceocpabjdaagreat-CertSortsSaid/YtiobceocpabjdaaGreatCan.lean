import Derived.Test.YtiobceocpabjdaaGreatCaj
import Derived.Test.YtiobceocpabjdaaGreatCak
import Derived.Test.YtiobceocpabjdaaGreatCal
import Derived.Test.YtiobceocpabjdaaGreatCam
set_option linter.unusedSimpArgs false
set_option linter.unusedVariables false
namespace Go.Proofs.YtiobceocpabjdaaGreat
open Go Pm
abbrev T2(n d:Int):PV:=.ag [.bool (decide (n<0)),us (a5 LL n.natAbs), .bool (decide (d<0)),us (a5 LL d.natAbs)]
abbrev RT(q:Rat):PV:=T2 q.num q.den
theorem apV(n d:Int):((bB [n,d]:Nat):Int)=Int.gcd n d:=by
 simp only [bB,List.foldl_cons,List.foldl_nil,Nat.gcd_zero_left]
 rfl
theorem afa{n d:Int}(h:d≠0):(dA n d).num=(if d<0 then -n else n)/(bB [n,d]:Nat)∧((dA n d).den:Int)=(if d<0 then -d else d)/(bB [n,d]:Nat):=by
 have e:∀m k:Int,(m=n∨m = -n)→(k=d∨k = -d)→((Int.gcd m k:Nat):Int)=(bB [n,d]:Nat):=fun m k hm hk=>by
  rw [apV]
  rcases hm with rfl | rfl<;>rcases hk with rfl | rfl<;>simp
 rw [tN n d h,tO n d h]
 constructor
 ·rw [e _ _ (by split<;>simp) (by split<;>simp)]
 ·rw [e _ _ (by split<;>simp) (by split<;>simp)]
theorem H2{n d:Int}(hn:sz LL n<1099511627770)(hd:sz LL d<1099511627770)(h0:d≠0):aZ env.P 169 [I n,I d] (RT (dA n d)):=by
 have sn:Sz n:=by show _<_;omega
 have sd:Sz d:=by show _<_;omega
 have g0:=vT [jU n,jU d] 1099511627770 (by decide) (fun c hc=>by
  simp only [List.mem_cons,List.not_mem_nil,or_false]at hc
  rcases hc with rfl | rfl
  ·exact⟨eN eV _,by unfold sz at hn;show(a5 LL n.natAbs).length≤_;omega⟩
  ·exact⟨eN eV _,by unfold sz at hd;show(a5 LL d.natAbs).length≤_;omega⟩) (by simp)
 rw [show [jU n,jU d].map gv = [n,d]by simp [JD]]at g0
 obtain⟨q1,q2⟩:=afa (n:=n) h0
 have gd1:((bB [n,d]:Nat):Int)∣n:=eG _ n (by simp)
 have gd2:((bB [n,d]:Nat):Int)∣d:=eG _ d (by simp)
 have gne:((bB [n,d]:Nat):Int)≠0:=by
  have:=D7 (x:=[n,d]) (c:=d) (by simp) h0;omega
 have gle:((bB [n,d]:Nat):Int).natAbs≤d.natAbs:=Nat.le_of_dvd (by omega) (Int.natAbs_dvd_natAbs.2 gd2)
 have gsz:sz LL ((bB [n,d]:Nat):Int)<1099511627774:=Nat.lt_of_le_of_lt (cQ eV gle) (by omega)
 have nn:∀v,lR (a5 LL v)↔lR (a5 LL v):=fun _=>Iff.rfl
 have neg:∀v:Int,Sz v→aZ env.P 148 [I v] (I (-v)):=fun v hv=>by
  have:=vD (decide (v<0)) (a5 LL v.natAbs) hv.L4
  rw [show iv (decide (v<0)) (a5 LL v.natAbs)=v from JD v]at this
  exact this
 generalize hg:((bB [n,d]:Nat):Int)=g at *
 have ex:∀v:Int,g∣v→sz LL v<1099511627774→aZ env.P 234 [I v,I g] (.eQ [I (v/g), .int .i64 0]):=fun v hv hs=>by
  have:=qO hs gsz gne
  rw [if_pos (Int.emod_eq_zero_of_dvd hv)]at this
  exact this
 have n1:=neg n sn
 have n2:=neg d sd
 have ak9:∀v:Int,sz LL (-v)=sz LL v:=fun v=>by unfold sz;rw [Int.natAbs_neg]
 have e1:=ex (if d<0 then -n else n) (by split;exact(Int.dvd_neg.2 gd1);exact gd1) (by split;rw [ak9];omega;omega)
 have e2:=ex (if d<0 then -d else d) (by split;exact(Int.dvd_neg.2 gd2);exact gd2) (by split;rw [ak9];omega;omega)
 rw [←q1]at e1
 rw [←q2]at e2
 have eg:Pg [jU n,jU d] = .sl [[.bool (decide (n<0)),us (a5 LL n.natAbs)],[.bool (decide (d<0)),us (a5 LL d.natAbs)]]:=rfl
 rw [eg]at g0
 show aZ env.P _ _ (T2 (dA n d).num (dA n d).den)
 generalize (dA n d).num=rn at *
 generalize ((dA n d).den:Int)=rd at *
 refine cL [(0,I n),(1,I d)] Tryz.func169 ?_
 refine aB [2,3,4] ?_
 refine bT [2,3,4,5] g0 ?_
 generalize U1:(if d<0 then -n else n)=n' at *
 generalize PA:(if d<0 then -d else d)=d' at *
 refine W.gK (fun σ=>∃(rows:Pm.Rows) (clk:Nat),σ=⟨fa [(2, .ptr 2 0 0 0),(3, .ptr 3 1 0 0),(4, .ptr 4 2 0 0),(5, .ptr 5 3 0 0)],rows,clk⟩∧rows 2=some ⟨0,38,2,[ie n']⟩∧rows 3=some ⟨1,38,2,[ie d']⟩∧rows 4=some ⟨2,52,4,[[.bool false, .nil, .bool false, .nil]]⟩∧rows 5=some ⟨3,38,2,[ie g]⟩) ?_ ?_
 ·refine aB [2,3,4,5,11] ?_
  refine bO ?_ ?_<;>intro h
  ·have h:d<0:=by simpa using h
   rw [if_pos h]at U1 PA
   subst U1 PA
   refine W.CS (fun K hK=>?_)
   simp (disch:=omega) [gw]
   refine cM n1 ?_
   refine cM n2 ?_
   (try (refine bU (of_decide_eq_true (by kernel_rfl)) ?_));(try simp (maxSteps:=4000000) (disch:=omega) [gw]);(repeat rw [if_pos (by kernel_rfl)]);(try simp (maxSteps:=4000000) (disch:=omega) [gw])
   (try (refine bU (of_decide_eq_true (by kernel_rfl)) ?_));(try simp (maxSteps:=4000000) (disch:=omega) [gw]);(repeat rw [if_pos (by kernel_rfl)]);(try simp (maxSteps:=4000000) (disch:=omega) [gw])
   exact hK _ ⟨_,aC _ [2,3,4,5],_,_,rfl,by simp,by simp,by simp,by simp⟩
  ·have h:¬d<0:=by simpa using h
   rw [if_neg h]at U1 PA
   subst U1 PA
   refine W.skip ?_
   exact⟨_,aC _ [2,3,4,5],_,_,rfl,by simp,by simp,by simp,by simp⟩
 rintro _ ⟨rows,clk,rfl,dB,c5,fT,gX⟩
 simp only [ie]at dB c5 gX
 refine W.sr ?_
 simp (disch:=omega) [gw,dB,gX]
 refine aD e1 ?_
 simp (disch:=omega) [gw,dB]
 refine bF [2,3,4,5] ?_
 refine W.sr ?_
 simp (disch:=omega) [gw,c5,gX]
 refine aD e2 ?_
 simp (disch:=omega) [gw,c5]
 refine bF [2,3,4] ?_
 refine W.sr ?_
 simp (disch:=omega) [gw,fT]
 refine bF [4] ?_
 exact cV
theorem NN(d:Int):aZ env.P 124 [I d] (.bool (decide (d=0))):=by
 have:=vF (decide (d<0)) (a5 LL d.natAbs)
 rw [show decide ((a5 LL d.natAbs).length=0)=decide (d=0)from by
  by_cases h:d=0
  ·subst h;rfl
  ·have:a5 LL d.natAbs ≠ []:=fun h2=>h (by have:=iT eV d.natAbs;rw [h2]at this;simp [V]at this;omega)
   have h3:=List.length_pos_iff.2 this
   simp [h];omega]at this
 exact this
theorem H3(n:Int):dA n 0=dA n 1:=by rw [i5,dA,if_pos rfl]
theorem rS{n d:Int}(hn:sz LL n<1099511627770)(hd:sz LL d<1099511627770):aZ env.P 147 [T2 n d] (RT (dA n d)):=by
 have sn:Sz n:=by show _<_;omega
 have sd:Sz d:=by show _<_;omega
 have n1:=RS sn
 have n2:=RS sd
 have z1:=NN d
 have o1:=rM 1 (by decide) (by decide)
 obtain⟨e,he,hed⟩:∃e,e=(if d=0 then 1 else d)∧dA n e=dA n d:=by
  refine⟨_,rfl,?_⟩
  split
  ·rename_i h;rw [h,H3]
  ·rfl
 have VK:sz LL e<1099511627770:=by
  rw [he]
  split
  ·exact Nat.lt_of_le_of_lt (cX (k:=1) eV (by decide)) (by decide)
  ·exact hd
 have he2:e≠0:=by
  rw [he]
  split
  ·decide
  ·assumption
 have l1:=H2 (n:=n) (d:=e) hn VK he2
 rw [hed]at l1
 show aZ env.P _ _ (T2 (dA n d).num (dA n d).den)
 replace l1:aZ env.P 169 [I n,I e] (T2 (dA n d).num (dA n d).den):=l1
 clear hed VK he2
 generalize (dA n d).num=rn at *
 generalize ((dA n d).den:Int)=rd at *
 refine cL [(0,T2 n d)] Tryz.func147 ?_
 refine aB [1,2] ?_
 refine bT [1,2,3] n2 ?_
 refine W.gK (fun σ=>∃(rows:Pm.Rows) (clk:Nat),σ=⟨fa [(1, .ptr 1 0 0 0),(2, .ptr 2 1 0 0),(3, .ptr 3 2 0 0)],rows,clk⟩∧rows 1=some ⟨0,52,4,[[.bool (decide (n<0)),us (a5 LL n.natAbs), .bool (decide (d<0)),us (a5 LL d.natAbs)]]⟩∧rows 2=some ⟨1,52,4,[[.bool false, .nil, .bool false, .nil]]⟩∧rows 3=some ⟨2,38,2,[[.bool (decide (e<0)),us (a5 LL e.natAbs)]]⟩) ?_ ?_
 ·refine bT [1,2,3,8] z1 ?_
  refine bO ?_ ?_<;>intro h
  ·have h:d=0:=by simpa using h
   rw [if_pos h]at he
   subst he
   refine W.cA (fun K hK=>?_)
   simp (disch:=omega) [gw]
   refine cM o1 ?_
   exact hK _ ⟨_,aC _ [1,2,3],_,_,rfl,by simp,by simp,by simp⟩
  ·have h:¬d=0:=by simpa using h
   rw [if_neg h]at he
   subst he
   refine W.skip ?_
   exact⟨_,aC _ [1,2,3],_,_,rfl,by simp,by simp,by simp⟩
 rintro _ ⟨rows,clk,rfl,I8,dB,c5⟩
 refine W.sd ?_
 simp (disch:=omega) [gw,I8]
 refine aD n1 ?_
 simp (disch:=omega) [gw,c5]
 refine aD l1 ?_
 simp (disch:=omega) [gw,dB]
 (try (refine bU (of_decide_eq_true (by kernel_rfl)) ?_));(try simp (maxSteps:=4000000) (disch:=omega) [gw,dB]);(repeat rw [if_pos (by kernel_rfl)]);(try simp (maxSteps:=4000000) (disch:=omega) [gw,dB])
 refine bF [2] ?_
 exact cV
theorem NO{n d m e:Int}{k:Nat}(hn:sz LL n≤k)(hd:sz LL d≤k)(hm:sz LL m≤k)(he:sz LL e≤k)(hk:k≤500000000000){p q:Rat}(hp:dA n d=p)(hq:dA m e=q)(sp:sz LL p.num≤k∧sz LL (p.den:Int)≤k)(sq:sz LL q.num≤k∧sz LL (q.den:Int)≤k) :
  aZ env.P 165 [T2 n d,T2 m e] (.eQ [I (p.num*q.den),I (q.num*p.den),I ((p.den:Int)*q.den)]):=by
 have n1:=rS (n:=n) (d:=d) (by omega) (by omega)
 have n2:=rS (n:=m) (d:=e) (by omega) (by omega)
 rw [hp]at n1
 rw [hq]at n2
 have z:∀ {v:Int},sz LL v≤k→Sz v:=fun h=>by show _<_;omega
 have m1:=sH (z sp.1) (z sq.2)
 have m2:=sH (z sq.1) (z sp.2)
 have m3:=sH (z sp.2) (z sq.2)
 replace n1:aZ env.P 147 [T2 n d] (T2 p.num p.den):=n1
 replace n2:aZ env.P 147 [T2 m e] (T2 q.num q.den):=n2
 clear sp sq hp hq
 generalize p.num*(q.den:Int)=x1 at *
 generalize q.num*(p.den:Int)=x2 at *
 generalize (p.den:Int)*(q.den:Int)=x3 at *
 generalize p.num=pn at *
 generalize (p.den:Int)=pd at *
 generalize q.num=qn at *
 generalize (q.den:Int)=qd at *
 refine cL [(0,T2 n d),(1,T2 m e)] Tryz.func165 ?_
 refine aB [2,3,4,5,6] ?_
 refine oW ?_
 refine cM n1 ?_
 refine cM n2 ?_
 (try (refine bU (of_decide_eq_true (by kernel_rfl)) ?_));(try simp (maxSteps:=4000000) (disch:=omega) [gw]);(repeat rw [if_pos (by kernel_rfl)]);(try simp (maxSteps:=4000000) (disch:=omega) [gw])
 (try (refine bU (of_decide_eq_true (by kernel_rfl)) ?_));(try simp (maxSteps:=4000000) (disch:=omega) [gw]);(repeat rw [if_pos (by kernel_rfl)]);(try simp (maxSteps:=4000000) (disch:=omega) [gw])
 refine bF [2,3,4,5,6] ?_
 refine W.sd ?_
 simp (maxSteps:=4000000) (disch:=omega) [gw]
 refine aD m1 ?_
 simp (maxSteps:=4000000) (disch:=omega) [gw]
 refine aD m2 ?_
 simp (maxSteps:=4000000) (disch:=omega) [gw]
 refine aD m3 ?_
 simp (maxSteps:=4000000) (disch:=omega) [gw]
 (try (refine bU (of_decide_eq_true (by kernel_rfl)) ?_));(try simp (maxSteps:=4000000) (disch:=omega) [gw]);(repeat rw [if_pos (by kernel_rfl)]);(try simp (maxSteps:=4000000) (disch:=omega) [gw])
 (try (refine bU (of_decide_eq_true (by kernel_rfl)) ?_));(try simp (maxSteps:=4000000) (disch:=omega) [gw]);(repeat rw [if_pos (by kernel_rfl)]);(try simp (maxSteps:=4000000) (disch:=omega) [gw])
 (try (refine bU (of_decide_eq_true (by kernel_rfl)) ?_));(try simp (maxSteps:=4000000) (disch:=omega) [gw]);(repeat rw [if_pos (by kernel_rfl)]);(try simp (maxSteps:=4000000) (disch:=omega) [gw])
 refine bF [4,5,6] ?_
 exact cV
theorem NP{n d m e:Int}{k:Nat}(hn:sz LL n≤k)(hd:sz LL d≤k)(hm:sz LL m≤k)(he:sz LL e≤k)(hk:k≤500000000000){p q:Rat}(hp:dA n d=p)(hq:dA m e=q)(sp:sz LL p.num≤k∧sz LL (p.den:Int)≤k)(sq:sz LL q.num≤k∧sz LL (q.den:Int)≤k) :
  aZ env.P 86 [T2 n d,T2 m e] (.int .i64 (iG (p.num*q.den) (q.num*p.den))):=by
 have c1:=NO hn hd hm he hk hp hq sp sq
 have g1:=cZ (b:=LL) eV sp.1 sq.2
 have g2:=cZ (b:=LL) eV sq.1 sp.2
 have w1:=abo (x:=p.num*q.den) (y:=q.num*p.den) (by show _<_;omega) (by show _<_;omega)
 clear sp sq hp hq g1 g2
 generalize iG (p.num*(q.den:Int)) (q.num*(p.den:Int))=r at *
 generalize p.num*(q.den:Int)=x1 at *
 generalize q.num*(p.den:Int)=x2 at *
 generalize (p.den:Int)*(q.den:Int)=x3 at *
 refine cL [(0,T2 n d),(1,T2 m e)] Tryz.func86 ?_
 refine aB [2,3] ?_
 refine bT [5,6] c1 ?_
 refine bT [4] w1 ?_
 exact cV
theorem EY{n d:Int}(hn:sz LL n<1099511627770)(hd:sz LL d<1099511627770):aZ env.P 90 [T2 n d, .sl []] (RT (dA n d)):=by
 have n1:=rS hn hd
 show aZ env.P _ _ (T2 (dA n d).num (dA n d).den)
 replace n1:aZ env.P 147 [T2 n d] (T2 (dA n d).num (dA n d).den):=n1
 generalize (dA n d).num=rn at *
 generalize ((dA n d).den:Int)=rd at *
 refine cL [(0,T2 n d),(1, .sl [])] Tryz.func90 ?_
 refine aB [1,2,4] ?_
 refine bT [1,4,5] n1 ?_
 refine aQ [4,5,10,11,12] ?_
 refine W.block ?_
 refine W.a9 (fun k σ=>∃(rows:Pm.Rows) (clk:Nat),σ=⟨fa [(4, .ptr 4 1 0 0),(5, .ptr 5 2 0 0),(11, .int .i64 0),(12, .int .i64 0)],rows,clk⟩∧rows 4=some ⟨1,52,4,[[.bool false, .nil, .bool false, .nil]]⟩∧rows 5=some ⟨2,52,4,[[.bool (decide (rn<0)),us (a5 LL rn.natAbs), .bool (decide (rd<0)),us (a5 LL rd.natAbs)]]⟩) 0 ?_ ?_
 ·exact⟨_,aC _ [4,5,11,12],_,_,rfl,by simp,by simp⟩
 rintro k _ ⟨rows,clk,rfl,fT,gX⟩
 refine cH [4,5,11,12,13] ?_
 refine bO ?_ ?_<;>intro h
 ·simp at h
 ·refine eH ?_
  refine W.sr ?_
  simp (disch:=omega) [gw,fT,gX]
  refine bF [4] ?_
  exact cV
theorem NQ{n d:Int}(hn:sz LL n<1099511627770)(hd:sz LL d<1099511627770):aZ env.P 166 [T2 n d] (RT (dA n d)):=by
 have n1:=EY hn hd
 show aZ env.P _ _ (T2 (dA n d).num (dA n d).den)
 replace n1:aZ env.P 90 [T2 n d, .sl []] (T2 (dA n d).num (dA n d).den):=n1
 generalize (dA n d).num=rn at *
 generalize ((dA n d).den:Int)=rd at *
 refine cL [(0,T2 n d)] Tryz.func166 ?_
 refine aB [1,2] ?_
 refine bT [2] n1 ?_
 exact cV
end Go.Proofs.YtiobceocpabjdaaGreat
namespace Go.Proofs.YtiobceocpabjdaaGreat
open Go Pm
open ZX hiding N W
theorem ZL{n d:Int}(hn:Z n)(hd:Z d):aZ env.P 23 [R2 n d] (T2 n d):=by
 have t1:=AG n hn
 have t2:=AG d hd
 refine cL [(0,R2 n d)] Tryz.func23 ?_
 refine aB [1,2] ?_
 refine oW ?_
 refine cM t1 ?_
 refine cM t2 ?_
 (try (refine bU (of_decide_eq_true (by kernel_rfl)) ?_));(try simp (maxSteps:=4000000) (disch:=omega) [gw]);(repeat rw [if_pos (by kernel_rfl)]);(try simp (maxSteps:=4000000) (disch:=omega) [gw])
 refine bF [2] ?_
 exact cV
abbrev CH(c:List ZX):PV:=.rd [aX zp c]
theorem UE{s k u:Nat}{n d:Int}(hn:sz LL n≤u)(hd:sz LL d≤u)(hu:1≤u):∀ {x:List Int},Bd LL s k x→sz LL (hm n d x).1≤s+x.length*(u+1)∧sz LL (hm n d x).2≤x.length*u+1
 | [],_=>⟨by show sz LL 0≤_;rw [show sz LL 0=0 by decide];omega,by show sz LL 1≤_;exact Nat.le_trans (cX (k:=1) eV (by decide)) (by omega)⟩
 | a::l,h=>by
  obtain⟨h1,h2⟩:=UE hn hd hu (x:=l) ⟨Nat.le_trans (by simp) h.len,fun c hc=>h.sz c (by simp [hc])⟩
  have ha:=h.sz a (by simp)
  have e:(a::l).length*u=l.length*u+u:=by rw [List.length_cons,Nat.add_mul];omega
  have e':(a::l).length*(u+1)=l.length*u+l.length+u+1:=by rw [List.length_cons,Nat.add_mul,Nat.mul_add];omega
  have e'':l.length*(u+1)=l.length*u+l.length:=by rw [Nat.mul_add];omega
  refine⟨?_,?_⟩
  ·have g1:=cZ (b:=LL) eV h1 hn
   have g2:=cZ (b:=LL) eV ha h2
   have:=pG (b:=LL) eV (Nat.le_trans g1 (Nat.le_max_left _ (s+(l.length*u+1)))) (Nat.le_trans g2 (Nat.le_max_right (s+l.length*(u+1)+u) _))
   refine Nat.le_trans this ?_
   rw [e',e'']
   omega
  ·have:=cZ (b:=LL) eV h2 hd
   rw [e]
   exact Nat.le_trans this (by omega)
theorem NR{x:List Int}{n d:Int}{s k u:Nat}(hx:Bd LL s k x)(hn:sz LL n≤u)(hd:sz LL d≤u)(hu:1≤u)(hk:k<1099511627776)(hB:s+k*(u+1)+u<500000000000):aZ env.P 167 [Po x,I n,I d] (I (hm n d x).1)∧Sz (hm n d x).1:=by
 have hl:=hx.len
 have hO:=rM 1 (by decide) (by decide)
 have bd:=fun i=>UE (s:=s) (k:=k) (x:=x.drop i) hn hd hu ⟨by simp;omega,fun c hc=>hx.sz c (List.mem_of_mem_drop hc)⟩
 have hle:∀i,(x.drop i).length*(u+1)≤k*(u+1):=fun i=>Nat.mul_le_mul_right _ (by simp;omega)
 have ala:∀i,(x.drop i).length*u≤(x.drop i).length*(u+1):=fun i=>Nat.mul_le_mul_left _ (by omega)
 have step:∀i,i<x.length→hm n d (x.drop i)=((hm n d (x.drop (i+1))).1*n+nth x i*(hm n d (x.drop (i+1))).2,(hm n d (x.drop (i+1))).2*d):=fun i hi=>by
  rw [List.drop_eq_getElem_cons hi,dP hi];rfl
 have alb:hm n d (x.drop x.length)=(0,1):=by rw [List.drop_length];rfl
 have h0:hm n d (x.drop 0)=hm n d x:=rfl
 have hz:Sz (hm n d x).1:=by have:=(bd 0).1;have:=hle 0;rw [h0]at *;show _<_;omega
 refine⟨?_,hz⟩
 have M:∀i,i<x.length→aZ env.P 66 [I (hm n d (x.drop (i+1))).1,I n] (I ((hm n d (x.drop (i+1))).1*n))∧aZ env.P 66 [I (nth x i),I (hm n d (x.drop (i+1))).2] (I (nth x i*(hm n d (x.drop (i+1))).2)) ∧
   aZ env.P 65 [I ((hm n d (x.drop (i+1))).1*n),I (nth x i*(hm n d (x.drop (i+1))).2)] (I (hm n d (x.drop i)).1)∧aZ env.P 66 [I (hm n d (x.drop (i+1))).2,I d] (I (hm n d (x.drop i)).2):=fun i hi=>by
  obtain⟨b1,b2⟩:=bd (i+1)
  have l1:=hle (i+1)
  have l2:=ala (i+1)
  have ha:=hx.sz _ (cP hi)
  have g1:=cZ (b:=LL) eV b1 hn
  have g2:=cZ (b:=LL) eV ha b2
  have zz:∀ {v:Int},sz LL v<1099511627776→Sz v:=fun h=>h
  have e:=step i hi
  rw [e]
  exact⟨sH (zz (by omega)) (zz (by omega)),sH (zz (by omega)) (zz (by omega)),abl (zz (by omega)) (zz (by omega)),sH (zz (by omega)) (zz (by omega))⟩
 clear bd hle ala step hz
 generalize hm n d x=r0 at *
 refine cL [(0,Po x),(1,I n),(2,I d)] Tryz.func167 ?_
 refine aB [0,4,5,6] ?_
 refine aB [0,4,5,6,7] ?_
 refine bT [0,4,5,6,7,8] hO ?_
 refine aQ [0,4,5,6,7,8,9] ?_
 refine W.row (id:=7) (els:=[[.bool false, .nil]]) [[.bool (decide ((0:Int)<0)),us (a5 LL (0:Int).natAbs)]] (by simp;first | exact⟨rfl,rfl,rfl⟩ | exact⟨rfl,rfl⟩ | rfl) ⟨⟨.inl rfl, .inr ⟨rfl,rfl⟩,trivial⟩,trivial⟩ ?_
 refine W.block ?_
 refine W.a9 (fun k σ=>∃(v4 v5 v6 v7 v8 e4 e5 e6 e7 e8:Nat) (rows:Pm.Rows) (clk:Nat),σ=⟨fa [(0,Po x),(4, .ptr 4 v4 0 0),(5, .ptr 5 v5 0 0),(6, .ptr 6 v6 0 0),(7, .ptr 7 v7 0 0),(8, .ptr 8 v8 0 0),(9, .int .i64 ((k:Int)-1))],rows,clk⟩∧k≤x.length ∧
  rows 4=some ⟨v4,e4,2,[[.bool (decide (n<0)),us (a5 LL n.natAbs)]]⟩∧rows 5=some ⟨v5,e5,2,[[.bool (decide (d<0)),us (a5 LL d.natAbs)]]⟩∧rows 6=some ⟨v6,e6,2,[[.bool false, .nil]]⟩ ∧
  rows 7=some ⟨v7,e7,2,[[.bool (decide ((hm n d (x.drop k)).1<0)),us (a5 LL (hm n d (x.drop k)).1.natAbs)]]⟩ ∧
  rows 8=some ⟨v8,e8,2,[[.bool (decide ((hm n d (x.drop k)).2<0)),us (a5 LL (hm n d (x.drop k)).2.natAbs)]]⟩) x.length ?_ ?_
 ·exact⟨_, .refl,_,_,_,_,_,_,_,_,_,_,_,_,rfl,Nat.le_refl _,by simp;(first | exact⟨rfl,rfl⟩ | rfl),by simp;(first | exact⟨rfl,rfl⟩ | rfl),by simp;(first | exact⟨rfl,rfl⟩ | rfl),by rw [alb];simp;(first | exact⟨rfl,rfl⟩ | rfl),by rw [alb];simp;(first | exact⟨rfl,rfl⟩ | rfl)⟩
 rintro k _ ⟨v4,v5,v6,v7,v8,e4,e5,e6,e7,e8,rows,clk,rfl,hkl,fT,gX,mI,E7,lA⟩
 refine aQ [0,4,5,6,7,8,9,15] ?_
 refine bO ?_ ?_<;>intro h
 ·have wQ:0<k:=by simp at h;omega
  obtain⟨k,rfl⟩:∃j,k=j+1:=⟨k-1,by omega⟩
  obtain⟨m1,m2,m3,m4⟩:=M k (by omega)
  generalize hm n d (x.drop (k+1))=A at *
  have e1:(((k+1:Nat):Int)-1).toNat=k:=by omega
  refine iS ?_
  refine W.sd ?_
  simp (disch:=omega) [gw,fT,E7]
  refine aD m1 ?_
  simp (disch:=omega) [gw,lA]
  refine cM m2 ?_
  refine aD m3 ?_
  simp (disch:=omega) [gw,E7]
  (try (refine bU (of_decide_eq_true (by kernel_rfl)) ?_));(try simp (maxSteps:=4000000) (disch:=omega) [gw,E7]);(repeat rw [if_pos (by kernel_rfl)]);(try simp (maxSteps:=4000000) (disch:=omega) [gw,E7])
  refine bF [0,4,5,6,7,8,9] ?_
  refine W.cA (fun K hK=>?_)
  simp (disch:=omega) [gw,lA,gX]
  refine aD m4 ?_
  simp (disch:=omega) [gw,lA]
  refine W.lw [0,4,5,6,7,8,9] hK ?_;clear hK K;simp
  refine W.cA (fun K hK=>?_);simp (disch:=omega) [gw]
  refine hK _ ⟨k,_,aC _ [0,4,5,6,7,8,9],by omega,v4,v5,v6,v7,v8,_,_,_,_,_,_,_,rfl,by omega,by simp [fT];exact rfl,by simp [gX];exact rfl,by simp [mI];exact rfl,by simp;exact rfl,by simp;exact rfl⟩
 ·have wQ:k=0:=by simp at h;omega
  subst wQ
  rw [h0]at E7
  refine eH ?_
  refine W.sr ?_
  simp (disch:=omega) [gw,E7,mI]
  refine bF [6] ?_
  exact cV
theorem NS(v:Int):iG v 0=v.sign:=by
 rcases Int.lt_trichotomy v 0 with h | h | h
 ·rw [Int.sign_eq_neg_one_of_neg h,lM h]
 ·subst h;decide
 ·rw [Int.sign_eq_one_of_pos h,lN h]
theorem NT{x:List Int}{n d:Int}{s k u:Nat}(hx:Bd LL s k x)(cx:Cn x)(hn:sz LL n≤u)(hd:sz LL d≤u)(hu:1≤u)(hk:k<1099511627774)(VL:u<500000000000)(hB:s+k*(u+1)+u<500000000000){q:Rat}(hq:dA n d=q)(sq:sz LL q.num≤u∧sz LL (q.den:Int)≤u):aZ env.P 87 [Po x,T2 n d] (.int .i64 (KJ x q.num q.den)):=by
 have p1:=NQ (n:=n) (d:=d) (Nat.lt_of_le_of_lt hn (by omega)) (Nat.lt_of_le_of_lt hd (by omega))
 rw [hq]at p1
 have n1:=fK (x:=x) (PB.of hx (by omega) (by omega))
 rw [show aG x=x from cx]at n1
 obtain⟨hV,hz⟩:=NR hx sq.1 sq.2 hu (by omega) hB
 have c1:=abo (x:=(hm q.num q.den x).1) (y:=0) hz (show sz LL 0<_ by decide)
 rw [NS,show(hm q.num q.den x).1.sign=KJ x q.num q.den from rfl]at c1
 replace p1:aZ env.P 166 [T2 n d] (T2 q.num q.den):=p1
 generalize KJ x q.num q.den=r at *
 generalize (hm q.num q.den x).1=v at *
 generalize q.num=qn at *
 generalize (q.den:Int)=qd at *
 refine cL [(0,Po x),(1,T2 n d)] Tryz.func87 ?_
 refine aB [0,3] ?_
 refine bT [0,3] p1 ?_
 refine oW ?_
 refine cM n1 ?_
 refine cM hV ?_
 refine c7 [4] c1 ?_
 exact cV
@[simp] theorem WS{l:List PV}:eR (.rd l)=true:=rfl
@[simp] theorem Q1{l:List PV}:bL (.rd l)=true:=rfl
@[simp] theorem WT{l:List PV}:aS (.rd l) = []:=rfl
@[simp] theorem amI{l:List PV}:cW (.rd l) = []:=rfl
@[simp] theorem asA{rows:Pm.Rows}{l:List PV}:fz rows (.rd l) = .rd l:=rfl
@[simp] theorem asB{rows:Pm.Rows}{l:List PV}:pz rows (.rd l) = .rd l:=rfl
end Go.Proofs.YtiobceocpabjdaaGreat
namespace Pm
open Go Go.RowKit
def NU(E:Env)(o:Oper)(K:PS→Prop)(σ:PS):Prop:=
 match o.op with
 | .build t ⟨[(0,x)]⟩=>E.ty t = .struct [(0,1,false)] (E.ty t).zero∧(E.ty t).zero.length=1∧bP (aN σ.f x)=some [aN σ.f x]∧eZ σ.rows (aN σ.f x)∧K (σ.put o.dst (.ag [aN σ.f x]))
 | _=>False
section
variable {E:Env} {w0:World} {S0:cY} {m:Nat} {G:Gs}
theorem H4{o:Oper}{a:Act}{w:World}{σ:PS}{K:PS→Prop}(h:NU E o K σ)(hR:Rel w0 S0 m G σ a w)(hd:∀t,o.dst=some t→t<m)
  {K':Act→World→Prop} {Q:Exit→Act→World→Prop} (hK:∀σ' a' w',K σ'→Rel w0 S0 m G σ' a' w'→K' a' w'):o.wp E.P a w K' Q:=by
 obtain⟨⟨c,rfl,hr,eX,hI,hf,hG⟩,hn,eC⟩:=hR
 have hρ:=jN hf
 obtain⟨dst,op,type,pos,after,guard⟩:=o
 simp only at hd
 unfold NU at h
 simp only at h
 split at h
 ·rename_i t x
  obtain⟨hE,y9,hc,ho,hk⟩:=h
  rw [←hr]at ho
  obtain⟨g1,g2⟩:=jY (hρ x) hc (fun q hq=>by simp at hq;subst hq;exact ho)
  have ht:=E.ok t
  rw [hE]at ht
  obtain⟨⟨fields,hu,ha⟩,hz⟩:=ht
  obtain⟨i,zv,hi,hzv,_,FQ,_⟩:=hz.ok
  have wR:zv.cells.size=1:=by
   have:(zv.cells.toList.map gC).length=1:=by rw [FQ];exact y9
   simpa using this
  have BO:(a.eval x).cells.size=1:=by have:=g1.length;simpa using this.symm
  have xM:=lG 0 (a.eval x).cells.toList 0 zv.cells (by simp;omega)
  have hl:((a.eval x).cells.toList.zipIdx 0).foldl (fun cs (x:Value × Nat)=>cs.setIfInBounds (0+x.2) x.1) zv.cells=(a.eval x).cells:=by
   apply Array.toList_inj.1
   rw [xM]
   have h1:(a.eval x).cells.toList.length=1:=by simpa using BO
   have h2:zv.cells.toList.length=1:=by simpa using wR
   rw [h1]
   simp [List.drop_of_length_le,h2]
  have gG:(execOp a.eval { dst:=dst,op:=.build t ⟨[(0,x)]⟩,type:=type,pos:=pos,after:=after,guard:=guard }).run E.P c.w = .ok (.value (.agg (a.eval x).cells)) c.w:=by
   have abN:Instr.fill (fun x=>(([(0,1,false)]:List (Nat × Nat × Bool)).toArray.map fun x=>(x.1,x.2.1))[x]?) zv.cells [(0,a.eval x)]=some (a.eval x).cells:=by
    have ZY:(([(0,1,false)]:List (Nat × Nat × Bool)).toArray.map fun x=>(x.1,x.2.1))[0]? = some (0,1):=by simp
    simp only [Instr.fill,ZY]
    rw [if_neg (by simp [BO,wR])]
    have hz3:(a.eval x).cells.toList.zipIdx=(a.eval x).cells.zipIdx.toList:=by simp
    have h5:(a.eval x).cells.zipIdx.foldl (fun cs (x:Value × Nat)=>cs.setIfInBounds (0+x.2) x.1) zv.cells=(a.eval x).cells:=by
     rw [←Array.foldl_toList,←hz3];exact hl
    simp only [h5]
   simp only [execOp,Instr.build,zeroValue,typeInfo,program,Sem.run_bind,Sem.run,hi,hzv,Sem.run_pure,Result.andThen_ok,run_underlying hu,run_places ha]
   simp at abN
   simp [abN]
  unfold Oper.wp
  rw [gG]
  refine hK _ _ _ hk ?_
  exact lH hf hG hn eC (oF.refl c) hI (show aF c (.ag [aN σ.f x]) (.agg (a.eval x).cells)from⟨(a.eval x).cells.toList,by simp,g1⟩) hd rfl (by simp [PS.put,hr]) eX
 ·exact h.elim
end
theorem W.afb{E:Env}{n:Nat}{tl:Nat→Nat}{Q:PX→PS→Prop}{σ:PS}{id:Nat}{ops:List Oper}{y:Code}(i:Nat){o o2:Oper}(ho:ops=ops.take i++o::o2::ops.drop (i+2))(hg:o.guard=none)(s0:o2.guard=none)
  (h:∀K:PS→Prop,(∀σ,W E n tl y Q σ→K σ)→go (aH E ops (ops.take i) (fun σ=>D9 E o (fun σ=>NU E o2 (aH E ops (ops.drop (i+2)) K) σ) σ) σ)):W E n tl (.seq (.region id ops.toArray false) y) Q σ:=by
 refine W.seq ?_
 intro fD w0 S0 G a w Q' hR hQ
 simp only [dU,uQ,Bool.and_eq_true]at fD
 have hd:∀o∈ops,∀t,o.dst=some t→t<n:=fun o ho t ht=>by
  have:=Array.all_eq_true_iff_forall_mem.1 fD.1 o (by simpa using ho)
  simpa [ht]using this
 refine wp_region_list ?_
 show wpList E.P ops.toArray Q' ops a w
 have h1:=h (fun σ=>W E n tl y Q σ) fun _ h=>h
 have s6:o∈ops:=by rw [ho];simp
 have alc:o2∈ops:=by rw [ho];simp
 have:=kI (E:=E) (w0:=w0) (S0:=S0) (m:=n) (G:=G) (ops:=ops.toArray) (Q:=Q') (l2:=o::o2::ops.drop (i+2)) (K:=fun σ=>D9 E o (fun σ=>NU E o2 (aH E ops (ops.drop (i+2)) (fun σ=>W E n tl y Q σ)) σ) σ) (fun σ' a' w' hl jP=>by
  unfold wpList
  rw [if_pos (by simp [Region.wanted,hg])]
  refine .inl (vU hl jP (hd o s6) fun σ2 a2 w2 hk hR2=>?_)
  unfold wpList
  rw [if_pos (by simp [Region.wanted,s0])]
  refine .inl (H4 hk hR2 (hd o2 alc) fun σ3 a3 w3 hk3 hR3=>?_)
  exact gI (E:=E) (ops:=ops.toArray) (fun σ4 a4 w4 hk4 hR4=>hQ .normal σ4 a4 w4 hk4 hR4) _ σ3 a3 w3 (fun o ho=>hd o (List.mem_of_mem_drop ho)) hk3 hR3) (ops.take i) σ a w (fun o ho=>hd o (List.mem_of_mem_take ho)) h1 hR
 rwa [←ho]at this
@[simp] theorem amJ{E:Env}{K:PS→Prop}{f:Nat→PV}{rows:Rows}{clk:Nat}{d:Option Tmp}{ty:TypeId}{pos:String}{af:Array Edge}{t:TypeId}{x:Operand} :
  NU E ⟨d, .build t ⟨[(0,x)]⟩,ty,pos,af,none⟩ K ⟨f,rows,clk⟩=aE (E.ty t = .struct [(0,1,false)] (E.ty t).zero∧(E.ty t).zero.length=1) (eB (bP (aN f x)) fun l=>aE (l = [aN f x]∧fG rows [aN f x]) (K ⟨put f d (.ag [aN f x]),rows,clk⟩)):=by
 simp only [NU,aE,eB,fG,PS.put]
 apply propext
 constructor
 ·rintro⟨h1,h2,h3,h4,h5⟩;exact⟨⟨h1,h2⟩,_,h3,⟨rfl,by simpa using h4⟩,h5⟩
 ·rintro⟨⟨h1,h2⟩,l,h3,⟨rfl,h4⟩,h5⟩;exact⟨h1,h2,h3,by simpa using h4,h5⟩
end Pm
namespace Go.Proofs.YtiobceocpabjdaaGreat
open Go Pm
theorem BZ.z{h n:Nat}{a:ZX}(b:BZ h n a)(hh:h<1099511627776):∀c∈a.l,Z c:=fun c hc=>Nat.lt_of_le_of_lt (b.sz c hc) hh
theorem KK{h n:Nat}{a:ZX}(b:BZ h n a)(hh:h<1099511627776)(hn:n<1099511627776):aZ env.P 100 [PI a.l] (Po a.l):=JX a.l (b.z hh) (Nat.lt_of_le_of_lt b.len hn)
end Go.Proofs.YtiobceocpabjdaaGreat
namespace Go.Proofs.YtiobceocpabjdaaGreat
open Go Pm
open ZX hiding N W
theorem KL{a:ZX}(h:2≤ZX.N a):nth (dD a).l (ZX.N a-2)=lead a.l*((ZX.N a-1:Nat):Int):=by
 have h1:a.l.length=ZX.N a:=rfl
 have h2:nth (dD a).l (ZX.N a-2)=nth a.l (ZX.N a-1)*((ZX.N a-1:Nat):Int):=by
  show nth (aG (wE a.l)) _=_
  rw [iK,wE,dP (by simp;omega)]
  simp only [List.getElem_map,List.getElem_range]
  rw [show ZX.N a-2+1=ZX.N a-1 by omega]
 rw [h2,lead,h1]
theorem UF{a:ZX}(h:2≤ZX.N a):ZX.N (dD a)=ZX.N a-1:=by
 have h1:=nU a
 have h2:=KL h
 have hl:=dR a.c (show 0<a.l.length from by have:a.l.length=ZX.N a:=rfl;omega)
 have h3:nth (dD a).l (ZX.N a-2)≠0:=by rw [h2];exact Int.mul_ne_zero hl (by omega)
 rcases Nat.lt_or_ge (ZX.N a-2) (dD a).l.length with h4 | h4
 ·have:ZX.N (dD a)=(dD a).l.length:=rfl
  omega
 ·exact absurd (gL h4) h3
theorem UG{a:ZX}(h:2≤ZX.N a):lead (dD a).l=lead a.l*((ZX.N a-1:Nat):Int):=by
 rw [←KL h,lead,show(dD a).l.length=ZX.N (dD a)from rfl,UF h,show ZX.N a-1-1=ZX.N a-2 by omega]
theorem NV{a:ZX}(h:ZX.N a≤1):dD a=0:=by
 refine Classical.byContradiction fun h0=>?_
 have h1:=ZX.aK.1 h0
 have:=nU a
 omega
theorem ZM{f:ZX}(hf:Nf f):nQ (dD f).l=(wL (dD f)).l:=by
 have h:¬lead (dD f).l<0:=by
  rcases Nat.lt_or_ge (ZX.N f) 2 with h2 | h2
  ·rw [NV (by omega)];decide
  ·rw [UG h2]
   have:=Int.mul_nonneg (Int.le_of_lt hf.l) (show (0:Int)≤((ZX.N f-1:Nat):Int)by omega)
   omega
 show _=jL (dD f).l
 rw [EB,if_neg h]
theorem ZN{α:Type}{g:α→List PV}{l:List α}{s n:Nat}{f:ZX}(hS:aZ env.P 70 [aX g l] (Po f.l))(h:Ch s n f)(hf:Nf f):aZ env.P 69 [aX g l] (.eQ [CH (OG f), .int .i64 0]):=by
 have hn:=h.hn
 have hp:=h.pot
 have hs:=hp.le
 have bd:BZ (s+5) n (dD f):=h.bz.dD (by omega)
 have d1:=pR h.bz (by omega) (by omega)
 have d2:=oZ ((dD f).l.map jU) (bd.tP (by omega) (by omega)) (s:=s+5) (n:=n) (by rw [bC];exact OE bd) (by omega) (by omega)
 rw [sV,←fB,ZM hf]at d2
 have b2:BZ (s+5) n (wL (dD f)):=jF bd
 have b1:BZ (s+5) n f:=h.bz.mono (by omega) (Nat.le_refl _)
 have JQ:ZX.N (wL (dD f))≤ZX.N f:=Nat.le_trans (lB _) (Nat.le_trans (nU f) (by omega))
 have hc:OG f=f::xH (ZX.N f) f (wL (dD f)):=rfl
 rw [wM JQ (Nat.le_refl _)]at hc
 have hf0:f.l.length≠0:=by have:=ZX.aK.1 hf.ne;exact Nat.pos_iff_ne_zero.1 this
 have hf1:¬f.l = []:=fun h0=>hf0 (by rw [h0];rfl)
 generalize hC:OG f=C at *
 generalize wL (dD f)=g0 at *
 generalize i3 (dD f).l=pc at *
 generalize (dD f).l=dl at *
 refine cL [(0,aX g l)] Tryz.func69 ?_
 refine aB [0] ?_
 refine bT [4] hS ?_
 refine aQ [4,14] ?_
 refine bO ?_ ?_<;>intro h
 ·simp at h;exact absurd h hf1
 refine W.skip ?_
 refine W.afb 1 rfl rfl rfl (fun K hK=>?_)
 simp (disch:=omega) [gw]
 refine W.lw [4,5] hK ?_;clear hK K;simp
 refine j1 ?_
 refine cM d1 ?_
 refine c7 [4,5,7] d2 ?_
 refine W.seq ?_
 refine W.block ?_
 refine W.a9 (fun k σ=>∃(L:List ZX) (x y:ZX) (i ver v18 e18 s:Nat) (rows:Pm.Rows) (clk:Nat),σ=⟨fa [(4,Po x.l),(5, .ptr 18 v18 0 0),(7,Po y.l)],rows,clk⟩∧rows 16=some ⟨ver,24,1,emap zp L⟩∧rows 18=some ⟨v18,e18,1,[[.own 16 ver 0 (i+1)]]⟩∧L.length=i+1 ∧
  L++xH k x y=C∧k=ZX.N y∧BZ s n x∧BZ s n y∧BB 4500000000 n s x y∧i+ZX.N y≤20) (ZX.N g0) ?_ ?_
 ·exact⟨_, .refl,[f],f,g0,0,_,_,_,s+5,_,_,rfl,by simp [emap];(first | exact rfl | exact⟨rfl,rfl⟩),by simp;(first | exact rfl | exact⟨rfl,rfl⟩ | exact⟨rfl,rfl,rfl⟩),rfl,hc.symm,rfl,b1,b2,hp,by have:=b2.N;omega⟩
 rintro k _ ⟨L,x,y,i,ver,v18,e18,s,rows,clk,rfl,UH,afc,hL,hcc,rfl,bx,mH,hp,hiN⟩
 have hs:=hp.le
 have XV:=bx.len
 have hly:=mH.len
 have hLl:(emap zp L).length=i+1:=by simp [emap,hL]
 refine aQ [4,5,7,27] ?_
 refine bO ?_ ?_<;>intro h
 ·have hy:y≠0:=ZX.aK.2 (by show 0<y.l.length;simp at h;omega)
  have hR:=D8 (x.l.map jU) (y.l.map jU) (bx.tP (by omega) (by omega)) (mH.tP (by omega) (by omega)) (s:=s) (s':=s) (N:=n) (by rw [bC];exact OE bx) (by rw [bC];exact OE mH) (by
   have:n*(s+n+1)≤20*4500000000:=Nat.mul_le_mul hn hs
   omega)
  rw [sV,sV,if_neg (A6 hy),←fB,←fB]at hR
  have br:=KI bx mH hy
  have abM:(ZX.N x+1-ZX.N y)*(s+n+1)≤22*4500000000:=Nat.mul_le_mul (by have:ZX.N x=x.l.length:=rfl;omega) (by omega)
  have hrz:D6 x.l y.l=(wL (rz x y)).l:=by
   obtain⟨RG,hN,_⟩:=q9 (a:=x) hy
   obtain⟨m,q,hm,e⟩:=T8 y.c (ZX.aK.1 hy) (x.l.length+1) x.l x.c (by omega)
   rw [←RG]at e
   exact T9 x.c y.c (ZX.aK.1 hy) (rz x y).c hN hm e
  rw [hrz]at hR
  have hNg:=yO (x:=(wL (rz x y)).l) (PB.of (OE (jF br)) (by omega) (by omega))
  have e3:fC (wL (rz x y)).l=(nx x y).l:=rfl
  rw [e3]at hNg
  have JQ:=ZG (a:=x) hy
  have VG:=hp.step JQ
  have bn:=UA bx mH hy
  have hch:L ++ [y]++xH (ZX.N (nx x y)) y (nx x y)=C:=by
   rw [←hcc]
   obtain⟨j,hj⟩:∃j,ZX.N y=j+1:=⟨ZX.N y-1,by have:=ZX.aK.1 hy;have:ZX.N y=y.l.length:=rfl;omega⟩
   rw [hj,xH,if_neg (by omega),wM (k:=j) (j:=ZX.N (nx x y)) (by omega) (Nat.le_refl _)]
   simp
  generalize (wL (rz x y)).l=pl at *
  generalize hnx:nx x y=nn at *
  refine W.skip ?_
  refine W.block ?_
  refine W.sr ?_
  simp (disch:=omega) [gw,UH,afc,hLl]
  refine bF [4,5,7] ?_
  refine bT [5,7,8] hR ?_
  refine W.cA (fun K hK=>?_)
  simp (disch:=omega) [gw]
  refine cM hNg ?_
  refine hK _ ⟨ZX.N nn,_,aC _ [4,5,7],JQ,L ++ [y],y,nn,i+1,_,v18,e18,_,_,_,rfl,by simp;first | exact rfl | skip,by simp;first | exact rfl | skip,by simp [hL],hch,rfl,mH.mono (by omega) (Nat.le_refl _),bn,VG,by omega⟩
 ·have hy:y=0:=by
   refine Classical.byContradiction fun h0=>?_
   have h1:=ZX.aK.1 h0
   have h2:ZX.N y=y.l.length:=rfl
   simp at h;rw [h2,h]at h1;simp at h1
  subst hy
  rw [lC,List.append_nil]at hcc
  subst hcc
  have K5:List.take (i+1) L=L:=List.take_of_length_le (by omega)
  refine eH ?_
  refine W.WZ 16 (by rw [UH];simp) (fun K hK=>?_)
  simp [UH]
  refine hK _ ?_
  have ale:xE rows 16 18=some ⟨v18,e18,1,[[aX zp L]]⟩:=by
   simp [afc,UH,hLl,K5]
  clear UH afc
  generalize xE rows 16=qN at *
  refine aB [2,3] ?_
  refine W.ret ?_
  simp [go,ale]
theorem UI{n:Nat}(hn:n≤20):∀(j s:Nat) (x g:ZX),BZ s n x→BZ s n g→BB 4500000000 n s x g → ∀p∈xH j x g,BZ 4500000000 n p
 | 0,_,_,_,_,_,_,p,hp=>by cases hp
 | j+1,s,x,g,bx,bg,hP,p,hp=>by
  have hs:=hP.le
  rw [xH]at hp
  split at hp
  ·cases hp
  ·rename_i h0
   have h0':g≠0:=ZX.aK.2 (Nat.pos_of_ne_zero h0)
   rcases List.mem_cons.1 hp with rfl | hp
   ·exact bg.mono (by omega) (Nat.le_refl _)
   ·exact UI hn j _ g (nx x g) (bg.mono (by omega) (Nat.le_refl _)) (UA bx bg h0') (hP.step (ZG h0')) p hp
theorem KM:∀(j:Nat) (x g:ZX),(xH j x g).length≤j
 | 0,_,_=>Nat.le_refl _
 | j+1,x,g=>by
  rw [xH]
  split
  ·simp
  ·simp only [List.length_cons];have:=KM j g (nx x g);omega
theorem Ch.all{s n:Nat}{f:ZX}(h:Ch s n f):(∀p∈OG f,BZ 4500000000 n p)∧(OG f).length≤21:=by
 have hp:=h.pot
 have hs:=hp.le
 have hn:=h.hn
 refine⟨fun p hq=>?_,?_⟩
 ·rcases List.mem_cons.1 hq with rfl | hq
  ·exact h.bz.mono (by omega) (Nat.le_refl _)
  ·exact UI hn _ _ _ _ (h.bz.mono (by omega) (Nat.le_refl _)) (jF (h.bz.dD (by omega))) hp p hq
 ·have:=KM (ZX.N f) f (wL (dD f))
  have h2:=h.bz.N
  show(f::xH (ZX.N f) f (wL (dD f))).length≤21
  simp only [List.length_cons];omega
theorem rA(q:Rat):dA q.num q.den=q:=by
 rw [dA,if_neg (by have:=q.den_nz;omega)]
 exact Rat.num_divInt_den q
structure SQ(u:Nat)(q:Rat):Prop where
 n2:sz 2 q.num≤u
 d2:sz 2 (q.den:Int)≤u
 hu:1≤u
theorem SQ.nL{u:Nat}{q:Rat}(h:SQ u q):sz LL q.num≤u:=Nat.le_trans (wK _) h.n2
theorem SQ.dL{u:Nat}{q:Rat}(h:SQ u q):sz LL (q.den:Int)≤u:=Nat.le_trans (wK _) h.d2
structure MK(a:ZX)(c:List ZX):Prop where
 to:aZ env.P 100 [PI a.l] (Po a.l)
 new:aZ env.P 69 [Po a.l] (.eQ [CH c, .int .i64 0])
 chain:aZ env.P 81 [PI a.l] (aX zq c)
 bd:∀p∈c,BZ 4500000000 20 p
 len:c.length≤21
theorem MK.of{s n:Nat}{a:ZX}(h:tU s n a)(h0:a≠0)(VH:1≤n)(h1:1≤s):MK a (OG (sq a)):=by
 have hC:=h.ch h0 VH
 obtain⟨hb,hl⟩:=hC.all
 have hqb:=h.sW
 have hs:s<1099511627776:=by unfold qb at hqb;omega
 have hn:=h.hn
 exact⟨KK h.bz hs (by omega),ZN (H0 h) hC (UC h0).1,wN h h0 VH h1,fun p hp=>(hb p hp).mono (Nat.le_refl _) hn,hl⟩
def UJ(t:Rat):ZX:=of [-t.num,(t.den:Int)]
theorem afd(t:Rat):ZX.N (UJ t)=2:=by
 have:aG [-t.num,(t.den:Int)] = [-t.num,(t.den:Int)]:=fA (x:=(t.den:Int)) (by have:=t.den_nz;omega) [-t.num]
 show(aG [-t.num,(t.den:Int)]).length=2
 rw [this];rfl
end Go.Proofs.YtiobceocpabjdaaGreat
namespace Pm
namespace ZX
def Cop(a b:ZX):Prop:=∀d,dv d a→dv d b→N d≤1
structure SqF(f:ZX)(v:Rat→Nat):Prop where
 ne:f≠0
 cop:Cop f (dD f)
 g:∃L,ZK L f∧v=vt L
namespace SqF
variable {f:ZX} {v:Rat→Nat} (S:SqF f v)
include S
theorem root{s t:Rat}(FX:s<t)(h0:e t f=0):v t<v s:=by
 obtain⟨L,G,rfl⟩:=S.g
 exact G.root FX h0
end SqF
structure IsA(f:ZX)(v:Rat→Nat)(lo hi:Rat):Prop where
 S:SqF f v
 k:(lo=hi∧e lo f=0)∨(lo<hi∧v lo=v hi+1)
def alf(v:Rat→Nat)(lo hi t:Rat):Prop:=hi≤t∨(lo<t∧v t<v lo)
namespace IsA
variable {f:ZX} {v:Rat→Nat} {lo hi:Rat} (A:IsA f v lo hi)
include A
theorem exact(h:e hi f=0):IsA f v hi hi ∧ ∀t,alf v hi hi t↔alf v lo hi t:=by
 refine⟨⟨A.S, .inl ⟨rfl,h⟩⟩,fun t=>⟨?_,?_⟩⟩
 ·rintro(h3 | ⟨h3,_⟩)
  ·exact .inl h3
  ·exact .inl (by grind)
 ·rintro(h3 | ⟨h3,h4⟩)
  ·exact .inl h3
  ·refine .inl (Rat.not_lt.1 fun h5=>?_)
   have h6:=A.S.root h5 h
   rcases A.k with ⟨h7,_⟩ | ⟨_,h7⟩
   ·grind
   ·omega
end IsA
end ZX
end Pm
namespace Pm
open Go Go.RowKit
section
variable {E:Env} {m:Nat} {G:Gs} {w0:World} {S0:cY}
def mx3(p q r:PV)(K:PV→Prop):Prop:=∃k a b c,p = .int k a∧q = .int k b∧r = .int k c∧K (.int k (max (max a b) c))
@[simp] theorem amN{k:IntKind}{a b c:Int}{K:PV→Prop}:mx3 (.int k a) (.int k b) (.int k c) K=K (.int k (max (max a b) c)):=by
 apply propext
 constructor
 ·rintro⟨k',a',b',c',h1,h2,h3,h⟩
  cases h1;cases h2;cases h3;exact h
 ·exact fun h=>⟨k,a,b,c,rfl,rfl,rfl,h⟩
def alg(o:Oper)(K:PS→Prop)(σ:PS):Prop:=
 match o.op with
 | .call { callee:=.builtin .max,args:=⟨[x,y,z]⟩,argTypes:=_ }=>mx3 (aN σ.f x) (aN σ.f y) (aN σ.f z) fun v=>K (σ.put o.dst v)
 | _=>False
end
@[simp] theorem alh{K:PS→Prop}{f:Nat→PV}{rows:Rows}{clk:Nat}{d:Option Tmp}{ty:TypeId}{pos:String}{af:Array Edge}{ts:Array TypeId}{x y z:Operand} :
  alg ⟨d, .call { callee:=.builtin .max,args:=⟨[x,y,z]⟩,argTypes:=ts },ty,pos,af,none⟩ K ⟨f,rows,clk⟩=mx3 (aN f x) (aN f y) (aN f z) fun v=>K ⟨put f d v,rows,clk⟩:=rfl
end Pm
namespace Go.Proofs.YtiobceocpabjdaaGreat
open Go Pm
open ZX hiding N W
structure Gr(D:Nat)(B:Rat)(j:Nat)(q:Rat):Prop where
 z:∃z:Int,q*((D*2^j:Nat):Int)=(z:Rat)
 b:Ab q B
theorem Gr.OB{D:Nat}{B p q:Rat}{j:Nat}(hp:Gr D B j p)(hq:Gr D B j q):Gr D B (j+1) ((p+q)/2):=by
 obtain⟨⟨y,hy⟩,b1,b2⟩:=hp
 obtain⟨⟨z,hz⟩,b3,b4⟩:=hq
 have h1:(p+q)/2*2=p+q:=Rat.div_mul_cancel (by decide)
 refine⟨⟨y+z,?_⟩,by grind,by grind⟩
 rw [Rat.intCast_add,←hy,←hz,Nat.pow_succ,←Nat.mul_assoc,Int.natCast_mul (D*2^j),Rat.intCast_mul]
 have h2:(((2:Nat):Int):Rat)=2:=rfl
 rw [h2]
 generalize (((D*2^j:Nat):Int):Rat)=M at *
 grind
abbrev tc(q:Rat):List PV:=[.bool (decide (q.num<0)),us (a5 LL q.num.natAbs), .bool (decide ((q.den:Int)<0)),us (a5 LL (q.den:Int).natAbs)]
def ga(f:ZX)(p:Rat × Rat):List PV:=Po f.l::(tc p.1++tc p.2)
@[simp] theorem apY{f:ZX}{p:Rat × Rat}:ga f p=Po f.l::(tc p.1++tc p.2):=rfl
@[simp] theorem ahc{f:ZX}{l:List (Rat × Rat)}:a8 9 (emap (ga f) l)=True:=bQ fun _=>rfl
@[simp] theorem afe{v e n:Nat}{f:ZX}{l:List (Rat × Rat)}:cB (some ⟨v,e,n,emap (ga f) l⟩)=True:=bR fun _=>rfl
theorem SQ.tor{u:Nat}{p:Rat}(hp:SQ u p)(hu:u≤YY):aZ env.P 23 [RR p] (RT p):=by
 rw [T7]
 have h1:=hp.n2;have h2:=hp.d2
 exact ZL (by simp only [Z,YY]at *;omega) (by simp only [Z,YY]at *;omega)
def l1(x:List Int):Nat:=(x.map Int.natAbs).sum
theorem ZO(a:Int)(x:List Int):l1 (a::x)=a.natAbs+l1 x:=by simp [l1]
def n1(a:ZX):Nat:=l1 a.l
theorem UK:∀ {x:List Int} {c:Int},c∈x→c.natAbs≤l1 x
 | a::x,c,h=>by
  rw [ZO]
  rcases List.mem_cons.1 h with rfl | h
  ·omega
  ·have:=UK h;omega
theorem BZ.ali{s n:Nat}{a:ZX}(h:n1 a<2^s)(hn:ZX.N a≤n):BZ s n a:=⟨hn,fun c hc=>cX (by decide) (Nat.lt_of_le_of_lt (UK hc) h)⟩
abbrev rc(q:Rat):List PV:=[aX aO (a5 DD q.num.natAbs), .bool (decide (q.num<0)),aX aO (a5 DD (q.den:Int).natAbs), .bool (decide ((q.den:Int)<0))]
def qa(f:ZX)(c:List ZX)(p:Rat × Rat):List PV:=PI f.l::aX zq c::(rc p.1++rc p.2)
@[simp] theorem apZ{f:ZX}{c:List ZX}{p:Rat × Rat}:qa f c p=PI f.l::aX zq c::(rc p.1++rc p.2):=rfl
@[simp] theorem ahd{f:ZX}{c:List ZX}{l:List (Rat × Rat)}:a8 10 (emap (qa f c) l)=True:=bQ fun _=>rfl
@[simp] theorem aff{v e n:Nat}{f:ZX}{c:List ZX}{l:List (Rat × Rat)}:cB (some ⟨v,e,n,emap (qa f c) l⟩)=True:=bR fun _=>rfl
abbrev G9(x:List Int)(an ad bn bd:Int):List PV:=[Po x, .bool (decide (an<0)),us (a5 LL an.natAbs), .bool (decide (ad<0)),us (a5 LL ad.natAbs), .bool (decide (bn<0)),us (a5 LL bn.natAbs), .bool (decide (bd<0)),us (a5 LL bd.natAbs)]
def NW(sg:ZX→Int):Nat→ZX→Int
 | 0,_=>0
 | k+1,p=>if sg p=0 then NW sg k (dD p)else sg p
theorem lE{sg:ZX→Int}(h0:sg 0=0):∀k,NW sg k 0=0
 | 0=>rfl
 | k+1=>by
  have h1:dD 0=0:=rfl
  rw [NW,if_pos h0,h1,lE h0 k]
theorem UL{sg:ZX→Int}(h0:sg 0=0):∀ {k j:Nat} {p:ZX},ZX.N p≤k→ZX.N p≤j→NW sg k p=NW sg j p
 | 0,j,p,h,_=>by
  have:p=0:=Classical.byContradiction fun h0=>by have:=ZX.aK.1 h0;omega
  rw [this,lE h0,lE h0]
 | k+1,0,p,_,h=>by
  have:p=0:=Classical.byContradiction fun h0=>by have:=ZX.aK.1 h0;omega
  rw [this,lE h0,lE h0]
 | k+1,j+1,p,h1,h2=>by
  rw [NW,NW]
  have:=nU p
  rw [UL h0 (k:=k) (j:=j) (p:=dD p) (by omega) (by omega)]
theorem H5(g:FuncId)(hw:G3 g=false)(b8:List PV)(hc:b8.all eR=true)(sg:ZX→Int)(h0:sg 0=0){s k:Nat}{p:ZX}(hp:BZ s k p)(hk:k≤31)(hs:s≤1000000)(hg:∀(q:ZX) (s':Nat),s'≤s+5*k→BZ s' k q→aZ env.P g (Po q.l::b8) (.int .i64 (sg q))) :
  aZ env.P 244 [Po p.l, .fn g b8] (.int .i64 (NW sg (ZX.N p) p)):=by
 have hN:=hp.N
 have N1:=fK (x:=p.l) (hp.pb (by omega) (by omega))
 rw [p.c]at N1
 obtain⟨r,hr⟩:∃r,r=NW sg (ZX.N p) p:=⟨_,rfl⟩
 rw [←hr]
 refine cL [(0,Po p.l),(1, .fn g b8)] Tryz.func244 ?_
 refine aB [0,1] ?_
 refine W.seq ?_
 refine bT [0,1] N1 ?_
 refine W.block ?_
 refine W.a9 (fun m σ=>∃(q:ZX) (s':Nat) (rows:Pm.Rows) (clk:Nat),σ=⟨fa [(0,Po q.l),(1, .fn g b8)],rows,clk⟩∧m=ZX.N q∧BZ s' k q∧s'+5*ZX.N q≤s+5*k∧NW sg (ZX.N q) q=r) (ZX.N p) ?_ ?_
 ·exact⟨_, .refl,p,s,_,_,rfl,rfl,hp,by omega,hr.symm⟩
 rintro m _ ⟨q,s',rows,clk,rfl,rfl,bq,hsq,hq⟩
 have hNq:=bq.N
 have hNl:ZX.N q=q.l.length:=rfl
 refine aQ [0,1,10] ?_
 refine bO ?_ ?_<;>intro h
 ·have OA:q≠0:=ZX.aK.2 (by show 0<q.l.length;simp at h;omega)
  have hgq:=hg q s' (by omega) bq
  have hD:=pR bq (by omega) (by omega)
  have ap0:ZX.N (dD q)<ZX.N q:=by have:=nU q;have:=ZX.aK.1 OA;omega
  have bd:=bq.dD hk
  obtain⟨j,hj⟩:∃j,ZX.N q=j+1:=⟨ZX.N q-1,by have:=ZX.aK.1 OA;omega⟩
  rw [hj,NW]at hq
  generalize hv:sg q=w at *
  refine iS ?_
  refine W.sr ?_
  simp only [G3]at hw
  simp (disch:=omega) [gw,hw,hc]
  refine c7 [0,1,5] hgq ?_
  refine aB [0,1,5,17] ?_
  refine bO ?_ ?_<;>intro h
  ·have hw:w≠0:=by simpa using h
   rw [if_neg hw]at hq
   subst hq
   refine aB [4] ?_
   exact cV
  ·have hw:w=0:=by simpa using h
   rw [if_pos hw]at hq
   refine W.skip ?_
   refine W.cA (fun K hK=>?_)
   simp (disch:=omega) [gw]
   refine cM hD ?_
   refine hK _ ⟨ZX.N (dD q),_,aC _ [0,1],ap0,dD q,s'+5,_,_,rfl,rfl,bd,by omega,?_⟩
   rw [←hq]
   exact UL h0 (Nat.le_refl _) (by omega)
 ·have OA:q=0:=by
   refine Classical.byContradiction fun h0=>?_
   have h1:=ZX.aK.1 h0
   simp at h;rw [hNl,h]at h1;simp at h1
  subst OA
  rw [lE h0]at hq
  subst hq
  refine eH ?_
  refine aB [4] ?_
  exact cV
theorem KN(n d:Int):∀(k:Nat) (p:ZX),NW (fun q=>KJ q.l n d) k p=EU n d k p
 | 0,_=>rfl
 | k+1,p=>by rw [NW,EU,KN n d k (dD p)]
theorem afg(t:Rat):(UJ t).l = [-t.num,(t.den:Int)]:=fA (x:=(t.den:Int)) (by have:=t.den_nz;omega) [-t.num]
theorem afh{x:List Int}{C:List ZX}{n d:Int}(hT:aZ env.P 100 [PI x] (Po x))(hr:aZ env.P 23 [R2 n d] (T2 n d)):aZ env.P 29 [AP x C n d] (.ag (G9 x n d n d)):=by
 simp only [AP,G9]
 refine cL [(0,AP x C n d)] Tryz.func29 ?_
 refine aB [1,2] ?_
 refine oW ?_
 refine cM hT ?_
 refine cM hr ?_
 refine aD hr ?_
 (try (refine bU (of_decide_eq_true (by kernel_rfl)) ?_));(try simp (maxSteps:=4000000) (disch:=omega) [gw]);(repeat rw [if_pos (by kernel_rfl)]);(try simp (maxSteps:=4000000) (disch:=omega) [gw])
 refine bF [2] ?_
 exact cV
theorem ZP{x:List Int}{n d:Int}(hN:aZ env.P 64 [Po x] (Po x))(hM:aZ env.P 90 [T2 n d, .sl []] (T2 n d)):aZ env.P 192 [.ag (G9 x n d n d)] (.ag (G9 x n d n d)):=by
 simp only [G9]
 refine cL [(0, .ag (G9 x n d n d))] Tryz.func192 ?_
 refine aB [1,2] ?_
 refine oW ?_
 refine cM hN ?_
 refine cM hM ?_
 refine aD hM ?_
 (try (refine bU (of_decide_eq_true (by kernel_rfl)) ?_));(try simp (maxSteps:=4000000) (disch:=omega) [gw]);(repeat rw [if_pos (by kernel_rfl)]);(try simp (maxSteps:=4000000) (disch:=omega) [gw])
 refine bF [2] ?_
 exact cV
theorem NX{x:List Int}{n d:Int}(hc:aZ env.P 86 [T2 n d,T2 n d] (.int .i64 0)):aZ env.P 193 [.ag (G9 x n d n d)] (.bool true):=by
 simp only [G9]
 refine cL [(0, .ag (G9 x n d n d))] Tryz.func193 ?_
 refine aB [1] ?_
 refine bT [2] hc ?_
 exact cV
theorem UM{q x:List Int}{n d r:Int}(hl:q.length<1000000)(hr:q.length=0→r=0)(hq:aZ env.P 64 [Po q] (Po q))(hN:aZ env.P 64 [Po x] (Po x))(hM:aZ env.P 90 [T2 n d, .sl []] (T2 n d))(hc:aZ env.P 86 [T2 n d,T2 n d] (.int .i64 0))(hs:aZ env.P 87 [Po q,T2 n d] (.int .i64 r)) :
  aZ env.P 246 [Po q, .ag (G9 x n d n d)] (.int .i64 r):=by
 have k1:=ZP hN hM
 have k2:=NX (x:=x) hc
 simp only [G9]at k1 k2 ⊢
 refine cL [(0,Po q),(1, .ag (G9 x n d n d))] Tryz.func246 ?_
 refine aB [0,3] ?_
 refine oW ?_
 refine cM hq ?_
 refine aD k1 ?_
 (try (refine bU (of_decide_eq_true (by kernel_rfl)) ?_));(try simp (maxSteps:=4000000) (disch:=omega) [gw]);(repeat rw [if_pos (by kernel_rfl)]);(try simp (maxSteps:=4000000) (disch:=omega) [gw])
 (try (refine bU (of_decide_eq_true (by kernel_rfl)) ?_));(try simp (maxSteps:=4000000) (disch:=omega) [gw]);(repeat rw [if_pos (by kernel_rfl)]);(try simp (maxSteps:=4000000) (disch:=omega) [gw])
 refine bF [0,3] ?_
 refine W.seq ?_
 by_cases h0:q.length=0
 ·rw [hr h0]
  refine aB [0,3,14] ?_
  refine bO ?_ ?_<;>intro h
  ·refine aB [4] ?_
   exact cV
  ·simp at h;exact absurd (List.eq_nil_of_length_eq_zero h0) h
 ·refine aB [0,3,14] ?_
  refine bO ?_ ?_<;>intro h
  ·simp at h;rw [h]at h0;exact absurd rfl h0
  refine W.skip ?_
  refine W.seq ?_
  refine bT [0,3,16] k2 ?_
  refine bO ?_ ?_<;>intro h
  ·refine bT [4] hs ?_
   exact cV
  ·simp at h
theorem afi{s k:Nat}{p:ZX}{x:List Int}{n d:Int}(hp:BZ s k p)(hk:k≤31)(hs:s≤1000000)(hN:aZ env.P 64 [Po x] (Po x))(hM:aZ env.P 90 [T2 n d, .sl []] (T2 n d))(hc:aZ env.P 86 [T2 n d,T2 n d] (.int .i64 0))(hsg:∀(q:ZX) (s':Nat),s'≤s+5*k→BZ s' k q→aZ env.P 87 [Po q.l,T2 n d] (.int .i64 (KJ q.l n d))) :
  aZ env.P 185 [Po p.l, .ag (G9 x n d n d)] (.int .i64 (aft n d p)):=by
 have h1:∀(q:ZX) (s':Nat),s'≤s+5*k→BZ s' k q→aZ env.P 245 [Po q.l, .rd (G9 x n d n d)] (.int .i64 (KJ q.l n d)):=fun q s' BI bq=>by
  have N1:=fK (x:=q.l) (bq.pb (by omega) (by omega))
  rw [q.c]at N1
  have k6:=UM (q:=q.l) (x:=x) (r:=KJ q.l n d) (by have:=bq.N;show ZX.N q<_;omega) (fun h=>by rw [List.eq_nil_of_length_eq_zero h];rfl) N1 hN hM hc (hsg q s' BI bq)
  simp only [G9]at k6 ⊢
  generalize KJ q.l n d=r at *
  refine cL [(0,Po q.l),(1, .rd (G9 x n d n d))] Tryz.func245 ?_
  refine aB [0,1] ?_
  refine bT [3] k6 ?_
  exact cV
 have F1:=H5 245 rfl [.rd (G9 x n d n d)] rfl (fun q=>KJ q.l n d) rfl hp hk hs h1
 rw [KN]at F1
 replace F1:aZ env.P 244 [Po p.l, .fn 245 [.rd (G9 x n d n d)]] (.int .i64 (aft n d p)):=F1
 simp only [G9]at F1 ⊢
 generalize aft n d p=r at *
 refine cL [(0,Po p.l),(1, .ag (G9 x n d n d))] Tryz.func185 ?_
 refine aB [0,3] ?_
 refine bT [4] F1 ?_
 exact cV
theorem EZ:aZ env.P 187 [.int .i64 1] (.int .i64 2):=by
 refine cL [(0, .int .i64 1)] Tryz.func187 ?_
 refine aB [0] ?_
 refine aQ [3] ?_
 refine W.block ?_
 refine W.gK (fun σ=>∃(rows:Pm.Rows) (clk:Nat),σ=⟨fa [(3, .int .i64 1),(4, .bool true)],rows,clk⟩) ?_ ?_
 ·refine aB [3,4] ?_
  refine bO ?_ ?_<;>intro h
  ·refine W.skip ?_
   exact⟨_,aC _ [3,4],_,_,rfl⟩
  ·simp at h
 rintro _ ⟨rows,clk,rfl⟩
 refine bO ?_ ?_<;>intro h
 ·refine aB [2] ?_
  exact cV
 ·simp at h
theorem H6{X Y:List Int}(hX:X.length<1099511627776):aZ env.P 188 [Po X,Po Y] (Po (if X = []then Y else X)):=by
 refine cL [(0,Po X),(1,Po Y)] Tryz.func188 ?_
 refine aB [0,1] ?_
 refine aQ [0,1,7] ?_
 refine bO ?_ ?_<;>intro h
 ·have h:X ≠ []:=by rintro rfl;simp at h
  rw [if_neg h]
  refine aB [4] ?_
  exact cV
 ·have h:X = []:=by simpa using h
  rw [if_pos h]
  refine W.skip ?_
  refine aB [4] ?_
  exact cV
set_option maxHeartbeats 2000000 in
theorem H7{a b:PT}{x X Y P:List Int}{an ad bn bd w:Int}(hX:X.length<1099511627776)(hP:P=if X = []then Y else X)(h1:aZ env.P 103 [.ag a.c.cells, .ag b.c.cells] (Po X))(h2:aZ env.P 104 [.ag a.c.cells, .ag b.c.cells] (Po Y))(hA:aZ env.P 185 [Po P, .ag (G9 x an ad bn bd)] (.int .i64 w)) :
  aZ env.P 105 [.int .i64 1, .ag (G9 x an ad bn bd),aX NL [a,b]] (.eQ [.ag (jK ⟨⟨1,a.id,b.id,0,0⟩,false,P,w⟩), .int .i64 0]):=by
 have e1:=H6 (X:=X) (Y:=Y) hX
 rw [←hP]at e1
 have p1:=EZ
 have hL:(aX NL [a,b]) = .sl [NL a,NL b]:=rfl
 simp only [RC.cS,G9,eO]at *
 refine cL [(0, .int .i64 1),(1, .ag (G9 x an ad bn bd)),(2,aX NL [a,b])] Tryz.func105 ?_
 simp only [G9]
 refine aB [0,2,4,6] ?_
 refine W.seq ?_
 refine bT [0,2,4,6,15] p1 ?_
 refine bO ?_ ?_<;>intro h
 ·simp at h
 ·refine W.skip ?_
  refine aB [0,2,4,6,8] ?_
  refine aQ [0,2,4,6,8,20,21,22] ?_
  refine W.block ?_
  refine W.a9 (fun k σ=>∃(j:Nat) (rows:Pm.Rows) (clk:Nat),σ=⟨fa [(0, .int .i64 1),(2,aX NL [a,b]),(4, .ptr 4 0 0 0),(6, .ptr 6 1 0 0),(8, .ptr 8 2 0 0),(20,aX NL [a,b]),(21, .int .i64 2),(22, .int .i64 j)],rows,clk⟩∧j+k=2∧rows 4=some ⟨0,54,9,[G9 x an ad bn bd]⟩∧rows 6=some ⟨1,82,7,[[.int .i64 0, .int .i64 0, .int .i64 0, .int .i64 0, .int .i64 0, .nil, .int .i64 0]]⟩∧rows 8=some ⟨2,82,7,[[.int .i64 1, .int .i64 (if 0<j then a.id else 0), .int .i64 (if 1<j then b.id else 0), .int .i64 0, .int .i64 0, .nil, .int .i64 0]]⟩) 2 ?_ ?_
  ·exact⟨_, .refl,0,_,_,rfl,rfl,by simp,by simp,by simp⟩
  rintro k _ ⟨j,rows,clk,rfl,hj,fT,mI,lA⟩
  refine cH [0,2,4,6,8,20,21,22,23] ?_
  refine bO ?_ ?_<;>intro h
  ·have hj2:j=0∨j=1:=by simp at h;omega
   refine iS ?_
   rcases hj2 with rfl | rfl
   ·refine W.sr ?_
    simp (disch:=omega) [gw,nth]
    refine bF [0,2,4,6,8,9,10,20,21,22] ?_
    refine W.cA (fun K hK=>?_);simp (disch:=omega) [gw,lA];refine W.lw [0,2,4,6,8,20,21,22] hK ?_;clear hK K;simp
    refine W.cA (fun K hK=>?_);simp (disch:=omega) [gw]
    exact hK _ ⟨k-1,_,aC _ [0,2,4,6,8,20,21,22],by omega,1,_,_,rfl,by omega,by simp [fT],by simp [mI],by simp⟩
   ·refine W.sr ?_
    simp (disch:=omega) [gw,nth]
    refine bF [0,2,4,6,8,9,10,20,21,22] ?_
    refine W.cA (fun K hK=>?_);simp (disch:=omega) [gw,lA];refine W.lw [0,2,4,6,8,20,21,22] hK ?_;clear hK K;simp
    refine W.cA (fun K hK=>?_);simp (disch:=omega) [gw]
    exact hK _ ⟨k-1,_,aC _ [0,2,4,6,8,20,21,22],by omega,2,_,_,rfl,by omega,by simp [fT],by simp [mI],by simp⟩
  ·have hj2:j=2:=by simp at h;omega
   subst hj2
   refine eH ?_
   refine W.gK (fun σ=>∃(rows:Pm.Rows) (clk:Nat),σ=⟨fa [(4, .ptr 4 0 0 0),(6, .ptr 6 1 0 0),(8, .ptr 8 2 0 0)],rows,clk⟩∧rows 4=some ⟨0,54,9,[G9 x an ad bn bd]⟩∧rows 6=some ⟨1,82,7,[[.int .i64 0, .int .i64 0, .int .i64 0, .int .i64 0, .int .i64 0, .nil, .int .i64 0]]⟩∧rows 8=some ⟨2,82,7,[[.int .i64 1, .int .i64 a.id, .int .i64 b.id, .int .i64 0, .int .i64 0,Po P, .int .i64 0]]⟩) ?_ ?_
   ·refine aB [2,4,6,8,34] ?_
    refine W.block ?_
    refine aB [2,4,6,8,34,53] ?_
    refine bO ?_ ?_<;>intro h
    ·refine W.CS (fun K hK=>?_)
     simp (disch:=omega) [gw,nth,lA]
     refine aD h1 ?_
     simp (disch:=omega) [gw,nth,lA]
     refine aD h2 ?_
     simp (disch:=omega) [gw,nth,lA]
     refine aD e1 ?_
     simp (disch:=omega) [gw,nth,lA]
     refine bU (by kernel_rfl) ?_
     simp (disch:=omega) [gw]
     exact hK _ ⟨_,aC _ [4,6,8],_,_,rfl,by simp [fT],by simp [mI],by simp⟩
    ·simp at h
   clear fT mI lA rows clk
   rintro _ ⟨rows,clk,rfl,fT,mI,lA⟩
   simp only [G9]at fT
   refine W.sr ?_
   simp (disch:=omega) [gw,fT,lA]
   refine aD hA ?_
   simp (disch:=omega) [gw,fT,mI,lA]
   refine bF [6,8] ?_
   refine W.sr ?_
   simp (disch:=omega) [gw,mI]
   refine bF [6,7] ?_
   refine W.ret ?_
   simp [go]
   rfl
theorem UN(v:CV)(i:Int):NL ⟨v.rc,i⟩ = [Po v.x,Po v.y, .bool (decide (v.d<0)),us (a5 LL v.d.natAbs), .int .i64 i]:=by simp only [ZH,CV.rc,←fB]
theorem NY{n d:Int}{C:List ZX}(h1:aZ env.P 12 [.int .i64 0, .int .i64 1] (R2 n d))(h2:aZ env.P 41 [R2 n d] (AP [-n,d] C n d)):aZ env.P 106 [] (AP [-n,d] C n d):=by
 simp only [AP]at *
 refine cL [] Tryz.func106 ?_
 refine aB [0] ?_
 refine j1 ?_
 refine cM h1 ?_
 refine c7 [0] h2 ?_
 exact cV
set_option maxHeartbeats 2000000 in
theorem E0:aZ env.P 33 [] (.bool true):=by
 have s1:=yT (x:=0) (y:=0) (by decide) (by decide)
 have s2:=yT (x:=1) (y:=0) (by decide) (by decide)
 rw [ED,show aG [0]=([]:List Int)from rfl,apA]at s1
 rw [ED,show aG [0]=([]:List Int)from rfl,show aG [1]=([1]:List Int)from rfl,apB]at s2
 have k1:(CV.mk [] [] 1).rc.OK 2 1:=CV.abz Y3.1 Y3.1 Bd1
 have k2:(CV.mk [1] [] 1).rc.OK 2 1:=CV.abz Y3.2 Y3.1 Bd1
 have e1:(CV.mk [] [] 1).rc.nc=⟨[],[],1⟩:=(CV.aby _).trans apC
 have e2:(CV.mk [1] [] 1).rc.nc=⟨[1],[],1⟩:=(CV.aby _).trans apD
 have r1:=HJ k1 k2 (by decide)
 have r2:=HK k1 k2 (by decide)
 rw [e1,e2]at r1 r2
 have x1:dJ (aL [1] 1) (aL [] 1) = [1]:=by decide +kernel
 have x2:dJ (aL [] 1) (aL [] 1) = []:=by decide +kernel
 simp only [x1]at r1
 simp only [x2]at r2
 obtain⟨t,ht⟩:∃t:Rat,t=0:=⟨0,rfl⟩
 have tn:t.num=0:=by rw [ht];rfl
 have td1:t.den=1:=by rw [ht];rfl
 have o1:=qJ 0 1 (by decide) (by decide)
 rw [show dA 0 1=t by rw [ht];rfl,T7]at o1
 have q5:SQ 5 t:=by
  refine⟨?_,?_,by decide⟩
  ·rw [tn];exact nV (by decide)
  ·rw [td1];exact nV (by decide)
 have td:(t.den:Int)≠0:=by omega
 obtain⟨CC,o2⟩:=BG (n:=t.num) (d:=t.den) (by rw [tn];decide) (by rw [td1];decide) td
 have sb:t.num.natAbs≤1∧t.den≤1:=⟨by rw [tn];decide,by omega⟩
 have bl:BZ 16 4 (UJ t):=by
  refine BZ.ali ?_ (by rw [afd];decide)
  rw [ht];decide
 have tl:=KK bl (by decide) (by decide)
 have nl:=fK (x:=(UJ t).l) (bl.pb (by decide) (by decide))
 rw [(UJ t).c]at nl
 rw [afg]at tl nl
 have hrt:=q5.tor (by decide)
 rw [T7]at hrt
 replace hrt:aZ env.P 23 [R2 t.num t.den] (T2 t.num t.den):=hrt
 have o3:=afh (C:=CC) tl hrt
 have hMx:=EY (n:=t.num) (d:=t.den) (Nat.lt_of_le_of_lt q5.nL (by decide)) (Nat.lt_of_le_of_lt q5.dL (by decide))
 rw [rA]at hMx
 have hc:=NP q5.nL q5.dL q5.nL q5.dL (by decide) (rA t) (rA t) ⟨q5.nL,q5.dL⟩ ⟨q5.nL,q5.dL⟩
 have yG:iG (t.num*(t.den:Int)) (t.num*(t.den:Int))=0:=by unfold iG;simp
 rw [yG]at hc
 have b1:BZ 60 1 (of [1]):=UD (by decide)
 have hAt:=afi (x:=[-t.num,(t.den:Int)]) b1 (by decide) (by decide) nl hMx hc (fun q s' BI bq=>by
  have:=NT (OE bq) q.c q5.nL q5.dL (by decide) (by decide) (by decide) (by omega) (rA t) ⟨q5.nL,q5.dL⟩
  exact this)
 have h1s:aft t.num t.den (of [1])=1:=by rw [tn,td1];exact NK 1
 rw [h1s]at hAt
 have m1:=H7 (a:=⟨(CV.mk [] [] 1).rc,1⟩) (b:=⟨(CV.mk [1] [] 1).rc,2⟩) (P:=[1]) (by decide) rfl r1 r2 hAt
 rw [show(aX NL [⟨(CV.mk [] [] 1).rc,1⟩,⟨(CV.mk [1] [] 1).rc,2⟩]) = .sl [NL ⟨(CV.mk [] [] 1).rc,1⟩,NL ⟨(CV.mk [1] [] 1).rc,2⟩]from rfl,UN,UN,eO]at m1
 have o4:aZ env.P 97 [.sl [[.int .i64 1]]] (PI [1]):=JI [1] (by decide) (by decide)
 have q1:=ML [1] [1] (by decide) (by decide) (fun c hc=>by
  simp only [List.mem_cons,List.not_mem_nil,or_false]at hc
  subst hc;exact Nat.lt_of_le_of_lt (cX (k:=1) (by decide) (by decide)) (by decide)) (fun c hc=>by
  simp only [List.mem_cons,List.not_mem_nil,or_false]at hc
  subst hc;exact Nat.lt_of_le_of_lt (cX (k:=1) (by decide) (by decide)) (by decide))
 simp only [decide_true]at q1
 have mR:=akd
 clear k1 k2 e1 e2 r1 r2 hAt h1s b1 yG hc hMx bl tl nl q5 td sb hrt
 generalize t.num=N at *
 generalize (t.den:Int)=D at *
 clear tn td1 ht
 generalize CV.mk [] [] 1=v1 at *
 generalize CV.mk [1] [] 1=v2 at *
 have z1:=NY o1 o2
 generalize [-N,D]=xl at *
 generalize ([1]:List Int)=L1 at *
 simp only [CV.cS,G9,aka]at *
 refine cL [] Tryz.func33 ?_
 refine aB [] ?_
 refine j1 ?_
 refine cM s1 ?_
 refine c7 [1,2] s2 ?_
 refine oW ?_
 refine cM z1 ?_
 refine cM o3 ?_
 refine cM m1 ?_
 rw [if_pos (by kernel_rfl)]
 simp (disch:=omega) [gw]
 refine bF [3,4] ?_
 refine W.seq ?_
 refine W.fW (fun σ=>∃(rows:Pm.Rows) (v clk:Nat),σ=⟨fa [(3, .ptr 3 v 0 0),(37, .bool false)],rows,clk⟩∧rows 3=some ⟨v,82,7,[[.int .i64 1, .int .i64 1, .int .i64 2, .int .i64 0, .int .i64 0,Po L1, .int .i64 1]]⟩) (fun K hK=>?_) ?_
 ·simp (disch:=omega) [gw,mR,allI,iQ]
  exact hK _ _ (aC _ [3,37]) ⟨_,_,_,rfl,by simp;rfl⟩
 rintro _ ⟨rows,v,clk,rfl,c5⟩
 refine bO ?_ ?_<;>intro h
 ·simp at h
 ·refine W.skip ?_
  refine W.sd ?_
  simp (disch:=omega) [gw,c5]
  refine aD o4 ?_
  simp (disch:=omega) [gw,c5]
  refine c7 [0] q1 ?_
  exact cV
end Go.Proofs.YtiobceocpabjdaaGreat
namespace Go.Proofs.YtiobceocpabjdaaGreat
open Go Pm
theorem E1{α β:Type}[Inhabited α][Inhabited β]{tg:α→Tg}{tg':β→Tg}{f:α→β}(hf:∀x,tg' (f x)=tg x){t:Tg}{l:List α}:∀k,k≤l.length→pN tg' t (l.map f) k=pN tg t l k
 | 0,_=>rfl
 | k+1,h=>by rw [k7,k7,vN (by omega),hf,E1 hf k (by omega)]
theorem ZQ{α β:Type}[Inhabited α][Inhabited β]{tg:α→Tg}{tg':β→Tg}{f:α→β}(hf:∀x,tg' (f x)=tg x)(l:List α):(OC tg l).map f=OC tg' (l.map f):=by
 suffices h:∀(l S:List α),(l.foldl (oH tg) S).map f=(l.map f).foldl (oH tg') (S.map f)by simpa [OC]using h l []
 intro l
 induction l with
 | nil=>intro S;rfl
 | cons x l ih =>
  intro S
  rw [List.foldl_cons,ih,List.map_cons,List.foldl_cons]
  congr 1
  simp only [oH,List.length_map,hf,E1 hf S.length (Nat.le_refl _)]
  simp
@[simp] theorem amP{t:Tg}:(AJ t).length=5:=rfl
@[simp] theorem afj{l:List Tg}:a8 5 (emap AJ l)=True:=bQ fun _=>rfl
def yY(l:List Tg)(n:Nat):List CE:=(List.range n).map fun i=>⟨nth l i,false,[],i⟩
def BL(l:List Tg)(n:Nat):List RE:=(List.range n).map fun i=>⟨nth l i,false,[],i,false,[],false⟩
theorem UO(l:List Tg)(n:Nat):yY l (n+1)=yY l n ++ [⟨nth l n,false,[],n⟩]:=by simp [yY,List.range_succ]
theorem UP(l:List Tg)(n:Nat):BL l (n+1)=BL l n ++ [⟨nth l n,false,[],n,false,[],false⟩]:=by simp [BL,List.range_succ]
theorem H8(l:List Tg)(n:Nat):(oI (BL l n)).map (SI fun _=>[])=nO (yY l n):=by
 unfold oI nO
 rw [ZQ (tg:=RE.t) (tg':=CE.t) (f:=SI fun _=>[]) (fun _=>rfl)]
 congr 1
 simp [BL,yY,SI,RE.nz,CE.nz,CE.v]
theorem UQ{l:List CE}{x:CE}(h:x∈nO l):∃y∈l,x=y.nz:=by
 suffices hs:∀(l S:List CE),x∈l.foldl (oH CE.t) S→x∈S∨x∈l by
  rcases hs _ _ h with h | h
  ·cases h
  ·obtain⟨y,hy,rfl⟩:=List.mem_map.1 h
   exact⟨y,hy,rfl⟩
 intro l
 induction l with
 | nil=>intro S h;exact .inl h
 | cons a l ih =>
  intro S h
  rcases ih _ h with h | h
  ·simp only [oH,List.mem_append,List.mem_cons]at h
   rcases h with h | rfl | h
   ·exact .inl (List.mem_of_mem_take h)
   ·exact .inr (by simp)
   ·exact .inl (List.mem_of_mem_drop h)
  ·exact .inr (List.mem_cons_of_mem _ h)
set_option maxHeartbeats 2000000 in
theorem xJ(l:List Tg)(a b:Tg)(hl:l.length<9223372036854775808):aZ env.P 5 [aX AJ l, .ag (AJ a), .ag (AJ b)] (.bool true):=by
 have hW:=E0
 have k1:=oA a b
 have k2:=yQ a b
 have k3:=oA a a
 have k4:=oA b a
 rw [AK]at k3
 have has:=DQ a b
 generalize jE a b=p at *
 generalize jE b a=q at *
 have kS:l.length≤20→aZ env.P 35 [aX jK (yY l l.length)] (aX jK (nO (yY l l.length))):=fun h=>MU (by simp [yY];omega) (fun x hx=>by
  simp only [yY,List.mem_map,List.mem_range]at hx
  obtain⟨i,_,rfl⟩:=hx
  exact fK (x:=[]) ⟨fun c (hc:c ∈ [])=>(List.not_mem_nil hc).elim,by decide⟩)
 have kQ:l.length≤20→aZ env.P 37 [aX j8 (BL l l.length)] (aX j8 (oI (BL l l.length))):=fun h=>MV (by simp [BL];omega)
 have kC:l.length≤20→aZ env.P 36 [aX j8 (oI (BL l l.length))] (aX jK (nO (yY l l.length))):=fun h=>by
  have:=X7 (l:=oI (BL l l.length)) (P:=fun _=>[]) (by rw [vP];simp [BL];omega) (fun x hx=>by
   obtain⟨y,hy,rfl⟩:=SG hx
   simp only [BL,List.mem_map,List.mem_range]at hy
   obtain⟨i,_,rfl⟩:=hy
   exact JX [] (by simp) (by decide))
  rw [H8]at this
  exact this
 have kE:l.length≤20→aZ env.P 34 [aX jK (nO (yY l l.length)),aX jK (nO (yY l l.length))] (.bool true):=fun h=>vQ (by rw [vO];simp [yY];omega) (fun x hx=>by
  obtain⟨y,hy,rfl⟩:=UQ hx
  simp only [yY,List.mem_map,List.mem_range]at hy
  obtain⟨i,_,rfl⟩:=hy
  exact⟨rfl,xG (p:=[]) (by decide) (by simp)⟩)
 simp only [jQ]at k1 k2 k3 k4 ⊢
 refine cL [(0,aX AJ l),(1, .ag [.int .i64 a.k, .int .i64 a.a, .int .i64 a.b, .int .i64 a.c, .int .i64 a.d]),(2, .ag [.int .i64 b.k, .int .i64 b.a, .int .i64 b.b, .int .i64 b.c, .int .i64 b.d])] Tryz.func5 ?_
 refine aB [0,4,5] ?_
 refine aQ [0,4,5,12] ?_
 refine bO ?_ ?_<;>intro h
 ·refine bT [6] hW ?_
  exact cV
 ·have h20:l.length≤20:=by simp at h;omega
  replace kS:=kS h20
  replace kQ:=kQ h20
  replace kC:=kC h20
  replace kE:=kE h20
  refine W.skip ?_
  refine aB [0,4,5,7] ?_
  refine W.nil 7 7 82 7 (by simp) (by decide) (fun K hK=>?_)
  refine W.lw [0,4,5,7] hK ?_;clear hK K;simp
  refine aB [0,4,5,7,8] ?_
  refine W.nil 8 8 85 9 (by simp) (by decide) (fun K hK=>?_)
  refine W.lw [0,4,5,7,8] hK ?_;clear hK K;simp
  refine aQ [0,4,5,7,8,15,16] ?_
  refine W.block ?_
  refine W.a9 (fun k σ=>∃(i v7 v8:Nat) (rows:Pm.Rows) (clk:Nat),σ=⟨fa [(0,aX AJ l),(4, .ptr 4 0 0 0),(5, .ptr 5 1 0 0),(7, .own 7 v7 0 i),(8, .own 8 v8 0 i),(15, .int .i64 l.length),(16, .int .i64 i)],rows,clk⟩∧i+k=l.length∧rows 7=some ⟨v7,82,7,emap jK (yY l i)⟩∧rows 8=some ⟨v8,85,9,emap j8 (BL l i)⟩∧rows 4=some ⟨0,78,5,[[.int .i64 a.k, .int .i64 a.a, .int .i64 a.b, .int .i64 a.c, .int .i64 a.d]]⟩∧rows 5=some ⟨1,78,5,[[.int .i64 b.k, .int .i64 b.a, .int .i64 b.b, .int .i64 b.c, .int .i64 b.d]]⟩) l.length ?_ ?_
  ·exact⟨_, .refl,0,_,_,_,_,rfl,by omega,by simp [yY,emap],by simp [BL,emap],by simp,by simp⟩
  rintro k _ ⟨i,v7,v8,rows,clk,rfl,L7,E7,lA,fT,gX⟩
  refine cH [0,4,5,7,8,15,16,17] ?_
  refine bO ?_ ?_<;>intro h
  ·have hi:i<l.length:=by simp at h;omega
   have l7:(yY l i).length=i:=by simp [yY]
   have l8:(BL l i).length=i:=by simp [BL]
   refine iS ?_
   refine aB [0,4,5,7,8,9,15,16] ?_
   refine W.sr ?_
   simp (disch:=omega) [gw,hi,E7,l7,jQ]
   refine bU (by intro p hp;rcases hp with (rfl | rfl | rfl | rfl | rfl | rfl) | rfl<;>simp [bL,eZ,aS]) ?_
   simp (disch:=omega) [gw,hi,E7,l7,jQ]
   refine bF [0,4,5,7,8,9,15,16] ?_
   refine W.cA (fun K hK=>?_)
   simp (disch:=omega) [gw,hi,lA,l8,jQ]
   refine bU (by intro p hp;rcases hp with (rfl | rfl | rfl | rfl | rfl | rfl) | rfl | rfl | rfl<;>simp [bL,eZ,aS]) ?_
   simp (disch:=omega) [gw,hi,lA,l8,jQ]
   refine W.lw [0,4,5,7,8,15,16] hK ?_;clear hK K;simp
   refine W.cA (fun K hK=>?_);simp (disch:=omega) [gw]
   refine hK _ ⟨k-1,_,aC _ [0,4,5,7,8,15,16],by omega,i+1,_,_,_,_,rfl,by omega,?_,?_,by simp [fT],by simp [gX]⟩
   ·rw [UO];simp [emap,eO]
   ·rw [UP];simp [emap,kH]
  ·have hi:i=l.length:=by simp at h;omega
   subst hi
   have l7:(yY l l.length).length=l.length:=by simp [yY]
   have l8:(BL l l.length).length=l.length:=by simp [BL]
   refine eH ?_
   refine W.freeze 7 (by simp [E7]) (fun K hK=>?_)
   simp [E7]
   refine hK _ ?_;clear hK K
   refine W.freeze 8 (by simp [lA]) (fun K hK=>?_)
   simp [lA]
   refine hK _ ?_;clear hK K
   rw [List.take_of_length_le (Nat.le_of_eq l7),List.take_of_length_le (Nat.le_of_eq l8)]
   refine W.x9 (fun σ=>∃(rows:Pm.Rows) (clk:Nat),σ=⟨fa [(6, .bool true)],rows,clk⟩) (fun K hK=>?_) ?_
   ·simp (disch:=omega) [gw]
    refine cM kS ?_
    refine cM kQ ?_
    refine cM kC ?_
    refine aD kE ?_
    simp (disch:=omega) [gw,fT,gX]
    refine aD k1 ?_
    simp (disch:=omega) [gw,fT,gX]
    refine aD k2 ?_
    simp (disch:=omega) [gw,fT,gX]
    refine aD k3 ?_
    simp (disch:=omega) [gw,fT,gX]
    refine aD k1 ?_
    cases p
    ·simp (disch:=omega) [gw,fT,gX]
     refine cM hW ?_
     exact hK _ _ (aC _ [6]) ⟨_,_,rfl⟩
    ·have hq:q=false:=by simpa using has
     subst hq
     simp (disch:=omega) [gw,fT,gX]
     refine aD k4 ?_
     simp (disch:=omega) [gw,fT,gX]
     refine cM hW ?_
     exact hK _ _ (aC _ [6]) ⟨_,_,rfl⟩
   rintro _ ⟨rows,clk,rfl⟩
   exact cV
end Go.Proofs.YtiobceocpabjdaaGreat
