import Derived.Test.YtelhfbikiccfkaaGreatDas
set_option linter.unusedSimpArgs false
set_option linter.unusedVariables false
namespace Go.Proofs.YtelhfbikiccfkaaGreat
open Go Pm
open ZX hiding N W
def M6(x:List Int):Nat→Int
 | 0=>0
 | i+1=>if M6 x i<bl (aP LL (nth x i).natAbs)then bl (aP LL (nth x i).natAbs)else M6 x i
theorem abU{x:List Int}(hl:x.length<1000000)(hB:∀i,i<x.length→aD env.P 237 [us (aP LL (nth x i).natAbs)] (.int .i64 (bl (aP LL (nth x i).natAbs)))∧0≤bl (aP LL (nth x i).natAbs)∧bl (aP LL (nth x i).natAbs)<1000000000000):aD env.P 238 [Po x] (.int .i64 (M6 x x.length)):=by
 refine b6 [(0,Po x)] Tryz.func238 ?_
 refine aA [0] ?_
 refine aA [0,3] ?_
 refine aM [3,6,7,8] ?_
 refine W.block ?_
 refine W.bE (fun k σ=>∃(i:Nat) (rows:Pm.Rows) (clk:Nat),σ=⟨fa [(3, .int .i64 (M6 x i)),(6,Po x),(7, .int .i64 x.length),(8, .int .i64 i)],rows,clk⟩∧(0≤M6 x i∧M6 x i<1000000000000)∧i+k=x.length) x.length ?_ ?_
 ·exact⟨_, .refl,0,_,_,rfl,⟨by show(0:Int)≤0;decide,by show(0:Int)<_;decide⟩,by omega⟩
 rintro k _ ⟨i,rows,clk,rfl,hb,EV⟩
 refine cB [3,6,7,8,9] ?_
 refine bF ?_ ?_<;>intro h
 ·have hi:i<x.length:=by simp at h;omega
  obtain⟨h1,h0,h2⟩:=hB i hi
  refine jV ?_
  refine W.sr ?_
  simp (disch:=omega) [gw,hi]
  refine bN [3,5,6,7,8] ?_
  refine W.cE (fun K hK=>?_)
  simp (disch:=omega) [gw]
  refine bW h1 ?_
  rw [show(if M6 x i<bl (aP LL (nth x i).natAbs)then bl (aP LL (nth x i).natAbs)else M6 x i)=M6 x (i+1)from rfl]
  have zP:0≤M6 x (i+1)∧M6 x (i+1)<1000000000000:=by rw [M6];split<;>omega
  refine W.lw [3,6,7,8] hK ?_;clear hK K;simp
  refine W.cE (fun K hK=>?_);simp (disch:=omega) [gw]
  refine hK _ ⟨k-1,_,aC _ [3,6,7,8],by omega,i+1,_,_,rfl,zP,by omega⟩
 ·have hi:i=x.length:=by simp at h;omega
  subst hi
  refine eV ?_
  refine aA [2] ?_
  exact b7
theorem WA{x y:List Int}{an ad bn bd cn cd dn dd b1 b2 b3 b4 zx zy:Int}(hx:x.length≤50)(hy:y.length≤50)(k1:aD env.P 237 [us (aP LL an.natAbs)] (.int .i64 b1))(k2:aD env.P 237 [us (aP LL bn.natAbs)] (.int .i64 b2))(k3:aD env.P 237 [us (aP LL cn.natAbs)] (.int .i64 b3))(k4:aD env.P 237 [us (aP LL dn.natAbs)] (.int .i64 b4))
  (l1:0≤b1∧b1<1000000000000) (l2:0≤b2∧b2<1000000000000) (l3:0≤b3∧b3<1000000000000) (l4:0≤b4∧b4<1000000000000) (sx:aD env.P 238 [Po x] (.int .i64 zx)) (sy:aD env.P 238 [Po y] (.int .i64 zy)) (m1:0≤zx∧zx<1000000000000) (m2:0≤zy∧zy<1000000000000) :
  aD env.P 186 [.ag (G9 x an ad bn bd), .ag (G9 y cn cd dn dd)] (.int .i64 (64+2*(b1+b2+b3+b4)+4*((x.length:Int)+y.length)*(zx+zy+((x.length:Int)+y.length)+8))):=by
 have p1:0≤4*((x.length:Int)+y.length)*(zx+zy+((x.length:Int)+y.length)+8):=Int.mul_nonneg (by omega) (by omega)
 have p2:4*((x.length:Int)+y.length)*(zx+zy+((x.length:Int)+y.length)+8)≤400*3000000000000:=Int.mul_le_mul (by omega) (by omega) (by omega) (by decide)
 simp only [G9]at *
 refine b6 [(0, .ag (G9 x an ad bn bd)),(1, .ag (G9 y cn cd dn dd))] Tryz.func186 ?_
 refine aA [2,3] ?_
 refine aA [2,3,5] ?_
 refine iQ ?_
 refine bW k1 ?_
 refine bW k2 ?_
 refine bW k3 ?_
 refine bU [2,3,5,6] k4 ?_
 refine iQ ?_
 refine bW sx ?_
 refine bU [4] sy ?_
 exact b7
theorem WB{q x g:List Int}{an ad bn bd dg:Int}(hl:0<q.length)(GJ:q.length<1000000)(hq:aD env.P 68 [Po q] (Po q))(hN:aD env.P 182 [.ag (G9 x an ad bn bd)] (.ag (G9 x an ad bn bd)))(hp:aD env.P 183 [.ag (G9 x an ad bn bd)] (.bool false))(hG:aD env.P 184 [.sl [[Po q],[Po x]]] (Po g))(hD:aD env.P 87 [Po g] (.int .i64 dg))(h0:0<dg)
  (hh:aD env.P 185 [Po g,T2 an ad,T2 bn bd] (.bool true)):aD env.P 105 [Po q, .ag (G9 x an ad bn bd)] (.int .i64 0):=by
 have kQ:q ≠ []:=fun h=>by rw [h]at hl;simp at hl
 simp only [G9]at *
 refine b6 [(0,Po q),(1, .ag (G9 x an ad bn bd))] Tryz.func105 ?_
 refine aA [0,3] ?_
 refine iQ ?_
 refine bW hq ?_
 refine aB hN ?_
 (try (refine a9 (of_decide_eq_true (by kernel_rfl)) ?_));(try simp (maxSteps:=4000000) (disch:=omega) [gw]);(repeat rw [if_pos (by kernel_rfl)]);(try simp (maxSteps:=4000000) (disch:=omega) [gw])
 (try (refine a9 (of_decide_eq_true (by kernel_rfl)) ?_));(try simp (maxSteps:=4000000) (disch:=omega) [gw]);(repeat rw [if_pos (by kernel_rfl)]);(try simp (maxSteps:=4000000) (disch:=omega) [gw])
 refine bN [0,3] ?_
 refine aM [0,3,14] ?_
 refine bF ?_ ?_<;>intro h
 ·simp at h;exact absurd h kQ
 refine W.skip ?_
 refine W.seq ?_
 refine aJ [0,3,16] hp ?_
 refine bF ?_ ?_<;>intro h
 ·simp at h
 refine W.skip ?_
 refine W.seq ?_
 refine aJ [0,3,5] hG ?_
 refine iM ?_
 refine aB hD ?_
 simp (disch:=omega) [gw,h0]
 refine bU [0,3,36] hh ?_
 refine bF ?_ ?_<;>intro h
 ·refine aA [4] ?_
  exact b7
 ·simp at h
theorem af5{α:Type}{gc:α→List PV}{q x g:List Int}{C:List α}{an ad bn bd:Nat→Int}{dg r:Int}{N J:Nat}(hl:0<q.length)(GJ:q.length<1000000)(hq:aD env.P 68 [Po q] (Po q))(hN:aD env.P 182 [.ag (G9 x (an 0) (ad 0) (bn 0) (bd 0))] (.ag (G9 x (an 0) (ad 0) (bn 0) (bd 0))))(hp:aD env.P 183 [.ag (G9 x (an 0) (ad 0) (bn 0) (bd 0))] (.bool false))(hG:aD env.P 184 [.sl [[Po q],[Po x]]] (Po g))
  (hD:aD env.P 87 [Po g] (.int .i64 dg)) (hh:0<dg→aD env.P 185 [Po g,T2 (an 0) (ad 0),T2 (bn 0) (bd 0)] (.bool false)) (hC:aD env.P 73 [Po q] (.fE [.rd [aG gc C], .int .i64 0])) (hs:aD env.P 186 [.ag (G9 x (an 0) (ad 0) (bn 0) (bd 0)), .ag (G9 q 0 0 0 0)] (.int .i64 N)) (GM:N<1000000000000000)
  (hb:∀j,j<J→aD env.P 183 [.ag (G9 x (an j) (ad j) (bn j) (bd j))] (.bool false)∧(∃z:Int,aD env.P 92 [.rd [aG gc C],T2 (an j) (ad j),T2 (bn j) (bd j)] (.int .i64 z)∧(z==0)=false)∧aD env.P 187 [.ag (G9 x (an j) (ad j) (bn j) (bd j))] (.ag (G9 x (an (j+1)) (ad (j+1)) (bn (j+1)) (bd (j+1)))))
  (hJ:J≤N) (iP:J<N→aD env.P 183 [.ag (G9 x (an J) (ad J) (bn J) (bd J))] (.bool true)∨aD env.P 183 [.ag (G9 x (an J) (ad J) (bn J) (bd J))] (.bool false)∧aD env.P 92 [.rd [aG gc C],T2 (an J) (ad J),T2 (bn J) (bd J)] (.int .i64 0)) (hr:aD env.P 91 [Po q,T2 (bn J) (bd J)] (.int .i64 r)) :
  aD env.P 105 [Po q, .ag (G9 x (an 0) (ad 0) (bn 0) (bd 0))] (.int .i64 r):=by
 have kQ:q ≠ []:=fun h=>by rw [h]at hl;simp at hl
 replace hs:aD env.P 186 [.ag (G9 x (an 0) (ad 0) (bn 0) (bd 0)), .ag [Po q, .bool false, .sl [], .bool false, .sl [], .bool false, .sl [], .bool false, .sl []]] (.int .i64 N):=hs
 simp only [G9]at *
 refine b6 [(0,Po q),(1, .ag (G9 x (an 0) (ad 0) (bn 0) (bd 0)))] Tryz.func105 ?_
 refine aA [0,3] ?_
 refine iQ ?_
 refine bW hq ?_
 refine aB hN ?_
 (try (refine a9 (of_decide_eq_true (by kernel_rfl)) ?_));(try simp (maxSteps:=4000000) (disch:=omega) [gw]);(repeat rw [if_pos (by kernel_rfl)]);(try simp (maxSteps:=4000000) (disch:=omega) [gw])
 (try (refine a9 (of_decide_eq_true (by kernel_rfl)) ?_));(try simp (maxSteps:=4000000) (disch:=omega) [gw]);(repeat rw [if_pos (by kernel_rfl)]);(try simp (maxSteps:=4000000) (disch:=omega) [gw])
 refine bN [0,3] ?_
 refine aM [0,3,14] ?_
 refine bF ?_ ?_<;>intro h
 ·simp at h;exact absurd h kQ
 refine W.skip ?_
 refine W.seq ?_
 refine aJ [0,3,16] hp ?_
 refine bF ?_ ?_<;>intro h
 ·simp at h
 refine W.skip ?_
 refine W.seq ?_
 refine aJ [0,3,5] hG ?_
 refine W.fY (fun σ=>∃(v3:Nat) (rows:Pm.Rows) (clk:Nat),σ=⟨fa [(0,Po q),(3, .ptr 3 v3 0 0),(36, .bool false)],rows,clk⟩∧rows 3=some ⟨v3,54,9,[G9 x (an 0) (ad 0) (bn 0) (bd 0)]⟩) (fun K hK=>?_) ?_
 ·by_cases h0:0<dg
  ·have hh':=hh h0
   simp (disch:=omega) [gw]
   refine aB hD ?_
   simp (disch:=omega) [gw,h0]
   refine bW hh' ?_
   refine hK _ _ (aC _ [0,3,36]) ⟨_,_,_,rfl,by simp⟩
  ·simp (disch:=omega) [gw]
   refine aB hD ?_
   simp (disch:=omega) [gw,h0]
   refine hK _ _ (aC _ [0,3,36]) ⟨_,_,_,rfl,by simp⟩
 rintro _ ⟨v3,rows,clk,rfl,cM⟩
 simp only [G9]at cM
 refine bF ?_ ?_<;>intro h
 ·simp at h
 refine W.skip ?_
 refine aJ [0,3,6] hC ?_
 refine W.gJ (fun σ=>∃(v3:Nat) (rows:Pm.Rows) (clk:Nat),σ=⟨fa [(0,Po q),(3, .ptr 3 v3 0 0)],rows,clk⟩∧rows 3=some ⟨v3,54,9,[G9 x (an J) (ad J) (bn J) (bd J)]⟩) ?_ ?_
 ·refine W.sr ?_
  simp (disch:=omega) [gw,cM]
  refine bU [0,3,6,45,46] hs ?_
  refine W.block ?_
  refine W.bE (fun k σ=>∃(j v3:Nat) (rows:Pm.Rows) (clk:Nat),σ=⟨fa [(0,Po q),(3, .ptr 3 v3 0 0),(6, .rd [aG gc C]),(45, .int .i64 N),(46, .int .i64 j)],rows,clk⟩∧rows 3=some ⟨v3,54,9,[G9 x (an j) (ad j) (bn j) (bd j)]⟩∧j+k=J) J ?_ ?_
  ·exact⟨_, .refl,0,_,_,_,rfl,by simp [cM],by omega⟩
  rintro k _ ⟨j,v3,rows,clk,rfl,cM,hjk⟩
  simp only [G9]at cM
  refine cB [0,3,6,45,46,47] ?_
  refine bF ?_ ?_<;>intro h
  ·have hjN:j<N:=by simp at h;omega
   refine jV ?_
   refine W.seq ?_
   by_cases hjJ:j<J
   ·obtain⟨g1,⟨z,g2,g3⟩,g4⟩:=hb j hjJ
    refine W.sr ?_
    simp (disch:=omega) [gw,cM]
    refine aB g1 ?_
    simp (disch:=omega) [gw,cM]
    refine aB g2 ?_
    simp (disch:=omega) [gw,g3]
    refine bN [0,3,6,45,46,58] ?_
    refine bF ?_ ?_<;>intro h
    ·simp at h
    refine W.skip ?_
    refine W.cE (fun K hK=>?_)
    simp (disch:=omega) [gw,cM]
    refine aB g4 ?_
    simp (disch:=omega) [gw,cM]
    refine W.lw [0,3,6,45,46] hK ?_;clear hK K;simp
    refine W.cE (fun K hK=>?_);simp (disch:=omega) [gw]
    refine hK _ ⟨k-1,_,aC _ [0,3,6,45,46],by omega,j+1,v3,_,_,rfl,by simp,by omega⟩
   ·have hjE:j=J:=by omega
    subst hjE
    rcases iP hjN with g1 | ⟨g1,g2⟩
    ·refine W.sr ?_
     simp (disch:=omega) [gw,cM]
     refine bU [0,3,6,45,46,58] g1 ?_
     refine bF ?_ ?_<;>intro h
     ·refine eV ?_
      exact⟨_,aC _ [0,3],_,_,_,rfl,cM⟩
     ·simp at h
    ·refine W.sr ?_
     simp (disch:=omega) [gw,cM]
     refine aB g1 ?_
     simp (disch:=omega) [gw,cM]
     refine bU [0,3,6,45,46,58] g2 ?_
     refine bF ?_ ?_<;>intro h
     ·refine eV ?_
      exact⟨_,aC _ [0,3],_,_,_,rfl,cM⟩
     ·simp at h
  ·have hjE:j=J:=by simp at h;omega
   subst hjE
   refine eV ?_
   exact⟨_,aC _ [0,3],_,_,_,rfl,cM⟩
 rintro _ ⟨v3,rows,clk,rfl,cM⟩
 simp only [G9]at cM
 refine W.sr ?_
 simp (disch:=omega) [gw,cM]
 refine bU [4] hr ?_
 exact b7
theorem ajC{s k:Nat}{p:ZX}{x:List Int}{an ad bn bd:Int}(sg:ZX→Int)(h0:sg 0=0)(hp:BZ s k p)(hk:k≤31)(hs:s≤1000000)(QR:∀(q:ZX) (s':Nat),s'≤s+5*k→BZ s' k q→aD env.P 105 [Po q.l, .ag (G9 x an ad bn bd)] (.int .i64 (sg q))) :
  aD env.P 32 [Po p.l, .ag (G9 x an ad bn bd)] (.int .i64 (JI sg (ZX.N p) p)):=by
 have h1:∀(q:ZX) (s':Nat),s'≤s+5*k→BZ s' k q→aD env.P 104 [Po q.l, .rd (G9 x an ad bn bd)] (.int .i64 (sg q)):=fun q s' zC bq=>by
  have k6:=QR q s' zC bq
  simp only [G9]at k6 ⊢
  generalize sg q=r at *
  refine b6 [(0,Po q.l),(1, .rd (G9 x an ad bn bd))] Tryz.func104 ?_
  refine aA [0,1] ?_
  refine aJ [3] k6 ?_
  exact b7
 have F1:=V5 104 rfl [.rd (G9 x an ad bn bd)] rfl sg h0 hp hk hs h1
 simp only [G9]at F1 ⊢
 generalize JI sg (ZX.N p) p=r at *
 refine b6 [(0,Po p.l),(1, .ag (G9 x an ad bn bd))] Tryz.func32 ?_
 refine aA [0,3] ?_
 refine aJ [4] F1 ?_
 exact b7
theorem uB{u:Nat}(q:ZX){s' k:Nat}(bq:BZ s' k q)(hs:s'≤1000000000)(hk:k≤100){t:Rat}(qt:SQ u t)(hu:u≤1000000000):aD env.P 91 [Po q.l,RT t] (.int .i64 (cH (e t q))):=by
 have hm:k*(u+1)≤100*(u+1):=Nat.mul_le_mul_right _ hk
 have k2:=JA (QQ bq) q.c qt.nL qt.dL qt.hu (by omega) (by omega) (by omega) (bB t) ⟨qt.nL,qt.dL⟩
 rwa [yT]at k2
section
variable {s n u:Nat} {f:ZX} (I:lL s n f)
include I
theorem DJ(hs:s≤1000000){t:Rat}(qt:SQ u t)(hu:u≤1000000000):aD env.P 236 [Po f.l,RT t] (.int .i64 (FY f t)):=by
 have hn:=I.ch.hn
 have h1:=uB f I.ch.bz (by omega) (by omega) qt hu
 have h2:=rJ I.ch.bz (by omega) (by omega)
 have h3:=uB (b9 f) (I.ch.bz.b9 (by omega)) (by omega) (by omega) qt hu
 have:=af2 (n:=t.num) (d:=t.den) h1 h2 h3
 have e1:(if cH (e t f)=0 then cH (e t (b9 f))else cH (e t f))=FY f t:=by
  unfold FY
  by_cases h:e t f=0
  ·rw [if_pos h,if_pos (by rw [h,iL])]
  ·rw [if_neg h,if_neg (fun h0=>h (eU.1 h0))]
 rw [e1]at this
 exact this
theorem af6(hs:s≤1000000){p:Rat × Rat}(A:jP f (vt (aR f)) p.1 p.2){m:Rat}(h1:p.1<m)(h2:m≤p.2)(q1:SQ u p.1)(q2:SQ u p.2)(qm:SQ u m)(hu:u≤1000000000) :
  aD env.P 205 [GA f p,RT m] (.int .i64 (if e m f=0 then 0 else if vt (aR f) m<vt (aR f) p.1 then -1 else 1)):=by
 have c8:p.1<p.2:=by grind
 have z0:=dI q1.nL q1.dL q2.nL q2.dL (by omega) (bB p.1) (bB p.2) ⟨q1.nL,q1.dL⟩ ⟨q2.nL,q2.dL⟩
 have z1:=dI qm.nL qm.dL q1.nL q1.dL (by omega) (bB m) (bB p.1) ⟨qm.nL,qm.dL⟩ ⟨q1.nL,q1.dL⟩
 have z2:=dI qm.nL qm.dL q2.nL q2.dL (by omega) (bB m) (bB p.2) ⟨qm.nL,qm.dL⟩ ⟨q2.nL,q2.dL⟩
 have hp:=w8 (x:=f.l) z0
 have pG:¬0≤dQ (p.1.num*(p.2.den:Int)) (p.2.num*(p.1.den:Int)):=by have:=(gV (p:=p.1) (q:=p.2)).2 c8;omega
 rw [decide_eq_false pG]at hp
 have QR:=uB f I.ch.bz (by omega) (by have:=I.ch.hn;omega) qm hu
 have hlw:=DJ I hs q1 hu
 refine uA hp z1 z2 QR hlw ?_
 have g1:¬dQ (m.num*(p.1.den:Int)) (p.1.num*(m.den:Int))≤0:=fun h=>absurd (jN.1 h) (Rat.not_le.2 h1)
 have g2:¬0<dQ (m.num*(p.2.den:Int)) (p.2.num*(m.den:Int)):=fun h=>absurd (fW.1 h) (Rat.not_lt.2 h2)
 have MN:=I.S.par (Rat.le_of_lt h1)
 have hv:vt (aR f) p.1=vt (aR f) p.2+1:=by
  rcases A.k with ⟨h,_⟩ | ⟨_,h⟩
  ·rw [h]at c8;exact absurd c8 Rat.lt_irrefl
  ·exact h
 have m1:=I.S.b8 (Rat.le_of_lt h1)
 have m2:=I.S.b8 h2
 rw [if_neg g1,if_neg g2]
 by_cases h0:e m f=0
 ·rw [if_pos h0,if_pos (by rw [h0,iL])]
 ·have h3:¬cH (e m f)=0:=fun h=>h0 (eU.1 h)
  rw [if_neg h0,if_neg h3]
  have h4:FY f m=cH (e m f):=by unfold FY;rw [if_neg h0]
  rw [h4]at MN
  by_cases h5:vt (aR f) m<vt (aR f) p.1
  ·rw [if_pos h5,if_neg]
   intro h6
   rw [show vt (aR f) p.1-vt (aR f) m=1 by omega,show sg1 1 = -1 from rfl]at MN
   omega
  ·rw [if_neg h5,if_pos]
   rw [show vt (aR f) p.1-vt (aR f) m=0 by omega,show sg1 0=1 from rfl,Int.one_mul]at MN
   exact MN
end
def vC(f:ZX)(p:Rat × Rat):Rat × Rat:=if p.1<p.2 then(if e ((p.1+p.2)/2) f=0 then((p.1+p.2)/2,(p.1+p.2)/2)else if vt (aR f) ((p.1+p.2)/2)<vt (aR f) p.1 then(p.1,(p.1+p.2)/2)else((p.1+p.2)/2,p.2))else p
theorem F8{s n u:Nat}{f:ZX}(I:lL s n f)(hs:s≤1000000){p:Rat × Rat}(A:jP f (vt (aR f)) p.1 p.2)(q1:SQ u p.1)(q2:SQ u p.2)(qm:SQ u ((p.1+p.2)/2))(hu:u≤1000000000):aD env.P 187 [GA f p] (GA f (vC f p)):=by
 have z0:=dI q1.nL q1.dL q2.nL q2.dL (by omega) (bB p.1) (bB p.2) ⟨q1.nL,q1.dL⟩ ⟨q2.nL,q2.dL⟩
 have hp:=w8 (x:=f.l) z0
 unfold vC
 by_cases c8:p.1<p.2
 ·rw [if_pos c8]
  have pG:¬0≤dQ (p.1.num*(p.2.den:Int)) (p.2.num*(p.1.den:Int)):=by have:=(gV (p:=p.1) (q:=p.2)).2 c8;omega
  rw [decide_eq_false pG]at hp
  obtain⟨m1,m2⟩:=pS c8
  have hm:=Q5 (q1.LLs (Nat.le_refl _)) (q2.LLs (Nat.le_refl _)) (by omega)
  have hc:=af6 I hs A m1 (Rat.le_of_lt m2) q1 q2 qm hu
  generalize (p.1+p.2)/2=m at *
  have k:=abT hp hm hc
  by_cases h0:e m f=0
  ·rw [if_pos h0,if_pos rfl]at k
   rw [if_pos h0];exact k
  ·rw [if_neg h0]at k
   rw [if_neg h0]
   by_cases h5:vt (aR f) m<vt (aR f) p.1
   ·rw [if_pos h5,if_neg (by decide),if_pos rfl]at k
    rw [if_pos h5];exact k
   ·rw [if_neg h5,if_neg (by decide),if_neg (by decide)]at k
    rw [if_neg h5];exact k
 ·rw [if_neg c8]
  have pG:0≤dQ (p.1.num*(p.2.den:Int)) (p.2.num*(p.1.den:Int)):=by
   have:=mt (gV (p:=p.1) (q:=p.2)).1 c8;omega
  rw [decide_eq_true pG]at hp
  exact af4 hp
theorem lJ{f:ZX}{p:Rat × Rat}(A:jP f (vt (aR f)) p.1 p.2):jP f (vt (aR f)) (vC f p).1 (vC f p).2∧(∀t,bK f (vC f p) t↔bK f p t)∧p.1≤(vC f p).1∧(vC f p).2≤p.2∧((vC f p).2-(vC f p).1)*2≤p.2-p.1:=by
 unfold vC
 by_cases c8:p.1<p.2
 ·rw [if_pos c8]
  obtain⟨m1,m2⟩:=pS c8
  obtain⟨d1,d2⟩:=A.half m1 m2
  have e2:(p.1+p.2)/2*2=p.1+p.2:=Rat.div_mul_cancel (by decide)
  have hr:=fun h0=>A.S.root m2 (t:=p.2) (s:=(p.1+p.2)/2) h0
  generalize (p.1+p.2)/2=m at *
  by_cases h0:e m f=0
  ·rw [if_pos h0]
   have h5:vt (aR f) m<vt (aR f) p.1:=by
    have hv:vt (aR f) p.1=vt (aR f) p.2+1:=by
     rcases A.k with ⟨h,_⟩ | ⟨_,h⟩
     ·rw [h]at c8;exact absurd c8 Rat.lt_irrefl
     ·exact h
    refine Nat.not_le.1 fun h6=>?_
    have h7:=A.S.b8 (Rat.le_of_lt m1)
    exact(A.S.flat m1 (by omega)).1 h0
   obtain⟨a1,a2⟩:=d1 h5
   obtain⟨b1,b2⟩:=a1.exact h0
   exact⟨b1,fun t=>(b2 t).trans (a2 t),Rat.le_of_lt m1,Rat.le_of_lt m2,by show(m-m)*2≤_;grind⟩
  ·rw [if_neg h0]
   by_cases h5:vt (aR f) m<vt (aR f) p.1
   ·rw [if_pos h5]
    obtain⟨a1,a2⟩:=d1 h5
    exact⟨a1,a2,Rat.le_refl,Rat.le_of_lt m2,by show(m-p.1)*2≤_;grind⟩
   ·rw [if_neg h5]
    obtain⟨a1,a2⟩:=d2 h5
    exact⟨a1,a2,Rat.le_of_lt m1,Rat.le_refl,by show(p.2-m)*2≤_;grind⟩
 ·rw [if_neg c8]
  have:=A.le
  exact⟨A,fun t=>Iff.rfl,Rat.le_refl,Rat.le_refl,by grind⟩
theorem ZQ{s n u:Nat}{g:ZX}(I:lL s n g)(hs:s≤1000000){lo hi:Rat}(h:lo<hi)(hv:vt (aR g) lo≤vt (aR g) hi+1)(q1:SQ u lo)(q2:SQ u hi)(hu:u≤1000000000):aD env.P 185 [Po g.l,RT lo,RT hi] (.bool (decide (vt (aR g) hi<vt (aR g) lo))):=by
 have h1:=uB g I.ch.bz (by omega) (by have:=I.ch.hn;omega) q2 hu
 have h2:=DJ I hs q1 hu
 have k:=af3 (an:=lo.num) (ad:=lo.den) (bn:=hi.num) (bd:=hi.den) h1 h2
 have m1:=I.S.b8 (Rat.le_of_lt h)
 have e1:decide (cH (e hi g)=0∨cH (e hi g)≠FY g lo)=decide (vt (aR g) hi<vt (aR g) lo):=by
  refine decide_eq_decide.2 ?_
  by_cases h0:e hi g=0
  ·refine⟨fun _=>Nat.not_le.1 fun h5=>(I.S.flat h (by omega)).1 h0,fun _ => .inl (by rw [h0,iL])⟩
  ·have h3:cH (e hi g)≠0:=fun h=>h0 (eU.1 h)
   have MN:=I.S.par (Rat.le_of_lt h)
   have h4:FY g hi=cH (e hi g):=by unfold FY;rw [if_neg h0]
   rw [h4]at MN
   by_cases h5:vt (aR g) hi<vt (aR g) lo
   ·rw [show vt (aR g) lo-vt (aR g) hi=1 by omega,show sg1 1 = -1 from rfl]at MN
    exact⟨fun _=>h5,fun _ => .inr fun h6=>by omega⟩
   ·rw [show vt (aR g) lo-vt (aR g) hi=0 by omega,show sg1 0=1 from rfl,Int.one_mul]at MN
    exact⟨fun h6=>(h6.elim (fun h7=>h3 h7) (fun h7=>h7 MN)).elim,fun h6=>absurd h6 h5⟩
 rw [e1]at k
 exact k
def gY(f:ZX)(p:Rat × Rat):Nat→Rat × Rat
 | 0=>p
 | j+1=>vC f (gY f p j)
theorem WC{f:ZX}{p:Rat × Rat}{D j:Nat}{B:Rat}(h1:Gr D B j p.1)(h2:Gr D B j p.2):Gr D B (j+1) (vC f p).1∧Gr D B (j+1) (vC f p).2:=by
 have hm:=h1.GK h2
 unfold vC
 split
 ·split
  ·exact⟨hm,hm⟩
  ·split
   ·exact⟨h1.mono (by omega),hm⟩
   ·exact⟨hm,h2.mono (by omega)⟩
 ·exact⟨h1.mono (by omega),h2.mono (by omega)⟩
theorem F9{f:ZX}{p:Rat × Rat}(A:jP f (vt (aR f)) p.1 p.2){D:Nat}{B:Rat}(h1:Gr D B 0 p.1)(h2:Gr D B 0 p.2):∀j,jP f (vt (aR f)) (gY f p j).1 (gY f p j).2∧(∀t,bK f (gY f p j) t↔bK f p t)∧p.1≤(gY f p j).1∧(gY f p j).2≤p.2∧((gY f p j).2-(gY f p j).1)*2^j≤p.2-p.1∧Gr D B j (gY f p j).1∧Gr D B j (gY f p j).2
 | 0=>⟨A,fun _=>Iff.rfl,Rat.le_refl,Rat.le_refl,by rw [Rat.pow_zero,Rat.mul_one];exact Rat.le_refl,h1,h2⟩
 | j+1=>by
  obtain⟨a1,a2,a3,a4,a5,a6,a7⟩:=F9 A h1 h2 j
  obtain⟨b1,b2,b3,b4,b5⟩:=lJ a1
  obtain⟨c1,c2⟩:=WC (f:=f) a6 a7
  refine⟨b1,fun t=>(b2 t).trans (a2 t),by show _≤(vC f (gY f p j)).1;grind,by show(vC f (gY f p j)).2≤_;grind,?_,c1,c2⟩
  show((vC f (gY f p j)).2-(vC f (gY f p j)).1)*2^(j+1)≤_
  have hP:=fA j
  have g3:=Rat.mul_le_mul_of_nonneg_right b5 (Rat.le_of_lt hP)
  rw [Rat.pow_succ]
  grind
structure WD(U:Rat→Prop):Prop where
 up:∀s t,U s→s≤t→U t
 lo:∃s,¬U s
 hi:∃t,U t
namespace WD
variable {U:Rat→Prop} (H:WD U)
include H
theorem lt{s t:Rat}(h1:¬U s)(h2:U t):s<t:=Rat.not_le.1 fun h=>h1 (H.up t s h2 h)
theorem inter{s t s' t':Rat}(h1:¬U s)(h2:U t)(h3:¬U s')(h4:U t'):∃a b,¬U a∧U b∧s≤a∧s'≤a∧b≤t∧b≤t'∧a<b:=by
 obtain⟨a,a1,a2,a3⟩:∃a,¬U a∧s≤a∧s'≤a:=by
  by_cases h:s≤s'
  ·exact⟨s',h3,h,Rat.le_refl⟩
  ·exact⟨s,h1,Rat.le_refl,by grind⟩
 obtain⟨b,b1,b2,b3⟩:∃b,U b∧b≤t∧b≤t':=by
  by_cases h:t≤t'
  ·exact⟨t,h2,Rat.le_refl,h⟩
  ·exact⟨t',h4,by grind,Rat.le_refl⟩
 exact⟨a,b,a1,b1,a2,a3,b2,b3,H.lt a1 b1⟩
end WD
def Up(U:Rat→Prop)(x:Rat):Prop:=∃s,s<x∧U s
def Sn(U:Rat→Prop)(q:ZX)(σ:Int):Prop:=∃ε s t:Rat,0<ε∧¬U s∧U t ∧ ∀x,s<x→x≤t→cH (e x q)=σ∧lK ε (e x q)
def RF(U:Rat→Prop)(q:ZX):Prop:=∀ε:Rat,0<ε → ∃s t,¬U s∧U t ∧ ∀x,s≤x→x≤t→Ab (e x q) ε
def MO(U:Rat→Prop)(q:ZX)(σ:Int):Prop:=(σ=0∧RF U q)∨((σ=1∨σ = -1)∧Sn U q σ)
theorem Sn.ZS{U:Rat→Prop}(H:WD U){q:ZX}{σ:Int}(h:Sn U q σ):¬RF U q:=fun h2=>by
 obtain⟨ε,s,t,h0,h1,h2',h3⟩:=h
 obtain⟨s',t',h4,h5,h6⟩:=h2 (ε/2) (by grind)
 obtain⟨a,b,g1,g2,g3,g4,g5,g6,g7⟩:=H.inter h1 h2' h4 h5
 have k1:=(h3 b (by grind) g5).2
 obtain⟨k2,k3⟩:=h6 b (by grind) g6
 rcases k1 with k1 | k1<;>grind
theorem MO.uniq{U:Rat→Prop}(H:WD U){q:ZX}{σ τ:Int}(h:MO U q σ)(h':MO U q τ):σ=τ:=by
 rcases h with ⟨rfl,h⟩ | ⟨h1,h⟩
 ·rcases h' with ⟨rfl,h'⟩ | ⟨_,h'⟩
  ·rfl
  ·exact absurd h (h'.ZS H)
 ·rcases h' with ⟨_,h'⟩ | ⟨_,h'⟩
  ·exact absurd h' (h.ZS H)
  ·obtain⟨ε,s,t,_,h2,h3,h4⟩:=h
   obtain⟨ε',s',t',_,h5,h6,h7⟩:=h'
   obtain⟨a,b,g1,g2,g3,g4,g5,g6,g7⟩:=H.inter h2 h3 h5 h6
   rw [←(h4 b (by grind) g5).1,←(h7 b (by grind) g6).1]
noncomputable def WE(U:Rat→Prop)(q:ZX):Int:=open Classical in if h:∃σ,MO U q σ then h.choose else 0
theorem MO.eq{U:Rat→Prop}(H:WD U){q:ZX}{σ:Int}(h:MO U q σ):WE U q=σ:=by
 have h1:∃σ,MO U q σ:=⟨σ,h⟩
 unfold WE
 rw [dif_pos h1]
 exact h1.choose_spec.uniq H h
theorem uC{U:Rat→Prop}(H:WD U):RF U 0:=fun ε hε=>by
 obtain⟨s,hs⟩:=H.lo
 obtain⟨t,ht⟩:=H.hi
 refine⟨s,t,hs,ht,fun x _ _=>?_⟩
 have:e x 0=0:=rfl
 rw [this]
 exact⟨by grind,by grind⟩
theorem RF.mul{U:Rat→Prop}(H:WD U){g:ZX}(h:RF U g)(k:ZX):RF U (k*g):=fun ε hε=>by
 obtain⟨s0,hs⟩:=H.lo
 obtain⟨t0,ht⟩:=H.hi
 obtain⟨B,hB,ha,hb⟩:=j4 s0 t0
 obtain⟨Q,hQ,hl⟩:=lip k B hB
 obtain⟨M,hM,hm,_⟩:=j4 (e s0 k) 0
 have iP:=H.lt hs ht
 have hC:0<M+(t0-s0)*Q:=by
  have:=Rat.mul_pos (show 0<t0-s0 by grind) hQ;grind
 have hk:∀x,s0≤x→x≤t0→Ab (e x k) (M+(t0-s0)*Q):=fun x h1 h2=>by
  have h3:=hl s0 x ha (cL ha hb h1 h2) h1
  have h4:(x-s0)*Q≤(t0-s0)*Q:=Rat.mul_le_mul_of_nonneg_right (by grind) (Rat.le_of_lt hQ)
  obtain⟨p1,p2⟩:=h3
  obtain⟨p3,p4⟩:=hm
  exact⟨by grind,by grind⟩
 generalize M+(t0-s0)*Q=C at *
 have e1:ε/C*C=ε:=Rat.div_mul_cancel (Rat.ne_of_gt hC)
 obtain⟨s,t,g1,g2,g3⟩:=h (ε/C) ((Rat.lt_div_iff hC).2 (by grind))
 obtain⟨a,b,k1,k2,k3,k4,k5,k6,k7⟩:=H.inter hs ht g1 g2
 refine⟨a,b,k1,k2,fun x h1 h2=>?_⟩
 have h3:=(hk x (by grind) (by grind)).mul (g3 x (by grind) (by grind))
 rw [sC]
 refine h3.mono ?_
 grind
theorem RF.HD{U:Rat→Prop}{c:Int}(hc:c≠0){q:ZX}(h:RF U (K c*q)):RF U q:=fun ε hε=>by
 obtain⟨s,t,h1,h2,h3⟩:=h ε hε
 refine⟨s,t,h1,h2,fun x h4 h5=>?_⟩
 have h6:=h3 x h4 h5
 rw [sC,CN]at h6
 have h7:=u5 hc
 obtain⟨p1,p2⟩:=h6
 generalize (c:Rat)=C at *
 generalize e x q=y at *
 have key:∀C y:Rat,1≤C→C*y≤ε → -ε≤C*y→Ab y ε:=fun C y h1 h2 h3=>by
  refine⟨Rat.not_lt.1 fun h=>?_,Rat.not_lt.1 fun h=>?_⟩
  ·have:=Rat.mul_le_mul_of_nonneg_right h1 (show 0 ≤ -y by grind);grind
  ·have:=Rat.mul_le_mul_of_nonneg_right h1 (show 0≤y by grind);grind
 rcases h7 with h7 | h7
 ·have:=key (-C) (-y) (by grind) (by grind) (by grind)
  obtain⟨q1,q2⟩:=this
  exact⟨by grind,by grind⟩
 ·exact key C y h7 p2 p1
theorem RF.dv{U:Rat→Prop}(H:WD U){g q:ZX}(h:RF U g)(hd:dv g q):RF U q:=by
 obtain⟨c,hc,k,hk⟩:=hd
 have h1:=h.mul H k
 rw [←hk]at h1
 exact h1.HD hc
theorem RG{U:Rat→Prop}(H:WD U){w:ZX}{φ:Rat→Nat}(S:sE w φ){s0 t0:Rat}(h1:¬U s0)(h2:U t0)(ht:∀s t,s0≤s→t≤t0→¬U s→U t→φ s≠φ t):RF U w:=fun ε hε=>by
 obtain⟨B,hB,ha,hb⟩:=j4 s0 t0
 obtain⟨Q,hQ,hl⟩:=lip w B hB
 have e1:ε/Q*Q=ε:=Rat.div_mul_cancel (Rat.ne_of_gt hQ)
 have e2:0<ε/Q:=(Rat.lt_div_iff hQ).2 (by grind)
 obtain⟨s,t,g1,g2,g3,g4,g5,g6⟩:=DG (U:=U) e2 (H.lt h1 h2) h1 h2
 refine⟨s,t,g5,g6,fun x hx hy=>?_⟩
 have h3:=S.small g2 (ht s t g1 g3 g5 g6) hQ (fun a b q1 q2 q3=>hl a b (cL ha hb (by grind) (by grind)) (cL ha hb (by grind) (by grind)) q2) hx hy
 refine h3.mono ?_
 have h4:=Rat.mul_le_mul_of_nonneg_right g4 (Rat.le_of_lt hQ)
 grind
theorem abV(p:ZX){c a b:Rat}(gW:a<b)(h:∀x,a<x→x≤b→0≤c*e x (b9 p)):c*e a p≤c*e b p:=by
 refine Rat.not_lt.1 fun AO=>?_
 obtain⟨M,hM,hc,_⟩:=j4 c 0
 have key:∀η:Rat,0<η → -(η*(b-a))≤c*e b p-c*e a p:=fun η hη=>by
  have:=afI (P:=fun x y=>a≤x→y≤b → -(η*(y-x))≤c*e y p-c*e x p) (fun x y z h1 h2 p1 p2 h3 h4=>by
   have:=p1 h3 (by grind)
   have:=p2 (by grind) h4
   grind) (fun B hB=>by
   obtain⟨S,hS,hcS⟩:=C9 p.l
   obtain⟨h3,_⟩:=o9 hS hB p.l.length
   have hQ:0<M*(zK S B p.l.length+1):=Rat.mul_pos (by grind) (by grind)
   have e1:η/(M*(zK S B p.l.length+1))*(M*(zK S B p.l.length+1))=η:=Rat.div_mul_cancel (Rat.ne_of_gt hQ)
   refine⟨η/(M*(zK S B p.l.length+1)),(Rat.lt_div_iff hQ).2 (by grind),fun x y hx hy rU hd h4 h5=>?_⟩
   have g1:=mY y x p.l
   have g2:=L2 y x p.l
   have g3:dd y y p.l=e y (b9 p):=(afk y p).symm
   have g4:=hc.mul ((Y4 hS hB hy hx p.l hcS).mono (show zK S B p.l.length≤zK S B p.l.length+1 by grind))
   have g5:=h y (by grind) h5
   have g6:e y p=qv y p.l:=rfl
   have g7:e x p=qv x p.l:=rfl
   rw [g6,g7]
   rw [g3]at g2
   generalize M*(zK S B p.l.length+1)=Q at *
   have g8:c*qv y p.l-c*qv x p.l=(y-x)*(c*e y (b9 p))-(y-x)*((y-x)*(c*cc y x p.l)):=by grind
   rw [g8]
   have g9:=Rat.mul_nonneg (show 0≤y-x by grind) g5
   have g10:(y-x)*(c*cc y x p.l)≤η:=by
    have q1:=Rat.mul_le_mul_of_nonneg_left g4.2 (show 0≤y-x by grind)
    have q2:=Rat.mul_le_mul_of_nonneg_right hd (Rat.le_of_lt hQ)
    grind
   have g11:=Rat.mul_le_mul_of_nonneg_left g10 (show 0≤y-x by grind)
   grind) gW Rat.le_refl Rat.le_refl
  exact this
 have h2:0<b-a:=by grind
 have e2:(c*e a p-c*e b p)/(2*(b-a))*(2*(b-a))=c*e a p-c*e b p:=Rat.div_mul_cancel (by grind)
 have h3:=key _ ((Rat.lt_div_iff (show 0<2*(b-a)by grind)).2 (show 0*(2*(b-a))<c*e a p-c*e b p by grind))
 generalize (c*e a p-c*e b p)/(2*(b-a))=η at *
 grind
theorem GB{α:Type}{P:α→Prop}{f:α→Nat}:∀n,(∀x,P x→f x≤n)→(∃x,P x) → ∃x,P x ∧ ∀y,P y→f y≤f x
 | 0,h,⟨x,hx⟩=>⟨x,hx,fun y hy=>by have:=h y hy;omega⟩
 | n+1,h,hx=>by
  by_cases h1:∃x,P x∧f x=n+1
  ·obtain⟨x,h2,h3⟩:=h1
   exact⟨x,h2,fun y hy=>by have:=h y hy;omega⟩
  ·exact GB n (fun y hy=>by
    have h2:=h y hy
    have h3:f y≠n+1:=fun h3=>h1 ⟨y,hy,h3⟩
    omega) hx
theorem af7{U:Rat→Prop}(H:WD U){p:ZX}(h0:p≠0)(hN:ZX.N p≤20){t:Rat}(ht:Up U t):∃t1,Up U t1∧t1≤t ∧ ∀x,Up U x→x≤t1→e x p≠0:=by
 obtain⟨nf,hf⟩:=oM h0
 have DC:sN (sq p) (b9 (sq p)):=fun d h1 h2=>by
  have h3:=(eJ (sq p) (b9 (sq p))).least h1 h2
  rw [ZD h0]at h3
  have:=h3.mD ZX.oI
  rwa [ZX.r9]at this
 have GM:ZX.N (sq p)≤20:=by
  have h1:=(u6 h0).mD h0
  omega
 have S:=sP nf.ne DC GM
 obtain⟨s0,R9⟩:=H.lo
 obtain⟨t1,⟨h1,h2⟩,h3⟩:=GB (P:=fun x=>Up U x∧x≤t) (f:=vt (aR (sq p))) (vt (aR (sq p)) s0) (fun x hx=>by
  obtain⟨⟨s,h1,h2⟩,_⟩:=hx
  have:=H.lt R9 h2
  exact S.b8 (by grind)) ⟨t,ht,Rat.le_refl⟩
 refine⟨t1,h1,h2,fun x hx hxt=>?_⟩
 obtain⟨s,h4,h5⟩:=hx
 obtain⟨m1,m2⟩:=pS h4
 generalize (s+x)/2=y at *
 have h6:=h3 y ⟨⟨s,m1,h5⟩,by grind⟩
 have h7:=S.b8 hxt
 have h8:=S.b8 (Rat.le_of_lt m2)
 exact(DI nf DC S GM m2 (by omega) _ p (Nat.le_refl _) h0 (fun q hq=>by rw [hf q hq];exact Nat.le_refl _) x m2 Rat.le_refl).1
def Af(U:Rat→Prop)(q:ZX)(σ:Int):Prop:=σ≠0 ∧ ∃t,Up U t ∧ ∀x,Up U x→x≤t→cH (e x q)=σ
theorem Up.min{U:Rat→Prop}{s t:Rat}(hs:Up U s)(ht:Up U t):∃x,Up U x∧x≤s∧x≤t:=by
 by_cases h:s≤t
 ·exact⟨s,hs,Rat.le_refl,h⟩
 ·exact⟨t,ht,by grind,Rat.le_refl⟩
theorem Af.uniq{U:Rat→Prop}{q:ZX}{σ τ:Int}(h:Af U q σ)(h':Af U q τ):σ=τ:=by
 obtain⟨_,s,h1,h2⟩:=h
 obtain⟨_,t,h3,h4⟩:=h'
 obtain⟨x,h5,h6,h7⟩:=h1.min h3
 rw [←h2 x h5 h6,h4 x h5 h7]
theorem Af.neg{U:Rat→Prop}{p:ZX}{σ:Int}(h:Af U p σ):Af U (-p) (-σ):=by
 obtain⟨n1,s,h1,h2⟩:=h
 refine⟨by omega,s,h1,fun y hy hyx=>?_⟩
 have h3:=alO (t:=y) (-p) p
 rw [show -p+p=0 by grind,show e y 0=0 from rfl]at h3
 rw [show e y (-p) = -e y p by grind,ajj,h2 y hy hyx]
theorem Af.abs{U:Rat→Prop}{q:ZX}{σ:Int}(h:Af U q σ):σ=1∨σ = -1:=by
 obtain⟨n1,s,h1,h2⟩:=h
 have:=nS (e s q)
 rw [h2 s h1 Rat.le_refl]at this
 omega
theorem Sn.Af{U:Rat→Prop}(H:WD U){q:ZX}{σ:Int}(h0:σ≠0)(h:Sn U q σ):Af U q σ:=by
 obtain⟨ε,s,t,_,h1,h2,h3⟩:=h
 by_cases h4:Up U t
 ·exact⟨h0,t,h4,fun x ⟨y,hy1,hy2⟩ hx2=>(h3 x (by have:=H.lt h1 hy2;grind) hx2).1⟩
 ·have h5:=(h3 t (H.lt h1 h2) Rat.le_refl).1
  obtain⟨r,hr,hc⟩:=ZH (f:=q) (t:=t) fun h=>by rw [h,iL]at h5;exact h0 h5.symm
  refine⟨h0,t+r,⟨t,by grind,h2⟩,fun x hx hx2=>?_⟩
  have h6:t<x:=Rat.not_le.1 fun h6=>h4 (by
   obtain⟨y,hy1,hy2⟩:=hx
   exact⟨y,by grind,hy2⟩)
  rw [hc x (by grind) hx2,h5]
theorem RF.Af{U:Rat→Prop}(H:WD U){p:ZX}(hp:p≠0)(hN:ZX.N p≤20){σ:Int}(h:RF U p)(hd:Af U (b9 p) σ):Af U p σ:=by
 have ha:=hd.abs
 obtain⟨h0,t,h1,h2⟩:=hd
 obtain⟨t1,g1,g2,g3⟩:=af7 H hp hN h1
 refine⟨h0,t1,g1,fun x hx hxt=>?_⟩
 have main:∀c:Rat,(∀y,Up U y→y≤t→0≤c*e y (b9 p))→(c=1∨c = -1)→0≤c*e x p:=fun c hc xI=>Rat.not_lt.1 fun OY=>by
  obtain⟨s,t',k1,k2,k3⟩:=h (-(c*e x p)/2) (by grind)
  obtain⟨y,hy1,hy2⟩:=hx
  obtain⟨z,z1,z2,z3,z4⟩:∃z,U z∧z≤t'∧z<x∧s≤z:=by
   by_cases q:y≤t'
   ·exact⟨y,hy2,q,hy1,Rat.le_of_lt (H.lt k1 hy2)⟩
   ·exact⟨t',k2,Rat.le_refl,by grind,Rat.le_of_lt (H.lt k1 k2)⟩
  have q1:=k3 z z4 z2
  have q2:=abV p (c:=c) z3 fun v hv1 hv2=>hc v ⟨z,hv1,z1⟩ (by grind)
  obtain⟨q3,q4⟩:=q1
  rcases xI with rfl | rfl<;>grind
 have kQ:=g3 x hx hxt
 have sx:=cP (e x p)
 rcases ha with rfl | rfl
 ·have:=main 1 (fun y hy hyt=>by have:=FR.1 (h2 y hy hyt);grind) (.inl rfl)
  exact eF (by grind)
 ·have:=main (-1) (fun y hy hyt=>by have:=FQ.1 (h2 y hy hyt);grind) (.inr rfl)
  exact fS (by grind)
theorem af8{U:Rat→Prop}(H:WD U){sg:ZX→Int}(hs:∀q:ZX,ZX.N q≤20→MO U q (sg q)):∀(k:Nat) (p:ZX),ZX.N p≤k→ZX.N p≤20→p≠0→Af U p (JI sg k p)
 | 0,p,hk,_,h0=>absurd hk (by have:=ZX.aI.1 h0;omega)
 | k+1,p,hk,hN,h0=>by
  rw [JI]
  rcases hs p hN with ⟨h1,h2⟩ | ⟨h1,h2⟩
  ·rw [if_pos h1]
   have hd:b9 p≠0:=fun hd=>by
    have hN1:ZX.N p=1:=by
     have:=ZX.aI.1 h0
     rcases Nat.lt_or_ge (ZX.N p) 2 with h3 | h3
     ·omega
     ·exact absurd hd (FG h3)
    obtain⟨c,hc,rfl⟩:=ZX.lC hN1
    obtain⟨s,t,g1,g2,g3⟩:=h2 (1/2) (by grind)
    have g4:=g3 t (Rat.le_of_lt (H.lt g1 g2)) Rat.le_refl
    rw [CN]at g4
    have g5:=u5 hc
    obtain⟨p1,p2⟩:=g4
    rcases g5 with g5 | g5<;>grind
   have hNd:=nG p
   exact h2.Af H h0 hN (af8 H hs k (b9 p) (by omega) (by omega) hd)
  ·rw [if_neg (by omega)]
   exact h2.Af H (by omega)
end Go.Proofs.YtelhfbikiccfkaaGreat
namespace Go.Proofs.YtelhfbikiccfkaaGreat
open Go Pm
open ZX hiding N W
theorem af9{a b:ZX}(na:Nf a)(nb:Nf b)(hd:dv b a){h n l:Nat}(hH:∀d∈a.l,d.natAbs≤2^h)(hN:ZX.N a≤n)(hn:n≤2^l):∀c∈b.l,c.natAbs≤2^(h+n*(2*l+3)):=by
 obtain⟨w,_,e⟩:=na.quo nb hd
 exact aeZ na.ne e hH hN hn
theorem MP{z n:Nat}{f:ZX}(nf:Nf f)(bz:BZ z n f):Ab (i7 f.l) (2^(z+1)):=by
 have f0:=vB nf.ne
 have h1:=AM f.c f0
 have hl:=dK f.c (List.length_pos_iff.2 f0)
 have hL:(1:Rat)≤(((lead f.l).natAbs:Int):Rat):=fK (by omega)
 have h2:=Rat.div_mul_cancel (a:=((mG f.l (f.l.length-1):Int):Rat)) (b:=(((lead f.l).natAbs:Int):Rat)) (by grind)
 have h3:(1:Rat)≤i7 f.l:=(rS f.c f0 (t:=i7 f.l) (.inr Rat.le_refl)).2
 have h4:((mG f.l (f.l.length-1):Int):Rat)≤2^z:=by
  have h5:=iK (b:=2) (by decide) (mG f.l (f.l.length-1))
  have h6:=Nat.pow_le_pow_right (show 0<2 by decide) (w5 bz (f.l.length-1))
  exact(JD (s:=z) (by omega)).2
 have h7:=rP z
 rw [Rat.pow_succ]
 generalize (2:Rat)^z=T at *
 generalize ((mG f.l (f.l.length-1):Int):Rat)=m at *
 have hw:m/(((lead f.l).natAbs:Int):Rat)≤T:=by
  refine Rat.not_lt.1 fun h=>?_
  have h8:=Rat.mul_le_mul_of_nonneg_left hL (show 0≤m/(((lead f.l).natAbs:Int):Rat)by grind)
  grind
 exact⟨by grind,by grind⟩
section
variable {f:ZX} {v:Rat→Nat} {lo hi:Rat} (nf:Nf f) (A:jP f v lo hi)
include nf A
theorem MQ{t:Rat}:(gM v lo hi t → -i7 f.l<t)∧(¬gM v lo hi t→t<i7 f.l):=by
 have f0:=vB nf.ne
 have al3:∀ {a b:Rat},a<b→b ≤ -i7 f.l→v a=v b:=fun gW hb=>A.S.bg ⟨1,by decide,fun x _ h2=>(rS f.c f0 (.inl (by grind))).1⟩ gW
 have al4:∀ {a b:Rat},a<b→i7 f.l≤a→v a=v b:=fun gW hb=>A.S.bg ⟨1,by decide,fun x h1 _=>(rS f.c f0 (.inr (by grind))).1⟩ gW
 have pt:e lo f=0→¬lK (i7 f.l) lo:=fun h0 hb=>by
  have h1:=(rS f.c f0 hb).1
  rw [show qv lo f.l=e lo f from rfl,h0]at h1
  rcases h1 with h1 | h1<;>exact absurd h1 (by decide)
 constructor
 ·refine fun h=>Rat.not_le.1 fun ht=>?_
  rcases A.k with ⟨h1,h2⟩ | ⟨h1,h2⟩
  ·refine pt h2 (.inl ?_)
   rcases h with h | ⟨h,h3⟩
   ·grind
   ·grind
  ·rcases h with h | ⟨h,h3⟩
   ·have:=al3 h1 (by grind);omega
   ·have:=al3 h ht;omega
 ·refine fun h=>Rat.not_le.1 fun ht=>?_
  have h0:t<hi:=Rat.not_le.1 fun h1=>h (.inl h1)
  rcases A.k with ⟨h1,h2⟩ | ⟨h1,h2⟩
  ·exact pt h2 (.inr (by grind))
  ·by_cases h3:t≤lo
   ·have:=al4 h1 (by grind);omega
   ·have h4:v lo≤v t:=Nat.not_lt.1 fun h4=>h (.inr ⟨by grind,h4⟩)
    have:=al4 h0 ht
    omega
theorem aga:2≤ZX.N f:=Nat.not_lt.1 fun h=>by
 have:=ZX.aI.1 nf.ne
 obtain⟨c,hc,rfl⟩:=ZX.lC (x:=f) (by omega)
 have hcq:(c:Rat)≠0:=fun h0=>hc (Rat.intCast_eq_zero_iff.1 h0)
 rcases A.k with ⟨_,h2⟩ | ⟨h1,h2⟩
 ·rw [CN]at h2;exact hcq h2
 ·have:=A.S.const h1 (σ:=cH (c:Rat)) (.inr (by rw [CN])) (fun x _ _=>by rw [CN])
  omega
end
theorem cT{f:ZX}{v:Rat→Nat}{lo hi:Rat}(A:jP f v lo hi):WD (gM v lo hi):=⟨fun _ _ h h'=>A.up h h',⟨lo-1,A.gU (.inl (by grind))⟩,⟨hi,eO⟩⟩
def se(s r n m β:Nat):Nat:=6*(n+m)+(s+n*9)*m+r*n+(n+m)*(β+2)+2
theorem WG{f h g w:ZX}(S:m7 f h g w)(nf:Nf f)(nh:Nf h)(ch:sN h (b9 h)){s r n m β:Nat}(hA:∀c∈f.l,c.natAbs≤2^s)(hB:∀c∈h.l,c.natAbs≤2^r)(hn:ZX.N f≤n)(hm:ZX.N h≤m)(n8:n≤8)(m8:m≤8)
  {a b:Rat} (ha:Ab a (2^β)) (hb:Ab b (2^β)) (gW:a<b) (hd:(b-a)*2^se s r n m β≤1):vt (aR w) a=vt (aR w) b∨vt (aR h) a=vt (aR h) b:=by
 have n1:=S.N
 have Sw:=sP S.nw.ne S.sw (by omega)
 have Sh:=sP nh.ne ch (by omega)
 refine ZO Sw Sh S.wh (s:=s+n*9) (r:=r) (l:=4) (β:=β) (af9 nf S.nw (by rw [S.eq];exact(dv.refl w).mul_right _) hA hn (show n≤2^3 by omega)) hB (by omega) ha hb gW (FX hd ?_)
 unfold se sx
 have h1:(s+n*9)*ZX.N h≤(s+n*9)*m:=Nat.mul_le_mul_left _ hm
 have h2:r*ZX.N w≤r*n:=Nat.mul_le_mul_left _ (by omega)
 have h3:(ZX.N w+ZX.N h)*(β+2)≤(n+m)*(β+2):=Nat.mul_le_mul_right _ (by omega)
 omega
theorem ajD{f h:ZX}{p q:Rat × Rat}(nf:Nf f)(nh:Nf h)(cf:sN f (b9 f))(ch:sN h (b9 h))(A:jP f (vt (aR f)) p.1 p.2)(B:jP h (vt (aR h)) q.1 q.2){s r n m β K:Nat}(hA:∀c∈f.l,c.natAbs≤2^s)(hB:∀c∈h.l,c.natAbs≤2^r)(hn:ZX.N f≤n)(hm:ZX.N h≤m)(n8:n≤8)(m8:m≤8)
  (k1:se s r n m β≤K) (k2:se r s m n β≤K) (k3:lk s n 3 β≤K∨lk r m 3 β≤K) {S E:Rat} (hS:Ab S (2^β)) (hE:Ab E (2^β)) (a1:¬bK f p S) (a2:bK f p E) (b1:¬bK h q S) (b2:bK h q E) (hd:(E-S)*2^K≤1):∀x,bK f p x↔bK h q x:=by
 have CQ:=(cT A).lt a1 a2
 obtain⟨w1,S1⟩:=lH (h:=h) nf cf
 obtain⟨w2,S2⟩:=lH (h:=f) nh ch
 rw [←rI]at S2
 have n1:=S1.N
 have n2:=S2.N
 have hg:=sP S1.ng.ne S1.sg (by omega)
 have zH:=sP S1.nw.ne S1.sw (by omega)
 have XM:=sP S2.nw.ne S2.sw (by omega)
 have o1:=jC A a1 a2 CQ
 have o2:=jC B b1 b2 CQ
 have c1:=S1.F6 A.S hg zH (Rat.le_of_lt CQ)
 have c2:=S2.F6 B.S hg XM (Rat.le_of_lt CQ)
 have e1:=(WG S1 nf nh ch hA hB hn hm n8 m8 hS hE CQ (FX hd k1)).resolve_right (by omega)
 have e2:=(WG S2 nh nf cf hB hA hm hn m8 n8 hS hE CQ (FX hd k2)).resolve_right (by omega)
 have qU:∀ {x:ZX} {s n:Nat},sE x (vt (aR x))→(∀c∈x.l,c.natAbs≤2^s)→ZX.N x≤n→n≤8→lk s n 3 β≤K→vt (aR x) S≤vt (aR x) E+1:=fun {x s n} hx hA hN h8 hk=>by
  obtain⟨L,G,e⟩:=hx.g
  obtain⟨g1,_⟩:=u7 G (s:=s) (n:=n) (l:=3) (β:=β) hx.ne hA hN (by omega) hx.DC (δ:=E-S) (FX hd hk)
  have:=g1.turns S E hS hE CQ Rat.le_refl
  rw [e]
  rcases MH x S E with h5 | h5<;>omega
 have m0:=hg.b8 (Rat.le_of_lt CQ)
 have hv:vt (aR f) S≤vt (aR f) E+1∧vt (aR h) S≤vt (aR h) E+1:=by
  rcases k3 with k3 | k3
  ·have:=qU A.S hA hn n8 k3;omega
  ·have:=qU B.S hB hm m8 k3;omega
 exact yY A B S1 S2 hg zH XM CQ a1 a2 b1 b2 hv.1 hv.2 (by omega)
theorem JJ{s r n m z:Nat}(n2:2≤n)(m2:2≤m)(n8:n≤8)(m8:m≤8)(hs:z≤s)(hr:z≤r):2*se s r n m (z+2)+2*(s+r)+9≤64+4*(n+m)*(s+r+(n+m)+8):=by
 have e1:4*(n+m)*(s+r+(n+m)+8)=4*(n*s)+4*(n*r)+4*(m*s)+4*(m*r)+4*(n*n)+8*(n*m)+4*(m*m)+32*n+32*m:=by grind
 have e2:se s r n m (z+2)=6*(n+m)+m*s+9*(n*m)+n*r+n*z+m*z+4*n+4*m+2:=by unfold se;grind
 have h1:n*z≤n*s:=Nat.mul_le_mul_left _ hs
 have h2:m*z≤m*r:=Nat.mul_le_mul_left _ hr
 have h3:n*m≤8*m:=Nat.mul_le_mul_right _ n8
 have h4:2*(n*m)≤n*n+m*m:=by
  rcases Nat.le_total n m with h | h
  ·obtain⟨d,rfl⟩:=Nat.exists_eq_add_of_le h;grind
  ·obtain⟨d,rfl⟩:=Nat.exists_eq_add_of_le h;grind
 have h5:2*s≤n*s:=Nat.mul_le_mul_right _ n2
 have h6:2*r≤m*r:=Nat.mul_le_mul_right _ m2
 omega
theorem lk3(s n:Nat):lk s n 3 (s+2)=5*(n*s)+30*n+s+6:=by unfold lk sk;grind
theorem JK{s r n m:Nat}(n2:2≤n)(m2:2≤m)(n8:n≤8)(hsr:s≤r)(hm:3≤m∨n≤2):2*lk s n 3 (s+2)+2*(s+r)+9≤64+4*(n+m)*(s+r+(n+m)+8):=by
 have e1:4*(n+m)*(s+r+(n+m)+8)=4*(n*s)+4*(n*r)+4*(m*s)+4*(m*r)+4*(n*n)+8*(n*m)+4*(m*m)+32*n+32*m:=by grind
 obtain⟨d,rfl⟩:=Nat.exists_eq_add_of_le hsr
 rw [e1,lk3,Nat.mul_add n,Nat.mul_add m]
 have h1:n*s≤8*s:=Nat.mul_le_mul_right _ n8
 have h5:2*s≤m*s:=Nat.mul_le_mul_right _ m2
 have h6:2*d≤m*d:=Nat.mul_le_mul_right _ m2
 have h7:2*n≤n*n:=Nat.mul_le_mul_right _ n2
 have h8:2*n≤n*m:=by rw [Nat.mul_comm n];exact Nat.mul_le_mul_right _ m2
 rcases hm with hm | hm
 ·have h9:3*s≤m*s:=Nat.mul_le_mul_right _ hm
  have h10:3*n≤n*m:=by rw [Nat.mul_comm n];exact Nat.mul_le_mul_right _ hm
  omega
 ·have h9:n*s≤2*s:=Nat.mul_le_mul_right _ hm
  omega
theorem JL{s r n m:Nat}(n2:2≤n)(n8:n≤8)(hsr:s≤r)(hm:m=2):2*lk r m 3 (s+2)+2*(s+r)+9≤64+4*(n+m)*(s+r+(n+m)+8):=by
 subst hm
 have e1:4*(n+2)*(s+r+(n+2)+8)=4*(n*s)+4*(n*r)+8*s+8*r+4*(n*n)+48*n+80:=by grind
 have e2:lk r 2 3 (s+2)=5*r+6*s+66:=by unfold lk sk;omega
 have h5:2*s≤n*s:=Nat.mul_le_mul_right _ n2
 have h6:2*r≤n*r:=Nat.mul_le_mul_right _ n2
 have h7:2*n≤n*n:=Nat.mul_le_mul_right _ n2
 omega
theorem agb{s r n m:Nat}(n2:2≤n)(m1:1≤m)(n8:n≤8)(m8:m≤8):se s (r+m*9) n m (s+1)+s+2≤64+4*(n+m)*(s+r+(n+m)+8):=by
 have e1:4*(n+m)*(s+r+(n+m)+8)=4*(n*s)+4*(n*r)+4*(m*s)+4*(m*r)+4*(n*n)+8*(n*m)+4*(m*m)+32*n+32*m:=by grind
 have e2:se s (r+m*9) n m (s+1)=6*(n+m)+m*s+18*(n*m)+n*r+n*s+m*s+3*n+3*m+2:=by unfold se;grind
 have h3:n*m≤8*m:=Nat.mul_le_mul_right _ n8
 have h4:2*(n*m)≤n*n+m*m:=by
  rcases Nat.le_total n m with h | h
  ·obtain⟨d,rfl⟩:=Nat.exists_eq_add_of_le h;grind
  ·obtain⟨d,rfl⟩:=Nat.exists_eq_add_of_le h;grind
 have h5:2*s≤n*s:=Nat.mul_le_mul_right _ n2
 omega
theorem ZT(q:ZX)(x0:Rat){ε:Rat}(hε:0<ε):∃r:Rat,0<r ∧ ∀x,x0-r≤x→x≤x0+r→Ab (e x q-e x0 q) ε:=by
 obtain⟨B,hB,ha,hb⟩:=j4 (x0-1) (x0+1)
 obtain⟨Q,hQ,hl⟩:=lip q B hB
 have e1:ε/Q*Q=ε:=Rat.div_mul_cancel (Rat.ne_of_gt hQ)
 obtain⟨r,hr,h1,h2⟩:=min2 (show (0:Rat)<1 by decide) ((Rat.lt_div_iff hQ).2 (show 0*Q<ε by grind))
 have hrQ:r*Q≤ε:=by have:=Rat.mul_le_mul_of_nonneg_right h2 (Rat.le_of_lt hQ);grind
 have pL:Ab x0 B:=cL ha hb (by grind) (by grind)
 refine⟨r,hr,fun x h3 h4=>?_⟩
 have hx:Ab x B:=cL ha hb (by grind) (by grind)
 by_cases h:x0≤x
 ·have h5:=hl x0 x pL hx h
  refine h5.mono ?_
  have:=Rat.mul_le_mul_of_nonneg_right (show x-x0≤r by grind) (Rat.le_of_lt hQ)
  grind
 ·have h5:=(hl x x0 hx pL (by grind)).mono (show (x0-x)*Q≤ε by
   have:=Rat.mul_le_mul_of_nonneg_right (show x0-x≤r by grind) (Rat.le_of_lt hQ)
   grind)
  obtain⟨p1,p2⟩:=h5
  exact⟨by grind,by grind⟩
theorem apP{x y ε:Rat}(hε:0<ε)(h:lK (ε+ε) x)(rU:Ab (y-x) ε):cH y=cH x∧lK ε y:=by
 obtain⟨p1,p2⟩:=rU
 rcases h with h | h
 ·exact⟨by rw [fS (show x<0 by grind),fS (by grind)], .inl (by grind)⟩
 ·exact⟨by rw [eF (show 0<x by grind),eF (by grind)], .inr (by grind)⟩
theorem AS{U:Rat→Prop}{x0:Rat}(hU:∀t,U t↔x0≤t)(q:ZX):MO U q (cH (e x0 q)):=by
 have lo:∀ {r:Rat},0<r→¬U (x0-r):=fun hr h=>by have:=(hU _).1 h;grind
 have hi:∀ {r:Rat},0<r→U (x0+r):=fun hr=>(hU _).2 (by grind)
 by_cases h0:e x0 q=0
 ·refine .inl ⟨by rw [h0,iL],fun ε hε=>?_⟩
  obtain⟨r,hr,h⟩:=ZT q x0 hε
  refine⟨x0-r,x0+r,lo hr,hi hr,fun x h1 h2=>?_⟩
  have:=h x h1 h2
  rwa [h0,show e x q-0=e x q by grind]at this
 ·have hs:cH (e x0 q)=1∨cH (e x0 q) = -1:=by
   rcases cP (e x0 q)with ⟨_,h⟩ | ⟨h,_⟩ | ⟨_,h⟩
   ·exact .inr h
   ·exact absurd h h0
   ·exact .inl h
  obtain⟨ε,hε,hb⟩:∃ε:Rat,0<ε∧lK (ε+ε) (e x0 q):=by
   by_cases h:0≤e x0 q
   ·exact⟨e x0 q/2,by grind, .inr (by grind)⟩
   ·exact⟨-(e x0 q)/2,by grind, .inl (by grind)⟩
  obtain⟨r,hr,h⟩:=ZT q x0 hε
  exact .inr ⟨hs,ε,x0-r,x0+r,hε,lo hr,hi hr,fun x h1 h2=>apP hε hb (h x (Rat.le_of_lt h1) h2)⟩
theorem av7{r q:ZX}(hr:rG r)(q0:q≠0)(h:dv r q):dv r (sq q):=by
 obtain⟨nf,hf⟩:=oM q0
 have p1:r^1=r:=by rw [pow_succ',fV];grind
 have h1:=(nE hr q0 (k:=1)).2 (by rw [p1];exact h)
 have h2:=(nE hr nf.ne (k:=1)).1 (by rw [hf r hr];omega)
 rwa [p1]at h2
theorem sN.av8{w q:ZX}(q0:q≠0)(h:sN w (sq q)):sN w q:=fun d h1 h2=>Nat.not_lt.1 fun hd=>by
 obtain⟨r,hr,hrd⟩:=oJ _ d (Nat.le_refl _) (by omega)
 have:=h r (hrd.trans h1) (av7 hr q0 (hrd.trans h2))
 have:=hr.deg
 omega
theorem agc{f q:ZX}(nf:Nf f)(hf:sq f=f)(q0:q≠0):gz f (sq q)=gz q f:=by
 obtain⟨nq,hq⟩:=oM q0
 refine Nf.tW (BU (.inl nf.ne)) (BU (.inl q0)) fun p hp=>?_
 rw [(eJ f (sq q)).mu nf.ne nq.ne hp,(eJ q f).mu q0 nf.ne hp,hq p hp]
 have:=(oM nf.ne).2 p hp
 rw [hf]at this
 omega
section
variable {f h g w:ZX} {v γ φ:Rat→Nat} {lo hi:Rat} (A:jP f v lo hi) (S:m7 f h g w) (Sg:sE g γ) (Sw:sE w φ)
include A S Sg Sw
theorem av9(c8:lo<hi)(hγ:γ hi<γ lo):RF (gM v lo hi) g:=by
 have hv:v lo=v hi+1:=by
  rcases A.k with ⟨h,_⟩ | ⟨_,h⟩
  ·rw [h]at c8;exact absurd c8 Rat.lt_irrefl
  ·exact h
 refine RG (cT A) Sg (A.gU (.inr ⟨rfl,c8⟩)) eO fun s t h1 h2 h3 h4=>?_
 have iP:=(cT A).lt h3 h4
 have c0:=S.F6 A.S Sg Sw (Rat.le_of_lt c8)
 have c1:=S.F6 A.S Sg Sw (Rat.le_of_lt iP)
 have o:=jC A h3 h4 iP
 have m1:=Sw.b8 h1
 have m2:=Sw.b8 (Rat.le_of_lt iP)
 have m3:=Sw.b8 h2
 have m4:=Sg.b8 h1
 have m5:=Sg.b8 (Rat.le_of_lt iP)
 have m6:=Sg.b8 h2
 omega
theorem aBf(c8:lo<hi)(hγ:γ lo=γ hi):RF (gM v lo hi) w:=by
 refine RG (cT A) Sw (A.gU (.inr ⟨rfl,c8⟩)) eO fun s t h1 h2 h3 h4=>?_
 have iP:=(cT A).lt h3 h4
 have c1:=S.F6 A.S Sg Sw (Rat.le_of_lt iP)
 have o:=jC A h3 h4 iP
 have m4:=Sg.b8 h1
 have m5:=Sg.b8 (Rat.le_of_lt iP)
 have m6:=Sg.b8 h2
 omega
theorem WH{q:ZX}(c8:lo<hi)(hγ:γ lo=γ hi)(q0:q≠0)(hh:h=sq q)(hN:ZX.N (sq q)≤20)(Sq:sE (sq q) (vt (aR (sq q))))(hη:vt (aR (sq q)) lo=vt (aR (sq q)) hi):MO (gM v lo hi) q (cH (e hi q)):=by
 obtain⟨nf,hf⟩:=oM q0
 have hw:sN w q:=sN.av8 q0 (hh▸S.wh)
 have k:=DI nf Sq.DC Sq hN c8 hη _ q (Nat.le_refl _) q0 (fun r hr=>by rw [hf r hr];exact Nat.le_refl _)
 obtain⟨B,hB,ha,hb⟩:=j4 lo hi
 obtain⟨ε,hε,hs⟩:=avM S.nw.ne q0 hw B
 obtain⟨s,t,h1,h2,h3⟩:=aBf A S Sg Sw c8 hγ (ε/2) (by grind)
 obtain⟨a,b,k1,k2,k3,k4,k5,k6,k7⟩:=(cT A).inter h1 h2 (A.gU (.inr ⟨rfl,c8⟩)) (eO (v:=v) (lo:=lo) (hi:=hi))
 have hs3:cH (e hi q)=1∨cH (e hi q) = -1:=by
  have h4:=(k hi c8 Rat.le_refl).1
  rcases cP (e hi q)with ⟨_,h⟩ | ⟨h,_⟩ | ⟨_,h⟩
  ·exact .inr h
  ·exact absurd h h4
  ·exact .inl h
 refine .inr ⟨hs3,ε,a,b,hε,k1,k2,fun x hx hy=>⟨(k x (by grind) (by grind)).2,?_⟩⟩
 refine(hs x (cL ha hb (by grind) (by grind))).resolve_left fun h4=>?_
 obtain⟨p1,p2⟩:=h3 x (by grind) (by grind)
 rcases h4 with h4 | h4<;>grind
end
theorem ajE{f g w q:ZX}{γ φ:Rat→Nat}{p:Rat × Rat}(A:jP f (vt (aR f)) p.1 p.2)(S:m7 f (sq q) g w)(Sg:sE g γ)(Sw:sE w φ)(Sq:sE (sq q) (vt (aR (sq q))))(c8:p.1<p.2)(hγ:γ p.1=γ p.2):∃a b,p.1≤a∧a<b∧b≤p.2∧jP f (vt (aR f)) a b∧gM (vt (aR f)) a b=bK f p∧vt (aR (sq q)) a=vt (aR (sq q)) b:=by
 obtain⟨B,hB,ha,hb⟩:=j4 p.1 p.2
 obtain⟨δ,hδ,HT⟩:=ML Sw Sq S.wh B
 obtain⟨a,b,g1,g2,g3,g4,g5,g6⟩:=DG (U:=bK f p) hδ c8 (A.gU (.inr ⟨rfl,c8⟩)) eO
 have o:=jC A g5 g6 g2
 have c1:=S.F6 A.S Sg Sw (Rat.le_of_lt g2)
 have m1:=Sg.b8 g1
 have m2:=Sg.b8 g3
 have m3:=Sg.b8 (Rat.le_of_lt g2)
 have hη:=(HT a b (cL ha hb g1 (by grind)) (cL ha hb (by grind) g3) g2 g4).resolve_left (by omega)
 have v1:=A.S.b8 g1
 have v2:=A.S.b8 g3
 have hv:vt (aR f) p.1=vt (aR f) p.2+1:=by
  rcases A.k with ⟨h,_⟩ | ⟨_,h⟩
  ·grind
  ·exact h
 refine⟨a,b,g1,g2,g3,⟨A.S, .inr ⟨g2,by omega⟩⟩,funext fun t=>propext ⟨fun h=>?_,fun h=>?_⟩,hη⟩
 ·rcases h with h | ⟨h,h3⟩
  ·exact A.up g6 h
  ·by_cases h4:p.1<t
   ·exact .inr ⟨h4,by omega⟩
   ·exact absurd (A.S.b8 (show t≤p.1 by grind)) (by omega)
 ·by_cases h4:b≤t
  ·exact .inl h4
  ·refine .inr ⟨(cT A).lt g5 h,?_⟩
   rcases h with h | ⟨h,h3⟩
   ·have:=A.S.b8 h;omega
   ·omega
theorem ZU{q:ZX}(q0:q≠0):sN (sq q) (b9 (sq q)):=fun d h1 h2=>by
 have h3:=(eJ (sq q) (b9 (sq q))).least h1 h2
 rw [ZD q0]at h3
 have:=h3.mD ZX.oI
 rwa [ZX.r9]at this
theorem MR{f:ZX}{p:Rat × Rat}(nf:Nf f)(hf:sq f=f)(cf:sN f (b9 f))(hN:ZX.N f≤20)(A:jP f (vt (aR f)) p.1 p.2){q:ZX}(hq:ZX.N q≤20)(q0:q≠0)(c8:p.1<p.2):∃σ,MO (bK f p) q σ∧(σ=0↔vt (aR (gz q f)) p.2<vt (aR (gz q f)) p.1):=by
 obtain⟨nq,hmu⟩:=oM q0
 have hNq:ZX.N (sq q)≤20:=Nat.le_trans ((u6 q0).mD q0) hq
 have Sq:=sP nq.ne (ZU q0) hNq
 obtain⟨w,S⟩:=lH (h:=sq q) nf cf
 rw [agc nf hf q0]at S
 have n1:=S.N
 have Sg:=sP S.ng.ne S.sg (by omega)
 have Sw:=sP S.nw.ne S.sw (by omega)
 have m:=Sg.b8 (Rat.le_of_lt c8)
 by_cases hγ:vt (aR (gz q f)) p.2<vt (aR (gz q f)) p.1
 ·exact⟨0, .inl ⟨rfl,(av9 A S Sg Sw c8 hγ).dv (cT A) (eJ q f).l⟩,⟨fun _=>hγ,fun _=>rfl⟩⟩
 ·obtain⟨a,b,g1,g2,g3,A2,e1,hη⟩:=ajE A S Sg Sw Sq c8 (by omega)
  have m1:=Sg.b8 g1
  have m2:=Sg.b8 g3
  have m3:=Sg.b8 (Rat.le_of_lt g2)
  have k:=WH A2 S Sg Sw g2 (by omega) q0 rfl hNq Sq hη
  rw [e1]at k
  refine⟨_,k,⟨fun h=>?_,fun h=>absurd h hγ⟩⟩
  exact absurd (eU.1 h) (DI nq Sq.DC Sq hNq g2 hη _ q (Nat.le_refl _) q0 (fun r hr=>by rw [hmu r hr];exact Nat.le_refl _) b g2 Rat.le_refl).1
theorem apQ{f:ZX}{p:Rat × Rat}(nf:Nf f)(hf:sq f=f)(cf:sN f (b9 f))(hN:ZX.N f≤20)(A:jP f (vt (aR f)) p.1 p.2)(q:ZX)(hq:ZX.N q≤20):MO (bK f p) q (WE (bK f p) q):=by
 have main:∃σ,MO (bK f p) q σ:=by
  by_cases q0:q=0
  ·exact⟨0, .inl ⟨rfl,q0▸uC (cT A)⟩⟩
  by_cases DH:p.1=p.2
  ·exact⟨_,AS (jQ DH) q⟩
  obtain⟨σ,h,_⟩:=MR nf hf cf hN A hq q0 (by have:=A.le;grind)
  exact⟨σ,h⟩
 obtain⟨σ,h⟩:=main
 rwa [h.eq (cT A)]
theorem JM{n k:Nat}(h:n<2^k):0≤bl (aP LL n)∧bl (aP LL n)≤k∧n<2^(bl (aP LL n)).toNat:=by
 have hV:=jG eB n
 have hL:=eN eB n
 have hc:=kA eB n
 generalize aP LL n=l at *
 unfold bl
 by_cases h0:l = []
 ·subst h0
  simp [V]at hV
  rw [if_pos rfl]
  exact⟨by omega,by omega,by simp;omega⟩
 ·rw [if_neg h0]
  have hl:=List.length_pos_iff.2 h0
  obtain⟨j,hj⟩:∃j,l.length=j+1:=⟨l.length-1,by omega⟩
  rw [hj,show j+1-1=j by omega]
  have e:=aY (l:=l) (i:=j) (by omega)
  rw [List.take_of_length_le (by omega)]at e
  have ht:=hL.nth (i:=j) (by omega)
  have hVt:=pJ (b:=(LL:Int)) (by decide) (hL.take j)
  have T7:V (LL:Int) l=V (LL:Int) (l.take j)+(LL:Int)^j*nth l j:=by
   conv=>lhs;rw [e]
   rw [eH,show(l.take j).length=j by rw [List.length_take];omega]
   simp [V]
  have Z5:=l9 (b:=(LL:Int)) (by decide) hL hc h0
  rw [hj,show j+1-1=j by omega]at Z5
  rw [show(l.take j).length=j by rw [List.length_take];omega]at hVt
  have eP:((LL:Int)^j)=((2^(32*j):Nat):Int):=by
   rw [Nat.pow_mul,Int.natCast_pow]
  rw [eP]at hVt T7 Z5
  have hnl:=oY (n:=(nth l j).toNat) (k:=nb (nth l j).toNat)
  have hnk:=oY (n:=(nth l j).toNat) (k:=k-32*j)
  have hT:=hnl.1 (Nat.le_refl _)
  have e3:(32*(((j+1:Nat):Int)-1)+((nb (nth l j).toNat:Nat):Int)).toNat=32*j+nb (nth l j).toNat:=by omega
  have hP:=Nat.two_pow_pos (32*j)
  have hkj:32*j<k:=Nat.not_le.1 fun hh=>by
   have:=Nat.pow_le_pow_right (show 0<2 by decide) hh
   omega
  have e4:2^(32*j)*2^(k-32*j)=2^k:=by rw [←Nat.pow_add,show 32*j+(k-32*j)=k by omega]
  have hV0:0≤V (LL:Int) (l.take j):=bZ (by decide) (hL.take j)
  refine⟨by omega,?_,?_⟩
  ·have:(nth l j).toNat<2^(k-32*j):=Nat.not_le.1 fun hh=>by
    have h2:=Nat.mul_le_mul_left (2^(32*j)) hh
    have h3:((2^(32*j):Nat):Int)*nth l j=((2^(32*j)*(nth l j).toNat:Nat):Int):=by rw [Int.natCast_mul];congr 1;omega
    omega
   have:=hnk.2 this
   omega
  ·rw [e3,Nat.pow_add]
   have h2:2^(32*j)*((nth l j).toNat+1)≤2^(32*j)*2^nb (nth l j).toNat:=Nat.mul_le_mul_left _ hT
   have h3:((2^(32*j):Nat):Int)*nth l j=((2^(32*j)*(nth l j).toNat:Nat):Int):=by rw [Int.natCast_mul];congr 1;omega
   rw [Nat.mul_add,Nat.mul_one]at h2
   omega
theorem uD{x:Int}{k:Nat}(h:x.natAbs<2^k)(hk:k≤1000000000):aD env.P 237 [us (aP LL x.natAbs)] (.int .i64 (bl (aP LL x.natAbs))):=by
 have h1:=ON (aP LL x.natAbs) ⟨eN eB _,by
  have h2:x.natAbs<LL^k:=Nat.lt_of_lt_of_le h (Nat.pow_le_pow_left (by decide) k)
  have:=CS eB h2
  omega⟩
 rwa [kA eB]at h1
def zs(f:ZX):Nat:=(M6 f.l f.l.length).toNat
theorem y6{x:List Int}{k:Nat}(h:∀c∈x,c.natAbs<2^k):∀i,i≤x.length→0≤M6 x i∧M6 x i≤k ∧ ∀j,j<i→(nth x j).natAbs<2^(M6 x i).toNat
 | 0,_=>⟨Int.le_refl _,by show(0:Int)≤k;omega,fun j hj=>absurd hj (Nat.not_lt_zero _)⟩
 | i+1,hi=>by
  obtain⟨h1,h2,h3⟩:=y6 h i (by omega)
  obtain⟨g1,g2,g3⟩:=JM (h (nth x i) (bS (by omega)))
  rw [M6]
  have key:∀ {a:Nat} {y z:Int},y≤z→a<2^y.toNat→a<2^z.toNat:=fun hyz ha=>Nat.lt_of_lt_of_le ha (Nat.pow_le_pow_right (by decide) (by omega))
  split
  ·refine⟨g1,g2,fun j hj=>?_⟩
   rcases Nat.lt_or_ge j i with hh | hh
   ·exact key (by omega) (h3 j hh)
   ·rw [show j=i by omega];exact g3
  ·refine⟨h1,h2,fun j hj=>?_⟩
   rcases Nat.lt_or_ge j i with hh | hh
   ·exact h3 j hh
   ·rw [show j=i by omega];exact key (by omega) g3
section
variable {s n:Nat} {f:ZX} (b:BZ s n f)
include b
theorem BZ.lt:∀c∈f.l,c.natAbs<2^s:=fun c hc=>Nat.lt_of_lt_of_le (iK (by decide) c) (Nat.pow_le_pow_right (by decide) (b.sz c hc))
theorem B9:zs f≤s:=by
 have:=(y6 b.lt _ (Nat.le_refl _)).2.1
 unfold zs;omega
theorem awa:∀c∈f.l,c.natAbs<2^zs f:=fun c hc=>by
 obtain⟨i,hi,rfl⟩:=List.getElem_of_mem hc
 rw [←dE hi]
 exact(y6 b.lt _ (Nat.le_refl _)).2.2 i hi
theorem RH:BZ (zs f) n f:=⟨b.N,fun c hc=>cQ (by decide) (awa b c hc)⟩
theorem RJ(hs:s≤1000000000)(hn:n≤50):aD env.P 238 [Po f.l] (.int .i64 ((zs f:Nat):Int)):=by
 have h1:=y6 b.lt _ (Nat.le_refl _)
 have:=abU (x:=f.l) (by have:=b.N;show ZX.N f<_;omega) fun i hi=>by
  have h2:=b.lt _ (bS hi)
  obtain⟨g1,g2,_⟩:=JM h2
  exact⟨uD h2 hs,g1,by omega⟩
 rw [show((zs f:Nat):Int)=M6 f.l f.l.length by unfold zs;omega]
 exact this
end
theorem JN{s k s' k' u:Nat}{f h:ZX}(bf:BZ s k f)(bh:BZ s' k' h)(hs:s≤1000000000)(zC:s'≤1000000000)(hk:k≤50)(zB:k'≤50){an ad bn bd cn cd dn dd:Int}(h1:an.natAbs<2^u)(h2:bn.natAbs<2^u)(h3:cn.natAbs<2^u)(h4:dn.natAbs<2^u)(hu:u≤1000000000) :
  ∃N:Nat,aD env.P 186 [.ag (G9 f.l an ad bn bd), .ag (G9 h.l cn cd dn dd)] (.int .i64 N)∧64+4*(ZX.N f+ZX.N h)*(zs f+zs h+(ZX.N f+ZX.N h)+8)≤N∧N≤64+8*u+4*(ZX.N f+ZX.N h)*(zs f+zs h+(ZX.N f+ZX.N h)+8):=by
 obtain⟨a1,a2,_⟩:=JM h1
 obtain⟨b1,b2,_⟩:=JM h2
 obtain⟨c1,c2,_⟩:=JM h3
 obtain⟨d1,d2,_⟩:=JM h4
 have z1:=B9 bf
 have z2:=B9 bh
 have n1:=bf.N
 have n2:=bh.N
 have R:=WA (ad:=ad) (bd:=bd) (cd:=cd) (dd:=dd) (show f.l.length≤50 by show ZX.N f≤_;omega) (show h.l.length≤50 by show ZX.N h≤_;omega) (uD h1 hu) (uD h2 hu) (uD h3 hu) (uD h4 hu) ⟨a1,by omega⟩ ⟨b1,by omega⟩ ⟨c1,by omega⟩ ⟨d1,by omega⟩ (RJ bf hs hk) (RJ bh zC zB) ⟨by omega,by omega⟩ ⟨by omega,by omega⟩
 have e1:4*((f.l.length:Int)+h.l.length)*((zs f:Int)+zs h+((f.l.length:Int)+h.l.length)+8)=((4*(ZX.N f+ZX.N h)*(zs f+zs h+(ZX.N f+ZX.N h)+8):Nat):Int):=by
  show 4*((ZX.N f:Int)+(ZX.N h:Nat))*_=_
  simp only [Int.natCast_mul,Int.natCast_add]
  rfl
 rw [e1]at R
 generalize 4*(ZX.N f+ZX.N h)*(zs f+zs h+(ZX.N f+ZX.N h)+8)=M at *
 generalize bl (aP LL an.natAbs)=x1 at *
 generalize bl (aP LL bn.natAbs)=x2 at *
 generalize bl (aP LL cn.natAbs)=x3 at *
 generalize bl (aP LL dn.natAbs)=x4 at *
 refine⟨64+2*(x1+x2+x3+x4).toNat+M,?_,by omega,by omega⟩
 have e2:(((64+2*(x1+x2+x3+x4).toNat+M:Nat)):Int)=64+2*(x1+x2+x3+x4)+(M:Int):=by omega
 rw [e2]
 exact R
theorem rT(P:Nat→Prop):∀N,∃J,J≤N∧(∀j,j<J→¬P j)∧(J<N→P J)
 | 0=>⟨0,Nat.le_refl _,fun j h=>absurd h (Nat.not_lt_zero _),fun h=>absurd h (Nat.lt_irrefl _)⟩
 | N+1=>by
  obtain⟨J,h1,h2,h3⟩:=rT P N
  by_cases hJ:J<N
  ·exact⟨J,by omega,h2,fun _=>h3 hJ⟩
  ·have:J=N:=by omega
   subst this
   by_cases hP:P J
   ·exact⟨J,by omega,h2,fun _=>hP⟩
   ·exact⟨J+1,by omega,fun j hj=>by
     rcases Nat.lt_or_ge j J with h | h
     ·exact h2 j h
     ·rw [show j=J by omega];exact hP,fun h=>by omega⟩
theorem kI{x:List Int}{u:Nat}{p:Rat × Rat}(q1:SQ u p.1)(q2:SQ u p.2)(hu:u≤1000000000):aD env.P 183 [.ag (G9 x p.1.num p.1.den p.2.num p.2.den)] (.bool (decide (p.2≤p.1))):=by
 have z0:=dI q1.nL q1.dL q2.nL q2.dL (by omega) (bB p.1) (bB p.2) ⟨q1.nL,q1.dL⟩ ⟨q2.nL,q2.dL⟩
 have hp:=w8 (x:=x) z0
 have e:decide (0≤dQ (p.1.num*(p.2.den:Int)) (p.2.num*(p.1.den:Int)))=decide (p.2≤p.1):=decide_eq_decide.2 (by
  have:=gV (p:=p.1) (q:=p.2)
  rw [←Rat.not_lt,←this]
  omega)
 rwa [e]at hp
theorem AU{u:Nat}{t:Rat}(q:SQ u t)(hu:u≤1000000000):aD env.P 94 [RT t, .sl []] (RT t):=by
 obtain⟨l1,l2⟩:=q.LLt (show u<1099511627770 by omega)
 have:=yS l1 l2
 rwa [bB]at this
theorem GC{s n u:Nat}{f:ZX}{p:Rat × Rat}(b:BZ s n f)(hs:s≤1000000000)(hn:n≤50)(q1:SQ u p.1)(q2:SQ u p.2)(hu:u≤1000000000):aD env.P 182 [GA f p] (GA f p):=by
 have N1:=fR (x:=f.l) (b.pb (by omega) (by omega))
 rw [f.c]at N1
 exact abS N1 (AU q1 hu) (AU q2 hu)
theorem abW{x:List Int}{an ad bn bd:Int}(hq:aD env.P 68 [Po []] (Po []))(hN:aD env.P 182 [.ag (G9 x an ad bn bd)] (.ag (G9 x an ad bn bd))):aD env.P 105 [Po [], .ag (G9 x an ad bn bd)] (.int .i64 0):=by
 simp only [G9]at *
 refine b6 [(0,Po []),(1, .ag (G9 x an ad bn bd))] Tryz.func105 ?_
 refine aA [0,3] ?_
 refine iQ ?_
 refine bW hq ?_
 refine aB hN ?_
 (try (refine a9 (of_decide_eq_true (by kernel_rfl)) ?_));(try simp (maxSteps:=4000000) (disch:=omega) [gw]);(repeat rw [if_pos (by kernel_rfl)]);(try simp (maxSteps:=4000000) (disch:=omega) [gw])
 (try (refine a9 (of_decide_eq_true (by kernel_rfl)) ?_));(try simp (maxSteps:=4000000) (disch:=omega) [gw]);(repeat rw [if_pos (by kernel_rfl)]);(try simp (maxSteps:=4000000) (disch:=omega) [gw])
 refine bN [0,3] ?_
 refine aM [0,3,14] ?_
 refine bF ?_ ?_<;>intro h
 ·refine aA [4] ?_
  exact b7
 ·simp at h
structure AN(s n u:Nat)(f:ZX)(p:Rat × Rat):Prop where
 I:lL s n f
 hs:s≤100000
 A:jP f (vt (aR f)) p.1 p.2
 q1:SQ u p.1
 q2:SQ u p.2
 hu:u≤30000000
 n8:ZX.N f≤8
 b1:p.1<p.2→Ab p.1 (2^(zs f+1))
 b2:p.1<p.2→Ab p.2 (2^(zs f+1))
structure SgC(s' k:Nat)(f q:ZX):Prop where
 bq:BZ s' k q
 hs:s'≤100000
 hk:k≤31
 q8:ZX.N q≤8
 hG:aD env.P 184 [.sl [[Po q.l],[Po f.l]]] (Po (gz q f).l)
 IG:2≤ZX.N (gz q f) → ∃sg ng,lL sg ng (gz q f)∧sg≤1000000
 hC:q≠0 → ∃sc nc,Ch sc nc (sq q)
 aBg:q≠0→aD env.P 73 [Po q.l] (.fE [CH (aR (sq q)), .int .i64 0])
theorem AN.stop{s n u s' k N:Nat}{f q g w:ZX}{p r:Rat × Rat}(a:AN s n u f p)(bq:BZ s' k q)(m8:ZX.N q≤8)(q0:q≠0)(S:m7 f (sq q) g w)(c8:p.1<p.2)(hγ:vt (aR g) p.1=vt (aR g) p.2)(A':jP f (vt (aR f)) r.1 r.2)(k3:p.1≤r.1)(k4:r.2≤p.2)(k5:(r.2-r.1)*2^N≤p.2-p.1)
  (hN1:64+4*(ZX.N f+ZX.N q)*(zs f+zs q+(ZX.N f+ZX.N q)+8)≤N):r.1=r.2∨vt (aR (sq q)) r.1=vt (aR (sq q)) r.2:=by
 have I:=a.I
 have n8:=a.n8
 obtain⟨nq,_⟩:=oM q0
 have hNq:ZX.N (sq q)≤ZX.N q:=(u6 q0).mD q0
 have n1:=S.N
 have Sg:=sP S.ng.ne S.sg (by omega)
 have Sw:=sP S.nw.ne S.sw (by omega)
 refine Classical.byContradiction fun AO=>?_
 obtain⟨xI,hc2⟩:=not_or.1 AO
 have MS:r.1<r.2:=by have:=A'.le;grind
 have a1:=cL (a.b1 c8) (a.b2 c8) (x:=r.1) k3 (by grind)
 have a2:=cL (a.b1 c8) (a.b2 c8) (x:=r.2) (by grind) k4
 have hvJ:vt (aR f) r.1=vt (aR f) r.2+1:=by
  rcases A'.k with ⟨h,_⟩ | ⟨_,h⟩
  ·exact absurd h xI
  ·exact h
 have m1:=Sg.b8 k3
 have m2:=Sg.b8 k4
 have m3:=Sg.b8 (Rat.le_of_lt MS)
 have cJ:=S.F6 A'.S Sg Sw (Rat.le_of_lt MS)
 have fz:=RH I.ch.bz
 have qz:=(RH bq).nf
 have N2f:=aga I.nf a.A
 have q1':=ZX.aI.1 q0
 have aBh:∀x∈(sq q).l,x.natAbs≤2^(zs q+ZX.N q*9):=af9 (l:=3) (jK q0) nq (B6 q0).2 (fun d hd=>Nat.le_of_lt (BZ.lt qz d hd)) (by rw [yM];exact Nat.le_refl _) (by omega)
 have R9:=agb (s:=zs f) (r:=zs q) N2f (show 1≤ZX.N q by omega) n8 m8
 have hw:=WG S I.nf nq (ZU q0) (s:=zs f) (r:=zs q+ZX.N q*9) (n:=ZX.N f) (m:=ZX.N q) (β:=zs f+1) (fun d hd=>Nat.le_of_lt (BZ.lt fz d hd)) aBh (Nat.le_refl _) hNq n8 m8 a1 a2 MS ?_
 ·rcases hw with hw | hw
  ·omega
  ·exact hc2 hw
 ·have w0:p.2-p.1≤2^(zs f+2):=by
   obtain⟨x1,x2⟩:=a.b1 c8
   obtain⟨x3,x4⟩:=a.b2 c8
   rw [show zs f+2=zs f+1+1 by omega,Rat.pow_succ];grind
  have w1:=Rat.le_trans k5 w0
  have hP:=fA (zs f+2)
  have w2:(r.2-r.1)*2^se (zs f) (zs q+ZX.N q*9) (ZX.N f) (ZX.N q) (zs f+1)*2^(zs f+2)≤1*2^(zs f+2):=by
   rw [Rat.one_mul,Rat.mul_assoc,←pR]
   refine Rat.le_trans (Rat.mul_le_mul_of_nonneg_left (FW ?_) (by grind)) w1
   omega
  exact Rat.le_of_mul_le_mul_right w2 hP
theorem AN.sg{s n u s' k:Nat}{f q:ZX}{p:Rat × Rat}(a:AN s n u f p)(c:SgC s' k f q):aD env.P 105 [Po q.l,GA f p] (.int .i64 (WE (bK f p) q)):=by
 have I:=a.I
 have A:=a.A
 have hs:=a.hs
 have hu:=a.hu
 have hfn:=I.ch.hn
 have zC:=c.hs
 have hk:=c.hk
 have n8:=a.n8
 have m8:=c.q8
 have N1:=GC I.ch.bz (by omega) (by omega) a.q1 a.q2 (by omega)
 have Nq:=fR (x:=q.l) (c.bq.pb (by omega) (by omega))
 rw [q.c]at Nq
 by_cases q0:q=0
 ·subst q0
  rw [(show MO (bK f p) 0 0 from .inl ⟨rfl,uC (cT A)⟩).eq (cT A)]
  exact abW Nq N1
 have hl:0<q.l.length:=by have:=ZX.aI.1 q0;exact Nat.pos_of_ne_zero fun h=>by(have:ZX.N q=q.l.length:=rfl);omega
 have GJ:q.l.length<1000000:=by show ZX.N q<_;omega
 by_cases DH:p.1=p.2
 ·have hS:=uB q c.bq (by omega) (by omega) a.q1 (by omega)
  have hz:=dI a.q1.nL a.q1.dL a.q1.nL a.q1.dL (by omega) (bB p.1) (bB p.1) ⟨a.q1.nL,a.q1.dL⟩ ⟨a.q1.nL,a.q1.dL⟩
  have e0:dQ (p.1.num*(p.1.den:Int)) (p.1.num*(p.1.den:Int))=0:=jM.2 rfl
  rw [e0]at hz
  have Nf:=fR (x:=f.l) (I.ch.bz.pb (by omega) (by omega))
  rw [f.c]at Nf
  have:=af1 (q:=q.l) (x:=f.l) GJ (fun h=>by omega) Nq Nf (AU a.q1 (by omega)) hz hS
  rw [(AS (jQ DH) q).eq (cT A)]
  rw [show GA f p = .ag (G9 f.l p.1.num p.1.den p.1.num p.1.den)by rw [show p=(p.1,p.1)from Prod.ext rfl DH.symm];rfl]
  exact this
 have c8:p.1<p.2:=by have:=A.le;grind
 obtain⟨nq,hmu⟩:=oM q0
 have hNq:ZX.N (sq q)≤ZX.N q:=(u6 q0).mD q0
 have cq:=ZU q0
 have Sq:=sP nq.ne cq (by omega)
 obtain⟨w,S⟩:=lH (h:=sq q) I.nf I.DC
 rw [agc I.nf I.sq q0]at S
 have n1:=S.N
 have Sg:=sP S.ng.ne S.sg (by omega)
 have Sw:=sP S.nw.ne S.sw (by omega)
 have mγ:=Sg.b8 (Rat.le_of_lt c8)
 have mφ:=Sw.b8 (Rat.le_of_lt c8)
 have hv:vt (aR f) p.1=vt (aR f) p.2+1:=by
  rcases A.k with ⟨h,_⟩ | ⟨_,h⟩
  ·exact absurd h DH
  ·exact h
 have c0:=S.F6 A.S Sg Sw (Rat.le_of_lt c8)
 have P0:=kI (x:=f.l) a.q1 a.q2 (by omega)
 rw [decide_eq_false (Rat.not_le.2 c8)]at P0
 have hD:aD env.P 87 [Po (gz q f).l] (.int .i64 ((ZX.N (gz q f):Int)-1)):=lA (gz q f).l (by show ZX.N (gz q f)<_;omega)
 have awb:2≤ZX.N (gz q f)→aD env.P 185 [Po (gz q f).l,RT p.1,RT p.2] (.bool (decide (vt (aR (gz q f)) p.2<vt (aR (gz q f)) p.1))):=fun h2=>by
  obtain⟨sg,ng,IG,QR⟩:=c.IG h2
  exact ZQ IG QR c8 (by omega) a.q1 a.q2 (by omega)
 by_cases hz:vt (aR (gz q f)) p.2<vt (aR (gz q f)) p.1
 ·have h2:2≤ZX.N (gz q f):=Nat.not_lt.1 fun h2=>by
   obtain⟨d,hd,e⟩:=ZX.lC (x:=gz q f) (by have:=ZX.aI.1 S.ng.ne;omega)
   rw [e]at hz Sg
   have:=Sg.const c8 (σ:=cH (d:Rat)) (.inr (by rw [CN])) (fun x _ _=>by rw [CN])
   omega
  have hH:=awb h2
  rw [decide_eq_true hz]at hH
  have:=WB hl GJ Nq N1 P0 c.hG hD (by omega) hH
  rw [(show MO (bK f p) q 0 from .inl ⟨rfl,(av9 A S Sg Sw c8 hz).dv (cT A) (eJ q f).l⟩).eq (cT A)]
  exact this
 obtain⟨sc,nc,C⟩:=c.hC q0
 obtain⟨cb,cl⟩:=C.all
 obtain⟨D,C2,xC,g1,g2⟩:=B8 a.q1 a.q2
 have key:=F9 A g1 g2
 obtain⟨N,R,hN1,GM⟩:=JN (u:=u) (ad:=p.1.den) (bd:=p.2.den) (cn:=0) (cd:=0) (dn:=0) (dd:=0) I.ch.bz c.bq (by omega) (by omega) (by omega) (by omega) (Nat.lt_of_lt_of_le (iK (b:=2) (by decide) p.1.num) (Nat.pow_le_pow_right (by decide) a.q1.n2)) (Nat.lt_of_lt_of_le (iK (b:=2) (by decide) p.2.num) (Nat.pow_le_pow_right (by decide) a.q2.n2)) (Nat.two_pow_pos _) (Nat.two_pow_pos _) (by omega)
 have hzf:=B9 I.ch.bz
 have hzq:=B9 c.bq
 have hM:4*(ZX.N f+ZX.N q)*(zs f+zs q+(ZX.N f+ZX.N q)+8)≤4*16*(100000+100000+16+8):=Nat.mul_le_mul (by omega) (by omega)
 obtain⟨J,hJ,hj,iP⟩:=rT (fun j=>(gY f p j).1=(gY f p j).2∨vt (aR (sq q)) (gY f p j).1=vt (aR (sq q)) (gY f p j).2) N
 have vR:(gY f p J).1=(gY f p J).2∨vt (aR (sq q)) (gY f p J).1=vt (aR (sq q)) (gY f p J).2:=by
  by_cases hJN:J<N
  ·exact iP hJN
  have hJE:J=N:=by omega
  obtain⟨k1,k2,k3,k4,k5,_⟩:=key J
  exact a.stop c.bq m8 q0 S c8 (by omega) k1 k3 k4 k5 (hJE▸hN1)
 have sqJ:∀j,j≤N→SQ (3*u+N+2) (gY f p j).1∧SQ (3*u+N+2) (gY f p j).2∧SQ (3*u+N+2) (((gY f p j).1+(gY f p j).2)/2):=fun j hj=>by
  obtain⟨_,_,_,_,_,k6,k7⟩:=key j
  exact⟨(k6.sq C2 xC).mono (by omega),(k7.sq C2 xC).mono (by omega),((k6.GK k7).sq C2 xC).mono (by omega)⟩
 have hV:3*u+N+2≤1000000000:=by omega
 have btw:∀j,j≤N→aD env.P 92 [CH (aR (sq q)),RT (gY f p j).1,RT (gY f p j).2] (.int .i64 ((vt (aR (sq q)) (gY f p j).1:Int)-vt (aR (sq q)) (gY f p j).2)):=fun j hj=>by
  obtain⟨s1,s2,_⟩:=sqJ j hj
  have:=afJ cb C.hn cl s1 s2 hV
  rwa [if_neg (Rat.not_lt.2 (key j).1.le)]at this
 obtain⟨sJ1,sJ2,_⟩:=sqJ J hJ
 have R1:=af5 (gc:=zp) (C:=aR (sq q)) (an:=fun j=>(gY f p j).1.num) (ad:=fun j=>(gY f p j).1.den) (bn:=fun j=>(gY f p j).2.num) (bd:=fun j=>(gY f p j).2.den) (J:=J) (N:=N) (r:=cH (e (gY f p J).2 q)) hl GJ Nq N1 P0 c.hG hD (fun h0=>by
   have hH:=awb (by omega)
   rwa [decide_eq_false hz]at hH) (c.aBg q0) R (by omega) (fun j hj'=>by
   obtain⟨s1,s2,s3⟩:=sqJ j (by omega)
   have HT:=not_or.1 (hj j hj')
   have apS:(gY f p j).1<(gY f p j).2:=by have:=(key j).1.le;grind
   have Pj:=kI (x:=f.l) s1 s2 hV
   rw [decide_eq_false (Rat.not_le.2 apS)]at Pj
   refine⟨Pj,⟨_,btw j (by omega),?_⟩,F8 I (by omega) (key j).1 s1 s2 s3 hV⟩
   have:=HT.2
   simp only [beq_eq_false_iff_ne,ne_eq]
   omega) hJ (fun hJN=>by
   have Pj:=kI (x:=f.l) sJ1 sJ2 hV
   by_cases hp:(gY f p J).2≤(gY f p J).1
   ·rw [decide_eq_true hp]at Pj;exact .inl Pj
   ·rw [decide_eq_false hp]at Pj
    refine .inr ⟨Pj,?_⟩
    have h3:=btw J hJ
    rw [vR.resolve_left (by grind),Int.sub_self]at h3
    exact h3) (uB q c.bq (by omega) (by omega) sJ2 hV)
 have hU:WE (bK f p) q=cH (e (gY f p J).2 q):=by
  obtain⟨k1,k2,k3,k4,_⟩:=key J
  have e1:bK f p=bK f (gY f p J):=funext fun t=>propext (k2 t).symm
  rw [e1]
  by_cases hp:(gY f p J).1=(gY f p J).2
  ·rw [←hp];exact(AS (jQ hp) q).eq (cT k1)
  ·have MS:(gY f p J).1<(gY f p J).2:=by have:=k1.le;grind
   have m1:=Sg.b8 k3
   have m2:=Sg.b8 k4
   have m3:=Sg.b8 (Rat.le_of_lt MS)
   exact(WH k1 S Sg Sw MS (by omega) q0 rfl (by omega) Sq (vR.resolve_left hp)).eq (cT k1)
 rw [hU]
 exact R1
theorem RK{y x:List Int}{c:List ZX}{an ad bn bd:Int}(hz:aD env.P 133 [PI y, .ag (gB x c an ad bn bd)] (.bool true)):aD env.P 106 [PI y, .ag (gB x c an ad bn bd)] (.int .i64 0):=by
 simp only [gB]at *
 refine b6 [(0,PI y),(1, .ag (gB x c an ad bn bd))] Tryz.func106 ?_
 refine aA [0,3] ?_
 refine W.seq ?_
 refine aJ [0,3,8] hz ?_
 refine bF ?_ ?_<;>intro h
 ·refine aA [4] ?_
  exact b7
 ·simp at h
theorem abX{y x:List Int}{c:List ZX}{an ad bn bd r:Int}{pt:Bool}(hy:y.length<1000000)(hz:aD env.P 133 [PI y, .ag (gB x c an ad bn bd)] (.bool false))(hp:aD env.P 79 [.ag (gB x c an ad bn bd)] (.bool pt))(h1:pt=true∨y.length=1)(hs:aD env.P 81 [PI y,R2 an ad] (.int .i64 r)) :
  aD env.P 106 [PI y, .ag (gB x c an ad bn bd)] (.int .i64 r):=by
 simp only [gB]at *
 refine b6 [(0,PI y),(1, .ag (gB x c an ad bn bd))] Tryz.func106 ?_
 refine aA [0,3] ?_
 refine W.seq ?_
 refine aJ [0,3,8] hz ?_
 refine bF ?_ ?_<;>intro h
 ·simp at h
 refine W.skip ?_
 refine W.seq ?_
 refine W.fY (fun σ=>∃(v3:Nat) (rows:Pm.Rows) (clk:Nat),σ=⟨fa [(0,PI y),(3, .ptr 3 v3 0 0),(15, .bool true)],rows,clk⟩∧rows 3=some ⟨v3,49,10,[gB x c an ad bn bd]⟩) (fun K hK=>?_) ?_
 ·cases pt with
  | true =>
   simp (disch:=omega) [gw]
   refine bW hp ?_
   exact hK _ _ (aC _ [0,3,15]) ⟨_,_,_,rfl,by simp⟩
  | false =>
   have h1:y.length=1:=h1.resolve_left (by decide)
   simp (disch:=omega) [gw]
   refine aB hp ?_
   simp (disch:=omega) [gw,h1]
   exact hK _ _ (aC _ [0,3,15]) ⟨_,_,_,rfl,by simp⟩
 rintro _ ⟨v3,rows,clk,rfl,cM⟩
 simp only [gB]at cM
 refine bF ?_ ?_<;>intro h
 ·refine W.sr ?_
  simp (disch:=omega) [gw,cM]
  refine bU [4] hs ?_
  exact b7
 ·simp at h
theorem abY{y x:List Int}{c cg:List ZX}{an ad bn bd:Nat→Int}{r:Int}{J:Nat}(hy:y.length<1000000)(hy1:¬y.length=1)(hz:aD env.P 133 [PI y, .ag (gB x c (an 0) (ad 0) (bn 0) (bd 0))] (.bool false))(hp:aD env.P 79 [.ag (gB x c (an 0) (ad 0) (bn 0) (bd 0))] (.bool false))(hC:aD env.P 85 [PI y] (aG zq cg))
  (hb:∀j,j<J→aD env.P 79 [.ag (gB x c (an j) (ad j) (bn j) (bd j))] (.bool false)∧(∃z:Int,aD env.P 80 [aG zq cg,R2 (an j) (ad j),R2 (bn j) (bd j)] (.int .i64 z)∧0<z)∧aD env.P 134 [.ag (gB x c (an j) (ad j) (bn j) (bd j))] (.ag (gB x c (an (j+1)) (ad (j+1)) (bn (j+1)) (bd (j+1)))))
  (iP:aD env.P 79 [.ag (gB x c (an J) (ad J) (bn J) (bd J))] (.bool true)∨aD env.P 79 [.ag (gB x c (an J) (ad J) (bn J) (bd J))] (.bool false)∧aD env.P 80 [aG zq cg,R2 (an J) (ad J),R2 (bn J) (bd J)] (.int .i64 0)) (hr:aD env.P 81 [PI y,R2 (bn J) (bd J)] (.int .i64 r)) :
  aD env.P 106 [PI y, .ag (gB x c (an 0) (ad 0) (bn 0) (bd 0))] (.int .i64 r):=by
 have aBj:((y.length:Int)==1)=false:=by
  have:¬(y.length:Int)=1:=by omega
  simpa using this
 simp only [gB]at *
 refine b6 [(0,PI y),(1, .ag (gB x c (an 0) (ad 0) (bn 0) (bd 0)))] Tryz.func106 ?_
 refine aA [0,3] ?_
 refine W.seq ?_
 refine aJ [0,3,8] hz ?_
 refine bF ?_ ?_<;>intro h
 ·simp at h
 refine W.skip ?_
 refine W.seq ?_
 refine iM ?_
 refine aB hp ?_
 simp (disch:=omega) [gw,aBj]
 refine bN [0,3,15] ?_
 refine bF ?_ ?_<;>intro h
 ·first | (simp at h;omega) | simp at h
 refine W.skip ?_
 refine aJ [0,3,5] hC ?_
 refine W.seq ?_
 refine W.block ?_
 refine W.bE (fun k σ=>∃(j v3:Nat) (rows:Pm.Rows) (clk:Nat),σ=⟨fa [(0,PI y),(3, .ptr 3 v3 0 0),(5,aG zq cg)],rows,clk⟩∧rows 3=some ⟨v3,49,10,[gB x c (an j) (ad j) (bn j) (bd j)]⟩∧j+k=J) J ?_ ?_
 ·exact⟨_, .refl,0,_,_,_,rfl,by simp,by omega⟩
 rintro k _ ⟨j,v3,rows,clk,rfl,cM,hjk⟩
 simp only [gB]at cM
 refine W.seq ?_
 by_cases hjJ:j<J
 ·obtain⟨g1,⟨z,g2,g3⟩,g4⟩:=hb j hjJ
  refine W.sr ?_
  simp (disch:=omega) [gw,cM]
  refine aB g1 ?_
  simp (disch:=omega) [gw,cM]
  refine aB g2 ?_
  simp (disch:=omega) [gw,g3]
  refine bN [0,3,5,33] ?_
  refine bF ?_ ?_<;>intro h
  ·refine W.skip ?_
   refine W.block ?_
   refine W.cE (fun K hK=>?_)
   simp (disch:=omega) [gw,cM]
   refine aB g4 ?_
   simp (disch:=omega) [gw,cM]
   refine hK _ ⟨k-1,_,aC _ [0,3,5],by omega,j+1,v3,_,_,rfl,by simp,by omega⟩
  ·simp at h
 ·have hjE:j=J:=by omega
  subst hjE
  refine W.fY (fun σ=>∃(v3:Nat) (rows:Pm.Rows) (clk:Nat),σ=⟨fa [(0,PI y),(3, .ptr 3 v3 0 0),(5,aG zq cg),(33, .bool false)],rows,clk⟩∧rows 3=some ⟨v3,49,10,[gB x c (an j) (ad j) (bn j) (bd j)]⟩) (fun K hK=>?_) ?_
  ·rcases iP with g1 | ⟨g1,g2⟩
   ·simp (disch:=omega) [gw,cM]
    refine bW g1 ?_
    exact hK _ _ (aC _ [0,3,5,33]) ⟨_,_,_,rfl,by simp [cM]⟩
   ·simp (disch:=omega) [gw,cM]
    refine aB g1 ?_
    simp (disch:=omega) [gw,cM]
    refine bW g2 ?_
    exact hK _ _ (aC _ [0,3,5,33]) ⟨_,_,_,rfl,by simp [cM]⟩
  rintro _ ⟨v3,rows,clk,rfl,cM⟩
  simp only [gB]at cM
  refine bF ?_ ?_<;>intro h
  ·simp at h
  refine eV ?_
  refine W.sr ?_
  simp (disch:=omega) [gw,cM]
  refine bU [4] hr ?_
  exact b7
theorem WI{s k:Nat}{p:ZX}{x:List Int}{c:List ZX}{an ad bn bd:Int}(sg:ZX→Int)(h00:sg 0=0)(hp:BZ s k p)(hk:k≤31)(hs:s≤1000000)(QR:∀(q:ZX) (s':Nat),s'≤s+5*k→BZ s' k q→aD env.P 106 [PI q.l, .ag (gB x c an ad bn bd)] (.int .i64 (sg q))) :
  aD env.P 35 [PI p.l, .ag (gB x c an ad bn bd)] (.int .i64 (JI sg (ZX.N p) p)):=by
 simp only [gB]at *
 refine b6 [(0,PI p.l),(1, .ag (gB x c an ad bn bd))] Tryz.func35 ?_
 refine cB [0,3] ?_
 refine W.block ?_
 obtain⟨v,hv⟩:∃v,JI sg (ZX.N p) p=v:=⟨_,rfl⟩
 rw [hv]
 refine W.bE (fun m σ=>∃(q:ZX) (i:Nat) (v3:Nat) (rows:Pm.Rows) (clk:Nat),σ=⟨fa [(0,PI q.l),(3, .ptr 3 v3 0 0)],rows,clk⟩∧rows 3=some ⟨v3,49,10,[gB x c an ad bn bd]⟩∧BZ (s+5*i) k q∧i+ZX.N q≤k∧JI sg (ZX.N q) q=v∧m=ZX.N q) (ZX.N p) ?_ ?_
 ·exact⟨_, .refl,p,0,_,_,_,rfl,by simp,hp,by have:=hp.N;omega,hv,rfl⟩
 rintro m _ ⟨q,i,v3,rows,clk,rfl,cM,bq,EV,hg,rfl⟩
 simp only [gB]at cM
 have hql:q.l.length=ZX.N q:=rfl
 refine aM [0,3,8] ?_
 refine bF ?_ ?_<;>intro h
 ·have h0:0<ZX.N q:=by simp at h;omega
  obtain⟨j,hj⟩:∃j,ZX.N q=j+1:=⟨ZX.N q-1,by omega⟩
  have S1:=QR q (s+5*i) (by omega) bq
  have D1:=rK bq (by show _≤137438953472;omega) (by omega)
  have hNd:=nG q
  rw [hj,JI]at hg
  refine W.skip ?_
  refine W.block ?_
  refine W.seq ?_
  refine W.sr ?_
  simp (disch:=omega) [gw,cM]
  refine bU [0,3,5] S1 ?_
  refine aA [0,3,5,13] ?_
  refine bF ?_ ?_<;>intro h
  ·have h:¬sg q=0:=by simpa using h
   rw [if_neg h]at hg
   rw [hg]
   refine aA [4] ?_
   exact b7
  ·have h:sg q=0:=by simpa using h
   rw [if_pos h]at hg
   refine W.skip ?_
   refine W.cE (fun K hK=>?_)
   simp (disch:=omega) [gw]
   refine bW D1 ?_
   refine hK _ ⟨ZX.N (b9 q),_,aC _ [0,3],by omega,b9 q,i+1,v3,_,_,rfl,by simp [cM],bq.b9 (by omega),by omega,?_,rfl⟩
   rw [←hg]
   exact V4 h00 (Nat.le_refl _) (by omega)
 ·have h0:ZX.N q=0:=by
   simp at h
   first | omega | (show q.l.length=0;rw [h];rfl)
  have hv0:v=0:=by rw [←hg,h0];rfl
  subst hv0
  refine eV ?_
  refine aA [4] ?_
  exact b7
end Go.Proofs.YtelhfbikiccfkaaGreat
