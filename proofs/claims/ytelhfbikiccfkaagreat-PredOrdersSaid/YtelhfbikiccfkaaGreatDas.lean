import Derived.Test.YtelhfbikiccfkaaGreatDar
set_option linter.unusedSimpArgs false
set_option linter.unusedVariables false
namespace Go.Proofs.YtelhfbikiccfkaaGreat
open Go Pm
open ZX hiding N W
theorem apK(f:ZX):nl f=1↔2≤ZX.N f∧ZX.N (gz f (b9 f))≤1:=by
 obtain⟨h1,h2⟩:=lF f
 refine⟨fun h=>?_,fun⟨h3,h4⟩=>?_⟩
 ·rw [h]at h1 h2
  exact⟨h2 0 (by omega),h1⟩
 ·have h5:0<nl f:=avi fun j hj=>by rw [show j=0 by omega];exact h3
  rcases Nat.lt_or_ge 1 (nl f)with h6 | h6
  ·have h7:2≤ZX.N (gz f (b9 f)):=h2 1 h6
   omega
  ·omega
abbrev GA(f:ZX)(p:Rat × Rat):PV:=.ag (ga f p)
namespace lL
variable {s n:Nat} {f:ZX} (I:lL s n f)
include I
theorem alU:aD env.P 83 [Po f.l] (PI f.l):=by
 have hs:=I.hs
 have hn:=I.ch.hn
 have b:=QQ I.ch.bz
 have:=uQ (f.l.map jD) ⟨fun c hc=>by
  simp only [List.mem_map]at hc
  obtain⟨x,hx,rfl⟩:=hc
  exact⟨eN eB _,Nat.lt_of_le_of_lt (b.sz x hx) (by omega)⟩,by rw [List.length_map];exact Nat.lt_of_le_of_lt b.len (by omega)⟩
 rw [bP,←fI,show aL f.l=f.l from f.c]at this
 exact this
theorem avU:aD env.P 82 [PI f.l] (PI f.l):=by
 have:=mE I.ch.bz I.s1 (by have:=I.hs;show s≤137438953472;omega) (by have:=I.ch.hn;omega)
 rwa [I.nf.nfe]at this
theorem ZL:aD env.P 170 [PI f.l] (PI f.l):=by
 have:=rM I.lay I.s1
 rwa [I.sq]at this
theorem w6:aD env.P 85 [PI f.l] (aG zq (aR f)):=B3 I.ZL I.ch I.s1
theorem ajx:aD env.P 74 [Po f.l] (Po f.l):=by
 have:=wT I.lay
 rwa [I.sq]at this
theorem alV{u:Nat}{t:Rat}(q:SQ u t)(hu:u≤1000000000):aD env.P 81 [PI f.l,RR t] (.int .i64 (cH (e t f))):=by
 have hs:=I.hs
 have hn:=I.ch.hn
 have hmul:n*(u+1)≤20*(u+1):=Nat.mul_le_mul_right _ hn
 have s1:=u3 I.ch.bz q.n2 q.d2 q.hu (by omega) (by show _<137438953472;omega)
 rw [yT]at s1
 rw [cS]
 exact s1
theorem oP{u:Nat}{p q:Rat}(hp:SQ u p)(hq:SQ u q)(hu:u≤1000000000):aD env.P 80 [aG zq (aR f),RR p,RR q] (.int .i64 (if q<p then 0 else(vt (aR f) p:Int)-vt (aR f) q)):=VT I.hb I.ch.hn I.hl hp hq hu
theorem afP{u:Nat}{p:Rat × Rat}(q1:SQ u p.1)(q2:SQ u p.2)(hu:u≤1000000000):aD env.P 84 [QA f (aR f) p] (QA f (aR f) (ex f p)):=JG (I.ch.bz.mono (by have:=I.hs;omega) (Nat.le_refl _)) I.ch.hn q1 q2 hu
end lL
theorem SQ.ZM{u:Nat}{q:Rat}(h:SQ u q)(hu:u≤1000000000):aD env.P 86 [RT q] (RR q):=abE (h.LLt (by omega)) ⟨by have:=h.n2;show _<549755813888;omega,by have:=h.d2;show _<549755813888;omega⟩
theorem lL.avV{s n:Nat}{f:ZX}(I:lL s n f){u:Nat}{p:Rat × Rat}(q1:SQ u p.1)(q2:SQ u p.2)(hu:u≤1000000000):aD env.P 21 [GA f p] (QA f (aR f) (ex f p)):=by
 have f1:=I.alU
 have f2:=I.avU
 have f3:=I.w6
 have f4:=q1.ZM hu
 have f5:=q2.ZM hu
 have f6:=I.afP q1 q2 hu
 generalize ex f p=y at *
 rw [cS]at f4 f5
 rw [oO,oO]at f6
 rw [oO]
 replace f4:aD env.P 86 [T2 p.1.num p.1.den] (R2 p.1.num p.1.den):=f4
 replace f5:aD env.P 86 [T2 p.2.num p.2.den] (R2 p.2.num p.2.den):=f5
 show aD env.P _ [.ag (Po f.l::(tc p.1++tc p.2))] _
 simp only [c4,tc,List.cons_append,List.nil_append]at f6 ⊢
 generalize aR f=c at *
 generalize p.1.num=an at *
 generalize (p.1.den:Int)=ad at *
 generalize p.2.num=bn at *
 generalize (p.2.den:Int)=bd at *
 generalize y.1.num=yn at *
 generalize (y.1.den:Int)=yd at *
 generalize y.2.num=zn at *
 generalize (y.2.den:Int)=zd at *
 refine b6 [(0, .ag [Po f.l, .bool (decide (an<0)),us (aP LL an.natAbs), .bool (decide (ad<0)),us (aP LL ad.natAbs), .bool (decide (bn<0)),us (aP LL bn.natAbs), .bool (decide (bd<0)),us (aP LL bd.natAbs)])] Tryz.func21 ?_
 refine aA [1,2] ?_
 refine iM ?_
 refine bW f1 ?_
 refine bU [1,2,3] f2 ?_
 refine iQ ?_
 refine bW f3 ?_
 refine bW f4 ?_
 refine bW f5 ?_
 refine bW f6 ?_
 (try (refine a9 (of_decide_eq_true (by kernel_rfl)) ?_));(try simp (maxSteps:=4000000) (disch:=omega) [gw]);(repeat rw [if_pos (by kernel_rfl)]);(try simp (maxSteps:=4000000) (disch:=omega) [gw])
 refine bN [2] ?_
 exact b7
theorem mZ{f:ZX}{c:List ZX}{p:Rat × Rat}{u:Nat}(q1:SQ u p.1)(q2:SQ u p.2)(hu:u≤1000000000):aD env.P 79 [QA f c p] (.bool (decide (p.1=p.2))):=by
 have c1:=mR p.1 p.2 (q1.yy hu) (q2.yy hu)
 have e:decide (p.1=p.2)=(dQ (p.1.num*p.2.den) (p.2.num*p.1.den)==0):=by
  rw [Bool.eq_iff_iff];simp only [decide_eq_true_eq,beq_iff_eq];exact jM.symm
 rw [e,oO]
 rw [cS,cS]at c1
 simp only [c4,List.cons_append,List.nil_append]
 generalize dQ (p.1.num*p.2.den) (p.2.num*p.1.den)=z at *
 generalize p.1.num=an at *
 generalize (p.1.den:Int)=ad at *
 generalize p.2.num=bn at *
 generalize (p.2.den:Int)=bd at *
 refine b6 [(0, .ag [PI f.l,aG zq c,aG aH (aP DD an.natAbs), .bool (decide (an<0)),aG aH (aP DD ad.natAbs), .bool (decide (ad<0)),aG aH (aP DD bn.natAbs), .bool (decide (bn<0)),aG aH (aP DD bd.natAbs), .bool (decide (bd<0))])] Tryz.func79 ?_
 refine aA [1] ?_
 refine aJ [2] c1 ?_
 exact b7
end Go.Proofs.YtelhfbikiccfkaaGreat
namespace Go.Proofs.YtelhfbikiccfkaaGreat
open Go Pm
open ZX hiding N W
theorem fW{p q:Rat}:0<dQ (p.num*q.den) (q.num*p.den)↔q<p:=by
 rw [n7,←kG q p,n6]
theorem gV{p q:Rat}:dQ (p.num*q.den) (q.num*p.den)<0↔p<q:=kG p q
theorem jN{p q:Rat}:dQ (p.num*q.den) (q.num*p.den)≤0↔p≤q:=by
 rw [←Int.not_lt,fW,Rat.not_lt]
theorem Q9{x:List Int}{c:List ZX}{an ad bn bd tn td zt z1 z2 b σ r:Int}{pt:Bool}(p1:aD env.P 79 [.ag (PI x::aG zq c::(c4 an ad++c4 bn bd))] (.bool pt))(k0:aD env.P 15 [R2 an ad,R2 tn td] (.int .i64 zt))
  (k1:aD env.P 15 [R2 tn td,R2 an ad] (.int .i64 z1)) (k2:aD env.P 15 [R2 tn td,R2 bn bd] (.int .i64 z2)) (k3:aD env.P 80 [aG zq c,R2 an ad,R2 tn td] (.int .i64 b)) (k4:aD env.P 81 [PI x,R2 tn td] (.int .i64 σ))
  (hr:r=if pt=true then zt else if z1≤0 then 1 else if 0<z2 then -1 else if b=0 then 1 else if σ=0 then 0 else -1):aD env.P 20 [.ag (PI x::aG zq c::(c4 an ad++c4 bn bd)),R2 tn td] (.int .i64 r):=by
 simp only [c4,List.cons_append,List.nil_append]at p1 ⊢
 refine b6 [(0, .ag [PI x,aG zq c,aG aH (aP DD an.natAbs), .bool (decide (an<0)),aG aH (aP DD ad.natAbs), .bool (decide (ad<0)),aG aH (aP DD bn.natAbs), .bool (decide (bn<0)),aG aH (aP DD bd.natAbs), .bool (decide (bd<0))]),(1,R2 tn td)] Tryz.func20 ?_
 refine aA [2,3] ?_
 refine W.seq ?_
 refine aJ [2,3,6] p1 ?_
 refine bF ?_ ?_<;>intro h
 ·subst h
  rw [if_pos rfl]at hr
  subst hr
  refine aJ [4] k0 ?_
  exact b7
 ·subst h
  rw [if_neg (by decide)]at hr
  refine W.skip ?_
  refine W.seq ?_
  refine aJ [2,3,15] k1 ?_
  refine bF ?_ ?_<;>intro h
  ·simp at h
   rw [if_pos h]at hr
   subst hr
   refine aA [4] ?_
   exact b7
  ·simp at h
   rw [if_neg (by omega)]at hr
   refine W.skip ?_
   refine W.seq ?_
   refine aJ [2,3,20] k2 ?_
   refine bF ?_ ?_<;>intro h
   ·simp at h
    rw [if_pos h]at hr
    subst hr
    refine aA [4] ?_
    exact b7
   ·simp at h
    rw [if_neg (by omega)]at hr
    refine W.skip ?_
    refine W.seq ?_
    refine aJ [2,3,27] k3 ?_
    refine bF ?_ ?_<;>intro h
    ·simp at h
     rw [if_pos h]at hr
     subst hr
     refine aA [4] ?_
     exact b7
    ·simp at h
     rw [if_neg h]at hr
     refine W.skip ?_
     refine W.seq ?_
     refine aJ [32] k4 ?_
     refine bF ?_ ?_<;>intro h
     ·simp at h
      rw [if_pos h]at hr
      subst hr
      refine aA [4] ?_
      exact b7
     ·simp at h
      rw [if_neg h]at hr
      subst hr
      refine W.skip ?_
      refine aA [4] ?_
      exact b7
abbrev bK(f:ZX)(p:Rat × Rat):Rat→Prop:=gM (vt (aR f)) p.1 p.2
theorem lL.w7{s n:Nat}{f:ZX}(I:lL s n f){u:Nat}{p:Rat × Rat}{t:Rat}(A:jP f (vt (aR f)) p.1 p.2)(q1:SQ u p.1)(q2:SQ u p.2)(qt:SQ u t)(hu:u≤1000000000):aD env.P 20 [QA f (aR f) p,RR t] (.int .i64 (cr (bK f p) t)):=by
 have p1:=mZ (f:=f) (c:=aR f) q1 q2 hu
 have k0:=mR p.1 t (q1.yy hu) (qt.yy hu)
 have k1:=mR t p.1 (qt.yy hu) (q1.yy hu)
 have k2:=mR t p.2 (qt.yy hu) (q2.yy hu)
 have k3:=I.oP q1 qt hu
 have k4:=I.alV qt hu
 have hc:=A.avO t
 rw [cS,cS]at k0 k1 k2
 rw [cS,cS]at k3
 rw [cS]at k4 ⊢
 rw [oO]at p1 ⊢
 refine Q9 p1 k0 k1 k2 k3 k4 ?_
 rw [hc]
 simp only [decide_eq_true_eq]
 by_cases h1:p.1=p.2
 ·rw [if_pos h1,if_pos h1]
  by_cases h2:p.1<t
  ·rw [if_pos h2,nK (n6.1 (gV.2 h2))]
  ·rw [if_neg h2]
   by_cases h3:t<p.1
   ·rw [if_pos h3,nM (n7.1 (fW.2 h3))]
   ·rw [if_neg h3,jM.2 (by grind)]
 ·rw [if_neg h1,if_neg h1]
  simp only [jN,fW]
  by_cases h2:t≤p.1
  ·rw [if_pos h2,if_pos h2]
  ·rw [if_neg h2,if_neg h2]
   by_cases h3:p.2<t
   ·rw [if_pos h3,if_pos h3]
   ·rw [if_neg h3,if_neg h3,if_neg (show ¬t<p.1 by grind)]
    have e1:((vt (aR f) p.1:Int)-vt (aR f) t=0)↔vt (aR f) p.1=vt (aR f) t:=by omega
    simp only [e1,eU]
def hv(f:ZX)(p:Rat × Rat):Rat × Rat:=if p.1=p.2 then p else ex f (if vt (aR f) ((p.1+p.2)/2)<vt (aR f) p.1 then(p.1,(p.1+p.2)/2)else((p.1+p.2)/2,p.2))
theorem RA{x:List Int}{c:List ZX}{an ad bn bd:Int}(p1:aD env.P 79 [.ag (PI x::aG zq c::(c4 an ad++c4 bn bd))] (.bool true)):aD env.P 134 [.ag (PI x::aG zq c::(c4 an ad++c4 bn bd))] (.ag (PI x::aG zq c::(c4 an ad++c4 bn bd))):=by
 simp only [c4,List.cons_append,List.nil_append]at p1 ⊢
 refine b6 [(0, .ag [PI x,aG zq c,aG aH (aP DD an.natAbs), .bool (decide (an<0)),aG aH (aP DD ad.natAbs), .bool (decide (ad<0)),aG aH (aP DD bn.natAbs), .bool (decide (bn<0)),aG aH (aP DD bd.natAbs), .bool (decide (bd<0))])] Tryz.func134 ?_
 refine aA [1,2] ?_
 refine W.seq ?_
 refine aJ [1,2,5] p1 ?_
 refine bF ?_ ?_<;>intro h
 ·refine aA [2] ?_
  exact b7
 ·simp at h
theorem RB{x:List Int}{c:List ZX}{an ad bn bd mn md yn yd zn zd b:Int}(p1:aD env.P 79 [.ag (PI x::aG zq c::(c4 an ad++c4 bn bd))] (.bool false))(k1:aD env.P 209 [R2 an ad,R2 bn bd] (R2 mn md))(k2:aD env.P 80 [aG zq c,R2 an ad,R2 mn md] (.int .i64 b))
  (k3:aD env.P 84 [.ag (PI x::aG zq c::(if 0<b then c4 an ad++c4 mn md else c4 mn md++c4 bn bd))] (.ag (PI x::aG zq c::(c4 yn yd++c4 zn zd)))):aD env.P 134 [.ag (PI x::aG zq c::(c4 an ad++c4 bn bd))] (.ag (PI x::aG zq c::(c4 yn yd++c4 zn zd))):=by
 simp only [c4,List.cons_append,List.nil_append]at p1 k3 ⊢
 refine b6 [(0, .ag [PI x,aG zq c,aG aH (aP DD an.natAbs), .bool (decide (an<0)),aG aH (aP DD ad.natAbs), .bool (decide (ad<0)),aG aH (aP DD bn.natAbs), .bool (decide (bn<0)),aG aH (aP DD bd.natAbs), .bool (decide (bd<0))])] Tryz.func134 ?_
 refine aA [1,2] ?_
 refine W.seq ?_
 refine aJ [1,2,5] p1 ?_
 refine bF ?_ ?_<;>intro h
 ·simp at h
 refine W.skip ?_
 refine aJ [1,2,3] k1 ?_
 by_cases hb:0<b
 ·rw [if_pos hb]at k3
  refine W.gJ (fun σ=>∃(v1 v2:Nat) (rows:Pm.Rows) (clk:Nat),σ=⟨fa [(1, .ptr 1 v1 0 0),(2, .ptr 2 v2 0 0)],rows,clk⟩∧rows 1=some ⟨v1,49,10,[[PI x,aG zq c,aG aH (aP DD an.natAbs), .bool (decide (an<0)),aG aH (aP DD ad.natAbs), .bool (decide (ad<0)),aG aH (aP DD mn.natAbs), .bool (decide (mn<0)),aG aH (aP DD md.natAbs), .bool (decide (md<0))]]⟩∧rows 2=some ⟨v2,49,10,[[PV.nil,PV.nil,PV.nil,PV.bool false,PV.nil,PV.bool false,PV.nil,PV.bool false,PV.nil,PV.bool false]]⟩) ?_ ?_
  ·refine aJ [1,2,3,18] k2 ?_
   refine bF ?_ ?_<;>intro h
   ·refine W.cE (fun K hK=>?_);simp (disch:=omega) [gw]
    exact hK _ ⟨_,aC _ [1,2],_,_,_,_,rfl,by simp,by simp⟩
   ·simp at h;omega
  rintro _ ⟨v1,v2,rows,clk,rfl,uJ,cC⟩
  refine W.sr ?_
  simp (disch:=omega) [gw,uJ,cC]
  refine aB k3 ?_
  simp (disch:=omega) [gw,uJ,cC]
  refine bN [2] ?_
  exact b7
 ·rw [if_neg hb]at k3
  refine W.gJ (fun σ=>∃(v1 v2:Nat) (rows:Pm.Rows) (clk:Nat),σ=⟨fa [(1, .ptr 1 v1 0 0),(2, .ptr 2 v2 0 0)],rows,clk⟩∧rows 1=some ⟨v1,49,10,[[PI x,aG zq c,aG aH (aP DD mn.natAbs), .bool (decide (mn<0)),aG aH (aP DD md.natAbs), .bool (decide (md<0)),aG aH (aP DD bn.natAbs), .bool (decide (bn<0)),aG aH (aP DD bd.natAbs), .bool (decide (bd<0))]]⟩∧rows 2=some ⟨v2,49,10,[[PV.nil,PV.nil,PV.nil,PV.bool false,PV.nil,PV.bool false,PV.nil,PV.bool false,PV.nil,PV.bool false]]⟩) ?_ ?_
  ·refine aJ [1,2,3,18] k2 ?_
   refine bF ?_ ?_<;>intro h
   ·simp at h;omega
   ·refine W.cE (fun K hK=>?_);simp (disch:=omega) [gw]
    exact hK _ ⟨_,aC _ [1,2],_,_,_,_,rfl,by simp,by simp⟩
  rintro _ ⟨v1,v2,rows,clk,rfl,uJ,cC⟩
  refine W.sr ?_
  simp (disch:=omega) [gw,uJ,cC]
  refine aB k3 ?_
  simp (disch:=omega) [gw,uJ,cC]
  refine bN [2] ?_
  exact b7
theorem lL.afQ{s n:Nat}{f:ZX}(I:lL s n f){u:Nat}{p:Rat × Rat}(hle:p.1≤p.2)(q1:SQ u p.1)(q2:SQ u p.2)(q3:SQ u ((p.1+p.2)/2))(q4:SQ u (p.1+p.2))(hu:u≤1000000000):aD env.P 134 [QA f (aR f) p] (QA f (aR f) (hv f p)):=by
 have p1:=mZ (f:=f) (c:=aR f) q1 q2 hu
 by_cases h:p.1=p.2
 ·rw [decide_eq_true h]at p1
  rw [show hv f p=p from if_pos h,oO]
  rw [oO]at p1
  exact RA p1
 ·rw [decide_eq_false h]at p1
  have c8:p.1<p.2:=by grind
  obtain⟨m1,m2⟩:=pS c8
  have k1:=Q6 (q1.yy hu) (q2.yy hu) (q4.yy hu)
  have k2:=I.oP q1 q3 hu
  rw [if_neg (Rat.not_lt.2 (Rat.le_of_lt m1))]at k2
  have e:hv f p=ex f (if vt (aR f) ((p.1+p.2)/2)<vt (aR f) p.1 then(p.1,(p.1+p.2)/2)else((p.1+p.2)/2,p.2)):=if_neg h
  rw [e]
  have hb:(0<(vt (aR f) p.1:Int)-vt (aR f) ((p.1+p.2)/2))↔vt (aR f) ((p.1+p.2)/2)<vt (aR f) p.1:=by omega
  have k3:=I.afP (u:=u) (p:=if vt (aR f) ((p.1+p.2)/2)<vt (aR f) p.1 then(p.1,(p.1+p.2)/2)else((p.1+p.2)/2,p.2)) (by split<;>assumption) (by split<;>assumption) hu
  rw [cS,cS]at k1 k2
  rw [cS]at k1
  rw [oO]at p1 ⊢
  rw [oO]
  refine RB p1 k1 k2 ?_
  by_cases h2:vt (aR f) ((p.1+p.2)/2)<vt (aR f) p.1
  ·rw [if_pos (hb.2 h2)]
   rw [if_pos h2]at k3 ⊢
   exact k3
  ·rw [if_neg (fun h3=>h2 (hb.1 h3))]
   rw [if_neg h2]at k3 ⊢
   exact k3
theorem ZN{f:ZX}{p:Rat × Rat}(A:jP f (vt (aR f)) p.1 p.2):jP f (vt (aR f)) (hv f p).1 (hv f p).2 ∧ ∀t,bK f (hv f p) t↔bK f p t:=by
 unfold hv
 split
 ·exact⟨A,fun _=>Iff.rfl⟩
 ·rename_i h
  have c8:p.1<p.2:=by have:=A.le;grind
  obtain⟨m1,m2⟩:=pS c8
  obtain⟨h1,h2⟩:=A.half m1 m2
  have key:∀q:Rat × Rat,jP f (vt (aR f)) q.1 q.2→(∀t,bK f q t↔bK f p t)→jP f (vt (aR f)) (ex f q).1 (ex f q).2 ∧ ∀t,bK f (ex f q) t↔bK f p t:=fun q hq hc=>by
   unfold ex
   split
   ·rename_i h0
    obtain⟨g1,g2⟩:=hq.exact h0
    exact⟨g1,fun t=>(g2 t).trans (hc t)⟩
   ·exact⟨hq,hc⟩
  split
  ·rename_i h3
   obtain⟨g1,g2⟩:=h1 h3
   exact key (p.1,(p.1+p.2)/2) g1 g2
  ·rename_i h3
   obtain⟨g1,g2⟩:=h2 h3
   exact key ((p.1+p.2)/2,p.2) g1 g2
theorem DF{f:ZX}{p:Rat × Rat}(A:jP f (vt (aR f)) p.1 p.2):jP f (vt (aR f)) (ex f p).1 (ex f p).2 ∧ ∀t,bK f (ex f p) t↔bK f p t:=by
 unfold ex
 split
 ·rename_i h0
  exact A.exact h0
 ·exact⟨A,fun _=>Iff.rfl⟩
abbrev t4(n d:Int):List PV:=[.bool (decide (n<0)),us (aP LL n.natAbs), .bool (decide (d<0)),us (aP LL d.natAbs)]
section
variable {x:List Int} {c:List ZX} {fs:List ZX} {an ad bn bd z b σ:Int} (hx:x.length<1000000)  (f1:aD env.P 83 [Po x] (PI x)) (f2:aD env.P 189 [PI x] (aG zq fs)) (k1:aD env.P 86 [T2 an ad] (R2 an ad)) (k2:aD env.P 86 [T2 bn bd] (R2 bn bd))
  (k3:aD env.P 15 [R2 an ad,R2 bn bd] (.int .i64 z)) (k4:aD env.P 85 [PI x] (aG zq c)) (k5:aD env.P 80 [aG zq c,R2 an ad,R2 bn bd] (.int .i64 b)) (k6:aD env.P 81 [PI x,R2 an ad] (.int .i64 σ))
include hx f1
include f2 k1 k2 k3 k4 k5 k6
theorem abI(h2:2≤x.length)(hm:fs.length=1){r:Bool}(hr:r=if 0<z then false else if z=0 then σ==0 else b==1):aD env.P 131 [.ag (Po x::(t4 an ad++t4 bn bd))] (.bool r):=by
 simp only [t4,List.cons_append,List.nil_append]
 refine b6 [(0, .ag [Po x, .bool (decide (an<0)),us (aP LL an.natAbs), .bool (decide (ad<0)),us (aP LL ad.natAbs), .bool (decide (bn<0)),us (aP LL bn.natAbs), .bool (decide (bd<0)),us (aP LL bd.natAbs)])] Tryz.func131 ?_
 refine aA [1] ?_
 refine aJ [1,3] f1 ?_
 refine W.seq ?_
 have e1:((x.length:Int)<2)=False:=eq_false (by omega)
 have e2:(((fs.length:Int)) != 1)=false:=by rw [hm];rfl
 refine W.sr ?_
 simp (disch:=omega) [gw,e1]
 refine aB f2 ?_
 simp (disch:=omega) [gw,e2]
 refine bN [1,3,26] ?_
 refine bF ?_ ?_<;>intro h
 ·simp at h
 refine W.skip ?_
 refine iQ ?_
 refine bW k1 ?_
 refine aB k2 ?_
 (try (refine a9 (of_decide_eq_true (by kernel_rfl)) ?_));(try simp (maxSteps:=4000000) (disch:=omega) [gw,gR]);(repeat rw [if_pos (by kernel_rfl)]);(try simp (maxSteps:=4000000) (disch:=omega) [gw,gR])
 (try (refine a9 (of_decide_eq_true (by kernel_rfl)) ?_));(try simp (maxSteps:=4000000) (disch:=omega) [gw,gR]);(repeat rw [if_pos (by kernel_rfl)]);(try simp (maxSteps:=4000000) (disch:=omega) [gw,gR])
 (try (refine a9 (of_decide_eq_true (by kernel_rfl)) ?_));(try simp (maxSteps:=4000000) (disch:=omega) [gw,gR]);(repeat rw [if_pos (by kernel_rfl)]);(try simp (maxSteps:=4000000) (disch:=omega) [gw,gR])
 refine bN [3,4,5] ?_
 refine W.seq ?_
 refine aJ [3,4,5,6] k3 ?_
 refine W.block ?_
 refine aA [3,4,5,6,36] ?_
 refine bF ?_ ?_<;>intro h
 ·simp at h
  rw [if_pos h]at hr;subst hr
  refine aA [2] ?_
  exact b7
 ·simp at h
  rw [if_neg (by omega)]at hr
  refine aA [3,4,5,39] ?_
  refine bF ?_ ?_<;>intro h
  ·simp at h
   rw [if_pos h]at hr;subst hr
   refine aJ [2] k6 ?_
   exact b7
  ·simp at h
   rw [if_neg h]at hr;subst hr
   refine W.skip ?_
   refine iQ ?_
   refine bW k4 ?_
   refine bU [2] k5 ?_
   exact b7
end
theorem lL.valid{s n:Nat}{f:ZX}(I:lL s n f){u:Nat}{p:Rat × Rat}(A:jP f (vt (aR f)) p.1 p.2)(hN:2≤ZX.N f)(q1:SQ u p.1)(q2:SQ u p.2)(hu:u≤1000000000):aD env.P 131 [GA f p] (.bool true):=by
 have hN':=I.ch.bz.N
 have hn:=I.ch.hn
 have hx:f.l.length<1000000:=by show ZX.N f<_;omega
 have f2:=rL I.lay I.s1
 rw [I.nf.nfe]at f2
 have hnl:nl f=1:=(apK f).2 ⟨hN,by rw [I.gz1,ZX.r9];omega⟩
 have XV:(fl f).length=1:=by rw [apd,hnl]
 have k1:=q1.ZM hu
 have k2:=q2.ZM hu
 have k3:=mR p.1 p.2 (q1.yy hu) (q2.yy hu)
 have k5:=I.oP q1 q2 hu
 have k6:=I.alV q1 hu
 rw [cS]at k1 k2 k6
 rw [cS,cS]at k3 k5
 refine abI hx I.alU f2 k1 k2 k3 I.w6 k5 k6 hN XV ?_
 rw [if_neg (by rw [fW];have:=A.le;grind)]
 rcases A.k with ⟨h1,h2⟩ | ⟨h1,h2⟩
 ·rw [if_pos (jM.2 h1),h2,iL];rfl
 ·rw [if_neg (fun h=>by rw [jM]at h;grind),if_neg (by grind)]
  have:(vt (aR f) p.1:Int)-vt (aR f) p.2=1:=by omega
  rw [this];rfl
theorem sP{f:ZX}(h0:f≠0)(hc:sN f (b9 f))(hN:ZX.N f≤20):sE f (vt (aR f)):=by
 have hg:gz f (b9 f)=1:=(BU (.inl h0)).N1 (hc _ (eJ _ _).l (eJ _ _).r)
 refine⟨h0,hc,_,⟨fun B hB=>?_⟩,rfl⟩
 obtain⟨s,hs⟩:=FZ f.l
 obtain⟨β,hβ⟩:=Q7 B
 have hb:BZ (s+1+5) 20 f:=⟨hN,fun c hc=>cQ (by decide) (by
  have h1:=hs c hc
  have h2:2^s<2^(s+1+5):=Nat.pow_lt_pow_right (by decide) (by omega)
  omega)⟩
 have hb0:BZ (s+1) 20 f:=⟨hN,fun c hc=>cQ (by decide) (by
  have h1:=hs c hc
  have h2:2^s<2^(s+1):=Nat.pow_lt_pow_right (by decide) (by omega)
  omega)⟩
 have bd:BZ (s+1+5) 20 (b9 f):=hb0.b9 (by decide)
 have hND:=nG f
 have hP1:ZX.N (sB (b9 f))≤ZX.N (b9 f):=mQ _
 obtain⟨δ,h1,h2⟩:=F0 (jb ((s+1+5+20+1)*2*4^20) 20 β)
 refine⟨δ,h1,Lcl.mono (ZC (s:=s+1) (n:=20) (by decide) h0 hb ?_ (jL bd) hg (by rw [h2];exact Rat.le_refl)) hβ⟩
 unfold BX
 split
 ·have:(4:Nat)^ZX.N f≤4^20:=Nat.pow_le_pow_right (by decide) hN
  exact Nat.mul_le_mul (by omega) this
 ·have:(4:Nat)^ZX.N (sB (b9 f))≤4^20:=Nat.pow_le_pow_right (by decide) (by omega)
  exact Nat.mul_le_mul (Nat.le_refl _) this
structure m7(f h g w:ZX):Prop where
 eq:f=w*g
 ng:Nf g
 nw:Nf w
 wg:sN w g
 wh:sN w h
 gd:dv g h
 sg:sN g (b9 g)
 sw:sN w (b9 w)
theorem lH{f h:ZX}(nf:Nf f)(hc:sN f (b9 f)):∃w,m7 f h (gz f h) w:=by
 have ng:Nf (gz f h):=BU (.inl nf.ne)
 obtain⟨w,nw,e⟩:=nf.quo ng (eJ f h).l
 have hd:b9 f=b9 w*gz f h+w*b9 (gz f h):=by
  have h1:=congrArg b9 e
  rwa [uW]at h1
 have dwf:dv w f:=by rw [e];exact(dv.refl w).mul_right _
 have dgf:dv (gz f h) f:=(eJ f h).l
 have wg:sN w (gz f h):=fun d h1 h2=>hc d (h1.trans dwf) (by rw [hd];exact(h2.mul_left _).add (h1.mul_right _))
 exact⟨w,e,ng,nw,wg,fun d h1 h2=>wg d h1 ((eJ f h).least (h1.trans dwf) h2),(eJ f h).r,
  fun d h1 h2=>hc d (h1.trans dgf) (by rw [hd];exact(h1.mul_left _).add (h2.mul_left _)),fun d h1 h2=>hc d (h1.trans dwf) (by rw [hd];exact(h2.mul_right _).add (h1.mul_right _))⟩
theorem m7.N{f h g w:ZX}(S:m7 f h g w):ZX.N w≤ZX.N f∧ZX.N g≤ZX.N f:=by
 have h1:=oH S.nw.ne S.ng.ne
 rw [←S.eq]at h1
 have:=ZX.aI.1 S.nw.ne
 have:=ZX.aI.1 S.ng.ne
 omega
theorem m7.F6{f h g w:ZX}(S:m7 f h g w){v γ φ:Rat→Nat}(hv:sE f v)(hg:sE g γ)(hw:sE w φ){s t:Rat}(iP:s≤t):v s+γ t+φ t=v t+γ s+φ s:=by
 have e:K 1*f=w*g:=by rw [←S.eq];show(1:ZX)*f=f;grind
 have:=hv.mul hw hg (by decide) e S.wg iP
 omega
theorem ZO{f h:ZX}{v w:Rat→Nat}(hv:sE f v)(hw:sE h w)(hc:sN f h){s r l β:Nat}(hA:∀c∈f.l,c.natAbs≤2^s)(hB:∀c∈h.l,c.natAbs≤2^r)(hl:ZX.N f+ZX.N h≤2^l)
  {a b:Rat} (ha:Ab a (2^β)) (hb:Ab b (2^β)) (gW:a<b) (hd:(b-a)*2^(sx f h s r l+(ZX.N f+ZX.N h)*(β+2)+2)≤1):v a=v b∨w a=w b:=by
 refine Classical.byContradiction fun AO=>?_
 have alW:=not_or.1 AO
 have sm:∀ {p:ZX} {m:Nat} {u:Rat→Nat},sE p u→(∀c∈p.l,c.natAbs≤2^m)→¬u a=u b→Ab (e a p) ((b-a)*2^(m+ZX.N p*(β+2))):=fun {p m u} S hp hu =>
  S.small gW hu (fA _) (fun x y h1 h2 h3=>by
   have g1:=(afF hp (Nat.le_refl _) (cL ha hb h1 (by grind)) (cL ha hb (show a≤y by grind) h3)).1
   have g2:=mY x y p.l
   have g3:e y p-e x p=qv y p.l-qv x p.l:=rfl
   rw [g3,g2]
   exact Ab.mul ⟨by grind,Rat.le_refl⟩ g1) Rat.le_refl (Rat.le_of_lt gW)
 have b1:=sm hv hA alW.1
 have b2:=sm hw hB alW.2
 have n1:=ZX.aI.1 hv.ne
 have n2:=ZX.aI.1 hw.ne
 have s1:s≤s*ZX.N h:=Nat.le_mul_of_pos_right _ (by omega)
 have s2:r≤r*ZX.N f:=Nat.le_mul_of_pos_right _ (by omega)
 have fin:∀ {i j k:Nat},i+j+1=k→(b-a)*2^k≤1→(b-a)*2^i*2*2^j≤1:=fun {i j k} hk h=>by
  rw [←hk,Rat.pow_succ,pR]at h;grind
 have hX:sx f h s r l=(l+2)*(ZX.N f+ZX.N h)+s*ZX.N h+r*ZX.N f:=rfl
 rw [Nat.add_mul]at hd
 have h5:=avJ hv.ne hw.ne hA hB hl hc ha (β:=β) (fin (i:=s+ZX.N f*(β+2)) (k:=sx f h s r l+(ZX.N f*(β+2)+ZX.N h*(β+2))+2) (by omega) hd) (fin (i:=r+ZX.N h*(β+2)) (k:=sx f h s r l+(ZX.N f*(β+2)+ZX.N h*(β+2))+2) (by omega) hd)
 have q1:0<(b-a)*2^(s+ZX.N f*(β+2)):=Rat.mul_pos (by grind) (fA _)
 have q2:0<(b-a)*2^(r+ZX.N h*(β+2)):=Rat.mul_pos (by grind) (fA _)
 obtain⟨p1,p2⟩:=b1
 obtain⟨p3,p4⟩:=b2
 rcases h5 with (h5 | h5) | (h5 | h5)<;>grind
theorem afR{f h:ZX}{v w:Rat→Nat}(hv:sE f v)(hw:sE h w)(hc:sN f h){s n l β:Nat}(hA:∀c∈f.l,c.natAbs≤2^s)(hB:∀c∈h.l,c.natAbs≤2^s)(hn:ZX.N f+ZX.N h≤n)(hl:n≤2^l)
  {a b:Rat} (ha:Ab a (2^β)) (hb:Ab b (2^β)) (gW:a<b) (hd:(b-a)*2^(sk s n l β+(s+n*(β+2))+1)≤1):v a=v b∨w a=w b:=
 ZO hv hw hc hA hB (Nat.le_trans hn hl) ha hb gW (FX hd (by
  have h1:=afG (a:=f) (b:=h) (s:=s) (l:=l) (β:=β) hn (Nat.le_refl _)
  have h2:(ZX.N f+ZX.N h)*(β+2)≤n*(β+2):=Nat.mul_le_mul_right _ hn
  omega))
theorem ML{f h:ZX}{v w:Rat→Nat}(hv:sE f v)(hw:sE h w)(hc:sN f h)(B:Rat):∃δ:Rat,0<δ ∧ ∀a b,Ab a B→Ab b B→a<b→b-a≤δ→v a=v b∨w a=w b:=by
 obtain⟨s1,h1⟩:=FZ f.l
 obtain⟨s2,h2⟩:=FZ h.l
 obtain⟨β,hβ⟩:=Q7 B
 obtain⟨δ,h3,h4⟩:=F0 (sk (s1+s2) (ZX.N f+ZX.N h) (ZX.N f+ZX.N h) β+(s1+s2+(ZX.N f+ZX.N h)*(β+2))+1)
 refine⟨δ,h3,fun a b ha hb gW hd=>afR hv hw hc (s:=s1+s2) (l:=ZX.N f+ZX.N h) (β:=β) (fun c hc=>Nat.le_trans (h1 c hc) (Nat.pow_le_pow_right (by decide) (by omega))) (fun c hc=>Nat.le_trans (h2 c hc) (Nat.pow_le_pow_right (by decide) (by omega))) (Nat.le_refl _) (Nat.le_of_lt Nat.lt_two_pow_self) (ha.mono hβ) (hb.mono hβ) gW ?_⟩
 rw [←h4]
 exact Rat.mul_le_mul_of_nonneg_right hd (Rat.le_of_lt (fA _))
section
variable {f:ZX} {v:Rat→Nat} {lo hi:Rat} (A:jP f v lo hi)
include A
theorem jC{s t:Rat}(h1:¬gM v lo hi s)(h2:gM v lo hi t)(iP:s<t):v t<v s:=by
 have g1:s<hi:=Rat.not_le.1 fun h=>h1 (.inl h)
 rcases A.k with ⟨rfl,h0⟩ | ⟨c8,hk⟩
 ·have h3:lo≤t:=by rcases h2 with h | h<;>grind
  have h4:=A.S.root g1 h0
  have h5:=A.S.b8 h3
  omega
 ·have h3:v lo≤v s:=by
   by_cases h:s≤lo
   ·exact A.S.b8 h
   ·exact Nat.not_lt.1 fun h4=>h1 (.inr ⟨by grind,h4⟩)
  rcases h2 with h | ⟨_,h⟩
  ·have:=A.S.b8 h;omega
  ·omega
theorem ZP{s t:Rat}(h1:¬gM v lo hi s)(h2:gM v lo hi t)(hv:v s=v t+1){x:Rat}(hx:s≤x)(hy:x≤t):gM v lo hi x↔v x<v s:=by
 refine⟨fun h=>?_,fun h=>?_⟩
 ·refine jC A h1 h ?_
  rcases Rat.le_iff_lt_or_eq.1 hx with h3 | rfl
  ·exact h3
  ·exact absurd h h1
 ·refine Classical.byContradiction fun h3=>?_
  have h4:x<t:=by
   rcases Rat.le_iff_lt_or_eq.1 hy with h4 | rfl
   ·exact h4
   ·exact absurd h2 h3
  have:=jC A h3 h2 h4
  omega
end
theorem VZ{U:Rat→Prop}{δ:Rat}(hδ:0<δ):∀(n:Nat) (s t:Rat),s<t→¬U s→U t→t-s≤δ*2^n → ∃a b,s≤a∧a<b∧b≤t∧b-a≤δ∧¬U a∧U b
 | 0,s,t,h,h1,h2,hd=>⟨s,t,Rat.le_refl,h,Rat.le_refl,by rwa [Rat.pow_zero,Rat.mul_one]at hd,h1,h2⟩
 | n+1,s,t,h,h1,h2,hd=>by
  obtain⟨m1,m2⟩:=pS h
  obtain⟨d1,d2⟩:=yW hd
  generalize (s+t)/2=m at *
  by_cases hm:U m
  ·obtain⟨a,b,g1,g2,g3,g4⟩:=VZ hδ n s m m1 h1 hm d1
   exact⟨a,b,g1,g2,by grind,g4⟩
  ·obtain⟨a,b,g1,g2,g3,g4⟩:=VZ hδ n m t m2 hm h2 d2
   exact⟨a,b,by grind,g2,g3,g4⟩
theorem DG{U:Rat→Prop}{δ:Rat}(hδ:0<δ){s t:Rat}(h:s<t)(h1:¬U s)(h2:U t):∃a b,s≤a∧a<b∧b≤t∧b-a≤δ∧¬U a∧U b:=by
 obtain⟨n,hn⟩:=Q7 ((t-s)/δ)
 refine VZ hδ n s t h h1 h2 ?_
 have h3:(t-s)/δ*δ=t-s:=Rat.div_mul_cancel (Rat.ne_of_gt hδ)
 have h4:=Rat.mul_le_mul_of_nonneg_right hn (Rat.le_of_lt hδ)
 grind
section
variable {f h:ZX} {v w:Rat→Nat} {lo hi R7 kN:Rat} (A:jP f v lo hi) (B:jP h w R7 kN)
include A B
theorem yY{g w1 w2:ZX}{γ φ η:Rat→Nat}(S1:m7 f h g w1)(S2:m7 h f g w2)(hg:sE g γ)(h1:sE w1 φ)(h2:sE w2 η){s t:Rat}(iP:s<t)(a1:¬gM v lo hi s)(a2:gM v lo hi t)(b1:¬gM w R7 kN s)(b2:gM w R7 kN t)(hv:v s≤v t+1)(hw:w s≤w t+1)(hγ:γ t<γ s) :
  ∀x,gM v lo hi x↔gM w R7 kN x:=fun x=>by
 have c1:=jC A a1 a2 iP
 have c2:=jC B b1 b2 iP
 have e1:v s=v t+1:=by omega
 have e2:w s=w t+1:=by omega
 have k1:=S1.F6 A.S hg h1 (Rat.le_of_lt iP)
 have k2:=S2.F6 B.S hg h2 (Rat.le_of_lt iP)
 by_cases hx:x<s
 ·exact⟨fun hh=>absurd (A.up hh (Rat.le_of_lt hx)) a1,fun hh=>absurd (B.up hh (Rat.le_of_lt hx)) b1⟩
 ·by_cases hy:t<x
  ·exact⟨fun _=>B.up b2 (Rat.le_of_lt hy),fun _=>A.up a2 (Rat.le_of_lt hy)⟩
  ·have HO:=Rat.not_lt.1 hx
   have GU:=Rat.not_lt.1 hy
   rw [ZP A a1 a2 e1 HO GU,ZP B b1 b2 e2 HO GU]
   have q1:=S1.F6 A.S hg h1 HO
   have q2:=S2.F6 B.S hg h2 HO
   have r1:=h1.b8 HO
   have r2:=h2.b8 HO
   have r3:=h1.b8 GU
   have r4:=h2.b8 GU
   have m1:=hg.b8 (Rat.le_of_lt iP)
   have m2:=h1.b8 (Rat.le_of_lt iP)
   have m3:=h2.b8 (Rat.le_of_lt iP)
   omega
end
theorem RD{q:Rat}{V:Rat→Prop}(hV:∀s t,V s→s≤t→V t):cu (fun t=>q≤t) V = -cr V q:=by
 by_cases h:V q
 ·by_cases h2:∃s,s<q∧V s
  ·rw [(F2 hV).2 h2]
   unfold cu
   obtain⟨s,h3,h4⟩:=h2
   rw [if_neg (fun ⟨t,h5,h6⟩=>h6 (hV q t h h5)),if_pos ⟨s,h4,by grind⟩]
   rfl
  ·rw [DE.2 ⟨h,fun s h3 h4=>h2 ⟨s,h3,h4⟩⟩]
   unfold cu
   rw [if_neg (fun ⟨t,h5,h6⟩=>h6 (hV q t h h5)),if_neg (fun ⟨t,h5,h6⟩=>h2 ⟨t,by grind,h5⟩)]
   rfl
 ·rw [rQ.2 h]
  unfold cu
  rw [if_pos ⟨q,Rat.le_refl,h⟩]
theorem JH{q:Rat}{U:Rat→Prop}(hU:∀s t,U s→s≤t→U t):cu U (fun t=>q≤t)=cr U q:=by
 by_cases h:U q
 ·by_cases h2:∃s,s<q∧U s
  ·rw [(F2 hU).2 h2]
   unfold cu
   obtain⟨s,h3,h4⟩:=h2
   rw [if_pos ⟨s,h4,by grind⟩]
  ·rw [DE.2 ⟨h,fun s h3 h4=>h2 ⟨s,h3,h4⟩⟩]
   unfold cu
   rw [if_neg (fun ⟨t,h5,h6⟩=>h2 ⟨t,by grind,h5⟩),if_neg (fun ⟨t,h5,h6⟩=>h6 (hU q t h h5))]
 ·rw [rQ.2 h]
  unfold cu
  rw [if_neg (fun ⟨t,h5,h6⟩=>h (hU t q h5 (by grind))),if_pos ⟨q,Rat.le_refl,h⟩]
theorem lI{U U' V V':Rat→Prop}(h1:∀t,U t↔U' t)(h2:∀t,V t↔V' t):cu U V=cu U' V':=by
 have e1:U=U':=funext fun t=>propext (h1 t)
 have e2:V=V':=funext fun t=>propext (h2 t)
 rw [e1,e2]
theorem jQ{f:ZX}{p:Rat × Rat}(h:p.1=p.2)(t:Rat):bK f p t↔p.1≤t:=by
 refine⟨fun h1=>?_,fun h1 => .inl (h▸h1)⟩
 rcases h1 with h1 | ⟨h1,_⟩
 ·rw [h];exact h1
 ·grind
theorem avW{h:ZX}{w:Rat→Nat}{lo hi R7 kN:Rat}{v:Rat→Nat}(B:jP h w R7 kN)(h1:hi≤R7)(h2:R7<kN):cu (gM v lo hi) (gM w R7 kN) = -1:=by
 unfold cu
 rw [if_pos ⟨hi,eO,B.gU (by grind)⟩]
theorem avX{f h:ZX}{v w:Rat→Nat}{lo hi R7 kN:Rat}(A:jP f v lo hi)(B:jP h w R7 kN)(h1:kN≤lo)(h2:lo<hi):cu (gM v lo hi) (gM w R7 kN)=1:=by
 have h3:¬gM v lo hi kN:=A.gU (by grind)
 have h4:¬ ∃t,gM v lo hi t∧¬gM w R7 kN t:=fun⟨t,h4,h5⟩=>h5 (B.up eO (Rat.not_lt.1 fun h6=>h3 (A.up h4 (Rat.le_of_lt h6))))
 unfold cu
 rw [if_neg h4,if_pos ⟨kN,eO,h3⟩]
structure Two(s n:Nat)(f h:ZX):Prop where
 nf:Nf f
 nh:Nf h
 cf:sN f (b9 f)
 ch:sN h (b9 h)
 af:∀c∈f.l,c.natAbs≤2^s
 ah:∀c∈h.l,c.natAbs≤2^s
 Nf:ZX.N f≤n
 Nh:ZX.N h≤n
 hn:n≤20
 hs:n+1≤2^s
namespace Two
variable {s n:Nat} {f h:ZX} (T:Two s n f h)
include T
theorem Sf:sE f (vt (aR f)):=sP T.nf.ne T.cf (Nat.le_trans T.Nf T.hn)
theorem Sh:sE h (vt (aR h)):=sP T.nh.ne T.ch (Nat.le_trans T.Nh T.hn)
end Two
def kc(s n β:Nat):Nat:=lk s n 5 β+(sk (qb (s+1) n) (n+n) 6 β+(qb (s+1) n+(n+n)*(β+2))+1)
theorem avY{s n β:Nat}(hn:n≤20):kc s n β≤1722*s+140*β+9000:=by
 have h1:(n+n)*(s+5+2+(5+1))≤40*(s+13):=Nat.mul_le_mul (by omega) (by omega)
 have h2:(n+n)*(β+2)≤40*(β+2):=Nat.mul_le_mul (by omega) (by omega)
 have h3:n*(β+2)≤20*(β+2):=Nat.mul_le_mul hn (by omega)
 have h4:n*(2*(s+1)+5)≤20*(2*(s+1)+5):=Nat.mul_le_mul hn (by omega)
 have h5:qb (s+1) n≤41*s+150:=by unfold qb;omega
 have h6:(n+n)*(qb (s+1) n+2+6)≤40*(41*s+158):=Nat.mul_le_mul (by omega) (by omega)
 unfold kc lk sk
 omega
theorem aA9{s n:Nat}{f h g w:ZX}(S:m7 f h g w)(hf:f≠0)(hA:∀c∈f.l,c.natAbs≤2^s)(hN:ZX.N f≤n)(hs:n+1≤2^s):∀c∈w.l,c.natAbs≤2^qb (s+1) n:=fun c hc=>by
 have hb:Bd 2 (s+1) n f.l:=⟨hN,fun c hc=>cQ (by decide) (by
  have h1:=hA c hc
  have h2:2^s<2^(s+1):=Nat.pow_lt_pow_right (by decide) (by omega)
  omega)⟩
 have h1:=ae0 (a:=f) (w:=g) (g:=w) hf (by rw [S.eq,ZX.IZ]) hb (Nat.le_trans hs (Nat.pow_le_pow_right (by decide) (by omega)))
 have h2:=iK (b:=2) (by decide) c
 have h3:=Nat.pow_le_pow_right (show 0<2 by decide) (h1.sz c hc)
 unfold qb
 omega
theorem abJ{s n β:Nat}{f h:ZX}{p q:Rat × Rat}(T:Two s n f h)(A:jP f (vt (aR f)) p.1 p.2)(B:jP h (vt (aR h)) q.1 q.2)(h1:p.1<p.2)(h2:q.1<q.2)(h3:p.1<q.2)(h4:q.1<p.2)
  (a1:Ab p.1 (2^β)) (a2:Ab p.2 (2^β)) (b1:Ab q.1 (2^β)) (b2:Ab q.2 (2^β)) {W:Rat} (w1:p.2-p.1≤W) (w2:q.2-q.1≤W) (hW:2*W*2^kc s n β≤1):∀x,bK f p x↔bK h q x:=by
 obtain⟨S,hS,hS1,hS2⟩:∃S,(S=p.1∨S=q.1)∧S≤p.1∧S≤q.1:=by
  by_cases hh:p.1≤q.1
  ·exact⟨p.1, .inl rfl,Rat.le_refl,hh⟩
  ·exact⟨q.1, .inr rfl,by grind,Rat.le_refl⟩
 obtain⟨E,hE,hE1,hE2⟩:∃E,(E=p.2∨E=q.2)∧p.2≤E∧q.2≤E:=by
  by_cases hh:p.2≤q.2
  ·exact⟨q.2, .inr rfl,hh,Rat.le_refl⟩
  ·exact⟨p.2, .inl rfl,Rat.le_refl,by grind⟩
 have aS:Ab S (2^β):=by rcases hS with rfl | rfl<;>assumption
 have aE:Ab E (2^β):=by rcases hE with rfl | rfl<;>assumption
 have CQ:S<E:=by grind
 have hd:E-S≤2*W:=by rcases hS with rfl | rfl<;>rcases hE with rfl | rfl<;>grind
 have XQ:0≤E-S:=by grind
 have hdK:(E-S)*2^kc s n β≤1:=Rat.le_trans (Rat.mul_le_mul_of_nonneg_right hd (Rat.le_of_lt (fA _))) hW
 have lt1:∀k,k≤kc s n β→(E-S)*2^k≤1:=fun k hk=>Rat.le_trans (Rat.mul_le_mul_of_nonneg_left (FW hk) XQ) hdK
 obtain⟨Lf,_⟩:=(show ∃L,CP L f∧vt (aR f)=vt L from T.Sf.g)
 have qU:∀x:ZX,sE x (vt (aR x))→x≠0→(∀c∈x.l,c.natAbs≤2^s)→ZX.N x≤n→vt (aR x) S≤vt (aR x) E+1:=fun x hx h0 hA hN=>by
  obtain⟨L,G,e⟩:=hx.g
  obtain⟨g1,_⟩:=u7 G (s:=s) (n:=n) (l:=5) (β:=β) h0 hA hN (by have:=T.hn;omega) hx.DC (δ:=E-S) (lt1 _ (by unfold kc;omega))
  have:=g1.turns S E aS aE CQ Rat.le_refl
  rw [e]
  rcases MH x S E with h5 | h5<;>omega
 have nF:=qU f T.Sf T.nf.ne T.af T.Nf
 have nH:=qU h T.Sh T.nh.ne T.ah T.Nh
 obtain⟨w1',S1⟩:=lH (h:=h) T.nf T.cf
 obtain⟨w2',S2⟩:=lH (h:=f) T.nh T.ch
 rw [←rI]at S2
 have OX:=T.hn
 have n1:=S1.N
 have n2:=S2.N
 have hTN:=T.Nf
 have aBa:=T.Nh
 have hg:=sP S1.ng.ne S1.sg (by omega)
 have zH:=sP S1.nw.ne S1.sw (by omega)
 have XM:=sP S2.nw.ne S2.sw (by omega)
 have c1:¬bK f p S:=A.gU (by grind)
 have c2:bK f p E:=A.up eO hE1
 have c3:¬bK h q S:=B.gU (by grind)
 have c4:bK h q E:=B.up eO hE2
 have o1:=jC A c1 c2 CQ
 have o2:=jC B c3 c4 CQ
 have k1:=S1.F6 T.Sf hg zH (Rat.le_of_lt CQ)
 have pF:=aA9 S1 T.nf.ne T.af T.Nf T.hs
 have HT:=afR zH T.Sh S1.wh (s:=qb (s+1) n) (n:=n+n) (l:=6) (β:=β) pF (fun c hc=>Nat.le_trans (T.ah c hc) (Nat.pow_le_pow_right (by decide) (by unfold qb;omega))) (by omega) (by omega) aS aE CQ (lt1 _ (by unfold kc;omega))
 have m0:=hg.b8 (Rat.le_of_lt CQ)
 refine yY A B S1 S2 hg zH XM CQ c1 c2 c3 c4 nF nH ?_
 rcases HT with HT | HT
 ·omega
 ·omega
theorem abK{s n:Nat}{f h:ZX}{p q:Rat × Rat}(T:Two s n f h)(A:jP f (vt (aR f)) p.1 p.2)(B:jP h (vt (aR h)) q.1 q.2)(h1:p.1<p.2)(h2:q.1<q.2)(h3:¬bK f p q.1)(h4:bK f p q.2)(hz:vt (aR (gz h f)) p.2<vt (aR (gz h f)) p.1):∀x,bK f p x↔bK h q x:=by
 rw [rI]at hz
 obtain⟨w1',S1⟩:=lH (h:=h) T.nf T.cf
 obtain⟨w2',S2⟩:=lH (h:=f) T.nh T.ch
 rw [←rI]at S2
 have OX:=T.hn
 have n1:=S1.N
 have n2:=S2.N
 have hTN:=T.Nf
 have aBa:=T.Nh
 have hg:=sP S1.ng.ne S1.sg (by omega)
 have zH:=sP S1.nw.ne S1.sw (by omega)
 have XM:=sP S2.nw.ne S2.sw (by omega)
 have hv:vt (aR f) p.1=vt (aR f) p.2+1:=by
  rcases A.k with ⟨g,_⟩ | ⟨_,g⟩
  ·grind
  ·exact g
 have hw:vt (aR h) q.1=vt (aR h) q.2+1:=by
  rcases B.k with ⟨g,_⟩ | ⟨_,g⟩
  ·grind
  ·exact g
 have hq1:q.1<p.2:=Rat.not_le.1 fun hh=>h3 (.inl hh)
 have hq2:p.1<q.2:=Rat.not_le.1 fun hh=>(A.gU (show q.2<p.1∨(q.2=p.1∧p.1<p.2)by grind)) h4
 obtain⟨S,hS,hS1,hS2⟩:∃S,(S=p.1∨S=q.1)∧p.1≤S∧q.1≤S:=by
  by_cases hh:p.1≤q.1
  ·exact⟨q.1, .inr rfl,hh,Rat.le_refl⟩
  ·exact⟨p.1, .inl rfl,Rat.le_refl,by grind⟩
 obtain⟨E,hE,hE1,hE2⟩:∃E,(E=p.2∨E=q.2)∧E≤p.2∧E≤q.2:=by
  by_cases hh:p.2≤q.2
  ·exact⟨p.2, .inl rfl,Rat.le_refl,hh⟩
  ·exact⟨q.2, .inr rfl,by grind,Rat.le_refl⟩
 have CQ:S<E:=by rcases hS with rfl | rfl<;>rcases hE with rfl | rfl<;>assumption
 have c1:¬bK f p S:=by
  rcases hS with rfl | rfl
  ·exact A.gU (.inr ⟨rfl,h1⟩)
  ·exact h3
 have c2:bK f p E:=by
  rcases hE with rfl | rfl
  ·exact eO
  ·exact h4
 have o1:=jC A c1 c2 CQ
 have v1:=T.Sf.b8 hS1
 have v2:=T.Sf.b8 hE1
 have k1:=S1.F6 T.Sf hg zH hS1
 have k2:=S1.F6 T.Sf hg zH hE1
 have k3:=S1.F6 T.Sf hg zH (Rat.le_of_lt CQ)
 have k4:=S2.F6 T.Sh hg XM (Rat.le_of_lt CQ)
 have a1:=hg.b8 hS1
 have a2:=hg.b8 hE1
 have a3:=zH.b8 hS1
 have a4:=zH.b8 hE1
 have a5:=XM.b8 (Rat.le_of_lt CQ)
 have a6:=zH.b8 (Rat.le_of_lt CQ)
 have u1:=T.Sh.b8 hS2
 have u2:=T.Sh.b8 hE2
 have c3:¬bK h q S:=fun hh=>by
  rcases hh with hh | ⟨_,hh⟩
  ·have:=T.Sh.b8 hh;omega
  ·omega
 have c4:bK h q E:=.inr ⟨by grind,by omega⟩
 exact yY A B S1 S2 hg zH XM CQ c1 c2 c3 c4 (by omega) (by omega) (by omega)
theorem abL{s n:Nat}{f h:ZX}{p q:Rat × Rat}(T:Two s n f h)(A:jP f (vt (aR f)) p.1 p.2)(B:jP h (vt (aR h)) q.1 q.2)(h1:p.1<p.2)(hx:∀x,bK f p x↔bK h q x):vt (aR (gz h f)) p.2<vt (aR (gz h f)) p.1:=by
 rw [rI]
 obtain⟨w1',S1⟩:=lH (h:=h) T.nf T.cf
 have OX:=T.hn
 have n1:=S1.N
 have hTN:=T.Nf
 have hg:=sP S1.ng.ne S1.sg (by omega)
 have zH:=sP S1.nw.ne S1.sw (by omega)
 obtain⟨B0,hB0,ab1,ab2⟩:=j4 p.1 p.2
 obtain⟨δ,hδ,HT⟩:=ML zH T.Sh S1.wh B0
 obtain⟨a,b,g1,g2,g3,g4,g5,g6⟩:=DG (U:=bK f p) hδ h1 (A.gU (.inr ⟨rfl,h1⟩)) eO
 have o1:=jC A g5 g6 g2
 have o2:=jC B (fun hh=>g5 ((hx _).2 hh)) ((hx _).1 g6) g2
 have k1:=S1.F6 T.Sf hg zH (Rat.le_of_lt g2)
 have a1:=hg.b8 g1
 have a2:=hg.b8 g3
 rcases HT a b (cL ab1 ab2 g1 (by grind)) (cL ab1 ab2 (by grind) g3) g2 g4 with hh | hh
 ·omega
 ·omega
end Go.Proofs.YtelhfbikiccfkaaGreat
namespace Go.Proofs.YtelhfbikiccfkaaGreat
open Go Pm
open ZX hiding N W
theorem MM{a:ZX}(na:Nf a)(hc:sN a (b9 a)):sq a=a:=by
 obtain⟨g,hg⟩:=j3 _ a (b9 a) (Nat.le_refl _)
 have h0:=hg.ne (.inl na.ne)
 have h1:=hc g hg.l hg.r
 have h2:=ZX.aI.1 h0
 obtain⟨k,hk,rfl⟩:=lC (show ZX.N g=1 by omega)
 obtain⟨c,zY,u,v,e⟩:=hg.uv
 rw [qG]at e
 exact ajp na (Int.mul_ne_zero zY hk) e.symm
abbrev gB(x:List Int)(c:List ZX)(an ad bn bd:Int):List PV:=[PI x,aG zq c,aG aH (aP DD an.natAbs), .bool (decide (an<0)),aG aH (aP DD ad.natAbs), .bool (decide (ad<0)),aG aH (aP DD bn.natAbs), .bool (decide (bn<0)),aG aH (aP DD bd.natAbs), .bool (decide (bd<0))]
theorem sF{f:ZX}{c:List ZX}{p:Rat × Rat}:QA f c p = .ag (gB f.l c p.1.num p.1.den p.2.num p.2.den):=rfl
theorem kH{y x g:List Int}{c cg:List ZX}{an ad bn bd σ b:Int}{pt z:Bool}(hl:y.length<1000000)(hg:g.length<1000000)(p1:aD env.P 79 [.ag (gB x c an ad bn bd)] (.bool pt))(k1:pt=true→aD env.P 81 [PI y,R2 an ad] (.int .i64 σ))(k2:aD env.P 208 [PI y,PI x] (PI g))
  (k3:2≤g.length→aD env.P 85 [PI g] (aG zq cg)) (k4:2≤g.length→aD env.P 80 [aG zq cg,R2 an ad,R2 bn bd] (.int .i64 b)) (hz:z=if y.length=0 then true else if pt=true then σ==0 else if g.length<2 then false else decide (0<b)) :
  aD env.P 133 [PI y, .ag (gB x c an ad bn bd)] (.bool z):=by
 simp only [gB]at p1 ⊢
 refine b6 [(0,PI y),(1, .ag [PI x,aG zq c,aG aH (aP DD an.natAbs), .bool (decide (an<0)),aG aH (aP DD ad.natAbs), .bool (decide (ad<0)),aG aH (aP DD bn.natAbs), .bool (decide (bn<0)),aG aH (aP DD bd.natAbs), .bool (decide (bd<0))])] Tryz.func133 ?_
 refine aA [0,3] ?_
 refine aM [0,3,8] ?_
 refine bF ?_ ?_<;>intro h
 ·have hy:y.length=0:=by simp at h;simp [h]
  rw [if_pos hy]at hz;subst hz
  refine aA [4] ?_
  exact b7
 ·have hy:¬y.length=0:=by simp at h;simp [h]
  rw [if_neg hy]at hz
  refine W.skip ?_
  refine W.seq ?_
  refine aJ [0,3,10] p1 ?_
  refine bF ?_ ?_<;>intro h
  ·subst h
   rw [if_pos rfl]at hz;subst hz
   have k1':=k1 rfl
   refine aJ [4] k1' ?_
   exact b7
  ·subst h
   rw [if_neg (by decide)]at hz
   refine W.skip ?_
   refine aJ [3,5] k2 ?_
   refine aM [3,5,22] ?_
   refine bF ?_ ?_<;>intro h
   ·have pV:g.length<2:=by simp at h;omega
    rw [if_pos pV]at hz;subst hz
    refine aA [4] ?_
    exact b7
   ·have pV:¬g.length<2:=by simp at h;omega
    rw [if_neg pV]at hz
    have k3':=k3 (by omega)
    have k4':=k4 (by omega)
    refine W.skip ?_
    refine iQ ?_
    refine bW k3' ?_
    refine bU [4] k4' ?_
    refine W.ret ?_
    simp [go,hz]
theorem yZ(U:Rat→Prop)(t:Rat):cr U t = -1∨cr U t=0∨cr U t=1:=by
 unfold cr
 split
 ·split<;>simp
 ·simp
theorem abM{x y:List Int}{c d:List ZX}{an ad bn bd en ed gn gd r:Int}(hr:r = -1∨r=0∨r=1)(p1:aD env.P 79 [.ag (gB x c an ad bn bd)] (.bool true))(k1:aD env.P 20 [.ag (gB y d en ed gn gd),R2 an ad] (.int .i64 r)) :
  aD env.P 54 [.ag (gB x c an ad bn bd), .ag (gB y d en ed gn gd)] (.int .i64 (-r)):=by
 have hw:IntKind.wrap .i64 (-r) = -r:=wrap_i64 (by omega) (by omega)
 simp only [gB]at p1 k1 ⊢
 refine b6 [(0, .ag [PI x,aG zq c,aG aH (aP DD an.natAbs), .bool (decide (an<0)),aG aH (aP DD ad.natAbs), .bool (decide (ad<0)),aG aH (aP DD bn.natAbs), .bool (decide (bn<0)),aG aH (aP DD bd.natAbs), .bool (decide (bd<0))]),(1, .ag [PI y,aG zq d,aG aH (aP DD en.natAbs), .bool (decide (en<0)),aG aH (aP DD ed.natAbs), .bool (decide (ed<0)),aG aH (aP DD gn.natAbs), .bool (decide (gn<0)),aG aH (aP DD gd.natAbs), .bool (decide (gd<0))])] Tryz.func54 ?_
 refine aA [2,3] ?_
 refine W.seq ?_
 refine aJ [2,3,6] p1 ?_
 refine bF ?_ ?_<;>intro h
 ·refine iM ?_
  refine aB k1 ?_
  simp (disch:=omega) [gw,hw]
  refine bN [4] ?_
  exact b7
 ·simp at h
theorem abN{x y:List Int}{c d:List ZX}{an ad bn bd en ed gn gd r:Int}(p1:aD env.P 79 [.ag (gB x c an ad bn bd)] (.bool false))(p2:aD env.P 79 [.ag (gB y d en ed gn gd)] (.bool true))(k1:aD env.P 20 [.ag (gB x c an ad bn bd),R2 en ed] (.int .i64 r)) :
  aD env.P 54 [.ag (gB x c an ad bn bd), .ag (gB y d en ed gn gd)] (.int .i64 r):=by
 simp only [gB]at p1 p2 k1 ⊢
 refine b6 [(0, .ag [PI x,aG zq c,aG aH (aP DD an.natAbs), .bool (decide (an<0)),aG aH (aP DD ad.natAbs), .bool (decide (ad<0)),aG aH (aP DD bn.natAbs), .bool (decide (bn<0)),aG aH (aP DD bd.natAbs), .bool (decide (bd<0))]),(1, .ag [PI y,aG zq d,aG aH (aP DD en.natAbs), .bool (decide (en<0)),aG aH (aP DD ed.natAbs), .bool (decide (ed<0)),aG aH (aP DD gn.natAbs), .bool (decide (gn<0)),aG aH (aP DD gd.natAbs), .bool (decide (gd<0))])] Tryz.func54 ?_
 refine aA [2,3] ?_
 refine W.seq ?_
 refine aJ [2,3,6] p1 ?_
 refine bF ?_ ?_<;>intro h
 ·simp at h
 refine W.skip ?_
 refine W.seq ?_
 refine aJ [2,3,13] p2 ?_
 refine bF ?_ ?_<;>intro h
 ·refine aJ [4] k1 ?_
  exact b7
 ·simp at h
section
variable {s n s' n' u:Nat} {f h:ZX} {p q:Rat × Rat} (I:lL s n f) (I':lL s' n' h) (A:jP f (vt (aR f)) p.1 p.2) (B:jP h (vt (aR h)) q.1 q.2) (p1:SQ u p.1) (p2:SQ u p.2) (q1:SQ u q.1) (q2:SQ u q.2) (hu:u≤1000000000)
include I I' A B p1 p2 q1 q2 hu
theorem afS(hp:p.1=p.2∨q.1=q.2):aD env.P 54 [QA f (aR f) p,QA h (aR h) q] (.int .i64 (cu (bK f p) (bK h q))):=by
 have e1:=mZ (f:=f) (c:=aR f) p1 p2 hu
 have e2:=mZ (f:=h) (c:=aR h) q1 q2 hu
 by_cases h1:p.1=p.2
 ·rw [decide_eq_true h1]at e1
  have k1:=I'.w7 B q1 q2 p1 hu
  rw [lI (jQ h1) (fun _=>Iff.rfl),RD fun s t=>B.up]
  rw [cS]at k1
  exact abM (yZ _ _) e1 k1
 ·rw [decide_eq_false h1]at e1
  have h2:q.1=q.2:=hp.resolve_left h1
  rw [decide_eq_true h2]at e2
  have k1:=I.w7 A p1 p2 q1 hu
  rw [lI (fun _=>Iff.rfl) (jQ h2),JH fun s t=>A.up]
  rw [cS]at k1
  exact abN e1 e2 k1
end
theorem B8{u:Nat}{p q:Rat}(hp:SQ u p)(hq:SQ u q):∃D,1≤D∧D≤2^(2*u)∧Gr D (2^u) 0 p∧Gr D (2^u) 0 q:=by
 have key:∀r:Rat,SQ u r→1≤r.den∧r.den≤2^u∧Ab r (2^u)∧r*((r.den:Int):Rat)=(r.num:Rat):=fun r hr=>by
  have h1:=r.den_pos
  have h2:=iK (b:=2) (by decide) (r.den:Int)
  have h3:=Nat.pow_le_pow_right (show 0<2 by decide) hr.d2
  have h4:=iK (b:=2) (by decide) r.num
  have h5:=Nat.pow_le_pow_right (show 0<2 by decide) hr.n2
  have h6:=yU r
  have h7:Ab (r.num:Rat) (2^u):=JD (by omega)
  have h8:(1:Rat)≤((r.den:Int):Rat):=fK (by omega)
  refine⟨h1,by omega,?_,h6.symm⟩
  rw [h6]at h7
  obtain⟨g1,g2⟩:=h7
  have hT:=fA u
  generalize (2:Rat)^u=T at *
  constructor
  ·refine Rat.not_lt.1 fun hh=>?_
   have:=Rat.mul_le_mul_of_nonneg_left h8 (show 0 ≤ -r by grind)
   grind
  ·refine Rat.not_lt.1 fun hh=>?_
   have:=Rat.mul_le_mul_of_nonneg_left h8 (show 0≤r by grind)
   grind
 obtain⟨a1,a2,a3,a4⟩:=key p hp
 obtain⟨b1,b2,b3,b4⟩:=key q hq
 refine⟨p.den*q.den,Nat.mul_pos a1 b1,?_,⟨⟨p.num*(q.den:Int),?_⟩,a3⟩,⟨⟨q.num*(p.den:Int),?_⟩,b3⟩⟩
 ·rw [Nat.two_mul,Nat.pow_add];exact Nat.mul_le_mul a2 b2
 ·rw [Nat.pow_zero,Nat.mul_one,Rat.intCast_mul,←a4,Int.natCast_mul p.den,Rat.intCast_mul];grind
 ·rw [Nat.pow_zero,Nat.mul_one,Rat.intCast_mul,←b4,Int.natCast_mul p.den,Rat.intCast_mul];grind
theorem al0{f:ZX}{p:Rat × Rat}{D j:Nat}{B:Rat}(h1:Gr D B j p.1)(h2:Gr D B j p.2)(hle:p.1≤p.2):Gr D B (j+1) (hv f p).1∧Gr D B (j+1) (hv f p).2∧((hv f p).2-(hv f p).1)*2≤p.2-p.1:=by
 have hm:=h1.GK h2
 have e:(p.1+p.2)/2*2=p.1+p.2:=Rat.div_mul_cancel (by decide)
 have key:∀q:Rat × Rat,Gr D B (j+1) q.1→Gr D B (j+1) q.2→q.1≤q.2→(q.2-q.1)*2≤p.2-p.1→Gr D B (j+1) (ex f q).1∧Gr D B (j+1) (ex f q).2∧((ex f q).2-(ex f q).1)*2≤p.2-p.1:=fun q a1 a2 a3 a4=>by
  unfold ex
  split
  ·exact⟨a2,a2,by show(q.2-q.2)*2≤_;grind⟩
  ·exact⟨a1,a2,a4⟩
 unfold hv
 split
 ·rename_i hh
  exact⟨h1.mono (by omega),h2.mono (by omega),by rw [hh];grind⟩
 ·split
  ·exact key (p.1,(p.1+p.2)/2) (h1.mono (by omega)) hm (by show p.1≤_;grind) (by show((p.1+p.2)/2-p.1)*2≤_;grind)
  ·exact key ((p.1+p.2)/2,p.2) hm (h2.mono (by omega)) (by show _≤p.2;grind) (by show(p.2-(p.1+p.2)/2)*2≤_;grind)
theorem afT{s n s' n' S N u:Nat}{f fb:ZX}{p q:Rat × Rat}(I:lL s n f)(I':lL s' n' fb)(T:Two S N f fb)(hS:S≤20000)(hG:aD env.P 208 [PI fb.l,PI f.l] (PI (gz fb f).l))(IG:2≤ZX.N (gz fb f) → ∃sg ng,lL sg ng (gz fb f))
  (A:jP f (vt (aR f)) p.1 p.2) (B:jP fb (vt (aR fb)) q.1 q.2) (p1:SQ u p.1) (p2:SQ u p.2) (q1:SQ u q.1) (q2:SQ u q.2) (hu:u≤2200000):aD env.P 54 [QA f (aR f) p,QA fb (aR fb) q] (.int .i64 (cu (bK f p) (bK fb q))):=by
 by_cases DH:p.1=p.2∨q.1=q.2
 ·exact afS I I' A B p1 p2 q1 q2 (by omega) DH
 obtain⟨hp,hq⟩:=not_or.1 DH
 have RZ:p.1<p.2:=by have:=A.le;grind
 have hql:q.1<q.2:=by have:=B.le;grind
 have hTn:=T.hn
 have hN1:=T.Nf
 have GM:=T.Nh
 have e1:=mZ (f:=f) (c:=aR f) p1 p2 (by omega)
 have e2:=mZ (f:=fb) (c:=aR fb) q1 q2 (by omega)
 rw [decide_eq_false hp]at e1
 rw [decide_eq_false hq]at e2
 have ⟨zv,hzv,Z⟩:∃z:Bool,(z=true↔vt (aR (gz fb f)) p.2<vt (aR (gz fb f)) p.1)∧aD env.P 133 [PI fb.l,QA f (aR f) p] (.bool z):=by
  have hg0:gz fb f≠0:=alD (.inr I.nf.ne)
  have hgN:ZX.N (gz fb f)≤ZX.N f:=(eJ fb f).r.mD I.nf.ne
  have CC:¬fb.l.length=0:=by have:=ZX.aI.1 I'.nf.ne;have:ZX.N fb=fb.l.length:=rfl;omega
  by_cases h2:2≤ZX.N (gz fb f)
  ·obtain⟨sg,ng,IGG⟩:=IG h2
   have k4:=IGG.oP p1 p2 (by omega)
   rw [if_neg (Rat.not_lt.2 (Rat.le_of_lt RZ)),cS,cS]at k4
   refine⟨_,?_,kH (by show ZX.N fb<_;omega) (by show ZX.N (gz fb f)<_;omega) e1 (fun hh=>by cases hh) hG (fun _=>IGG.w6) (fun _=>k4) (σ:=0) rfl⟩
   rw [if_neg CC,if_neg (by decide),if_neg (by show ¬ZX.N (gz fb f)<2;omega),decide_eq_true_eq]
   omega
  ·refine⟨_,?_,kH (by show ZX.N fb<_;omega) (by show ZX.N (gz fb f)<_;omega) e1 (fun hh=>by cases hh) hG (fun hh=>absurd hh h2) (fun hh=>absurd hh h2) (σ:=0) (b:=0) (cg:=[]) rfl⟩
   rw [if_neg CC,if_neg (by decide),if_pos (by show ZX.N (gz fb f)<2;omega)]
   refine⟨fun hh=>absurd hh (by decide),fun hh=>?_⟩
   exfalso
   have:gz fb f=1:=(BU (.inr I.nf.ne)).N1 (by omega)
   rw [this]at hh
   have hS1:=sP ZX.oI (fun d h1 h2=>by have:=h1.mD ZX.oI;rwa [ZX.r9]at this) (by rw [ZX.r9];omega)
   have:=hS1.const RZ (σ:=1) (.inr (by rw [I5];decide)) (fun x _ _=>by rw [I5];decide)
   omega
 have r1:=I.w7 A p1 p2 q1 (by omega)
 have r2:=I.w7 A p1 p2 q2 (by omega)
 obtain⟨D,C2,xC,g1,g2⟩:=B8 p1 p2
 obtain⟨D',V0,V1,g1',g2'⟩:=B8 q1 q2
 have hK:=avY (s:=S) (β:=u) hTn
 have av1:∀r:Rat × Rat,Ab r.1 (2^u)→Ab r.2 (2^u)→r.2-r.1≤2^(u+1):=fun r ⟨a1,a2⟩ ⟨a3,a4⟩=>by rw [Rat.pow_succ];grind
 obtain⟨J,hJ⟩:∃J,J=kc S N u+u+2:=⟨_,rfl⟩
 have hJ2:u+1+2*u+J+1≤1000000000:=by omega
 have sqA:∀(D:Nat),1≤D→D≤2^(2*u) → ∀(j:Nat) (r:Rat),j≤J→Gr D (2^u) j r→SQ (u+1+2*u+J+1) r:=fun D h1 h2 j r hj hr=>((hr.mono hj).sq h1 h2).mono (by omega)
 have sqS:∀(D:Nat),1≤D→D≤2^(2*u) → ∀(j:Nat) (r r':Rat),j≤J→Gr D (2^u) j r→Gr D (2^u) j r'→SQ (u+1+2*u+J+1) (r+r'):=fun D h1 h2 j r r' hj hr jR=>(((hr.add jR).mono hj).sq h1 h2)
 by_cases qH:∀x,bK f p x↔bK fb q x
 ·-- aBb are one
  have hz:zv=true:=hzv.2 (abL T A B RZ qH)
  subst hz
  have c1:cr (bK f p) q.1=1:=rQ.2 fun hh=>B.gU (.inr ⟨rfl,hql⟩) ((qH _).1 hh)
  have c2:cr (bK f p) q.2≤0:=by
   rcases yZ (bK f p) q.2 with hh | hh | hh
   ·omega
   ·omega
   ·exact absurd ((qH _).2 eO) (rQ.1 hh)
  rw [c1]at r1
  rw [ZI.2 qH,sF,sF]
  rw [sF]at Z e1 e2 r1 r2
  rw [cS]at r1 r2
  generalize cr (bK f p) q.2=r at *
  simp only [gB]at Z e1 e2 r1 r2 ⊢
  refine b6 [(0, .ag (gB f.l (aR f) p.1.num p.1.den p.2.num p.2.den)),(1, .ag (gB fb.l (aR fb) q.1.num q.1.den q.2.num q.2.den))] Tryz.func54 ?_
  refine aA [2,3] ?_
  refine W.seq ?_
  refine aJ [2,3,6] e1 ?_
  refine bF ?_ ?_<;>intro h
  ·simp at h
  refine W.skip ?_
  refine W.seq ?_
  refine aJ [2,3,13] e2 ?_
  refine bF ?_ ?_<;>intro h
  ·simp at h
  refine W.skip ?_
  refine W.gJ (fun σ=>False) ?_ (fun _ hh=>hh.elim)
  refine aJ [2,3,21] Z ?_
  refine bF ?_ ?_<;>intro h
  ·refine iM ?_
   refine bW r1 ?_
   refine aB r2 ?_
   simp (disch:=omega) [gw,c2]
   refine bN [2,3,33] ?_
   refine bF ?_ ?_<;>intro h
   ·refine aA [4] ?_
    exact b7
   ·simp at h
  ·simp at h
 ·-- aBb are two
  have xG:zv=true→¬(0<cr (bK f p) q.1∧cr (bK f p) q.2≤0):=fun hz ⟨c1,c2⟩=>qH (abK T A B RZ hql (by
   rcases yZ (bK f p) q.1 with hh | hh | hh
   ·omega
   ·omega
   ·exact rQ.1 hh) (Classical.byContradiction fun hh=>by have:=rQ.2 hh;omega) (hzv.1 hz))
  have hsw:¬ ∀x,gM (vt (aR f)) p.1 p.2 x↔gM (vt (aR fb)) q.1 q.2 x:=qH
  rw [sF,sF]
  rw [sF]at Z e1 e2 r1 r2
  rw [cS]at r1 r2
  generalize hv1:cr (bK f p) q.1=x1 at *
  generalize hv2:cr (bK f p) q.2=x2 at *
  clear hv1 hv2
  simp only [gB]at Z e1 e2 r1 r2 ⊢
  refine b6 [(0, .ag (gB f.l (aR f) p.1.num p.1.den p.2.num p.2.den)),(1, .ag (gB fb.l (aR fb) q.1.num q.1.den q.2.num q.2.den))] Tryz.func54 ?_
  refine aA [2,3] ?_
  refine W.seq ?_
  refine aJ [2,3,6] e1 ?_
  refine bF ?_ ?_<;>intro h
  ·simp at h
  refine W.skip ?_
  refine W.seq ?_
  refine aJ [2,3,13] e2 ?_
  refine bF ?_ ?_<;>intro h
  ·simp at h
  refine W.skip ?_
  refine W.gJ (fun σ=>∃(v2 v3:Nat) (rows:Pm.Rows) (clk:Nat),σ=⟨fa [(2, .ptr 2 v2 0 0),(3, .ptr 3 v3 0 0)],rows,clk⟩∧rows 2=some ⟨v2,49,10,[gB f.l (aR f) p.1.num p.1.den p.2.num p.2.den]⟩∧rows 3=some ⟨v3,49,10,[gB fb.l (aR fb) q.1.num q.1.den q.2.num q.2.den]⟩) ?_ ?_
  ·refine aJ [2,3,21] Z ?_
   refine bF ?_ ?_<;>intro h
   ·have hc:=xG h
    by_cases hx1:0<x1
    ·have hx2:¬x2≤0:=fun hh=>hc ⟨hx1,hh⟩
     refine iM ?_
     refine aB r1 ?_
     simp (disch:=omega) [gw,hx1]
     refine aB r2 ?_
     simp (disch:=omega) [gw,hx2]
     refine bN [2,3,33] ?_
     refine bF ?_ ?_<;>intro h
     ·simp at h
     ·refine W.skip ?_
      exact⟨_,aC _ [2,3],_,_,_,_,rfl,by simp,by simp⟩
    ·refine iM ?_
     refine aB r1 ?_
     simp (disch:=omega) [gw,hx1]
     refine bN [2,3,33] ?_
     refine bF ?_ ?_<;>intro h
     ·simp at h
     ·refine W.skip ?_
      exact⟨_,aC _ [2,3],_,_,_,_,rfl,by simp,by simp⟩
   ·refine W.skip ?_
    exact⟨_,aC _ [2,3],_,_,_,_,rfl,by simp,by simp⟩
  rintro _ ⟨v2,v3,rows,clk,rfl,cC,cM⟩
  clear Z e1 e2 r1 r2
  refine W.block ?_
  refine W.bE (fun k σ=>∃(a b:Rat × Rat) (j v2 v3:Nat) (rows:Pm.Rows) (clk:Nat),σ=⟨fa [(2, .ptr 2 v2 0 0),(3, .ptr 3 v3 0 0)],rows,clk⟩∧rows 2=some ⟨v2,49,10,[gB f.l (aR f) a.1.num a.1.den a.2.num a.2.den]⟩∧rows 3=some ⟨v3,49,10,[gB fb.l (aR fb) b.1.num b.1.den b.2.num b.2.den]⟩ ∧
   jP f (vt (aR f)) a.1 a.2∧jP fb (vt (aR fb)) b.1 b.2∧(∀x,bK f a x↔bK f p x)∧(∀x,bK fb b x↔bK fb q x)∧Gr D (2^u) j a.1∧Gr D (2^u) j a.2∧Gr D' (2^u) j b.1∧Gr D' (2^u) j b.2∧(a.2-a.1)*2^j≤2^(u+1)∧(b.2-b.1)*2^j≤2^(u+1)∧j+k=J) J ?_ ?_
  ·exact⟨_, .refl,p,q,0,_,_,_,_,rfl,cC,cM,A,B,fun _=>Iff.rfl,fun _=>Iff.rfl,g1,g2,g1',g2',by rw [Rat.pow_zero,Rat.mul_one];exact av1 p g1.b g2.b,by rw [Rat.pow_zero,Rat.mul_one];exact av1 q g1'.b g2'.b,by omega⟩
  rintro k _ ⟨a,b,j,v2,v3,rows,clk,rfl,cC,cM,HA,HB,ha,hb,ga1,ga2,gb1,gb2,wa,wb,hjk⟩
  have s1:=sqA D C2 xC j a.1 (by omega) ga1
  have s2:=sqA D C2 xC j a.2 (by omega) ga2
  have s3:=sqA D' V0 V1 j b.1 (by omega) gb1
  have s4:=sqA D' V0 V1 j b.2 (by omega) gb2
  have e1:=mZ (f:=f) (c:=aR f) s1 s2 hJ2
  have e2:=mZ (f:=fb) (c:=aR fb) s3 s4 hJ2
  rw [sF]at e1 e2
  simp only [gB]at e1 e2 cC cM
  refine W.block ?_
  refine W.seq ?_
  by_cases DH:a.1=a.2∨b.1=b.2
  ·have C:=afS I I' HA HB s1 s2 s3 s4 hJ2 DH
   rw [lI ha hb,sF,sF]at C
   simp only [gB]at C
   by_cases h1:a.1=a.2
   ·rw [decide_eq_true h1]at e1
    refine W.sr ?_
    simp (disch:=omega) [gw,cC]
    refine bU [2,3,39] e1 ?_
    refine bF ?_ ?_<;>intro h
    ·refine W.sr ?_
     simp (disch:=omega) [gw,cC,cM]
     refine bU [4] C ?_
     exact b7
    ·simp at h
   ·rw [decide_eq_false h1]at e1
    rw [decide_eq_true (DH.resolve_left h1)]at e2
    refine W.sr ?_
    simp (disch:=omega) [gw,cC,cM]
    refine aB e1 ?_
    simp (disch:=omega) [gw,cC,cM]
    refine bU [2,3,39] e2 ?_
    refine bF ?_ ?_<;>intro h
    ·refine W.sr ?_
     simp (disch:=omega) [gw,cC,cM]
     refine bU [4] C ?_
     exact b7
    ·simp at h
  ·obtain⟨h1,h2⟩:=not_or.1 DH
   rw [decide_eq_false h1]at e1
   rw [decide_eq_false h2]at e2
   have hal:a.1<a.2:=by have:=HA.le;grind
   have hbl:b.1<b.2:=by have:=HB.le;grind
   have m1:=mR a.2 b.1 (s2.yy hJ2) (s3.yy hJ2)
   have m2:=mR b.2 a.1 (s4.yy hJ2) (s1.yy hJ2)
   rw [cS,cS]at m1 m2
   refine W.sr ?_
   simp (disch:=omega) [gw,cC,cM]
   refine aB e1 ?_
   simp (disch:=omega) [gw,cC,cM]
   refine bU [2,3,39] e2 ?_
   refine bF ?_ ?_<;>intro h
   ·simp at h
   refine W.skip ?_
   refine W.seq ?_
   refine W.sr ?_
   simp (disch:=omega) [gw,cC,cM]
   refine bU [2,3,48] m1 ?_
   refine bF ?_ ?_<;>intro h
   ·simp at h
    rw [jN]at h
    have hcu:cu (bK f p) (bK fb q) = -1:=by rw [←lI ha hb];exact avW HB h hbl
    rw [hcu]
    refine aA [4] ?_
    exact b7
   ·simp at h
    rw [←Int.not_le,jN]at h
    have gW:=Rat.not_le.1 h
    refine W.skip ?_
    refine W.seq ?_
    refine W.sr ?_
    simp (disch:=omega) [gw,cC,cM]
    refine bU [2,3,54] m2 ?_
    refine bF ?_ ?_<;>intro h
    ·simp at h
     rw [jN]at h
     have hcu:cu (bK f p) (bK fb q)=1:=by rw [←lI ha hb];exact avX HA HB h hal
     rw [hcu]
     refine aA [4] ?_
     exact b7
    ·simp at h
     rw [←Int.not_le,jN]at h
     have hba:=Rat.not_le.1 h
     have hk:k≠0:=fun zI=>by
      have hjJ:j=J:=by omega
      refine qH fun x=>?_
      have hP:=fA j
      have hW:∀w:Rat,w*2^j≤2^(u+1)→w≤2^(u+1)/2^j:=fun w hw=>Rat.not_lt.1 fun c8=>by
       have e0:(2:Rat)^(u+1)/2^j*2^j=2^(u+1):=Rat.div_mul_cancel (Rat.ne_of_gt hP)
       have:=Rat.mul_lt_mul_of_pos_right c8 hP
       grind
      have:=abJ (W:=2^(u+1)/2^j) T HA HB hal hbl hba gW ga1.b ga2.b gb1.b gb2.b (hW _ wa) (hW _ wb) (by
       have e0:(2:Rat)^(u+1)/2^j*2^j=2^(u+1):=Rat.div_mul_cancel (Rat.ne_of_gt hP)
       have e3:(2:Rat)^j=2^kc S N u*2^(u+2):=by rw [←pR,hjJ,hJ];congr 1
       have e4:(2:Rat)^(u+2)=2^(u+1)*2:=by rw [←Rat.pow_succ]
       have hQ:=fA (kc S N u)
       have hR:=fA (u+1)
       rw [e4]at e3
       generalize (2:Rat)^(u+1)/2^j=W at *
       rw [e3]at e0
       generalize (2:Rat)^kc S N u=κ at *
       generalize (2:Rat)^(u+1)=R at *
       have e5:R*(2*W*κ)=R*1:=by grind
       have e6:=Rat.le_of_mul_le_mul_left (show R*(2*W*κ)≤R*1 by rw [e5];exact Rat.le_refl) hR
       exact e6) x
      exact(ha x).symm.trans (this.trans (hb x))
     obtain⟨k',rfl⟩:∃k',k=k'+1:=⟨k-1,by omega⟩
     have ma:=ga1.GK ga2
     have mb:=gb1.GK gb2
     have H1:=I.afQ (u:=u+1+2*u+J+1) (Rat.le_of_lt hal) s1 s2 (sqA D C2 xC (j+1) _ (by omega) ma) (sqS D C2 xC j _ _ (by omega) ga1 ga2) hJ2
     have H2:=I'.afQ (u:=u+1+2*u+J+1) (Rat.le_of_lt hbl) s3 s4 (sqA D' V0 V1 (j+1) _ (by omega) mb) (sqS D' V0 V1 j _ _ (by omega) gb1 gb2) hJ2
     obtain⟨ha1,ha2⟩:=ZN HA
     obtain⟨J6,zP⟩:=ZN HB
     obtain⟨ga3,ga4,wa'⟩:=al0 (f:=f) ga1 ga2 (Rat.le_of_lt hal)
     obtain⟨gb3,gb4,wb'⟩:=al0 (f:=fb) gb1 gb2 (Rat.le_of_lt hbl)
     rw [sF,sF]at H1 H2
     simp only [gB]at H1 H2
     have hwd:∀w w':Rat,w*2^j≤2^(u+1)→w'*2≤w→w'*2^(j+1)≤2^(u+1):=fun w w' g1 g2=>by
      have hP:=fA j
      have g3:=Rat.mul_le_mul_of_nonneg_right g2 (Rat.le_of_lt hP)
      rw [Rat.pow_succ]
      grind
     have wa2:=hwd _ _ wa wa'
     have wb2:=hwd _ _ wb wb'
     have ha3:∀x,bK f (hv f a) x↔bK f p x:=fun x=>(ha2 x).trans (ha x)
     have hb3:∀x,bK fb (hv fb b) x↔bK fb q x:=fun x=>(zP x).trans (hb x)
     generalize hv f a=a' at *
     generalize hv fb b=b' at *
     refine W.skip ?_
     refine W.H7 (fun K hK=>?_)
     simp (disch:=omega) [gw,cC,cM]
     refine aB H1 ?_
     simp (disch:=omega) [gw,cC,cM]
     refine aB H2 ?_
     (try (refine a9 (of_decide_eq_true (by kernel_rfl)) ?_));(try simp (maxSteps:=4000000) (disch:=omega) [gw,cC,cM,gR]);(repeat rw [if_pos (by kernel_rfl)]);(try simp (maxSteps:=4000000) (disch:=omega) [gw,cC,cM,gR])
     (try (refine a9 (of_decide_eq_true (by kernel_rfl)) ?_));(try simp (maxSteps:=4000000) (disch:=omega) [gw,cC,cM,gR]);(repeat rw [if_pos (by kernel_rfl)]);(try simp (maxSteps:=4000000) (disch:=omega) [gw,cC,cM,gR])
     (try (refine a9 (of_decide_eq_true (by kernel_rfl)) ?_));(try simp (maxSteps:=4000000) (disch:=omega) [gw,cC,cM,gR]);(repeat rw [if_pos (by kernel_rfl)]);(try simp (maxSteps:=4000000) (disch:=omega) [gw,cC,cM,gR])
     refine hK _ ⟨k',_,aC _ [2,3],by omega,a',b',j+1,_,_,_,_,rfl,by simp,by simp,ha1,J6,ha3,hb3,ga3,ga4,gb3,gb4,wa2,wb2,by omega⟩
theorem ajz{f:ZX}(nf:Nf f):gz f f=f:=by
 have h:sK f f f:=⟨dv.refl f,dv.refl f,⟨1,by decide,1,0,by show(1:ZX)*f=_;grind⟩⟩
 rw [QJ h,nf.nfe]
namespace lL
variable {s n:Nat} {f:ZX} (I:lL s n f)
include I
theorem two:Two s n f f:=⟨I.nf,I.nf,I.DC,I.DC,I.szf,I.szf,I.ch.bz.N,I.ch.bz.N,I.ch.hn,I.lay.hs⟩
theorem ajA:aD env.P 208 [PI f.l,PI f.l] (PI (gz f f).l):=by
 have hC:=I.lay.hC
 have hn:=I.ch.hn
 have hq:s+n+1≤qb s n:=by
  unfold qb
  have:=I.lT
  have:1*(2*s+5)≤n*(2*s+5):=Nat.mul_le_mul_right _ I.lT
  have hh:=I.lay.hs
  have h2:n<2^s:=by omega
  have h3:n≤n*(2*s+5):=Nat.le_mul_of_pos_right _ (by omega)
  have h4:n*(2*s+5)=n*(2*s)+n*5:=Nat.mul_add _ _ _
  omega
 refine AF (C:=4500000000) I.ch.bz I.ch.bz ?_ hn (by decide) I.s1
 rw [I.nf.nfe]
 unfold BX
 rw [if_neg (by omega)]
 have h4:(4:Nat)^ZX.N f≤4^n:=Nat.pow_le_pow_right (by decide) I.ch.bz.N
 refine Nat.le_trans (Nat.mul_le_mul (show (s+n+1)*2≤qb s n+n+6 by unfold qb at *;have:=I.lay.hs;have h5:1*(2*s+5)≤n*(2*s+5):=Nat.mul_le_mul_right _ I.lT;have h3:n*5≤n*(2*s+5):=Nat.mul_le_mul_left _ (by omega);omega) h4) hC
theorem cmp(hs:s≤20000){u:Nat}{p q:Rat × Rat}(A:jP f (vt (aR f)) p.1 p.2)(B:jP f (vt (aR f)) q.1 q.2)(p1:SQ u p.1)(p2:SQ u p.2)(q1:SQ u q.1)(q2:SQ u q.2)(hu:u≤2200000):aD env.P 54 [QA f (aR f) p,QA f (aR f) q] (.int .i64 (cu (bK f p) (bK f q))):=
 afT I I I.two hs I.ajA (fun _=>⟨s,n,by rw [ajz I.nf];exact I⟩) A B p1 p2 q1 q2 hu
end lL
theorem apL{s n:Nat}{a:ZX}(h:sM s n a)(h0:a≠0)(lT:1≤n)(hC:(qb (qb s n) n+n+6)*4^n≤4500000000)(hs:qb s n≤5000000):lL (qb s n) n (sq a):=by
 have h1:=(B6 h0).1
 refine⟨⟨h.sqb h0,h.hn,?_,hC⟩,lT,h1,MM h1 fun d d1 d2=>?_,hs⟩
 ·exact Nat.le_trans h.hs (Nat.pow_le_pow_right (by decide) (by unfold qb;omega))
 ·have h3:=(eJ (sq a) (b9 (sq a))).least d1 d2
  rw [ZD h0]at h3
  have:=h3.mD ZX.oI
  rwa [ZX.r9]at this
theorem F7{f:ZX}{c:List ZX}{l m:List (Rat × Rat)}(hl:l.length=m.length)(GJ:l.length<1000000)(hv:∀i,i<l.length→aD env.P 131 [GA f (nth l i)] (.bool true)∧aD env.P 21 [GA f (nth l i)] (QA f c (ex f (nth l i)))∧aD env.P 54 [QA f c (ex f (nth l i)),QA f c (nth m i)] (.int .i64 0)) :
  aD env.P 52 [aG (ga f) l,aG (qa f c) m] (.bool true):=by
 refine b6 [(0,aG (ga f) l),(1,aG (qa f c) m)] Tryz.func52 ?_
 refine cB [0,1] ?_
 have e1:((l.length:Int) != (m.length:Int))=false:=by rw [hl];simp
 refine W.sr ?_
 simp (disch:=omega) [gw,e1]
 refine bN [0,1,10] ?_
 refine bF ?_ ?_<;>intro h
 ·simp at h
 refine W.skip ?_
 refine aM [0,1,12,13] ?_
 refine W.block ?_
 refine W.bE (fun k σ=>∃(i:Nat) (rows:Pm.Rows) (clk:Nat),σ=⟨fa [(0,aG (ga f) l),(1,aG (qa f c) m),(12, .int .i64 l.length),(13, .int .i64 i)],rows,clk⟩∧i+k=l.length) l.length ?_ ?_
 ·exact⟨_, .refl,0,_,_,rfl,by omega⟩
 rintro k _ ⟨i,rows,clk,rfl,EV⟩
 refine cB [0,1,12,13,14] ?_
 refine bF ?_ ?_<;>intro h
 ·have hi:i<l.length:=by simp at h;omega
  have CR:i<m.length:=by omega
  obtain⟨v1,v2,v3⟩:=hv i hi
  simp only [GA,QA,qa,ga,List.cons_append,List.nil_append]at v1 v2 v3
  refine jV ?_
  refine aA [0,1,5,12,13] ?_
  refine W.sd ?_
  simp (disch:=omega) [gw,hi,CR]
  refine aB v1 ?_
  simp (disch:=omega) [gw,hi,CR]
  refine aB v2 ?_
  simp (disch:=omega) [gw,hi,CR]
  refine aB v3 ?_
  simp (disch:=omega) [gw,hi,CR]
  refine bN [0,1,12,13,34] ?_
  refine bF ?_ ?_<;>intro h
  ·simp at h
  ·refine W.skip ?_
   refine W.cE (fun K hK=>?_);simp (disch:=omega) [gw]
   refine hK _ ⟨k-1,_,aC _ [0,1,12,13],by omega,i+1,_,_,rfl,by omega⟩
 ·refine eV ?_
  refine aA [4] ?_
  exact b7
theorem lL.right{s n:Nat}{f:ZX}(I:lL s n f)(hs:s≤20000)(hN:2≤ZX.N f){l m:List (Rat × Rat)}(hl:l.length=m.length){u:Nat}(hu:u≤2200000)(h1:∀p∈l,jP f (vt (aR f)) p.1 p.2∧SQ u p.1∧SQ u p.2)(h2:∀p∈m,jP f (vt (aR f)) p.1 p.2∧SQ u p.1∧SQ u p.2)
  (h3:∀i,i<l.length → ∀t,bK f (nth l i) t↔bK f (nth m i) t) (GJ:l.length<1000000):aD env.P 52 [aG (ga f) l,aG (qa f (aR f)) m] (.bool true):=by
 refine F7 hl GJ fun i hi=>?_
 obtain⟨a1,a2,a3⟩:=h1 _ (bS hi)
 obtain⟨b1,b2,b3⟩:=h2 _ (bS (show i<m.length by omega))
 obtain⟨c1,c2⟩:=DF a1
 have c3:SQ u (ex f (nth l i)).1∧SQ u (ex f (nth l i)).2:=by
  unfold ex;split
  ·exact⟨a3,a3⟩
  ·exact⟨a2,a3⟩
 refine⟨I.valid a1 hN a2 a3 (by omega),I.avV a2 a3 (by omega),?_⟩
 have:=I.cmp hs c1 b1 c3.1 c3.2 b2 b3 hu
 rwa [lI (fun t=>(c2 t).trans (h3 i hi t)) (fun _=>Iff.rfl),ajv]at this
theorem V2{α β:Type}[Inhabited α][Inhabited β]{g:α→β}{l:List α}{i:Nat}(h:i<l.length):nth (l.map g) i=g (nth l i):=by
 rw [dE (by simpa using h),dE h,List.getElem_map]
theorem lL.V3{s n:Nat}{f:ZX}(I:lL s n f)(hs:s≤20000)(hN:2≤ZX.N f):aD env.P 52 [aG (ga f) (B7 s n f),aG (qa f (aR f)) ((B7 s n f).map (ex f))] (.bool true):=by
 have V:=I.ivs
 have hA:∀p∈B7 s n f,jP f (vt (aR f)) p.1 p.2∧SQ (uu s) p.1∧SQ (uu s) p.2:=fun p hp=>by
  obtain⟨a1,a2,a3,a4,a5,a6⟩:=V.mem p hp
  exact⟨⟨I.S, .inr ⟨a4,a6⟩⟩,a1,a2⟩
 refine I.right hs hN (by simp) (u:=uu s) (by unfold uu;omega) hA (fun p hp=>?_) (fun i hi t=>?_) (by have:=yX I;omega)
 ·obtain⟨p0,hp0,rfl⟩:=List.mem_map.1 hp
  obtain⟨a1,a2,a3⟩:=hA p0 hp0
  refine⟨(DF a1).1,?_,?_⟩<;>(unfold ex;split<;>assumption)
 ·rw [V2 hi]
  exact((DF (hA _ (bS hi)).1).2 t).symm
theorem abP{s n:Nat}{f:ZX}(I:lL s n f)(hN:ZX.N f≤1):B7 s n f = []:=by
 have V:=I.ivs.len
 have h1:f=1:=I.nf.N1 hN
 have h2:=I.S.const I.ZK (σ:=1) (.inr (by rw [h1,I5];decide)) (fun x _ _=>by rw [h1,I5];decide)
 rw [h2,Nat.sub_self]at V
 exact List.eq_nil_of_length_eq_zero V
theorem abQ{f:ZX}{c:List ZX}:aD env.P 52 [aG (ga f) [],aG (qa f c) []] (.bool true):=F7 rfl (by simp) fun i hi=>absurd hi (by simp)
theorem lL.RE{s n:Nat}{f:ZX}(I:lL s n f)(hs:s≤20000):aD env.P 52 [aG (ga f) (B7 s n f),aG (qa f (aR f)) ((B7 s n f).map (ex f))] (.bool true):=by
 by_cases hN:2≤ZX.N f
 ·exact I.V3 hs hN
 ·rw [abP I (by omega)]
  exact abQ
end Go.Proofs.YtelhfbikiccfkaaGreat
namespace Go.Proofs.YtelhfbikiccfkaaGreat
open Go Pm
open ZX hiding N W
abbrev G9(x:List Int)(an ad bn bd:Int):List PV:=[Po x, .bool (decide (an<0)),us (aP LL an.natAbs), .bool (decide (ad<0)),us (aP LL ad.natAbs), .bool (decide (bn<0)),us (aP LL bn.natAbs), .bool (decide (bd<0)),us (aP LL bd.natAbs)]
def JI(sg:ZX→Int):Nat→ZX→Int
 | 0,_=>0
 | k+1,p=>if sg p=0 then JI sg k (b9 p)else sg p
theorem mS{sg:ZX→Int}(h0:sg 0=0):∀k,JI sg k 0=0
 | 0=>rfl
 | k+1=>by
  have h1:b9 0=0:=rfl
  rw [JI,if_pos h0,h1,mS h0 k]
theorem V4{sg:ZX→Int}(h0:sg 0=0):∀ {k j:Nat} {p:ZX},ZX.N p≤k→ZX.N p≤j→JI sg k p=JI sg j p
 | 0,j,p,h,_=>by
  have:p=0:=Classical.byContradiction fun h0=>by have:=ZX.aI.1 h0;omega
  rw [this,mS h0,mS h0]
 | k+1,0,p,_,h=>by
  have:p=0:=Classical.byContradiction fun h0=>by have:=ZX.aI.1 h0;omega
  rw [this,mS h0,mS h0]
 | k+1,j+1,p,h1,h2=>by
  rw [JI,JI]
  have:=nG p
  rw [V4 h0 (k:=k) (j:=j) (p:=b9 p) (by omega) (by omega)]
theorem V5(g:FuncId)(hw:KU g=false)(cV:List PV)(hc:cV.all gX=true)(sg:ZX→Int)(h0:sg 0=0){s k:Nat}{p:ZX}(hp:BZ s k p)(hk:k≤31)(hs:s≤1000000)(hg:∀(q:ZX) (s':Nat),s'≤s+5*k→BZ s' k q→aD env.P g (Po q.l::cV) (.int .i64 (sg q))) :
  aD env.P 103 [Po p.l, .fn g cV] (.int .i64 (JI sg (ZX.N p) p)):=by
 have hN:=hp.N
 have N1:=fR (x:=p.l) (hp.pb (by omega) (by omega))
 rw [p.c]at N1
 obtain⟨r,hr⟩:∃r,r=JI sg (ZX.N p) p:=⟨_,rfl⟩
 rw [←hr]
 refine b6 [(0,Po p.l),(1, .fn g cV)] Tryz.func103 ?_
 refine aA [0,1] ?_
 refine W.seq ?_
 refine aJ [0,1] N1 ?_
 refine W.block ?_
 refine W.bE (fun m σ=>∃(q:ZX) (s':Nat) (rows:Pm.Rows) (clk:Nat),σ=⟨fa [(0,Po q.l),(1, .fn g cV)],rows,clk⟩∧m=ZX.N q∧BZ s' k q∧s'+5*ZX.N q≤s+5*k∧JI sg (ZX.N q) q=r) (ZX.N p) ?_ ?_
 ·exact⟨_, .refl,p,s,_,_,rfl,rfl,hp,by omega,hr.symm⟩
 rintro m _ ⟨q,s',rows,clk,rfl,rfl,bq,hsq,hq⟩
 have hNq:=bq.N
 have hNl:ZX.N q=q.l.length:=rfl
 refine aM [0,1,10] ?_
 refine bF ?_ ?_<;>intro h
 ·have SB:q≠0:=ZX.aI.2 (by show 0<q.l.length;simp at h;omega)
  have hgq:=hg q s' (by omega) bq
  have hD:=rJ bq (by omega) (by omega)
  have aBd:ZX.N (b9 q)<ZX.N q:=by have:=nG q;have:=ZX.aI.1 SB;omega
  have bd:=bq.b9 hk
  obtain⟨j,hj⟩:∃j,ZX.N q=j+1:=⟨ZX.N q-1,by have:=ZX.aI.1 SB;omega⟩
  rw [hj,JI]at hq
  generalize hv:sg q=w at *
  refine jV ?_
  refine W.sr ?_
  simp only [KU]at hw
  simp (disch:=omega) [gw,hw,hc]
  refine bU [0,1,5] hgq ?_
  refine aA [0,1,5,17] ?_
  refine bF ?_ ?_<;>intro h
  ·have hw:w≠0:=by simpa using h
   rw [if_neg hw]at hq
   subst hq
   refine aA [4] ?_
   exact b7
  ·have hw:w=0:=by simpa using h
   rw [if_pos hw]at hq
   refine W.skip ?_
   refine W.cE (fun K hK=>?_)
   simp (disch:=omega) [gw]
   refine bW hD ?_
   refine hK _ ⟨ZX.N (b9 q),_,aC _ [0,1],aBd,b9 q,s'+5,_,_,rfl,rfl,bd,by omega,?_⟩
   rw [←hq]
   exact V4 h0 (Nat.le_refl _) (by omega)
 ·have SB:q=0:=by
   refine Classical.byContradiction fun h0=>?_
   have h1:=ZX.aI.1 h0
   simp at h;rw [hNl,h]at h1;simp at h1
  subst SB
  rw [mS h0]at hq
  subst hq
  refine eV ?_
  refine aA [4] ?_
  exact b7
theorem V6{α:Type}{g:α→List PV}{l:List α}{m:Nat}{f:ZX}{L:List (Rat × Rat)}(hO:aD env.P 108 [aG g l] (Po f.l))(hR:aD env.P 19 [Po f.l] (.fE [aG (ga f) L, .int .i64 0]))(hm:m=0):aD env.P 37 [aG g l] (aG (ga f) L):=by
 refine b6 [(0,aG g l)] Tryz.func37 ?_
 refine aA [0] ?_
 refine iM ?_
 refine bW hO ?_
 refine bU [3,4] hR ?_
 refine aM [3,12] ?_
 refine bF ?_ ?_<;>intro h
 ·simp at h
 refine W.skip ?_
 refine aA [2] ?_
 exact b7
theorem V7{x:List Int}{m:List Int}{f:ZX}{c:List ZX}{L:List (Rat × Rat)}(hx:x ≠ [])(hO:aD env.P 109 [PI x] (PI f.l))(hR:aD env.P 97 [PI f.l] (aG (qa f c) L)):aD env.P 38 [PI x] (aG (qa f c) L):=by
 refine b6 [(0,PI x)] Tryz.func38 ?_
 refine aA [0] ?_
 refine aM [0,5] ?_
 refine bF ?_ ?_<;>intro h
 ·simp at h;exact absurd h hx
 refine W.skip ?_
 refine iM ?_
 refine bW hO ?_
 refine bU [2] hR ?_
 exact b7
theorem apM{a:ZX}(na:Nf a):sN (oz a) (b9 (oz a)):=fun d h1 h2=>by
 refine Classical.byContradiction fun h3=>?_
 have ho:=alI na
 have XQ:=h1.ne ho.ne
 obtain⟨p,hp,hpd⟩:=oJ _ d (Nat.le_refl _) (by omega)
 have hmu:=avl na hp
 have hpo:dv p (oz a):=hpd.trans h1
 have h4:1≤mu p (oz a):=(nE hp ho.ne).2 (by rw [show p^1=p by rw [pow_succ',fV];grind];exact hpo)
 have h5:mu p (oz a)=0+1:=by
  rw [hmu]at h4 ⊢
  omega
 obtain⟨h6,h7⟩:=AE hp ho.ne h5
 have h8:1≤mu p (b9 (oz a)):=(nE hp h6).2 (by rw [show p^1=p by rw [pow_succ',fV];grind];exact hpd.trans h2)
 omega
structure TK(a:ZX)(f:ZX)(L:List (Rat × Rat)):Prop where
 turns:aD env.P 37 [Po a.l] (aG (ga f) L)
 apN:aD env.P 38 [PI a.l] (aG (qa f (aR f)) (L.map (ex f)))
 right:aD env.P 52 [aG (ga f) L,aG (qa f (aR f)) (L.map (ex f))] (.bool true)
theorem V8{s n:Nat}{a:ZX}(h:sM s n a)(h0:a≠0)(lT:1≤n)(hC:(qb (qb s n) n+n+6)*4^n≤4500000000)(hs:qb s n≤5000000):lL (qb s n) n (oz (nf a)):=by
 have na:=jK h0
 have no:=alI na
 have hb:BZ (qb s n) n (oz (nf a)):=h.nfz.dv na no (C6 na _ _)
 exact⟨⟨hb,h.hn,Nat.le_trans h.hs (Nat.pow_le_pow_right (by decide) (by unfold qb;omega)),hC⟩,lT,no,MM no (apM na),hs⟩
theorem afW{s n:Nat}{a:ZX}(h:sM s n a)(h0:a≠0)(lT:1≤n)(hC:(qb (qb s n) n+n+6)*4^n≤4500000000)(hs:qb s n≤20000):aD env.P 37 [Po a.l] (aG (ga (oz (nf a))) (B7 (qb s n) n (oz (nf a)))):=
 have I:=V8 h h0 lT hC (by omega)
 V6 (ajf h h0) (VY I.ajx I) rfl
theorem av6{s n:Nat}{a:ZX}(h:sM s n a)(h0:a≠0)(lT:1≤n)(hC:(qb (qb s n) n+n+6)*4^n≤4500000000)(hs:qb s n≤20000)(sO:1≤s):TK a (oz (nf a)) (B7 (qb s n) n (oz (nf a))):=by
 have I:=V8 h h0 lT hC (by omega)
 exact⟨afW h h0 lT hC hs,V7 (m:=[]) (vB h0) (abl h sO h0) (F5 I.ZL I.w6 I I.s1),I.RE hs⟩
theorem afZ(q:Rat):b9 (oN q)=K (q.den:Int):=ext fun t=>by
 rw [QE,yL]
 refine U4 fun h=>⟨0,?_⟩
 rw [oN,abf,abf]
 simp only [V]
 grind
theorem DI{F:ZX}{v:Rat→Nat}(nF:Nf F)(cF:sN F (b9 F))(SF:sE F v)(hF:ZX.N F≤20){t hi:Rat}(h:t<hi)(hv:v t=v hi):∀(m:Nat) (p:ZX),ZX.N p≤m→p≠0→(∀q,rG q→min (mu q p) 1≤mu q F) → ∀s,t<s→s≤hi→e s p≠0∧cH (e s p)=cH (e hi p)
 | 0,p,hm,h0,_,_,_,_=>absurd hm (by have:=ZX.aI.1 h0;omega)
 | m+1,p,hm,h0,hmu,s,h1,h2=>by
  have hN:=ZX.aI.1 h0
  by_cases hN1:ZX.N p≤1
  ·obtain⟨c,hc,rfl⟩:=ZX.lC (x:=p) (by omega)
   rw [CN,CN]
   exact⟨fun h=>hc (Rat.intCast_eq_zero_iff.1 h),rfl⟩
  obtain⟨nf,hf⟩:=oM h0
  have hd:dv (sq p) F:=(nX nf.ne nF.ne).2 fun q hq=>by rw [hf q hq];exact hmu q hq
  obtain⟨w,S⟩:=lH (h:=sq p) nF cF
  have hg:gz F (sq p)=sq p:=Nf.tW S.ng nf fun q hq=>by
   rw [(eJ F (sq p)).mu nF.ne nf.ne hq]
   have:=(nX nf.ne nF.ne).1 hd q hq
   omega
  rw [hg]at S
  have hSN:=S.N
  have Sw:=sP S.nw.ne S.sw (by omega)
  have Sf:=sP S.ng.ne S.sg (by omega)
  have c1:=S.F6 SF Sf Sw (Rat.le_of_lt h)
  have m1:=Sf.b8 (Rat.le_of_lt h)
  have m2:=Sw.b8 (Rat.le_of_lt h)
  have m3:=Sf.b8 (Rat.le_of_lt h1)
  have m4:=Sf.b8 h2
  obtain⟨f1,f2⟩:=Sf.flat h1 (by omega)
  have f3:cH (e hi (sq p))=cH (e s (sq p)):=by
   rcases Rat.le_iff_lt_or_eq.1 h2 with h3 | h3
   ·exact(Sf.flat h3 (by omega)).2 f1
   ·rw [h3]
  obtain⟨c,hc,q,hq⟩:=u6 h0
  have SB:q≠0:=fun h=>by
   rw [h]at hq
   exact ZX.tU (ZX.sJ hc) h0 (by rw [hq];grind)
  have GM:=congrArg ZX.N hq
  rw [ZX.oH (ZX.sJ hc) h0,ZX.N_K hc,ZX.oH SB nf.ne]at GM
  have hfN:2≤ZX.N (sq p):=Nat.not_lt.1 fun h3=>by
   obtain⟨d,K5,M0⟩:=oJ _ p (Nat.le_refl _) (by omega)
   have h5:=hf d K5
   have h6:=(nE K5 h0 (k:=1)).2 (by rw [pow_succ',fV,show(1:ZX)*d=d by grind];exact M0)
   rw [nf.N1 (by omega),U6 K5]at h5
   omega
  have hqm:∀r,rG r→min (mu r q) 1≤mu r F:=fun r hr=>by
   have h3:=hmu r hr
   have h4:=congrArg (mu r) hq
   rw [wS hr (ZX.sJ hc) h0,wS hr SB nf.ne,abh hr hc]at h4
   omega
  obtain⟨q1,q2⟩:=DI nF cF SF hF h hv m q (by omega) SB hqm s h1 h2
  have hcr:(c:Rat)≠0:=fun h=>hc (Rat.intCast_eq_zero_iff.1 h)
  have g:∀x,(c:Rat)*e x p=e x q*e x (sq p):=fun x=>by rw [←CN (t:=x) c,←sC,hq,sC]
  refine⟨fun h3=>?_,?_⟩
  ·have h4:=g s
   rw [h3,Rat.mul_zero]at h4
   rcases Rat.mul_eq_zero.1 h4.symm with h5 | h5
   ·exact q1 h5
   ·exact f1 h5
  ·rw [AQ hcr (g s),AQ hcr (g hi),q2,f3]
theorem tZ(t:Rat):(oN t).l = [-t.num,(t.den:Int)]:=iZ (x:=(t.den:Int)) (by have:=t.den_nz;omega) [-t.num]
theorem ajB{x:List Int}{n d:Int}(hN:aD env.P 68 [Po x] (Po x))(hM:aD env.P 94 [T2 n d, .sl []] (T2 n d)):aD env.P 182 [.ag (G9 x n d n d)] (.ag (G9 x n d n d)):=by
 simp only [G9]
 refine b6 [(0, .ag (G9 x n d n d))] Tryz.func182 ?_
 refine aA [1,2] ?_
 refine iQ ?_
 refine bW hN ?_
 refine bW hM ?_
 refine aB hM ?_
 (try (refine a9 (of_decide_eq_true (by kernel_rfl)) ?_));(try simp (maxSteps:=4000000) (disch:=omega) [gw]);(repeat rw [if_pos (by kernel_rfl)]);(try simp (maxSteps:=4000000) (disch:=omega) [gw])
 refine bN [2] ?_
 exact b7
theorem abR{x:List Int}{n d:Int}(hc:aD env.P 90 [T2 n d,T2 n d] (.int .i64 0)):aD env.P 183 [.ag (G9 x n d n d)] (.bool true):=by
 simp only [G9]
 refine b6 [(0, .ag (G9 x n d n d))] Tryz.func183 ?_
 refine aA [1] ?_
 refine aJ [2] hc ?_
 exact b7
theorem af1{q x:List Int}{n d r:Int}(hl:q.length<1000000)(hr:q.length=0→r=0)(hq:aD env.P 68 [Po q] (Po q))(hN:aD env.P 68 [Po x] (Po x))(hM:aD env.P 94 [T2 n d, .sl []] (T2 n d))(hc:aD env.P 90 [T2 n d,T2 n d] (.int .i64 0))(hs:aD env.P 91 [Po q,T2 n d] (.int .i64 r)) :
  aD env.P 105 [Po q, .ag (G9 x n d n d)] (.int .i64 r):=by
 have k1:=ajB hN hM
 have k2:=abR (x:=x) hc
 simp only [G9]at k1 k2 ⊢
 refine b6 [(0,Po q),(1, .ag (G9 x n d n d))] Tryz.func105 ?_
 refine aA [0,3] ?_
 refine iQ ?_
 refine bW hq ?_
 refine aB k1 ?_
 (try (refine a9 (of_decide_eq_true (by kernel_rfl)) ?_));(try simp (maxSteps:=4000000) (disch:=omega) [gw]);(repeat rw [if_pos (by kernel_rfl)]);(try simp (maxSteps:=4000000) (disch:=omega) [gw])
 (try (refine a9 (of_decide_eq_true (by kernel_rfl)) ?_));(try simp (maxSteps:=4000000) (disch:=omega) [gw]);(repeat rw [if_pos (by kernel_rfl)]);(try simp (maxSteps:=4000000) (disch:=omega) [gw])
 refine bN [0,3] ?_
 refine W.seq ?_
 by_cases h0:q.length=0
 ·rw [hr h0]
  refine aA [0,3,14] ?_
  refine bF ?_ ?_<;>intro h
  ·refine aA [4] ?_
   exact b7
  ·simp at h;exact absurd (List.eq_nil_of_length_eq_zero h0) h
 ·refine aA [0,3,14] ?_
  refine bF ?_ ?_<;>intro h
  ·simp at h;rw [h]at h0;exact absurd rfl h0
  refine W.skip ?_
  refine W.seq ?_
  refine aJ [0,3,16] k2 ?_
  refine bF ?_ ?_<;>intro h
  ·refine aJ [4] hs ?_
   exact b7
  ·simp at h
theorem abS{x:List Int}{an ad bn bd:Int}(hN:aD env.P 68 [Po x] (Po x))(h1:aD env.P 94 [T2 an ad, .sl []] (T2 an ad))(h2:aD env.P 94 [T2 bn bd, .sl []] (T2 bn bd)):aD env.P 182 [.ag (G9 x an ad bn bd)] (.ag (G9 x an ad bn bd)):=by
 simp only [G9]
 refine b6 [(0, .ag (G9 x an ad bn bd))] Tryz.func182 ?_
 refine aA [1,2] ?_
 refine iQ ?_
 refine bW hN ?_
 refine bW h1 ?_
 refine aB h2 ?_
 (try (refine a9 (of_decide_eq_true (by kernel_rfl)) ?_));(try simp (maxSteps:=4000000) (disch:=omega) [gw]);(repeat rw [if_pos (by kernel_rfl)]);(try simp (maxSteps:=4000000) (disch:=omega) [gw])
 refine bN [2] ?_
 exact b7
theorem w8{x:List Int}{an ad bn bd z:Int}(hc:aD env.P 90 [T2 an ad,T2 bn bd] (.int .i64 z)):aD env.P 183 [.ag (G9 x an ad bn bd)] (.bool (decide (0≤z))):=by
 simp only [G9]
 refine b6 [(0, .ag (G9 x an ad bn bd))] Tryz.func183 ?_
 refine aA [1] ?_
 refine aJ [2] hc ?_
 exact b7
theorem af2{q q':List Int}{n d s s':Int}(h1:aD env.P 91 [Po q,T2 n d] (.int .i64 s))(h2:aD env.P 89 [Po q] (Po q'))(h3:aD env.P 91 [Po q',T2 n d] (.int .i64 s')):aD env.P 236 [Po q,T2 n d] (.int .i64 (if s=0 then s' else s)):=by
 refine b6 [(0,Po q),(1,T2 n d)] Tryz.func236 ?_
 refine aA [0,3] ?_
 refine W.seq ?_
 refine aJ [0,3,5] h1 ?_
 by_cases h0:s=0
 ·rw [if_pos h0]
  refine aA [0,3,5,10] ?_
  refine bF ?_ ?_<;>intro h
  ·simp at h;exact absurd h0 h
  refine W.skip ?_
  refine iQ ?_
  refine bW h2 ?_
  refine bU [4] h3 ?_
  exact b7
 ·rw [if_neg h0]
  refine aA [0,3,5,10] ?_
  refine bF ?_ ?_<;>intro h
  ·refine aA [4] ?_
   exact b7
  ·simp at h;exact absurd h h0
theorem af3{q:List Int}{an ad bn bd s w:Int}(h1:aD env.P 91 [Po q,T2 bn bd] (.int .i64 s))(h2:aD env.P 236 [Po q,T2 an ad] (.int .i64 w)):aD env.P 185 [Po q,T2 an ad,T2 bn bd] (.bool (decide (s=0∨s≠w))):=by
 refine b6 [(0,Po q),(1,T2 an ad),(2,T2 bn bd)] Tryz.func185 ?_
 refine aA [0,4,5] ?_
 refine aJ [0,4,7] h1 ?_
 by_cases h0:s=0
 ·subst h0
  refine aA [6] ?_
  exact b7
 ·have hb:(s==0)=false:=by simpa using h0
  refine W.sr ?_
  simp (disch:=omega) [gw,hb]
  refine aB h2 ?_
  simp (disch:=omega) [gw,hb]
  refine bN [6] ?_
  refine W.ret ?_
  simp [go,h0]
  by_cases hsw:s=w<;>simp [hsw]
theorem V9{x:List Int}{an ad bn bd tn td r:Int}(hp:aD env.P 183 [.ag (G9 x an ad bn bd)] (.bool true))(hc:aD env.P 90 [T2 an ad,T2 tn td] (.int .i64 r)):aD env.P 205 [.ag (G9 x an ad bn bd),T2 tn td] (.int .i64 r):=by
 simp only [G9]at *
 refine b6 [(0, .ag (G9 x an ad bn bd)),(1,T2 tn td)] Tryz.func205 ?_
 refine cB [2,3] ?_
 refine W.block ?_
 refine aJ [2,3,6] hp ?_
 refine bF ?_ ?_<;>intro h
 ·refine aJ [4] hc ?_
  exact b7
 ·simp at h
theorem uA{x:List Int}{an ad bn bd tn td z1 z2 s w r:Int}(hp:aD env.P 183 [.ag (G9 x an ad bn bd)] (.bool false))(h1:aD env.P 90 [T2 tn td,T2 an ad] (.int .i64 z1))(h2:aD env.P 90 [T2 tn td,T2 bn bd] (.int .i64 z2))(h3:aD env.P 91 [Po x,T2 tn td] (.int .i64 s))(h4:aD env.P 236 [Po x,T2 an ad] (.int .i64 w))
  (hr:r=if z1≤0 then 1 else if 0<z2 then -1 else if s=0 then 0 else if s=w then 1 else -1):aD env.P 205 [.ag (G9 x an ad bn bd),T2 tn td] (.int .i64 r):=by
 simp only [G9]at *
 refine b6 [(0, .ag (G9 x an ad bn bd)),(1,T2 tn td)] Tryz.func205 ?_
 refine cB [2,3] ?_
 refine W.block ?_
 refine aJ [2,3,6] hp ?_
 refine bF ?_ ?_<;>intro h
 ·simp at h
 refine aJ [2,3,13] h1 ?_
 refine bF ?_ ?_<;>intro h
 ·have h0:z1≤0:=by simpa using h
  rw [if_pos h0]at hr;subst hr
  refine aA [4] ?_
  exact b7
 have h0:¬z1≤0:=by simpa using h
 rw [if_neg h0]at hr
 refine aJ [2,3,19] h2 ?_
 refine bF ?_ ?_<;>intro h
 ·have h0:0<z2:=by simpa using h
  rw [if_pos h0]at hr;subst hr
  refine aA [4] ?_
  exact b7
 have h0:¬0<z2:=by simpa using h
 rw [if_neg h0]at hr
 refine W.skip ?_
 refine aJ [2,5] h3 ?_
 refine W.seq ?_
 refine W.block ?_
 refine aA [2,5,29] ?_
 refine bF ?_ ?_<;>intro h
 ·have h0:s=0:=by simpa using h
  rw [if_pos h0]at hr;subst hr
  refine aA [4] ?_
  exact b7
 have h0:¬s=0:=by simpa using h
 rw [if_neg h0]at hr
 refine aJ [32] h4 ?_
 refine bF ?_ ?_<;>intro h
 ·have h0:s=w:=by simpa using h
  rw [if_pos h0]at hr;subst hr
  refine aA [4] ?_
  exact b7
 ·have h0:¬s=w:=by simpa using h
  rw [if_neg h0]at hr;subst hr
  refine W.skip ?_
  refine aA [4] ?_
  exact b7
theorem af4{x:List Int}{an ad bn bd:Int}(hp:aD env.P 183 [.ag (G9 x an ad bn bd)] (.bool true)):aD env.P 187 [.ag (G9 x an ad bn bd)] (.ag (G9 x an ad bn bd)):=by
 simp only [G9]at *
 refine b6 [(0, .ag (G9 x an ad bn bd))] Tryz.func187 ?_
 refine aA [1,2] ?_
 refine W.seq ?_
 refine aJ [1,2,5] hp ?_
 refine bF ?_ ?_<;>intro h
 ·refine aA [2] ?_
  exact b7
 ·simp at h
theorem abT{x:List Int}{an ad bn bd mn md c:Int}(hp:aD env.P 183 [.ag (G9 x an ad bn bd)] (.bool false))(hm:aD env.P 95 [T2 an ad,T2 bn bd] (T2 mn md))(hc:aD env.P 205 [.ag (G9 x an ad bn bd),T2 mn md] (.int .i64 c)) :
  aD env.P 187 [.ag (G9 x an ad bn bd)] (.ag (if c=0 then G9 x mn md mn md else if c = -1 then G9 x an ad mn md else G9 x mn md bn bd)):=by
 simp only [G9]at *
 refine b6 [(0, .ag (G9 x an ad bn bd))] Tryz.func187 ?_
 refine aA [1,2] ?_
 refine W.seq ?_
 refine aJ [1,2,5] hp ?_
 refine bF ?_ ?_<;>intro h
 ·simp at h
 refine W.skip ?_
 refine aJ [1,2,3] hm ?_
 refine W.gJ (fun σ=>∃(v1 v2:Nat) (rows:Pm.Rows) (clk:Nat),σ=⟨fa [(1, .ptr 1 v1 0 0),(2, .ptr 2 v2 0 0)],rows,clk⟩∧rows 1=some ⟨v1,54,9,[if c=0 then G9 x mn md mn md else if c = -1 then G9 x an ad mn md else G9 x mn md bn bd]⟩∧rows 2=some ⟨v2,54,9,[[.nil, .bool false, .nil, .bool false, .nil, .bool false, .nil, .bool false, .nil]]⟩) ?_ ?_
 ·refine aJ [1,2,3,14] hc ?_
  refine W.block ?_
  refine aA [1,2,3,14,17] ?_
  refine bF ?_ ?_<;>intro h
  ·have h0:c=0:=by simpa using h
   rw [if_pos h0]
   refine W.H7 (fun K hK=>?_)
   simp (disch:=omega) [gw]
   (try (refine a9 (of_decide_eq_true (by kernel_rfl)) ?_));(try simp (maxSteps:=4000000) (disch:=omega) [gw]);(repeat rw [if_pos (by kernel_rfl)]);(try simp (maxSteps:=4000000) (disch:=omega) [gw])
   (try (refine a9 (of_decide_eq_true (by kernel_rfl)) ?_));(try simp (maxSteps:=4000000) (disch:=omega) [gw]);(repeat rw [if_pos (by kernel_rfl)]);(try simp (maxSteps:=4000000) (disch:=omega) [gw])
   (try (refine a9 (of_decide_eq_true (by kernel_rfl)) ?_));(try simp (maxSteps:=4000000) (disch:=omega) [gw]);(repeat rw [if_pos (by kernel_rfl)]);(try simp (maxSteps:=4000000) (disch:=omega) [gw])
   exact hK _ ⟨_,aC _ [1,2],_,_,_,_,rfl,by simp,by simp⟩
  have h0:¬c=0:=by simpa using h
  rw [if_neg h0]
  refine aA [1,2,3,23] ?_
  refine bF ?_ ?_<;>intro h
  ·have h0:c = -1:=by simpa using h
   rw [if_pos h0]
   refine W.cE (fun K hK=>?_);simp (disch:=omega) [gw]
   exact hK _ ⟨_,aC _ [1,2],_,_,_,_,rfl,by simp,by simp⟩
  ·have h0:¬c = -1:=by simpa using h
   rw [if_neg h0]
   refine W.cE (fun K hK=>?_);simp (disch:=omega) [gw]
   exact hK _ ⟨_,aC _ [1,2],_,_,_,_,rfl,by simp,by simp⟩
 rintro _ ⟨v1,v2,rows,clk,rfl,uJ,cC⟩
 by_cases h0:c=0
 ·rw [if_pos h0]at uJ ⊢
  refine W.sr ?_
  simp (disch:=omega) [gw,uJ,cC]
  refine bN [2] ?_
  exact b7
 ·rw [if_neg h0]at uJ ⊢
  by_cases h1:c = -1
  ·rw [if_pos h1]at uJ ⊢
   refine W.sr ?_
   simp (disch:=omega) [gw,uJ,cC]
   refine bN [2] ?_
   exact b7
  ·rw [if_neg h1]at uJ ⊢
   refine W.sr ?_
   simp (disch:=omega) [gw,uJ,cC]
   refine bN [2] ?_
   exact b7
end Go.Proofs.YtelhfbikiccfkaaGreat
