import Derived.Test.YtiobceocpabjdaaGreatOam
import Derived.Test.YtiobceocpabjdaaGreatOao
set_option linter.unusedSimpArgs false
set_option linter.unusedVariables false
namespace Pm
namespace ZX
theorem D9:∀l:List Int,∃s:Nat,∀c∈l,c.natAbs≤2^s
 | []=>⟨0,fun c hc=>by cases hc⟩
 | a::l=>by
  obtain⟨s,h⟩:=D9 l
  refine⟨s+a.natAbs,fun c hc=>?_⟩
  rcases List.mem_cons.1 hc with rfl | hc
  ·have h1:c.natAbs<2^c.natAbs:=Nat.lt_two_pow_self
   exact Nat.le_trans (Nat.le_of_lt h1) (Nat.pow_le_pow_right (by decide) (by omega))
  ·exact Nat.le_trans (h c hc) (Nat.pow_le_pow_right (by decide) (by omega))
theorem O7(B:Rat):∃β:Nat,B≤2^β:=by
 have h1:=Rat.lt_floor_add_one B
 refine⟨(B.floor+1).toNat,Rat.le_trans (Rat.le_of_lt h1) ?_⟩
 have h2:((2^(B.floor+1).toNat:Int):Rat)=2^(B.floor+1).toNat:=by rw [Rat.intCast_pow];rfl
 rw [←h2]
 refine Rat.intCast_le_intCast.2 ?_
 have h3:(B.floor+1).toNat<2^(B.floor+1).toNat:=Nat.lt_two_pow_self
 have h4:((2^(B.floor+1).toNat:Nat):Int)=2^(B.floor+1).toNat:=by rw [Int.natCast_pow];rfl
 omega
theorem EA(k:Nat):∃δ:Rat,0<δ∧δ*2^k=1:=by
 have h:=gN k
 have h1:(1/2^k)*(2:Rat)^k=1:=Rat.div_mul_cancel (Rat.ne_of_gt h)
 exact⟨1/2^k,(Rat.lt_div_iff h).2 (by grind),h1⟩
theorem min2{a b:Rat}(ha:0<a)(hb:0<b):∃c:Rat,0<c∧c≤a∧c≤b:=by
 by_cases h:a≤b
 ·exact⟨a,ha,Rat.le_refl,h⟩
 ·exact⟨b,hb,by grind,Rat.le_refl⟩
theorem akS{P:Rat→Rat→Prop}(ht:∀a b c,a<b→b<c→P a b→P b c→P a c)(hs:∀B:Rat,1≤B → ∃δ:Rat,0<δ ∧ ∀a b,Ab a B→Ab b B→a<b→b-a≤δ→P a b){a b:Rat}(eW:a<b):P a b:=by
 obtain⟨B,hB,ha,hb⟩:=k8 a b
 obtain⟨δ,hδ,h⟩:=hs B hB
 exact aow hδ ht h ha hb eW
theorem lip(p:ZX)(B:Rat)(hB:1≤B):∃Q:Rat,0<Q ∧ ∀a b,Ab a B→Ab b B→a≤b→Ab (e b p-e a p) ((b-a)*Q):=by
 obtain⟨S,hS,hc⟩:=BA p.l
 obtain⟨h3,_⟩:=oK hS hB p.l.length
 refine⟨EP S B p.l.length+1,by grind,fun a b ha hb eW=>?_⟩
 have h1:=(HB hS hB ha hb p.l hc).mono (show EP S B p.l.length≤EP S B p.l.length+1 by grind)
 have h2:=nT a b p.l
 have h4:e b p-e a p=qv b p.l-qv a p.l:=rfl
 rw [h4,h2]
 exact Ab.mul ⟨by grind,Rat.le_refl⟩ h1
def uI(a b:ZX):Prop:=∀d,dv d a→dv d b→N d≤1
theorem uI.mono{a b c d:ZX}(h:uI a b)(h1:dv c a)(h2:dv d b):uI c d:=fun x h3 h4=>h x (h3.trans h1) (h4.trans h2)
theorem avp{a b:ZX}(ha:a≠0)(hb:b≠0)(hc:uI a b)(B:Rat):∃ε:Rat,0<ε ∧ ∀t,Ab t B→kE ε (e t a)∨kE ε (e t b):=by
 obtain⟨s1,h1⟩:=D9 a.l
 obtain⟨s2,h2⟩:=D9 b.l
 obtain⟨β,hβ⟩:=O7 B
 obtain⟨ε,h3,h4⟩:=EA (sk (s1+s2) (N a+N b) (N a+N b) β)
 exact⟨ε,h3,fun t ht=>sep (s:=s1+s2) (l:=N a+N b) (β:=β) ha hb (fun c hc=>Nat.le_trans (h1 c hc) (Nat.pow_le_pow_right (by decide) (by omega))) (fun c hc=>Nat.le_trans (h2 c hc) (Nat.pow_le_pow_right (by decide) (by omega))) (Nat.le_refl _) (Nat.le_of_lt Nat.lt_two_pow_self) hc (ht.mono hβ) (by rw [h4];exact Rat.le_refl)⟩
structure tP(f:ZX)(v:Rat→Nat):Prop where
 ne:f≠0
 cop:uI f (bY f)
 g:∃L,w7 L f∧v=vt L
structure aAu(f:ZX)(v:Rat→Nat)(B δ:Rat):Prop where
 turns:∀s t,Ab s B→Ab t B→s<t→t-s≤δ→v s=v t+ind f s t
 simple:∀s t,Ab s B→Ab t B→s<t→t-s≤δ→e s f=0→e t f≠0
 par:∀s t,Ab s B→Ab t B→s<t→t-s≤δ→D8 f t=(if ind f s t=0 then 1 else -1)*D8 f s
def sg1(n:Nat):Int:=if n%2=0 then 1 else -1
theorem air(a b:Nat):sg1 (a+b)=sg1 a*sg1 b:=by
 unfold sg1
 split<;>split<;>split<;>omega
theorem TS(f:ZX)(s t:Rat):ind f s t=0∨ind f s t=1:=by unfold ind;split<;>simp
namespace tP
variable {f:ZX} {v:Rat→Nat} (S:tP f v)
include S
theorem tM(B:Rat):∃δ:Rat,0<δ∧aAu f v B δ:=by
 obtain⟨L,G,rfl⟩:=S.g
 obtain⟨s,h1⟩:=D9 f.l
 obtain⟨β,hβ⟩:=O7 B
 obtain⟨δ,h3,h4⟩:=EA (lk s (N f) (N f) β)
 obtain⟨h5,h6⟩:=yL G S.ne h1 (Nat.le_refl _) (Nat.le_of_lt Nat.lt_two_pow_self) S.cop (δ:=δ) (by rw [h4];exact Rat.le_refl)
 exact⟨δ,h3,fun s t hs ht=>h5.turns s t (hs.mono hβ) (ht.mono hβ),fun s t hs ht=>h5.simple s t (hs.mono hβ) (ht.mono hβ),fun s t hs ht=>h6.par s t (hs.mono hβ) (ht.mono hβ)⟩
theorem cR{a b:Rat}(eW:a≤b):v b≤v a:=by
 obtain⟨L,G,rfl⟩:=S.g
 exact G.cR eW
theorem const{a b:Rat}(eW:a<b){σ:Int}(h0:e a f=0∨b6 (e a f)=σ)(h1:∀x,a<x→x≤b→b6 (e x f)=σ):v a=v b:=by
 obtain⟨L,G,rfl⟩:=S.g
 exact G.const eW h0 h1
theorem flat{a b:Rat}(eW:a<b)(he:v a=v b):e b f≠0∧(e a f≠0→b6 (e b f)=b6 (e a f)):=by
 obtain⟨L,G,rfl⟩:=S.g
 exact G.flat eW he
theorem root{s t:Rat}(iX:s<t)(h0:e t f=0):v t<v s:=by
 obtain⟨L,G,rfl⟩:=S.g
 exact G.root iX h0
theorem bg{a b:Rat}(hb:Bg a b f)(eW:a<b):v a=v b:=by
 obtain⟨L,G,rfl⟩:=S.g
 exact G.bg hb eW
theorem par{s t:Rat}(h:s≤t):D8 f t=sg1 (v s-v t)*D8 f s:=by
 rcases Rat.le_iff_lt_or_eq.1 h with h1 | rfl
 ·refine akS (P:=fun a b=>D8 f b=sg1 (v a-v b)*D8 f a) (fun a b c h1 h2 p1 p2=>?_) (fun B hB=>?_) h1
  ·have:=S.cR (Rat.le_of_lt h1)
   have:=S.cR (Rat.le_of_lt h2)
   rw [p2,p1,show v a-v c=(v a-v b)+(v b-v c)by omega,air];grind
  ·obtain⟨δ,hδ,hN⟩:=S.tM B
   refine⟨δ,hδ,fun a b ha hb eW hd=>?_⟩
   have h1:=hN.turns a b ha hb eW hd
   have h2:=hN.par a b ha hb eW hd
   rw [h2,show v a-v b=ind f a b by omega]
   rcases TS f a b with h3 | h3<;>rw [h3]<;>rfl
 ·rw [Nat.sub_self];show _=1*_;omega
end tP
theorem ais{f:ZX}{t:Rat}(h:e t f≠0):∃r:Rat,0<r ∧ ∀x,t-r≤x→x≤t+r→b6 (e x f)=b6 (e t f):=by
 obtain⟨B,hB,ha,hb⟩:=k8 (t-1) (t+1)
 obtain⟨Q,hQ,hl⟩:=lip f B hB
 have hε:∃ε:Rat,0<ε∧kE ε (e t f):=by
  by_cases h0:0≤e t f
  ·exact⟨e t f,by grind, .inr Rat.le_refl⟩
  ·exact⟨-e t f,by grind, .inl (by grind)⟩
 obtain⟨ε,hε,LU⟩:=hε
 have h1:ε/(2*Q)*(2*Q)=ε:=Rat.div_mul_cancel (by grind)
 have h2:0<ε/(2*Q):=(Rat.lt_div_iff (by grind)).2 (by grind)
 generalize ε/(2*Q)=η at *
 obtain⟨r,hr,CO,bX⟩:=min2 (show (0:Rat)<1 by decide) h2
 refine⟨r,hr,fun x hx hy=>?_⟩
 have FQ:Ab x B:=cI ha hb (by grind) (by grind)
 have ht':Ab t B:=cI ha hb (by grind) (by grind)
 have hrQ:r*Q≤η*Q:=Rat.mul_le_mul_of_nonneg_right bX (Rat.le_of_lt hQ)
 refine(fS LU hε fun hn=>?_).1
 by_cases hxt:t≤x
 ·have h3:=hl t x ht' FQ hxt
  have h4:(x-t)*Q≤r*Q:=Rat.mul_le_mul_of_nonneg_right (by grind) (Rat.le_of_lt hQ)
  obtain⟨p1,p2⟩:=h3
  rcases hn with hn | hn<;>grind
 ·have h3:=hl x t FQ ht' (by grind)
  have h4:(t-x)*Q≤r*Q:=Rat.mul_le_mul_of_nonneg_right (by grind) (Rat.le_of_lt hQ)
  obtain⟨p1,p2⟩:=h3
  rcases hn with hn | hn<;>grind
namespace tP
variable {f:ZX} {v:Rat→Nat} (S:tP f v)
include S
theorem lft{t:Rat}(h:e t f≠0){a:Rat}(hat:a<t):∃s,a≤s∧s<t∧v s=v t∧b6 (e s f)=b6 (e t f):=by
 obtain⟨B,hB,ha,hb⟩:=k8 a t
 obtain⟨δ,hδ,hN⟩:=S.tM B
 obtain⟨r1,CO,hc⟩:=ais h
 obtain⟨r2,bX,h1,h2⟩:=min2 hδ (show 0<t-a by grind)
 obtain⟨r,hr,h3,h4⟩:=min2 CO bX
 have hs:Ab (t-r) B:=cI ha hb (by grind) (by grind)
 have g1:=hN.turns (t-r) t hs hb (by grind) (by grind)
 have g5:=hc (t-r) (by grind) (by grind)
 have g4:ind f (t-r) t=0:=if_neg fun hh=>hh.2 g5.symm
 exact⟨t-r,by grind,by grind,by omega,g5⟩
theorem small{s t Q:Rat}(iX:s<t)(hv:v s≠v t)(hQ:0<Q)(hl:∀a b,s≤a→a≤b→b≤t→Ab (e b f-e a f) ((b-a)*Q)){x:Rat}(hx:s≤x)(hy:x≤t):Ab (e x f) ((t-s)*Q):=by
 refine Classical.byContradiction fun hn=>hv ?_
 have key:∀y,s≤y→y≤t→b6 (e y f)=b6 (e x f):=fun y h1 h2=>by
  have h3:Ab (e y f-e x f) ((t-s)*Q):=by
   by_cases qT:x≤y
   ·exact(hl x y hx qT h2).mono (Rat.mul_le_mul_of_nonneg_right (by grind) (Rat.le_of_lt hQ))
   ·have h4:=(hl y x h1 (by grind) hy).mono (Rat.mul_le_mul_of_nonneg_right (show x-y≤t-s by grind) (Rat.le_of_lt hQ))
    obtain⟨p1,p2⟩:=h4
    exact⟨by grind,by grind⟩
  obtain⟨p1,p2⟩:=h3
  have h0:0≤(t-s)*Q:=Rat.mul_nonneg (by grind) (Rat.le_of_lt hQ)
  generalize (t-s)*Q=M at *
  rcases cY (e x f)with ⟨h5,h6⟩ | ⟨h5,h6⟩ | ⟨h5,h6⟩
  ·rw [h6]
   refine gI ?_
   have:e x f < -M:=Rat.not_le.1 fun h=>hn ⟨h,by grind⟩
   grind
  ·exact absurd ⟨by grind,by grind⟩ hn
  ·rw [h6]
   refine eN ?_
   have:M<e x f:=Rat.not_le.1 fun h=>hn ⟨by grind,h⟩
   grind
 exact S.const iX (σ:=b6 (e x f)) (.inr (key s Rat.le_refl (Rat.le_of_lt iX))) fun y h1 h2=>key y (Rat.le_of_lt h1) h2
end tP
theorem HL{p q:Prop}[Decidable p][Decidable q](h:p↔q):(if p then 1 else 0:Nat)=if q then 1 else 0:=by
 by_cases hp:p
 ·rw [if_pos hp,if_pos (h.1 hp)]
 ·rw [if_neg hp,if_neg (fun hq=>hp (h.2 hq))]
theorem yM{c x y z:Rat}(hc:c≠0)(h:c*x=y*z):b6 x=b6 c*(b6 y*b6 z):=by
 have h1:b6 c*b6 x=b6 y*b6 z:=by rw [←tH,←tH,h]
 rw [←h1]
 rcases cY c with ⟨h2,h3⟩ | ⟨h2,h3⟩ | ⟨h2,h3⟩
 ·rw [h3];omega
 ·exact absurd h2 hc
 ·rw [h3];omega
theorem tP.mul{f g h:ZX}{v w u:Rat→Nat}(Sf:tP f v)(Sg:tP g w)(Sh:tP h u){c:Int}(hc:c≠0)(he:K c*f=g*h)(aAv:uI g h){s t:Rat}(iX:s≤t):v s+w t+u t=v t+w s+u s:=by
 rcases Rat.le_iff_lt_or_eq.1 iX with h1 | rfl
 ·refine akS (P:=fun s t=>v s+w t+u t=v t+w s+u s) (fun a b c h1 h2 p1 p2=>by omega) (fun B hB=>?_) h1
  obtain⟨δ1,hδ1,N1⟩:=Sf.tM B
  obtain⟨δ2,hδ2,N2⟩:=Sg.tM B
  obtain⟨δ3,hδ3,N3⟩:=Sh.tM B
  obtain⟨ε,hε,aAz⟩:=avp Sg.ne Sh.ne aAv B
  obtain⟨Q1,hQ1,l1⟩:=lip g B hB
  obtain⟨Q2,hQ2,l2⟩:=lip h B hB
  have hQ:0<Q1+Q2:=by grind
  have e1:ε/(2*(Q1+Q2))*(2*(Q1+Q2))=ε:=Rat.div_mul_cancel (by grind)
  have e2:0<ε/(2*(Q1+Q2)):=(Rat.lt_div_iff (by grind)).2 (by grind)
  generalize ε/(2*(Q1+Q2))=δ4 at *
  obtain⟨m1,K9,a1,a2⟩:=min2 hδ1 hδ2
  obtain⟨m2,hm2,a3,a4⟩:=min2 hδ3 e2
  obtain⟨δ,hδ,a5,a6⟩:=min2 K9 hm2
  refine⟨δ,hδ,fun s t hs ht dK hd=>?_⟩
  have t1:=N1.turns s t hs ht dK (by grind)
  have t2:=N2.turns s t hs ht dK (by grind)
  have t3:=N3.turns s t hs ht dK (by grind)
  have hcq:(c:Rat)≠0:=fun h0=>hc (Rat.intCast_eq_zero_iff.1 h0)
  have sgm:∀x,b6 (e x f)=b6 (c:Rat)*(b6 (e x g)*b6 (e x h)):=fun x=>by
   refine yM hcq ?_
   rw [←iO,←he,iO,AK]
  have dl:∀Q,0<Q→Q≤Q1+Q2→(t-s)*Q<ε:=fun Q h0 h1=>by
   have h2:(t-s)*Q≤δ4*(Q1+Q2):=by
    have h3:=Rat.mul_le_mul_of_nonneg_right (show t-s≤δ4 by grind) (Rat.le_of_lt h0)
    have h4:=Rat.mul_le_mul_of_nonneg_left h1 (Rat.le_of_lt e2)
    grind
   have h5:δ4*(Q1+Q2)*2=ε:=by rw [←e1];grind
   grind
  have sc:=cY (c:Rat)
  have EW:b6 (c:Rat)=1∨b6 (c:Rat) = -1:=by
   rcases sc with ⟨_,h⟩ | ⟨h,_⟩ | ⟨_,h⟩
   ·exact .inr h
   ·exact absurd h hcq
   ·exact .inl h
  have ez:∀(p:ZX) x,(e x p≠0)=(b6 (e x p)≠0):=fun p x=>propext ⟨fun h h0=>h (fB.1 h0),fun h h0=>h (by rw [h0];exact jI)⟩
  rcases aAz s hs with hb | hb
  ·have hs2:=fS (y:=e t g) hb hε fun hn=>by
    obtain⟨p1,p2⟩:=l1 s t hs ht (Rat.le_of_lt dK)
    have:=dl Q1 hQ1 (by grind)
    rcases hn with hn | hn<;>grind
   have i1:ind g s t=0:=if_neg fun hh=>hh.2 hs2.1
   have i2:ind f s t=ind h s t:=by
    refine HL ?_
    rw [ez f s,ez h s,sgm s,sgm t,hs2.1]
    have:=oJ (e s g)
    have h7:b6 (c:Rat)*b6 (e s g)=1∨b6 (c:Rat)*b6 (e s g) = -1:=by
     rcases EW with h | h<;>rw [h]<;>omega
    rw [←Int.mul_assoc,←Int.mul_assoc]
    rcases h7 with h | h<;>rw [h]
    ·simp only [Int.one_mul]
    ·simp only [Int.neg_mul,Int.one_mul,ne_eq,Int.neg_eq_zero,Int.neg_inj]
   omega
  ·have hs2:=fS (y:=e t h) hb hε fun hn=>by
    obtain⟨p1,p2⟩:=l2 s t hs ht (Rat.le_of_lt dK)
    have:=dl Q2 hQ2 (by grind)
    rcases hn with hn | hn<;>grind
   have i1:ind h s t=0:=if_neg fun hh=>hh.2 hs2.1
   have i2:ind f s t=ind g s t:=by
    refine HL ?_
    rw [ez f s,ez g s,sgm s,sgm t,hs2.1]
    have:=oJ (e s h)
    have h7:b6 (c:Rat)*b6 (e s h)=1∨b6 (c:Rat)*b6 (e s h) = -1:=by
     rcases EW with h | h<;>rw [h]<;>omega
    have cm:∀y:Int,b6 (c:Rat)*(y*b6 (e s h))=b6 (c:Rat)*b6 (e s h)*y:=fun y=>by grind
    rw [cm,cm]
    rcases h7 with h | h<;>rw [h]
    ·simp only [Int.one_mul]
    ·simp only [Int.neg_mul,Int.one_mul,ne_eq,Int.neg_eq_zero,Int.neg_inj]
   omega
 ·omega
structure tQ(f:ZX)(v:Rat→Nat)(lo hi:Rat):Prop where
 S:tP f v
 k:(lo=hi∧e lo f=0)∨(lo<hi∧v lo=v hi+1)
def jJ(v:Rat→Nat)(lo hi t:Rat):Prop:=hi≤t∨(lo<t∧v t<v lo)
noncomputable def cr(U:Rat→Prop)(t:Rat):Int:=open Classical in if U t then(if ∃s,s<t∧U s then -1 else 0)else 1
theorem yN{U:Rat→Prop}{t:Rat}:cr U t=1↔¬U t:=by
 unfold cr
 split
 ·rename_i h
  split<;>simp [h]
 ·rename_i h
  simp [h]
theorem yO{U:Rat→Prop}(hU:∀s t,U s→s≤t→U t){t:Rat}:cr U t = -1 ↔ ∃s,s<t∧U s:=by
 unfold cr
 split
 ·split
  ·rename_i h;simp [h]
  ·rename_i h;simp [h]
 ·rename_i h
  refine⟨fun h1=>absurd h1 (by decide),fun⟨s,h1,h2⟩=>absurd (hU s t h2 (Rat.le_of_lt h1)) h⟩
theorem xD{U:Rat→Prop}{t:Rat}:cr U t=0↔U t ∧ ∀s,s<t→¬U s:=by
 unfold cr
 split
 ·rename_i h
  split
  ·rename_i h2
   refine⟨fun h1=>absurd h1 (by decide),fun⟨_,h3⟩=>?_⟩
   obtain⟨s,h4,h5⟩:=h2
   exact absurd h5 (h3 s h4)
  ·rename_i h2
   exact⟨fun _=>⟨h,fun s h3 h4=>h2 ⟨s,h3,h4⟩⟩,fun _=>rfl⟩
 ·rename_i h
  exact⟨fun h1=>absurd h1 (by decide),fun h1=>absurd h1.1 h⟩
noncomputable def cu(U V:Rat→Prop):Int:=open Classical in if ∃t,U t∧¬V t then -1 else if ∃t,V t∧¬U t then 1 else 0
theorem ait{U V:Rat→Prop}:cu U V=0 ↔ ∀t,U t↔V t:=by
 unfold cu
 split
 ·rename_i h
  refine⟨fun h1=>absurd h1 (by decide),fun h1=>?_⟩
  obtain⟨t,h2,h3⟩:=h
  exact absurd ((h1 t).1 h2) h3
 ·rename_i h
  split
  ·rename_i h'
   refine⟨fun h1=>absurd h1 (by decide),fun h1=>?_⟩
   obtain⟨t,h2,h3⟩:=h'
   exact absurd ((h1 t).2 h2) h3
  ·rename_i h'
   exact⟨fun _ t=>⟨fun h1=>Classical.byContradiction fun h2=>h ⟨t,h1,h2⟩,fun h1=>Classical.byContradiction fun h2=>h' ⟨t,h1,h2⟩⟩,fun _=>rfl⟩
theorem lA{v:Rat→Nat}{lo hi:Rat}:jJ v lo hi hi:=.inl Rat.le_refl
namespace tQ
variable {f:ZX} {v:Rat→Nat} {lo hi:Rat} (A:tQ f v lo hi)
include A
theorem le:lo≤hi:=by
 rcases A.k with ⟨h,_⟩ | ⟨h,_⟩
 ·rw [h];exact Rat.le_refl
 ·exact Rat.le_of_lt h
theorem up{s t:Rat}(h:jJ v lo hi s)(iX:s≤t):jJ v lo hi t:=by
 rcases h with h | ⟨h1,h2⟩
 ·exact .inl (by grind)
 ·have:=A.S.cR iX
  exact .inr ⟨by grind,by omega⟩
theorem oZ{t:Rat}(h:t<lo∨(t=lo∧lo<hi)):¬jJ v lo hi t:=by
 have:=A.le
 rintro(h1 | ⟨h1,_⟩)<;>grind
theorem avq(t:Rat):cr (jJ v lo hi) t=if lo=hi then(if lo<t then -1 else if t<lo then 1 else 0)else if t≤lo then 1 else if hi<t then -1 else if v lo=v t then 1 else if e t f=0 then 0 else -1:=by
 have hup:=fun s t (h:jJ v lo hi s) (h':s≤t)=>A.up h h'
 have hle:=A.le
 split
 ·rename_i h
  subst h
  have hU:∀t,jJ v lo lo t↔lo≤t:=fun t=>⟨fun h=>by rcases h with h | h<;>grind,fun h => .inl h⟩
  split
  ·exact(yO hup).2 ⟨lo,by assumption, .inl Rat.le_refl⟩
  ·split
   ·exact yN.2 (fun h=>by have:=(hU t).1 h;grind)
   ·exact xD.2 ⟨.inl (by grind),fun s h1 h2=>by have:=(hU s).1 h2;grind⟩
 ·rename_i mZ
  have dK:lo<hi:=by grind
  have hk:v lo=v hi+1:=by
   rcases A.k with ⟨h,_⟩ | ⟨_,h⟩
   ·exact absurd h mZ
   ·exact h
  split
  ·rename_i h
   exact yN.2 (A.oZ (by grind))
  ·rename_i h1
   split
   ·rename_i h2
    exact(yO hup).2 ⟨hi,h2,lA⟩
   ·rename_i h2
    have b1:=A.S.cR (show lo≤t by grind)
    have b2:=A.S.cR (show t≤hi by grind)
    split
    ·rename_i h3
     refine yN.2 ?_
     rintro(h4 | ⟨_,h4⟩)
     ·have:t=hi:=by grind
      subst this;omega
     ·omega
    ·rename_i h3
     split
     ·rename_i h4
      refine xD.2 ⟨.inr ⟨by grind,by omega⟩,fun s h5 h6=>?_⟩
      have h7:=A.S.root h5 h4
      rcases h6 with h6 | ⟨h6,h8⟩
      ·grind
      ·omega
     ·rename_i h4
      obtain⟨s,h5,h6,h7,_⟩:=A.S.lft h4 (show lo<t by grind)
      refine(yO hup).2 ⟨s,h6, .inr ⟨?_,by omega⟩⟩
      rcases Rat.le_iff_lt_or_eq.1 h5 with h8 | rfl
      ·exact h8
      ·omega
theorem half{m:Rat}(h1:lo<m)(h2:m<hi):(v m<v lo→tQ f v lo m ∧ ∀t,jJ v lo m t↔jJ v lo hi t)∧(¬v m<v lo→tQ f v m hi ∧ ∀t,jJ v m hi t↔jJ v lo hi t):=by
 have hk:v lo=v hi+1:=by
  rcases A.k with ⟨h,_⟩ | ⟨_,h⟩
  ·grind
  ·exact h
 have b1:=A.S.cR (Rat.le_of_lt h1)
 have b2:=A.S.cR (Rat.le_of_lt h2)
 refine⟨fun h=>⟨⟨A.S, .inr ⟨h1,by omega⟩⟩,fun t=>⟨?_,?_⟩⟩,fun h=>⟨⟨A.S, .inr ⟨h2,by omega⟩⟩,fun t=>⟨?_,?_⟩⟩⟩
 ·rintro(h3 | h3)
  ·have:=A.S.cR h3
   exact .inr ⟨by grind,by omega⟩
  ·exact .inr h3
 ·rintro(h3 | h3)
  ·exact .inl (by grind)
  ·exact .inr h3
 ·rintro(h3 | ⟨h3,h4⟩)
  ·exact .inl h3
  ·exact .inr ⟨by grind,by omega⟩
 ·rintro(h3 | ⟨h3,h4⟩)
  ·exact .inl h3
  ·refine .inr ⟨?_,by omega⟩
   refine Rat.not_le.1 fun h5=>?_
   have:=A.S.cR h5
   omega
theorem exact(h:e hi f=0):tQ f v hi hi ∧ ∀t,jJ v hi hi t↔jJ v lo hi t:=by
 refine⟨⟨A.S, .inl ⟨rfl,h⟩⟩,fun t=>⟨?_,?_⟩⟩
 ·rintro(h3 | ⟨h3,_⟩)
  ·exact .inl h3
  ·exact .inl (by grind)
 ·rintro(h3 | ⟨h3,h4⟩)
  ·exact .inl h3
  ·refine .inl (Rat.not_lt.1 fun h5=>?_)
   have h6:=A.S.root h5 h
   rcases A.k with ⟨h7,_⟩ | ⟨_,h7⟩
   ·grind
   ·omega
end tQ
end ZX
end Pm
namespace Pm
open Go Go.RowKit
section
variable {E:Env} {m:Nat} {G:Gs} {w0:World} {S0:dZ}
def mx3(p q r:PV)(K:PV→Prop):Prop:=∃k a b c,p = .int k a∧q = .int k b∧r = .int k c∧K (.int k (max (max a b) c))
@[simp] theorem axx{k:IntKind}{a b c:Int}{K:PV→Prop}:mx3 (.int k a) (.int k b) (.int k c) K=K (.int k (max (max a b) c)):=by
 apply propext
 constructor
 ·rintro⟨k',a',b',c',h1,h2,h3,h⟩
  cases h1;cases h2;cases h3;exact h
 ·exact fun h=>⟨k,a,b,c,rfl,rfl,rfl,h⟩
def avr(o:Oper)(K:PS→Prop)(σ:PS):Prop:=
 match o.op with
 | .call { callee:=.builtin .max,args:=⟨[x,y,z]⟩,argTypes:=_ }=>mx3 (aP σ.f x) (aP σ.f y) (aP σ.f z) fun v=>K (σ.put o.dst v)
 | _=>False
end
@[simp] theorem avs{K:PS→Prop}{f:Nat→PV}{rows:Rows}{clk:Nat}{d:Option Tmp}{ty:TypeId}{pos:String}{af:Array Edge}{ts:Array TypeId}{x y z:Operand} :
  avr ⟨d, .call { callee:=.builtin .max,args:=⟨[x,y,z]⟩,argTypes:=ts },ty,pos,af,none⟩ K ⟨f,rows,clk⟩=mx3 (aP f x) (aP f y) (aP f z) fun v=>K ⟨put f d v,rows,clk⟩:=rfl
section
variable {E:Env} {w0:World} {S0:dZ} {n:Nat} {G:Gs}
theorem FL{id tl:Nat}{ops:Array Oper}{T:PS→Prop}{Q:Exit→Act→World→Prop}(gO:rR E n tl ops true=true)(htl:tl≠0){σ:PS}{a:Act}{w:World}
  (h:aN E ops.toList σ.clock 0 (ops.toList.take (ops.size-tl)) T ⟨σ.f,σ.rows,fun _ _=>False,fun _ _=>False⟩) (hR:Rel w0 S0 n G σ a w)
  (hT:∀σ' a' w',T σ'→Rel w0 S0 n G σ' a' w'→wpList E.P ops Q (ops.toList.drop (ops.size-tl)) a' w'):(Code.region id ops true).wp E.P Q a w:=by
 simp only [rR,Bool.and_eq_true,Bool.not_true,Bool.false_or]at gO
 obtain⟨alE,uC,gO⟩:=gO
 have hd:∀o,o∈ops → ∀t,o.dst=some t→t<n:=by
  intro o ho t ht
  have:=Array.all_eq_true_iff_forall_mem.1 alE o ho
  simpa [ht]using this
 refine wp_region_any E.mixed ?_
 have IE:=hR.drew
 have hU0:∀k (l:Array Bool),pD w0 S0 n G (Ul E ops σ.clock k l) σ.f σ.rows a { w with drawn:=w.drawn+1 }:=fun k l=>IE.mono fun v hv => .inl hv
 have agb:∀(l:List Oper),uN E l=true → ∀(i:Nat) (oi:Oper),l[i]? = some oi→dS E oi.op=true→oi.dst.isSome=true:=fun l h i oi hi hn=>by
  have:=List.all_eq_true.1 h oi (List.mem_of_getElem? hi)
  rw [hn]at this;simp at this;exact Option.isSome_iff_exists.2 (by obtain⟨x,hx⟩:=Option.isSome_iff_exists.1 this.1;exact⟨x,hx⟩)
 rw [if_neg htl]at gO uC
 have p7:∀i oi,i<ops.size-tl→ops[i]? = some oi→dS E oi.op=true→oi.dst.isSome=true:=fun i oi h1 hi=>agb _ uC i oi (by rw [List.getElem?_take,if_pos h1];simpa using hi)
 simp only [Bool.and_eq_true,decide_eq_true_eq]at gO
 obtain⟨hle,hB⟩:=gO
 simp only [Region.lexTailB,Bool.and_eq_true,decide_eq_true_eq]at hB
 obtain⟨⟨⟨⟨ayf,AA⟩,hs⟩,hc⟩,alF⟩:=hB
 have hl:=pH (c0:=σ.clock) (ops.toList.take (ops.size-tl)) 0 _ _ (fun j hj=>by
  have hj':j<ops.size-tl:=by simpa using hj
  simp [hj']) uC (by simp [rk]) h
 have abE:HeadInv .any ops (ops.size-tl) (Array.replicate ops.size false):=
  ⟨by simp,fun j oj _ hl=>(by rw [getD_replicate_false]at hl;cases hl),fun t _ ht=>getD_in (by simpa using ht) (getD_replicate_false _ _)⟩
 have xN:(ops.toList.take (ops.size-tl)).length=ops.size-tl:=by simp
 have hdl:(ops.toList.drop (ops.size-tl)).length=ops.size-(ops.size-tl):=by simp
 have H:=sV (E:=E) (md:=.any) (n:=ops.size-tl) (g:=ops.size-(ops.size-tl)) p7 (fun aZ inv i hi UX t ht=>tail_waits hs hc AA inv _ i rfl hi UX t ht) (ops.toList.take (ops.size-tl)) 0 _ _ (fun j hj=>by
  rw [xN]at hj
  simp [hj]) (by rw [xN];simp) abE (by rw [xN];exact alF) hl
 have:=lY (E:=E) (md:=.any) (g:=ops.size-(ops.size-tl)) (Q:=Q) (m:=n) hd (fun aZ st a' w' hL lH=>by
  obtain⟨h1,h2⟩:=hL
  have h3:=hT _ a' w' h2 (lH.mono fun v hv=>by have:=Q3 hv;simpa using this)
  have h4:=wpAny_of_seq (md:=.any) (Q':=Q) (ops.toList.drop (ops.size-tl)) (ops.size-tl) aZ a' w' (fun j=>by simp [List.getElem?_drop]) (by rw [hdl];exact h1) h3
  rwa [hdl]at h4) _ _ _ _ _ (by simp) H (hU0 _ _)
 rw [xN,show ops.size-tl+(ops.size-(ops.size-tl))=ops.size by omega]at this
 exact this
end
theorem W.avt{E:Env}{n:Nat}{tl:Nat→Nat}{Q:PX→PS→Prop}{f:Nat→PV}{rows:Rows}{clk:Nat}{id:Nat}{ops:List Oper}{y:Code}(m:Nat){o:Oper}{r:List Oper}(hm:tl id=m+1)(ho:ops.drop (ops.length-(m+1))=o::r)(hg:o.guard=none)
  (h:∀K:PS→Prop,(∀σ,W E n tl y Q σ→K σ)→go (aN E ops clk 0 (ops.take (ops.length-(m+1))) (fun σ=>FF E o (aM E ops r K) σ) ⟨f,rows,fun _ _=>False,fun _ _=>False⟩)):W E n tl (.seq (.region id ops.toArray true) y) Q ⟨f,rows,clk⟩:=by
 refine W.seq ?_
 intro gO w0 S0 G a w Q' hR hQ
 have aoK:rR E n (tl id) ops.toArray true=true:=by simpa [eY]using gO
 have hd:∀o∈ops,∀t,o.dst=some t→t<n:=fun o ho t ht=>by
  simp only [rR,Bool.and_eq_true]at aoK
  have:=Array.all_eq_true_iff_forall_mem.1 aoK.1 o (by simpa using ho)
  simpa [ht]using this
 have h1:=h (fun σ=>W E n tl y Q σ) fun _ h=>h
 have pG:∀x∈o::r,x∈ops:=fun x hx=>by rw [←ho]at hx;exact List.mem_of_mem_drop hx
 refine FL (T:=fun σ=>FF E o (aM E ops r (fun σ=>W E n tl y Q σ)) σ) aoK (by omega) (by rw [hm];exact h1) hR fun σ' a' w' hT lH=>?_
 rw [hm]
 have e:ops.toArray.toList.drop (ops.toArray.size-(m+1))=o::r:=by simpa using ho
 rw [e]
 unfold wpList
 rw [if_pos (by simp [Region.wanted,hg])]
 refine .inl (u4 hT lH (hd o (pG o (by simp))) fun σ2 a2 w2 hk hR2=>?_)
 exact iG (E:=E) (ops:=ops.toArray) (fun σ3 a3 w3 hk3 hR3=>hQ .normal σ3 a3 w3 hk3 hR3) _ σ2 a2 w2 (fun o ho=>hd o (pG o (by simp [ho]))) hk hR2
end Pm
namespace Go.Proofs.YtiobceocpabjdaaGreat
open Go Pm
open ZX hiding N W
theorem W9{α β:Type}{c:Prop}[Decidable c](f g:α→β)(x:α):(if c then f else g) x=if c then f x else g x:=by split<;>rfl
def LG(v:Rat→Nat):Nat→Rat→Rat→List (Rat × Rat)
 | 0,lo,hi=>if v lo=v hi then []else [(lo,hi)]
 | k+1,lo,hi=>if v lo=v hi then []else if v lo=v hi+1 then [(lo,hi)]else LG v k lo ((lo+hi)/2)++LG v k ((lo+hi)/2) hi
theorem yP{lo hi:Rat}(h:lo<hi):lo<(lo+hi)/2∧(lo+hi)/2<hi:=by
 have h1:(lo+hi)/2*2=lo+hi:=Rat.div_mul_cancel (by decide)
 exact⟨by grind,by grind⟩
theorem xE{lo hi δ:Rat}{k:Nat}(h:hi-lo≤δ*2^(k+1)):(lo+hi)/2-lo≤δ*2^k∧hi-(lo+hi)/2≤δ*2^k:=by
 have h1:(lo+hi)/2*2=lo+hi:=Rat.div_mul_cancel (by decide)
 rw [Rat.pow_succ]at h
 generalize (2:Rat)^k=p at *
 exact⟨by grind,by grind⟩
structure Gr(D:Nat)(B:Rat)(j:Nat)(q:Rat):Prop where
 z:∃z:Int,q*((D*2^j:Nat):Int)=(z:Rat)
 b:Ab q B
theorem Gr.mono{D:Nat}{B q:Rat}{i j:Nat}(h:Gr D B i q)(hij:i≤j):Gr D B j q:=by
 obtain⟨⟨z,hz⟩,hb⟩:=h
 obtain⟨k,rfl⟩:∃k,j=i+k:=⟨j-i,by omega⟩
 refine⟨⟨z*(2^k:Nat),?_⟩,hb⟩
 rw [Rat.intCast_mul,←hz,Nat.pow_add,←Nat.mul_assoc,Int.natCast_mul (D*2^i),Rat.intCast_mul]
 grind
theorem Gr.LB{D:Nat}{B p q:Rat}{j:Nat}(hp:Gr D B j p)(hq:Gr D B j q):Gr D B (j+1) ((p+q)/2):=by
 obtain⟨⟨y,hy⟩,b1,b2⟩:=hp
 obtain⟨⟨z,hz⟩,b3,b4⟩:=hq
 have h1:(p+q)/2*2=p+q:=Rat.div_mul_cancel (by decide)
 refine⟨⟨y+z,?_⟩,by grind,by grind⟩
 rw [Rat.intCast_add,←hy,←hz,Nat.pow_succ,←Nat.mul_assoc,Int.natCast_mul (D*2^j),Rat.intCast_mul]
 have h2:(((2:Nat):Int):Rat)=2:=rfl
 rw [h2]
 generalize (((D*2^j:Nat):Int):Rat)=M at *
 grind
theorem Gr.sq{D d β j:Nat}{q:Rat}(h:Gr D (2^β) j q)(h0:1≤D)(hD:D≤2^d):SQ (β+d+j+1) q:=by
 obtain⟨⟨z,hz⟩,hb⟩:=h
 have hM:1≤D*2^j:=Nat.mul_pos h0 (Nat.two_pow_pos _)
 have hM2:D*2^j≤2^(d+j):=by rw [Nat.pow_add];exact Nat.mul_le_mul_right _ hD
 have hMq:(0:Rat)<(((D*2^j:Nat):Int):Rat):=Rat.intCast_pos.2 (by omega)
 have hzb:z.natAbs≤2^(β+d+j):=by
  have h1:Ab (z:Rat) (((2^β*(D*2^j):Nat):Int):Rat):=by
   rw [←hz,Int.natCast_mul (2^β),Rat.intCast_mul,KQ]
   exact hb.mul ⟨by grind,Rat.le_refl⟩
  obtain⟨h2,h3⟩:=h1
  rw [←Rat.intCast_neg]at h2
  have h4:=Rat.intCast_le_intCast.1 h2
  have h5:=Rat.intCast_le_intCast.1 h3
  have h6:2^β*(D*2^j)≤2^(β+d+j):=by
   rw [Nat.add_assoc,Nat.pow_add];exact Nat.mul_le_mul_left _ hM2
  omega
 have e:=KI (n:=z) (d:=((D*2^j:Nat):Int)) (by omega) hz.symm
 have mZ:((D*2^j:Nat):Int)≠0:=by omega
 have hnn:=qH z ((D*2^j:Nat):Int) mZ
 have L5:=qI z ((D*2^j:Nat):Int) mZ
 rw [if_neg (by omega)]at hnn L5
 rw [e]at hnn L5
 have b1:q.num.natAbs≤z.natAbs:=by rw [hnn];exact Int.natAbs_ediv_le_natAbs _ _
 have b2:((q.den:Int)).natAbs≤D*2^j:=by rw [L5];exact Nat.le_trans (Int.natAbs_ediv_le_natAbs _ _) (by omega)
 have hp:∀i,2^i<2^(i+1):=fun i=>Nat.pow_lt_pow_right (by decide) (by omega)
 refine⟨dY (by decide) (Nat.lt_of_le_of_lt (Nat.le_trans b1 hzb) (hp _)),dY (by decide) (Nat.lt_of_le_of_lt (Nat.le_trans b2 hM2) ?_),by omega⟩
 exact Nat.pow_lt_pow_right (by decide) (by omega)
structure Cut(v:Rat→Nat)(B δ:Rat):Prop where
 cR:∀a b,a≤b→v b≤v a
 tM:∀a b,Ab a B→Ab b B→a<b→b-a≤δ→v a≤v b+1
theorem Cut.leaf{v:Rat→Nat}{B δ:Rat}(C:Cut v B δ){lo hi:Rat}(EU:Ab lo B)(PU:Ab hi B)(h:lo<hi)(hd:hi-lo≤δ)(mZ:v lo≠v hi):v lo=v hi+1:=by
 have:=C.tM lo hi EU PU h hd
 have:=C.cR lo hi (Rat.le_of_lt h)
 omega
theorem tI{v:Rat→Nat}{D:Nat}{B δ:Rat}(C:Cut v B δ):∀(k j:Nat) (lo hi:Rat),Gr D B j lo→Gr D B j hi→lo<hi→hi-lo≤δ*2^k →
  (∀p∈LG v k lo hi,Gr D B (j+k) p.1∧Gr D B (j+k) p.2∧lo≤p.1∧p.1<p.2∧p.2≤hi∧v p.1=v p.2+1)∧(LG v k lo hi).length=v lo-v hi∧(LG v k lo hi).Pairwise fun p q=>p.2≤q.1
 | 0,j,lo,hi,g1,g2,h,hd=>by
  rw [LG]
  split
  ·rename_i he
   exact⟨fun p hp=>absurd hp List.not_mem_nil,by rw [he];simp,List.Pairwise.nil⟩
  ·rename_i he
   have:=C.leaf g1.b g2.b h (by rw [Rat.pow_zero,Rat.mul_one]at hd;exact hd) he
   refine⟨fun p hp=>?_,by simp;omega,List.pairwise_singleton _ _⟩
   rw [List.mem_singleton]at hp;subst hp
   exact⟨g1,g2,Rat.le_refl,h,Rat.le_refl,this⟩
 | k+1,j,lo,hi,g1,g2,h,hd=>by
  rw [LG]
  split
  ·rename_i he
   exact⟨fun p hp=>absurd hp List.not_mem_nil,by rw [he];simp,List.Pairwise.nil⟩
  ·rename_i he
   split
   ·rename_i J0
    refine⟨fun p hp=>?_,by simp;omega,List.pairwise_singleton _ _⟩
    rw [List.mem_singleton]at hp;subst hp
    exact⟨g1.mono (by omega),g2.mono (by omega),Rat.le_refl,h,Rat.le_refl,J0⟩
   ·obtain⟨m1,m2⟩:=yP h
    obtain⟨d1,d2⟩:=xE hd
    have gm:=g1.LB g2
    obtain⟨a1,a2,a3⟩:=tI C k (j+1) lo ((lo+hi)/2) (g1.mono (by omega)) gm m1 d1
    obtain⟨b1,b2,b3⟩:=tI C k (j+1) ((lo+hi)/2) hi gm (g2.mono (by omega)) m2 d2
    have n1:=C.cR lo ((lo+hi)/2) (Rat.le_of_lt m1)
    have n2:=C.cR ((lo+hi)/2) hi (Rat.le_of_lt m2)
    rw [show j+1+k=j+(k+1)by omega]at a1 b1
    generalize (lo+hi)/2=m at *
    refine⟨fun p hp=>?_,by rw [List.length_append,a2,b2];omega,List.pairwise_append.2 ⟨a3,b3,fun p hp q hq=>?_⟩⟩
    ·rcases List.mem_append.1 hp with hp | hp
     ·obtain⟨c1,c2,c3,c4,c5,c6⟩:=a1 p hp
      exact⟨c1,c2,c3,c4,by grind,c6⟩
     ·obtain⟨c1,c2,c3,c4,c5,c6⟩:=b1 p hp
      exact⟨c1,c2,by grind,c4,c5,c6⟩
    ·obtain⟨c1,c2,c3,c4,c5,c6⟩:=a1 p hp
     obtain⟨d1,d2,d3,d4,d5,d6⟩:=b1 q hq
     grind
theorem SQ.mono{u w:Nat}{q:Rat}(h:SQ u q)(hu:u≤w):SQ w q:=⟨Nat.le_trans h.n2 hu,Nat.le_trans h.d2 hu,Nat.le_trans h.hu hu⟩
theorem SQ.LLs{u:Nat}{q:Rat}(h:SQ u q){k:Nat}(hu:u≤k):sz LL q.num≤k∧sz LL (q.den:Int)≤k:=⟨Nat.le_trans h.nL hu,Nat.le_trans h.dL hu⟩
theorem SQ.LLt{u:Nat}{q:Rat}(h:SQ u q){k:Nat}(hu:u<k):sz LL q.num<k∧sz LL (q.den:Int)<k:=⟨Nat.lt_of_le_of_lt h.nL hu,Nat.lt_of_le_of_lt h.dL hu⟩
structure pU(s n:Nat)(f:ZX):Prop where
 lay:rG s n f
 A5:1≤n
 nf:Nf f
 sq:Go.Proofs.YtiobceocpabjdaaGreat.sq f=f
 hs:s≤5000000
namespace pU
variable {s n:Nat} {f:ZX} (I:pU s n f)
include I
theorem ch:Ch s n f:=⟨I.lay.bz,I.lay.hn,I.A5,Nat.le_trans (Nat.mul_le_mul_right _ (by unfold qb;omega)) I.lay.hC⟩
theorem s1:1≤s:=by
 have h1:=I.lay.hs
 have h2:=I.A5
 rcases Nat.eq_zero_or_pos s with h | h
 ·rw [h]at h1;simp at h1;omega
 ·exact h
theorem hb:∀p∈bK f,BZ 4500000000 n p:=I.ch.all.1
theorem hl:(bK f).length≤21:=I.ch.all.2
theorem gz1:gz f (bY f)=1:=by
 have:=W4 I.nf.ne
 rwa [I.sq]at this
theorem cop:uI f (bY f):=fun d h1 h2=>by
 have h3:=(fH f (bY f)).least h1 h2
 rw [I.gz1]at h3
 have:=h3.nQ ZX.yA
 rwa [ZX.G3]at this
theorem KF:w7 (bK f) f:=I.ch.KF I.nf.ne I.gz1
theorem S:tP f (vt (bK f)):=⟨I.nf.ne,I.cop,_,I.KF,rfl⟩
theorem szf:∀c∈f.l,c.natAbs≤2^s:=fun c hc=>by
 have h1:=iZ (b:=2) (by decide) c
 have h2:=Nat.pow_le_pow_right (show 0<2 by decide) (I.ch.bz.sz c hc)
 omega
theorem cut(β:Nat):∃δ:Rat,0<δ∧δ*2^lk s n 5 β=1∧Cut (vt (bK f)) (2^β) δ:=by
 obtain⟨δ,h1,h2⟩:=EA (lk s n 5 β)
 have hn:=I.ch.hn
 obtain⟨h3,_⟩:=yL I.KF (s:=s) (n:=n) (l:=5) (β:=β) I.nf.ne I.szf I.ch.bz.N (by omega) I.cop (by rw [h2];exact Rat.le_refl)
 refine⟨δ,h1,h2,fun a b eW=>I.KF.cR eW,fun a b ha hb eW hd=>?_⟩
 have:=h3.turns a b ha hb eW hd
 rcases TS f a b with h4 | h4<;>omega
end pU
section
variable {c:List ZX} {n u:Nat} {p q:Rat} (hb:∀p∈c,BZ 4500000000 n p) (hn:n≤20) (hl:c.length≤21) (hp:SQ u p) (hq:SQ u q) (hu:u≤1000000000)
include hb hn hl hp hq hu
theorem aeF:aE env.P 88 [CH c,RT p,RT q] (.int .i64 (if q<p then 0 else(vt c p:Int)-vt c q)):=by
 have z1:=cZ hq.nL hq.dL hp.nL hp.dL (by omega) (aY q) (aY p) ⟨hq.nL,hq.dL⟩ ⟨hp.nL,hp.dL⟩
 have b1:=KA (by omega) z1 (aeu hb hn hl hp hu) (aeu hb hn hl hq hu)
 rw [D5,D5]at b1
 simp only [j9]at b1
 exact b1
theorem aoM:aE env.P 76 [aJ zq c,RR p,RR q] (.int .i64 (if q<p then 0 else(vt c p:Int)-vt c q)):=by
 have yy:∀ {v:Int},sz 2 v≤u→sz 2 v≤YY:=fun h=>by simp only [YY];omega
 have b1:=O0 (yy hp.n2) (yy hp.d2) (yy hq.n2) (yy hq.d2) (by omega) (aet hb hn hl hp hu) (aet hb hn hl hq hu)
 have hcm:(q.num*(p.den:Int)<p.num*(q.den:Int))=(q<p):=propext (by rw [←j9];exact mF.symm)
 rw [D5,D5]at b1
 simp only [hcm]at b1
 rw [gC,gC]
 exact b1
end
abbrev tc(q:Rat):List PV:=[.bool (decide (q.num<0)),us (aS LL q.num.natAbs), .bool (decide ((q.den:Int)<0)),us (aS LL (q.den:Int).natAbs)]
def ga(f:ZX)(p:Rat × Rat):List PV:=Po f.l::(tc p.1++tc p.2)
@[simp] theorem aAC{f:ZX}{p:Rat × Rat}:ga f p=Po f.l::(tc p.1++tc p.2):=rfl
@[simp] theorem yQ{f:ZX}{l:List (Rat × Rat)}:bG 9 (emap (ga f) l)=True:=cB fun _=>rfl
@[simp] theorem aoN{v e n:Nat}{f:ZX}{l:List (Rat × Rat)}:cQ (some ⟨v,e,n,emap (ga f) l⟩)=True:=bT fun _=>rfl
theorem KR{f:ZX}{l:List (Rat × Rat)}:∀x∈emap (ga f) l,∀p∈x,bI p=true:=fun x hx p hp=>by
 simp only [emap,List.mem_map]at hx
 obtain⟨r,_,rfl⟩:=hx
 simp at hp
 rcases hp with rfl | rfl | rfl | rfl | rfl | rfl | rfl | rfl | rfl<;>rfl
theorem aeG{f:ZX}{c:List ZX}{lo hi:Rat}:mD env.P 72 [Po f.l,CH c,RT lo,RT hi, .int .i64 0] 54 9 []:=by
 show mD env.P _ [Po f.l, .rd [aJ zp c],T2 lo.num lo.den,T2 hi.num hi.den, .int .i64 0] _ _ _
 generalize lo.num=ln at *
 generalize (lo.den:Int)=ld at *
 generalize hi.num=hn at *
 generalize (hi.den:Int)=hd at *
 generalize aJ zp c=X at *
 refine qF (E:=env) (fun id=>if id=5 then 2 else if id=8 then 2 else 0) (t:=10) [(0,Po f.l),(1, .rd [X]),(2,T2 ln ld),(3,T2 hn hd),(4, .int .i64 0)] Tryz.func72 rfl (by kernel_rfl) (by kernel_rfl) (show 5≤48 by decide) rfl (by simp) ?_
 refine aA [0,1,4,7,8] ?_
 refine aQ [0,1,4,7,8,13] ?_
 refine W.block ?_
 refine aA [0,1,4,7,8,13,14] ?_
 refine bJ ?_ ?_<;>intro h
 ·refine aA [10] ?_
  refine W.nil 10 10 54 9 (by simp) (by decide) (fun K hK=>?_)
  simp
  refine hK _ ?_
  refine W.ret ?_
  exact⟨10,_,by simp;exact rfl,by simp,fun x hx=>by cases hx⟩
 ·simp at h
theorem aiu{s n:Nat}{f:ZX}(I:pU s n f){c:List ZX}{lo hi:Rat}{u:Nat}(q1:SQ u lo)(q2:SQ u hi)(hu:u≤1000000000):mD env.P 72 [Po f.l,CH c,RT lo,RT hi, .int .i64 1] 54 9 (emap (ga f) [(lo,hi)]):=by
 have N1:=eQ (x:=f.l) (I.ch.bz.pb (by have:=I.hs;omega) (by have:=I.ch.hn;omega))
 rw [f.c]at N1
 obtain⟨l1,l2⟩:=q1.LLt (show u<1099511627770 by omega)
 obtain⟨l3,l4⟩:=q2.LLt (show u<1099511627770 by omega)
 have M1:=w8 l1 l2
 have M2:=w8 l3 l4
 rw [aY]at M1 M2
 rw [show emap (ga f) [(lo,hi)] = [Po f.l::(tc lo++tc hi)]from rfl]
 show mD env.P _ [Po f.l, .rd [aJ zp c],T2 lo.num lo.den,T2 hi.num hi.den, .int .i64 1] _ _ _
 replace M1:aE env.P 90 [T2 lo.num lo.den, .sl []] (T2 lo.num lo.den):=M1
 replace M2:aE env.P 90 [T2 hi.num hi.den, .sl []] (T2 hi.num hi.den):=M2
 clear l1 l2 l3 l4 q1 q2
 simp only [tc]
 generalize lo.num=ln at *
 generalize (lo.den:Int)=ld at *
 generalize hi.num=hn at *
 generalize (hi.den:Int)=hd at *
 generalize aJ zp c=X at *
 refine qF (E:=env) (fun id=>if id=5 then 2 else if id=8 then 2 else 0) (t:=10) [(0,Po f.l),(1, .rd [X]),(2,T2 ln ld),(3,T2 hn hd),(4, .int .i64 1)] Tryz.func72 rfl (by kernel_rfl) (by kernel_rfl) (show 5≤48 by decide) rfl (by simp) ?_
 refine aA [0,1,4,7,8] ?_
 refine aQ [0,1,4,7,8,13] ?_
 refine W.block ?_
 refine aA [0,1,4,7,8,13,14] ?_
 refine bJ ?_ ?_<;>intro h
 ·simp at h
 ·refine aA [0,1,4,7,8,16] ?_
  refine bJ ?_ ?_<;>intro h
  ·refine W.avt 1 rfl rfl rfl (fun K hK=>?_)
   simp (disch:=omega) [gw]
   refine cS N1 ?_
   refine cS M1 ?_
   refine cS M2 ?_
   refine W.lw [10] hK ?_;clear hK K;simp
   refine W.ret ?_
   exact⟨25,_,by simp;exact rfl,by simp,fun x hx p hp=>by
    simp at hx;subst hx
    simp at hp
    rcases hp with rfl | rfl | rfl | rfl | rfl | rfl | rfl | rfl | rfl<;>rfl⟩
  ·simp at h
theorem aeH{f:ZX}{c:List ZX}{lo hi:Rat}{n k:Int}{la lb:List (Rat × Rat)}(hn:2≤n∧n≤21)(hk:0≤k∧k≤n)(Y9:la.length≤21)(hlb:lb.length≤21)
  (M:aE env.P 91 [RT lo,RT hi] (RT ((lo+hi)/2))) (B:aE env.P 88 [CH c,RT lo,RT ((lo+hi)/2)] (.int .i64 k))
  (h1:mD env.P 72 [Po f.l,CH c,RT lo,RT ((lo+hi)/2), .int .i64 k] 54 9 (emap (ga f) la)) (h2:mD env.P 72 [Po f.l,CH c,RT ((lo+hi)/2),RT hi, .int .i64 (n-k)] 54 9 (emap (ga f) lb)) :
  mD env.P 72 [Po f.l,CH c,RT lo,RT hi, .int .i64 n] 54 9 (emap (ga f) (la++lb)):=by
 rw [←M6]
 have el1:(emap (ga f) la).length≤21:=by simpa [emap]using Y9
 have el2:(emap (ga f) lb).length≤21:=by simpa [emap]using hlb
 have p1:=KR (f:=f) (l:=la)
 have p2:=KR (f:=f) (l:=lb)
 have a1:bG 9 (emap (ga f) la)=True:=yQ
 have a2:bG 9 (emap (ga f) lb)=True:=yQ
 show mD env.P _ [Po f.l, .rd [aJ zp c],T2 lo.num lo.den,T2 hi.num hi.den, .int .i64 n] _ _ _
 replace M:aE env.P 91 [T2 lo.num lo.den,T2 hi.num hi.den] (T2 ((lo+hi)/2).num ((lo+hi)/2).den):=M
 replace B:aE env.P 88 [.rd [aJ zp c],T2 lo.num lo.den,T2 ((lo+hi)/2).num ((lo+hi)/2).den] (.int .i64 k):=B
 replace h1:mD env.P 72 [Po f.l, .rd [aJ zp c],T2 lo.num lo.den,T2 ((lo+hi)/2).num ((lo+hi)/2).den, .int .i64 k] 54 9 (emap (ga f) la):=h1
 replace h2:mD env.P 72 [Po f.l, .rd [aJ zp c],T2 ((lo+hi)/2).num ((lo+hi)/2).den,T2 hi.num hi.den, .int .i64 (n-k)] 54 9 (emap (ga f) lb):=h2
 generalize ((lo+hi)/2).num=mn at *
 generalize (((lo+hi)/2).den:Int)=md at *
 generalize lo.num=ln at *
 generalize (lo.den:Int)=ld at *
 generalize hi.num=AA at *
 generalize (hi.den:Int)=hd at *
 generalize aJ zp c=X at *
 generalize emap (ga f) la=ea at *
 generalize emap (ga f) lb=eb at *
 have w1:IntKind.wrap .i64 (n-k)=n-k:=wrap_i64 (by omega) (by omega)
 refine qF (E:=env) (fun id=>if id=5 then 2 else if id=8 then 2 else 0) (t:=10) [(0,Po f.l),(1, .rd [X]),(2,T2 ln ld),(3,T2 AA hd),(4, .int .i64 n)] Tryz.func72 rfl (by kernel_rfl) (by kernel_rfl) (show 5≤48 by decide) rfl (by simp) ?_
 refine aA [0,1,4,7,8] ?_
 refine aQ [0,1,4,7,8,13] ?_
 refine W.block ?_
 refine aA [0,1,4,7,8,13,14] ?_
 refine bJ ?_ ?_<;>intro h
 ·simp at h;omega
 ·refine aA [0,1,4,7,8,16] ?_
  refine bJ ?_ ?_<;>intro h
  ·simp at h;omega
  ·refine W.skip ?_
   refine aR [0,1,4,7,8,11] M ?_
   refine aR [0,1,4,7,8,11,12] B ?_
   refine W.sd ?_
   rw [show(if 8=5 then 2 else if 8=8 then 2 else 0)=1+1 from rfl,fR]
   simp (disch:=omega) [gw]
   refine acu h1 rfl trivial ?_
   simp (disch:=omega) [gw,w1,W9]
   refine acu h2 rfl trivial ?_
   simp (disch:=omega) [gw,a1,a2,W9]
   refine bH [10] ?_
   refine W.ret ?_
   exact⟨38,5,by simp,by simp,fun x hx=>by
    rcases List.mem_append.1 hx with hx | hx
    ·exact p1 x hx
    ·exact p2 x hx⟩
theorem aeI{s n:Nat}{f:ZX}(I:pU s n f){D d β J:Nat}{δ:Rat}(G0:1≤D)(hD:D≤2^d)(C:Cut (vt (bK f)) (2^β) δ)(hu:β+d+J+1≤1000000000):∀(k j:Nat) (lo hi:Rat),j+k≤J→Gr D (2^β) j lo→Gr D (2^β) j hi→lo<hi→hi-lo≤δ*2^k →
  mD env.P 72 [Po f.l,CH (bK f),RT lo,RT hi, .int .i64 ((vt (bK f) lo:Int)-vt (bK f) hi)] 54 9 (emap (ga f) (LG (vt (bK f)) k lo hi)):=by
 have leaf:∀(j:Nat) (lo hi:Rat),j≤J→Gr D (2^β) j lo→Gr D (2^β) j hi→vt (bK f) lo=vt (bK f) hi+1→mD env.P 72 [Po f.l,CH (bK f),RT lo,RT hi, .int .i64 ((vt (bK f) lo:Int)-vt (bK f) hi)] 54 9 (emap (ga f) [(lo,hi)]):=fun j lo hi hj g1 g2 he=>by
  rw [show(vt (bK f) lo:Int)-vt (bK f) hi=1 by omega]
  exact aiu I ((g1.mono hj).sq G0 hD) ((g2.mono hj).sq G0 hD) hu
 have akU:∀(lo hi:Rat),vt (bK f) lo=vt (bK f) hi→mD env.P 72 [Po f.l,CH (bK f),RT lo,RT hi, .int .i64 ((vt (bK f) lo:Int)-vt (bK f) hi)] 54 9 (emap (ga f) []):=fun lo hi he=>by
  rw [show(vt (bK f) lo:Int)-vt (bK f) hi=0 by omega]
  exact aeG
 intro k
 induction k with
 | zero =>
  intro j lo hi hj g1 g2 dK hd
  rw [LG]
  by_cases he:vt (bK f) lo=vt (bK f) hi
  ·rw [if_pos he];exact akU lo hi he
  ·rw [if_neg he];exact leaf j lo hi (by omega) g1 g2 (C.leaf g1.b g2.b dK (by rw [Rat.pow_zero,Rat.mul_one]at hd;exact hd) he)
 | succ k ih =>
  intro j lo hi hj g1 g2 dK hd
  rw [LG]
  by_cases he:vt (bK f) lo=vt (bK f) hi
  ·rw [if_pos he];exact akU lo hi he
  ·rw [if_neg he]
   by_cases J0:vt (bK f) lo=vt (bK f) hi+1
   ·rw [if_pos J0];exact leaf j lo hi (by omega) g1 g2 J0
   ·rw [if_neg J0]
    obtain⟨m1,m2⟩:=yP dK
    obtain⟨d1,d2⟩:=xE hd
    have gm:=g1.LB g2
    have n1:=C.cR lo ((lo+hi)/2) (Rat.le_of_lt m1)
    have n2:=C.cR ((lo+hi)/2) hi (Rat.le_of_lt m2)
    have hv1:=Nat.le_trans (akQ (bK f) lo) I.hl
    obtain⟨_,a2,_⟩:=tI C k (j+1) lo ((lo+hi)/2) (g1.mono (by omega)) gm m1 d1
    obtain⟨_,b2,_⟩:=tI C k (j+1) ((lo+hi)/2) hi gm (g2.mono (by omega)) m2 d2
    have r1:=ih (j+1) lo ((lo+hi)/2) (by omega) (g1.mono (by omega)) gm m1 d1
    have r2:=ih (j+1) ((lo+hi)/2) hi (by omega) gm (g2.mono (by omega)) m2 d2
    have q1:SQ (β+d+J+1) lo:=(g1.mono (by omega)).sq G0 hD
    have q2:SQ (β+d+J+1) hi:=(g2.mono (by omega)).sq G0 hD
    have q3:SQ (β+d+J+1) ((lo+hi)/2):=(gm.mono (by omega)).sq G0 hD
    have hM:=O6 (q1.LLs (Nat.le_refl _)) (q2.LLs (Nat.le_refl _)) (by omega)
    have hB:=aeF I.hb I.ch.hn I.hl q1 q3 hu
    rw [if_neg (Rat.not_lt.2 (Rat.le_of_lt m1))]at hB
    refine aeH (n:=(vt (bK f) lo:Int)-vt (bK f) hi) (k:=(vt (bK f) lo:Int)-vt (bK f) ((lo+hi)/2)) (by omega) (by omega) (by omega) (by omega) hM hB r1 ?_
    rw [show(vt (bK f) lo:Int)-vt (bK f) hi-((vt (bK f) lo:Int)-vt (bK f) ((lo+hi)/2))=(vt (bK f) ((lo+hi)/2):Int)-vt (bK f) hi by omega]
    exact r2
end Go.Proofs.YtiobceocpabjdaaGreat
namespace Go.Proofs.YtiobceocpabjdaaGreat
open Go Pm
open ZX hiding N W
theorem SQ.tor{u:Nat}{p:Rat}(hp:SQ u p)(hu:u≤YY):aE env.P 23 [RR p] (RT p):=by
 rw [gC]
 have h1:=hp.n2;have h2:=hp.d2
 exact aik (by simp only [Z,YY]at *;omega) (by simp only [Z,YY]at *;omega)
def l1(x:List Int):Nat:=(x.map Int.natAbs).sum
theorem l9(a:Int)(x:List Int):l1 (a::x)=a.natAbs+l1 x:=by simp [l1]
theorem aeJ:l1 []=0:=rfl
theorem TT:∀x:List Int,l1 (aO x)≤l1 x
 | []=>Nat.le_refl _
 | a::x=>by
  have:=TT x
  rw [aO]
  split
  ·rw [aeJ];omega
  ·rw [l9,l9];omega
theorem EB{α:Type}(f g:α→Int):∀l:List α,l1 (l.map fun k=>f k+g k)≤l1 (l.map f)+l1 (l.map g)
 | []=>Nat.le_refl _
 | x::l=>by
  have:=EB f g l
  simp only [List.map_cons,l9]
  omega
theorem vB:∀(x:List Int) (n:Nat),l1 (x++List.replicate n 0)=l1 x
 | [],n=>by simp [l1]
 | a::x,n=>by rw [List.cons_append,l9,l9,vB x n]
theorem aiv(x y:List Int):l1 (iJ x y)≤l1 x+l1 y:=by
 have h1:=EB (nth x) (nth y) (List.range (max x.length y.length))
 rw [pJ (by omega),pJ (by omega),vB,vB]at h1
 exact Nat.le_trans (TT _) h1
theorem aeK(a:Int):∀y:List Int,l1 (y.map fun c=>c*a)=a.natAbs*l1 y
 | []=>by simp [l1]
 | c::y=>by rw [List.map_cons,l9,l9,aeK a y,Int.natAbs_mul,Nat.mul_add,Nat.mul_comm]
theorem O8:∀x y:List Int,l1 (gQ x y)≤l1 x*l1 y
 | [],y=>by rw [gQ,aeJ];omega
 | a::x,y=>by
  have h1:=O8 x y
  have h2:=aiv (y.map fun c=>c*a) (0::gQ x y)
  rw [aeK,l9]at h2
  rw [gQ,l9,Nat.add_mul]
  simp only [Int.natAbs_zero]at h2
  omega
def n1(a:ZX):Nat:=l1 a.l
theorem aoO(a b:ZX):n1 (a*b)≤n1 a*n1 b:=Nat.le_trans (TT _) (O8 _ _)
theorem aeL:∀ {x:List Int} {c:Int},c∈x→c.natAbs≤l1 x
 | a::x,c,h=>by
  rw [l9]
  rcases List.mem_cons.1 h with rfl | h
  ·omega
  ·have:=aeL h;omega
theorem BZ.akV{s n:Nat}{a:ZX}(h:n1 a<2^s)(hn:ZX.N a≤n):BZ s n a:=⟨hn,fun c hc=>dY (by decide) (Nat.lt_of_le_of_lt (aeL hc) h)⟩
theorem EC{S τ t:Rat}(hS:0≤S)(hτ:0<τ)(ht:kE τ t):∀ {x:List Int},Cn x→0<x.length→(∀c∈x.dropLast,Ab (c:Rat) S)→S+(((lead x).natAbs:Int):Rat)≤(((lead x).natAbs:Int):Rat)*τ→kE (((lead x).natAbs:Int):Rat) (qv t x)
 | [a],hc,_,_,_=>by
  have e1:qv t [a]=(a:Rat):=by simp only [qv];grind
  have e2:lead [a]=a:=rfl
  rw [e1,e2]
  by_cases h:0≤a
  ·right
   exact Rat.intCast_le_intCast.2 (by omega)
  ·left
   rw [←Rat.intCast_neg]
   exact Rat.intCast_le_intCast.2 (by omega)
 | a::b::l,hc,_,hb,hL=>by
  have hl:=dC (A8 hc) (by simp)
  rw [yH]at hL ⊢
  have ih:=EC hS hτ ht (A8 hc) (by simp) (fun c hc=>hb c (by
   rw [List.dropLast_cons_of_ne_nil (by simp)];exact List.mem_cons_of_mem _ hc)) hL
  obtain⟨h4,h5⟩:=hb a (by rw [List.dropLast_cons_of_ne_nil (by simp)];simp)
  have e1:qv t (a::b::l)=a+t*qv t (b::l):=rfl
  have hp:(0:Rat)<(((lead (b::l)).natAbs:Int):Rat):=Rat.intCast_pos.2 (by omega)
  have hm:=kE.mul hτ hp ht ih
  rw [e1]
  generalize (((lead (b::l)).natAbs:Int):Rat)=L at *
  rcases hm with h | h
  ·left;grind
  ·right;grind
theorem mW{x:List Int}(cx:Cn x)(hx:x ≠ []){t:Rat}(ht:kE (iC x) t):kE 1 (qv t x)∧1≤iC x:=by
 have pM:=List.length_pos_iff.2 hx
 have hl:=dC cx pM
 have hL:(1:Rat)≤(((lead x).natAbs:Int):Rat):=eH (by omega)
 have hm:(0:Rat)≤((pY x (x.length-1):Int):Rat):=Rat.intCast_nonneg.2 (aey _ _)
 have e:=KJ cx hx
 have h2:=Rat.div_mul_cancel (a:=((pY x (x.length-1):Int):Rat)) (b:=(((lead x).natAbs:Int):Rat)) (by grind)
 have hw:(0:Rat)≤((pY x (x.length-1):Int):Rat)/(((lead x).natAbs:Int):Rat):=by
  refine Rat.not_lt.1 fun h=>?_
  have:=Rat.mul_le_mul_of_nonneg_left hL (show 0 ≤ -(((pY x (x.length-1):Int):Rat)/(((lead x).natAbs:Int):Rat))by grind)
  grind
 have h1:1≤iC x:=by rw [e];grind
 refine⟨(EC hm (show 0<iC x by grind) ht cx pM (fun c hc=>?_) ?_).mono hL,h1⟩
 ·obtain⟨k,hk,rfl⟩:=List.mem_iff_getElem.1 hc
  rw [List.length_dropLast]at hk
  have h3:=aez x (x.length-1) k hk
  rw [bW (by omega)]at h3
  rw [List.getElem_dropLast]
  constructor
  ·rw [←Rat.intCast_neg]
   exact Rat.intCast_le_intCast.2 (by omega)
  ·exact Rat.intCast_le_intCast.2 (by omega)
 ·rw [e]
  generalize ((pY x (x.length-1):Int):Rat)/(((lead x).natAbs:Int):Rat)=w at *
  grind
abbrev rc(q:Rat):List PV:=[aJ aI (aS DD q.num.natAbs), .bool (decide (q.num<0)),aJ aI (aS DD (q.den:Int).natAbs), .bool (decide ((q.den:Int)<0))]
def qa(f:ZX)(c:List ZX)(p:Rat × Rat):List PV:=PI f.l::aJ zq c::(rc p.1++rc p.2)
@[simp] theorem aAE{f:ZX}{c:List ZX}{p:Rat × Rat}:qa f c p=PI f.l::aJ zq c::(rc p.1++rc p.2):=rfl
@[simp] theorem arb{f:ZX}{c:List ZX}{l:List (Rat × Rat)}:bG 10 (emap (qa f c) l)=True:=cB fun _=>rfl
@[simp] theorem aoP{v e n:Nat}{f:ZX}{c:List ZX}{l:List (Rat × Rat)}:cQ (some ⟨v,e,n,emap (qa f c) l⟩)=True:=bT fun _=>rfl
abbrev QA(f:ZX)(c:List ZX)(p:Rat × Rat):PV:=.ag (qa f c p)
def ex(f:ZX)(p:Rat × Rat):Rat × Rat:=if e p.2 f=0 then(p.2,p.2)else p
theorem SQ.yy{u:Nat}{q:Rat}(h:SQ u q)(hu:u≤1000000000):ZR YY q:=⟨by have:=h.n2;simp only [YY];omega,by have:=h.d2;simp only [YY];omega⟩
theorem lB{p q:Rat}:dI (p.num*q.den) (q.num*p.den)=0↔p=q:=by
 have h1:=j9 p q
 have h2:=j9 q p
 rw [mF]at h1 h2
 refine⟨fun h=>?_,fun h=>?_⟩
 ·have h:=Pm.s5.1 h
  by_cases h3:p<q
  ·have:=h1.2 h3;omega
  ·rcases Rat.le_iff_lt_or_eq.1 (Rat.not_lt.1 h3)with h4 | h4
   ·have:=h2.2 h4;omega
   ·exact h4.symm
 ·rw [h];exact vY _
abbrev c4(n d:Int):List PV:=[aJ aI (aS DD n.natAbs), .bool (decide (n<0)),aJ aI (aS DD d.natAbs), .bool (decide (d<0))]
theorem TU{x:List Int}{c:List ZX}{ln ld hn hd z σ:Int}(hz:(z != 0)=false)(c1:aE env.P 14 [R2 ln ld,R2 hn hd] (.int .i64 z))(s1:aE env.P 77 [PI x,R2 hn hd] (.int .i64 σ)) :
  aE env.P 80 [.ag (PI x::aJ zq c::(c4 ln ld++c4 hn hd))] (.ag (PI x::aJ zq c::(c4 ln ld++c4 hn hd))):=by
 simp only [c4]
 refine cD [(0, .ag (PI x::aJ zq c :: [aJ aI (aS DD ln.natAbs), .bool (decide (ln<0)),aJ aI (aS DD ld.natAbs), .bool (decide (ld<0)),aJ aI (aS DD hn.natAbs), .bool (decide (hn<0)),aJ aI (aS DD hd.natAbs), .bool (decide (hd<0))]))] Tryz.func80 ?_
 refine aA [1,2] ?_
 refine W.seq ?_
 refine jC ?_
 refine aC c1 ?_
 simp (disch:=omega) [gw,hz]
 refine bH [1,2,16] ?_
 refine bJ ?_ ?_<;>intro h
 ·simp at h
 ·refine W.skip ?_
  refine aA [2] ?_
  exact cC
theorem aeM{x:List Int}{c:List ZX}{ln ld hn hd z σ:Int}(hz:(z != 0)=true)(hs:(σ==0)=false)(c1:aE env.P 14 [R2 ln ld,R2 hn hd] (.int .i64 z))(s1:aE env.P 77 [PI x,R2 hn hd] (.int .i64 σ)) :
  aE env.P 80 [.ag (PI x::aJ zq c::(c4 ln ld++c4 hn hd))] (.ag (PI x::aJ zq c::(c4 ln ld++c4 hn hd))):=by
 simp only [c4]
 refine cD [(0, .ag (PI x::aJ zq c :: [aJ aI (aS DD ln.natAbs), .bool (decide (ln<0)),aJ aI (aS DD ld.natAbs), .bool (decide (ld<0)),aJ aI (aS DD hn.natAbs), .bool (decide (hn<0)),aJ aI (aS DD hd.natAbs), .bool (decide (hd<0))]))] Tryz.func80 ?_
 refine aA [1,2] ?_
 refine W.seq ?_
 refine jC ?_
 refine aC c1 ?_
 simp (disch:=omega) [gw,hz]
 refine aC s1 ?_
 simp (disch:=omega) [gw,hs]
 refine bH [1,2,16] ?_
 refine bJ ?_ ?_<;>intro h
 ·simp at h
 ·refine W.skip ?_
  refine aA [2] ?_
  exact cC
theorem aaz{x:List Int}{c:List ZX}{ln ld hn hd z σ:Int}(hz:(z != 0)=true)(hs:(σ==0)=true)(c1:aE env.P 14 [R2 ln ld,R2 hn hd] (.int .i64 z))(s1:aE env.P 77 [PI x,R2 hn hd] (.int .i64 σ)) :
  aE env.P 80 [.ag (PI x::aJ zq c::(c4 ln ld++c4 hn hd))] (.ag (PI x::aJ zq c::(c4 hn hd++c4 hn hd))):=by
 simp only [c4]
 refine cD [(0, .ag (PI x::aJ zq c :: [aJ aI (aS DD ln.natAbs), .bool (decide (ln<0)),aJ aI (aS DD ld.natAbs), .bool (decide (ld<0)),aJ aI (aS DD hn.natAbs), .bool (decide (hn<0)),aJ aI (aS DD hd.natAbs), .bool (decide (hd<0))]))] Tryz.func80 ?_
 refine aA [1,2] ?_
 refine W.seq ?_
 refine jC ?_
 refine aC c1 ?_
 simp (disch:=omega) [gw,hz]
 refine aC s1 ?_
 simp (disch:=omega) [gw,hs]
 refine bH [1,2,16] ?_
 refine bJ ?_ ?_<;>intro h
 ·refine W.b7 (fun K hK=>?_);simp (disch:=omega) [gw]
  refine W.lw [1,2] hK ?_;clear hK K;simp
  refine aA [2] ?_
  exact cC
 ·simp at h
theorem xF{f:ZX}{c:List ZX}{p:Rat × Rat}:QA f c p = .ag (PI f.l::aJ zq c::(c4 p.1.num p.1.den++c4 p.2.num p.2.den)):=rfl
theorem aaA{f:ZX}{c:List ZX}{p:Rat × Rat}{n u:Nat}(hb:BZ 4500000000 n f)(hn:n≤20)(q1:SQ u p.1)(q2:SQ u p.2)(hu:u≤1000000000):aE env.P 80 [QA f c p] (QA f c (ex f p)):=by
 have c1:=pT p.1 p.2 (q1.yy hu) (q2.yy hu)
 have hmul:n*(u+1)≤20*(u+1):=Nat.mul_le_mul_right _ hn
 have s1:=yG hb q2.n2 q2.d2 q2.hu (by omega) (by show _<137438953472;omega)
 rw [BD]at s1
 rw [gC,gC]at c1
 by_cases h:p.1=p.2
 ·have he:ex f p=p:=by
   unfold ex;split
   ·exact Prod.ext h.symm rfl
   ·rfl
  rw [he,xF]
  exact TU (by rw [lB.2 h];rfl) c1 s1
 ·have hz:(dI (p.1.num*p.2.den) (p.2.num*p.1.den) != 0)=true:=bne_iff_ne.2 fun h0=>h (lB.1 h0)
  by_cases h2:e p.2 f=0
  ·rw [show ex f p=(p.2,p.2)from if_pos h2,xF,xF]
   exact aaz hz (by rw [h2,jI];rfl) c1 s1
  ·rw [show ex f p=p from if_neg h2,xF]
   exact aeM hz (by simp only [beq_eq_false_iff_ne];exact fun h0=>h2 (fB.1 h0)) c1 s1
def lvl(s n:Nat):Nat:=lk s n 5 (s+1)+s+2
theorem aeN{s n:Nat}(hn:n≤20):lvl s n≤102*s+720:=by
 have h1:(n+n)*(s+5+2+(5+1))≤40*(s+13):=Nat.mul_le_mul (by omega) (by omega)
 have h2:(n+n)*(s+1+2)≤40*(s+3):=Nat.mul_le_mul (by omega) (by omega)
 have h3:n*(s+1+2)≤20*(s+3):=Nat.mul_le_mul hn (by omega)
 unfold lvl lk sk
 omega
def uu(s:Nat):Nat:=105*s+800
namespace pU
variable {s n:Nat} {f:ZX} (I:pU s n f)
include I
theorem f0:f.l ≠ []:=u0 I.nf.ne
theorem xG:1≤(lead f.l).natAbs∧(lead f.l).natAbs≤2^s:=by
 have h1:=dC f.c (List.length_pos_iff.2 I.f0)
 have h2:=iZ (b:=2) (by decide) (lead f.l)
 have h3:=Nat.pow_le_pow_right (show 0<2 by decide) (gT I.ch.bz)
 omega
theorem avu:1≤iC f.l:=(mW f.c I.f0 (t:=iC f.l) (.inr Rat.le_refl)).2
theorem aeO:Ab (iC f.l) (2^(s+1)):=by
 have h1:=KJ f.c I.f0
 have hL:(1:Rat)≤(((lead f.l).natAbs:Int):Rat):=eH (by have:=I.xG.1;omega)
 have h2:=Rat.div_mul_cancel (a:=((pY f.l (f.l.length-1):Int):Rat)) (b:=(((lead f.l).natAbs:Int):Rat)) (by grind)
 have h3:=I.avu
 have h4:((pY f.l (f.l.length-1):Int):Rat)≤2^s:=by
  have h5:=iZ (b:=2) (by decide) (pY f.l (f.l.length-1))
  have h6:=Nat.pow_le_pow_right (show 0<2 by decide) (D6 I.ch.bz (f.l.length-1))
  exact(HK (s:=s) (by omega)).2
 have h7:=qQ s
 rw [Rat.pow_succ]
 generalize (2:Rat)^s=T at *
 generalize ((pY f.l (f.l.length-1):Int):Rat)=m at *
 have hw:m/(((lead f.l).natAbs:Int):Rat)≤T:=by
  refine Rat.not_lt.1 fun h=>?_
  have h8:=Rat.mul_le_mul_of_nonneg_left hL (show 0≤m/(((lead f.l).natAbs:Int):Rat)by grind)
  grind
 exact⟨by grind,by grind⟩
theorem ED:Gr (lead f.l).natAbs (2^(s+1)) 0 (iC f.l):=by
 refine⟨⟨((lead f.l).natAbs:Int)+pY f.l (f.l.length-1),?_⟩,I.aeO⟩
 have hL:(1:Rat)≤(((lead f.l).natAbs:Int):Rat):=eH (by have:=I.xG.1;omega)
 have h1:=KJ f.c I.f0
 have h2:=Rat.div_mul_cancel (a:=((pY f.l (f.l.length-1):Int):Rat)) (b:=(((lead f.l).natAbs:Int):Rat)) (by grind)
 rw [Nat.pow_zero,Nat.mul_one,Rat.intCast_add,h1]
 grind
theorem KS:Gr (lead f.l).natAbs (2^(s+1)) 0 (-iC f.l):=by
 obtain⟨⟨z,hz⟩,h1,h2⟩:=I.ED
 exact⟨⟨-z,by rw [Rat.intCast_neg,←hz];grind⟩,by grind,by grind⟩
theorem count:(vr (sgL (bK f)):Int)-vr (sgR (bK f))=(vt (bK f) (-iC f.l):Int)-vt (bK f) (iC f.l):=by
 have hG:=I.KF
 have h1:vr (sgR (bK f))=vt (bK f) (iC f.l):=TN hG fun b=>⟨1,by decide,fun x h2 _=>(mW f.c I.f0 (.inr h2)).1⟩
 have h2:vr (sgL (bK f))=vt (bK f) (-iC f.l):=aav hG fun b=>⟨1,by decide,fun x _ h2=>(mW f.c I.f0 (.inl h2)).1⟩
 rw [h1,h2]
theorem XA : -iC f.l<iC f.l:=by have:=I.avu;grind
end pU
def KU(s n:Nat)(f:ZX):List (Rat × Rat):=LG (vt (bK f)) (lvl s n) (-iC f.l) (iC f.l)
structure Ivs(f:ZX)(u:Nat)(lo hi:Rat)(l:List (Rat × Rat)):Prop where
 mem:∀p∈l,SQ u p.1∧SQ u p.2∧lo≤p.1∧p.1<p.2∧p.2≤hi∧vt (bK f) p.1=vt (bK f) p.2+1
 len:l.length=vt (bK f) lo-vt (bK f) hi
 GV:l.Pairwise fun p q=>p.2≤q.1
theorem pU.width{s n:Nat}{f:ZX}(I:pU s n f){δ:Rat}(hδ:δ*2^lk s n 5 (s+1)=1):iC f.l - -iC f.l≤δ*2^lvl s n:=by
 have h1:=I.aeO.2
 unfold lvl
 rw [show lk s n 5 (s+1)+s+2=lk s n 5 (s+1)+(s+1+1)by omega,qP,←Rat.mul_assoc,hδ,Rat.one_mul,Rat.pow_succ]
 grind
theorem pU.ivs{s n:Nat}{f:ZX}(I:pU s n f):Ivs f (uu s) (-iC f.l) (iC f.l) (KU s n f):=by
 obtain⟨δ,h1,h2,C⟩:=I.cut (s+1)
 have hl:=aeN (s:=s) I.ch.hn
 obtain⟨a1,a2,a3⟩:=tI C (lvl s n) 0 _ _ I.KS I.ED I.XA (I.width h2)
 refine⟨fun p hp=>?_,a2,a3⟩
 obtain⟨b1,b2,b3⟩:=a1 p hp
 obtain⟨l1,l2⟩:=I.xG
 exact⟨(b1.sq l1 l2).mono (by unfold uu;omega),(b2.sq l1 l2).mono (by unfold uu;omega),b3⟩
theorem aiw{s n:Nat}{f:ZX}(I:pU s n f):(KU s n f).length≤21:=by
 have:=I.ivs.len
 have h1:=Nat.le_trans (akQ (bK f) (-iC f.l)) I.hl
 omega
theorem TV{α:Type}{g:α→List PV}{l:List α}{s n:Nat}{f:ZX}(hS:aE env.P 70 [aJ g l] (Po f.l))(I:pU s n f):aE env.P 18 [aJ g l] (.dU [aJ (ga f) (KU s n f), .int .i64 0]):=by
 have hs:=I.hs
 have hn:=I.ch.hn
 have N1:=KB hS I.ch I.nf
 have P1:=eQ (x:=f.l) (I.ch.bz.pb (by omega) (by omega))
 rw [f.c]at P1
 have B1:=TO P1 f.c I.f0 (JZ I.ch.bz) (by omega) (by omega)
 obtain⟨l1,l2⟩:=I.xG
 have qb:=(I.ED.sq l1 l2).mono (show s+1+s+0+1≤uu s by unfold uu;omega)
 have hu:uu s≤1000000000:=by unfold uu;omega
 have M1:=aaw (qb.LLt (show uu s<1099511627770 by omega))
 have C1:=TJ (c:=bK f) (by have:=I.hl;omega) (pbs I.hb hn)
 rw [I.count]at C1
 obtain⟨δ,h1,h2,C⟩:=I.cut (s+1)
 have hl:=aeN (s:=s) hn
 have R1:=aeI I l1 l2 C (J:=lvl s n) (by omega) (lvl s n) 0 _ _ (by omega) I.KS I.ED I.XA (I.width h2)
 rw [show LG (vt (bK f)) (lvl s n) (-iC f.l) (iC f.l)=KU s n f from rfl]at R1
 have hlen:=aiw I
 have el:(emap (ga f) (KU s n f)).length≤21:=by simpa [emap]using hlen
 have pe:=KR (f:=f) (l:=KU s n f)
 have a1:bG 9 (emap (ga f) (KU s n f))=True:=yQ
 replace B1:aE env.P 71 [Po f.l] (.dU [T2 (iC f.l).num (iC f.l).den, .int .i64 0]):=B1
 replace M1:aE env.P 73 [T2 (iC f.l).num (iC f.l).den] (T2 (-iC f.l).num (-iC f.l).den):=M1
 replace R1:mD env.P 72 [Po f.l,CH (bK f),T2 (-iC f.l).num (-iC f.l).den,T2 (iC f.l).num (iC f.l).den, .int .i64 ((vt (bK f) (-iC f.l):Int)-vt (bK f) (iC f.l))] 54 9 (emap (ga f) (KU s n f)):=R1
 generalize KU s n f=L at *
 generalize (vt (bK f) (-iC f.l):Int)-vt (bK f) (iC f.l)=cn at *
 generalize bK f=c at *
 generalize (-iC f.l).num=mn at *
 generalize ((-iC f.l).den:Int)=md at *
 generalize (iC f.l).num=bn at *
 generalize ((iC f.l).den:Int)=bd at *
 refine cD [(0,aJ g l)] Tryz.func18 ?_
 refine aA [0] ?_
 refine aR [0,4,5] N1 ?_
 refine aQ [0,4,5,15] ?_
 refine bJ ?_ ?_<;>intro h
 ·simp at h
 refine W.skip ?_
 refine aR [4,6] hS ?_
 refine aR [4,6,7] B1 ?_
 refine nU ?_
 refine cS M1 ?_
 refine cS C1 ?_
 refine acu R1 rfl trivial ?_
 simp (disch:=omega) [gw]
 refine bH [2,3] ?_
 refine W.VA 31 (by simp) (fun K hK=>?_)
 simp
 refine hK _ ?_
 exact cC
end Go.Proofs.YtiobceocpabjdaaGreat
namespace Go.Proofs.YtiobceocpabjdaaGreat
open Go Pm
open ZX hiding N W
abbrev GA(f:ZX)(p:Rat × Rat):PV:=.ag (ga f p)
namespace pU
variable {s n:Nat} {f:ZX} (I:pU s n f)
include I
theorem avw:aE env.P 79 [Po f.l] (PI f.l):=by
 have hs:=I.hs
 have hn:=I.ch.hn
 have b:=JZ I.ch.bz
 have:=ZM (f.l.map tN) ⟨fun c hc=>by
  simp only [List.mem_map]at hc
  obtain⟨x,hx,rfl⟩:=hc
  exact⟨fI gF _,Nat.lt_of_le_of_lt (b.sz x hx) (by omega)⟩,by rw [List.length_map];exact Nat.lt_of_le_of_lt b.len (by omega)⟩
 rw [b8,←iL,show aO f.l=f.l from f.c]at this
 exact this
theorem avx:aE env.P 78 [PI f.l] (PI f.l):=by
 have:=lV I.ch.bz I.s1 (by have:=I.hs;show s≤137438953472;omega) (by have:=I.ch.hn;omega)
 rwa [I.nf.nfe]at this
theorem aix:aE env.P 158 [PI f.l] (PI f.l):=by
 have:=wX I.lay I.s1
 rwa [I.sq]at this
theorem aoQ:aE env.P 81 [PI f.l] (aJ zq (bK f)):=zY I.aix I.ch I.s1
theorem aiy:aE env.P 70 [Po f.l] (Po f.l):=by
 have:=u3 I.lay
 rwa [I.sq]at this
theorem avy{u:Nat}{t:Rat}(q:SQ u t)(hu:u≤1000000000):aE env.P 77 [PI f.l,RR t] (.int .i64 (b6 (e t f))):=by
 have hs:=I.hs
 have hn:=I.ch.hn
 have hmul:n*(u+1)≤20*(u+1):=Nat.mul_le_mul_right _ hn
 have s1:=yG I.ch.bz q.n2 q.d2 q.hu (by omega) (by show _<137438953472;omega)
 rw [BD]at s1
 rw [gC]
 exact s1
theorem aeP{u:Nat}{p q:Rat}(hp:SQ u p)(hq:SQ u q)(hu:u≤1000000000):aE env.P 76 [aJ zq (bK f),RR p,RR q] (.int .i64 (if q<p then 0 else(vt (bK f) p:Int)-vt (bK f) q)):=aoM I.hb I.ch.hn I.hl hp hq hu
theorem aoR{u:Nat}{p:Rat × Rat}(q1:SQ u p.1)(q2:SQ u p.2)(hu:u≤1000000000):aE env.P 80 [QA f (bK f) p] (QA f (bK f) (ex f p)):=aaA (I.ch.bz.mono (by have:=I.hs;omega) (Nat.le_refl _)) I.ch.hn q1 q2 hu
end pU
theorem SQ.akW{u:Nat}{q:Rat}(h:SQ u q)(hu:u≤1000000000):aE env.P 82 [RT q] (RR q):=aax (h.LLt (by omega)) ⟨by have:=h.n2;show _<549755813888;omega,by have:=h.d2;show _<549755813888;omega⟩
theorem pU.avz{s n:Nat}{f:ZX}(I:pU s n f){u:Nat}{p:Rat × Rat}(q1:SQ u p.1)(q2:SQ u p.2)(hu:u≤1000000000):aE env.P 20 [GA f p] (QA f (bK f) (ex f p)):=by
 have f1:=I.avw
 have f2:=I.avx
 have f3:=I.aoQ
 have f4:=q1.akW hu
 have f5:=q2.akW hu
 have f6:=I.aoR q1 q2 hu
 generalize ex f p=y at *
 rw [gC]at f4 f5
 rw [xF,xF]at f6
 rw [xF]
 replace f4:aE env.P 82 [T2 p.1.num p.1.den] (R2 p.1.num p.1.den):=f4
 replace f5:aE env.P 82 [T2 p.2.num p.2.den] (R2 p.2.num p.2.den):=f5
 show aE env.P _ [.ag (Po f.l::(tc p.1++tc p.2))] _
 simp only [c4,tc,List.cons_append,List.nil_append]at f6 ⊢
 generalize bK f=c at *
 generalize p.1.num=an at *
 generalize (p.1.den:Int)=ad at *
 generalize p.2.num=bn at *
 generalize (p.2.den:Int)=bd at *
 generalize y.1.num=yn at *
 generalize (y.1.den:Int)=yd at *
 generalize y.2.num=zn at *
 generalize (y.2.den:Int)=zd at *
 refine cD [(0, .ag [Po f.l, .bool (decide (an<0)),us (aS LL an.natAbs), .bool (decide (ad<0)),us (aS LL ad.natAbs), .bool (decide (bn<0)),us (aS LL bn.natAbs), .bool (decide (bd<0)),us (aS LL bd.natAbs)])] Tryz.func20 ?_
 refine aA [1,2] ?_
 refine jC ?_
 refine cS f1 ?_
 refine cN [1,2,3] f2 ?_
 refine nU ?_
 refine cS f3 ?_
 refine cS f4 ?_
 refine cS f5 ?_
 refine cS f6 ?_
 (try (refine bA (of_decide_eq_true (by kernel_rfl)) ?_));(try simp (maxSteps:=4000000) (disch:=omega) [gw]);(repeat rw [if_pos (by kernel_rfl)]);(try simp (maxSteps:=4000000) (disch:=omega) [gw])
 refine bH [2] ?_
 exact cC
theorem aoS{f:ZX}{c:List ZX}{p:Rat × Rat}{u:Nat}(q1:SQ u p.1)(q2:SQ u p.2)(hu:u≤1000000000):aE env.P 75 [QA f c p] (.bool (decide (p.1=p.2))):=by
 have c1:=pT p.1 p.2 (q1.yy hu) (q2.yy hu)
 have e:decide (p.1=p.2)=(dI (p.1.num*p.2.den) (p.2.num*p.1.den)==0):=by
  rw [Bool.eq_iff_iff];simp only [decide_eq_true_eq,beq_iff_eq];exact lB.symm
 rw [e,xF]
 rw [gC,gC]at c1
 simp only [c4,List.cons_append,List.nil_append]
 generalize dI (p.1.num*p.2.den) (p.2.num*p.1.den)=z at *
 generalize p.1.num=an at *
 generalize (p.1.den:Int)=ad at *
 generalize p.2.num=bn at *
 generalize (p.2.den:Int)=bd at *
 refine cD [(0, .ag [PI f.l,aJ zq c,aJ aI (aS DD an.natAbs), .bool (decide (an<0)),aJ aI (aS DD ad.natAbs), .bool (decide (ad<0)),aJ aI (aS DD bn.natAbs), .bool (decide (bn<0)),aJ aI (aS DD bd.natAbs), .bool (decide (bd<0))])] Tryz.func75 ?_
 refine aA [1] ?_
 refine aR [2] c1 ?_
 exact cC
end Go.Proofs.YtiobceocpabjdaaGreat
namespace Go.Proofs.YtiobceocpabjdaaGreat
open Go Pm
open ZX hiding N W
theorem fN{p q:Rat}:0<dI (p.num*q.den) (q.num*p.den)↔q<p:=by
 rw [pI,←j9 q p,mF]
theorem fO{p q:Rat}:dI (p.num*q.den) (q.num*p.den)<0↔p<q:=j9 p q
theorem pV{p q:Rat}:dI (p.num*q.den) (q.num*p.den)≤0↔p≤q:=by
 rw [←Int.not_lt,fN,Rat.not_lt]
theorem O9{x:List Int}{c:List ZX}{an ad bn bd tn td zt z1 z2 b σ r:Int}{pt:Bool}(p1:aE env.P 75 [.ag (PI x::aJ zq c::(c4 an ad++c4 bn bd))] (.bool pt))(k0:aE env.P 14 [R2 an ad,R2 tn td] (.int .i64 zt))
  (k1:aE env.P 14 [R2 tn td,R2 an ad] (.int .i64 z1)) (k2:aE env.P 14 [R2 tn td,R2 bn bd] (.int .i64 z2)) (k3:aE env.P 76 [aJ zq c,R2 an ad,R2 tn td] (.int .i64 b)) (k4:aE env.P 77 [PI x,R2 tn td] (.int .i64 σ))
  (hr:r=if pt=true then zt else if z1≤0 then 1 else if 0<z2 then -1 else if b=0 then 1 else if σ=0 then 0 else -1):aE env.P 19 [.ag (PI x::aJ zq c::(c4 an ad++c4 bn bd)),R2 tn td] (.int .i64 r):=by
 simp only [c4,List.cons_append,List.nil_append]at p1 ⊢
 refine cD [(0, .ag [PI x,aJ zq c,aJ aI (aS DD an.natAbs), .bool (decide (an<0)),aJ aI (aS DD ad.natAbs), .bool (decide (ad<0)),aJ aI (aS DD bn.natAbs), .bool (decide (bn<0)),aJ aI (aS DD bd.natAbs), .bool (decide (bd<0))]),(1,R2 tn td)] Tryz.func19 ?_
 refine aA [2,3] ?_
 refine W.seq ?_
 refine aR [2,3,6] p1 ?_
 refine bJ ?_ ?_<;>intro h
 ·subst h
  rw [if_pos rfl]at hr
  subst hr
  refine aR [4] k0 ?_
  exact cC
 ·subst h
  rw [if_neg (by decide)]at hr
  refine W.skip ?_
  refine W.seq ?_
  refine aR [2,3,15] k1 ?_
  refine bJ ?_ ?_<;>intro h
  ·simp at h
   rw [if_pos h]at hr
   subst hr
   refine aA [4] ?_
   exact cC
  ·simp at h
   rw [if_neg (by omega)]at hr
   refine W.skip ?_
   refine W.seq ?_
   refine aR [2,3,20] k2 ?_
   refine bJ ?_ ?_<;>intro h
   ·simp at h
    rw [if_pos h]at hr
    subst hr
    refine aA [4] ?_
    exact cC
   ·simp at h
    rw [if_neg (by omega)]at hr
    refine W.skip ?_
    refine W.seq ?_
    refine aR [2,3,27] k3 ?_
    refine bJ ?_ ?_<;>intro h
    ·simp at h
     rw [if_pos h]at hr
     subst hr
     refine aA [4] ?_
     exact cC
    ·simp at h
     rw [if_neg h]at hr
     refine W.skip ?_
     refine W.seq ?_
     refine aR [32] k4 ?_
     refine bJ ?_ ?_<;>intro h
     ·simp at h
      rw [if_pos h]at hr
      subst hr
      refine aA [4] ?_
      exact cC
     ·simp at h
      rw [if_neg h]at hr
      subst hr
      refine W.skip ?_
      refine aA [4] ?_
      exact cC
abbrev dF(f:ZX)(p:Rat × Rat):Rat→Prop:=jJ (vt (bK f)) p.1 p.2
theorem pU.EE{s n:Nat}{f:ZX}(I:pU s n f){u:Nat}{p:Rat × Rat}{t:Rat}(A:tQ f (vt (bK f)) p.1 p.2)(q1:SQ u p.1)(q2:SQ u p.2)(qt:SQ u t)(hu:u≤1000000000):aE env.P 19 [QA f (bK f) p,RR t] (.int .i64 (cr (dF f p) t)):=by
 have p1:=aoS (f:=f) (c:=bK f) q1 q2 hu
 have k0:=pT p.1 t (q1.yy hu) (qt.yy hu)
 have k1:=pT t p.1 (qt.yy hu) (q1.yy hu)
 have k2:=pT t p.2 (qt.yy hu) (q2.yy hu)
 have k3:=I.aeP q1 qt hu
 have k4:=I.avy qt hu
 have hc:=A.avq t
 rw [gC,gC]at k0 k1 k2
 rw [gC,gC]at k3
 rw [gC]at k4 ⊢
 rw [xF]at p1 ⊢
 refine O9 p1 k0 k1 k2 k3 k4 ?_
 rw [hc]
 simp only [decide_eq_true_eq]
 by_cases h1:p.1=p.2
 ·rw [if_pos h1,if_pos h1]
  by_cases h2:p.1<t
  ·rw [if_pos h2,l5 (mF.1 (fO.2 h2))]
  ·rw [if_neg h2]
   by_cases h3:t<p.1
   ·rw [if_pos h3,l6 (pI.1 (fN.2 h3))]
   ·rw [if_neg h3,lB.2 (by grind)]
 ·rw [if_neg h1,if_neg h1]
  simp only [pV,fN]
  by_cases h2:t≤p.1
  ·rw [if_pos h2,if_pos h2]
  ·rw [if_neg h2,if_neg h2]
   by_cases h3:p.2<t
   ·rw [if_pos h3,if_pos h3]
   ·rw [if_neg h3,if_neg h3,if_neg (show ¬t<p.1 by grind)]
    have e1:((vt (bK f) p.1:Int)-vt (bK f) t=0)↔vt (bK f) p.1=vt (bK f) t:=by omega
    simp only [e1,fB]
theorem BE{f:ZX}{p:Rat × Rat}(A:tQ f (vt (bK f)) p.1 p.2):tQ f (vt (bK f)) (ex f p).1 (ex f p).2 ∧ ∀t,dF f (ex f p) t↔dF f p t:=by
 unfold ex
 split
 ·rename_i h0
  exact A.exact h0
 ·exact⟨A,fun _=>Iff.rfl⟩
theorem PA{f:ZX}(h0:f≠0)(hc:uI f (bY f))(hN:ZX.N f≤20):tP f (vt (bK f)):=by
 have hg:gz f (bY f)=1:=(G6 (.inl h0)).N1 (hc _ (fH _ _).l (fH _ _).r)
 refine⟨h0,hc,_,⟨fun B hB=>?_⟩,rfl⟩
 obtain⟨s,hs⟩:=D9 f.l
 obtain⟨β,hβ⟩:=O7 B
 have hb:BZ (s+1+5) 20 f:=⟨hN,fun c hc=>dY (by decide) (by
  have h1:=hs c hc
  have h2:2^s<2^(s+1+5):=Nat.pow_lt_pow_right (by decide) (by omega)
  omega)⟩
 have hb0:BZ (s+1) 20 f:=⟨hN,fun c hc=>dY (by decide) (by
  have h1:=hs c hc
  have h2:2^s<2^(s+1):=Nat.pow_lt_pow_right (by decide) (by omega)
  omega)⟩
 have bd:BZ (s+1+5) 20 (bY f):=hb0.bY (by decide)
 have hND:=oG f
 have hP1:ZX.N (qY (bY f))≤ZX.N (bY f):=mI _
 obtain⟨δ,h1,h2⟩:=EA (jb ((s+1+5+20+1)*2*4^20) 20 β)
 refine⟨δ,h1,Lcl.mono (W3 (s:=s+1) (n:=20) (by decide) h0 hb ?_ (jH bd) hg (by rw [h2];exact Rat.le_refl)) hβ⟩
 unfold AJ
 split
 ·have:(4:Nat)^ZX.N f≤4^20:=Nat.pow_le_pow_right (by decide) hN
  exact Nat.mul_le_mul (by omega) this
 ·have:(4:Nat)^ZX.N (qY (bY f))≤4^20:=Nat.pow_le_pow_right (by decide) (by omega)
  exact Nat.mul_le_mul (Nat.le_refl _) this
structure o6(f h g w:ZX):Prop where
 eq:f=w*g
 ng:Nf g
 nw:Nf w
 wg:uI w g
 wh:uI w h
 gd:dv g h
 sg:uI g (bY g)
 sw:uI w (bY w)
theorem vC{f h:ZX}(nf:Nf f)(hc:uI f (bY f)):∃w,o6 f h (gz f h) w:=by
 have ng:Nf (gz f h):=G6 (.inl nf.ne)
 obtain⟨w,nw,e⟩:=nf.quo ng (fH f h).l
 have hd:bY f=bY w*gz f h+w*bY (gz f h):=by
  have h1:=congrArg bY e
  rwa [tB]at h1
 have dwf:dv w f:=by rw [e];exact(dv.refl w).mul_right _
 have dgf:dv (gz f h) f:=(fH f h).l
 have wg:uI w (gz f h):=fun d h1 h2=>hc d (h1.trans dwf) (by rw [hd];exact(h2.mul_left _).add (h1.mul_right _))
 exact⟨w,e,ng,nw,wg,fun d h1 h2=>wg d h1 ((fH f h).least (h1.trans dwf) h2),(fH f h).r,
  fun d h1 h2=>hc d (h1.trans dgf) (by rw [hd];exact(h1.mul_left _).add (h2.mul_left _)),fun d h1 h2=>hc d (h1.trans dwf) (by rw [hd];exact(h2.mul_right _).add (h1.mul_right _))⟩
theorem o6.N{f h g w:ZX}(S:o6 f h g w):ZX.N w≤ZX.N f∧ZX.N g≤ZX.N f:=by
 have h1:=lI S.nw.ne S.ng.ne
 rw [←S.eq]at h1
 have:=ZX.aF.1 S.nw.ne
 have:=ZX.aF.1 S.ng.ne
 omega
theorem o6.P5{f h g w:ZX}(S:o6 f h g w){v γ φ:Rat→Nat}(hv:tP f v)(hg:tP g γ)(hw:tP w φ){s t:Rat}(iX:s≤t):v s+γ t+φ t=v t+γ s+φ s:=by
 have e:K 1*f=w*g:=by rw [←S.eq];show(1:ZX)*f=f;grind
 have:=hv.mul hw hg (by decide) e S.wg iX
 omega
theorem XB{f h:ZX}{v w:Rat→Nat}(hv:tP f v)(hw:tP h w)(hc:uI f h){s r l β:Nat}(hA:∀c∈f.l,c.natAbs≤2^s)(hB:∀c∈h.l,c.natAbs≤2^r)(hl:ZX.N f+ZX.N h≤2^l)
  {a b:Rat} (ha:Ab a (2^β)) (hb:Ab b (2^β)) (eW:a<b) (hd:(b-a)*2^(sx f h s r l+(ZX.N f+ZX.N h)*(β+2)+2)≤1):v a=v b∨w a=w b:=by
 refine Classical.byContradiction fun AM=>?_
 have akX:=not_or.1 AM
 have sm:∀ {p:ZX} {m:Nat} {u:Rat→Nat},tP p u→(∀c∈p.l,c.natAbs≤2^m)→¬u a=u b→Ab (e a p) ((b-a)*2^(m+ZX.N p*(β+2))):=fun {p m u} S hp hu =>
  S.small eW hu (gN _) (fun x y h1 h2 h3=>by
   have g1:=(aeC hp (Nat.le_refl _) (cI ha hb h1 (by grind)) (cI ha hb (show a≤y by grind) h3)).1
   have g2:=nT x y p.l
   have g3:e y p-e x p=qv y p.l-qv x p.l:=rfl
   rw [g3,g2]
   exact Ab.mul ⟨by grind,Rat.le_refl⟩ g1) Rat.le_refl (Rat.le_of_lt eW)
 have b1:=sm hv hA akX.1
 have b2:=sm hw hB akX.2
 have n1:=ZX.aF.1 hv.ne
 have n2:=ZX.aF.1 hw.ne
 have s1:s≤s*ZX.N h:=Nat.le_mul_of_pos_right _ (by omega)
 have s2:r≤r*ZX.N f:=Nat.le_mul_of_pos_right _ (by omega)
 have fin:∀ {i j k:Nat},i+j+1=k→(b-a)*2^k≤1→(b-a)*2^i*2*2^j≤1:=fun {i j k} hk h=>by
  rw [←hk,Rat.pow_succ,qP]at h;grind
 have hX:sx f h s r l=(l+2)*(ZX.N f+ZX.N h)+s*ZX.N h+r*ZX.N f:=rfl
 rw [Nat.add_mul]at hd
 have h5:=avm hv.ne hw.ne hA hB hl hc ha (β:=β) (fin (i:=s+ZX.N f*(β+2)) (k:=sx f h s r l+(ZX.N f*(β+2)+ZX.N h*(β+2))+2) (by omega) hd) (fin (i:=r+ZX.N h*(β+2)) (k:=sx f h s r l+(ZX.N f*(β+2)+ZX.N h*(β+2))+2) (by omega) hd)
 have q1:0<(b-a)*2^(s+ZX.N f*(β+2)):=Rat.mul_pos (by grind) (gN _)
 have q2:0<(b-a)*2^(r+ZX.N h*(β+2)):=Rat.mul_pos (by grind) (gN _)
 obtain⟨p1,p2⟩:=b1
 obtain⟨p3,p4⟩:=b2
 rcases h5 with (h5 | h5) | (h5 | h5)<;>grind
theorem aoT{f h:ZX}{v w:Rat→Nat}(hv:tP f v)(hw:tP h w)(hc:uI f h){s n l β:Nat}(hA:∀c∈f.l,c.natAbs≤2^s)(hB:∀c∈h.l,c.natAbs≤2^s)(hn:ZX.N f+ZX.N h≤n)(hl:n≤2^l)
  {a b:Rat} (ha:Ab a (2^β)) (hb:Ab b (2^β)) (eW:a<b) (hd:(b-a)*2^(sk s n l β+(s+n*(β+2))+1)≤1):v a=v b∨w a=w b:=
 XB hv hw hc hA hB (Nat.le_trans hn hl) ha hb eW (D7 hd (by
  have h1:=aeD (a:=f) (b:=h) (s:=s) (l:=l) (β:=β) hn (Nat.le_refl _)
  have h2:(ZX.N f+ZX.N h)*(β+2)≤n*(β+2):=Nat.mul_le_mul_right _ hn
  omega))
theorem aiz{f h:ZX}{v w:Rat→Nat}(hv:tP f v)(hw:tP h w)(hc:uI f h)(B:Rat):∃δ:Rat,0<δ ∧ ∀a b,Ab a B→Ab b B→a<b→b-a≤δ→v a=v b∨w a=w b:=by
 obtain⟨s1,h1⟩:=D9 f.l
 obtain⟨s2,h2⟩:=D9 h.l
 obtain⟨β,hβ⟩:=O7 B
 obtain⟨δ,h3,h4⟩:=EA (sk (s1+s2) (ZX.N f+ZX.N h) (ZX.N f+ZX.N h) β+(s1+s2+(ZX.N f+ZX.N h)*(β+2))+1)
 refine⟨δ,h3,fun a b ha hb eW hd=>aoT hv hw hc (s:=s1+s2) (l:=ZX.N f+ZX.N h) (β:=β) (fun c hc=>Nat.le_trans (h1 c hc) (Nat.pow_le_pow_right (by decide) (by omega))) (fun c hc=>Nat.le_trans (h2 c hc) (Nat.pow_le_pow_right (by decide) (by omega))) (Nat.le_refl _) (Nat.le_of_lt Nat.lt_two_pow_self) (ha.mono hβ) (hb.mono hβ) eW ?_⟩
 rw [←h4]
 exact Rat.mul_le_mul_of_nonneg_right hd (Rat.le_of_lt (gN _))
section
variable {f:ZX} {v:Rat→Nat} {lo hi:Rat} (A:tQ f v lo hi)
include A
theorem o7{s t:Rat}(h1:¬jJ v lo hi s)(h2:jJ v lo hi t)(iX:s<t):v t<v s:=by
 have g1:s<hi:=Rat.not_le.1 fun h=>h1 (.inl h)
 rcases A.k with ⟨rfl,h0⟩ | ⟨dK,hk⟩
 ·have h3:lo≤t:=by rcases h2 with h | h<;>grind
  have h4:=A.S.root g1 h0
  have h5:=A.S.cR h3
  omega
 ·have h3:v lo≤v s:=by
   by_cases h:s≤lo
   ·exact A.S.cR h
   ·exact Nat.not_lt.1 fun h4=>h1 (.inr ⟨by grind,h4⟩)
  rcases h2 with h | ⟨_,h⟩
  ·have:=A.S.cR h;omega
  ·omega
theorem XC{s t:Rat}(h1:¬jJ v lo hi s)(h2:jJ v lo hi t)(hv:v s=v t+1){x:Rat}(hx:s≤x)(hy:x≤t):jJ v lo hi x↔v x<v s:=by
 refine⟨fun h=>?_,fun h=>?_⟩
 ·refine o7 A h1 h ?_
  rcases Rat.le_iff_lt_or_eq.1 hx with h3 | rfl
  ·exact h3
  ·exact absurd h h1
 ·refine Classical.byContradiction fun h3=>?_
  have h4:x<t:=by
   rcases Rat.le_iff_lt_or_eq.1 hy with h4 | rfl
   ·exact h4
   ·exact absurd h2 h3
  have:=o7 A h3 h2 h4
  omega
end
theorem TW{U:Rat→Prop}{δ:Rat}(hδ:0<δ):∀(n:Nat) (s t:Rat),s<t→¬U s→U t→t-s≤δ*2^n → ∃a b,s≤a∧a<b∧b≤t∧b-a≤δ∧¬U a∧U b
 | 0,s,t,h,h1,h2,hd=>⟨s,t,Rat.le_refl,h,Rat.le_refl,by rwa [Rat.pow_zero,Rat.mul_one]at hd,h1,h2⟩
 | n+1,s,t,h,h1,h2,hd=>by
  obtain⟨m1,m2⟩:=yP h
  obtain⟨d1,d2⟩:=xE hd
  generalize (s+t)/2=m at *
  by_cases hm:U m
  ·obtain⟨a,b,g1,g2,g3,g4⟩:=TW hδ n s m m1 h1 hm d1
   exact⟨a,b,g1,g2,by grind,g4⟩
  ·obtain⟨a,b,g1,g2,g3,g4⟩:=TW hδ n m t m2 hm h2 d2
   exact⟨a,b,by grind,g2,g3,g4⟩
theorem XD{U:Rat→Prop}{δ:Rat}(hδ:0<δ){s t:Rat}(h:s<t)(h1:¬U s)(h2:U t):∃a b,s≤a∧a<b∧b≤t∧b-a≤δ∧¬U a∧U b:=by
 obtain⟨n,hn⟩:=O7 ((t-s)/δ)
 refine TW hδ n s t h h1 h2 ?_
 have h3:(t-s)/δ*δ=t-s:=Rat.div_mul_cancel (Rat.ne_of_gt hδ)
 have h4:=Rat.mul_le_mul_of_nonneg_right hn (Rat.le_of_lt hδ)
 grind
section
variable {f h:ZX} {v w:Rat→Nat} {lo hi lo' iQ:Rat} (A:tQ f v lo hi) (B:tQ h w lo' iQ)
include A B
theorem PC{g w1 w2:ZX}{γ φ η:Rat→Nat}(S1:o6 f h g w1)(S2:o6 h f g w2)(hg:tP g γ)(h1:tP w1 φ)(h2:tP w2 η){s t:Rat}(iX:s<t)(a1:¬jJ v lo hi s)(a2:jJ v lo hi t)(b1:¬jJ w lo' iQ s)(b2:jJ w lo' iQ t)(hv:v s≤v t+1)(hw:w s≤w t+1)(hγ:γ t<γ s) :
  ∀x,jJ v lo hi x↔jJ w lo' iQ x:=fun x=>by
 have c1:=o7 A a1 a2 iX
 have c2:=o7 B b1 b2 iX
 have e1:v s=v t+1:=by omega
 have e2:w s=w t+1:=by omega
 have k1:=S1.P5 A.S hg h1 (Rat.le_of_lt iX)
 have k2:=S2.P5 B.S hg h2 (Rat.le_of_lt iX)
 by_cases hx:x<s
 ·exact⟨fun hh=>absurd (A.up hh (Rat.le_of_lt hx)) a1,fun hh=>absurd (B.up hh (Rat.le_of_lt hx)) b1⟩
 ·by_cases hy:t<x
  ·exact⟨fun _=>B.up b2 (Rat.le_of_lt hy),fun _=>A.up a2 (Rat.le_of_lt hy)⟩
  ·have FQ:=Rat.not_lt.1 hx
   have xS:=Rat.not_lt.1 hy
   rw [XC A a1 a2 e1 FQ xS,XC B b1 b2 e2 FQ xS]
   have q1:=S1.P5 A.S hg h1 FQ
   have q2:=S2.P5 B.S hg h2 FQ
   have r1:=h1.cR FQ
   have r2:=h2.cR FQ
   have r3:=h1.cR xS
   have r4:=h2.cR xS
   have m1:=hg.cR (Rat.le_of_lt iX)
   have m2:=h1.cR (Rat.le_of_lt iX)
   have m3:=h2.cR (Rat.le_of_lt iX)
   omega
end
theorem aeQ{q:Rat}{V:Rat→Prop}(hV:∀s t,V s→s≤t→V t):cu (fun t=>q≤t) V = -cr V q:=by
 by_cases h:V q
 ·by_cases h2:∃s,s<q∧V s
  ·rw [(yO hV).2 h2]
   unfold cu
   obtain⟨s,h3,h4⟩:=h2
   rw [if_neg (fun ⟨t,h5,h6⟩=>h6 (hV q t h h5)),if_pos ⟨s,h4,by grind⟩]
   rfl
  ·rw [xD.2 ⟨h,fun s h3 h4=>h2 ⟨s,h3,h4⟩⟩]
   unfold cu
   rw [if_neg (fun ⟨t,h5,h6⟩=>h6 (hV q t h h5)),if_neg (fun ⟨t,h5,h6⟩=>h2 ⟨t,by grind,h5⟩)]
   rfl
 ·rw [yN.2 h]
  unfold cu
  rw [if_pos ⟨q,Rat.le_refl,h⟩]
theorem aaB{q:Rat}{U:Rat→Prop}(hU:∀s t,U s→s≤t→U t):cu U (fun t=>q≤t)=cr U q:=by
 by_cases h:U q
 ·by_cases h2:∃s,s<q∧U s
  ·rw [(yO hU).2 h2]
   unfold cu
   obtain⟨s,h3,h4⟩:=h2
   rw [if_pos ⟨s,h4,by grind⟩]
  ·rw [xD.2 ⟨h,fun s h3 h4=>h2 ⟨s,h3,h4⟩⟩]
   unfold cu
   rw [if_neg (fun ⟨t,h5,h6⟩=>h2 ⟨t,by grind,h5⟩),if_neg (fun ⟨t,h5,h6⟩=>h6 (hU q t h h5))]
 ·rw [yN.2 h]
  unfold cu
  rw [if_neg (fun ⟨t,h5,h6⟩=>h (hU t q h5 (by grind))),if_pos ⟨q,Rat.le_refl,h⟩]
theorem EF{U U' V V':Rat→Prop}(h1:∀t,U t↔U' t)(h2:∀t,V t↔V' t):cu U V=cu U' V':=by
 have e1:U=U':=funext fun t=>propext (h1 t)
 have e2:V=V':=funext fun t=>propext (h2 t)
 rw [e1,e2]
theorem qR{f:ZX}{p:Rat × Rat}(h:p.1=p.2)(t:Rat):dF f p t↔p.1≤t:=by
 refine⟨fun h1=>?_,fun h1 => .inl (h▸h1)⟩
 rcases h1 with h1 | ⟨h1,_⟩
 ·rw [h];exact h1
 ·grind
theorem KV{a:ZX}(na:Nf a)(hc:uI a (bY a)):sq a=a:=by
 obtain⟨g,hg⟩:=jW _ a (bY a) (Nat.le_refl _)
 have h0:=hg.ne (.inl na.ne)
 have h1:=hc g hg.l hg.r
 have h2:=ZX.aF.1 h0
 obtain⟨k,hk,rfl⟩:=lJ (show ZX.N g=1 by omega)
 obtain⟨c,xY,u,v,e⟩:=hg.uv
 rw [pS]at e
 exact aim na (Int.mul_ne_zero xY hk) e.symm
abbrev A10(x:List Int)(c:List ZX)(an ad bn bd:Int):List PV:=[PI x,aJ zq c,aJ aI (aS DD an.natAbs), .bool (decide (an<0)),aJ aI (aS DD ad.natAbs), .bool (decide (ad<0)),aJ aI (aS DD bn.natAbs), .bool (decide (bn<0)),aJ aI (aS DD bd.natAbs), .bool (decide (bd<0))]
theorem aeR(U:Rat→Prop)(t:Rat):cr U t = -1∨cr U t=0∨cr U t=1:=by
 unfold cr
 split
 ·split<;>simp
 ·simp
theorem PE{u:Nat}{p q:Rat}(hp:SQ u p)(hq:SQ u q):∃D,1≤D∧D≤2^(2*u)∧Gr D (2^u) 0 p∧Gr D (2^u) 0 q:=by
 have key:∀r:Rat,SQ u r→1≤r.den∧r.den≤2^u∧Ab r (2^u)∧r*((r.den:Int):Rat)=(r.num:Rat):=fun r hr=>by
  have h1:=r.den_pos
  have h2:=iZ (b:=2) (by decide) (r.den:Int)
  have h3:=Nat.pow_le_pow_right (show 0<2 by decide) hr.d2
  have h4:=iZ (b:=2) (by decide) r.num
  have h5:=Nat.pow_le_pow_right (show 0<2 by decide) hr.n2
  have h6:=xB r
  have h7:Ab (r.num:Rat) (2^u):=HK (by omega)
  have h8:(1:Rat)≤((r.den:Int):Rat):=eH (by omega)
  refine⟨h1,by omega,?_,h6.symm⟩
  rw [h6]at h7
  obtain⟨g1,g2⟩:=h7
  have hT:=gN u
  generalize (2:Rat)^u=T at *
  constructor
  ·refine Rat.not_lt.1 fun hh=>?_
   have:=Rat.mul_le_mul_of_nonneg_left h8 (show 0 ≤ -r by grind)
   grind
  ·refine Rat.not_lt.1 fun hh=>?_
   have:=Rat.mul_le_mul_of_nonneg_left h8 (show 0≤r by grind)
   grind
 obtain⟨a1,a2,a3,a4⟩:=key p hp
 obtain⟨b1,b2,b3,b4⟩:=key q hq
 refine⟨p.den*q.den,Nat.mul_pos a1 b1,?_,⟨⟨p.num*(q.den:Int),?_⟩,a3⟩,⟨⟨q.num*(p.den:Int),?_⟩,b3⟩⟩
 ·rw [Nat.two_mul,Nat.pow_add];exact Nat.mul_le_mul a2 b2
 ·rw [Nat.pow_zero,Nat.mul_one,Rat.intCast_mul,←a4,Int.natCast_mul p.den,Rat.intCast_mul];grind
 ·rw [Nat.pow_zero,Nat.mul_one,Rat.intCast_mul,←b4,Int.natCast_mul p.den,Rat.intCast_mul];grind
theorem aoU{s n:Nat}{a:ZX}(h:rG s n a)(h0:a≠0)(A5:1≤n)(hC:(qb (qb s n) n+n+6)*4^n≤4500000000)(hs:qb s n≤5000000):pU (qb s n) n (sq a):=by
 have h1:=(D2 h0).1
 refine⟨⟨h.sqb h0,h.hn,?_,hC⟩,A5,h1,KV h1 fun d d1 d2=>?_,hs⟩
 ·exact Nat.le_trans h.hs (Nat.pow_le_pow_right (by decide) (by unfold qb;omega))
 ·have h3:=(fH (sq a) (bY (sq a))).least d1 d2
  rw [W4 h0]at h3
  have:=h3.nQ ZX.yA
  rwa [ZX.G3]at this
theorem EG{α β:Type}[Inhabited α][Inhabited β]{g:α→β}{l:List α}{i:Nat}(h:i<l.length):nth (l.map g) i=g (nth l i):=by
 rw [bW (by simpa using h),bW h,List.getElem_map]
abbrev G9(x:List Int)(an ad bn bd:Int):List PV:=[Po x, .bool (decide (an<0)),us (aS LL an.natAbs), .bool (decide (ad<0)),us (aS LL ad.natAbs), .bool (decide (bn<0)),us (aS LL bn.natAbs), .bool (decide (bd<0)),us (aS LL bd.natAbs)]
end Go.Proofs.YtiobceocpabjdaaGreat
