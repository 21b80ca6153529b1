import Derived.Test.YtiobceocpabjdaaGreatKan
import Derived.Test.YtiobceocpabjdaaGreatKap
set_option linter.unusedSimpArgs false
set_option linter.unusedVariables false
namespace Pm
namespace ZX
theorem afE:∀l:List Int,∃s:Nat,∀c∈l,c.natAbs≤2^s
 | []=>⟨0,fun c hc=>by cases hc⟩
 | a::l=>by
  obtain⟨s,h⟩:=afE l
  refine⟨s+a.natAbs,fun c hc=>?_⟩
  rcases List.mem_cons.1 hc with rfl | hc
  ·have h1:c.natAbs<2^c.natAbs:=Nat.lt_two_pow_self
   exact Nat.le_trans (Nat.le_of_lt h1) (Nat.pow_le_pow_right (by decide) (by omega))
  ·exact Nat.le_trans (h c hc) (Nat.pow_le_pow_right (by decide) (by omega))
theorem apx(B:Rat):∃β:Nat,B≤2^β:=by
 have h1:=Rat.lt_floor_add_one B
 refine⟨(B.floor+1).toNat,Rat.le_trans (Rat.le_of_lt h1) ?_⟩
 have h2:((2^(B.floor+1).toNat:Int):Rat)=2^(B.floor+1).toNat:=by rw [Rat.intCast_pow];rfl
 rw [←h2]
 refine Rat.intCast_le_intCast.2 ?_
 have h3:(B.floor+1).toNat<2^(B.floor+1).toNat:=Nat.lt_two_pow_self
 have h4:((2^(B.floor+1).toNat:Nat):Int)=2^(B.floor+1).toNat:=by rw [Int.natCast_pow];rfl
 omega
theorem aah(k:Nat):∃δ:Rat,0<δ∧δ*2^k=1:=by
 have h:=kY k
 have h1:(1/2^k)*(2:Rat)^k=1:=Rat.div_mul_cancel (Rat.ne_of_gt h)
 exact⟨1/2^k,(Rat.lt_div_iff h).2 (by grind),h1⟩
theorem min2{a b:Rat}(ha:0<a)(hb:0<b):∃c:Rat,0<c∧c≤a∧c≤b:=by
 by_cases h:a≤b
 ·exact⟨a,ha,Rat.le_refl,h⟩
 ·exact⟨b,hb,by grind,Rat.le_refl⟩
theorem apy{P:Rat→Rat→Prop}(ht:∀a b c,a<b→b<c→P a b→P b c→P a c)(hs:∀B:Rat,1≤B → ∃δ:Rat,0<δ ∧ ∀a b,Ab a B→Ab b B→a<b→b-a≤δ→P a b){a b:Rat}(fN:a<b):P a b:=by
 obtain⟨B,hB,ha,hb⟩:=pD a b
 obtain⟨δ,hδ,h⟩:=hs B hB
 exact aiZ hδ ht h ha hb fN
theorem lip(p:ZX)(B:Rat)(hB:1≤B):∃Q:Rat,0<Q ∧ ∀a b,Ab a B→Ab b B→a≤b→Ab (e b p-e a p) ((b-a)*Q):=by
 obtain⟨S,hS,hc⟩:=xC p.l
 obtain⟨h3,_⟩:=lS hS hB p.l.length
 refine⟨AH S B p.l.length+1,by grind,fun a b ha hb fN=>?_⟩
 have h1:=(CV hS hB ha hb p.l hc).mono (show AH S B p.l.length≤AH S B p.l.length+1 by grind)
 have h2:=mB a b p.l
 have h4:e b p-e a p=qv b p.l-qv a p.l:=rfl
 rw [h4,h2]
 exact Ab.mul ⟨by grind,Rat.le_refl⟩ h1
def Cop(a b:ZX):Prop:=∀d,dv d a→dv d b→N d≤1
theorem Cop.mono{a b c d:ZX}(h:Cop a b)(h1:dv c a)(h2:dv d b):Cop c d:=fun x h3 h4=>h x (h3.trans h1) (h4.trans h2)
structure SqF(f:ZX)(v:Rat→Nat):Prop where
 ne:f≠0
 cop:Cop f (b6 f)
 g:∃L,tP L f∧v=vt L
structure auc(f:ZX)(v:Rat→Nat)(B δ:Rat):Prop where
 turns:∀s t,Ab s B→Ab t B→s<t→t-s≤δ→v s=v t+ind f s t
 simple:∀s t,Ab s B→Ab t B→s<t→t-s≤δ→e s f=0→e t f≠0
 par:∀s t,Ab s B→Ab t B→s<t→t-s≤δ→NI f t=(if ind f s t=0 then 1 else -1)*NI f s
def sg1(n:Nat):Int:=if n%2=0 then 1 else -1
theorem ads(a b:Nat):sg1 (a+b)=sg1 a*sg1 b:=by
 unfold sg1
 split<;>split<;>split<;>omega
theorem aai(f:ZX)(s t:Rat):ind f s t=0∨ind f s t=1:=by unfold ind;split<;>simp
namespace SqF
variable {f:ZX} {v:Rat→Nat} (S:SqF f v)
include S
theorem A7(B:Rat):∃δ:Rat,0<δ∧auc f v B δ:=by
 obtain⟨L,G,rfl⟩:=S.g
 obtain⟨s,h1⟩:=afE f.l
 obtain⟨β,hβ⟩:=apx B
 obtain⟨δ,h3,h4⟩:=aah (lk s (N f) (N f) β)
 obtain⟨h5,h6⟩:=C6 G S.ne h1 (Nat.le_refl _) (Nat.le_of_lt Nat.lt_two_pow_self) S.cop (δ:=δ) (by rw [h4];exact Rat.le_refl)
 exact⟨δ,h3,fun s t hs ht=>h5.turns s t (hs.mono hβ) (ht.mono hβ),fun s t hs ht=>h5.simple s t (hs.mono hβ) (ht.mono hβ),fun s t hs ht=>h6.par s t (hs.mono hβ) (ht.mono hβ)⟩
theorem iY{a b:Rat}(fN:a≤b):v b≤v a:=by
 obtain⟨L,G,rfl⟩:=S.g
 exact G.iY fN
theorem root{s t:Rat}(rD:s<t)(h0:e t f=0):v t<v s:=by
 obtain⟨L,G,rfl⟩:=S.g
 exact G.root rD h0
theorem bg{a b:Rat}(hb:Bg a b f)(fN:a<b):v a=v b:=by
 obtain⟨L,G,rfl⟩:=S.g
 exact G.bg hb fN
theorem par{s t:Rat}(h:s≤t):NI f t=sg1 (v s-v t)*NI f s:=by
 rcases Rat.le_iff_lt_or_eq.1 h with h1 | rfl
 ·refine apy (P:=fun a b=>NI f b=sg1 (v a-v b)*NI f a) (fun a b c h1 h2 p1 p2=>?_) (fun B hB=>?_) h1
  ·have:=S.iY (Rat.le_of_lt h1)
   have:=S.iY (Rat.le_of_lt h2)
   rw [p2,p1,show v a-v c=(v a-v b)+(v b-v c)by omega,ads];grind
  ·obtain⟨δ,hδ,hN⟩:=S.A7 B
   refine⟨δ,hδ,fun a b ha hb fN hd=>?_⟩
   have h1:=hN.turns a b ha hb fN hd
   have h2:=hN.par a b ha hb fN hd
   rw [h2,show v a-v b=ind f a b by omega]
   rcases aai f a b with h3 | h3<;>rw [h3]<;>rfl
 ·rw [Nat.sub_self];show _=1*_;omega
end SqF
theorem adt{f:ZX}{t:Rat}(h:e t f≠0):∃r:Rat,0<r ∧ ∀x,t-r≤x→x≤t+r→cZ (e x f)=cZ (e t f):=by
 obtain⟨B,hB,ha,hb⟩:=pD (t-1) (t+1)
 obtain⟨Q,hQ,hl⟩:=lip f B hB
 have hε:∃ε:Rat,0<ε∧j5 ε (e t f):=by
  by_cases h0:0≤e t f
  ·exact⟨e t f,by grind, .inr Rat.le_refl⟩
  ·exact⟨-e t f,by grind, .inl (by grind)⟩
 obtain⟨ε,hε,GD⟩:=hε
 have h1:ε/(2*Q)*(2*Q)=ε:=Rat.div_mul_cancel (by grind)
 have h2:0<ε/(2*Q):=(Rat.lt_div_iff (by grind)).2 (by grind)
 generalize ε/(2*Q)=η at *
 obtain⟨r,hr,LY,dY⟩:=min2 (show (0:Rat)<1 by decide) h2
 refine⟨r,hr,fun x hx hy=>?_⟩
 have QV:Ab x B:=gE ha hb (by grind) (by grind)
 have ht':Ab t B:=gE ha hb (by grind) (by grind)
 have hrQ:r*Q≤η*Q:=Rat.mul_le_mul_of_nonneg_right dY (Rat.le_of_lt hQ)
 refine(fL GD hε fun hn=>?_).1
 by_cases hxt:t≤x
 ·have h3:=hl t x ht' QV hxt
  have h4:(x-t)*Q≤r*Q:=Rat.mul_le_mul_of_nonneg_right (by grind) (Rat.le_of_lt hQ)
  obtain⟨p1,p2⟩:=h3
  rcases hn with hn | hn<;>grind
 ·have h3:=hl x t QV ht' (by grind)
  have h4:(t-x)*Q≤r*Q:=Rat.mul_le_mul_of_nonneg_right (by grind) (Rat.le_of_lt hQ)
  obtain⟨p1,p2⟩:=h3
  rcases hn with hn | hn<;>grind
namespace SqF
variable {f:ZX} {v:Rat→Nat} (S:SqF f v)
include S
theorem lft{t:Rat}(h:e t f≠0){a:Rat}(hat:a<t):∃s,a≤s∧s<t∧v s=v t∧cZ (e s f)=cZ (e t f):=by
 obtain⟨B,hB,ha,hb⟩:=pD a t
 obtain⟨δ,hδ,hN⟩:=S.A7 B
 obtain⟨r1,LY,hc⟩:=adt h
 obtain⟨r2,dY,h1,h2⟩:=min2 hδ (show 0<t-a by grind)
 obtain⟨r,hr,h3,h4⟩:=min2 LY dY
 have hs:Ab (t-r) B:=gE ha hb (by grind) (by grind)
 have g1:=hN.turns (t-r) t hs hb (by grind) (by grind)
 have g5:=hc (t-r) (by grind) (by grind)
 have g4:ind f (t-r) t=0:=if_neg fun hh=>hh.2 g5.symm
 exact⟨t-r,by grind,by grind,by omega,g5⟩
end SqF
structure IsA(f:ZX)(v:Rat→Nat)(lo hi:Rat):Prop where
 S:SqF f v
 k:(lo=hi∧e lo f=0)∨(lo<hi∧v lo=v hi+1)
def BF(v:Rat→Nat)(lo hi t:Rat):Prop:=hi≤t∨(lo<t∧v t<v lo)
noncomputable def cr(U:Rat→Prop)(t:Rat):Int:=open Classical in if U t then(if ∃s,s<t∧U s then -1 else 0)else 1
theorem NJ{U:Rat→Prop}{t:Rat}:cr U t=1↔¬U t:=by
 unfold cr
 split
 ·rename_i h
  split<;>simp [h]
 ·rename_i h
  simp [h]
theorem NK{U:Rat→Prop}(hU:∀s t,U s→s≤t→U t){t:Rat}:cr U t = -1 ↔ ∃s,s<t∧U s:=by
 unfold cr
 split
 ·split
  ·rename_i h;simp [h]
  ·rename_i h;simp [h]
 ·rename_i h
  refine⟨fun h1=>absurd h1 (by decide),fun⟨s,h1,h2⟩=>absurd (hU s t h2 (Rat.le_of_lt h1)) h⟩
theorem FQ{U:Rat→Prop}{t:Rat}:cr U t=0↔U t ∧ ∀s,s<t→¬U s:=by
 unfold cr
 split
 ·rename_i h
  split
  ·rename_i h2
   refine⟨fun h1=>absurd h1 (by decide),fun⟨_,h3⟩=>?_⟩
   obtain⟨s,h4,h5⟩:=h2
   exact absurd h5 (h3 s h4)
  ·rename_i h2
   exact⟨fun _=>⟨h,fun s h3 h4=>h2 ⟨s,h3,h4⟩⟩,fun _=>rfl⟩
 ·rename_i h
  exact⟨fun h1=>absurd h1 (by decide),fun h1=>absurd h1.1 h⟩
theorem adu{v:Rat→Nat}{lo hi:Rat}:BF v lo hi hi:=.inl Rat.le_refl
namespace IsA
variable {f:ZX} {v:Rat→Nat} {lo hi:Rat} (A:IsA f v lo hi)
include A
theorem le:lo≤hi:=by
 rcases A.k with ⟨h,_⟩ | ⟨h,_⟩
 ·rw [h];exact Rat.le_refl
 ·exact Rat.le_of_lt h
theorem up{s t:Rat}(h:BF v lo hi s)(rD:s≤t):BF v lo hi t:=by
 rcases h with h | ⟨h1,h2⟩
 ·exact .inl (by grind)
 ·have:=A.S.iY rD
  exact .inr ⟨by grind,by omega⟩
theorem aje{t:Rat}(h:t<lo∨(t=lo∧lo<hi)):¬BF v lo hi t:=by
 have:=A.le
 rintro(h1 | ⟨h1,_⟩)<;>grind
theorem aud(t:Rat):cr (BF v lo hi) t=if lo=hi then(if lo<t then -1 else if t<lo then 1 else 0)else if t≤lo then 1 else if hi<t then -1 else if v lo=v t then 1 else if e t f=0 then 0 else -1:=by
 have hup:=fun s t (h:BF v lo hi s) (h':s≤t)=>A.up h h'
 have hle:=A.le
 split
 ·rename_i h
  subst h
  have hU:∀t,BF v lo lo t↔lo≤t:=fun t=>⟨fun h=>by rcases h with h | h<;>grind,fun h => .inl h⟩
  split
  ·exact(NK hup).2 ⟨lo,by assumption, .inl Rat.le_refl⟩
  ·split
   ·exact NJ.2 (fun h=>by have:=(hU t).1 h;grind)
   ·exact FQ.2 ⟨.inl (by grind),fun s h1 h2=>by have:=(hU s).1 h2;grind⟩
 ·rename_i qF
  have fS:lo<hi:=by grind
  have hk:v lo=v hi+1:=by
   rcases A.k with ⟨h,_⟩ | ⟨_,h⟩
   ·exact absurd h qF
   ·exact h
  split
  ·rename_i h
   exact NJ.2 (A.aje (by grind))
  ·rename_i h1
   split
   ·rename_i h2
    exact(NK hup).2 ⟨hi,h2,adu⟩
   ·rename_i h2
    have b1:=A.S.iY (show lo≤t by grind)
    have b2:=A.S.iY (show t≤hi by grind)
    split
    ·rename_i h3
     refine NJ.2 ?_
     rintro(h4 | ⟨_,h4⟩)
     ·have:t=hi:=by grind
      subst this;omega
     ·omega
    ·rename_i h3
     split
     ·rename_i h4
      refine FQ.2 ⟨.inr ⟨by grind,by omega⟩,fun s h5 h6=>?_⟩
      have h7:=A.S.root h5 h4
      rcases h6 with h6 | ⟨h6,h8⟩
      ·grind
      ·omega
     ·rename_i h4
      obtain⟨s,h5,h6,h7,_⟩:=A.S.lft h4 (show lo<t by grind)
      refine(NK hup).2 ⟨s,h6, .inr ⟨?_,by omega⟩⟩
      rcases Rat.le_iff_lt_or_eq.1 h5 with h8 | rfl
      ·exact h8
      ·omega
theorem exact(h:e hi f=0):IsA f v hi hi ∧ ∀t,BF v hi hi t↔BF v lo hi t:=by
 refine⟨⟨A.S, .inl ⟨rfl,h⟩⟩,fun t=>⟨?_,?_⟩⟩
 ·rintro(h3 | ⟨h3,_⟩)
  ·exact .inl h3
  ·exact .inl (by grind)
 ·rintro(h3 | ⟨h3,h4⟩)
  ·exact .inl h3
  ·refine .inl (Rat.not_lt.1 fun h5=>?_)
   have h6:=A.S.root h5 h
   rcases A.k with ⟨h7,_⟩ | ⟨_,h7⟩
   ·grind
   ·omega
end IsA
end ZX
end Pm
namespace Pm
open Go Go.RowKit
section
variable {E:Env} {m:Nat} {G:Gs} {w0:World} {S0:dF}
def mx3(p q r:PV)(K:PV→Prop):Prop:=∃k a b c,p = .int k a∧q = .int k b∧r = .int k c∧K (.int k (max (max a b) c))
@[simp] theorem ars{k:IntKind}{a b c:Int}{K:PV→Prop}:mx3 (.int k a) (.int k b) (.int k c) K=K (.int k (max (max a b) c)):=by
 apply propext
 constructor
 ·rintro⟨k',a',b',c',h1,h2,h3,h⟩
  cases h1;cases h2;cases h3;exact h
 ·exact fun h=>⟨k,a,b,c,rfl,rfl,rfl,h⟩
def apz(o:Oper)(K:PS→Prop)(σ:PS):Prop:=
 match o.op with
 | .call { callee:=.builtin .max,args:=⟨[x,y,z]⟩,argTypes:=_ }=>mx3 (aO σ.f x) (aO σ.f y) (aO σ.f z) fun v=>K (σ.put o.dst v)
 | _=>False
end
@[simp] theorem apA{K:PS→Prop}{f:Nat→PV}{rows:Rows}{clk:Nat}{d:Option Tmp}{ty:TypeId}{pos:String}{af:Array Edge}{ts:Array TypeId}{x y z:Operand} :
  apz ⟨d, .call { callee:=.builtin .max,args:=⟨[x,y,z]⟩,argTypes:=ts },ty,pos,af,none⟩ K ⟨f,rows,clk⟩=mx3 (aO f x) (aO f y) (aO f z) fun v=>K ⟨put f d v,rows,clk⟩:=rfl
section
variable {E:Env} {w0:World} {S0:dF} {n:Nat} {G:Gs}
theorem BG{id tl:Nat}{ops:Array Oper}{T:PS→Prop}{Q:Exit→Act→World→Prop}(fG:oL E n tl ops true=true)(T9:tl≠0){σ:PS}{a:Act}{w:World}
  (h:aK E ops.toList σ.clock 0 (ops.toList.take (ops.size-tl)) T ⟨σ.f,σ.rows,fun _ _=>False,fun _ _=>False⟩) (hR:Rel w0 S0 n G σ a w)
  (hT:∀σ' a' w',T σ'→Rel w0 S0 n G σ' a' w'→wpList E.P ops Q (ops.toList.drop (ops.size-tl)) a' w'):(Code.region id ops true).wp E.P Q a w:=by
 simp only [oL,Bool.and_eq_true,Bool.not_true,Bool.false_or]at fG
 obtain⟨agf,qU,fG⟩:=fG
 have hd:∀o,o∈ops → ∀t,o.dst=some t→t<n:=by
  intro o ho t ht
  have:=Array.all_eq_true_iff_forall_mem.1 agf o ho
  simpa [ht]using this
 refine wp_region_any E.mixed ?_
 have GN:=hR.drew
 have hU0:∀k (l:Array Bool),mZ w0 S0 n G (Ul E ops σ.clock k l) σ.f σ.rows a { w with drawn:=w.drawn+1 }:=fun k l=>GN.mono fun v hv => .inl hv
 have abk:∀(l:List Oper),rF E l=true → ∀(i:Nat) (oi:Oper),l[i]? = some oi→cW E oi.op=true→oi.dst.isSome=true:=fun l h i oi hi hn=>by
  have:=List.all_eq_true.1 h oi (List.mem_of_getElem? hi)
  rw [hn]at this;simp at this;exact Option.isSome_iff_exists.2 (by obtain⟨x,hx⟩:=Option.isSome_iff_exists.1 this.1;exact⟨x,hx⟩)
 rw [if_neg T9]at fG qU
 have mY:∀i oi,i<ops.size-tl→ops[i]? = some oi→cW E oi.op=true→oi.dst.isSome=true:=fun i oi h1 hi=>abk _ qU i oi (by rw [List.getElem?_take,if_pos h1];simpa using hi)
 simp only [Bool.and_eq_true,decide_eq_true_eq]at fG
 obtain⟨hle,hB⟩:=fG
 simp only [Region.lexTailB,Bool.and_eq_true,decide_eq_true_eq]at hB
 obtain⟨⟨⟨⟨ar5,AG⟩,hs⟩,hc⟩,agh⟩:=hB
 have hl:=mH (c0:=σ.clock) (ops.toList.take (ops.size-tl)) 0 _ _ (fun j hj=>by
  have hj':j<ops.size-tl:=by simpa using hj
  simp [hj']) qU (by simp [rk]) h
 have VF:HeadInv .any ops (ops.size-tl) (Array.replicate ops.size false):=
  ⟨by simp,fun j oj _ hl=>(by rw [getD_replicate_false]at hl;cases hl),fun t _ ht=>getD_in (by simpa using ht) (getD_replicate_false _ _)⟩
 have wT:(ops.toList.take (ops.size-tl)).length=ops.size-tl:=by simp
 have VG:(ops.toList.drop (ops.size-tl)).length=ops.size-(ops.size-tl):=by simp
 have H:=pM (E:=E) (md:=.any) (n:=ops.size-tl) (g:=ops.size-(ops.size-tl)) mY (fun aZ inv i hi JZ t ht=>tail_waits hs hc AG inv _ i rfl hi JZ t ht) (ops.toList.take (ops.size-tl)) 0 _ _ (fun j hj=>by
  rw [wT]at hj
  simp [hj]) (by rw [wT];simp) VF (by rw [wT];exact agh) hl
 have:=jT (E:=E) (md:=.any) (g:=ops.size-(ops.size-tl)) (Q:=Q) (m:=n) hd (fun aZ st a' w' hL jZ=>by
  obtain⟨h1,h2⟩:=hL
  have h3:=hT _ a' w' h2 (jZ.mono fun v hv=>by have:=K2 hv;simpa using this)
  have h4:=wpAny_of_seq (md:=.any) (Q':=Q) (ops.toList.drop (ops.size-tl)) (ops.size-tl) aZ a' w' (fun j=>by simp [List.getElem?_drop]) (by rw [VG];exact h1) h3
  rwa [VG]at h4) _ _ _ _ _ (by simp) H (hU0 _ _)
 rw [wT,show ops.size-tl+(ops.size-(ops.size-tl))=ops.size by omega]at this
 exact this
end
theorem W.apB{E:Env}{n:Nat}{tl:Nat→Nat}{Q:PX→PS→Prop}{f:Nat→PV}{rows:Rows}{clk:Nat}{id:Nat}{ops:List Oper}{y:Code}(m:Nat){o:Oper}{r:List Oper}(hm:tl id=m+1)(ho:ops.drop (ops.length-(m+1))=o::r)(hg:o.guard=none)
  (h:∀K:PS→Prop,(∀σ,W E n tl y Q σ→K σ)→go (aK E ops clk 0 (ops.take (ops.length-(m+1))) (fun σ=>A9 E o (aI E ops r K) σ) ⟨f,rows,fun _ _=>False,fun _ _=>False⟩)):W E n tl (.seq (.region id ops.toArray true) y) Q ⟨f,rows,clk⟩:=by
 refine W.seq ?_
 intro fG w0 S0 G a w Q' hR hQ
 have ajf:oL E n (tl id) ops.toArray true=true:=by simpa [eA]using fG
 have hd:∀o∈ops,∀t,o.dst=some t→t<n:=fun o ho t ht=>by
  simp only [oL,Bool.and_eq_true]at ajf
  have:=Array.all_eq_true_iff_forall_mem.1 ajf.1 o (by simpa using ho)
  simpa [ht]using this
 have h1:=h (fun σ=>W E n tl y Q σ) fun _ h=>h
 have mG:∀x∈o::r,x∈ops:=fun x hx=>by rw [←ho]at hx;exact List.mem_of_mem_drop hx
 refine BG (T:=fun σ=>A9 E o (aI E ops r (fun σ=>W E n tl y Q σ)) σ) ajf (by omega) (by rw [hm];exact h1) hR fun σ' a' w' hT jZ=>?_
 rw [hm]
 have e:ops.toArray.toList.drop (ops.toArray.size-(m+1))=o::r:=by simpa using ho
 rw [e]
 unfold wpList
 rw [if_pos (by simp [Region.wanted,hg])]
 refine .inl (rU hT jZ (hd o (mG o (by simp))) fun σ2 a2 w2 hk hR2=>?_)
 exact fV (E:=E) (ops:=ops.toArray) (fun σ3 a3 w3 hk3 hR3=>hQ .normal σ3 a3 w3 hk3 hR3) _ σ2 a2 w2 (fun o ho=>hd o (mG o (by simp [ho]))) hk hR2
end Pm
namespace Go.Proofs.YtiobceocpabjdaaGreat
open Go Pm
open ZX hiding N W
theorem QL{α β:Type}{c:Prop}[Decidable c](f g:α→β)(x:α):(if c then f else g) x=if c then f x else g x:=by split<;>rfl
def C7(v:Rat→Nat):Nat→Rat→Rat→List (Rat × Rat)
 | 0,lo,hi=>if v lo=v hi then []else [(lo,hi)]
 | k+1,lo,hi=>if v lo=v hi then []else if v lo=v hi+1 then [(lo,hi)]else C7 v k lo ((lo+hi)/2)++C7 v k ((lo+hi)/2) hi
theorem zZ{lo hi:Rat}(h:lo<hi):lo<(lo+hi)/2∧(lo+hi)/2<hi:=by
 have h1:(lo+hi)/2*2=lo+hi:=Rat.div_mul_cancel (by decide)
 exact⟨by grind,by grind⟩
theorem pH{lo hi δ:Rat}{k:Nat}(h:hi-lo≤δ*2^(k+1)):(lo+hi)/2-lo≤δ*2^k∧hi-(lo+hi)/2≤δ*2^k:=by
 have h1:(lo+hi)/2*2=lo+hi:=Rat.div_mul_cancel (by decide)
 rw [Rat.pow_succ]at h
 generalize (2:Rat)^k=p at *
 exact⟨by grind,by grind⟩
structure Gr(D:Nat)(B:Rat)(j:Nat)(q:Rat):Prop where
 z:∃z:Int,q*((D*2^j:Nat):Int)=(z:Rat)
 b:Ab q B
theorem Gr.mono{D:Nat}{B q:Rat}{i j:Nat}(h:Gr D B i q)(T6:i≤j):Gr D B j q:=by
 obtain⟨⟨z,hz⟩,hb⟩:=h
 obtain⟨k,rfl⟩:∃k,j=i+k:=⟨j-i,by omega⟩
 refine⟨⟨z*(2^k:Nat),?_⟩,hb⟩
 rw [Rat.intCast_mul,←hz,Nat.pow_add,←Nat.mul_assoc,Int.natCast_mul (D*2^i),Rat.intCast_mul]
 grind
theorem Gr.H7{D:Nat}{B p q:Rat}{j:Nat}(hp:Gr D B j p)(hq:Gr D B j q):Gr D B (j+1) ((p+q)/2):=by
 obtain⟨⟨y,hy⟩,b1,b2⟩:=hp
 obtain⟨⟨z,hz⟩,b3,b4⟩:=hq
 have h1:(p+q)/2*2=p+q:=Rat.div_mul_cancel (by decide)
 refine⟨⟨y+z,?_⟩,by grind,by grind⟩
 rw [Rat.intCast_add,←hy,←hz,Nat.pow_succ,←Nat.mul_assoc,Int.natCast_mul (D*2^j),Rat.intCast_mul]
 have h2:(((2:Nat):Int):Rat)=2:=rfl
 rw [h2]
 generalize (((D*2^j:Nat):Int):Rat)=M at *
 grind
theorem Gr.sq{D d β j:Nat}{q:Rat}(h:Gr D (2^β) j q)(h0:1≤D)(hD:D≤2^d):SQ (β+d+j+1) q:=by
 obtain⟨⟨z,hz⟩,hb⟩:=h
 have hM:1≤D*2^j:=Nat.mul_pos h0 (Nat.two_pow_pos _)
 have hM2:D*2^j≤2^(d+j):=by rw [Nat.pow_add];exact Nat.mul_le_mul_right _ hD
 have hMq:(0:Rat)<(((D*2^j:Nat):Int):Rat):=Rat.intCast_pos.2 (by omega)
 have hzb:z.natAbs≤2^(β+d+j):=by
  have h1:Ab (z:Rat) (((2^β*(D*2^j):Nat):Int):Rat):=by
   rw [←hz,Int.natCast_mul (2^β),Rat.intCast_mul,FP]
   exact hb.mul ⟨by grind,Rat.le_refl⟩
  obtain⟨h2,h3⟩:=h1
  rw [←Rat.intCast_neg]at h2
  have h4:=Rat.intCast_le_intCast.1 h2
  have h5:=Rat.intCast_le_intCast.1 h3
  have h6:2^β*(D*2^j)≤2^(β+d+j):=by
   rw [Nat.add_assoc,Nat.pow_add];exact Nat.mul_le_mul_left _ hM2
  omega
 have e:=NC (n:=z) (d:=((D*2^j:Nat):Int)) (by omega) hz.symm
 have qF:((D*2^j:Nat):Int)≠0:=by omega
 have hnn:=nK z ((D*2^j:Nat):Int) qF
 have GM:=nM z ((D*2^j:Nat):Int) qF
 rw [if_neg (by omega)]at hnn GM
 rw [e]at hnn GM
 have b1:q.num.natAbs≤z.natAbs:=by rw [hnn];exact Int.natAbs_ediv_le_natAbs _ _
 have b2:((q.den:Int)).natAbs≤D*2^j:=by rw [GM];exact Nat.le_trans (Int.natAbs_ediv_le_natAbs _ _) (by omega)
 have hp:∀i,2^i<2^(i+1):=fun i=>Nat.pow_lt_pow_right (by decide) (by omega)
 refine⟨dN (by decide) (Nat.lt_of_le_of_lt (Nat.le_trans b1 hzb) (hp _)),dN (by decide) (Nat.lt_of_le_of_lt (Nat.le_trans b2 hM2) ?_),by omega⟩
 exact Nat.pow_lt_pow_right (by decide) (by omega)
structure Cut(v:Rat→Nat)(B δ:Rat):Prop where
 iY:∀a b,a≤b→v b≤v a
 A7:∀a b,Ab a B→Ab b B→a<b→b-a≤δ→v a≤v b+1
theorem Cut.leaf{v:Rat→Nat}{B δ:Rat}(C:Cut v B δ){lo hi:Rat}(BJ:Ab lo B)(QS:Ab hi B)(h:lo<hi)(hd:hi-lo≤δ)(qF:v lo≠v hi):v lo=v hi+1:=by
 have:=C.A7 lo hi BJ QS h hd
 have:=C.iY lo hi (Rat.le_of_lt h)
 omega
theorem nQ{v:Rat→Nat}{D:Nat}{B δ:Rat}(C:Cut v B δ):∀(k j:Nat) (lo hi:Rat),Gr D B j lo→Gr D B j hi→lo<hi→hi-lo≤δ*2^k →
  (∀p∈C7 v k lo hi,Gr D B (j+k) p.1∧Gr D B (j+k) p.2∧lo≤p.1∧p.1<p.2∧p.2≤hi∧v p.1=v p.2+1)∧(C7 v k lo hi).length=v lo-v hi∧(C7 v k lo hi).Pairwise fun p q=>p.2≤q.1
 | 0,j,lo,hi,g1,g2,h,hd=>by
  rw [C7]
  split
  ·rename_i he
   exact⟨fun p hp=>absurd hp List.not_mem_nil,by rw [he];simp,List.Pairwise.nil⟩
  ·rename_i he
   have:=C.leaf g1.b g2.b h (by rw [Rat.pow_zero,Rat.mul_one]at hd;exact hd) he
   refine⟨fun p hp=>?_,by simp;omega,List.pairwise_singleton _ _⟩
   rw [List.mem_singleton]at hp;subst hp
   exact⟨g1,g2,Rat.le_refl,h,Rat.le_refl,this⟩
 | k+1,j,lo,hi,g1,g2,h,hd=>by
  rw [C7]
  split
  ·rename_i he
   exact⟨fun p hp=>absurd hp List.not_mem_nil,by rw [he];simp,List.Pairwise.nil⟩
  ·rename_i he
   split
   ·rename_i TJ
    refine⟨fun p hp=>?_,by simp;omega,List.pairwise_singleton _ _⟩
    rw [List.mem_singleton]at hp;subst hp
    exact⟨g1.mono (by omega),g2.mono (by omega),Rat.le_refl,h,Rat.le_refl,TJ⟩
   ·obtain⟨m1,m2⟩:=zZ h
    obtain⟨d1,d2⟩:=pH hd
    have gm:=g1.H7 g2
    obtain⟨a1,a2,a3⟩:=nQ C k (j+1) lo ((lo+hi)/2) (g1.mono (by omega)) gm m1 d1
    obtain⟨b1,b2,b3⟩:=nQ C k (j+1) ((lo+hi)/2) hi gm (g2.mono (by omega)) m2 d2
    have n1:=C.iY lo ((lo+hi)/2) (Rat.le_of_lt m1)
    have n2:=C.iY ((lo+hi)/2) hi (Rat.le_of_lt m2)
    rw [show j+1+k=j+(k+1)by omega]at a1 b1
    generalize (lo+hi)/2=m at *
    refine⟨fun p hp=>?_,by rw [List.length_append,a2,b2];omega,List.pairwise_append.2 ⟨a3,b3,fun p hp q hq=>?_⟩⟩
    ·rcases List.mem_append.1 hp with hp | hp
     ·obtain⟨c1,c2,c3,c4,c5,c6⟩:=a1 p hp
      exact⟨c1,c2,c3,c4,by grind,c6⟩
     ·obtain⟨c1,c2,c3,c4,c5,c6⟩:=b1 p hp
      exact⟨c1,c2,by grind,c4,c5,c6⟩
    ·obtain⟨c1,c2,c3,c4,c5,c6⟩:=a1 p hp
     obtain⟨d1,d2,d3,d4,d5,d6⟩:=b1 q hq
     grind
theorem SQ.mono{u w:Nat}{q:Rat}(h:SQ u q)(hu:u≤w):SQ w q:=⟨Nat.le_trans h.n2 hu,Nat.le_trans h.d2 hu,Nat.le_trans h.hu hu⟩
theorem SQ.LLs{u:Nat}{q:Rat}(h:SQ u q){k:Nat}(hu:u≤k):sz LL q.num≤k∧sz LL (q.den:Int)≤k:=⟨Nat.le_trans h.nL hu,Nat.le_trans h.dL hu⟩
theorem SQ.LLt{u:Nat}{q:Rat}(h:SQ u q){k:Nat}(hu:u<k):sz LL q.num<k∧sz LL (q.den:Int)<k:=⟨Nat.lt_of_le_of_lt h.nL hu,Nat.lt_of_le_of_lt h.dL hu⟩
structure pI(s n:Nat)(f:ZX):Prop where
 lay:tY s n f
 JA:1≤n
 nf:Nf f
 sq:Go.Proofs.YtiobceocpabjdaaGreat.sq f=f
 hs:s≤5000000
namespace pI
variable {s n:Nat} {f:ZX} (I:pI s n f)
include I
theorem ch:Ch s n f:=⟨I.lay.bz,I.lay.hn,I.JA,Nat.le_trans (Nat.mul_le_mul_right _ (by unfold qb;omega)) I.lay.hC⟩
theorem s1:1≤s:=by
 have h1:=I.lay.hs
 have h2:=I.JA
 rcases Nat.eq_zero_or_pos s with h | h
 ·rw [h]at h1;simp at h1;omega
 ·exact h
theorem hb:∀p∈bE f,BZ 4500000000 n p:=I.ch.all.1
theorem hl:(bE f).length≤21:=I.ch.all.2
theorem gz1:gz f (b6 f)=1:=by
 have:=Z9 I.nf.ne
 rwa [I.sq]at this
theorem cop:Cop f (b6 f):=fun d h1 h2=>by
 have h3:=(kX f (b6 f)).least h1 h2
 rw [I.gz1]at h3
 have:=h3.pB ZX.zC
 rwa [ZX.CQ]at this
theorem zW:tP (bE f) f:=I.ch.zW I.nf.ne I.gz1
theorem S:SqF f (vt (bE f)):=⟨I.nf.ne,I.cop,_,I.zW,rfl⟩
theorem szf:∀c∈f.l,c.natAbs≤2^s:=fun c hc=>by
 have h1:=lH (b:=2) (by decide) c
 have h2:=Nat.pow_le_pow_right (show 0<2 by decide) (I.ch.bz.sz c hc)
 omega
theorem cut(β:Nat):∃δ:Rat,0<δ∧δ*2^lk s n 5 β=1∧Cut (vt (bE f)) (2^β) δ:=by
 obtain⟨δ,h1,h2⟩:=aah (lk s n 5 β)
 have hn:=I.ch.hn
 obtain⟨h3,_⟩:=C6 I.zW (s:=s) (n:=n) (l:=5) (β:=β) I.nf.ne I.szf I.ch.bz.N (by omega) I.cop (by rw [h2];exact Rat.le_refl)
 refine⟨δ,h1,h2,fun a b fN=>I.zW.iY fN,fun a b ha hb fN hd=>?_⟩
 have:=h3.turns a b ha hb fN hd
 rcases aai f a b with h4 | h4<;>omega
end pI
section
variable {c:List ZX} {n u:Nat} {p q:Rat} (hb:∀p∈c,BZ 4500000000 n p) (hn:n≤20) (hl:c.length≤21) (hp:SQ u p) (hq:SQ u q) (hu:u≤1000000000)
include hb hn hl hp hq hu
theorem FR:aL env.P 88 [CH c,RT p,RT q] (.int .i64 (if q<p then 0 else(vt c p:Int)-vt c q)):=by
 have z1:=C2 hq.nL hq.dL hp.nL hp.dL (by omega) (fM q) (fM p) ⟨hq.nL,hq.dL⟩ ⟨hp.nL,hp.dL⟩
 have b1:=E9 (by omega) z1 (FB hb hn hl hp hu) (FB hb hn hl hq hu)
 rw [r7,r7]at b1
 simp only [iW]at b1
 exact b1
theorem ajg:aL env.P 76 [aQ zq c,RR p,RR q] (.int .i64 (if q<p then 0 else(vt c p:Int)-vt c q)):=by
 have yy:∀ {v:Int},sz 2 v≤u→sz 2 v≤YY:=fun h=>by simp only [YY];omega
 have b1:=JF (yy hp.n2) (yy hp.d2) (yy hq.n2) (yy hq.d2) (by omega) (Z6 hb hn hl hp hu) (Z6 hb hn hl hq hu)
 have hcm:(q.num*(p.den:Int)<p.num*(q.den:Int))=(q<p):=propext (by rw [←iW];exact mI.symm)
 rw [r7,r7]at b1
 simp only [hcm]at b1
 rw [eP,eP]
 exact b1
end
abbrev tc(q:Rat):List PV:=[.bool (decide (q.num<0)),us (aY LL q.num.natAbs), .bool (decide ((q.den:Int)<0)),us (aY LL (q.den:Int).natAbs)]
def ga(f:ZX)(p:Rat × Rat):List PV:=Po f.l::(tc p.1++tc p.2)
@[simp] theorem auh{f:ZX}{p:Rat × Rat}:ga f p=Po f.l::(tc p.1++tc p.2):=rfl
@[simp] theorem uV{f:ZX}{l:List (Rat × Rat)}:bB 9 (emap (ga f) l)=True:=cJ fun _=>rfl
@[simp] theorem ajh{v e n:Nat}{f:ZX}{l:List (Rat × Rat)}:cK (some ⟨v,e,n,emap (ga f) l⟩)=True:=cC fun _=>rfl
theorem xG{f:ZX}{l:List (Rat × Rat)}:∀x∈emap (ga f) l,∀p∈x,bU p=true:=fun x hx p hp=>by
 simp only [emap,List.mem_map]at hx
 obtain⟨r,_,rfl⟩:=hx
 simp at hp
 rcases hp with rfl | rfl | rfl | rfl | rfl | rfl | rfl | rfl | rfl<;>rfl
theorem z0{f:ZX}{c:List ZX}{lo hi:Rat}:i0 env.P 72 [Po f.l,CH c,RT lo,RT hi, .int .i64 0] 54 9 []:=by
 show i0 env.P _ [Po f.l, .rd [aQ zp c],T2 lo.num lo.den,T2 hi.num hi.den, .int .i64 0] _ _ _
 generalize lo.num=ln at *
 generalize (lo.den:Int)=ld at *
 generalize hi.num=hn at *
 generalize (hi.den:Int)=hd at *
 generalize aQ zp c=X at *
 refine nG (E:=env) (fun id=>if id=5 then 2 else if id=8 then 2 else 0) (t:=10) [(0,Po f.l),(1, .rd [X]),(2,T2 ln ld),(3,T2 hn hd),(4, .int .i64 0)] Tryz.func72 rfl (by kernel_rfl) (by kernel_rfl) (show 5≤48 by decide) rfl (by simp) ?_
 refine aA [0,1,4,7,8] ?_
 refine aR [0,1,4,7,8,13] ?_
 refine W.block ?_
 refine aA [0,1,4,7,8,13,14] ?_
 refine bP ?_ ?_<;>intro h
 ·refine aA [10] ?_
  refine W.nil 10 10 54 9 (by simp) (by decide) (fun K hK=>?_)
  simp
  refine hK _ ?_
  refine W.ret ?_
  exact⟨10,_,by simp;exact rfl,by simp,fun x hx=>by cases hx⟩
 ·simp at h
theorem adw{s n:Nat}{f:ZX}(I:pI s n f){c:List ZX}{lo hi:Rat}{u:Nat}(q1:SQ u lo)(q2:SQ u hi)(hu:u≤1000000000):i0 env.P 72 [Po f.l,CH c,RT lo,RT hi, .int .i64 1] 54 9 (emap (ga f) [(lo,hi)]):=by
 have N1:=gC (x:=f.l) (I.ch.bz.pb (by have:=I.hs;omega) (by have:=I.ch.hn;omega))
 rw [f.c]at N1
 obtain⟨l1,l2⟩:=q1.LLt (show u<1099511627770 by omega)
 obtain⟨l3,l4⟩:=q2.LLt (show u<1099511627770 by omega)
 have M1:=tQ l1 l2
 have M2:=tQ l3 l4
 rw [fM]at M1 M2
 rw [show emap (ga f) [(lo,hi)] = [Po f.l::(tc lo++tc hi)]from rfl]
 show i0 env.P _ [Po f.l, .rd [aQ zp c],T2 lo.num lo.den,T2 hi.num hi.den, .int .i64 1] _ _ _
 replace M1:aL env.P 90 [T2 lo.num lo.den, .sl []] (T2 lo.num lo.den):=M1
 replace M2:aL env.P 90 [T2 hi.num hi.den, .sl []] (T2 hi.num hi.den):=M2
 clear l1 l2 l3 l4 q1 q2
 simp only [tc]
 generalize lo.num=ln at *
 generalize (lo.den:Int)=ld at *
 generalize hi.num=hn at *
 generalize (hi.den:Int)=hd at *
 generalize aQ zp c=X at *
 refine nG (E:=env) (fun id=>if id=5 then 2 else if id=8 then 2 else 0) (t:=10) [(0,Po f.l),(1, .rd [X]),(2,T2 ln ld),(3,T2 hn hd),(4, .int .i64 1)] Tryz.func72 rfl (by kernel_rfl) (by kernel_rfl) (show 5≤48 by decide) rfl (by simp) ?_
 refine aA [0,1,4,7,8] ?_
 refine aR [0,1,4,7,8,13] ?_
 refine W.block ?_
 refine aA [0,1,4,7,8,13,14] ?_
 refine bP ?_ ?_<;>intro h
 ·simp at h
 ·refine aA [0,1,4,7,8,16] ?_
  refine bP ?_ ?_<;>intro h
  ·refine W.apB 1 rfl rfl rfl (fun K hK=>?_)
   simp (disch:=omega) [gw]
   refine cX N1 ?_
   refine cX M1 ?_
   refine cX M2 ?_
   refine W.lw [10] hK ?_;clear hK K;simp
   refine W.ret ?_
   exact⟨25,_,by simp;exact rfl,by simp,fun x hx p hp=>by
    simp at hx;subst hx
    simp at hp
    rcases hp with rfl | rfl | rfl | rfl | rfl | rfl | rfl | rfl | rfl<;>rfl⟩
  ·simp at h
theorem aaj{f:ZX}{c:List ZX}{lo hi:Rat}{n k:Int}{la lb:List (Rat × Rat)}(hn:2≤n∧n≤21)(hk:0≤k∧k≤n)(L3:la.length≤21)(hlb:lb.length≤21)
  (M:aL env.P 91 [RT lo,RT hi] (RT ((lo+hi)/2))) (B:aL env.P 88 [CH c,RT lo,RT ((lo+hi)/2)] (.int .i64 k))
  (h1:i0 env.P 72 [Po f.l,CH c,RT lo,RT ((lo+hi)/2), .int .i64 k] 54 9 (emap (ga f) la)) (h2:i0 env.P 72 [Po f.l,CH c,RT ((lo+hi)/2),RT hi, .int .i64 (n-k)] 54 9 (emap (ga f) lb)) :
  i0 env.P 72 [Po f.l,CH c,RT lo,RT hi, .int .i64 n] 54 9 (emap (ga f) (la++lb)):=by
 rw [←HL]
 have el1:(emap (ga f) la).length≤21:=by simpa [emap]using L3
 have el2:(emap (ga f) lb).length≤21:=by simpa [emap]using hlb
 have p1:=xG (f:=f) (l:=la)
 have p2:=xG (f:=f) (l:=lb)
 have a1:bB 9 (emap (ga f) la)=True:=uV
 have a2:bB 9 (emap (ga f) lb)=True:=uV
 show i0 env.P _ [Po f.l, .rd [aQ zp c],T2 lo.num lo.den,T2 hi.num hi.den, .int .i64 n] _ _ _
 replace M:aL env.P 91 [T2 lo.num lo.den,T2 hi.num hi.den] (T2 ((lo+hi)/2).num ((lo+hi)/2).den):=M
 replace B:aL env.P 88 [.rd [aQ zp c],T2 lo.num lo.den,T2 ((lo+hi)/2).num ((lo+hi)/2).den] (.int .i64 k):=B
 replace h1:i0 env.P 72 [Po f.l, .rd [aQ zp c],T2 lo.num lo.den,T2 ((lo+hi)/2).num ((lo+hi)/2).den, .int .i64 k] 54 9 (emap (ga f) la):=h1
 replace h2:i0 env.P 72 [Po f.l, .rd [aQ zp c],T2 ((lo+hi)/2).num ((lo+hi)/2).den,T2 hi.num hi.den, .int .i64 (n-k)] 54 9 (emap (ga f) lb):=h2
 generalize ((lo+hi)/2).num=mn at *
 generalize (((lo+hi)/2).den:Int)=md at *
 generalize lo.num=ln at *
 generalize (lo.den:Int)=ld at *
 generalize hi.num=AG at *
 generalize (hi.den:Int)=hd at *
 generalize aQ zp c=X at *
 generalize emap (ga f) la=ea at *
 generalize emap (ga f) lb=eb at *
 have w1:IntKind.wrap .i64 (n-k)=n-k:=wrap_i64 (by omega) (by omega)
 refine nG (E:=env) (fun id=>if id=5 then 2 else if id=8 then 2 else 0) (t:=10) [(0,Po f.l),(1, .rd [X]),(2,T2 ln ld),(3,T2 AG hd),(4, .int .i64 n)] Tryz.func72 rfl (by kernel_rfl) (by kernel_rfl) (show 5≤48 by decide) rfl (by simp) ?_
 refine aA [0,1,4,7,8] ?_
 refine aR [0,1,4,7,8,13] ?_
 refine W.block ?_
 refine aA [0,1,4,7,8,13,14] ?_
 refine bP ?_ ?_<;>intro h
 ·simp at h;omega
 ·refine aA [0,1,4,7,8,16] ?_
  refine bP ?_ ?_<;>intro h
  ·simp at h;omega
  ·refine W.skip ?_
   refine a7 [0,1,4,7,8,11] M ?_
   refine a7 [0,1,4,7,8,11,12] B ?_
   refine W.sd ?_
   rw [show(if 8=5 then 2 else if 8=8 then 2 else 0)=1+1 from rfl,eH]
   simp (disch:=omega) [gw]
   refine OQ h1 rfl trivial ?_
   simp (disch:=omega) [gw,w1,QL]
   refine OQ h2 rfl trivial ?_
   simp (disch:=omega) [gw,a1,a2,QL]
   refine bM [10] ?_
   refine W.ret ?_
   exact⟨38,5,by simp,by simp,fun x hx=>by
    rcases List.mem_append.1 hx with hx | hx
    ·exact p1 x hx
    ·exact p2 x hx⟩
theorem JP{s n:Nat}{f:ZX}(I:pI s n f){D d β J:Nat}{δ:Rat}(CN:1≤D)(hD:D≤2^d)(C:Cut (vt (bE f)) (2^β) δ)(hu:β+d+J+1≤1000000000):∀(k j:Nat) (lo hi:Rat),j+k≤J→Gr D (2^β) j lo→Gr D (2^β) j hi→lo<hi→hi-lo≤δ*2^k →
  i0 env.P 72 [Po f.l,CH (bE f),RT lo,RT hi, .int .i64 ((vt (bE f) lo:Int)-vt (bE f) hi)] 54 9 (emap (ga f) (C7 (vt (bE f)) k lo hi)):=by
 have leaf:∀(j:Nat) (lo hi:Rat),j≤J→Gr D (2^β) j lo→Gr D (2^β) j hi→vt (bE f) lo=vt (bE f) hi+1→i0 env.P 72 [Po f.l,CH (bE f),RT lo,RT hi, .int .i64 ((vt (bE f) lo:Int)-vt (bE f) hi)] 54 9 (emap (ga f) [(lo,hi)]):=fun j lo hi hj g1 g2 he=>by
  rw [show(vt (bE f) lo:Int)-vt (bE f) hi=1 by omega]
  exact adw I ((g1.mono hj).sq CN hD) ((g2.mono hj).sq CN hD) hu
 have afF:∀(lo hi:Rat),vt (bE f) lo=vt (bE f) hi→i0 env.P 72 [Po f.l,CH (bE f),RT lo,RT hi, .int .i64 ((vt (bE f) lo:Int)-vt (bE f) hi)] 54 9 (emap (ga f) []):=fun lo hi he=>by
  rw [show(vt (bE f) lo:Int)-vt (bE f) hi=0 by omega]
  exact z0
 intro k
 induction k with
 | zero =>
  intro j lo hi hj g1 g2 fS hd
  rw [C7]
  by_cases he:vt (bE f) lo=vt (bE f) hi
  ·rw [if_pos he];exact afF lo hi he
  ·rw [if_neg he];exact leaf j lo hi (by omega) g1 g2 (C.leaf g1.b g2.b fS (by rw [Rat.pow_zero,Rat.mul_one]at hd;exact hd) he)
 | succ k ih =>
  intro j lo hi hj g1 g2 fS hd
  rw [C7]
  by_cases he:vt (bE f) lo=vt (bE f) hi
  ·rw [if_pos he];exact afF lo hi he
  ·rw [if_neg he]
   by_cases TJ:vt (bE f) lo=vt (bE f) hi+1
   ·rw [if_pos TJ];exact leaf j lo hi (by omega) g1 g2 TJ
   ·rw [if_neg TJ]
    obtain⟨m1,m2⟩:=zZ fS
    obtain⟨d1,d2⟩:=pH hd
    have gm:=g1.H7 g2
    have n1:=C.iY lo ((lo+hi)/2) (Rat.le_of_lt m1)
    have n2:=C.iY ((lo+hi)/2) hi (Rat.le_of_lt m2)
    have hv1:=Nat.le_trans (QG (bE f) lo) I.hl
    obtain⟨_,a2,_⟩:=nQ C k (j+1) lo ((lo+hi)/2) (g1.mono (by omega)) gm m1 d1
    obtain⟨_,b2,_⟩:=nQ C k (j+1) ((lo+hi)/2) hi gm (g2.mono (by omega)) m2 d2
    have r1:=ih (j+1) lo ((lo+hi)/2) (by omega) (g1.mono (by omega)) gm m1 d1
    have r2:=ih (j+1) ((lo+hi)/2) hi (by omega) gm (g2.mono (by omega)) m2 d2
    have q1:SQ (β+d+J+1) lo:=(g1.mono (by omega)).sq CN hD
    have q2:SQ (β+d+J+1) hi:=(g2.mono (by omega)).sq CN hD
    have q3:SQ (β+d+J+1) ((lo+hi)/2):=(gm.mono (by omega)).sq CN hD
    have hM:=JN (q1.LLs (Nat.le_refl _)) (q2.LLs (Nat.le_refl _)) (by omega)
    have hB:=FR I.hb I.ch.hn I.hl q1 q3 hu
    rw [if_neg (Rat.not_lt.2 (Rat.le_of_lt m1))]at hB
    refine aaj (n:=(vt (bE f) lo:Int)-vt (bE f) hi) (k:=(vt (bE f) lo:Int)-vt (bE f) ((lo+hi)/2)) (by omega) (by omega) (by omega) (by omega) hM hB r1 ?_
    rw [show(vt (bE f) lo:Int)-vt (bE f) hi-((vt (bE f) lo:Int)-vt (bE f) ((lo+hi)/2))=(vt (bE f) ((lo+hi)/2):Int)-vt (bE f) hi by omega]
    exact r2
end Go.Proofs.YtiobceocpabjdaaGreat
namespace Go.Proofs.YtiobceocpabjdaaGreat
open Go Pm
open ZX hiding N W
theorem SQ.cmp{u:Nat}{p q:Rat}(hp:SQ u p)(hq:SQ u q)(hu:u≤YY):aL env.P 14 [RR p,RR q] (.int .i64 (dJ (p.num*q.den) (q.num*p.den))):=by
 rw [eP,eP]
 exact uQ _ _ _ _ (Nat.le_trans hp.n2 hu) (Nat.le_trans hp.d2 hu) (Nat.le_trans hq.n2 hu) (Nat.le_trans hq.d2 hu)
theorem SQ.tor{u:Nat}{p:Rat}(hp:SQ u p)(hu:u≤YY):aL env.P 23 [RR p] (RT p):=by
 rw [eP]
 have h1:=hp.n2;have h2:=hp.d2
 exact adj (by simp only [Z,YY]at *;omega) (by simp only [Z,YY]at *;omega)
def l1(x:List Int):Nat:=(x.map Int.natAbs).sum
theorem jV(a:Int)(x:List Int):l1 (a::x)=a.natAbs+l1 x:=by simp [l1]
theorem aak:l1 []=0:=rfl
theorem NL:∀x:List Int,l1 (aM x)≤l1 x
 | []=>Nat.le_refl _
 | a::x=>by
  have:=NL x
  rw [aM]
  split
  ·rw [aak];omega
  ·rw [jV,jV];omega
theorem z5{α:Type}(f g:α→Int):∀l:List α,l1 (l.map fun k=>f k+g k)≤l1 (l.map f)+l1 (l.map g)
 | []=>Nat.le_refl _
 | x::l=>by
  have:=z5 f g l
  simp only [List.map_cons,jV]
  omega
theorem r9:∀(x:List Int) (n:Nat),l1 (x++List.replicate n 0)=l1 x
 | [],n=>by simp [l1]
 | a::x,n=>by rw [List.cons_append,jV,jV,r9 x n]
theorem adx(x y:List Int):l1 (gB x y)≤l1 x+l1 y:=by
 have h1:=z5 (nth x) (nth y) (List.range (max x.length y.length))
 rw [mJ (by omega),mJ (by omega),r9,r9]at h1
 exact Nat.le_trans (NL _) h1
theorem aal(a:Int):∀y:List Int,l1 (y.map fun c=>c*a)=a.natAbs*l1 y
 | []=>by simp [l1]
 | c::y=>by rw [List.map_cons,jV,jV,aal a y,Int.natAbs_mul,Nat.mul_add,Nat.mul_comm]
theorem JQ:∀x y:List Int,l1 (eZ x y)≤l1 x*l1 y
 | [],y=>by rw [eZ,aak];omega
 | a::x,y=>by
  have h1:=JQ x y
  have h2:=adx (y.map fun c=>c*a) (0::eZ x y)
  rw [aal,jV]at h2
  rw [eZ,jV,Nat.add_mul]
  simp only [Int.natAbs_zero]at h2
  omega
def n1(a:ZX):Nat:=l1 a.l
theorem aji(a b:ZX):n1 (a*b)≤n1 a*n1 b:=Nat.le_trans (NL _) (JQ _ _)
theorem aam:∀ {x:List Int} {c:Int},c∈x→c.natAbs≤l1 x
 | a::x,c,h=>by
  rw [jV]
  rcases List.mem_cons.1 h with rfl | h
  ·omega
  ·have:=aam h;omega
theorem BZ.afG{s n:Nat}{a:ZX}(h:n1 a<2^s)(hn:ZX.N a≤n):BZ s n a:=⟨hn,fun c hc=>dN (by decide) (Nat.lt_of_le_of_lt (aam hc) h)⟩
theorem z6{S τ t:Rat}(hS:0≤S)(hτ:0<τ)(ht:j5 τ t):∀ {x:List Int},Cn x→0<x.length→(∀c∈x.dropLast,Ab (c:Rat) S)→S+(((lead x).natAbs:Int):Rat)≤(((lead x).natAbs:Int):Rat)*τ→j5 (((lead x).natAbs:Int):Rat) (qv t x)
 | [a],hc,_,_,_=>by
  have e1:qv t [a]=(a:Rat):=by simp only [qv];grind
  have e2:lead [a]=a:=rfl
  rw [e1,e2]
  by_cases h:0≤a
  ·right
   exact Rat.intCast_le_intCast.2 (by omega)
  ·left
   rw [←Rat.intCast_neg]
   exact Rat.intCast_le_intCast.2 (by omega)
 | a::b::l,hc,_,hb,hL=>by
  have hl:=cM (xB hc) (by simp)
  rw [uS]at hL ⊢
  have ih:=z6 hS hτ ht (xB hc) (by simp) (fun c hc=>hb c (by
   rw [List.dropLast_cons_of_ne_nil (by simp)];exact List.mem_cons_of_mem _ hc)) hL
  obtain⟨h4,h5⟩:=hb a (by rw [List.dropLast_cons_of_ne_nil (by simp)];simp)
  have e1:qv t (a::b::l)=a+t*qv t (b::l):=rfl
  have hp:(0:Rat)<(((lead (b::l)).natAbs:Int):Rat):=Rat.intCast_pos.2 (by omega)
  have hm:=j5.mul hτ hp ht ih
  rw [e1]
  generalize (((lead (b::l)).natAbs:Int):Rat)=L at *
  rcases hm with h | h
  ·left;grind
  ·right;grind
theorem nR{x:List Int}(cx:Cn x)(hx:x ≠ []){t:Rat}(ht:j5 (fP x) t):j5 1 (qv t x)∧1≤fP x:=by
 have nZ:=List.length_pos_iff.2 hx
 have hl:=cM cx nZ
 have hL:(1:Rat)≤(((lead x).natAbs:Int):Rat):=dW (by omega)
 have hm:(0:Rat)≤((oC x (x.length-1):Int):Rat):=Rat.intCast_nonneg.2 (aac _ _)
 have e:=ND cx hx
 have h2:=Rat.div_mul_cancel (a:=((oC x (x.length-1):Int):Rat)) (b:=(((lead x).natAbs:Int):Rat)) (by grind)
 have hw:(0:Rat)≤((oC x (x.length-1):Int):Rat)/(((lead x).natAbs:Int):Rat):=by
  refine Rat.not_lt.1 fun h=>?_
  have:=Rat.mul_le_mul_of_nonneg_left hL (show 0 ≤ -(((oC x (x.length-1):Int):Rat)/(((lead x).natAbs:Int):Rat))by grind)
  grind
 have h1:1≤fP x:=by rw [e];grind
 refine⟨(z6 hm (show 0<fP x by grind) ht cx nZ (fun c hc=>?_) ?_).mono hL,h1⟩
 ·obtain⟨k,hk,rfl⟩:=List.mem_iff_getElem.1 hc
  rw [List.length_dropLast]at hk
  have h3:=aad x (x.length-1) k hk
  rw [bZ (by omega)]at h3
  rw [List.getElem_dropLast]
  constructor
  ·rw [←Rat.intCast_neg]
   exact Rat.intCast_le_intCast.2 (by omega)
  ·exact Rat.intCast_le_intCast.2 (by omega)
 ·rw [e]
  generalize ((oC x (x.length-1):Int):Rat)/(((lead x).natAbs:Int):Rat)=w at *
  grind
abbrev rc(q:Rat):List PV:=[aQ aG (aY DD q.num.natAbs), .bool (decide (q.num<0)),aQ aG (aY DD (q.den:Int).natAbs), .bool (decide ((q.den:Int)<0))]
def qa(f:ZX)(c:List ZX)(p:Rat × Rat):List PV:=PI f.l::aQ zq c::(rc p.1++rc p.2)
@[simp] theorem aui{f:ZX}{c:List ZX}{p:Rat × Rat}:qa f c p=PI f.l::aQ zq c::(rc p.1++rc p.2):=rfl
@[simp] theorem alq{f:ZX}{c:List ZX}{l:List (Rat × Rat)}:bB 10 (emap (qa f c) l)=True:=cJ fun _=>rfl
@[simp] theorem ajj{v e n:Nat}{f:ZX}{c:List ZX}{l:List (Rat × Rat)}:cK (some ⟨v,e,n,emap (qa f c) l⟩)=True:=cC fun _=>rfl
abbrev QA(f:ZX)(c:List ZX)(p:Rat × Rat):PV:=.ag (qa f c p)
def ex(f:ZX)(p:Rat × Rat):Rat × Rat:=if e p.2 f=0 then(p.2,p.2)else p
theorem SQ.yy{u:Nat}{q:Rat}(h:SQ u q)(hu:u≤1000000000):ZR YY q:=⟨by have:=h.n2;simp only [YY];omega,by have:=h.d2;simp only [YY];omega⟩
theorem kZ{p q:Rat}:dJ (p.num*q.den) (q.num*p.den)=0↔p=q:=by
 have h1:=iW p q
 have h2:=iW q p
 rw [mI]at h1 h2
 refine⟨fun h=>?_,fun h=>?_⟩
 ·have h:=Pm.uF.1 h
  by_cases h3:p<q
  ·have:=h1.2 h3;omega
  ·rcases Rat.le_iff_lt_or_eq.1 (Rat.not_lt.1 h3)with h4 | h4
   ·have:=h2.2 h4;omega
   ·exact h4.symm
 ·rw [h];exact wU _
abbrev c4(n d:Int):List PV:=[aQ aG (aY DD n.natAbs), .bool (decide (n<0)),aQ aG (aY DD d.natAbs), .bool (decide (d<0))]
theorem NM{x:List Int}{c:List ZX}{ln ld hn hd z σ:Int}(hz:(z != 0)=false)(c1:aL env.P 14 [R2 ln ld,R2 hn hd] (.int .i64 z))(s1:aL env.P 77 [PI x,R2 hn hd] (.int .i64 σ)) :
  aL env.P 80 [.ag (PI x::aQ zq c::(c4 ln ld++c4 hn hd))] (.ag (PI x::aQ zq c::(c4 ln ld++c4 hn hd))):=by
 simp only [c4]
 refine cH [(0, .ag (PI x::aQ zq c :: [aQ aG (aY DD ln.natAbs), .bool (decide (ln<0)),aQ aG (aY DD ld.natAbs), .bool (decide (ld<0)),aQ aG (aY DD hn.natAbs), .bool (decide (hn<0)),aQ aG (aY DD hd.natAbs), .bool (decide (hd<0))]))] Tryz.func80 ?_
 refine aA [1,2] ?_
 refine W.seq ?_
 refine jM ?_
 refine aC c1 ?_
 simp (disch:=omega) [gw,hz]
 refine bM [1,2,16] ?_
 refine bP ?_ ?_<;>intro h
 ·simp at h
 ·refine W.skip ?_
  refine aA [2] ?_
  exact cR
theorem aan{x:List Int}{c:List ZX}{ln ld hn hd z σ:Int}(hz:(z != 0)=true)(hs:(σ==0)=false)(c1:aL env.P 14 [R2 ln ld,R2 hn hd] (.int .i64 z))(s1:aL env.P 77 [PI x,R2 hn hd] (.int .i64 σ)) :
  aL env.P 80 [.ag (PI x::aQ zq c::(c4 ln ld++c4 hn hd))] (.ag (PI x::aQ zq c::(c4 ln ld++c4 hn hd))):=by
 simp only [c4]
 refine cH [(0, .ag (PI x::aQ zq c :: [aQ aG (aY DD ln.natAbs), .bool (decide (ln<0)),aQ aG (aY DD ld.natAbs), .bool (decide (ld<0)),aQ aG (aY DD hn.natAbs), .bool (decide (hn<0)),aQ aG (aY DD hd.natAbs), .bool (decide (hd<0))]))] Tryz.func80 ?_
 refine aA [1,2] ?_
 refine W.seq ?_
 refine jM ?_
 refine aC c1 ?_
 simp (disch:=omega) [gw,hz]
 refine aC s1 ?_
 simp (disch:=omega) [gw,hs]
 refine bM [1,2,16] ?_
 refine bP ?_ ?_<;>intro h
 ·simp at h
 ·refine W.skip ?_
  refine aA [2] ?_
  exact cR
theorem TX{x:List Int}{c:List ZX}{ln ld hn hd z σ:Int}(hz:(z != 0)=true)(hs:(σ==0)=true)(c1:aL env.P 14 [R2 ln ld,R2 hn hd] (.int .i64 z))(s1:aL env.P 77 [PI x,R2 hn hd] (.int .i64 σ)) :
  aL env.P 80 [.ag (PI x::aQ zq c::(c4 ln ld++c4 hn hd))] (.ag (PI x::aQ zq c::(c4 hn hd++c4 hn hd))):=by
 simp only [c4]
 refine cH [(0, .ag (PI x::aQ zq c :: [aQ aG (aY DD ln.natAbs), .bool (decide (ln<0)),aQ aG (aY DD ld.natAbs), .bool (decide (ld<0)),aQ aG (aY DD hn.natAbs), .bool (decide (hn<0)),aQ aG (aY DD hd.natAbs), .bool (decide (hd<0))]))] Tryz.func80 ?_
 refine aA [1,2] ?_
 refine W.seq ?_
 refine jM ?_
 refine aC c1 ?_
 simp (disch:=omega) [gw,hz]
 refine aC s1 ?_
 simp (disch:=omega) [gw,hs]
 refine bM [1,2,16] ?_
 refine bP ?_ ?_<;>intro h
 ·refine W.cG (fun K hK=>?_);simp (disch:=omega) [gw]
  refine W.lw [1,2] hK ?_;clear hK K;simp
  refine aA [2] ?_
  exact cR
 ·simp at h
theorem tT{f:ZX}{c:List ZX}{p:Rat × Rat}:QA f c p = .ag (PI f.l::aQ zq c::(c4 p.1.num p.1.den++c4 p.2.num p.2.den)):=rfl
theorem TY{f:ZX}{c:List ZX}{p:Rat × Rat}{n u:Nat}(hb:BZ 4500000000 n f)(hn:n≤20)(q1:SQ u p.1)(q2:SQ u p.2)(hu:u≤1000000000):aL env.P 80 [QA f c p] (QA f c (ex f p)):=by
 have c1:=pC p.1 p.2 (q1.yy hu) (q2.yy hu)
 have hmul:n*(u+1)≤20*(u+1):=Nat.mul_le_mul_right _ hn
 have s1:=uR hb q2.n2 q2.d2 q2.hu (by omega) (by show _<137438953472;omega)
 rw [xF]at s1
 rw [eP,eP]at c1
 by_cases h:p.1=p.2
 ·have he:ex f p=p:=by
   unfold ex;split
   ·exact Prod.ext h.symm rfl
   ·rfl
  rw [he,tT]
  exact NM (by rw [kZ.2 h];rfl) c1 s1
 ·have hz:(dJ (p.1.num*p.2.den) (p.2.num*p.1.den) != 0)=true:=bne_iff_ne.2 fun h0=>h (kZ.1 h0)
  by_cases h2:e p.2 f=0
  ·rw [show ex f p=(p.2,p.2)from if_pos h2,tT,tT]
   exact TX hz (by rw [h2,mT];rfl) c1 s1
  ·rw [show ex f p=p from if_neg h2,tT]
   exact aan hz (by simp only [beq_eq_false_iff_ne];exact fun h0=>h2 (iU.1 h0)) c1 s1
def lvl(s n:Nat):Nat:=lk s n 5 (s+1)+s+2
theorem aao{s n:Nat}(hn:n≤20):lvl s n≤102*s+720:=by
 have h1:(n+n)*(s+5+2+(5+1))≤40*(s+13):=Nat.mul_le_mul (by omega) (by omega)
 have h2:(n+n)*(s+1+2)≤40*(s+3):=Nat.mul_le_mul (by omega) (by omega)
 have h3:n*(s+1+2)≤20*(s+3):=Nat.mul_le_mul hn (by omega)
 unfold lvl lk sk
 omega
def uu(s:Nat):Nat:=105*s+800
namespace pI
variable {s n:Nat} {f:ZX} (I:pI s n f)
include I
theorem f0:f.l ≠ []:=uP I.nf.ne
theorem pJ:1≤(lead f.l).natAbs∧(lead f.l).natAbs≤2^s:=by
 have h1:=cM f.c (List.length_pos_iff.2 I.f0)
 have h2:=lH (b:=2) (by decide) (lead f.l)
 have h3:=Nat.pow_le_pow_right (show 0<2 by decide) (fE I.ch.bz)
 omega
theorem apC:1≤fP f.l:=(nR f.c I.f0 (t:=fP f.l) (.inr Rat.le_refl)).2
theorem aap:Ab (fP f.l) (2^(s+1)):=by
 have h1:=ND f.c I.f0
 have hL:(1:Rat)≤(((lead f.l).natAbs:Int):Rat):=dW (by have:=I.pJ.1;omega)
 have h2:=Rat.div_mul_cancel (a:=((oC f.l (f.l.length-1):Int):Rat)) (b:=(((lead f.l).natAbs:Int):Rat)) (by grind)
 have h3:=I.apC
 have h4:((oC f.l (f.l.length-1):Int):Rat)≤2^s:=by
  have h5:=lH (b:=2) (by decide) (oC f.l (f.l.length-1))
  have h6:=Nat.pow_le_pow_right (show 0<2 by decide) (FJ I.ch.bz (f.l.length-1))
  exact(JO (s:=s) (by omega)).2
 have h7:=uU s
 rw [Rat.pow_succ]
 generalize (2:Rat)^s=T at *
 generalize ((oC f.l (f.l.length-1):Int):Rat)=m at *
 have hw:m/(((lead f.l).natAbs:Int):Rat)≤T:=by
  refine Rat.not_lt.1 fun h=>?_
  have h8:=Rat.mul_le_mul_of_nonneg_left hL (show 0≤m/(((lead f.l).natAbs:Int):Rat)by grind)
  grind
 exact⟨by grind,by grind⟩
theorem uW:Gr (lead f.l).natAbs (2^(s+1)) 0 (fP f.l):=by
 refine⟨⟨((lead f.l).natAbs:Int)+oC f.l (f.l.length-1),?_⟩,I.aap⟩
 have hL:(1:Rat)≤(((lead f.l).natAbs:Int):Rat):=dW (by have:=I.pJ.1;omega)
 have h1:=ND f.c I.f0
 have h2:=Rat.div_mul_cancel (a:=((oC f.l (f.l.length-1):Int):Rat)) (b:=(((lead f.l).natAbs:Int):Rat)) (by grind)
 rw [Nat.pow_zero,Nat.mul_one,Rat.intCast_add,h1]
 grind
theorem FT:Gr (lead f.l).natAbs (2^(s+1)) 0 (-fP f.l):=by
 obtain⟨⟨z,hz⟩,h1,h2⟩:=I.uW
 exact⟨⟨-z,by rw [Rat.intCast_neg,←hz];grind⟩,by grind,by grind⟩
theorem count:(vr (P7 (bE f)):Int)-vr (BD (bE f))=(vt (bE f) (-fP f.l):Int)-vt (bE f) (fP f.l):=by
 have hG:=I.zW
 have h1:vr (BD (bE f))=vt (bE f) (fP f.l):=r8 hG fun b=>⟨1,by decide,fun x h2 _=>(nR f.c I.f0 (.inr h2)).1⟩
 have h2:vr (P7 (bE f))=vt (bE f) (-fP f.l):=TU hG fun b=>⟨1,by decide,fun x _ h2=>(nR f.c I.f0 (.inl h2)).1⟩
 rw [h1,h2]
theorem QM : -fP f.l<fP f.l:=by have:=I.apC;grind
end pI
def z7(s n:Nat)(f:ZX):List (Rat × Rat):=C7 (vt (bE f)) (lvl s n) (-fP f.l) (fP f.l)
structure Ivs(f:ZX)(u:Nat)(lo hi:Rat)(l:List (Rat × Rat)):Prop where
 mem:∀p∈l,SQ u p.1∧SQ u p.2∧lo≤p.1∧p.1<p.2∧p.2≤hi∧vt (bE f) p.1=vt (bE f) p.2+1
 len:l.length=vt (bE f) lo-vt (bE f) hi
 UJ:l.Pairwise fun p q=>p.2≤q.1
theorem pI.width{s n:Nat}{f:ZX}(I:pI s n f){δ:Rat}(hδ:δ*2^lk s n 5 (s+1)=1):fP f.l - -fP f.l≤δ*2^lvl s n:=by
 have h1:=I.aap.2
 unfold lvl
 rw [show lk s n 5 (s+1)+s+2=lk s n 5 (s+1)+(s+1+1)by omega,pG,←Rat.mul_assoc,hδ,Rat.one_mul,Rat.pow_succ]
 grind
theorem pI.ivs{s n:Nat}{f:ZX}(I:pI s n f):Ivs f (uu s) (-fP f.l) (fP f.l) (z7 s n f):=by
 obtain⟨δ,h1,h2,C⟩:=I.cut (s+1)
 have hl:=aao (s:=s) I.ch.hn
 obtain⟨a1,a2,a3⟩:=nQ C (lvl s n) 0 _ _ I.FT I.uW I.QM (I.width h2)
 refine⟨fun p hp=>?_,a2,a3⟩
 obtain⟨b1,b2,b3⟩:=a1 p hp
 obtain⟨l1,l2⟩:=I.pJ
 exact⟨(b1.sq l1 l2).mono (by unfold uu;omega),(b2.sq l1 l2).mono (by unfold uu;omega),b3⟩
theorem ady{s n:Nat}{f:ZX}(I:pI s n f):(z7 s n f).length≤21:=by
 have:=I.ivs.len
 have h1:=Nat.le_trans (QG (bE f) (-fP f.l)) I.hl
 omega
theorem z8{α:Type}{g:α→List PV}{l:List α}{s n:Nat}{f:ZX}(hS:aL env.P 70 [aQ g l] (Po f.l))(I:pI s n f):aL env.P 18 [aQ g l] (.dX [aQ (ga f) (z7 s n f), .int .i64 0]):=by
 have hs:=I.hs
 have hn:=I.ch.hn
 have N1:=qC hS I.ch I.nf
 have P1:=gC (x:=f.l) (I.ch.bz.pb (by omega) (by omega))
 rw [f.c]at P1
 have B1:=zY P1 f.c I.f0 (F0 I.ch.bz) (by omega) (by omega)
 obtain⟨l1,l2⟩:=I.pJ
 have qb:=(I.uW.sq l1 l2).mono (show s+1+s+0+1≤uu s by unfold uu;omega)
 have hu:uu s≤1000000000:=by unfold uu;omega
 have M1:=TV (qb.LLt (show uu s<1099511627770 by omega))
 have C1:=M6 (c:=bE f) (by have:=I.hl;omega) (pbs I.hb hn)
 rw [I.count]at C1
 obtain⟨δ,h1,h2,C⟩:=I.cut (s+1)
 have hl:=aao (s:=s) hn
 have R1:=JP I l1 l2 C (J:=lvl s n) (by omega) (lvl s n) 0 _ _ (by omega) I.FT I.uW I.QM (I.width h2)
 rw [show C7 (vt (bE f)) (lvl s n) (-fP f.l) (fP f.l)=z7 s n f from rfl]at R1
 have hlen:=ady I
 have el:(emap (ga f) (z7 s n f)).length≤21:=by simpa [emap]using hlen
 have pe:=xG (f:=f) (l:=z7 s n f)
 have a1:bB 9 (emap (ga f) (z7 s n f))=True:=uV
 replace B1:aL env.P 71 [Po f.l] (.dX [T2 (fP f.l).num (fP f.l).den, .int .i64 0]):=B1
 replace M1:aL env.P 73 [T2 (fP f.l).num (fP f.l).den] (T2 (-fP f.l).num (-fP f.l).den):=M1
 replace R1:i0 env.P 72 [Po f.l,CH (bE f),T2 (-fP f.l).num (-fP f.l).den,T2 (fP f.l).num (fP f.l).den, .int .i64 ((vt (bE f) (-fP f.l):Int)-vt (bE f) (fP f.l))] 54 9 (emap (ga f) (z7 s n f)):=R1
 generalize z7 s n f=L at *
 generalize (vt (bE f) (-fP f.l):Int)-vt (bE f) (fP f.l)=cn at *
 generalize bE f=c at *
 generalize (-fP f.l).num=mn at *
 generalize ((-fP f.l).den:Int)=md at *
 generalize (fP f.l).num=bn at *
 generalize ((fP f.l).den:Int)=bd at *
 refine cH [(0,aQ g l)] Tryz.func18 ?_
 refine aA [0] ?_
 refine a7 [0,4,5] N1 ?_
 refine aR [0,4,5,15] ?_
 refine bP ?_ ?_<;>intro h
 ·simp at h
 refine W.skip ?_
 refine a7 [4,6] hS ?_
 refine a7 [4,6,7] B1 ?_
 refine sB ?_
 refine cX M1 ?_
 refine cX C1 ?_
 refine OQ R1 rfl trivial ?_
 simp (disch:=omega) [gw]
 refine bM [2,3] ?_
 refine W.D9 31 (by simp) (fun K hK=>?_)
 simp
 refine hK _ ?_
 exact cR
end Go.Proofs.YtiobceocpabjdaaGreat
namespace Go.Proofs.YtiobceocpabjdaaGreat
open Go Pm
open ZX hiding N W
abbrev GA(f:ZX)(p:Rat × Rat):PV:=.ag (ga f p)
namespace pI
variable {s n:Nat} {f:ZX} (I:pI s n f)
include I
theorem apD:aL env.P 79 [Po f.l] (PI f.l):=by
 have hs:=I.hs
 have hn:=I.ch.hn
 have b:=F0 I.ch.bz
 have:=SU (f.l.map qI) ⟨fun c hc=>by
  simp only [List.mem_map]at hc
  obtain⟨x,hx,rfl⟩:=hc
  exact⟨eT fR _,Nat.lt_of_le_of_lt (b.sz x hx) (by omega)⟩,by rw [List.length_map];exact Nat.lt_of_le_of_lt b.len (by omega)⟩
 rw [bT,←gT,show aM f.l=f.l from f.c]at this
 exact this
theorem apE:aL env.P 78 [PI f.l] (PI f.l):=by
 have:=jR I.ch.bz I.s1 (by have:=I.hs;show s≤137438953472;omega) (by have:=I.ch.hn;omega)
 rwa [I.nf.nfe]at this
theorem adz:aL env.P 158 [PI f.l] (PI f.l):=by
 have:=tL I.lay I.s1
 rwa [I.sq]at this
theorem ajk:aL env.P 81 [PI f.l] (aQ zq (bE f)):=wB I.adz I.ch I.s1
theorem QN:aL env.P 70 [Po f.l] (Po f.l):=by
 have:=rT I.lay
 rwa [I.sq]at this
theorem apF{u:Nat}{t:Rat}(q:SQ u t)(hu:u≤1000000000):aL env.P 77 [PI f.l,RR t] (.int .i64 (cZ (e t f))):=by
 have hs:=I.hs
 have hn:=I.ch.hn
 have hmul:n*(u+1)≤20*(u+1):=Nat.mul_le_mul_right _ hn
 have s1:=uR I.ch.bz q.n2 q.d2 q.hu (by omega) (by show _<137438953472;omega)
 rw [xF]at s1
 rw [eP]
 exact s1
theorem aaq{u:Nat}{p q:Rat}(hp:SQ u p)(hq:SQ u q)(hu:u≤1000000000):aL env.P 76 [aQ zq (bE f),RR p,RR q] (.int .i64 (if q<p then 0 else(vt (bE f) p:Int)-vt (bE f) q)):=ajg I.hb I.ch.hn I.hl hp hq hu
theorem ajl{u:Nat}{p:Rat × Rat}(q1:SQ u p.1)(q2:SQ u p.2)(hu:u≤1000000000):aL env.P 80 [QA f (bE f) p] (QA f (bE f) (ex f p)):=TY (I.ch.bz.mono (by have:=I.hs;omega) (Nat.le_refl _)) I.ch.hn q1 q2 hu
end pI
theorem SQ.afH{u:Nat}{q:Rat}(h:SQ u q)(hu:u≤1000000000):aL env.P 82 [RT q] (RR q):=TW (h.LLt (by omega)) ⟨by have:=h.n2;show _<549755813888;omega,by have:=h.d2;show _<549755813888;omega⟩
theorem pI.afI{s n:Nat}{f:ZX}(I:pI s n f){u:Nat}{p:Rat × Rat}(q1:SQ u p.1)(q2:SQ u p.2)(hu:u≤1000000000):aL env.P 20 [GA f p] (QA f (bE f) (ex f p)):=by
 have f1:=I.apD
 have f2:=I.apE
 have f3:=I.ajk
 have f4:=q1.afH hu
 have f5:=q2.afH hu
 have f6:=I.ajl q1 q2 hu
 generalize ex f p=y at *
 rw [eP]at f4 f5
 rw [tT,tT]at f6
 rw [tT]
 replace f4:aL env.P 82 [T2 p.1.num p.1.den] (R2 p.1.num p.1.den):=f4
 replace f5:aL env.P 82 [T2 p.2.num p.2.den] (R2 p.2.num p.2.den):=f5
 show aL env.P _ [.ag (Po f.l::(tc p.1++tc p.2))] _
 simp only [c4,tc,List.cons_append,List.nil_append]at f6 ⊢
 generalize bE f=c at *
 generalize p.1.num=an at *
 generalize (p.1.den:Int)=ad at *
 generalize p.2.num=bn at *
 generalize (p.2.den:Int)=bd at *
 generalize y.1.num=yn at *
 generalize (y.1.den:Int)=yd at *
 generalize y.2.num=zn at *
 generalize (y.2.den:Int)=zd at *
 refine cH [(0, .ag [Po f.l, .bool (decide (an<0)),us (aY LL an.natAbs), .bool (decide (ad<0)),us (aY LL ad.natAbs), .bool (decide (bn<0)),us (aY LL bn.natAbs), .bool (decide (bd<0)),us (aY LL bd.natAbs)])] Tryz.func20 ?_
 refine aA [1,2] ?_
 refine jM ?_
 refine cX f1 ?_
 refine cV [1,2,3] f2 ?_
 refine sB ?_
 refine cX f3 ?_
 refine cX f4 ?_
 refine cX f5 ?_
 refine cX f6 ?_
 (try (refine cU (of_decide_eq_true (by kernel_rfl)) ?_));(try simp (maxSteps:=4000000) (disch:=omega) [gw]);(repeat rw [if_pos (by kernel_rfl)]);(try simp (maxSteps:=4000000) (disch:=omega) [gw])
 refine bM [2] ?_
 exact cR
theorem ajm{f:ZX}{c:List ZX}{p:Rat × Rat}{u:Nat}(q1:SQ u p.1)(q2:SQ u p.2)(hu:u≤1000000000):aL env.P 75 [QA f c p] (.bool (decide (p.1=p.2))):=by
 have c1:=pC p.1 p.2 (q1.yy hu) (q2.yy hu)
 have e:decide (p.1=p.2)=(dJ (p.1.num*p.2.den) (p.2.num*p.1.den)==0):=by
  rw [Bool.eq_iff_iff];simp only [decide_eq_true_eq,beq_iff_eq];exact kZ.symm
 rw [e,tT]
 rw [eP,eP]at c1
 simp only [c4,List.cons_append,List.nil_append]
 generalize dJ (p.1.num*p.2.den) (p.2.num*p.1.den)=z at *
 generalize p.1.num=an at *
 generalize (p.1.den:Int)=ad at *
 generalize p.2.num=bn at *
 generalize (p.2.den:Int)=bd at *
 refine cH [(0, .ag [PI f.l,aQ zq c,aQ aG (aY DD an.natAbs), .bool (decide (an<0)),aQ aG (aY DD ad.natAbs), .bool (decide (ad<0)),aQ aG (aY DD bn.natAbs), .bool (decide (bn<0)),aQ aG (aY DD bd.natAbs), .bool (decide (bd<0))])] Tryz.func75 ?_
 refine aA [1] ?_
 refine a7 [2] c1 ?_
 exact cR
end Go.Proofs.YtiobceocpabjdaaGreat
namespace Go.Proofs.YtiobceocpabjdaaGreat
open Go Pm
open ZX hiding N W
theorem qD{p q:Rat}:0<dJ (p.num*q.den) (q.num*p.den)↔q<p:=by
 rw [sU,←iW q p,mI]
theorem TZ{p q:Rat}:dJ (p.num*q.den) (q.num*p.den)<0↔p<q:=iW p q
theorem JR{p q:Rat}:dJ (p.num*q.den) (q.num*p.den)≤0↔p≤q:=by
 rw [←Int.not_lt,qD,Rat.not_lt]
theorem JS{x:List Int}{c:List ZX}{an ad bn bd tn td zt z1 z2 b σ r:Int}{pt:Bool}(p1:aL env.P 75 [.ag (PI x::aQ zq c::(c4 an ad++c4 bn bd))] (.bool pt))(k0:aL env.P 14 [R2 an ad,R2 tn td] (.int .i64 zt))
  (k1:aL env.P 14 [R2 tn td,R2 an ad] (.int .i64 z1)) (k2:aL env.P 14 [R2 tn td,R2 bn bd] (.int .i64 z2)) (k3:aL env.P 76 [aQ zq c,R2 an ad,R2 tn td] (.int .i64 b)) (k4:aL env.P 77 [PI x,R2 tn td] (.int .i64 σ))
  (hr:r=if pt=true then zt else if z1≤0 then 1 else if 0<z2 then -1 else if b=0 then 1 else if σ=0 then 0 else -1):aL env.P 19 [.ag (PI x::aQ zq c::(c4 an ad++c4 bn bd)),R2 tn td] (.int .i64 r):=by
 simp only [c4,List.cons_append,List.nil_append]at p1 ⊢
 refine cH [(0, .ag [PI x,aQ zq c,aQ aG (aY DD an.natAbs), .bool (decide (an<0)),aQ aG (aY DD ad.natAbs), .bool (decide (ad<0)),aQ aG (aY DD bn.natAbs), .bool (decide (bn<0)),aQ aG (aY DD bd.natAbs), .bool (decide (bd<0))]),(1,R2 tn td)] Tryz.func19 ?_
 refine aA [2,3] ?_
 refine W.seq ?_
 refine a7 [2,3,6] p1 ?_
 refine bP ?_ ?_<;>intro h
 ·subst h
  rw [if_pos rfl]at hr
  subst hr
  refine a7 [4] k0 ?_
  exact cR
 ·subst h
  rw [if_neg (by decide)]at hr
  refine W.skip ?_
  refine W.seq ?_
  refine a7 [2,3,15] k1 ?_
  refine bP ?_ ?_<;>intro h
  ·simp at h
   rw [if_pos h]at hr
   subst hr
   refine aA [4] ?_
   exact cR
  ·simp at h
   rw [if_neg (by omega)]at hr
   refine W.skip ?_
   refine W.seq ?_
   refine a7 [2,3,20] k2 ?_
   refine bP ?_ ?_<;>intro h
   ·simp at h
    rw [if_pos h]at hr
    subst hr
    refine aA [4] ?_
    exact cR
   ·simp at h
    rw [if_neg (by omega)]at hr
    refine W.skip ?_
    refine W.seq ?_
    refine a7 [2,3,27] k3 ?_
    refine bP ?_ ?_<;>intro h
    ·simp at h
     rw [if_pos h]at hr
     subst hr
     refine aA [4] ?_
     exact cR
    ·simp at h
     rw [if_neg h]at hr
     refine W.skip ?_
     refine W.seq ?_
     refine a7 [32] k4 ?_
     refine bP ?_ ?_<;>intro h
     ·simp at h
      rw [if_pos h]at hr
      subst hr
      refine aA [4] ?_
      exact cR
     ·simp at h
      rw [if_neg h]at hr
      subst hr
      refine W.skip ?_
      refine aA [4] ?_
      exact cR
abbrev NN(f:ZX)(p:Rat × Rat):Rat→Prop:=BF (vt (bE f)) p.1 p.2
theorem pI.aar{s n:Nat}{f:ZX}(I:pI s n f){u:Nat}{p:Rat × Rat}{t:Rat}(A:IsA f (vt (bE f)) p.1 p.2)(q1:SQ u p.1)(q2:SQ u p.2)(qt:SQ u t)(hu:u≤1000000000):aL env.P 19 [QA f (bE f) p,RR t] (.int .i64 (cr (NN f p) t)):=by
 have p1:=ajm (f:=f) (c:=bE f) q1 q2 hu
 have k0:=pC p.1 t (q1.yy hu) (qt.yy hu)
 have k1:=pC t p.1 (qt.yy hu) (q1.yy hu)
 have k2:=pC t p.2 (qt.yy hu) (q2.yy hu)
 have k3:=I.aaq q1 qt hu
 have k4:=I.apF qt hu
 have hc:=A.aud t
 rw [eP,eP]at k0 k1 k2
 rw [eP,eP]at k3
 rw [eP]at k4 ⊢
 rw [tT]at p1 ⊢
 refine JS p1 k0 k1 k2 k3 k4 ?_
 rw [hc]
 simp only [decide_eq_true_eq]
 by_cases h1:p.1=p.2
 ·rw [if_pos h1,if_pos h1]
  by_cases h2:p.1<t
  ·rw [if_pos h2,lF (mI.1 (TZ.2 h2))]
  ·rw [if_neg h2]
   by_cases h3:t<p.1
   ·rw [if_pos h3,lG (sU.1 (qD.2 h3))]
   ·rw [if_neg h3,kZ.2 (by grind)]
 ·rw [if_neg h1,if_neg h1]
  simp only [JR,qD]
  by_cases h2:t≤p.1
  ·rw [if_pos h2,if_pos h2]
  ·rw [if_neg h2,if_neg h2]
   by_cases h3:p.2<t
   ·rw [if_pos h3,if_pos h3]
   ·rw [if_neg h3,if_neg h3,if_neg (show ¬t<p.1 by grind)]
    have e1:((vt (bE f) p.1:Int)-vt (bE f) t=0)↔vt (bE f) p.1=vt (bE f) t:=by omega
    simp only [e1,iU]
theorem FU{f:ZX}{p:Rat × Rat}(A:IsA f (vt (bE f)) p.1 p.2):IsA f (vt (bE f)) (ex f p).1 (ex f p).2 ∧ ∀t,NN f (ex f p) t↔NN f p t:=by
 unfold ex
 split
 ·rename_i h0
  exact A.exact h0
 ·exact⟨A,fun _=>Iff.rfl⟩
theorem ajn{a:ZX}(na:Nf a)(hc:Cop a (b6 a)):sq a=a:=by
 obtain⟨g,hg⟩:=iJ _ a (b6 a) (Nat.le_refl _)
 have h0:=hg.ne (.inl na.ne)
 have h1:=hc g hg.l hg.r
 have h2:=ZX.aF.1 h0
 obtain⟨k,hk,rfl⟩:=lM (show ZX.N g=1 by omega)
 obtain⟨c,uI,u,v,e⟩:=hg.uv
 rw [mQ]at e
 exact QB na (Int.mul_ne_zero uI hk) e.symm
theorem afJ{u:Nat}{p q:Rat}(hp:SQ u p)(hq:SQ u q):∃D,1≤D∧D≤2^(2*u)∧Gr D (2^u) 0 p∧Gr D (2^u) 0 q:=by
 have key:∀r:Rat,SQ u r→1≤r.den∧r.den≤2^u∧Ab r (2^u)∧r*((r.den:Int):Rat)=(r.num:Rat):=fun r hr=>by
  have h1:=r.den_pos
  have h2:=lH (b:=2) (by decide) (r.den:Int)
  have h3:=Nat.pow_le_pow_right (show 0<2 by decide) hr.d2
  have h4:=lH (b:=2) (by decide) r.num
  have h5:=Nat.pow_le_pow_right (show 0<2 by decide) hr.n2
  have h6:=FI r
  have h7:Ab (r.num:Rat) (2^u):=JO (by omega)
  have h8:(1:Rat)≤((r.den:Int):Rat):=dW (by omega)
  refine⟨h1,by omega,?_,h6.symm⟩
  rw [h6]at h7
  obtain⟨g1,g2⟩:=h7
  have hT:=kY u
  generalize (2:Rat)^u=T at *
  constructor
  ·refine Rat.not_lt.1 fun hh=>?_
   have:=Rat.mul_le_mul_of_nonneg_left h8 (show 0 ≤ -r by grind)
   grind
  ·refine Rat.not_lt.1 fun hh=>?_
   have:=Rat.mul_le_mul_of_nonneg_left h8 (show 0≤r by grind)
   grind
 obtain⟨a1,a2,a3,a4⟩:=key p hp
 obtain⟨b1,b2,b3,b4⟩:=key q hq
 refine⟨p.den*q.den,Nat.mul_pos a1 b1,?_,⟨⟨p.num*(q.den:Int),?_⟩,a3⟩,⟨⟨q.num*(p.den:Int),?_⟩,b3⟩⟩
 ·rw [Nat.two_mul,Nat.pow_add];exact Nat.mul_le_mul a2 b2
 ·rw [Nat.pow_zero,Nat.mul_one,Rat.intCast_mul,←a4,Int.natCast_mul p.den,Rat.intCast_mul];grind
 ·rw [Nat.pow_zero,Nat.mul_one,Rat.intCast_mul,←b4,Int.natCast_mul p.den,Rat.intCast_mul];grind
theorem ajo{s n:Nat}{a:ZX}(h:tY s n a)(h0:a≠0)(JA:1≤n)(hC:(qb (qb s n) n+n+6)*4^n≤4500000000)(hs:qb s n≤5000000):pI (qb s n) n (sq a):=by
 have h1:=(JI h0).1
 refine⟨⟨h.sqb h0,h.hn,?_,hC⟩,JA,h1,ajn h1 fun d d1 d2=>?_,hs⟩
 ·exact Nat.le_trans h.hs (Nat.pow_le_pow_right (by decide) (by unfold qb;omega))
 ·have h3:=(kX (sq a) (b6 (sq a))).least d1 d2
  rw [Z9 h0]at h3
  have:=h3.pB ZX.zC
  rwa [ZX.CQ]at this
theorem z9{α β:Type}[Inhabited α][Inhabited β]{g:α→β}{l:List α}{i:Nat}(h:i<l.length):nth (l.map g) i=g (nth l i):=by
 rw [bZ (by simpa using h),bZ h,List.getElem_map]
abbrev G9(x:List Int)(an ad bn bd:Int):List PV:=[Po x, .bool (decide (an<0)),us (aY LL an.natAbs), .bool (decide (ad<0)),us (aY LL ad.natAbs), .bool (decide (bn<0)),us (aY LL bn.natAbs), .bool (decide (bd<0)),us (aY LL bd.natAbs)]
theorem apG{f:ZX}{p:Rat × Rat}:GA f p = .ag (G9 f.l p.1.num p.1.den p.2.num p.2.den):=rfl
section
variable {x d:List Int} {c:List ZX} {an ad bn bd z b σ:Int} {cop:Bool} (hx:x.length<1000000) (f1:aL env.P 64 [Po x] (Po x)) (f2:aL env.P 83 [Po x] (.int .i64 ((x.length:Int)-1))) (f3:aL env.P 85 [Po x] (Po d)) (f4:aL env.P 84 [Po x,Po d] (.bool cop))
  (k3:aL env.P 86 [T2 an ad,T2 bn bd] (.int .i64 z)) (k4:aL env.P 69 [Po x] (.dX [CH c, .int .i64 0])) (k5:aL env.P 88 [CH c,T2 an ad,T2 bn bd] (.int .i64 b)) (k6:aL env.P 87 [Po x,T2 an ad] (.int .i64 σ))
include hx f1 f2
include f3 f4
include k3 k4 k5 k6
theorem NO(h2:2≤x.length)(hc:cop=true)(hz:z = -1∨z=0∨z=1){r:Bool}(hr:r=if z=1 then false else if z=0 then σ==0 else b==1):aL env.P 21 [.ag (G9 x an ad bn bd)] (.bool r):=by
 subst hc
 simp only [G9]
 refine cH [(0, .ag (G9 x an ad bn bd))] Tryz.func21 ?_
 refine aA [1] ?_
 refine a7 [1,3] f1 ?_
 refine W.seq ?_
 have e1:((x.length:Int)-1<1)=False:=eq_false (by omega)
 refine jM ?_
 refine aC f2 ?_
 simp (disch:=omega) [gw,e1]
 refine cX f3 ?_
 refine cV [1,3,18] f4 ?_
 refine bP ?_ ?_<;>intro h
 ·simp at h
 refine W.skip ?_
 refine W.seq ?_
 refine a7 [1,3,23] k3 ?_
 refine W.block ?_
 refine aA [1,3,23,24] ?_
 refine bP ?_ ?_<;>intro h
 ·simp at h
  rw [if_pos h]at hr;subst hr
  refine aA [2] ?_
  exact cR
 ·simp at h
  rw [if_neg h]at hr
  refine aA [1,3,26] ?_
  refine bP ?_ ?_<;>intro h
  ·simp at h
   rw [if_pos h]at hr;subst hr
   refine a7 [2] k6 ?_
   exact cR
  ·simp at h
   rw [if_neg h]at hr;subst hr
   refine W.skip ?_
   refine a7 [1,4] k4 ?_
   refine a7 [2] k5 ?_
   exact cR
end
theorem aas(x y:Int):dJ x y = -1∨dJ x y=0∨dJ x y=1:=by
 unfold dJ
 split
 ·simp
 ·split<;>simp
theorem pI.aat{s n:Nat}{f:ZX}(I:pI s n f){u:Nat}{p:Rat × Rat}(A:IsA f (vt (bE f)) p.1 p.2)(hN:2≤ZX.N f)(q1:SQ u p.1)(q2:SQ u p.2)(hu:u≤1000000000):aL env.P 21 [GA f p] (.bool true):=by
 have hs:=I.hs
 have hn:=I.ch.hn
 have hN':=I.ch.bz.N
 have N1:=gC (x:=f.l) (I.ch.bz.pb (by omega) (by omega))
 rw [f.c]at N1
 have F2:=j2 f.l (by show ZX.N f<_;omega)
 have F3:=rS I.ch.bz (by omega) (by omega)
 have bd:BZ (s+5) n (b6 f):=I.ch.bz.b6 (by omega)
 have hC:=I.lay.hC
 have F4:=I7 (C:=4500000000) (I.ch.bz.mono (show s≤s+5 by omega) (Nat.le_refl _)) bd (by
  have h1:ZX.N (Go.Proofs.YtiobceocpabjdaaGreat.nf (b6 f))≤ZX.N (Go.Proofs.YtiobceocpabjdaaGreat.nf f)-1:=by rw [I.nf.nfe,wP];exact n4 f
  have h2:=ZX.aF.1 I.nf.ne
  unfold wQ
  rw [I.nf.nfe]at h1 ⊢
  rw [if_pos (by omega)]
  have h4:(4:Nat)^ZX.N f≤4^n:=Nat.pow_le_pow_right (by decide) hN'
  exact Nat.le_trans (Nat.mul_le_mul (by unfold qb;omega) h4) hC) hn (by decide)
 rw [I.gz1,ZX.CQ]at F4
 have k3:=C2 q1.nL q1.dL q2.nL q2.dL (by omega) (fM p.1) (fM p.2) ⟨q1.nL,q1.dL⟩ ⟨q2.nL,q2.dL⟩
 have k4:=qC I.QN I.ch I.nf
 have k5:=FR I.hb hn I.hl q1 q2 hu
 have hmul:n*(u+1)≤20*(u+1):=Nat.mul_le_mul_right _ hn
 have k6:=C3 (F0 I.ch.bz) f.c q1.nL q1.dL q1.hu (by omega) (by omega) (by omega) (fM p.1) ⟨q1.nL,q1.dL⟩
 rw [xF]at k6
 rw [apG]
 refine NO (by show ZX.N f<_;omega) N1 F2 F3 F4 k3 k4 k5 k6 hN (by decide) (aas _ _) ?_
 rw [if_neg (fun h=>by have:=qD.1 (show 0<dJ (p.1.num*p.2.den) (p.2.num*p.1.den)by omega);have:=A.le;grind)]
 rcases A.k with ⟨h1,h2⟩ | ⟨h1,h2⟩
 ·rw [if_pos (kZ.2 h1),h2,mT];rfl
 ·rw [if_neg (fun h=>by rw [kZ]at h;grind),if_neg (by grind)]
  have:(vt (bE f) p.1:Int)-vt (bE f) p.2=1:=by omega
  rw [this];rfl
theorem ajp:pI 3 3 a8:=⟨⟨Z1 (by decide) (by decide),by decide,by decide,by decide⟩,by decide,⟨ZX.aF.2 (by decide),by decide,by decide⟩,apo,by decide⟩
theorem NP:aL env.P 26 [] (.bool true):=by
 have o1:aL env.P 11 [.sl [[.int .i64 (-2)],[.int .i64 0],[.int .i64 1]]] (Po [-2,0,1]):=OY [-2,0,1] (by decide) (by decide)
 have I:=ajp
 have R1:=z8 I.QN I
 rw [show a8.l = [-2,0,1]from rfl]at R1
 have V:=I.ivs
 have hlen:(z7 3 3 a8).length=2:=by
  have h1:=V.len
  have h2:=I.count
  obtain⟨f1,f2,_,_⟩:=Z7
  rw [f1,f2]at h2
  omega
 have hm:=V.mem _ (bR (show 0<(z7 3 3 a8).length by omega))
 have v1:=I.aat ⟨I.S, .inr ⟨hm.2.2.2.1,hm.2.2.2.2.2⟩⟩ (by decide) hm.1 hm.2.1 (by decide)
 simp only [GA,ga,List.cons_append,List.nil_append]at v1
 generalize z7 3 3 a8=L at *
 generalize hf:a8=f at *
 refine cH [] Tryz.func26 ?_
 refine aA [] ?_
 refine jM ?_
 refine cX o1 ?_
 refine cV [1,2] R1 ?_
 have e0:0<L.length:=by omega
 have e2:((L.length:Int)==2)=true:=by rw [hlen];rfl
 refine W.sr ?_
 simp (disch:=omega) [gw,e2,e0]
 refine cV [0] v1 ?_
 exact cR
def wl(s n:Nat)(f:ZX)(lo hi:Rat)(β:Nat:=5):List (Rat × Rat):=if lo<hi then C7 (vt (bE f)) (lk s n 5 β+(β+1)) lo hi else []
theorem ajq{s n β:Nat}(hn:n≤20)(hβ:β≤7):lk s n 5 β≤41*s+1120:=by
 have h1:(n+n)*(s+5+2+(5+1))≤40*(s+13):=Nat.mul_le_mul (by omega) (by omega)
 have h2:(n+n)*(β+2)≤40*9:=Nat.mul_le_mul (by omega) (by omega)
 have h3:n*(β+2)≤20*9:=Nat.mul_le_mul hn (by omega)
 unfold lk sk
 omega
theorem AA{s n β:Nat}{f:ZX}(I:pI s n f){lo hi:Rat}(q1:SQ β lo)(q2:SQ β hi)(fS:lo<hi)(hβ:β≤7:=by decide):(∀p∈wl s n f lo hi β,SQ (uu s+300) p.1∧SQ (uu s+300) p.2∧lo≤p.1∧p.1<p.2∧p.2≤hi∧vt (bE f) p.1=vt (bE f) p.2+1)∧(wl s n f lo hi β).length=vt (bE f) lo-vt (bE f) hi ∧
  i0 env.P 72 [Po f.l,CH (bE f),RT lo,RT hi, .int .i64 ((vt (bE f) lo:Int)-vt (bE f) hi)] 54 9 (emap (ga f) (wl s n f lo hi β)):=by
 obtain⟨D,h1,h2,g1,g2⟩:=afJ q1 q2
 obtain⟨δ,d1,d2,C⟩:=I.cut β
 have hl:=ajq (s:=s) I.ch.hn hβ
 have hs:=I.hs
 have tX:=I.s1
 have hw:hi-lo≤δ*2^(lk s n 5 β+(β+1)):=by
  rw [pG,←Rat.mul_assoc,d2,Rat.one_mul]
  have:=g1.b.1
  have:=g2.b.2
  have e:(2:Rat)^(β+1)=2^β*2:=Rat.pow_succ ..
  rw [e];grind
 obtain⟨a1,a2,a3⟩:=nQ C (lk s n 5 β+(β+1)) 0 lo hi g1 g2 fS hw
 have R:=JP I h1 h2 C (J:=lk s n 5 β+(β+1)) (by omega) (lk s n 5 β+(β+1)) 0 lo hi (by omega) g1 g2 fS hw
 have e:wl s n f lo hi β=C7 (vt (bE f)) (lk s n 5 β+(β+1)) lo hi:=if_pos fS
 rw [e]
 refine⟨fun p hp=>?_,a2,R⟩
 obtain⟨b1,b2,b3⟩:=a1 p hp
 exact⟨(b1.sq h1 h2).mono (by unfold uu;omega),(b2.sq h1 h2).mono (by unfold uu;omega),b3⟩
theorem ajr{s n β:Nat}{f:ZX}(I:pI s n f){lo hi:Rat}(q1:SQ β lo)(q2:SQ β hi)(hβ:β≤7:=by decide):(wl s n f lo hi β).length≤21:=by
 by_cases fS:lo<hi
 ·have:=(AA I q1 q2 fS hβ).2.1
  have:=Nat.le_trans (QG (bE f) lo) I.hl
  omega
 ·unfold wl;rw [if_neg fS];simp
theorem wE{α:Type}{g:α→List PV}{l:List α}{s n β:Nat}{f:ZX}(hS:aL env.P 70 [aQ g l] (Po f.l))(I:pI s n f){lo hi:Rat}(q1:SQ β lo)(q2:SQ β hi)(hβ:β≤7:=by decide):aL env.P 24 [aQ g l,RT lo,RT hi] (aQ (ga f) (wl s n f lo hi β)):=by
 have N1:=qC hS I.ch I.nf
 have B1:=FR I.hb I.ch.hn I.hl q1 q2 (by omega)
 have R1:i0 env.P 72 [Po f.l,CH (bE f),RT lo,RT hi, .int .i64 (if hi<lo then 0 else(vt (bE f) lo:Int)-vt (bE f) hi)] 54 9 (emap (ga f) (wl s n f lo hi β)):=by
  by_cases fS:lo<hi
  ·rw [if_neg (by grind)]
   exact(AA I q1 q2 fS hβ).2.2
  ·have e:wl s n f lo hi β = []:=if_neg fS
   rw [e]
   by_cases h2:hi<lo
   ·rw [if_pos h2];exact z0
   ·have h3:lo=hi:=by grind
    subst h3
    rw [if_neg h2,Int.sub_self];exact z0
 have hlen:=ajr I q1 q2 hβ
 have pe:=xG (f:=f) (l:=wl s n f lo hi β)
 show aL env.P _ [aQ g l,T2 lo.num lo.den,T2 hi.num hi.den] _
 replace B1:aL env.P 88 [CH (bE f),T2 lo.num lo.den,T2 hi.num hi.den] (.int .i64 (if hi<lo then 0 else(vt (bE f) lo:Int)-vt (bE f) hi)):=B1
 replace R1:i0 env.P 72 [Po f.l,CH (bE f),T2 lo.num lo.den,T2 hi.num hi.den, .int .i64 (if hi<lo then 0 else(vt (bE f) lo:Int)-vt (bE f) hi)] 54 9 (emap (ga f) (wl s n f lo hi β)):=R1
 generalize wl s n f lo hi β=L at *
 generalize (if hi<lo then 0 else(vt (bE f) lo:Int)-vt (bE f) hi)=cn at *
 generalize bE f=c at *
 generalize lo.num=an at *
 generalize (lo.den:Int)=ad at *
 generalize hi.num=bn at *
 generalize (hi.den:Int)=bd at *
 refine cH [(0,aQ g l),(1,T2 an ad),(2,T2 bn bd)] Tryz.func24 ?_
 refine aA [0,4,5] ?_
 refine a7 [0,4,5,7,8] N1 ?_
 refine aR [0,4,5,7,15] ?_
 refine bP ?_ ?_<;>intro h
 ·simp at h
 refine W.skip ?_
 refine sB ?_
 refine cX hS ?_
 refine cX B1 ?_
 refine OQ R1 rfl trivial ?_
 simp (disch:=omega) [gw]
 refine bM [6] ?_
 refine W.D9 25 (by simp) (fun K hK=>?_)
 simp
 refine hK _ ?_
 exact cR
abbrev QO:PV:=.ag [.sl [], .bool false, .sl [], .bool false, .sl [], .bool false, .sl [], .bool false, .sl []]
theorem NQ{α:Type}{g:α→List PV}{l:List α}{c:List ZX}{t:Rat}(N1:aL env.P 69 [aQ g l] (.dX [CH c, .int .i64 0]))(A1:aL env.P 89 [CH c,RT t] (.int .i64 0)):aL env.P 22 [aQ g l,RT t] (.dX [QO, .bool false]):=by
 show aL env.P _ [aQ g l,T2 t.num t.den] _
 replace A1:aL env.P 89 [CH c,T2 t.num t.den] (.int .i64 0):=A1
 generalize t.num=an at *
 generalize (t.den:Int)=ad at *
 refine cH [(0,aQ g l),(1,T2 an ad)] Tryz.func22 ?_
 refine aA [0,3,4] ?_
 refine a7 [0,3,4,6,7] N1 ?_
 refine W.seq ?_
 refine a7 [0,3,4,6,27] A1 ?_
 refine bP ?_ ?_<;>intro h
 ·refine aA [4,5] ?_
  exact cR
 ·simp at h
def pK(v:Rat→Nat):Nat→Rat→Rat→Rat × Rat
 | 0,lo,hi=>(lo,hi)
 | k+1,lo,hi=>if v lo≤v hi+1 then(lo,hi)else if v ((lo+hi)/2)<v lo then pK v k lo ((lo+hi)/2)else pK v k ((lo+hi)/2) hi
theorem aau{v:Rat→Nat}{lo hi:Rat}(h:v lo≤v hi+1):∀k,pK v k lo hi=(lo,hi)
 | 0=>rfl
 | k+1=>if_pos h
theorem AB{v:Rat→Nat}{D:Nat}{B δ:Rat}(C:Cut v B δ):∀(k j:Nat) (lo hi:Rat),Gr D B j lo→Gr D B j hi→lo<hi→hi-lo≤δ*2^k→v hi<v lo →
  Gr D B (j+k) (pK v k lo hi).1∧Gr D B (j+k) (pK v k lo hi).2∧lo≤(pK v k lo hi).1∧(pK v k lo hi).1<(pK v k lo hi).2∧v (pK v k lo hi).1=v lo∧v (pK v k lo hi).1=v (pK v k lo hi).2+1
 | 0,j,lo,hi,g1,g2,h,hd,hv=>by
  have:=C.leaf g1.b g2.b h (by rw [Rat.pow_zero,Rat.mul_one]at hd;exact hd) (by omega)
  exact⟨g1,g2,Rat.le_refl,h,rfl,this⟩
 | k+1,j,lo,hi,g1,g2,h,hd,hv=>by
  rw [pK]
  split
  ·exact⟨g1.mono (by omega),g2.mono (by omega),Rat.le_refl,h,rfl,by show v lo=v hi+1;omega⟩
  ·obtain⟨m1,m2⟩:=zZ h
   obtain⟨d1,d2⟩:=pH hd
   have gm:=g1.H7 g2
   have n1:=C.iY lo ((lo+hi)/2) (Rat.le_of_lt m1)
   generalize (lo+hi)/2=m at *
   split
   ·rename_i h3
    have:=AB C k (j+1) lo m (g1.mono (by omega)) gm m1 d1 h3
    rwa [show j+1+k=j+(k+1)by omega]at this
   ·rename_i h3
    obtain⟨a1,a2,a3,a4,a5,a6⟩:=AB C k (j+1) m hi gm (g2.mono (by omega)) m2 d2 (by omega)
    rw [show j+1+k=j+(k+1)by omega]at a1 a2
    exact⟨a1,a2,by grind,a4,by omega,a6⟩
def lvf(s n:Nat):Nat:=lk s n 5 (2*s+7)+(2*s+7)+1
theorem ajt{s n:Nat}(hn:n≤20):lvf s n≤163*s+2000:=by
 have h1:(n+n)*(s+5+2+(5+1))≤40*(s+13):=Nat.mul_le_mul (by omega) (by omega)
 have h2:(n+n)*(2*s+7+2)≤40*(2*s+9):=Nat.mul_le_mul (by omega) (by omega)
 have h3:n*(2*s+7+2)≤20*(2*s+9):=Nat.mul_le_mul hn (by omega)
 unfold lvf lk sk
 omega
def NR(s n:Nat)(f:ZX)(t:Rat):Rat × Rat:=pK (vt (bE f)) (lvf s n) t (fP f.l)
structure FC(f:ZX)(D u J:Nat)(δ:Rat):Prop where
 D1:1≤D
 D2:D≤2^(2*u)
 C:Cut (vt (bE f)) (2^u) δ
 hu:u+2*u+J+1≤1000000000
theorem NS{s n:Nat}{f:ZX}(I:pI s n f){D u J:Nat}{δ:Rat}(F:FC f D u J δ){l:List Int}{t b:Rat}{N1:Int}(hN1:N1=(vt (bE f) t:Int)-vt (bE f) b)(hS:aL env.P 70 [Po l] (Po f.l))(aav:aL env.P 69 [Po l] (.dX [CH (bE f), .int .i64 0]))
  (A1:aL env.P 89 [CH (bE f),RT t] (.int .i64 N1)) (B1:aL env.P 71 [Po f.l] (.dX [RT b, .int .i64 0])) (M1:aL env.P 90 [RT t, .sl []] (RT t)) (htb:t<b) (hv:vt (bE f) b<vt (bE f) t) (g1:Gr D (2^u) 0 t) (g2:Gr D (2^u) 0 b) (hd:b-t≤δ*2^J) :
  aL env.P 22 [Po l,RT t] (.dX [GA f (pK (vt (bE f)) J t b), .bool true]):=by
 have auj:=Nat.le_trans (QG (bE f) t) I.hl
 have hN0:(N1==0)=false:=by rw [beq_eq_false_iff_ne];omega
 obtain⟨r,hr⟩:∃r,r=pK (vt (bE f)) J t b:=⟨_,rfl⟩
 rw [←hr,apG]
 replace A1:aL env.P 89 [CH (bE f),T2 t.num t.den] (.int .i64 N1):=A1
 replace B1:aL env.P 71 [Po f.l] (.dX [T2 b.num b.den, .int .i64 0]):=B1
 replace M1:aL env.P 90 [T2 t.num t.den, .sl []] (T2 t.num t.den):=M1
 show aL env.P _ [Po l,T2 t.num t.den] (.dX [.ag (G9 f.l r.1.num r.1.den r.2.num r.2.den), .bool true])
 simp only [G9]
 refine cH [(0,Po l),(1,T2 t.num t.den)] Tryz.func22 ?_
 refine aA [0,3,4] ?_
 refine a7 [0,3,4,6,7] aav ?_
 refine W.seq ?_
 refine jM ?_
 refine aC A1 ?_
 simp (disch:=omega) [gw,hN0]
 refine bM [0,3,4,6,27] ?_
 refine bP ?_ ?_<;>intro h
 ·simp at h
 refine W.skip ?_
 refine a7 [3,4,6,8] hS ?_
 refine a7 [3,4,6,8,9] B1 ?_
 refine a7 [3,4,6,8,9,11] M1 ?_
 refine W.seq ?_
 refine a7 [4,6,8,9,11,12] A1 ?_
 refine W.block ?_
 refine W.bC (fun k σ=>∃(lo hi:Rat) (j v4 v9 v11:Nat) (rows:Pm.Rows) (clk:Nat),σ=⟨fa [(4, .ptr 4 v4 0 0),(6,CH (bE f)),(8,Po f.l),(9, .ptr 9 v9 0 0),(11, .ptr 11 v11 0 0),(12, .int .i64 ((vt (bE f) lo:Int)-vt (bE f) hi))],rows,clk⟩∧rows 4=some ⟨v4,54,9,[[.nil, .bool false, .nil, .bool false, .nil, .bool false, .nil, .bool false, .nil]]⟩ ∧
  rows 9=some ⟨v9,52,4,[tc hi]⟩∧rows 11=some ⟨v11,52,4,[tc lo]⟩∧Gr D (2^u) j lo∧Gr D (2^u) j hi∧lo<hi∧hi-lo≤δ*2^k∧vt (bE f) hi<vt (bE f) lo∧vt (bE f) lo≤21∧pK (vt (bE f)) k lo hi=r∧j+k=J) J ?_ ?_
 ·exact⟨_, .refl,t,b,0,_,_,_,_,_,by rw [hN1],by simp,by simp,by simp,g1,g2,htb,hd,hv,auj,hr.symm,by omega⟩
 rintro k _ ⟨lo,hi,j,v4,v9,v11,rows,clk,rfl,eU,IU,E3,ga,gb,fS,hw,hv2,hv3,hf,hjk⟩
 simp only [tc]at IU E3
 refine aR [4,6,8,9,11,12,42] ?_
 refine bP ?_ ?_<;>intro h
 ·have hn2:1<(vt (bE f) lo:Int)-vt (bE f) hi:=by simpa using h
  have hk:k≠0:=fun sL=>by
   subst sL
   have:=F.C.leaf ga.b gb.b fS (by rw [Rat.pow_zero,Rat.mul_one]at hw;exact hw) (by omega)
   omega
  obtain⟨k',rfl⟩:∃k',k=k'+1:=⟨k-1,by omega⟩
  obtain⟨m1,m2⟩:=zZ fS
  obtain⟨d1,d2⟩:=pH hw
  have gm:=ga.H7 gb
  have s1:=(ga.mono (show j≤J by omega)).sq F.D1 F.D2
  have s2:=(gb.mono (show j≤J by omega)).sq F.D1 F.D2
  have s3:=(gm.mono (show j+1≤J by omega)).sq F.D1 F.D2
  have hu:=F.hu
  have M2:=JN (s1.LLs (Nat.le_refl _)) (s2.LLs (Nat.le_refl _)) (by omega)
  have B2:=FR I.hb I.ch.hn I.hl s1 s3 hu
  rw [if_neg (Rat.not_lt.2 (Rat.le_of_lt m1))]at B2
  have n1:=F.C.iY lo ((lo+hi)/2) (Rat.le_of_lt m1)
  have n2:=F.C.iY ((lo+hi)/2) hi (Rat.le_of_lt m2)
  rw [pK,if_neg (by omega)]at hf
  replace M2:aL env.P 91 [T2 lo.num lo.den,T2 hi.num hi.den] (T2 ((lo+hi)/2).num ((lo+hi)/2).den):=M2
  replace B2:aL env.P 88 [CH (bE f),T2 lo.num lo.den,T2 ((lo+hi)/2).num ((lo+hi)/2).den] (.int .i64 ((vt (bE f) lo:Int)-vt (bE f) ((lo+hi)/2))):=B2
  generalize (lo+hi)/2=m at *
  refine W.skip ?_
  refine W.block ?_
  refine W.sr ?_
  simp (disch:=omega) [gw,IU,E3]
  refine cV [4,6,8,9,11,12,13] M2 ?_
  refine W.sr ?_
  simp (disch:=omega) [gw,IU,E3]
  refine cV [4,6,8,9,11,12,13,14] B2 ?_
  refine aA [4,6,8,9,11,12,13,14,51] ?_
  refine bP ?_ ?_<;>intro h
  ·have h3:vt (bE f) m<vt (bE f) lo:=by simp at h;omega
   rw [if_pos h3]at hf
   refine W.cG (fun K hK=>?_);simp (disch:=omega) [gw,IU,E3]
   refine hK _ ⟨k',_,aD _ [4,6,8,9,11,12],by omega,lo,m,j+1,_,_,_,_,_,rfl,by simp [eU],by simp,by simp [E3],ga.mono (by omega),gm,m1,d1,h3,hv3,hf,by omega⟩
  ·have h3:¬vt (bE f) m<vt (bE f) lo:=by simp at h;omega
   have h4:vt (bE f) m=vt (bE f) lo:=by omega
   rw [if_neg h3]at hf
   refine W.cG (fun K hK=>?_);simp (disch:=omega) [gw,IU,E3]
   rw [←h4]
   refine hK _ ⟨k',_,aD _ [4,6,8,9,11,12],by omega,m,hi,j+1,_,_,_,_,_,rfl,by simp [eU],by simp [IU],by simp,gm,gb.mono (by omega),m2,d2,by omega,by omega,hf,by omega⟩
 ·have hn2:¬1<(vt (bE f) lo:Int)-vt (bE f) hi:=by simpa using h
  rw [aau (by omega)]at hf
  subst hf
  refine fC ?_
  refine W.sr ?_
  simp (disch:=omega) [gw,eU,IU,E3]
  refine bM [4,5] ?_
  exact cR
theorem C8{f:ZX}{p:Rat × Rat}(S:SqF f (vt (bE f)))(h:vt (bE f) p.1=vt (bE f) p.2+1)(t:Rat):NN f p t↔vt (bE f) t≤vt (bE f) p.2:=by
 refine⟨fun hh=>?_,fun hh=>?_⟩
 ·rcases hh with hh | ⟨_,hh⟩
  ·exact S.iY hh
  ·omega
 ·refine .inr ⟨?_,by omega⟩
  refine Rat.not_le.1 fun h2=>?_
  have:=S.iY h2
  omega
theorem uX{v:Rat→Nat}{D:Nat}{B δ:Rat}(C:Cut v B δ):∀(k j:Nat) (lo hi:Rat),Gr D B j lo→Gr D B j hi→lo<hi→hi-lo≤δ*2^k → ∀i,i<(C7 v k lo hi).length→v (nth (C7 v k lo hi) i).2+i+1=v lo
 | 0,j,lo,hi,g1,g2,h,hd,i,kD=>by
  rw [C7]at kD ⊢
  split at kD
  ·cases kD
  ·rename_i he
   rw [if_neg he]
   have:=C.leaf g1.b g2.b h (by rw [Rat.pow_zero,Rat.mul_one]at hd;exact hd) he
   simp at kD;subst kD
   show v hi+0+1=v lo
   omega
 | k+1,j,lo,hi,g1,g2,h,hd,i,kD=>by
  rw [C7]at kD ⊢
  by_cases he:v lo=v hi
  ·rw [if_pos he]at kD;cases kD
  ·rw [if_neg he]at kD ⊢
   by_cases TJ:v lo=v hi+1
   ·rw [if_pos TJ]at kD ⊢
    simp at kD;subst kD
    show v hi+0+1=v lo
    omega
   ·rw [if_neg TJ]at kD ⊢
    obtain⟨m1,m2⟩:=zZ h
    obtain⟨d1,d2⟩:=pH hd
    have gm:=g1.H7 g2
    have a:=uX C k (j+1) lo ((lo+hi)/2) (g1.mono (by omega)) gm m1 d1
    have b:=uX C k (j+1) ((lo+hi)/2) hi gm (g2.mono (by omega)) m2 d2
    obtain⟨_,l1,_⟩:=nQ C k (j+1) lo ((lo+hi)/2) (g1.mono (by omega)) gm m1 d1
    have n1:=C.iY lo ((lo+hi)/2) (Rat.le_of_lt m1)
    generalize (lo+hi)/2=m at *
    rw [List.length_append]at kD
    rcases Nat.lt_or_ge i (C7 v k lo m).length with h3 | h3
    ·have h4:=a i h3
     rw [bZ (by rw [List.length_append];omega),List.getElem_append_left h3,←bZ h3]
     exact h4
    ·have h4:=b (i-(C7 v k lo m).length) (by omega)
     rw [bZ (by rw [List.length_append];omega),List.getElem_append_right h3,←bZ]
     omega
namespace pI
variable {s n:Nat} {f:ZX} (I:pI s n f)
include I
theorem T0(i:Nat)(hi:i<(z7 s n f).length):vt (bE f) (nth (z7 s n f) i).2+i+1=vt (bE f) (-fP f.l):=by
 obtain⟨δ,h1,h2,C⟩:=I.cut (s+1)
 exact uX C (lvl s n) 0 _ _ I.FT I.uW I.QM (I.width h2) i hi
theorem afK(x:Rat):vt (bE f) x≤vt (bE f) (-fP f.l):=by
 by_cases h:x < -fP f.l
 ·exact Nat.le_of_eq (I.S.bg (a:=x) (b := -fP f.l) ⟨1,by decide,fun y _ h2=>(nR f.c I.f0 (.inl h2)).1⟩ h)
 ·exact I.S.iY (Rat.not_lt.1 h)
theorem afL(x:Rat):vt (bE f) (fP f.l)≤vt (bE f) x:=by
 by_cases h:fP f.l<x
 ·exact Nat.le_of_eq (I.S.bg (a:=fP f.l) (b:=x) ⟨1,by decide,fun y h2 _=>(nR f.c I.f0 (.inr h2)).1⟩ h)
 ·exact I.S.iY (Rat.not_lt.1 h)
theorem NT(i:Nat)(hi:i<(z7 s n f).length)(t:Rat):NN f (nth ((z7 s n f).map (ex f)) i) t↔vt (bE f) t+i+1≤vt (bE f) (-fP f.l):=by
 obtain⟨a1,a2,a3,a4,a5,a6⟩:=I.ivs.mem _ (bR hi)
 have hl:=I.T0 i hi
 rw [z9 hi]
 refine((FU ⟨I.S, .inr ⟨a4,a6⟩⟩).2 t).trans ?_
 rw [C8 I.S a6]
 omega
theorem NU{l:List Int}(hS:aL env.P 70 [Po l] (Po f.l)){β:Nat}{t:Rat}(q:SQ β t)(hv:vt (bE f) (fP f.l)<vt (bE f) t)(hβ:β≤7:=by decide):aL env.P 22 [Po l,RT t] (.dX [GA f (NR s n f t), .bool true])∧SQ (180*s+2100) (NR s n f t).1∧SQ (180*s+2100) (NR s n f t).2∧t≤(NR s n f t).1∧(NR s n f t).1<(NR s n f t).2∧vt (bE f) (NR s n f t).1=vt (bE f) t∧vt (bE f) (NR s n f t).1=vt (bE f) (NR s n f t).2+1:=by
 have hs:=I.hs
 have hn:=I.ch.hn
 have hl:=ajt (s:=s) hn
 obtain⟨l1,l2⟩:=I.pJ
 have qb:SQ (2*s+7) (fP f.l):=(I.uW.sq l1 l2).mono (by omega)
 have qt:SQ (2*s+7) t:=q.mono (by omega)
 obtain⟨D,h1,h2,g1,g2⟩:=afJ qt qb
 obtain⟨δ,d1,d2,C⟩:=I.cut (2*s+7)
 have htb:t<fP f.l:=Rat.not_le.1 fun hh=>by have:=I.S.iY hh;omega
 have hd:fP f.l-t≤δ*2^lvf s n:=by
  unfold lvf
  rw [Nat.add_assoc,pG,←Rat.mul_assoc,d2,Rat.one_mul,Rat.pow_succ]
  have:=g1.b.1
  have:=g2.b.2
  grind
 have F:FC f D (2*s+7) (lvf s n) δ:=⟨h1,h2,C,by omega⟩
 have aav:=qC hS I.ch I.nf
 have A1:=zV (c:=bE f) (by have:=I.hl;omega) (pbs I.hb hn) (FB I.hb hn I.hl q (by omega))
 have hR:vr (BD (bE f))=vt (bE f) (fP f.l):=r8 I.zW fun b=>⟨1,by decide,fun x h2 _=>(nR f.c I.f0 (.inr h2)).1⟩
 rw [r7,hR]at A1
 have P1:=gC (x:=f.l) (I.ch.bz.pb (by omega) (by omega))
 rw [f.c]at P1
 have B1:=zY P1 f.c I.f0 (F0 I.ch.bz) (by omega) (by omega)
 have M1:=tQ (q.LLt (show β<1099511627770 by omega)).1 (q.LLt (show β<1099511627770 by omega)).2
 rw [fM]at M1
 obtain⟨a1,a2,a3,a4,a5,a6⟩:=AB C (lvf s n) 0 t (fP f.l) g1 g2 htb hd hv
 exact⟨NS I F rfl hS aav A1 B1 M1 htb hv g1 g2 hd,(a1.sq h1 h2).mono (by omega),(a2.sq h1 h2).mono (by omega),a3,a4,a5,a6⟩
theorem NV{l:List Int}(hS:aL env.P 70 [Po l] (Po f.l)){β:Nat}{t:Rat}(q:SQ β t)(hv:¬vt (bE f) (fP f.l)<vt (bE f) t)(hβ:β≤7:=by decide):aL env.P 22 [Po l,RT t] (.dX [QO, .bool false]):=by
 have hn:=I.ch.hn
 have aav:=qC hS I.ch I.nf
 have A1:=zV (c:=bE f) (by have:=I.hl;omega) (pbs I.hb hn) (FB I.hb hn I.hl q (by omega))
 have hR:vr (BD (bE f))=vt (bE f) (fP f.l):=r8 I.zW fun b=>⟨1,by decide,fun x h2 _=>(nR f.c I.f0 (.inr h2)).1⟩
 rw [r7,hR]at A1
 have h2:=I.afL t
 rw [show(vt (bE f) t:Int)-vt (bE f) (fP f.l)=0 by omega]at A1
 exact NQ aav A1
end pI
end Go.Proofs.YtiobceocpabjdaaGreat
