import Derived.Test.YtelhfbikiccfkaaGreatDal
import Derived.Test.YtelhfbikiccfkaaGreatDan
import Derived.Test.YtelhfbikiccfkaaGreatDao
set_option linter.unusedSimpArgs false
set_option linter.unusedVariables false
namespace Pm
def qv(t:Rat):List Int→Rat
 | []=>0
 | a::l=>(a:Rat)+t*qv t l
section
variable {t:Rat}
theorem wW{α:Type}(f g:α→Int):∀l:List α,qv t (l.map fun k=>f k+g k)=qv t (l.map f)+qv t (l.map g)
 | []=>by simp only [List.map_nil,qv];grind
 | x::l=>by simp only [List.map_cons,qv,wW f g l,Rat.intCast_add];grind
theorem FP{α:Type}(c:Int)(f:α→Int):∀l:List α,qv t (l.map fun k=>f k*c)=qv t (l.map f)*c
 | []=>by simp only [List.map_nil,qv];grind
 | x::l=>by simp only [List.map_cons,qv,FP c f l,Rat.intCast_mul];grind
theorem pQ:∀(a:List Int) (n:Nat),qv t (a++List.replicate n 0)=qv t a
 | [],0=>rfl
 | [],n+1=>by
  have:=pQ [] n
  simp only [List.nil_append]at this
  simp only [List.nil_append,List.replicate_succ,qv,this,Rat.intCast_zero];grind
 | x::a,n=>by simp only [List.cons_append,qv,pQ a n]
theorem yP:∀l:List Int,qv t (aL l)=qv t l
 | []=>rfl
 | x::l=>by
  have ih:=yP l
  simp only [aL]
  split
  ·rename_i h
   rw [h.1]at ih
   simp only [qv]at ih ⊢
   rw [←ih,h.2,Rat.intCast_zero];grind
  ·simp only [qv,ih]
theorem nR{x:List Int}{n:Nat}(h:x.length≤n):qv t ((List.range n).map (nth x))=qv t x:=by
 rw [zU h,pQ]
theorem Y2(x y:List Int):qv t (fL x y)=qv t x+qv t y:=by
 rw [fL,yP,wW,nR (by omega),nR (by omega)]
theorem ajh(x y:List Int):qv t (dJ x y)=qv t x-qv t y:=by
 rw [dJ,yP]
 have h1:=wW (t:=t) (fun k=>nth x k-nth y k) (nth y) (List.range (max x.length y.length))
 have h2:(fun k=>nth x k-nth y k+nth y k)=nth x:=by funext k;omega
 rw [h2,nR (by omega),nR (by omega)]at h1
 grind
theorem QV:∀x y:List Int,qv t (i6 x y)=qv t x*qv t y
 | [],y=>by simp only [i6,qv];grind
 | a::x,y=>by
  have:=FP (t:=t) a id y
  simp only [id_eq,List.map_id_fun]at this
  rw [i6,Y2,this]
  simp only [qv,QV x y,Rat.intCast_zero]
  grind
theorem aji(x y:List Int):qv t (bH x y)=qv t x*qv t y:=by rw [bH,yP,QV]
end
namespace ZX
section
variable {t:Rat}
def e(t:Rat)(x:ZX):Rat:=qv t x.l
theorem alO(x y:ZX):e t (x+y)=e t x+e t y:=Y2 _ _
theorem sC(x y:ZX):e t (x*y)=e t x*e t y:=aji _ _
theorem avw(x y:ZX):e t (x-y)=e t x-e t y:=ajh _ _
theorem apq(x:List Int):e t (of x)=qv t x:=yP x
theorem CN(c:Int):e t (K c)=c:=by
 rw [K,apq]
 simp only [qv];grind
theorem I5:e t 1=1:=CN 1
end
end ZX
def Ab(x M:Rat):Prop := -M≤x∧x≤M
def lK(e x:Rat):Prop:=x ≤ -e∨e≤x
theorem Ab.mono{x M N:Rat}(h:Ab x M)(hMN:M≤N):Ab x N:=by
 obtain⟨h1,h2⟩:=h
 exact⟨by grind,by grind⟩
theorem Ab.add{x y M N:Rat}(h:Ab x M)(h':Ab y N):Ab (x+y) (M+N):=by
 obtain⟨h1,h2⟩:=h
 obtain⟨h3,h4⟩:=h'
 exact⟨by grind,by grind⟩
theorem Ab.mul{x y M N:Rat}(h:Ab x M)(h':Ab y N):Ab (x*y) (M*N):=by
 obtain⟨h1,h2⟩:=h
 obtain⟨h3,h4⟩:=h'
 have p1:=Rat.mul_nonneg (show 0≤M-x by grind) (show 0≤N-y by grind)
 have p2:=Rat.mul_nonneg (show 0≤M+x by grind) (show 0≤N+y by grind)
 have p3:=Rat.mul_nonneg (show 0≤M-x by grind) (show 0≤N+y by grind)
 have p4:=Rat.mul_nonneg (show 0≤M+x by grind) (show 0≤N-y by grind)
 exact⟨by grind,by grind⟩
theorem lK.mono{x e f:Rat}(h:lK e x)(hf:f≤e):lK f x:=by
 rcases h with h | h
 ·left;grind
 ·right;grind
theorem LZ{x e:Rat}(h:¬lK e x) : -e<x∧x<e:=by
 constructor
 ·exact Rat.not_le.1 fun h1=>h (.inl h1)
 ·exact Rat.not_le.1 fun h1=>h (.inr h1)
theorem HE{x e:Rat}(h:¬lK e x):Ab x e:=by
 obtain⟨h1,h2⟩:=LZ h
 exact⟨Rat.le_of_lt h1,Rat.le_of_lt h2⟩
def cH(x:Rat):Int:=if x<0 then -1 else if 0<x then 1 else 0
theorem fS{x:Rat}(h:x<0):cH x = -1:=if_pos h
theorem eF{x:Rat}(h:0<x):cH x=1:=by
 rw [cH,if_neg (by grind),if_pos h]
theorem iL:cH 0=0:=by decide
theorem cP(x:Rat):(x<0∧cH x = -1)∨(x=0∧cH x=0)∨(0<x∧cH x=1):=by
 by_cases h:x<0
 ·exact .inl ⟨h,fS h⟩
 ·by_cases h2:0<x
  ·exact .inr (.inr ⟨h2,eF h2⟩)
  ·have:x=0:=by grind
   subst this
   exact .inr (.inl ⟨rfl,iL⟩)
theorem nS(x:Rat):cH x = -1∨cH x=0∨cH x=1:=by
 rcases cP x with h | h | h
 ·exact .inl h.2
 ·exact .inr (.inl h.2)
 ·exact .inr (.inr h.2)
theorem FQ{x:Rat}:cH x = -1↔x<0:=by
 rcases cP x with ⟨h,e⟩ | ⟨h,e⟩ | ⟨h,e⟩<;>rw [e]<;>constructor<;>intro h2<;>first | omega | grind
theorem FR{x:Rat}:cH x=1↔0<x:=by
 rcases cP x with ⟨h,e⟩ | ⟨h,e⟩ | ⟨h,e⟩<;>rw [e]<;>constructor<;>intro h2<;>first | omega | grind
theorem eU{x:Rat}:cH x=0↔x=0:=by
 rcases cP x with ⟨h,e⟩ | ⟨h,e⟩ | ⟨h,e⟩<;>rw [e]<;>constructor<;>intro h2<;>first | omega | grind
theorem ajj(x:Rat):cH (-x) = -cH x:=by
 rcases cP x with ⟨h,e⟩ | ⟨h,e⟩ | ⟨h,e⟩<;>rw [e]
 ·rw [eF (by grind)];rfl
 ·rw [h];rfl
 ·rw [fS (by grind)]
theorem u4(x y:Rat):cH (x*y)=cH x*cH y:=by
 rcases cP x with ⟨h,e⟩ | ⟨h,e⟩ | ⟨h,e⟩<;>rcases cP y with ⟨h',e'⟩ | ⟨h',e'⟩ | ⟨h',e'⟩<;>rw [e,e']
 ·have:=Rat.mul_pos (show 0 < -x by grind) (show 0 < -y by grind)
  rw [eF (by grind)];rfl
 ·rw [h',Rat.mul_zero];rfl
 ·have:=Rat.mul_pos (show 0 < -x by grind) h'
  rw [fS (by grind)];rfl
 ·rw [h,Rat.zero_mul];rfl
 ·rw [h,Rat.zero_mul];rfl
 ·rw [h,Rat.zero_mul];rfl
 ·have:=Rat.mul_pos h (show 0 < -y by grind)
  rw [fS (by grind)];rfl
 ·rw [h',Rat.mul_zero];rfl
 ·rw [eF (Rat.mul_pos h h')];rfl
theorem fZ{x y e:Rat}(h:lK e x)(he:0<e)(rU:¬lK e (y-x)):cH y=cH x∧cH x≠0:=by
 obtain⟨h1,h2⟩:=LZ rU
 rcases h with h | h
 ·rw [fS (show x<0 by grind),fS (show y<0 by grind)];decide
 ·rw [eF (show 0<x by grind),eF (show 0<y by grind)];decide
def dd(s t:Rat):List Int→Rat
 | []=>0
 | _::l=>qv t l+s*dd s t l
def cc(s t:Rat):List Int→Rat
 | []=>0
 | _::l=>dd s t l+s*cc s t l
theorem mY(s t:Rat):∀x:List Int,qv t x-qv s x=(t-s)*dd s t x
 | []=>by simp only [qv,dd];grind
 | a::l=>by
  have:=mY s t l
  simp only [qv,dd];grind
theorem L2(s t:Rat):∀x:List Int,dd s t x-dd s s x=(t-s)*cc s t x
 | []=>by simp only [dd,cc];grind
 | a::l=>by
  have:=L2 s t l
  have:=mY s t l
  simp only [dd,cc];grind
section
variable {S B s t:Rat} (hS:0≤S) (hB:1≤B) (hs:Ab s B) (ht:Ab t B)
def zK(S B:Rat):Nat→Rat
 | 0=>S
 | k+1=>zK S B k*(4*B)
include hS hB in
theorem o9:∀k,0≤zK S B k∧S≤zK S B k
 | 0=>⟨hS,Rat.le_refl⟩
 | k+1=>by
  obtain⟨h1,h2⟩:=o9 k
  have h3:=Rat.mul_le_mul_of_nonneg_left (show (1:Rat)≤4*B by grind) h1
  rw [zK]
  exact⟨by grind,by grind⟩
include hS hB ht in
theorem Y3:∀x:List Int,(∀c∈x,Ab (c:Rat) S)→Ab (qv t x) (zK S B x.length)
 | [],_=>by
  show Ab 0 S
  exact⟨by grind,hS⟩
 | a::l,h=>by
  have h1:=Y3 l fun c hc=>h c (List.mem_cons_of_mem _ hc)
  have h2:=(h a (List.mem_cons_self ..)).add (ht.mul h1)
  obtain⟨h3,h4⟩:=o9 hS hB l.length
  have h5:=Rat.mul_le_mul_of_nonneg_left hB h3
  refine h2.mono ?_
  rw [List.length_cons,zK]
  grind
include hS hB hs ht in
theorem I6:∀x:List Int,(∀c∈x,Ab (c:Rat) S)→Ab (dd s t x) (zK S B x.length)
 | [],_=>by
  show Ab 0 S
  exact⟨by grind,hS⟩
 | a::l,h=>by
  have h1:=I6 l fun c hc=>h c (List.mem_cons_of_mem _ hc)
  have h0:=Y3 hS hB ht l fun c hc=>h c (List.mem_cons_of_mem _ hc)
  have h2:=h0.add (hs.mul h1)
  obtain⟨h3,h4⟩:=o9 hS hB l.length
  have h5:=Rat.mul_le_mul_of_nonneg_left hB h3
  refine h2.mono ?_
  rw [List.length_cons,zK]
  grind
include hS hB hs ht in
theorem Y4:∀x:List Int,(∀c∈x,Ab (c:Rat) S)→Ab (cc s t x) (zK S B x.length)
 | [],_=>by
  show Ab 0 S
  exact⟨by grind,hS⟩
 | a::l,h=>by
  have h1:=Y4 l fun c hc=>h c (List.mem_cons_of_mem _ hc)
  have h0:=I6 hS hB hs ht l fun c hc=>h c (List.mem_cons_of_mem _ hc)
  have h2:=h0.add (hs.mul h1)
  obtain⟨h3,h4⟩:=o9 hS hB l.length
  have h5:=Rat.mul_le_mul_of_nonneg_left hB h3
  refine h2.mono ?_
  rw [List.length_cons,zK]
  grind
end
theorem yQ(t:Rat):∀(l:List Int) (k:Nat),qv t (ZX.sL (k+1) l)=qv t (ZX.sL k l)+qv t l
 | [],k=>by simp only [ZX.sL,qv];grind
 | a::l,k=>by
  simp only [ZX.sL,qv]
  rw [yQ t l (k+1)]
  have:((k+1:Nat):Int)=(k:Int)+1:=by omega
  rw [this,Rat.intCast_mul,Rat.intCast_mul,Rat.intCast_add,Rat.intCast_one];grind
theorem B4(t:Rat):∀l:List Int,qv t (ZX.sL 1 l)=qv t l+t*dd t t l
 | []=>by simp only [ZX.sL,qv,dd];grind
 | b::m=>by
  rw [ZX.sL]
  simp only [qv,dd]
  rw [yQ,B4 t m]
  rw [show((1:Nat):Int)=1 from rfl,Int.mul_one]
  grind
theorem afk(t:Rat)(x:ZX):(ZX.b9 x).e t=dd t t x.l:=by
 rw [ZX.b9,ZX.apq]
 obtain⟨l,hl⟩:=x
 show qv t (ZX.AD l)=dd t t l
 match l with
 | []=>rfl
 | a::l=>rw [ZX.I0,B4];rfl
end Pm
namespace Pm
def HF(p:Int):List Int→Nat
 | []=>0
 | s::l=>if s=0 then HF p l else(if p≠0∧s≠p then 1 else 0)+HF s l
def cl:List Int→List Int→Prop
 | [],[]=>True
 | [x],[y]=>x=y∧x≠0
 | [_,x],[_,y]=>x=y∧x≠0
 | x0::x1::x2::x,y0::y1::y2::y=>cl (x1::x2::x) (y1::y2::y)∧((x1=y1∧x1≠0)∨(x0=y0∧x2=y2∧x0 = -x2∧x2≠0))
 | _,_=>False
theorem L3:∀(n:Nat) (p:Int) (x y:List Int),x.length≤n→p≠0→(p = -1∨p=1)→(∀s∈x,s = -1∨s=0∨s=1)→(∀s∈y,s = -1∨s=0∨s=1)→cl (p::x) (p::y)→HF p x=HF p y
 | _,p,[],[],_,_,_,_,_,_=>rfl
 | _,p,[x1],[y1],_,_,_,_,_,h=>by
  obtain⟨rfl,h2⟩:=h
  rfl
 | _,p,[],[y1],_,_,_,_,_,h=>by simp [cl]at h
 | _,p,[x1],[],_,_,_,_,_,h=>by simp [cl]at h
 | _,p,[],_::_::_,_,_,_,_,_,h=>by simp [cl]at h
 | _,p,_::_::_,[],_,_,_,_,_,h=>by simp [cl]at h
 | _,p,[_],_::_::_,_,_,_,_,_,h=>by simp [cl]at h
 | _,p,_::_::_,[_],_,_,_,_,_,h=>by simp [cl]at h
 | 0,p,x1::x2::x,y1::y2::y,hn,_,_,_,_,_=>by simp at hn
 | n+1,p,x1::x2::x,y1::y2::y,hn,hp,hp1,hx,hy,h=>by
  obtain⟨h1,h2⟩:=h
  rcases h2 with ⟨rfl,h2⟩ | ⟨_,rfl,h3,h4⟩
  ·have ih:=L3 n x1 (x2::x) (y2::y) (by simp at hn ⊢;omega) h2 (by have:=hx x1 (by simp);omega) (fun s hs=>hx s (List.mem_cons_of_mem _ hs)) (fun s hs=>hy s (List.mem_cons_of_mem _ hs)) h1
   simp only [HF]at ih ⊢
   rw [if_neg h2,if_neg h2,ih]
  ·have ht:HF x2 x=HF x2 y:=by
    refine L3 n x2 x y (by simp at hn ⊢;omega) h4 (by have:=hx x2 (by simp);omega) (fun s hs=>hx s (by simp [hs])) (fun s hs=>hy s (by simp [hs])) ?_
    match x,y,h1 with
    | [],[],_=>exact⟨rfl,h4⟩
    | [],_::_,h1=>simp [cl]at h1
    | _::_,[],h1=>simp [cl]at h1
    | _::_,_::_,h1=>exact h1.1
   have key:∀z:Int,(z = -1∨z=0∨z=1) → ∀w:List Int,HF p (z::x2::w)=1+HF x2 w:=fun z hz w=>by
    simp only [HF]
    rcases hz with rfl | rfl | rfl
    ·rw [if_neg (by decide),if_neg h4]
     rcases hp1 with rfl | rfl
     ·rw [if_neg (by omega),if_pos (by omega)];omega
     ·rw [if_pos (by omega),if_neg (by omega)];omega
    ·rw [if_pos rfl,if_neg h4,if_pos (by omega)]
    ·rw [if_neg (by decide),if_neg h4]
     rcases hp1 with rfl | rfl
     ·rw [if_pos (by omega),if_neg (by omega)];omega
     ·rw [if_neg (by omega),if_pos (by omega)];omega
   rw [key x1 (hx x1 (by simp)),key y1 (hy y1 (by simp)),ht]
open ZX
def Y5(ε t:Rat):List ZX→Prop
 | []=>False
 | [a]=>lK ε (e t a)
 | [_,b]=>lK ε (e t b)
 | a::b::c::l=>Y5 ε t (b::c::l)∧(lK ε (e t b)∨(lK ε (e t a)∧lK ε (e t c)∧cH (e t a) = -cH (e t c)))
theorem Y5.mono{ε δ t:Rat}(h:δ≤ε):∀ {l:List ZX},Y5 ε t l→Y5 δ t l
 | [],g=>g
 | [a],g=>lK.mono g h
 | [a,b],g=>lK.mono (x:=e t b) g h
 | a::b::c::l,g=>⟨Y5.mono h g.1,by
  rcases g.2 with g | ⟨g1,g2,g3⟩
  ·exact .inl (g.mono h)
  ·exact .inr ⟨g1.mono h,g2.mono h,g3⟩⟩
theorem Y5.two{ε t:Rat}{a b:ZX}:∀ {l:List ZX},Y5 ε t (a::b::l)→lK ε (e t a)∨lK ε (e t b)
 | [],g => .inr g
 | c::l,g=>by
  rcases g.2 with g | ⟨g1,g2,g3⟩
  ·exact .inr g
  ·exact .inl g1
def HG(t:Rat)(l:List ZX):List Int:=l.map fun p=>cH (e t p)
theorem C7{t:Rat}{l:List ZX}:∀s∈HG t l,s = -1∨s=0∨s=1:=fun s hs=>by
 simp only [HG,List.mem_map]at hs
 obtain⟨p,_,rfl⟩:=hs
 exact nS _
theorem afl{ε s t:Rat}(hε:0<ε):∀ {l:List ZX},Y5 ε s l→(∀p∈l,¬lK ε (e t p-e s p))→cl (HG s l) (HG t l)
 | [],g,_=>g.elim
 | [a],g,h=>by
  obtain⟨h1,h2⟩:=fZ g hε (h a (by simp))
  exact⟨h1.symm,h2⟩
 | [a,b],g,h=>by
  obtain⟨h1,h2⟩:=fZ (x:=e s b) g hε (h b (by simp))
  exact⟨h1.symm,h2⟩
 | a::b::c::l,g,h=>by
  refine⟨afl hε g.1 fun p hp=>h p (List.mem_cons_of_mem _ hp),?_⟩
  rcases g.2 with g | ⟨g1,g2,g3⟩
  ·obtain⟨h1,h2⟩:=fZ g hε (h b (by simp))
   exact .inl ⟨h1.symm,h2⟩
  ·obtain⟨h1,h2⟩:=fZ g1 hε (h a (by simp))
   obtain⟨h3,h4⟩:=fZ g2 hε (h c (by simp))
   exact .inr ⟨h1.symm,h3.symm,g3,h4⟩
def vt(l:List ZX)(t:Rat):Nat:=HF 0 (HG t l)
def ind(a:ZX)(s t:Rat):Nat:=if e s a≠0∧cH (e t a)≠cH (e s a)then 1 else 0
theorem ajk{ε s t:Rat}(hε:0<ε){a:ZX}{l:List ZX}(g:Y5 ε s (a::l))(h:∀p∈a::l,¬lK ε (e t p-e s p))
  (hm:∀b k,l=b::k→lK ε (e s b)→cH (e t a-e s a)=cH (e s b)):vt (a::l) s=vt (a::l) t+ind a s t:=by
 have hc:=afl hε g h
 have hA:lK ε (e s a)→vt (a::l) s=vt (a::l) t+ind a s t:=fun ha=>by
  obtain⟨h1,h2⟩:=fZ ha hε (h a (by simp))
  have h3:ind a s t=0:=if_neg fun h=>h.2 h1
  rw [h3]
  have hc':cl (cH (e s a)::HG s l) (cH (e s a)::HG t l):=by
   have:HG t (a::l)=cH (e s a)::HG t l:=by rw [←h1];rfl
   rw [this]at hc
   exact hc
  have h4:=L3 _ _ _ _ (Nat.le_refl _) h2 (by have:=nS (e s a);omega) C7 C7 hc'
  show HF 0 (cH (e s a)::HG s l)=HF 0 (cH (e t a)::HG t l)+0
  rw [h1]
  simp only [HF]
  rw [if_neg h2,if_neg h2,h4];omega
 match l,g,h,hc,hm,hA with
 | [],g,h,hc,hm,hA=>exact hA g
 | b::l,g,h,hc,hm,hA =>
  rcases g.two with ha | hb
  ·exact hA ha
  ·obtain⟨h1,h2⟩:=fZ hb hε (h b (by simp))
   have h3:=hm b l rfl hb
   have hc':cl (cH (e s b)::HG s l) (cH (e s b)::HG t l):=by
    match l,hc with
    | [],hc=>exact⟨rfl,h2⟩
    | c::l,hc =>
     have h8:cl (cH (e s b)::HG s (c::l)) (cH (e t b)::HG t (c::l)):=hc.1
     rw [h1]at h8
     exact h8
   have h4:=L3 _ _ _ _ (Nat.le_refl _) h2 (by have:=nS (e s b);omega) C7 C7 hc'
   show HF 0 (cH (e s a)::cH (e s b)::HG s l)=HF 0 (cH (e t a)::cH (e t b)::HG t l)+ind a s t
   rw [h1]
   simp only [HF]
   rw [if_neg h2,if_neg h2,h4]
   have hi:ind a s t=if cH (e s a)≠0∧cH (e t a)≠cH (e s a)then 1 else 0:=by
    unfold ind
    by_cases h6:e s a=0
    ·rw [if_neg (fun h7=>h7.1 h6),if_neg (fun h7=>h7.1 (eU.2 h6))]
    ·have h7:cH (e s a)≠0:=fun h8=>h6 (eU.1 h8)
     simp only [ne_eq,h6,h7,not_false_eq_true,true_and]
   rw [hi]
   have hd:(cH (e s b) = -1→cH (e t a)≤cH (e s a)∧(cH (e t a)=cH (e s a)→cH (e s a)≠0))∧(cH (e s b)=1→cH (e s a)≤cH (e t a)∧(cH (e t a)=cH (e s a)→cH (e s a)≠0)):=by
    refine⟨fun h6=>?_,fun h6=>?_⟩
    ·have h5:=FQ.1 (h3.trans h6)
     rcases cP (e s a)with ⟨q1,r1⟩ | ⟨q1,r1⟩ | ⟨q1,r1⟩<;>rcases cP (e t a)with ⟨q2,r2⟩ | ⟨q2,r2⟩ | ⟨q2,r2⟩<;>rw [r1,r2]<;>first | decide | (exfalso;grind)
    ·have h5:=FR.1 (h3.trans h6)
     rcases cP (e s a)with ⟨q1,r1⟩ | ⟨q1,r1⟩ | ⟨q1,r1⟩<;>rcases cP (e t a)with ⟨q2,r2⟩ | ⟨q2,r2⟩ | ⟨q2,r2⟩<;>rw [r1,r2]<;>first | decide | (exfalso;grind)
   have m1:=nS (e s a)
   have m2:=nS (e t a)
   have m3:=nS (e s b)
   generalize cH (e s a)=σ at *
   generalize cH (e t a)=τ at *
   generalize cH (e s b)=γ at *
   generalize HF γ (HG t l)=T at *
   obtain⟨d1,d2⟩:=hd
   clear hc hc' h1 h3 hm hA h g hb hi
   rcases m3 with rfl | rfl | rfl
   ·obtain⟨d3,d4⟩:=d1 rfl
    rcases m1 with rfl | rfl | rfl<;>rcases m2 with rfl | rfl | rfl<;>first | (exfalso;omega) | (simp;try omega)
   ·exact absurd rfl h2
   ·obtain⟨d3,d4⟩:=d2 rfl
    rcases m1 with rfl | rfl | rfl<;>rcases m2 with rfl | rfl | rfl<;>first | (exfalso;omega) | (simp;try omega)
end Pm
namespace Pm
open ZX hiding N W
def StC(M B:Rat):List ZX→Prop
 | []=>False
 | [a]=>∃c:Int,c≠0∧a=K c
 | [_,b]=>∃c:Int,c≠0∧b=K c
 | a::b::c::l=>StC M B (b::c::l) ∧ ∃(m k:Int) (q:ZX),0<m∧0<k∧K m*a=q*b-K k*c∧2*(m:Rat)≤M ∧ ∀t,Ab t B→Ab (2*e t q) M
def CO(M:Rat):Nat→Rat
 | 0=>1
 | k+1=>CO M k/M
theorem L4{M:Rat}(hM:2≤M)(k:Nat):M*CO M (k+1)=CO M k:=by
 rw [CO,Rat.mul_comm,Rat.div_mul_cancel (by grind)]
theorem yR{M:Rat}(hM:2≤M):∀k,0<CO M k
 | 0=>by show(0:Rat)<1;decide
 | k+1=>by
  have h1:=yR hM k
  have h2:=L4 hM k
  refine Rat.not_le.1 fun h=>?_
  have h3:=Rat.mul_nonneg (show 0≤M by grind) (show 0 ≤ -CO M (k+1)by grind)
  grind
theorem L5{M:Rat}(hM:2≤M)(k:Nat):CO M (k+1)≤CO M k:=by
 have h1:=yR hM (k+1)
 have h2:=L4 hM k
 have h3:=Rat.mul_le_mul_of_nonneg_right (show 1≤M by grind) (Rat.le_of_lt h1)
 grind
theorem wX{M:Rat}(hM:2≤M):∀k,CO M k≤1
 | 0=>Rat.le_refl
 | k+1=>Rat.le_trans (L5 hM k) (wX hM k)
theorem u5{c:Int}(h:c≠0):lK 1 (c:Rat):=by
 rcases Int.lt_trichotomy c 0 with h1 | h1 | h1
 ·left
  have:((c:Int):Rat)≤((-1:Int):Rat):=Rat.intCast_le_intCast.2 (by omega)
  rw [Rat.intCast_neg,Rat.intCast_one]at this
  exact this
 ·exact absurd h1 h
 ·right
  have:((1:Int):Rat)≤((c:Int):Rat):=Rat.intCast_le_intCast.2 (by omega)
  rw [Rat.intCast_one]at this
  exact this
theorem fK{c:Int}(h:0<c):(1:Rat)≤(c:Rat):=by
 have:((1:Int):Rat)≤((c:Int):Rat):=Rat.intCast_le_intCast.2 (by omega)
 rwa [Rat.intCast_one]at this
theorem afm{M ε ε' x y z q m k:Rat}(hM:2≤M)(he:M*ε'=ε)(hp:0<ε')(hm:1≤m)(hk:1≤k)(hmM:2*m≤M)(hq:Ab (2*q) M)(e:m*x=q*y-k*z)(hy:¬lK ε' y)(hz:lK ε z):lK ε' x∧cH x = -cH z:=by
 have h1:=hq.mul (HE hy)
 rw [he]at h1
 obtain⟨h2,h3⟩:=h1
 have hε:0<ε:=by rw [←he];exact Rat.mul_pos (by grind) hp
 have h6:=Rat.mul_le_mul_of_nonneg_right hmM (Rat.le_of_lt hp)
 rcases hz with hz | hz
 ·have h4:=Rat.mul_le_mul_of_nonneg_right hk (show 0 ≤ -z by grind)
  have h5:ε≤2*(m*x):=by grind
  have h7:ε'≤x:=Rat.not_lt.1 fun h=>by
   have:=Rat.mul_lt_mul_of_pos_left h (show 0<m by grind)
   grind
  refine⟨.inr h7,?_⟩
  rw [fS (x:=z) (by grind),eF (x:=x) (by grind)];rfl
 ·have h4:=Rat.mul_le_mul_of_nonneg_right hk (show 0≤z by grind)
  have h5:2*(m*x) ≤ -ε:=by grind
  have h7:x ≤ -ε':=Rat.not_lt.1 fun h=>by
   have:=Rat.mul_lt_mul_of_pos_left h (show 0<m by grind)
   grind
  refine⟨.inl h7,?_⟩
  rw [eF (x:=z) (by grind),fS (x:=x) (by grind)]
theorem StC.Y5{M B t:Rat}(hM:2≤M)(ht:Ab t B):∀ {l:List ZX},StC M B l→Y5 (CO M l.length) t l
 | [],h=>h
 | [a],h=>by
  obtain⟨c,hc,rfl⟩:=h
  show lK _ (e t (K c))
  rw [CN]
  exact(u5 hc).mono (wX hM _)
 | [a,b],h=>by
  obtain⟨c,hc,rfl⟩:=h
  show lK _ (e t (K c))
  rw [CN]
  exact(u5 hc).mono (wX hM _)
 | a::b::c::l,h=>by
  obtain⟨h1,m,k,q,hm,hk,he,hmM,hq⟩:=h
  have ih:=StC.Y5 hM ht h1
  refine⟨ih.mono (L5 hM _),?_⟩
  by_cases hb:lK (CO M (a::b::c::l).length) (e t b)
  ·exact .inl hb
  ·have hc:lK (CO M (b::c::l).length) (e t c):=by
    rcases ih.two with h2 | h2
    ·exact absurd (h2.mono (L5 hM _)) hb
    ·exact h2
   have GL:(m:Rat)*e t a=e t q*e t b-k*e t c:=by
    rw [←CN (t:=t) m,←sC,he,avw,sC,sC,CN]
   obtain⟨g1,g2⟩:=afm hM (L4 hM _) (yR hM _) (fK hm) (fK hk) hmM (hq t ht) GL hb hc
   exact .inr ⟨g1,hc.mono (L5 hM _),g2⟩
structure Lcl(L:List ZX)(f:ZX)(B δ:Rat):Prop where
 turns:∀s t,Ab s B→Ab t B→s<t→t-s≤δ→vt L s=vt L t+ind f s t
 simple:∀s t,Ab s B→Ab t B→s<t→t-s≤δ→e s f=0→e t f≠0
theorem B5{h x Q ε:Rat}(hh:0≤h)(hx:Ab x Q)(hQ:h*Q<ε):¬lK ε (h*x):=fun hb=>by
 obtain⟨h1,h2⟩:=(Ab.mul (x:=h) (M:=h) ⟨by grind,Rat.le_refl⟩ hx)
 rcases hb with hb | hb<;>grind
theorem abo{h x Q ε c y d1 d2:Rat}(hh:0<h)(hε:0<ε)(hc:1≤c)(hx:Ab x Q)(hQ:h*Q<ε)(hy:lK ε y)(e1:d1=c*y)(e2:d2-d1=h*x):cH (h*d2)=cH y:=by
 obtain⟨h1,h2⟩:=(Ab.mul (x:=h) (M:=h) ⟨by grind,Rat.le_refl⟩ hx)
 have hs:cH (h*d2)=cH d2:=by rw [u4,eF hh];omega
 rw [hs]
 rcases hy with hy | hy
 ·have:=Rat.mul_le_mul_of_nonneg_right hc (show 0 ≤ -y by grind)
  rw [fS (show y<0 by grind),fS (show d2<0 by grind)]
 ·have:=Rat.mul_le_mul_of_nonneg_right hc (show 0≤y by grind)
  rw [eF (show 0<y by grind),eF (show 0<d2 by grind)]
theorem StC.loc{M B S Q δ:Rat}{f:ZX}{l:List ZX}(hM:2≤M)(hB:1≤B)(hS:0≤S)(h:StC M B (f::l))(hb:∀p∈f::l,(∀c∈p.l,Ab (c:Rat) S)∧zK S B p.l.length≤Q)(hd:∀g k,l=g::k → ∃c:Int,0<c∧b9 f=K c*g)
  (hδ:δ*Q<CO M (f::l).length):Lcl (f::l) f B δ:=by
 have hQ0:0≤Q:=by
  obtain⟨h1,h2⟩:=hb f (by simp)
  obtain⟨h3,h4⟩:=o9 hS hB f.l.length
  grind
 have hε:=yR hM (f::l).length
 have qU:∀s t:Rat,s<t→t-s≤δ→(t-s)*Q<CO M (f::l).length:=fun s t iP hd=>by
  have:=Rat.mul_le_mul_of_nonneg_right hd hQ0
  grind
 have key:∀s t,Ab s B→Ab t B→s<t→t-s≤δ→(∀p∈f::l,¬lK (CO M (f::l).length) (e t p-e s p)) ∧ ∀b k,l=b::k→lK (CO M (f::l).length) (e s b)→cH (e t f-e s f)=cH (e s b):=fun s t hs ht iP hsd=>by
  refine⟨fun p hp=>?_,fun b k hbk VB=>?_⟩
  ·obtain⟨h1,h2⟩:=hb p hp
   show ¬lK _ (qv t p.l-qv s p.l)
   rw [mY]
   exact B5 (by grind) ((I6 hS hB hs ht p.l h1).mono h2) (qU s t iP hsd)
  ·obtain⟨c,hc,he⟩:=hd b k hbk
   obtain⟨h1,h2⟩:=hb f (by simp)
   show cH (qv t f.l-qv s f.l)=_
   rw [mY]
   exact abo (d1:=dd s s f.l) (by grind) hε (fK hc) ((Y4 hS hB hs ht f.l h1).mono h2) (qU s t iP hsd) VB (by rw [←afk,he,sC,CN]) (L2 s t f.l)
 refine⟨fun s t hs ht iP hsd=>?_,fun s t hs ht iP hsd h0=>?_⟩
 ·obtain⟨k1,k2⟩:=key s t hs ht iP hsd
  exact ajk hε (h.Y5 hM hs) k1 k2
 ·obtain⟨k1,k2⟩:=key s t hs ht iP hsd
  have g:=h.Y5 hM hs
  have nb:¬lK (CO M (f::l).length) (e s f):=by
   rw [h0]
   rintro(h1 | h1)<;>grind
  match l,g,k2 with
  | [],g,_=>exact absurd g nb
  | b::k,g,k2 =>
   have VB:=g.two.resolve_left nb
   have h2:=k2 b k rfl VB
   intro h3
   rw [h0,h3,show(0:Rat)-0=0 by grind,iL]at h2
   have h4:=eU.1 h2.symm
   rw [h4]at VB
   rcases VB with h1 | h1<;>grind
theorem apr{B δ:Rat}(hδ:0<δ){P:Rat→Rat→Prop}(ht:∀a b c,a<b→b<c→P a b→P b c→P a c)(hs:∀a b,Ab a B→Ab b B→a<b→b-a≤δ→P a b){a b:Rat}(ha:Ab a B)(hb:Ab b B)(gW:a<b):P a b:=by
 have key:∀(n:Nat) (a b:Rat),Ab a B→Ab b B→a<b→b-a≤(n:Rat)*δ→P a b:=by
  intro n
  induction n with
  | zero=>intro a b _ _ h1 h2;exfalso;rw [show((0:Nat):Rat)=0 from rfl]at h2;grind
  | succ n ih =>
   intro a b ha hb h1 h2
   by_cases h3:b-a≤δ
   ·exact hs a b ha hb h1 h3
   ·have h3:=Rat.not_le.1 h3
    obtain⟨a1,a2⟩:=ha
    obtain⟨b1,b2⟩:=hb
    have hm:Ab (a+δ) B:=⟨by grind,by grind⟩
    refine ht a (a+δ) b (by grind) (by grind) (hs _ _ ⟨a1,a2⟩ hm (by grind) (by grind)) (ih _ _ hm ⟨b1,b2⟩ (by grind) ?_)
    rw [show((n+1:Nat):Rat)=(n:Rat)+1 from by rw [Rat.natCast_add];rfl]at h2
    grind
 have h1:=Rat.lt_floor_add_one ((b-a)/δ)
 have h2:0≤((b-a)/δ).floor:=Rat.le_floor_iff.2 (by
  have:=(Rat.lt_div_iff (a:=0) (b:=b-a) hδ).2 (by grind)
  show((0:Int):Rat)≤_
  rw [Rat.intCast_zero];exact Rat.le_of_lt this)
 refine key ((((b-a)/δ).floor+1).toNat) a b ha hb gW ?_
 have h3:(((((b-a)/δ).floor+1).toNat:Nat):Rat)=((((b-a)/δ).floor+1:Int):Rat):=by
  rw [←Rat.intCast_natCast,Int.toNat_of_nonneg (by omega)]
 rw [h3]
 have h4:=(Rat.div_lt_iff hδ).1 h1
 exact Rat.le_of_lt h4
structure CP(L:List ZX)(f:ZX):Prop where
 loc:∀B:Rat,1≤B → ∃δ,0<δ∧Lcl L f B δ
theorem j4(a b:Rat):∃B:Rat,1≤B∧Ab a B∧Ab b B:=by
 have h1:∀x:Rat,∃B:Rat,1≤B∧Ab x B:=fun x=>by
  by_cases h:0≤x
  ·exact⟨x+1,by grind,by grind,by grind⟩
  ·exact⟨-x+1,by grind,by grind,by grind⟩
 obtain⟨A,hA,ha⟩:=h1 a
 obtain⟨B,hB,hb⟩:=h1 b
 exact⟨A+B,by grind,ha.mono (by grind),hb.mono (by grind)⟩
namespace CP
variable {L:List ZX} {f:ZX} (h:CP L f)
include h
theorem afn{P:Rat→Rat→Prop}(ht:∀a b c,a<b→b<c→P a b→P b c→P a c)(hs:∀B δ,Lcl L f B δ → ∀a b,Ab a B→Ab b B→a<b→b-a≤δ→P a b){a b:Rat}(gW:a<b):P a b:=by
 obtain⟨B,hB,ha,hb⟩:=j4 a b
 obtain⟨δ,hδ,hl⟩:=h.loc B hB
 exact apr hδ ht (hs B δ hl) ha hb gW
theorem b8{a b:Rat}(gW:a≤b):vt L b≤vt L a:=by
 rcases Rat.le_iff_lt_or_eq.1 gW with h1 | rfl
 ·refine h.afn (P:=fun a b=>vt L b≤vt L a) (fun a b c _ _ h1 h2=>Nat.le_trans h2 h1) (fun B δ hl a b ha hb gW hd=>?_) h1
  rw [hl.turns a b ha hb gW hd];omega
 ·exact Nat.le_refl _
theorem flat{a b:Rat}(gW:a<b)(he:vt L a=vt L b):e b f≠0∧(e a f≠0→cH (e b f)=cH (e a f)):=by
 refine h.afn (P:=fun a b=>vt L a=vt L b→e b f≠0∧(e a f≠0→cH (e b f)=cH (e a f))) (fun a b c h1 h2 p1 p2 hac=>?_) (fun B δ hl a b ha hb gW hd heq=>?_) gW he
 ·have:=h.b8 (Rat.le_of_lt h1)
  have:=h.b8 (Rat.le_of_lt h2)
  obtain⟨q1,q2⟩:=p1 (by omega)
  obtain⟨q3,q4⟩:=p2 (by omega)
  exact⟨q3,fun ha=>by rw [q4 q1,q2 ha]⟩
 ·have h1:=hl.turns a b ha hb gW hd
  have h2:ind f a b=0:=by omega
  unfold ind at h2
  by_cases h0:e a f=0
  ·exact⟨hl.simple a b ha hb gW hd h0,fun h3=>absurd h0 h3⟩
  ·have h3:cH (e b f)=cH (e a f):=Classical.byContradiction fun h3=>by rw [if_pos ⟨h0,h3⟩]at h2;omega
   refine⟨fun h4=>h0 (eU.1 ?_),fun _=>h3⟩
   rw [←h3,h4,iL]
theorem const{a b:Rat}(gW:a<b){σ:Int}(h0:e a f=0∨cH (e a f)=σ)(h1:∀x,a<x→x≤b→cH (e x f)=σ):vt L a=vt L b:=by
 refine h.afn (P:=fun x y=>a≤x→y≤b→vt L x=vt L y) (fun x y z rU hyz p1 p2 hax hzb=>(p1 hax (by grind)).trans (p2 (by grind) hzb)) (fun B δ hl x y hx hy rU hd hax hyb=>?_) gW Rat.le_refl Rat.le_refl
 rw [hl.turns x y hx hy rU hd]
 have h2:ind f x y=0:=if_neg fun h3=>by
  obtain⟨h4,h5⟩:=h3
  rw [h1 y (by grind) hyb]at h5
  rcases Rat.le_iff_lt_or_eq.1 hax with h6 | rfl
  ·exact h5 (h1 x h6 (by grind)).symm
  ·rcases h0 with h0 | h0
   ·exact h4 h0
   ·exact h5 h0.symm
 omega
theorem root{s t:Rat}(iP:s<t)(h0:e t f=0):vt L t<vt L s:=by
 have h1:=h.b8 (Rat.le_of_lt iP)
 refine Nat.lt_of_le_of_ne h1 fun h2=>?_
 exact(h.flat iP h2.symm).1 h0
theorem count{roots:List Rat}(hn:roots.Nodup)(hr:∀r∈roots,e r f=0)(hc:∀a b,a<b→(∀r∈roots,a<r→b<r)→vt L a=vt L b){a b:Rat}(gW:a<b):vt L a=vt L b+(roots.countP fun r=>decide (a<r∧r≤b)):=by
 refine h.afn (P:=fun a b=>vt L a=vt L b+(roots.countP fun r=>decide (a<r∧r≤b))) (fun a b c h1 h2 p1 p2=>?_) (fun B δ hl a b ha hb gW hd=>?_) gW
 ·rw [p1,p2]
  have:∀l:List Rat,(l.countP fun r=>decide (a<r∧r≤c))=(l.countP fun r=>decide (a<r∧r≤b))+(l.countP fun r=>decide (b<r∧r≤c)):=fun l=>by
   induction l with
   | nil=>rfl
   | cons x l ih =>
    rw [List.countP_cons,List.countP_cons,List.countP_cons,ih]
    by_cases q1:a<x∧x≤b
    ·have q2:¬(b<x∧x≤c):=fun q=>by grind
     have q3:a<x∧x≤c:=⟨q1.1,by grind⟩
     rw [if_pos (decide_eq_true q3),if_pos (decide_eq_true q1),if_neg (fun h=>q2 (of_decide_eq_true h))];omega
    ·by_cases q2:b<x∧x≤c
     ·have q3:a<x∧x≤c:=⟨by grind,q2.2⟩
      rw [if_pos (decide_eq_true q3),if_neg (fun h=>q1 (of_decide_eq_true h)),if_pos (decide_eq_true q2)];omega
     ·have q3:¬(a<x∧x≤c):=fun q=>by
       by_cases q4:x≤b
       ·exact q1 ⟨q.1,q4⟩
       ·exact q2 ⟨Rat.not_le.1 q4,q.2⟩
      rw [if_neg (fun h=>q3 (of_decide_eq_true h)),if_neg (fun h=>q1 (of_decide_eq_true h)),if_neg (fun h=>q2 (of_decide_eq_true h))];omega
  rw [this roots];omega
 ·have h1:=hl.turns a b ha hb gW hd
  have h2:ind f a b≤1:=by unfold ind;split<;>omega
  have hm:∀r,r∈roots.filter (fun r=>decide (a<r∧r≤b))↔r∈roots∧a<r∧r≤b:=fun r=>by simp [List.mem_filter]
  have NJ:(roots.filter (fun r=>decide (a<r∧r≤b))).Nodup:=hn.filter _
  rw [List.countP_eq_length_filter]
  match hF:roots.filter (fun r=>decide (a<r∧r≤b)),hm,NJ with
  | [],hm,_ =>
   rw [List.length_nil,Nat.add_zero]
   refine hc a b gW fun r hr h3=>Rat.not_le.1 fun h4=>?_
   have:=(hm r).2 ⟨hr,h3,h4⟩
   simp at this
  | [r],hm,_ =>
   obtain⟨g1,g2,g3⟩:=(hm r).1 (by simp)
   have:=h.root g2 (hr r g1)
   have:=h.b8 g3
   simp only [List.length_cons,List.length_nil]
   omega
  | r::q::l,hm,NJ =>
   exfalso
   obtain⟨g1,g2,g3⟩:=(hm r).1 (by simp)
   obtain⟨k1,k2,k3⟩:=(hm q).1 (by simp)
   have kQ:r≠q:=by
    simp only [List.nodup_cons,List.mem_cons,not_or]at NJ
    exact NJ.1.1
   rcases Rat.le_total (a:=r) (b:=q)with h5 | h5
   ·have:=h.root (Rat.lt_of_le_of_ne h5 kQ) (hr q k1)
    have:=h.root g2 (hr r g1)
    have:=h.b8 k3
    omega
   ·have:=h.root (Rat.lt_of_le_of_ne h5 (Ne.symm kQ)) (hr r g1)
    have:=h.root k2 (hr q k1)
    have:=h.b8 g3
    omega
end CP
theorem C8{a b:Int}{l:List Int}(h:Cn (a::b::l)):Cn (b::l):=by
 unfold Cn at h ⊢
 rw [aL]at h
 split at h
 ·simp at h
 ·simpa using h
theorem AH{a b:Int}{l:List Int}:lead (a::b::l)=lead (b::l):=by
 unfold lead
 simp only [List.length_cons,Nat.add_sub_cancel]
 rw [kF]
theorem I7{S t:Rat}(hS:0≤S)(ht:S+1≤t):∀ {x:List Int},Cn x→0<x.length→(∀c∈x,Ab (c:Rat) S)→(0<lead x→1≤qv t x)∧(lead x<0→qv t x ≤ -1)
 | [a],hc,_,_=>by
  have e1:qv t [a]=(a:Rat):=by simp only [qv];grind
  have e2:lead [a]=a:=rfl
  rw [e1,e2]
  refine⟨fun h=>fK h,fun h=>?_⟩
  have:((a:Int):Rat)≤((-1:Int):Rat):=Rat.intCast_le_intCast.2 (by omega)
  rwa [Rat.intCast_neg,Rat.intCast_one]at this
 | a::b::l,hc,_,hb=>by
  obtain⟨h1,h2⟩:=I7 hS ht (C8 hc) (by simp) fun c hc=>hb c (List.mem_cons_of_mem _ hc)
  obtain⟨h3,h4⟩:=hb a (by simp)
  have e1:qv t (a::b::l)=a+t*qv t (b::l):=rfl
  rw [AH,e1]
  refine⟨fun h=>?_,fun h=>?_⟩
  ·have:=Rat.mul_le_mul_of_nonneg_left (h1 h) (show 0≤t by grind)
   grind
  ·have:=Rat.mul_le_mul_of_nonneg_left (show 1 ≤ -qv t (b::l)by have:=h2 h;grind) (show 0≤t by grind)
   grind
theorem QW{S t:Rat}(hS:0≤S)(ht:t ≤ -(S+1)):∀ {x:List Int},Cn x→0<x.length→(∀c∈x,Ab (c:Rat) S)→(0<(if x.length%2=0 then -lead x else lead x)→1≤qv t x)∧((if x.length%2=0 then -lead x else lead x)<0→qv t x ≤ -1)
 | [a],hc,_,_=>by
  have e1:qv t [a]=(a:Rat):=by simp only [qv];grind
  have e2:lead [a]=a:=rfl
  rw [e1,e2,if_neg (by simp)]
  refine⟨fun h=>fK h,fun h=>?_⟩
  have:((a:Int):Rat)≤((-1:Int):Rat):=Rat.intCast_le_intCast.2 (by omega)
  rwa [Rat.intCast_neg,Rat.intCast_one]at this
 | a::b::l,hc,_,hb=>by
  obtain⟨h1,h2⟩:=QW hS ht (C8 hc) (by simp) fun c hc=>hb c (List.mem_cons_of_mem _ hc)
  obtain⟨h3,h4⟩:=hb a (by simp)
  have e1:qv t (a::b::l)=a+t*qv t (b::l):=rfl
  have e2:(if (a::b::l).length%2=0 then -lead (a::b::l)else lead (a::b::l)) = -(if (b::l).length%2=0 then -lead (b::l)else lead (b::l)):=by
   rw [AH]
   simp only [List.length_cons]
   split<;>split<;>omega
  rw [e2,e1]
  generalize (if (b::l).length%2=0 then -lead (b::l)else lead (b::l))=z at *
  refine⟨fun h=>?_,fun h=>?_⟩
  ·have:=Rat.mul_le_mul_of_nonneg_left (show 1 ≤ -qv t (b::l)by have:=h2 (by omega);grind) (show 0 ≤ -t by grind)
   grind
  ·have:=Rat.mul_le_mul_of_nonneg_left (h1 (by omega)) (show 0 ≤ -t by grind)
   grind
theorem I8{S t:Rat}(hS:0≤S){x:List Int}(hc:Cn x)(hb:∀c∈x,Ab (c:Rat) S):(S+1≤t→cH (qv t x)=(lead x).sign)∧(t ≤ -(S+1)→cH (qv t x)=if x.length%2=0 then -(lead x).sign else(lead x).sign):=by
 rcases Nat.eq_zero_or_pos x.length with h0 | h0
 ·have:x = []:=List.eq_nil_of_length_eq_zero h0
  subst this
  refine⟨fun _=>?_,fun _=>?_⟩<;>simp only [qv]<;>decide
 ·have hl:=dK hc h0
  refine⟨fun ht=>?_,fun ht=>?_⟩
  ·obtain⟨h1,h2⟩:=I7 hS ht hc h0 hb
   rcases Int.lt_trichotomy (lead x) 0 with h | h | h
   ·have:=h2 h
    rw [Int.sign_eq_neg_one_of_neg h,fS (by grind)]
   ·exact absurd h hl
   ·have:=h1 h
    rw [Int.sign_eq_one_of_pos h,eF (by grind)]
  ·obtain⟨h1,h2⟩:=QW hS ht hc h0 hb
   rcases Int.lt_trichotomy (lead x) 0 with h | h | h
   ·rw [Int.sign_eq_neg_one_of_neg h]
    split
    ·rw [if_pos (by assumption)]at h1
     have:=h1 (by omega)
     rw [eF (by grind)];rfl
    ·rw [if_neg (by assumption)]at h2
     have:=h2 h
     rw [fS (by grind)]
   ·exact absurd h hl
   ·rw [Int.sign_eq_one_of_pos h]
    split
    ·rw [if_pos (by assumption)]at h2
     have:=h2 (by omega)
     rw [fS (by grind)]
    ·rw [if_neg (by assumption)]at h1
     have:=h1 h
     rw [eF (by grind)]
end Pm
namespace Pm
open ZX hiding N W
theorem lK.mul{x y η θ:Rat}(hη:0<η)(hθ:0<θ)(h:lK η x)(h':lK θ y):lK (η*θ) (x*y):=by
 have key:∀ {u v:Rat},η≤u→θ≤v→η*θ≤u*v:=fun {u v} h1 h2=>by
  have p1:=Rat.mul_le_mul_of_nonneg_left h2 (Rat.le_of_lt hη)
  have p2:=Rat.mul_le_mul_of_nonneg_right h1 (show 0≤v by grind)
  grind
 rcases h with h | h<;>rcases h' with h' | h'
 ·right;have:=key (show η ≤ -x by grind) (show θ ≤ -y by grind);grind
 ·left;have:=key (show η ≤ -x by grind) h';grind
 ·left;have:=key h (show θ ≤ -y by grind);grind
 ·right;exact key h h'
def Bg(a b:Rat)(p:ZX):Prop:=∃η:Rat,0<η ∧ ∀x,a≤x→x≤b→lK η (e x p)
theorem Bg.mono{a b c d:Rat}{p:ZX}(h:Bg a b p)(hc:a≤c)(hd:d≤b):Bg c d p:=by
 obtain⟨η,h1,h2⟩:=h
 exact⟨η,h1,fun x hx hy=>h2 x (by grind) (by grind)⟩
theorem avy(t:Rat)(n d:Int):e t (of [n,d])=n+d*t:=by
 rw [apq]
 simp only [qv];grind
theorem C9(l:List Int):∃S:Rat,0≤S ∧ ∀c∈l,Ab (c:Rat) S:=by
 induction l with
 | nil=>exact⟨0,Rat.le_refl,fun c hc=>by cases hc⟩
 | cons a l ih =>
  obtain⟨S,hS,h⟩:=ih
  obtain⟨A,hA,ha,_⟩:=j4 a a
  refine⟨S+A,by grind,fun c hc=>?_⟩
  rcases List.mem_cons.1 hc with rfl | hc
  ·exact ha.mono (by grind)
  ·exact(h c hc).mono (by grind)
theorem cL{a b x B:Rat}(ha:Ab a B)(hb:Ab b B)(hx:a≤x)(hy:x≤b):Ab x B:=by
 obtain⟨h1,h2⟩:=ha
 obtain⟨h3,h4⟩:=hb
 exact⟨by grind,by grind⟩
theorem Bg.same{a b:Rat}{f:ZX}(h:Bg a b f){x y:Rat}(hx:a≤x)(rU:x<y)(hy:y≤b):cH (e y f)=cH (e x f)∧cH (e x f)≠0:=by
 obtain⟨η,hη,h2⟩:=h
 obtain⟨B,hB,ha,hb⟩:=j4 a b
 obtain⟨S,hS,hc⟩:=C9 f.l
 obtain⟨h3,_⟩:=o9 hS hB f.l.length
 generalize hQ:zK S B f.l.length=Q at *
 have hQ1:0<Q+1:=by grind
 have hδ:η/(Q+1)*(Q+1)=η:=Rat.div_mul_cancel (Rat.ne_of_gt hQ1)
 have hδ0:0<η/(Q+1):=(Rat.lt_div_iff hQ1).2 (by grind)
 generalize η/(Q+1)=δ at *
 refine apr (B:=B) hδ0 (P:=fun x y=>a≤x→y≤b→cH (e y f)=cH (e x f)∧cH (e x f)≠0) (fun x y z h1 h2 p1 p2 hx hz=>?_) (fun x y hx hy rU hd hax hyb=>?_) (cL ha hb hx (by grind)) (cL ha hb (by grind) hy) rU hx hy
 ·obtain⟨q1,q2⟩:=p1 hx (by grind)
  obtain⟨q3,q4⟩:=p2 (by grind) hz
  exact⟨q3.trans q1,q2⟩
 ·refine fZ (h2 x hax (by grind)) hη ?_
  show ¬lK η (qv y f.l-qv x f.l)
  rw [mY]
  refine B5 (Q:=Q) (by grind) (hQ▸I6 hS hB hx hy f.l hc) ?_
  have:=Rat.mul_le_mul_of_nonneg_right hd h3
  grind
theorem CP.bg{L:List ZX}{f:ZX}(h:CP L f){a b:Rat}(hb:Bg a b f)(gW:a<b):vt L a=vt L b:=by
 refine h.const gW (σ:=cH (e a f)) (.inr rfl) fun x hx hy=>?_
 exact(hb.same Rat.le_refl hx hy).1
end Pm
namespace Go.Proofs.YtelhfbikiccfkaaGreat
open Go Pm
abbrev T2(n d:Int):PV:=.ag [.bool (decide (n<0)),us (aP LL n.natAbs), .bool (decide (d<0)),us (aP LL d.natAbs)]
abbrev RT(q:Rat):PV:=T2 q.num q.den
theorem apt(n d:Int):((bV [n,d]:Nat):Int)=Int.gcd n d:=by
 simp only [bV,List.foldl_cons,List.foldl_nil,Nat.gcd_zero_left]
 rfl
theorem apu{n d:Int}(h:d≠0):(dR n d).num=(if d<0 then -n else n)/(bV [n,d]:Nat)∧((dR n d).den:Int)=(if d<0 then -d else d)/(bV [n,d]:Nat):=by
 have e:∀m k:Int,(m=n∨m = -n)→(k=d∨k = -d)→((Int.gcd m k:Nat):Int)=(bV [n,d]:Nat):=fun m k hm hk=>by
  rw [apt]
  rcases hm with rfl | rfl<;>rcases hk with rfl | rfl<;>simp
 rw [rB n d h,rC n d h]
 constructor
 ·rw [e _ _ (by split<;>simp) (by split<;>simp)]
 ·rw [e _ _ (by split<;>simp) (by split<;>simp)]
theorem rN{n d:Int}(hn:sz LL n<1099511627770)(hd:sz LL d<1099511627770)(h0:d≠0):aD env.P 179 [I n,I d] (RT (dR n d)):=by
 have sn:Sz n:=by show _<_;omega
 have sd:Sz d:=by show _<_;omega
 have g0:=EY [jD n,jD d] 1099511627770 (by decide) (fun c hc=>by
  simp only [List.mem_cons,List.not_mem_nil,or_false]at hc
  rcases hc with rfl | rfl
  ·exact⟨eN eB _,by unfold sz at hn;show(aP LL n.natAbs).length≤_;omega⟩
  ·exact⟨eN eB _,by unfold sz at hd;show(aP LL d.natAbs).length≤_;omega⟩) (by simp)
 rw [show [jD n,jD d].map gv = [n,d]by simp [OM]]at g0
 obtain⟨q1,q2⟩:=apu (n:=n) h0
 have gd1:((bV [n,d]:Nat):Int)∣n:=fD _ n (by simp)
 have gd2:((bV [n,d]:Nat):Int)∣d:=fD _ d (by simp)
 have gne:((bV [n,d]:Nat):Int)≠0:=by
  have:=PN (x:=[n,d]) (c:=d) (by simp) h0;omega
 have gle:((bV [n,d]:Nat):Int).natAbs≤d.natAbs:=Nat.le_of_dvd (by omega) (Int.natAbs_dvd_natAbs.2 gd2)
 have gsz:sz LL ((bV [n,d]:Nat):Int)<1099511627774:=Nat.lt_of_le_of_lt (cK eB gle) (by omega)
 have nn:∀v,qI (aP LL v)↔qI (aP LL v):=fun _=>Iff.rfl
 have neg:∀v:Int,Sz v→aD env.P 115 [I v] (I (-v)):=fun v hv=>by
  have:=EN (decide (v<0)) (aP LL v.natAbs) hv.SA
  rw [show iv (decide (v<0)) (aP LL v.natAbs)=v from OM v]at this
  exact this
 generalize hg:((bV [n,d]:Nat):Int)=g at *
 have ex:∀v:Int,g∣v→sz LL v<1099511627774→aD env.P 235 [I v,I g] (.fE [I (v/g), .int .i64 0]):=fun v hv hs=>by
  have:=yC hs gsz gne
  rw [if_pos (Int.emod_eq_zero_of_dvd hv)]at this
  exact this
 have n1:=neg n sn
 have n2:=neg d sd
 have avz:∀v:Int,sz LL (-v)=sz LL v:=fun v=>by unfold sz;rw [Int.natAbs_neg]
 have e1:=ex (if d<0 then -n else n) (by split;exact(Int.dvd_neg.2 gd1);exact gd1) (by split;rw [avz];omega;omega)
 have e2:=ex (if d<0 then -d else d) (by split;exact(Int.dvd_neg.2 gd2);exact gd2) (by split;rw [avz];omega;omega)
 rw [←q1]at e1
 rw [←q2]at e2
 have eg:Pg [jD n,jD d] = .sl [[.bool (decide (n<0)),us (aP LL n.natAbs)],[.bool (decide (d<0)),us (aP LL d.natAbs)]]:=rfl
 rw [eg]at g0
 show aD env.P _ _ (T2 (dR n d).num (dR n d).den)
 generalize (dR n d).num=rn at *
 generalize ((dR n d).den:Int)=rd at *
 refine b6 [(0,I n),(1,I d)] Tryz.func179 ?_
 refine aA [2,3,4] ?_
 refine aJ [2,3,4,5] g0 ?_
 generalize xL:(if d<0 then -n else n)=n' at *
 generalize hd':(if d<0 then -d else d)=d' at *
 refine W.gJ (fun σ=>∃(rows:Pm.Rows) (clk:Nat),σ=⟨fa [(2, .ptr 2 0 0 0),(3, .ptr 3 1 0 0),(4, .ptr 4 2 0 0),(5, .ptr 5 3 0 0)],rows,clk⟩∧rows 2=some ⟨0,38,2,[ie n']⟩∧rows 3=some ⟨1,38,2,[ie d']⟩∧rows 4=some ⟨2,52,4,[[.bool false, .nil, .bool false, .nil]]⟩∧rows 5=some ⟨3,38,2,[ie g]⟩) ?_ ?_
 ·refine aA [2,3,4,5,11] ?_
  refine bF ?_ ?_<;>intro h
  ·have h:d<0:=by simpa using h
   rw [if_pos h]at xL hd'
   subst xL hd'
   refine W.H7 (fun K hK=>?_)
   simp (disch:=omega) [gw]
   refine bW n1 ?_
   refine bW n2 ?_
   (try (refine a9 (of_decide_eq_true (by kernel_rfl)) ?_));(try simp (maxSteps:=4000000) (disch:=omega) [gw]);(repeat rw [if_pos (by kernel_rfl)]);(try simp (maxSteps:=4000000) (disch:=omega) [gw])
   (try (refine a9 (of_decide_eq_true (by kernel_rfl)) ?_));(try simp (maxSteps:=4000000) (disch:=omega) [gw]);(repeat rw [if_pos (by kernel_rfl)]);(try simp (maxSteps:=4000000) (disch:=omega) [gw])
   exact hK _ ⟨_,aC _ [2,3,4,5],_,_,rfl,by simp,by simp,by simp,by simp⟩
  ·have h:¬d<0:=by simpa using h
   rw [if_neg h]at xL hd'
   subst xL hd'
   refine W.skip ?_
   exact⟨_,aC _ [2,3,4,5],_,_,rfl,by simp,by simp,by simp,by simp⟩
 rintro _ ⟨rows,clk,rfl,cC,cM,fM,eW⟩
 simp only [ie]at cC cM eW
 refine W.sr ?_
 simp (disch:=omega) [gw,cC,eW]
 refine aB e1 ?_
 simp (disch:=omega) [gw,cC]
 refine bN [2,3,4,5] ?_
 refine W.sr ?_
 simp (disch:=omega) [gw,cM,eW]
 refine aB e2 ?_
 simp (disch:=omega) [gw,cM]
 refine bN [2,3,4] ?_
 refine W.sr ?_
 simp (disch:=omega) [gw,fM]
 refine bN [4] ?_
 exact b7
theorem I9(d:Int):aD env.P 140 [I d] (.bool (decide (d=0))):=by
 have:=EP (decide (d<0)) (aP LL d.natAbs)
 rw [show decide ((aP LL d.natAbs).length=0)=decide (d=0)from by
  by_cases h:d=0
  ·subst h;rfl
  ·have:aP LL d.natAbs ≠ []:=fun h2=>h (by have:=jG eB d.natAbs;rw [h2]at this;simp [V]at this;omega)
   have h3:=List.length_pos_iff.2 this
   simp [h];omega]at this
 exact this
theorem VC(n:Int):dR n 0=dR n 1:=by rw [mJ,dR,if_pos rfl]
theorem nZ{n d:Int}(hn:sz LL n<1099511627770)(hd:sz LL d<1099511627770):aD env.P 161 [T2 n d] (RT (dR n d)):=by
 have sn:Sz n:=by show _<_;omega
 have sd:Sz d:=by show _<_;omega
 have n1:=K2 sn
 have n2:=K2 sd
 have z1:=I9 d
 have o1:=wH 1 (by decide) (by decide)
 obtain⟨e,he,hed⟩:∃e,e=(if d=0 then 1 else d)∧dR n e=dR n d:=by
  refine⟨_,rfl,?_⟩
  split
  ·rename_i h;rw [h,VC]
  ·rfl
 have R3:sz LL e<1099511627770:=by
  rw [he]
  split
  ·exact Nat.lt_of_le_of_lt (cQ (k:=1) eB (by decide)) (by decide)
  ·exact hd
 have GL:e≠0:=by
  rw [he]
  split
  ·decide
  ·assumption
 have l1:=rN (n:=n) (d:=e) hn R3 GL
 rw [hed]at l1
 show aD env.P _ _ (T2 (dR n d).num (dR n d).den)
 replace l1:aD env.P 179 [I n,I e] (T2 (dR n d).num (dR n d).den):=l1
 clear hed R3 GL
 generalize (dR n d).num=rn at *
 generalize ((dR n d).den:Int)=rd at *
 refine b6 [(0,T2 n d)] Tryz.func161 ?_
 refine aA [1,2] ?_
 refine aJ [1,2,3] n2 ?_
 refine W.gJ (fun σ=>∃(rows:Pm.Rows) (clk:Nat),σ=⟨fa [(1, .ptr 1 0 0 0),(2, .ptr 2 1 0 0),(3, .ptr 3 2 0 0)],rows,clk⟩∧rows 1=some ⟨0,52,4,[[.bool (decide (n<0)),us (aP LL n.natAbs), .bool (decide (d<0)),us (aP LL d.natAbs)]]⟩∧rows 2=some ⟨1,52,4,[[.bool false, .nil, .bool false, .nil]]⟩∧rows 3=some ⟨2,38,2,[[.bool (decide (e<0)),us (aP LL e.natAbs)]]⟩) ?_ ?_
 ·refine aJ [1,2,3,8] z1 ?_
  refine bF ?_ ?_<;>intro h
  ·have h:d=0:=by simpa using h
   rw [if_pos h]at he
   subst he
   refine W.cE (fun K hK=>?_)
   simp (disch:=omega) [gw]
   refine bW o1 ?_
   exact hK _ ⟨_,aC _ [1,2,3],_,_,rfl,by simp,by simp,by simp⟩
  ·have h:¬d=0:=by simpa using h
   rw [if_neg h]at he
   subst he
   refine W.skip ?_
   exact⟨_,aC _ [1,2,3],_,_,rfl,by simp,by simp,by simp⟩
 rintro _ ⟨rows,clk,rfl,uJ,cC,cM⟩
 refine W.sd ?_
 simp (disch:=omega) [gw,uJ]
 refine aB n1 ?_
 simp (disch:=omega) [gw,cM]
 refine aB l1 ?_
 simp (disch:=omega) [gw,cC]
 (try (refine a9 (of_decide_eq_true (by kernel_rfl)) ?_));(try simp (maxSteps:=4000000) (disch:=omega) [gw,cC]);(repeat rw [if_pos (by kernel_rfl)]);(try simp (maxSteps:=4000000) (disch:=omega) [gw,cC])
 refine bN [2] ?_
 exact b7
theorem AJ{n d m e:Int}{k:Nat}(hn:sz LL n≤k)(hd:sz LL d≤k)(hm:sz LL m≤k)(he:sz LL e≤k)(hk:k≤500000000000){p q:Rat}(hp:dR n d=p)(hq:dR m e=q)(sp:sz LL p.num≤k∧sz LL (p.den:Int)≤k)(sq:sz LL q.num≤k∧sz LL (q.den:Int)≤k) :
  aD env.P 175 [T2 n d,T2 m e] (.fE [I (p.num*q.den),I (q.num*p.den),I ((p.den:Int)*q.den)]):=by
 have n1:=nZ (n:=n) (d:=d) (by omega) (by omega)
 have n2:=nZ (n:=m) (d:=e) (by omega) (by omega)
 rw [hp]at n1
 rw [hq]at n2
 have z:∀ {v:Int},sz LL v≤k→Sz v:=fun h=>by show _<_;omega
 have m1:=vP (z sp.1) (z sq.2)
 have m2:=vP (z sq.1) (z sp.2)
 have m3:=vP (z sp.2) (z sq.2)
 replace n1:aD env.P 161 [T2 n d] (T2 p.num p.den):=n1
 replace n2:aD env.P 161 [T2 m e] (T2 q.num q.den):=n2
 clear sp sq hp hq
 generalize p.num*(q.den:Int)=x1 at *
 generalize q.num*(p.den:Int)=x2 at *
 generalize (p.den:Int)*(q.den:Int)=x3 at *
 generalize p.num=pn at *
 generalize (p.den:Int)=pd at *
 generalize q.num=qn at *
 generalize (q.den:Int)=qd at *
 refine b6 [(0,T2 n d),(1,T2 m e)] Tryz.func175 ?_
 refine aA [2,3,4,5,6] ?_
 refine iQ ?_
 refine bW n1 ?_
 refine bW n2 ?_
 (try (refine a9 (of_decide_eq_true (by kernel_rfl)) ?_));(try simp (maxSteps:=4000000) (disch:=omega) [gw]);(repeat rw [if_pos (by kernel_rfl)]);(try simp (maxSteps:=4000000) (disch:=omega) [gw])
 (try (refine a9 (of_decide_eq_true (by kernel_rfl)) ?_));(try simp (maxSteps:=4000000) (disch:=omega) [gw]);(repeat rw [if_pos (by kernel_rfl)]);(try simp (maxSteps:=4000000) (disch:=omega) [gw])
 refine bN [2,3,4,5,6] ?_
 refine W.sd ?_
 simp (maxSteps:=4000000) (disch:=omega) [gw]
 refine aB m1 ?_
 simp (maxSteps:=4000000) (disch:=omega) [gw]
 refine aB m2 ?_
 simp (maxSteps:=4000000) (disch:=omega) [gw]
 refine aB m3 ?_
 simp (maxSteps:=4000000) (disch:=omega) [gw]
 (try (refine a9 (of_decide_eq_true (by kernel_rfl)) ?_));(try simp (maxSteps:=4000000) (disch:=omega) [gw]);(repeat rw [if_pos (by kernel_rfl)]);(try simp (maxSteps:=4000000) (disch:=omega) [gw])
 (try (refine a9 (of_decide_eq_true (by kernel_rfl)) ?_));(try simp (maxSteps:=4000000) (disch:=omega) [gw]);(repeat rw [if_pos (by kernel_rfl)]);(try simp (maxSteps:=4000000) (disch:=omega) [gw])
 (try (refine a9 (of_decide_eq_true (by kernel_rfl)) ?_));(try simp (maxSteps:=4000000) (disch:=omega) [gw]);(repeat rw [if_pos (by kernel_rfl)]);(try simp (maxSteps:=4000000) (disch:=omega) [gw])
 refine bN [4,5,6] ?_
 exact b7
theorem dI{n d m e:Int}{k:Nat}(hn:sz LL n≤k)(hd:sz LL d≤k)(hm:sz LL m≤k)(he:sz LL e≤k)(hk:k≤500000000000){p q:Rat}(hp:dR n d=p)(hq:dR m e=q)(sp:sz LL p.num≤k∧sz LL (p.den:Int)≤k)(sq:sz LL q.num≤k∧sz LL (q.den:Int)≤k) :
  aD env.P 90 [T2 n d,T2 m e] (.int .i64 (dQ (p.num*q.den) (q.num*p.den))):=by
 have c1:=AJ hn hd hm he hk hp hq sp sq
 have g1:=cO (b:=LL) eB sp.1 sq.2
 have g2:=cO (b:=LL) eB sq.1 sp.2
 have w1:=ad9 (x:=p.num*q.den) (y:=q.num*p.den) (by show _<_;omega) (by show _<_;omega)
 clear sp sq hp hq g1 g2
 generalize dQ (p.num*(q.den:Int)) (q.num*(p.den:Int))=r at *
 generalize p.num*(q.den:Int)=x1 at *
 generalize q.num*(p.den:Int)=x2 at *
 generalize (p.den:Int)*(q.den:Int)=x3 at *
 refine b6 [(0,T2 n d),(1,T2 m e)] Tryz.func90 ?_
 refine aA [2,3] ?_
 refine aJ [5,6] c1 ?_
 refine aJ [4] w1 ?_
 exact b7
theorem yS{n d:Int}(hn:sz LL n<1099511627770)(hd:sz LL d<1099511627770):aD env.P 94 [T2 n d, .sl []] (RT (dR n d)):=by
 have n1:=nZ hn hd
 show aD env.P _ _ (T2 (dR n d).num (dR n d).den)
 replace n1:aD env.P 161 [T2 n d] (T2 (dR n d).num (dR n d).den):=n1
 generalize (dR n d).num=rn at *
 generalize ((dR n d).den:Int)=rd at *
 refine b6 [(0,T2 n d),(1, .sl [])] Tryz.func94 ?_
 refine aA [1,2,4] ?_
 refine aJ [1,4,5] n1 ?_
 refine aM [4,5,10,11,12] ?_
 refine W.block ?_
 refine W.bE (fun k σ=>∃(rows:Pm.Rows) (clk:Nat),σ=⟨fa [(4, .ptr 4 1 0 0),(5, .ptr 5 2 0 0),(11, .int .i64 0),(12, .int .i64 0)],rows,clk⟩∧rows 4=some ⟨1,52,4,[[.bool false, .nil, .bool false, .nil]]⟩∧rows 5=some ⟨2,52,4,[[.bool (decide (rn<0)),us (aP LL rn.natAbs), .bool (decide (rd<0)),us (aP LL rd.natAbs)]]⟩) 0 ?_ ?_
 ·exact⟨_,aC _ [4,5,11,12],_,_,rfl,by simp,by simp⟩
 rintro k _ ⟨rows,clk,rfl,fM,eW⟩
 refine cB [4,5,11,12,13] ?_
 refine bF ?_ ?_<;>intro h
 ·simp at h
 ·refine eV ?_
  refine W.sr ?_
  simp (disch:=omega) [gw,fM,eW]
  refine bN [4] ?_
  exact b7
theorem abp{n d:Int}(hn:sz LL n<1099511627770)(hd:sz LL d<1099511627770):aD env.P 176 [T2 n d] (RT (dR n d)):=by
 have n1:=yS hn hd
 show aD env.P _ _ (T2 (dR n d).num (dR n d).den)
 replace n1:aD env.P 94 [T2 n d, .sl []] (T2 (dR n d).num (dR n d).den):=n1
 generalize (dR n d).num=rn at *
 generalize ((dR n d).den:Int)=rd at *
 refine b6 [(0,T2 n d)] Tryz.func176 ?_
 refine aA [1,2] ?_
 refine aJ [2] n1 ?_
 exact b7
end Go.Proofs.YtelhfbikiccfkaaGreat
namespace Go.Proofs.YtelhfbikiccfkaaGreat
open Go Pm
open ZX hiding N W
def wY(st:Nat × Int)(s:Int):Nat × Int:=if s=0 then st else(if st.2≠0∧s≠st.2 then st.1+1 else st.1,s)
def vr(l:List Int):Nat:=(l.foldl wY (0,0)).1
theorem VD(l:List Int):∀st:Nat × Int,(l.foldl wY st).1≤st.1+l.length:=by
 induction l with
 | nil=>intro st;simp
 | cons s l ih =>
  intro st
  have h:=ih (wY st s)
  have:(wY st s).1≤st.1+1:=by
   unfold wY
   split
   ·omega
   ·simp only;split<;>omega
  simp only [List.foldl_cons,List.length_cons]
  omega
theorem FT(l:List Int):vr l≤l.length:=by have:=VD l (0,0);simpa [vr]using this
theorem AK{l:List Int}{i:Nat}(h:i<l.length):(l.take (i+1)).foldl wY (0,0)=wY ((l.take i).foldl wY (0,0)) (nth l i):=by
 rw [List.take_add_one,List.getElem?_eq_getElem h,dE h,List.foldl_append]
 rfl
theorem DA(l:List Int)(i:Nat):aH (nth l i) = [.int .i64 (nth l i)]:=rfl
theorem VE(l:List Int)(hl:l.length<1099511627776):aD env.P 227 [aG aH l] (.int .i64 (vr l)):=by
 have hv:vr l=((l.take l.length).foldl wY (0,0)).1:=by rw [List.take_length];rfl
 rw [hv]
 have hb:∀i,((l.take i).foldl wY (0,0)).1≤i:=fun i=>by have:=VD (l.take i) (0,0);simp at this;omega
 have iP:=fun i (h:i<l.length)=>AK h
 generalize (fun i=>(l.take i).foldl wY (0,0))=F at *
 refine b6 [(0,aG aH l)] Tryz.func227 ?_
 refine aA [0] ?_
 refine aA [0,3,4] ?_
 refine aM [0,3,4,7,8] ?_
 refine W.block ?_
 refine W.bE (fun k σ=>∃(i:Nat) (n:Nat) (s:Int) (rows:Pm.Rows) (clk:Nat),σ=⟨fa [(0,aG aH l),(3, .int .i64 n),(4, .int .i64 s),(7, .int .i64 l.length),(8, .int .i64 i)],rows,clk⟩∧i+k=l.length∧(l.take i).foldl wY (0,0)=(n,s)) l.length ?_ ?_
 ·exact⟨_, .refl,0,0,0,_,_,rfl,by omega,by simp⟩
 rintro k _ ⟨i,n,s,rows,clk,rfl,EV,hF⟩
 have hni:n≤i:=by have:=hb i;rw [hF]at this;exact this
 refine cB [0,3,4,7,8,9] ?_
 refine bF ?_ ?_<;>intro h
 ·have hi:i<l.length:=by simp at h;omega
  have sO:=iP i hi
  rw [hF]at sO
  generalize hx:nth l i=x at *
  refine W.skip ?_
  refine W.dV (fun σ=>∃(n':Nat) (s':Int) (rows:Pm.Rows) (clk:Nat),σ=⟨fa [(0,aG aH l),(3, .int .i64 n'),(4, .int .i64 s'),(7, .int .i64 l.length),(8, .int .i64 i)],rows,clk⟩∧wY (n,s) x=(n',s')) ?_ ?_
  ·refine aA [0,3,4,5,7,8] ?_
   refine W.sr ?_
   simp (disch:=omega) [gw,hi,hx,DA]
   refine bN [0,3,4,5,7,8,15] ?_
   refine bF ?_ ?_<;>intro h
   ·have pL:x≠0:=by simpa using h
    refine W.gJ (fun σ=>∃(n':Nat) (rows:Pm.Rows) (clk:Nat),σ=⟨fa [(0,aG aH l),(3, .int .i64 n'),(5, .int .i64 i),(7, .int .i64 l.length),(8, .int .i64 i)],rows,clk⟩∧wY (n,s) x=(n',x)) ?_ ?_
    ·refine W.fY (fun σ=>∃(b:Bool) (rows:Pm.Rows) (clk:Nat),σ=⟨fa [(0,aG aH l),(3, .int .i64 n),(5, .int .i64 i),(7, .int .i64 l.length),(8, .int .i64 i),(25, .bool b)],rows,clk⟩∧b=decide (s≠0∧x≠s)) (fun K hK=>?_) ?_
     ·by_cases R9:s=0
      ·subst R9
       simp (disch:=omega) [gw,hi,hx,DA]
       exact hK _ _ (aC _ [0,3,5,7,8,25]) ⟨_,_,_,rfl,by simp⟩
      ·have J6:(s != 0)=true:=by simpa using R9
       simp (disch:=omega) [gw,hi,hx,DA,J6]
       exact hK _ _ (aC _ [0,3,5,7,8,25]) ⟨_,_,_,rfl,by simp [R9];rfl⟩
     rintro _ ⟨b,rows,clk,rfl,rfl⟩
     refine bF ?_ ?_<;>intro h
     ·have h:=of_decide_eq_true h
      refine W.cE (fun K hK=>?_);simp (disch:=omega) [gw]
      exact hK _ ⟨_,aC _ [0,3,5,7,8],n+1,_,_,rfl,by unfold wY;rw [if_neg pL];simp only;rw [if_pos h]⟩
     ·have h:=of_decide_eq_false h
      refine W.skip ?_
      exact⟨_,aC _ [0,3,5,7,8],n,_,_,rfl,by unfold wY;rw [if_neg pL];simp only;rw [if_neg h]⟩
    rintro _ ⟨n',rows,clk,rfl,xL⟩
    refine W.cE (fun K hK=>?_);simp (disch:=omega) [gw,hi,hx,DA]
    exact hK _ ⟨_,aC _ [0,3,4,7,8],n',x,_,_,rfl,xL⟩
   ·have pL:x=0:=by simpa using h
    refine W.skip ?_
    exact⟨_,aC _ [0,3,4,7,8],n,s,_,_,rfl,by unfold wY;rw [if_pos pL]⟩
  rintro _ ⟨n',s',rows,clk,rfl,xL⟩
  refine W.cE (fun K hK=>?_);simp (disch:=omega) [gw]
  refine hK _ ⟨k-1,_,aC _ [0,3,4,7,8],by omega,i+1,n',s',_,_,rfl,by omega,by rw [sO,xL]⟩
 ·have hi:i=l.length:=by simp at h;omega
  subst hi
  refine eV ?_
  refine aA [2] ?_
  rw [hF]
  exact b7
def eL(x:List Int):Int:=if x.length%2=0 then -(lead x).sign else(lead x).sign
def eR(x:List Int):Int:=(lead x).sign
def pA(c:List ZX)(n d:Int):List Int:=c.map fun p=>LX p.l n d
def sgL(c:List ZX):List Int:=c.map fun p=>eL p.l
def sgR(c:List ZX):List Int:=c.map fun p=>eR p.l
theorem DB{l:List Int}{v:Int}:emap aH l ++ [[.int .i64 v]]=emap aH (l ++ [v]):=by simp [emap,aH]
theorem HH{α:Type}[Inhabited α](f:α→Int){c:List α}{i:Nat}(h:i<c.length):(c.take i).map f ++ [f (nth c i)]=(c.take (i+1)).map f:=by
 rw [List.take_add_one,List.getElem?_eq_getElem h,dE h,List.map_append];rfl
theorem QX{c:List ZX}{n d:Int}(hl:c.length<1000000)(hS:∀p∈c,aD env.P 81 [PI p.l,R2 n d] (.int .i64 (LX p.l n d))):aD env.P 164 [aG zq c,R2 n d] (.int .i64 (vr (pA c n d))):=by
 have hT:=VE (pA c n d) (by simp [pA];omega)
 have gH:(emap aH (pA c n d)).length=c.length:=by simp [pA,emap]
 have zF:(pA c n d)=(c.take c.length).map fun p=>LX p.l n d:=by rw [List.take_length];rfl
 have htG:(pA c n d).take c.length=pA c n d:=List.take_of_length_le (by simp [pA])
 generalize vr (pA c n d)=r at *
 generalize hg:pA c n d=G at *
 refine b6 [(0,aG zq c),(1,R2 n d)] Tryz.func164 ?_
 refine aA [0,3] ?_
 refine aA [0,3,5] ?_
 refine W.nil 5 5 3 1 (by simp) (by decide) (fun K hK=>?_)
 refine W.lw [0,3,5] hK ?_;clear hK K;simp
 refine aM [0,3,5,8,9] ?_
 refine W.block ?_
 refine W.bE (fun k σ=>∃(i ver v3 e3:Nat) (rows:Pm.Rows) (clk:Nat),σ=⟨fa [(0,aG zq c),(3, .ptr 3 v3 0 0),(5, .own 5 ver 0 i),(8, .int .i64 c.length),(9, .int .i64 i)],rows,clk⟩∧i+k=c.length ∧
  rows 3=some ⟨v3,e3,4,[[aG aH (aP DD n.natAbs), .bool (decide (n<0)),aG aH (aP DD d.natAbs), .bool (decide (d<0))]]⟩∧rows 5=some ⟨ver,3,1,emap aH ((c.take i).map fun p=>LX p.l n d)⟩) c.length ?_ ?_
 ·exact⟨_, .refl,0,_,_,_,_,_,rfl,by omega,by simp;first | exact⟨rfl,rfl⟩ | exact rfl,by simp [emap]⟩
 rintro k _ ⟨i,ver,v3,e3,rows,clk,rfl,EV,cM,eW⟩
 have wL:((c.take i).map fun p=>LX p.l n d).length=i:=by simp;omega
 refine cB [0,3,5,8,9,10] ?_
 refine bF ?_ ?_<;>intro h
 ·have hi:i<c.length:=by simp at h;omega
  have hSi:=hS _ (bS hi)
  have hap:=HH (fun p:ZX=>LX p.l n d) hi
  generalize hpr:(c.take i).map (fun p=>LX p.l n d)=pr at *
  generalize hv:LX (nth c i).l n d=v at *
  have nT:(emap aH pr).length=i:=by simp [emap,wL]
  refine jV ?_
  refine aA [0,3,5,6,8,9] ?_
  refine W.H7 (fun K hK=>?_)
  simp (disch:=omega) [gw,hi,cM,eW]
  refine aB hSi ?_
  simp (disch:=omega) [gw,eW,nT,DB]
  (try (refine a9 (of_decide_eq_true (by kernel_rfl)) ?_));(try simp (maxSteps:=4000000) (disch:=omega) [gw,eW,nT,DB]);(repeat rw [if_pos (by kernel_rfl)]);(try simp (maxSteps:=4000000) (disch:=omega) [gw,eW,nT,DB])
  refine W.lw [0,3,5,8,9] hK ?_;clear hK K;simp
  refine W.cE (fun K hK=>?_);simp (disch:=omega) [gw]
  refine hK _ ⟨k-1,_,aC _ [0,3,5,8,9],by omega,i+1,_,v3,e3,_,_,rfl,by omega,by simp [cM],by simp [DB,hap]⟩
 ·have hi:i=c.length:=by simp at h;omega
  subst hi
  rw [←zF]at eW
  refine eV ?_
  refine W.sr ?_
  simp (disch:=omega) [gw,eW,gH,htG]
  refine bU [4] hT ?_
  exact b7
theorem QY{c:List ZX}{n d m e:Int}(hn:sz 2 n≤YY)(hd:sz 2 d≤YY)(hm:sz 2 m≤YY)(he:sz 2 e≤YY)(hl:c.length<1000000)(h1:aD env.P 164 [aG zq c,R2 n d] (.int .i64 (vr (pA c n d))))(h2:aD env.P 164 [aG zq c,R2 m e] (.int .i64 (vr (pA c m e)))) :
  aD env.P 80 [aG zq c,R2 n d,R2 m e] (.int .i64 (if m*d<n*e then 0 else(vr (pA c n d):Int)-vr (pA c m e))):=by
 have c1:=AG m e n d hm he hn hd
 have v1:=FT (pA c n d)
 have v2:=FT (pA c m e)
 have l1:(pA c n d).length=c.length:=by simp [pA]
 have l2:(pA c m e).length=c.length:=by simp [pA]
 generalize vr (pA c n d)=a at *
 generalize vr (pA c m e)=b at *
 have hc:(dQ (m*d) (n*e)<0)↔m*d<n*e:=by
  unfold dQ;split
  ·omega
  ·split<;>omega
 generalize m*d=xx at *
 generalize n*e=yy at *
 generalize dQ xx yy=z at *
 refine b6 [(0,aG zq c),(1,R2 n d),(2,R2 m e)] Tryz.func80 ?_
 refine aA [0,4,5] ?_
 refine W.seq ?_
 refine aJ [0,4,5,10] c1 ?_
 refine bF ?_ ?_<;>intro h
 ·have h:z<0:=by simpa using h
  rw [if_pos (hc.1 h)]
  refine aA [6] ?_
  exact b7
 ·have h:¬z<0:=by simpa using h
  rw [if_neg (fun hh=>h (hc.2 hh))]
  refine W.skip ?_
  refine iQ ?_
  refine bW h1 ?_
  refine bU [6] h2 ?_
  exact b7
theorem ajm{n d:Int}(hn:Z n)(hd:Z d):aD env.P 24 [R2 n d] (T2 n d):=by
 have t1:=CZ n hn
 have t2:=CZ d hd
 refine b6 [(0,R2 n d)] Tryz.func24 ?_
 refine aA [1,2] ?_
 refine iQ ?_
 refine bW t1 ?_
 refine bW t2 ?_
 (try (refine a9 (of_decide_eq_true (by kernel_rfl)) ?_));(try simp (maxSteps:=4000000) (disch:=omega) [gw]);(repeat rw [if_pos (by kernel_rfl)]);(try simp (maxSteps:=4000000) (disch:=omega) [gw])
 refine bN [2] ?_
 exact b7
abbrev CH(c:List ZX):PV:=.rd [aG zp c]
theorem QZ{l:List Int}(hs:∀s∈l,s = -1∨s=0∨s=1):∀i,i≤l.length→((l.take i).foldl wY (0,0)).2 = -1∨((l.take i).foldl wY (0,0)).2=0∨((l.take i).foldl wY (0,0)).2=1
 | 0,_ => .inr (.inl (by simp))
 | i+1,h=>by
  rw [AK (by omega)]
  have ih:=QZ hs i (by omega)
  have:=hs _ (bS (show i<l.length by omega))
  unfold wY
  split
  ·exact ih
  ·exact this
theorem wZ(g:FuncId)(hw:KU g=false)(cV:List PV)(hc:cV.all gX=true)(c:List ZX)(sg:ZX→Int)(hl:c.length<1000000)(hs:∀p∈c,sg p = -1∨sg p=0∨sg p=1)(hg:∀p∈c,aD env.P g (Po p.l::cV) (.int .i64 (sg p))) :
  aD env.P 224 [CH c, .fn g cV] (.int .i64 (vr (c.map sg))):=by
 have hv:vr (c.map sg)=(((c.map sg).take c.length).foldl wY (0,0)).1:=by rw [List.take_of_length_le (by simp)];rfl
 rw [hv]
 have hb:∀i,(((c.map sg).take i).foldl wY (0,0)).1≤i:=fun i=>by have:=VD ((c.map sg).take i) (0,0);simp at this;omega
 have iP:=fun i (h:i<(c.map sg).length)=>AK h
 have QR:=QZ (l:=c.map sg) (fun s h=>by
  simp only [List.mem_map]at h
  obtain⟨p,hp,rfl⟩:=h
  exact hs p hp)
 have hln:(c.map sg).length=c.length:=by simp
 have wU:∀i,i<c.length→nth (c.map sg) i=sg (nth c i):=fun i hi=>by rw [dE (by simpa using hi),dE hi];simp
 refine b6 [(0,CH c),(1, .fn g cV)] Tryz.func224 ?_
 refine aA [0,1] ?_
 refine aA [0,1,5,6] ?_
 refine aM [1,5,6,13,14,15] ?_
 refine W.block ?_
 refine W.bE (fun k σ=>∃(i:Nat) (n:Nat) (s:Int) (rows:Pm.Rows) (clk:Nat),σ=⟨fa [(1, .fn g cV),(5, .int .i64 n),(6, .int .i64 s),(13,aG zp c),(14, .int .i64 c.length),(15, .int .i64 i)],rows,clk⟩∧i+k=c.length∧((c.map sg).take i).foldl wY (0,0)=(n,s)) c.length ?_ ?_
 ·exact⟨_, .refl,0,0,0,_,_,rfl,by omega,by simp⟩
 rintro k _ ⟨i,n,s,rows,clk,rfl,EV,hF⟩
 have hni:n≤i:=by have:=hb i;rw [hF]at this;exact this
 have hsv:=QR i (by omega)
 rw [hF]at hsv
 simp only at hsv
 refine cB [1,5,6,13,14,15,16] ?_
 refine bF ?_ ?_<;>intro h
 ·have hi:i<c.length:=by simp at h;omega
  have sO:=iP i (by omega)
  have hgi:=hg _ (bS hi)
  have hxv:=hs _ (bS hi)
  rw [hF,wU i hi]at sO
  generalize hx:sg (nth c i)=x at *
  refine W.skip ?_
  refine W.dV (fun σ=>∃(n':Nat) (s':Int) (rows:Pm.Rows) (clk:Nat),σ=⟨fa [(1, .fn g cV),(5, .int .i64 n'),(6, .int .i64 s'),(13,aG zp c),(14, .int .i64 c.length),(15, .int .i64 i)],rows,clk⟩∧wY (n,s) x=(n',s')) ?_ ?_
  ·refine W.sr ?_
   simp (disch:=omega) [gw,hi]
   refine bN [1,5,6,8,13,14,15] ?_
   refine W.sr ?_
   simp only [KU]at hw
   simp (disch:=omega) [gw,hw,hc]
   refine bU [1,5,6,9,13,14,15] hgi ?_
   refine aM [1,5,6,9,13,14,15,23] ?_
   refine bF ?_ ?_<;>intro h
   ·have pL:x=0:=by simpa using h
    refine eV ?_
    exact⟨_,aC _ [1,5,6,13,14,15],n,s,_,_,rfl,by unfold wY;rw [if_pos pL]⟩
   ·have pL:x≠0:=by simpa using h
    refine W.skip ?_
    refine W.gJ (fun σ=>∃(n':Nat) (rows:Pm.Rows) (clk:Nat),σ=⟨fa [(1, .fn g cV),(5, .int .i64 n'),(9, .int .i64 x),(13,aG zp c),(14, .int .i64 c.length),(15, .int .i64 i)],rows,clk⟩∧wY (n,s) x=(n',x)) ?_ ?_
    ·refine aA [1,5,9,13,14,15,27] ?_
     refine bF ?_ ?_<;>intro h
     ·have h:s = -x:=by simpa using h
      refine W.cE (fun K hK=>?_);simp (disch:=omega) [gw]
      exact hK _ ⟨_,aC _ [1,5,9,13,14,15],n+1,_,_,rfl,by unfold wY;rw [if_neg pL];simp only;rw [if_pos ⟨by omega,by omega⟩]⟩
     ·have h:¬s = -x:=by simpa using h
      refine W.skip ?_
      exact⟨_,aC _ [1,5,9,13,14,15],n,_,_,rfl,by unfold wY;rw [if_neg pL];simp only;rw [if_neg (fun hh=>by obtain⟨h1,h2⟩:=hh;omega)]⟩
    rintro _ ⟨n',rows,clk,rfl,xL⟩
    refine W.cE (fun K hK=>?_);simp (disch:=omega) [gw]
    exact hK _ ⟨_,aC _ [1,5,6,13,14,15],n',x,_,_,rfl,xL⟩
  rintro _ ⟨n',s',rows,clk,rfl,xL⟩
  refine W.cE (fun K hK=>?_);simp (disch:=omega) [gw]
  refine hK _ ⟨k-1,_,aC _ [1,5,6,13,14,15],by omega,i+1,n',s',_,_,rfl,by omega,by rw [sO,xL]⟩
 ·have hi:i=c.length:=by simp at h;omega
  subst hi
  refine eV ?_
  refine aA [4] ?_
  rw [hF]
  exact b7
theorem afo{s k u:Nat}{n d:Int}(hn:sz LL n≤u)(hd:sz LL d≤u)(hu:1≤u):∀ {x:List Int},Bd LL s k x→sz LL (hm n d x).1≤s+x.length*(u+1)∧sz LL (hm n d x).2≤x.length*u+1
 | [],_=>⟨by show sz LL 0≤_;rw [show sz LL 0=0 by decide];omega,by show sz LL 1≤_;exact Nat.le_trans (cQ (k:=1) eB (by decide)) (by omega)⟩
 | a::l,h=>by
  obtain⟨h1,h2⟩:=afo hn hd hu (x:=l) ⟨Nat.le_trans (by simp) h.len,fun c hc=>h.sz c (by simp [hc])⟩
  have ha:=h.sz a (by simp)
  have e:(a::l).length*u=l.length*u+u:=by rw [List.length_cons,Nat.add_mul];omega
  have e':(a::l).length*(u+1)=l.length*u+l.length+u+1:=by rw [List.length_cons,Nat.add_mul,Nat.mul_add];omega
  have e'':l.length*(u+1)=l.length*u+l.length:=by rw [Nat.mul_add];omega
  refine⟨?_,?_⟩
  ·have g1:=cO (b:=LL) eB h1 hn
   have g2:=cO (b:=LL) eB ha h2
   have:=n9 (b:=LL) eB (Nat.le_trans g1 (Nat.le_max_left _ (s+(l.length*u+1)))) (Nat.le_trans g2 (Nat.le_max_right (s+l.length*(u+1)+u) _))
   refine Nat.le_trans this ?_
   rw [e',e'']
   omega
  ·have:=cO (b:=LL) eB h2 hd
   rw [e]
   exact Nat.le_trans this (by omega)
theorem abt{x:List Int}{n d:Int}{s k u:Nat}(hx:Bd LL s k x)(hn:sz LL n≤u)(hd:sz LL d≤u)(hu:1≤u)(hk:k<1099511627776)(hB:s+k*(u+1)+u<500000000000):aD env.P 177 [Po x,I n,I d] (I (hm n d x).1)∧Sz (hm n d x).1:=by
 have hl:=hx.len
 have hO:=wH 1 (by decide) (by decide)
 have bd:=fun i=>afo (s:=s) (k:=k) (x:=x.drop i) hn hd hu ⟨by simp;omega,fun c hc=>hx.sz c (List.mem_of_mem_drop hc)⟩
 have hle:∀i,(x.drop i).length*(u+1)≤k*(u+1):=fun i=>Nat.mul_le_mul_right _ (by simp;omega)
 have afg:∀i,(x.drop i).length*u≤(x.drop i).length*(u+1):=fun i=>Nat.mul_le_mul_left _ (by omega)
 have step:∀i,i<x.length→hm n d (x.drop i)=((hm n d (x.drop (i+1))).1*n+nth x i*(hm n d (x.drop (i+1))).2,(hm n d (x.drop (i+1))).2*d):=fun i hi=>by
  rw [List.drop_eq_getElem_cons hi,dE hi];rfl
 have LK:hm n d (x.drop x.length)=(0,1):=by rw [List.drop_length];rfl
 have h0:hm n d (x.drop 0)=hm n d x:=rfl
 have hz:Sz (hm n d x).1:=by have:=(bd 0).1;have:=hle 0;rw [h0]at *;show _<_;omega
 refine⟨?_,hz⟩
 have M:∀i,i<x.length→aD env.P 70 [I (hm n d (x.drop (i+1))).1,I n] (I ((hm n d (x.drop (i+1))).1*n))∧aD env.P 70 [I (nth x i),I (hm n d (x.drop (i+1))).2] (I (nth x i*(hm n d (x.drop (i+1))).2)) ∧
   aD env.P 69 [I ((hm n d (x.drop (i+1))).1*n),I (nth x i*(hm n d (x.drop (i+1))).2)] (I (hm n d (x.drop i)).1)∧aD env.P 70 [I (hm n d (x.drop (i+1))).2,I d] (I (hm n d (x.drop i)).2):=fun i hi=>by
  obtain⟨b1,b2⟩:=bd (i+1)
  have l1:=hle (i+1)
  have l2:=afg (i+1)
  have ha:=hx.sz _ (bS hi)
  have g1:=cO (b:=LL) eB b1 hn
  have g2:=cO (b:=LL) eB ha b2
  have zz:∀ {v:Int},sz LL v<1099511627776→Sz v:=fun h=>h
  have e:=step i hi
  rw [e]
  exact⟨vP (zz (by omega)) (zz (by omega)),vP (zz (by omega)) (zz (by omega)),XL (zz (by omega)) (zz (by omega)),vP (zz (by omega)) (zz (by omega))⟩
 clear bd hle afg step hz
 generalize hm n d x=r0 at *
 refine b6 [(0,Po x),(1,I n),(2,I d)] Tryz.func177 ?_
 refine aA [0,4,5,6] ?_
 refine aA [0,4,5,6,7] ?_
 refine aJ [0,4,5,6,7,8] hO ?_
 refine aM [0,4,5,6,7,8,9] ?_
 refine W.row (id:=7) (els:=[[.bool false, .nil]]) [[.bool (decide ((0:Int)<0)),us (aP LL (0:Int).natAbs)]] (by simp;first | exact⟨rfl,rfl,rfl⟩ | exact⟨rfl,rfl⟩ | rfl) ⟨⟨.inl rfl, .inr ⟨rfl,rfl⟩,trivial⟩,trivial⟩ ?_
 refine W.block ?_
 refine W.bE (fun k σ=>∃(v4 v5 v6 v7 v8 e4 e5 e6 e7 e8:Nat) (rows:Pm.Rows) (clk:Nat),σ=⟨fa [(0,Po x),(4, .ptr 4 v4 0 0),(5, .ptr 5 v5 0 0),(6, .ptr 6 v6 0 0),(7, .ptr 7 v7 0 0),(8, .ptr 8 v8 0 0),(9, .int .i64 ((k:Int)-1))],rows,clk⟩∧k≤x.length ∧
  rows 4=some ⟨v4,e4,2,[[.bool (decide (n<0)),us (aP LL n.natAbs)]]⟩∧rows 5=some ⟨v5,e5,2,[[.bool (decide (d<0)),us (aP LL d.natAbs)]]⟩∧rows 6=some ⟨v6,e6,2,[[.bool false, .nil]]⟩ ∧
  rows 7=some ⟨v7,e7,2,[[.bool (decide ((hm n d (x.drop k)).1<0)),us (aP LL (hm n d (x.drop k)).1.natAbs)]]⟩ ∧
  rows 8=some ⟨v8,e8,2,[[.bool (decide ((hm n d (x.drop k)).2<0)),us (aP LL (hm n d (x.drop k)).2.natAbs)]]⟩) x.length ?_ ?_
 ·exact⟨_, .refl,_,_,_,_,_,_,_,_,_,_,_,_,rfl,Nat.le_refl _,by simp;(first | exact⟨rfl,rfl⟩ | rfl),by simp;(first | exact⟨rfl,rfl⟩ | rfl),by simp;(first | exact⟨rfl,rfl⟩ | rfl),by rw [LK];simp;(first | exact⟨rfl,rfl⟩ | rfl),by rw [LK];simp;(first | exact⟨rfl,rfl⟩ | rfl)⟩
 rintro k _ ⟨v4,v5,v6,v7,v8,e4,e5,e6,e7,e8,rows,clk,rfl,hkl,fM,eW,lB,pT,CK⟩
 refine aM [0,4,5,6,7,8,9,15] ?_
 refine bF ?_ ?_<;>intro h
 ·have zI:0<k:=by simp at h;omega
  obtain⟨k,rfl⟩:∃j,k=j+1:=⟨k-1,by omega⟩
  obtain⟨m1,m2,m3,m4⟩:=M k (by omega)
  generalize hm n d (x.drop (k+1))=A at *
  have e1:(((k+1:Nat):Int)-1).toNat=k:=by omega
  refine jV ?_
  refine W.sd ?_
  simp (disch:=omega) [gw,fM,pT]
  refine aB m1 ?_
  simp (disch:=omega) [gw,CK]
  refine bW m2 ?_
  refine aB m3 ?_
  simp (disch:=omega) [gw,pT]
  (try (refine a9 (of_decide_eq_true (by kernel_rfl)) ?_));(try simp (maxSteps:=4000000) (disch:=omega) [gw,pT]);(repeat rw [if_pos (by kernel_rfl)]);(try simp (maxSteps:=4000000) (disch:=omega) [gw,pT])
  refine bN [0,4,5,6,7,8,9] ?_
  refine W.cE (fun K hK=>?_)
  simp (disch:=omega) [gw,CK,eW]
  refine aB m4 ?_
  simp (disch:=omega) [gw,CK]
  refine W.lw [0,4,5,6,7,8,9] hK ?_;clear hK K;simp
  refine W.cE (fun K hK=>?_);simp (disch:=omega) [gw]
  refine hK _ ⟨k,_,aC _ [0,4,5,6,7,8,9],by omega,v4,v5,v6,v7,v8,_,_,_,_,_,_,_,rfl,by omega,by simp [fM];exact rfl,by simp [eW];exact rfl,by simp [lB];exact rfl,by simp;exact rfl,by simp;exact rfl⟩
 ·have zI:k=0:=by simp at h;omega
  subst zI
  rw [h0]at pT
  refine eV ?_
  refine W.sr ?_
  simp (disch:=omega) [gw,pT,lB]
  refine bN [6] ?_
  exact b7
theorem zT(v:Int):dQ v 0=v.sign:=by
 rcases Int.lt_trichotomy v 0 with h | h | h
 ·rw [Int.sign_eq_neg_one_of_neg h,nK h]
 ·subst h;decide
 ·rw [Int.sign_eq_one_of_pos h,nM h]
theorem JA{x:List Int}{n d:Int}{s k u:Nat}(hx:Bd LL s k x)(cx:Cn x)(hn:sz LL n≤u)(hd:sz LL d≤u)(hu:1≤u)(hk:k<1099511627774)(hu2:u<500000000000)(hB:s+k*(u+1)+u<500000000000){q:Rat}(hq:dR n d=q)(sq:sz LL q.num≤u∧sz LL (q.den:Int)≤u):aD env.P 91 [Po x,T2 n d] (.int .i64 (LX x q.num q.den)):=by
 have p1:=abp (n:=n) (d:=d) (Nat.lt_of_le_of_lt hn (by omega)) (Nat.lt_of_le_of_lt hd (by omega))
 rw [hq]at p1
 have n1:=fR (x:=x) (PB.of hx (by omega) (by omega))
 rw [show aL x=x from cx]at n1
 obtain⟨hV,hz⟩:=abt hx sq.1 sq.2 hu (by omega) hB
 have c1:=ad9 (x:=(hm q.num q.den x).1) (y:=0) hz (show sz LL 0<_ by decide)
 rw [zT,show(hm q.num q.den x).1.sign=LX x q.num q.den from rfl]at c1
 replace p1:aD env.P 176 [T2 n d] (T2 q.num q.den):=p1
 generalize LX x q.num q.den=r at *
 generalize (hm q.num q.den x).1=v at *
 generalize q.num=qn at *
 generalize (q.den:Int)=qd at *
 refine b6 [(0,Po x),(1,T2 n d)] Tryz.func91 ?_
 refine aA [0,3] ?_
 refine aJ [0,3] p1 ?_
 refine iQ ?_
 refine bW n1 ?_
 refine bW hV ?_
 refine bU [4] c1 ?_
 exact b7
@[simp] theorem ahM{l:List PV}:gX (.rd l)=true:=rfl
@[simp] theorem adJ{l:List PV}:dB (.rd l)=true:=rfl
@[simp] theorem ahN{l:List PV}:bM (.rd l) = []:=rfl
@[simp] theorem axF{l:List PV}:eI (.rd l) = []:=rfl
@[simp] theorem aDI{rows:Pm.Rows}{l:List PV}:fz rows (.rd l) = .rd l:=rfl
@[simp] theorem aDJ{rows:Pm.Rows}{l:List PV}:pz rows (.rd l) = .rd l:=rfl
theorem abu(v:Int):aD env.P 111 [I v] (.int .i64 v.sign):=by
 have h1:=aem (decide (v<0)) (aP LL v.natAbs)
 have e:(if (aP LL v.natAbs).length=0 then 0 else if decide (v<0)=true then -1 else 1:Int)=v.sign:=by
  by_cases h:v=0
  ·subst h;decide
  ·have:aP LL v.natAbs ≠ []:=fun h2=>h (by have:=jG eB v.natAbs;rw [h2]at this;simp [V]at this;omega)
   have h3:=List.length_pos_iff.2 this
   rw [if_neg (by omega)]
   rcases Int.lt_trichotomy v 0 with h4 | h4 | h4
   ·rw [if_pos (by simpa using h4),Int.sign_eq_neg_one_of_neg h4]
   ·exact absurd h4 h
   ·rw [if_neg (by simp;omega),Int.sign_eq_one_of_pos h4]
 rw [e]at h1;exact h1
theorem JB{x:List Int}(hx:PB x)(cx:Cn x):aD env.P 39 [Po x] (.fE [.int .i64 (eL x), .int .i64 (eR x)]):=by
 have n1:=fR hx
 rw [show aL x=x from cx]at n1
 have l1:=mB hx cx
 have hS:=abu (lead x)
 have hl:x.length<1099511627776:=by have:=hx.tL.len;simpa using this
 have hL:eL x=if x.length%2=0 then -(lead x).sign else(lead x).sign:=rfl
 have hR:eR x=(lead x).sign:=rfl
 have hs : -1≤(lead x).sign∧(lead x).sign≤1:=by
  rcases Int.lt_trichotomy (lead x) 0 with h | h | h
  ·rw [Int.sign_eq_neg_one_of_neg h];decide
  ·rw [h];decide
  ·rw [Int.sign_eq_one_of_pos h];decide
 generalize (lead x).sign=s at *
 generalize lead x=lx at *
 generalize eL x=a at *
 generalize eR x=b at *
 refine b6 [(0,Po x)] Tryz.func39 ?_
 refine aA [0] ?_
 refine aJ [0] n1 ?_
 refine iM ?_
 refine bW l1 ?_
 refine bU [0,3] hS ?_
 refine W.seq ?_
 refine W.fY (fun σ=>∃(q:Bool) (rows:Pm.Rows) (clk:Nat),σ=⟨fa [(3, .int .i64 s),(12, .bool q)],rows,clk⟩∧q=decide (x.length%2=0)) (fun K hK=>?_) ?_
 ·simp (disch:=omega) [gw]
  exact hK _ _ (aC _ [3,12]) ⟨_,_,_,rfl,by rw [Bool.eq_iff_iff];simp;omega⟩
 rintro _ ⟨q,rows,clk,rfl,rfl⟩
 refine bF ?_ ?_<;>intro h
 ·rw [if_pos (of_decide_eq_true h)]at hL
  subst hL hR
  refine aA [2,3] ?_
  exact b7
 ·rw [if_neg (of_decide_eq_false h)]at hL
  subst hL hR
  refine W.skip ?_
  refine aA [2,3] ?_
  exact b7
theorem VF{x:List Int}(hx:PB x)(cx:Cn x):aD env.P 225 [Po x] (.int .i64 (eL x)):=by
 have h1:=JB hx cx
 generalize eL x=a at *
 generalize eR x=b at *
 refine b6 [(0,Po x)] Tryz.func225 ?_
 refine aA [0] ?_
 refine aJ [3] h1 ?_
 refine aA [2] ?_
 exact b7
theorem abv{x:List Int}(hx:PB x)(cx:Cn x):aD env.P 226 [Po x] (.int .i64 (eR x)):=by
 have h1:=JB hx cx
 generalize eL x=a at *
 generalize eR x=b at *
 refine b6 [(0,Po x)] Tryz.func226 ?_
 refine aA [0] ?_
 refine aJ [4] h1 ?_
 refine aA [2] ?_
 exact b7
theorem apv(v:Int):v.sign = -1∨v.sign=0∨v.sign=1:=by
 rcases Int.lt_trichotomy v 0 with h | h | h
 ·exact .inl (Int.sign_eq_neg_one_of_neg h)
 ·rw [h];exact .inr (.inl rfl)
 ·exact .inr (.inr (Int.sign_eq_one_of_pos h))
theorem eL3(x:List Int):eL x = -1∨eL x=0∨eL x=1:=by
 have:=apv (lead x)
 unfold eL;split<;>omega
theorem VG{c:List ZX}(hl:c.length<1000000){n d:Int}{q:Rat}(hS:∀p∈c,aD env.P 91 [Po p.l,T2 n d] (.int .i64 (LX p.l q.num q.den))):aD env.P 178 [CH c,T2 n d] (.int .i64 (vr (pA c q.num q.den))):=by
 have hT1:∀p∈c,aD env.P 233 [Po p.l, .rd [.bool (decide (n<0)),us (aP LL n.natAbs), .bool (decide (d<0)),us (aP LL d.natAbs)]] (.int .i64 (LX p.l q.num q.den)):=fun p hp=>by
  have h1:=hS p hp
  generalize LX p.l q.num q.den=r at *
  generalize p.l=x at *
  refine b6 [(0,Po x),(1, .rd [.bool (decide (n<0)),us (aP LL n.natAbs), .bool (decide (d<0)),us (aP LL d.natAbs)])] Tryz.func233 ?_
  refine aA [0,1] ?_
  refine aJ [3] h1 ?_
  exact b7
 have h1:=wZ 233 rfl [.rd [.bool (decide (n<0)),us (aP LL n.natAbs), .bool (decide (d<0)),us (aP LL d.natAbs)]] rfl c (fun p=>LX p.l q.num q.den) hl (fun p hp=>apv _) hT1
 rw [show c.map (fun p=>LX p.l q.num q.den)=pA c q.num q.den from rfl]at h1
 generalize vr (pA c q.num q.den)=r at *
 refine b6 [(0,CH c),(1,T2 n d)] Tryz.func178 ?_
 refine aA [0,3] ?_
 refine aJ [4] h1 ?_
 exact b7
theorem L6{c:List ZX}(hl:c.length<1000000){n d m e:Int}{p q:Rat}{z:Int}(hz:aD env.P 90 [T2 m e,T2 n d] (.int .i64 z))(h1:aD env.P 178 [CH c,T2 n d] (.int .i64 (vr (pA c p.num p.den))))(h2:aD env.P 178 [CH c,T2 m e] (.int .i64 (vr (pA c q.num q.den)))) :
  aD env.P 92 [CH c,T2 n d,T2 m e] (.int .i64 (if z<0 then 0 else(vr (pA c p.num p.den):Int)-vr (pA c q.num q.den))):=by
 have v1:=FT (pA c p.num p.den)
 have v2:=FT (pA c q.num q.den)
 have l1:(pA c p.num p.den).length=c.length:=by simp [pA]
 have l2:(pA c q.num q.den).length=c.length:=by simp [pA]
 generalize vr (pA c p.num p.den)=a at *
 generalize vr (pA c q.num q.den)=b at *
 refine b6 [(0,CH c),(1,T2 n d),(2,T2 m e)] Tryz.func92 ?_
 refine aA [0,4,5] ?_
 refine W.seq ?_
 refine aJ [0,4,5,10] hz ?_
 refine bF ?_ ?_<;>intro h
 ·have h:z<0:=by simpa using h
  rw [if_pos h]
  refine aA [6] ?_
  exact b7
 ·have h:¬z<0:=by simpa using h
  rw [if_neg h]
  refine W.skip ?_
  refine iQ ?_
  refine bW h1 ?_
  refine bU [6] h2 ?_
  exact b7
section
variable {c:List ZX} (hl:c.length<1000000) (hb:∀p∈c,PB p.l)
include hl hb
theorem abw:aD env.P 162 [CH c] (.int .i64 (vr (sgL c))):=by
 have h1:=wZ 225 rfl [] rfl c (fun p=>eL p.l) hl (fun p hp=>eL3 p.l) (fun p hp=>VF (hb p hp) p.c)
 rw [show c.map (fun p=>eL p.l)=sgL c from rfl]at h1
 generalize vr (sgL c)=r at *
 refine b6 [(0,CH c)] Tryz.func162 ?_
 refine aA [0] ?_
 refine aJ [2] h1 ?_
 exact b7
theorem afp:aD env.P 163 [CH c] (.int .i64 (vr (sgR c))):=by
 have h1:=wZ 226 rfl [] rfl c (fun p=>eR p.l) hl (fun p hp=>apv _) (fun p hp=>abv (hb p hp) p.c)
 rw [show c.map (fun p=>eR p.l)=sgR c from rfl]at h1
 generalize vr (sgR c)=r at *
 refine b6 [(0,CH c)] Tryz.func163 ?_
 refine aA [0] ?_
 refine aJ [2] h1 ?_
 exact b7
theorem VH:aD env.P 78 [CH c] (.int .i64 ((vr (sgL c):Int)-vr (sgR c))):=by
 have h1:=abw hl hb
 have h2:=afp hl hb
 have v1:=FT (sgL c)
 have v2:=FT (sgR c)
 have l1:(sgL c).length=c.length:=by simp [sgL]
 have l2:(sgR c).length=c.length:=by simp [sgR]
 generalize vr (sgL c)=a at *
 generalize vr (sgR c)=b at *
 refine b6 [(0,CH c)] Tryz.func78 ?_
 refine aA [0] ?_
 refine iM ?_
 refine bW h1 ?_
 refine bU [2] h2 ?_
 exact b7
end
theorem B6{a:ZX}(ha:a≠0):Nf (sq a)∧dv (sq a) (nf a):=by
 have nA:=jK ha
 unfold sq
 split
 ·exact⟨nA,dv.refl _⟩
 ·exact⟨(gQ nA 0).1,C5 nA 0⟩
theorem sM.sqb{s n:Nat}{a:ZX}(h:sM s n a)(ha:a≠0):BZ (qb s n) n (sq a):=h.nfz.dv (jK ha) (B6 ha).1 (B6 ha).2
theorem sM.ch{s n:Nat}{a:ZX}(h:sM s n a)(ha:a≠0)(lT:1≤n):Ch (qb s n) n (sq a):=⟨h.sqb ha,h.hn,lT,Nat.le_trans (Nat.mul_le_mul_right _ (by omega)) h.hC⟩
theorem rO{s n:Nat}{a:ZX}(h:sM s n a)(ha:a≠0)(lT:1≤n)(h1:1≤s):aD env.P 85 [PI a.l] (aG zq (aR (sq a))):=
 B3 (rM h h1) (h.ch ha lT) (by unfold qb;omega)
abbrev AP(x:List Int)(c:List ZX)(n d:Int):PV:=.ag [PI x,aG zq c,aG aH (aP DD n.natAbs), .bool (decide (n<0)),aG aH (aP DD d.natAbs), .bool (decide (d<0)),aG aH (aP DD n.natAbs), .bool (decide (n<0)),aG aH (aP DD d.natAbs), .bool (decide (d<0))]
theorem oL{v:Int}{k:Nat}(h:v.natAbs<2^k):sz 2 v≤k:=cQ (by decide) h
theorem vS{n d:Int}(hn:n.natAbs<65536)(hd:d.natAbs<65536)(h0:d≠0){x:ZX}(hx:x.l = [-n,d]):aD env.P 45 [R2 n d] (AP [-n,d] (aR (sq x)) n d):=by
 have bz:BZ 16 2 x:=⟨by rw [hx];simp,fun c hc=>by
  rw [hx]at hc
  simp only [List.mem_cons,List.not_mem_nil,or_false]at hc
  rcases hc with rfl | rfl
  ·exact oL (by rw [Int.natAbs_neg];exact hn)
  ·exact oL hd⟩
 have hL:sM 16 2 x:=⟨bz,by decide,by decide,by decide⟩
 have hc:=rO hL (ZX.aI.2 (by show 0<x.l.length;rw [hx];simp)) (by decide) (by decide)
 rw [hx]at hc
 generalize aR (sq x)=C at *
 have zs:∀ {v:Int},v.natAbs<65536→sz 2 v≤16:=fun h=>oL h
 have hO:=i0 1 (by decide) (by decide)
 have m1:=jJ n 1 (by have:=zs hn;simp only [Y];omega) (by decide)
 have m2:=jJ d 1 (by have:=zs hd;simp only [Y];omega) (by decide)
 have hng:=E4 (n:Rat)
 rw [mJ]at m1 m2
 rw [show -((n:Int):Rat)=((-n:Int):Rat)by simp]at hng
 rw [show RR ((n:Int):Rat) = .ag (ri n)from congrArg PV.ag (gK n)]at m1 hng
 rw [show RR ((d:Int):Rat) = .ag (ri d)from congrArg PV.ag (gK d)]at m2
 rw [show RR ((-n:Int):Rat) = .ag (ri (-n))from congrArg PV.ag (gK (-n))]at hng
 have e1:PI [-n,d] = .sl [ri (-n),ri d]:=rfl
 rw [e1]at hc
 unfold AP
 rw [e1]
 clear e1 hL bz hx x
 generalize -n=m at *
 simp only [aeq,LY]at *
 refine b6 [(0,R2 n d)] Tryz.func45 ?_
 refine aA [1,2] ?_
 refine W.sd ?_
 simp (maxSteps:=4000000) (disch:=omega) [gw]
 refine aB hO ?_
 simp (maxSteps:=4000000) (disch:=omega) [gw]
 refine aB m1 ?_
 simp (maxSteps:=4000000) (disch:=omega) [gw]
 refine aB hng ?_
 simp (maxSteps:=4000000) (disch:=omega) [gw]
 refine aB hO ?_
 simp (maxSteps:=4000000) (disch:=omega) [gw]
 refine aB m2 ?_
 simp (maxSteps:=4000000) (disch:=omega) [gw]
 refine bN [1,2,3] ?_
 refine W.sd ?_
 simp (maxSteps:=4000000) (disch:=omega) [gw]
 refine aB hc ?_
 simp (maxSteps:=4000000) (disch:=omega) [gw]
 try (refine a9 (by kernel_rfl) ?_)
 try simp (maxSteps:=4000000) (disch:=omega) [gw]
 refine bN [2] ?_
 exact b7
def sml(n d:Int):Rat:=dR (n%61-30) (1+d%6)
theorem JC(n d:Int)(hn : -9223372036854775808≤n∧n<9223372036854775808)(hd : -9223372036854775808≤d∧d<9223372036854775808):aD env.P 26 [.int .i64 n, .int .i64 d] (RR (sml n d)):=by
 have w1:=oE n 61 hn (by decide) (by decide)
 have w2:=oE d 6 hd (by decide) (by decide)
 have h1:=Int.emod_nonneg n (show (61:Int)≠0 by decide)
 have h2:=Int.emod_lt_of_pos n (show (0:Int)<61 by decide)
 have h3:=Int.emod_nonneg d (show (6:Int)≠0 by decide)
 have h4:=Int.emod_lt_of_pos d (show (0:Int)<6 by decide)
 have o1:=rD (n%61-30) (1+d%6) (by omega) (by omega)
 have e:dR (n%61-30) (1+d%6)=sml n d:=rfl
 rw [e]at o1
 generalize sml n d=q at *
 generalize n%61=a at *
 generalize d%6=b at *
 rw [cS]at *
 generalize q.num=qn at *
 generalize (q.den:Int)=qd at *
 refine b6 [(0, .int .i64 n),(1, .int .i64 d)] Tryz.func26 ?_
 refine aA [0,1,4] ?_
 refine iM ?_
 refine bW w1 ?_
 refine bW w2 ?_
 refine bU [4] o1 ?_
 exact b7
end Go.Proofs.YtelhfbikiccfkaaGreat
