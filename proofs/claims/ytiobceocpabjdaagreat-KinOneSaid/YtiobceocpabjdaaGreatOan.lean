import Derived.Test.YtiobceocpabjdaaGreatOak
import Derived.Test.YtiobceocpabjdaaGreatOal
import Derived.Test.YtiobceocpabjdaaGreatOam
set_option linter.unusedSimpArgs false
set_option linter.unusedVariables false
namespace Pm
def qv(t:Rat):List Int→Rat
 | []=>0
 | a::l=>(a:Rat)+t*qv t l
section
variable {t:Rat}
theorem u6{α:Type}(f g:α→Int):∀l:List α,qv t (l.map fun k=>f k+g k)=qv t (l.map f)+qv t (l.map g)
 | []=>by simp only [List.map_nil,qv];grind
 | x::l=>by simp only [List.map_cons,qv,u6 f g l,Rat.intCast_add];grind
theorem D0{α:Type}(c:Int)(f:α→Int):∀l:List α,qv t (l.map fun k=>f k*c)=qv t (l.map f)*c
 | []=>by simp only [List.map_nil,qv];grind
 | x::l=>by simp only [List.map_cons,qv,D0 c f l,Rat.intCast_mul];grind
theorem oY:∀(a:List Int) (n:Nat),qv t (a++List.replicate n 0)=qv t a
 | [],0=>rfl
 | [],n+1=>by
  have:=oY [] n
  simp only [List.nil_append]at this
  simp only [List.nil_append,List.replicate_succ,qv,this,Rat.intCast_zero];grind
 | x::a,n=>by simp only [List.cons_append,qv,oY a n]
theorem wY:∀l:List Int,qv t (aO l)=qv t l
 | []=>rfl
 | x::l=>by
  have ih:=wY l
  simp only [aO]
  split
  ·rename_i h
   rw [h.1]at ih
   simp only [qv]at ih ⊢
   rw [←ih,h.2,Rat.intCast_zero];grind
  ·simp only [qv,ih]
theorem mV{x:List Int}{n:Nat}(h:x.length≤n):qv t ((List.range n).map (nth x))=qv t x:=by
 rw [pJ h,oY]
theorem WS(x y:List Int):qv t (iJ x y)=qv t x+qv t y:=by
 rw [iJ,wY,u6,mV (by omega),mV (by omega)]
theorem aic(x y:List Int):qv t (fL x y)=qv t x-qv t y:=by
 rw [fL,wY]
 have h1:=u6 (t:=t) (fun k=>nth x k-nth y k) (nth y) (List.range (max x.length y.length))
 have h2:(fun k=>nth x k-nth y k+nth y k)=nth x:=by funext k;omega
 rw [h2,mV (by omega),mV (by omega)]at h1
 grind
theorem OW:∀x y:List Int,qv t (gQ x y)=qv t x*qv t y
 | [],y=>by simp only [gQ,qv];grind
 | a::x,y=>by
  have:=D0 (t:=t) a id y
  simp only [id_eq,List.map_id_fun]at this
  rw [gQ,WS,this]
  simp only [qv,OW x y,Rat.intCast_zero]
  grind
theorem aid(x y:List Int):qv t (bR x y)=qv t x*qv t y:=by rw [bR,wY,OW]
end
namespace ZX
section
variable {t:Rat}
def e(t:Rat)(x:ZX):Rat:=qv t x.l
theorem akL(x y:ZX):e t (x+y)=e t x+e t y:=WS _ _
theorem iO(x y:ZX):e t (x*y)=e t x*e t y:=aid _ _
theorem avb(x y:ZX):e t (x-y)=e t x-e t y:=aic _ _
theorem aov(x:List Int):e t (of x)=qv t x:=wY x
theorem AK(c:Int):e t (K c)=c:=by
 rw [K,aov]
 simp only [qv];grind
end
end ZX
def Ab(x M:Rat):Prop := -M≤x∧x≤M
def kE(e x:Rat):Prop:=x ≤ -e∨e≤x
theorem Ab.mono{x M N:Rat}(h:Ab x M)(hMN:M≤N):Ab x N:=by
 obtain⟨h1,h2⟩:=h
 exact⟨by grind,by grind⟩
theorem Ab.add{x y M N:Rat}(h:Ab x M)(h':Ab y N):Ab (x+y) (M+N):=by
 obtain⟨h1,h2⟩:=h
 obtain⟨h3,h4⟩:=h'
 exact⟨by grind,by grind⟩
theorem Ab.mul{x y M N:Rat}(h:Ab x M)(h':Ab y N):Ab (x*y) (M*N):=by
 obtain⟨h1,h2⟩:=h
 obtain⟨h3,h4⟩:=h'
 have p1:=Rat.mul_nonneg (show 0≤M-x by grind) (show 0≤N-y by grind)
 have p2:=Rat.mul_nonneg (show 0≤M+x by grind) (show 0≤N+y by grind)
 have p3:=Rat.mul_nonneg (show 0≤M-x by grind) (show 0≤N+y by grind)
 have p4:=Rat.mul_nonneg (show 0≤M+x by grind) (show 0≤N-y by grind)
 exact⟨by grind,by grind⟩
theorem kE.mono{x e f:Rat}(h:kE e x)(hf:f≤e):kE f x:=by
 rcases h with h | h
 ·left;grind
 ·right;grind
theorem A6{x e:Rat}(h:¬kE e x) : -e<x∧x<e:=by
 constructor
 ·exact Rat.not_le.1 fun h1=>h (.inl h1)
 ·exact Rat.not_le.1 fun h1=>h (.inr h1)
theorem FG{x e:Rat}(h:¬kE e x):Ab x e:=by
 obtain⟨h1,h2⟩:=A6 h
 exact⟨Rat.le_of_lt h1,Rat.le_of_lt h2⟩
def b6(x:Rat):Int:=if x<0 then -1 else if 0<x then 1 else 0
theorem gI{x:Rat}(h:x<0):b6 x = -1:=if_pos h
theorem eN{x:Rat}(h:0<x):b6 x=1:=by
 rw [b6,if_neg (by grind),if_pos h]
theorem jI:b6 0=0:=by decide
theorem cY(x:Rat):(x<0∧b6 x = -1)∨(x=0∧b6 x=0)∨(0<x∧b6 x=1):=by
 by_cases h:x<0
 ·exact .inl ⟨h,gI h⟩
 ·by_cases h2:0<x
  ·exact .inr (.inr ⟨h2,eN h2⟩)
  ·have:x=0:=by grind
   subst this
   exact .inr (.inl ⟨rfl,jI⟩)
theorem oJ(x:Rat):b6 x = -1∨b6 x=0∨b6 x=1:=by
 rcases cY x with h | h | h
 ·exact .inl h.2
 ·exact .inr (.inl h.2)
 ·exact .inr (.inr h.2)
theorem TA{x:Rat}:b6 x = -1↔x<0:=by
 rcases cY x with ⟨h,e⟩ | ⟨h,e⟩ | ⟨h,e⟩<;>rw [e]<;>constructor<;>intro h2<;>first | omega | grind
theorem TB{x:Rat}:b6 x=1↔0<x:=by
 rcases cY x with ⟨h,e⟩ | ⟨h,e⟩ | ⟨h,e⟩<;>rw [e]<;>constructor<;>intro h2<;>first | omega | grind
theorem fB{x:Rat}:b6 x=0↔x=0:=by
 rcases cY x with ⟨h,e⟩ | ⟨h,e⟩ | ⟨h,e⟩<;>rw [e]<;>constructor<;>intro h2<;>first | omega | grind
theorem tH(x y:Rat):b6 (x*y)=b6 x*b6 y:=by
 rcases cY x with ⟨h,e⟩ | ⟨h,e⟩ | ⟨h,e⟩<;>rcases cY y with ⟨h',e'⟩ | ⟨h',e'⟩ | ⟨h',e'⟩<;>rw [e,e']
 ·have:=Rat.mul_pos (show 0 < -x by grind) (show 0 < -y by grind)
  rw [eN (by grind)];rfl
 ·rw [h',Rat.mul_zero];rfl
 ·have:=Rat.mul_pos (show 0 < -x by grind) h'
  rw [gI (by grind)];rfl
 ·rw [h,Rat.zero_mul];rfl
 ·rw [h,Rat.zero_mul];rfl
 ·rw [h,Rat.zero_mul];rfl
 ·have:=Rat.mul_pos h (show 0 < -y by grind)
  rw [gI (by grind)];rfl
 ·rw [h',Rat.mul_zero];rfl
 ·rw [eN (Rat.mul_pos h h')];rfl
theorem fS{x y e:Rat}(h:kE e x)(he:0<e)(qT:¬kE e (y-x)):b6 y=b6 x∧b6 x≠0:=by
 obtain⟨h1,h2⟩:=A6 qT
 rcases h with h | h
 ·rw [gI (show x<0 by grind),gI (show y<0 by grind)];decide
 ·rw [eN (show 0<x by grind),eN (show 0<y by grind)];decide
def dd(s t:Rat):List Int→Rat
 | []=>0
 | _::l=>qv t l+s*dd s t l
def cc(s t:Rat):List Int→Rat
 | []=>0
 | _::l=>dd s t l+s*cc s t l
theorem nT(s t:Rat):∀x:List Int,qv t x-qv s x=(t-s)*dd s t x
 | []=>by simp only [qv,dd];grind
 | a::l=>by
  have:=nT s t l
  simp only [qv,dd];grind
theorem TC(s t:Rat):∀x:List Int,dd s t x-dd s s x=(t-s)*cc s t x
 | []=>by simp only [dd,cc];grind
 | a::l=>by
  have:=TC s t l
  have:=nT s t l
  simp only [dd,cc];grind
section
variable {S B s t:Rat} (hS:0≤S) (hB:1≤B) (hs:Ab s B) (ht:Ab t B)
def EP(S B:Rat):Nat→Rat
 | 0=>S
 | k+1=>EP S B k*(4*B)
include hS hB in
theorem oK:∀k,0≤EP S B k∧S≤EP S B k
 | 0=>⟨hS,Rat.le_refl⟩
 | k+1=>by
  obtain⟨h1,h2⟩:=oK k
  have h3:=Rat.mul_le_mul_of_nonneg_left (show (1:Rat)≤4*B by grind) h1
  rw [EP]
  exact⟨by grind,by grind⟩
include hS hB ht in
theorem OX:∀x:List Int,(∀c∈x,Ab (c:Rat) S)→Ab (qv t x) (EP S B x.length)
 | [],_=>by
  show Ab 0 S
  exact⟨by grind,hS⟩
 | a::l,h=>by
  have h1:=OX l fun c hc=>h c (List.mem_cons_of_mem _ hc)
  have h2:=(h a (List.mem_cons_self ..)).add (ht.mul h1)
  obtain⟨h3,h4⟩:=oK hS hB l.length
  have h5:=Rat.mul_le_mul_of_nonneg_left hB h3
  refine h2.mono ?_
  rw [List.length_cons,EP]
  grind
include hS hB hs ht in
theorem HB:∀x:List Int,(∀c∈x,Ab (c:Rat) S)→Ab (dd s t x) (EP S B x.length)
 | [],_=>by
  show Ab 0 S
  exact⟨by grind,hS⟩
 | a::l,h=>by
  have h1:=HB l fun c hc=>h c (List.mem_cons_of_mem _ hc)
  have h0:=OX hS hB ht l fun c hc=>h c (List.mem_cons_of_mem _ hc)
  have h2:=h0.add (hs.mul h1)
  obtain⟨h3,h4⟩:=oK hS hB l.length
  have h5:=Rat.mul_le_mul_of_nonneg_left hB h3
  refine h2.mono ?_
  rw [List.length_cons,EP]
  grind
include hS hB hs ht in
theorem aej:∀x:List Int,(∀c∈x,Ab (c:Rat) S)→Ab (cc s t x) (EP S B x.length)
 | [],_=>by
  show Ab 0 S
  exact⟨by grind,hS⟩
 | a::l,h=>by
  have h1:=aej l fun c hc=>h c (List.mem_cons_of_mem _ hc)
  have h0:=HB hS hB hs ht l fun c hc=>h c (List.mem_cons_of_mem _ hc)
  have h2:=h0.add (hs.mul h1)
  obtain⟨h3,h4⟩:=oK hS hB l.length
  have h5:=Rat.mul_le_mul_of_nonneg_left hB h3
  refine h2.mono ?_
  rw [List.length_cons,EP]
  grind
end
theorem wZ(t:Rat):∀(l:List Int) (k:Nat),qv t (ZX.rD (k+1) l)=qv t (ZX.rD k l)+qv t l
 | [],k=>by simp only [ZX.rD,qv];grind
 | a::l,k=>by
  simp only [ZX.rD,qv]
  rw [wZ t l (k+1)]
  have:((k+1:Nat):Int)=(k:Int)+1:=by omega
  rw [this,Rat.intCast_mul,Rat.intCast_mul,Rat.intCast_add,Rat.intCast_one];grind
theorem zZ(t:Rat):∀l:List Int,qv t (ZX.rD 1 l)=qv t l+t*dd t t l
 | []=>by simp only [ZX.rD,qv,dd];grind
 | b::m=>by
  rw [ZX.rD]
  simp only [qv,dd]
  rw [wZ,zZ t m]
  rw [show((1:Nat):Int)=1 from rfl,Int.mul_one]
  grind
theorem akM(t:Rat)(x:ZX):(ZX.bY x).e t=dd t t x.l:=by
 rw [ZX.bY,ZX.aov]
 obtain⟨l,hl⟩:=x
 show qv t (ZX.yC l)=dd t t l
 match l with
 | []=>rfl
 | a::l=>rw [ZX.G4,zZ];rfl
end Pm
namespace Pm
def FH(p:Int):List Int→Nat
 | []=>0
 | s::l=>if s=0 then FH p l else(if p≠0∧s≠p then 1 else 0)+FH s l
def cl:List Int→List Int→Prop
 | [],[]=>True
 | [x],[y]=>x=y∧x≠0
 | [_,x],[_,y]=>x=y∧x≠0
 | x0::x1::x2::x,y0::y1::y2::y=>cl (x1::x2::x) (y1::y2::y)∧((x1=y1∧x1≠0)∨(x0=y0∧x2=y2∧x0 = -x2∧x2≠0))
 | _,_=>False
theorem J7:∀(n:Nat) (p:Int) (x y:List Int),x.length≤n→p≠0→(p = -1∨p=1)→(∀s∈x,s = -1∨s=0∨s=1)→(∀s∈y,s = -1∨s=0∨s=1)→cl (p::x) (p::y)→FH p x=FH p y
 | _,p,[],[],_,_,_,_,_,_=>rfl
 | _,p,[x1],[y1],_,_,_,_,_,h=>by
  obtain⟨rfl,h2⟩:=h
  rfl
 | _,p,[],[y1],_,_,_,_,_,h=>by simp [cl]at h
 | _,p,[x1],[],_,_,_,_,_,h=>by simp [cl]at h
 | _,p,[],_::_::_,_,_,_,_,_,h=>by simp [cl]at h
 | _,p,_::_::_,[],_,_,_,_,_,h=>by simp [cl]at h
 | _,p,[_],_::_::_,_,_,_,_,_,h=>by simp [cl]at h
 | _,p,_::_::_,[_],_,_,_,_,_,h=>by simp [cl]at h
 | 0,p,x1::x2::x,y1::y2::y,hn,_,_,_,_,_=>by simp at hn
 | n+1,p,x1::x2::x,y1::y2::y,hn,hp,hp1,hx,hy,h=>by
  obtain⟨h1,h2⟩:=h
  rcases h2 with ⟨rfl,h2⟩ | ⟨_,rfl,h3,h4⟩
  ·have ih:=J7 n x1 (x2::x) (y2::y) (by simp at hn ⊢;omega) h2 (by have:=hx x1 (by simp);omega) (fun s hs=>hx s (List.mem_cons_of_mem _ hs)) (fun s hs=>hy s (List.mem_cons_of_mem _ hs)) h1
   simp only [FH]at ih ⊢
   rw [if_neg h2,if_neg h2,ih]
  ·have ht:FH x2 x=FH x2 y:=by
    refine J7 n x2 x y (by simp at hn ⊢;omega) h4 (by have:=hx x2 (by simp);omega) (fun s hs=>hx s (by simp [hs])) (fun s hs=>hy s (by simp [hs])) ?_
    match x,y,h1 with
    | [],[],_=>exact⟨rfl,h4⟩
    | [],_::_,h1=>simp [cl]at h1
    | _::_,[],h1=>simp [cl]at h1
    | _::_,_::_,h1=>exact h1.1
   have key:∀z:Int,(z = -1∨z=0∨z=1) → ∀w:List Int,FH p (z::x2::w)=1+FH x2 w:=fun z hz w=>by
    simp only [FH]
    rcases hz with rfl | rfl | rfl
    ·rw [if_neg (by decide),if_neg h4]
     rcases hp1 with rfl | rfl
     ·rw [if_neg (by omega),if_pos (by omega)];omega
     ·rw [if_pos (by omega),if_neg (by omega)];omega
    ·rw [if_pos rfl,if_neg h4,if_pos (by omega)]
    ·rw [if_neg (by decide),if_neg h4]
     rcases hp1 with rfl | rfl
     ·rw [if_pos (by omega),if_neg (by omega)];omega
     ·rw [if_neg (by omega),if_pos (by omega)];omega
   rw [key x1 (hx x1 (by simp)),key y1 (hy y1 (by simp)),ht]
open ZX
def WT(ε t:Rat):List ZX→Prop
 | []=>False
 | [a]=>kE ε (e t a)
 | [_,b]=>kE ε (e t b)
 | a::b::c::l=>WT ε t (b::c::l)∧(kE ε (e t b)∨(kE ε (e t a)∧kE ε (e t c)∧b6 (e t a) = -b6 (e t c)))
theorem WT.mono{ε δ t:Rat}(h:δ≤ε):∀ {l:List ZX},WT ε t l→WT δ t l
 | [],g=>g
 | [a],g=>kE.mono g h
 | [a,b],g=>kE.mono (x:=e t b) g h
 | a::b::c::l,g=>⟨WT.mono h g.1,by
  rcases g.2 with g | ⟨g1,g2,g3⟩
  ·exact .inl (g.mono h)
  ·exact .inr ⟨g1.mono h,g2.mono h,g3⟩⟩
theorem WT.two{ε t:Rat}{a b:ZX}:∀ {l:List ZX},WT ε t (a::b::l)→kE ε (e t a)∨kE ε (e t b)
 | [],g => .inr g
 | c::l,g=>by
  rcases g.2 with g | ⟨g1,g2,g3⟩
  ·exact .inr g
  ·exact .inl g1
def FI(t:Rat)(l:List ZX):List Int:=l.map fun p=>b6 (e t p)
theorem A7{t:Rat}{l:List ZX}:∀s∈FI t l,s = -1∨s=0∨s=1:=fun s hs=>by
 simp only [FI,List.mem_map]at hs
 obtain⟨p,_,rfl⟩:=hs
 exact oJ _
theorem aek{ε s t:Rat}(hε:0<ε):∀ {l:List ZX},WT ε s l→(∀p∈l,¬kE ε (e t p-e s p))→cl (FI s l) (FI t l)
 | [],g,_=>g.elim
 | [a],g,h=>by
  obtain⟨h1,h2⟩:=fS g hε (h a (by simp))
  exact⟨h1.symm,h2⟩
 | [a,b],g,h=>by
  obtain⟨h1,h2⟩:=fS (x:=e s b) g hε (h b (by simp))
  exact⟨h1.symm,h2⟩
 | a::b::c::l,g,h=>by
  refine⟨aek hε g.1 fun p hp=>h p (List.mem_cons_of_mem _ hp),?_⟩
  rcases g.2 with g | ⟨g1,g2,g3⟩
  ·obtain⟨h1,h2⟩:=fS g hε (h b (by simp))
   exact .inl ⟨h1.symm,h2⟩
  ·obtain⟨h1,h2⟩:=fS g1 hε (h a (by simp))
   obtain⟨h3,h4⟩:=fS g2 hε (h c (by simp))
   exact .inr ⟨h1.symm,h3.symm,g3,h4⟩
def vt(l:List ZX)(t:Rat):Nat:=FH 0 (FI t l)
def ind(a:ZX)(s t:Rat):Nat:=if e s a≠0∧b6 (e t a)≠b6 (e s a)then 1 else 0
theorem aie{ε s t:Rat}(hε:0<ε){a:ZX}{l:List ZX}(g:WT ε s (a::l))(h:∀p∈a::l,¬kE ε (e t p-e s p))
  (hm:∀b k,l=b::k→kE ε (e s b)→b6 (e t a-e s a)=b6 (e s b)):vt (a::l) s=vt (a::l) t+ind a s t:=by
 have hc:=aek hε g h
 have hA:kE ε (e s a)→vt (a::l) s=vt (a::l) t+ind a s t:=fun ha=>by
  obtain⟨h1,h2⟩:=fS ha hε (h a (by simp))
  have h3:ind a s t=0:=if_neg fun h=>h.2 h1
  rw [h3]
  have EV:cl (b6 (e s a)::FI s l) (b6 (e s a)::FI t l):=by
   have:FI t (a::l)=b6 (e s a)::FI t l:=by rw [←h1];rfl
   rw [this]at hc
   exact hc
  have h4:=J7 _ _ _ _ (Nat.le_refl _) h2 (by have:=oJ (e s a);omega) A7 A7 EV
  show FH 0 (b6 (e s a)::FI s l)=FH 0 (b6 (e t a)::FI t l)+0
  rw [h1]
  simp only [FH]
  rw [if_neg h2,if_neg h2,h4];omega
 match l,g,h,hc,hm,hA with
 | [],g,h,hc,hm,hA=>exact hA g
 | b::l,g,h,hc,hm,hA =>
  rcases g.two with ha | hb
  ·exact hA ha
  ·obtain⟨h1,h2⟩:=fS hb hε (h b (by simp))
   have h3:=hm b l rfl hb
   have EV:cl (b6 (e s b)::FI s l) (b6 (e s b)::FI t l):=by
    match l,hc with
    | [],hc=>exact⟨rfl,h2⟩
    | c::l,hc =>
     have h8:cl (b6 (e s b)::FI s (c::l)) (b6 (e t b)::FI t (c::l)):=hc.1
     rw [h1]at h8
     exact h8
   have h4:=J7 _ _ _ _ (Nat.le_refl _) h2 (by have:=oJ (e s b);omega) A7 A7 EV
   show FH 0 (b6 (e s a)::b6 (e s b)::FI s l)=FH 0 (b6 (e t a)::b6 (e t b)::FI t l)+ind a s t
   rw [h1]
   simp only [FH]
   rw [if_neg h2,if_neg h2,h4]
   have hi:ind a s t=if b6 (e s a)≠0∧b6 (e t a)≠b6 (e s a)then 1 else 0:=by
    unfold ind
    by_cases h6:e s a=0
    ·rw [if_neg (fun h7=>h7.1 h6),if_neg (fun h7=>h7.1 (fB.2 h6))]
    ·have h7:b6 (e s a)≠0:=fun h8=>h6 (fB.1 h8)
     simp only [ne_eq,h6,h7,not_false_eq_true,true_and]
   rw [hi]
   have hd:(b6 (e s b) = -1→b6 (e t a)≤b6 (e s a)∧(b6 (e t a)=b6 (e s a)→b6 (e s a)≠0))∧(b6 (e s b)=1→b6 (e s a)≤b6 (e t a)∧(b6 (e t a)=b6 (e s a)→b6 (e s a)≠0)):=by
    refine⟨fun h6=>?_,fun h6=>?_⟩
    ·have h5:=TA.1 (h3.trans h6)
     rcases cY (e s a)with ⟨q1,r1⟩ | ⟨q1,r1⟩ | ⟨q1,r1⟩<;>rcases cY (e t a)with ⟨q2,r2⟩ | ⟨q2,r2⟩ | ⟨q2,r2⟩<;>rw [r1,r2]<;>first | decide | (exfalso;grind)
    ·have h5:=TB.1 (h3.trans h6)
     rcases cY (e s a)with ⟨q1,r1⟩ | ⟨q1,r1⟩ | ⟨q1,r1⟩<;>rcases cY (e t a)with ⟨q2,r2⟩ | ⟨q2,r2⟩ | ⟨q2,r2⟩<;>rw [r1,r2]<;>first | decide | (exfalso;grind)
   have m1:=oJ (e s a)
   have m2:=oJ (e t a)
   have m3:=oJ (e s b)
   generalize b6 (e s a)=σ at *
   generalize b6 (e t a)=τ at *
   generalize b6 (e s b)=γ at *
   generalize FH γ (FI t l)=T at *
   obtain⟨d1,d2⟩:=hd
   clear hc EV h1 h3 hm hA h g hb hi
   rcases m3 with rfl | rfl | rfl
   ·obtain⟨d3,d4⟩:=d1 rfl
    rcases m1 with rfl | rfl | rfl<;>rcases m2 with rfl | rfl | rfl<;>first | (exfalso;omega) | (simp;try omega)
   ·exact absurd rfl h2
   ·obtain⟨d3,d4⟩:=d2 rfl
    rcases m1 with rfl | rfl | rfl<;>rcases m2 with rfl | rfl | rfl<;>first | (exfalso;omega) | (simp;try omega)
end Pm
namespace Pm
open ZX hiding N W
def StC(M B:Rat):List ZX→Prop
 | []=>False
 | [a]=>∃c:Int,c≠0∧a=K c
 | [_,b]=>∃c:Int,c≠0∧b=K c
 | a::b::c::l=>StC M B (b::c::l) ∧ ∃(m k:Int) (q:ZX),0<m∧0<k∧K m*a=q*b-K k*c∧2*(m:Rat)≤M ∧ ∀t,Ab t B→Ab (2*e t q) M
def AL(M:Rat):Nat→Rat
 | 0=>1
 | k+1=>AL M k/M
theorem J8{M:Rat}(hM:2≤M)(k:Nat):M*AL M (k+1)=AL M k:=by
 rw [AL,Rat.mul_comm,Rat.div_mul_cancel (by grind)]
theorem w5{M:Rat}(hM:2≤M):∀k,0<AL M k
 | 0=>by show(0:Rat)<1;decide
 | k+1=>by
  have h1:=w5 hM k
  have h2:=J8 hM k
  refine Rat.not_le.1 fun h=>?_
  have h3:=Rat.mul_nonneg (show 0≤M by grind) (show 0 ≤ -AL M (k+1)by grind)
  grind
theorem J9{M:Rat}(hM:2≤M)(k:Nat):AL M (k+1)≤AL M k:=by
 have h1:=w5 hM (k+1)
 have h2:=J8 hM k
 have h3:=Rat.mul_le_mul_of_nonneg_right (show 1≤M by grind) (Rat.le_of_lt h1)
 grind
theorem u7{M:Rat}(hM:2≤M):∀k,AL M k≤1
 | 0=>Rat.le_refl
 | k+1=>Rat.le_trans (J9 hM k) (u7 hM k)
theorem w6{c:Int}(h:c≠0):kE 1 (c:Rat):=by
 rcases Int.lt_trichotomy c 0 with h1 | h1 | h1
 ·left
  have:((c:Int):Rat)≤((-1:Int):Rat):=Rat.intCast_le_intCast.2 (by omega)
  rw [Rat.intCast_neg,Rat.intCast_one]at this
  exact this
 ·exact absurd h1 h
 ·right
  have:((1:Int):Rat)≤((c:Int):Rat):=Rat.intCast_le_intCast.2 (by omega)
  rw [Rat.intCast_one]at this
  exact this
theorem eH{c:Int}(h:0<c):(1:Rat)≤(c:Rat):=by
 have:((1:Int):Rat)≤((c:Int):Rat):=Rat.intCast_le_intCast.2 (by omega)
 rwa [Rat.intCast_one]at this
theorem ael{M ε ε' x y z q m k:Rat}(hM:2≤M)(he:M*ε'=ε)(hp:0<ε')(hm:1≤m)(hk:1≤k)(hmM:2*m≤M)(hq:Ab (2*q) M)(e:m*x=q*y-k*z)(hy:¬kE ε' y)(hz:kE ε z):kE ε' x∧b6 x = -b6 z:=by
 have h1:=hq.mul (FG hy)
 rw [he]at h1
 obtain⟨h2,h3⟩:=h1
 have hε:0<ε:=by rw [←he];exact Rat.mul_pos (by grind) hp
 have h6:=Rat.mul_le_mul_of_nonneg_right hmM (Rat.le_of_lt hp)
 rcases hz with hz | hz
 ·have h4:=Rat.mul_le_mul_of_nonneg_right hk (show 0 ≤ -z by grind)
  have h5:ε≤2*(m*x):=by grind
  have h7:ε'≤x:=Rat.not_lt.1 fun h=>by
   have:=Rat.mul_lt_mul_of_pos_left h (show 0<m by grind)
   grind
  refine⟨.inr h7,?_⟩
  rw [gI (x:=z) (by grind),eN (x:=x) (by grind)];rfl
 ·have h4:=Rat.mul_le_mul_of_nonneg_right hk (show 0≤z by grind)
  have h5:2*(m*x) ≤ -ε:=by grind
  have h7:x ≤ -ε':=Rat.not_lt.1 fun h=>by
   have:=Rat.mul_lt_mul_of_pos_left h (show 0<m by grind)
   grind
  refine⟨.inl h7,?_⟩
  rw [eN (x:=z) (by grind),gI (x:=x) (by grind)]
theorem StC.WT{M B t:Rat}(hM:2≤M)(ht:Ab t B):∀ {l:List ZX},StC M B l→WT (AL M l.length) t l
 | [],h=>h
 | [a],h=>by
  obtain⟨c,hc,rfl⟩:=h
  show kE _ (e t (K c))
  rw [AK]
  exact(w6 hc).mono (u7 hM _)
 | [a,b],h=>by
  obtain⟨c,hc,rfl⟩:=h
  show kE _ (e t (K c))
  rw [AK]
  exact(w6 hc).mono (u7 hM _)
 | a::b::c::l,h=>by
  obtain⟨h1,m,k,q,hm,hk,he,hmM,hq⟩:=h
  have ih:=StC.WT hM ht h1
  refine⟨ih.mono (J9 hM _),?_⟩
  by_cases hb:kE (AL M (a::b::c::l).length) (e t b)
  ·exact .inl hb
  ·have hc:kE (AL M (b::c::l).length) (e t c):=by
    rcases ih.two with h2 | h2
    ·exact absurd (h2.mono (J9 hM _)) hb
    ·exact h2
   have J0:(m:Rat)*e t a=e t q*e t b-k*e t c:=by
    rw [←AK (t:=t) m,←iO,he,avb,iO,iO,AK]
   obtain⟨g1,g2⟩:=ael hM (J8 hM _) (w5 hM _) (eH hm) (eH hk) hmM (hq t ht) J0 hb hc
   exact .inr ⟨g1,hc.mono (J9 hM _),g2⟩
structure Lcl(L:List ZX)(f:ZX)(B δ:Rat):Prop where
 turns:∀s t,Ab s B→Ab t B→s<t→t-s≤δ→vt L s=vt L t+ind f s t
 simple:∀s t,Ab s B→Ab t B→s<t→t-s≤δ→e s f=0→e t f≠0
theorem z5{h x Q ε:Rat}(hh:0≤h)(hx:Ab x Q)(hQ:h*Q<ε):¬kE ε (h*x):=fun hb=>by
 obtain⟨h1,h2⟩:=(Ab.mul (x:=h) (M:=h) ⟨by grind,Rat.le_refl⟩ hx)
 rcases hb with hb | hb<;>grind
theorem aai{h x Q ε c y d1 d2:Rat}(hh:0<h)(hε:0<ε)(hc:1≤c)(hx:Ab x Q)(hQ:h*Q<ε)(hy:kE ε y)(e1:d1=c*y)(e2:d2-d1=h*x):b6 (h*d2)=b6 y:=by
 obtain⟨h1,h2⟩:=(Ab.mul (x:=h) (M:=h) ⟨by grind,Rat.le_refl⟩ hx)
 have hs:b6 (h*d2)=b6 d2:=by rw [tH,eN hh];omega
 rw [hs]
 rcases hy with hy | hy
 ·have:=Rat.mul_le_mul_of_nonneg_right hc (show 0 ≤ -y by grind)
  rw [gI (show y<0 by grind),gI (show d2<0 by grind)]
 ·have:=Rat.mul_le_mul_of_nonneg_right hc (show 0≤y by grind)
  rw [eN (show 0<y by grind),eN (show 0<d2 by grind)]
theorem StC.loc{M B S Q δ:Rat}{f:ZX}{l:List ZX}(hM:2≤M)(hB:1≤B)(hS:0≤S)(h:StC M B (f::l))(hb:∀p∈f::l,(∀c∈p.l,Ab (c:Rat) S)∧EP S B p.l.length≤Q)(hd:∀g k,l=g::k → ∃c:Int,0<c∧bY f=K c*g)
  (hδ:δ*Q<AL M (f::l).length):Lcl (f::l) f B δ:=by
 have hQ0:0≤Q:=by
  obtain⟨h1,h2⟩:=hb f (by simp)
  obtain⟨h3,h4⟩:=oK hS hB f.l.length
  grind
 have hε:=w5 hM (f::l).length
 have tM:∀s t:Rat,s<t→t-s≤δ→(t-s)*Q<AL M (f::l).length:=fun s t iX hd=>by
  have:=Rat.mul_le_mul_of_nonneg_right hd hQ0
  grind
 have key:∀s t,Ab s B→Ab t B→s<t→t-s≤δ→(∀p∈f::l,¬kE (AL M (f::l).length) (e t p-e s p)) ∧ ∀b k,l=b::k→kE (AL M (f::l).length) (e s b)→b6 (e t f-e s f)=b6 (e s b):=fun s t hs ht iX hsd=>by
  refine⟨fun p hp=>?_,fun b k hbk LU=>?_⟩
  ·obtain⟨h1,h2⟩:=hb p hp
   show ¬kE _ (qv t p.l-qv s p.l)
   rw [nT]
   exact z5 (by grind) ((HB hS hB hs ht p.l h1).mono h2) (tM s t iX hsd)
  ·obtain⟨c,hc,he⟩:=hd b k hbk
   obtain⟨h1,h2⟩:=hb f (by simp)
   show b6 (qv t f.l-qv s f.l)=_
   rw [nT]
   exact aai (d1:=dd s s f.l) (by grind) hε (eH hc) ((aej hS hB hs ht f.l h1).mono h2) (tM s t iX hsd) LU (by rw [←akM,he,iO,AK]) (TC s t f.l)
 refine⟨fun s t hs ht iX hsd=>?_,fun s t hs ht iX hsd h0=>?_⟩
 ·obtain⟨k1,k2⟩:=key s t hs ht iX hsd
  exact aie hε (h.WT hM hs) k1 k2
 ·obtain⟨k1,k2⟩:=key s t hs ht iX hsd
  have g:=h.WT hM hs
  have nb:¬kE (AL M (f::l).length) (e s f):=by
   rw [h0]
   rintro(h1 | h1)<;>grind
  match l,g,k2 with
  | [],g,_=>exact absurd g nb
  | b::k,g,k2 =>
   have LU:=g.two.resolve_left nb
   have h2:=k2 b k rfl LU
   intro h3
   rw [h0,h3,show(0:Rat)-0=0 by grind,jI]at h2
   have h4:=fB.1 h2.symm
   rw [h4]at LU
   rcases LU with h1 | h1<;>grind
theorem aow{B δ:Rat}(hδ:0<δ){P:Rat→Rat→Prop}(ht:∀a b c,a<b→b<c→P a b→P b c→P a c)(hs:∀a b,Ab a B→Ab b B→a<b→b-a≤δ→P a b){a b:Rat}(ha:Ab a B)(hb:Ab b B)(eW:a<b):P a b:=by
 have key:∀(n:Nat) (a b:Rat),Ab a B→Ab b B→a<b→b-a≤(n:Rat)*δ→P a b:=by
  intro n
  induction n with
  | zero=>intro a b _ _ h1 h2;exfalso;rw [show((0:Nat):Rat)=0 from rfl]at h2;grind
  | succ n ih =>
   intro a b ha hb h1 h2
   by_cases h3:b-a≤δ
   ·exact hs a b ha hb h1 h3
   ·have h3:=Rat.not_le.1 h3
    obtain⟨a1,a2⟩:=ha
    obtain⟨b1,b2⟩:=hb
    have hm:Ab (a+δ) B:=⟨by grind,by grind⟩
    refine ht a (a+δ) b (by grind) (by grind) (hs _ _ ⟨a1,a2⟩ hm (by grind) (by grind)) (ih _ _ hm ⟨b1,b2⟩ (by grind) ?_)
    rw [show((n+1:Nat):Rat)=(n:Rat)+1 from by rw [Rat.natCast_add];rfl]at h2
    grind
 have h1:=Rat.lt_floor_add_one ((b-a)/δ)
 have h2:0≤((b-a)/δ).floor:=Rat.le_floor_iff.2 (by
  have:=(Rat.lt_div_iff (a:=0) (b:=b-a) hδ).2 (by grind)
  show((0:Int):Rat)≤_
  rw [Rat.intCast_zero];exact Rat.le_of_lt this)
 refine key ((((b-a)/δ).floor+1).toNat) a b ha hb eW ?_
 have h3:(((((b-a)/δ).floor+1).toNat:Nat):Rat)=((((b-a)/δ).floor+1:Int):Rat):=by
  rw [←Rat.intCast_natCast,Int.toNat_of_nonneg (by omega)]
 rw [h3]
 have h4:=(Rat.div_lt_iff hδ).1 h1
 exact Rat.le_of_lt h4
structure w7(L:List ZX)(f:ZX):Prop where
 loc:∀B:Rat,1≤B → ∃δ,0<δ∧Lcl L f B δ
theorem k8(a b:Rat):∃B:Rat,1≤B∧Ab a B∧Ab b B:=by
 have h1:∀x:Rat,∃B:Rat,1≤B∧Ab x B:=fun x=>by
  by_cases h:0≤x
  ·exact⟨x+1,by grind,by grind,by grind⟩
  ·exact⟨-x+1,by grind,by grind,by grind⟩
 obtain⟨A,hA,ha⟩:=h1 a
 obtain⟨B,hB,hb⟩:=h1 b
 exact⟨A+B,by grind,ha.mono (by grind),hb.mono (by grind)⟩
namespace w7
variable {L:List ZX} {f:ZX} (h:w7 L f)
include h
theorem aem{P:Rat→Rat→Prop}(ht:∀a b c,a<b→b<c→P a b→P b c→P a c)(hs:∀B δ,Lcl L f B δ → ∀a b,Ab a B→Ab b B→a<b→b-a≤δ→P a b){a b:Rat}(eW:a<b):P a b:=by
 obtain⟨B,hB,ha,hb⟩:=k8 a b
 obtain⟨δ,hδ,hl⟩:=h.loc B hB
 exact aow hδ ht (hs B δ hl) ha hb eW
theorem cR{a b:Rat}(eW:a≤b):vt L b≤vt L a:=by
 rcases Rat.le_iff_lt_or_eq.1 eW with h1 | rfl
 ·refine h.aem (P:=fun a b=>vt L b≤vt L a) (fun a b c _ _ h1 h2=>Nat.le_trans h2 h1) (fun B δ hl a b ha hb eW hd=>?_) h1
  rw [hl.turns a b ha hb eW hd];omega
 ·exact Nat.le_refl _
theorem flat{a b:Rat}(eW:a<b)(he:vt L a=vt L b):e b f≠0∧(e a f≠0→b6 (e b f)=b6 (e a f)):=by
 refine h.aem (P:=fun a b=>vt L a=vt L b→e b f≠0∧(e a f≠0→b6 (e b f)=b6 (e a f))) (fun a b c h1 h2 p1 p2 hac=>?_) (fun B δ hl a b ha hb eW hd heq=>?_) eW he
 ·have:=h.cR (Rat.le_of_lt h1)
  have:=h.cR (Rat.le_of_lt h2)
  obtain⟨q1,q2⟩:=p1 (by omega)
  obtain⟨q3,q4⟩:=p2 (by omega)
  exact⟨q3,fun ha=>by rw [q4 q1,q2 ha]⟩
 ·have h1:=hl.turns a b ha hb eW hd
  have h2:ind f a b=0:=by omega
  unfold ind at h2
  by_cases h0:e a f=0
  ·exact⟨hl.simple a b ha hb eW hd h0,fun h3=>absurd h0 h3⟩
  ·have h3:b6 (e b f)=b6 (e a f):=Classical.byContradiction fun h3=>by rw [if_pos ⟨h0,h3⟩]at h2;omega
   refine⟨fun h4=>h0 (fB.1 ?_),fun _=>h3⟩
   rw [←h3,h4,jI]
theorem const{a b:Rat}(eW:a<b){σ:Int}(h0:e a f=0∨b6 (e a f)=σ)(h1:∀x,a<x→x≤b→b6 (e x f)=σ):vt L a=vt L b:=by
 refine h.aem (P:=fun x y=>a≤x→y≤b→vt L x=vt L y) (fun x y z qT hyz p1 p2 hax hzb=>(p1 hax (by grind)).trans (p2 (by grind) hzb)) (fun B δ hl x y hx hy qT hd hax hyb=>?_) eW Rat.le_refl Rat.le_refl
 rw [hl.turns x y hx hy qT hd]
 have h2:ind f x y=0:=if_neg fun h3=>by
  obtain⟨h4,h5⟩:=h3
  rw [h1 y (by grind) hyb]at h5
  rcases Rat.le_iff_lt_or_eq.1 hax with h6 | rfl
  ·exact h5 (h1 x h6 (by grind)).symm
  ·rcases h0 with h0 | h0
   ·exact h4 h0
   ·exact h5 h0.symm
 omega
theorem root{s t:Rat}(iX:s<t)(h0:e t f=0):vt L t<vt L s:=by
 have h1:=h.cR (Rat.le_of_lt iX)
 refine Nat.lt_of_le_of_ne h1 fun h2=>?_
 exact(h.flat iX h2.symm).1 h0
theorem count{roots:List Rat}(hn:roots.Nodup)(hr:∀r∈roots,e r f=0)(hc:∀a b,a<b→(∀r∈roots,a<r→b<r)→vt L a=vt L b){a b:Rat}(eW:a<b):vt L a=vt L b+(roots.countP fun r=>decide (a<r∧r≤b)):=by
 refine h.aem (P:=fun a b=>vt L a=vt L b+(roots.countP fun r=>decide (a<r∧r≤b))) (fun a b c h1 h2 p1 p2=>?_) (fun B δ hl a b ha hb eW hd=>?_) eW
 ·rw [p1,p2]
  have:∀l:List Rat,(l.countP fun r=>decide (a<r∧r≤c))=(l.countP fun r=>decide (a<r∧r≤b))+(l.countP fun r=>decide (b<r∧r≤c)):=fun l=>by
   induction l with
   | nil=>rfl
   | cons x l ih =>
    rw [List.countP_cons,List.countP_cons,List.countP_cons,ih]
    by_cases q1:a<x∧x≤b
    ·have q2:¬(b<x∧x≤c):=fun q=>by grind
     have q3:a<x∧x≤c:=⟨q1.1,by grind⟩
     rw [if_pos (decide_eq_true q3),if_pos (decide_eq_true q1),if_neg (fun h=>q2 (of_decide_eq_true h))];omega
    ·by_cases q2:b<x∧x≤c
     ·have q3:a<x∧x≤c:=⟨by grind,q2.2⟩
      rw [if_pos (decide_eq_true q3),if_neg (fun h=>q1 (of_decide_eq_true h)),if_pos (decide_eq_true q2)];omega
     ·have q3:¬(a<x∧x≤c):=fun q=>by
       by_cases q4:x≤b
       ·exact q1 ⟨q.1,q4⟩
       ·exact q2 ⟨Rat.not_le.1 q4,q.2⟩
      rw [if_neg (fun h=>q3 (of_decide_eq_true h)),if_neg (fun h=>q1 (of_decide_eq_true h)),if_neg (fun h=>q2 (of_decide_eq_true h))];omega
  rw [this roots];omega
 ·have h1:=hl.turns a b ha hb eW hd
  have h2:ind f a b≤1:=by unfold ind;split<;>omega
  have hm:∀r,r∈roots.filter (fun r=>decide (a<r∧r≤b))↔r∈roots∧a<r∧r≤b:=fun r=>by simp [List.mem_filter]
  have L5:(roots.filter (fun r=>decide (a<r∧r≤b))).Nodup:=hn.filter _
  rw [List.countP_eq_length_filter]
  match hF:roots.filter (fun r=>decide (a<r∧r≤b)),hm,L5 with
  | [],hm,_ =>
   rw [List.length_nil,Nat.add_zero]
   refine hc a b eW fun r hr h3=>Rat.not_le.1 fun h4=>?_
   have:=(hm r).2 ⟨hr,h3,h4⟩
   simp at this
  | [r],hm,_ =>
   obtain⟨g1,g2,g3⟩:=(hm r).1 (by simp)
   have:=h.root g2 (hr r g1)
   have:=h.cR g3
   simp only [List.length_cons,List.length_nil]
   omega
  | r::q::l,hm,L5 =>
   exfalso
   obtain⟨g1,g2,g3⟩:=(hm r).1 (by simp)
   obtain⟨k1,k2,k3⟩:=(hm q).1 (by simp)
   have mZ:r≠q:=by
    simp only [List.nodup_cons,List.mem_cons,not_or]at L5
    exact L5.1.1
   rcases Rat.le_total (a:=r) (b:=q)with h5 | h5
   ·have:=h.root (Rat.lt_of_le_of_ne h5 mZ) (hr q k1)
    have:=h.root g2 (hr r g1)
    have:=h.cR k3
    omega
   ·have:=h.root (Rat.lt_of_le_of_ne h5 (Ne.symm mZ)) (hr r g1)
    have:=h.root k2 (hr q k1)
    have:=h.cR g3
    omega
end w7
theorem A8{a b:Int}{l:List Int}(h:Cn (a::b::l)):Cn (b::l):=by
 unfold Cn at h ⊢
 rw [aO]at h
 split at h
 ·simp at h
 ·simpa using h
theorem yH{a b:Int}{l:List Int}:lead (a::b::l)=lead (b::l):=by
 unfold lead
 simp only [List.length_cons,Nat.add_sub_cancel]
 rw [j7]
theorem HC{S t:Rat}(hS:0≤S)(ht:S+1≤t):∀ {x:List Int},Cn x→0<x.length→(∀c∈x,Ab (c:Rat) S)→(0<lead x→1≤qv t x)∧(lead x<0→qv t x ≤ -1)
 | [a],hc,_,_=>by
  have e1:qv t [a]=(a:Rat):=by simp only [qv];grind
  have e2:lead [a]=a:=rfl
  rw [e1,e2]
  refine⟨fun h=>eH h,fun h=>?_⟩
  have:((a:Int):Rat)≤((-1:Int):Rat):=Rat.intCast_le_intCast.2 (by omega)
  rwa [Rat.intCast_neg,Rat.intCast_one]at this
 | a::b::l,hc,_,hb=>by
  obtain⟨h1,h2⟩:=HC hS ht (A8 hc) (by simp) fun c hc=>hb c (List.mem_cons_of_mem _ hc)
  obtain⟨h3,h4⟩:=hb a (by simp)
  have e1:qv t (a::b::l)=a+t*qv t (b::l):=rfl
  rw [yH,e1]
  refine⟨fun h=>?_,fun h=>?_⟩
  ·have:=Rat.mul_le_mul_of_nonneg_left (h1 h) (show 0≤t by grind)
   grind
  ·have:=Rat.mul_le_mul_of_nonneg_left (show 1 ≤ -qv t (b::l)by have:=h2 h;grind) (show 0≤t by grind)
   grind
theorem OY{S t:Rat}(hS:0≤S)(ht:t ≤ -(S+1)):∀ {x:List Int},Cn x→0<x.length→(∀c∈x,Ab (c:Rat) S)→(0<(if x.length%2=0 then -lead x else lead x)→1≤qv t x)∧((if x.length%2=0 then -lead x else lead x)<0→qv t x ≤ -1)
 | [a],hc,_,_=>by
  have e1:qv t [a]=(a:Rat):=by simp only [qv];grind
  have e2:lead [a]=a:=rfl
  rw [e1,e2,if_neg (by simp)]
  refine⟨fun h=>eH h,fun h=>?_⟩
  have:((a:Int):Rat)≤((-1:Int):Rat):=Rat.intCast_le_intCast.2 (by omega)
  rwa [Rat.intCast_neg,Rat.intCast_one]at this
 | a::b::l,hc,_,hb=>by
  obtain⟨h1,h2⟩:=OY hS ht (A8 hc) (by simp) fun c hc=>hb c (List.mem_cons_of_mem _ hc)
  obtain⟨h3,h4⟩:=hb a (by simp)
  have e1:qv t (a::b::l)=a+t*qv t (b::l):=rfl
  have e2:(if (a::b::l).length%2=0 then -lead (a::b::l)else lead (a::b::l)) = -(if (b::l).length%2=0 then -lead (b::l)else lead (b::l)):=by
   rw [yH]
   simp only [List.length_cons]
   split<;>split<;>omega
  rw [e2,e1]
  generalize (if (b::l).length%2=0 then -lead (b::l)else lead (b::l))=z at *
  refine⟨fun h=>?_,fun h=>?_⟩
  ·have:=Rat.mul_le_mul_of_nonneg_left (show 1 ≤ -qv t (b::l)by have:=h2 (by omega);grind) (show 0 ≤ -t by grind)
   grind
  ·have:=Rat.mul_le_mul_of_nonneg_left (h1 (by omega)) (show 0 ≤ -t by grind)
   grind
theorem HD{S t:Rat}(hS:0≤S){x:List Int}(hc:Cn x)(hb:∀c∈x,Ab (c:Rat) S):(S+1≤t→b6 (qv t x)=(lead x).sign)∧(t ≤ -(S+1)→b6 (qv t x)=if x.length%2=0 then -(lead x).sign else(lead x).sign):=by
 rcases Nat.eq_zero_or_pos x.length with h0 | h0
 ·have:x = []:=List.eq_nil_of_length_eq_zero h0
  subst this
  refine⟨fun _=>?_,fun _=>?_⟩<;>simp only [qv]<;>decide
 ·have hl:=dC hc h0
  refine⟨fun ht=>?_,fun ht=>?_⟩
  ·obtain⟨h1,h2⟩:=HC hS ht hc h0 hb
   rcases Int.lt_trichotomy (lead x) 0 with h | h | h
   ·have:=h2 h
    rw [Int.sign_eq_neg_one_of_neg h,gI (by grind)]
   ·exact absurd h hl
   ·have:=h1 h
    rw [Int.sign_eq_one_of_pos h,eN (by grind)]
  ·obtain⟨h1,h2⟩:=OY hS ht hc h0 hb
   rcases Int.lt_trichotomy (lead x) 0 with h | h | h
   ·rw [Int.sign_eq_neg_one_of_neg h]
    split
    ·rw [if_pos (by assumption)]at h1
     have:=h1 (by omega)
     rw [eN (by grind)];rfl
    ·rw [if_neg (by assumption)]at h2
     have:=h2 h
     rw [gI (by grind)]
   ·exact absurd h hl
   ·rw [Int.sign_eq_one_of_pos h]
    split
    ·rw [if_pos (by assumption)]at h2
     have:=h2 (by omega)
     rw [gI (by grind)]
    ·rw [if_neg (by assumption)]at h1
     have:=h1 h
     rw [eN (by grind)]
end Pm
namespace Pm
open ZX hiding N W
theorem kE.mul{x y η θ:Rat}(hη:0<η)(hθ:0<θ)(h:kE η x)(h':kE θ y):kE (η*θ) (x*y):=by
 have key:∀ {u v:Rat},η≤u→θ≤v→η*θ≤u*v:=fun {u v} h1 h2=>by
  have p1:=Rat.mul_le_mul_of_nonneg_left h2 (Rat.le_of_lt hη)
  have p2:=Rat.mul_le_mul_of_nonneg_right h1 (show 0≤v by grind)
  grind
 rcases h with h | h<;>rcases h' with h' | h'
 ·right;have:=key (show η ≤ -x by grind) (show θ ≤ -y by grind);grind
 ·left;have:=key (show η ≤ -x by grind) h';grind
 ·left;have:=key h (show θ ≤ -y by grind);grind
 ·right;exact key h h'
def Bg(a b:Rat)(p:ZX):Prop:=∃η:Rat,0<η ∧ ∀x,a≤x→x≤b→kE η (e x p)
theorem Bg.mul{a b:Rat}{p q:ZX}(h:Bg a b p)(h':Bg a b q):Bg a b (p*q):=by
 obtain⟨η,h1,h2⟩:=h
 obtain⟨θ,h3,h4⟩:=h'
 exact⟨η*θ,Rat.mul_pos h1 h3,fun x hx hy=>by rw [iO];exact kE.mul h1 h3 (h2 x hx hy) (h4 x hx hy)⟩
theorem Bg.K{a b:Rat}{c:Int}(hc:c≠0):Bg a b (ZX.K c):=⟨1,by decide,fun x _ _=>by rw [AK];exact w6 hc⟩
theorem Bg.mono{a b c d:Rat}{p:ZX}(h:Bg a b p)(hc:a≤c)(hd:d≤b):Bg c d p:=by
 obtain⟨η,h1,h2⟩:=h
 exact⟨η,h1,fun x hx hy=>h2 x (by grind) (by grind)⟩
theorem HE(t:Rat)(n d:Int):e t (of [n,d])=n+d*t:=by
 rw [aov]
 simp only [qv];grind
theorem Bg.lin{a b:Rat}{n d:Int}(h:(0<(n:Rat)+d*a∧0<(n:Rat)+d*b)∨((n:Rat)+d*a<0∧(n:Rat)+d*b<0)):Bg a b (of [n,d]):=by
 have key:∀x,a≤x→x≤b→((n:Rat)+d*a≤n+d*x∧(n:Rat)+d*x≤n+d*b)∨((n:Rat)+d*b≤n+d*x∧(n:Rat)+d*x≤n+d*a):=fun x hx hy=>by
  by_cases hd:(0:Rat)≤d
  ·left
   have:=Rat.mul_le_mul_of_nonneg_left hx hd
   have:=Rat.mul_le_mul_of_nonneg_left hy hd
   grind
  ·right
   have:=Rat.mul_le_mul_of_nonneg_left hx (show (0:Rat) ≤ -d by grind)
   have:=Rat.mul_le_mul_of_nonneg_left hy (show (0:Rat) ≤ -d by grind)
   grind
 generalize (n:Rat)+d*a=u at *
 generalize (n:Rat)+d*b=v at *
 rcases h with ⟨h1,h2⟩ | ⟨h1,h2⟩
 ·by_cases huv:u≤v
  ·exact⟨u,h1,fun x hx hy=>by rw [HE];have:=key x hx hy;right;grind⟩
  ·exact⟨v,h2,fun x hx hy=>by rw [HE];have:=key x hx hy;right;grind⟩
 ·by_cases huv:u≤v
  ·exact⟨-v,by grind,fun x hx hy=>by rw [HE];have:=key x hx hy;left;grind⟩
  ·exact⟨-u,by grind,fun x hx hy=>by rw [HE];have:=key x hx hy;left;grind⟩
theorem BA(l:List Int):∃S:Rat,0≤S ∧ ∀c∈l,Ab (c:Rat) S:=by
 induction l with
 | nil=>exact⟨0,Rat.le_refl,fun c hc=>by cases hc⟩
 | cons a l ih =>
  obtain⟨S,hS,h⟩:=ih
  obtain⟨A,hA,ha,_⟩:=k8 a a
  refine⟨S+A,by grind,fun c hc=>?_⟩
  rcases List.mem_cons.1 hc with rfl | hc
  ·exact ha.mono (by grind)
  ·exact(h c hc).mono (by grind)
theorem cI{a b x B:Rat}(ha:Ab a B)(hb:Ab b B)(hx:a≤x)(hy:x≤b):Ab x B:=by
 obtain⟨h1,h2⟩:=ha
 obtain⟨h3,h4⟩:=hb
 exact⟨by grind,by grind⟩
theorem aii(a b:Rat)(p:ZX):∃W:Rat,0<W ∧ ∀x,a≤x→x≤b→Ab (e x p) W:=by
 obtain⟨B,hB,ha,hb⟩:=k8 a b
 obtain⟨S,hS,h⟩:=BA p.l
 obtain⟨h3,_⟩:=oK hS hB p.l.length
 exact⟨EP S B p.l.length+1,by grind,fun x hx hy=>(OX hS hB (cI ha hb hx hy) p.l h).mono (by grind)⟩
theorem Bg.dv{a b:Rat}{f p:ZX}(h:Bg a b p)(hd:ZX.dv f p):Bg a b f:=by
 obtain⟨c,hc,q,he⟩:=hd
 obtain⟨η,h1,h2⟩:=(Bg.K (a:=a) (b:=b) hc).mul h
 obtain⟨W,hW,h3⟩:=aii a b q
 refine⟨η/W,(Rat.lt_div_iff hW).2 (by grind),fun x hx hy=>?_⟩
 have h4:=h2 x hx hy
 rw [he,iO]at h4
 have h5:η/W*W=η:=Rat.div_mul_cancel (Rat.ne_of_gt hW)
 refine Classical.byContradiction fun hn=>?_
 obtain⟨g1,g2⟩:=A6 hn
 obtain⟨k1,k2⟩:=h3 x hx hy
 generalize η/W=θ at *
 generalize e x q=u at *
 generalize e x f=v at *
 have key:∀ {w z:Rat}, -W≤w→w≤W → -θ<z→z<θ→w*z<θ*W:=fun {w z} a1 a2 a3 a4=>by
  by_cases hw:0≤w
  ·by_cases hz:0≤z
   ·have p1:=Rat.mul_le_mul_of_nonneg_right a2 hz
    have p2:=Rat.mul_lt_mul_of_pos_left a4 hW
    grind
   ·have p1:=Rat.mul_nonneg hw (show 0 ≤ -z by grind)
    grind
  ·by_cases hz:0≤z
   ·have p1:=Rat.mul_nonneg (show 0 ≤ -w by grind) hz
    grind
   ·have p1:=Rat.mul_le_mul_of_nonneg_right (show -w≤W by grind) (show 0 ≤ -z by grind)
    have p2:=Rat.mul_lt_mul_of_pos_left (show -z<θ by grind) hW
    grind
 rcases h4 with h4 | h4
 ·have:=key (w := -u) (z:=v) (by grind) (by grind) g1 g2
  grind
 ·have:=key (w:=u) (z:=v) k1 k2 g1 g2
  grind
theorem Bg.same{a b:Rat}{f:ZX}(h:Bg a b f){x y:Rat}(hx:a≤x)(qT:x<y)(hy:y≤b):b6 (e y f)=b6 (e x f)∧b6 (e x f)≠0:=by
 obtain⟨η,hη,h2⟩:=h
 obtain⟨B,hB,ha,hb⟩:=k8 a b
 obtain⟨S,hS,hc⟩:=BA f.l
 obtain⟨h3,_⟩:=oK hS hB f.l.length
 generalize hQ:EP S B f.l.length=Q at *
 have hQ1:0<Q+1:=by grind
 have hδ:η/(Q+1)*(Q+1)=η:=Rat.div_mul_cancel (Rat.ne_of_gt hQ1)
 have hδ0:0<η/(Q+1):=(Rat.lt_div_iff hQ1).2 (by grind)
 generalize η/(Q+1)=δ at *
 refine aow (B:=B) hδ0 (P:=fun x y=>a≤x→y≤b→b6 (e y f)=b6 (e x f)∧b6 (e x f)≠0) (fun x y z h1 h2 p1 p2 hx hz=>?_) (fun x y hx hy qT hd hax hyb=>?_) (cI ha hb hx (by grind)) (cI ha hb (by grind) hy) qT hx hy
 ·obtain⟨q1,q2⟩:=p1 hx (by grind)
  obtain⟨q3,q4⟩:=p2 (by grind) hz
  exact⟨q3.trans q1,q2⟩
 ·refine fS (h2 x hax (by grind)) hη ?_
  show ¬kE η (qv y f.l-qv x f.l)
  rw [nT]
  refine z5 (Q:=Q) (by grind) (hQ▸HB hS hB hx hy f.l hc) ?_
  have:=Rat.mul_le_mul_of_nonneg_right hd h3
  grind
theorem w7.bg{L:List ZX}{f:ZX}(h:w7 L f){a b:Rat}(hb:Bg a b f)(eW:a<b):vt L a=vt L b:=by
 refine h.const eW (σ:=b6 (e a f)) (.inr rfl) fun x hx hy=>?_
 exact(hb.same Rat.le_refl hx hy).1
theorem w7.aaj{L:List ZX}{f:ZX}(h:w7 L f){a b:Rat}(eW:a<b)(h0:e a f=0):∃c,a<c∧c≤b∧vt L a=vt L c:=by
 obtain⟨B,hB,ha,hb⟩:=k8 a b
 obtain⟨δ,hδ,hl⟩:=h.loc B hB
 by_cases hd:b-a≤δ
 ·refine⟨b,eW,Rat.le_refl,?_⟩
  rw [hl.turns a b ha hb eW hd]
  have:ind f a b=0:=if_neg fun h=>h.1 h0
  omega
 ·refine⟨a+δ,by grind,by grind,?_⟩
  rw [hl.turns a (a+δ) ha (cI ha hb (by grind) (by grind)) (by grind) (by grind)]
  have:ind f a (a+δ)=0:=if_neg fun h=>h.1 h0
  omega
end Pm
namespace Go.Proofs.YtiobceocpabjdaaGreat
open Go Pm
abbrev T2(n d:Int):PV:=.ag [.bool (decide (n<0)),us (aS LL n.natAbs), .bool (decide (d<0)),us (aS LL d.natAbs)]
abbrev RT(q:Rat):PV:=T2 q.num q.den
theorem aij(n d:Int):((bO [n,d]:Nat):Int)=Int.gcd n d:=by
 simp only [bO,List.foldl_cons,List.foldl_nil,Nat.gcd_zero_left]
 rfl
theorem aoy{n d:Int}(h:d≠0):(dR n d).num=(if d<0 then -n else n)/(bO [n,d]:Nat)∧((dR n d).den:Int)=(if d<0 then -d else d)/(bO [n,d]:Nat):=by
 have e:∀m k:Int,(m=n∨m = -n)→(k=d∨k = -d)→((Int.gcd m k:Nat):Int)=(bO [n,d]:Nat):=fun m k hm hk=>by
  rw [aij]
  rcases hm with rfl | rfl<;>rcases hk with rfl | rfl<;>simp
 rw [qH n d h,qI n d h]
 constructor
 ·rw [e _ _ (by split<;>simp) (by split<;>simp)]
 ·rw [e _ _ (by split<;>simp) (by split<;>simp)]
theorem qO{n d:Int}(hn:sz LL n<1099511627770)(hd:sz LL d<1099511627770)(h0:d≠0):aE env.P 169 [I n,I d] (RT (dR n d)):=by
 have sn:Sz n:=by show _<_;omega
 have sd:Sz d:=by show _<_;omega
 have g0:=NV [tN n,tN d] 1099511627770 (by decide) (fun c hc=>by
  simp only [List.mem_cons,List.not_mem_nil,or_false]at hc
  rcases hc with rfl | rfl
  ·exact⟨fI gF _,by unfold sz at hn;show(aS LL n.natAbs).length≤_;omega⟩
  ·exact⟨fI gF _,by unfold sz at hd;show(aS LL d.natAbs).length≤_;omega⟩) (by simp)
 rw [show [tN n,tN d].map gv = [n,d]by simp [M7]]at g0
 obtain⟨q1,q2⟩:=aoy (n:=n) h0
 have gd1:((bO [n,d]:Nat):Int)∣n:=iN _ n (by simp)
 have gd2:((bO [n,d]:Nat):Int)∣d:=iN _ d (by simp)
 have gne:((bO [n,d]:Nat):Int)≠0:=by
  have:=N6 (x:=[n,d]) (c:=d) (by simp) h0;omega
 have gle:((bO [n,d]:Nat):Int).natAbs≤d.natAbs:=Nat.le_of_dvd (by omega) (Int.natAbs_dvd_natAbs.2 gd2)
 have gsz:sz LL ((bO [n,d]:Nat):Int)<1099511627774:=Nat.lt_of_le_of_lt (dP gF gle) (by omega)
 have nn:∀v,r9 (aS LL v)↔r9 (aS LL v):=fun _=>Iff.rfl
 have neg:∀v:Int,Sz v→aE env.P 148 [I v] (I (-v)):=fun v hv=>by
  have:=C0 (decide (v<0)) (aS LL v.natAbs) hv.VG
  rw [show iv (decide (v<0)) (aS LL v.natAbs)=v from M7 v]at this
  exact this
 generalize hg:((bO [n,d]:Nat):Int)=g at *
 have ex:∀v:Int,g∣v→sz LL v<1099511627774→aE env.P 234 [I v,I g] (.dU [I (v/g), .int .i64 0]):=fun v hv hs=>by
  have:=JG hs gsz gne
  rw [if_pos (Int.emod_eq_zero_of_dvd hv)]at this
  exact this
 have n1:=neg n sn
 have n2:=neg d sd
 have avd:∀v:Int,sz LL (-v)=sz LL v:=fun v=>by unfold sz;rw [Int.natAbs_neg]
 have e1:=ex (if d<0 then -n else n) (by split;exact(Int.dvd_neg.2 gd1);exact gd1) (by split;rw [avd];omega;omega)
 have e2:=ex (if d<0 then -d else d) (by split;exact(Int.dvd_neg.2 gd2);exact gd2) (by split;rw [avd];omega;omega)
 rw [←q1]at e1
 rw [←q2]at e2
 have eg:Pg [tN n,tN d] = .sl [[.bool (decide (n<0)),us (aS LL n.natAbs)],[.bool (decide (d<0)),us (aS LL d.natAbs)]]:=rfl
 rw [eg]at g0
 show aE env.P _ _ (T2 (dR n d).num (dR n d).den)
 generalize (dR n d).num=rn at *
 generalize ((dR n d).den:Int)=rd at *
 refine cD [(0,I n),(1,I d)] Tryz.func169 ?_
 refine aA [2,3,4] ?_
 refine aR [2,3,4,5] g0 ?_
 generalize AA:(if d<0 then -n else n)=n' at *
 generalize hd':(if d<0 then -d else d)=d' at *
 refine W.iB (fun σ=>∃(rows:Pm.Rows) (clk:Nat),σ=⟨fa [(2, .ptr 2 0 0 0),(3, .ptr 3 1 0 0),(4, .ptr 4 2 0 0),(5, .ptr 5 3 0 0)],rows,clk⟩∧rows 2=some ⟨0,38,2,[ie n']⟩∧rows 3=some ⟨1,38,2,[ie d']⟩∧rows 4=some ⟨2,52,4,[[.bool false, .nil, .bool false, .nil]]⟩∧rows 5=some ⟨3,38,2,[ie g]⟩) ?_ ?_
 ·refine aA [2,3,4,5,11] ?_
  refine bJ ?_ ?_<;>intro h
  ·have h:d<0:=by simpa using h
   rw [if_pos h]at AA hd'
   subst AA hd'
   refine W.I2 (fun K hK=>?_)
   simp (disch:=omega) [gw]
   refine cS n1 ?_
   refine cS n2 ?_
   (try (refine bA (of_decide_eq_true (by kernel_rfl)) ?_));(try simp (maxSteps:=4000000) (disch:=omega) [gw]);(repeat rw [if_pos (by kernel_rfl)]);(try simp (maxSteps:=4000000) (disch:=omega) [gw])
   (try (refine bA (of_decide_eq_true (by kernel_rfl)) ?_));(try simp (maxSteps:=4000000) (disch:=omega) [gw]);(repeat rw [if_pos (by kernel_rfl)]);(try simp (maxSteps:=4000000) (disch:=omega) [gw])
   exact hK _ ⟨_,aB _ [2,3,4,5],_,_,rfl,by simp,by simp,by simp,by simp⟩
  ·have h:¬d<0:=by simpa using h
   rw [if_neg h]at AA hd'
   subst AA hd'
   refine W.skip ?_
   exact⟨_,aB _ [2,3,4,5],_,_,rfl,by simp,by simp,by simp,by simp⟩
 rintro _ ⟨rows,clk,rfl,bX,cH,c9,dM⟩
 simp only [ie]at bX cH dM
 refine W.sr ?_
 simp (disch:=omega) [gw,bX,dM]
 refine aC e1 ?_
 simp (disch:=omega) [gw,bX]
 refine bH [2,3,4,5] ?_
 refine W.sr ?_
 simp (disch:=omega) [gw,cH,dM]
 refine aC e2 ?_
 simp (disch:=omega) [gw,cH]
 refine bH [2,3,4] ?_
 refine W.sr ?_
 simp (disch:=omega) [gw,c9]
 refine bH [4] ?_
 exact cC
theorem HF(d:Int):aE env.P 124 [I d] (.bool (decide (d=0))):=by
 have:=M8 (decide (d<0)) (aS LL d.natAbs)
 rw [show decide ((aS LL d.natAbs).length=0)=decide (d=0)from by
  by_cases h:d=0
  ·subst h;rfl
  ·have:aS LL d.natAbs ≠ []:=fun h2=>h (by have:=kP gF d.natAbs;rw [h2]at this;simp [V]at this;omega)
   have h3:=List.length_pos_iff.2 this
   simp [h];omega]at this
 exact this
theorem TD(n:Int):dR n 0=dR n 1:=by rw [l7,dR,if_pos rfl]
theorem nC{n d:Int}(hn:sz LL n<1099511627770)(hd:sz LL d<1099511627770):aE env.P 147 [T2 n d] (RT (dR n d)):=by
 have sn:Sz n:=by show _<_;omega
 have sd:Sz d:=by show _<_;omega
 have n1:=JB sn
 have n2:=JB sd
 have z1:=HF d
 have o1:=C4 1 (by decide) (by decide)
 obtain⟨e,he,hed⟩:∃e,e=(if d=0 then 1 else d)∧dR n e=dR n d:=by
  refine⟨_,rfl,?_⟩
  split
  ·rename_i h;rw [h,TD]
  ·rfl
 have LR:sz LL e<1099511627770:=by
  rw [he]
  split
  ·exact Nat.lt_of_le_of_lt (dY (k:=1) gF (by decide)) (by decide)
  ·exact hd
 have J0:e≠0:=by
  rw [he]
  split
  ·decide
  ·assumption
 have l1:=qO (n:=n) (d:=e) hn LR J0
 rw [hed]at l1
 show aE env.P _ _ (T2 (dR n d).num (dR n d).den)
 replace l1:aE env.P 169 [I n,I e] (T2 (dR n d).num (dR n d).den):=l1
 clear hed LR J0
 generalize (dR n d).num=rn at *
 generalize ((dR n d).den:Int)=rd at *
 refine cD [(0,T2 n d)] Tryz.func147 ?_
 refine aA [1,2] ?_
 refine aR [1,2,3] n2 ?_
 refine W.iB (fun σ=>∃(rows:Pm.Rows) (clk:Nat),σ=⟨fa [(1, .ptr 1 0 0 0),(2, .ptr 2 1 0 0),(3, .ptr 3 2 0 0)],rows,clk⟩∧rows 1=some ⟨0,52,4,[[.bool (decide (n<0)),us (aS LL n.natAbs), .bool (decide (d<0)),us (aS LL d.natAbs)]]⟩∧rows 2=some ⟨1,52,4,[[.bool false, .nil, .bool false, .nil]]⟩∧rows 3=some ⟨2,38,2,[[.bool (decide (e<0)),us (aS LL e.natAbs)]]⟩) ?_ ?_
 ·refine aR [1,2,3,8] z1 ?_
  refine bJ ?_ ?_<;>intro h
  ·have h:d=0:=by simpa using h
   rw [if_pos h]at he
   subst he
   refine W.b7 (fun K hK=>?_)
   simp (disch:=omega) [gw]
   refine cS o1 ?_
   exact hK _ ⟨_,aB _ [1,2,3],_,_,rfl,by simp,by simp,by simp⟩
  ·have h:¬d=0:=by simpa using h
   rw [if_neg h]at he
   subst he
   refine W.skip ?_
   exact⟨_,aB _ [1,2,3],_,_,rfl,by simp,by simp,by simp⟩
 rintro _ ⟨rows,clk,rfl,CO,bX,cH⟩
 refine W.sd ?_
 simp (disch:=omega) [gw,CO]
 refine aC n1 ?_
 simp (disch:=omega) [gw,cH]
 refine aC l1 ?_
 simp (disch:=omega) [gw,bX]
 (try (refine bA (of_decide_eq_true (by kernel_rfl)) ?_));(try simp (maxSteps:=4000000) (disch:=omega) [gw,bX]);(repeat rw [if_pos (by kernel_rfl)]);(try simp (maxSteps:=4000000) (disch:=omega) [gw,bX])
 refine bH [2] ?_
 exact cC
theorem yI{n d m e:Int}{k:Nat}(hn:sz LL n≤k)(hd:sz LL d≤k)(hm:sz LL m≤k)(he:sz LL e≤k)(hk:k≤500000000000){p q:Rat}(hp:dR n d=p)(hq:dR m e=q)(sp:sz LL p.num≤k∧sz LL (p.den:Int)≤k)(sq:sz LL q.num≤k∧sz LL (q.den:Int)≤k) :
  aE env.P 165 [T2 n d,T2 m e] (.dU [I (p.num*q.den),I (q.num*p.den),I ((p.den:Int)*q.den)]):=by
 have n1:=nC (n:=n) (d:=d) (by omega) (by omega)
 have n2:=nC (n:=m) (d:=e) (by omega) (by omega)
 rw [hp]at n1
 rw [hq]at n2
 have z:∀ {v:Int},sz LL v≤k→Sz v:=fun h=>by show _<_;omega
 have m1:=wJ (z sp.1) (z sq.2)
 have m2:=wJ (z sq.1) (z sp.2)
 have m3:=wJ (z sp.2) (z sq.2)
 replace n1:aE env.P 147 [T2 n d] (T2 p.num p.den):=n1
 replace n2:aE env.P 147 [T2 m e] (T2 q.num q.den):=n2
 clear sp sq hp hq
 generalize p.num*(q.den:Int)=x1 at *
 generalize q.num*(p.den:Int)=x2 at *
 generalize (p.den:Int)*(q.den:Int)=x3 at *
 generalize p.num=pn at *
 generalize (p.den:Int)=pd at *
 generalize q.num=qn at *
 generalize (q.den:Int)=qd at *
 refine cD [(0,T2 n d),(1,T2 m e)] Tryz.func165 ?_
 refine aA [2,3,4,5,6] ?_
 refine nU ?_
 refine cS n1 ?_
 refine cS n2 ?_
 (try (refine bA (of_decide_eq_true (by kernel_rfl)) ?_));(try simp (maxSteps:=4000000) (disch:=omega) [gw]);(repeat rw [if_pos (by kernel_rfl)]);(try simp (maxSteps:=4000000) (disch:=omega) [gw])
 (try (refine bA (of_decide_eq_true (by kernel_rfl)) ?_));(try simp (maxSteps:=4000000) (disch:=omega) [gw]);(repeat rw [if_pos (by kernel_rfl)]);(try simp (maxSteps:=4000000) (disch:=omega) [gw])
 refine bH [2,3,4,5,6] ?_
 refine W.sd ?_
 simp (maxSteps:=4000000) (disch:=omega) [gw]
 refine aC m1 ?_
 simp (maxSteps:=4000000) (disch:=omega) [gw]
 refine aC m2 ?_
 simp (maxSteps:=4000000) (disch:=omega) [gw]
 refine aC m3 ?_
 simp (maxSteps:=4000000) (disch:=omega) [gw]
 (try (refine bA (of_decide_eq_true (by kernel_rfl)) ?_));(try simp (maxSteps:=4000000) (disch:=omega) [gw]);(repeat rw [if_pos (by kernel_rfl)]);(try simp (maxSteps:=4000000) (disch:=omega) [gw])
 (try (refine bA (of_decide_eq_true (by kernel_rfl)) ?_));(try simp (maxSteps:=4000000) (disch:=omega) [gw]);(repeat rw [if_pos (by kernel_rfl)]);(try simp (maxSteps:=4000000) (disch:=omega) [gw])
 (try (refine bA (of_decide_eq_true (by kernel_rfl)) ?_));(try simp (maxSteps:=4000000) (disch:=omega) [gw]);(repeat rw [if_pos (by kernel_rfl)]);(try simp (maxSteps:=4000000) (disch:=omega) [gw])
 refine bH [4,5,6] ?_
 exact cC
theorem cZ{n d m e:Int}{k:Nat}(hn:sz LL n≤k)(hd:sz LL d≤k)(hm:sz LL m≤k)(he:sz LL e≤k)(hk:k≤500000000000){p q:Rat}(hp:dR n d=p)(hq:dR m e=q)(sp:sz LL p.num≤k∧sz LL (p.den:Int)≤k)(sq:sz LL q.num≤k∧sz LL (q.den:Int)≤k) :
  aE env.P 86 [T2 n d,T2 m e] (.int .i64 (dI (p.num*q.den) (q.num*p.den))):=by
 have c1:=yI hn hd hm he hk hp hq sp sq
 have g1:=cG (b:=LL) gF sp.1 sq.2
 have g2:=cG (b:=LL) gF sq.1 sp.2
 have w1:=VI (x:=p.num*q.den) (y:=q.num*p.den) (by show _<_;omega) (by show _<_;omega)
 clear sp sq hp hq g1 g2
 generalize dI (p.num*(q.den:Int)) (q.num*(p.den:Int))=r at *
 generalize p.num*(q.den:Int)=x1 at *
 generalize q.num*(p.den:Int)=x2 at *
 generalize (p.den:Int)*(q.den:Int)=x3 at *
 refine cD [(0,T2 n d),(1,T2 m e)] Tryz.func86 ?_
 refine aA [2,3] ?_
 refine aR [5,6] c1 ?_
 refine aR [4] w1 ?_
 exact cC
theorem w8{n d:Int}(hn:sz LL n<1099511627770)(hd:sz LL d<1099511627770):aE env.P 90 [T2 n d, .sl []] (RT (dR n d)):=by
 have n1:=nC hn hd
 show aE env.P _ _ (T2 (dR n d).num (dR n d).den)
 replace n1:aE env.P 147 [T2 n d] (T2 (dR n d).num (dR n d).den):=n1
 generalize (dR n d).num=rn at *
 generalize ((dR n d).den:Int)=rd at *
 refine cD [(0,T2 n d),(1, .sl [])] Tryz.func90 ?_
 refine aA [1,2,4] ?_
 refine aR [1,4,5] n1 ?_
 refine aQ [4,5,10,11,12] ?_
 refine W.block ?_
 refine W.bE (fun k σ=>∃(rows:Pm.Rows) (clk:Nat),σ=⟨fa [(4, .ptr 4 1 0 0),(5, .ptr 5 2 0 0),(11, .int .i64 0),(12, .int .i64 0)],rows,clk⟩∧rows 4=some ⟨1,52,4,[[.bool false, .nil, .bool false, .nil]]⟩∧rows 5=some ⟨2,52,4,[[.bool (decide (rn<0)),us (aS LL rn.natAbs), .bool (decide (rd<0)),us (aS LL rd.natAbs)]]⟩) 0 ?_ ?_
 ·exact⟨_,aB _ [4,5,11,12],_,_,rfl,by simp,by simp⟩
 rintro k _ ⟨rows,clk,rfl,c9,dM⟩
 refine bU [4,5,11,12,13] ?_
 refine bJ ?_ ?_<;>intro h
 ·simp at h
 ·refine fA ?_
  refine W.sr ?_
  simp (disch:=omega) [gw,c9,dM]
  refine bH [4] ?_
  exact cC
theorem aak{n d:Int}(hn:sz LL n<1099511627770)(hd:sz LL d<1099511627770):aE env.P 166 [T2 n d] (RT (dR n d)):=by
 have n1:=w8 hn hd
 show aE env.P _ _ (T2 (dR n d).num (dR n d).den)
 replace n1:aE env.P 90 [T2 n d, .sl []] (T2 (dR n d).num (dR n d).den):=n1
 generalize (dR n d).num=rn at *
 generalize ((dR n d).den:Int)=rd at *
 refine cD [(0,T2 n d)] Tryz.func166 ?_
 refine aA [1,2] ?_
 refine aR [2] n1 ?_
 exact cC
end Go.Proofs.YtiobceocpabjdaaGreat
namespace Go.Proofs.YtiobceocpabjdaaGreat
open Go Pm
open ZX hiding N W
def u9(st:Nat × Int)(s:Int):Nat × Int:=if s=0 then st else(if st.2≠0∧s≠st.2 then st.1+1 else st.1,s)
def vr(l:List Int):Nat:=(l.foldl u9 (0,0)).1
theorem TE(l:List Int):∀st:Nat × Int,(l.foldl u9 st).1≤st.1+l.length:=by
 induction l with
 | nil=>intro st;simp
 | cons s l ih =>
  intro st
  have h:=ih (u9 st s)
  have:(u9 st s).1≤st.1+1:=by
   unfold u9
   split
   ·omega
   ·simp only;split<;>omega
  simp only [List.foldl_cons,List.length_cons]
  omega
theorem D1(l:List Int):vr l≤l.length:=by have:=TE l (0,0);simpa [vr]using this
theorem yJ{l:List Int}{i:Nat}(h:i<l.length):(l.take (i+1)).foldl u9 (0,0)=u9 ((l.take i).foldl u9 (0,0)) (nth l i):=by
 rw [List.take_add_one,List.getElem?_eq_getElem h,bW h,List.foldl_append]
 rfl
theorem BB(l:List Int)(i:Nat):aI (nth l i) = [.int .i64 (nth l i)]:=rfl
theorem TF(l:List Int)(hl:l.length<1099511627776):aE env.P 223 [aJ aI l] (.int .i64 (vr l)):=by
 have hv:vr l=((l.take l.length).foldl u9 (0,0)).1:=by rw [List.take_length];rfl
 rw [hv]
 have hb:∀i,((l.take i).foldl u9 (0,0)).1≤i:=fun i=>by have:=TE (l.take i) (0,0);simp at this;omega
 have iX:=fun i (h:i<l.length)=>yJ h
 generalize (fun i=>(l.take i).foldl u9 (0,0))=F at *
 refine cD [(0,aJ aI l)] Tryz.func223 ?_
 refine aA [0] ?_
 refine aA [0,3,4] ?_
 refine aQ [0,3,4,7,8] ?_
 refine W.block ?_
 refine W.bE (fun k σ=>∃(i:Nat) (n:Nat) (s:Int) (rows:Pm.Rows) (clk:Nat),σ=⟨fa [(0,aJ aI l),(3, .int .i64 n),(4, .int .i64 s),(7, .int .i64 l.length),(8, .int .i64 i)],rows,clk⟩∧i+k=l.length∧(l.take i).foldl u9 (0,0)=(n,s)) l.length ?_ ?_
 ·exact⟨_, .refl,0,0,0,_,_,rfl,by omega,by simp⟩
 rintro k _ ⟨i,n,s,rows,clk,rfl,zH,hF⟩
 have hni:n≤i:=by have:=hb i;rw [hF]at this;exact this
 refine bU [0,3,4,7,8,9] ?_
 refine bJ ?_ ?_<;>intro h
 ·have hi:i<l.length:=by simp at h;omega
  have wH:=iX i hi
  rw [hF]at wH
  generalize hx:nth l i=x at *
  refine W.skip ?_
  refine W.dO (fun σ=>∃(n':Nat) (s':Int) (rows:Pm.Rows) (clk:Nat),σ=⟨fa [(0,aJ aI l),(3, .int .i64 n'),(4, .int .i64 s'),(7, .int .i64 l.length),(8, .int .i64 i)],rows,clk⟩∧u9 (n,s) x=(n',s')) ?_ ?_
  ·refine aA [0,3,4,5,7,8] ?_
   refine W.sr ?_
   simp (disch:=omega) [gw,hi,hx,BB]
   refine bH [0,3,4,5,7,8,15] ?_
   refine bJ ?_ ?_<;>intro h
   ·have pM:x≠0:=by simpa using h
    refine W.iB (fun σ=>∃(n':Nat) (rows:Pm.Rows) (clk:Nat),σ=⟨fa [(0,aJ aI l),(3, .int .i64 n'),(5, .int .i64 i),(7, .int .i64 l.length),(8, .int .i64 i)],rows,clk⟩∧u9 (n,s) x=(n',x)) ?_ ?_
    ·refine W.eJ (fun σ=>∃(b:Bool) (rows:Pm.Rows) (clk:Nat),σ=⟨fa [(0,aJ aI l),(3, .int .i64 n),(5, .int .i64 i),(7, .int .i64 l.length),(8, .int .i64 i),(25, .bool b)],rows,clk⟩∧b=decide (s≠0∧x≠s)) (fun K hK=>?_) ?_
     ·by_cases VF:s=0
      ·subst VF
       simp (disch:=omega) [gw,hi,hx,BB]
       exact hK _ _ (aB _ [0,3,5,7,8,25]) ⟨_,_,_,rfl,by simp⟩
      ·have QY:(s != 0)=true:=by simpa using VF
       simp (disch:=omega) [gw,hi,hx,BB,QY]
       exact hK _ _ (aB _ [0,3,5,7,8,25]) ⟨_,_,_,rfl,by simp [VF];rfl⟩
     rintro _ ⟨b,rows,clk,rfl,rfl⟩
     refine bJ ?_ ?_<;>intro h
     ·have h:=of_decide_eq_true h
      refine W.b7 (fun K hK=>?_);simp (disch:=omega) [gw]
      exact hK _ ⟨_,aB _ [0,3,5,7,8],n+1,_,_,rfl,by unfold u9;rw [if_neg pM];simp only;rw [if_pos h]⟩
     ·have h:=of_decide_eq_false h
      refine W.skip ?_
      exact⟨_,aB _ [0,3,5,7,8],n,_,_,rfl,by unfold u9;rw [if_neg pM];simp only;rw [if_neg h]⟩
    rintro _ ⟨n',rows,clk,rfl,AA⟩
    refine W.b7 (fun K hK=>?_);simp (disch:=omega) [gw,hi,hx,BB]
    exact hK _ ⟨_,aB _ [0,3,4,7,8],n',x,_,_,rfl,AA⟩
   ·have pM:x=0:=by simpa using h
    refine W.skip ?_
    exact⟨_,aB _ [0,3,4,7,8],n,s,_,_,rfl,by unfold u9;rw [if_pos pM]⟩
  rintro _ ⟨n',s',rows,clk,rfl,AA⟩
  refine W.b7 (fun K hK=>?_);simp (disch:=omega) [gw]
  refine hK _ ⟨k-1,_,aB _ [0,3,4,7,8],by omega,i+1,n',s',_,_,rfl,by omega,by rw [wH,AA]⟩
 ·have hi:i=l.length:=by simp at h;omega
  subst hi
  refine fA ?_
  refine aA [2] ?_
  rw [hF]
  exact cC
def eL(x:List Int):Int:=if x.length%2=0 then -(lead x).sign else(lead x).sign
def eR(x:List Int):Int:=(lead x).sign
def oL(c:List ZX)(n d:Int):List Int:=c.map fun p=>J6 p.l n d
def sgL(c:List ZX):List Int:=c.map fun p=>eL p.l
def sgR(c:List ZX):List Int:=c.map fun p=>eR p.l
theorem BC{l:List Int}{v:Int}:emap aI l ++ [[.int .i64 v]]=emap aI (l ++ [v]):=by simp [emap,aI]
theorem FJ{α:Type}[Inhabited α](f:α→Int){c:List α}{i:Nat}(h:i<c.length):(c.take i).map f ++ [f (nth c i)]=(c.take (i+1)).map f:=by
 rw [List.take_add_one,List.getElem?_eq_getElem h,bW h,List.map_append];rfl
theorem OZ{c:List ZX}{n d:Int}(hl:c.length<1000000)(hS:∀p∈c,aE env.P 77 [PI p.l,R2 n d] (.int .i64 (J6 p.l n d))):aE env.P 151 [aJ zq c,R2 n d] (.int .i64 (vr (oL c n d))):=by
 have hT:=TF (oL c n d) (by simp [oL];omega)
 have gB:(emap aI (oL c n d)).length=c.length:=by simp [oL,emap]
 have xN:(oL c n d)=(c.take c.length).map fun p=>J6 p.l n d:=by rw [List.take_length];rfl
 have htG:(oL c n d).take c.length=oL c n d:=List.take_of_length_le (by simp [oL])
 generalize vr (oL c n d)=r at *
 generalize hg:oL c n d=G at *
 refine cD [(0,aJ zq c),(1,R2 n d)] Tryz.func151 ?_
 refine aA [0,3] ?_
 refine aA [0,3,5] ?_
 refine W.nil 5 5 3 1 (by simp) (by decide) (fun K hK=>?_)
 refine W.lw [0,3,5] hK ?_;clear hK K;simp
 refine aQ [0,3,5,8,9] ?_
 refine W.block ?_
 refine W.bE (fun k σ=>∃(i ver v3 e3:Nat) (rows:Pm.Rows) (clk:Nat),σ=⟨fa [(0,aJ zq c),(3, .ptr 3 v3 0 0),(5, .own 5 ver 0 i),(8, .int .i64 c.length),(9, .int .i64 i)],rows,clk⟩∧i+k=c.length ∧
  rows 3=some ⟨v3,e3,4,[[aJ aI (aS DD n.natAbs), .bool (decide (n<0)),aJ aI (aS DD d.natAbs), .bool (decide (d<0))]]⟩∧rows 5=some ⟨ver,3,1,emap aI ((c.take i).map fun p=>J6 p.l n d)⟩) c.length ?_ ?_
 ·exact⟨_, .refl,0,_,_,_,_,_,rfl,by omega,by simp;first | exact⟨rfl,rfl⟩ | exact rfl,by simp [emap]⟩
 rintro k _ ⟨i,ver,v3,e3,rows,clk,rfl,zH,cH,dM⟩
 have tO:((c.take i).map fun p=>J6 p.l n d).length=i:=by simp;omega
 refine bU [0,3,5,8,9,10] ?_
 refine bJ ?_ ?_<;>intro h
 ·have hi:i<c.length:=by simp at h;omega
  have hSi:=hS _ (bN hi)
  have UI:=FJ (fun p:ZX=>J6 p.l n d) hi
  generalize hpr:(c.take i).map (fun p=>J6 p.l n d)=pr at *
  generalize hv:J6 (nth c i).l n d=v at *
  have mY:(emap aI pr).length=i:=by simp [emap,tO]
  refine lF ?_
  refine aA [0,3,5,6,8,9] ?_
  refine W.I2 (fun K hK=>?_)
  simp (disch:=omega) [gw,hi,cH,dM]
  refine aC hSi ?_
  simp (disch:=omega) [gw,dM,mY,BC]
  (try (refine bA (of_decide_eq_true (by kernel_rfl)) ?_));(try simp (maxSteps:=4000000) (disch:=omega) [gw,dM,mY,BC]);(repeat rw [if_pos (by kernel_rfl)]);(try simp (maxSteps:=4000000) (disch:=omega) [gw,dM,mY,BC])
  refine W.lw [0,3,5,8,9] hK ?_;clear hK K;simp
  refine W.b7 (fun K hK=>?_);simp (disch:=omega) [gw]
  refine hK _ ⟨k-1,_,aB _ [0,3,5,8,9],by omega,i+1,_,v3,e3,_,_,rfl,by omega,by simp [cH],by simp [BC,UI]⟩
 ·have hi:i=c.length:=by simp at h;omega
  subst hi
  rw [←xN]at dM
  refine fA ?_
  refine W.sr ?_
  simp (disch:=omega) [gw,dM,gB,htG]
  refine cN [4] hT ?_
  exact cC
theorem O0{c:List ZX}{n d m e:Int}(hn:sz 2 n≤YY)(hd:sz 2 d≤YY)(hm:sz 2 m≤YY)(he:sz 2 e≤YY)(hl:c.length<1000000)(h1:aE env.P 151 [aJ zq c,R2 n d] (.int .i64 (vr (oL c n d))))(h2:aE env.P 151 [aJ zq c,R2 m e] (.int .i64 (vr (oL c m e)))) :
  aE env.P 76 [aJ zq c,R2 n d,R2 m e] (.int .i64 (if m*d<n*e then 0 else(vr (oL c n d):Int)-vr (oL c m e))):=by
 have c1:=HA m e n d hm he hn hd
 have v1:=D1 (oL c n d)
 have v2:=D1 (oL c m e)
 have l1:(oL c n d).length=c.length:=by simp [oL]
 have l2:(oL c m e).length=c.length:=by simp [oL]
 generalize vr (oL c n d)=a at *
 generalize vr (oL c m e)=b at *
 have hc:(dI (m*d) (n*e)<0)↔m*d<n*e:=by
  unfold dI;split
  ·omega
  ·split<;>omega
 generalize m*d=xx at *
 generalize n*e=yy at *
 generalize dI xx yy=z at *
 refine cD [(0,aJ zq c),(1,R2 n d),(2,R2 m e)] Tryz.func76 ?_
 refine aA [0,4,5] ?_
 refine W.seq ?_
 refine aR [0,4,5,10] c1 ?_
 refine bJ ?_ ?_<;>intro h
 ·have h:z<0:=by simpa using h
  rw [if_pos (hc.1 h)]
  refine aA [6] ?_
  exact cC
 ·have h:¬z<0:=by simpa using h
  rw [if_neg (fun hh=>h (hc.2 hh))]
  refine W.skip ?_
  refine nU ?_
  refine cS h1 ?_
  refine cN [6] h2 ?_
  exact cC
theorem aik{n d:Int}(hn:Z n)(hd:Z d):aE env.P 23 [R2 n d] (T2 n d):=by
 have t1:=wL n hn
 have t2:=wL d hd
 refine cD [(0,R2 n d)] Tryz.func23 ?_
 refine aA [1,2] ?_
 refine nU ?_
 refine cS t1 ?_
 refine cS t2 ?_
 (try (refine bA (of_decide_eq_true (by kernel_rfl)) ?_));(try simp (maxSteps:=4000000) (disch:=omega) [gw]);(repeat rw [if_pos (by kernel_rfl)]);(try simp (maxSteps:=4000000) (disch:=omega) [gw])
 refine bH [2] ?_
 exact cC
abbrev CH(c:List ZX):PV:=.rd [aJ zp c]
theorem O1{l:List Int}(hs:∀s∈l,s = -1∨s=0∨s=1):∀i,i≤l.length→((l.take i).foldl u9 (0,0)).2 = -1∨((l.take i).foldl u9 (0,0)).2=0∨((l.take i).foldl u9 (0,0)).2=1
 | 0,_ => .inr (.inl (by simp))
 | i+1,h=>by
  rw [yJ (by omega)]
  have ih:=O1 hs i (by omega)
  have:=hs _ (bN (show i<l.length by omega))
  unfold u9
  split
  ·exact ih
  ·exact this
theorem vA(g:FuncId)(hw:I7 g=false)(caps:List PV)(hc:caps.all dA=true)(c:List ZX)(sg:ZX→Int)(hl:c.length<1000000)(hs:∀p∈c,sg p = -1∨sg p=0∨sg p=1)(hg:∀p∈c,aE env.P g (Po p.l::caps) (.int .i64 (sg p)))(hm:wF g=false:=by rfl) :
  aE env.P 219 [CH c, .fn g caps] (.int .i64 (vr (c.map sg))):=by
 have hv:vr (c.map sg)=(((c.map sg).take c.length).foldl u9 (0,0)).1:=by rw [List.take_of_length_le (by simp)];rfl
 rw [hv]
 have hb:∀i,(((c.map sg).take i).foldl u9 (0,0)).1≤i:=fun i=>by have:=TE ((c.map sg).take i) (0,0);simp at this;omega
 have iX:=fun i (h:i<(c.map sg).length)=>yJ h
 have S7:=O1 (l:=c.map sg) (fun s h=>by
  simp only [List.mem_map]at h
  obtain⟨p,hp,rfl⟩:=h
  exact hs p hp)
 have hln:(c.map sg).length=c.length:=by simp
 have yF:∀i,i<c.length→nth (c.map sg) i=sg (nth c i):=fun i hi=>by rw [bW (by simpa using hi),bW hi];simp
 refine cD [(0,CH c),(1, .fn g caps)] Tryz.func219 ?_
 refine aA [0,1] ?_
 refine aA [0,1,5,6] ?_
 refine aQ [1,5,6,13,14,15] ?_
 refine W.block ?_
 refine W.bE (fun k σ=>∃(i:Nat) (n:Nat) (s:Int) (rows:Pm.Rows) (clk:Nat),σ=⟨fa [(1, .fn g caps),(5, .int .i64 n),(6, .int .i64 s),(13,aJ zp c),(14, .int .i64 c.length),(15, .int .i64 i)],rows,clk⟩∧i+k=c.length∧((c.map sg).take i).foldl u9 (0,0)=(n,s)) c.length ?_ ?_
 ·exact⟨_, .refl,0,0,0,_,_,rfl,by omega,by simp⟩
 rintro k _ ⟨i,n,s,rows,clk,rfl,zH,hF⟩
 have hni:n≤i:=by have:=hb i;rw [hF]at this;exact this
 have hsv:=S7 i (by omega)
 rw [hF]at hsv
 simp only at hsv
 refine bU [1,5,6,13,14,15,16] ?_
 refine bJ ?_ ?_<;>intro h
 ·have hi:i<c.length:=by simp at h;omega
  have wH:=iX i (by omega)
  have hgi:=hg _ (bN hi)
  have hxv:=hs _ (bN hi)
  rw [hF,yF i hi]at wH
  generalize hx:sg (nth c i)=x at *
  refine W.skip ?_
  refine W.dO (fun σ=>∃(n':Nat) (s':Int) (rows:Pm.Rows) (clk:Nat),σ=⟨fa [(1, .fn g caps),(5, .int .i64 n'),(6, .int .i64 s'),(13,aJ zp c),(14, .int .i64 c.length),(15, .int .i64 i)],rows,clk⟩∧u9 (n,s) x=(n',s')) ?_ ?_
  ·refine W.sr ?_
   simp (disch:=omega) [gw,hi]
   refine bH [1,5,6,8,13,14,15] ?_
   refine W.sr ?_
   simp (disch:=omega) [gw, -I7,hw, -wF,hm,hc]
   refine cN [1,5,6,9,13,14,15] hgi ?_
   refine aQ [1,5,6,9,13,14,15,23] ?_
   refine bJ ?_ ?_<;>intro h
   ·have pM:x=0:=by simpa using h
    refine fA ?_
    exact⟨_,aB _ [1,5,6,13,14,15],n,s,_,_,rfl,by unfold u9;rw [if_pos pM]⟩
   ·have pM:x≠0:=by simpa using h
    refine W.skip ?_
    refine W.iB (fun σ=>∃(n':Nat) (rows:Pm.Rows) (clk:Nat),σ=⟨fa [(1, .fn g caps),(5, .int .i64 n'),(9, .int .i64 x),(13,aJ zp c),(14, .int .i64 c.length),(15, .int .i64 i)],rows,clk⟩∧u9 (n,s) x=(n',x)) ?_ ?_
    ·refine aA [1,5,9,13,14,15,27] ?_
     refine bJ ?_ ?_<;>intro h
     ·have h:s = -x:=by simpa using h
      refine W.b7 (fun K hK=>?_);simp (disch:=omega) [gw]
      exact hK _ ⟨_,aB _ [1,5,9,13,14,15],n+1,_,_,rfl,by unfold u9;rw [if_neg pM];simp only;rw [if_pos ⟨by omega,by omega⟩]⟩
     ·have h:¬s = -x:=by simpa using h
      refine W.skip ?_
      exact⟨_,aB _ [1,5,9,13,14,15],n,_,_,rfl,by unfold u9;rw [if_neg pM];simp only;rw [if_neg (fun hh=>by obtain⟨h1,h2⟩:=hh;omega)]⟩
    rintro _ ⟨n',rows,clk,rfl,AA⟩
    refine W.b7 (fun K hK=>?_);simp (disch:=omega) [gw]
    exact hK _ ⟨_,aB _ [1,5,6,13,14,15],n',x,_,_,rfl,AA⟩
  rintro _ ⟨n',s',rows,clk,rfl,AA⟩
  refine W.b7 (fun K hK=>?_);simp (disch:=omega) [gw]
  refine hK _ ⟨k-1,_,aB _ [1,5,6,13,14,15],by omega,i+1,n',s',_,_,rfl,by omega,by rw [wH,AA]⟩
 ·have hi:i=c.length:=by simp at h;omega
  subst hi
  refine fA ?_
  refine aA [4] ?_
  rw [hF]
  exact cC
theorem aen{s k u:Nat}{n d:Int}(hn:sz LL n≤u)(hd:sz LL d≤u)(hu:1≤u):∀ {x:List Int},Bd LL s k x→sz LL (hm n d x).1≤s+x.length*(u+1)∧sz LL (hm n d x).2≤x.length*u+1
 | [],_=>⟨by show sz LL 0≤_;rw [show sz LL 0=0 by decide];omega,by show sz LL 1≤_;exact Nat.le_trans (dY (k:=1) gF (by decide)) (by omega)⟩
 | a::l,h=>by
  obtain⟨h1,h2⟩:=aen hn hd hu (x:=l) ⟨Nat.le_trans (by simp) h.len,fun c hc=>h.sz c (by simp [hc])⟩
  have ha:=h.sz a (by simp)
  have e:(a::l).length*u=l.length*u+u:=by rw [List.length_cons,Nat.add_mul];omega
  have e':(a::l).length*(u+1)=l.length*u+l.length+u+1:=by rw [List.length_cons,Nat.add_mul,Nat.mul_add];omega
  have e'':l.length*(u+1)=l.length*u+l.length:=by rw [Nat.mul_add];omega
  refine⟨?_,?_⟩
  ·have g1:=cG (b:=LL) gF h1 hn
   have g2:=cG (b:=LL) gF ha h2
   have:=nJ (b:=LL) gF (Nat.le_trans g1 (Nat.le_max_left _ (s+(l.length*u+1)))) (Nat.le_trans g2 (Nat.le_max_right (s+l.length*(u+1)+u) _))
   refine Nat.le_trans this ?_
   rw [e',e'']
   omega
  ·have:=cG (b:=LL) gF h2 hd
   rw [e]
   exact Nat.le_trans this (by omega)
theorem aan{x:List Int}{n d:Int}{s k u:Nat}(hx:Bd LL s k x)(hn:sz LL n≤u)(hd:sz LL d≤u)(hu:1≤u)(hk:k<1099511627776)(hB:s+k*(u+1)+u<500000000000):aE env.P 167 [Po x,I n,I d] (I (hm n d x).1)∧Sz (hm n d x).1:=by
 have hl:=hx.len
 have hO:=C4 1 (by decide) (by decide)
 have bd:=fun i=>aen (s:=s) (k:=k) (x:=x.drop i) hn hd hu ⟨by simp;omega,fun c hc=>hx.sz c (List.mem_of_mem_drop hc)⟩
 have hle:∀i,(x.drop i).length*(u+1)≤k*(u+1):=fun i=>Nat.mul_le_mul_right _ (by simp;omega)
 have aee:∀i,(x.drop i).length*u≤(x.drop i).length*(u+1):=fun i=>Nat.mul_le_mul_left _ (by omega)
 have step:∀i,i<x.length→hm n d (x.drop i)=((hm n d (x.drop (i+1))).1*n+nth x i*(hm n d (x.drop (i+1))).2,(hm n d (x.drop (i+1))).2*d):=fun i hi=>by
  rw [List.drop_eq_getElem_cons hi,bW hi];rfl
 have aef:hm n d (x.drop x.length)=(0,1):=by rw [List.drop_length];rfl
 have h0:hm n d (x.drop 0)=hm n d x:=rfl
 have hz:Sz (hm n d x).1:=by have:=(bd 0).1;have:=hle 0;rw [h0]at *;show _<_;omega
 refine⟨?_,hz⟩
 have M:∀i,i<x.length→aE env.P 66 [I (hm n d (x.drop (i+1))).1,I n] (I ((hm n d (x.drop (i+1))).1*n))∧aE env.P 66 [I (nth x i),I (hm n d (x.drop (i+1))).2] (I (nth x i*(hm n d (x.drop (i+1))).2)) ∧
   aE env.P 65 [I ((hm n d (x.drop (i+1))).1*n),I (nth x i*(hm n d (x.drop (i+1))).2)] (I (hm n d (x.drop i)).1)∧aE env.P 66 [I (hm n d (x.drop (i+1))).2,I d] (I (hm n d (x.drop i)).2):=fun i hi=>by
  obtain⟨b1,b2⟩:=bd (i+1)
  have l1:=hle (i+1)
  have l2:=aee (i+1)
  have ha:=hx.sz _ (bN hi)
  have g1:=cG (b:=LL) gF b1 hn
  have g2:=cG (b:=LL) gF ha b2
  have zz:∀ {v:Int},sz LL v<1099511627776→Sz v:=fun h=>h
  have e:=step i hi
  rw [e]
  exact⟨wJ (zz (by omega)) (zz (by omega)),wJ (zz (by omega)) (zz (by omega)),VH (zz (by omega)) (zz (by omega)),wJ (zz (by omega)) (zz (by omega))⟩
 clear bd hle aee step hz
 generalize hm n d x=r0 at *
 refine cD [(0,Po x),(1,I n),(2,I d)] Tryz.func167 ?_
 refine aA [0,4,5,6] ?_
 refine aA [0,4,5,6,7] ?_
 refine aR [0,4,5,6,7,8] hO ?_
 refine aQ [0,4,5,6,7,8,9] ?_
 refine W.row (id:=7) (els:=[[.bool false, .nil]]) [[.bool (decide ((0:Int)<0)),us (aS LL (0:Int).natAbs)]] (by simp;first | exact⟨rfl,rfl,rfl⟩ | exact⟨rfl,rfl⟩ | rfl) ⟨⟨.inl rfl, .inr ⟨rfl,rfl⟩,trivial⟩,trivial⟩ ?_
 refine W.block ?_
 refine W.bE (fun k σ=>∃(v4 v5 v6 v7 v8 e4 e5 e6 e7 e8:Nat) (rows:Pm.Rows) (clk:Nat),σ=⟨fa [(0,Po x),(4, .ptr 4 v4 0 0),(5, .ptr 5 v5 0 0),(6, .ptr 6 v6 0 0),(7, .ptr 7 v7 0 0),(8, .ptr 8 v8 0 0),(9, .int .i64 ((k:Int)-1))],rows,clk⟩∧k≤x.length ∧
  rows 4=some ⟨v4,e4,2,[[.bool (decide (n<0)),us (aS LL n.natAbs)]]⟩∧rows 5=some ⟨v5,e5,2,[[.bool (decide (d<0)),us (aS LL d.natAbs)]]⟩∧rows 6=some ⟨v6,e6,2,[[.bool false, .nil]]⟩ ∧
  rows 7=some ⟨v7,e7,2,[[.bool (decide ((hm n d (x.drop k)).1<0)),us (aS LL (hm n d (x.drop k)).1.natAbs)]]⟩ ∧
  rows 8=some ⟨v8,e8,2,[[.bool (decide ((hm n d (x.drop k)).2<0)),us (aS LL (hm n d (x.drop k)).2.natAbs)]]⟩) x.length ?_ ?_
 ·exact⟨_, .refl,_,_,_,_,_,_,_,_,_,_,_,_,rfl,Nat.le_refl _,by simp;(first | exact⟨rfl,rfl⟩ | rfl),by simp;(first | exact⟨rfl,rfl⟩ | rfl),by simp;(first | exact⟨rfl,rfl⟩ | rfl),by rw [aef];simp;(first | exact⟨rfl,rfl⟩ | rfl),by rw [aef];simp;(first | exact⟨rfl,rfl⟩ | rfl)⟩
 rintro k _ ⟨v4,v5,v6,v7,v8,e4,e5,e6,e7,e8,rows,clk,rfl,hkl,c9,dM,l8,hr7,nP⟩
 refine aQ [0,4,5,6,7,8,9,15] ?_
 refine bJ ?_ ?_<;>intro h
 ·have xU:0<k:=by simp at h;omega
  obtain⟨k,rfl⟩:∃j,k=j+1:=⟨k-1,by omega⟩
  obtain⟨m1,m2,m3,m4⟩:=M k (by omega)
  generalize hm n d (x.drop (k+1))=A at *
  have e1:(((k+1:Nat):Int)-1).toNat=k:=by omega
  refine lF ?_
  refine W.sd ?_
  simp (disch:=omega) [gw,c9,hr7]
  refine aC m1 ?_
  simp (disch:=omega) [gw,nP]
  refine cS m2 ?_
  refine aC m3 ?_
  simp (disch:=omega) [gw,hr7]
  (try (refine bA (of_decide_eq_true (by kernel_rfl)) ?_));(try simp (maxSteps:=4000000) (disch:=omega) [gw,hr7]);(repeat rw [if_pos (by kernel_rfl)]);(try simp (maxSteps:=4000000) (disch:=omega) [gw,hr7])
  refine bH [0,4,5,6,7,8,9] ?_
  refine W.b7 (fun K hK=>?_)
  simp (disch:=omega) [gw,nP,dM]
  refine aC m4 ?_
  simp (disch:=omega) [gw,nP]
  refine W.lw [0,4,5,6,7,8,9] hK ?_;clear hK K;simp
  refine W.b7 (fun K hK=>?_);simp (disch:=omega) [gw]
  refine hK _ ⟨k,_,aB _ [0,4,5,6,7,8,9],by omega,v4,v5,v6,v7,v8,_,_,_,_,_,_,_,rfl,by omega,by simp [c9];exact rfl,by simp [dM];exact rfl,by simp [l8];exact rfl,by simp;exact rfl,by simp;exact rfl⟩
 ·have xU:k=0:=by simp at h;omega
  subst xU
  rw [h0]at hr7
  refine fA ?_
  refine W.sr ?_
  simp (disch:=omega) [gw,hr7,l8]
  refine bH [6] ?_
  exact cC
theorem s5(v:Int):dI v 0=v.sign:=by
 rcases Int.lt_trichotomy v 0 with h | h | h
 ·rw [Int.sign_eq_neg_one_of_neg h,l5 h]
 ·subst h;decide
 ·rw [Int.sign_eq_one_of_pos h,l6 h]
theorem HG{x:List Int}{n d:Int}{s k u:Nat}(hx:Bd LL s k x)(cx:Cn x)(hn:sz LL n≤u)(hd:sz LL d≤u)(hu:1≤u)(hk:k<1099511627774)(hu2:u<500000000000)(hB:s+k*(u+1)+u<500000000000){q:Rat}(hq:dR n d=q)(sq:sz LL q.num≤u∧sz LL (q.den:Int)≤u):aE env.P 87 [Po x,T2 n d] (.int .i64 (J6 x q.num q.den)):=by
 have p1:=aak (n:=n) (d:=d) (Nat.lt_of_le_of_lt hn (by omega)) (Nat.lt_of_le_of_lt hd (by omega))
 rw [hq]at p1
 have n1:=eQ (x:=x) (PB.of hx (by omega) (by omega))
 rw [show aO x=x from cx]at n1
 obtain⟨hV,hz⟩:=aan hx sq.1 sq.2 hu (by omega) hB
 have c1:=VI (x:=(hm q.num q.den x).1) (y:=0) hz (show sz LL 0<_ by decide)
 rw [s5,show(hm q.num q.den x).1.sign=J6 x q.num q.den from rfl]at c1
 replace p1:aE env.P 166 [T2 n d] (T2 q.num q.den):=p1
 generalize J6 x q.num q.den=r at *
 generalize (hm q.num q.den x).1=v at *
 generalize q.num=qn at *
 generalize (q.den:Int)=qd at *
 refine cD [(0,Po x),(1,T2 n d)] Tryz.func87 ?_
 refine aA [0,3] ?_
 refine aR [0,3] p1 ?_
 refine nU ?_
 refine cS n1 ?_
 refine cS hV ?_
 refine cN [4] c1 ?_
 exact cC
@[simp] theorem agA{l:List PV}:dA (.rd l)=true:=rfl
@[simp] theorem acA{l:List PV}:bI (.rd l)=true:=rfl
@[simp] theorem agB{l:List PV}:aU (.rd l) = []:=rfl
@[simp] theorem axq{l:List PV}:dV (.rd l) = []:=rfl
@[simp] theorem aDu{rows:Pm.Rows}{l:List PV}:fz rows (.rd l) = .rd l:=rfl
@[simp] theorem aDv{rows:Pm.Rows}{l:List PV}:pz rows (.rd l) = .rd l:=rfl
theorem aao(v:Int):aE env.P 258 [I v] (.int .i64 v.sign):=by
 have h1:=adw (decide (v<0)) (aS LL v.natAbs)
 have e:(if (aS LL v.natAbs).length=0 then 0 else if decide (v<0)=true then -1 else 1:Int)=v.sign:=by
  by_cases h:v=0
  ·subst h;decide
  ·have:aS LL v.natAbs ≠ []:=fun h2=>h (by have:=kP gF v.natAbs;rw [h2]at this;simp [V]at this;omega)
   have h3:=List.length_pos_iff.2 this
   rw [if_neg (by omega)]
   rcases Int.lt_trichotomy v 0 with h4 | h4 | h4
   ·rw [if_pos (by simpa using h4),Int.sign_eq_neg_one_of_neg h4]
   ·exact absurd h4 h
   ·rw [if_neg (by simp;omega),Int.sign_eq_one_of_pos h4]
 rw [e]at h1;exact h1
theorem HH{x:List Int}(hx:PB x)(cx:Cn x):aE env.P 221 [Po x] (.dU [.int .i64 (eL x), .int .i64 (eR x)]):=by
 have n1:=eQ hx
 rw [show aO x=x from cx]at n1
 have l1:=lP hx cx
 have hS:=aao (lead x)
 have hl:x.length<1099511627776:=by have:=hx.DB.len;simpa using this
 have hL:eL x=if x.length%2=0 then -(lead x).sign else(lead x).sign:=rfl
 have hR:eR x=(lead x).sign:=rfl
 have hs : -1≤(lead x).sign∧(lead x).sign≤1:=by
  rcases Int.lt_trichotomy (lead x) 0 with h | h | h
  ·rw [Int.sign_eq_neg_one_of_neg h];decide
  ·rw [h];decide
  ·rw [Int.sign_eq_one_of_pos h];decide
 generalize (lead x).sign=s at *
 generalize lead x=lx at *
 generalize eL x=a at *
 generalize eR x=b at *
 refine cD [(0,Po x)] Tryz.func221 ?_
 refine aA [0] ?_
 refine aR [0] n1 ?_
 refine jC ?_
 refine cS l1 ?_
 refine cN [0,3] hS ?_
 refine W.seq ?_
 refine W.eJ (fun σ=>∃(q:Bool) (rows:Pm.Rows) (clk:Nat),σ=⟨fa [(3, .int .i64 s),(12, .bool q)],rows,clk⟩∧q=decide (x.length%2=0)) (fun K hK=>?_) ?_
 ·simp (disch:=omega) [gw]
  exact hK _ _ (aB _ [3,12]) ⟨_,_,_,rfl,by rw [Bool.eq_iff_iff];simp;omega⟩
 rintro _ ⟨q,rows,clk,rfl,rfl⟩
 refine bJ ?_ ?_<;>intro h
 ·rw [if_pos (of_decide_eq_true h)]at hL
  subst hL hR
  refine aA [2,3] ?_
  exact cC
 ·rw [if_neg (of_decide_eq_false h)]at hL
  subst hL hR
  refine W.skip ?_
  refine aA [2,3] ?_
  exact cC
theorem TG{x:List Int}(hx:PB x)(cx:Cn x):aE env.P 220 [Po x] (.int .i64 (eL x)):=by
 have h1:=HH hx cx
 generalize eL x=a at *
 generalize eR x=b at *
 refine cD [(0,Po x)] Tryz.func220 ?_
 refine aA [0] ?_
 refine aR [3] h1 ?_
 refine aA [2] ?_
 exact cC
theorem aap{x:List Int}(hx:PB x)(cx:Cn x):aE env.P 222 [Po x] (.int .i64 (eR x)):=by
 have h1:=HH hx cx
 generalize eL x=a at *
 generalize eR x=b at *
 refine cD [(0,Po x)] Tryz.func222 ?_
 refine aA [0] ?_
 refine aR [4] h1 ?_
 refine aA [2] ?_
 exact cC
theorem aoz(v:Int):v.sign = -1∨v.sign=0∨v.sign=1:=by
 rcases Int.lt_trichotomy v 0 with h | h | h
 ·exact .inl (Int.sign_eq_neg_one_of_neg h)
 ·rw [h];exact .inr (.inl rfl)
 ·exact .inr (.inr (Int.sign_eq_one_of_pos h))
theorem eL3(x:List Int):eL x = -1∨eL x=0∨eL x=1:=by
 have:=aoz (lead x)
 unfold eL;split<;>omega
theorem TH{c:List ZX}(hl:c.length<1000000){n d:Int}{q:Rat}(hS:∀p∈c,aE env.P 87 [Po p.l,T2 n d] (.int .i64 (J6 p.l q.num q.den))):aE env.P 168 [CH c,T2 n d] (.int .i64 (vr (oL c q.num q.den))):=by
 have hT1:∀p∈c,aE env.P 232 [Po p.l, .rd [.bool (decide (n<0)),us (aS LL n.natAbs), .bool (decide (d<0)),us (aS LL d.natAbs)]] (.int .i64 (J6 p.l q.num q.den)):=fun p hp=>by
  have h1:=hS p hp
  generalize J6 p.l q.num q.den=r at *
  generalize p.l=x at *
  refine cD [(0,Po x),(1, .rd [.bool (decide (n<0)),us (aS LL n.natAbs), .bool (decide (d<0)),us (aS LL d.natAbs)])] Tryz.func232 ?_
  refine aA [0,1] ?_
  refine aR [3] h1 ?_
  exact cC
 have h1:=vA 232 rfl [.rd [.bool (decide (n<0)),us (aS LL n.natAbs), .bool (decide (d<0)),us (aS LL d.natAbs)]] rfl c (fun p=>J6 p.l q.num q.den) hl (fun p hp=>aoz _) hT1
 rw [show c.map (fun p=>J6 p.l q.num q.den)=oL c q.num q.den from rfl]at h1
 generalize vr (oL c q.num q.den)=r at *
 refine cD [(0,CH c),(1,T2 n d)] Tryz.func168 ?_
 refine aA [0,3] ?_
 refine aR [4] h1 ?_
 exact cC
theorem KA{c:List ZX}(hl:c.length<1000000){n d m e:Int}{p q:Rat}{z:Int}(hz:aE env.P 86 [T2 m e,T2 n d] (.int .i64 z))(h1:aE env.P 168 [CH c,T2 n d] (.int .i64 (vr (oL c p.num p.den))))(h2:aE env.P 168 [CH c,T2 m e] (.int .i64 (vr (oL c q.num q.den)))) :
  aE env.P 88 [CH c,T2 n d,T2 m e] (.int .i64 (if z<0 then 0 else(vr (oL c p.num p.den):Int)-vr (oL c q.num q.den))):=by
 have v1:=D1 (oL c p.num p.den)
 have v2:=D1 (oL c q.num q.den)
 have l1:(oL c p.num p.den).length=c.length:=by simp [oL]
 have l2:(oL c q.num q.den).length=c.length:=by simp [oL]
 generalize vr (oL c p.num p.den)=a at *
 generalize vr (oL c q.num q.den)=b at *
 refine cD [(0,CH c),(1,T2 n d),(2,T2 m e)] Tryz.func88 ?_
 refine aA [0,4,5] ?_
 refine W.seq ?_
 refine aR [0,4,5,10] hz ?_
 refine bJ ?_ ?_<;>intro h
 ·have h:z<0:=by simpa using h
  rw [if_pos h]
  refine aA [6] ?_
  exact cC
 ·have h:¬z<0:=by simpa using h
  rw [if_neg h]
  refine W.skip ?_
  refine nU ?_
  refine cS h1 ?_
  refine cN [6] h2 ?_
  exact cC
section
variable {c:List ZX} (hl:c.length<1000000) (hb:∀p∈c,PB p.l)
include hl hb
theorem aaq:aE env.P 149 [CH c] (.int .i64 (vr (sgL c))):=by
 have h1:=vA 220 rfl [] rfl c (fun p=>eL p.l) hl (fun p hp=>eL3 p.l) (fun p hp=>TG (hb p hp) p.c)
 rw [show c.map (fun p=>eL p.l)=sgL c from rfl]at h1
 generalize vr (sgL c)=r at *
 refine cD [(0,CH c)] Tryz.func149 ?_
 refine aA [0] ?_
 refine aR [2] h1 ?_
 exact cC
theorem aeo:aE env.P 150 [CH c] (.int .i64 (vr (sgR c))):=by
 have h1:=vA 222 rfl [] rfl c (fun p=>eR p.l) hl (fun p hp=>aoz _) (fun p hp=>aap (hb p hp) p.c)
 rw [show c.map (fun p=>eR p.l)=sgR c from rfl]at h1
 generalize vr (sgR c)=r at *
 refine cD [(0,CH c)] Tryz.func150 ?_
 refine aA [0] ?_
 refine aR [2] h1 ?_
 exact cC
theorem TJ:aE env.P 74 [CH c] (.int .i64 ((vr (sgL c):Int)-vr (sgR c))):=by
 have h1:=aaq hl hb
 have h2:=aeo hl hb
 have v1:=D1 (sgL c)
 have v2:=D1 (sgR c)
 have l1:(sgL c).length=c.length:=by simp [sgL]
 have l2:(sgR c).length=c.length:=by simp [sgR]
 generalize vr (sgL c)=a at *
 generalize vr (sgR c)=b at *
 refine cD [(0,CH c)] Tryz.func74 ?_
 refine aA [0] ?_
 refine jC ?_
 refine cS h1 ?_
 refine cN [2] h2 ?_
 exact cC
end
theorem D2{a:ZX}(ha:a≠0):Nf (sq a)∧dv (sq a) (nf a):=by
 have nA:=jG ha
 unfold sq
 split
 ·exact⟨nA,dv.refl _⟩
 ·exact⟨(gH nA 0).1,A4 nA 0⟩
theorem rG.sqb{s n:Nat}{a:ZX}(h:rG s n a)(ha:a≠0):BZ (qb s n) n (sq a):=h.nfz.dv (jG ha) (D2 ha).1 (D2 ha).2
theorem rG.ch{s n:Nat}{a:ZX}(h:rG s n a)(ha:a≠0)(A5:1≤n):Ch (qb s n) n (sq a):=⟨h.sqb ha,h.hn,A5,Nat.le_trans (Nat.mul_le_mul_right _ (by omega)) h.hC⟩
theorem D3{s n:Nat}{a:ZX}(h:rG s n a)(ha:a≠0)(A5:1≤n)(h1:1≤s):aE env.P 81 [PI a.l] (aJ zq (bK (sq a))):=
 zY (wX h h1) (h.ch ha A5) (by unfold qb;omega)
abbrev AP(x:List Int)(c:List ZX)(n d:Int):PV:=.ag [PI x,aJ zq c,aJ aI (aS DD n.natAbs), .bool (decide (n<0)),aJ aI (aS DD d.natAbs), .bool (decide (d<0)),aJ aI (aS DD n.natAbs), .bool (decide (n<0)),aJ aI (aS DD d.natAbs), .bool (decide (d<0))]
theorem iP{v:Int}{k:Nat}(h:v.natAbs<2^k):sz 2 v≤k:=dY (by decide) h
theorem FK{n d:Int}(hn:n.natAbs<65536)(hd:d.natAbs<65536)(h0:d≠0){x:ZX}(hx:x.l = [-n,d]):aE env.P 41 [R2 n d] (AP [-n,d] (bK (sq x)) n d):=by
 have bz:BZ 16 2 x:=⟨by rw [hx];simp,fun c hc=>by
  rw [hx]at hc
  simp only [List.mem_cons,List.not_mem_nil,or_false]at hc
  rcases hc with rfl | rfl
  ·exact iP (by rw [Int.natAbs_neg];exact hn)
  ·exact iP hd⟩
 have hL:rG 16 2 x:=⟨bz,by decide,by decide,by decide⟩
 have hc:=D3 hL (ZX.aF.2 (by show 0<x.l.length;rw [hx];simp)) (by decide) (by decide)
 rw [hx]at hc
 generalize bK (sq x)=C at *
 have zs:∀ {v:Int},v.natAbs<65536→sz 2 v≤16:=fun h=>iP h
 have hO:=oD 1 (by decide) (by decide)
 have m1:=kT n 1 (by have:=zs hn;simp only [Y];omega) (by decide)
 have m2:=kT d 1 (by have:=zs hd;simp only [Y];omega) (by decide)
 have hng:=NH (n:Rat)
 rw [l7]at m1 m2
 rw [show -((n:Int):Rat)=((-n:Int):Rat)by simp]at hng
 rw [show RR ((n:Int):Rat) = .ag (ri n)from congrArg PV.ag (iM n)]at m1 hng
 rw [show RR ((d:Int):Rat) = .ag (ri d)from congrArg PV.ag (iM d)]at m2
 rw [show RR ((-n:Int):Rat) = .ag (ri (-n))from congrArg PV.ag (iM (-n))]at hng
 have e1:PI [-n,d] = .sl [ri (-n),ri d]:=rfl
 rw [e1]at hc
 unfold AP
 rw [e1]
 clear e1 hL bz hx x
 generalize -n=m at *
 simp only [anP,aib]at *
 refine cD [(0,R2 n d)] Tryz.func41 ?_
 refine aA [1,2] ?_
 refine W.sd ?_
 simp (maxSteps:=4000000) (disch:=omega) [gw]
 refine aC hO ?_
 simp (maxSteps:=4000000) (disch:=omega) [gw]
 refine aC m1 ?_
 simp (maxSteps:=4000000) (disch:=omega) [gw]
 refine aC hng ?_
 simp (maxSteps:=4000000) (disch:=omega) [gw]
 refine aC hO ?_
 simp (maxSteps:=4000000) (disch:=omega) [gw]
 refine aC m2 ?_
 simp (maxSteps:=4000000) (disch:=omega) [gw]
 refine bH [1,2,3] ?_
 refine W.sd ?_
 simp (maxSteps:=4000000) (disch:=omega) [gw]
 refine aC hc ?_
 simp (maxSteps:=4000000) (disch:=omega) [gw]
 try (refine bA (by kernel_rfl) ?_)
 try simp (maxSteps:=4000000) (disch:=omega) [gw]
 refine bH [2] ?_
 exact cC
def sml(n d:Int):Rat:=dR (n%61-30) (1+d%6)
theorem HI(n d:Int)(hn : -9223372036854775808≤n∧n<9223372036854775808)(hd : -9223372036854775808≤d∧d<9223372036854775808):aE env.P 25 [.int .i64 n, .int .i64 d] (RR (sml n d)):=by
 have w1:=qJ n 61 hn (by decide) (by decide)
 have w2:=qJ d 6 hd (by decide) (by decide)
 have h1:=Int.emod_nonneg n (show (61:Int)≠0 by decide)
 have h2:=Int.emod_lt_of_pos n (show (0:Int)<61 by decide)
 have h3:=Int.emod_nonneg d (show (6:Int)≠0 by decide)
 have h4:=Int.emod_lt_of_pos d (show (0:Int)<6 by decide)
 have o1:=oE (n%61-30) (1+d%6) (by omega) (by omega)
 have e:dR (n%61-30) (1+d%6)=sml n d:=rfl
 rw [e]at o1
 generalize sml n d=q at *
 generalize n%61=a at *
 generalize d%6=b at *
 rw [gC]at *
 generalize q.num=qn at *
 generalize (q.den:Int)=qd at *
 refine cD [(0, .int .i64 n),(1, .int .i64 d)] Tryz.func25 ?_
 refine aA [0,1,4] ?_
 refine jC ?_
 refine cS w1 ?_
 refine cS w2 ?_
 refine cN [4] o1 ?_
 exact cC
end Go.Proofs.YtiobceocpabjdaaGreat
