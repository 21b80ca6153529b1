import Derived.Test.YtiobceocpabjdaaGreatKal
import Derived.Test.YtiobceocpabjdaaGreatKam
import Derived.Test.YtiobceocpabjdaaGreatKan
set_option linter.unusedSimpArgs false
set_option linter.unusedVariables false
namespace Pm
def qv(t:Rat):List Int→Rat
 | []=>0
 | a::l=>(a:Rat)+t*qv t l
section
variable {t:Rat}
theorem rW{α:Type}(f g:α→Int):∀l:List α,qv t (l.map fun k=>f k+g k)=qv t (l.map f)+qv t (l.map g)
 | []=>by simp only [List.map_nil,qv];grind
 | x::l=>by simp only [List.map_cons,qv,rW f g l,Rat.intCast_add];grind
theorem zU{α:Type}(c:Int)(f:α→Int):∀l:List α,qv t (l.map fun k=>f k*c)=qv t (l.map f)*c
 | []=>by simp only [List.map_nil,qv];grind
 | x::l=>by simp only [List.map_cons,qv,zU c f l,Rat.intCast_mul];grind
theorem mA:∀(a:List Int) (n:Nat),qv t (a++List.replicate n 0)=qv t a
 | [],0=>rfl
 | [],n+1=>by
  have:=mA [] n
  simp only [List.nil_append]at this
  simp only [List.nil_append,List.replicate_succ,qv,this,Rat.intCast_zero];grind
 | x::a,n=>by simp only [List.cons_append,qv,mA a n]
theorem tM:∀l:List Int,qv t (aM l)=qv t l
 | []=>rfl
 | x::l=>by
  have ih:=tM l
  simp only [aM]
  split
  ·rename_i h
   rw [h.1]at ih
   simp only [qv]at ih ⊢
   rw [←ih,h.2,Rat.intCast_zero];grind
  ·simp only [qv,ih]
theorem kJ{x:List Int}{n:Nat}(h:x.length≤n):qv t ((List.range n).map (nth x))=qv t x:=by
 rw [mJ h,mA]
theorem P5(x y:List Int):qv t (gB x y)=qv t x+qv t y:=by
 rw [gB,tM,rW,kJ (by omega),kJ (by omega)]
theorem adb(x y:List Int):qv t (eE x y)=qv t x-qv t y:=by
 rw [eE,tM]
 have h1:=rW (t:=t) (fun k=>nth x k-nth y k) (nth y) (List.range (max x.length y.length))
 have h2:(fun k=>nth x k-nth y k+nth y k)=nth x:=by funext k;omega
 rw [h2,kJ (by omega),kJ (by omega)]at h1
 grind
theorem JB:∀x y:List Int,qv t (eZ x y)=qv t x*qv t y
 | [],y=>by simp only [eZ,qv];grind
 | a::x,y=>by
  have:=zU (t:=t) a id y
  simp only [id_eq,List.map_id_fun]at this
  rw [eZ,P5,this]
  simp only [qv,JB x y,Rat.intCast_zero]
  grind
theorem ade(x y:List Int):qv t (bJ x y)=qv t x*qv t y:=by rw [bJ,tM,JB]
end
namespace ZX
section
variable {t:Rat}
def e(t:Rat)(x:ZX):Rat:=qv t x.l
theorem afv(x y:ZX):e t (x+y)=e t x+e t y:=P5 _ _
theorem mS(x y:ZX):e t (x*y)=e t x*e t y:=ade _ _
theorem aph(x y:ZX):e t (x-y)=e t x-e t y:=adb _ _
theorem aiY(x:List Int):e t (of x)=qv t x:=tM x
theorem UI(c:Int):e t (K c)=c:=by
 rw [K,aiY]
 simp only [qv];grind
end
end ZX
def Ab(x M:Rat):Prop := -M≤x∧x≤M
def j5(e x:Rat):Prop:=x ≤ -e∨e≤x
theorem Ab.mono{x M N:Rat}(h:Ab x M)(hMN:M≤N):Ab x N:=by
 obtain⟨h1,h2⟩:=h
 exact⟨by grind,by grind⟩
theorem Ab.add{x y M N:Rat}(h:Ab x M)(h':Ab y N):Ab (x+y) (M+N):=by
 obtain⟨h1,h2⟩:=h
 obtain⟨h3,h4⟩:=h'
 exact⟨by grind,by grind⟩
theorem Ab.mul{x y M N:Rat}(h:Ab x M)(h':Ab y N):Ab (x*y) (M*N):=by
 obtain⟨h1,h2⟩:=h
 obtain⟨h3,h4⟩:=h'
 have p1:=Rat.mul_nonneg (show 0≤M-x by grind) (show 0≤N-y by grind)
 have p2:=Rat.mul_nonneg (show 0≤M+x by grind) (show 0≤N+y by grind)
 have p3:=Rat.mul_nonneg (show 0≤M-x by grind) (show 0≤N+y by grind)
 have p4:=Rat.mul_nonneg (show 0≤M+x by grind) (show 0≤N-y by grind)
 exact⟨by grind,by grind⟩
theorem j5.mono{x e f:Rat}(h:j5 e x)(hf:f≤e):j5 f x:=by
 rcases h with h | h
 ·left;grind
 ·right;grind
theorem w7{x e:Rat}(h:¬j5 e x) : -e<x∧x<e:=by
 constructor
 ·exact Rat.not_le.1 fun h1=>h (.inl h1)
 ·exact Rat.not_le.1 fun h1=>h (.inr h1)
theorem BA{x e:Rat}(h:¬j5 e x):Ab x e:=by
 obtain⟨h1,h2⟩:=w7 h
 exact⟨Rat.le_of_lt h1,Rat.le_of_lt h2⟩
def cZ(x:Rat):Int:=if x<0 then -1 else if 0<x then 1 else 0
theorem gK{x:Rat}(h:x<0):cZ x = -1:=if_pos h
theorem eI{x:Rat}(h:0<x):cZ x=1:=by
 rw [cZ,if_neg (by grind),if_pos h]
theorem mT:cZ 0=0:=by decide
theorem dB(x:Rat):(x<0∧cZ x = -1)∨(x=0∧cZ x=0)∨(0<x∧cZ x=1):=by
 by_cases h:x<0
 ·exact .inl ⟨h,gK h⟩
 ·by_cases h2:0<x
  ·exact .inr (.inr ⟨h2,eI h2⟩)
  ·have:x=0:=by grind
   subst this
   exact .inr (.inl ⟨rfl,mT⟩)
theorem qA(x:Rat):cZ x = -1∨cZ x=0∨cZ x=1:=by
 rcases dB x with h | h | h
 ·exact .inl h.2
 ·exact .inr (.inl h.2)
 ·exact .inr (.inr h.2)
theorem MW{x:Rat}:cZ x = -1↔x<0:=by
 rcases dB x with ⟨h,e⟩ | ⟨h,e⟩ | ⟨h,e⟩<;>rw [e]<;>constructor<;>intro h2<;>first | omega | grind
theorem MX{x:Rat}:cZ x=1↔0<x:=by
 rcases dB x with ⟨h,e⟩ | ⟨h,e⟩ | ⟨h,e⟩<;>rw [e]<;>constructor<;>intro h2<;>first | omega | grind
theorem iU{x:Rat}:cZ x=0↔x=0:=by
 rcases dB x with ⟨h,e⟩ | ⟨h,e⟩ | ⟨h,e⟩<;>rw [e]<;>constructor<;>intro h2<;>first | omega | grind
theorem w8(x y:Rat):cZ (x*y)=cZ x*cZ y:=by
 rcases dB x with ⟨h,e⟩ | ⟨h,e⟩ | ⟨h,e⟩<;>rcases dB y with ⟨h',e'⟩ | ⟨h',e'⟩ | ⟨h',e'⟩<;>rw [e,e']
 ·have:=Rat.mul_pos (show 0 < -x by grind) (show 0 < -y by grind)
  rw [eI (by grind)];rfl
 ·rw [h',Rat.mul_zero];rfl
 ·have:=Rat.mul_pos (show 0 < -x by grind) h'
  rw [gK (by grind)];rfl
 ·rw [h,Rat.zero_mul];rfl
 ·rw [h,Rat.zero_mul];rfl
 ·rw [h,Rat.zero_mul];rfl
 ·have:=Rat.mul_pos h (show 0 < -y by grind)
  rw [gK (by grind)];rfl
 ·rw [h',Rat.mul_zero];rfl
 ·rw [eI (Rat.mul_pos h h')];rfl
theorem fL{x y e:Rat}(h:j5 e x)(he:0<e)(vC:¬j5 e (y-x)):cZ y=cZ x∧cZ x≠0:=by
 obtain⟨h1,h2⟩:=w7 vC
 rcases h with h | h
 ·rw [gK (show x<0 by grind),gK (show y<0 by grind)];decide
 ·rw [eI (show 0<x by grind),eI (show 0<y by grind)];decide
def dd(s t:Rat):List Int→Rat
 | []=>0
 | _::l=>qv t l+s*dd s t l
def cc(s t:Rat):List Int→Rat
 | []=>0
 | _::l=>dd s t l+s*cc s t l
theorem mB(s t:Rat):∀x:List Int,qv t x-qv s x=(t-s)*dd s t x
 | []=>by simp only [qv,dd];grind
 | a::l=>by
  have:=mB s t l
  simp only [qv,dd];grind
theorem MY(s t:Rat):∀x:List Int,dd s t x-dd s s x=(t-s)*cc s t x
 | []=>by simp only [dd,cc];grind
 | a::l=>by
  have:=MY s t l
  have:=mB s t l
  simp only [dd,cc];grind
section
variable {S B s t:Rat} (hS:0≤S) (hB:1≤B) (hs:Ab s B) (ht:Ab t B)
def AH(S B:Rat):Nat→Rat
 | 0=>S
 | k+1=>AH S B k*(4*B)
include hS hB in
theorem lS:∀k,0≤AH S B k∧S≤AH S B k
 | 0=>⟨hS,Rat.le_refl⟩
 | k+1=>by
  obtain⟨h1,h2⟩:=lS k
  have h3:=Rat.mul_le_mul_of_nonneg_left (show (1:Rat)≤4*B by grind) h1
  rw [AH]
  exact⟨by grind,by grind⟩
include hS hB ht in
theorem JC:∀x:List Int,(∀c∈x,Ab (c:Rat) S)→Ab (qv t x) (AH S B x.length)
 | [],_=>by
  show Ab 0 S
  exact⟨by grind,hS⟩
 | a::l,h=>by
  have h1:=JC l fun c hc=>h c (List.mem_cons_of_mem _ hc)
  have h2:=(h a (List.mem_cons_self ..)).add (ht.mul h1)
  obtain⟨h3,h4⟩:=lS hS hB l.length
  have h5:=Rat.mul_le_mul_of_nonneg_left hB h3
  refine h2.mono ?_
  rw [List.length_cons,AH]
  grind
include hS hB hs ht in
theorem CV:∀x:List Int,(∀c∈x,Ab (c:Rat) S)→Ab (dd s t x) (AH S B x.length)
 | [],_=>by
  show Ab 0 S
  exact⟨by grind,hS⟩
 | a::l,h=>by
  have h1:=CV l fun c hc=>h c (List.mem_cons_of_mem _ hc)
  have h0:=JC hS hB ht l fun c hc=>h c (List.mem_cons_of_mem _ hc)
  have h2:=h0.add (hs.mul h1)
  obtain⟨h3,h4⟩:=lS hS hB l.length
  have h5:=Rat.mul_le_mul_of_nonneg_left hB h3
  refine h2.mono ?_
  rw [List.length_cons,AH]
  grind
include hS hB hs ht in
theorem ZV:∀x:List Int,(∀c∈x,Ab (c:Rat) S)→Ab (cc s t x) (AH S B x.length)
 | [],_=>by
  show Ab 0 S
  exact⟨by grind,hS⟩
 | a::l,h=>by
  have h1:=ZV l fun c hc=>h c (List.mem_cons_of_mem _ hc)
  have h0:=CV hS hB hs ht l fun c hc=>h c (List.mem_cons_of_mem _ hc)
  have h2:=h0.add (hs.mul h1)
  obtain⟨h3,h4⟩:=lS hS hB l.length
  have h5:=Rat.mul_le_mul_of_nonneg_left hB h3
  refine h2.mono ?_
  rw [List.length_cons,AH]
  grind
end
theorem tN(t:Rat):∀(l:List Int) (k:Nat),qv t (ZX.n7 (k+1) l)=qv t (ZX.n7 k l)+qv t l
 | [],k=>by simp only [ZX.n7,qv];grind
 | a::l,k=>by
  simp only [ZX.n7,qv]
  rw [tN t l (k+1)]
  have:((k+1:Nat):Int)=(k:Int)+1:=by omega
  rw [this,Rat.intCast_mul,Rat.intCast_mul,Rat.intCast_add,Rat.intCast_one];grind
theorem wC(t:Rat):∀l:List Int,qv t (ZX.n7 1 l)=qv t l+t*dd t t l
 | []=>by simp only [ZX.n7,qv,dd];grind
 | b::m=>by
  rw [ZX.n7]
  simp only [qv,dd]
  rw [tN,wC t m]
  rw [show((1:Nat):Int)=1 from rfl,Int.mul_one]
  grind
theorem afw(t:Rat)(x:ZX):(ZX.b6 x).e t=dd t t x.l:=by
 rw [ZX.b6,ZX.aiY]
 obtain⟨l,hl⟩:=x
 show qv t (ZX.uO l)=dd t t l
 match l with
 | []=>rfl
 | a::l=>rw [ZX.CR,wC];rfl
end Pm
namespace Pm
def BB(p:Int):List Int→Nat
 | []=>0
 | s::l=>if s=0 then BB p l else(if p≠0∧s≠p then 1 else 0)+BB s l
def cl:List Int→List Int→Prop
 | [],[]=>True
 | [x],[y]=>x=y∧x≠0
 | [_,x],[_,y]=>x=y∧x≠0
 | x0::x1::x2::x,y0::y1::y2::y=>cl (x1::x2::x) (y1::y2::y)∧((x1=y1∧x1≠0)∨(x0=y0∧x2=y2∧x0 = -x2∧x2≠0))
 | _,_=>False
theorem E6:∀(n:Nat) (p:Int) (x y:List Int),x.length≤n→p≠0→(p = -1∨p=1)→(∀s∈x,s = -1∨s=0∨s=1)→(∀s∈y,s = -1∨s=0∨s=1)→cl (p::x) (p::y)→BB p x=BB p y
 | _,p,[],[],_,_,_,_,_,_=>rfl
 | _,p,[x1],[y1],_,_,_,_,_,h=>by
  obtain⟨rfl,h2⟩:=h
  rfl
 | _,p,[],[y1],_,_,_,_,_,h=>by simp [cl]at h
 | _,p,[x1],[],_,_,_,_,_,h=>by simp [cl]at h
 | _,p,[],_::_::_,_,_,_,_,_,h=>by simp [cl]at h
 | _,p,_::_::_,[],_,_,_,_,_,h=>by simp [cl]at h
 | _,p,[_],_::_::_,_,_,_,_,_,h=>by simp [cl]at h
 | _,p,_::_::_,[_],_,_,_,_,_,h=>by simp [cl]at h
 | 0,p,x1::x2::x,y1::y2::y,hn,_,_,_,_,_=>by simp at hn
 | n+1,p,x1::x2::x,y1::y2::y,hn,hp,hp1,hx,hy,h=>by
  obtain⟨h1,h2⟩:=h
  rcases h2 with ⟨rfl,h2⟩ | ⟨_,rfl,h3,h4⟩
  ·have ih:=E6 n x1 (x2::x) (y2::y) (by simp at hn ⊢;omega) h2 (by have:=hx x1 (by simp);omega) (fun s hs=>hx s (List.mem_cons_of_mem _ hs)) (fun s hs=>hy s (List.mem_cons_of_mem _ hs)) h1
   simp only [BB]at ih ⊢
   rw [if_neg h2,if_neg h2,ih]
  ·have ht:BB x2 x=BB x2 y:=by
    refine E6 n x2 x y (by simp at hn ⊢;omega) h4 (by have:=hx x2 (by simp);omega) (fun s hs=>hx s (by simp [hs])) (fun s hs=>hy s (by simp [hs])) ?_
    match x,y,h1 with
    | [],[],_=>exact⟨rfl,h4⟩
    | [],_::_,h1=>simp [cl]at h1
    | _::_,[],h1=>simp [cl]at h1
    | _::_,_::_,h1=>exact h1.1
   have key:∀z:Int,(z = -1∨z=0∨z=1) → ∀w:List Int,BB p (z::x2::w)=1+BB x2 w:=fun z hz w=>by
    simp only [BB]
    rcases hz with rfl | rfl | rfl
    ·rw [if_neg (by decide),if_neg h4]
     rcases hp1 with rfl | rfl
     ·rw [if_neg (by omega),if_pos (by omega)];omega
     ·rw [if_pos (by omega),if_neg (by omega)];omega
    ·rw [if_pos rfl,if_neg h4,if_pos (by omega)]
    ·rw [if_neg (by decide),if_neg h4]
     rcases hp1 with rfl | rfl
     ·rw [if_pos (by omega),if_neg (by omega)];omega
     ·rw [if_neg (by omega),if_pos (by omega)];omega
   rw [key x1 (hx x1 (by simp)),key y1 (hy y1 (by simp)),ht]
open ZX
def P6(ε t:Rat):List ZX→Prop
 | []=>False
 | [a]=>j5 ε (e t a)
 | [_,b]=>j5 ε (e t b)
 | a::b::c::l=>P6 ε t (b::c::l)∧(j5 ε (e t b)∨(j5 ε (e t a)∧j5 ε (e t c)∧cZ (e t a) = -cZ (e t c)))
theorem P6.mono{ε δ t:Rat}(h:δ≤ε):∀ {l:List ZX},P6 ε t l→P6 δ t l
 | [],g=>g
 | [a],g=>j5.mono g h
 | [a,b],g=>j5.mono (x:=e t b) g h
 | a::b::c::l,g=>⟨P6.mono h g.1,by
  rcases g.2 with g | ⟨g1,g2,g3⟩
  ·exact .inl (g.mono h)
  ·exact .inr ⟨g1.mono h,g2.mono h,g3⟩⟩
theorem P6.two{ε t:Rat}{a b:ZX}:∀ {l:List ZX},P6 ε t (a::b::l)→j5 ε (e t a)∨j5 ε (e t b)
 | [],g => .inr g
 | c::l,g=>by
  rcases g.2 with g | ⟨g1,g2,g3⟩
  ·exact .inr g
  ·exact .inl g1
def BC(t:Rat)(l:List ZX):List Int:=l.map fun p=>cZ (e t p)
theorem w9{t:Rat}{l:List ZX}:∀s∈BC t l,s = -1∨s=0∨s=1:=fun s hs=>by
 simp only [BC,List.mem_map]at hs
 obtain⟨p,_,rfl⟩:=hs
 exact qA _
theorem ZW{ε s t:Rat}(hε:0<ε):∀ {l:List ZX},P6 ε s l→(∀p∈l,¬j5 ε (e t p-e s p))→cl (BC s l) (BC t l)
 | [],g,_=>g.elim
 | [a],g,h=>by
  obtain⟨h1,h2⟩:=fL g hε (h a (by simp))
  exact⟨h1.symm,h2⟩
 | [a,b],g,h=>by
  obtain⟨h1,h2⟩:=fL (x:=e s b) g hε (h b (by simp))
  exact⟨h1.symm,h2⟩
 | a::b::c::l,g,h=>by
  refine⟨ZW hε g.1 fun p hp=>h p (List.mem_cons_of_mem _ hp),?_⟩
  rcases g.2 with g | ⟨g1,g2,g3⟩
  ·obtain⟨h1,h2⟩:=fL g hε (h b (by simp))
   exact .inl ⟨h1.symm,h2⟩
  ·obtain⟨h1,h2⟩:=fL g1 hε (h a (by simp))
   obtain⟨h3,h4⟩:=fL g2 hε (h c (by simp))
   exact .inr ⟨h1.symm,h3.symm,g3,h4⟩
def vt(l:List ZX)(t:Rat):Nat:=BB 0 (BC t l)
def ind(a:ZX)(s t:Rat):Nat:=if e s a≠0∧cZ (e t a)≠cZ (e s a)then 1 else 0
theorem adf{ε s t:Rat}(hε:0<ε){a:ZX}{l:List ZX}(g:P6 ε s (a::l))(h:∀p∈a::l,¬j5 ε (e t p-e s p))
  (hm:∀b k,l=b::k→j5 ε (e s b)→cZ (e t a-e s a)=cZ (e s b)):vt (a::l) s=vt (a::l) t+ind a s t:=by
 have hc:=ZW hε g h
 have hA:j5 ε (e s a)→vt (a::l) s=vt (a::l) t+ind a s t:=fun ha=>by
  obtain⟨h1,h2⟩:=fL ha hε (h a (by simp))
  have h3:ind a s t=0:=if_neg fun h=>h.2 h1
  rw [h3]
  have hc':cl (cZ (e s a)::BC s l) (cZ (e s a)::BC t l):=by
   have:BC t (a::l)=cZ (e s a)::BC t l:=by rw [←h1];rfl
   rw [this]at hc
   exact hc
  have h4:=E6 _ _ _ _ (Nat.le_refl _) h2 (by have:=qA (e s a);omega) w9 w9 hc'
  show BB 0 (cZ (e s a)::BC s l)=BB 0 (cZ (e t a)::BC t l)+0
  rw [h1]
  simp only [BB]
  rw [if_neg h2,if_neg h2,h4];omega
 match l,g,h,hc,hm,hA with
 | [],g,h,hc,hm,hA=>exact hA g
 | b::l,g,h,hc,hm,hA =>
  rcases g.two with ha | hb
  ·exact hA ha
  ·obtain⟨h1,h2⟩:=fL hb hε (h b (by simp))
   have h3:=hm b l rfl hb
   have hc':cl (cZ (e s b)::BC s l) (cZ (e s b)::BC t l):=by
    match l,hc with
    | [],hc=>exact⟨rfl,h2⟩
    | c::l,hc =>
     have h8:cl (cZ (e s b)::BC s (c::l)) (cZ (e t b)::BC t (c::l)):=hc.1
     rw [h1]at h8
     exact h8
   have h4:=E6 _ _ _ _ (Nat.le_refl _) h2 (by have:=qA (e s b);omega) w9 w9 hc'
   show BB 0 (cZ (e s a)::cZ (e s b)::BC s l)=BB 0 (cZ (e t a)::cZ (e t b)::BC t l)+ind a s t
   rw [h1]
   simp only [BB]
   rw [if_neg h2,if_neg h2,h4]
   have hi:ind a s t=if cZ (e s a)≠0∧cZ (e t a)≠cZ (e s a)then 1 else 0:=by
    unfold ind
    by_cases h6:e s a=0
    ·rw [if_neg (fun h7=>h7.1 h6),if_neg (fun h7=>h7.1 (iU.2 h6))]
    ·have h7:cZ (e s a)≠0:=fun h8=>h6 (iU.1 h8)
     simp only [ne_eq,h6,h7,not_false_eq_true,true_and]
   rw [hi]
   have hd:(cZ (e s b) = -1→cZ (e t a)≤cZ (e s a)∧(cZ (e t a)=cZ (e s a)→cZ (e s a)≠0))∧(cZ (e s b)=1→cZ (e s a)≤cZ (e t a)∧(cZ (e t a)=cZ (e s a)→cZ (e s a)≠0)):=by
    refine⟨fun h6=>?_,fun h6=>?_⟩
    ·have h5:=MW.1 (h3.trans h6)
     rcases dB (e s a)with ⟨q1,r1⟩ | ⟨q1,r1⟩ | ⟨q1,r1⟩<;>rcases dB (e t a)with ⟨q2,r2⟩ | ⟨q2,r2⟩ | ⟨q2,r2⟩<;>rw [r1,r2]<;>first | decide | (exfalso;grind)
    ·have h5:=MX.1 (h3.trans h6)
     rcases dB (e s a)with ⟨q1,r1⟩ | ⟨q1,r1⟩ | ⟨q1,r1⟩<;>rcases dB (e t a)with ⟨q2,r2⟩ | ⟨q2,r2⟩ | ⟨q2,r2⟩<;>rw [r1,r2]<;>first | decide | (exfalso;grind)
   have m1:=qA (e s a)
   have m2:=qA (e t a)
   have m3:=qA (e s b)
   generalize cZ (e s a)=σ at *
   generalize cZ (e t a)=τ at *
   generalize cZ (e s b)=γ at *
   generalize BB γ (BC t l)=T at *
   obtain⟨d1,d2⟩:=hd
   clear hc hc' h1 h3 hm hA h g hb hi
   rcases m3 with rfl | rfl | rfl
   ·obtain⟨d3,d4⟩:=d1 rfl
    rcases m1 with rfl | rfl | rfl<;>rcases m2 with rfl | rfl | rfl<;>first | (exfalso;omega) | (simp;try omega)
   ·exact absurd rfl h2
   ·obtain⟨d3,d4⟩:=d2 rfl
    rcases m1 with rfl | rfl | rfl<;>rcases m2 with rfl | rfl | rfl<;>first | (exfalso;omega) | (simp;try omega)
end Pm
namespace Pm
open ZX hiding N W
def StC(M B:Rat):List ZX→Prop
 | []=>False
 | [a]=>∃c:Int,c≠0∧a=K c
 | [_,b]=>∃c:Int,c≠0∧b=K c
 | a::b::c::l=>StC M B (b::c::l) ∧ ∃(m k:Int) (q:ZX),0<m∧0<k∧K m*a=q*b-K k*c∧2*(m:Rat)≤M ∧ ∀t,Ab t B→Ab (2*e t q) M
def wR(M:Rat):Nat→Rat
 | 0=>1
 | k+1=>wR M k/M
theorem E7{M:Rat}(hM:2≤M)(k:Nat):M*wR M (k+1)=wR M k:=by
 rw [wR,Rat.mul_comm,Rat.div_mul_cancel (by grind)]
theorem tO{M:Rat}(hM:2≤M):∀k,0<wR M k
 | 0=>by show(0:Rat)<1;decide
 | k+1=>by
  have h1:=tO hM k
  have h2:=E7 hM k
  refine Rat.not_le.1 fun h=>?_
  have h3:=Rat.mul_nonneg (show 0≤M by grind) (show 0 ≤ -wR M (k+1)by grind)
  grind
theorem E8{M:Rat}(hM:2≤M)(k:Nat):wR M (k+1)≤wR M k:=by
 have h1:=tO hM (k+1)
 have h2:=E7 hM k
 have h3:=Rat.mul_le_mul_of_nonneg_right (show 1≤M by grind) (Rat.le_of_lt h1)
 grind
theorem rX{M:Rat}(hM:2≤M):∀k,wR M k≤1
 | 0=>Rat.le_refl
 | k+1=>Rat.le_trans (E8 hM k) (rX hM k)
theorem xA{c:Int}(h:c≠0):j5 1 (c:Rat):=by
 rcases Int.lt_trichotomy c 0 with h1 | h1 | h1
 ·left
  have:((c:Int):Rat)≤((-1:Int):Rat):=Rat.intCast_le_intCast.2 (by omega)
  rw [Rat.intCast_neg,Rat.intCast_one]at this
  exact this
 ·exact absurd h1 h
 ·right
  have:((1:Int):Rat)≤((c:Int):Rat):=Rat.intCast_le_intCast.2 (by omega)
  rw [Rat.intCast_one]at this
  exact this
theorem dW{c:Int}(h:0<c):(1:Rat)≤(c:Rat):=by
 have:((1:Int):Rat)≤((c:Int):Rat):=Rat.intCast_le_intCast.2 (by omega)
 rwa [Rat.intCast_one]at this
theorem ZY{M ε ε' x y z q m k:Rat}(hM:2≤M)(he:M*ε'=ε)(hp:0<ε')(hm:1≤m)(hk:1≤k)(hmM:2*m≤M)(hq:Ab (2*q) M)(e:m*x=q*y-k*z)(hy:¬j5 ε' y)(hz:j5 ε z):j5 ε' x∧cZ x = -cZ z:=by
 have h1:=hq.mul (BA hy)
 rw [he]at h1
 obtain⟨h2,h3⟩:=h1
 have hε:0<ε:=by rw [←he];exact Rat.mul_pos (by grind) hp
 have h6:=Rat.mul_le_mul_of_nonneg_right hmM (Rat.le_of_lt hp)
 rcases hz with hz | hz
 ·have h4:=Rat.mul_le_mul_of_nonneg_right hk (show 0 ≤ -z by grind)
  have h5:ε≤2*(m*x):=by grind
  have h7:ε'≤x:=Rat.not_lt.1 fun h=>by
   have:=Rat.mul_lt_mul_of_pos_left h (show 0<m by grind)
   grind
  refine⟨.inr h7,?_⟩
  rw [gK (x:=z) (by grind),eI (x:=x) (by grind)];rfl
 ·have h4:=Rat.mul_le_mul_of_nonneg_right hk (show 0≤z by grind)
  have h5:2*(m*x) ≤ -ε:=by grind
  have h7:x ≤ -ε':=Rat.not_lt.1 fun h=>by
   have:=Rat.mul_lt_mul_of_pos_left h (show 0<m by grind)
   grind
  refine⟨.inl h7,?_⟩
  rw [eI (x:=z) (by grind),gK (x:=x) (by grind)]
theorem StC.P6{M B t:Rat}(hM:2≤M)(ht:Ab t B):∀ {l:List ZX},StC M B l→P6 (wR M l.length) t l
 | [],h=>h
 | [a],h=>by
  obtain⟨c,hc,rfl⟩:=h
  show j5 _ (e t (K c))
  rw [UI]
  exact(xA hc).mono (rX hM _)
 | [a,b],h=>by
  obtain⟨c,hc,rfl⟩:=h
  show j5 _ (e t (K c))
  rw [UI]
  exact(xA hc).mono (rX hM _)
 | a::b::c::l,h=>by
  obtain⟨h1,m,k,q,hm,hk,he,hmM,hq⟩:=h
  have ih:=StC.P6 hM ht h1
  refine⟨ih.mono (E8 hM _),?_⟩
  by_cases hb:j5 (wR M (a::b::c::l).length) (e t b)
  ·exact .inl hb
  ·have hc:j5 (wR M (b::c::l).length) (e t c):=by
    rcases ih.two with h2 | h2
    ·exact absurd (h2.mono (E8 hM _)) hb
    ·exact h2
   have TJ:(m:Rat)*e t a=e t q*e t b-k*e t c:=by
    rw [←UI (t:=t) m,←mS,he,aph,mS,mS,UI]
   obtain⟨g1,g2⟩:=ZY hM (E7 hM _) (tO hM _) (dW hm) (dW hk) hmM (hq t ht) TJ hb hc
   exact .inr ⟨g1,hc.mono (E8 hM _),g2⟩
structure Lcl(L:List ZX)(f:ZX)(B δ:Rat):Prop where
 turns:∀s t,Ab s B→Ab t B→s<t→t-s≤δ→vt L s=vt L t+ind f s t
 simple:∀s t,Ab s B→Ab t B→s<t→t-s≤δ→e s f=0→e t f≠0
theorem wD{h x Q ε:Rat}(hh:0≤h)(hx:Ab x Q)(hQ:h*Q<ε):¬j5 ε (h*x):=fun hb=>by
 obtain⟨h1,h2⟩:=(Ab.mul (x:=h) (M:=h) ⟨by grind,Rat.le_refl⟩ hx)
 rcases hb with hb | hb<;>grind
theorem TK{h x Q ε c y d1 d2:Rat}(hh:0<h)(hε:0<ε)(hc:1≤c)(hx:Ab x Q)(hQ:h*Q<ε)(hy:j5 ε y)(e1:d1=c*y)(e2:d2-d1=h*x):cZ (h*d2)=cZ y:=by
 obtain⟨h1,h2⟩:=(Ab.mul (x:=h) (M:=h) ⟨by grind,Rat.le_refl⟩ hx)
 have hs:cZ (h*d2)=cZ d2:=by rw [w8,eI hh];omega
 rw [hs]
 rcases hy with hy | hy
 ·have:=Rat.mul_le_mul_of_nonneg_right hc (show 0 ≤ -y by grind)
  rw [gK (show y<0 by grind),gK (show d2<0 by grind)]
 ·have:=Rat.mul_le_mul_of_nonneg_right hc (show 0≤y by grind)
  rw [eI (show 0<y by grind),eI (show 0<d2 by grind)]
theorem StC.loc{M B S Q δ:Rat}{f:ZX}{l:List ZX}(hM:2≤M)(hB:1≤B)(hS:0≤S)(h:StC M B (f::l))(hb:∀p∈f::l,(∀c∈p.l,Ab (c:Rat) S)∧AH S B p.l.length≤Q)(hd:∀g k,l=g::k → ∃c:Int,0<c∧b6 f=K c*g)
  (hδ:δ*Q<wR M (f::l).length):Lcl (f::l) f B δ:=by
 have hQ0:0≤Q:=by
  obtain⟨h1,h2⟩:=hb f (by simp)
  obtain⟨h3,h4⟩:=lS hS hB f.l.length
  grind
 have hε:=tO hM (f::l).length
 have A7:∀s t:Rat,s<t→t-s≤δ→(t-s)*Q<wR M (f::l).length:=fun s t rD hd=>by
  have:=Rat.mul_le_mul_of_nonneg_right hd hQ0
  grind
 have key:∀s t,Ab s B→Ab t B→s<t→t-s≤δ→(∀p∈f::l,¬j5 (wR M (f::l).length) (e t p-e s p)) ∧ ∀b k,l=b::k→j5 (wR M (f::l).length) (e s b)→cZ (e t f-e s f)=cZ (e s b):=fun s t hs ht rD hsd=>by
  refine⟨fun p hp=>?_,fun b k hbk GD=>?_⟩
  ·obtain⟨h1,h2⟩:=hb p hp
   show ¬j5 _ (qv t p.l-qv s p.l)
   rw [mB]
   exact wD (by grind) ((CV hS hB hs ht p.l h1).mono h2) (A7 s t rD hsd)
  ·obtain⟨c,hc,he⟩:=hd b k hbk
   obtain⟨h1,h2⟩:=hb f (by simp)
   show cZ (qv t f.l-qv s f.l)=_
   rw [mB]
   exact TK (d1:=dd s s f.l) (by grind) hε (dW hc) ((ZV hS hB hs ht f.l h1).mono h2) (A7 s t rD hsd) GD (by rw [←afw,he,mS,UI]) (MY s t f.l)
 refine⟨fun s t hs ht rD hsd=>?_,fun s t hs ht rD hsd h0=>?_⟩
 ·obtain⟨k1,k2⟩:=key s t hs ht rD hsd
  exact adf hε (h.P6 hM hs) k1 k2
 ·obtain⟨k1,k2⟩:=key s t hs ht rD hsd
  have g:=h.P6 hM hs
  have nb:¬j5 (wR M (f::l).length) (e s f):=by
   rw [h0]
   rintro(h1 | h1)<;>grind
  match l,g,k2 with
  | [],g,_=>exact absurd g nb
  | b::k,g,k2 =>
   have GD:=g.two.resolve_left nb
   have h2:=k2 b k rfl GD
   intro h3
   rw [h0,h3,show(0:Rat)-0=0 by grind,mT]at h2
   have h4:=iU.1 h2.symm
   rw [h4]at GD
   rcases GD with h1 | h1<;>grind
theorem aiZ{B δ:Rat}(hδ:0<δ){P:Rat→Rat→Prop}(ht:∀a b c,a<b→b<c→P a b→P b c→P a c)(hs:∀a b,Ab a B→Ab b B→a<b→b-a≤δ→P a b){a b:Rat}(ha:Ab a B)(hb:Ab b B)(fN:a<b):P a b:=by
 have key:∀(n:Nat) (a b:Rat),Ab a B→Ab b B→a<b→b-a≤(n:Rat)*δ→P a b:=by
  intro n
  induction n with
  | zero=>intro a b _ _ h1 h2;exfalso;rw [show((0:Nat):Rat)=0 from rfl]at h2;grind
  | succ n ih =>
   intro a b ha hb h1 h2
   by_cases h3:b-a≤δ
   ·exact hs a b ha hb h1 h3
   ·have h3:=Rat.not_le.1 h3
    obtain⟨a1,a2⟩:=ha
    obtain⟨b1,b2⟩:=hb
    have hm:Ab (a+δ) B:=⟨by grind,by grind⟩
    refine ht a (a+δ) b (by grind) (by grind) (hs _ _ ⟨a1,a2⟩ hm (by grind) (by grind)) (ih _ _ hm ⟨b1,b2⟩ (by grind) ?_)
    rw [show((n+1:Nat):Rat)=(n:Rat)+1 from by rw [Rat.natCast_add];rfl]at h2
    grind
 have h1:=Rat.lt_floor_add_one ((b-a)/δ)
 have h2:0≤((b-a)/δ).floor:=Rat.le_floor_iff.2 (by
  have:=(Rat.lt_div_iff (a:=0) (b:=b-a) hδ).2 (by grind)
  show((0:Int):Rat)≤_
  rw [Rat.intCast_zero];exact Rat.le_of_lt this)
 refine key ((((b-a)/δ).floor+1).toNat) a b ha hb fN ?_
 have h3:(((((b-a)/δ).floor+1).toNat:Nat):Rat)=((((b-a)/δ).floor+1:Int):Rat):=by
  rw [←Rat.intCast_natCast,Int.toNat_of_nonneg (by omega)]
 rw [h3]
 have h4:=(Rat.div_lt_iff hδ).1 h1
 exact Rat.le_of_lt h4
structure tP(L:List ZX)(f:ZX):Prop where
 loc:∀B:Rat,1≤B → ∃δ,0<δ∧Lcl L f B δ
theorem pD(a b:Rat):∃B:Rat,1≤B∧Ab a B∧Ab b B:=by
 have h1:∀x:Rat,∃B:Rat,1≤B∧Ab x B:=fun x=>by
  by_cases h:0≤x
  ·exact⟨x+1,by grind,by grind,by grind⟩
  ·exact⟨-x+1,by grind,by grind,by grind⟩
 obtain⟨A,hA,ha⟩:=h1 a
 obtain⟨B,hB,hb⟩:=h1 b
 exact⟨A+B,by grind,ha.mono (by grind),hb.mono (by grind)⟩
namespace tP
variable {L:List ZX} {f:ZX} (h:tP L f)
include h
theorem ZZ{P:Rat→Rat→Prop}(ht:∀a b c,a<b→b<c→P a b→P b c→P a c)(hs:∀B δ,Lcl L f B δ → ∀a b,Ab a B→Ab b B→a<b→b-a≤δ→P a b){a b:Rat}(fN:a<b):P a b:=by
 obtain⟨B,hB,ha,hb⟩:=pD a b
 obtain⟨δ,hδ,hl⟩:=h.loc B hB
 exact aiZ hδ ht (hs B δ hl) ha hb fN
theorem iY{a b:Rat}(fN:a≤b):vt L b≤vt L a:=by
 rcases Rat.le_iff_lt_or_eq.1 fN with h1 | rfl
 ·refine h.ZZ (P:=fun a b=>vt L b≤vt L a) (fun a b c _ _ h1 h2=>Nat.le_trans h2 h1) (fun B δ hl a b ha hb fN hd=>?_) h1
  rw [hl.turns a b ha hb fN hd];omega
 ·exact Nat.le_refl _
theorem flat{a b:Rat}(fN:a<b)(he:vt L a=vt L b):e b f≠0∧(e a f≠0→cZ (e b f)=cZ (e a f)):=by
 refine h.ZZ (P:=fun a b=>vt L a=vt L b→e b f≠0∧(e a f≠0→cZ (e b f)=cZ (e a f))) (fun a b c h1 h2 p1 p2 hac=>?_) (fun B δ hl a b ha hb fN hd heq=>?_) fN he
 ·have:=h.iY (Rat.le_of_lt h1)
  have:=h.iY (Rat.le_of_lt h2)
  obtain⟨q1,q2⟩:=p1 (by omega)
  obtain⟨q3,q4⟩:=p2 (by omega)
  exact⟨q3,fun ha=>by rw [q4 q1,q2 ha]⟩
 ·have h1:=hl.turns a b ha hb fN hd
  have h2:ind f a b=0:=by omega
  unfold ind at h2
  by_cases h0:e a f=0
  ·exact⟨hl.simple a b ha hb fN hd h0,fun h3=>absurd h0 h3⟩
  ·have h3:cZ (e b f)=cZ (e a f):=Classical.byContradiction fun h3=>by rw [if_pos ⟨h0,h3⟩]at h2;omega
   refine⟨fun h4=>h0 (iU.1 ?_),fun _=>h3⟩
   rw [←h3,h4,mT]
theorem const{a b:Rat}(fN:a<b){σ:Int}(h0:e a f=0∨cZ (e a f)=σ)(h1:∀x,a<x→x≤b→cZ (e x f)=σ):vt L a=vt L b:=by
 refine h.ZZ (P:=fun x y=>a≤x→y≤b→vt L x=vt L y) (fun x y z vC hyz p1 p2 hax hzb=>(p1 hax (by grind)).trans (p2 (by grind) hzb)) (fun B δ hl x y hx hy vC hd hax hyb=>?_) fN Rat.le_refl Rat.le_refl
 rw [hl.turns x y hx hy vC hd]
 have h2:ind f x y=0:=if_neg fun h3=>by
  obtain⟨h4,h5⟩:=h3
  rw [h1 y (by grind) hyb]at h5
  rcases Rat.le_iff_lt_or_eq.1 hax with h6 | rfl
  ·exact h5 (h1 x h6 (by grind)).symm
  ·rcases h0 with h0 | h0
   ·exact h4 h0
   ·exact h5 h0.symm
 omega
theorem root{s t:Rat}(rD:s<t)(h0:e t f=0):vt L t<vt L s:=by
 have h1:=h.iY (Rat.le_of_lt rD)
 refine Nat.lt_of_le_of_ne h1 fun h2=>?_
 exact(h.flat rD h2.symm).1 h0
theorem count{roots:List Rat}(hn:roots.Nodup)(hr:∀r∈roots,e r f=0)(hc:∀a b,a<b→(∀r∈roots,a<r→b<r)→vt L a=vt L b){a b:Rat}(fN:a<b):vt L a=vt L b+(roots.countP fun r=>decide (a<r∧r≤b)):=by
 refine h.ZZ (P:=fun a b=>vt L a=vt L b+(roots.countP fun r=>decide (a<r∧r≤b))) (fun a b c h1 h2 p1 p2=>?_) (fun B δ hl a b ha hb fN hd=>?_) fN
 ·rw [p1,p2]
  have:∀l:List Rat,(l.countP fun r=>decide (a<r∧r≤c))=(l.countP fun r=>decide (a<r∧r≤b))+(l.countP fun r=>decide (b<r∧r≤c)):=fun l=>by
   induction l with
   | nil=>rfl
   | cons x l ih =>
    rw [List.countP_cons,List.countP_cons,List.countP_cons,ih]
    by_cases q1:a<x∧x≤b
    ·have q2:¬(b<x∧x≤c):=fun q=>by grind
     have q3:a<x∧x≤c:=⟨q1.1,by grind⟩
     rw [if_pos (decide_eq_true q3),if_pos (decide_eq_true q1),if_neg (fun h=>q2 (of_decide_eq_true h))];omega
    ·by_cases q2:b<x∧x≤c
     ·have q3:a<x∧x≤c:=⟨by grind,q2.2⟩
      rw [if_pos (decide_eq_true q3),if_neg (fun h=>q1 (of_decide_eq_true h)),if_pos (decide_eq_true q2)];omega
     ·have q3:¬(a<x∧x≤c):=fun q=>by
       by_cases q4:x≤b
       ·exact q1 ⟨q.1,q4⟩
       ·exact q2 ⟨Rat.not_le.1 q4,q.2⟩
      rw [if_neg (fun h=>q3 (of_decide_eq_true h)),if_neg (fun h=>q1 (of_decide_eq_true h)),if_neg (fun h=>q2 (of_decide_eq_true h))];omega
  rw [this roots];omega
 ·have h1:=hl.turns a b ha hb fN hd
  have h2:ind f a b≤1:=by unfold ind;split<;>omega
  have hm:∀r,r∈roots.filter (fun r=>decide (a<r∧r≤b))↔r∈roots∧a<r∧r≤b:=fun r=>by simp [List.mem_filter]
  have GM:(roots.filter (fun r=>decide (a<r∧r≤b))).Nodup:=hn.filter _
  rw [List.countP_eq_length_filter]
  match hF:roots.filter (fun r=>decide (a<r∧r≤b)),hm,GM with
  | [],hm,_ =>
   rw [List.length_nil,Nat.add_zero]
   refine hc a b fN fun r hr h3=>Rat.not_le.1 fun h4=>?_
   have:=(hm r).2 ⟨hr,h3,h4⟩
   simp at this
  | [r],hm,_ =>
   obtain⟨g1,g2,g3⟩:=(hm r).1 (by simp)
   have:=h.root g2 (hr r g1)
   have:=h.iY g3
   simp only [List.length_cons,List.length_nil]
   omega
  | r::q::l,hm,GM =>
   exfalso
   obtain⟨g1,g2,g3⟩:=(hm r).1 (by simp)
   obtain⟨k1,k2,k3⟩:=(hm q).1 (by simp)
   have qF:r≠q:=by
    simp only [List.nodup_cons,List.mem_cons,not_or]at GM
    exact GM.1.1
   rcases Rat.le_total (a:=r) (b:=q)with h5 | h5
   ·have:=h.root (Rat.lt_of_le_of_ne h5 qF) (hr q k1)
    have:=h.root g2 (hr r g1)
    have:=h.iY k3
    omega
   ·have:=h.root (Rat.lt_of_le_of_ne h5 (Ne.symm qF)) (hr r g1)
    have:=h.root k2 (hr q k1)
    have:=h.iY g3
    omega
end tP
theorem xB{a b:Int}{l:List Int}(h:Cn (a::b::l)):Cn (b::l):=by
 unfold Cn at h ⊢
 rw [aM]at h
 split at h
 ·simp at h
 ·simpa using h
theorem uS{a b:Int}{l:List Int}:lead (a::b::l)=lead (b::l):=by
 unfold lead
 simp only [List.length_cons,Nat.add_sub_cancel]
 rw [iT]
theorem CW{S t:Rat}(hS:0≤S)(ht:S+1≤t):∀ {x:List Int},Cn x→0<x.length→(∀c∈x,Ab (c:Rat) S)→(0<lead x→1≤qv t x)∧(lead x<0→qv t x ≤ -1)
 | [a],hc,_,_=>by
  have e1:qv t [a]=(a:Rat):=by simp only [qv];grind
  have e2:lead [a]=a:=rfl
  rw [e1,e2]
  refine⟨fun h=>dW h,fun h=>?_⟩
  have:((a:Int):Rat)≤((-1:Int):Rat):=Rat.intCast_le_intCast.2 (by omega)
  rwa [Rat.intCast_neg,Rat.intCast_one]at this
 | a::b::l,hc,_,hb=>by
  obtain⟨h1,h2⟩:=CW hS ht (xB hc) (by simp) fun c hc=>hb c (List.mem_cons_of_mem _ hc)
  obtain⟨h3,h4⟩:=hb a (by simp)
  have e1:qv t (a::b::l)=a+t*qv t (b::l):=rfl
  rw [uS,e1]
  refine⟨fun h=>?_,fun h=>?_⟩
  ·have:=Rat.mul_le_mul_of_nonneg_left (h1 h) (show 0≤t by grind)
   grind
  ·have:=Rat.mul_le_mul_of_nonneg_left (show 1 ≤ -qv t (b::l)by have:=h2 h;grind) (show 0≤t by grind)
   grind
theorem JD{S t:Rat}(hS:0≤S)(ht:t ≤ -(S+1)):∀ {x:List Int},Cn x→0<x.length→(∀c∈x,Ab (c:Rat) S)→(0<(if x.length%2=0 then -lead x else lead x)→1≤qv t x)∧((if x.length%2=0 then -lead x else lead x)<0→qv t x ≤ -1)
 | [a],hc,_,_=>by
  have e1:qv t [a]=(a:Rat):=by simp only [qv];grind
  have e2:lead [a]=a:=rfl
  rw [e1,e2,if_neg (by simp)]
  refine⟨fun h=>dW h,fun h=>?_⟩
  have:((a:Int):Rat)≤((-1:Int):Rat):=Rat.intCast_le_intCast.2 (by omega)
  rwa [Rat.intCast_neg,Rat.intCast_one]at this
 | a::b::l,hc,_,hb=>by
  obtain⟨h1,h2⟩:=JD hS ht (xB hc) (by simp) fun c hc=>hb c (List.mem_cons_of_mem _ hc)
  obtain⟨h3,h4⟩:=hb a (by simp)
  have e1:qv t (a::b::l)=a+t*qv t (b::l):=rfl
  have e2:(if (a::b::l).length%2=0 then -lead (a::b::l)else lead (a::b::l)) = -(if (b::l).length%2=0 then -lead (b::l)else lead (b::l)):=by
   rw [uS]
   simp only [List.length_cons]
   split<;>split<;>omega
  rw [e2,e1]
  generalize (if (b::l).length%2=0 then -lead (b::l)else lead (b::l))=z at *
  refine⟨fun h=>?_,fun h=>?_⟩
  ·have:=Rat.mul_le_mul_of_nonneg_left (show 1 ≤ -qv t (b::l)by have:=h2 (by omega);grind) (show 0 ≤ -t by grind)
   grind
  ·have:=Rat.mul_le_mul_of_nonneg_left (h1 (by omega)) (show 0 ≤ -t by grind)
   grind
theorem CX{S t:Rat}(hS:0≤S){x:List Int}(hc:Cn x)(hb:∀c∈x,Ab (c:Rat) S):(S+1≤t→cZ (qv t x)=(lead x).sign)∧(t ≤ -(S+1)→cZ (qv t x)=if x.length%2=0 then -(lead x).sign else(lead x).sign):=by
 rcases Nat.eq_zero_or_pos x.length with h0 | h0
 ·have:x = []:=List.eq_nil_of_length_eq_zero h0
  subst this
  refine⟨fun _=>?_,fun _=>?_⟩<;>simp only [qv]<;>decide
 ·have hl:=cM hc h0
  refine⟨fun ht=>?_,fun ht=>?_⟩
  ·obtain⟨h1,h2⟩:=CW hS ht hc h0 hb
   rcases Int.lt_trichotomy (lead x) 0 with h | h | h
   ·have:=h2 h
    rw [Int.sign_eq_neg_one_of_neg h,gK (by grind)]
   ·exact absurd h hl
   ·have:=h1 h
    rw [Int.sign_eq_one_of_pos h,eI (by grind)]
  ·obtain⟨h1,h2⟩:=JD hS ht hc h0 hb
   rcases Int.lt_trichotomy (lead x) 0 with h | h | h
   ·rw [Int.sign_eq_neg_one_of_neg h]
    split
    ·rw [if_pos (by assumption)]at h1
     have:=h1 (by omega)
     rw [eI (by grind)];rfl
    ·rw [if_neg (by assumption)]at h2
     have:=h2 h
     rw [gK (by grind)]
   ·exact absurd h hl
   ·rw [Int.sign_eq_one_of_pos h]
    split
    ·rw [if_pos (by assumption)]at h2
     have:=h2 (by omega)
     rw [gK (by grind)]
    ·rw [if_neg (by assumption)]at h1
     have:=h1 h
     rw [eI (by grind)]
end Pm
namespace Pm
open ZX hiding N W
theorem j5.mul{x y η θ:Rat}(hη:0<η)(hθ:0<θ)(h:j5 η x)(h':j5 θ y):j5 (η*θ) (x*y):=by
 have key:∀ {u v:Rat},η≤u→θ≤v→η*θ≤u*v:=fun {u v} h1 h2=>by
  have p1:=Rat.mul_le_mul_of_nonneg_left h2 (Rat.le_of_lt hη)
  have p2:=Rat.mul_le_mul_of_nonneg_right h1 (show 0≤v by grind)
  grind
 rcases h with h | h<;>rcases h' with h' | h'
 ·right;have:=key (show η ≤ -x by grind) (show θ ≤ -y by grind);grind
 ·left;have:=key (show η ≤ -x by grind) h';grind
 ·left;have:=key h (show θ ≤ -y by grind);grind
 ·right;exact key h h'
def Bg(a b:Rat)(p:ZX):Prop:=∃η:Rat,0<η ∧ ∀x,a≤x→x≤b→j5 η (e x p)
theorem Bg.mul{a b:Rat}{p q:ZX}(h:Bg a b p)(h':Bg a b q):Bg a b (p*q):=by
 obtain⟨η,h1,h2⟩:=h
 obtain⟨θ,h3,h4⟩:=h'
 exact⟨η*θ,Rat.mul_pos h1 h3,fun x hx hy=>by rw [mS];exact j5.mul h1 h3 (h2 x hx hy) (h4 x hx hy)⟩
theorem Bg.K{a b:Rat}{c:Int}(hc:c≠0):Bg a b (ZX.K c):=⟨1,by decide,fun x _ _=>by rw [UI];exact xA hc⟩
theorem Bg.mono{a b c d:Rat}{p:ZX}(h:Bg a b p)(hc:a≤c)(hd:d≤b):Bg c d p:=by
 obtain⟨η,h1,h2⟩:=h
 exact⟨η,h1,fun x hx hy=>h2 x (by grind) (by grind)⟩
theorem CY(t:Rat)(n d:Int):e t (of [n,d])=n+d*t:=by
 rw [aiY]
 simp only [qv];grind
theorem Bg.lin{a b:Rat}{n d:Int}(h:(0<(n:Rat)+d*a∧0<(n:Rat)+d*b)∨((n:Rat)+d*a<0∧(n:Rat)+d*b<0)):Bg a b (of [n,d]):=by
 have key:∀x,a≤x→x≤b→((n:Rat)+d*a≤n+d*x∧(n:Rat)+d*x≤n+d*b)∨((n:Rat)+d*b≤n+d*x∧(n:Rat)+d*x≤n+d*a):=fun x hx hy=>by
  by_cases hd:(0:Rat)≤d
  ·left
   have:=Rat.mul_le_mul_of_nonneg_left hx hd
   have:=Rat.mul_le_mul_of_nonneg_left hy hd
   grind
  ·right
   have:=Rat.mul_le_mul_of_nonneg_left hx (show (0:Rat) ≤ -d by grind)
   have:=Rat.mul_le_mul_of_nonneg_left hy (show (0:Rat) ≤ -d by grind)
   grind
 generalize (n:Rat)+d*a=u at *
 generalize (n:Rat)+d*b=v at *
 rcases h with ⟨h1,h2⟩ | ⟨h1,h2⟩
 ·by_cases huv:u≤v
  ·exact⟨u,h1,fun x hx hy=>by rw [CY];have:=key x hx hy;right;grind⟩
  ·exact⟨v,h2,fun x hx hy=>by rw [CY];have:=key x hx hy;right;grind⟩
 ·by_cases huv:u≤v
  ·exact⟨-v,by grind,fun x hx hy=>by rw [CY];have:=key x hx hy;left;grind⟩
  ·exact⟨-u,by grind,fun x hx hy=>by rw [CY];have:=key x hx hy;left;grind⟩
theorem xC(l:List Int):∃S:Rat,0≤S ∧ ∀c∈l,Ab (c:Rat) S:=by
 induction l with
 | nil=>exact⟨0,Rat.le_refl,fun c hc=>by cases hc⟩
 | cons a l ih =>
  obtain⟨S,hS,h⟩:=ih
  obtain⟨A,hA,ha,_⟩:=pD a a
  refine⟨S+A,by grind,fun c hc=>?_⟩
  rcases List.mem_cons.1 hc with rfl | hc
  ·exact ha.mono (by grind)
  ·exact(h c hc).mono (by grind)
theorem gE{a b x B:Rat}(ha:Ab a B)(hb:Ab b B)(hx:a≤x)(hy:x≤b):Ab x B:=by
 obtain⟨h1,h2⟩:=ha
 obtain⟨h3,h4⟩:=hb
 exact⟨by grind,by grind⟩
theorem adi(a b:Rat)(p:ZX):∃W:Rat,0<W ∧ ∀x,a≤x→x≤b→Ab (e x p) W:=by
 obtain⟨B,hB,ha,hb⟩:=pD a b
 obtain⟨S,hS,h⟩:=xC p.l
 obtain⟨h3,_⟩:=lS hS hB p.l.length
 exact⟨AH S B p.l.length+1,by grind,fun x hx hy=>(JC hS hB (gE ha hb hx hy) p.l h).mono (by grind)⟩
theorem Bg.dv{a b:Rat}{f p:ZX}(h:Bg a b p)(hd:ZX.dv f p):Bg a b f:=by
 obtain⟨c,hc,q,he⟩:=hd
 obtain⟨η,h1,h2⟩:=(Bg.K (a:=a) (b:=b) hc).mul h
 obtain⟨W,hW,h3⟩:=adi a b q
 refine⟨η/W,(Rat.lt_div_iff hW).2 (by grind),fun x hx hy=>?_⟩
 have h4:=h2 x hx hy
 rw [he,mS]at h4
 have h5:η/W*W=η:=Rat.div_mul_cancel (Rat.ne_of_gt hW)
 refine Classical.byContradiction fun hn=>?_
 obtain⟨g1,g2⟩:=w7 hn
 obtain⟨k1,k2⟩:=h3 x hx hy
 generalize η/W=θ at *
 generalize e x q=u at *
 generalize e x f=v at *
 have key:∀ {w z:Rat}, -W≤w→w≤W → -θ<z→z<θ→w*z<θ*W:=fun {w z} a1 a2 a3 a4=>by
  by_cases hw:0≤w
  ·by_cases hz:0≤z
   ·have p1:=Rat.mul_le_mul_of_nonneg_right a2 hz
    have p2:=Rat.mul_lt_mul_of_pos_left a4 hW
    grind
   ·have p1:=Rat.mul_nonneg hw (show 0 ≤ -z by grind)
    grind
  ·by_cases hz:0≤z
   ·have p1:=Rat.mul_nonneg (show 0 ≤ -w by grind) hz
    grind
   ·have p1:=Rat.mul_le_mul_of_nonneg_right (show -w≤W by grind) (show 0 ≤ -z by grind)
    have p2:=Rat.mul_lt_mul_of_pos_left (show -z<θ by grind) hW
    grind
 rcases h4 with h4 | h4
 ·have:=key (w := -u) (z:=v) (by grind) (by grind) g1 g2
  grind
 ·have:=key (w:=u) (z:=v) k1 k2 g1 g2
  grind
theorem Bg.same{a b:Rat}{f:ZX}(h:Bg a b f){x y:Rat}(hx:a≤x)(vC:x<y)(hy:y≤b):cZ (e y f)=cZ (e x f)∧cZ (e x f)≠0:=by
 obtain⟨η,hη,h2⟩:=h
 obtain⟨B,hB,ha,hb⟩:=pD a b
 obtain⟨S,hS,hc⟩:=xC f.l
 obtain⟨h3,_⟩:=lS hS hB f.l.length
 generalize hQ:AH S B f.l.length=Q at *
 have hQ1:0<Q+1:=by grind
 have hδ:η/(Q+1)*(Q+1)=η:=Rat.div_mul_cancel (Rat.ne_of_gt hQ1)
 have hδ0:0<η/(Q+1):=(Rat.lt_div_iff hQ1).2 (by grind)
 generalize η/(Q+1)=δ at *
 refine aiZ (B:=B) hδ0 (P:=fun x y=>a≤x→y≤b→cZ (e y f)=cZ (e x f)∧cZ (e x f)≠0) (fun x y z h1 h2 p1 p2 hx hz=>?_) (fun x y hx hy vC hd hax hyb=>?_) (gE ha hb hx (by grind)) (gE ha hb (by grind) hy) vC hx hy
 ·obtain⟨q1,q2⟩:=p1 hx (by grind)
  obtain⟨q3,q4⟩:=p2 (by grind) hz
  exact⟨q3.trans q1,q2⟩
 ·refine fL (h2 x hax (by grind)) hη ?_
  show ¬j5 η (qv y f.l-qv x f.l)
  rw [mB]
  refine wD (Q:=Q) (by grind) (hQ▸CV hS hB hx hy f.l hc) ?_
  have:=Rat.mul_le_mul_of_nonneg_right hd h3
  grind
theorem tP.bg{L:List ZX}{f:ZX}(h:tP L f){a b:Rat}(hb:Bg a b f)(fN:a<b):vt L a=vt L b:=by
 refine h.const fN (σ:=cZ (e a f)) (.inr rfl) fun x hx hy=>?_
 exact(hb.same Rat.le_refl hx hy).1
theorem tP.TL{L:List ZX}{f:ZX}(h:tP L f){a b:Rat}(fN:a<b)(h0:e a f=0):∃c,a<c∧c≤b∧vt L a=vt L c:=by
 obtain⟨B,hB,ha,hb⟩:=pD a b
 obtain⟨δ,hδ,hl⟩:=h.loc B hB
 by_cases hd:b-a≤δ
 ·refine⟨b,fN,Rat.le_refl,?_⟩
  rw [hl.turns a b ha hb fN hd]
  have:ind f a b=0:=if_neg fun h=>h.1 h0
  omega
 ·refine⟨a+δ,by grind,by grind,?_⟩
  rw [hl.turns a (a+δ) ha (gE ha hb (by grind) (by grind)) (by grind) (by grind)]
  have:ind f a (a+δ)=0:=if_neg fun h=>h.1 h0
  omega
end Pm
namespace Go.Proofs.YtiobceocpabjdaaGreat
open Go Pm
abbrev T2(n d:Int):PV:=.ag [.bool (decide (n<0)),us (aY LL n.natAbs), .bool (decide (d<0)),us (aY LL d.natAbs)]
abbrev RT(q:Rat):PV:=T2 q.num q.den
theorem at4(n d:Int):((bH [n,d]:Nat):Int)=Int.gcd n d:=by
 simp only [bH,List.foldl_cons,List.foldl_nil,Nat.gcd_zero_left]
 rfl
theorem ai1{n d:Int}(h:d≠0):(cY n d).num=(if d<0 then -n else n)/(bH [n,d]:Nat)∧((cY n d).den:Int)=(if d<0 then -d else d)/(bH [n,d]:Nat):=by
 have e:∀m k:Int,(m=n∨m = -n)→(k=d∨k = -d)→((Int.gcd m k:Nat):Int)=(bH [n,d]:Nat):=fun m k hm hk=>by
  rw [at4]
  rcases hm with rfl | rfl<;>rcases hk with rfl | rfl<;>simp
 rw [nK n d h,nM n d h]
 constructor
 ·rw [e _ _ (by split<;>simp) (by split<;>simp)]
 ·rw [e _ _ (by split<;>simp) (by split<;>simp)]
theorem rY{n d:Int}(hn:sz LL n<1099511627770)(hd:sz LL d<1099511627770)(h0:d≠0):aL env.P 169 [I n,I d] (RT (cY n d)):=by
 have sn:Sz n:=by show _<_;omega
 have sd:Sz d:=by show _<_;omega
 have g0:=HZ [qI n,qI d] 1099511627770 (by decide) (fun c hc=>by
  simp only [List.mem_cons,List.not_mem_nil,or_false]at hc
  rcases hc with rfl | rfl
  ·exact⟨eT fR _,by unfold sz at hn;show(aY LL n.natAbs).length≤_;omega⟩
  ·exact⟨eT fR _,by unfold sz at hd;show(aY LL d.natAbs).length≤_;omega⟩) (by simp)
 rw [show [qI n,qI d].map gv = [n,d]by simp [HM]]at g0
 obtain⟨q1,q2⟩:=ai1 (n:=n) h0
 have gd1:((bH [n,d]:Nat):Int)∣n:=gD _ n (by simp)
 have gd2:((bH [n,d]:Nat):Int)∣d:=gD _ d (by simp)
 have gne:((bH [n,d]:Nat):Int)≠0:=by
  have:=IJ (x:=[n,d]) (c:=d) (by simp) h0;omega
 have gle:((bH [n,d]:Nat):Int).natAbs≤d.natAbs:=Nat.le_of_dvd (by omega) (Int.natAbs_dvd_natAbs.2 gd2)
 have gsz:sz LL ((bH [n,d]:Nat):Int)<1099511627774:=Nat.lt_of_le_of_lt (cS fR gle) (by omega)
 have nn:∀v,pT (aY LL v)↔pT (aY LL v):=fun _=>Iff.rfl
 have neg:∀v:Int,Sz v→aL env.P 148 [I v] (I (-v)):=fun v hv=>by
  have:=yP (decide (v<0)) (aY LL v.natAbs) hv.UF
  rw [show iv (decide (v<0)) (aY LL v.natAbs)=v from HM v]at this
  exact this
 generalize hg:((bH [n,d]:Nat):Int)=g at *
 have ex:∀v:Int,g∣v→sz LL v<1099511627774→aL env.P 234 [I v,I g] (.dX [I (v/g), .int .i64 0]):=fun v hv hs=>by
  have:=EJ hs gsz gne
  rw [if_pos (Int.emod_eq_zero_of_dvd hv)]at this
  exact this
 have n1:=neg n sn
 have n2:=neg d sd
 have apj:∀v:Int,sz LL (-v)=sz LL v:=fun v=>by unfold sz;rw [Int.natAbs_neg]
 have e1:=ex (if d<0 then -n else n) (by split;exact(Int.dvd_neg.2 gd1);exact gd1) (by split;rw [apj];omega;omega)
 have e2:=ex (if d<0 then -d else d) (by split;exact(Int.dvd_neg.2 gd2);exact gd2) (by split;rw [apj];omega;omega)
 rw [←q1]at e1
 rw [←q2]at e2
 have eg:Pg [qI n,qI d] = .sl [[.bool (decide (n<0)),us (aY LL n.natAbs)],[.bool (decide (d<0)),us (aY LL d.natAbs)]]:=rfl
 rw [eg]at g0
 show aL env.P _ _ (T2 (cY n d).num (cY n d).den)
 generalize (cY n d).num=rn at *
 generalize ((cY n d).den:Int)=rd at *
 refine cH [(0,I n),(1,I d)] Tryz.func169 ?_
 refine aA [2,3,4] ?_
 refine a7 [2,3,4,5] g0 ?_
 generalize AG:(if d<0 then -n else n)=n' at *
 generalize VD:(if d<0 then -d else d)=d' at *
 refine W.iF (fun σ=>∃(rows:Pm.Rows) (clk:Nat),σ=⟨fa [(2, .ptr 2 0 0 0),(3, .ptr 3 1 0 0),(4, .ptr 4 2 0 0),(5, .ptr 5 3 0 0)],rows,clk⟩∧rows 2=some ⟨0,38,2,[ie n']⟩∧rows 3=some ⟨1,38,2,[ie d']⟩∧rows 4=some ⟨2,52,4,[[.bool false, .nil, .bool false, .nil]]⟩∧rows 5=some ⟨3,38,2,[ie g]⟩) ?_ ?_
 ·refine aA [2,3,4,5,11] ?_
  refine bP ?_ ?_<;>intro h
  ·have h:d<0:=by simpa using h
   rw [if_pos h]at AG VD
   subst AG VD
   refine W.LV (fun K hK=>?_)
   simp (disch:=omega) [gw]
   refine cX n1 ?_
   refine cX n2 ?_
   (try (refine cU (of_decide_eq_true (by kernel_rfl)) ?_));(try simp (maxSteps:=4000000) (disch:=omega) [gw]);(repeat rw [if_pos (by kernel_rfl)]);(try simp (maxSteps:=4000000) (disch:=omega) [gw])
   (try (refine cU (of_decide_eq_true (by kernel_rfl)) ?_));(try simp (maxSteps:=4000000) (disch:=omega) [gw]);(repeat rw [if_pos (by kernel_rfl)]);(try simp (maxSteps:=4000000) (disch:=omega) [gw])
   exact hK _ ⟨_,aD _ [2,3,4,5],_,_,rfl,by simp,by simp,by simp,by simp⟩
  ·have h:¬d<0:=by simpa using h
   rw [if_neg h]at AG VD
   subst AG VD
   refine W.skip ?_
   exact⟨_,aD _ [2,3,4,5],_,_,rfl,by simp,by simp,by simp,by simp⟩
 rintro _ ⟨rows,clk,rfl,dY,lJ,eU,lK⟩
 simp only [ie]at dY lJ lK
 refine W.sr ?_
 simp (disch:=omega) [gw,dY,lK]
 refine aC e1 ?_
 simp (disch:=omega) [gw,dY]
 refine bM [2,3,4,5] ?_
 refine W.sr ?_
 simp (disch:=omega) [gw,lJ,lK]
 refine aC e2 ?_
 simp (disch:=omega) [gw,lJ]
 refine bM [2,3,4] ?_
 refine W.sr ?_
 simp (disch:=omega) [gw,eU]
 refine bM [4] ?_
 exact cR
theorem CZ(d:Int):aL env.P 124 [I d] (.bool (decide (d=0))):=by
 have:=HN (decide (d<0)) (aY LL d.natAbs)
 rw [show decide ((aY LL d.natAbs).length=0)=decide (d=0)from by
  by_cases h:d=0
  ·subst h;rfl
  ·have:aY LL d.natAbs ≠ []:=fun h2=>h (by have:=jH fR d.natAbs;rw [h2]at this;simp [V]at this;omega)
   have h3:=List.length_pos_iff.2 this
   simp [h];omega]at this
 exact this
theorem MZ(n:Int):cY n 0=cY n 1:=by rw [kF,cY,if_pos rfl]
theorem qB{n d:Int}(hn:sz LL n<1099511627770)(hd:sz LL d<1099511627770):aL env.P 147 [T2 n d] (RT (cY n d)):=by
 have sn:Sz n:=by show _<_;omega
 have sd:Sz d:=by show _<_;omega
 have n1:=EG sn
 have n2:=EG sd
 have z1:=CZ d
 have o1:=yR 1 (by decide) (by decide)
 obtain⟨e,he,hed⟩:∃e,e=(if d=0 then 1 else d)∧cY n e=cY n d:=by
  refine⟨_,rfl,?_⟩
  split
  ·rename_i h;rw [h,MZ]
  ·rfl
 have he1:sz LL e<1099511627770:=by
  rw [he]
  split
  ·exact Nat.lt_of_le_of_lt (dN (k:=1) fR (by decide)) (by decide)
  ·exact hd
 have TJ:e≠0:=by
  rw [he]
  split
  ·decide
  ·assumption
 have l1:=rY (n:=n) (d:=e) hn he1 TJ
 rw [hed]at l1
 show aL env.P _ _ (T2 (cY n d).num (cY n d).den)
 replace l1:aL env.P 169 [I n,I e] (T2 (cY n d).num (cY n d).den):=l1
 clear hed he1 TJ
 generalize (cY n d).num=rn at *
 generalize ((cY n d).den:Int)=rd at *
 refine cH [(0,T2 n d)] Tryz.func147 ?_
 refine aA [1,2] ?_
 refine a7 [1,2,3] n2 ?_
 refine W.iF (fun σ=>∃(rows:Pm.Rows) (clk:Nat),σ=⟨fa [(1, .ptr 1 0 0 0),(2, .ptr 2 1 0 0),(3, .ptr 3 2 0 0)],rows,clk⟩∧rows 1=some ⟨0,52,4,[[.bool (decide (n<0)),us (aY LL n.natAbs), .bool (decide (d<0)),us (aY LL d.natAbs)]]⟩∧rows 2=some ⟨1,52,4,[[.bool false, .nil, .bool false, .nil]]⟩∧rows 3=some ⟨2,38,2,[[.bool (decide (e<0)),us (aY LL e.natAbs)]]⟩) ?_ ?_
 ·refine a7 [1,2,3,8] z1 ?_
  refine bP ?_ ?_<;>intro h
  ·have h:d=0:=by simpa using h
   rw [if_pos h]at he
   subst he
   refine W.cG (fun K hK=>?_)
   simp (disch:=omega) [gw]
   refine cX o1 ?_
   exact hK _ ⟨_,aD _ [1,2,3],_,_,rfl,by simp,by simp,by simp⟩
  ·have h:¬d=0:=by simpa using h
   rw [if_neg h]at he
   subst he
   refine W.skip ?_
   exact⟨_,aD _ [1,2,3],_,_,rfl,by simp,by simp,by simp⟩
 rintro _ ⟨rows,clk,rfl,LY,dY,lJ⟩
 refine W.sd ?_
 simp (disch:=omega) [gw,LY]
 refine aC n1 ?_
 simp (disch:=omega) [gw,lJ]
 refine aC l1 ?_
 simp (disch:=omega) [gw,dY]
 (try (refine cU (of_decide_eq_true (by kernel_rfl)) ?_));(try simp (maxSteps:=4000000) (disch:=omega) [gw,dY]);(repeat rw [if_pos (by kernel_rfl)]);(try simp (maxSteps:=4000000) (disch:=omega) [gw,dY])
 refine bM [2] ?_
 exact cR
theorem C0{n d m e:Int}{k:Nat}(hn:sz LL n≤k)(hd:sz LL d≤k)(hm:sz LL m≤k)(he:sz LL e≤k)(hk:k≤500000000000){p q:Rat}(hp:cY n d=p)(hq:cY m e=q)(sp:sz LL p.num≤k∧sz LL (p.den:Int)≤k)(sq:sz LL q.num≤k∧sz LL (q.den:Int)≤k) :
  aL env.P 165 [T2 n d,T2 m e] (.dX [I (p.num*q.den),I (q.num*p.den),I ((p.den:Int)*q.den)]):=by
 have n1:=qB (n:=n) (d:=d) (by omega) (by omega)
 have n2:=qB (n:=m) (d:=e) (by omega) (by omega)
 rw [hp]at n1
 rw [hq]at n2
 have z:∀ {v:Int},sz LL v≤k→Sz v:=fun h=>by show _<_;omega
 have m1:=s6 (z sp.1) (z sq.2)
 have m2:=s6 (z sq.1) (z sp.2)
 have m3:=s6 (z sp.2) (z sq.2)
 replace n1:aL env.P 147 [T2 n d] (T2 p.num p.den):=n1
 replace n2:aL env.P 147 [T2 m e] (T2 q.num q.den):=n2
 clear sp sq hp hq
 generalize p.num*(q.den:Int)=x1 at *
 generalize q.num*(p.den:Int)=x2 at *
 generalize (p.den:Int)*(q.den:Int)=x3 at *
 generalize p.num=pn at *
 generalize (p.den:Int)=pd at *
 generalize q.num=qn at *
 generalize (q.den:Int)=qd at *
 refine cH [(0,T2 n d),(1,T2 m e)] Tryz.func165 ?_
 refine aA [2,3,4,5,6] ?_
 refine sB ?_
 refine cX n1 ?_
 refine cX n2 ?_
 (try (refine cU (of_decide_eq_true (by kernel_rfl)) ?_));(try simp (maxSteps:=4000000) (disch:=omega) [gw]);(repeat rw [if_pos (by kernel_rfl)]);(try simp (maxSteps:=4000000) (disch:=omega) [gw])
 (try (refine cU (of_decide_eq_true (by kernel_rfl)) ?_));(try simp (maxSteps:=4000000) (disch:=omega) [gw]);(repeat rw [if_pos (by kernel_rfl)]);(try simp (maxSteps:=4000000) (disch:=omega) [gw])
 refine bM [2,3,4,5,6] ?_
 refine W.sd ?_
 simp (maxSteps:=4000000) (disch:=omega) [gw]
 refine aC m1 ?_
 simp (maxSteps:=4000000) (disch:=omega) [gw]
 refine aC m2 ?_
 simp (maxSteps:=4000000) (disch:=omega) [gw]
 refine aC m3 ?_
 simp (maxSteps:=4000000) (disch:=omega) [gw]
 (try (refine cU (of_decide_eq_true (by kernel_rfl)) ?_));(try simp (maxSteps:=4000000) (disch:=omega) [gw]);(repeat rw [if_pos (by kernel_rfl)]);(try simp (maxSteps:=4000000) (disch:=omega) [gw])
 (try (refine cU (of_decide_eq_true (by kernel_rfl)) ?_));(try simp (maxSteps:=4000000) (disch:=omega) [gw]);(repeat rw [if_pos (by kernel_rfl)]);(try simp (maxSteps:=4000000) (disch:=omega) [gw])
 (try (refine cU (of_decide_eq_true (by kernel_rfl)) ?_));(try simp (maxSteps:=4000000) (disch:=omega) [gw]);(repeat rw [if_pos (by kernel_rfl)]);(try simp (maxSteps:=4000000) (disch:=omega) [gw])
 refine bM [4,5,6] ?_
 exact cR
theorem C2{n d m e:Int}{k:Nat}(hn:sz LL n≤k)(hd:sz LL d≤k)(hm:sz LL m≤k)(he:sz LL e≤k)(hk:k≤500000000000){p q:Rat}(hp:cY n d=p)(hq:cY m e=q)(sp:sz LL p.num≤k∧sz LL (p.den:Int)≤k)(sq:sz LL q.num≤k∧sz LL (q.den:Int)≤k) :
  aL env.P 86 [T2 n d,T2 m e] (.int .i64 (dJ (p.num*q.den) (q.num*p.den))):=by
 have c1:=C0 hn hd hm he hk hp hq sp sq
 have g1:=b5 (b:=LL) fR sp.1 sq.2
 have g2:=b5 (b:=LL) fR sq.1 sp.2
 have w1:=XS (x:=p.num*q.den) (y:=q.num*p.den) (by show _<_;omega) (by show _<_;omega)
 clear sp sq hp hq g1 g2
 generalize dJ (p.num*(q.den:Int)) (q.num*(p.den:Int))=r at *
 generalize p.num*(q.den:Int)=x1 at *
 generalize q.num*(p.den:Int)=x2 at *
 generalize (p.den:Int)*(q.den:Int)=x3 at *
 refine cH [(0,T2 n d),(1,T2 m e)] Tryz.func86 ?_
 refine aA [2,3] ?_
 refine a7 [5,6] c1 ?_
 refine a7 [4] w1 ?_
 exact cR
theorem tQ{n d:Int}(hn:sz LL n<1099511627770)(hd:sz LL d<1099511627770):aL env.P 90 [T2 n d, .sl []] (RT (cY n d)):=by
 have n1:=qB hn hd
 show aL env.P _ _ (T2 (cY n d).num (cY n d).den)
 replace n1:aL env.P 147 [T2 n d] (T2 (cY n d).num (cY n d).den):=n1
 generalize (cY n d).num=rn at *
 generalize ((cY n d).den:Int)=rd at *
 refine cH [(0,T2 n d),(1, .sl [])] Tryz.func90 ?_
 refine aA [1,2,4] ?_
 refine a7 [1,4,5] n1 ?_
 refine aR [4,5,10,11,12] ?_
 refine W.block ?_
 refine W.bC (fun k σ=>∃(rows:Pm.Rows) (clk:Nat),σ=⟨fa [(4, .ptr 4 1 0 0),(5, .ptr 5 2 0 0),(11, .int .i64 0),(12, .int .i64 0)],rows,clk⟩∧rows 4=some ⟨1,52,4,[[.bool false, .nil, .bool false, .nil]]⟩∧rows 5=some ⟨2,52,4,[[.bool (decide (rn<0)),us (aY LL rn.natAbs), .bool (decide (rd<0)),us (aY LL rd.natAbs)]]⟩) 0 ?_ ?_
 ·exact⟨_,aD _ [4,5,11,12],_,_,rfl,by simp,by simp⟩
 rintro k _ ⟨rows,clk,rfl,eU,lK⟩
 refine cL [4,5,11,12,13] ?_
 refine bP ?_ ?_<;>intro h
 ·simp at h
 ·refine fC ?_
  refine W.sr ?_
  simp (disch:=omega) [gw,eU,lK]
  refine bM [4] ?_
  exact cR
theorem TM{n d:Int}(hn:sz LL n<1099511627770)(hd:sz LL d<1099511627770):aL env.P 166 [T2 n d] (RT (cY n d)):=by
 have n1:=tQ hn hd
 show aL env.P _ _ (T2 (cY n d).num (cY n d).den)
 replace n1:aL env.P 90 [T2 n d, .sl []] (T2 (cY n d).num (cY n d).den):=n1
 generalize (cY n d).num=rn at *
 generalize ((cY n d).den:Int)=rd at *
 refine cH [(0,T2 n d)] Tryz.func166 ?_
 refine aA [1,2] ?_
 refine a7 [2] n1 ?_
 exact cR
end Go.Proofs.YtiobceocpabjdaaGreat
namespace Go.Proofs.YtiobceocpabjdaaGreat
open Go Pm
open ZX hiding N W
def rZ(st:Nat × Int)(s:Int):Nat × Int:=if s=0 then st else(if st.2≠0∧s≠st.2 then st.1+1 else st.1,s)
def vr(l:List Int):Nat:=(l.foldl rZ (0,0)).1
theorem M0(l:List Int):∀st:Nat × Int,(l.foldl rZ st).1≤st.1+l.length:=by
 induction l with
 | nil=>intro st;simp
 | cons s l ih =>
  intro st
  have h:=ih (rZ st s)
  have:(rZ st s).1≤st.1+1:=by
   unfold rZ
   split
   ·omega
   ·simp only;split<;>omega
  simp only [List.foldl_cons,List.length_cons]
  omega
theorem tR(l:List Int):vr l≤l.length:=by have:=M0 l (0,0);simpa [vr]using this
theorem uT{l:List Int}{i:Nat}(h:i<l.length):(l.take (i+1)).foldl rZ (0,0)=rZ ((l.take i).foldl rZ (0,0)) (nth l i):=by
 rw [List.take_add_one,List.getElem?_eq_getElem h,bZ h,List.foldl_append]
 rfl
theorem xD(l:List Int)(i:Nat):aG (nth l i) = [.int .i64 (nth l i)]:=rfl
theorem M3(l:List Int)(hl:l.length<1099511627776):aL env.P 223 [aQ aG l] (.int .i64 (vr l)):=by
 have hv:vr l=((l.take l.length).foldl rZ (0,0)).1:=by rw [List.take_length];rfl
 rw [hv]
 have hb:∀i,((l.take i).foldl rZ (0,0)).1≤i:=fun i=>by have:=M0 (l.take i) (0,0);simp at this;omega
 have rD:=fun i (h:i<l.length)=>uT h
 generalize (fun i=>(l.take i).foldl rZ (0,0))=F at *
 refine cH [(0,aQ aG l)] Tryz.func223 ?_
 refine aA [0] ?_
 refine aA [0,3,4] ?_
 refine aR [0,3,4,7,8] ?_
 refine W.block ?_
 refine W.bC (fun k σ=>∃(i:Nat) (n:Nat) (s:Int) (rows:Pm.Rows) (clk:Nat),σ=⟨fa [(0,aQ aG l),(3, .int .i64 n),(4, .int .i64 s),(7, .int .i64 l.length),(8, .int .i64 i)],rows,clk⟩∧i+k=l.length∧(l.take i).foldl rZ (0,0)=(n,s)) l.length ?_ ?_
 ·exact⟨_, .refl,0,0,0,_,_,rfl,by omega,by simp⟩
 rintro k _ ⟨i,n,s,rows,clk,rfl,XZ,hF⟩
 have hni:n≤i:=by have:=hb i;rw [hF]at this;exact this
 refine cL [0,3,4,7,8,9] ?_
 refine bP ?_ ?_<;>intro h
 ·have hi:i<l.length:=by simp at h;omega
  have tX:=rD i hi
  rw [hF]at tX
  generalize hx:nth l i=x at *
  refine W.skip ?_
  refine W.iG (fun σ=>∃(n':Nat) (s':Int) (rows:Pm.Rows) (clk:Nat),σ=⟨fa [(0,aQ aG l),(3, .int .i64 n'),(4, .int .i64 s'),(7, .int .i64 l.length),(8, .int .i64 i)],rows,clk⟩∧rZ (n,s) x=(n',s')) ?_ ?_
  ·refine aA [0,3,4,5,7,8] ?_
   refine W.sr ?_
   simp (disch:=omega) [gw,hi,hx,xD]
   refine bM [0,3,4,5,7,8,15] ?_
   refine bP ?_ ?_<;>intro h
   ·have nZ:x≠0:=by simpa using h
    refine W.iF (fun σ=>∃(n':Nat) (rows:Pm.Rows) (clk:Nat),σ=⟨fa [(0,aQ aG l),(3, .int .i64 n'),(5, .int .i64 i),(7, .int .i64 l.length),(8, .int .i64 i)],rows,clk⟩∧rZ (n,s) x=(n',x)) ?_ ?_
    ·refine W.fX (fun σ=>∃(b:Bool) (rows:Pm.Rows) (clk:Nat),σ=⟨fa [(0,aQ aG l),(3, .int .i64 n),(5, .int .i64 i),(7, .int .i64 l.length),(8, .int .i64 i),(25, .bool b)],rows,clk⟩∧b=decide (s≠0∧x≠s)) (fun K hK=>?_) ?_
     ·by_cases R8:s=0
      ·subst R8
       simp (disch:=omega) [gw,hi,hx,xD]
       exact hK _ _ (aD _ [0,3,5,7,8,25]) ⟨_,_,_,rfl,by simp⟩
      ·have KY:(s != 0)=true:=by simpa using R8
       simp (disch:=omega) [gw,hi,hx,xD,KY]
       exact hK _ _ (aD _ [0,3,5,7,8,25]) ⟨_,_,_,rfl,by simp [R8];rfl⟩
     rintro _ ⟨b,rows,clk,rfl,rfl⟩
     refine bP ?_ ?_<;>intro h
     ·have h:=of_decide_eq_true h
      refine W.cG (fun K hK=>?_);simp (disch:=omega) [gw]
      exact hK _ ⟨_,aD _ [0,3,5,7,8],n+1,_,_,rfl,by unfold rZ;rw [if_neg nZ];simp only;rw [if_pos h]⟩
     ·have h:=of_decide_eq_false h
      refine W.skip ?_
      exact⟨_,aD _ [0,3,5,7,8],n,_,_,rfl,by unfold rZ;rw [if_neg nZ];simp only;rw [if_neg h]⟩
    rintro _ ⟨n',rows,clk,rfl,AG⟩
    refine W.cG (fun K hK=>?_);simp (disch:=omega) [gw,hi,hx,xD]
    exact hK _ ⟨_,aD _ [0,3,4,7,8],n',x,_,_,rfl,AG⟩
   ·have nZ:x=0:=by simpa using h
    refine W.skip ?_
    exact⟨_,aD _ [0,3,4,7,8],n,s,_,_,rfl,by unfold rZ;rw [if_pos nZ]⟩
  rintro _ ⟨n',s',rows,clk,rfl,AG⟩
  refine W.cG (fun K hK=>?_);simp (disch:=omega) [gw]
  refine hK _ ⟨k-1,_,aD _ [0,3,4,7,8],by omega,i+1,n',s',_,_,rfl,by omega,by rw [tX,AG]⟩
 ·have hi:i=l.length:=by simp at h;omega
  subst hi
  refine fC ?_
  refine aA [2] ?_
  rw [hF]
  exact cR
def eL(x:List Int):Int:=if x.length%2=0 then -(lead x).sign else(lead x).sign
def eR(x:List Int):Int:=(lead x).sign
def j6(c:List ZX)(n d:Int):List Int:=c.map fun p=>E5 p.l n d
def P7(c:List ZX):List Int:=c.map fun p=>eL p.l
def BD(c:List ZX):List Int:=c.map fun p=>eR p.l
theorem xE{l:List Int}{v:Int}:emap aG l ++ [[.int .i64 v]]=emap aG (l ++ [v]):=by simp [emap,aG]
theorem BE{α:Type}[Inhabited α](f:α→Int){c:List α}{i:Nat}(h:i<c.length):(c.take i).map f ++ [f (nth c i)]=(c.take (i+1)).map f:=by
 rw [List.take_add_one,List.getElem?_eq_getElem h,bZ h,List.map_append];rfl
theorem JE{c:List ZX}{n d:Int}(hl:c.length<1000000)(hS:∀p∈c,aL env.P 77 [PI p.l,R2 n d] (.int .i64 (E5 p.l n d))):aL env.P 151 [aQ zq c,R2 n d] (.int .i64 (vr (j6 c n d))):=by
 have hT:=M3 (j6 c n d) (by simp [j6];omega)
 have eY:(emap aG (j6 c n d)).length=c.length:=by simp [j6,emap]
 have wT:(j6 c n d)=(c.take c.length).map fun p=>E5 p.l n d:=by rw [List.take_length];rfl
 have htG:(j6 c n d).take c.length=j6 c n d:=List.take_of_length_le (by simp [j6])
 generalize vr (j6 c n d)=r at *
 generalize hg:j6 c n d=G at *
 refine cH [(0,aQ zq c),(1,R2 n d)] Tryz.func151 ?_
 refine aA [0,3] ?_
 refine aA [0,3,5] ?_
 refine W.nil 5 5 3 1 (by simp) (by decide) (fun K hK=>?_)
 refine W.lw [0,3,5] hK ?_;clear hK K;simp
 refine aR [0,3,5,8,9] ?_
 refine W.block ?_
 refine W.bC (fun k σ=>∃(i ver v3 e3:Nat) (rows:Pm.Rows) (clk:Nat),σ=⟨fa [(0,aQ zq c),(3, .ptr 3 v3 0 0),(5, .own 5 ver 0 i),(8, .int .i64 c.length),(9, .int .i64 i)],rows,clk⟩∧i+k=c.length ∧
  rows 3=some ⟨v3,e3,4,[[aQ aG (aY DD n.natAbs), .bool (decide (n<0)),aQ aG (aY DD d.natAbs), .bool (decide (d<0))]]⟩∧rows 5=some ⟨ver,3,1,emap aG ((c.take i).map fun p=>E5 p.l n d)⟩) c.length ?_ ?_
 ·exact⟨_, .refl,0,_,_,_,_,_,rfl,by omega,by simp;first | exact⟨rfl,rfl⟩ | exact rfl,by simp [emap]⟩
 rintro k _ ⟨i,ver,v3,e3,rows,clk,rfl,XZ,lJ,lK⟩
 have sC:((c.take i).map fun p=>E5 p.l n d).length=i:=by simp;omega
 refine cL [0,3,5,8,9,10] ?_
 refine bP ?_ ?_<;>intro h
 ·have hi:i<c.length:=by simp at h;omega
  have hSi:=hS _ (bR hi)
  have US:=BE (fun p:ZX=>E5 p.l n d) hi
  generalize hpr:(c.take i).map (fun p=>E5 p.l n d)=pr at *
  generalize hv:E5 (nth c i).l n d=v at *
  have mW:(emap aG pr).length=i:=by simp [emap,sC]
  refine kK ?_
  refine aA [0,3,5,6,8,9] ?_
  refine W.LV (fun K hK=>?_)
  simp (disch:=omega) [gw,hi,lJ,lK]
  refine aC hSi ?_
  simp (disch:=omega) [gw,lK,mW,xE]
  (try (refine cU (of_decide_eq_true (by kernel_rfl)) ?_));(try simp (maxSteps:=4000000) (disch:=omega) [gw,lK,mW,xE]);(repeat rw [if_pos (by kernel_rfl)]);(try simp (maxSteps:=4000000) (disch:=omega) [gw,lK,mW,xE])
  refine W.lw [0,3,5,8,9] hK ?_;clear hK K;simp
  refine W.cG (fun K hK=>?_);simp (disch:=omega) [gw]
  refine hK _ ⟨k-1,_,aD _ [0,3,5,8,9],by omega,i+1,_,v3,e3,_,_,rfl,by omega,by simp [lJ],by simp [xE,US]⟩
 ·have hi:i=c.length:=by simp at h;omega
  subst hi
  rw [←wT]at lK
  refine fC ?_
  refine W.sr ?_
  simp (disch:=omega) [gw,lK,eY,htG]
  refine cV [4] hT ?_
  exact cR
theorem JF{c:List ZX}{n d m e:Int}(hn:sz 2 n≤YY)(hd:sz 2 d≤YY)(hm:sz 2 m≤YY)(he:sz 2 e≤YY)(hl:c.length<1000000)(h1:aL env.P 151 [aQ zq c,R2 n d] (.int .i64 (vr (j6 c n d))))(h2:aL env.P 151 [aQ zq c,R2 m e] (.int .i64 (vr (j6 c m e)))) :
  aL env.P 76 [aQ zq c,R2 n d,R2 m e] (.int .i64 (if m*d<n*e then 0 else(vr (j6 c n d):Int)-vr (j6 c m e))):=by
 have c1:=uQ m e n d hm he hn hd
 have v1:=tR (j6 c n d)
 have v2:=tR (j6 c m e)
 have l1:(j6 c n d).length=c.length:=by simp [j6]
 have l2:(j6 c m e).length=c.length:=by simp [j6]
 generalize vr (j6 c n d)=a at *
 generalize vr (j6 c m e)=b at *
 have hc:(dJ (m*d) (n*e)<0)↔m*d<n*e:=by
  unfold dJ;split
  ·omega
  ·split<;>omega
 generalize m*d=xx at *
 generalize n*e=yy at *
 generalize dJ xx yy=z at *
 refine cH [(0,aQ zq c),(1,R2 n d),(2,R2 m e)] Tryz.func76 ?_
 refine aA [0,4,5] ?_
 refine W.seq ?_
 refine a7 [0,4,5,10] c1 ?_
 refine bP ?_ ?_<;>intro h
 ·have h:z<0:=by simpa using h
  rw [if_pos (hc.1 h)]
  refine aA [6] ?_
  exact cR
 ·have h:¬z<0:=by simpa using h
  rw [if_neg (fun hh=>h (hc.2 hh))]
  refine W.skip ?_
  refine sB ?_
  refine cX h1 ?_
  refine cV [6] h2 ?_
  exact cR
theorem adj{n d:Int}(hn:Z n)(hd:Z d):aL env.P 23 [R2 n d] (T2 n d):=by
 have t1:=tA n hn
 have t2:=tA d hd
 refine cH [(0,R2 n d)] Tryz.func23 ?_
 refine aA [1,2] ?_
 refine sB ?_
 refine cX t1 ?_
 refine cX t2 ?_
 (try (refine cU (of_decide_eq_true (by kernel_rfl)) ?_));(try simp (maxSteps:=4000000) (disch:=omega) [gw]);(repeat rw [if_pos (by kernel_rfl)]);(try simp (maxSteps:=4000000) (disch:=omega) [gw])
 refine bM [2] ?_
 exact cR
abbrev CH(c:List ZX):PV:=.rd [aQ zp c]
theorem JG{l:List Int}(hs:∀s∈l,s = -1∨s=0∨s=1):∀i,i≤l.length→((l.take i).foldl rZ (0,0)).2 = -1∨((l.take i).foldl rZ (0,0)).2=0∨((l.take i).foldl rZ (0,0)).2=1
 | 0,_ => .inr (.inl (by simp))
 | i+1,h=>by
  rw [uT (by omega)]
  have ih:=JG hs i (by omega)
  have:=hs _ (bR (show i<l.length by omega))
  unfold rZ
  split
  ·exact ih
  ·exact this
theorem r6(g:FuncId)(hw:LZ g=false)(cB:List PV)(hc:cB.all fA=true)(c:List ZX)(sg:ZX→Int)(hl:c.length<1000000)(hs:∀p∈c,sg p = -1∨sg p=0∨sg p=1)(hg:∀p∈c,aL env.P g (Po p.l::cB) (.int .i64 (sg p))) :
  aL env.P 219 [CH c, .fn g cB] (.int .i64 (vr (c.map sg))):=by
 have hv:vr (c.map sg)=(((c.map sg).take c.length).foldl rZ (0,0)).1:=by rw [List.take_of_length_le (by simp)];rfl
 rw [hv]
 have hb:∀i,(((c.map sg).take i).foldl rZ (0,0)).1≤i:=fun i=>by have:=M0 ((c.map sg).take i) (0,0);simp at this;omega
 have rD:=fun i (h:i<(c.map sg).length)=>uT h
 have hsg:=JG (l:=c.map sg) (fun s h=>by
  simp only [List.mem_map]at h
  obtain⟨p,hp,rfl⟩:=h
  exact hs p hp)
 have hln:(c.map sg).length=c.length:=by simp
 have zS:∀i,i<c.length→nth (c.map sg) i=sg (nth c i):=fun i hi=>by rw [bZ (by simpa using hi),bZ hi];simp
 refine cH [(0,CH c),(1, .fn g cB)] Tryz.func219 ?_
 refine aA [0,1] ?_
 refine aA [0,1,5,6] ?_
 refine aR [1,5,6,13,14,15] ?_
 refine W.block ?_
 refine W.bC (fun k σ=>∃(i:Nat) (n:Nat) (s:Int) (rows:Pm.Rows) (clk:Nat),σ=⟨fa [(1, .fn g cB),(5, .int .i64 n),(6, .int .i64 s),(13,aQ zp c),(14, .int .i64 c.length),(15, .int .i64 i)],rows,clk⟩∧i+k=c.length∧((c.map sg).take i).foldl rZ (0,0)=(n,s)) c.length ?_ ?_
 ·exact⟨_, .refl,0,0,0,_,_,rfl,by omega,by simp⟩
 rintro k _ ⟨i,n,s,rows,clk,rfl,XZ,hF⟩
 have hni:n≤i:=by have:=hb i;rw [hF]at this;exact this
 have hsv:=hsg i (by omega)
 rw [hF]at hsv
 simp only at hsv
 refine cL [1,5,6,13,14,15,16] ?_
 refine bP ?_ ?_<;>intro h
 ·have hi:i<c.length:=by simp at h;omega
  have tX:=rD i (by omega)
  have hgi:=hg _ (bR hi)
  have hxv:=hs _ (bR hi)
  rw [hF,zS i hi]at tX
  generalize hx:sg (nth c i)=x at *
  refine W.skip ?_
  refine W.iG (fun σ=>∃(n':Nat) (s':Int) (rows:Pm.Rows) (clk:Nat),σ=⟨fa [(1, .fn g cB),(5, .int .i64 n'),(6, .int .i64 s'),(13,aQ zp c),(14, .int .i64 c.length),(15, .int .i64 i)],rows,clk⟩∧rZ (n,s) x=(n',s')) ?_ ?_
  ·refine W.sr ?_
   simp (disch:=omega) [gw,hi]
   refine bM [1,5,6,8,13,14,15] ?_
   refine W.sr ?_
   simp only [LZ]at hw
   simp (disch:=omega) [gw,hw,hc]
   refine cV [1,5,6,9,13,14,15] hgi ?_
   refine aR [1,5,6,9,13,14,15,23] ?_
   refine bP ?_ ?_<;>intro h
   ·have nZ:x=0:=by simpa using h
    refine fC ?_
    exact⟨_,aD _ [1,5,6,13,14,15],n,s,_,_,rfl,by unfold rZ;rw [if_pos nZ]⟩
   ·have nZ:x≠0:=by simpa using h
    refine W.skip ?_
    refine W.iF (fun σ=>∃(n':Nat) (rows:Pm.Rows) (clk:Nat),σ=⟨fa [(1, .fn g cB),(5, .int .i64 n'),(9, .int .i64 x),(13,aQ zp c),(14, .int .i64 c.length),(15, .int .i64 i)],rows,clk⟩∧rZ (n,s) x=(n',x)) ?_ ?_
    ·refine aA [1,5,9,13,14,15,27] ?_
     refine bP ?_ ?_<;>intro h
     ·have h:s = -x:=by simpa using h
      refine W.cG (fun K hK=>?_);simp (disch:=omega) [gw]
      exact hK _ ⟨_,aD _ [1,5,9,13,14,15],n+1,_,_,rfl,by unfold rZ;rw [if_neg nZ];simp only;rw [if_pos ⟨by omega,by omega⟩]⟩
     ·have h:¬s = -x:=by simpa using h
      refine W.skip ?_
      exact⟨_,aD _ [1,5,9,13,14,15],n,_,_,rfl,by unfold rZ;rw [if_neg nZ];simp only;rw [if_neg (fun hh=>by obtain⟨h1,h2⟩:=hh;omega)]⟩
    rintro _ ⟨n',rows,clk,rfl,AG⟩
    refine W.cG (fun K hK=>?_);simp (disch:=omega) [gw]
    exact hK _ ⟨_,aD _ [1,5,6,13,14,15],n',x,_,_,rfl,AG⟩
  rintro _ ⟨n',s',rows,clk,rfl,AG⟩
  refine W.cG (fun K hK=>?_);simp (disch:=omega) [gw]
  refine hK _ ⟨k-1,_,aD _ [1,5,6,13,14,15],by omega,i+1,n',s',_,_,rfl,by omega,by rw [tX,AG]⟩
 ·have hi:i=c.length:=by simp at h;omega
  subst hi
  refine fC ?_
  refine aA [4] ?_
  rw [hF]
  exact cR
theorem Z0{s k u:Nat}{n d:Int}(hn:sz LL n≤u)(hd:sz LL d≤u)(hu:1≤u):∀ {x:List Int},Bd LL s k x→sz LL (hm n d x).1≤s+x.length*(u+1)∧sz LL (hm n d x).2≤x.length*u+1
 | [],_=>⟨by show sz LL 0≤_;rw [show sz LL 0=0 by decide];omega,by show sz LL 1≤_;exact Nat.le_trans (dN (k:=1) fR (by decide)) (by omega)⟩
 | a::l,h=>by
  obtain⟨h1,h2⟩:=Z0 hn hd hu (x:=l) ⟨Nat.le_trans (by simp) h.len,fun c hc=>h.sz c (by simp [hc])⟩
  have ha:=h.sz a (by simp)
  have e:(a::l).length*u=l.length*u+u:=by rw [List.length_cons,Nat.add_mul];omega
  have e':(a::l).length*(u+1)=l.length*u+l.length+u+1:=by rw [List.length_cons,Nat.add_mul,Nat.mul_add];omega
  have e'':l.length*(u+1)=l.length*u+l.length:=by rw [Nat.mul_add];omega
  refine⟨?_,?_⟩
  ·have g1:=b5 (b:=LL) fR h1 hn
   have g2:=b5 (b:=LL) fR ha h2
   have:=l6 (b:=LL) fR (Nat.le_trans g1 (Nat.le_max_left _ (s+(l.length*u+1)))) (Nat.le_trans g2 (Nat.le_max_right (s+l.length*(u+1)+u) _))
   refine Nat.le_trans this ?_
   rw [e',e'']
   omega
  ·have:=b5 (b:=LL) fR h2 hd
   rw [e]
   exact Nat.le_trans this (by omega)
theorem TN{x:List Int}{n d:Int}{s k u:Nat}(hx:Bd LL s k x)(hn:sz LL n≤u)(hd:sz LL d≤u)(hu:1≤u)(hk:k<1099511627776)(hB:s+k*(u+1)+u<500000000000):aL env.P 167 [Po x,I n,I d] (I (hm n d x).1)∧Sz (hm n d x).1:=by
 have hl:=hx.len
 have hO:=yR 1 (by decide) (by decide)
 have bd:=fun i=>Z0 (s:=s) (k:=k) (x:=x.drop i) hn hd hu ⟨by simp;omega,fun c hc=>hx.sz c (List.mem_of_mem_drop hc)⟩
 have hle:∀i,(x.drop i).length*(u+1)≤k*(u+1):=fun i=>Nat.mul_le_mul_right _ (by simp;omega)
 have ZP:∀i,(x.drop i).length*u≤(x.drop i).length*(u+1):=fun i=>Nat.mul_le_mul_left _ (by omega)
 have step:∀i,i<x.length→hm n d (x.drop i)=((hm n d (x.drop (i+1))).1*n+nth x i*(hm n d (x.drop (i+1))).2,(hm n d (x.drop (i+1))).2*d):=fun i hi=>by
  rw [List.drop_eq_getElem_cons hi,bZ hi];rfl
 have ZQ:hm n d (x.drop x.length)=(0,1):=by rw [List.drop_length];rfl
 have h0:hm n d (x.drop 0)=hm n d x:=rfl
 have hz:Sz (hm n d x).1:=by have:=(bd 0).1;have:=hle 0;rw [h0]at *;show _<_;omega
 refine⟨?_,hz⟩
 have M:∀i,i<x.length→aL env.P 66 [I (hm n d (x.drop (i+1))).1,I n] (I ((hm n d (x.drop (i+1))).1*n))∧aL env.P 66 [I (nth x i),I (hm n d (x.drop (i+1))).2] (I (nth x i*(hm n d (x.drop (i+1))).2)) ∧
   aL env.P 65 [I ((hm n d (x.drop (i+1))).1*n),I (nth x i*(hm n d (x.drop (i+1))).2)] (I (hm n d (x.drop i)).1)∧aL env.P 66 [I (hm n d (x.drop (i+1))).2,I d] (I (hm n d (x.drop i)).2):=fun i hi=>by
  obtain⟨b1,b2⟩:=bd (i+1)
  have l1:=hle (i+1)
  have l2:=ZP (i+1)
  have ha:=hx.sz _ (bR hi)
  have g1:=b5 (b:=LL) fR b1 hn
  have g2:=b5 (b:=LL) fR ha b2
  have zz:∀ {v:Int},sz LL v<1099511627776→Sz v:=fun h=>h
  have e:=step i hi
  rw [e]
  exact⟨s6 (zz (by omega)) (zz (by omega)),s6 (zz (by omega)) (zz (by omega)),OX (zz (by omega)) (zz (by omega)),s6 (zz (by omega)) (zz (by omega))⟩
 clear bd hle ZP step hz
 generalize hm n d x=r0 at *
 refine cH [(0,Po x),(1,I n),(2,I d)] Tryz.func167 ?_
 refine aA [0,4,5,6] ?_
 refine aA [0,4,5,6,7] ?_
 refine a7 [0,4,5,6,7,8] hO ?_
 refine aR [0,4,5,6,7,8,9] ?_
 refine W.row (id:=7) (els:=[[.bool false, .nil]]) [[.bool (decide ((0:Int)<0)),us (aY LL (0:Int).natAbs)]] (by simp;first | exact⟨rfl,rfl,rfl⟩ | exact⟨rfl,rfl⟩ | rfl) ⟨⟨.inl rfl, .inr ⟨rfl,rfl⟩,trivial⟩,trivial⟩ ?_
 refine W.block ?_
 refine W.bC (fun k σ=>∃(v4 v5 v6 v7 v8 e4 e5 e6 e7 e8:Nat) (rows:Pm.Rows) (clk:Nat),σ=⟨fa [(0,Po x),(4, .ptr 4 v4 0 0),(5, .ptr 5 v5 0 0),(6, .ptr 6 v6 0 0),(7, .ptr 7 v7 0 0),(8, .ptr 8 v8 0 0),(9, .int .i64 ((k:Int)-1))],rows,clk⟩∧k≤x.length ∧
  rows 4=some ⟨v4,e4,2,[[.bool (decide (n<0)),us (aY LL n.natAbs)]]⟩∧rows 5=some ⟨v5,e5,2,[[.bool (decide (d<0)),us (aY LL d.natAbs)]]⟩∧rows 6=some ⟨v6,e6,2,[[.bool false, .nil]]⟩ ∧
  rows 7=some ⟨v7,e7,2,[[.bool (decide ((hm n d (x.drop k)).1<0)),us (aY LL (hm n d (x.drop k)).1.natAbs)]]⟩ ∧
  rows 8=some ⟨v8,e8,2,[[.bool (decide ((hm n d (x.drop k)).2<0)),us (aY LL (hm n d (x.drop k)).2.natAbs)]]⟩) x.length ?_ ?_
 ·exact⟨_, .refl,_,_,_,_,_,_,_,_,_,_,_,_,rfl,Nat.le_refl _,by simp;(first | exact⟨rfl,rfl⟩ | rfl),by simp;(first | exact⟨rfl,rfl⟩ | rfl),by simp;(first | exact⟨rfl,rfl⟩ | rfl),by rw [ZQ];simp;(first | exact⟨rfl,rfl⟩ | rfl),by rw [ZQ];simp;(first | exact⟨rfl,rfl⟩ | rfl)⟩
 rintro k _ ⟨v4,v5,v6,v7,v8,e4,e5,e6,e7,e8,rows,clk,rfl,hkl,eU,lK,l8,XP,wO⟩
 refine aR [0,4,5,6,7,8,9,15] ?_
 refine bP ?_ ?_<;>intro h
 ·have sL:0<k:=by simp at h;omega
  obtain⟨k,rfl⟩:∃j,k=j+1:=⟨k-1,by omega⟩
  obtain⟨m1,m2,m3,m4⟩:=M k (by omega)
  generalize hm n d (x.drop (k+1))=A at *
  have e1:(((k+1:Nat):Int)-1).toNat=k:=by omega
  refine kK ?_
  refine W.sd ?_
  simp (disch:=omega) [gw,eU,XP]
  refine aC m1 ?_
  simp (disch:=omega) [gw,wO]
  refine cX m2 ?_
  refine aC m3 ?_
  simp (disch:=omega) [gw,XP]
  (try (refine cU (of_decide_eq_true (by kernel_rfl)) ?_));(try simp (maxSteps:=4000000) (disch:=omega) [gw,XP]);(repeat rw [if_pos (by kernel_rfl)]);(try simp (maxSteps:=4000000) (disch:=omega) [gw,XP])
  refine bM [0,4,5,6,7,8,9] ?_
  refine W.cG (fun K hK=>?_)
  simp (disch:=omega) [gw,wO,lK]
  refine aC m4 ?_
  simp (disch:=omega) [gw,wO]
  refine W.lw [0,4,5,6,7,8,9] hK ?_;clear hK K;simp
  refine W.cG (fun K hK=>?_);simp (disch:=omega) [gw]
  refine hK _ ⟨k,_,aD _ [0,4,5,6,7,8,9],by omega,v4,v5,v6,v7,v8,_,_,_,_,_,_,_,rfl,by omega,by simp [eU];exact rfl,by simp [lK];exact rfl,by simp [l8];exact rfl,by simp;exact rfl,by simp;exact rfl⟩
 ·have sL:k=0:=by simp at h;omega
  subst sL
  rw [h0]at XP
  refine fC ?_
  refine W.sr ?_
  simp (disch:=omega) [gw,XP,l8]
  refine bM [6] ?_
  exact cR
theorem uF(v:Int):dJ v 0=v.sign:=by
 rcases Int.lt_trichotomy v 0 with h | h | h
 ·rw [Int.sign_eq_neg_one_of_neg h,lF h]
 ·subst h;decide
 ·rw [Int.sign_eq_one_of_pos h,lG h]
theorem C3{x:List Int}{n d:Int}{s k u:Nat}(hx:Bd LL s k x)(cx:Cn x)(hn:sz LL n≤u)(hd:sz LL d≤u)(hu:1≤u)(hk:k<1099511627774)(hu2:u<500000000000)(hB:s+k*(u+1)+u<500000000000){q:Rat}(hq:cY n d=q)(sq:sz LL q.num≤u∧sz LL (q.den:Int)≤u):aL env.P 87 [Po x,T2 n d] (.int .i64 (E5 x q.num q.den)):=by
 have p1:=TM (n:=n) (d:=d) (Nat.lt_of_le_of_lt hn (by omega)) (Nat.lt_of_le_of_lt hd (by omega))
 rw [hq]at p1
 have n1:=gC (x:=x) (PB.of hx (by omega) (by omega))
 rw [show aM x=x from cx]at n1
 obtain⟨hV,hz⟩:=TN hx sq.1 sq.2 hu (by omega) hB
 have c1:=XS (x:=(hm q.num q.den x).1) (y:=0) hz (show sz LL 0<_ by decide)
 rw [uF,show(hm q.num q.den x).1.sign=E5 x q.num q.den from rfl]at c1
 replace p1:aL env.P 166 [T2 n d] (T2 q.num q.den):=p1
 generalize E5 x q.num q.den=r at *
 generalize (hm q.num q.den x).1=v at *
 generalize q.num=qn at *
 generalize (q.den:Int)=qd at *
 refine cH [(0,Po x),(1,T2 n d)] Tryz.func87 ?_
 refine aA [0,3] ?_
 refine a7 [0,3] p1 ?_
 refine sB ?_
 refine cX n1 ?_
 refine cX hV ?_
 refine cV [4] c1 ?_
 exact cR
@[simp] theorem abH{l:List PV}:fA (.rd l)=true:=rfl
@[simp] theorem WY{l:List PV}:bU (.rd l)=true:=rfl
@[simp] theorem abI{l:List PV}:aU (.rd l) = []:=rfl
@[simp] theorem ari{l:List PV}:dG (.rd l) = []:=rfl
@[simp] theorem awK{rows:Pm.Rows}{l:List PV}:fz rows (.rd l) = .rd l:=rfl
@[simp] theorem awL{rows:Pm.Rows}{l:List PV}:pz rows (.rd l) = .rd l:=rfl
theorem TO(v:Int):aL env.P 258 [I v] (.int .i64 v.sign):=by
 have h1:=X6 (decide (v<0)) (aY LL v.natAbs)
 have e:(if (aY LL v.natAbs).length=0 then 0 else if decide (v<0)=true then -1 else 1:Int)=v.sign:=by
  by_cases h:v=0
  ·subst h;decide
  ·have:aY LL v.natAbs ≠ []:=fun h2=>h (by have:=jH fR v.natAbs;rw [h2]at this;simp [V]at this;omega)
   have h3:=List.length_pos_iff.2 this
   rw [if_neg (by omega)]
   rcases Int.lt_trichotomy v 0 with h4 | h4 | h4
   ·rw [if_pos (by simpa using h4),Int.sign_eq_neg_one_of_neg h4]
   ·exact absurd h4 h
   ·rw [if_neg (by simp;omega),Int.sign_eq_one_of_pos h4]
 rw [e]at h1;exact h1
theorem C4{x:List Int}(hx:PB x)(cx:Cn x):aL env.P 221 [Po x] (.dX [.int .i64 (eL x), .int .i64 (eR x)]):=by
 have n1:=gC hx
 rw [show aM x=x from cx]at n1
 have l1:=jN hx cx
 have hS:=TO (lead x)
 have hl:x.length<1099511627776:=by have:=hx.A8.len;simpa using this
 have hL:eL x=if x.length%2=0 then -(lead x).sign else(lead x).sign:=rfl
 have hR:eR x=(lead x).sign:=rfl
 have hs : -1≤(lead x).sign∧(lead x).sign≤1:=by
  rcases Int.lt_trichotomy (lead x) 0 with h | h | h
  ·rw [Int.sign_eq_neg_one_of_neg h];decide
  ·rw [h];decide
  ·rw [Int.sign_eq_one_of_pos h];decide
 generalize (lead x).sign=s at *
 generalize lead x=lx at *
 generalize eL x=a at *
 generalize eR x=b at *
 refine cH [(0,Po x)] Tryz.func221 ?_
 refine aA [0] ?_
 refine a7 [0] n1 ?_
 refine jM ?_
 refine cX l1 ?_
 refine cV [0,3] hS ?_
 refine W.seq ?_
 refine W.fX (fun σ=>∃(q:Bool) (rows:Pm.Rows) (clk:Nat),σ=⟨fa [(3, .int .i64 s),(12, .bool q)],rows,clk⟩∧q=decide (x.length%2=0)) (fun K hK=>?_) ?_
 ·simp (disch:=omega) [gw]
  exact hK _ _ (aD _ [3,12]) ⟨_,_,_,rfl,by rw [Bool.eq_iff_iff];simp;omega⟩
 rintro _ ⟨q,rows,clk,rfl,rfl⟩
 refine bP ?_ ?_<;>intro h
 ·rw [if_pos (of_decide_eq_true h)]at hL
  subst hL hR
  refine aA [2,3] ?_
  exact cR
 ·rw [if_neg (of_decide_eq_false h)]at hL
  subst hL hR
  refine W.skip ?_
  refine aA [2,3] ?_
  exact cR
theorem M4{x:List Int}(hx:PB x)(cx:Cn x):aL env.P 220 [Po x] (.int .i64 (eL x)):=by
 have h1:=C4 hx cx
 generalize eL x=a at *
 generalize eR x=b at *
 refine cH [(0,Po x)] Tryz.func220 ?_
 refine aA [0] ?_
 refine a7 [3] h1 ?_
 refine aA [2] ?_
 exact cR
theorem TP{x:List Int}(hx:PB x)(cx:Cn x):aL env.P 222 [Po x] (.int .i64 (eR x)):=by
 have h1:=C4 hx cx
 generalize eL x=a at *
 generalize eR x=b at *
 refine cH [(0,Po x)] Tryz.func222 ?_
 refine aA [0] ?_
 refine a7 [4] h1 ?_
 refine aA [2] ?_
 exact cR
theorem ai2(v:Int):v.sign = -1∨v.sign=0∨v.sign=1:=by
 rcases Int.lt_trichotomy v 0 with h | h | h
 ·exact .inl (Int.sign_eq_neg_one_of_neg h)
 ·rw [h];exact .inr (.inl rfl)
 ·exact .inr (.inr (Int.sign_eq_one_of_pos h))
theorem eL3(x:List Int):eL x = -1∨eL x=0∨eL x=1:=by
 have:=ai2 (lead x)
 unfold eL;split<;>omega
theorem M5{c:List ZX}(hl:c.length<1000000){n d:Int}{q:Rat}(hS:∀p∈c,aL env.P 87 [Po p.l,T2 n d] (.int .i64 (E5 p.l q.num q.den))):aL env.P 168 [CH c,T2 n d] (.int .i64 (vr (j6 c q.num q.den))):=by
 have hT1:∀p∈c,aL env.P 232 [Po p.l, .rd [.bool (decide (n<0)),us (aY LL n.natAbs), .bool (decide (d<0)),us (aY LL d.natAbs)]] (.int .i64 (E5 p.l q.num q.den)):=fun p hp=>by
  have h1:=hS p hp
  generalize E5 p.l q.num q.den=r at *
  generalize p.l=x at *
  refine cH [(0,Po x),(1, .rd [.bool (decide (n<0)),us (aY LL n.natAbs), .bool (decide (d<0)),us (aY LL d.natAbs)])] Tryz.func232 ?_
  refine aA [0,1] ?_
  refine a7 [3] h1 ?_
  exact cR
 have h1:=r6 232 rfl [.rd [.bool (decide (n<0)),us (aY LL n.natAbs), .bool (decide (d<0)),us (aY LL d.natAbs)]] rfl c (fun p=>E5 p.l q.num q.den) hl (fun p hp=>ai2 _) hT1
 rw [show c.map (fun p=>E5 p.l q.num q.den)=j6 c q.num q.den from rfl]at h1
 generalize vr (j6 c q.num q.den)=r at *
 refine cH [(0,CH c),(1,T2 n d)] Tryz.func168 ?_
 refine aA [0,3] ?_
 refine a7 [4] h1 ?_
 exact cR
theorem E9{c:List ZX}(hl:c.length<1000000){n d m e:Int}{p q:Rat}{z:Int}(hz:aL env.P 86 [T2 m e,T2 n d] (.int .i64 z))(h1:aL env.P 168 [CH c,T2 n d] (.int .i64 (vr (j6 c p.num p.den))))(h2:aL env.P 168 [CH c,T2 m e] (.int .i64 (vr (j6 c q.num q.den)))) :
  aL env.P 88 [CH c,T2 n d,T2 m e] (.int .i64 (if z<0 then 0 else(vr (j6 c p.num p.den):Int)-vr (j6 c q.num q.den))):=by
 have v1:=tR (j6 c p.num p.den)
 have v2:=tR (j6 c q.num q.den)
 have l1:(j6 c p.num p.den).length=c.length:=by simp [j6]
 have l2:(j6 c q.num q.den).length=c.length:=by simp [j6]
 generalize vr (j6 c p.num p.den)=a at *
 generalize vr (j6 c q.num q.den)=b at *
 refine cH [(0,CH c),(1,T2 n d),(2,T2 m e)] Tryz.func88 ?_
 refine aA [0,4,5] ?_
 refine W.seq ?_
 refine a7 [0,4,5,10] hz ?_
 refine bP ?_ ?_<;>intro h
 ·have h:z<0:=by simpa using h
  rw [if_pos h]
  refine aA [6] ?_
  exact cR
 ·have h:¬z<0:=by simpa using h
  rw [if_neg h]
  refine W.skip ?_
  refine sB ?_
  refine cX h1 ?_
  refine cV [6] h2 ?_
  exact cR
section
variable {c:List ZX} (hl:c.length<1000000) (hb:∀p∈c,PB p.l)
include hl hb
theorem TQ:aL env.P 149 [CH c] (.int .i64 (vr (P7 c))):=by
 have h1:=r6 220 rfl [] rfl c (fun p=>eL p.l) hl (fun p hp=>eL3 p.l) (fun p hp=>M4 (hb p hp) p.c)
 rw [show c.map (fun p=>eL p.l)=P7 c from rfl]at h1
 generalize vr (P7 c)=r at *
 refine cH [(0,CH c)] Tryz.func149 ?_
 refine aA [0] ?_
 refine a7 [2] h1 ?_
 exact cR
theorem JH:aL env.P 150 [CH c] (.int .i64 (vr (BD c))):=by
 have h1:=r6 222 rfl [] rfl c (fun p=>eR p.l) hl (fun p hp=>ai2 _) (fun p hp=>TP (hb p hp) p.c)
 rw [show c.map (fun p=>eR p.l)=BD c from rfl]at h1
 generalize vr (BD c)=r at *
 refine cH [(0,CH c)] Tryz.func150 ?_
 refine aA [0] ?_
 refine a7 [2] h1 ?_
 exact cR
theorem M6:aL env.P 74 [CH c] (.int .i64 ((vr (P7 c):Int)-vr (BD c))):=by
 have h1:=TQ hl hb
 have h2:=JH hl hb
 have v1:=tR (P7 c)
 have v2:=tR (BD c)
 have l1:(P7 c).length=c.length:=by simp [P7]
 have l2:(BD c).length=c.length:=by simp [BD]
 generalize vr (P7 c)=a at *
 generalize vr (BD c)=b at *
 refine cH [(0,CH c)] Tryz.func74 ?_
 refine aA [0] ?_
 refine jM ?_
 refine cX h1 ?_
 refine cV [2] h2 ?_
 exact cR
theorem zV{n d:Int}{q:Rat}(h1:aL env.P 168 [CH c,T2 n d] (.int .i64 (vr (j6 c q.num q.den)))):aL env.P 89 [CH c,T2 n d] (.int .i64 ((vr (j6 c q.num q.den):Int)-vr (BD c))):=by
 have h2:=JH hl hb
 have v1:=tR (j6 c q.num q.den)
 have v2:=tR (BD c)
 have l1:(j6 c q.num q.den).length=c.length:=by simp [j6]
 have l2:(BD c).length=c.length:=by simp [BD]
 generalize vr (j6 c q.num q.den)=a at *
 generalize vr (BD c)=b at *
 refine cH [(0,CH c),(1,T2 n d)] Tryz.func89 ?_
 refine aA [0,3] ?_
 refine jM ?_
 refine cX h1 ?_
 refine cV [4] h2 ?_
 exact cR
end
theorem JI{a:ZX}(ha:a≠0):Nf (sq a)∧dv (sq a) (nf a):=by
 have nA:=lN ha
 unfold sq
 split
 ·exact⟨nA,dv.refl _⟩
 ·exact⟨(gW nA 0).1,E1 nA 0⟩
theorem tY.sqb{s n:Nat}{a:ZX}(h:tY s n a)(ha:a≠0):BZ (qb s n) n (sq a):=h.nfz.dv (lN ha) (JI ha).1 (JI ha).2
theorem tY.ch{s n:Nat}{a:ZX}(h:tY s n a)(ha:a≠0)(JA:1≤n):Ch (qb s n) n (sq a):=⟨h.sqb ha,h.hn,JA,Nat.le_trans (Nat.mul_le_mul_right _ (by omega)) h.hC⟩
theorem M7{s n:Nat}{a:ZX}(h:tY s n a)(ha:a≠0)(JA:1≤n)(h1:1≤s):aL env.P 81 [PI a.l] (aQ zq (bE (sq a))):=
 wB (tL h h1) (h.ch ha JA) (by unfold qb;omega)
theorem mU{v:Int}{k:Nat}(h:v.natAbs<2^k):sz 2 v≤k:=dN (by decide) h
def wS(n d:Int):Rat:=cY (n%61-30) (1+d%6)
theorem C5(n d:Int)(hn : -9223372036854775808≤n∧n<9223372036854775808)(hd : -9223372036854775808≤d∧d<9223372036854775808):aL env.P 25 [.int .i64 n, .int .i64 d] (RR (wS n d)):=by
 have w1:=nO n 61 hn (by decide) (by decide)
 have w2:=nO d 6 hd (by decide) (by decide)
 have h1:=Int.emod_nonneg n (show (61:Int)≠0 by decide)
 have h2:=Int.emod_lt_of_pos n (show (0:Int)<61 by decide)
 have h3:=Int.emod_nonneg d (show (6:Int)≠0 by decide)
 have h4:=Int.emod_lt_of_pos d (show (0:Int)<6 by decide)
 have o1:=nN (n%61-30) (1+d%6) (by omega) (by omega)
 have e:cY (n%61-30) (1+d%6)=wS n d:=rfl
 rw [e]at o1
 generalize wS n d=q at *
 generalize n%61=a at *
 generalize d%6=b at *
 rw [eP]at *
 generalize q.num=qn at *
 generalize (q.den:Int)=qd at *
 refine cH [(0, .int .i64 n),(1, .int .i64 d)] Tryz.func25 ?_
 refine aA [0,1,4] ?_
 refine jM ?_
 refine cX w1 ?_
 refine cX w2 ?_
 refine cV [4] o1 ?_
 exact cR
end Go.Proofs.YtiobceocpabjdaaGreat
