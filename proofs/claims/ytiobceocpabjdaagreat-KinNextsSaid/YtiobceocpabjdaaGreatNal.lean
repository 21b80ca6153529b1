import Derived.Test.YtiobceocpabjdaaGreatNaj
import Derived.Test.YtiobceocpabjdaaGreatNak
set_option linter.unusedSimpArgs false
set_option linter.unusedVariables false
namespace Pm
variable {x M y:Rat}
def qv(t:Rat):List Int->Rat
 | []=>0
 | a::l=>(a:Rat)+t*qv t l
section
variable {t:Rat}
theorem zT{α:Type}(f g:α->Int):∀l:List α,qv t (l.map fun k=>f k+g k)=qv t (l.map f)+qv t (l.map g)
 | []=>by simp only [List.map_nil,qv];grind
 | x::l=>by simp only [List.map_cons,qv,zT f g l,Rat.intCast_add];grind
theorem JB{α:Type}(c:Int)(f:α->Int):∀l:List α,qv t (l.map fun k=>f k*c)=qv t (l.map f)*c
 | []=>by simp only [List.map_nil,qv];grind
 | x::l=>by simp only [List.map_cons,qv,JB c f l,Rat.intCast_mul];grind
theorem sG:∀(a:List Int) (n:Nat),qv t (a++List.replicate n 0)=qv t a
 | [],0=>rfl
 | [],n+1=>by
  have:=sG [] n
  simp only [List.nil_append]at this
  simp only [List.nil_append,List.replicate_succ,qv,this,Rat.intCast_zero];grind
 | x::a,n=>by simp only [List.cons_append,qv,sG a n]
theorem BX:∀l:List Int,qv t (aZ l)=qv t l
 | []=>rfl
 | x::l=>by
  have ih:=BX l
  simp only [aZ]
  split
  ·rename_i h
   rw [h.1]at ih
   simp only [qv]at ih |-
   rw [<-ih,h.2,Rat.intCast_zero];grind
  ·simp only [qv,ih]
theorem pQ{x:List Int}{n:Nat}(h:x.length<=n):qv t ((List.range n).map (nth x))=qv t x:=by
 rw [sV h,sG]
theorem ab3(x y:List Int):qv t (kC x y)=qv t x+qv t y:=by
 rw [kC,BX,zT,pQ aA,pQ aA]
theorem amD(x y:List Int):qv t (iB x y)=qv t x-qv t y:=by
 rw [iB,BX]
 have h1:=zT (t:=t) (fun k=>nth x k-nth y k) (nth y) (List.range (max x.length y.length))
 have h2:(fun k=>nth x k-nth y k+nth y k)=nth x:=by funext k;omega
 rw [h2,pQ aA,pQ aA]at h1
 grind
theorem VA:∀x y:List Int,qv t (jJ x y)=qv t x*qv t y
 | [],y=>by simp only [jJ,qv];grind
 | a::x,y=>by
  have:=JB (t:=t) a id y
  simp only [id_eq,List.map_id_fun]at this
  rw [jJ,ab3,this]
  simp only [qv,VA x y,Rat.intCast_zero]
  grind
theorem amE(x y:List Int):qv t (cB x y)=qv t x*qv t y:=by rw [cB,BX,VA]
end
namespace ZX
section
variable {t:Rat}
def e(t:Rat)(x:ZX):Rat:=qv t x.l
theorem apn(x y:ZX):e t (x+y)=e t x+e t y:=ab3 _ _
theorem kH(x y:ZX):e t (x*y)=e t x*e t y:=amE _ _
theorem azq(x y:ZX):e t (x-y)=e t x-e t y:=amD _ _
theorem as0(x:List Int):e t (of x)=qv t x:=BX x
theorem CV(c:Int):e t (K c)=c:=by
 rw [K,as0]
 simp only [qv];grind
theorem ab4:e t 1=1:=CV 1
end
end ZX
def Ab(x M:Rat):Prop := -M<=x∧x<=M
def mU(e x:Rat):Prop:=x <= -e∨e<=x
theorem Ab.mono{N:Rat}(h:Ab x M)(hMN:M<=N):Ab x N:=by
 obtain⟨h1,h2⟩:=h
 exact⟨aT,aT⟩
theorem Ab.add{N:Rat}(h:Ab x M)(h':Ab y N):Ab (x+y) (M+N):=by
 obtain⟨h1,h2⟩:=h
 obtain⟨h3,h4⟩:=h'
 exact⟨aT,aT⟩
theorem Ab.mul{N:Rat}(h:Ab x M)(h':Ab y N):Ab (x*y) (M*N):=by
 obtain⟨h1,h2⟩:=h
 obtain⟨h3,h4⟩:=h'
 have p1:=Rat.mul_nonneg (show 0<=M-x by grind) (show 0<=N-y by grind)
 have p2:=Rat.mul_nonneg (show 0<=M+x by grind) (show 0<=N+y by grind)
 have p3:=Rat.mul_nonneg (show 0<=M-x by grind) (show 0<=N+y by grind)
 have p4:=Rat.mul_nonneg (show 0<=M+x by grind) (show 0<=N-y by grind)
 exact⟨aT,aT⟩
theorem mU.mono{e f:Rat}(h:mU e x)(hf:f<=e):mU f x:=by
 rcases h with h | h
 ·left;grind
 ·right;grind
theorem F7{e:Rat}(h:¬mU e x) : -e<x∧x<e:=by
 constructor
 ·exact Rat.not_le.1 fun h1=>h (.inl h1)
 ·exact Rat.not_le.1 fun h1=>h (.inr h1)
theorem K8{e:Rat}(h:¬mU e x):Ab x e:=by
 obtain⟨h1,h2⟩:=F7 h
 exact⟨Rat.le_of_lt h1,Rat.le_of_lt h2⟩
def cP(x:Rat):Int:=if x<0 then -1 else if 0<x then 1 else 0
theorem i0(h:x<0):cP x = -1:=if_pos h
theorem fZ(h:0<x):cP x=1:=by
 rw [cP,if_neg aT,if_pos h]
theorem kI:cP 0=0:=by decide
theorem dC(x:Rat):(x<0∧cP x = -1)∨(x=0∧cP x=0)∨(0<x∧cP x=1):=by
 by_cases h:x<0
 ·exact .inl ⟨h,i0 h⟩
 ·by_cases h2:0<x
  ·exact .inr (.inr ⟨h2,fZ h2⟩)
  ·have:x=0:=by grind
   subst this
   exact .inr (.inl ⟨rfl,kI⟩)
theorem rR(x:Rat):cP x = -1∨cP x=0∨cP x=1:=by
 rcases dC x with h | h | h
 ·exact .inl h.2
 ·exact .inr (.inl h.2)
 ·exact .inr (.inr h.2)
theorem ZJ:cP x = -1↔x<0:=by
 rcases dC x with ⟨h,e⟩ | ⟨h,e⟩ | ⟨h,e⟩<;>rw [e]<;>constructor<;>intro h2<;>first | omega | grind
theorem ZK:cP x=1↔0<x:=by
 rcases dC x with ⟨h,e⟩ | ⟨h,e⟩ | ⟨h,e⟩<;>rw [e]<;>constructor<;>intro h2<;>first | omega | grind
theorem fT:cP x=0↔x=0:=by
 rcases dC x with ⟨h,e⟩ | ⟨h,e⟩ | ⟨h,e⟩<;>rw [e]<;>constructor<;>intro h2<;>first | omega | grind
theorem xQ(x y:Rat):cP (x*y)=cP x*cP y:=by
 rcases dC x with ⟨h,e⟩ | ⟨h,e⟩ | ⟨h,e⟩<;>rcases dC y with ⟨h',e'⟩ | ⟨h',e'⟩ | ⟨h',e'⟩<;>rw [e,e']
 ·have:=Rat.mul_pos (show 0 < -x by grind) (show 0 < -y by grind)
  rw [fZ aT];rfl
 ·rw [h',Rat.mul_zero];rfl
 ·have:=Rat.mul_pos (show 0 < -x by grind) h'
  rw [i0 aT];rfl
 ·rw [h,Rat.zero_mul];rfl
 ·rw [h,Rat.zero_mul];rfl
 ·rw [h,Rat.zero_mul];rfl
 ·have:=Rat.mul_pos h (show 0 < -y by grind)
  rw [i0 aT];rfl
 ·rw [h',Rat.mul_zero];rfl
 ·rw [fZ (Rat.mul_pos h h')];rfl
theorem iI{e:Rat}(h:mU e x)(he:0<e)(w7:¬mU e (y-x)):cP y=cP x∧cP x≠0:=by
 obtain⟨h1,h2⟩:=F7 w7
 rcases h with h | h
 ·rw [i0 (show x<0 by grind),i0 (show y<0 by grind)];decide
 ·rw [fZ (show 0<x by grind),fZ (show 0<y by grind)];decide
def dd(s t:Rat):List Int->Rat
 | []=>0
 | _::l=>qv t l+s*dd s t l
def cc(s t:Rat):List Int->Rat
 | []=>0
 | _::l=>dd s t l+s*cc s t l
theorem qQ(s t:Rat):∀x:List Int,qv t x-qv s x=(t-s)*dd s t x
 | []=>by simp only [qv,dd];grind
 | a::l=>by
  have:=qQ s t l
  simp only [qv,dd];grind
theorem ZL(s t:Rat):∀x:List Int,dd s t x-dd s s x=(t-s)*cc s t x
 | []=>by simp only [dd,cc];grind
 | a::l=>by
  have:=ZL s t l
  have:=qQ s t l
  simp only [dd,cc];grind
section
variable {S B s t:Rat} (hS:0<=S) (hB:1<=B) (hs:Ab s B) (ht:Ab t B)
def KA(S B:Rat):Nat->Rat
 | 0=>S
 | k+1=>KA S B k*(4*B)
include hS hB in
theorem rS:∀k,0<=KA S B k∧S<=KA S B k
 | 0=>⟨hS,Rat.le_refl⟩
 | k+1=>by
  obtain⟨h1,h2⟩:=rS k
  have h3:=Rat.mul_le_mul_of_nonneg_left (show (1:Rat)<=4*B by grind) h1
  rw [KA]
  exact⟨aT,aT⟩
include hS hB ht in
theorem VB:∀x:List Int,(∀c∈x,Ab (c:Rat) S)->Ab (qv t x) (KA S B x.length)
 | [],_=>by
  show Ab 0 S
  exact⟨aT,hS⟩
 | a::l,h=>by
  have h1:=VB l fun c hc=>h c (List.mem_cons_of_mem _ hc)
  have h2:=(h a (List.mem_cons_self ..)).add (ht.mul h1)
  obtain⟨h3,h4⟩:=rS hS hB l.length
  have h5:=Rat.mul_le_mul_of_nonneg_left hB h3
  refine h2.mono ?_
  rw [List.length_cons,KA]
  grind
include hS hB hs ht in
theorem M4:∀x:List Int,(∀c∈x,Ab (c:Rat) S)->Ab (dd s t x) (KA S B x.length)
 | [],_=>by
  show Ab 0 S
  exact⟨aT,hS⟩
 | a::l,h=>by
  have h1:=M4 l fun c hc=>h c (List.mem_cons_of_mem _ hc)
  have h0:=VB hS hB ht l fun c hc=>h c (List.mem_cons_of_mem _ hc)
  have h2:=h0.add (hs.mul h1)
  obtain⟨h3,h4⟩:=rS hS hB l.length
  have h5:=Rat.mul_le_mul_of_nonneg_left hB h3
  refine h2.mono ?_
  rw [List.length_cons,KA]
  grind
include hS hB hs ht in
theorem aiB:∀x:List Int,(∀c∈x,Ab (c:Rat) S)->Ab (cc s t x) (KA S B x.length)
 | [],_=>by
  show Ab 0 S
  exact⟨aT,hS⟩
 | a::l,h=>by
  have h1:=aiB l fun c hc=>h c (List.mem_cons_of_mem _ hc)
  have h0:=M4 hS hB hs ht l fun c hc=>h c (List.mem_cons_of_mem _ hc)
  have h2:=h0.add (hs.mul h1)
  obtain⟨h3,h4⟩:=rS hS hB l.length
  have h5:=Rat.mul_le_mul_of_nonneg_left hB h3
  refine h2.mono ?_
  rw [List.length_cons,KA]
  grind
end
theorem B2(t:Rat):∀(l:List Int) (k:Nat),qv t (ZX.u0 (k+1) l)=qv t (ZX.u0 k l)+qv t l
 | [],k=>by simp only [ZX.u0,qv];grind
 | a::l,k=>by
  simp only [ZX.u0,qv]
  rw [B2 t l (k+1)]
  have:((k+1:Nat):Int)=(k:Int)+1:=aA
  rw [this,Rat.intCast_mul,Rat.intCast_mul,Rat.intCast_add,Rat.intCast_one];grind
theorem E5(t:Rat):∀l:List Int,qv t (ZX.u0 1 l)=qv t l+t*dd t t l
 | []=>by simp only [ZX.u0,qv,dd];grind
 | b::m=>by
  rw [ZX.u0]
  simp only [qv,dd]
  rw [B2,E5 t m]
  rw [show((1:Nat):Int)=1 from rfl,Int.mul_one]
  grind
theorem apo(t:Rat)(x:ZX):(ZX.cD x).e t=dd t t x.l:=by
 rw [ZX.cD,ZX.as0]
 obtain⟨l,hl⟩:=x
 show qv t (ZX.DJ l)=dd t t l
 match l with
 | []=>rfl
 | a::l=>rw [ZX.MX,E5];rfl
end Pm
namespace Pm
variable {ε t:Rat}{a:ZX}{l:List ZX}
def K9(p:Int):List Int->Nat
 | []=>0
 | s::l=>if s=0 then K9 p l else(if p≠0∧s≠p then 1 else 0)+K9 s l
def cl:List Int->List Int->Prop
 | [],[]=>True
 | [x],[y]=>x=y∧x≠0
 | [_,x],[_,y]=>x=y∧x≠0
 | x0::x1::x2::x,y0::y1::y2::y=>cl (x1::x2::x) (y1::y2::y)∧((x1=y1∧x1≠0)∨(x0=y0∧x2=y2∧x0 = -x2∧x2≠0))
 | _,_=>False
theorem QE:∀(n:Nat) (p:Int) (x y:List Int),x.length<=n->p≠0->(p = -1∨p=1)->(∀s∈x,s = -1∨s=0∨s=1)->(∀s∈y,s = -1∨s=0∨s=1)->cl (p::x) (p::y)->K9 p x=K9 p y
 | _,p,[],[],_,_,_,_,_,_=>rfl
 | _,p,[x1],[y1],_,_,_,_,_,h=>by
  obtain⟨rfl,h2⟩:=h
  rfl
 | _,p,[],[y1],_,_,_,_,_,h=>by simp [cl]at h
 | _,p,[x1],[],_,_,_,_,_,h=>by simp [cl]at h
 | _,p,[],_::_::_,_,_,_,_,_,h=>by simp [cl]at h
 | _,p,_::_::_,[],_,_,_,_,_,h=>by simp [cl]at h
 | _,p,[_],_::_::_,_,_,_,_,_,h=>by simp [cl]at h
 | _,p,_::_::_,[_],_,_,_,_,_,h=>by simp [cl]at h
 | 0,p,x1::x2::x,y1::y2::y,hn,_,_,_,_,_=>by simp at hn
 | n+1,p,x1::x2::x,y1::y2::y,hn,hp,hp1,hx,hy,h=>by
  obtain⟨h1,h2⟩:=h
  rcases h2 with ⟨rfl,h2⟩ | ⟨_,rfl,h3,h4⟩
  ·have ih:=QE n x1 (x2::x) (y2::y) (by simp at hn |-;omega) h2 (by have:=hx x1 aG;omega) (fun s hs=>hx s (List.mem_cons_of_mem _ hs)) (fun s hs=>hy s (List.mem_cons_of_mem _ hs)) h1
   simp only [K9]at ih |-
   rw [if_neg h2,if_neg h2,ih]
  ·have ht:K9 x2 x=K9 x2 y:=by
    refine QE n x2 x y (by simp at hn |-;omega) h4 (by have:=hx x2 aG;omega) (fun s hs=>hx s (by simp [hs])) (fun s hs=>hy s (by simp [hs])) ?_
    match x,y,h1 with
    | [],[],_=>exact⟨rfl,h4⟩
    | [],_::_,h1=>simp [cl]at h1
    | _::_,[],h1=>simp [cl]at h1
    | _::_,_::_,h1=>exact h1.1
   have key:∀z:Int,(z = -1∨z=0∨z=1) -> ∀w:List Int,K9 p (z::x2::w)=1+K9 x2 w:=fun z hz w=>by
    simp only [K9]
    rcases hz with rfl | rfl | rfl
    ·rw [if_neg aF,if_neg h4]
     rcases hp1 with rfl | rfl
     ·rw [if_neg aA,if_pos aA];omega
     ·rw [if_pos aA,if_neg aA];omega
    ·rw [if_pos rfl,if_neg h4,if_pos aA]
    ·rw [if_neg aF,if_neg h4]
     rcases hp1 with rfl | rfl
     ·rw [if_pos aA,if_neg aA];omega
     ·rw [if_neg aA,if_pos aA];omega
   rw [key x1 (hx x1 aG),key y1 (hy y1 aG),ht]
open ZX
def gap(ε t:Rat):List ZX->Prop
 | []=>False
 | [a]=>mU ε (e t a)
 | [_,b]=>mU ε (e t b)
 | a::b::c::l=>gap ε t (b::c::l)∧(mU ε (e t b)∨(mU ε (e t a)∧mU ε (e t c)∧cP (e t a) = -cP (e t c)))
theorem gap.mono{ε δ t:Rat}(h:δ<=ε):∀ {l:List ZX},gap ε t l->gap δ t l
 | [],g=>g
 | [a],g=>mU.mono g h
 | [a,b],g=>mU.mono (x:=e t b) g h
 | a::b::c::l,g=>⟨gap.mono h g.1,by
  rcases g.2 with g | ⟨g1,g2,g3⟩
  ·exact .inl (g.mono h)
  ·exact .inr ⟨g1.mono h,g2.mono h,g3⟩⟩
theorem gap.two{b:ZX}:∀ {l:List ZX},gap ε t (a::b::l)->mU ε (e t a)∨mU ε (e t b)
 | [],g => .inr g
 | c::l,g=>by
  rcases g.2 with g | ⟨g1,g2,g3⟩
  ·exact .inr g
  ·exact .inl g1
def LA(t:Rat)(l:List ZX):List Int:=l.map fun p=>cP (e t p)
theorem F8:∀s∈LA t l,s = -1∨s=0∨s=1:=fun s hs=>by
 simp only [LA,List.mem_map]at hs
 obtain⟨p,_,rfl⟩:=hs
 exact rR _
theorem aiC{ε s t:Rat}(hε:0<ε):∀ {l:List ZX},gap ε s l->(∀p∈l,¬mU ε (e t p-e s p))->cl (LA s l) (LA t l)
 | [],g,_=>g.elim
 | [a],g,h=>by
  obtain⟨h1,h2⟩:=iI g hε (h a aG)
  exact⟨h1.symm,h2⟩
 | [a,b],g,h=>by
  obtain⟨h1,h2⟩:=iI (x:=e s b) g hε (h b aG)
  exact⟨h1.symm,h2⟩
 | a::b::c::l,g,h=>by
  refine⟨aiC hε g.1 fun p hp=>h p (List.mem_cons_of_mem _ hp),?_⟩
  rcases g.2 with g | ⟨g1,g2,g3⟩
  ·obtain⟨h1,h2⟩:=iI g hε (h b aG)
   exact .inl ⟨h1.symm,h2⟩
  ·obtain⟨h1,h2⟩:=iI g1 hε (h a aG)
   obtain⟨h3,h4⟩:=iI g2 hε (h c aG)
   exact .inr ⟨h1.symm,h3.symm,g3,h4⟩
def vt(l:List ZX)(t:Rat):Nat:=K9 0 (LA t l)
def ind(a:ZX)(s t:Rat):Nat:=if e s a≠0∧cP (e t a)≠cP (e s a)then 1 else 0
theorem amF{s:Rat}(hε:0<ε)(g:gap ε s (a::l))(h:∀p∈a::l,¬mU ε (e t p-e s p))
  (hm:∀b k,l=b::k->mU ε (e s b)->cP (e t a-e s a)=cP (e s b)):vt (a::l) s=vt (a::l) t+ind a s t:=by
 have hc:=aiC hε g h
 have hA:mU ε (e s a)->vt (a::l) s=vt (a::l) t+ind a s t:=fun ha=>by
  obtain⟨h1,h2⟩:=iI ha hε (h a aG)
  have h3:ind a s t=0:=if_neg fun h=>h.2 h1
  rw [h3]
  have CX:cl (cP (e s a)::LA s l) (cP (e s a)::LA t l):=by
   have:LA t (a::l)=cP (e s a)::LA t l:=by rw [<-h1];rfl
   rw [this]at hc
   exact hc
  have h4:=QE _ _ _ _ (Nat.le_refl _) h2 (by have:=rR (e s a);omega) F8 F8 CX
  show K9 0 (cP (e s a)::LA s l)=K9 0 (cP (e t a)::LA t l)+0
  rw [h1]
  simp only [K9]
  rw [if_neg h2,if_neg h2,h4];omega
 match l,g,h,hc,hm,hA with
 | [],g,h,hc,hm,hA=>exact hA g
 | b::l,g,h,hc,hm,hA =>
  rcases g.two with ha | hb
  ·exact hA ha
  ·obtain⟨h1,h2⟩:=iI hb hε (h b aG)
   have h3:=hm b l rfl hb
   have CX:cl (cP (e s b)::LA s l) (cP (e s b)::LA t l):=by
    match l,hc with
    | [],hc=>exact⟨rfl,h2⟩
    | c::l,hc =>
     have h8:cl (cP (e s b)::LA s (c::l)) (cP (e t b)::LA t (c::l)):=hc.1
     rw [h1]at h8
     exact h8
   have h4:=QE _ _ _ _ (Nat.le_refl _) h2 (by have:=rR (e s b);omega) F8 F8 CX
   show K9 0 (cP (e s a)::cP (e s b)::LA s l)=K9 0 (cP (e t a)::cP (e t b)::LA t l)+ind a s t
   rw [h1]
   simp only [K9]
   rw [if_neg h2,if_neg h2,h4]
   have hi:ind a s t=if cP (e s a)≠0∧cP (e t a)≠cP (e s a)then 1 else 0:=by
    unfold ind
    by_cases h6:e s a=0
    ·rw [if_neg (fun h7=>h7.1 h6),if_neg (fun h7=>h7.1 (fT.2 h6))]
    ·have h7:cP (e s a)≠0:=fun h8=>h6 (fT.1 h8)
     simp only [ne_eq,h6,h7,not_false_eq_true,true_and]
   rw [hi]
   have hd:(cP (e s b) = -1->cP (e t a)<=cP (e s a)∧(cP (e t a)=cP (e s a)->cP (e s a)≠0))∧(cP (e s b)=1->cP (e s a)<=cP (e t a)∧(cP (e t a)=cP (e s a)->cP (e s a)≠0)):=by
    refine⟨fun h6=>?_,fun h6=>?_⟩
    ·have h5:=ZJ.1 (h3.trans h6)
     rcases dC (e s a)with ⟨q1,r1⟩ | ⟨q1,r1⟩ | ⟨q1,r1⟩<;>rcases dC (e t a)with ⟨q2,r2⟩ | ⟨q2,r2⟩ | ⟨q2,r2⟩<;>rw [r1,r2]<;>first | decide | (exfalso;grind)
    ·have h5:=ZK.1 (h3.trans h6)
     rcases dC (e s a)with ⟨q1,r1⟩ | ⟨q1,r1⟩ | ⟨q1,r1⟩<;>rcases dC (e t a)with ⟨q2,r2⟩ | ⟨q2,r2⟩ | ⟨q2,r2⟩<;>rw [r1,r2]<;>first | decide | (exfalso;grind)
   have m1:=rR (e s a)
   have m2:=rR (e t a)
   have m3:=rR (e s b)
   generalize cP (e s a)=σ at *
   generalize cP (e t a)=τ at *
   generalize cP (e s b)=γ at *
   generalize K9 γ (LA t l)=T at *
   obtain⟨d1,d2⟩:=hd
   clear hc CX h1 h3 hm hA h g hb hi
   rcases m3 with rfl | rfl | rfl
   ·obtain⟨d3,d4⟩:=d1 rfl
    rcases m1 with rfl | rfl | rfl<;>rcases m2 with rfl | rfl | rfl<;>first | (exfalso;omega) | (simp;try omega)
   ·exact absurd rfl h2
   ·obtain⟨d3,d4⟩:=d2 rfl
    rcases m1 with rfl | rfl | rfl<;>rcases m2 with rfl | rfl | rfl<;>first | (exfalso;omega) | (simp;try omega)
end Pm
namespace Pm
open ZX hiding N W
variable {M ε x y Q B S δ a b t:Rat}{c:Int}{l:List Int}{P:Rat->Rat->Prop}
def StC(M B:Rat):List ZX->Prop
 | []=>False
 | [a]=>∃c:Int,c≠0∧a=K c
 | [_,b]=>∃c:Int,c≠0∧b=K c
 | a::b::c::l=>StC M B (b::c::l) ∧ ∃(m k:Int) (q:ZX),0<m∧0<k∧K m*a=q*b-K k*c∧2*(m:Rat)<=M ∧ ∀t,Ab t B->Ab (2*e t q) M
def FP(M:Rat):Nat->Rat
 | 0=>1
 | k+1=>FP M k/M
theorem QF(hM:2<=M)(k:Nat):M*FP M (k+1)=FP M k:=by
 rw [FP,Rat.mul_comm,Rat.div_mul_cancel aT]
theorem B3{M:Rat}(hM:2<=M):∀k,0<FP M k
 | 0=>by show(0:Rat)<1;decide
 | k+1=>by
  have h1:=B3 hM k
  have h2:=QF hM k
  refine Rat.not_le.1 fun h=>?_
  have h3:=Rat.mul_nonneg (show 0<=M by grind) (show 0 <= -FP M (k+1)by grind)
  grind
theorem QG(hM:2<=M)(k:Nat):FP M (k+1)<=FP M k:=by
 have h1:=B3 hM (k+1)
 have h2:=QF hM k
 have h3:=Rat.mul_le_mul_of_nonneg_right (show 1<=M by grind) (Rat.le_of_lt h1)
 grind
theorem zU{M:Rat}(hM:2<=M):∀k,FP M k<=1
 | 0=>Rat.le_refl
 | k+1=>Rat.le_trans (QG hM k) (zU hM k)
theorem xR(h:c≠0):mU 1 (c:Rat):=by
 rcases Int.lt_trichotomy c 0 with h1 | h1 | h1
 ·left
  have:((c:Int):Rat)<=((-1:Int):Rat):=Rat.intCast_le_intCast.2 aA
  rw [Rat.intCast_neg,Rat.intCast_one]at this
  exact this
 ·exact absurd h1 h
 ·right
  have:((1:Int):Rat)<=((c:Int):Rat):=Rat.intCast_le_intCast.2 aA
  rw [Rat.intCast_one]at this
  exact this
theorem fU(h:0<c):(1:Rat)<=(c:Rat):=by
 have:((1:Int):Rat)<=((c:Int):Rat):=Rat.intCast_le_intCast.2 aA
 rwa [Rat.intCast_one]at this
theorem aiD{ε' z q m k:Rat}(hM:2<=M)(he:M*ε'=ε)(hp:0<ε')(hm:1<=m)(hk:1<=k)(hmM:2*m<=M)(hq:Ab (2*q) M)(e:m*x=q*y-k*z)(hy:¬mU ε' y)(hz:mU ε z):mU ε' x∧cP x = -cP z:=by
 have h1:=hq.mul (K8 hy)
 rw [he]at h1
 obtain⟨h2,h3⟩:=h1
 have hε:0<ε:=by rw [<-he];exact Rat.mul_pos aT hp
 have h6:=Rat.mul_le_mul_of_nonneg_right hmM (Rat.le_of_lt hp)
 rcases hz with hz | hz
 ·have h4:=Rat.mul_le_mul_of_nonneg_right hk (show 0 <= -z by grind)
  have h5:ε<=2*(m*x):=aT
  have h7:ε'<=x:=Rat.not_lt.1 fun h=>by
   have:=Rat.mul_lt_mul_of_pos_left h (show 0<m by grind)
   grind
  refine⟨.inr h7,?_⟩
  rw [i0 (x:=z) aT,fZ (x:=x) aT];rfl
 ·have h4:=Rat.mul_le_mul_of_nonneg_right hk (show 0<=z by grind)
  have h5:2*(m*x) <= -ε:=aT
  have h7:x <= -ε':=Rat.not_lt.1 fun h=>by
   have:=Rat.mul_lt_mul_of_pos_left h (show 0<m by grind)
   grind
  refine⟨.inl h7,?_⟩
  rw [fZ (x:=z) aT,i0 (x:=x) aT]
theorem StC.gap{M B t:Rat}(hM:2<=M)(ht:Ab t B):∀ {l:List ZX},StC M B l->gap (FP M l.length) t l
 | [],h=>h
 | [a],h=>by
  obtain⟨c,hc,rfl⟩:=h
  show mU _ (e t (K c))
  rw [CV]
  exact(xR hc).mono (zU hM _)
 | [a,b],h=>by
  obtain⟨c,hc,rfl⟩:=h
  show mU _ (e t (K c))
  rw [CV]
  exact(xR hc).mono (zU hM _)
 | a::b::c::l,h=>by
  obtain⟨h1,m,k,q,hm,hk,he,hmM,hq⟩:=h
  have ih:=StC.gap hM ht h1
  refine⟨ih.mono (QG hM _),?_⟩
  by_cases hb:mU (FP M (a::b::c::l).length) (e t b)
  ·exact .inl hb
  ·have hc:mU (FP M (b::c::l).length) (e t c):=by
    rcases ih.two with h2 | h2
    ·exact absurd (h2.mono (QG hM _)) hb
    ·exact h2
   have I7:(m:Rat)*e t a=e t q*e t b-k*e t c:=by
    rw [<-CV (t:=t) m,<-kH,he,azq,kH,kH,CV]
   obtain⟨g1,g2⟩:=aiD hM (QF hM _) (B3 hM _) (fU hm) (fU hk) hmM (hq t ht) I7 hb hc
   exact .inr ⟨g1,hc.mono (QG hM _),g2⟩
structure Lcl(L:List ZX)(f:ZX)(B δ:Rat):Prop where
 turns:∀s t,Ab s B->Ab t B->s<t->t-s<=δ->vt L s=vt L t+ind f s t
 simple:∀s t,Ab s B->Ab t B->s<t->t-s<=δ->e s f=0->e t f≠0
theorem E6{h:Rat}(hh:0<=h)(hx:Ab x Q)(hQ:h*Q<ε):¬mU ε (h*x):=fun hb=>by
 obtain⟨h1,h2⟩:=(Ab.mul (x:=h) (M:=h) ⟨aT,Rat.le_refl⟩ hx)
 rcases hb with hb | hb<;>grind
theorem ael{h c d1 d2:Rat}(hh:0<h)(hε:0<ε)(hc:1<=c)(hx:Ab x Q)(hQ:h*Q<ε)(hy:mU ε y)(e1:d1=c*y)(e2:d2-d1=h*x):cP (h*d2)=cP y:=by
 obtain⟨h1,h2⟩:=(Ab.mul (x:=h) (M:=h) ⟨aT,Rat.le_refl⟩ hx)
 have hs:cP (h*d2)=cP d2:=by rw [xQ,fZ hh];omega
 rw [hs]
 rcases hy with hy | hy
 ·have:=Rat.mul_le_mul_of_nonneg_right hc (show 0 <= -y by grind)
  rw [i0 (show y<0 by grind),i0 (show d2<0 by grind)]
 ·have:=Rat.mul_le_mul_of_nonneg_right hc (show 0<=y by grind)
  rw [fZ (show 0<y by grind),fZ (show 0<d2 by grind)]
theorem StC.loc{f:ZX}{l:List ZX}(hM:2<=M)(hB:1<=B)(hS:0<=S)(h:StC M B (f::l))(hb:∀p∈f::l,(∀c∈p.l,Ab (c:Rat) S)∧KA S B p.l.length<=Q)(hd:∀g k,l=g::k -> ∃c:Int,0<c∧cD f=K c*g)
  (hδ:δ*Q<FP M (f::l).length):Lcl (f::l) f B δ:=by
 have hQ0:0<=Q:=by
  obtain⟨h1,h2⟩:=hb f aG
  obtain⟨h3,h4⟩:=rS hS hB f.l.length
  grind
 have hε:=B3 hM (f::l).length
 have tK:∀s t:Rat,s<t->t-s<=δ->(t-s)*Q<FP M (f::l).length:=fun s t j2 hd=>by
  have:=Rat.mul_le_mul_of_nonneg_right hd hQ0
  grind
 have key:∀s t,Ab s B->Ab t B->s<t->t-s<=δ->(∀p∈f::l,¬mU (FP M (f::l).length) (e t p-e s p)) ∧ ∀b k,l=b::k->mU (FP M (f::l).length) (e s b)->cP (e t f-e s f)=cP (e s b):=fun s t hs ht j2 hsd=>by
  refine⟨fun p hp=>?_,fun b k hbk R8=>?_⟩
  ·obtain⟨h1,h2⟩:=hb p hp
   show ¬mU _ (qv t p.l-qv s p.l)
   rw [qQ]
   exact E6 aT ((M4 hS hB hs ht p.l h1).mono h2) (tK s t j2 hsd)
  ·obtain⟨c,hc,he⟩:=hd b k hbk
   obtain⟨h1,h2⟩:=hb f aG
   show cP (qv t f.l-qv s f.l)=_
   rw [qQ]
   exact ael (d1:=dd s s f.l) aT hε (fU hc) ((aiB hS hB hs ht f.l h1).mono h2) (tK s t j2 hsd) R8 (by rw [<-apo,he,kH,CV]) (ZL s t f.l)
 refine⟨fun s t hs ht j2 hsd=>?_,fun s t hs ht j2 hsd h0=>?_⟩
 ·obtain⟨k1,k2⟩:=key s t hs ht j2 hsd
  exact amF hε (h.gap hM hs) k1 k2
 ·obtain⟨k1,k2⟩:=key s t hs ht j2 hsd
  have g:=h.gap hM hs
  have nb:¬mU (FP M (f::l).length) (e s f):=by
   rw [h0]
   rintro(h1 | h1)<;>grind
  match l,g,k2 with
  | [],g,_=>exact absurd g nb
  | b::k,g,k2 =>
   have R8:=g.two.resolve_left nb
   have h2:=k2 b k rfl R8
   intro h3
   rw [h0,h3,show(0:Rat)-0=0 by grind,kI]at h2
   have h4:=fT.1 h2.symm
   rw [h4]at R8
   rcases R8 with h1 | h1<;>grind
theorem as1(hδ:0<δ)(ht:∀a b c,a<b->b<c->P a b->P b c->P a c)(hs:∀a b,Ab a B->Ab b B->a<b->b-a<=δ->P a b)(ha:Ab a B)(hb:Ab b B)(gU:a<b):P a b:=by
 have key:∀(n:Nat) (a b:Rat),Ab a B->Ab b B->a<b->b-a<=(n:Rat)*δ->P a b:=by
  intro n
  induction n with
  | zero=>intro a b _ _ h1 h2;exfalso;rw [show((0:Nat):Rat)=0 from rfl]at h2;grind
  | succ n ih =>
   intro a b ha hb h1 h2
   by_cases h3:b-a<=δ
   ·exact hs a b ha hb h1 h3
   ·have h3:=Rat.not_le.1 h3
    obtain⟨a1,a2⟩:=ha
    obtain⟨b1,b2⟩:=hb
    have hm:Ab (a+δ) B:=⟨aT,aT⟩
    refine ht a (a+δ) b aT aT (hs _ _ ⟨a1,a2⟩ hm aT aT) (ih _ _ hm ⟨b1,b2⟩ aT ?_)
    rw [show((n+1:Nat):Rat)=(n:Rat)+1 from by rw [Rat.natCast_add];rfl]at h2
    grind
 have h1:=Rat.lt_floor_add_one ((b-a)/δ)
 have h2:0<=((b-a)/δ).floor:=Rat.le_floor_iff.2 (by
  have:=(Rat.lt_div_iff (a:=0) (b:=b-a) hδ).2 aT
  show((0:Int):Rat)<=_
  rw [Rat.intCast_zero];exact Rat.le_of_lt this)
 refine key ((((b-a)/δ).floor+1).toNat) a b ha hb gU ?_
 have h3:(((((b-a)/δ).floor+1).toNat:Nat):Rat)=((((b-a)/δ).floor+1:Int):Rat):=by
  rw [<-Rat.intCast_natCast,Int.toNat_of_nonneg aA]
 rw [h3]
 have h4:=(Rat.div_lt_iff hδ).1 h1
 exact Rat.le_of_lt h4
structure zV(L:List ZX)(f:ZX):Prop where
 loc:∀B:Rat,1<=B -> ∃δ,0<δ∧Lcl L f B δ
theorem k9(a b:Rat):∃B:Rat,1<=B∧Ab a B∧Ab b B:=by
 have h1:∀x:Rat,∃B:Rat,1<=B∧Ab x B:=fun x=>by
  by_cases h:0<=x
  ·exact⟨x+1,aT,aT,aT⟩
  ·exact⟨-x+1,aT,aT,aT⟩
 obtain⟨A,hA,ha⟩:=h1 a
 obtain⟨B,hB,hb⟩:=h1 b
 exact⟨A+B,aT,ha.mono aT,hb.mono aT⟩
namespace zV
variable {L:List ZX} {f:ZX} (h:zV L f)
include h
theorem aiE(ht:∀a b c,a<b->b<c->P a b->P b c->P a c)(hs:∀B δ,Lcl L f B δ -> ∀a b,Ab a B->Ab b B->a<b->b-a<=δ->P a b)(gU:a<b):P a b:=by
 obtain⟨B,hB,ha,hb⟩:=k9 a b
 obtain⟨δ,hδ,hl⟩:=h.loc B hB
 exact as1 hδ ht (hs B δ hl) ha hb gU
theorem bU(gU:a<=b):vt L b<=vt L a:=by
 rcases Rat.le_iff_lt_or_eq.1 gU with h1 | rfl
 ·refine h.aiE (P:=fun a b=>vt L b<=vt L a) (fun a b c _ _ h1 h2=>Nat.le_trans h2 h1) (fun B δ hl a b ha hb gU hd=>?_) h1
  rw [hl.turns a b ha hb gU hd];omega
 ·exact Nat.le_refl _
theorem flat(gU:a<b)(he:vt L a=vt L b):e b f≠0∧(e a f≠0->cP (e b f)=cP (e a f)):=by
 refine h.aiE (P:=fun a b=>vt L a=vt L b->e b f≠0∧(e a f≠0->cP (e b f)=cP (e a f))) (fun a b c h1 h2 p1 p2 hac=>?_) (fun B δ hl a b ha hb gU hd heq=>?_) gU he
 ·have:=h.bU (Rat.le_of_lt h1)
  have:=h.bU (Rat.le_of_lt h2)
  obtain⟨q1,q2⟩:=p1 aA
  obtain⟨q3,q4⟩:=p2 aA
  exact⟨q3,fun ha=>by rw [q4 q1,q2 ha]⟩
 ·have h1:=hl.turns a b ha hb gU hd
  have h2:ind f a b=0:=aA
  unfold ind at h2
  by_cases h0:e a f=0
  ·exact⟨hl.simple a b ha hb gU hd h0,fun h3=>absurd h0 h3⟩
  ·have h3:cP (e b f)=cP (e a f):=Classical.byContradiction fun h3=>by rw [if_pos ⟨h0,h3⟩]at h2;omega
   refine⟨fun h4=>h0 (fT.1 ?_),fun _=>h3⟩
   rw [<-h3,h4,kI]
theorem const(gU:a<b){σ:Int}(h0:e a f=0∨cP (e a f)=σ)(h1:∀x,a<x->x<=b->cP (e x f)=σ):vt L a=vt L b:=by
 refine h.aiE (P:=fun x y=>a<=x->y<=b->vt L x=vt L y) (fun x y z w7 hyz p1 p2 hax hzb=>(p1 hax aT).trans (p2 aT hzb)) (fun B δ hl x y hx hy w7 hd hax hyb=>?_) gU Rat.le_refl Rat.le_refl
 rw [hl.turns x y hx hy w7 hd]
 have h2:ind f x y=0:=if_neg fun h3=>by
  obtain⟨h4,h5⟩:=h3
  rw [h1 y aT hyb]at h5
  rcases Rat.le_iff_lt_or_eq.1 hax with h6 | rfl
  ·exact h5 (h1 x h6 aT).symm
  ·rcases h0 with h0 | h0
   ·exact h4 h0
   ·exact h5 h0.symm
 omega
theorem root{s:Rat}(j2:s<t)(h0:e t f=0):vt L t<vt L s:=by
 have h1:=h.bU (Rat.le_of_lt j2)
 refine Nat.lt_of_le_of_ne h1 fun h2=>?_
 exact(h.flat j2 h2.symm).1 h0
theorem count{roots:List Rat}(hn:roots.Nodup)(hr:∀r∈roots,e r f=0)(hc:∀a b,a<b->(∀r∈roots,a<r->b<r)->vt L a=vt L b)(gU:a<b):vt L a=vt L b+(roots.countP fun r=>decide (a<r∧r<=b)):=by
 refine h.aiE (P:=fun a b=>vt L a=vt L b+(roots.countP fun r=>decide (a<r∧r<=b))) (fun a b c h1 h2 p1 p2=>?_) (fun B δ hl a b ha hb gU hd=>?_) gU
 ·rw [p1,p2]
  have:∀l:List Rat,(l.countP fun r=>decide (a<r∧r<=c))=(l.countP fun r=>decide (a<r∧r<=b))+(l.countP fun r=>decide (b<r∧r<=c)):=fun l=>by
   induction l with
   | nil=>rfl
   | cons x l ih =>
    rw [List.countP_cons,List.countP_cons,List.countP_cons,ih]
    by_cases q1:a<x∧x<=b
    ·have q2:¬(b<x∧x<=c):=fun q=>by grind
     have q3:a<x∧x<=c:=⟨q1.1,aT⟩
     rw [if_pos (decide_eq_true q3),if_pos (decide_eq_true q1),if_neg (fun h=>q2 (of_decide_eq_true h))];omega
    ·by_cases q2:b<x∧x<=c
     ·have q3:a<x∧x<=c:=⟨aT,q2.2⟩
      rw [if_pos (decide_eq_true q3),if_neg (fun h=>q1 (of_decide_eq_true h)),if_pos (decide_eq_true q2)];omega
     ·have q3:¬(a<x∧x<=c):=fun q=>by
       by_cases q4:x<=b
       ·exact q1 ⟨q.1,q4⟩
       ·exact q2 ⟨Rat.not_le.1 q4,q.2⟩
      rw [if_neg (fun h=>q3 (of_decide_eq_true h)),if_neg (fun h=>q1 (of_decide_eq_true h)),if_neg (fun h=>q2 (of_decide_eq_true h))];omega
  rw [this roots];omega
 ·have h1:=hl.turns a b ha hb gU hd
  have h2:ind f a b<=1:=by unfold ind;split<;>omega
  have hm:∀r,r∈roots.filter (fun r=>decide (a<r∧r<=b))↔r∈roots∧a<r∧r<=b:=fun r=>by simp [List.mem_filter]
  have SK:(roots.filter (fun r=>decide (a<r∧r<=b))).Nodup:=hn.filter _
  rw [List.countP_eq_length_filter]
  match hF:roots.filter (fun r=>decide (a<r∧r<=b)),hm,SK with
  | [],hm,_ =>
   rw [List.length_nil,Nat.add_zero]
   refine hc a b gU fun r hr h3=>Rat.not_le.1 fun h4=>?_
   have:=(hm r).2 ⟨hr,h3,h4⟩
   simp at this
  | [r],hm,_ =>
   obtain⟨g1,g2,g3⟩:=(hm r).1 aG
   have:=h.root g2 (hr r g1)
   have:=h.bU g3
   simp only [List.length_cons,List.length_nil]
   omega
  | r::q::l,hm,SK =>
   exfalso
   obtain⟨g1,g2,g3⟩:=(hm r).1 aG
   obtain⟨k1,k2,k3⟩:=(hm q).1 aG
   have o7:r≠q:=by
    simp only [List.nodup_cons,List.mem_cons,not_or]at SK
    exact SK.1.1
   rcases Rat.le_total (a:=r) (b:=q)with h5 | h5
   ·have:=h.root (Rat.lt_of_le_of_ne h5 o7) (hr q k1)
    have:=h.root g2 (hr r g1)
    have:=h.bU k3
    omega
   ·have:=h.root (Rat.lt_of_le_of_ne h5 (Ne.symm o7)) (hr r g1)
    have:=h.root k2 (hr q k1)
    have:=h.bU g3
    omega
end zV
theorem F9{a b:Int}(h:Cn (a::b::l)):Cn (b::l):=by
 unfold Cn at h |-
 rw [aZ]at h
 split at h
 ·simp at h
 ·simpa using h
theorem DN{a b:Int}:lead (a::b::l)=lead (b::l):=by
 unfold lead
 simp only [List.length_cons,Nat.add_sub_cancel]
 rw [mM]
theorem M5{S t:Rat}(hS:0<=S)(ht:S+1<=t):∀ {x:List Int},Cn x->0<x.length->(∀c∈x,Ab (c:Rat) S)->(0<lead x->1<=qv t x)∧(lead x<0->qv t x <= -1)
 | [a],hc,_,_=>by
  have e1:qv t [a]=(a:Rat):=by simp only [qv];grind
  have e2:lead [a]=a:=rfl
  rw [e1,e2]
  refine⟨fun h=>fU h,fun h=>?_⟩
  have:((a:Int):Rat)<=((-1:Int):Rat):=Rat.intCast_le_intCast.2 aA
  rwa [Rat.intCast_neg,Rat.intCast_one]at this
 | a::b::l,hc,_,hb=>by
  obtain⟨h1,h2⟩:=M5 hS ht (F9 hc) aG fun c hc=>hb c (List.mem_cons_of_mem _ hc)
  obtain⟨h3,h4⟩:=hb a aG
  have e1:qv t (a::b::l)=a+t*qv t (b::l):=rfl
  rw [DN,e1]
  refine⟨fun h=>?_,fun h=>?_⟩
  ·have:=Rat.mul_le_mul_of_nonneg_left (h1 h) (show 0<=t by grind)
   grind
  ·have:=Rat.mul_le_mul_of_nonneg_left (show 1 <= -qv t (b::l)by have:=h2 h;grind) (show 0<=t by grind)
   grind
theorem VC{S t:Rat}(hS:0<=S)(ht:t <= -(S+1)):∀ {x:List Int},Cn x->0<x.length->(∀c∈x,Ab (c:Rat) S)->(0<(if x.length%2=0 then -lead x else lead x)->1<=qv t x)∧((if x.length%2=0 then -lead x else lead x)<0->qv t x <= -1)
 | [a],hc,_,_=>by
  have e1:qv t [a]=(a:Rat):=by simp only [qv];grind
  have e2:lead [a]=a:=rfl
  rw [e1,e2,if_neg aG]
  refine⟨fun h=>fU h,fun h=>?_⟩
  have:((a:Int):Rat)<=((-1:Int):Rat):=Rat.intCast_le_intCast.2 aA
  rwa [Rat.intCast_neg,Rat.intCast_one]at this
 | a::b::l,hc,_,hb=>by
  obtain⟨h1,h2⟩:=VC hS ht (F9 hc) aG fun c hc=>hb c (List.mem_cons_of_mem _ hc)
  obtain⟨h3,h4⟩:=hb a aG
  have e1:qv t (a::b::l)=a+t*qv t (b::l):=rfl
  have e2:(if (a::b::l).length%2=0 then -lead (a::b::l)else lead (a::b::l)) = -(if (b::l).length%2=0 then -lead (b::l)else lead (b::l)):=by
   rw [DN]
   simp only [List.length_cons]
   split<;>split<;>omega
  rw [e2,e1]
  generalize (if (b::l).length%2=0 then -lead (b::l)else lead (b::l))=z at *
  refine⟨fun h=>?_,fun h=>?_⟩
  ·have:=Rat.mul_le_mul_of_nonneg_left (show 1 <= -qv t (b::l)by have:=h2 aA;grind) (show 0 <= -t by grind)
   grind
  ·have:=Rat.mul_le_mul_of_nonneg_left (h1 aA) (show 0 <= -t by grind)
   grind
theorem M6(hS:0<=S){x:List Int}(hc:Cn x)(hb:∀c∈x,Ab (c:Rat) S):(S+1<=t->cP (qv t x)=(lead x).sign)∧(t <= -(S+1)->cP (qv t x)=if x.length%2=0 then -(lead x).sign else(lead x).sign):=by
 rcases Nat.eq_zero_or_pos x.length with h0 | h0
 ·have:x = []:=List.eq_nil_of_length_eq_zero h0
  subst this
  refine⟨fun _=>?_,fun _=>?_⟩<;>simp only [qv]<;>decide
 ·have hl:=dO hc h0
  refine⟨fun ht=>?_,fun ht=>?_⟩
  ·obtain⟨h1,h2⟩:=M5 hS ht hc h0 hb
   rcases Int.lt_trichotomy (lead x) 0 with h | h | h
   ·have:=h2 h
    rw [Int.sign_eq_neg_one_of_neg h,i0 aT]
   ·exact absurd h hl
   ·have:=h1 h
    rw [Int.sign_eq_one_of_pos h,fZ aT]
  ·obtain⟨h1,h2⟩:=VC hS ht hc h0 hb
   rcases Int.lt_trichotomy (lead x) 0 with h | h | h
   ·rw [Int.sign_eq_neg_one_of_neg h]
    split
    ·rw [if_pos (by assumption)]at h1
     have:=h1 aA
     rw [fZ aT];rfl
    ·rw [if_neg (by assumption)]at h2
     have:=h2 h
     rw [i0 aT]
   ·exact absurd h hl
   ·rw [Int.sign_eq_one_of_pos h]
    split
    ·rw [if_pos (by assumption)]at h2
     have:=h2 aA
     rw [i0 aT]
    ·rw [if_neg (by assumption)]at h1
     have:=h1 h
     rw [fZ aT]
end Pm
namespace Pm
open ZX hiding N W
variable {x y a b:Rat}{p f:ZX}{L:List ZX}
theorem mU.mul{η θ:Rat}(hη:0<η)(hθ:0<θ)(h:mU η x)(h':mU θ y):mU (η*θ) (x*y):=by
 have key:∀ {u v:Rat},η<=u->θ<=v->η*θ<=u*v:=fun {u v} h1 h2=>by
  have p1:=Rat.mul_le_mul_of_nonneg_left h2 (Rat.le_of_lt hη)
  have p2:=Rat.mul_le_mul_of_nonneg_right h1 (show 0<=v by grind)
  grind
 rcases h with h | h<;>rcases h' with h' | h'
 ·right;have:=key (show η <= -x by grind) (show θ <= -y by grind);grind
 ·left;have:=key (show η <= -x by grind) h';grind
 ·left;have:=key h (show θ <= -y by grind);grind
 ·right;exact key h h'
def Bg(a b:Rat)(p:ZX):Prop:=∃η:Rat,0<η ∧ ∀x,a<=x->x<=b->mU η (e x p)
theorem Bg.mul{a b:Rat}{p q:ZX}(h:Bg a b p)(h':Bg a b q):Bg a b (p*q):=by
 obtain⟨η,h1,h2⟩:=h
 obtain⟨θ,h3,h4⟩:=h'
 exact⟨η*θ,Rat.mul_pos h1 h3,fun x hx hy=>by rw [kH];exact mU.mul h1 h3 (h2 x hx hy) (h4 x hx hy)⟩
theorem Bg.K{c:Int}(hc:c≠0):Bg a b (ZX.K c):=⟨1,aF,fun x _ _=>by rw [CV];exact xR hc⟩
theorem Bg.mono{c d:Rat}(h:Bg a b p)(hc:a<=c)(hd:d<=b):Bg c d p:=by
 obtain⟨η,h1,h2⟩:=h
 exact⟨η,h1,fun x hx hy=>h2 x aT aT⟩
theorem M7(t:Rat)(n d:Int):e t (of [n,d])=n+d*t:=by
 rw [as0]
 simp only [qv];grind
theorem Bg.lin{n d:Int}(h:(0<(n:Rat)+d*a∧0<(n:Rat)+d*b)∨((n:Rat)+d*a<0∧(n:Rat)+d*b<0)):Bg a b (of [n,d]):=by
 have key:∀x,a<=x->x<=b->((n:Rat)+d*a<=n+d*x∧(n:Rat)+d*x<=n+d*b)∨((n:Rat)+d*b<=n+d*x∧(n:Rat)+d*x<=n+d*a):=fun x hx hy=>by
  by_cases hd:(0:Rat)<=d
  ·left
   have:=Rat.mul_le_mul_of_nonneg_left hx hd
   have:=Rat.mul_le_mul_of_nonneg_left hy hd
   grind
  ·right
   have:=Rat.mul_le_mul_of_nonneg_left hx (show (0:Rat) <= -d by grind)
   have:=Rat.mul_le_mul_of_nonneg_left hy (show (0:Rat) <= -d by grind)
   grind
 generalize (n:Rat)+d*a=u at *
 generalize (n:Rat)+d*b=v at *
 rcases h with ⟨h1,h2⟩ | ⟨h1,h2⟩
 ·by_cases huv:u<=v
  ·exact⟨u,h1,fun x hx hy=>by rw [M7];have:=key x hx hy;right;grind⟩
  ·exact⟨v,h2,fun x hx hy=>by rw [M7];have:=key x hx hy;right;grind⟩
 ·by_cases huv:u<=v
  ·exact⟨-v,aT,fun x hx hy=>by rw [M7];have:=key x hx hy;left;grind⟩
  ·exact⟨-u,aT,fun x hx hy=>by rw [M7];have:=key x hx hy;left;grind⟩
theorem GB(l:List Int):∃S:Rat,0<=S ∧ ∀c∈l,Ab (c:Rat) S:=by
 induction l with
 | nil=>exact⟨0,Rat.le_refl,fun c hc=>by cases hc⟩
 | cons a l ih =>
  obtain⟨S,hS,h⟩:=ih
  obtain⟨A,hA,ha,_⟩:=k9 a a
  refine⟨S+A,aT,fun c hc=>?_⟩
  rcases List.mem_cons.1 hc with rfl | hc
  ·exact ha.mono aT
  ·exact(h c hc).mono aT
theorem cH{B:Rat}(ha:Ab a B)(hb:Ab b B)(hx:a<=x)(hy:x<=b):Ab x B:=by
 obtain⟨h1,h2⟩:=ha
 obtain⟨h3,h4⟩:=hb
 exact⟨aT,aT⟩
theorem amH(a b:Rat)(p:ZX):∃W:Rat,0<W ∧ ∀x,a<=x->x<=b->Ab (e x p) W:=by
 obtain⟨B,hB,ha,hb⟩:=k9 a b
 obtain⟨S,hS,h⟩:=GB p.l
 obtain⟨h3,_⟩:=rS hS hB p.l.length
 exact⟨KA S B p.l.length+1,aT,fun x hx hy=>(VB hS hB (cH ha hb hx hy) p.l h).mono aT⟩
theorem Bg.dv(h:Bg a b p)(hd:ZX.dv f p):Bg a b f:=by
 obtain⟨c,hc,q,he⟩:=hd
 obtain⟨η,h1,h2⟩:=(Bg.K (a:=a) (b:=b) hc).mul h
 obtain⟨W,hW,h3⟩:=amH a b q
 refine⟨η/W,(Rat.lt_div_iff hW).2 aT,fun x hx hy=>?_⟩
 have h4:=h2 x hx hy
 rw [he,kH]at h4
 have h5:η/W*W=η:=Rat.div_mul_cancel (Rat.ne_of_gt hW)
 refine Classical.byContradiction fun hn=>?_
 obtain⟨g1,g2⟩:=F7 hn
 obtain⟨k1,k2⟩:=h3 x hx hy
 generalize η/W=θ at *
 generalize e x q=u at *
 generalize e x f=v at *
 have key:∀ {w z:Rat}, -W<=w->w<=W -> -θ<z->z<θ->w*z<θ*W:=fun {w z} a1 a2 a3 a4=>by
  by_cases hw:0<=w
  ·by_cases hz:0<=z
   ·have p1:=Rat.mul_le_mul_of_nonneg_right a2 hz
    have p2:=Rat.mul_lt_mul_of_pos_left a4 hW
    grind
   ·have p1:=Rat.mul_nonneg hw (show 0 <= -z by grind)
    grind
  ·by_cases hz:0<=z
   ·have p1:=Rat.mul_nonneg (show 0 <= -w by grind) hz
    grind
   ·have p1:=Rat.mul_le_mul_of_nonneg_right (show -w<=W by grind) (show 0 <= -z by grind)
    have p2:=Rat.mul_lt_mul_of_pos_left (show -z<θ by grind) hW
    grind
 rcases h4 with h4 | h4
 ·have:=key (w := -u) (z:=v) aT aT g1 g2
  grind
 ·have:=key (w:=u) (z:=v) k1 k2 g1 g2
  grind
theorem Bg.same(h:Bg a b f)(hx:a<=x)(w7:x<y)(hy:y<=b):cP (e y f)=cP (e x f)∧cP (e x f)≠0:=by
 obtain⟨η,hη,h2⟩:=h
 obtain⟨B,hB,ha,hb⟩:=k9 a b
 obtain⟨S,hS,hc⟩:=GB f.l
 obtain⟨h3,_⟩:=rS hS hB f.l.length
 generalize hQ:KA S B f.l.length=Q at *
 have hQ1:0<Q+1:=aT
 have hδ:η/(Q+1)*(Q+1)=η:=Rat.div_mul_cancel (Rat.ne_of_gt hQ1)
 have hδ0:0<η/(Q+1):=(Rat.lt_div_iff hQ1).2 aT
 generalize η/(Q+1)=δ at *
 refine as1 (B:=B) hδ0 (P:=fun x y=>a<=x->y<=b->cP (e y f)=cP (e x f)∧cP (e x f)≠0) (fun x y z h1 h2 p1 p2 hx hz=>?_) (fun x y hx hy w7 hd hax hyb=>?_) (cH ha hb hx aT) (cH ha hb aT hy) w7 hx hy
 ·obtain⟨q1,q2⟩:=p1 hx aT
  obtain⟨q3,q4⟩:=p2 aT hz
  exact⟨q3.trans q1,q2⟩
 ·refine iI (h2 x hax aT) hη ?_
  show ¬mU η (qv y f.l-qv x f.l)
  rw [qQ]
  refine E6 (Q:=Q) aT (hQ▸M4 hS hB hx hy f.l hc) ?_
  have:=Rat.mul_le_mul_of_nonneg_right hd h3
  grind
theorem zV.bg(h:zV L f)(hb:Bg a b f)(gU:a<b):vt L a=vt L b:=by
 refine h.const gU (σ:=cP (e a f)) (.inr rfl) fun x hx hy=>?_
 exact(hb.same Rat.le_refl hx hy).1
theorem zV.aem(h:zV L f)(gU:a<b)(h0:e a f=0):∃c,a<c∧c<=b∧vt L a=vt L c:=by
 obtain⟨B,hB,ha,hb⟩:=k9 a b
 obtain⟨δ,hδ,hl⟩:=h.loc B hB
 by_cases hd:b-a<=δ
 ·refine⟨b,gU,Rat.le_refl,?_⟩
  rw [hl.turns a b ha hb gU hd]
  have:ind f a b=0:=if_neg fun h=>h.1 h0
  omega
 ·refine⟨a+δ,aT,aT,?_⟩
  rw [hl.turns a (a+δ) ha (cH ha hb aT aT) aT aT]
  have:ind f a (a+δ)=0:=if_neg fun h=>h.1 h0
  omega
end Pm
namespace Go.Proofs.YtiobceocpabjdaaGreat
open Go Pm
variable {n d m e:Int}{k:Nat}{p q:Rat}
abbrev T2(n d:Int):PV:=.ag [.bool (decide (n<0)),us (aV LL n.natAbs), .bool (decide (d<0)),us (aV LL d.natAbs)]
abbrev RT(q:Rat):PV:=T2 q.num q.den
theorem amI(n d:Int):((bX [n,d]:Nat):Int)=Int.gcd n d:=by
 simp only [bX,List.foldl_cons,List.foldl_nil,Nat.gcd_zero_left]
 rfl
theorem as4(h:d≠0):(eH n d).num=(if d<0 then -n else n)/(bX [n,d]:Nat)∧((eH n d).den:Int)=(if d<0 then -d else d)/(bX [n,d]:Nat):=by
 have e:∀m k:Int,(m=n∨m = -n)->(k=d∨k = -d)->((Int.gcd m k:Nat):Int)=(bX [n,d]:Nat):=fun m k hm hk=>by
  rw [amI]
  rcases hm with rfl | rfl<;>rcases hk with rfl | rfl<;>simp
 rw [tN n d h,tP n d h]
 constructor
 ·rw [e _ _ (by split<;>simp) (by split<;>simp)]
 ·rw [e _ _ (by split<;>simp) (by split<;>simp)]
theorem uC(hn:sz LL n<1099511627770)(hd:sz LL d<1099511627770)(h0:d≠0):aC 169 [I n,I d] (RT (eH n d)):=by
 have sn:Sz n:=by show _<_;omega
 have sd:Sz d:=by show _<_;omega
 have g0:=UG [xZ n,xZ d] 1099511627770 aF (fun c hc=>by
  simp only [List.mem_cons,List.not_mem_nil,or_false]at hc
  rcases hc with rfl | rfl
  ·exact⟨gZ iT _,by unfold sz at hn;show(aV LL n.natAbs).length<=_;omega⟩
  ·exact⟨gZ iT _,by unfold sz at hd;show(aV LL d.natAbs).length<=_;omega⟩) aG
 rw [show [xZ n,xZ d].map gv = [n,d]by simp [TS]]at g0
 obtain⟨q1,q2⟩:=as4 (n:=n) h0
 have gd1:((bX [n,d]:Nat):Int)∣n:=kF _ n aG
 have gd2:((bX [n,d]:Nat):Int)∣d:=kF _ d aG
 have gne:((bX [n,d]:Nat):Int)≠0:=by
  have:=UL (x:=[n,d]) (c:=d) aG h0;omega
 have gle:((bX [n,d]:Nat):Int).natAbs<=d.natAbs:=Nat.le_of_dvd aA (Int.natAbs_dvd_natAbs.2 gd2)
 have gsz:sz LL ((bX [n,d]:Nat):Int)<1099511627774:=Nat.lt_of_le_of_lt (dN iT gle) aA
 have nn:∀v,xG (aV LL v)↔xG (aV LL v):=fun _=>Iff.rfl
 have neg:∀v:Int,Sz v->aC 148 [I v] (I (-v)):=fun v hv=>by
  have:=H5 (decide (v<0)) (aV LL v.natAbs) hv.lok
  rw [show iv (decide (v<0)) (aV LL v.natAbs)=v from TS v]at this
  exact this
 generalize hg:((bX [n,d]:Nat):Int)=g at *
 have ex:∀v:Int,g∣v->sz LL v<1099511627774->aC 234 [I v,I g] (.dK [I (v/g),aB 0]):=fun v hv hs=>by
  have:=PH hs gsz gne
  rw [if_pos (Int.emod_eq_zero_of_dvd hv)]at this
  exact this
 have n1:=neg n sn
 have n2:=neg d sd
 have azr:∀v:Int,sz LL (-v)=sz LL v:=fun v=>by unfold sz;rw [Int.natAbs_neg]
 have e1:=ex (if d<0 then -n else n) (by split;exact(Int.dvd_neg.2 gd1);exact gd1) (by split;rw [azr];omega;omega)
 have e2:=ex (if d<0 then -d else d) (by split;exact(Int.dvd_neg.2 gd2);exact gd2) (by split;rw [azr];omega;omega)
 rw [<-q1]at e1
 rw [<-q2]at e2
 have eg:Pg [xZ n,xZ d] = .sl [[.bool (decide (n<0)),us (aV LL n.natAbs)],[.bool (decide (d<0)),us (aV LL d.natAbs)]]:=rfl
 rw [eg]at g0
 show aC _ _ (T2 (eH n d).num (eH n d).den)
 generalize (eH n d).num=rn at *
 generalize ((eH n d).den:Int)=rd at *
 apply cG [(0,I n),(1,I d)] Tryz.func169
 apply gJ [2,3,4] g0 [2,3,4,5]
 generalize FE:(if d<0 then -n else n)=n' at *
 generalize hd':(if d<0 then -d else d)=d' at *
 refine W.iS (fun σ=>bF σ [(2, .ptr 2 0 0 0),(3, .ptr 3 1 0 0),(4, .ptr 4 2 0 0),(5, .ptr 5 3 0 0)] fun rows clk=>rows 2=some ⟨0,38,2,[ie n']⟩∧rows 3=some ⟨1,38,2,[ie d']⟩∧rows 4=some ⟨2,52,4,[[.bool false, .nil, .bool false, .nil]]⟩∧rows 5=some ⟨3,38,2,[ie g]⟩) ?_ ?_
 ·apply aQ [2,3,4,5,11]
  refine W.cond ⟨_,rfl,fun h=>?_,fun h=>?_⟩
  ·have h:d<0:=by simpa using h
   rw [if_pos h]at FE hd'
   subst FE hd'
   refine W.K1 fun K hK=>?_
   apply fV n1 n2
   apply (cV)
   (try (refine aY (of_decide_eq_true cT) ?_));(try simp (maxSteps:=4000000) (disch:=omega) [gw]);(repeat rw [if_pos cT]);(try simp (maxSteps:=4000000) (disch:=omega) [gw])
   (try (refine aY (of_decide_eq_true cT) ?_));(try simp (maxSteps:=4000000) (disch:=omega) [gw]);(repeat rw [if_pos cT]);(try simp (maxSteps:=4000000) (disch:=omega) [gw])
   exact hK _ ⟨_,aD _ [2,3,4,5],_,_,rfl,aG,aG,aG,aG⟩
  ·have h:¬d<0:=by simpa using h
   rw [if_neg h]at FE hd'
   subst FE hd'
   apply W.skip
   exact⟨_,aD _ [2,3,4,5],_,_,rfl,aG,aG,aG,aG⟩
 rintro _ ⟨rows,clk,rfl,bS,bK,dW,dX⟩
 simp only [ie]at bS bK dX
 apply qE bS dX e1
 apply sS bS [2,3,4,5]
 apply qE bK dX e2
 apply sS bK [2,3,4]
 apply fJ dW [4]
 exact j8
theorem M8(d:Int):aC 124 [I d] (.bool (decide (d=0))):=by
 have:=TT (decide (d<0)) (aV LL d.natAbs)
 rw [show decide ((aV LL d.natAbs).length=0)=decide (d=0)from by
  by_cases h:d=0
  ·subst h;rfl
  ·have:aV LL d.natAbs ≠ []:=fun h2=>h (by have:=nD iT d.natAbs;rw [h2]at this;simp [V]at this;omega)
   have h3:=List.length_pos_iff.2 this
   simp [h];omega]at this
 exact this
theorem ZM(n:Int):eH n 0=eH n 1:=by rw [oM,eH,if_pos rfl]
theorem pZ(hn:sz LL n<1099511627770)(hd:sz LL d<1099511627770):aC 147 [T2 n d] (RT (eH n d)):=by
 have sn:Sz n:=by show _<_;omega
 have sd:Sz d:=by show _<_;omega
 have n1:=O8 sn
 have n2:=O8 sd
 have z1:=M8 d
 have o1:=H7 1 aF aF
 obtain⟨e,he,hed⟩:∃e,e=(if d=0 then 1 else d)∧eH n e=eH n d:=by
  refine⟨_,rfl,?_⟩
  split
  ·rename_i h;rw [h,ZM]
  ·rfl
 have WH:sz LL e<1099511627770:=by
  rw [he]
  split
  ·exact Nat.lt_of_le_of_lt (dZ (k:=1) iT aF) aF
  ·exact hd
 have I7:e≠0:=by
  rw [he]
  split
  ·decide
  ·assumption
 have l1:=uC (n:=n) (d:=e) hn WH I7
 rw [hed]at l1
 show aC _ _ (T2 (eH n d).num (eH n d).den)
 replace l1:aC 169 [I n,I e] (T2 (eH n d).num (eH n d).den):=l1
 clear hed WH I7
 generalize (eH n d).num=rn at *
 generalize ((eH n d).den:Int)=rd at *
 apply cG [(0,T2 n d)] Tryz.func147
 apply gJ [1,2] n2 [1,2,3]
 refine W.iS (fun σ=>bF σ [(1, .ptr 1 0 0 0),(2, .ptr 2 1 0 0),(3, .ptr 3 2 0 0)] fun rows clk=>rows 1=some ⟨0,52,4,[[.bool (decide (n<0)),us (aV LL n.natAbs), .bool (decide (d<0)),us (aV LL d.natAbs)]]⟩∧rows 2=some ⟨1,52,4,[[.bool false, .nil, .bool false, .nil]]⟩∧rows 3=some ⟨2,38,2,[[.bool (decide (e<0)),us (aV LL e.natAbs)]]⟩) ?_ ?_
 ·apply cK z1 [1,2,3,8]
  refine W.cond ⟨_,rfl,fun h=>?_,fun h=>?_⟩
  ·have h:d=0:=by simpa using h
   rw [if_pos h]at he
   subst he
   refine W.bY fun K hK=>?_
   apply o9 o1
   exact hK _ ⟨_,aD _ [1,2,3],_,_,rfl,aG,aG,aG⟩
  ·have h:¬d=0:=by simpa using h
   rw [if_neg h]at he
   subst he
   apply W.skip
   exact⟨_,aD _ [1,2,3],_,_,rfl,aG,aG,aG⟩
 rintro _ ⟨rows,clk,rfl,yI,bS,bK⟩
 apply W.sd
 apply j0 yI n1
 apply j0 bK l1
 apply eV bS
 (try (refine aY (of_decide_eq_true cT) ?_));(try simp (maxSteps:=4000000) (disch:=omega) [gw,bS]);(repeat rw [if_pos cT]);(try simp (maxSteps:=4000000) (disch:=omega) [gw,bS])
 exact pJ [2]
theorem DO(hn:sz LL n<=k)(hd:sz LL d<=k)(hm:sz LL m<=k)(he:sz LL e<=k)(hk:k<=500000000000)(hp:eH n d=p)(hq:eH m e=q)(sp:sz LL p.num<=k∧sz LL (p.den:Int)<=k)(sq:sz LL q.num<=k∧sz LL (q.den:Int)<=k) :
  aC 165 [T2 n d,T2 m e] (.dK [I (p.num*q.den),I (q.num*p.den),I ((p.den:Int)*q.den)]):=by
 have n1:=pZ (n:=n) (d:=d) aA aA
 have n2:=pZ (n:=m) (d:=e) aA aA
 rw [hp]at n1
 rw [hq]at n2
 have z:∀ {v:Int},sz LL v<=k->Sz v:=fun h=>by show _<_;omega
 have m1:=BH (z sp.1) (z sq.2)
 have m2:=BH (z sq.1) (z sp.2)
 have m3:=BH (z sp.2) (z sq.2)
 replace n1:aC 147 [T2 n d] (T2 p.num p.den):=n1
 replace n2:aC 147 [T2 m e] (T2 q.num q.den):=n2
 clear sp sq hp hq
 generalize p.num*(q.den:Int)=x1 at *
 generalize q.num*(p.den:Int)=x2 at *
 generalize (p.den:Int)*(q.den:Int)=x3 at *
 generalize p.num=pn at *
 generalize (p.den:Int)=pd at *
 generalize q.num=qn at *
 generalize (q.den:Int)=qd at *
 apply cG [(0,T2 n d),(1,T2 m e)] Tryz.func165
 apply kR [2,3,4,5,6]
 apply fV n1 n2
 apply (cV)
 (try (refine aY (of_decide_eq_true cT) ?_));(try simp (maxSteps:=4000000) (disch:=omega) [gw]);(repeat rw [if_pos cT]);(try simp (maxSteps:=4000000) (disch:=omega) [gw])
 (try (refine aY (of_decide_eq_true cT) ?_));(try simp (maxSteps:=4000000) (disch:=omega) [gw]);(repeat rw [if_pos cT]);(try simp (maxSteps:=4000000) (disch:=omega) [gw])
 apply cO [2,3,4,5,6]
 apply W.sd
 simp (maxSteps:=4000000) (disch:=omega) [gw]
 apply j9 m1
 simp (maxSteps:=4000000) (disch:=omega) [gw]
 apply j9 m2
 simp (maxSteps:=4000000) (disch:=omega) [gw]
 apply j9 m3
 simp (maxSteps:=4000000) (disch:=omega) [gw]
 (try (refine aY (of_decide_eq_true cT) ?_));(try simp (maxSteps:=4000000) (disch:=omega) [gw]);(repeat rw [if_pos cT]);(try simp (maxSteps:=4000000) (disch:=omega) [gw])
 (try (refine aY (of_decide_eq_true cT) ?_));(try simp (maxSteps:=4000000) (disch:=omega) [gw]);(repeat rw [if_pos cT]);(try simp (maxSteps:=4000000) (disch:=omega) [gw])
 (try (refine aY (of_decide_eq_true cT) ?_));(try simp (maxSteps:=4000000) (disch:=omega) [gw]);(repeat rw [if_pos cT]);(try simp (maxSteps:=4000000) (disch:=omega) [gw])
 exact pJ [4,5,6]
theorem dM(hn:sz LL n<=k)(hd:sz LL d<=k)(hm:sz LL m<=k)(he:sz LL e<=k)(hk:k<=500000000000)(hp:eH n d=p)(hq:eH m e=q)(sp:sz LL p.num<=k∧sz LL (p.den:Int)<=k)(sq:sz LL q.num<=k∧sz LL (q.den:Int)<=k) :
  aC 86 [T2 n d,T2 m e] (aB (eA (p.num*q.den) (q.num*p.den))):=by
 have c1:=DO hn hd hm he hk hp hq sp sq
 have g1:=cW (b:=LL) iT sp.1 sq.2
 have g2:=cW (b:=LL) iT sq.1 sp.2
 have w1:=aho (x:=p.num*q.den) (y:=q.num*p.den) (by show _<_;omega) (by show _<_;omega)
 clear sp sq hp hq g1 g2
 generalize eA (p.num*(q.den:Int)) (q.num*(p.den:Int))=r at *
 generalize p.num*(q.den:Int)=x1 at *
 generalize q.num*(p.den:Int)=x2 at *
 generalize (p.den:Int)*(q.den:Int)=x3 at *
 apply cG [(0,T2 n d),(1,T2 m e)] Tryz.func86
 apply gJ [2,3] c1 [5,6]
 exact C7 w1 [4]
theorem B4(hn:sz LL n<1099511627770)(hd:sz LL d<1099511627770):aC 90 [T2 n d, .sl []] (RT (eH n d)):=by
 have n1:=pZ hn hd
 show aC _ _ (T2 (eH n d).num (eH n d).den)
 replace n1:aC 147 [T2 n d] (T2 (eH n d).num (eH n d).den):=n1
 generalize (eH n d).num=rn at *
 generalize ((eH n d).den:Int)=rd at *
 apply cG [(0,T2 n d),(1, .sl [])] Tryz.func90
 apply gJ [1,2,4] n1 [1,4,5]
 apply eE [4,5,10,11,12]
 refine W.bB (fun k σ=>bF σ [(4, .ptr 4 1 0 0),(5, .ptr 5 2 0 0),(11,aB 0),(12,aB 0)] fun rows clk=>rows 4=some ⟨1,52,4,[[.bool false, .nil, .bool false, .nil]]⟩∧rows 5=some ⟨2,52,4,[[.bool (decide (rn<0)),us (aV LL rn.natAbs), .bool (decide (rd<0)),us (aV LL rd.natAbs)]]⟩) 0 ?_ ?_
 ·exact⟨_,aD _ [4,5,11,12],_,_,rfl,aG,aG⟩
 rintro k _ ⟨rows,clk,rfl,dW,dX⟩
 apply cN [4,5,11,12,13]
 refine W.cond ⟨_,rfl,fun h=>?_,fun h=>?_⟩
 ·simp at h
 ·apply (jV)
  exact FL dW dX [4]
theorem aen(hn:sz LL n<1099511627770)(hd:sz LL d<1099511627770):aC 166 [T2 n d] (RT (eH n d)):=by
 have n1:=B4 hn hd
 show aC _ _ (T2 (eH n d).num (eH n d).den)
 replace n1:aC 90 [T2 n d, .sl []] (T2 (eH n d).num (eH n d).den):=n1
 generalize (eH n d).num=rn at *
 generalize ((eH n d).den:Int)=rd at *
 apply cG [(0,T2 n d)] Tryz.func166
 apply gJ [1,2] n1 [2]
 exact j8
end Go.Proofs.YtiobceocpabjdaaGreat
namespace Go.Proofs.YtiobceocpabjdaaGreat
open Go Pm
open ZX hiding N W
variable {l:List PV}{i s k u:Nat}{v n d m e:Int}{c:List ZX}{x:List Int}{q:Rat}{rows:Pm.Rows}{a:ZX}
def zW(st:Nat × Int)(s:Int):Nat × Int:=if s=0 then st else(if st.2≠0∧s≠st.2 then st.1+1 else st.1,s)
def vr(l:List Int):Nat:=(l.foldl zW (0,0)).1
theorem ZN(l:List Int):∀st:Nat × Int,(l.foldl zW st).1<=st.1+l.length:=by
 induction l with
 | nil=>intro st;simp
 | cons s l ih =>
  intro st
  have h:=ih (zW st s)
  have:(zW st s).1<=st.1+1:=by
   unfold zW
   split
   ·omega
   ·simp only;split<;>omega
  simp only [List.foldl_cons,List.length_cons]
  omega
theorem JC(l:List Int):vr l<=l.length:=by have:=ZN l (0,0);simpa [vr]using this
theorem DP{l:List Int}(h:i<l.length):(l.take (i+1)).foldl zW (0,0)=zW ((l.take i).foldl zW (0,0)) (nth l i):=by
 rw [List.take_add_one,List.getElem?_eq_getElem h,bZ h,List.foldl_append]
 rfl
theorem GC(l:List Int)(i:Nat):aI (nth l i) = [aB (nth l i)]:=rfl
theorem ZO(l:List Int)(hl:l.length<1099511627776):aC 223 [aJ aI l] (aB (vr l)):=by
 have hv:vr l=((l.take l.length).foldl zW (0,0)).1:=by rw [List.take_length];rfl
 rw [hv]
 have hb:∀i,((l.take i).foldl zW (0,0)).1<=i:=fun i=>by have:=ZN (l.take i) (0,0);simp at this;omega
 have j2:=fun i (h:i<l.length)=>DP h
 generalize (fun i=>(l.take i).foldl zW (0,0))=F at *
 apply cG [(0,aJ aI l)] Tryz.func223
 apply fK [0] [0,3,4]
 apply eE [0,3,4,7,8]
 refine W.bB (fun k σ=>∃(i:Nat) (n:Nat) (s:Int),bF σ [(0,aJ aI l),(3,aB n),(4,aB s),(7,aB l.length),(8,aB i)] fun rows clk=>i+k=l.length∧(l.take i).foldl zW (0,0)=(n,s)) l.length ?_ ?_
 ·exact⟨_, .refl,0,0,0,_,_,rfl,aA,aG⟩
 rintro k _ ⟨i,n,s,rows,clk,rfl,tM,hF⟩
 have hni:n<=i:=by have:=hb i;rw [hF]at this;exact this
 apply cN [0,3,4,7,8,9]
 refine W.cond ⟨_,rfl,fun h=>?_,fun h=>?_⟩
 ·have hi:i<l.length:=by simp at h;omega
  have sX:=j2 i hi
  rw [hF]at sX
  generalize hx:nth l i=x at *
  apply W.skip
  refine W.dS (fun σ=>∃(n':Nat) (s':Int),bF σ [(0,aJ aI l),(3,aB n'),(4,aB s'),(7,aB l.length),(8,aB i)] fun rows clk=>zW (n,s) x=(n',s')) ?_ ?_
  ·apply aQ [0,3,4,5,7,8]
   apply W.sr
   simp (disch:=omega) [gw,hi,hx,GC]
   apply cO [0,3,4,5,7,8,15]
   refine W.cond ⟨_,rfl,fun h=>?_,fun h=>?_⟩
   ·have sB:x≠0:=by simpa using h
    refine W.iS (fun σ=>∃(n':Nat),bF σ [(0,aJ aI l),(3,aB n'),(5,aB i),(7,aB l.length),(8,aB i)] fun rows clk=>zW (n,s) x=(n',x)) ?_ ?_
    ·refine W.fI (fun σ=>∃(b:Bool),bF σ [(0,aJ aI l),(3,aB n),(5,aB i),(7,aB l.length),(8,aB i),(25, .bool b)] fun rows clk=>b=decide (s≠0∧x≠s)) (fun K hK=>?_) ?_
     ·by_cases hs0:s=0
      ·subst hs0
       simp (disch:=omega) [gw,hi,hx,GC]
       exact hK _ _ (aD _ [0,3,5,7,8,25]) ⟨_,_,_,rfl,aG⟩
      ·have OD:(s != 0)=true:=by simpa using hs0
       simp (disch:=omega) [gw,hi,hx,GC,OD]
       exact hK _ _ (aD _ [0,3,5,7,8,25]) ⟨_,_,_,rfl,by simp [hs0];rfl⟩
     rintro _ ⟨b,rows,clk,rfl,rfl⟩
     refine W.cond ⟨_,rfl,fun h=>?_,fun h=>?_⟩
     ·have h:=of_decide_eq_true h
      refine W.bY (fun K hK=>?_);simp (disch:=omega) [gw]
      exact hK _ ⟨_,aD _ [0,3,5,7,8],n+1,_,_,rfl,by unfold zW;rw [if_neg sB];simp only;rw [if_pos h]⟩
     ·have h:=of_decide_eq_false h
      apply W.skip
      exact⟨_,aD _ [0,3,5,7,8],n,_,_,rfl,by unfold zW;rw [if_neg sB];simp only;rw [if_neg h]⟩
    rintro _ ⟨n',rows,clk,rfl,FE⟩
    refine W.bY (fun K hK=>?_);simp (disch:=omega) [gw,hi,hx,GC]
    exact hK _ ⟨_,aD _ [0,3,4,7,8],n',x,_,_,rfl,FE⟩
   ·have sB:x=0:=by simpa using h
    apply W.skip
    exact⟨_,aD _ [0,3,4,7,8],n,s,_,_,rfl,by unfold zW;rw [if_pos sB]⟩
  rintro _ ⟨n',s',rows,clk,rfl,FE⟩
  refine W.bY (fun K hK=>?_);simp (disch:=omega) [gw]
  refine hK _ ⟨k-1,_,aD _ [0,3,4,7,8],aA,i+1,n',s',_,_,rfl,aA,by rw [sX,FE]⟩
 ·have hi:i=l.length:=by simp at h;omega
  subst hi
  apply xY [2]
  rw [hF]
  exact j8
def eL(x:List Int):Int:=if x.length%2=0 then -(lead x).sign else(lead x).sign
def eR(x:List Int):Int:=(lead x).sign
def rT(c:List ZX)(n d:Int):List Int:=c.map fun p=>QC p.l n d
def sgL(c:List ZX):List Int:=c.map fun p=>eL p.l
def sgR(c:List ZX):List Int:=c.map fun p=>eR p.l
theorem GD{l:List Int}:emap aI l ++ [[aB v]]=emap aI (l ++ [v]):=by simp [emap,aI]
theorem LB{α:Type}[Inhabited α](f:α->Int){c:List α}(h:i<c.length):(c.take i).map f ++ [f (nth c i)]=(c.take (i+1)).map f:=by
 rw [List.take_add_one,List.getElem?_eq_getElem h,bZ h,List.map_append];rfl
theorem VD(hl:c.length<1000000)(hS:∀p∈c,aC 77 [PI p.l,R2 n d] (aB (QC p.l n d))):aC 151 [aJ zq c,R2 n d] (aB (vr (rT c n d))):=by
 have hT:=ZO (rT c n d) (by simp [rT];omega)
 have gS:(emap aI (rT c n d)).length=c.length:=by simp [rT,emap]
 have CQ:(rT c n d)=(c.take c.length).map fun p=>QC p.l n d:=by rw [List.take_length];rfl
 have htG:(rT c n d).take c.length=rT c n d:=List.take_of_length_le (by simp [rT])
 generalize vr (rT c n d)=r at *
 generalize hg:rT c n d=G at *
 apply cG [(0,aJ zq c),(1,R2 n d)] Tryz.func151
 apply fK [0,3] [0,3,5]
 refine W.nil 5 5 3 1 aG aF fun K hK=>?_
 refine W.lw [0,3,5] hK ?_;clear hK K;simp
 apply eE [0,3,5,8,9]
 refine W.bB (fun k σ=>∃(i ver v3 e3:Nat),bF σ [(0,aJ zq c),(3, .ptr 3 v3 0 0),(5, .own 5 ver 0 i),(8,aB c.length),(9,aB i)] fun rows clk=>i+k=c.length ∧
  rows 3=some ⟨v3,e3,4,[[aJ aI (aV DD n.natAbs), .bool (decide (n<0)),aJ aI (aV DD d.natAbs), .bool (decide (d<0))]]⟩∧rows 5=some ⟨ver,3,1,emap aI ((c.take i).map fun p=>QC p.l n d)⟩) c.length ?_ ?_
 ·exact⟨_, .refl,0,_,_,_,_,_,rfl,aA,by simp;first | exact⟨rfl,rfl⟩ | exact rfl,by simp [emap]⟩
 rintro k _ ⟨i,ver,v3,e3,rows,clk,rfl,tM,bK,dX⟩
 have zI:((c.take i).map fun p=>QC p.l n d).length=i:=by simp;omega
 apply cN [0,3,5,8,9,10]
 refine W.cond ⟨_,rfl,fun h=>?_,fun h=>?_⟩
 ·have hi:i<c.length:=by simp at h;omega
  have hSi:=hS _ (bO hi)
  have hap:=LB (fun p:ZX=>QC p.l n d) hi
  generalize hpr:(c.take i).map (fun p=>QC p.l n d)=pr at *
  generalize hv:QC (nth c i).l n d=v at *
  have pS:(emap aI pr).length=i:=by simp [emap,zI]
  apply oR [0,3,5,6,8,9]
  refine W.K1 fun K hK=>?_
  apply C6 hi bK dX hSi
  simp (disch:=omega) [gw,dX,pS,GD]
  (try (refine aY (of_decide_eq_true cT) ?_));(try simp (maxSteps:=4000000) (disch:=omega) [gw,dX,pS,GD]);(repeat rw [if_pos cT]);(try simp (maxSteps:=4000000) (disch:=omega) [gw,dX,pS,GD])
  refine W.lw [0,3,5,8,9] hK ?_;clear hK K;simp
  refine W.bY (fun K hK=>?_);simp (disch:=omega) [gw]
  refine hK _ ⟨k-1,_,aD _ [0,3,5,8,9],aA,i+1,_,v3,e3,_,_,rfl,aA,by simp [bK],by simp [GD,hap]⟩
 ·have hi:i=c.length:=by simp at h;omega
  subst hi
  rw [<-CQ]at dX
  apply (jV)
  apply C6 dX gS htG hT
  exact gI [4]
theorem VE(hn:sz 2 n<=YY)(hd:sz 2 d<=YY)(hm:sz 2 m<=YY)(he:sz 2 e<=YY)(hl:c.length<1000000)(h1:aC 151 [aJ zq c,R2 n d] (aB (vr (rT c n d))))(h2:aC 151 [aJ zq c,R2 m e] (aB (vr (rT c m e)))) :
  aC 76 [aJ zq c,R2 n d,R2 m e] (aB (if m*d<n*e then 0 else(vr (rT c n d):Int)-vr (rT c m e))):=by
 have c1:=DM m e n d hm he hn hd
 have v1:=JC (rT c n d)
 have v2:=JC (rT c m e)
 have l1:(rT c n d).length=c.length:=by simp [rT]
 have l2:(rT c m e).length=c.length:=by simp [rT]
 generalize vr (rT c n d)=a at *
 generalize vr (rT c m e)=b at *
 have hc:(eA (m*d) (n*e)<0)↔m*d<n*e:=by
  unfold eA;split
  ·omega
  ·split<;>omega
 generalize m*d=xx at *
 generalize n*e=yy at *
 generalize eA xx yy=z at *
 apply cG [(0,aJ zq c),(1,R2 n d),(2,R2 m e)] Tryz.func76
 apply cN [0,4,5]
 apply cK c1 [0,4,5,10]
 refine W.cond ⟨_,rfl,fun h=>?_,fun h=>?_⟩
 ·have h:z<0:=by simpa using h
  rw [if_pos (hc.1 h)]
  exact eY [6]
 ·have h:¬z<0:=by simpa using h
  rw [if_neg (fun hh=>h (hc.2 hh))]
  apply (HT)
  apply fV h1 h2
  exact gI [6]
theorem amJ(hn:Z n)(hd:Z d):aC 23 [R2 n d] (T2 n d):=by
 have t1:=PC n hn
 have t2:=PC d hd
 apply cG [(0,R2 n d)] Tryz.func23
 apply kR [1,2]
 apply fV t1 t2
 apply (cV)
 (try (refine aY (of_decide_eq_true cT) ?_));(try simp (maxSteps:=4000000) (disch:=omega) [gw]);(repeat rw [if_pos cT]);(try simp (maxSteps:=4000000) (disch:=omega) [gw])
 exact pJ [2]
abbrev CH(c:List ZX):PV:=.rd [aJ zp c]
theorem VF{l:List Int}(hs:∀s∈l,s = -1∨s=0∨s=1):∀i,i<=l.length->((l.take i).foldl zW (0,0)).2 = -1∨((l.take i).foldl zW (0,0)).2=0∨((l.take i).foldl zW (0,0)).2=1
 | 0,_ => .inr (.inl aG)
 | i+1,h=>by
  rw [DP aA]
  have ih:=VF hs i aA
  have:=hs _ (bO (show i<l.length by omega))
  unfold zW
  split
  ·exact ih
  ·exact this
theorem zY(g:FuncId)(hw:K3 g=false)(bR:List PV)(hc:bR.all cY=true)(c:List ZX)(sg:ZX->Int)(hl:c.length<1000000)(hs:∀p∈c,sg p = -1∨sg p=0∨sg p=1)(hg:∀p∈c,aC g (Po p.l::bR) (aB (sg p)))(hm:vX g=false:=by rfl) :
  aC 219 [CH c, .fn g bR] (aB (vr (c.map sg))):=by
 have hv:vr (c.map sg)=(((c.map sg).take c.length).foldl zW (0,0)).1:=by rw [List.take_of_length_le aG];rfl
 rw [hv]
 have hb:∀i,(((c.map sg).take i).foldl zW (0,0)).1<=i:=fun i=>by have:=ZN ((c.map sg).take i) (0,0);simp at this;omega
 have j2:=fun i (h:i<(c.map sg).length)=>DP h
 have U6:=VF (l:=c.map sg) (fun s h=>by
  simp only [List.mem_map]at h
  obtain⟨p,hp,rfl⟩:=h
  exact hs p hp)
 have hln:(c.map sg).length=c.length:=aG
 have zO:∀i,i<c.length->nth (c.map sg) i=sg (nth c i):=fun i hi=>by rw [bZ (by simpa using hi),bZ hi];simp
 apply cG [(0,CH c),(1, .fn g bR)] Tryz.func219
 apply fK [0,1] [0,1,5,6]
 apply eE [1,5,6,13,14,15]
 refine W.bB (fun k σ=>∃(i:Nat) (n:Nat) (s:Int),bF σ [(1, .fn g bR),(5,aB n),(6,aB s),(13,aJ zp c),(14,aB c.length),(15,aB i)] fun rows clk=>i+k=c.length∧((c.map sg).take i).foldl zW (0,0)=(n,s)) c.length ?_ ?_
 ·exact⟨_, .refl,0,0,0,_,_,rfl,aA,aG⟩
 rintro k _ ⟨i,n,s,rows,clk,rfl,tM,hF⟩
 have hni:n<=i:=by have:=hb i;rw [hF]at this;exact this
 have hsv:=U6 i aA
 rw [hF]at hsv
 simp only at hsv
 apply cN [1,5,6,13,14,15,16]
 refine W.cond ⟨_,rfl,fun h=>?_,fun h=>?_⟩
 ·have hi:i<c.length:=by simp at h;omega
  have sX:=j2 i aA
  have hgi:=hg _ (bO hi)
  have hxv:=hs _ (bO hi)
  rw [hF,zO i hi]at sX
  generalize hx:sg (nth c i)=x at *
  apply W.skip
  refine W.dS (fun σ=>∃(n':Nat) (s':Int),bF σ [(1, .fn g bR),(5,aB n'),(6,aB s'),(13,aJ zp c),(14,aB c.length),(15,aB i)] fun rows clk=>zW (n,s) x=(n',s')) ?_ ?_
  ·apply fJ hi [1,5,6,8,13,14,15]
   apply W.sr
   simp (disch:=omega) [gw, -K3,hw, -vX,hm,hc]
   apply jW hgi
   apply cO [1,5,6,9,13,14,15]
   apply cQ [1,5,6,9,13,14,15,23]
   refine W.cond ⟨_,rfl,fun h=>?_,fun h=>?_⟩
   ·have sB:x=0:=by simpa using h
    apply (gK)
    exact⟨_,aD _ [1,5,6,13,14,15],n,s,_,_,rfl,by unfold zW;rw [if_pos sB]⟩
   ·have sB:x≠0:=by simpa using h
    apply W.skip
    refine W.iS (fun σ=>∃(n':Nat),bF σ [(1, .fn g bR),(5,aB n'),(9,aB x),(13,aJ zp c),(14,aB c.length),(15,aB i)] fun rows clk=>zW (n,s) x=(n',x)) ?_ ?_
    ·apply aQ [1,5,9,13,14,15,27]
     refine W.cond ⟨_,rfl,fun h=>?_,fun h=>?_⟩
     ·have h:s = -x:=by simpa using h
      refine W.bY (fun K hK=>?_);simp (disch:=omega) [gw]
      exact hK _ ⟨_,aD _ [1,5,9,13,14,15],n+1,_,_,rfl,by unfold zW;rw [if_neg sB];simp only;rw [if_pos ⟨aA,aA⟩]⟩
     ·have h:¬s = -x:=by simpa using h
      apply W.skip
      exact⟨_,aD _ [1,5,9,13,14,15],n,_,_,rfl,by unfold zW;rw [if_neg sB];simp only;rw [if_neg (fun hh=>by obtain⟨h1,h2⟩:=hh;omega)]⟩
    rintro _ ⟨n',rows,clk,rfl,FE⟩
    refine W.bY (fun K hK=>?_);simp (disch:=omega) [gw]
    exact hK _ ⟨_,aD _ [1,5,6,13,14,15],n',x,_,_,rfl,FE⟩
  rintro _ ⟨n',s',rows,clk,rfl,FE⟩
  refine W.bY (fun K hK=>?_);simp (disch:=omega) [gw]
  refine hK _ ⟨k-1,_,aD _ [1,5,6,13,14,15],aA,i+1,n',s',_,_,rfl,aA,by rw [sX,FE]⟩
 ·have hi:i=c.length:=by simp at h;omega
  subst hi
  apply xY [4]
  rw [hF]
  exact j8
theorem aiF{s k u:Nat}{n d:Int}(hn:sz LL n<=u)(hd:sz LL d<=u)(hu:1<=u):∀ {x:List Int},Bd LL s k x->sz LL (hm n d x).1<=s+x.length*(u+1)∧sz LL (hm n d x).2<=x.length*u+1
 | [],_=>⟨by show sz LL 0<=_;rw [show sz LL 0=0 by decide];omega,by show sz LL 1<=_;exact Nat.le_trans (dZ (k:=1) iT aF) aA⟩
 | a::l,h=>by
  obtain⟨h1,h2⟩:=aiF hn hd hu (x:=l) ⟨Nat.le_trans aG h.len,fun c hc=>h.sz c (by simp [hc])⟩
  have ha:=h.sz a aG
  have e:(a::l).length*u=l.length*u+u:=by rw [List.length_cons,Nat.add_mul];omega
  have e':(a::l).length*(u+1)=l.length*u+l.length+u+1:=by rw [List.length_cons,Nat.add_mul,Nat.mul_add];omega
  have e'':l.length*(u+1)=l.length*u+l.length:=by rw [Nat.mul_add];omega
  refine⟨?_,?_⟩
  ·have g1:=cW (b:=LL) iT h1 hn
   have g2:=cW (b:=LL) iT ha h2
   have:=qH (b:=LL) iT (Nat.le_trans g1 (Nat.le_max_left _ (s+(l.length*u+1)))) (Nat.le_trans g2 (Nat.le_max_right (s+l.length*(u+1)+u) _))
   refine Nat.le_trans this ?_
   rw [e',e'']
   omega
  ·have:=cW (b:=LL) iT h2 hd
   rw [e]
   exact Nat.le_trans this aA
theorem aeq(hx:Bd LL s k x)(hn:sz LL n<=u)(hd:sz LL d<=u)(hu:1<=u)(hk:k<1099511627776)(hB:s+k*(u+1)+u<500000000000):aC 167 [Po x,I n,I d] (I (hm n d x).1)∧Sz (hm n d x).1:=by
 have hl:=hx.len
 have hO:=H7 1 aF aF
 have bd:=fun i=>aiF (s:=s) (k:=k) (x:=x.drop i) hn hd hu ⟨by simp;omega,fun c hc=>hx.sz c (List.mem_of_mem_drop hc)⟩
 have hle:∀i,(x.drop i).length*(u+1)<=k*(u+1):=fun i=>Nat.mul_le_mul_right _ (by simp;omega)
 have aix:∀i,(x.drop i).length*u<=(x.drop i).length*(u+1):=fun i=>Nat.mul_le_mul_left _ aA
 have step:∀i,i<x.length->hm n d (x.drop i)=((hm n d (x.drop (i+1))).1*n+nth x i*(hm n d (x.drop (i+1))).2,(hm n d (x.drop (i+1))).2*d):=fun i hi=>by
  rw [List.drop_eq_getElem_cons hi,bZ hi];rfl
 have ZI:hm n d (x.drop x.length)=(0,1):=by rw [List.drop_length];rfl
 have h0:hm n d (x.drop 0)=hm n d x:=rfl
 have hz:Sz (hm n d x).1:=by have:=(bd 0).1;have:=hle 0;rw [h0]at *;show _<_;omega
 refine⟨?_,hz⟩
 have M:∀i,i<x.length->aC 66 [I (hm n d (x.drop (i+1))).1,I n] (I ((hm n d (x.drop (i+1))).1*n))∧aC 66 [I (nth x i),I (hm n d (x.drop (i+1))).2] (I (nth x i*(hm n d (x.drop (i+1))).2)) ∧
   aC 65 [I ((hm n d (x.drop (i+1))).1*n),I (nth x i*(hm n d (x.drop (i+1))).2)] (I (hm n d (x.drop i)).1)∧aC 66 [I (hm n d (x.drop (i+1))).2,I d] (I (hm n d (x.drop i)).2):=fun i hi=>by
  obtain⟨b1,b2⟩:=bd (i+1)
  have l1:=hle (i+1)
  have l2:=aix (i+1)
  have ha:=hx.sz _ (bO hi)
  have g1:=cW (b:=LL) iT b1 hn
  have g2:=cW (b:=LL) iT ha b2
  have zz:∀ {v:Int},sz LL v<1099511627776->Sz v:=fun h=>h
  have e:=step i hi
  rw [e]
  exact⟨BH (zz aA) (zz aA),BH (zz aA) (zz aA),abl (zz aA) (zz aA),BH (zz aA) (zz aA)⟩
 clear bd hle aix step hz
 generalize hm n d x=r0 at *
 apply cG [(0,Po x),(1,I n),(2,I d)] Tryz.func167
 apply aQ [0,4,5,6]
 apply gJ [0,4,5,6,7] hO [0,4,5,6,7,8]
 apply cQ [0,4,5,6,7,8,9]
 refine W.row (id:=7) (els:=[[.bool false, .nil]]) [[.bool (decide ((0:Int)<0)),us (aV LL (0:Int).natAbs)]] (by simp;first | exact⟨rfl,rfl,rfl⟩ | exact⟨rfl,rfl⟩ | rfl) ⟨⟨.inl rfl, .inr ⟨rfl,rfl⟩,trivial⟩,trivial⟩ ?_
 apply W.block
 refine W.bB (fun k σ=>∃(v4 v5 v6 v7 v8 e4 e5 e6 e7 e8:Nat),bF σ [(0,Po x),(4, .ptr 4 v4 0 0),(5, .ptr 5 v5 0 0),(6, .ptr 6 v6 0 0),(7, .ptr 7 v7 0 0),(8, .ptr 8 v8 0 0),(9,aB ((k:Int)-1))] fun rows clk=>k<=x.length ∧
  rows 4=some ⟨v4,e4,2,[[.bool (decide (n<0)),us (aV LL n.natAbs)]]⟩∧rows 5=some ⟨v5,e5,2,[[.bool (decide (d<0)),us (aV LL d.natAbs)]]⟩∧rows 6=some ⟨v6,e6,2,[[.bool false, .nil]]⟩ ∧
  rows 7=some ⟨v7,e7,2,[[.bool (decide ((hm n d (x.drop k)).1<0)),us (aV LL (hm n d (x.drop k)).1.natAbs)]]⟩ ∧
  rows 8=some ⟨v8,e8,2,[[.bool (decide ((hm n d (x.drop k)).2<0)),us (aV LL (hm n d (x.drop k)).2.natAbs)]]⟩) x.length ?_ ?_
 ·exact⟨_, .refl,_,_,_,_,_,_,_,_,_,_,_,_,rfl,Nat.le_refl _,by simp;(first | exact⟨rfl,rfl⟩ | rfl),by simp;(first | exact⟨rfl,rfl⟩ | rfl),by simp;(first | exact⟨rfl,rfl⟩ | rfl),by rw [ZI];simp;(first | exact⟨rfl,rfl⟩ | rfl),by rw [ZI];simp;(first | exact⟨rfl,rfl⟩ | rfl)⟩
 rintro k _ ⟨v4,v5,v6,v7,v8,e4,e5,e6,e7,e8,rows,clk,rfl,hkl,dW,dX,mT,yP,uZ⟩
 apply cQ [0,4,5,6,7,8,9,15]
 refine W.cond ⟨_,rfl,fun h=>?_,fun h=>?_⟩
 ·have CP:0<k:=by simp at h;omega
  obtain⟨k,rfl⟩:∃j,k=j+1:=⟨k-1,aA⟩
  obtain⟨m1,m2,m3,m4⟩:=M k aA
  generalize hm n d (x.drop (k+1))=A at *
  have e1:(((k+1:Nat):Int)-1).toNat=k:=aA
  apply (iE)
  apply W.sd
  apply j7 dW yP m1
  apply j0 uZ m2
  apply kZ m3
  apply eV yP
  (try (refine aY (of_decide_eq_true cT) ?_));(try simp (maxSteps:=4000000) (disch:=omega) [gw,yP]);(repeat rw [if_pos cT]);(try simp (maxSteps:=4000000) (disch:=omega) [gw,yP])
  apply cO [0,4,5,6,7,8,9]
  refine W.bY fun K hK=>?_
  apply j7 uZ dX m4
  apply eV uZ
  refine W.lw [0,4,5,6,7,8,9] hK ?_;clear hK K;simp
  refine W.bY (fun K hK=>?_);simp (disch:=omega) [gw]
  refine hK _ ⟨k,_,aD _ [0,4,5,6,7,8,9],aA,v4,v5,v6,v7,v8,_,_,_,_,_,_,_,rfl,aA,by simp [dW];exact rfl,by simp [dX];exact rfl,by simp [mT];exact rfl,by simp;exact rfl,by simp;exact rfl⟩
 ·have CP:k=0:=by simp at h;omega
  subst CP
  rw [h0]at yP
  apply (jV)
  exact FL yP mT [6]
theorem C8(v:Int):eA v 0=v.sign:=by
 rcases Int.lt_trichotomy v 0 with h | h | h
 ·rw [Int.sign_eq_neg_one_of_neg h,pL h]
 ·subst h;decide
 ·rw [Int.sign_eq_one_of_pos h,pM h]
theorem M9(hx:Bd LL s k x)(cx:Cn x)(hn:sz LL n<=u)(hd:sz LL d<=u)(hu:1<=u)(hk:k<1099511627774)(hu2:u<500000000000)(hB:s+k*(u+1)+u<500000000000)(hq:eH n d=q)(sq:sz LL q.num<=u∧sz LL (q.den:Int)<=u):aC 87 [Po x,T2 n d] (aB (QC x q.num q.den)):=by
 have p1:=aen (n:=n) (d:=d) (Nat.lt_of_le_of_lt hn aA) (Nat.lt_of_le_of_lt hd aA)
 rw [hq]at p1
 have n1:=fG (x:=x) (PB.of hx aA aA)
 rw [show aZ x=x from cx]at n1
 obtain⟨hV,hz⟩:=aeq hx sq.1 sq.2 hu aA hB
 have c1:=aho (x:=(hm q.num q.den x).1) (y:=0) hz (show sz LL 0<_ by decide)
 rw [C8,show(hm q.num q.den x).1.sign=QC x q.num q.den from rfl]at c1
 replace p1:aC 166 [T2 n d] (T2 q.num q.den):=p1
 generalize QC x q.num q.den=r at *
 generalize (hm q.num q.den x).1=v at *
 generalize q.num=qn at *
 generalize (q.den:Int)=qd at *
 apply cG [(0,Po x),(1,T2 n d)] Tryz.func87
 apply gJ [0,3] p1 [0,3]
 apply W.sd
 apply kZ n1
 apply fV hV c1
 exact gI [4]
@[simp] theorem alh:cY (.rd l)=true:=rfl
@[simp] theorem agW:bE (.rd l)=true:=rfl
@[simp] theorem ali:a9 (.rd l) = []:=rfl
@[simp] theorem aBM:eK (.rd l) = []:=rfl
@[simp] theorem aHN:fz rows (.rd l) = .rd l:=rfl
@[simp] theorem aHO:pz rows (.rd l) = .rd l:=rfl
theorem aer(v:Int):aC 258 [I v] (aB v.sign):=by
 have h1:=ahM (decide (v<0)) (aV LL v.natAbs)
 have e:(if (aV LL v.natAbs).length=0 then 0 else if decide (v<0)=true then -1 else 1:Int)=v.sign:=by
  by_cases h:v=0
  ·subst h;decide
  ·have:aV LL v.natAbs ≠ []:=fun h2=>h (by have:=nD iT v.natAbs;rw [h2]at this;simp [V]at this;omega)
   have h3:=List.length_pos_iff.2 this
   rw [if_neg aA]
   rcases Int.lt_trichotomy v 0 with h4 | h4 | h4
   ·rw [if_pos (by simpa using h4),Int.sign_eq_neg_one_of_neg h4]
   ·exact absurd h4 h
   ·rw [if_neg (by simp;omega),Int.sign_eq_one_of_pos h4]
 rw [e]at h1;exact h1
theorem NB(hx:PB x)(cx:Cn x):aC 221 [Po x] (.dK [aB (eL x),aB (eR x)]):=by
 have n1:=fG hx
 rw [show aZ x=x from cx]at n1
 have l1:=oB hx cx
 have hS:=aer (lead x)
 have hl:x.length<1099511627776:=by have:=hx.K4.len;simpa using this
 have hL:eL x=if x.length%2=0 then -(lead x).sign else(lead x).sign:=rfl
 have hR:eR x=(lead x).sign:=rfl
 have hs : -1<=(lead x).sign∧(lead x).sign<=1:=by
  rcases Int.lt_trichotomy (lead x) 0 with h | h | h
  ·rw [Int.sign_eq_neg_one_of_neg h];decide
  ·rw [h];decide
  ·rw [Int.sign_eq_one_of_pos h];decide
 generalize (lead x).sign=s at *
 generalize lead x=lx at *
 generalize eL x=a at *
 generalize eR x=b at *
 apply cG [(0,Po x)] Tryz.func221
 apply gJ [0] n1 [0]
 apply n7 l1 hS
 apply bT [0,3]
 apply W.seq
 refine W.fI (fun σ=>∃(q:Bool),bF σ [(3,aB s),(12, .bool q)] fun rows clk=>q=decide (x.length%2=0)) (fun K hK=>?_) ?_
 ·apply (cV)
  exact hK _ _ (aD _ [3,12]) ⟨_,_,_,rfl,by rw [Bool.eq_iff_iff];simp;omega⟩
 rintro _ ⟨q,rows,clk,rfl,rfl⟩
 refine W.cond ⟨_,rfl,fun h=>?_,fun h=>?_⟩
 ·rw [if_pos (of_decide_eq_true h)]at hL
  subst hL hR
  exact eY [2,3]
 ·rw [if_neg (of_decide_eq_false h)]at hL
  subst hL hR
  apply W.skip
  exact eY [2,3]
theorem ZP(hx:PB x)(cx:Cn x):aC 220 [Po x] (aB (eL x)):=by
 have h1:=NB hx cx
 generalize eL x=a at *
 generalize eR x=b at *
 apply cG [(0,Po x)] Tryz.func220
 apply gJ [0] h1 [3]
 exact eY [2]
theorem aes(hx:PB x)(cx:Cn x):aC 222 [Po x] (aB (eR x)):=by
 have h1:=NB hx cx
 generalize eL x=a at *
 generalize eR x=b at *
 apply cG [(0,Po x)] Tryz.func222
 apply gJ [0] h1 [4]
 exact eY [2]
theorem as5(v:Int):v.sign = -1∨v.sign=0∨v.sign=1:=by
 rcases Int.lt_trichotomy v 0 with h | h | h
 ·exact .inl (Int.sign_eq_neg_one_of_neg h)
 ·rw [h];exact .inr (.inl rfl)
 ·exact .inr (.inr (Int.sign_eq_one_of_pos h))
theorem eL3(x:List Int):eL x = -1∨eL x=0∨eL x=1:=by
 have:=as5 (lead x)
 unfold eL;split<;>omega
theorem ZQ(hl:c.length<1000000)(hS:∀p∈c,aC 87 [Po p.l,T2 n d] (aB (QC p.l q.num q.den))):aC 168 [CH c,T2 n d] (aB (vr (rT c q.num q.den))):=by
 have hT1:∀p∈c,aC 232 [Po p.l, .rd [.bool (decide (n<0)),us (aV LL n.natAbs), .bool (decide (d<0)),us (aV LL d.natAbs)]] (aB (QC p.l q.num q.den)):=fun p hp=>by
  have h1:=hS p hp
  generalize QC p.l q.num q.den=r at *
  generalize p.l=x at *
  apply cG [(0,Po x),(1, .rd [.bool (decide (n<0)),us (aV LL n.natAbs), .bool (decide (d<0)),us (aV LL d.natAbs)])] Tryz.func232
  apply gJ [0,1] h1 [3]
  exact j8
 have h1:=zY 232 rfl [.rd [.bool (decide (n<0)),us (aV LL n.natAbs), .bool (decide (d<0)),us (aV LL d.natAbs)]] rfl c (fun p=>QC p.l q.num q.den) hl (fun p hp=>as5 _) hT1
 rw [show c.map (fun p=>QC p.l q.num q.den)=rT c q.num q.den from rfl]at h1
 generalize vr (rT c q.num q.den)=r at *
 apply cG [(0,CH c),(1,T2 n d)] Tryz.func168
 apply gJ [0,3] h1 [4]
 exact j8
theorem QH(hl:c.length<1000000){p:Rat}{z:Int}(hz:aC 86 [T2 m e,T2 n d] (aB z))(h1:aC 168 [CH c,T2 n d] (aB (vr (rT c p.num p.den))))(h2:aC 168 [CH c,T2 m e] (aB (vr (rT c q.num q.den)))) :
  aC 88 [CH c,T2 n d,T2 m e] (aB (if z<0 then 0 else(vr (rT c p.num p.den):Int)-vr (rT c q.num q.den))):=by
 have v1:=JC (rT c p.num p.den)
 have v2:=JC (rT c q.num q.den)
 have l1:(rT c p.num p.den).length=c.length:=by simp [rT]
 have l2:(rT c q.num q.den).length=c.length:=by simp [rT]
 generalize vr (rT c p.num p.den)=a at *
 generalize vr (rT c q.num q.den)=b at *
 apply cG [(0,CH c),(1,T2 n d),(2,T2 m e)] Tryz.func88
 apply cN [0,4,5]
 apply cK hz [0,4,5,10]
 refine W.cond ⟨_,rfl,fun h=>?_,fun h=>?_⟩
 ·have h:z<0:=by simpa using h
  rw [if_pos h]
  exact eY [6]
 ·have h:¬z<0:=by simpa using h
  rw [if_neg h]
  apply (HT)
  apply fV h1 h2
  exact gI [6]
section
variable {c:List ZX} (hl:c.length<1000000) (hb:∀p∈c,PB p.l)
include hl hb
theorem aet:aC 149 [CH c] (aB (vr (sgL c))):=by
 have h1:=zY 220 rfl [] rfl c (fun p=>eL p.l) hl (fun p hp=>eL3 p.l) (fun p hp=>ZP (hb p hp) p.c)
 rw [show c.map (fun p=>eL p.l)=sgL c from rfl]at h1
 generalize vr (sgL c)=r at *
 apply cG [(0,CH c)] Tryz.func149
 apply gJ [0] h1 [2]
 exact j8
theorem aiG:aC 150 [CH c] (aB (vr (sgR c))):=by
 have h1:=zY 222 rfl [] rfl c (fun p=>eR p.l) hl (fun p hp=>as5 _) (fun p hp=>aes (hb p hp) p.c)
 rw [show c.map (fun p=>eR p.l)=sgR c from rfl]at h1
 generalize vr (sgR c)=r at *
 apply cG [(0,CH c)] Tryz.func150
 apply gJ [0] h1 [2]
 exact j8
theorem ZS:aC 74 [CH c] (aB ((vr (sgL c):Int)-vr (sgR c))):=by
 have h1:=aet hl hb
 have h2:=aiG hl hb
 have v1:=JC (sgL c)
 have v2:=JC (sgR c)
 have l1:(sgL c).length=c.length:=by simp [sgL]
 have l2:(sgR c).length=c.length:=by simp [sgR]
 generalize vr (sgL c)=a at *
 generalize vr (sgR c)=b at *
 apply cG [(0,CH c)] Tryz.func74
 apply aQ [0]
 apply n7 h1 h2
 exact gI [2]
end
theorem E7(ha:a≠0):Nf (sq a)∧dv (sq a) (nf a):=by
 have nA:=kG ha
 unfold sq
 split
 ·exact⟨nA,dv.refl _⟩
 ·exact⟨(iZ nA 0).1,F5 nA 0⟩
theorem tY.sqb{n:Nat}(h:tY s n a)(ha:a≠0):BZ (qb s n) n (sq a):=h.nfz.dv (kG ha) (E7 ha).1 (E7 ha).2
theorem tY.ch{n:Nat}(h:tY s n a)(ha:a≠0)(rB:1<=n):Ch (qb s n) n (sq a):=⟨h.sqb ha,h.hn,rB,Nat.le_trans (Nat.mul_le_mul_right _ aA) h.hC⟩
theorem uD{n:Nat}(h:tY s n a)(ha:a≠0)(rB:1<=n)(h1:1<=s):aC 81 [PI a.l] (aJ zq (aO (sq a))):=
 E4 (uB h h1) (h.ch ha rB) (by unfold qb;omega)
abbrev AP(x:List Int)(c:List ZX)(n d:Int):PV:=.ag [PI x,aJ zq c,aJ aI (aV DD n.natAbs), .bool (decide (n<0)),aJ aI (aV DD d.natAbs), .bool (decide (d<0)),aJ aI (aV DD n.natAbs), .bool (decide (n<0)),aJ aI (aV DD d.natAbs), .bool (decide (d<0))]
theorem oX(h:v.natAbs<2^k):sz 2 v<=k:=dZ aF h
theorem yS(hn:n.natAbs<65536)(hd:d.natAbs<65536)(h0:d≠0){x:ZX}(hx:x.l = [-n,d]):aC 41 [R2 n d] (AP [-n,d] (aO (sq x)) n d):=by
 have bz:BZ 16 2 x:=⟨by rw [hx];simp,fun c hc=>by
  rw [hx]at hc
  simp only [List.mem_cons,List.not_mem_nil,or_false]at hc
  rcases hc with rfl | rfl
  ·exact oX (by rw [Int.natAbs_neg];exact hn)
  ·exact oX hd⟩
 have hL:tY 16 2 x:=⟨bz,aF,aF,aF⟩
 have hc:=uD hL (ZX.aH.2 (by show 0<x.l.length;rw [hx];simp)) aF aF
 rw [hx]at hc
 generalize aO (sq x)=C at *
 have zs:∀ {v:Int},v.natAbs<65536->sz 2 v<=16:=fun h=>oX h
 have hO:=rN 1 aF aF
 have m1:=nJ n 1 (by have:=zs hn;simp only [Y];omega) aF
 have m2:=nJ d 1 (by have:=zs hd;simp only [Y];omega) aF
 have hng:=IF (n:Rat)
 rw [oM]at m1 m2
 rw [show -((n:Int):Rat)=((-n:Int):Rat)by simp]at hng
 rw [show RR ((n:Int):Rat) = .ag (ri n)from congrArg PV.ag (iO n)]at m1 hng
 rw [show RR ((d:Int):Rat) = .ag (ri d)from congrArg PV.ag (iO d)]at m2
 rw [show RR ((-n:Int):Rat) = .ag (ri (-n))from congrArg PV.ag (iO (-n))]at hng
 have e1:PI [-n,d] = .sl [ri (-n),ri d]:=rfl
 rw [e1]at hc
 unfold AP
 rw [e1]
 clear e1 hL bz hx x
 generalize -n=m at *
 simp only [ahy,QD]at *
 apply cG [(0,R2 n d)] Tryz.func41
 apply kR [1,2]
 simp (maxSteps:=4000000) (disch:=omega) [gw]
 apply j9 hO
 simp (maxSteps:=4000000) (disch:=omega) [gw]
 apply j9 m1
 simp (maxSteps:=4000000) (disch:=omega) [gw]
 apply j9 hng
 simp (maxSteps:=4000000) (disch:=omega) [gw]
 apply j9 hO
 simp (maxSteps:=4000000) (disch:=omega) [gw]
 apply j9 m2
 simp (maxSteps:=4000000) (disch:=omega) [gw]
 apply cO [1,2,3]
 apply W.sd
 simp (maxSteps:=4000000) (disch:=omega) [gw]
 apply j9 hc
 simp (maxSteps:=4000000) (disch:=omega) [gw]
 try (refine aY cT ?_)
 try simp (maxSteps:=4000000) (disch:=omega) [gw]
 exact pJ [2]
def sml(n d:Int):Rat:=eH (n%61-30) (1+d%6)
theorem aeu(n d:Int)(hn : -9223372036854775808<=n∧n<9223372036854775808)(hd : -9223372036854775808<=d∧d<9223372036854775808):aC 25 [aB n,aB d] (RR (sml n d)):=by
 have w1:=mC n 61 hn aF aF
 have w2:=mC d 6 hd aF aF
 have h1:=Int.emod_nonneg n (show (61:Int)≠0 by decide)
 have h2:=Int.emod_lt_of_pos n (show (0:Int)<61 by decide)
 have h3:=Int.emod_nonneg d (show (6:Int)≠0 by decide)
 have h4:=Int.emod_lt_of_pos d (show (0:Int)<6 by decide)
 have o1:=pN (n%61-30) (1+d%6) aA aA
 have e:eH (n%61-30) (1+d%6)=sml n d:=rfl
 rw [e]at o1
 generalize sml n d=q at *
 generalize n%61=a at *
 generalize d%6=b at *
 rw [cU]at *
 generalize q.num=qn at *
 generalize (q.den:Int)=qd at *
 apply cG [(0,aB n),(1,aB d)] Tryz.func25
 apply aQ [0,1,4]
 apply nB w1
 apply fV w2 o1
 exact gI [4]
end Go.Proofs.YtiobceocpabjdaaGreat
namespace Pm
open Go Go.RowKit
variable {o:Oper}{σ:PS}{E:Env}
def aev(E:Env)(o:Oper)(K:PS->Prop)(σ:PS):Prop:=
 match o.op with
 | .build t ⟨[(0,x)]⟩=>E.ty t = .struct [(0,1,false)] (E.ty t).zero∧(E.ty t).zero.length=1∧cR (aR σ.f x)=some [aR σ.f x]∧jT σ.rows (aR σ.f x)∧K (σ.put o.dst (.ag [aR σ.f x]))
 | _=>False
section
variable {E:Env} {w0:World} {S0:eU} {m:Nat} {G:Gs}
theorem ZT{a:Act}{w:World}{K:PS->Prop}(h:aev E o K σ)(hR:Rel w0 S0 m G σ a w)(hd:∀t,o.dst=some t->t<m)
  {K':Act->World->Prop} {Q:Exit->Act->World->Prop} (hK:∀σ' a' w',K σ'->Rel w0 S0 m G σ' a' w'->K' a' w'):o.wp E.P a w K' Q:=by
 obtain⟨⟨c,rfl,hr,gS,hI,hf,hG⟩,hn,gF⟩:=hR
 have hρ:=pI hf
 obtain⟨dst,op,type,pos,after,guard⟩:=o
 simp only at hd
 unfold aev at h
 simp only at h
 split at h
 ·rename_i t x
  obtain⟨hE,N7,hc,ho,hk⟩:=h
  rw [<-hr]at ho
  obtain⟨g1,g2⟩:=p8 (hρ x) hc (fun q hq=>by simp at hq;subst hq;exact ho)
  have ht:=E.ok t
  rw [hE]at ht
  obtain⟨⟨fields,hu,ha⟩,hz⟩:=ht
  obtain⟨i,zv,hi,hzv,_,W8,_⟩:=hz.ok
  have J8:zv.cells.size=1:=by
   have:(zv.cells.toList.map l5).length=1:=by rw [W8];exact N7
   simpa using this
  have D6:(a.eval x).cells.size=1:=by have:=g1.length;simpa using this.symm
  have LI:=tC 0 (a.eval x).cells.toList 0 zv.cells (by simp;omega)
  have hl:((a.eval x).cells.toList.zipIdx 0).foldl (fun cs (x:Value × Nat)=>cs.setIfInBounds (0+x.2) x.1) zv.cells=(a.eval x).cells:=by
   apply Array.toList_inj.1
   rw [LI]
   have h1:(a.eval x).cells.toList.length=1:=by simpa using D6
   have h2:zv.cells.toList.length=1:=by simpa using J8
   rw [h1]
   simp [List.drop_of_length_le,h2]
  have jU:(execOp a.eval { dst:=dst,op:=.build t ⟨[(0,x)]⟩,type:=type,pos:=pos,after:=after,guard:=guard }).run E.P c.w = .ok (.value (.agg (a.eval x).cells)) c.w:=by
   have apr:Instr.fill (fun x=>(([(0,1,false)]:List (Nat × Nat × Bool)).toArray.map fun x=>(x.1,x.2.1))[x]?) zv.cells [(0,a.eval x)]=some (a.eval x).cells:=by
    have R4:(([(0,1,false)]:List (Nat × Nat × Bool)).toArray.map fun x=>(x.1,x.2.1))[0]? = some (0,1):=aG
    simp only [Instr.fill,R4]
    rw [if_neg (by simp [D6,J8])]
    have hz3:(a.eval x).cells.toList.zipIdx=(a.eval x).cells.zipIdx.toList:=aG
    have h5:(a.eval x).cells.zipIdx.foldl (fun cs (x:Value × Nat)=>cs.setIfInBounds (0+x.2) x.1) zv.cells=(a.eval x).cells:=by
     rw [<-Array.foldl_toList,<-hz3];exact hl
    simp only [h5]
   simp only [execOp,Instr.build,zeroValue,typeInfo,program,Sem.run_bind,Sem.run,hi,hzv,Sem.run_pure,Result.andThen_ok,run_underlying hu,run_places ha]
   simp at apr
   simp [apr]
  unfold Oper.wp
  rw [jU]
  refine hK _ _ _ hk ?_
  exact w6 hf hG hn gF (xW.refl c) hI (show aK c (.ag [aR σ.f x]) (.agg (a.eval x).cells)from⟨(a.eval x).cells.toList,aG,g1⟩) hd rfl (by simp [PS.put,hr]) gS
 ·exact h.elim
end
theorem W.as6{n:Nat}{tl:Nat->Nat}{Q:PX->PS->Prop}{id:Nat}{ops:List Oper}{y:Code}(i:Nat){o2:Oper}(ho:ops=ops.take i++o::o2::ops.drop (i+2))(hg:o.guard=none)(r5:o2.guard=none)
  (h:∀K:PS->Prop,(∀σ,W E n tl y Q σ->K σ)->go (aP E ops (ops.take i) (fun σ=>K7 E o (fun σ=>aev E o2 (aP E ops (ops.drop (i+2)) K) σ) σ) σ)):W E n tl (.seq (.region id ops.toArray false) y) Q σ:=by
 refine W.seq ?_
 intro iD w0 S0 G a w Q' hR hQ
 simp only [fQ,vJ,Bool.and_eq_true]at iD
 have hd:∀o∈ops,∀t,o.dst=some t->t<n:=fun o ho t ht=>by
  have:=Array.all_eq_true_iff_forall_mem.1 iD.1 o (by simpa using ho)
  simpa [ht]using this
 refine wp_region_list ?_
 show wpList E.P ops.toArray Q' ops a w
 have h1:=h (fun σ=>W E n tl y Q σ) fun _ h=>h
 have qB:o∈ops:=by rw [ho];simp
 have azs:o2∈ops:=by rw [ho];simp
 have:=rQ (E:=E) (w0:=w0) (S0:=S0) (m:=n) (G:=G) (ops:=ops.toArray) (Q:=Q') (l2:=o::o2::ops.drop (i+2)) (K:=fun σ=>K7 E o (fun σ=>aev E o2 (aP E ops (ops.drop (i+2)) (fun σ=>W E n tl y Q σ)) σ) σ) (fun σ' a' w' hl lE=>by
  unfold wpList
  rw [if_pos (by simp [Region.wanted,hg])]
  refine .inl (zP hl lE (hd o qB) fun σ2 a2 w2 hk hR2=>?_)
  unfold wpList
  rw [if_pos (by simp [Region.wanted,r5])]
  refine .inl (ZT hk hR2 (hd o2 azs) fun σ3 a3 w3 hk3 hR3=>?_)
  exact j5 (E:=E) (ops:=ops.toArray) (fun σ4 a4 w4 hk4 hR4=>hQ .normal σ4 a4 w4 hk4 hR4) _ σ3 a3 w3 (fun o ho=>hd o (List.mem_of_mem_drop ho)) hk3 hR3) (ops.take i) σ a w (fun o ho=>hd o (List.mem_of_mem_take ho)) h1 hR
 rwa [<-ho]at this
@[simp] theorem aBN{K:PS->Prop}{f:Nat->PV}{rows:Rows}{clk:Nat}{d:Option Tmp}{ty:TypeId}{pos:String}{af:Array Edge}{t:TypeId}{x:Operand} :
  aev E ⟨d, .build t ⟨[(0,x)]⟩,ty,pos,af,none⟩ K ⟨f,rows,clk⟩=aL (E.ty t = .struct [(0,1,false)] (E.ty t).zero∧(E.ty t).zero.length=1) (iN (cR (aR f x)) fun l=>aL (l = [aR f x]∧j6 rows [aR f x]) (K ⟨put f d (.ag [aR f x]),rows,clk⟩)):=by
 simp only [aev,aL,iN,j6,PS.put]
 apply propext
 constructor
 ·rintro⟨h1,h2,h3,h4,h5⟩;exact⟨⟨h1,h2⟩,_,h3,⟨rfl,by simpa using h4⟩,h5⟩
 ·rintro⟨⟨h1,h2⟩,l,h3,⟨rfl,h4⟩,h5⟩;exact⟨h1,h2,h3,by simpa using h4,h5⟩
end Pm
namespace Go.Proofs.YtiobceocpabjdaaGreat
open Go Pm
variable {s n h:Nat}{a:ZX}
theorem BZ.azt{s' n' m:Nat}{c:ZX}(b:BZ s n a)(b':BZ s' n' c)(hm:ZX.N (a*c)<=m):BZ (s+s'+n') m (a*c):=by
 have h:=Bd.cB aF b' b
 rw [DB]at h
 exact⟨hm,fun d hd=>Nat.le_trans (h.sz d hd) aA⟩
theorem aiH{f:ZX}(hf:f≠0)(bf:BZ 3 3 f):∀k,1<=k->BZ (6*k) (2*k+1) (f^k)∧f^k≠0∧ZX.N (f^k)=k*(ZX.N f-1)+1
 | 0,h=>by omega
 | 1,_=>by
  have e:f^1=f:=by rw [ZX.pow_succ',ZX.fH];grind
  rw [e]
  have:=ZX.aH.1 hf
  exact⟨bf.mono aA aA,hf,aA⟩
 | k+2,_=>by
  obtain⟨h1,h2,h3⟩:=aiH hf bf (k+1) aA
  have hN:=ZX.aH.1 hf
  have e:ZX.N (f^(k+2))=(k+2)*(ZX.N f-1)+1:=by
   rw [ZX.pow_succ',ZX.lN h2 hf,h3,Nat.add_mul,Nat.add_mul];omega
  have hl:ZX.N f<=3:=bf.N
  refine⟨?_,ZX.oF h2 hf,e⟩
  have h4:=BZ.azt h1 bf (m:=2*(k+2)+1) (by
   rw [<-ZX.pow_succ',e]
   have:(k+2)*(ZX.N f-1)<=(k+2)*2:=Nat.mul_le_mul_left _ aA
   omega)
  rw [ZX.pow_succ']
  exact h4.mono aA (Nat.le_refl _)
theorem ZU{x:List Int}(hx:x ≠ [])(hl:x.length<=3)(hc:∀c∈x,c.natAbs<8)(uR:x.getLast hx≠0):BZ 3 3 (ZX.of x)∧(ZX.of x).l=x∧ZX.of x≠0:=by
 have h1:aZ x=x:=by
  obtain⟨y,z,rfl⟩:∃y z,x=y ++ [z]:=⟨x.dropLast,x.getLast hx,(List.dropLast_concat_getLast hx).symm⟩
  exact kS (by simpa using uR) y
 have h2:(ZX.of x).l=x:=h1
 refine⟨⟨by rw [h2];exact hl,fun c Y9=>?_⟩,h2,ZX.aH.2 ?_⟩
 ·rw [h2]at Y9
  exact dZ aF (by have:=hc c Y9;show _<8;exact this)
 ·show 0<(ZX.of x).l.length
  rw [h2];exact List.length_pos_iff.2 hx
def jQ(l:List Int)(i:Nat):List Int:=
 if (nth l i).tmod 5=3 then [-(nth l i%9-4),nth l (i+2)%3-1,nth l (i+1)%5+1]else [-(nth l i%9-4),nth l (i+1)%5+1]
def wM(l:List Int)(i:Nat):Nat:=1+(nth l (i+2)%3).toNat
def B5(l:List Int)(most i:Nat)(p:ZX):ZX:=if most<ZX.N p-1+wM l i*(ZX.N (ZX.of (jQ l i))-1)then p else p*ZX.of (jQ l i)^wM l i
def eX(l:List Int)(most:Nat):Nat->ZX
 | 0=>1
 | j+1=>B5 l most (3*j) (eX l most j)
def made(l:List Int)(most:Nat):ZX:=if (0<l.length∧(nth l 0).tmod 7=6)then ZX.K (-3)*eX l most (min 6 (l.length/3))else eX l most (min 6 (l.length/3))
theorem GF(l:List Int)(i:Nat):BZ 3 3 (ZX.of (jQ l i))∧(ZX.of (jQ l i)).l=jQ l i∧ZX.of (jQ l i)≠0:=by
 have h9:=Int.emod_nonneg (nth l i) (show (9:Int)≠0 by decide)
 have h9':=Int.emod_lt_of_pos (nth l i) (show (0:Int)<9 by decide)
 have h5:=Int.emod_nonneg (nth l (i+1)) (show (5:Int)≠0 by decide)
 have h5':=Int.emod_lt_of_pos (nth l (i+1)) (show (0:Int)<5 by decide)
 have h3:=Int.emod_nonneg (nth l (i+2)) (show (3:Int)≠0 by decide)
 have h3':=Int.emod_lt_of_pos (nth l (i+2)) (show (0:Int)<3 by decide)
 unfold jQ
 split
 ·refine ZU aG aG (fun c hc=>?_) (by simp;omega)
  simp only [List.mem_cons,List.not_mem_nil,or_false]at hc
  rcases hc with rfl | rfl | rfl<;>omega
 ·refine ZU aG aG (fun c hc=>?_) (by simp;omega)
  simp only [List.mem_cons,List.not_mem_nil,or_false]at hc
  rcases hc with rfl | rfl<;>omega
theorem QI(l:List Int)(i:Nat):1<=wM l i∧wM l i<=3:=by
 have h3:=Int.emod_nonneg (nth l (i+2)) (show (3:Int)≠0 by decide)
 have h3':=Int.emod_lt_of_pos (nth l (i+2)) (show (0:Int)<3 by decide)
 unfold wM;omega
theorem aiI{l:List Int}{most i:Nat}{p:ZX}(hp:p≠0)(b:BZ s (most+1) p):B5 l most i p≠0∧BZ (s+25) (most+1) (B5 l most i p):=by
 obtain⟨b1,b2,b3⟩:=GF l i
 obtain⟨e1,e2⟩:=QI l i
 obtain⟨h1,h2,h3⟩:=aiH b3 b1 _ e1
 unfold B5
 split
 ·exact⟨hp,b.mono aA (Nat.le_refl _)⟩
 ·rename_i h
  have hN:=ZX.aH.1 hp
  refine⟨ZX.oF hp h2,(BZ.azt b h1 (m:=most+1) (by rw [ZX.lN hp h2,h3];omega)).mono aA (Nat.le_refl _)⟩
theorem qR(l:List Int)(most:Nat):∀j,eX l most j≠0∧BZ (1+25*j) (most+1) (eX l most j)
 | 0=>⟨ZX.qM,by show(1:ZX).l.length<=most+1;exact Nat.succ_le_succ (Nat.zero_le _),fun c hc=>by
  have h1:(1:ZX).l = [1]:=aF
  have hc2:c∈(1:ZX).l:=hc
  rw [h1]at hc2
  simp at hc2;subst hc2
  exact dZ aF aF⟩
 | j+1=>by
  obtain⟨h1,h2⟩:=qR l most j
  obtain⟨h3,h4⟩:=aiI (l:=l) (i:=3*j) h1 h2
  exact⟨h3,h4.mono aA (Nat.le_refl _)⟩
theorem ab6(l:List Int)(most:Nat):made l most≠0∧BZ 153 (most+1) (made l most):=by
 obtain⟨h1,h2⟩:=qR l most (min 6 (l.length/3))
 unfold made
 split
 ·refine⟨ZX.oF (ZX.sE aF) h1,?_⟩
  rw [BZ,K_l aF]
  exact⟨by have:=h2.len;simpa using this,fun c hc=>by
   simp only [List.mem_map]at hc
   obtain⟨d,hd,rfl⟩:=hc
   exact Nat.le_trans (cW aF (h2.sz d hd) (dZ (k:=2) aF aF)) aA⟩
 ·exact⟨h1,h2.mono aA (Nat.le_refl _)⟩
theorem aiJ(l:List Int)(hl:l.length<9223372036854775808)(hb:∀x∈l, -9223372036854775808<=x∧x<9223372036854775808)(most:Nat)(hm:most<=100):aC 114 [aJ aI l,aB most] (PI (made l most).l):=by
 obtain⟨J,hJ⟩:∃J,J=min 6 (l.length/3):=⟨_,rfl⟩
 have lI:=wL
 have hmd:made l most=if (0<l.length∧(nth l 0).tmod 7=6)then ZX.K (-3)*eX l most J else eX l most J:=by rw [hJ];rfl
 rw [hmd]
 have h0:(1:ZX).l=(eX l most 0).l:=rfl
 rw [h0]at lI
 generalize hg0:(eX l most 0).l=g0 at *
 apply cG [(0,aJ aI l),(1,aB most)] Tryz.func114
 apply gJ [0,1] lI [0,1,5]
 apply cQ [0,1,5,6]
 subst hg0
 apply W.block
 refine W.bB (fun k σ=>∃(i j:Nat),bF σ [(0,aJ aI l),(1,aB most),(5,PI (eX l most j).l),(6,aB i)] fun rows clk=>i=3*j∧j+k=J) J ?_ ?_
 ·exact⟨_, .refl,0,0,_,_,rfl,rfl,aA⟩
 rintro k _ ⟨i,j,rows,clk,rfl,hij,hjk⟩
 apply W.seq
 by_cases hj:j<J
 ·have a1:(i:Int)+2<(l.length:Int):=by omega
  have a2:(i:Int)<18:=aA
  refine W.fF fun K hK=>?_
  simp (disch:=omega) [gw,a1,a2]
  refine W.lw [0,1,5,6,21] hK ?_;clear hK K;simp
  apply (arD)<;>intro h
  rotate_left
  ·cases h
  clear h
  obtain⟨f1,f2,f3⟩:=GF l i
  obtain⟨e1,e2⟩:=QI l i
  obtain⟨p1,p2,p3⟩:=aiH f3 f1 _ e1
  obtain⟨m1,m2⟩:=qR l most j
  have hJ6:J<=6:=aA
  have hms:eX l most (j+1)=B5 l most i (eX l most j):=by rw [hij];rfl
  have w1:=mC (nth l i) 9 (hb _ (bO aA)) aF aF
  have w2:=mC (nth l (i+1)) 5 (hb _ (bO aA)) aF aF
  have w3:=mC (nth l (i+2)) 3 (hb _ (bO aA)) aF aF
  have bi:=hb _ (bO (show i<l.length by omega))
  have h9:=Int.emod_nonneg (nth l i) (show (9:Int)≠0 by decide)
  have h9':=Int.emod_lt_of_pos (nth l i) (show (0:Int)<9 by decide)
  have h5:=Int.emod_nonneg (nth l (i+1)) (show (5:Int)≠0 by decide)
  have h5':=Int.emod_lt_of_pos (nth l (i+1)) (show (0:Int)<5 by decide)
  have h3:=Int.emod_nonneg (nth l (i+2)) (show (3:Int)≠0 by decide)
  have h3':=Int.emod_lt_of_pos (nth l (i+2)) (show (0:Int)<3 by decide)
  have azu:=aef (a:=ZX.of (jQ l i)) (k:=wM l i) aA (fun r hr=>by
   rcases Nat.eq_zero_or_pos r with h0 | h0
   ·subst h0
    have h1:BZ 1 1 (1:ZX):=(qR l 0 0).2
    exact s7 _ _ _ _ _ _ h1 f1 aF
   ·obtain⟨q1,_,_⟩:=aiH f3 f1 r h0
    exact s7 _ _ _ _ _ _ q1 f1 (by show _<137438953472;omega))
  have hmul:=s7 (eX l most j).l (ZX.of (jQ l i)^wM l i).l _ _ _ _ m2 p1 (by show _<137438953472;omega)
  have hpN:ZX.N (eX l most j)=(eX l most j).l.length:=rfl
  have hfN:ZX.N (ZX.of (jQ l i))=(jQ l i).length:=by show(ZX.of (jQ l i)).l.length=_;rw [f2]
  have qZ:aZ (jQ l i)=jQ l i:=f2
  have aew:=ZU (x:=[-(nth l i%9-4),nth l (i+1)%5+1]) aG aG (fun c hc=>by
   simp only [List.mem_cons,List.not_mem_nil,or_false]at hc
   rcases hc with rfl | rfl<;>omega) (by simp;omega)
  have AE:aZ [-(nth l i%9-4),nth l (i+1)%5+1] = [-(nth l i%9-4),nth l (i+1)%5+1]:=aew.2.1
  have of1:=xH [-(nth l i%9-4),nth l (i+1)%5+1] aG (fun c hc=>by
   simp only [List.mem_cons,List.not_mem_nil,or_false]at hc
   rcases hc with rfl | rfl<;>omega)
  rw [AE]at of1
  have of2:(nth l i).tmod 5=3->aC 97 [.sl [[aB (-(nth l i%9-4))],[aB (nth l (i+2)%3-1)],[aB (nth l (i+1)%5+1)]]] (PI (jQ l i)):=fun h=>by
   have hx:jQ l i = [-(nth l i%9-4),nth l (i+2)%3-1,nth l (i+1)%5+1]:=by unfold jQ;rw [if_pos h]
   have:=xH (jQ l i) (by rw [hx];simp) (fun c hc=>by
    rw [hx]at hc
    simp only [List.mem_cons,List.not_mem_nil,or_false]at hc
    rcases hc with rfl | rfl | rfl<;>omega)
   rw [qZ]at this
   rw [hx]at this |-
   exact this
  have aqj:¬(nth l i).tmod 5=3->jQ l i = [-(nth l i%9-4),nth l (i+1)%5+1]:=fun h=>by unfold jQ;rw [if_neg h]
  replace of1:aC 97 [.sl [[aB (-(nth l i%9-4))],[aB (nth l (i+1)%5+1)]]] (PI [-(nth l i%9-4),nth l (i+1)%5+1]):=of1
  have aJ9:(jQ l i).length=2∨(jQ l i).length=3:=by unfold jQ;split<;>simp
  have hk3:(wM l i:Int)=1+nth l (i+2)%3:=by unfold wM;omega
  have hP6:wM l i*(ZX.N (ZX.of (jQ l i))-1)<=6:=by
   have:wM l i*(ZX.N (ZX.of (jQ l i))-1)<=3*2:=Nat.mul_le_mul e2 (by rw [hfN];omega)
   omega
  have hP:(1+nth l (i+2)%3)*(((jQ l i).length:Int)-1)=((wM l i*(ZX.N (ZX.of (jQ l i))-1):Nat):Int):=by
   rw [hfN,Int.natCast_mul,hk3]
   congr 1
   omega
  have R4:0<(eX l most j).l.length∧(eX l most j).l.length<=most+1:=⟨ZX.aH.1 m1,m2.N⟩
  have amL:eX l most (j+1)=if most<(eX l most j).l.length-1+wM l i*(ZX.N (ZX.of (jQ l i))-1)then eX l most j else eX l most j*ZX.of (jQ l i)^wM l i:=by rw [hms,B5,hpN]
  rw [<-hk3]at hP
  rw [f2]at azu
  clear hms p1 p2 p3 m1 m2 f1 f2 f3 aew AE qZ hpN hfN
  generalize wM l i*(ZX.N (ZX.of (jQ l i))-1)=PP at *
  generalize hK:wM l i=kk at *
  generalize hpm:cB (eX l most j).l (ZX.of (jQ l i)^kk).l=pm at *
  have aET:(eX l most j*ZX.of (jQ l i)^kk).l=pm:=hpm
  generalize ZX.of (jQ l i)^kk=Fk at *
  generalize hF:jQ l i=F at *
  generalize hp0:eX l most j=P0 at *
  have ei1:((i:Int)+1).toNat=i+1:=aA
  have ei2:((i:Int)+2).toNat=i+2:=aA
  apply W.skip
  refine W.dS (fun σ=>∃(rows:Pm.Rows) (clk:Nat),σ=⟨fa [(0,aJ aI l),(1,aB most),(5,PI (eX l most (j+1)).l),(6,aB i)],rows,clk⟩) ?_ ?_
  ·apply W.sd
   simp (disch:=omega) [gw,ei1,ei2]
   apply j9 w1
   simp (disch:=omega) [gw,ei1,ei2]
   apply j9 w2
   simp (disch:=omega) [gw,ei1,ei2]
   apply jW w3
   apply cO [0,1,5,6,7,8,9]
   apply cK of1 [0,1,5,6,7,8,9,10]
   refine W.iS (fun σ=>∃(rows:Pm.Rows) (clk:Nat),σ=⟨fa [(0,aJ aI l),(1,aB most),(5,PI P0.l),(6,aB i),(9,aB kk),(10,PI F)],rows,clk⟩) ?_ ?_
   ·apply aQ [0,1,5,6,7,8,9,10,54]
    refine W.cond ⟨_,rfl,fun h=>?_,fun h=>?_⟩
    ·have h:(nth l i).tmod 5=3:=by simpa using h
     refine W.bY fun K hK=>?_
     simp (disch:=omega) [gw,ei2]
     apply jW w3
     apply jW (of2 h)
     exact hK _ ⟨_,aD _ [0,1,5,6,9,10],_,_,by rw [hk3];rfl⟩
    ·have h:¬(nth l i).tmod 5=3:=by simpa using h
     rw [aqj h]
     apply W.skip
     exact⟨_,aD _ [0,1,5,6,9,10],_,_,by rw [hk3];rfl⟩
   rintro _ ⟨rows,clk,rfl⟩
   apply W.seq
   apply fJ hP [0,1,5,6,9,10,77]
   refine W.cond ⟨_,rfl,fun h=>?_,fun h=>?_⟩
   ·have h:most<P0.l.length-1+PP:=by simp at h;omega
    rw [if_pos h]at amL
    rw [amL]
    apply (gK)
    exact⟨_,aD _ [0,1,5,6],_,_,rfl⟩
   ·have h:¬most<P0.l.length-1+PP:=by simp at h;omega
    rw [if_neg h]at amL
    rw [amL,aET]
    apply W.skip
    refine W.bY fun K hK=>?_
    apply fV azu hmul
    apply (cV)
    exact hK _ ⟨_,aD _ [0,1,5,6],_,_,rfl⟩
  rintro _ ⟨rows,clk,rfl⟩
  refine W.bY (fun K hK=>?_);simp (disch:=omega) [gw]
  refine hK _ ⟨k-1,_,aD _ [0,1,5,6],aA,i+3,j+1,_,_,rfl,aA,aA⟩
 ·have hjJ:j=J:=by omega
  subst hjJ
  refine W.fI (fun σ=>∃(rows:Pm.Rows) (clk:Nat),σ=⟨fa [(0,aJ aI l),(5,PI (eX l most j).l),(21, .bool false)],rows,clk⟩) (fun K hK=>?_) ?_
  ·by_cases a1:(i:Int)+2<(l.length:Int)
   ·have a2:¬(i:Int)<18:=by omega
    simp (disch:=omega) [gw,a1,a2]
    exact hK _ _ (aD _ [0,5,21]) ⟨_,_,rfl⟩
   ·simp (disch:=omega) [gw,a1]
    exact hK _ _ (aD _ [0,5,21]) ⟨_,_,rfl⟩
  rintro _ ⟨rows,clk,rfl⟩
  refine W.cond ⟨_,rfl,fun h=>?_,fun h=>?_⟩
  ·cases h
  clear h
  have of3:=xH [-3] aF aF
  replace of3:aC 97 [.sl [[aB (-3)]]] (PI [-3]):=of3
  obtain⟨m1,m2⟩:=qR l most j
  have hsc:=T5 (eX l most j).l (-3) (m2.yy (by show _<=137438953472;omega) aA) (by show sz 2 (-3)<=137438953472;exact Nat.le_trans (dZ (k:=2) aF aF) aF)
  have AZ:bJ (eX l most j).l (-3)=(ZX.K (-3)*eX l most j).l:=Cn.ext (Cn.bJ _ _) (ZX.K (-3)*eX l most j).c fun t=>by rw [dA,ZX.fC,ZX.AH,Int.mul_comm]
  rw [AZ]at hsc
  apply (gK)
  refine W.iS (fun σ=>∃(rows:Pm.Rows) (clk:Nat),σ=⟨fa [(5,PI (if (0<l.length∧(nth l 0).tmod 7=6)then ZX.K (-3)*eX l most j else eX l most j).l)],rows,clk⟩) ?_ ?_
  ·by_cases AF:0<l.length
   ·by_cases h7:(nth l 0).tmod 7=6
    ·rw [if_pos ⟨AF,h7⟩]
     have b7:((nth l 0).tmod 7==6)=true:=by simpa using h7
     apply W.sr
     simp (disch:=omega) [gw,AF,b7,h7]
     apply cO [5,92]
     refine W.cond ⟨_,rfl,fun h=>?_,fun h=>?_⟩
     ·refine W.bY fun K hK=>?_
      apply fV of3 hsc
      apply (cV)
      exact hK _ ⟨_,aD _ [5],_,_,rfl⟩
     ·cases h
    ·rw [if_neg (fun h=>h7 h.2)]
     have b7:((nth l 0).tmod 7==6)=false:=by simpa using h7
     apply W.sr
     simp (disch:=omega) [gw,AF,b7,h7]
     apply cO [5,92]
     refine W.cond ⟨_,rfl,fun h=>?_,fun h=>?_⟩
     ·cases h
     ·apply W.skip
      exact⟨_,aD _ [5],_,_,rfl⟩
   ·rw [if_neg (fun h=>AF h.1)]
    have hl1:l.length=0:=aA
    apply fJ hl1 [5,92]
    refine W.cond ⟨_,rfl,fun h=>?_,fun h=>?_⟩
    ·cases h
    ·apply W.skip
     exact⟨_,aD _ [5],_,_,rfl⟩
  rintro _ ⟨rows,clk,rfl⟩
  exact eY [4]
theorem BZ.z(b:BZ h n a)(hh:h<1099511627776):∀c∈a.l,Z c:=fun c hc=>Nat.lt_of_le_of_lt (b.sz c hc) hh
theorem GG(b:BZ h n a)(hh:h<1099511627776)(hn:n<1099511627776):aC 100 [PI a.l] (Po a.l):=abC a.l (b.z hh) (Nat.lt_of_le_of_lt b.len hn)
theorem azv{b:ZX}(ha:a≠0)(hb:Nf b)(h:∀p,ZX.sF p->ZX.mu p b=min (ZX.mu p a) 1):sq a=b:=by
 have nA:=kG ha
 have e:sq a=sz' (nf a):=by
  unfold sq
  split
  ·rename_i h2
   have h3:nf a=1:=nA.N1 (by rw [BU];exact h2)
   rw [h3]
   show 1=wz 1 0
   rw [wz]
   show 1=qz 1 (gd 1)
   rw [aik,Nf.one.self]
  ·rfl
 rw [e]
 exact Nf.wK (aim nA) hb fun p hp=>by rw [ain nA hp,abO hp ha,h p hp]
theorem aiL(hn:a.l.length<=n)(hc:∀c∈a.l,c.natAbs<8):BZ 3 n a:=⟨hn,fun c h=>dZ aF (by have:=hc c h;show _<8;exact this)⟩
theorem aex(b:BZ 3 5 a):tY 3 5 a:=⟨b,aF,aF,aF⟩
end Go.Proofs.YtiobceocpabjdaaGreat
namespace Go.Proofs.YtiobceocpabjdaaGreat
open Go Pm
open ZX hiding N W
variable {a f:ZX}{s n u:Nat}{q:Rat}
theorem ab7(h:2<=ZX.N a):nth (cD a).l (ZX.N a-2)=lead a.l*((ZX.N a-1:Nat):Int):=by
 have h1:a.l.length=ZX.N a:=rfl
 have h2:nth (cD a).l (ZX.N a-2)=nth a.l (ZX.N a-1)*((ZX.N a-1:Nat):Int):=by
  show nth (aZ (DJ a.l)) _=_
  rw [lL,DJ,bZ (by simp;omega)]
  simp only [List.getElem_map,List.getElem_range]
  rw [show ZX.N a-2+1=ZX.N a-1 by omega]
 rw [h2,lead,h1]
theorem aiM(h:2<=ZX.N a):ZX.N (cD a)=ZX.N a-1:=by
 have h1:=qO a
 have h2:=ab7 h
 have hl:=dO a.c (show 0<a.l.length from by have:a.l.length=ZX.N a:=rfl;omega)
 have h3:nth (cD a).l (ZX.N a-2)≠0:=by rw [h2];exact Int.mul_ne_zero hl aA
 rcases Nat.lt_or_ge (ZX.N a-2) (cD a).l.length with h4 | h4
 ·have:ZX.N (cD a)=(cD a).l.length:=rfl
  omega
 ·exact absurd (kA h4) h3
theorem aiN(h:2<=ZX.N a):lead (cD a).l=lead a.l*((ZX.N a-1:Nat):Int):=by
 rw [<-ab7 h,lead,show(cD a).l.length=ZX.N (cD a)from rfl,aiM h,show ZX.N a-1-1=ZX.N a-2 by omega]
theorem aey(h:ZX.N a<=1):cD a=0:=by
 refine Classical.byContradiction fun h0=>?_
 have h1:=ZX.aH.1 h0
 have:=qO a
 omega
theorem amM(hf:Nf f):wE (cD f).l=(uS (cD f)).l:=by
 have h:¬lead (cD f).l<0:=by
  rcases Nat.lt_or_ge (ZX.N f) 2 with h2 | h2
  ·rw [aey aA];decide
  ·rw [aiN h2]
   have:=Int.mul_nonneg (Int.le_of_lt hf.l) (show (0:Int)<=((ZX.N f-1:Nat):Int)by omega)
   omega
 show _=mS (cD f).l
 rw [UO,if_neg h]
theorem QJ{α:Type}{g:α->List PV}{l:List α}(hS:aC 70 [aJ g l] (Po f.l))(h:Ch s n f)(hf:Nf f):aC 69 [aJ g l] (.dK [CH (aO f),aB 0]):=by
 have hn:=h.hn
 have hp:=h.pot
 have hs:=hp.le
 have bd:BZ (s+5) n (cD f):=h.bz.cD aA
 have d1:=tX h.bz aA aA
 have d2:=yR ((cD f).l.map xZ) (bd.K4 aA aA) (s:=s+5) (n:=n) (by rw [cZ];exact RW bd) aA aA
 rw [E1,<-lM,amM hf]at d2
 have b2:BZ (s+5) n (uS (cD f)):=lR bd
 have b1:BZ (s+5) n f:=h.bz.mono aA (Nat.le_refl _)
 have K5:ZX.N (uS (cD f))<=ZX.N f:=Nat.le_trans (oV _) (Nat.le_trans (qO f) aA)
 have hc:aO f=f::zS (ZX.N f) f (uS (cD f)):=rfl
 rw [JA K5 (Nat.le_refl _)]at hc
 have hf0:f.l.length≠0:=by have:=ZX.aH.1 hf.ne;exact Nat.pos_iff_ne_zero.1 this
 have hf1:¬f.l = []:=fun h0=>hf0 (by rw [h0];rfl)
 generalize hC:aO f=C at *
 generalize uS (cD f)=g0 at *
 generalize oE (cD f).l=pc at *
 generalize (cD f).l=dl at *
 apply cG [(0,aJ g l)] Tryz.func69
 apply gJ [0] hS [4]
 apply cQ [4,14]
 refine W.cond ⟨_,rfl,fun h=>?_,fun h=>?_⟩
 ·simp at h;exact absurd h hf1
 apply W.skip
 refine W.as6 1 rfl rfl rfl fun K hK=>?_
 apply (cV)
 refine W.lw [4,5] hK ?_;clear hK K;simp
 apply n7 d1 d2
 apply bT [4,5,7]
 apply (nC)
 refine W.bB (fun k σ=>∃(L:List ZX) (x y:ZX) (i ver v18 e18 s:Nat),bF σ [(4,Po x.l),(5, .ptr 18 v18 0 0),(7,Po y.l)] fun rows clk=>rows 16=some ⟨ver,24,1,emap zp L⟩∧rows 18=some ⟨v18,e18,1,[[.own 16 ver 0 (i+1)]]⟩∧L.length=i+1 ∧
  L++zS k x y=C∧k=ZX.N y∧BZ s n x∧BZ s n y∧E2 4500000000 n s x y∧i+ZX.N y<=20) (ZX.N g0) ?_ ?_
 ·exact⟨_, .refl,[f],f,g0,0,_,_,_,s+5,_,_,rfl,by simp [emap];(first | exact rfl | exact⟨rfl,rfl⟩),by simp;(first | exact rfl | exact⟨rfl,rfl⟩ | exact⟨rfl,rfl,rfl⟩),rfl,hc.symm,rfl,b1,b2,hp,by have:=b2.N;omega⟩
 rintro k _ ⟨L,x,y,i,ver,v18,e18,s,rows,clk,rfl,aiO,as7,hL,Y9,rfl,bx,xM,hp,hiN⟩
 have hs:=hp.le
 have hlx:=bx.len
 have hly:=xM.len
 have hLl:(emap zp L).length=i+1:=by simp [emap,hL]
 apply cQ [4,5,7,27]
 refine W.cond ⟨_,rfl,fun h=>?_,fun h=>?_⟩
 ·have hy:y≠0:=ZX.aH.2 (by show 0<y.l.length;simp at h;omega)
  have hR:=UM (x.l.map xZ) (y.l.map xZ) (bx.K4 aA aA) (xM.K4 aA aA) (s:=s) (s':=s) (N:=n) (by rw [cZ];exact RW bx) (by rw [cZ];exact RW xM) (by
   have:n*(s+n+1)<=20*4500000000:=Nat.mul_le_mul hn hs
   omega)
  rw [E1,E1,if_neg (x7 hy),<-lM,<-lM]at hR
  have br:=abZ bx xM hy
  have apl:(ZX.N x+1-ZX.N y)*(s+n+1)<=22*4500000000:=Nat.mul_le_mul (by have:ZX.N x=x.l.length:=rfl;omega) aA
  have hrz:UK x.l y.l=(uS (rz x y)).l:=by
   obtain⟨hrl,hN,_⟩:=xO (a:=x) hy
   obtain⟨m,q,hm,e⟩:=aiy y.c (ZX.aH.1 hy) (x.l.length+1) x.l x.c aA
   rw [<-hrl]at e
   exact aiz x.c y.c (ZX.aH.1 hy) (rz x y).c hN hm e
  rw [hrz]at hR
  have hNg:=MS (x:=(uS (rz x y)).l) (PB.of (RW (lR br)) aA aA)
  have e3:jP (uS (rz x y)).l=(nx x y).l:=rfl
  rw [e3]at hNg
  have K5:=aek (a:=x) hy
  have WO:=hp.step K5
  have bn:=ab0 bx xM hy
  have hch:L ++ [y]++zS (ZX.N (nx x y)) y (nx x y)=C:=by
   rw [<-Y9]
   obtain⟨j,hj⟩:∃j,ZX.N y=j+1:=⟨ZX.N y-1,by have:=ZX.aH.1 hy;have:ZX.N y=y.l.length:=rfl;omega⟩
   rw [hj,zS,if_neg aA,JA (k:=j) (j:=ZX.N (nx x y)) aA (Nat.le_refl _)]
   simp
  generalize (uS (rz x y)).l=pl at *
  generalize hnx:nx x y=nn at *
  apply (uV)
  apply W.sr
  apply zD aiO as7 hLl
  apply cO [4,5,7]
  apply cK hR [5,7,8]
  refine W.bY fun K hK=>?_
  apply o9 hNg
  refine hK _ ⟨ZX.N nn,_,aD _ [4,5,7],K5,L ++ [y],y,nn,i+1,_,v18,e18,_,_,_,rfl,by simp;first | exact rfl | skip,by simp;first | exact rfl | skip,by simp [hL],hch,rfl,xM.mono aA (Nat.le_refl _),bn,WO,aA⟩
 ·have hy:y=0:=by
   refine Classical.byContradiction fun h0=>?_
   have h1:=ZX.aH.1 h0
   have h2:ZX.N y=y.l.length:=rfl
   simp at h;rw [h2,h]at h1;simp at h1
  subst hy
  rw [nS,List.append_nil]at Y9
  subst Y9
  have CQ:List.take (i+1) L=L:=List.take_of_length_le aA
  apply (gK)
  refine W.O0 16 (by rw [aiO];simp) fun K hK=>?_
  simp [aiO]
  refine hK _ ?_
  have azx:K2 rows 16 18=some ⟨v18,e18,1,[[aJ zp L]]⟩:=by
   simp [as7,aiO,hLl,CQ]
  clear aiO as7
  generalize K2 rows 16=BP at *
  apply aQ [2,3]
  apply W.ret
  simp [go,azx]
theorem aiP{n:Nat}(hn:n<=20):∀(j s:Nat) (x g:ZX),BZ s n x->BZ s n g->E2 4500000000 n s x g -> ∀p∈zS j x g,BZ 4500000000 n p
 | 0,_,_,_,_,_,_,p,hp=>by cases hp
 | j+1,s,x,g,bx,bg,hP,p,hp=>by
  have hs:=hP.le
  rw [zS]at hp
  split at hp
  ·cases hp
  ·rename_i h0
   have h0':g≠0:=ZX.aH.2 (Nat.pos_of_ne_zero h0)
   rcases List.mem_cons.1 hp with rfl | hp
   ·exact bg.mono aA (Nat.le_refl _)
   ·exact aiP hn j _ g (nx x g) (bg.mono aA (Nat.le_refl _)) (ab0 bx bg h0') (hP.step (aek h0')) p hp
theorem ab8:∀(j:Nat) (x g:ZX),(zS j x g).length<=j
 | 0,_,_=>Nat.le_refl _
 | j+1,x,g=>by
  rw [zS]
  split
  ·simp
  ·simp only [List.length_cons];have:=ab8 j g (nx x g);omega
theorem Ch.all(h:Ch s n f):(∀p∈aO f,BZ 4500000000 n p)∧(aO f).length<=21:=by
 have hp:=h.pot
 have hs:=hp.le
 have hn:=h.hn
 refine⟨fun p hq=>?_,?_⟩
 ·rcases List.mem_cons.1 hq with rfl | hq
  ·exact h.bz.mono aA (Nat.le_refl _)
  ·exact aiP hn _ _ _ _ (h.bz.mono aA (Nat.le_refl _)) (lR (h.bz.cD aA)) hp p hq
 ·have:=ab8 (ZX.N f) f (uS (cD f))
  have h2:=h.bz.N
  show(f::zS (ZX.N f) f (uS (cD f))).length<=21
  simp only [List.length_cons];omega
theorem amN{u v:ZX}{c:Int}(na:Nf a)(hc:c≠0)(h:u*a+v*cD a=K c):sq a=a:=azv na.ne na fun p hp=>by
 have hm:mu p a<=1:=by
  rcases Nat.lt_or_ge (mu p a) 2 with h1 | h1
  ·omega
  ·exfalso
   obtain⟨m,hmm⟩:∃m,mu p a=m+1:=⟨mu p a-1,aA⟩
   obtain⟨_,h2⟩:=DK hp na.ne hmm
   have d1:dv p a:=by have:=(lP hp na.ne).1 (show 1<=mu p a by omega);rwa [show p^1=p by rw [pow_succ',fH];grind]at this
   have hd:cD a≠0:=fun h0=>by rw [h0]at h2;have:mu p (0:ZX)=m:=h2;have h9:=(DK hp na.ne hmm).1;exact h9 h0
   have d2:dv p (cD a):=by have:=(lP hp hd).1 (show 1<=mu p (cD a)by omega);rwa [show p^1=p by rw [pow_succ',fH];grind]at this
   have d3:dv p (K c):=by rw [<-h];exact(d1.mul_left u).add (d2.mul_left v)
   have h3:=d3.nP (sE hc)
   have h4:=hp.deg
   rw [N_K hc]at h3
   omega
 omega
theorem bI(q:Rat):eH q.num q.den=q:=by
 rw [eH,if_neg (by have:=q.den_nz;omega)]
 exact Rat.num_divInt_den q
theorem aiQ(n d:Int):(sml n d).num.natAbs<=30∧((sml n d).den:Int).natAbs<=6:=by
 have h1:=Int.emod_nonneg n (show (61:Int)≠0 by decide)
 have h2:=Int.emod_lt_of_pos n (show (0:Int)<61 by decide)
 have h3:=Int.emod_nonneg d (show (6:Int)≠0 by decide)
 have h4:=Int.emod_lt_of_pos d (show (0:Int)<6 by decide)
 unfold sml
 rw [tN _ _ aA,tP _ _ aA]
 rw [if_neg aA,if_neg aA]
 refine⟨Nat.le_trans (Int.natAbs_ediv_le_natAbs _ _) aA,Nat.le_trans (Int.natAbs_ediv_le_natAbs _ _) aA⟩
structure SQ(u:Nat)(q:Rat):Prop where
 n2:sz 2 q.num<=u
 d2:sz 2 (q.den:Int)<=u
 hu:1<=u
theorem SQ.nL(h:SQ u q):sz LL q.num<=u:=Nat.le_trans (I5 _) h.n2
theorem SQ.dL(h:SQ u q):sz LL (q.den:Int)<=u:=Nat.le_trans (I5 _) h.d2
theorem as8(n d:Int):SQ 5 (sml n d):=by
 obtain⟨h1,h2⟩:=aiQ n d
 exact⟨oX aA,oX aA,aF⟩
section
variable {c:List ZX} {n u:Nat} {q:Rat} (hb:∀p∈c,BZ 4500000000 n p) (hn:n<=20) (hl:c.length<=21) (hq:SQ u q) (hu:u<=1000000000)
include hb hn hl hq hu
theorem aiR:aC 151 [aJ zq c,R2 q.num q.den] (aB (vr (rT c q.num q.den))):=VD aA fun p hp=>by
 have hmul:n*(u+1)<=20*(u+1):=Nat.mul_le_mul_right _ hn
 exact xP (hb p hp) hq.n2 hq.d2 hq.hu aA (by show _<137438953472;omega)
theorem aiS:aC 168 [CH c,T2 q.num q.den] (aB (vr (rT c q.num q.den))):=ZQ aA fun p hp=>by
 have hmul:n*(u+1)<=20*(u+1):=Nat.mul_le_mul_right _ hn
 exact M9 (RW (hb p hp)) p.c hq.nL hq.dL hq.hu aA aA aA (bI q) ⟨hq.nL,hq.dL⟩
end
theorem pbs{c:List ZX}(hb:∀p∈c,BZ 4500000000 n p)(hn:n<=20):∀p∈c,PB p.l:=fun p hp=>(hb p hp).pb aF aA
structure MK(a:ZX)(c:List ZX):Prop where
 to:aC 100 [PI a.l] (Po a.l)
 new:aC 69 [Po a.l] (.dK [CH c,aB 0])
 chain:aC 81 [PI a.l] (aJ zq c)
 bd:∀p∈c,BZ 4500000000 20 p
 len:c.length<=21
theorem MK.of(h:tY s n a)(h0:a≠0)(rB:1<=n)(h1:1<=s):MK a (aO (sq a)):=by
 have hC:=h.ch h0 rB
 obtain⟨hb,hl⟩:=hC.all
 have hqb:=h.uQ
 have hs:s<1099511627776:=by unfold qb at hqb;omega
 have hn:=h.hn
 exact⟨GG h.bz hs aA,QJ (zN h) hC (E7 h0).1,uD h h0 rB h1,fun p hp=>(hb p hp).mono (Nat.le_refl _) hn,hl⟩
end Go.Proofs.YtiobceocpabjdaaGreat
