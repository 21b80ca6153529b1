import Derived.ProofKit
import Derived.JoinedOf
import Derived.SizedLaws
import Derived.Carry
import Derived.Deep.Slices
import Derived.Test.YtiobceocpabjdaaGreatNad
set_option linter.unusedSimpArgs false
set_option linter.unusedVariables false
namespace Pm
variable {α β:Type}{i k n m:Nat}{x y t:Int}{l:List Int}
def V(b:Int):List Int->Int
 | []=>0
 | x::l=>x+b*V b l
def dH(b:Int)(l:List Int):Prop:=∀x∈l,0<=x∧x<b
def TH(b:Nat):Nat->Nat->List Int
 | 0,_=>[]
 | f+1,n=>if n=0 then []else((n%b:Nat):Int)::TH b f (n/b)
def aV(b n:Nat):List Int:=TH b n n
def aZ:List Int->List Int
 | []=>[]
 | x::l=>if aZ l = []∧x=0 then []else x::aZ l
theorem mH:∀l:List Int,aZ (l ++ [0])=aZ l
 | []=>by simp [aZ]
 | x::l=>by simp [aZ,mH l]
theorem kS{x:Int}(h:x≠0):∀l:List Int,aZ (l ++ [x])=l ++ [x]
 | []=>by
  show aZ [x] = [x]
  rw [aZ,if_neg (fun hh=>h hh.2)];rfl
 | y::l=>by
  have ih:=kS h l
  have hn:¬(l ++ [x] = []∧y=0):=aG
  show aZ (y::(l ++ [x]))=y::(l ++ [x])
  rw [aZ,ih,if_neg hn]
theorem cL:∀l:List Int,(aZ l).length<=l.length
 | []=>by simp [aZ]
 | x::l=>by
  have:=cL l
  simp only [aZ]
  split
  ·simp
  ·simpa using this
theorem bZ[Inhabited α]{l:List α}(h:i<l.length):nth l i=l[i]:=by unfold nth;rw [List.getElem?_eq_getElem h];rfl
theorem kA[Inhabited α]{l:List α}(h:l.length<=i):nth l i=default:=by unfold nth;rw [List.getElem?_eq_none h];rfl
theorem bQ[Inhabited α]{l:List α}(h:i<l.length):l.take (i+1)=l.take i ++ [nth l i]:=by
 rw [bZ h,List.take_succ_eq_append_getElem h]
theorem bO[Inhabited α]{l:List α}(h:i<l.length):nth l i∈l:=by rw [bZ h];exact List.getElem_mem h
theorem gP[Inhabited α]{l:List α}{x:α}(h:i<l.length):nth (l.set i x) i=x:=by rw [bZ (by simpa using h)];simp
theorem jL[Inhabited α]{l:List α}{j:Nat}{x:α}(h:i≠j):nth (l.set i x) j=nth l j:=by unfold nth;rw [List.getElem?_set_ne h]
theorem gW[Inhabited α]{l:List α}(h:i<l.length):l.drop i=nth l i::l.drop (i+1):=by rw [bZ h];exact List.drop_eq_getElem_cons h
theorem jI{l:List α}{x:α}(h:k<=i):(l.set i x).take k=l.take k:=by
 rw [List.take_set];exact List.set_eq_of_length_le (by simp;omega)
section
variable {b:Int}
theorem dH.nil:dH b []:=by simp [dH]
theorem dH.cons:dH b (x::l)↔(0<=x∧x<b)∧dH b l:=by simp [dH]
theorem dH.append{a c:List Int}:dH b (a++c)↔dH b a∧dH b c:=by
 simp only [dH,List.mem_append]
 constructor
 ·intro h;exact⟨fun x hx=>h x (.inl hx),fun x hx=>h x (.inr hx)⟩
 ·rintro⟨h1,h2⟩ x (hx | hx)
  ·exact h1 x hx
  ·exact h2 x hx
theorem dH.take(h:dH b l)(n:Nat):dH b (l.take n):=fun x hx=>h x (List.mem_of_mem_take hx)
theorem dH.drop(h:dH b l)(n:Nat):dH b (l.drop n):=fun x hx=>h x (List.mem_of_mem_drop hx)
theorem dH.nth(h:dH b l)(hi:i<l.length):0<=nth l i∧nth l i<b:=by
 rw [bZ hi];exact h _ (List.getElem_mem hi)
theorem dH.set(h:dH b l)(hx:0<=x∧x<b):dH b (l.set i x):=fun y hy=>by
 rcases List.mem_or_eq_of_mem_set hy with h1 | h1
 ·exact h y h1
 ·rw [h1];exact hx
theorem dH.rep(hb:0<b)(n:Nat):dH b (List.replicate n 0):=fun x hx=>by rw [(List.mem_replicate.1 hx).2];omega
theorem bV(hb:0<b):∀ {l:List Int},dH b l->0<=V b l
 | [],_=>by simp [V]
 | x::l,h=>by
  have h1:=bV hb (dH.cons.1 h).2;have h2:=(dH.cons.1 h).1
  have h3:=Int.mul_nonneg (Int.le_of_lt hb) h1
  simp only [V];omega
theorem eZ:∀(a c:List Int),V b (a++c)=V b a+b^a.length*V b c
 | [],c=>by simp [V]
 | x::a,c=>by simp only [List.cons_append,V,eZ a c,List.length_cons,Int.pow_succ];grind
theorem rJ:V b [x]=x:=by simp [V]
theorem sU(hb:0<b):∀ {l:List Int},dH b l->V b l<b^l.length
 | [],_=>by simp [V]
 | x::l,h=>by
  have h1:=sU hb (dH.cons.1 h).2;have h2:=(dH.cons.1 h).1
  have h3:b*(V b l+1)<=b*b^l.length:=Int.mul_le_mul_of_nonneg_left aA aA
  rw [Int.mul_add]at h3
  simp only [V,List.length_cons,Int.pow_succ,Int.mul_comm _ b];omega
theorem bG(h:i<l.length):V b (l.take (i+1))=V b (l.take i)+b^i*nth l i:=by
 rw [bQ h,eZ,rJ];simp [Nat.min_eq_left (Nat.le_of_lt h)]
theorem bM(h:l.length<=i):V b (l.take i)=V b l:=by rw [List.take_of_length_le h]
theorem gY(h:i<l.length):V b ((l.set i x).take (i+1))=V b (l.take i)+b^i*x:=by
 rw [bG (by simpa using h),jI (Nat.le_refl _),gP h]
theorem L9(h:i<l.length):V b (l.set i x)=V b l+b^i*(x-nth l i):=by
 induction l generalizing i with
 | nil=>simp at h
 | cons y l ih =>
  cases i with
  | zero=>simp only [List.set_cons_zero,V,Int.pow_zero,nth,List.getElem?_cons_zero,Option.getD_some];omega
  | succ i =>
   have e:nth (y::l) (i+1)=nth l i:=by simp [nth]
   simp only [List.set_cons_succ,V,e,Int.pow_succ]
   rw [ih (by simpa using h)]
   grind
theorem uN:∀n:Nat,V b (List.replicate n 0)=0
 | 0=>rfl
 | n+1=>by simp [List.replicate_succ,V,uN n]
end
section
variable {b:Int}
theorem dU:∀l:List Int,V b (aZ l)=V b l
 | []=>rfl
 | x::l=>by
  have ih:=dU l
  simp only [aZ]
  split
  ·rename_i h
   rw [h.1]at ih
   simp only [V]at ih |-
   rw [<-ih,h.2];simp
  ·simp [V,ih]
theorem fR(h:dH b l):dH b (aZ l):=by
 induction l with
 | nil=>exact h
 | cons x l ih =>
  obtain⟨h1,h2⟩:=dH.cons.1 h
  simp only [aZ]
  split
  ·exact dH.nil
  ·exact dH.cons.2 ⟨h1,ih h2⟩
end
section
variable {b:Nat}
theorem abf(hb:2<=b):∀(f g n:Nat),n<=f->n<=g->TH b f n=TH b g n
 | 0,g,n,h,_=>by
  have:n=0:=aA
  subst this
  cases g<;>simp [TH]
 | f+1,0,n,_,h=>by
  have:n=0:=aA
  subst this
  simp [TH]
 | f+1,g+1,n,h1,h2=>by
  simp only [TH]
  by_cases hn:n=0
  ·simp [hn]
  ·simp only [hn,if_false]
   have:n/b<n:=Nat.div_lt_self aA hb
   rw [abf hb f g _ aA aA]
theorem oS:aV b 0 = []:=rfl
theorem vP(hb:2<=b)(h:n≠0):aV b n=((n%b:Nat):Int)::aV b (n/b):=by
 cases n with
 | zero=>exact absurd rfl h
 | succ n =>
  simp only [aV]
  rw [TH]
  simp only [h,if_false]
  have:(n+1)/b<n+1:=Nat.div_lt_self aA hb
  rw [abf hb n _ _ aA (Nat.le_refl _)]
theorem TJ(hb:2<=b)(n:Nat):V b (aV b n)=n∧dH b (aV b n):=by
 induction n using Nat.strongRecOn with
 | _ n ih =>
  by_cases h:n=0
  ·subst h;simp [oS,V,dH]
  ·rw [vP hb h]
   obtain⟨h1,h2⟩:=ih (n/b) (Nat.div_lt_self aA hb)
   have h3:=Nat.mod_lt n (show 0<b by omega)
   have h4:=Nat.mod_add_div n b
   simp only [V,h1,dH.cons]
   refine⟨by exact_mod_cast h4,⟨aA,aA⟩,h2⟩
theorem nD(hb:2<=b)(n:Nat):V b (aV b n)=n:=(TJ hb n).1
theorem gZ(hb:2<=b)(n:Nat):dH b (aV b n):=(TJ hb n).2
theorem gC(hb:2<=b):aV b n = []↔n=0:=by
 constructor
 ·intro h;have:=nD hb n;rw [h]at this;simp [V]at this;omega
 ·rintro rfl;rfl
theorem vQ(hb:2<=b):∀ {l:List Int},dH b l->aZ l=aV b (V b l).toNat
 | [],_=>rfl
 | x::l,h=>by
  obtain⟨h1,h2⟩:=dH.cons.1 h
  have ih:=vQ hb h2
  have h3:=bV aA h2
  simp only [aZ,ih,gC hb,V]
  obtain⟨m,hm⟩:=Int.eq_ofNat_of_zero_le h3
  obtain⟨y,hy⟩:=Int.eq_ofNat_of_zero_le h1.1
  subst hy
  rw [hm]
  have e0:((y:Int)+b*m).toNat=y+b*m:=by
   rw [show((y:Int)+b*m)=((y+b*m:Nat):Int)by simp];exact Int.toNat_natCast _
  rw [e0,Int.toNat_natCast]
  by_cases hz:m=0∧y=0
  ·obtain⟨rfl,rfl⟩:=hz;simp [oS]
  ·rw [if_neg aA]
   have hyb:y<b:=aA
   have e1:(y+b*m)/b=m:=by rw [Nat.add_mul_div_left _ _ aA,Nat.div_eq_of_lt hyb];simp
   have e2:(y+b*m)%b=y:=by rw [Nat.add_mul_mod_self_left,Nat.mod_eq_of_lt hyb]
   have o7:y+b*m≠0:=by
    intro h0
    have h5:b*m=0:=aA
    rcases Nat.mul_eq_zero.1 h5 with h6 | h6<;>omega
   rw [vP hb o7,e1,e2]
theorem FV(hb:2<=b)(h:n<b^k):(aV b n).length<=k:=by
 induction k generalizing n with
 | zero => have:n=0:=by simpa using h
           subst this;simp [oS]
 | succ k ih =>
  by_cases h0:n=0
  ·subst h0;simp [oS]
  ·rw [vP hb h0]
   have:n/b<b^k:=by
    rw [Nat.pow_succ,Nat.mul_comm]at h
    exact Nat.div_lt_of_lt_mul h
   simpa using ih this
theorem mI(hb:2<=b)(n:Nat):aZ (aV b n)=aV b n:=by rw [vQ hb (gZ hb n),nD hb];simp
end
section
variable {b:Int}
theorem nE(l:List Int)(i:Nat)(h:i<=l.length):V b l=V b (l.take i)+b^i*V b (l.drop i):=by
 conv=>lhs;rw [<-List.take_append_drop i l]
 rw [eZ];simp [Nat.min_eq_left h]
theorem HU(h:i<l.length):V b l=V b (l.take i)+b^i*nth l i+b^(i+1)*V b (l.drop (i+1)):=by
 rw [nE l (i+1) aA,bG h]
theorem rK(hb:0<b){x y:List Int}(lx:dH b x)(ly:dH b y)(hl:x.length=y.length)(hi:i<x.length)(hd:x.drop (i+1)=y.drop (i+1))(h:nth x i<nth y i):V b x<V b y:=by
 rw [HU hi,HU (l:=y) (i:=i) aA,hd]
 have h1:=sU hb (lx.take i)
 have h2:=bV hb (ly.take i)
 rw [List.length_take,Nat.min_eq_left aA]at h1
 have h3:b^i*(nth x i+1)<=b^i*nth y i:=Int.mul_le_mul_of_nonneg_left aA (Int.le_of_lt (Int.pow_pos hb))
 rw [Int.mul_add]at h3
 omega
theorem n9(hb:1<=b):∀ {l:List Int},dH b l->aZ l=l->l ≠ []->b^(l.length-1)<=V b l
 | [],_,_,h=>absurd rfl h
 | [x],hl,hc,_=>by
  have h1:=(dH.cons.1 hl).1
  have h2:x≠0:=fun h=>by subst h;simp [aZ]at hc
  simp [V];omega
 | x::y::l,hl,hc,_=>by
  have h1:=(dH.cons.1 hl).1
  have hc2:aZ (y::l)=y::l:=by
   rw [aZ]at hc
   split at hc
   ·cases hc
   ·exact(List.cons.inj hc).2
  have ih:=n9 hb (dH.cons.1 hl).2 hc2 aG
  simp only [List.length_cons,Nat.add_sub_cancel]at ih |-
  rw [Int.pow_succ,V]
  have:=Int.mul_le_mul_of_nonneg_left ih (show 0<=b by omega)
  rw [Int.mul_comm b]at this
  omega
theorem fX:∀l:List Int,aZ (aZ l)=aZ l
 | []=>rfl
 | x::l=>by
  have ih:=fX l
  rw [aZ]
  split
  ·rfl
  ·rename_i h
   rw [aZ,ih,if_neg h]
theorem mJ(hb:1<=b){x y:List Int}(lx:dH b x)(ly:dH b y)(hy:aZ y=y)(h:x.length<y.length):V b x<V b y:=by
 have h1:=sU aA lx
 have h2:=n9 hb ly hy (by intro h0;rw [h0]at h;simp at h)
 have h3:b^x.length<=b^(y.length-1):=by
  obtain⟨k,hk⟩:∃k,y.length-1=x.length+k:=⟨y.length-1-x.length,aA⟩
  rw [hk,Int.pow_add]
  have:1<=b^k:=Int.pow_pos aA
  have:=Int.mul_le_mul_of_nonneg_left this (show 0<=b^x.length from Int.le_of_lt (Int.pow_pos aA))
  simpa using this
 omega
end
def eA(x y:Int):Int:=if x<y then -1 else if y<x then 1 else 0
theorem pL(h:x<y):eA x y = -1:=by simp [eA,h]
theorem pM(h:y<x):eA x y=1:=by simp [eA,h];omega
theorem FW(x:Int):eA x x=0:=by simp [eA]
theorem qF:eA x y<0↔x<y:=by simp only [eA];split<;>(try split)<;>omega
theorem vR:0<=eA x y↔y<=x:=by simp only [eA];split<;>(try split)<;>omega
theorem C8:eA x y=0↔x=y:=by simp only [eA];split<;>(try split)<;>omega
theorem qG:0<eA x y↔y<x:=by simp only [eA];split<;>(try split)<;>omega
section
variable {b:Nat}
def sz(b:Nat)(x:Int):Nat:=(aV b x.natAbs).length
theorem kB(hb:2<=b)(x:Int):x.natAbs<b^sz b x:=by
 have h1:=sU (b:=(b:Int)) aA (gZ hb x.natAbs)
 rw [nD hb]at h1
 have h2:((b:Int)^(aV b x.natAbs).length)=((b^(aV b x.natAbs).length:Nat):Int):=aG
 rw [h2]at h1
 unfold sz
 omega
theorem dZ(hb:2<=b)(h:x.natAbs<b^k):sz b x<=k:=FV hb h
theorem A8(hb:2<=b)(h:m<=n):b^m<=b^n:=Nat.pow_le_pow_right aA h
theorem qH(hb:2<=b)(hx:sz b x<=k)(hy:sz b y<=k):sz b (x+y)<=k+1:=by
 refine dZ hb ?_
 have h1:=Nat.lt_of_lt_of_le (kB hb x) (A8 hb hx)
 have h2:=Nat.lt_of_lt_of_le (kB hb y) (A8 hb hy)
 rw [Nat.pow_succ]
 have h3:b^k*2<=b^k*b:=Nat.mul_le_mul_left _ hb
 omega
theorem cW(hb:2<=b)(hx:sz b x<=k)(hy:sz b y<=m):sz b (x*y)<=k+m:=by
 refine dZ hb ?_
 have h1:=Nat.lt_of_lt_of_le (kB hb x) (A8 hb hx)
 have h2:=Nat.lt_of_lt_of_le (kB hb y) (A8 hb hy)
 rw [Int.natAbs_mul,Nat.pow_add]
 exact Nat.mul_lt_mul'' h1 h2
theorem r9(x:Int):sz b (-x)=sz b x:=by simp [sz]
theorem nG:sz b 0=0:=by simp [sz,oS]
theorem dN(hb:2<=b)(h:x.natAbs<=y.natAbs):sz b x<=sz b y:=dZ hb (Nat.lt_of_le_of_lt h (kB hb y))
end
theorem bW{l:List α}(h:l.length=n):l.take n=l:=List.take_of_length_le aA
theorem oT{l m:List α}{x:α}(h:l.take i=m)(hi:i<l.length):(l.set i x).take (i+1)=m ++ [x]:=by
 subst h
 rw [List.take_succ_eq_append_getElem (by simpa using hi),jI (Nat.le_refl _)]
 simp
theorem sA[Inhabited α]{l:List α}{f:α->β}(h:i<l.length):(l.take (i+1)).map f=(l.take i).map f ++ [f (nth l i)]:=by
 rw [bQ h];simp
theorem FX[Inhabited α][Inhabited β]{f:α->β}(h:f default=default)(l:List α)(k:Nat):nth (l.map f) k=f (nth l k):=by
 unfold nth
 cases hk:l[k]? with
 | none=>simp [hk,h]
 | some x=>simp [hk]
theorem xD{t:Int}{α:Type}(f g:α->Int):∀l:List α,V t (l.map fun k=>f k+g k)=V t (l.map f)+V t (l.map g)
 | []=>by simp [V]
 | x::l=>by simp only [List.map_cons,V,xD f g l];grind
theorem jR{t:Int}{α:Type}(c:Int)(f:α->Int):∀l:List α,V t (l.map fun k=>f k*c)=V t (l.map f)*c
 | []=>by simp [V]
 | x::l=>by simp only [List.map_cons,V,jR c f l];grind
theorem sV{x:List Int}(h:x.length<=n):(List.range n).map (nth x)=x++List.replicate (n-x.length) 0:=by
 apply List.ext_getElem
 ·simp;omega
 ·intro i h1 h2
  simp at h1
  by_cases hi:i<x.length
  ·simp [List.getElem_append,hi,bZ hi]
  ·simp [List.getElem_append,hi];exact kA aA
theorem mK{x:List Int}(h:x.length<=n):V t ((List.range n).map (nth x))=V t x:=by
 rw [sV h,eZ,uN];simp
theorem C9{N a b:Int}{A B:Int->Int}(h:∀t,N<t->a+t*A t=b+t*B t):a=b ∧ ∀t,max N 0<t->A t=B t:=by
 have gU:a=b:=by
  have h1:=h (max N 0+(b-a).natAbs+1) aA
  generalize hT:max N 0+(b-a).natAbs+1=T at *
  have h2:b-a=T*(A T-B T):=by rw [Int.mul_sub];omega
  have h3:T∣b-a:=⟨_,h2⟩
  have h4:=Nat.eq_zero_of_dvd_of_lt (Int.natAbs_dvd_natAbs.2 h3) aA
  omega
 refine⟨gU,fun t ht=>?_⟩
 have h1:=h t aA
 have h2:t*A t=t*B t:=aA
 exact Int.eq_of_mul_eq_mul_left aA h2
theorem tJ:∀(x y:List Int) (N:Int),(∀t,N<t->V t x=V t y)->aZ x=aZ y
 | [],[],_,_=>rfl
 | [],b::y,N,h=>by
  obtain⟨h1,h2⟩:=C9 (N:=N) (a:=0) (b:=b) (A:=fun _=>0) (B:=fun t=>V t y) (fun t ht=>by have:=h t ht;simp only [V]at this;omega)
  have:=tJ [] y (max N 0) (fun t ht=>by have:=h2 t ht;simpa [V]using this)
  simp only [aZ]at this |-
  rw [<-this];simp [<-h1]
 | a::x,[],N,h=>by
  obtain⟨h1,h2⟩:=C9 (N:=N) (a:=a) (b:=0) (A:=fun t=>V t x) (B:=fun _=>0) (fun t ht=>by have:=h t ht;simp only [V]at this;omega)
  have:=tJ x [] (max N 0) (fun t ht=>by have:=h2 t ht;simpa [V]using this)
  simp only [aZ]at this |-
  rw [this];simp [h1]
 | a::x,b::y,N,h=>by
  obtain⟨h1,h2⟩:=C9 (N:=N) (a:=a) (b:=b) (A:=fun t=>V t x) (B:=fun t=>V t y) (fun t ht=>h t ht)
  have:=tJ x y (max N 0) h2
  simp only [aZ]
  rw [this,h1]
theorem arE{x y:List Int}(h:∀t,V t x=V t y):aZ x=aZ y:=tJ x y 0 fun t _=>h t
def kC(x y:List Int):List Int:=aZ ((List.range (max x.length y.length)).map fun k=>nth x k+nth y k)
def iB(x y:List Int):List Int:=aZ ((List.range (max x.length y.length)).map fun k=>nth x k-nth y k)
def jP(x:List Int):List Int:=aZ (x.map fun c => -c)
def bJ(x:List Int)(c:Int):List Int:=aZ (x.map fun a=>a*c)
def jJ:List Int->List Int->List Int
 | [],_=>[]
 | a::x,y=>kC (y.map fun c=>c*a) (0::jJ x y)
def cB(x y:List Int):List Int:=aZ (jJ x y)
theorem vS(x y:List Int):V t (kC x y)=V t x+V t y:=by
 rw [kC,dU,xD,mK aA,mK aA]
theorem HV(x:List Int):V t (jP x) = - V t x:=by
 have:=jR (t:=t) (-1) id x
 rw [jP,dU]
 simp only [id_eq,Int.mul_neg,Int.mul_one,List.map_id_fun]at this
 exact this
theorem dA(x:List Int)(c:Int):V t (bJ x c)=V t x*c:=by
 have:=jR (t:=t) c id x
 rw [bJ,dU]
 simpa using this
theorem k8(x y:List Int):V t (iB x y)=V t x-V t y:=by
 rw [iB,dU]
 have h1:=xD (t:=t) (fun k=>nth x k-nth y k) (nth y) (List.range (max x.length y.length))
 have h2:(fun k=>nth x k-nth y k+nth y k)=nth x:=by funext k;omega
 rw [h2,mK aA,mK aA]at h1
 omega
theorem abg{t:Int}:∀x y:List Int,V t (jJ x y)=V t x*V t y
 | [],y=>by simp [jJ,V]
 | a::x,y=>by
  have:=jR (t:=t) a id y
  simp only [id_eq,List.map_id_fun]at this
  rw [jJ,vS,this]
  simp only [V,abg x y]
  grind
theorem eF(x y:List Int):V t (cB x y)=V t x*V t y:=by rw [cB,dU,abg]
def Cn(x:List Int):Prop:=aZ x=x
theorem Cn.kC(x y:List Int):Cn (kC x y):=fX _
theorem Cn.iB(x y:List Int):Cn (iB x y):=fX _
theorem Cn.jP(x:List Int):Cn (jP x):=fX _
theorem Cn.bJ(x:List Int)(c:Int):Cn (bJ x c):=fX _
theorem Cn.cB(x y:List Int):Cn (cB x y):=fX _
theorem Cn.cut(x:List Int):Cn (aZ x):=fX _
theorem Cn.nil:Cn []:=rfl
theorem Cn.ext{x y:List Int}(hx:Cn x)(hy:Cn y)(h:∀t,V t x=V t y):x=y:=by rw [<-hx,<-hy];exact arE h
structure Bd(b s n:Nat)(x:List Int):Prop where
 len:x.length<=n
 sz:∀c∈x,sz b c<=s
theorem qI:∀(x:List Int) (c:Int),c∈aZ x->c∈x
 | [],c,h=>h
 | a::x,c,h=>by
  rw [aZ]at h
  split at h
  ·cases h
  ·rcases List.mem_cons.1 h with h1 | h1
   ·simp [h1]
   ·exact List.mem_cons_of_mem _ (qI x c h1)
section
variable {b s s' n n':Nat} {x y:List Int}
theorem Bd.mono(h:Bd b s n x)(hs:s<=s')(hn:n<=n'):Bd b s' n' x:=⟨Nat.le_trans h.len hn,fun c hc=>Nat.le_trans (h.sz c hc) hs⟩
theorem Bd.cut(h:Bd b s n x):Bd b s n (aZ x):=⟨Nat.le_trans (cL x) h.len,fun c hc=>h.sz c (qI x c hc)⟩
theorem Bd.nth(h:Bd b s n x)(i:Nat):Pm.sz b (nth x i)<=s:=by
 by_cases hi:i<x.length
 ·exact h.sz _ (bO hi)
 ·rw [kA aA]
  show Pm.sz b 0<=s
  rw [nG];omega
theorem Bd.kC(hb:2<=b)(hx:Bd b s n x)(hy:Bd b s n y):Bd b (s+1) n (kC x y):=by
 refine Bd.cut ⟨by have:=hx.len;have:=hy.len;simp;omega,fun c hc=>?_⟩
 simp only [List.mem_map]at hc
 obtain⟨k,_,rfl⟩:=hc
 exact qH hb (hx.nth k) (hy.nth k)
theorem Bd.iB(hb:2<=b)(hx:Bd b s n x)(hy:Bd b s n y):Bd b (s+1) n (iB x y):=by
 refine Bd.cut ⟨by have:=hx.len;have:=hy.len;simp;omega,fun c hc=>?_⟩
 simp only [List.mem_map]at hc
 obtain⟨k,_,rfl⟩:=hc
 rw [Int.sub_eq_add_neg]
 exact qH hb (hx.nth k) (by rw [r9];exact hy.nth k)
theorem Bd.jP(hx:Bd b s n x):Bd b s n (jP x):=by
 refine Bd.cut ⟨by simpa using hx.len,fun c hc=>?_⟩
 simp only [List.mem_map]at hc
 obtain⟨k,hk,rfl⟩:=hc
 rw [r9];exact hx.sz k hk
theorem Bd.bJ(hb:2<=b)(hx:Bd b s n x){c:Int}(hc:Pm.sz b c<=s'):Bd b (s+s') n (bJ x c):=by
 refine Bd.cut ⟨by simpa using hx.len,fun d hd=>?_⟩
 simp only [List.mem_map]at hd
 obtain⟨k,hk,rfl⟩:=hd
 exact cW hb (hx.sz k hk) hc
theorem Bd.jJ(hb:2<=b)(hy:Bd b s' n' y):∀ {x:List Int} {n:Nat},Bd b s n x->Bd b (s+s'+n) (n+n') (jJ x y)
 | [],n,_=>⟨by simp [Pm.jJ],by simp [Pm.jJ]⟩
 | a::x,0,h=>by have:=h.len;simp at this
 | a::x,n+1,h=>by
  have h1:Bd b s n x:=⟨by have:=h.len;simpa using this,fun c hc=>h.sz c (List.mem_cons_of_mem _ hc)⟩
  have h2:=Bd.jJ hb hy h1
  have h3:Bd b (s+s'+n) (n+1+n') (0::Pm.jJ x y):=⟨by have:=h2.len;simp;omega,fun c hc=>by
   rcases List.mem_cons.1 hc with h4 | h4
   ·rw [h4,nG];omega
   ·exact h2.sz c h4⟩
  have h4:Bd b (s+s'+n) (n+1+n') (y.map fun c=>c*a):=⟨by have:=hy.len;simp;omega,fun d hd=>by
   simp only [List.mem_map]at hd
   obtain⟨k,hk,rfl⟩:=hd
   have:=cW hb (hy.sz k hk) (h.sz a aG)
   omega⟩
  have:=Bd.kC hb h4 h3
  rw [Pm.jJ]
  exact this.mono aA aA
theorem Bd.cB(hb:2<=b)(hx:Bd b s n x)(hy:Bd b s' n' y):Bd b (s+s'+n) (n+n') (cB x y):=(Bd.jJ hb hy hx).cut
end
def nb(n:Nat):Nat:=if n=0 then 0 else n.log2+1
theorem rL:nb n<=k↔n<2^k:=by
 unfold nb
 split
 ·rename_i h;subst h;simp;exact Nat.pow_pos aF
 ·rename_i h;rw [<-Nat.log2_lt h];omega
theorem TK(h:n/2^k≠0):nb n=k+nb (n/2^k):=by
 apply Nat.le_antisymm
 ·rw [rL,Nat.pow_add]
  have h1:n/2^k<2^nb (n/2^k):=rL.1 (Nat.le_refl _)
  have h2:=Nat.lt_mul_of_div_lt h1 (Nat.pow_pos aF)
  rw [Nat.mul_comm]at h2
  exact h2
 ·have h3:∀m,nb n<=m->k+nb (n/2^k)<=m:=by
   intro m hm
   rw [rL]at hm
   have hkm:k<=m:=by
    rcases Nat.lt_or_ge m k with h4 | h4
    ·exfalso;apply h;apply Nat.div_eq_of_lt;exact Nat.lt_of_lt_of_le hm (Nat.pow_le_pow_right aF aA)
    ·exact h4
   have h5:nb (n/2^k)<=m-k:=by
    rw [rL]
    apply Nat.div_lt_of_lt_mul
    rw [<-Nat.pow_add,show k+(m-k)=m by omega];exact hm
   omega
  exact h3 _ (Nat.le_refl _)
end Pm
namespace Pm
open Go
variable {a b s:Nat}
theorem ag2(h:2^s∣a)(hb:b<2^s):a ||| b=a+b:=by
 obtain⟨q,rfl⟩:=h
 exact(Nat.two_pow_add_eq_or_of_lt hb q).symm
theorem adt(h:2^s∣a)(hb:b<2^s)(gU:a+b<4294967296):u6 .u32 a b=((a+b:Nat):Int):=by
 have h1:((BitVec.ofInt 32 (a:Int)) ||| (BitVec.ofInt 32 (b:Int))).toNat=a+b:=by
  rw [BitVec.toNat_or,BitVec.toNat_ofInt,BitVec.toNat_ofInt,<-ag2 h hb]
  congr 1<;>omega
 show IntKind.u32.wrap (((BitVec.ofInt 32 (a:Int)) ||| (BitVec.ofInt 32 (b:Int))).toNat:Int)=_
 rw [h1]
 simp only [IntKind.wrap,IntKind.bits,IntKind.signed]
 simp
 omega
theorem adu(h:2^s∣a)(hb:b<2^s)(gU:a+b<18446744073709551616):u6 .u64 a b=((a+b:Nat):Int):=by
 have h1:((BitVec.ofInt 64 (a:Int)) ||| (BitVec.ofInt 64 (b:Int))).toNat=a+b:=by
  rw [BitVec.toNat_or,BitVec.toNat_ofInt,BitVec.toNat_ofInt,<-ag2 h hb]
  congr 1<;>omega
 show IntKind.u64.wrap (((BitVec.ofInt 64 (a:Int)) ||| (BitVec.ofInt 64 (b:Int))).toNat:Int)=_
 rw [h1]
 simp only [IntKind.wrap,IntKind.bits,IntKind.signed]
 simp
 omega
theorem HW(k:IntKind)(a b:Int):u6 k a b=u6 k b a:=by unfold u6;rw [BitVec.or_comm]
theorem alp{a b:Int}(s:Nat)(ha:0<=a)(hb0:0<=b)(h:(2^s:Int)∣a)(hb:b<2^s)(gU:a+b<4294967296):u6 .u32 a b=a+b∧u6 .u32 b a=a+b:=by
 obtain⟨x,rfl⟩:=Int.eq_ofNat_of_zero_le ha
 obtain⟨y,rfl⟩:=Int.eq_ofNat_of_zero_le hb0
 have h1:2^s∣x:=by exact_mod_cast h
 have h2:y<2^s:=by exact_mod_cast hb
 have:=adt h1 h2 aA
 rw [HW .u32 (y:Int)]
 refine⟨?_,?_⟩<;>rw [this]<;>simp
theorem FY{a b:Int}(s:Nat)(ha:0<=a)(hb0:0<=b)(h:(2^s:Int)∣a)(hb:b<2^s)(gU:a+b<18446744073709551616):u6 .u64 a b=a+b∧u6 .u64 b a=a+b:=by
 obtain⟨x,rfl⟩:=Int.eq_ofNat_of_zero_le ha
 obtain⟨y,rfl⟩:=Int.eq_ofNat_of_zero_le hb0
 have h1:2^s∣x:=by exact_mod_cast h
 have h2:y<2^s:=by exact_mod_cast hb
 have:=adu h1 h2 aA
 rw [HW .u64 (y:Int)]
 refine⟨?_,?_⟩<;>rw [this]<;>simp
end Pm
namespace Pm
variable {g r:Int}{d i s n:Nat}{x y b a:List Int}
structure KD(b W top next head x2 X Y:Int):Prop where
 b0:2<=b
 W0:1<=W
 t0:1<=top
 n0:0<=next
 h0:0<=head
 x0:0<=x2
 nb:next<b
 xb:x2<b
 Yl:(top*b+next)*W<=Y
 Yu:Y<(top*b+next+1)*W
 Xl:(head*b+x2)*W<=X
 Xu:X<(head*b+x2+1)*W
 lt:X<b*Y
section
variable {b W top next head x2 X Y:Int} (h:KD b W top next head x2 X Y)
include h
theorem KD.Y0:0<Y:=by
 have h1:1<=top*b+next:=by
  have:=Int.mul_le_mul_of_nonneg_right h.t0 (show 0<=b by have:=h.b0;omega)
  have:=h.n0;have:=h.b0;omega
 have:=Int.mul_le_mul h1 h.W0 aF aA
 have:=h.Yl;omega
theorem KD.first:X<(head/top+1)*Y:=by
 have h1:head+1<=(head/top+1)*top:=by
  have:=Int.lt_ediv_add_one_mul_self head (show 0<top by have:=h.t0;omega)
  omega
 have hg:0<=head/top+1:=by have:=Int.ediv_nonneg h.h0 (show 0<=top by have:=h.t0;omega);omega
 have hbW:0<=b*W:=Int.mul_nonneg (by have:=h.b0;omega) (by have:=h.W0;omega)
 have h2:=Int.mul_le_mul_of_nonneg_right h1 hbW
 have h3:(head*b+x2+1)*W<=(head+1)*(b*W):=by
  have:(head+1)*(b*W)=(head*b+b)*W:=aT
  rw [this]
  exact Int.mul_le_mul_of_nonneg_right (by have:=h.xb;omega) (by have:=h.W0;omega)
 have h4:top*(b*W)<=Y:=by
  have:top*(b*W)<=(top*b+next)*W:=by
   have e:top*(b*W)=(top*b)*W:=aT
   rw [e]
   exact Int.mul_le_mul_of_nonneg_right (by have:=h.n0;omega) (by have:=h.W0;omega)
  have:=h.Yl;omega
 have h5:(head/top+1)*top*(b*W)<=(head/top+1)*Y:=by
  rw [Int.mul_assoc];exact Int.mul_le_mul_of_nonneg_left h4 hg
 have:=h.Xu;omega
theorem KD.big(hg:b<=g):X<g*Y:=by
 have:=Int.mul_le_mul_of_nonneg_right hg (Int.le_of_lt h.Y0)
 have:=h.lt;omega
theorem KD.over(hg:0<=g)(hr:g*top+r=head)(ho:r*b+x2<g*next):X<g*Y:=by
 have h1:head*b+x2+1<=g*(top*b+next):=by
  have:g*(top*b+next)=(g*top)*b+g*next:=aT
  have h2:g*top=head-r:=aA
  have h3:(head-r)*b=head*b-r*b:=aT
  rw [this,h2,h3];omega
 have h2:=Int.mul_le_mul_of_nonneg_right h1 (show 0<=W by have:=h.W0;omega)
 have h3:=Int.mul_le_mul_of_nonneg_left h.Yl hg
 rw [<-Int.mul_assoc]at h3
 have:=h.Xu;omega
theorem KD.tK(hg:0<=g)(RQ:g<b)(hr:g*top+r=head)(hn:g*next<=r*b+x2):g*Y<X+Y:=by
 have h1:g*(top*b+next)<=head*b+x2:=by
  have:g*(top*b+next)=(g*top)*b+g*next:=aT
  have h2:g*top=head-r:=aA
  have h3:(head-r)*b=head*b-r*b:=aT
  rw [this,h2,h3];omega
 have h2:=Int.mul_le_mul_of_nonneg_right h1 (show 0<=W by have:=h.W0;omega)
 have h3:g*Y<=g*((top*b+next)*W)+g*W:=by
  have h4:Y<=(top*b+next)*W+W:=by have:=h.Yu;grind
  have:=Int.mul_le_mul_of_nonneg_left h4 hg
  rw [Int.mul_add]at this;exact this
 have h5:g*W<b*W:=Int.mul_lt_mul_of_pos_right RQ (by have:=h.W0;omega)
 have h6:b*W<=Y:=by
  have h7:b*W<=(top*b+next)*W:=Int.mul_le_mul_of_nonneg_right (by
   have:=Int.mul_le_mul_of_nonneg_right h.t0 (show 0<=b by have:=h.b0;omega)
   have:=h.n0;omega) (by have:=h.W0;omega)
  have:=h.Yl;omega
 rw [<-Int.mul_assoc]at h3
 have:=h.Xl;omega
theorem KD.axF(hg:0<=g)(RQ:g<b)(hr:b<=r):g*next<=r*b+x2:=by
 have h1:g*next<=b*b:=Int.mul_le_mul aA (by have:=h.nb;omega) h.n0 (by have:=h.b0;omega)
 have h2:b*b<=r*b:=Int.mul_le_mul_of_nonneg_right hr (by have:=h.b0;omega)
 have:=h.x0;omega
theorem KD.ag3(hh:head<=top*b+b-1)(he:g*top+r=head)(hr:b<=r):g<b:=by
 rcases Int.lt_or_le g b with h1 | h1
 ·exact h1
 ·have:=Int.mul_le_mul_of_nonneg_right h1 (show 0<=top by have:=h.t0;omega)
  rw [Int.mul_comm b]at this
  omega
theorem KD.right(h1:X<(g+1)*Y)(h2:0<=X-g*Y):g=X/Y∧X-g*Y=X%Y:=by
 have hY:=h.Y0
 have h3:X/Y=g:=by
  have e:(g+1)*Y=g*Y+Y:=aT
  rw [Int.ediv_eq_iff_of_pos hY]
  constructor
  ·omega
  ·omega
 refine⟨h3.symm,?_⟩
 have:=Int.emod_def X Y
 rw [h3,Int.mul_comm]at this
 omega
theorem KD.axG(h1:g*Y<X+Y)(h2:X-g*Y<0):g-1=X/Y∧X-g*Y+Y=X%Y:=by
 have hY:=h.Y0
 have e:(g-1)*Y=g*Y-Y:=aT
 have e2:(g-1+1)*Y=g*Y:=aT
 have:=h.right (g:=g-1) (by rw [e2];omega) (by rw [e];omega)
 rw [e]at this
 exact⟨this.1,by have:=this.2;omega⟩
end
theorem ag4{d e x x':Int}(hd:0<d)(he:0<e)(hde:d*e=4294967296)(hx:0<=x∧x<4294967296)(LK:0<=x'∧x'<4294967296) :
  d*(((x+4294967296*x')/d)%4294967296)=x-x%d+4294967296*(x'%d)∧(0<=((x+4294967296*x')/d)%4294967296∧((x+4294967296*x')/d)%4294967296<4294967296):=by
 have h1:(x+4294967296*x')/d=x/d+e*x':=by
  have:x+4294967296*x'=x+d*(e*x'):=by rw [<-hde];grind
  rw [this,Int.add_mul_ediv_left _ _ aA]
 have h2:x/d<e:=Int.ediv_lt_of_lt_mul hd (by rw [Int.mul_comm,hde];exact hx.2)
 have h3:0<=x/d:=Int.ediv_nonneg hx.1 aA
 have h4:e*x'=e*(x'%d)+4294967296*(x'/d):=by
  have:=Int.mul_ediv_add_emod x' d
  calc e*x'=e*(d*(x'/d)+x'%d):=by rw [this]
   _=e*(x'%d)+(d*e)*(x'/d):=by grind
   _=e*(x'%d)+4294967296*(x'/d):=by rw [hde]
 have h5:0<=x'%d:=Int.emod_nonneg _ aA
 have h6:x'%d<d:=Int.emod_lt_of_pos _ hd
 have h7:e*(x'%d)+e<=4294967296:=by
  have:=Int.mul_le_mul_of_nonneg_left (show x'%d+1<=d by omega) (show 0<=e by omega)
  rw [Int.mul_add,Int.mul_comm e d,hde]at this;omega
 have h8:0<=e*(x'%d):=Int.mul_nonneg aA h5
 have h9:((x+4294967296*x')/d)%4294967296=x/d+e*(x'%d):=by
  rw [h1,h4,<-Int.add_assoc,Int.add_mul_emod_self_left,Int.emod_eq_of_lt aA aA]
 rw [h9]
 refine⟨?_,aA,aA⟩
 have h10:=Int.mul_ediv_add_emod x d
 have h11:d*(e*(x'%d))=4294967296*(x'%d):=by rw [<-Int.mul_assoc,hde]
 rw [Int.mul_add,h11];omega
theorem axH{m:Nat}{D:List Int}(hD:m+3<=D.length)(hy:y.length=m+2)(lD:dH 4294967296 D)(ly:dH 4294967296 y)(ht:1<=nth y (m+1))(c8:V 4294967296 (D.take (m+3))<4294967296*V 4294967296 y) :
  KD 4294967296 (4294967296^m) (nth y (m+1)) (nth y m) (nth D (m+2)*4294967296+nth D (m+1)) (nth D m) (V 4294967296 (D.take (m+3))) (V 4294967296 y)∧nth D (m+2)<=nth y (m+1):=by
 have hp:(0:Int)<4294967296^m:=Int.pow_pos aF
 have y0:=bV aF (ly.take m)
 have y1:=sU aF (ly.take m)
 rw [List.length_take,Nat.min_eq_left aA]at y1
 have x0:=bV aF (lD.take m)
 have x1:=sU aF (lD.take m)
 rw [List.length_take,Nat.min_eq_left aA]at x1
 have hY:V 4294967296 y=V 4294967296 (y.take m)+4294967296^m*(nth y m+4294967296*nth y (m+1)):=by
  rw [<-bM (l:=y) (i:=m+1+1) aA,bG aA,bG aA,Int.pow_succ];grind
 have hX:V 4294967296 (D.take (m+3))=V 4294967296 (D.take m)+4294967296^m*(nth D m+4294967296*(nth D (m+1)+4294967296*nth D (m+2))):=by
  rw [show m+3=m+1+1+1 from rfl,bG aA,bG aA,bG aA,Int.pow_succ,Int.pow_succ];grind
 have l1:=ly.nth (i:=m) aA
 have l2:=ly.nth (i:=m+1) aA
 have k0:=lD.nth (i:=m) aA
 have k1:=lD.nth (i:=m+1) aA
 have k2:=lD.nth (i:=m+2) aA
 generalize nth y m=ya at *
 generalize nth y (m+1)=yb at *
 generalize nth D m=xa at *
 generalize nth D (m+1)=xb at *
 generalize nth D (m+2)=xc at *
 generalize V 4294967296 (y.take m)=yr at *
 generalize V 4294967296 (D.take m)=xr at *
 generalize V 4294967296 (D.take (m+3))=X at *
 generalize V 4294967296 y=Y at *
 generalize (4294967296:Int)^m=W at *
 have e1:(yb*4294967296+ya)*W=W*(ya+4294967296*yb):=aT
 have e2:(yb*4294967296+ya+1)*W=W*(ya+4294967296*yb)+W:=aT
 have e3:((xc*4294967296+xb)*4294967296+xa)*W=W*(xa+4294967296*(xb+4294967296*xc)):=aT
 have e4:((xc*4294967296+xb)*4294967296+xa+1)*W=W*(xa+4294967296*(xb+4294967296*xc))+W:=aT
 refine⟨⟨aF,aA,ht,l1.1,aA,k0.1,l1.2,k0.2,aA,aA,aA,aA,c8⟩,?_⟩
 rcases Int.lt_or_le yb xc with h | h
 ·exfalso
  have h1:W*(4294967296*(4294967296*(yb+1)))<=W*(xa+4294967296*(xb+4294967296*xc)):=Int.mul_le_mul_of_nonneg_left aA aA
  have h2:Y<W*(4294967296*(yb+1)):=by
   have:=Int.mul_le_mul_of_nonneg_left (show ya+4294967296*yb+1<=4294967296*(yb+1)by omega) (show 0<=W by omega)
   rw [Int.mul_add]at this
   omega
  have h3:W*(4294967296*(4294967296*(yb+1)))=4294967296*(W*(4294967296*(yb+1))):=aT
  omega
 ·exact h
theorem ag5{w c x β:Int}(hg:0<=g∧g<4294967296)(hw:0<=w∧w<4294967296)(hc:0<=c∧c<4294967296)(hx:0<=x∧x<4294967296)(hβ:β=0∨β=1) :
  (0<=g*w+c∧g*w+c<18446744069414584321)∧(0<=(g*w+c)/4294967296∧(g*w+c)/4294967296<4294967296) ∧
  ∃β',(β'=0∨β'=1)∧((x-(g*w+c)%4294967296-β)%18446744073709551616)/9223372036854775808=β' ∧
   ((x-(g*w+c)%4294967296-β)%18446744073709551616)%4294967296=x-(g*w+c)%4294967296-β+β'*4294967296:=by
 have h1:0<=g*w:=Int.mul_nonneg hg.1 hw.1
 have h2:g*w<=4294967295*4294967295:=Int.mul_le_mul aA aA hw.1 aA
 generalize g*w=p at *
 refine⟨aA,aA,?_⟩
 rcases Int.lt_or_le (x-(p+c)%4294967296-β) 0 with h | h
 ·exact⟨1, .inr rfl,aA,aA⟩
 ·exact⟨0, .inl rfl,aA,aA⟩
theorem BA(x y:List Int):(iB x y).length<=max x.length y.length:=Nat.le_trans (cL _) aG
theorem tL(x:List Int)(c:Int):(bJ x c).length<=x.length:=Nat.le_trans (cL _) aG
def lead(x:List Int):Int:=nth x (x.length-1)
theorem zE(h:0<x.length):x=x.take (x.length-1) ++ [lead x]:=by
 have:=bQ (l:=x) (i:=x.length-1) aA
 rw [show x.length-1+1=x.length by omega,List.take_length]at this
 exact this
theorem dO(hc:Cn x)(h:0<x.length):lead x≠0:=by
 intro h0
 have e:=zE h
 rw [h0]at e
 have h1:=mH (x.take (x.length-1))
 rw [<-e,show aZ x=x from hc]at h1
 have h2:=cL (x.take (x.length-1))
 rw [<-h1,List.length_take]at h2
 omega
theorem O2(h:0<x.length)(t:Int):V t x=V t (x.take (x.length-1))+t^(x.length-1)*lead x:=by
 conv=>lhs;rw [zE h]
 rw [eZ,rJ,List.length_take,Nat.min_eq_left aA]
def uX(i:Nat)(x:Int):List Int:=List.replicate i 0 ++ [x]
theorem rM(t:Int)(i:Nat)(x:Int):V t (uX i x)=t^i*x:=by rw [uX,eZ,uN,rJ];simp
def BB(b r:List Int)(i:Nat):Int:=if r.length=b.length+i then lead r else 0
def psq(c x:Int)(i:Nat)(q:List Int):List Int:=kC (bJ q c) (uX i x)
def CR(b:List Int)(c x:Int)(i:Nat)(r:List Int):List Int:=iB (bJ r c) (cB (uX i x) b)
def ps(b:List Int)(c:Int):Nat->List Int->List Int->List Int × List Int
 | 0,q,r=>(q,r)
 | i+1,q,r=>ps b c i (psq c (BB b r i) i q) (CR b c (BB b r i) i r)
theorem axJ(t:Int)(b:List Int)(c:Int):∀(k:Nat) (q r:List Int),V t (ps b c k q r).1*V t b+V t (ps b c k q r).2=c^k*(V t q*V t b+V t r)
 | 0,q,r=>by simp [ps]
 | i+1,q,r=>by
  rw [ps,axJ t b c i]
  simp only [psq,CR,vS,k8,dA,eF,rM,Int.pow_succ]
  grind
theorem FZ{r:List Int}(hb:0<b.length)(hr:r.length<=b.length+i):(CR b (lead b) (BB b r i) i r).length<=b.length-1+i:=by
 rcases Nat.lt_or_ge r.length (b.length+i)with h | h
 ·have hx:BB b r i=0:=by rw [BB,if_neg aA]
  have e:CR b (lead b) (BB b r i) i r=bJ r (lead b):=Cn.ext (Cn.iB _ _) (Cn.bJ _ _) fun t=>by
   rw [hx,CR,k8,eF,rM];simp
  rw [e]
  have:=tL r (lead b);omega
 ·have hrl:r.length=b.length+i:=by omega
  have hx:BB b r i=lead r:=by rw [BB,if_pos hrl]
  have e:CR b (lead b) (BB b r i) i r=iB (bJ (r.take (r.length-1)) (lead b)) (List.replicate i 0++(b.take (b.length-1)).map fun v=>v*lead r):=Cn.ext (Cn.iB _ _) (Cn.iB _ _) fun t=>by
   have h1:=O2 (x:=r) aA t
   have h2:=O2 (x:=b) hb t
   have h3:=jR (t:=t) (lead r) id (b.take (b.length-1))
   simp only [id_eq,List.map_id_fun]at h3
   rw [hx,CR,k8,k8,eF,rM,dA,dA,eZ,uN,h3,List.length_replicate,h1,h2,show r.length-1=i+(b.length-1)by omega,Int.pow_add]
   grind
  rw [e]
  refine Nat.le_trans (BA _ _) ?_
  have h4:=tL (r.take (r.length-1)) (lead b)
  rw [List.length_take]at h4
  simp only [List.length_append,List.length_replicate,List.length_map,List.length_take]
  omega
theorem ag6{b:List Int}(hb:0<b.length):∀(k:Nat) (q r:List Int),r.length<=b.length-1+k->(ps b (lead b) k q r).2.length<=b.length-1
 | 0,q,r,h=>by simpa [ps]using h
 | i+1,q,r,h=>by
  rw [ps]
  exact ag6 hb i _ _ (FZ hb aA)
theorem aou{b:List Int}{c:Int}:∀(k:Nat) (q r:List Int),Cn q->Cn r->Cn (ps b c k q r).1∧Cn (ps b c k q r).2
 | 0,q,r,h1,h2=>⟨h1,h2⟩
 | i+1,q,r,_,_=>by rw [ps];exact aou i _ _ (Cn.kC _ _) (Cn.iB _ _)
theorem iX{b:Nat}(h:Bd b s n x):sz b (lead x)<=s:=h.nth _
theorem Bd.uX{b s:Nat}{x:Int}(h:Pm.sz b x<=s)(i:Nat):Bd b s (i+1) (Pm.uX i x):=⟨by simp [Pm.uX],fun c hc=>by
 simp only [Pm.uX,List.mem_append,List.mem_replicate,List.mem_singleton]at hc
 rcases hc with ⟨_,rfl⟩ | rfl
 ·rw [nG];omega
 ·exact h⟩
theorem ag7{b:Nat}{r:List Int}(h:Bd b s n r):sz b (BB y r i)<=s:=by
 rw [BB];split
 ·exact iX h
 ·rw [nG];omega
theorem HX{B s' N:Nat}{q r:List Int}(hB:2<=B)(hb:Bd B s' N b)(hq:Bd B s (N+N) q)(hr:Bd B s (N+N) r)(hi:i<N) :
  Bd B (s+s'+N+1) (N+N) (psq (lead b) (BB b r i) i q)∧Bd B (s+s'+N+1) (N+N) (CR b (lead b) (BB b r i) i r):=by
 have hc:=iX hb
 have hx:=ag7 (y:=b) (i:=i) hr
 have hs:=Bd.uX hx i
 constructor
 ·exact(Bd.kC hB ((hq.bJ hB hc).mono (s':=s+s') (n':=N+N) aA aA) (hs.mono aA aA)).mono aA aA
 ·exact(Bd.iB hB ((hr.bJ hB hc).mono (s':=s+s'+N) (n':=N+N) aA aA) ((hs.cB hB hb).mono aA aA)).mono aA aA
theorem ag8{B s' N:Nat}{b:List Int}(hB:2<=B)(hb:Bd B s' N b):∀(k s:Nat) (q r:List Int),k<=N->Bd B s (N+N) q->Bd B s (N+N) r->Bd B (s+k*(s'+N+1)) (N+N) (ps b (lead b) k q r).1∧Bd B (s+k*(s'+N+1)) (N+N) (ps b (lead b) k q r).2
 | 0,s,q,r,_,hq,hr=>⟨hq.mono aA aA,hr.mono aA aA⟩
 | i+1,s,q,r,hk,hq,hr=>by
  obtain⟨h1,h2⟩:=HX hB hb hq hr (show i<N by omega)
  obtain⟨h3,h4⟩:=ag8 hB hb i (s+s'+N+1) _ _ aA h1 h2
  rw [ps,Nat.add_mul,Nat.one_mul]
  exact⟨h3.mono aA aA,h4.mono aA aA⟩
def mA(a b:List Int):Nat:=a.length+1-b.length
def EL(a b:List Int):List Int × List Int:=ps b (lead b) (mA a b) [] a
theorem ag9(t:Int)(a b:List Int):V t (EL a b).1*V t b+V t (EL a b).2=lead b^mA a b*V t a:=by
 rw [EL,axJ];simp [V]
theorem O3(hb:0<b.length):(EL a b).2.length<=b.length-1:=ag6 hb _ _ _ (by unfold mA;omega)
theorem HY(ha:Cn a):Cn (EL a b).1∧Cn (EL a b).2:=aou _ _ _ Cn.nil ha
theorem HZ(x y:List Int):(kC x y).length<=max x.length y.length:=Nat.le_trans (cL _) aG
theorem MA:∀(x y:List Int),0<y.length->(jJ x y).length<=x.length+y.length-1
 | [],y,_=>by simp [jJ]
 | a::x,y,h=>by
  have ih:=MA x y h
  have h1:=HZ (y.map fun c=>c*a) (0::jJ x y)
  simp only [List.length_map,List.length_cons]at h1
  rw [jJ]
  simp only [List.length_cons]
  omega
theorem vT(h:0<y.length):(cB x y).length<=x.length+y.length-1:=Nat.le_trans (cL _) (MA x y h)
theorem TL(x:List Int):cB x [] = []:=Cn.ext (Cn.cB _ _) Cn.nil fun t=>by rw [eF];simp [V]
theorem TM(cx:Cn x)(cy:Cn y)(hx:0<x.length)(hy:0<y.length):∃w:List Int,w.length=x.length+y.length-2∧cB x y=w ++ [lead x*lead y]:=by
 have lx:=dO cx hx
 have ly:=dO cy hy
 obtain⟨u,hu⟩:∃u,u=kC (cB (y.take (y.length-1)) x) (cB (uX (y.length-1) (lead y)) (x.take (x.length-1))):=⟨_,rfl⟩
 have hul:u.length<=x.length+y.length-2:=by
  have h1:=vT (x:=y.take (y.length-1)) (y:=x) hx
  rw [List.length_take]at h1
  have h2:(cB (uX (y.length-1) (lead y)) (x.take (x.length-1))).length<=x.length+y.length-2:=by
   rcases Nat.eq_zero_or_pos (x.take (x.length-1)).length with h | h
   ·have:x.take (x.length-1) = []:=List.eq_nil_of_length_eq_zero h
    rw [this,TL];simp
   ·have:=vT (x:=uX (y.length-1) (lead y)) h
    simp only [uX,List.length_append,List.length_replicate,List.length_singleton,List.length_take]at this |-
    omega
  have h3:=HZ (cB (y.take (y.length-1)) x) (cB (uX (y.length-1) (lead y)) (x.take (x.length-1)))
  rw [<-hu]at h3
  omega
 refine⟨(List.range (x.length+y.length-2)).map (nth u),aG,?_⟩
 have o7:lead x*lead y≠0:=Int.mul_ne_zero lx ly
 refine Cn.ext (Cn.cB _ _) (kS o7 _) fun t=>?_
 rw [eZ,mK hul,rJ,hu,vS,eF,eF,eF,rM,O2 hx,O2 hy]
 simp only [List.length_map,List.length_range]
 rw [show x.length+y.length-2=(x.length-1)+(y.length-1)by omega,Int.pow_add]
 grind
theorem mL(cx:Cn x)(cy:Cn y)(hx:0<x.length)(hy:0<y.length):(cB x y).length=x.length+y.length-1:=by
 obtain⟨w,h1,h2⟩:=TM cx cy hx hy
 rw [h2,List.length_append,h1,List.length_singleton];omega
theorem DA(cx:Cn x)(cy:Cn y)(hx:0<x.length)(hy:0<y.length):lead (cB x y)=lead x*lead y:=by
 obtain⟨w,h1,h2⟩:=TM cx cy hx hy
 rw [h2,lead,List.length_append,List.length_singleton,Nat.add_sub_cancel,bZ aG]
 simp
theorem MB{u h:List Int}(cu:Cn u)(cy:Cn y)(hy:0<y.length)(e:∀t,V t u=V t y*V t h)(hl:u.length<y.length):u = []:=by
 have e2:u=cB y (aZ h):=Cn.ext cu (Cn.cB _ _) fun t=>by rw [eF,dU,e t]
 rcases Nat.eq_zero_or_pos (aZ h).length with h0 | h0
 ·have:aZ h = []:=List.eq_nil_of_length_eq_zero h0
  rw [e2,this,TL]
 ·have:=mL cy (Cn.cut h) hy h0
  rw [<-e2]at this;omega
theorem sW(i:Nat):nth ([]:List Int) i=0:=kA aG
theorem xE(a:Int)(l:List Int):nth (a::l) 0=a:=rfl
theorem mM(a:Int)(l:List Int)(i:Nat):nth (a::l) (i+1)=nth l i:=by simp [nth]
theorem lL:∀(x:List Int) (i:Nat),nth (aZ x) i=nth x i
 | [],i=>rfl
 | a::l,i=>by
  rw [aZ]
  split
  ·rename_i h
   cases i with
   | zero=>rw [sW,xE,h.2]
   | succ i=>rw [mM,<-lL l i,h.1,sW,sW]
  ·cases i with
   | zero=>rfl
   | succ i=>rw [mM,mM,lL l i]
theorem BC(x y:List Int)(i:Nat):nth (kC x y) i=nth x i+nth y i:=by
 rw [kC,lL]
 rcases Nat.lt_or_ge i (max x.length y.length)with h | h
 ·rw [bZ (by simpa using h)];simp
 ·rw [kA (by simpa using h),kA (l:=x) aA,kA (l:=y) aA];rfl
theorem mB(c:Int)(x:List Int)(i:Nat):nth (x.map (· * c)) i=nth x i*c:=FX (f:=fun v=>v*c) (Int.zero_mul c) x i
theorem YE(c:Int)(x:List Int)(i:Nat):nth (bJ x c) i=nth x i*c:=by rw [bJ,lL];exact mB c x i
theorem vU(k:Int)(x y:List Int):nth (cB (k::x) y) 0=nth y 0*k:=by
 rw [cB,lL,jJ,BC,xE,mB,Int.add_zero]
theorem qJ(k:Int)(x y:List Int)(i:Nat):nth (cB (k::x) y) (i+1)=nth y (i+1)*k+nth (cB x y) i:=by
 rw [cB,lL,jJ,BC,mM,mB,cB,lL]
theorem DB(x y:List Int):cB x y=cB y x:=Cn.ext (Cn.cB _ _) (Cn.cB _ _) fun t=>by rw [eF,eF,Int.mul_comm]
def Dv(d:Nat)(x:List Int):Prop:=∀i,(d:Int)∣nth x i
theorem Dv.mem(h:Dv d x):∀c∈x,(d:Int)∣c:=fun c hc=>by
 obtain⟨i,hi,rfl⟩:=List.getElem_of_mem hc
 rw [<-bZ hi];exact h i
theorem Dv.of(h:∀c∈x,(d:Int)∣c):Dv d x:=fun i=>by
 rcases Nat.lt_or_ge i x.length with h1 | h1
 ·exact h _ (bO h1)
 ·rw [kA h1];exact Int.dvd_zero _
theorem Dv.cons{k:Int}(h1:(d:Int)∣k)(h2:Dv d x):Dv d (k::x):=fun i=>by
 cases i with
 | zero=>exact h1
 | succ i=>rw [mM];exact h2 i
theorem Dv.nil(d:Nat):Dv d []:=fun i=>by rw [sW];exact Int.dvd_zero _
theorem Dv.trans{e:Nat}(h:e∣d)(h2:Dv d x):Dv e x:=fun i=>Int.dvd_trans (Int.ofNat_dvd.2 h) (h2 i)
theorem abh:∀(n d:Nat) (x y:List Int),d+x.length+y.length<=n->0<d->Dv d (cB x y)->(∀e:Nat,e∣d->Dv e y->e=1)->Dv d x
 | n,d,[],y,_,_,_,_=>Dv.nil d
 | n,d,k::x,[],_,_,_,h=>by
  have:=h d (Nat.dvd_refl d) (Dv.nil d)
  subst this
  exact fun i=>Int.one_dvd _
 | 0,d,k::x,l::y,hn,_,_,_=>by simp at hn
 | n+1,d,k::x,l::y,hn,hd,hp,h=>by
  simp only [List.length_cons]at hn
  have h0:=hp 0
  rw [vU,xE]at h0
  obtain⟨g,hg⟩:∃g,g=Nat.gcd d l.natAbs:=⟨_,rfl⟩
  have gd:g∣d:=by rw [hg];exact Nat.gcd_dvd_left _ _
  have gl:(g:Int)∣l:=by rw [hg];exact Int.ofNat_dvd_left.2 (Nat.gcd_dvd_right _ _)
  have g0:0<g:=Nat.pos_of_dvd_of_pos gd hd
  have gle:g<=d:=Nat.le_of_dvd hd gd
  by_cases g1:g=1
  ·have hk:(d:Int)∣k:=by
    have h1:d∣(l*k).natAbs:=Int.ofNat_dvd_left.1 h0
    rw [Int.natAbs_mul]at h1
    exact Int.ofNat_dvd_left.2 (Nat.Coprime.dvd_of_dvd_mul_left (show Nat.gcd d l.natAbs=1 by omega) h1)
   refine Dv.cons hk (abh n d x (l::y) (by simp only [List.length_cons];omega) hd (fun i=>?_) h)
   have h1:=hp (i+1)
   rw [qJ]at h1
   exact(Int.dvd_add_right (Int.dvd_trans hk (Int.dvd_mul_left _ _))).1 h1
  ·have hgx:Dv g (k::x):=by
    refine abh n g (k::x) y (by simp only [List.length_cons];omega) g0 (fun i=>?_) (fun e he hy=>h e (Nat.dvd_trans he gd) (Dv.cons (Int.dvd_trans (Int.ofNat_dvd.2 he) gl) hy))
    have h1:=Dv.trans gd hp (i+1)
    rw [DB,qJ,DB y]at h1
    exact(Int.dvd_add_right (Int.dvd_trans gl (Int.dvd_mul_left _ _))).1 h1
   obtain⟨d',rfl⟩:=gd
   have hd':0<d':=Nat.pos_of_mul_pos_left hd
   have c8:d'<g*d':=by
    have:2*d'<=g*d':=Nat.mul_le_mul_right _ aA
    omega
   obtain⟨x',LK⟩:∃x':List Int,x'=(k::x).map (· / (g:Int)):=⟨_,rfl⟩
   have hxe:x'.map (· * (g:Int))=k::x:=by
    rw [LK,List.map_map]
    refine(List.map_congr_left fun v hv=>?_).trans (List.map_id _)
    exact Int.ediv_mul_cancel (hgx.mem v hv)
   have hxl:x'.length=x.length+1:=by rw [LK];simp
   have hpe:cB (k::x) (l::y)=bJ (cB x' (l::y)) g:=Cn.ext (Cn.cB _ _) (Cn.bJ _ _) fun t=>by
    have:=jR (t:=t) (g:Int) id x'
    simp only [id_eq,List.map_id_fun]at this
    rw [dA,eF,eF,<-hxe,this];grind
   have ih:=abh n d' x' (l::y) (by simp only [List.length_cons];omega) hd' (fun i=>by
    have h1:=hp i
    rw [hpe,YE,Int.natCast_mul,Int.mul_comm]at h1
    exact Int.dvd_of_mul_dvd_mul_right aA h1) (fun e he=>h e (Nat.dvd_trans he (Nat.dvd_mul_left _ _)))
   rw [<-hxe]
   intro i
   rw [mB,Int.natCast_mul,Int.mul_comm]
   exact Int.mul_dvd_mul (ih i) (Int.dvd_refl _)
termination_by n _ x y=>n
end Pm
namespace Pm
open Go Go.RowKit Go.ChangeShapes Go.WideShapes Go.Deep
variable {P:Program}{t:TypeId}{R:List PV->Prop}
def Low(w:World):eU:=fun b _=>b<w.heap.size
theorem TN{w:World}{a:Addr}{v:Value}(h:w.cell? a=some v):a.block<w.heap.size∧a.spot=none:=by
 unfold World.cell? at h
 split at h
 ·rename_i hb
  refine⟨?_,?_⟩
  ·exact(Array.getElem?_eq_some_iff.1 hb).1
  ·split at h
   ·cases h
   ·rename_i hs;simpa using hs
 ·cases h
def MC(P:Program)(t:TypeId)(R:List PV->Prop):Prop:=
 ∀(H:Type) (enc:TypeId × Value->H) (w:World) (fuel:Nat) (cs:List Value) (x:DataW H × List MemPlace),
  DataW.trod enc P w 0 (fun _=>true) true fuel t cs=some x -> ∃ps,R ps∧b6 (Low w) w ps cs ∧ ∀v∈cs,v.oneCell'=true
theorem b6.length{S:eU}{w:World}:∀ {ps:List PV} {vs:List Value},b6 S w ps vs->ps.length=vs.length
 | [],vs,h=>by simp only [b6]at h;simp [h]
 | p::ps,vs,h=>by
  simp only [b6]at h
  obtain⟨v,yV,rfl,_,h2⟩:=h
  simp [b6.length h2]
theorem MC.int{P:Program}{t:TypeId}(k:IntKind)(ht:P.underlying t=some (.int k)):MC P t (fun ps=>∃n,ps = [.int k n]∧k.min<=n∧n<=k.max):=by
 intro H enc w fuel cs x h
 obtain⟨n,rfl,_,hw⟩:=DataW.trod_int ht h
 simp only [Lit.wf,Bool.and_eq_true,decide_eq_true_eq]at hw
 exact⟨[.int k n],⟨n,rfl,hw⟩,⟨_,_,rfl,by simp [dY],rfl⟩,by simp [Value.oneCell']⟩
theorem MC.bool{P:Program}{t:TypeId}(ht:P.underlying t=some .bool):MC P t (fun ps=>∃b,ps = [.bool b]):=by
 intro H enc w fuel cs x h
 obtain⟨n,rfl,_⟩:=DataW.trod_bool ht h
 exact⟨[.bool n],⟨n,rfl⟩,⟨_,_,rfl,by simp [dY],rfl⟩,by simp [Value.oneCell']⟩
theorem BD{w:World}{b:Nat}:∀ {ps:List PV} {vs:List Value} {o:Nat},b6 (Low w) w ps vs->(∀v∈vs,v.oneCell'=true)->(∀i,i<vs.length->w.cell? ⟨b,o+i,none⟩=vs[i]?)->eB (Low w) w b o ps
 | [],_,_,_,_,_=>by simp [eB]
 | p::ps,vs,o,h,h1,h2=>by
  simp only [b6]at h
  obtain⟨v,yV,rfl,h3,h4⟩:=h
  have hc:w.cell? ⟨b,o,none⟩=some v:=by simpa using h2 0 aG
  simp only [eB]
  refine⟨⟨v,hc,(TN hc).1,h1 v aG,h3⟩,BD h4 (fun u hu=>h1 u (by simp [hu])) fun i hi=>?_⟩
  have:=h2 (i+1) (by simpa using hi)
  simpa [Nat.add_assoc,Nat.add_comm 1]using this
theorem H0{w:World}{b c:Nat}{f:Nat->List PV}:∀(n o k:Nat),(∀i,k<=i->i<k+n->eB (Low w) w b (o+(i-k)*c) (f i)∧(f i).length=c)->iJ (Low w) w b o ((List.range' k n).map f)
 | 0,o,k,_=>by simp [iJ]
 | n+1,o,k,h=>by
  obtain⟨h1,h2⟩:=h k (Nat.le_refl _) aA
  simp only [List.range'_succ,List.map_cons,iJ]
  refine⟨by simpa using h1,H0 (c:=c) n _ _ fun i hi J0=>?_⟩
  obtain⟨h3,h4⟩:=h i aA aA
  refine⟨?_,h4⟩
  rw [h2]
  have e:o+c+(i-(k+1))*c=o+(i-k)*c:=by
   have:i-k=(i-(k+1))+1:=aA
   rw [this,Nat.add_mul];omega
  rw [e];exact h3
theorem MC.slice{e:TypeId}(ht:P.underlying t=some (.slice e))(zF:0<P.cellsOf e)(he:MC P e R):MC P t (fun ps=>∃l:List (List PV),ps = [.sl l]∧(∀x∈l,R x)∧l.length<=maxLen):=by
 intro H enc w fuel cs x h
 rcases open_slice ht h with ⟨rfl,_⟩ | ⟨a,len,cap,m,n,D,Pl,rfl,_,hl,hm,hmm,_,hx⟩
 ·refine⟨[.sl []],⟨[],rfl,aG,aG⟩,⟨_,_,rfl,?_,rfl⟩,by simp [Value.oneCell']⟩
  simp only [dY]
  exact⟨none,0,rfl,aG,aG, .inl trivial⟩
 ·have hlm:len<=m:=by rw [hmm];split<;>omega
  have each:∀i,i<len -> ∃ps:List PV,R ps∧ps.length=P.cellsOf e ∧ ∃cs',w.cells? 0 (a.add (i*P.cellsOf e)) (P.cellsOf e)=some cs'∧b6 (Low w) w ps cs' ∧ ∀v∈cs',v.oneCell'=true:=by
   intro i hi
   obtain⟨cs',h1,h2⟩:=hx i aA
   obtain⟨ps,h3,h4,h5⟩:=he H enc w _ _ _ h2
   refine⟨ps,h3,?_,cs',h1,h4,h5⟩
   rw [h4.length];exact(World.cells?_some h1).2.1
  obtain⟨f,hf⟩:=choose_lt each
  refine⟨[.sl ((List.range' 0 len).map f)],⟨_,rfl,?_,by simp;omega⟩,⟨_,_,rfl,?_,rfl⟩,by simp [Value.oneCell']⟩
  ·intro y hy
   simp only [List.mem_map,List.mem_range'_1]at hy
   obtain⟨i,hi,rfl⟩:=hy
   exact(hf i aA).1
  ·simp only [dY]
   refine⟨some a,cap,aG,by simpa using hl,hm,?_⟩
   by_cases h0:len=0
   ·left;simp [h0]
   right
   have hsp:a.spot=none:=by
    obtain⟨_,_,cs',h3,_,_⟩:=hf 0 aA
    obtain⟨_,h4,h5⟩:=World.cells?_some h3
    have h6:=h5 0 aA
    rw [List.getElem?_eq_getElem aA]at h6
    have h7:=(TN h6).2
    simpa [Addr.add]using h7
   obtain⟨b,o,sp⟩:=a
   simp only at hsp
   subst hsp
   refine⟨b,o,rfl,H0 (c:=P.cellsOf e) len o 0 fun i _ hi=>?_⟩
   obtain⟨_,h2,cs',h3,h4,h5⟩:=hf i aA
   obtain⟨_,h6,h7⟩:=World.cells?_some h3
   refine⟨BD h4 h5 fun j hj=>?_,h2⟩
   rw [<-h7 j aA,add_plain,add_plain]
   simp
theorem MC.mono{R':List PV->Prop}(h:MC P t R)(hR:∀ps,R ps->R' ps):MC P t R':=fun H enc w fuel cs x hx=>by
 obtain⟨ps,h1,h2⟩:=h H enc w fuel cs x hx
 exact⟨ps,hR _ h1,h2⟩
def vV(P:Program)(t:TypeId)(Q:PV->Prop):Prop:=
 ∀(H:Type) (enc:TypeId × Value->H) (w:World) (base:Nat) (v:Value) (d:DataW H) (p:List MemPlace),
  Value.okWide P w .any base t v->DataW.Trod enc P w 0 (fun _=>true) true t v d p -> ∃q,Q q∧dY (Low w) w q v
theorem MC.one(h:MC P t R)(hs:∀w base v,Value.okWide P w .any base t v->v.cells = #[v]):vV P t (fun q=>R [q]):=by
 intro H enc w base v d p iD ⟨fuel,hf⟩
 obtain⟨ps,h1,h2,_⟩:=h _ _ _ _ _ _ hf
 rw [hs _ _ _ iD]at h2
 have hl:=h2.length
 match ps,hl with
 | [q],_ =>
  simp only [b6]at h2
  obtain⟨v',yV,h3,h4,_⟩:=h2
  cases h3
  exact⟨q,h1,h4⟩
theorem vV.int{P:Program}{t:TypeId}(k:IntKind)(ht:P.underlying t=some (.int k)):vV P t (fun q=>∃n,q = .int k n∧k.min<=n∧n<=k.max):=by
 have:=(MC.int k ht).one fun w base v h=>by obtain⟨n,rfl⟩:=okWide_int ht h;rfl
 intro H enc w base v d p h1 h2
 obtain⟨q,⟨n,h3,h4⟩,h5⟩:=this H enc w base v d p h1 h2
 exact⟨q,⟨n,by simpa using h3,h4⟩,h5⟩
theorem vV.bool{P:Program}{t:TypeId}(ht:P.underlying t=some .bool):vV P t (fun q=>∃b,q = .bool b):=by
 have:=(MC.bool ht).one fun w base v h=>by obtain⟨n,rfl⟩:=okWide_bool ht h;rfl
 intro H enc w base v d p h1 h2
 obtain⟨q,⟨n,h3⟩,h5⟩:=this H enc w base v d p h1 h2
 exact⟨q,⟨n,by simpa using h3⟩,h5⟩
theorem vV.slice{P:Program}{t e:TypeId}{R:List PV->Prop}(ht:P.underlying t=some (.slice e))(zF:0<P.cellsOf e)(he:MC P e R):vV P t (fun q=>∃l:List (List PV),q = .sl l∧(∀x∈l,R x)∧l.length<=maxLen):=by
 have:=(MC.slice ht zF he).one fun w base v h=>by obtain⟨a,len,cap,rfl⟩:=okWide_slice ht h;rfl
 intro H enc w base v d p h1 h2
 obtain⟨q,⟨n,h3,h4⟩,h5⟩:=this H enc w base v d p h1 h2
 exact⟨q,⟨n,by simpa using h3,h4⟩,h5⟩
theorem vV.mono{Q Q':PV->Prop}(h:vV P t Q)(hQ:∀q,Q q->Q' q):vV P t Q':=fun H enc w base v d p h1 h2=>by
 obtain⟨q,h3,h4⟩:=h H enc w base v d p h1 h2
 exact⟨q,hQ _ h3,h4⟩
def TO(P:Program):List TypeId->List (PV->Prop)->Prop
 | [],[]=>True
 | t::ts,Q::Qs=>vV P t Q∧P.readableRec t=true∧t<P.types.size∧TO P ts Qs
 | _,_=>False
def arG:List (PV->Prop)->List PV->Prop
 | [],ps=>ps = []
 | Q::Qs,ps=>∃q qs,ps=q::qs∧Q q∧arG Qs qs
theorem TP{P:Program}{H:Type}{enc:TypeId × Value->H}{w:World}{base:Nat}:∀ {ts:List TypeId} {Qs:List (PV->Prop)} {vs:List Value} {ds:List (DataW H)} {p:List MemPlace},TO P ts Qs ->
  (∀(j:Nat) t v,ts[j]? = some t->vs[j]? = some v->Value.okWide P w .any base t v)->DataW.TrodAll enc P w 0 (fun _=>true) true ts vs ds p -> ∃ps,arG Qs ps∧b6 (Low w) w ps vs
 | [],[],vs,ds,p,_,_,h=>by
  obtain⟨rfl,_⟩:=trodAll_nil h
  exact⟨[],rfl,rfl⟩
 | t::ts,Q::Qs,vs,ds,p,hA,iD,h=>by
  obtain⟨v,yV,d,ds',p1,q1,rfl,rfl,rfl,h1,h2⟩:=trodAll_cons h
  obtain⟨hO,_,_,hA'⟩:=hA
  obtain⟨q,h3,h4⟩:=hO _ _ _ base _ _ _ (iD 0 t v rfl rfl) h1
  obtain⟨ps,h5,h6⟩:=TP hA' (fun j t' v' hj hv=>iD (j+1) t' v' (by simpa using hj) (by simpa using hv)) h2
  exact⟨q::ps,⟨q,ps,rfl,h3,h5⟩,⟨v,yV,rfl,h4,h6⟩⟩
 | [],_::_,_,_,_,h,_,_=>by simp [TO]at h
 | _::_,[],_,_,_,h,_,_=>by simp [TO]at h
theorem MD{P:Program}(hl:laidOutB P=true){H:Type}{enc:TypeId × Value->H}{w w':World}(hb:Below w.heap.size w w'):∀ {ts:List TypeId} {Qs:List (PV->Prop)} {vs:List Value} {ds:List (DataW H)} {p:List MemPlace},TO P ts Qs->(∀x∈p,x.block<w.heap.size) ->
  DataW.TrodAll enc P w 0 (fun _=>true) true ts vs ds p->DataW.TrodAll enc P w' 0 (fun b=>decide (b<w.heap.size)) true ts vs ds p
 | [],[],vs,ds,p,_,_,h=>by
  obtain⟨rfl,rfl,rfl⟩:=trodAll_nil h
  exact trodAll_mk0
 | t::ts,Q::Qs,vs,ds,p,hA,c8,h=>by
  obtain⟨v,yV,d,ds',p1,q1,rfl,rfl,rfl,h1,h2⟩:=trodAll_cons h
  obtain⟨_,h3,h4,hA'⟩:=hA
  exact⟨p1,q1,Below.trod hl h3 h4 h1 hb (fun x hx=>c8 x (by simp [hx])),MD hl hb hA' (fun x hx=>c8 x (by simp [hx])) h2,rfl⟩
 | [],_::_,_,_,_,h,_,_=>by simp [TO]at h
 | _::_,[],_,_,_,h,_,_=>by simp [TO]at h
theorem ahb{C:Checked}{f:FuncId}{fn:Func}{s:ChangeSpec}{Qs:List (PV->Prop)}{os:Os}{H:Type}{enc:TypeId × Value->H}{tb:TypeId}
  (own:ownKnob C.prog.godebug=none) (hl:laidOutB C.prog=true) (started:os.Started) (arH:C.prog.inits.idxOf? f=none) (hfn:C.prog.funcs[f]? = some fn)
  (witness:∃(w:World) (tape:Tape) (i:Input),w.os=os∧(w.forCall tape i).Shaped C.prog∧i.vars = []∧Input.okWide C.prog (w.forCall tape i) .any w.heap.size f i ∧
   s.pre6 enc C.prog fn [] false (w.forCall tape i).memory i.args∧({}:Assume).holds C.prog (lone (Frame.enter C.prog f i.args .normal) [] (w.forCall tape i)))
  (hv:s.vars = []) (hs:∀ds:List (DataW H),ds.length=fn.params.size->s.fn H ds = { results:=[.lit (.bool true)],args:=ds })
  (H3:fn.resultTypes = #[tb]) (htb:C.prog.underlying tb=some .bool)
  (hA:TO C.prog fn.params.toList Qs) (h:∀ps,arG Qs ps->AB C.prog f ps (.bool true)) :
  ReturnsInHanded {} C os f .any (s.pre6 enc C.prog fn [] false) (s.post enc C.prog fn false true false false):=by
 refine returnsInHanded_of_change own started arH hfn witness ?_
 intro W base args ds gs before aDe hW _ _
 have hW':=hW
 obtain⟨p,q,hT,hV,rfl,_,_⟩:=hW
 rw [hv]at hV
 obtain⟨rfl,rfl⟩:=trodVars_none hV
 obtain⟨ps,h1,h2⟩:=TP (base:=base) hA (fun j t v hj hv=>aDe j t v (by simpa using hj) (by simpa using hv)) hT
 obtain⟨_,kV⟩:=h ps h1
 have h3:=kV W (Low W) args.toList (fun b o hb=>hb) h2
 refine Calls.mono h3 fun e w' hw=>?_
 obtain⟨v,rfl,acR,S',_,_,gE⟩:=hw
 simp only [dY]at gE
 subst gE
 refine⟨_,rfl,?_⟩
 have hlen:ds.length=fn.params.size:=by
  have:∀ {ts:List TypeId} {vs:List Value} {ds:List (DataW H)} {p:List MemPlace},DataW.TrodAll enc C.prog W 0 (fun _=>true) true ts vs ds p->ds.length=ts.length:=by
   intro ts
   induction ts with
   | nil=>intro vs ds p h;obtain⟨_,rfl,_⟩:=trodAll_nil h;rfl
   | cons t ts ih =>
    intro vs ds p h
    obtain⟨v,yV,d,ds',p1,q1,rfl,rfl,rfl,h1,h2⟩:=trodAll_cons h
    simp [ih h2]
  rw [this hT];simp
 have c8:∀x∈p,x.block<W.heap.size:=fun x hx=>hW'.lt x (by simpa using hx)
 have hold:∀x∈p,(fun b=>decide (b<W.heap.size)) x.block=true:=fun x hx=>by simpa using c8 x hx
 have arI:s.fn H (ds ++ []) = { results:=[.lit (.bool true)],args:=ds }:=by rw [List.append_nil,hs ds hlen]
 refine⟨ds,[],p ++ [],[],p,[],hW',?_,?_,?_,World.keptBut_mono (fun x hx=>⟨hx, .inr (.inl (by simpa using hx))⟩) (acR.frame (· ∈ p ++ [])),?_⟩
 ·rw [arI,H3]
  exact trodAll_mk1 (shut_bool htb true)
 ·rw [arI]
  exact MD hl acR hA c8 hT
 ·rw [arI,hv];rfl
 ·intro h0;cases h0
end Pm
namespace Pm
open Go Go.RowKit
variable {clk n b id ver off len:Nat}{fn:Func}{a:Act}{f:Nat->PV}{t:Tmp}{args eQ z:List PV}{yM:FuncId}{code:Code}{rows:Rows}{R:PV->Rows->Nat->Prop}{e e':TypeId}{els l:List (List PV)}{P:Program}{E:Env}{y:PV}
section
variable {E:Env} {w0:World} {S0:eU} {c:Cx}
theorem vW(hI:Inv w0 S0 c)(hf:∀s,aK c (f s) (a.tmps.getD s undef)){K:List PV->Prop}(hp:lJ E ⟨f,c.rows,clk⟩ fn.results.toList K) :
  ∃vs us,K vs∧bA (aK c) vs us∧(results fn a.tmps).run E.P c.w = .ok (if h:us.toArray.size=1 then us.toArray[0]else .tuple us.toArray) c.w:=by
 have key:∀g:ResultVar->Sem Value,(∀t,g (.tmp t)=pure (a.tmps.getD t undef))->(∀x t,g (.cell x t)=do loadVar t (<-asAddr (a.tmps.getD x undef))) ->
   ∃vs us,K vs∧bA (aK c) vs us∧(do let vs <-fn.results.mapM g;pure (if h:vs.size=1 then vs[0]else .tuple vs):Sem Value).run E.P c.w = .ok (if h:us.toArray.size=1 then us.toArray[0]else .tuple us.toArray) c.w:=by
  intro g hg1 r5
  obtain⟨vs,us,g1,g4,g5⟩:=w9 hI hf hg1 r5 _ _ hp
  refine⟨vs,us,g1,g4,?_⟩
  have:(fn.results.mapM g).run E.P c.w = .ok us.toArray c.w:=by
   rw [Array.mapM_eq_mapM_toList]
   simp [g5]
  rw [Sem.run_bind,this,Result.andThen_ok,Sem.run_pure]
 unfold results
 exact key _ (fun _=>rfl) (fun _ _=>rfl)
theorem H4(hI:Inv w0 S0 c)(H3:fn.results.toList = [.tmp t])(hf:∀s,aK c (f s) (a.tmps.getD s undef)) :
  ∃u,aK c (f t) u∧(results fn a.tmps).run E.P c.w = .ok u c.w:=by
 obtain⟨vs,us,h1,h2,h3⟩:=vW (E:=E) (K:=fun vs=>vs = [f t]) (clk:=0) hI (fn:=fn) hf (by rw [H3];rfl)
 subst h1
 match us,h2 with
 | [u],h2=>exact⟨u,h2.1,by simpa using h3⟩
 | [],h2=>exact h2.elim
 | _::_::_,h2=>exact h2.2.elim
def aow(t:Tmp)(R:PV->Rows->Nat->Prop):PX->PS->Prop
 | .normal,σ=>R (σ.f t) σ.rows σ.clock
 | .ret,σ=>R (σ.f t) σ.rows σ.clock
 | .exit _,_=>False
def O4(args:List PV)(rows:Rows)(clk:Nat):PS:=⟨fun s=>args.getD s .undef,rows,clk⟩
theorem BE{vs:List Value}{m:Nat}(h:bA (aK c) args vs)(s:Nat):aK c (args.getD s .undef) ((vs.toArray++Array.replicate m undef).getD s undef):=by
 have RO:=h.length
 by_cases hs:s<args.length
 ·obtain⟨u,hu,hr⟩:=h.get (List.getElem?_eq_getElem hs)
  have e1:args.getD s .undef=args[s]:=by simp [List.getD,List.getElem?_eq_getElem hs]
  have e2:(vs.toArray++Array.replicate m undef).getD s undef=u:=by
   have:s<vs.length:=aA
   simp [this]at hu |-
   simp [Array.getElem?_append,this,hu]
  rw [e1,e2];exact hr
 ·have e1:args.getD s .undef = .undef:=by simp [List.getD,List.getElem?_eq_none (show args.length<=s by omega)]
  rw [e1]
  simp [aK,aM]
theorem ady(tl:Nat->Nat)(h1:E.P.funcs[yM]? = some fn)(h2:fn.body=some code) (h3:(fn.name == "runtime.NumGoroutine") = false)
  (iD:fQ E fn.ntmps tl code=true) (dQ:args.length<=fn.ntmps) (H3:fn.results.toList = [.tmp t]) (h:W E fn.ntmps tl code (aow t R) (O4 args rows clk)):yZ E.P yM args rows clk R:=by
 refine⟨⟨fn,code,h1,h2,h3⟩,fun w0 S0 c vs G hI hr gS gE hG=>?_⟩
 refine calls_of_wp h1 h2 ?_
 have RO:=gE.length
 have KR:Rel w0 S0 fn.ntmps G (O4 args rows clk) { tmps:=vs.toArray++Array.replicate (fn.ntmps-vs.toArray.size) undef,defers:=[] } c.w:=
  ⟨⟨c,rfl,hr,gS,hI,fun s=>BE gE s,hG⟩,by simp;omega,rfl⟩
 refine h iD w0 S0 G _ _ _ KR ?_
 have fin:∀σ' a' w',R (σ'.f t) σ'.rows σ'.clock->Rel w0 S0 fn.ntmps G σ' a' w'->a'.defers = [] ∧ ∃v,(results fn a'.tmps).run E.P w' = .ok v w' ∧
   ∃v' c' r fD,Ending.returned v = .returned v'∧c'.w=w'∧Inv w0 S0 c'∧(∀p∈G,aK c' p.1 p.2)∧R r c'.rows fD∧(∀v,c'.used v->v<fD)∧aK c' r v':=by
  rintro σ' a' w' hx ⟨⟨c',rfl,jO,AR,pU,hf',J6⟩,hn,gF⟩
  obtain⟨u,hu,jU⟩:=H4 (E:=E) pU H3 hf'
  exact⟨gF,u,jU,u,c',_,σ'.clock,rfl,rfl,pU,J6,by rw [jO];exact hx,AR,hu⟩
 intro x σ' a' w' hx lE
 cases x with
 | normal=>exact fin σ' a' w' hx lE
 | ret=>exact fin σ' a' w' hx lE
 | exit id=>exact hx.elim
def aox(t:Tmp)(e:TypeId)(n:Nat)(els:List (List PV)):PX->PS->Prop
 | .normal,σ=>∃id ver,σ.f t = .own id ver 0 els.length∧σ.rows id=some ⟨ver,e,n,els⟩ ∧ ∀x∈els,∀p∈x,bE p=true
 | .ret,σ=>∃id ver,σ.f t = .own id ver 0 els.length∧σ.rows id=some ⟨ver,e,n,els⟩ ∧ ∀x∈els,∀p∈x,bE p=true
 | .exit _,_=>False
theorem adz(tl:Nat->Nat)(h1:E.P.funcs[yM]? = some fn)(h2:fn.body=some code) (h3:(fn.name == "runtime.NumGoroutine") = false)
  (iD:fQ E fn.ntmps tl code=true) (dQ:args.length<=fn.ntmps) (H3:fn.results.toList = [.tmp t]) (h:W E fn.ntmps tl code (aox t e n els) (LU args)):jZ E.P yM args e n els:=by
 refine⟨⟨fn,code,h1,h2,h3⟩,fun w S vs hS gE=>?_⟩
 refine calls_of_wp h1 h2 ?_
 have G4:=cX.1 gE
 have RO:=G4.length
 let c0:Cx:=⟨S,w,fun _ => .slice none 0 0,fun _=>none,fun _=>False⟩
 have hI0:Inv w S c0:=⟨Below.refl _ _,fun _ _ h=>h,fun _ _ h => .inl h,hS,fun _ _ h=>by simp [c0]at h,fun _ _ h=>by simp [c0]at h,fun _ _ _ _ _ h=>by simp [c0]at h,⟨0,fun _ h=>h.elim⟩⟩
 have KR:Rel w S fn.ntmps Gs.none (LU args) { tmps:=vs.toArray++Array.replicate (fn.ntmps-vs.toArray.size) undef,defers:=[] } w:=
  ⟨⟨c0,rfl,rfl,fun _ h=>h.elim,hI0,fun s=>BE (c:=c0) (G4.mono fun _ _ h=>aK.jS h) s,fun p hp=>(Gs.R5 hp).elim⟩,by simp;omega,rfl⟩
 refine h iD w S Gs.none _ _ _ KR ?_
 have fin:∀(σ':PS) a' w',(∃id ver,σ'.f t = .own id ver 0 els.length∧σ'.rows id=some ⟨ver,e,n,els⟩ ∧ ∀x∈els,∀p∈x,bE p=true)->Rel w S fn.ntmps Gs.none σ' a' w'->a'.defers = [] ∧ ∃v,(results fn a'.tmps).run E.P w' = .ok v w' ∧
   ∃(v':Value) (xs:List Value) (S':eU),Ending.returned v = .returned v'∧Below w.heap.size w w'∧(∀b o,S b o->S' b o)∧(∀b o,S' b o->S b o∨(w.heap.size<=b∧b<w'.heap.size)) ∧
   w'.ownsRow w.heap.size e n v' els.length xs∧bA (dY S' w') els.flatten xs∧(∀y∈xs,y.oneCell'=true)∧(∀x∈els,x.length=n)∧0<n∧(∀g o,v'.ownBlock=some g->¬S' g o):=by
  rintro σ' a' w' ⟨id,ver,e1,e2,e3⟩ ⟨⟨c,rfl,hr,gS,hI,hf,_⟩,hn,gF⟩
  obtain⟨u,hu,jU⟩:=H4 (E:=E) hI H3 hf
  rw [e1]at hu
  rw [<-hr]at e2
  obtain⟨⟨xs,g1,g2,g3⟩,g4,g5,g6⟩:=hI.row id _ e2
  simp only [aK,aM]at hu
  obtain⟨_,hu⟩:=hu
  obtain⟨_,hu⟩:=hu _ e2 rfl
  have hub:u=c.β id:=by
   rcases hu with ⟨_,A,m,cap,h5,h6⟩ | ⟨h5,_⟩
   ·rcases g1.2 with ⟨h7,h8⟩ | ⟨g,l7,cur,h7,_⟩
    ·rw [h7]at h5;cases h5
     simp only at h8
     rw [h6,h7,h8]
    ·rw [h7]at h5;cases h5
     rw [h6,h7]
   ·omega
  refine⟨gF,u,jU,u,xs,c.S,rfl,hI.below,hI.ext,hI.new,by rw [hub];exact g1,?_,g3,g4,g6,fun g o hg=>g5 g o (by rw [<-hub];exact hg)⟩
  refine bA.cI g2.length fun k p y hp hy=>?_
  obtain⟨y',C0,jO⟩:=g2.get hp
  rw [hy]at C0;cases C0
  have qB:=List.mem_of_getElem? hp
  obtain⟨x,hx,hpx⟩:=List.mem_flatten.1 qB
  exact jO.rep (e3 x hx p hpx)
 intro x σ' a' w' hx lE
 cases x with
 | normal=>exact fin σ' a' w' hx lE
 | ret=>exact fin σ' a' w' hx lE
 | exit id=>exact hx.elim
theorem jZ.ret{f:FuncId}(h:jZ P f args e n els)(d:Nat)(ha:eQ.map (pz rows)=args)(yG:(eQ.map (pz rows)).all cY=true)(hp:gG rows (eQ.flatMap eK)) :
  yZ P f eQ rows clk (fun r rows' fD=>r = .own d clk 0 els.length∧rows'=eO (LN rows (eQ.flatMap eK)) d (some ⟨clk,e,n,els⟩)∧fD=clk+1):=by
 obtain⟨h0,CZ⟩:=h
 refine⟨h0,fun w0 S0 c vs G hI iQ gS dQ hG=>?_⟩
 subst iQ
 generalize xX:eQ.flatMap eK=ids at *
 have RS:=hI.freeze ids
 have c8:∀b o,W9 c ids b o->b<c.w.heap.size:=fun b o hb=>RS.lt (c:=J5 c ids) hb
 have gE:b6 (W9 c ids) c.w args vs:=by
  rw [<-ha]
  refine cX.2 (bA.cI (by simp [dQ.length]) fun k p u pT hu=>?_)
  simp at pT
  obtain⟨q,hq,rfl⟩:=pT
  obtain⟨u',g1,g2⟩:=dQ.get hq
  rw [hu]at g1;cases g1
  exact N4 hI hp g2 (fun id iH=>by rw [<-xX];simp only [List.mem_flatMap];exact⟨q,List.mem_of_getElem? hq,iH⟩) (List.all_eq_true.1 yG _ (by simp;exact⟨q,List.mem_of_getElem? hq,rfl⟩))
 refine(CZ c.w (W9 c ids) vs c8 gE).mono ?_
 rintro x w' ⟨v,xs,S',rfl,hb,g1,g2,g3,g4,g5,g6,g7,g8⟩
 obtain⟨hI2,hA2⟩:=RS.grow (c:=J5 c ids) hb g1 g2
 have hA1:=lV c ids
 obtain⟨hI3,hA3⟩:=hI2.set (w':=w') (ob:=v.ownBlock) (id:=d) (r':=⟨clk,e,n,els⟩) (v':=v) (xs:=xs) (World.grownBy.refl _ _)
  (fun g hg=>by
   have hge:=(g3.lt g hg).1
   refine⟨by have:=hI.below.size;omega,fun o=>g8 g o hg,fun lC r hr _ jH=>?_⟩
   obtain⟨⟨ys,q1,_,_⟩,_⟩:=RS.row lC r hr
   have:=(q1.lt g jH).2
   simp only [J5]at this
   omega) ⟨g3.1,g3.2.imp id fun⟨g,cap,cur,q1,q2,q3⟩=>⟨g,cap,cur,q1,Nat.le_trans hI.below.size q2,q3⟩⟩ (g4.mono fun _ _ h=>aM.jS h) g5 g6 g7 (fun g hg => .inl hg) (fun hu=>Nat.lt_irrefl _ (gS _ hu))
 refine⟨v,_, .own d clk 0 els.length,clk+1,rfl,rfl,hI3,fun p pT=>?_,⟨rfl,rfl,rfl⟩,fun v hv=>?_,?_⟩
 ·exact aK.tB hA3 _ _ (aK.tB hA2 _ _ (aK.tB hA1 _ _ (hG p pT)))
 ·rcases hv with hv | hv
  ·have:v=clk:=hv
   omega
  ·have:=gS v hv;omega
 ·rcases g3.2 with ⟨rfl,h8⟩ | ⟨g,l7,cur,rfl,_⟩
  ·have:els.length=0:=h8
   rw [this]
   exact oO (r:=⟨clk,e,n,els⟩) (A:=none) (cap:=0) (by simp [eO]) (by simpa using h8) (Or.inl rfl) (by simp [eO])
  ·exact oO (r:=⟨clk,e,n,els⟩) (by simp [eO]) rfl (Or.inl rfl) (by simp [eO])
end
theorem ahc{g:FuncId}{K:PV->Rows->Nat->Prop}(h:jZ P g args e n els)(d:Nat)(ha:eQ.map (pz rows)=args)(yG:(eQ.map (pz rows)).all cY=true)
  (hp:gG rows (eQ.flatMap eK)) (hK:go (K (.own d clk 0 els.length) (eO (LN rows (eQ.flatMap eK)) d (some ⟨clk,e,n,els⟩)) (clk+1))):qA P g eQ rows clk K:=
 ⟨_,h.ret d ha yG hp,by rintro r rows' fD ⟨rfl,rfl,rfl⟩;exact hK⟩
theorem kE(tl:Nat->Nat)(l:List (Nat × PV))(h1:E.P.funcs[yM]? = some fn)(h2:fn.body=some code) (h3:(fn.name == "runtime.NumGoroutine") = false)
  (iD:fQ E fn.ntmps tl code=true) (dQ:args.length<=fn.ntmps) (H3:fn.results.toList = [.tmp t]) (hl:∀p∈l,args.getD p.1 .undef=p.2) (h:W E fn.ntmps tl code (aox t e n els) ⟨fa l,fun _=>none,0⟩):jZ E.P yM args e n els:=
 adz tl h1 h2 h3 iD dQ H3 (W.ghf l (by simpa using hl) h)
theorem YF(tl:Nat->Nat)(l:List (Nat × PV))(h1:E.P.funcs[yM]? = some fn)(h2:fn.body=some code) (h3:(fn.name == "runtime.NumGoroutine") = false)
  (iD:fQ E fn.ntmps tl code=true) (dQ:args.length<=fn.ntmps) (H3:fn.results.toList = [.tmp t]) (hl:∀p∈l,args.getD p.1 .undef=p.2) (h:W E fn.ntmps tl code (aow t R) ⟨fa l,rows,clk⟩):yZ E.P yM args rows clk R:=
 ady tl h1 h2 h3 iD dQ H3 (W.ghf l (by simpa using hl) h)
def DC(t:TI)(rows:Rows)(x y:PV)(K:PV->Rows->Prop):Prop:=
 match t,x with
 | .slice _ n _ _, .own id ver off len=>∃r,rows id=some r∧r.ver=ver∧r.size=n∧off+len<=r.els.length ∧ ∃l,vG rows y l∧(∀e∈l,e.length=n) ∧
   K (.int .i64 (min l.length len)) (eO rows id (some { r with els:=r.els.take off++l.take len++r.els.drop (off+min l.length len) }))
 | _,_=>False
@[simp] theorem aBb{ops os:List Oper}{K:PS->Prop}{d:Option Tmp}{ty:TypeId}{pos:String}{af:Array Edge}{x y:Operand}{t t2:TypeId} :
  go (aP E ops (⟨d, .call { callee:=.builtin .copy,args:=⟨[x,y]⟩,argTypes:=⟨[t,t2]⟩ },ty,pos,af,none⟩::os) K ⟨f,rows,clk⟩)=DC (E.ty t) rows (aR f x) (aR f y) fun v rows=>aP E ops os K ⟨put f d v,rows,clk⟩:=by
 simp only [go,aP,gV,ys,yF,DC]
 generalize E.ty t=T
 generalize aR f x=X
 apply propext
 constructor
 ·rintro⟨v,u,h,hK⟩
  split at h
  ·obtain⟨r,h1,h2,h3,h4,l,h5,h6,rfl,rfl⟩:=h
   exact⟨r,h1,h2,h3,h4,l,h5,h6,hK⟩
  ·exact h.elim
 ·intro h
  split at h
  ·obtain⟨r,h1,h2,h3,h4,l,h5,h6,hK⟩:=h
   exact⟨_,_,⟨r,h1,h2,h3,h4,l,h5,h6,rfl,rfl⟩,hK⟩
  ·exact h.elim
@[congr] theorem alr{t t':TI}{rows':Rows}{x x' y':PV}{K:PV->Rows->Prop}(h1:t=t')(h2:rows=rows')(h3:x=x')(h4:y=y'):DC t rows x y K=DC t' rows' x' y' K:=by rw [h1,h2,h3,h4]
theorem axL{K:PV->Rows->Prop}(hr:rows id=some ⟨ver,e',n,els⟩)(hl:off+len<=els.length)(hy:vG rows y l)(h1:∀e∈l,e.length=n)
  (hK:go (K (.int .i64 (min l.length len)) (eO rows id (some ⟨ver,e',n,els.take off++l.take len++els.drop (off+min l.length len)⟩)))):DC (.slice e n b z) rows (.own id ver off len) y K:=
 ⟨_,hr,rfl,rfl,hl,l,hy,h1,hK⟩
theorem axM{K:PV->Rows->Prop}(hr:rows id=some ⟨ver,e',1,els⟩)(hl:off+len<=els.length)(h0:0<len)(hy:vG rows y l)(h1:∀e∈l,e.length=1)
  (hK:go (K (.int .i64 (min l.length len)) (eO rows id (some ⟨ver,e',1,els.take off++l.take len++els.drop (off+min l.length len)⟩)))):DC (.slice e 1 b z) rows (.own id ver off len) y K:=
 axL hr hl hy h1 hK
theorem aY{c B:Prop}(h:c)(hB:go B):aL c B:=⟨h,hB⟩
def aoy(E:Env)(rs:List ResultVar)(r:PV)(R:Rows->Prop):PX->PS->Prop
 | .normal,σ=>lJ E σ rs fun vs=>vs.all cY=true∧r=qC vs∧R σ.rows
 | .ret,σ=>lJ E σ rs fun vs=>vs.all cY=true∧r=qC vs∧R σ.rows
 | .exit _,_=>False
theorem jM(tl:Nat->Nat){core iC:List PV}{r:PV}(l:List (Nat × PV))(h1:E.P.funcs[yM]? = some fn)(h2:fn.body=some code) (h3:(fn.name == "runtime.NumGoroutine") = false)
  (iD:fQ E fn.ntmps tl code=true) (dQ:args.length+1<=fn.ntmps) (hl:∀q:PV,∀p∈(0,q)::l,(q::args).getD p.1 .undef=p.2)
  (h:∀id ver (rows:Rows) clk,rows (id+1000000)=some ⟨ver,e,n,[core]⟩->W E fn.ntmps tl code (aoy E fn.results.toList r fun rows'=>rows' (id+1000000)=some ⟨ver,e,n,[iC]⟩ ∧ ∀j,j≠id->rows' (j+1000000)=rows (j+1000000)) ⟨fa ((0, .ptr (id+1000000) ver 0 0)::l),rows,clk⟩) :
  FD E.P yM args e n core iC r:=by
 intro id0 ver rows clk iH iQ lG
 obtain⟨id,rfl⟩:∃id,id0=id+1000000:=⟨id0-1000000,by have:lW=1000000:=rfl;omega⟩
 have hW:=W.ghf (E:=E) (n:=fn.ntmps) ((0, .ptr (id+1000000) ver 0 0)::l) (f:=fun s=>(PV.ptr (id+1000000) ver 0 0::args).getD s .undef) (hl (.ptr (id+1000000) ver 0 0)) (h id ver rows clk iQ)
 refine⟨⟨fn,code,h1,h2,h3⟩,fun w0 S0 c vs G hI hr gS gE hG=>?_⟩
 refine calls_of_wp h1 h2 ?_
 have RO:=gE.length
 have KR:Rel w0 S0 fn.ntmps G (O4 (.ptr (id+1000000) ver 0 0::args) rows clk) { tmps:=vs.toArray++Array.replicate (fn.ntmps-vs.toArray.size) undef,defers:=[] } c.w:=
  ⟨⟨c,rfl,hr,gS,hI,fun s=>BE gE s,hG⟩,by simp at RO |-;omega,rfl⟩
 refine hW iD w0 S0 G _ _ _ KR ?_
 have fin:∀(σ':PS) a' w',(lJ E σ' fn.results.toList fun vs=>vs.all cY=true∧r=qC vs∧σ'.rows (id+1000000)=some ⟨ver,e,n,[iC]⟩ ∧ ∀j,j≠id->σ'.rows (j+1000000)=rows (j+1000000))->Rel w0 S0 fn.ntmps G σ' a' w'->a'.defers = [] ∧ ∃v,(results fn a'.tmps).run E.P w' = .ok v w' ∧
   ∃v' c' r' fD,Ending.returned v = .returned v'∧c'.w=w'∧Inv w0 S0 c'∧(∀p∈G,aK c' p.1 p.2)∧(r'=r∧c'.rows (id+1000000)=some ⟨ver,e,n,[iC]⟩ ∧ ∀j,lW<=j->j≠id+1000000->c'.rows j=rows j)∧(∀v,c'.used v->v<fD)∧aK c' r' v':=by
  rintro σ' a' w' hx ⟨⟨c',rfl,jO,AR,pU,hf',J6⟩,hn,gF⟩
  obtain⟨us,yV,⟨k1,k2,k3,k4⟩,k5,k6⟩:=vW (E:=E) (clk:=σ'.clock) pU (fn:=fn) hf' (by rw [jO];exact hx)
  refine⟨gF,_,k6,_,c',r,σ'.clock,rfl,rfl,pU,J6,⟨rfl,by rw [jO];exact k3,fun j hj o7=>?_⟩,AR,?_⟩
  ·obtain⟨m,rfl⟩:∃m,j=m+1000000:=⟨j-1000000,by have:lW=1000000:=rfl;omega⟩
   rw [jO];exact k4 m aA
  ·rw [k2]
   have key:us.length≠1->aK c' (.dK us) (.tuple yV.toArray):=fun _=>by
    refine⟨yV,rfl,bA.cI k5.length fun i a b ha hb=>?_⟩
    obtain⟨b',jH,q⟩:=k5.get ha
    rw [hb]at jH;cases jH
    exact aM.jS (q.rep (List.all_eq_true.1 k1 a (List.mem_of_getElem? ha)))
   match us,yV,k5 with
   | [],[],_=>simpa [qC]using key aG
   | [p],[v],k5=>simpa [qC]using k5.1
   | p::q::us,v::u::yV,k5=>simpa [qC]using key aG
 intro x σ' a' w' hx lE
 cases x with
 | normal=>exact fin σ' a' w' hx lE
 | ret=>exact fin σ' a' w' hx lE
 | exit id=>exact hx.elim
end Pm
