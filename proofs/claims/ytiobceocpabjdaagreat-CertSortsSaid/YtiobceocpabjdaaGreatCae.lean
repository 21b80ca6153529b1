import Derived.ProofKit
import Derived.JoinedOf
import Derived.SizedLaws
import Derived.Carry
import Derived.Deep.Slices
import Derived.Test.YtiobceocpabjdaaGreatCad
set_option linter.unusedSimpArgs false
set_option linter.unusedVariables false
namespace Pm
def V(b:Int):List Int→Int
 | []=>0
 | x::l=>x+b*V b l
def b6(b:Int)(l:List Int):Prop:=∀x∈l,0≤x∧x<b
def CU(b:Nat):Nat→Nat→List Int
 | 0,_=>[]
 | f+1,n=>if n=0 then []else((n%b:Nat):Int)::CU b f (n/b)
def a5(b n:Nat):List Int:=CU b n n
def aG:List Int→List Int
 | []=>[]
 | x::l=>if aG l = []∧x=0 then []else x::aG l
theorem gT:∀l:List Int,aG (l ++ [0])=aG l
 | []=>by simp [aG]
 | x::l=>by simp [aG,gT l]
theorem fA{x:Int}(h:x≠0):∀l:List Int,aG (l ++ [x])=l ++ [x]
 | []=>by
  show aG [x] = [x]
  rw [aG,if_neg (fun hh=>h hh.2)];rfl
 | y::l=>by
  have ih:=fA h l
  have hn:¬(l ++ [x] = []∧y=0):=by simp
  show aG (y::(l ++ [x]))=y::(l ++ [x])
  rw [aG,ih,if_neg hn]
theorem bN:∀l:List Int,(aG l).length≤l.length
 | []=>by simp [aG]
 | x::l=>by
  have:=bN l
  simp only [aG]
  split
  ·simp
  ·simpa using this
theorem dP{α:Type}[Inhabited α]{l:List α}{i:Nat}(h:i<l.length):nth l i=l[i]:=by unfold nth;rw [List.getElem?_eq_getElem h];rfl
theorem gL{α:Type}[Inhabited α]{l:List α}{i:Nat}(h:l.length≤i):nth l i=default:=by unfold nth;rw [List.getElem?_eq_none h];rfl
theorem aU{α:Type}[Inhabited α]{l:List α}{i:Nat}(h:i<l.length):l.take (i+1)=l.take i ++ [nth l i]:=by
 rw [dP h,List.take_succ_eq_append_getElem h]
theorem cP{α:Type}[Inhabited α]{l:List α}{i:Nat}(h:i<l.length):nth l i∈l:=by rw [dP h];exact List.getElem_mem h
theorem dI{α:Type}[Inhabited α]{l:List α}{i:Nat}{x:α}(h:i<l.length):nth (l.set i x) i=x:=by rw [dP (by simpa using h)];simp
theorem eM{α:Type}[Inhabited α]{l:List α}{i j:Nat}{x:α}(h:i≠j):nth (l.set i x) j=nth l j:=by unfold nth;rw [List.getElem?_set_ne h]
theorem dW{α:Type}[Inhabited α]{l:List α}{i:Nat}(h:i<l.length):l.drop i=nth l i::l.drop (i+1):=by rw [dP h];exact List.drop_eq_getElem_cons h
theorem fH{α:Type}{l:List α}{i k:Nat}{x:α}(h:k≤i):(l.set i x).take k=l.take k:=by
 rw [List.take_set];exact List.set_eq_of_length_le (by simp;omega)
section
variable {b:Int}
theorem b6.nil:b6 b []:=by simp [b6]
theorem b6.cons{x:Int}{l:List Int}:b6 b (x::l)↔(0≤x∧x<b)∧b6 b l:=by simp [b6]
theorem b6.append{a c:List Int}:b6 b (a++c)↔b6 b a∧b6 b c:=by
 simp only [b6,List.mem_append]
 constructor
 ·intro h;exact⟨fun x hx=>h x (.inl hx),fun x hx=>h x (.inr hx)⟩
 ·rintro⟨h1,h2⟩ x (hx | hx)
  ·exact h1 x hx
  ·exact h2 x hx
theorem b6.take{l:List Int}(h:b6 b l)(n:Nat):b6 b (l.take n):=fun x hx=>h x (List.mem_of_mem_take hx)
theorem b6.drop{l:List Int}(h:b6 b l)(n:Nat):b6 b (l.drop n):=fun x hx=>h x (List.mem_of_mem_drop hx)
theorem b6.nth{l:List Int}(h:b6 b l){i:Nat}(hi:i<l.length):0≤nth l i∧nth l i<b:=by
 rw [dP hi];exact h _ (List.getElem_mem hi)
theorem b6.set{l:List Int}(h:b6 b l){i:Nat}{x:Int}(hx:0≤x∧x<b):b6 b (l.set i x):=fun y hy=>by
 rcases List.mem_or_eq_of_mem_set hy with h1 | h1
 ·exact h y h1
 ·rw [h1];exact hx
theorem b6.rep(hb:0<b)(n:Nat):b6 b (List.replicate n 0):=fun x hx=>by rw [(List.mem_replicate.1 hx).2];omega
theorem bH(hb:0<b):∀ {l:List Int},b6 b l→0≤V b l
 | [],_=>by simp [V]
 | x::l,h=>by
  have h1:=bH hb (b6.cons.1 h).2;have h2:=(b6.cons.1 h).1
  have h3:=Int.mul_nonneg (Int.le_of_lt hb) h1
  simp only [V];omega
theorem c8:∀(a c:List Int),V b (a++c)=V b a+b^a.length*V b c
 | [],c=>by simp [V]
 | x::a,c=>by simp only [List.cons_append,V,c8 a c,List.length_cons,Int.pow_succ];grind
theorem kD{x:Int}:V b [x]=x:=by simp [V]
theorem mF(hb:0<b):∀ {l:List Int},b6 b l→V b l<b^l.length
 | [],_=>by simp [V]
 | x::l,h=>by
  have h1:=mF hb (b6.cons.1 h).2;have h2:=(b6.cons.1 h).1
  have h3:b*(V b l+1)≤b*b^l.length:=Int.mul_le_mul_of_nonneg_left (by omega) (by omega)
  rw [Int.mul_add]at h3
  simp only [V,List.length_cons,Int.pow_succ,Int.mul_comm _ b];omega
theorem aR{l:List Int}{i:Nat}(h:i<l.length):V b (l.take (i+1))=V b (l.take i)+b^i*nth l i:=by
 rw [aU h,c8,kD];simp [Nat.min_eq_left (Nat.le_of_lt h)]
theorem aV{l:List Int}{i:Nat}(h:l.length≤i):V b (l.take i)=V b l:=by rw [List.take_of_length_le h]
theorem dQ{l:List Int}{i:Nat}{x:Int}(h:i<l.length):V b ((l.set i x).take (i+1))=V b (l.take i)+b^i*x:=by
 rw [aR (by simpa using h),fH (Nat.le_refl _),dI h]
theorem yB{l:List Int}{i:Nat}{x:Int}(h:i<l.length):V b (l.set i x)=V b l+b^i*(x-nth l i):=by
 induction l generalizing i with
 | nil=>simp at h
 | cons y l ih =>
  cases i with
  | zero=>simp only [List.set_cons_zero,V,Int.pow_zero,nth,List.getElem?_cons_zero,Option.getD_some];omega
  | succ i =>
   have e:nth (y::l) (i+1)=nth l i:=by simp [nth]
   simp only [List.set_cons_succ,V,e,Int.pow_succ]
   rw [ih (by simpa using h)]
   grind
theorem l9:∀n:Nat,V b (List.replicate n 0)=0
 | 0=>rfl
 | n+1=>by simp [List.replicate_succ,V,l9 n]
end
section
variable {b:Int}
theorem cD:∀l:List Int,V b (aG l)=V b l
 | []=>rfl
 | x::l=>by
  have ih:=cD l
  simp only [aG]
  split
  ·rename_i h
   rw [h.1]at ih
   simp only [V]at ih ⊢
   rw [←ih,h.2];simp
  ·simp [V,ih]
theorem c9{l:List Int}(h:b6 b l):b6 b (aG l):=by
 induction l with
 | nil=>exact h
 | cons x l ih =>
  obtain⟨h1,h2⟩:=b6.cons.1 h
  simp only [aG]
  split
  ·exact b6.nil
  ·exact b6.cons.2 ⟨h1,ih h2⟩
end
section
variable {b:Nat}
theorem I9(hb:2≤b):∀(f g n:Nat),n≤f→n≤g→CU b f n=CU b g n
 | 0,g,n,h,_=>by
  have:n=0:=by omega
  subst this
  cases g<;>simp [CU]
 | f+1,0,n,_,h=>by
  have:n=0:=by omega
  subst this
  simp [CU]
 | f+1,g+1,n,h1,h2=>by
  simp only [CU]
  by_cases hn:n=0
  ·simp [hn]
  ·simp only [hn,if_false]
   have:n/b<n:=Nat.div_lt_self (by omega) hb
   rw [I9 hb f g _ (by omega) (by omega)]
theorem jB:a5 b 0 = []:=rfl
theorem m8(hb:2≤b){n:Nat}(h:n≠0):a5 b n=((n%b:Nat):Int)::a5 b (n/b):=by
 cases n with
 | zero=>exact absurd rfl h
 | succ n =>
  simp only [a5]
  rw [CU]
  simp only [h,if_false]
  have:(n+1)/b<n+1:=Nat.div_lt_self (by omega) hb
  rw [I9 hb n _ _ (by omega) (Nat.le_refl _)]
theorem CW(hb:2≤b)(n:Nat):V b (a5 b n)=n∧b6 b (a5 b n):=by
 induction n using Nat.strongRecOn with
 | _ n ih =>
  by_cases h:n=0
  ·subst h;simp [jB,V,b6]
  ·rw [m8 hb h]
   obtain⟨h1,h2⟩:=ih (n/b) (Nat.div_lt_self (by omega) hb)
   have h3:=Nat.mod_lt n (show 0<b by omega)
   have h4:=Nat.mod_add_div n b
   simp only [V,h1,b6.cons]
   refine⟨by exact_mod_cast h4,⟨by omega,by omega⟩,h2⟩
theorem iT(hb:2≤b)(n:Nat):V b (a5 b n)=n:=(CW hb n).1
theorem eN(hb:2≤b)(n:Nat):b6 b (a5 b n):=(CW hb n).2
theorem dF(hb:2≤b){n:Nat}:a5 b n = []↔n=0:=by
 constructor
 ·intro h;have:=iT hb n;rw [h]at this;simp [V]at this;omega
 ·rintro rfl;rfl
theorem m9(hb:2≤b):∀ {l:List Int},b6 b l→aG l=a5 b (V b l).toNat
 | [],_=>rfl
 | x::l,h=>by
  obtain⟨h1,h2⟩:=b6.cons.1 h
  have ih:=m9 hb h2
  have h3:=bH (by omega) h2
  simp only [aG,ih,dF hb,V]
  obtain⟨m,hm⟩:=Int.eq_ofNat_of_zero_le h3
  obtain⟨y,hy⟩:=Int.eq_ofNat_of_zero_le h1.1
  subst hy
  rw [hm]
  have e0:((y:Int)+b*m).toNat=y+b*m:=by
   rw [show((y:Int)+b*m)=((y+b*m:Nat):Int)by simp];exact Int.toNat_natCast _
  rw [e0,Int.toNat_natCast]
  by_cases hz:m=0∧y=0
  ·obtain⟨rfl,rfl⟩:=hz;simp [jB]
  ·rw [if_neg (by omega)]
   have hyb:y<b:=by omega
   have e1:(y+b*m)/b=m:=by rw [Nat.add_mul_div_left _ _ (by omega),Nat.div_eq_of_lt hyb];simp
   have e2:(y+b*m)%b=y:=by rw [Nat.add_mul_mod_self_left,Nat.mod_eq_of_lt hyb]
   have wV:y+b*m≠0:=by
    intro h0
    have h5:b*m=0:=by omega
    rcases Nat.mul_eq_zero.1 h5 with h6 | h6<;>omega
   rw [m8 hb wV,e1,e2]
theorem z7(hb:2≤b){n k:Nat}(h:n<b^k):(a5 b n).length≤k:=by
 induction k generalizing n with
 | zero => have:n=0:=by simpa using h
           subst this;simp [jB]
 | succ k ih =>
  by_cases h0:n=0
  ·subst h0;simp [jB]
  ·rw [m8 hb h0]
   have:n/b<b^k:=by
    rw [Nat.pow_succ,Nat.mul_comm]at h
    exact Nat.div_lt_of_lt_mul h
   simpa using ih this
theorem kF(hb:2≤b)(n:Nat):aG (a5 b n)=a5 b n:=by rw [m9 hb (eN hb n),iT hb];simp
end
section
variable {b:Int}
theorem iF(l:List Int)(i:Nat)(h:i≤l.length):V b l=V b (l.take i)+b^i*V b (l.drop i):=by
 conv=>lhs;rw [←List.take_append_drop i l]
 rw [c8];simp [Nat.min_eq_left h]
theorem u3{l:List Int}{i:Nat}(h:i<l.length):V b l=V b (l.take i)+b^i*nth l i+b^(i+1)*V b (l.drop (i+1)):=by
 rw [iF l (i+1) (by omega),aR h]
theorem kG(hb:0<b){x y:List Int}(lx:b6 b x)(ly:b6 b y)(hl:x.length=y.length){i:Nat}(hi:i<x.length)(hd:x.drop (i+1)=y.drop (i+1))(h:nth x i<nth y i):V b x<V b y:=by
 rw [u3 hi,u3 (l:=y) (i:=i) (by omega),hd]
 have h1:=mF hb (lx.take i)
 have h2:=bH hb (ly.take i)
 rw [List.length_take,Nat.min_eq_left (by omega)]at h1
 have h3:b^i*(nth x i+1)≤b^i*nth y i:=Int.mul_le_mul_of_nonneg_left (by omega) (Int.le_of_lt (Int.pow_pos hb))
 rw [Int.mul_add]at h3
 omega
theorem j2(hb:1≤b):∀ {l:List Int},b6 b l→aG l=l→l ≠ []→b^(l.length-1)≤V b l
 | [],_,_,h=>absurd rfl h
 | [x],hl,hc,_=>by
  have h1:=(b6.cons.1 hl).1
  have h2:x≠0:=fun h=>by subst h;simp [aG]at hc
  simp [V];omega
 | x::y::l,hl,hc,_=>by
  have h1:=(b6.cons.1 hl).1
  have hc2:aG (y::l)=y::l:=by
   rw [aG]at hc
   split at hc
   ·cases hc
   ·exact(List.cons.inj hc).2
  have ih:=j2 hb (b6.cons.1 hl).2 hc2 (by simp)
  simp only [List.length_cons,Nat.add_sub_cancel]at ih ⊢
  rw [Int.pow_succ,V]
  have:=Int.mul_le_mul_of_nonneg_left ih (show 0≤b by omega)
  rw [Int.mul_comm b]at this
  omega
theorem cR:∀l:List Int,aG (aG l)=aG l
 | []=>rfl
 | x::l=>by
  have ih:=cR l
  rw [aG]
  split
  ·rfl
  ·rename_i h
   rw [aG,ih,if_neg h]
theorem gU(hb:1≤b){x y:List Int}(lx:b6 b x)(ly:b6 b y)(hy:aG y=y)(h:x.length<y.length):V b x<V b y:=by
 have h1:=mF (by omega) lx
 have h2:=j2 hb ly hy (by intro h0;rw [h0]at h;simp at h)
 have h3:b^x.length≤b^(y.length-1):=by
  obtain⟨k,hk⟩:∃k,y.length-1=x.length+k:=⟨y.length-1-x.length,by omega⟩
  rw [hk,Int.pow_add]
  have:1≤b^k:=Int.pow_pos (by omega)
  have:=Int.mul_le_mul_of_nonneg_left this (show 0≤b^x.length from Int.le_of_lt (Int.pow_pos (by omega)))
  simpa using this
 omega
end
def iG(x y:Int):Int:=if x<y then -1 else if y<x then 1 else 0
theorem lM{x y:Int}(h:x<y):iG x y = -1:=by simp [iG,h]
theorem lN{x y:Int}(h:y<x):iG x y=1:=by simp [iG,h];omega
theorem tH(x:Int):iG x x=0:=by simp [iG]
theorem Q9{x y:Int}:iG x y<0↔x<y:=by simp only [iG];split<;>(try split)<;>omega
theorem nB{x y:Int}:0≤iG x y↔y≤x:=by simp only [iG];split<;>(try split)<;>omega
section
variable {b:Nat}
def sz(b:Nat)(x:Int):Nat:=(a5 b x.natAbs).length
theorem sF(hb:2≤b)(x:Int):x.natAbs<b^sz b x:=by
 have h1:=mF (b:=(b:Int)) (by omega) (eN hb x.natAbs)
 rw [iT hb]at h1
 have h2:((b:Int)^(a5 b x.natAbs).length)=((b^(a5 b x.natAbs).length:Nat):Int):=by simp
 rw [h2]at h1
 unfold sz
 omega
theorem cX(hb:2≤b){x:Int}{k:Nat}(h:x.natAbs<b^k):sz b x≤k:=z7 hb h
theorem qA(hb:2≤b){m n:Nat}(h:m≤n):b^m≤b^n:=Nat.pow_le_pow_right (by omega) h
theorem pG(hb:2≤b){x y:Int}{k:Nat}(hx:sz b x≤k)(hy:sz b y≤k):sz b (x+y)≤k+1:=by
 refine cX hb ?_
 have h1:=Nat.lt_of_lt_of_le (sF hb x) (qA hb hx)
 have h2:=Nat.lt_of_lt_of_le (sF hb y) (qA hb hy)
 rw [Nat.pow_succ]
 have h3:b^k*2≤b^k*b:=Nat.mul_le_mul_left _ hb
 omega
theorem cZ(hb:2≤b){x y:Int}{k m:Nat}(hx:sz b x≤k)(hy:sz b y≤m):sz b (x*y)≤k+m:=by
 refine cX hb ?_
 have h1:=Nat.lt_of_lt_of_le (sF hb x) (qA hb hx)
 have h2:=Nat.lt_of_lt_of_le (sF hb y) (qA hb hy)
 rw [Int.natAbs_mul,Nat.pow_add]
 exact Nat.mul_lt_mul'' h1 h2
theorem nD(x:Int):sz b (-x)=sz b x:=by simp [sz]
theorem iH:sz b 0=0:=by simp [sz,jB]
theorem cQ(hb:2≤b){x y:Int}(h:x.natAbs≤y.natAbs):sz b x≤sz b y:=cX hb (Nat.lt_of_le_of_lt h (sF hb y))
end
theorem bA{α:Type}{l:List α}{n:Nat}(h:l.length=n):l.take n=l:=List.take_of_length_le (by omega)
theorem jC{α:Type}{l m:List α}{i:Nat}{x:α}(h:l.take i=m)(hi:i<l.length):(l.set i x).take (i+1)=m ++ [x]:=by
 subst h
 rw [List.take_succ_eq_append_getElem (by simpa using hi),fH (Nat.le_refl _)]
 simp
theorem oX{α β:Type}[Inhabited α]{l:List α}{f:α→β}{i:Nat}(h:i<l.length):(l.take (i+1)).map f=(l.take i).map f ++ [f (nth l i)]:=by
 rw [aU h];simp
theorem tI{α β:Type}[Inhabited α][Inhabited β]{f:α→β}(h:f default=default)(l:List α)(k:Nat):nth (l.map f) k=f (nth l k):=by
 unfold nth
 cases hk:l[k]? with
 | none=>simp [hk,h]
 | some x=>simp [hk]
theorem n4{t:Int}{α:Type}(f g:α→Int):∀l:List α,V t (l.map fun k=>f k+g k)=V t (l.map f)+V t (l.map g)
 | []=>by simp [V]
 | x::l=>by simp only [List.map_cons,V,n4 f g l];grind
theorem eY{t:Int}{α:Type}(c:Int)(f:α→Int):∀l:List α,V t (l.map fun k=>f k*c)=V t (l.map f)*c
 | []=>by simp [V]
 | x::l=>by simp only [List.map_cons,V,eY c f l];grind
theorem yC{x:List Int}{n:Nat}(h:x.length≤n):(List.range n).map (nth x)=x++List.replicate (n-x.length) 0:=by
 apply List.ext_getElem
 ·simp;omega
 ·intro i h1 h2
  simp at h1
  by_cases hi:i<x.length
  ·simp [List.getElem_append,hi,dP hi]
  ·simp [List.getElem_append,hi];exact gL (by omega)
theorem gV{t:Int}{x:List Int}{n:Nat}(h:x.length≤n):V t ((List.range n).map (nth x))=V t x:=by
 rw [yC h,c8,l9];simp
theorem rJ{N a b:Int}{A B:Int→Int}(h:∀t,N<t→a+t*A t=b+t*B t):a=b ∧ ∀t,max N 0<t→A t=B t:=by
 have l3:a=b:=by
  have h1:=h (max N 0+(b-a).natAbs+1) (by omega)
  generalize hT:max N 0+(b-a).natAbs+1=T at *
  have h2:b-a=T*(A T-B T):=by rw [Int.mul_sub];omega
  have h3:T∣b-a:=⟨_,h2⟩
  have h4:=Nat.eq_zero_of_dvd_of_lt (Int.natAbs_dvd_natAbs.2 h3) (by omega)
  omega
 refine⟨l3,fun t ht=>?_⟩
 have h1:=h t (by omega)
 have h2:t*A t=t*B t:=by omega
 exact Int.eq_of_mul_eq_mul_left (by omega) h2
theorem lO:∀(x y:List Int) (N:Int),(∀t,N<t→V t x=V t y)→aG x=aG y
 | [],[],_,_=>rfl
 | [],b::y,N,h=>by
  obtain⟨h1,h2⟩:=rJ (N:=N) (a:=0) (b:=b) (A:=fun _=>0) (B:=fun t=>V t y) (fun t ht=>by have:=h t ht;simp only [V]at this;omega)
  have:=lO [] y (max N 0) (fun t ht=>by have:=h2 t ht;simpa [V]using this)
  simp only [aG]at this ⊢
  rw [←this];simp [←h1]
 | a::x,[],N,h=>by
  obtain⟨h1,h2⟩:=rJ (N:=N) (a:=a) (b:=0) (A:=fun t=>V t x) (B:=fun _=>0) (fun t ht=>by have:=h t ht;simp only [V]at this;omega)
  have:=lO x [] (max N 0) (fun t ht=>by have:=h2 t ht;simpa [V]using this)
  simp only [aG]at this ⊢
  rw [this];simp [h1]
 | a::x,b::y,N,h=>by
  obtain⟨h1,h2⟩:=rJ (N:=N) (a:=a) (b:=b) (A:=fun t=>V t x) (B:=fun t=>V t y) (fun t ht=>h t ht)
  have:=lO x y (max N 0) h2
  simp only [aG]
  rw [this,h1]
theorem adh{x y:List Int}(h:∀t,V t x=V t y):aG x=aG y:=lO x y 0 fun t _=>h t
def iP(x y:List Int):List Int:=aG ((List.range (max x.length y.length)).map fun k=>nth x k+nth y k)
def dJ(x y:List Int):List Int:=aG ((List.range (max x.length y.length)).map fun k=>nth x k-nth y k)
def fC(x:List Int):List Int:=aG (x.map fun c => -c)
def aL(x:List Int)(c:Int):List Int:=aG (x.map fun a=>a*c)
def iI:List Int→List Int→List Int
 | [],_=>[]
 | a::x,y=>iP (y.map fun c=>c*a) (0::iI x y)
def bK(x y:List Int):List Int:=aG (iI x y)
theorem pH{t:Int}(x y:List Int):V t (iP x y)=V t x+V t y:=by
 rw [iP,cD,n4,gV (by omega),gV (by omega)]
theorem z8{t:Int}(x:List Int):V t (fC x) = - V t x:=by
 have:=eY (t:=t) (-1) id x
 rw [fC,cD]
 simp only [id_eq,Int.mul_neg,Int.mul_one,List.map_id_fun]at this
 exact this
theorem b7{t:Int}(x:List Int)(c:Int):V t (aL x c)=V t x*c:=by
 have:=eY (t:=t) c id x
 rw [aL,cD]
 simpa using this
theorem fS{t:Int}(x y:List Int):V t (dJ x y)=V t x-V t y:=by
 rw [dJ,cD]
 have h1:=n4 (t:=t) (fun k=>nth x k-nth y k) (nth y) (List.range (max x.length y.length))
 have h2:(fun k=>nth x k-nth y k+nth y k)=nth x:=by funext k;omega
 rw [h2,gV (by omega),gV (by omega)]at h1
 omega
theorem JA{t:Int}:∀x y:List Int,V t (iI x y)=V t x*V t y
 | [],y=>by simp [iI,V]
 | a::x,y=>by
  have:=eY (t:=t) a id y
  simp only [id_eq,List.map_id_fun]at this
  rw [iI,pH,this]
  simp only [V,JA x y]
  grind
theorem cK{t:Int}(x y:List Int):V t (bK x y)=V t x*V t y:=by rw [bK,cD,JA]
def Cn(x:List Int):Prop:=aG x=x
theorem Cn.iP(x y:List Int):Cn (iP x y):=cR _
theorem Cn.dJ(x y:List Int):Cn (dJ x y):=cR _
theorem Cn.fC(x:List Int):Cn (fC x):=cR _
theorem Cn.aL(x:List Int)(c:Int):Cn (aL x c):=cR _
theorem Cn.bK(x y:List Int):Cn (bK x y):=cR _
theorem Cn.cut(x:List Int):Cn (aG x):=cR _
theorem Cn.nil:Cn []:=rfl
theorem Cn.ext{x y:List Int}(hx:Cn x)(hy:Cn y)(h:∀t,V t x=V t y):x=y:=by rw [←hx,←hy];exact adh h
structure Bd(b s n:Nat)(x:List Int):Prop where
 len:x.length≤n
 sz:∀c∈x,sz b c≤s
theorem CX:∀(x:List Int) (c:Int),c∈aG x→c∈x
 | [],c,h=>h
 | a::x,c,h=>by
  rw [aG]at h
  split at h
  ·cases h
  ·rcases List.mem_cons.1 h with h1 | h1
   ·simp [h1]
   ·exact List.mem_cons_of_mem _ (CX x c h1)
section
variable {b s s' n n':Nat} {x y:List Int}
theorem Bd.mono(h:Bd b s n x)(hs:s≤s')(hn:n≤n'):Bd b s' n' x:=⟨Nat.le_trans h.len hn,fun c hc=>Nat.le_trans (h.sz c hc) hs⟩
theorem Bd.cut(h:Bd b s n x):Bd b s n (aG x):=⟨Nat.le_trans (bN x) h.len,fun c hc=>h.sz c (CX x c hc)⟩
theorem Bd.nth(h:Bd b s n x)(i:Nat):Pm.sz b (nth x i)≤s:=by
 by_cases hi:i<x.length
 ·exact h.sz _ (cP hi)
 ·rw [gL (by omega)]
  show Pm.sz b 0≤s
  rw [iH];omega
theorem Bd.iP(hb:2≤b)(hx:Bd b s n x)(hy:Bd b s n y):Bd b (s+1) n (iP x y):=by
 refine Bd.cut ⟨by have:=hx.len;have:=hy.len;simp;omega,fun c hc=>?_⟩
 simp only [List.mem_map]at hc
 obtain⟨k,_,rfl⟩:=hc
 exact pG hb (hx.nth k) (hy.nth k)
theorem Bd.dJ(hb:2≤b)(hx:Bd b s n x)(hy:Bd b s n y):Bd b (s+1) n (dJ x y):=by
 refine Bd.cut ⟨by have:=hx.len;have:=hy.len;simp;omega,fun c hc=>?_⟩
 simp only [List.mem_map]at hc
 obtain⟨k,_,rfl⟩:=hc
 rw [Int.sub_eq_add_neg]
 exact pG hb (hx.nth k) (by rw [nD];exact hy.nth k)
theorem Bd.fC(hx:Bd b s n x):Bd b s n (fC x):=by
 refine Bd.cut ⟨by simpa using hx.len,fun c hc=>?_⟩
 simp only [List.mem_map]at hc
 obtain⟨k,hk,rfl⟩:=hc
 rw [nD];exact hx.sz k hk
theorem Bd.aL(hb:2≤b)(hx:Bd b s n x){c:Int}(hc:Pm.sz b c≤s'):Bd b (s+s') n (aL x c):=by
 refine Bd.cut ⟨by simpa using hx.len,fun d hd=>?_⟩
 simp only [List.mem_map]at hd
 obtain⟨k,hk,rfl⟩:=hd
 exact cZ hb (hx.sz k hk) hc
theorem Bd.iI(hb:2≤b)(hy:Bd b s' n' y):∀ {x:List Int} {n:Nat},Bd b s n x→Bd b (s+s'+n) (n+n') (iI x y)
 | [],n,_=>⟨by simp [Pm.iI],by simp [Pm.iI]⟩
 | a::x,0,h=>by have:=h.len;simp at this
 | a::x,n+1,h=>by
  have h1:Bd b s n x:=⟨by have:=h.len;simpa using this,fun c hc=>h.sz c (List.mem_cons_of_mem _ hc)⟩
  have h2:=Bd.iI hb hy h1
  have h3:Bd b (s+s'+n) (n+1+n') (0::Pm.iI x y):=⟨by have:=h2.len;simp;omega,fun c hc=>by
   rcases List.mem_cons.1 hc with h4 | h4
   ·rw [h4,iH];omega
   ·exact h2.sz c h4⟩
  have h4:Bd b (s+s'+n) (n+1+n') (y.map fun c=>c*a):=⟨by have:=hy.len;simp;omega,fun d hd=>by
   simp only [List.mem_map]at hd
   obtain⟨k,hk,rfl⟩:=hd
   have:=cZ hb (hy.sz k hk) (h.sz a (by simp))
   omega⟩
  have:=Bd.iP hb h4 h3
  rw [Pm.iI]
  exact this.mono (by omega) (by omega)
theorem Bd.bK(hb:2≤b)(hx:Bd b s n x)(hy:Bd b s' n' y):Bd b (s+s'+n) (n+n') (bK x y):=(Bd.iI hb hy hx).cut
end
def nb(n:Nat):Nat:=if n=0 then 0 else n.log2+1
theorem mA{n k:Nat}:nb n≤k↔n<2^k:=by
 unfold nb
 split
 ·rename_i h;subst h;simp;exact Nat.pow_pos (by decide)
 ·rename_i h;rw [←Nat.log2_lt h];omega
theorem CY{n k:Nat}(h:n/2^k≠0):nb n=k+nb (n/2^k):=by
 apply Nat.le_antisymm
 ·rw [mA,Nat.pow_add]
  have h1:n/2^k<2^nb (n/2^k):=mA.1 (Nat.le_refl _)
  have h2:=Nat.lt_mul_of_div_lt h1 (Nat.pow_pos (by decide))
  rw [Nat.mul_comm]at h2
  exact h2
 ·have h3:∀m,nb n≤m→k+nb (n/2^k)≤m:=by
   intro m hm
   rw [mA]at hm
   have hkm:k≤m:=by
    rcases Nat.lt_or_ge m k with h4 | h4
    ·exfalso;apply h;apply Nat.div_eq_of_lt;exact Nat.lt_of_lt_of_le hm (Nat.pow_le_pow_right (by decide) (by omega))
    ·exact h4
   have h5:nb (n/2^k)≤m-k:=by
    rw [mA]
    apply Nat.div_lt_of_lt_mul
    rw [←Nat.pow_add,show k+(m-k)=m by omega];exact hm
   omega
  exact h3 _ (Nat.le_refl _)
end Pm
namespace Pm
open Go
theorem RA{a b s:Nat}(h:2^s∣a)(hb:b<2^s):a ||| b=a+b:=by
 obtain⟨q,rfl⟩:=h
 exact(Nat.two_pow_add_eq_or_of_lt hb q).symm
theorem LW{a b s:Nat}(h:2^s∣a)(hb:b<2^s)(l3:a+b<4294967296):mK .u32 a b=((a+b:Nat):Int):=by
 have h1:((BitVec.ofInt 32 (a:Int)) ||| (BitVec.ofInt 32 (b:Int))).toNat=a+b:=by
  rw [BitVec.toNat_or,BitVec.toNat_ofInt,BitVec.toNat_ofInt,←RA h hb]
  congr 1<;>omega
 show IntKind.u32.wrap (((BitVec.ofInt 32 (a:Int)) ||| (BitVec.ofInt 32 (b:Int))).toNat:Int)=_
 rw [h1]
 simp only [IntKind.wrap,IntKind.bits,IntKind.signed]
 simp
 omega
theorem LX{a b s:Nat}(h:2^s∣a)(hb:b<2^s)(l3:a+b<18446744073709551616):mK .u64 a b=((a+b:Nat):Int):=by
 have h1:((BitVec.ofInt 64 (a:Int)) ||| (BitVec.ofInt 64 (b:Int))).toNat=a+b:=by
  rw [BitVec.toNat_or,BitVec.toNat_ofInt,BitVec.toNat_ofInt,←RA h hb]
  congr 1<;>omega
 show IntKind.u64.wrap (((BitVec.ofInt 64 (a:Int)) ||| (BitVec.ofInt 64 (b:Int))).toNat:Int)=_
 rw [h1]
 simp only [IntKind.wrap,IntKind.bits,IntKind.signed]
 simp
 omega
theorem u4(k:IntKind)(a b:Int):mK k a b=mK k b a:=by unfold mK;rw [BitVec.or_comm]
theorem W1{a b:Int}(s:Nat)(ha:0≤a)(hb0:0≤b)(h:(2^s:Int)∣a)(hb:b<2^s)(l3:a+b<4294967296):mK .u32 a b=a+b∧mK .u32 b a=a+b:=by
 obtain⟨x,rfl⟩:=Int.eq_ofNat_of_zero_le ha
 obtain⟨y,rfl⟩:=Int.eq_ofNat_of_zero_le hb0
 have h1:2^s∣x:=by exact_mod_cast h
 have h2:y<2^s:=by exact_mod_cast hb
 have:=LW h1 h2 (by omega)
 rw [u4 .u32 (y:Int)]
 refine⟨?_,?_⟩<;>rw [this]<;>simp
theorem tJ{a b:Int}(s:Nat)(ha:0≤a)(hb0:0≤b)(h:(2^s:Int)∣a)(hb:b<2^s)(l3:a+b<18446744073709551616):mK .u64 a b=a+b∧mK .u64 b a=a+b:=by
 obtain⟨x,rfl⟩:=Int.eq_ofNat_of_zero_le ha
 obtain⟨y,rfl⟩:=Int.eq_ofNat_of_zero_le hb0
 have h1:2^s∣x:=by exact_mod_cast h
 have h2:y<2^s:=by exact_mod_cast hb
 have:=LX h1 h2 (by omega)
 rw [u4 .u64 (y:Int)]
 refine⟨?_,?_⟩<;>rw [this]<;>simp
end Pm
namespace Pm
structure KD(b W top next head x2 X Y:Int):Prop where
 b0:2≤b
 W0:1≤W
 t0:1≤top
 n0:0≤next
 h0:0≤head
 x0:0≤x2
 nb:next<b
 xb:x2<b
 Yl:(top*b+next)*W≤Y
 Yu:Y<(top*b+next+1)*W
 Xl:(head*b+x2)*W≤X
 Xu:X<(head*b+x2+1)*W
 lt:X<b*Y
section
variable {b W top next head x2 X Y:Int} (h:KD b W top next head x2 X Y)
include h
theorem KD.Y0:0<Y:=by
 have h1:1≤top*b+next:=by
  have:=Int.mul_le_mul_of_nonneg_right h.t0 (show 0≤b by have:=h.b0;omega)
  have:=h.n0;have:=h.b0;omega
 have:=Int.mul_le_mul h1 h.W0 (by decide) (by omega)
 have:=h.Yl;omega
theorem KD.first:X<(head/top+1)*Y:=by
 have h1:head+1≤(head/top+1)*top:=by
  have:=Int.lt_ediv_add_one_mul_self head (show 0<top by have:=h.t0;omega)
  omega
 have hg:0≤head/top+1:=by have:=Int.ediv_nonneg h.h0 (show 0≤top by have:=h.t0;omega);omega
 have hbW:0≤b*W:=Int.mul_nonneg (by have:=h.b0;omega) (by have:=h.W0;omega)
 have h2:=Int.mul_le_mul_of_nonneg_right h1 hbW
 have h3:(head*b+x2+1)*W≤(head+1)*(b*W):=by
  have:(head+1)*(b*W)=(head*b+b)*W:=by grind
  rw [this]
  exact Int.mul_le_mul_of_nonneg_right (by have:=h.xb;omega) (by have:=h.W0;omega)
 have h4:top*(b*W)≤Y:=by
  have:top*(b*W)≤(top*b+next)*W:=by
   have e:top*(b*W)=(top*b)*W:=by grind
   rw [e]
   exact Int.mul_le_mul_of_nonneg_right (by have:=h.n0;omega) (by have:=h.W0;omega)
  have:=h.Yl;omega
 have h5:(head/top+1)*top*(b*W)≤(head/top+1)*Y:=by
  rw [Int.mul_assoc];exact Int.mul_le_mul_of_nonneg_left h4 hg
 have:=h.Xu;omega
theorem KD.big{g:Int}(hg:b≤g):X<g*Y:=by
 have:=Int.mul_le_mul_of_nonneg_right hg (Int.le_of_lt h.Y0)
 have:=h.lt;omega
theorem KD.over{g r:Int}(hg:0≤g)(hr:g*top+r=head)(ho:r*b+x2<g*next):X<g*Y:=by
 have h1:head*b+x2+1≤g*(top*b+next):=by
  have:g*(top*b+next)=(g*top)*b+g*next:=by grind
  have h2:g*top=head-r:=by omega
  have h3:(head-r)*b=head*b-r*b:=by grind
  rw [this,h2,h3];omega
 have h2:=Int.mul_le_mul_of_nonneg_right h1 (show 0≤W by have:=h.W0;omega)
 have h3:=Int.mul_le_mul_of_nonneg_left h.Yl hg
 rw [←Int.mul_assoc]at h3
 have:=h.Xu;omega
theorem KD.aiQ{g r:Int}(hg:0≤g)(BH:g<b)(hr:g*top+r=head)(hn:g*next≤r*b+x2):g*Y<X+Y:=by
 have h1:g*(top*b+next)≤head*b+x2:=by
  have:g*(top*b+next)=(g*top)*b+g*next:=by grind
  have h2:g*top=head-r:=by omega
  have h3:(head-r)*b=head*b-r*b:=by grind
  rw [this,h2,h3];omega
 have h2:=Int.mul_le_mul_of_nonneg_right h1 (show 0≤W by have:=h.W0;omega)
 have h3:g*Y≤g*((top*b+next)*W)+g*W:=by
  have h4:Y≤(top*b+next)*W+W:=by have:=h.Yu;grind
  have:=Int.mul_le_mul_of_nonneg_left h4 hg
  rw [Int.mul_add]at this;exact this
 have h5:g*W<b*W:=Int.mul_lt_mul_of_pos_right BH (by have:=h.W0;omega)
 have h6:b*W≤Y:=by
  have h7:b*W≤(top*b+next)*W:=Int.mul_le_mul_of_nonneg_right (by
   have:=Int.mul_le_mul_of_nonneg_right h.t0 (show 0≤b by have:=h.b0;omega)
   have:=h.n0;omega) (by have:=h.W0;omega)
  have:=h.Yl;omega
 rw [←Int.mul_assoc]at h3
 have:=h.Xl;omega
theorem KD.aiR{g r:Int}(hg:0≤g)(BH:g<b)(hr:b≤r):g*next≤r*b+x2:=by
 have h1:g*next≤b*b:=Int.mul_le_mul (by omega) (by have:=h.nb;omega) h.n0 (by have:=h.b0;omega)
 have h2:b*b≤r*b:=Int.mul_le_mul_of_nonneg_right hr (by have:=h.b0;omega)
 have:=h.x0;omega
theorem KD.RB{g r:Int}(hh:head≤top*b+b-1)(he:g*top+r=head)(hr:b≤r):g<b:=by
 rcases Int.lt_or_le g b with h1 | h1
 ·exact h1
 ·have:=Int.mul_le_mul_of_nonneg_right h1 (show 0≤top by have:=h.t0;omega)
  rw [Int.mul_comm b]at this
  omega
theorem KD.right{g:Int}(h1:X<(g+1)*Y)(h2:0≤X-g*Y):g=X/Y∧X-g*Y=X%Y:=by
 have hY:=h.Y0
 have h3:X/Y=g:=by
  have e:(g+1)*Y=g*Y+Y:=by grind
  rw [Int.ediv_eq_iff_of_pos hY]
  constructor
  ·omega
  ·omega
 refine⟨h3.symm,?_⟩
 have:=Int.emod_def X Y
 rw [h3,Int.mul_comm]at this
 omega
theorem KD.aiS{g:Int}(h1:g*Y<X+Y)(h2:X-g*Y<0):g-1=X/Y∧X-g*Y+Y=X%Y:=by
 have hY:=h.Y0
 have e:(g-1)*Y=g*Y-Y:=by grind
 have e2:(g-1+1)*Y=g*Y:=by grind
 have:=h.right (g:=g-1) (by rw [e2];omega) (by rw [e];omega)
 rw [e]at this
 exact⟨this.1,by have:=this.2;omega⟩
end
theorem RD{d e x x':Int}(hd:0<d)(he:0<e)(LY:d*e=4294967296)(hx:0≤x∧x<4294967296)(UY:0≤x'∧x'<4294967296) :
  d*(((x+4294967296*x')/d)%4294967296)=x-x%d+4294967296*(x'%d)∧(0≤((x+4294967296*x')/d)%4294967296∧((x+4294967296*x')/d)%4294967296<4294967296):=by
 have h1:(x+4294967296*x')/d=x/d+e*x':=by
  have:x+4294967296*x'=x+d*(e*x'):=by rw [←LY];grind
  rw [this,Int.add_mul_ediv_left _ _ (by omega)]
 have h2:x/d<e:=Int.ediv_lt_of_lt_mul hd (by rw [Int.mul_comm,LY];exact hx.2)
 have h3:0≤x/d:=Int.ediv_nonneg hx.1 (by omega)
 have h4:e*x'=e*(x'%d)+4294967296*(x'/d):=by
  have:=Int.mul_ediv_add_emod x' d
  calc e*x'=e*(d*(x'/d)+x'%d):=by rw [this]
   _=e*(x'%d)+(d*e)*(x'/d):=by grind
   _=e*(x'%d)+4294967296*(x'/d):=by rw [LY]
 have h5:0≤x'%d:=Int.emod_nonneg _ (by omega)
 have h6:x'%d<d:=Int.emod_lt_of_pos _ hd
 have h7:e*(x'%d)+e≤4294967296:=by
  have:=Int.mul_le_mul_of_nonneg_left (show x'%d+1≤d by omega) (show 0≤e by omega)
  rw [Int.mul_add,Int.mul_comm e d,LY]at this;omega
 have h8:0≤e*(x'%d):=Int.mul_nonneg (by omega) h5
 have h9:((x+4294967296*x')/d)%4294967296=x/d+e*(x'%d):=by
  rw [h1,h4,←Int.add_assoc,Int.add_mul_emod_self_left,Int.emod_eq_of_lt (by omega) (by omega)]
 rw [h9]
 refine⟨?_,by omega,by omega⟩
 have h10:=Int.mul_ediv_add_emod x d
 have h11:d*(e*(x'%d))=4294967296*(x'%d):=by rw [←Int.mul_assoc,LY]
 rw [Int.mul_add,h11];omega
theorem aiT{m:Nat}{D y:List Int}(hD:m+3≤D.length)(hy:y.length=m+2)(lD:b6 4294967296 D)(ly:b6 4294967296 y)(ht:1≤nth y (m+1))(jH:V 4294967296 (D.take (m+3))<4294967296*V 4294967296 y) :
  KD 4294967296 (4294967296^m) (nth y (m+1)) (nth y m) (nth D (m+2)*4294967296+nth D (m+1)) (nth D m) (V 4294967296 (D.take (m+3))) (V 4294967296 y)∧nth D (m+2)≤nth y (m+1):=by
 have hp:(0:Int)<4294967296^m:=Int.pow_pos (by decide)
 have y0:=bH (by decide) (ly.take m)
 have y1:=mF (by decide) (ly.take m)
 rw [List.length_take,Nat.min_eq_left (by omega)]at y1
 have x0:=bH (by decide) (lD.take m)
 have x1:=mF (by decide) (lD.take m)
 rw [List.length_take,Nat.min_eq_left (by omega)]at x1
 have hY:V 4294967296 y=V 4294967296 (y.take m)+4294967296^m*(nth y m+4294967296*nth y (m+1)):=by
  rw [←aV (l:=y) (i:=m+1+1) (by omega),aR (by omega),aR (by omega),Int.pow_succ];grind
 have hX:V 4294967296 (D.take (m+3))=V 4294967296 (D.take m)+4294967296^m*(nth D m+4294967296*(nth D (m+1)+4294967296*nth D (m+2))):=by
  rw [show m+3=m+1+1+1 from rfl,aR (by omega),aR (by omega),aR (by omega),Int.pow_succ,Int.pow_succ];grind
 have l1:=ly.nth (i:=m) (by omega)
 have l2:=ly.nth (i:=m+1) (by omega)
 have k0:=lD.nth (i:=m) (by omega)
 have k1:=lD.nth (i:=m+1) (by omega)
 have k2:=lD.nth (i:=m+2) (by omega)
 generalize nth y m=ya at *
 generalize nth y (m+1)=yb at *
 generalize nth D m=xa at *
 generalize nth D (m+1)=xb at *
 generalize nth D (m+2)=xc at *
 generalize V 4294967296 (y.take m)=yr at *
 generalize V 4294967296 (D.take m)=xr at *
 generalize V 4294967296 (D.take (m+3))=X at *
 generalize V 4294967296 y=Y at *
 generalize (4294967296:Int)^m=W at *
 have e1:(yb*4294967296+ya)*W=W*(ya+4294967296*yb):=by grind
 have e2:(yb*4294967296+ya+1)*W=W*(ya+4294967296*yb)+W:=by grind
 have e3:((xc*4294967296+xb)*4294967296+xa)*W=W*(xa+4294967296*(xb+4294967296*xc)):=by grind
 have e4:((xc*4294967296+xb)*4294967296+xa+1)*W=W*(xa+4294967296*(xb+4294967296*xc))+W:=by grind
 refine⟨⟨by decide,by omega,ht,l1.1,by omega,k0.1,l1.2,k0.2,by omega,by omega,by omega,by omega,jH⟩,?_⟩
 rcases Int.lt_or_le yb xc with h | h
 ·exfalso
  have h1:W*(4294967296*(4294967296*(yb+1)))≤W*(xa+4294967296*(xb+4294967296*xc)):=Int.mul_le_mul_of_nonneg_left (by omega) (by omega)
  have h2:Y<W*(4294967296*(yb+1)):=by
   have:=Int.mul_le_mul_of_nonneg_left (show ya+4294967296*yb+1≤4294967296*(yb+1)by omega) (show 0≤W by omega)
   rw [Int.mul_add]at this
   omega
  have h3:W*(4294967296*(4294967296*(yb+1)))=4294967296*(W*(4294967296*(yb+1))):=by grind
  omega
 ·exact h
theorem RF{g w c x β:Int}(hg:0≤g∧g<4294967296)(hw:0≤w∧w<4294967296)(hc:0≤c∧c<4294967296)(hx:0≤x∧x<4294967296)(hβ:β=0∨β=1) :
  (0≤g*w+c∧g*w+c<18446744069414584321)∧(0≤(g*w+c)/4294967296∧(g*w+c)/4294967296<4294967296) ∧
  ∃β',(β'=0∨β'=1)∧((x-(g*w+c)%4294967296-β)%18446744073709551616)/9223372036854775808=β' ∧
   ((x-(g*w+c)%4294967296-β)%18446744073709551616)%4294967296=x-(g*w+c)%4294967296-β+β'*4294967296:=by
 have h1:0≤g*w:=Int.mul_nonneg hg.1 hw.1
 have h2:g*w≤4294967295*4294967295:=Int.mul_le_mul (by omega) (by omega) hw.1 (by omega)
 generalize g*w=p at *
 refine⟨by omega,by omega,?_⟩
 rcases Int.lt_or_le (x-(p+c)%4294967296-β) 0 with h | h
 ·exact⟨1, .inr rfl,by omega,by omega⟩
 ·exact⟨0, .inl rfl,by omega,by omega⟩
theorem CZ(x y:List Int):(dJ x y).length≤max x.length y.length:=Nat.le_trans (bN _) (by simp)
theorem lP(x:List Int)(c:Int):(aL x c).length≤x.length:=Nat.le_trans (bN _) (by simp)
def lead(x:List Int):Int:=nth x (x.length-1)
theorem pI{x:List Int}(h:0<x.length):x=x.take (x.length-1) ++ [lead x]:=by
 have:=aU (l:=x) (i:=x.length-1) (by omega)
 rw [show x.length-1+1=x.length by omega,List.take_length]at this
 exact this
theorem dR{x:List Int}(hc:Cn x)(h:0<x.length):lead x≠0:=by
 intro h0
 have e:=pI h
 rw [h0]at e
 have h1:=gT (x.take (x.length-1))
 rw [←e,show aG x=x from hc]at h1
 have h2:=bN (x.take (x.length-1))
 rw [←h1,List.length_take]at h2
 omega
theorem z9{x:List Int}(h:0<x.length)(t:Int):V t x=V t (x.take (x.length-1))+t^(x.length-1)*lead x:=by
 conv=>lhs;rw [pI h]
 rw [c8,kD,List.length_take,Nat.min_eq_left (by omega)]
def nE(i:Nat)(x:Int):List Int:=List.replicate i 0 ++ [x]
theorem kX(t:Int)(i:Nat)(x:Int):V t (nE i x)=t^i*x:=by rw [nE,c8,l9,kD];simp
def qB(b r:List Int)(i:Nat):Int:=if r.length=b.length+i then lead r else 0
def psq(c x:Int)(i:Nat)(q:List Int):List Int:=iP (aL q c) (nE i x)
def rC(b:List Int)(c x:Int)(i:Nat)(r:List Int):List Int:=dJ (aL r c) (bK (nE i x) b)
def ps(b:List Int)(c:Int):Nat→List Int→List Int→List Int × List Int
 | 0,q,r=>(q,r)
 | i+1,q,r=>ps b c i (psq c (qB b r i) i q) (rC b c (qB b r i) i r)
theorem aiV(t:Int)(b:List Int)(c:Int):∀(k:Nat) (q r:List Int),V t (ps b c k q r).1*V t b+V t (ps b c k q r).2=c^k*(V t q*V t b+V t r)
 | 0,q,r=>by simp [ps]
 | i+1,q,r=>by
  rw [ps,aiV t b c i]
  simp only [psq,rC,pH,fS,b7,cK,kX,Int.pow_succ]
  grind
theorem tK{b r:List Int}{i:Nat}(hb:0<b.length)(hr:r.length≤b.length+i):(rC b (lead b) (qB b r i) i r).length≤b.length-1+i:=by
 rcases Nat.lt_or_ge r.length (b.length+i)with h | h
 ·have hx:qB b r i=0:=by rw [qB,if_neg (by omega)]
  have e:rC b (lead b) (qB b r i) i r=aL r (lead b):=Cn.ext (Cn.dJ _ _) (Cn.aL _ _) fun t=>by
   rw [hx,rC,fS,cK,kX];simp
  rw [e]
  have:=lP r (lead b);omega
 ·have RG:r.length=b.length+i:=by omega
  have hx:qB b r i=lead r:=by rw [qB,if_pos RG]
  have e:rC b (lead b) (qB b r i) i r=dJ (aL (r.take (r.length-1)) (lead b)) (List.replicate i 0++(b.take (b.length-1)).map fun v=>v*lead r):=Cn.ext (Cn.dJ _ _) (Cn.dJ _ _) fun t=>by
   have h1:=z9 (x:=r) (by omega) t
   have h2:=z9 (x:=b) hb t
   have h3:=eY (t:=t) (lead r) id (b.take (b.length-1))
   simp only [id_eq,List.map_id_fun]at h3
   rw [hx,rC,fS,fS,cK,kX,b7,b7,c8,l9,h3,List.length_replicate,h1,h2,show r.length-1=i+(b.length-1)by omega,Int.pow_add]
   grind
  rw [e]
  refine Nat.le_trans (CZ _ _) ?_
  have h4:=lP (r.take (r.length-1)) (lead b)
  rw [List.length_take]at h4
  simp only [List.length_append,List.length_replicate,List.length_map,List.length_take]
  omega
theorem RH{b:List Int}(hb:0<b.length):∀(k:Nat) (q r:List Int),r.length≤b.length-1+k→(ps b (lead b) k q r).2.length≤b.length-1
 | 0,q,r,h=>by simpa [ps]using h
 | i+1,q,r,h=>by
  rw [ps]
  exact RH hb i _ _ (tK hb (by omega))
theorem aaR{b:List Int}{c:Int}:∀(k:Nat) (q r:List Int),Cn q→Cn r→Cn (ps b c k q r).1∧Cn (ps b c k q r).2
 | 0,q,r,h1,h2=>⟨h1,h2⟩
 | i+1,q,r,_,_=>by rw [ps];exact aaR i _ _ (Cn.iP _ _) (Cn.dJ _ _)
theorem iJ{b s n:Nat}{x:List Int}(h:Bd b s n x):sz b (lead x)≤s:=h.nth _
theorem Bd.nE{b s:Nat}{x:Int}(h:Pm.sz b x≤s)(i:Nat):Bd b s (i+1) (Pm.nE i x):=⟨by simp [Pm.nE],fun c hc=>by
 simp only [Pm.nE,List.mem_append,List.mem_replicate,List.mem_singleton]at hc
 rcases hc with ⟨_,rfl⟩ | rfl
 ·rw [iH];omega
 ·exact h⟩
theorem RJ{b s n i:Nat}{y r:List Int}(h:Bd b s n r):sz b (qB y r i)≤s:=by
 rw [qB];split
 ·exact iJ h
 ·rw [iH];omega
theorem u5{B s s' N i:Nat}{b q r:List Int}(hB:2≤B)(hb:Bd B s' N b)(hq:Bd B s (N+N) q)(hr:Bd B s (N+N) r)(hi:i<N) :
  Bd B (s+s'+N+1) (N+N) (psq (lead b) (qB b r i) i q)∧Bd B (s+s'+N+1) (N+N) (rC b (lead b) (qB b r i) i r):=by
 have hc:=iJ hb
 have hx:=RJ (y:=b) (i:=i) hr
 have hs:=Bd.nE hx i
 constructor
 ·exact(Bd.iP hB ((hq.aL hB hc).mono (s':=s+s') (n':=N+N) (by omega) (by omega)) (hs.mono (by omega) (by omega))).mono (by omega) (by omega)
 ·exact(Bd.dJ hB ((hr.aL hB hc).mono (s':=s+s'+N) (n':=N+N) (by omega) (by omega)) ((hs.bK hB hb).mono (by omega) (by omega))).mono (by omega) (by omega)
theorem RK{B s' N:Nat}{b:List Int}(hB:2≤B)(hb:Bd B s' N b):∀(k s:Nat) (q r:List Int),k≤N→Bd B s (N+N) q→Bd B s (N+N) r→Bd B (s+k*(s'+N+1)) (N+N) (ps b (lead b) k q r).1∧Bd B (s+k*(s'+N+1)) (N+N) (ps b (lead b) k q r).2
 | 0,s,q,r,_,hq,hr=>⟨hq.mono (by omega) (by omega),hr.mono (by omega) (by omega)⟩
 | i+1,s,q,r,hk,hq,hr=>by
  obtain⟨h1,h2⟩:=u5 hB hb hq hr (show i<N by omega)
  obtain⟨h3,h4⟩:=RK hB hb i (s+s'+N+1) _ _ (by omega) h1 h2
  rw [ps,Nat.add_mul,Nat.one_mul]
  exact⟨h3.mono (by omega) (by omega),h4.mono (by omega) (by omega)⟩
def gM(a b:List Int):Nat:=a.length+1-b.length
def sG(a b:List Int):List Int × List Int:=ps b (lead b) (gM a b) [] a
theorem RL(t:Int)(a b:List Int):V t (sG a b).1*V t b+V t (sG a b).2=lead b^gM a b*V t a:=by
 rw [sG,aiV];simp [V]
theorem AA{a b:List Int}(hb:0<b.length):(sG a b).2.length≤b.length-1:=RH hb _ _ _ (by unfold gM;omega)
theorem u6{a b:List Int}(ha:Cn a):Cn (sG a b).1∧Cn (sG a b).2:=aaR _ _ _ Cn.nil ha
theorem C0(x y:List Int):(iP x y).length≤max x.length y.length:=Nat.le_trans (bN _) (by simp)
theorem yD:∀(x y:List Int),0<y.length→(iI x y).length≤x.length+y.length-1
 | [],y,_=>by simp [iI]
 | a::x,y,h=>by
  have ih:=yD x y h
  have h1:=C0 (y.map fun c=>c*a) (0::iI x y)
  simp only [List.length_map,List.length_cons]at h1
  rw [iI]
  simp only [List.length_cons]
  omega
theorem u7{x y:List Int}(h:0<y.length):(bK x y).length≤x.length+y.length-1:=Nat.le_trans (bN _) (yD x y h)
theorem C1(x:List Int):bK x [] = []:=Cn.ext (Cn.bK _ _) Cn.nil fun t=>by rw [cK];simp [V]
theorem C2{x y:List Int}(cx:Cn x)(cy:Cn y)(hx:0<x.length)(hy:0<y.length):∃w:List Int,w.length=x.length+y.length-2∧bK x y=w ++ [lead x*lead y]:=by
 have lx:=dR cx hx
 have ly:=dR cy hy
 obtain⟨u,hu⟩:∃u,u=iP (bK (y.take (y.length-1)) x) (bK (nE (y.length-1) (lead y)) (x.take (x.length-1))):=⟨_,rfl⟩
 have hul:u.length≤x.length+y.length-2:=by
  have h1:=u7 (x:=y.take (y.length-1)) (y:=x) hx
  rw [List.length_take]at h1
  have h2:(bK (nE (y.length-1) (lead y)) (x.take (x.length-1))).length≤x.length+y.length-2:=by
   rcases Nat.eq_zero_or_pos (x.take (x.length-1)).length with h | h
   ·have:x.take (x.length-1) = []:=List.eq_nil_of_length_eq_zero h
    rw [this,C1];simp
   ·have:=u7 (x:=nE (y.length-1) (lead y)) h
    simp only [nE,List.length_append,List.length_replicate,List.length_singleton,List.length_take]at this ⊢
    omega
  have h3:=C0 (bK (y.take (y.length-1)) x) (bK (nE (y.length-1) (lead y)) (x.take (x.length-1)))
  rw [←hu]at h3
  omega
 refine⟨(List.range (x.length+y.length-2)).map (nth u),by simp,?_⟩
 have wV:lead x*lead y≠0:=Int.mul_ne_zero lx ly
 refine Cn.ext (Cn.bK _ _) (fA wV _) fun t=>?_
 rw [c8,gV hul,kD,hu,pH,cK,cK,cK,kX,z9 hx,z9 hy]
 simp only [List.length_map,List.length_range]
 rw [show x.length+y.length-2=(x.length-1)+(y.length-1)by omega,Int.pow_add]
 grind
theorem gW{x y:List Int}(cx:Cn x)(cy:Cn y)(hx:0<x.length)(hy:0<y.length):(bK x y).length=x.length+y.length-1:=by
 obtain⟨w,h1,h2⟩:=C2 cx cy hx hy
 rw [h2,List.length_append,h1,List.length_singleton];omega
theorem rK{x y:List Int}(cx:Cn x)(cy:Cn y)(hx:0<x.length)(hy:0<y.length):lead (bK x y)=lead x*lead y:=by
 obtain⟨w,h1,h2⟩:=C2 cx cy hx hy
 rw [h2,lead,List.length_append,List.length_singleton,Nat.add_sub_cancel,dP (by simp)]
 simp
theorem yE{u y h:List Int}(cu:Cn u)(cy:Cn y)(hy:0<y.length)(e:∀t,V t u=V t y*V t h)(hl:u.length<y.length):u = []:=by
 have e2:u=bK y (aG h):=Cn.ext cu (Cn.bK _ _) fun t=>by rw [cK,cD,e t]
 rcases Nat.eq_zero_or_pos (aG h).length with h0 | h0
 ·have:aG h = []:=List.eq_nil_of_length_eq_zero h0
  rw [e2,this,C1]
 ·have:=gW cy (Cn.cut h) hy h0
  rw [←e2]at this;omega
theorem qC(i:Nat):nth ([]:List Int) i=0:=gL (by simp)
theorem n5(a:Int)(l:List Int):nth (a::l) 0=a:=rfl
theorem iZ(a:Int)(l:List Int)(i:Nat):nth (a::l) (i+1)=nth l i:=by simp [nth]
theorem iK:∀(x:List Int) (i:Nat),nth (aG x) i=nth x i
 | [],i=>rfl
 | a::l,i=>by
  rw [aG]
  split
  ·rename_i h
   cases i with
   | zero=>rw [qC,n5,h.2]
   | succ i=>rw [iZ,←iK l i,h.1,qC,qC]
  ·cases i with
   | zero=>rfl
   | succ i=>rw [iZ,iZ,iK l i]
theorem C3(x y:List Int)(i:Nat):nth (iP x y) i=nth x i+nth y i:=by
 rw [iP,iK]
 rcases Nat.lt_or_ge i (max x.length y.length)with h | h
 ·rw [dP (by simpa using h)];simp
 ·rw [gL (by simpa using h),gL (l:=x) (by omega),gL (l:=y) (by omega)];rfl
theorem gN(c:Int)(x:List Int)(i:Nat):nth (x.map (· * c)) i=nth x i*c:=tI (f:=fun v=>v*c) (Int.zero_mul c) x i
theorem G0(c:Int)(x:List Int)(i:Nat):nth (aL x c) i=nth x i*c:=by rw [aL,iK];exact gN c x i
theorem u9(k:Int)(x y:List Int):nth (bK (k::x) y) 0=nth y 0*k:=by
 rw [bK,iK,iI,C3,n5,gN,Int.add_zero]
theorem nF(k:Int)(x y:List Int)(i:Nat):nth (bK (k::x) y) (i+1)=nth y (i+1)*k+nth (bK x y) i:=by
 rw [bK,iK,iI,C3,iZ,gN,bK,iK]
theorem yF(x y:List Int):bK x y=bK y x:=Cn.ext (Cn.bK _ _) (Cn.bK _ _) fun t=>by rw [cK,cK,Int.mul_comm]
def Dv(d:Nat)(x:List Int):Prop:=∀i,(d:Int)∣nth x i
theorem Dv.mem{d:Nat}{x:List Int}(h:Dv d x):∀c∈x,(d:Int)∣c:=fun c hc=>by
 obtain⟨i,hi,rfl⟩:=List.getElem_of_mem hc
 rw [←dP hi];exact h i
theorem Dv.of{d:Nat}{x:List Int}(h:∀c∈x,(d:Int)∣c):Dv d x:=fun i=>by
 rcases Nat.lt_or_ge i x.length with h1 | h1
 ·exact h _ (cP h1)
 ·rw [gL h1];exact Int.dvd_zero _
theorem Dv.cons{d:Nat}{k:Int}{x:List Int}(h1:(d:Int)∣k)(h2:Dv d x):Dv d (k::x):=fun i=>by
 cases i with
 | zero=>exact h1
 | succ i=>rw [iZ];exact h2 i
theorem Dv.nil(d:Nat):Dv d []:=fun i=>by rw [qC];exact Int.dvd_zero _
theorem Dv.trans{d e:Nat}{x:List Int}(h:e∣d)(h2:Dv d x):Dv e x:=fun i=>Int.dvd_trans (Int.ofNat_dvd.2 h) (h2 i)
theorem JB:∀(n d:Nat) (x y:List Int),d+x.length+y.length≤n→0<d→Dv d (bK x y)→(∀e:Nat,e∣d→Dv e y→e=1)→Dv d x
 | n,d,[],y,_,_,_,_=>Dv.nil d
 | n,d,k::x,[],_,_,_,h=>by
  have:=h d (Nat.dvd_refl d) (Dv.nil d)
  subst this
  exact fun i=>Int.one_dvd _
 | 0,d,k::x,l::y,hn,_,_,_=>by simp at hn
 | n+1,d,k::x,l::y,hn,hd,hp,h=>by
  simp only [List.length_cons]at hn
  have h0:=hp 0
  rw [u9,n5]at h0
  obtain⟨g,hg⟩:∃g,g=Nat.gcd d l.natAbs:=⟨_,rfl⟩
  have gd:g∣d:=by rw [hg];exact Nat.gcd_dvd_left _ _
  have gl:(g:Int)∣l:=by rw [hg];exact Int.ofNat_dvd_left.2 (Nat.gcd_dvd_right _ _)
  have g0:0<g:=Nat.pos_of_dvd_of_pos gd hd
  have gle:g≤d:=Nat.le_of_dvd hd gd
  by_cases g1:g=1
  ·have hk:(d:Int)∣k:=by
    have h1:d∣(l*k).natAbs:=Int.ofNat_dvd_left.1 h0
    rw [Int.natAbs_mul]at h1
    exact Int.ofNat_dvd_left.2 (Nat.Coprime.dvd_of_dvd_mul_left (show Nat.gcd d l.natAbs=1 by omega) h1)
   refine Dv.cons hk (JB n d x (l::y) (by simp only [List.length_cons];omega) hd (fun i=>?_) h)
   have h1:=hp (i+1)
   rw [nF]at h1
   exact(Int.dvd_add_right (Int.dvd_trans hk (Int.dvd_mul_left _ _))).1 h1
  ·have hgx:Dv g (k::x):=by
    refine JB n g (k::x) y (by simp only [List.length_cons];omega) g0 (fun i=>?_) (fun e he hy=>h e (Nat.dvd_trans he gd) (Dv.cons (Int.dvd_trans (Int.ofNat_dvd.2 he) gl) hy))
    have h1:=Dv.trans gd hp (i+1)
    rw [yF,nF,yF y]at h1
    exact(Int.dvd_add_right (Int.dvd_trans gl (Int.dvd_mul_left _ _))).1 h1
   obtain⟨d',rfl⟩:=gd
   have PA:0<d':=Nat.pos_of_mul_pos_left hd
   have jH:d'<g*d':=by
    have:2*d'≤g*d':=Nat.mul_le_mul_right _ (by omega)
    omega
   obtain⟨x',UY⟩:∃x':List Int,x'=(k::x).map (· / (g:Int)):=⟨_,rfl⟩
   have hxe:x'.map (· * (g:Int))=k::x:=by
    rw [UY,List.map_map]
    refine(List.map_congr_left fun v hv=>?_).trans (List.map_id _)
    exact Int.ediv_mul_cancel (hgx.mem v hv)
   have N2:x'.length=x.length+1:=by rw [UY];simp
   have hpe:bK (k::x) (l::y)=aL (bK x' (l::y)) g:=Cn.ext (Cn.bK _ _) (Cn.aL _ _) fun t=>by
    have:=eY (t:=t) (g:Int) id x'
    simp only [id_eq,List.map_id_fun]at this
    rw [b7,cK,cK,←hxe,this];grind
   have ih:=JB n d' x' (l::y) (by simp only [List.length_cons];omega) PA (fun i=>by
    have h1:=hp i
    rw [hpe,G0,Int.natCast_mul,Int.mul_comm]at h1
    exact Int.dvd_of_mul_dvd_mul_right (by omega) h1) (fun e he=>h e (Nat.dvd_trans he (Nat.dvd_mul_left _ _)))
   rw [←hxe]
   intro i
   rw [gN,Int.natCast_mul,Int.mul_comm]
   exact Int.mul_dvd_mul (ih i) (Int.dvd_refl _)
termination_by n _ x y=>n
end Pm
namespace Pm
open Go Go.RowKit Go.ChangeShapes Go.WideShapes Go.Deep
def VD(w:World):cY:=fun b _=>b<w.heap.size
theorem C4{w:World}{a:Addr}{v:Value}(h:w.cell? a=some v):a.block<w.heap.size∧a.spot=none:=by
 unfold World.cell? at h
 split at h
 ·rename_i hb
  refine⟨?_,?_⟩
  ·exact(Array.getElem?_eq_some_iff.1 hb).1
  ·split at h
   ·cases h
   ·rename_i hs;simpa using hs
 ·cases h
def tD(P:Program)(t:TypeId)(R:List PV→Prop):Prop:=
 ∀(H:Type) (enc:TypeId × Value→H) (w:World) (fuel:Nat) (cs:List Value) (x:DataW H × List MemPlace),
  DataW.trod enc P w 0 (fun _=>true) true fuel t cs=some x → ∃ps,R ps∧a7 (VD w) w ps cs ∧ ∀v∈cs,v.oneCell'=true
theorem a7.length{S:cY}{w:World}:∀ {ps:List PV} {vs:List Value},a7 S w ps vs→ps.length=vs.length
 | [],vs,h=>by simp only [a7]at h;simp [h]
 | p::ps,vs,h=>by
  simp only [a7]at h
  obtain⟨v,BM,rfl,_,h2⟩:=h
  simp [a7.length h2]
theorem a7.append{S:cY}{w:World}:∀ {ps qs:List PV} {vs us:List Value},a7 S w ps vs→a7 S w qs us→a7 S w (ps++qs) (vs++us)
 | [],qs,vs,us,h,h'=>by simp only [a7]at h;subst h;simpa using h'
 | p::ps,qs,vs,us,h,h'=>by
  simp only [a7]at h
  obtain⟨v,BM,rfl,h1,h2⟩:=h
  simp only [List.cons_append,a7]
  exact⟨v,BM++us,rfl,h1,a7.append h2 h'⟩
theorem tD.int{P:Program}{t:TypeId}(k:IntKind)(ht:P.underlying t=some (.int k)):tD P t (fun ps=>∃n,ps = [.int k n]∧k.min≤n∧n≤k.max):=by
 intro H enc w fuel cs x h
 obtain⟨n,rfl,_,hw⟩:=DataW.trod_int ht h
 simp only [Lit.wf,Bool.and_eq_true,decide_eq_true_eq]at hw
 exact⟨[.int k n],⟨n,rfl,hw⟩,⟨_,_,rfl,by simp [cG],rfl⟩,by simp [Value.oneCell']⟩
theorem tD.bool{P:Program}{t:TypeId}(ht:P.underlying t=some .bool):tD P t (fun ps=>∃b,ps = [.bool b]):=by
 intro H enc w fuel cs x h
 obtain⟨n,rfl,_⟩:=DataW.trod_bool ht h
 exact⟨[.bool n],⟨n,rfl⟩,⟨_,_,rfl,by simp [cG],rfl⟩,by simp [Value.oneCell']⟩
theorem qD{w:World}{b:Nat}:∀ {ps:List PV} {vs:List Value} {o:Nat},a7 (VD w) w ps vs→(∀v∈vs,v.oneCell'=true)→(∀i,i<vs.length→w.cell? ⟨b,o+i,none⟩=vs[i]?)→cI (VD w) w b o ps
 | [],_,_,_,_,_=>by simp [cI]
 | p::ps,vs,o,h,h1,h2=>by
  simp only [a7]at h
  obtain⟨v,BM,rfl,h3,h4⟩:=h
  have hc:w.cell? ⟨b,o,none⟩=some v:=by simpa using h2 0 (by simp)
  simp only [cI]
  refine⟨⟨v,hc,(C4 hc).1,h1 v (by simp),h3⟩,qD h4 (fun u hu=>h1 u (by simp [hu])) fun i hi=>?_⟩
  have:=h2 (i+1) (by simpa using hi)
  simpa [Nat.add_assoc,Nat.add_comm 1]using this
theorem vA{w:World}{b c:Nat}{f:Nat→List PV}:∀(n o k:Nat),(∀i,k≤i→i<k+n→cI (VD w) w b (o+(i-k)*c) (f i)∧(f i).length=c)→dX (VD w) w b o ((List.range' k n).map f)
 | 0,o,k,_=>by simp [dX]
 | n+1,o,k,h=>by
  obtain⟨h1,h2⟩:=h k (Nat.le_refl _) (by omega)
  simp only [List.range'_succ,List.map_cons,dX]
  refine⟨by simpa using h1,vA (c:=c) n _ _ fun i hi hi2=>?_⟩
  obtain⟨h3,h4⟩:=h i (by omega) (by omega)
  refine⟨?_,h4⟩
  rw [h2]
  have e:o+c+(i-(k+1))*c=o+(i-k)*c:=by
   have:i-k=(i-(k+1))+1:=by omega
   rw [this,Nat.add_mul];omega
  rw [e];exact h3
theorem tD.slice{P:Program}{t e:TypeId}{R:List PV→Prop}(ht:P.underlying t=some (.slice e))(yG:0<P.cellsOf e)(he:tD P e R):tD P t (fun ps=>∃l:List (List PV),ps = [.sl l]∧(∀x∈l,R x)∧l.length≤maxLen):=by
 intro H enc w fuel cs x h
 rcases open_slice ht h with ⟨rfl,_⟩ | ⟨a,len,cap,m,n,D,Pl,rfl,_,hl,hm,hmm,_,hx⟩
 ·refine⟨[.sl []],⟨[],rfl,by simp,by simp⟩,⟨_,_,rfl,?_,rfl⟩,by simp [Value.oneCell']⟩
  simp only [cG]
  exact⟨none,0,rfl,by simp,by simp, .inl trivial⟩
 ·have hlm:len≤m:=by rw [hmm];split<;>omega
  have each:∀i,i<len → ∃ps:List PV,R ps∧ps.length=P.cellsOf e ∧ ∃cs',w.cells? 0 (a.add (i*P.cellsOf e)) (P.cellsOf e)=some cs'∧a7 (VD w) w ps cs' ∧ ∀v∈cs',v.oneCell'=true:=by
   intro i hi
   obtain⟨cs',h1,h2⟩:=hx i (by omega)
   obtain⟨ps,h3,h4,h5⟩:=he H enc w _ _ _ h2
   refine⟨ps,h3,?_,cs',h1,h4,h5⟩
   rw [h4.length];exact(World.cells?_some h1).2.1
  obtain⟨f,hf⟩:=choose_lt each
  refine⟨[.sl ((List.range' 0 len).map f)],⟨_,rfl,?_,by simp;omega⟩,⟨_,_,rfl,?_,rfl⟩,by simp [Value.oneCell']⟩
  ·intro y hy
   simp only [List.mem_map,List.mem_range'_1]at hy
   obtain⟨i,hi,rfl⟩:=hy
   exact(hf i (by omega)).1
  ·simp only [cG]
   refine⟨some a,cap,by simp,by simpa using hl,hm,?_⟩
   by_cases h0:len=0
   ·left;simp [h0]
   right
   have hsp:a.spot=none:=by
    obtain⟨_,_,cs',h3,_,_⟩:=hf 0 (by omega)
    obtain⟨_,h4,h5⟩:=World.cells?_some h3
    have h6:=h5 0 (by omega)
    rw [List.getElem?_eq_getElem (by omega)]at h6
    have h7:=(C4 h6).2
    simpa [Addr.add]using h7
   obtain⟨b,o,sp⟩:=a
   simp only at hsp
   subst hsp
   refine⟨b,o,rfl,vA (c:=P.cellsOf e) len o 0 fun i _ hi=>?_⟩
   obtain⟨_,h2,cs',h3,h4,h5⟩:=hf i (by omega)
   obtain⟨_,h6,h7⟩:=World.cells?_some h3
   refine⟨qD h4 h5 fun j hj=>?_,h2⟩
   rw [←h7 j (by omega),add_plain,add_plain]
   simp
def Fits(P:Program):Nat→List Field→List (List PV→Prop)→Nat→Prop
 | o,[],[],n=>o=n
 | o,f::fs,R::Rs,n=>f.offset=o∧tD P f.type R∧Fits P (o+P.cellsOf f.type) fs Rs n
 | _,_,_,_=>False
def LZ:List (List PV→Prop)→List PV→Prop
 | [],ps=>ps = []
 | R::Rs,ps=>∃a b,ps=a++b∧R a∧LZ Rs b
theorem C5{P:Program}{H:Type}{enc:TypeId × Value→H}{w:World}{m n:Nat}:∀ {fs:List Field} {Rs:List (List PV→Prop)} {o:Nat} {cs:List Value} {xs:List (DataW H × List MemPlace)},Fits P o fs Rs n→cs.length=n→xs.length=fs.length →
  (∀(i:Nat) (f:Field),fs[i]? = some f→DataW.trod enc P w 0 (fun _=>true) true m f.type ((cs.drop f.offset).take (P.cellsOf f.type))=xs[i]?) →
  ∃ps,LZ Rs ps∧a7 (VD w) w ps (cs.drop o) ∧ ∀v∈cs.drop o,v.oneCell'=true
 | [],[],o,cs,xs,h,hn,_,_=>by
  simp only [Fits]at h
  subst h
  refine⟨[],rfl,?_,?_⟩
  ·simp only [a7];simp [←hn]
  ·simp [←hn]
 | f::fs,R::Rs,o,cs,xs,h,hn,hl,hx=>by
  simp only [Fits]at h
  obtain⟨ho,hO,hF⟩:=h
  have h0:=hx 0 f rfl
  match xs,hl with
  | y::xs,hl =>
   rw [List.getElem?_cons_zero,ho]at h0
   obtain⟨a,h1,h2,h3⟩:=hO _ _ _ _ _ _ h0
   obtain⟨b,h4,h5,h6⟩:=C5 (xs:=xs) hF hn (by simpa using hl) (fun i g hg=>by simpa using hx (i+1) g (by simpa using hg))
   have e:cs.drop o=(cs.drop o).take (P.cellsOf f.type)++cs.drop (o+P.cellsOf f.type):=by
    rw [←List.drop_drop,List.take_append_drop]
   refine⟨a++b,⟨a,b,rfl,h1,h4⟩,?_,?_⟩
   ·rw [e];exact h2.append h5
   ·rw [e];intro v hv
    rcases List.mem_append.1 hv with hv | hv
    ·exact h3 v hv
    ·exact h6 v hv
 | [],_::_,_,_,_,h,_,_,_=>by simp [Fits]at h
 | _::_,[],_,_,_,h,_,_,_=>by simp [Fits]at h
theorem tD.struct{P:Program}{t:TypeId}{fs:List Field}{Rs:List (List PV→Prop)}(ht:P.underlying t=some (.struct fs.toArray))(hF:Fits P 0 fs Rs (P.cellsOf t)):tD P t (LZ Rs):=by
 intro H enc w fuel cs x h
 obtain⟨xs,n,_,_,hl,N2,hx⟩:=DataW.trod_struct ht h
 obtain⟨ps,h1,h2,h3⟩:=C5 hF hl (by simpa using N2) (fun i f hf=>hx i f (by simpa using hf))
 exact⟨ps,h1,by simpa using h2,by simpa using h3⟩
theorem tD.mono{P:Program}{t:TypeId}{R R':List PV→Prop}(h:tD P t R)(hR:∀ps,R ps→R' ps):tD P t R':=fun H enc w fuel cs x hx=>by
 obtain⟨ps,h1,h2⟩:=h H enc w fuel cs x hx
 exact⟨ps,hR _ h1,h2⟩
def nG(P:Program)(t:TypeId)(Q:PV→Prop):Prop:=
 ∀(H:Type) (enc:TypeId × Value→H) (w:World) (base:Nat) (v:Value) (d:DataW H) (p:List MemPlace),
  Value.okWide P w .any base t v→DataW.Trod enc P w 0 (fun _=>true) true t v d p → ∃q,Q q∧cG (VD w) w q v
theorem tD.one{P:Program}{t:TypeId}{R:List PV→Prop}(h:tD P t R)(hs:∀w base v,Value.okWide P w .any base t v→v.cells = #[v]):nG P t (fun q=>R [q]):=by
 intro H enc w base v d p fD ⟨fuel,hf⟩
 obtain⟨ps,h1,h2,_⟩:=h _ _ _ _ _ _ hf
 rw [hs _ _ _ fD]at h2
 have hl:=h2.length
 match ps,hl with
 | [q],_ =>
  simp only [a7]at h2
  obtain⟨v',BM,h3,h4,_⟩:=h2
  cases h3
  exact⟨q,h1,h4⟩
theorem nG.int{P:Program}{t:TypeId}(k:IntKind)(ht:P.underlying t=some (.int k)):nG P t (fun q=>∃n,q = .int k n∧k.min≤n∧n≤k.max):=by
 have:=(tD.int k ht).one fun w base v h=>by obtain⟨n,rfl⟩:=okWide_int ht h;rfl
 intro H enc w base v d p h1 h2
 obtain⟨q,⟨n,h3,h4⟩,h5⟩:=this H enc w base v d p h1 h2
 exact⟨q,⟨n,by simpa using h3,h4⟩,h5⟩
theorem nG.bool{P:Program}{t:TypeId}(ht:P.underlying t=some .bool):nG P t (fun q=>∃b,q = .bool b):=by
 have:=(tD.bool ht).one fun w base v h=>by obtain⟨n,rfl⟩:=okWide_bool ht h;rfl
 intro H enc w base v d p h1 h2
 obtain⟨q,⟨n,h3⟩,h5⟩:=this H enc w base v d p h1 h2
 exact⟨q,⟨n,by simpa using h3⟩,h5⟩
theorem nG.slice{P:Program}{t e:TypeId}{R:List PV→Prop}(ht:P.underlying t=some (.slice e))(yG:0<P.cellsOf e)(he:tD P e R):nG P t (fun q=>∃l:List (List PV),q = .sl l∧(∀x∈l,R x)∧l.length≤maxLen):=by
 have:=(tD.slice ht yG he).one fun w base v h=>by obtain⟨a,len,cap,rfl⟩:=okWide_slice ht h;rfl
 intro H enc w base v d p h1 h2
 obtain⟨q,⟨n,h3,h4⟩,h5⟩:=this H enc w base v d p h1 h2
 exact⟨q,⟨n,by simpa using h3,h4⟩,h5⟩
theorem nG.struct{P:Program}{t:TypeId}{fs:List Field}{Rs:List (List PV→Prop)}(ht:P.underlying t=some (.struct fs.toArray))(hF:Fits P 0 fs Rs (P.cellsOf t)):nG P t (fun q=>∃l,q = .ag l∧LZ Rs l):=by
 intro H enc w base v d p fD ⟨fuel,hf⟩
 obtain⟨ps,h1,h2,_⟩:=tD.struct ht hF _ _ _ _ _ _ hf
 simp only [Value.okWide,ht]at fD
 obtain⟨cs,rfl,_⟩:=fD
 refine⟨.ag ps,⟨ps,rfl,h1⟩,?_⟩
 simp only [cG]
 exact⟨cs.toList,by simp,h2⟩
theorem nG.mono{P:Program}{t:TypeId}{Q Q':PV→Prop}(h:nG P t Q)(hQ:∀q,Q q→Q' q):nG P t Q':=fun H enc w base v d p h1 h2=>by
 obtain⟨q,h3,h4⟩:=h H enc w base v d p h1 h2
 exact⟨q,hQ _ h3,h4⟩
def C6(P:Program):List TypeId→List (PV→Prop)→Prop
 | [],[]=>True
 | t::ts,Q::Qs=>nG P t Q∧P.readableRec t=true∧t<P.types.size∧C6 P ts Qs
 | _,_=>False
def adj:List (PV→Prop)→List PV→Prop
 | [],ps=>ps = []
 | Q::Qs,ps=>∃q qs,ps=q::qs∧Q q∧adj Qs qs
theorem C7{P:Program}{H:Type}{enc:TypeId × Value→H}{w:World}{base:Nat}:∀ {ts:List TypeId} {Qs:List (PV→Prop)} {vs:List Value} {ds:List (DataW H)} {p:List MemPlace},C6 P ts Qs →
  (∀(j:Nat) t v,ts[j]? = some t→vs[j]? = some v→Value.okWide P w .any base t v)→DataW.TrodAll enc P w 0 (fun _=>true) true ts vs ds p → ∃ps,adj Qs ps∧a7 (VD w) w ps vs
 | [],[],vs,ds,p,_,_,h=>by
  obtain⟨rfl,_⟩:=trodAll_nil h
  exact⟨[],rfl,rfl⟩
 | t::ts,Q::Qs,vs,ds,p,hA,fD,h=>by
  obtain⟨v,BM,d,ds',p1,q1,rfl,rfl,rfl,h1,h2⟩:=trodAll_cons h
  obtain⟨hO,_,_,hA'⟩:=hA
  obtain⟨q,h3,h4⟩:=hO _ _ _ base _ _ _ (fD 0 t v rfl rfl) h1
  obtain⟨ps,h5,h6⟩:=C7 hA' (fun j t' v' hj hv=>fD (j+1) t' v' (by simpa using hj) (by simpa using hv)) h2
  exact⟨q::ps,⟨q,ps,rfl,h3,h5⟩,⟨v,BM,rfl,h4,h6⟩⟩
 | [],_::_,_,_,_,h,_,_=>by simp [C6]at h
 | _::_,[],_,_,_,h,_,_=>by simp [C6]at h
theorem yH{P:Program}(hl:laidOutB P=true){H:Type}{enc:TypeId × Value→H}{w w':World}(hb:Below w.heap.size w w'):∀ {ts:List TypeId} {Qs:List (PV→Prop)} {vs:List Value} {ds:List (DataW H)} {p:List MemPlace},C6 P ts Qs→(∀x∈p,x.block<w.heap.size) →
  DataW.TrodAll enc P w 0 (fun _=>true) true ts vs ds p→DataW.TrodAll enc P w' 0 (fun b=>decide (b<w.heap.size)) true ts vs ds p
 | [],[],vs,ds,p,_,_,h=>by
  obtain⟨rfl,rfl,rfl⟩:=trodAll_nil h
  exact trodAll_mk0
 | t::ts,Q::Qs,vs,ds,p,hA,jH,h=>by
  obtain⟨v,BM,d,ds',p1,q1,rfl,rfl,rfl,h1,h2⟩:=trodAll_cons h
  obtain⟨_,h3,h4,hA'⟩:=hA
  exact⟨p1,q1,Below.trod hl h3 h4 h1 hb (fun x hx=>jH x (by simp [hx])),yH hl hb hA' (fun x hx=>jH x (by simp [hx])) h2,rfl⟩
 | [],_::_,_,_,_,h,_,_=>by simp [C6]at h
 | _::_,[],_,_,_,h,_,_=>by simp [C6]at h
theorem RM{C:Checked}{f:FuncId}{fn:Func}{s:ChangeSpec}{Qs:List (PV→Prop)}{os:Os}{H:Type}{enc:TypeId × Value→H}{tb:TypeId}
  (own:ownKnob C.prog.godebug=none) (hl:laidOutB C.prog=true) (started:os.Started) (adk:C.prog.inits.idxOf? f=none) (hfn:C.prog.funcs[f]? = some fn)
  (witness:∃(w:World) (tape:Tape) (i:Input),w.os=os∧(w.forCall tape i).Shaped C.prog∧i.vars = []∧Input.okWide C.prog (w.forCall tape i) .any w.heap.size f i ∧
   s.pre6 enc C.prog fn [] false (w.forCall tape i).memory i.args∧({}:Assume).holds C.prog (lone (Frame.enter C.prog f i.args .normal) [] (w.forCall tape i)))
  (hv:s.vars = []) (hs:∀ds:List (DataW H),ds.length=fn.params.size→s.fn H ds = { results:=[.lit (.bool true)],args:=ds })
  (vB:fn.resultTypes = #[tb]) (htb:C.prog.underlying tb=some .bool)
  (hA:C6 C.prog fn.params.toList Qs) (h:∀ps,adj Qs ps→aZ C.prog f ps (.bool true)) :
  ReturnsInHanded {} C os f .any (s.pre6 enc C.prog fn [] false) (s.post enc C.prog fn false true false false):=by
 refine returnsInHanded_of_change own started adk hfn witness ?_
 intro W base args ds gs before anY hW _ _
 have hW':=hW
 obtain⟨p,q,hT,hV,rfl,_,_⟩:=hW
 rw [hv]at hV
 obtain⟨rfl,rfl⟩:=trodVars_none hV
 obtain⟨ps,h1,h2⟩:=C7 (base:=base) hA (fun j t v hj hv=>anY j t v (by simpa using hj) (by simpa using hv)) hT
 obtain⟨_,mV⟩:=h ps h1
 have h3:=mV W (VD W) args.toList (fun b o hb=>hb) h2
 refine Calls.mono h3 fun e w' hw=>?_
 obtain⟨v,rfl,KR,S',_,_,eS⟩:=hw
 simp only [cG]at eS
 subst eS
 refine⟨_,rfl,?_⟩
 have hlen:ds.length=fn.params.size:=by
  have:∀ {ts:List TypeId} {vs:List Value} {ds:List (DataW H)} {p:List MemPlace},DataW.TrodAll enc C.prog W 0 (fun _=>true) true ts vs ds p→ds.length=ts.length:=by
   intro ts
   induction ts with
   | nil=>intro vs ds p h;obtain⟨_,rfl,_⟩:=trodAll_nil h;rfl
   | cons t ts ih =>
    intro vs ds p h
    obtain⟨v,BM,d,ds',p1,q1,rfl,rfl,rfl,h1,h2⟩:=trodAll_cons h
    simp [ih h2]
  rw [this hT];simp
 have jH:∀x∈p,x.block<W.heap.size:=fun x hx=>hW'.lt x (by simpa using hx)
 have hold:∀x∈p,(fun b=>decide (b<W.heap.size)) x.block=true:=fun x hx=>by simpa using jH x hx
 have adl:s.fn H (ds ++ []) = { results:=[.lit (.bool true)],args:=ds }:=by rw [List.append_nil,hs ds hlen]
 refine⟨ds,[],p ++ [],[],p,[],hW',?_,?_,?_,World.keptBut_mono (fun x hx=>⟨hx, .inr (.inl (by simpa using hx))⟩) (KR.frame (· ∈ p ++ [])),?_⟩
 ·rw [adl,vB]
  exact trodAll_mk1 (shut_bool htb true)
 ·rw [adl]
  exact yH hl KR hA jH hT
 ·rw [adl,hv];rfl
 ·intro h0;cases h0
end Pm
namespace Pm
open Go Go.RowKit
section
variable {E:Env} {w0:World} {S0:cY} {c:Cx}
theorem C8(hI:Inv w0 S0 c){clk:Nat}{fn:Func}{a:Act}{f:Nat→PV}(hf:∀s,aF c (f s) (a.tmps.getD s undef)){K:List PV→Prop}(hp:l4 E ⟨f,c.rows,clk⟩ fn.results.toList K) :
  ∃vs us,K vs∧a6 (aF c) vs us∧(results fn a.tmps).run E.P c.w = .ok (if h:us.toArray.size=1 then us.toArray[0]else .tuple us.toArray) c.w:=by
 have key:∀g:ResultVar→Sem Value,(∀t,g (.tmp t)=pure (a.tmps.getD t undef))→(∀x t,g (.cell x t)=do loadVar t (←asAddr (a.tmps.getD x undef))) →
   ∃vs us,K vs∧a6 (aF c) vs us∧(do let vs ←fn.results.mapM g;pure (if h:vs.size=1 then vs[0]else .tuple vs):Sem Value).run E.P c.w = .ok (if h:us.toArray.size=1 then us.toArray[0]else .tuple us.toArray) c.w:=by
  intro g PH s0
  obtain⟨vs,us,g1,g4,g5⟩:=nX hI hf PH s0 _ _ hp
  refine⟨vs,us,g1,g4,?_⟩
  have:(fn.results.mapM g).run E.P c.w = .ok us.toArray c.w:=by
   rw [Array.mapM_eq_mapM_toList]
   simp [g5]
  rw [Sem.run_bind,this,Result.andThen_ok,Sem.run_pure]
 unfold results
 exact key _ (fun _=>rfl) (fun _ _=>rfl)
theorem vC(hI:Inv w0 S0 c){fn:Func}{t:Tmp}(vB:fn.results.toList = [.tmp t]){a:Act}{f:Nat→PV}(hf:∀s,aF c (f s) (a.tmps.getD s undef)) :
  ∃u,aF c (f t) u∧(results fn a.tmps).run E.P c.w = .ok u c.w:=by
 obtain⟨vs,us,h1,h2,h3⟩:=C8 (E:=E) (K:=fun vs=>vs = [f t]) (clk:=0) hI (fn:=fn) hf (by rw [vB];rfl)
 subst h1
 match us,h2 with
 | [u],h2=>exact⟨u,h2.1,by simpa using h3⟩
 | [],h2=>exact h2.elim
 | _::_::_,h2=>exact h2.2.elim
def aaT(t:Tmp)(R:PV→Rows→Nat→Prop):PX→PS→Prop
 | .normal,σ=>R (σ.f t) σ.rows σ.clock
 | .ret,σ=>R (σ.f t) σ.rows σ.clock
 | .exit _,_=>False
def RN(args:List PV)(rows:Rows)(clk:Nat):PS:=⟨fun s=>args.getD s .undef,rows,clk⟩
theorem C9{args:List PV}{vs:List Value}{m:Nat}(h:a6 (aF c) args vs)(s:Nat):aF c (args.getD s .undef) ((vs.toArray++Array.replicate m undef).getD s undef):=by
 have FG:=h.length
 by_cases hs:s<args.length
 ·obtain⟨u,hu,hr⟩:=h.get (List.getElem?_eq_getElem hs)
  have e1:args.getD s .undef=args[s]:=by simp [List.getD,List.getElem?_eq_getElem hs]
  have e2:(vs.toArray++Array.replicate m undef).getD s undef=u:=by
   have:s<vs.length:=by omega
   simp [this]at hu ⊢
   simp [Array.getElem?_append,this,hu]
  rw [e1,e2];exact hr
 ·have e1:args.getD s .undef = .undef:=by simp [List.getD,List.getElem?_eq_none (show args.length≤s by omega)]
  rw [e1]
  simp [aF,aM]
theorem L0{uR:FuncId}{fn:Func}{code:Code}(tl:Nat→Nat){args:List PV}{rows:Rows}{clk:Nat}{R:PV→Rows→Nat→Prop}{t:Tmp}(h1:E.P.funcs[uR]? = some fn)(h2:fn.body=some code) (h3:(fn.name == "runtime.NumGoroutine") = false)
  (fD:dU E fn.ntmps tl code=true) (eI:args.length≤fn.ntmps) (vB:fn.results.toList = [.tmp t]) (h:W E fn.ntmps tl code (aaT t R) (RN args rows clk)):KS E.P uR args rows clk R:=by
 refine⟨⟨fn,code,h1,h2,h3⟩,fun w0 S0 c vs G hI hr eX eS hG=>?_⟩
 refine calls_of_wp h1 h2 ?_
 have FG:=eS.length
 have F6:Rel w0 S0 fn.ntmps G (RN args rows clk) { tmps:=vs.toArray++Array.replicate (fn.ntmps-vs.toArray.size) undef,defers:=[] } c.w:=
  ⟨⟨c,rfl,hr,eX,hI,fun s=>C9 eS s,hG⟩,by simp;omega,rfl⟩
 refine h fD w0 S0 G _ _ _ F6 ?_
 have fin:∀σ' a' w',R (σ'.f t) σ'.rows σ'.clock→Rel w0 S0 fn.ntmps G σ' a' w'→a'.defers = [] ∧ ∃v,(results fn a'.tmps).run E.P w' = .ok v w' ∧
   ∃v' c' r gF,Ending.returned v = .returned v'∧c'.w=w'∧Inv w0 S0 c'∧(∀p∈G,aF c' p.1 p.2)∧R r c'.rows gF∧(∀v,c'.used v→v<gF)∧aF c' r v':=by
  rintro σ' a' w' hx ⟨⟨c',rfl,i7,ab4,rB,hf',hG'⟩,hn,eC⟩
  obtain⟨u,hu,gG⟩:=vC (E:=E) rB vB hf'
  exact⟨eC,u,gG,u,c',_,σ'.clock,rfl,rfl,rB,hG',by rw [i7];exact hx,ab4,hu⟩
 intro x σ' a' w' hx jP
 cases x with
 | normal=>exact fin σ' a' w' hx jP
 | ret=>exact fin σ' a' w' hx jP
 | exit id=>exact hx.elim
def aaU(t:Tmp)(e:TypeId)(n:Nat)(els:List (List PV)):PX→PS→Prop
 | .normal,σ=>∃id ver,σ.f t = .own id ver 0 els.length∧σ.rows id=some ⟨ver,e,n,els⟩ ∧ ∀x∈els,∀p∈x,bL p=true
 | .ret,σ=>∃id ver,σ.f t = .own id ver 0 els.length∧σ.rows id=some ⟨ver,e,n,els⟩ ∧ ∀x∈els,∀p∈x,bL p=true
 | .exit _,_=>False
theorem L2{uR:FuncId}{fn:Func}{code:Code}(tl:Nat→Nat){args:List PV}{e:TypeId}{n:Nat}{els:List (List PV)}{t:Tmp}(h1:E.P.funcs[uR]? = some fn)(h2:fn.body=some code) (h3:(fn.name == "runtime.NumGoroutine") = false)
  (fD:dU E fn.ntmps tl code=true) (eI:args.length≤fn.ntmps) (vB:fn.results.toList = [.tmp t]) (h:W E fn.ntmps tl code (aaU t e n els) (xT args)):uJ E.P uR args e n els:=by
 refine⟨⟨fn,code,h1,h2,h3⟩,fun w S vs hS eS=>?_⟩
 refine calls_of_wp h1 h2 ?_
 have uD:=b5.1 eS
 have FG:=uD.length
 let c0:Cx:=⟨S,w,fun _ => .slice none 0 0,fun _=>none,fun _=>False⟩
 have hI0:Inv w S c0:=⟨Below.refl _ _,fun _ _ h=>h,fun _ _ h => .inl h,hS,fun _ _ h=>by simp [c0]at h,fun _ _ h=>by simp [c0]at h,fun _ _ _ _ _ h=>by simp [c0]at h⟩
 have F6:Rel w S fn.ntmps Gs.none (xT args) { tmps:=vs.toArray++Array.replicate (fn.ntmps-vs.toArray.size) undef,defers:=[] } w:=
  ⟨⟨c0,rfl,rfl,fun _ h=>h.elim,hI0,fun s=>C9 (c:=c0) (uD.mono fun _ _ h=>aF.gB h) s,fun p hp=>(Gs.BQ hp).elim⟩,by simp;omega,rfl⟩
 refine h fD w S Gs.none _ _ _ F6 ?_
 have fin:∀(σ':PS) a' w',(∃id ver,σ'.f t = .own id ver 0 els.length∧σ'.rows id=some ⟨ver,e,n,els⟩ ∧ ∀x∈els,∀p∈x,bL p=true)→Rel w S fn.ntmps Gs.none σ' a' w'→a'.defers = [] ∧ ∃v,(results fn a'.tmps).run E.P w' = .ok v w' ∧
   ∃(v':Value) (xs:List Value) (S':cY),Ending.returned v = .returned v'∧Below w.heap.size w w'∧(∀b o,S b o→S' b o)∧(∀b o,S' b o→S b o∨(w.heap.size≤b∧b<w'.heap.size)) ∧
   w'.ownsRow w.heap.size e n v' els.length xs∧a6 (cG S' w') els.flatten xs∧(∀y∈xs,y.oneCell'=true)∧(∀x∈els,x.length=n)∧0<n∧(∀g o,v'.ownBlock=some g→¬S' g o):=by
  rintro σ' a' w' ⟨id,ver,e1,e2,e3⟩ ⟨⟨c,rfl,hr,eX,hI,hf,_⟩,hn,eC⟩
  obtain⟨u,hu,gG⟩:=vC (E:=E) hI vB hf
  rw [e1]at hu
  rw [←hr]at e2
  obtain⟨⟨xs,g1,g2,g3⟩,g4,g5,g6⟩:=hI.row id _ e2
  simp only [aF,aM]at hu
  obtain⟨_,hu⟩:=hu
  obtain⟨_,hu⟩:=hu _ e2 rfl
  have hub:u=c.β id:=by
   rcases hu with ⟨_,A,m,cap,h5,h6⟩ | ⟨h5,_⟩
   ·rcases g1.2 with ⟨h7,h8⟩ | ⟨g,gE,cur,h7,_⟩
    ·rw [h7]at h5;cases h5
     simp only at h8
     rw [h6,h7,h8]
    ·rw [h7]at h5;cases h5
     rw [h6,h7]
   ·omega
  refine⟨eC,u,gG,u,xs,c.S,rfl,hI.below,hI.ext,hI.new,by rw [hub];exact g1,?_,g3,g4,g6,fun g o hg=>g5 g o (by rw [←hub];exact hg)⟩
  refine a6.cO g2.length fun k p y hp hy=>?_
  obtain⟨y',E4,i7⟩:=g2.get hp
  rw [hy]at E4;cases E4
  have s6:=List.mem_of_getElem? hp
  obtain⟨x,hx,hpx⟩:=List.mem_flatten.1 s6
  exact i7.rep (e3 x hx p hpx)
 intro x σ' a' w' hx jP
 cases x with
 | normal=>exact fin σ' a' w' hx jP
 | ret=>exact fin σ' a' w' hx jP
 | exit id=>exact hx.elim
theorem uJ.ret{P:Program}{f:FuncId}{args:List PV}{e:TypeId}{n:Nat}{els:List (List PV)}(h:uJ P f args e n els){eU:List PV}{rows:Rows}{clk:Nat}(d:Nat)(ha:eU.map (pz rows)=args)(oR:(eU.map (pz rows)).all eR=true)(hp:dG rows (eU.flatMap cW)) :
  KS P f eU rows clk (fun r rows' gF=>r = .own d clk 0 els.length∧rows'=c4 (xP rows (eU.flatMap cW)) d (some ⟨clk,e,n,els⟩)∧gF=clk+1):=by
 obtain⟨h0,FY⟩:=h
 refine⟨h0,fun w0 S0 c vs G hI oG eX eI hG=>?_⟩
 subst oG
 generalize mR:eU.flatMap cW=ids at *
 have BS:=hI.freeze ids
 have jH:∀b o,FR c ids b o→b<c.w.heap.size:=fun b o hb=>BS.lt (c:=wO c ids) hb
 have eS:a7 (FR c ids) c.w args vs:=by
  rw [←ha]
  refine b5.2 (a6.cO (by simp [eI.length]) fun k p u sZ hu=>?_)
  simp at sZ
  obtain⟨q,hq,rfl⟩:=sZ
  obtain⟨u',g1,g2⟩:=eI.get hq
  rw [hu]at g1;cases g1
  exact y8 hI hp g2 (fun id eT=>by rw [←mR];simp only [List.mem_flatMap];exact⟨q,List.mem_of_getElem? hq,eT⟩) (List.all_eq_true.1 oR _ (by simp;exact⟨q,List.mem_of_getElem? hq,rfl⟩))
 refine(FY c.w (FR c ids) vs jH eS).mono ?_
 rintro x w' ⟨v,xs,S',rfl,hb,g1,g2,g3,g4,g5,g6,g7,g8⟩
 obtain⟨UZ,hA2⟩:=BS.grow (c:=wO c ids) hb g1 g2
 have hA1:=jO c ids
 obtain⟨hI3,hA3⟩:=UZ.set (w':=w') (ob:=v.ownBlock) (id:=d) (r':=⟨clk,e,n,els⟩) (v':=v) (xs:=xs) (World.grownBy.refl _ _)
  (fun g hg=>by
   have UX:=(g3.lt g hg).1
   refine⟨by have:=hI.below.size;omega,fun o=>g8 g o hg,fun fZ r hr _ wS=>?_⟩
   obtain⟨⟨ys,q1,_,_⟩,_⟩:=BS.row fZ r hr
   have:=(q1.lt g wS).2
   simp only [wO]at this
   omega) ⟨g3.1,g3.2.imp id fun⟨g,cap,cur,q1,q2,q3⟩=>⟨g,cap,cur,q1,Nat.le_trans hI.below.size q2,q3⟩⟩ (g4.mono fun _ _ h=>aM.gB h) g5 g6 g7 (fun g hg => .inl hg) (fun hu=>Nat.lt_irrefl _ (eX _ hu))
 refine⟨v,_, .own d clk 0 els.length,clk+1,rfl,rfl,hI3,fun p sZ=>?_,⟨rfl,rfl,rfl⟩,fun v hv=>?_,?_⟩
 ·exact aF.o6 hA3 _ _ (aF.o6 hA2 _ _ (aF.o6 hA1 _ _ (hG p sZ)))
 ·rcases hv with hv | hv
  ·have:v=clk:=hv
   omega
  ·have:=eX v hv;omega
 ·rcases g3.2 with ⟨rfl,h8⟩ | ⟨g,gE,cur,rfl,_⟩
  ·have:els.length=0:=h8
   rw [this]
   exact jA (r:=⟨clk,e,n,els⟩) (A:=none) (cap:=0) (by simp [c4]) (by simpa using h8) (Or.inl rfl) (by simp [c4])
  ·exact jA (r:=⟨clk,e,n,els⟩) (by simp [c4]) rfl (Or.inl rfl) (by simp [c4])
end
theorem aaV{P:Program}{g:FuncId}{eU:List PV}{rows:Rows}{clk:Nat}{K:PV→Rows→Nat→Prop}{args:List PV}{e:TypeId}{n:Nat}{els:List (List PV)}(h:uJ P g args e n els)(d:Nat)(ha:eU.map (pz rows)=args)(oR:(eU.map (pz rows)).all eR=true)
  (hp:dG rows (eU.flatMap cW)) (hK:go (K (.own d clk 0 els.length) (c4 (xP rows (eU.flatMap cW)) d (some ⟨clk,e,n,els⟩)) (clk+1))):rZ P g eU rows clk K:=
 ⟨_,h.ret d ha oR hp,by rintro r rows' gF ⟨rfl,rfl,rfl⟩;exact hK⟩
theorem G1{E:Env}{uR:FuncId}{fn:Func}{code:Code}(tl:Nat→Nat){args:List PV}{e:TypeId}{n:Nat}{els:List (List PV)}{t:Tmp}(l:List (Nat × PV))(h1:E.P.funcs[uR]? = some fn)(h2:fn.body=some code) (h3:(fn.name == "runtime.NumGoroutine") = false)
  (fD:dU E fn.ntmps tl code=true) (eI:args.length≤fn.ntmps) (vB:fn.results.toList = [.tmp t]) (hl:∀p∈l,args.getD p.1 .undef=p.2) (h:W E fn.ntmps tl code (aaU t e n els) ⟨fa l,fun _=>none,0⟩):uJ E.P uR args e n els:=
 L2 tl h1 h2 h3 fD eI vB (W.ghf l (by simpa using hl) h)
theorem G2{E:Env}{uR:FuncId}{fn:Func}{code:Code}(tl:Nat→Nat){args:List PV}{rows:Rows}{clk:Nat}{R:PV→Rows→Nat→Prop}{t:Tmp}(l:List (Nat × PV))(h1:E.P.funcs[uR]? = some fn)(h2:fn.body=some code) (h3:(fn.name == "runtime.NumGoroutine") = false)
  (fD:dU E fn.ntmps tl code=true) (eI:args.length≤fn.ntmps) (vB:fn.results.toList = [.tmp t]) (hl:∀p∈l,args.getD p.1 .undef=p.2) (h:W E fn.ntmps tl code (aaT t R) ⟨fa l,rows,clk⟩):KS E.P uR args rows clk R:=
 L0 tl h1 h2 h3 fD eI vB (W.ghf l (by simpa using hl) h)
def rL(t:TI)(rows:Rows)(x y:PV)(K:PV→Rows→Prop):Prop:=
 match t,x with
 | .slice _ n _ _, .own id ver off len=>∃r,rows id=some r∧r.ver=ver∧r.size=n∧off+len≤r.els.length ∧ ∃l,mT rows y l∧(∀e∈l,e.length=n) ∧
   K (.int .i64 (min l.length len)) (c4 rows id (some { r with els:=r.els.take off++l.take len++r.els.drop (off+min l.length len) }))
 | _,_=>False
@[simp] theorem amb{E:Env}{ops os:List Oper}{K:PS→Prop}{f:Nat→PV}{rows:Rows}{clk:Nat}{d:Option Tmp}{ty:TypeId}{pos:String}{af:Array Edge}{x y:Operand}{t t2:TypeId} :
  go (aH E ops (⟨d, .call { callee:=.builtin .copy,args:=⟨[x,y]⟩,argTypes:=⟨[t,t2]⟩ },ty,pos,af,none⟩::os) K ⟨f,rows,clk⟩)=rL (E.ty t) rows (aN f x) (aN f y) fun v rows=>aH E ops os K ⟨put f d v,rows,clk⟩:=by
 simp only [go,aH,dO,ys,oQ,rL]
 generalize E.ty t=T
 generalize aN f x=X
 apply propext
 constructor
 ·rintro⟨v,u,h,hK⟩
  split at h
  ·obtain⟨r,h1,h2,h3,h4,l,h5,h6,rfl,rfl⟩:=h
   exact⟨r,h1,h2,h3,h4,l,h5,h6,hK⟩
  ·exact h.elim
 ·intro h
  split at h
  ·obtain⟨r,h1,h2,h3,h4,l,h5,h6,hK⟩:=h
   exact⟨_,_,⟨r,h1,h2,h3,h4,l,h5,h6,rfl,rfl⟩,hK⟩
  ·exact h.elim
@[congr] theorem W2{t t':TI}{rows rows':Rows}{x x' y y':PV}{K:PV→Rows→Prop}(h1:t=t')(h2:rows=rows')(h3:x=x')(h4:y=y'):rL t rows x y K=rL t' rows' x' y' K:=by rw [h1,h2,h3,h4]
theorem aiW{e e':TypeId}{n b:Nat}{z:List PV}{rows:Rows}{id ver off len:Nat}{y:PV}{K:PV→Rows→Prop}{els l:List (List PV)}(hr:rows id=some ⟨ver,e',n,els⟩)(hl:off+len≤els.length)(hy:mT rows y l)(h1:∀e∈l,e.length=n)
  (hK:go (K (.int .i64 (min l.length len)) (c4 rows id (some ⟨ver,e',n,els.take off++l.take len++els.drop (off+min l.length len)⟩)))):rL (.slice e n b z) rows (.own id ver off len) y K:=
 ⟨_,hr,rfl,rfl,hl,l,hy,h1,hK⟩
theorem aiX{e e':TypeId}{b:Nat}{z:List PV}{rows:Rows}{id ver off len:Nat}{y:PV}{K:PV→Rows→Prop}{els l:List (List PV)}(hr:rows id=some ⟨ver,e',1,els⟩)(hl:off+len≤els.length)(h0:0<len)(hy:mT rows y l)(h1:∀e∈l,e.length=1)
  (hK:go (K (.int .i64 (min l.length len)) (c4 rows id (some ⟨ver,e',1,els.take off++l.take len++els.drop (off+min l.length len)⟩)))):rL (.slice e 1 b z) rows (.own id ver off len) y K:=
 aiW hr hl hy h1 hK
theorem bU{c B:Prop}(h:c)(hB:go B):aE c B:=⟨h,hB⟩
end Pm
