import Derived.ProofKit
import Derived.JoinedOf
import Derived.SizedLaws
import Derived.Carry
import Derived.Deep.Slices
import Derived.Test.YtiobceocpabjdaaGreatOad
set_option linter.unusedSimpArgs false
set_option linter.unusedVariables false
namespace Pm
def V(b:Int):List Int→Int
 | []=>0
 | x::l=>x+b*V b l
def cV(b:Int)(l:List Int):Prop:=∀x∈l,0≤x∧x<b
def MU(b:Nat):Nat→Nat→List Int
 | 0,_=>[]
 | f+1,n=>if n=0 then []else((n%b:Nat):Int)::MU b f (n/b)
def aS(b n:Nat):List Int:=MU b n n
def aO:List Int→List Int
 | []=>[]
 | x::l=>if aO l = []∧x=0 then []else x::aO l
theorem j2:∀l:List Int,aO (l ++ [0])=aO l
 | []=>by simp [aO]
 | x::l=>by simp [aO,j2 l]
theorem jL{x:Int}(h:x≠0):∀l:List Int,aO (l ++ [x])=l ++ [x]
 | []=>by
  show aO [x] = [x]
  rw [aO,if_neg (fun hh=>h hh.2)];rfl
 | y::l=>by
  have ih:=jL h l
  have hn:¬(l ++ [x] = []∧y=0):=by simp
  show aO (y::(l ++ [x]))=y::(l ++ [x])
  rw [aO,ih,if_neg hn]
theorem bV:∀l:List Int,(aO l).length≤l.length
 | []=>by simp [aO]
 | x::l=>by
  have:=bV l
  simp only [aO]
  split
  ·simp
  ·simpa using this
theorem bW{α:Type}[Inhabited α]{l:List α}{i:Nat}(h:i<l.length):nth l i=l[i]:=by unfold nth;rw [List.getElem?_eq_getElem h];rfl
theorem iI{α:Type}[Inhabited α]{l:List α}{i:Nat}(h:l.length≤i):nth l i=default:=by unfold nth;rw [List.getElem?_eq_none h];rfl
theorem bF{α:Type}[Inhabited α]{l:List α}{i:Nat}(h:i<l.length):l.take (i+1)=l.take i ++ [nth l i]:=by
 rw [bW h,List.take_succ_eq_append_getElem h]
theorem bN{α:Type}[Inhabited α]{l:List α}{i:Nat}(h:i<l.length):nth l i∈l:=by rw [bW h];exact List.getElem_mem h
theorem eZ{α:Type}[Inhabited α]{l:List α}{i:Nat}{x:α}(h:i<l.length):nth (l.set i x) i=x:=by rw [bW (by simpa using h)];simp
theorem gS{α:Type}[Inhabited α]{l:List α}{i j:Nat}{x:α}(h:i≠j):nth (l.set i x) j=nth l j:=by unfold nth;rw [List.getElem?_set_ne h]
theorem fE{α:Type}[Inhabited α]{l:List α}{i:Nat}(h:i<l.length):l.drop i=nth l i::l.drop (i+1):=by rw [bW h];exact List.drop_eq_getElem_cons h
theorem gP{α:Type}{l:List α}{i k:Nat}{x:α}(h:k≤i):(l.set i x).take k=l.take k:=by
 rw [List.take_set];exact List.set_eq_of_length_le (by simp;omega)
section
variable {b:Int}
theorem cV.nil:cV b []:=by simp [cV]
theorem cV.cons{x:Int}{l:List Int}:cV b (x::l)↔(0≤x∧x<b)∧cV b l:=by simp [cV]
theorem cV.append{a c:List Int}:cV b (a++c)↔cV b a∧cV b c:=by
 simp only [cV,List.mem_append]
 constructor
 ·intro h;exact⟨fun x hx=>h x (.inl hx),fun x hx=>h x (.inr hx)⟩
 ·rintro⟨h1,h2⟩ x (hx | hx)
  ·exact h1 x hx
  ·exact h2 x hx
theorem cV.take{l:List Int}(h:cV b l)(n:Nat):cV b (l.take n):=fun x hx=>h x (List.mem_of_mem_take hx)
theorem cV.drop{l:List Int}(h:cV b l)(n:Nat):cV b (l.drop n):=fun x hx=>h x (List.mem_of_mem_drop hx)
theorem cV.nth{l:List Int}(h:cV b l){i:Nat}(hi:i<l.length):0≤nth l i∧nth l i<b:=by
 rw [bW hi];exact h _ (List.getElem_mem hi)
theorem cV.set{l:List Int}(h:cV b l){i:Nat}{x:Int}(hx:0≤x∧x<b):cV b (l.set i x):=fun y hy=>by
 rcases List.mem_or_eq_of_mem_set hy with h1 | h1
 ·exact h y h1
 ·rw [h1];exact hx
theorem cV.rep(hb:0<b)(n:Nat):cV b (List.replicate n 0):=fun x hx=>by rw [(List.mem_replicate.1 hx).2];omega
theorem bM(hb:0<b):∀ {l:List Int},cV b l→0≤V b l
 | [],_=>by simp [V]
 | x::l,h=>by
  have h1:=bM hb (cV.cons.1 h).2;have h2:=(cV.cons.1 h).1
  have h3:=Int.mul_nonneg (Int.le_of_lt hb) h1
  simp only [V];omega
theorem eB:∀(a c:List Int),V b (a++c)=V b a+b^a.length*V b c
 | [],c=>by simp [V]
 | x::a,c=>by simp only [List.cons_append,V,eB a c,List.length_cons,Int.pow_succ];grind
theorem n9{x:Int}:V b [x]=x:=by simp [V]
theorem oS(hb:0<b):∀ {l:List Int},cV b l→V b l<b^l.length
 | [],_=>by simp [V]
 | x::l,h=>by
  have h1:=oS hb (cV.cons.1 h).2;have h2:=(cV.cons.1 h).1
  have h3:b*(V b l+1)≤b*b^l.length:=Int.mul_le_mul_of_nonneg_left (by omega) (by omega)
  rw [Int.mul_add]at h3
  simp only [V,List.length_cons,Int.pow_succ,Int.mul_comm _ b];omega
theorem aV{l:List Int}{i:Nat}(h:i<l.length):V b (l.take (i+1))=V b (l.take i)+b^i*nth l i:=by
 rw [bF h,eB,n9];simp [Nat.min_eq_left (Nat.le_of_lt h)]
theorem a9{l:List Int}{i:Nat}(h:l.length≤i):V b (l.take i)=V b l:=by rw [List.take_of_length_le h]
theorem fF{l:List Int}{i:Nat}{x:Int}(h:i<l.length):V b ((l.set i x).take (i+1))=V b (l.take i)+b^i*x:=by
 rw [aV (by simpa using h),gP (Nat.le_refl _),eZ h]
theorem GB{l:List Int}{i:Nat}{x:Int}(h:i<l.length):V b (l.set i x)=V b l+b^i*(x-nth l i):=by
 induction l generalizing i with
 | nil=>simp at h
 | cons y l ih =>
  cases i with
  | zero=>simp only [List.set_cons_zero,V,Int.pow_zero,nth,List.getElem?_cons_zero,Option.getD_some];omega
  | succ i =>
   have e:nth (y::l) (i+1)=nth l i:=by simp [nth]
   simp only [List.set_cons_succ,V,e,Int.pow_succ]
   rw [ih (by simpa using h)]
   grind
theorem qW:∀n:Nat,V b (List.replicate n 0)=0
 | 0=>rfl
 | n+1=>by simp [List.replicate_succ,V,qW n]
end
section
variable {b:Int}
theorem c8:∀l:List Int,V b (aO l)=V b l
 | []=>rfl
 | x::l=>by
  have ih:=c8 l
  simp only [aO]
  split
  ·rename_i h
   rw [h.1]at ih
   simp only [V]at ih ⊢
   rw [←ih,h.2];simp
  ·simp [V,ih]
theorem eG{l:List Int}(h:cV b l):cV b (aO l):=by
 induction l with
 | nil=>exact h
 | cons x l ih =>
  obtain⟨h1,h2⟩:=cV.cons.1 h
  simp only [aO]
  split
  ·exact cV.nil
  ·exact cV.cons.2 ⟨h1,ih h2⟩
end
section
variable {b:Nat}
theorem VB(hb:2≤b):∀(f g n:Nat),n≤f→n≤g→MU b f n=MU b g n
 | 0,g,n,h,_=>by
  have:n=0:=by omega
  subst this
  cases g<;>simp [MU]
 | f+1,0,n,_,h=>by
  have:n=0:=by omega
  subst this
  simp [MU]
 | f+1,g+1,n,h1,h2=>by
  simp only [MU]
  by_cases hn:n=0
  ·simp [hn]
  ·simp only [hn,if_false]
   have:n/b<n:=Nat.div_lt_self (by omega) hb
   rw [VB hb f g _ (by omega) (by omega)]
theorem mE:aS b 0 = []:=rfl
theorem rY(hb:2≤b){n:Nat}(h:n≠0):aS b n=((n%b:Nat):Int)::aS b (n/b):=by
 cases n with
 | zero=>exact absurd rfl h
 | succ n =>
  simp only [aS]
  rw [MU]
  simp only [h,if_false]
  have:(n+1)/b<n+1:=Nat.div_lt_self (by omega) hb
  rw [VB hb n _ _ (by omega) (Nat.le_refl _)]
theorem MV(hb:2≤b)(n:Nat):V b (aS b n)=n∧cV b (aS b n):=by
 induction n using Nat.strongRecOn with
 | _ n ih =>
  by_cases h:n=0
  ·subst h;simp [mE,V,cV]
  ·rw [rY hb h]
   obtain⟨h1,h2⟩:=ih (n/b) (Nat.div_lt_self (by omega) hb)
   have h3:=Nat.mod_lt n (show 0<b by omega)
   have h4:=Nat.mod_add_div n b
   simp only [V,h1,cV.cons]
   refine⟨by exact_mod_cast h4,⟨by omega,by omega⟩,h2⟩
theorem kP(hb:2≤b)(n:Nat):V b (aS b n)=n:=(MV hb n).1
theorem fI(hb:2≤b)(n:Nat):cV b (aS b n):=(MV hb n).2
theorem eO(hb:2≤b){n:Nat}:aS b n = []↔n=0:=by
 constructor
 ·intro h;have:=kP hb n;rw [h]at this;simp [V]at this;omega
 ·rintro rfl;rfl
theorem rZ(hb:2≤b):∀ {l:List Int},cV b l→aO l=aS b (V b l).toNat
 | [],_=>rfl
 | x::l,h=>by
  obtain⟨h1,h2⟩:=cV.cons.1 h
  have ih:=rZ hb h2
  have h3:=bM (by omega) h2
  simp only [aO,ih,eO hb,V]
  obtain⟨m,hm⟩:=Int.eq_ofNat_of_zero_le h3
  obtain⟨y,hy⟩:=Int.eq_ofNat_of_zero_le h1.1
  subst hy
  rw [hm]
  have e0:((y:Int)+b*m).toNat=y+b*m:=by
   rw [show((y:Int)+b*m)=((y+b*m:Nat):Int)by simp];exact Int.toNat_natCast _
  rw [e0,Int.toNat_natCast]
  by_cases hz:m=0∧y=0
  ·obtain⟨rfl,rfl⟩:=hz;simp [mE]
  ·rw [if_neg (by omega)]
   have hyb:y<b:=by omega
   have e1:(y+b*m)/b=m:=by rw [Nat.add_mul_div_left _ _ (by omega),Nat.div_eq_of_lt hyb];simp
   have e2:(y+b*m)%b=y:=by rw [Nat.add_mul_mod_self_left,Nat.mod_eq_of_lt hyb]
   have mZ:y+b*m≠0:=by
    intro h0
    have h5:b*m=0:=by omega
    rcases Nat.mul_eq_zero.1 h5 with h6 | h6<;>omega
   rw [rY hb mZ,e1,e2]
theorem AR(hb:2≤b){n k:Nat}(h:n<b^k):(aS b n).length≤k:=by
 induction k generalizing n with
 | zero => have:n=0:=by simpa using h
           subst this;simp [mE]
 | succ k ih =>
  by_cases h0:n=0
  ·subst h0;simp [mE]
  ·rw [rY hb h0]
   have:n/b<b^k:=by
    rw [Nat.pow_succ,Nat.mul_comm]at h
    exact Nat.div_lt_of_lt_mul h
   simpa using ih this
theorem j3(hb:2≤b)(n:Nat):aO (aS b n)=aS b n:=by rw [rZ hb (fI hb n),kP hb];simp
end
section
variable {b:Int}
theorem kQ(l:List Int)(i:Nat)(h:i≤l.length):V b l=V b (l.take i)+b^i*V b (l.drop i):=by
 conv=>lhs;rw [←List.take_append_drop i l]
 rw [eB];simp [Nat.min_eq_left h]
theorem CP{l:List Int}{i:Nat}(h:i<l.length):V b l=V b (l.take i)+b^i*nth l i+b^(i+1)*V b (l.drop (i+1)):=by
 rw [kQ l (i+1) (by omega),aV h]
theorem oA(hb:0<b){x y:List Int}(lx:cV b x)(ly:cV b y)(hl:x.length=y.length){i:Nat}(hi:i<x.length)(hd:x.drop (i+1)=y.drop (i+1))(h:nth x i<nth y i):V b x<V b y:=by
 rw [CP hi,CP (l:=y) (i:=i) (by omega),hd]
 have h1:=oS hb (lx.take i)
 have h2:=bM hb (ly.take i)
 rw [List.length_take,Nat.min_eq_left (by omega)]at h1
 have h3:b^i*(nth x i+1)≤b^i*nth y i:=Int.mul_le_mul_of_nonneg_left (by omega) (Int.le_of_lt (Int.pow_pos hb))
 rw [Int.mul_add]at h3
 omega
theorem lO(hb:1≤b):∀ {l:List Int},cV b l→aO l=l→l ≠ []→b^(l.length-1)≤V b l
 | [],_,_,h=>absurd rfl h
 | [x],hl,hc,_=>by
  have h1:=(cV.cons.1 hl).1
  have h2:x≠0:=fun h=>by subst h;simp [aO]at hc
  simp [V];omega
 | x::y::l,hl,hc,_=>by
  have h1:=(cV.cons.1 hl).1
  have hc2:aO (y::l)=y::l:=by
   rw [aO]at hc
   split at hc
   ·cases hc
   ·exact(List.cons.inj hc).2
  have ih:=lO hb (cV.cons.1 hl).2 hc2 (by simp)
  simp only [List.length_cons,Nat.add_sub_cancel]at ih ⊢
  rw [Int.pow_succ,V]
  have:=Int.mul_le_mul_of_nonneg_left ih (show 0≤b by omega)
  rw [Int.mul_comm b]at this
  omega
theorem eK:∀l:List Int,aO (aO l)=aO l
 | []=>rfl
 | x::l=>by
  have ih:=eK l
  rw [aO]
  split
  ·rfl
  ·rename_i h
   rw [aO,ih,if_neg h]
theorem j4(hb:1≤b){x y:List Int}(lx:cV b x)(ly:cV b y)(hy:aO y=y)(h:x.length<y.length):V b x<V b y:=by
 have h1:=oS (by omega) lx
 have h2:=lO hb ly hy (by intro h0;rw [h0]at h;simp at h)
 have h3:b^x.length≤b^(y.length-1):=by
  obtain⟨k,hk⟩:∃k,y.length-1=x.length+k:=⟨y.length-1-x.length,by omega⟩
  rw [hk,Int.pow_add]
  have:1≤b^k:=Int.pow_pos (by omega)
  have:=Int.mul_le_mul_of_nonneg_left this (show 0≤b^x.length from Int.le_of_lt (Int.pow_pos (by omega)))
  simpa using this
 omega
end
def dI(x y:Int):Int:=if x<y then -1 else if y<x then 1 else 0
theorem l5{x y:Int}(h:x<y):dI x y = -1:=by simp [dI,h]
theorem l6{x y:Int}(h:y<x):dI x y=1:=by simp [dI,h];omega
theorem vY(x:Int):dI x x=0:=by simp [dI]
theorem mF{x y:Int}:dI x y<0↔x<y:=by simp only [dI];split<;>(try split)<;>omega
theorem r5{x y:Int}:0≤dI x y↔y≤x:=by simp only [dI];split<;>(try split)<;>omega
theorem s5{x y:Int}:dI x y=0↔x=y:=by simp only [dI];split<;>(try split)<;>omega
theorem pI{x y:Int}:0<dI x y↔y<x:=by simp only [dI];split<;>(try split)<;>omega
section
variable {b:Nat}
def sz(b:Nat)(x:Int):Nat:=(aS b x.natAbs).length
theorem iZ(hb:2≤b)(x:Int):x.natAbs<b^sz b x:=by
 have h1:=oS (b:=(b:Int)) (by omega) (fI hb x.natAbs)
 rw [kP hb]at h1
 have h2:((b:Int)^(aS b x.natAbs).length)=((b^(aS b x.natAbs).length:Nat):Int):=by simp
 rw [h2]at h1
 unfold sz
 omega
theorem dY(hb:2≤b){x:Int}{k:Nat}(h:x.natAbs<b^k):sz b x≤k:=AR hb h
theorem vZ(hb:2≤b){m n:Nat}(h:m≤n):b^m≤b^n:=Nat.pow_le_pow_right (by omega) h
theorem nJ(hb:2≤b){x y:Int}{k:Nat}(hx:sz b x≤k)(hy:sz b y≤k):sz b (x+y)≤k+1:=by
 refine dY hb ?_
 have h1:=Nat.lt_of_lt_of_le (iZ hb x) (vZ hb hx)
 have h2:=Nat.lt_of_lt_of_le (iZ hb y) (vZ hb hy)
 rw [Nat.pow_succ]
 have h3:b^k*2≤b^k*b:=Nat.mul_le_mul_left _ hb
 omega
theorem cG(hb:2≤b){x y:Int}{k m:Nat}(hx:sz b x≤k)(hy:sz b y≤m):sz b (x*y)≤k+m:=by
 refine dY hb ?_
 have h1:=Nat.lt_of_lt_of_le (iZ hb x) (vZ hb hx)
 have h2:=Nat.lt_of_lt_of_le (iZ hb y) (vZ hb hy)
 rw [Int.natAbs_mul,Nat.pow_add]
 exact Nat.mul_lt_mul'' h1 h2
theorem oT(x:Int):sz b (-x)=sz b x:=by simp [sz]
theorem kR:sz b 0=0:=by simp [sz,mE]
theorem dP(hb:2≤b){x y:Int}(h:x.natAbs≤y.natAbs):sz b x≤sz b y:=dY hb (Nat.lt_of_le_of_lt h (iZ hb y))
end
theorem ayB{b:Nat}(hb:2≤b){l:List Int}(h:cV b l):sz b (V b l)≤l.length:=by
 refine dY hb ?_
 have h1:=oS (b:=(b:Int)) (by omega) h
 have h2:=bM (b:=(b:Int)) (by omega) h
 have h3:((b:Int)^l.length)=((b^l.length:Nat):Int):=by simp
 rw [h3]at h1
 omega
theorem bL{α:Type}{l:List α}{n:Nat}(h:l.length=n):l.take n=l:=List.take_of_length_le (by omega)
theorem mG{α:Type}{l m:List α}{i:Nat}{x:α}(h:l.take i=m)(hi:i<l.length):(l.set i x).take (i+1)=m ++ [x]:=by
 subst h
 rw [List.take_succ_eq_append_getElem (by simpa using hi),gP (Nat.le_refl _)]
 simp
theorem oU{α β:Type}[Inhabited α]{l:List α}{f:α→β}{i:Nat}(h:i<l.length):(l.take (i+1)).map f=(l.take i).map f ++ [f (nth l i)]:=by
 rw [bF h];simp
theorem AS{α β:Type}[Inhabited α][Inhabited β]{f:α→β}(h:f default=default)(l:List α)(k:Nat):nth (l.map f) k=f (nth l k):=by
 unfold nth
 cases hk:l[k]? with
 | none=>simp [hk,h]
 | some x=>simp [hk]
theorem s6{t:Int}{α:Type}(f g:α→Int):∀l:List α,V t (l.map fun k=>f k+g k)=V t (l.map f)+V t (l.map g)
 | []=>by simp [V]
 | x::l=>by simp only [List.map_cons,V,s6 f g l];grind
theorem gW{t:Int}{α:Type}(c:Int)(f:α→Int):∀l:List α,V t (l.map fun k=>f k*c)=V t (l.map f)*c
 | []=>by simp [V]
 | x::l=>by simp only [List.map_cons,V,gW c f l];grind
theorem pJ{x:List Int}{n:Nat}(h:x.length≤n):(List.range n).map (nth x)=x++List.replicate (n-x.length) 0:=by
 apply List.ext_getElem
 ·simp;omega
 ·intro i h1 h2
  simp at h1
  by_cases hi:i<x.length
  ·simp [List.getElem_append,hi,bW hi]
  ·simp [List.getElem_append,hi];exact iI (by omega)
theorem j5{t:Int}{x:List Int}{n:Nat}(h:x.length≤n):V t ((List.range n).map (nth x))=V t x:=by
 rw [pJ h,eB,qW];simp
theorem xW{N a b:Int}{A B:Int→Int}(h:∀t,N<t→a+t*A t=b+t*B t):a=b ∧ ∀t,max N 0<t→A t=B t:=by
 have eW:a=b:=by
  have h1:=h (max N 0+(b-a).natAbs+1) (by omega)
  generalize hT:max N 0+(b-a).natAbs+1=T at *
  have h2:b-a=T*(A T-B T):=by rw [Int.mul_sub];omega
  have h3:T∣b-a:=⟨_,h2⟩
  have h4:=Nat.eq_zero_of_dvd_of_lt (Int.natAbs_dvd_natAbs.2 h3) (by omega)
  omega
 refine⟨eW,fun t ht=>?_⟩
 have h1:=h t (by omega)
 have h2:t*A t=t*B t:=by omega
 exact Int.eq_of_mul_eq_mul_left (by omega) h2
theorem qD:∀(x y:List Int) (N:Int),(∀t,N<t→V t x=V t y)→aO x=aO y
 | [],[],_,_=>rfl
 | [],b::y,N,h=>by
  obtain⟨h1,h2⟩:=xW (N:=N) (a:=0) (b:=b) (A:=fun _=>0) (B:=fun t=>V t y) (fun t ht=>by have:=h t ht;simp only [V]at this;omega)
  have:=qD [] y (max N 0) (fun t ht=>by have:=h2 t ht;simpa [V]using this)
  simp only [aO]at this ⊢
  rw [←this];simp [←h1]
 | a::x,[],N,h=>by
  obtain⟨h1,h2⟩:=xW (N:=N) (a:=a) (b:=0) (A:=fun t=>V t x) (B:=fun _=>0) (fun t ht=>by have:=h t ht;simp only [V]at this;omega)
  have:=qD x [] (max N 0) (fun t ht=>by have:=h2 t ht;simpa [V]using this)
  simp only [aO]at this ⊢
  rw [this];simp [h1]
 | a::x,b::y,N,h=>by
  obtain⟨h1,h2⟩:=xW (N:=N) (a:=a) (b:=b) (A:=fun t=>V t x) (B:=fun t=>V t y) (fun t ht=>h t ht)
  have:=qD x y (max N 0) h2
  simp only [aO]
  rw [this,h1]
theorem amH{x y:List Int}(h:∀t,V t x=V t y):aO x=aO y:=qD x y 0 fun t _=>h t
def iJ(x y:List Int):List Int:=aO ((List.range (max x.length y.length)).map fun k=>nth x k+nth y k)
def fL(x y:List Int):List Int:=aO ((List.range (max x.length y.length)).map fun k=>nth x k-nth y k)
def gV(x:List Int):List Int:=aO (x.map fun c => -c)
def bB(x:List Int)(c:Int):List Int:=aO (x.map fun a=>a*c)
def gQ:List Int→List Int→List Int
 | [],_=>[]
 | a::x,y=>iJ (y.map fun c=>c*a) (0::gQ x y)
def bR(x y:List Int):List Int:=aO (gQ x y)
theorem r6{t:Int}(x y:List Int):V t (iJ x y)=V t x+V t y:=by
 rw [iJ,c8,s6,j5 (by omega),j5 (by omega)]
theorem CQ{t:Int}(x:List Int):V t (gV x) = - V t x:=by
 have:=gW (t:=t) (-1) id x
 rw [gV,c8]
 simp only [id_eq,Int.mul_neg,Int.mul_one,List.map_id_fun]at this
 exact this
theorem cW{t:Int}(x:List Int)(c:Int):V t (bB x c)=V t x*c:=by
 have:=gW (t:=t) c id x
 rw [bB,c8]
 simpa using this
theorem i7{t:Int}(x y:List Int):V t (fL x y)=V t x-V t y:=by
 rw [fL,c8]
 have h1:=s6 (t:=t) (fun k=>nth x k-nth y k) (nth y) (List.range (max x.length y.length))
 have h2:(fun k=>nth x k-nth y k+nth y k)=nth x:=by funext k;omega
 rw [h2,j5 (by omega),j5 (by omega)]at h1
 omega
theorem VC{t:Int}:∀x y:List Int,V t (gQ x y)=V t x*V t y
 | [],y=>by simp [gQ,V]
 | a::x,y=>by
  have:=gW (t:=t) a id y
  simp only [id_eq,List.map_id_fun]at this
  rw [gQ,r6,this]
  simp only [V,VC x y]
  grind
theorem dJ{t:Int}(x y:List Int):V t (bR x y)=V t x*V t y:=by rw [bR,c8,VC]
def Cn(x:List Int):Prop:=aO x=x
theorem Cn.iJ(x y:List Int):Cn (iJ x y):=eK _
theorem Cn.fL(x y:List Int):Cn (fL x y):=eK _
theorem Cn.gV(x:List Int):Cn (gV x):=eK _
theorem Cn.bB(x:List Int)(c:Int):Cn (bB x c):=eK _
theorem Cn.bR(x y:List Int):Cn (bR x y):=eK _
theorem Cn.cut(x:List Int):Cn (aO x):=eK _
theorem Cn.nil:Cn []:=rfl
theorem Cn.ext{x y:List Int}(hx:Cn x)(hy:Cn y)(h:∀t,V t x=V t y):x=y:=by rw [←hx,←hy];exact amH h
structure Bd(b s n:Nat)(x:List Int):Prop where
 len:x.length≤n
 sz:∀c∈x,sz b c≤s
theorem pK:∀(x:List Int) (c:Int),c∈aO x→c∈x
 | [],c,h=>h
 | a::x,c,h=>by
  rw [aO]at h
  split at h
  ·cases h
  ·rcases List.mem_cons.1 h with h1 | h1
   ·simp [h1]
   ·exact List.mem_cons_of_mem _ (pK x c h1)
section
variable {b s s' n n':Nat} {x y:List Int}
theorem Bd.mono(h:Bd b s n x)(hs:s≤s')(hn:n≤n'):Bd b s' n' x:=⟨Nat.le_trans h.len hn,fun c hc=>Nat.le_trans (h.sz c hc) hs⟩
theorem Bd.cut(h:Bd b s n x):Bd b s n (aO x):=⟨Nat.le_trans (bV x) h.len,fun c hc=>h.sz c (pK x c hc)⟩
theorem Bd.nth(h:Bd b s n x)(i:Nat):Pm.sz b (nth x i)≤s:=by
 by_cases hi:i<x.length
 ·exact h.sz _ (bN hi)
 ·rw [iI (by omega)]
  show Pm.sz b 0≤s
  rw [kR];omega
theorem Bd.iJ(hb:2≤b)(hx:Bd b s n x)(hy:Bd b s n y):Bd b (s+1) n (iJ x y):=by
 refine Bd.cut ⟨by have:=hx.len;have:=hy.len;simp;omega,fun c hc=>?_⟩
 simp only [List.mem_map]at hc
 obtain⟨k,_,rfl⟩:=hc
 exact nJ hb (hx.nth k) (hy.nth k)
theorem Bd.fL(hb:2≤b)(hx:Bd b s n x)(hy:Bd b s n y):Bd b (s+1) n (fL x y):=by
 refine Bd.cut ⟨by have:=hx.len;have:=hy.len;simp;omega,fun c hc=>?_⟩
 simp only [List.mem_map]at hc
 obtain⟨k,_,rfl⟩:=hc
 rw [Int.sub_eq_add_neg]
 exact nJ hb (hx.nth k) (by rw [oT];exact hy.nth k)
theorem Bd.gV(hx:Bd b s n x):Bd b s n (gV x):=by
 refine Bd.cut ⟨by simpa using hx.len,fun c hc=>?_⟩
 simp only [List.mem_map]at hc
 obtain⟨k,hk,rfl⟩:=hc
 rw [oT];exact hx.sz k hk
theorem Bd.bB(hb:2≤b)(hx:Bd b s n x){c:Int}(hc:Pm.sz b c≤s'):Bd b (s+s') n (bB x c):=by
 refine Bd.cut ⟨by simpa using hx.len,fun d hd=>?_⟩
 simp only [List.mem_map]at hd
 obtain⟨k,hk,rfl⟩:=hd
 exact cG hb (hx.sz k hk) hc
theorem Bd.gQ(hb:2≤b)(hy:Bd b s' n' y):∀ {x:List Int} {n:Nat},Bd b s n x→Bd b (s+s'+n) (n+n') (gQ x y)
 | [],n,_=>⟨by simp [Pm.gQ],by simp [Pm.gQ]⟩
 | a::x,0,h=>by have:=h.len;simp at this
 | a::x,n+1,h=>by
  have h1:Bd b s n x:=⟨by have:=h.len;simpa using this,fun c hc=>h.sz c (List.mem_cons_of_mem _ hc)⟩
  have h2:=Bd.gQ hb hy h1
  have h3:Bd b (s+s'+n) (n+1+n') (0::Pm.gQ x y):=⟨by have:=h2.len;simp;omega,fun c hc=>by
   rcases List.mem_cons.1 hc with h4 | h4
   ·rw [h4,kR];omega
   ·exact h2.sz c h4⟩
  have h4:Bd b (s+s'+n) (n+1+n') (y.map fun c=>c*a):=⟨by have:=hy.len;simp;omega,fun d hd=>by
   simp only [List.mem_map]at hd
   obtain⟨k,hk,rfl⟩:=hd
   have:=cG hb (hy.sz k hk) (h.sz a (by simp))
   omega⟩
  have:=Bd.iJ hb h4 h3
  rw [Pm.gQ]
  exact this.mono (by omega) (by omega)
theorem Bd.bR(hb:2≤b)(hx:Bd b s n x)(hy:Bd b s' n' y):Bd b (s+s'+n) (n+n') (bR x y):=(Bd.gQ hb hy hx).cut
end
def nb(n:Nat):Nat:=if n=0 then 0 else n.log2+1
theorem oB{n k:Nat}:nb n≤k↔n<2^k:=by
 unfold nb
 split
 ·rename_i h;subst h;simp;exact Nat.pow_pos (by decide)
 ·rename_i h;rw [←Nat.log2_lt h];omega
theorem MW{n k:Nat}(h:n/2^k≠0):nb n=k+nb (n/2^k):=by
 apply Nat.le_antisymm
 ·rw [oB,Nat.pow_add]
  have h1:n/2^k<2^nb (n/2^k):=oB.1 (Nat.le_refl _)
  have h2:=Nat.lt_mul_of_div_lt h1 (Nat.pow_pos (by decide))
  rw [Nat.mul_comm]at h2
  exact h2
 ·have h3:∀m,nb n≤m→k+nb (n/2^k)≤m:=by
   intro m hm
   rw [oB]at hm
   have hkm:k≤m:=by
    rcases Nat.lt_or_ge m k with h4 | h4
    ·exfalso;apply h;apply Nat.div_eq_of_lt;exact Nat.lt_of_lt_of_le hm (Nat.pow_le_pow_right (by decide) (by omega))
    ·exact h4
   have h5:nb (n/2^k)≤m-k:=by
    rw [oB]
    apply Nat.div_lt_of_lt_mul
    rw [←Nat.pow_add,show k+(m-k)=m by omega];exact hm
   omega
  exact h3 _ (Nat.le_refl _)
end Pm
namespace Pm
open Go
theorem acG{a b s:Nat}(h:2^s∣a)(hb:b<2^s):a ||| b=a+b:=by
 obtain⟨q,rfl⟩:=h
 exact(Nat.two_pow_add_eq_or_of_lt hb q).symm
theorem Y1{a b s:Nat}(h:2^s∣a)(hb:b<2^s)(eW:a+b<4294967296):rI .u32 a b=((a+b:Nat):Int):=by
 have h1:((BitVec.ofInt 32 (a:Int)) ||| (BitVec.ofInt 32 (b:Int))).toNat=a+b:=by
  rw [BitVec.toNat_or,BitVec.toNat_ofInt,BitVec.toNat_ofInt,←acG h hb]
  congr 1<;>omega
 show IntKind.u32.wrap (((BitVec.ofInt 32 (a:Int)) ||| (BitVec.ofInt 32 (b:Int))).toNat:Int)=_
 rw [h1]
 simp only [IntKind.wrap,IntKind.bits,IntKind.signed]
 simp
 omega
theorem Y2{a b s:Nat}(h:2^s∣a)(hb:b<2^s)(eW:a+b<18446744073709551616):rI .u64 a b=((a+b:Nat):Int):=by
 have h1:((BitVec.ofInt 64 (a:Int)) ||| (BitVec.ofInt 64 (b:Int))).toNat=a+b:=by
  rw [BitVec.toNat_or,BitVec.toNat_ofInt,BitVec.toNat_ofInt,←acG h hb]
  congr 1<;>omega
 show IntKind.u64.wrap (((BitVec.ofInt 64 (a:Int)) ||| (BitVec.ofInt 64 (b:Int))).toNat:Int)=_
 rw [h1]
 simp only [IntKind.wrap,IntKind.bits,IntKind.signed]
 simp
 omega
theorem CR(k:IntKind)(a b:Int):rI k a b=rI k b a:=by unfold rI;rw [BitVec.or_comm]
theorem agG{a b:Int}(s:Nat)(ha:0≤a)(hb0:0≤b)(h:(2^s:Int)∣a)(hb:b<2^s)(eW:a+b<4294967296):rI .u32 a b=a+b∧rI .u32 b a=a+b:=by
 obtain⟨x,rfl⟩:=Int.eq_ofNat_of_zero_le ha
 obtain⟨y,rfl⟩:=Int.eq_ofNat_of_zero_le hb0
 have h1:2^s∣x:=by exact_mod_cast h
 have h2:y<2^s:=by exact_mod_cast hb
 have:=Y1 h1 h2 (by omega)
 rw [CR .u32 (y:Int)]
 refine⟨?_,?_⟩<;>rw [this]<;>simp
theorem AU{a b:Int}(s:Nat)(ha:0≤a)(hb0:0≤b)(h:(2^s:Int)∣a)(hb:b<2^s)(eW:a+b<18446744073709551616):rI .u64 a b=a+b∧rI .u64 b a=a+b:=by
 obtain⟨x,rfl⟩:=Int.eq_ofNat_of_zero_le ha
 obtain⟨y,rfl⟩:=Int.eq_ofNat_of_zero_le hb0
 have h1:2^s∣x:=by exact_mod_cast h
 have h2:y<2^s:=by exact_mod_cast hb
 have:=Y2 h1 h2 (by omega)
 rw [CR .u64 (y:Int)]
 refine⟨?_,?_⟩<;>rw [this]<;>simp
end Pm
namespace Pm
structure KD(b W top next head x2 X Y:Int):Prop where
 b0:2≤b
 W0:1≤W
 t0:1≤top
 n0:0≤next
 h0:0≤head
 x0:0≤x2
 nb:next<b
 xb:x2<b
 Yl:(top*b+next)*W≤Y
 Yu:Y<(top*b+next+1)*W
 Xl:(head*b+x2)*W≤X
 Xu:X<(head*b+x2+1)*W
 lt:X<b*Y
section
variable {b W top next head x2 X Y:Int} (h:KD b W top next head x2 X Y)
include h
theorem KD.Y0:0<Y:=by
 have h1:1≤top*b+next:=by
  have:=Int.mul_le_mul_of_nonneg_right h.t0 (show 0≤b by have:=h.b0;omega)
  have:=h.n0;have:=h.b0;omega
 have:=Int.mul_le_mul h1 h.W0 (by decide) (by omega)
 have:=h.Yl;omega
theorem KD.first:X<(head/top+1)*Y:=by
 have h1:head+1≤(head/top+1)*top:=by
  have:=Int.lt_ediv_add_one_mul_self head (show 0<top by have:=h.t0;omega)
  omega
 have hg:0≤head/top+1:=by have:=Int.ediv_nonneg h.h0 (show 0≤top by have:=h.t0;omega);omega
 have hbW:0≤b*W:=Int.mul_nonneg (by have:=h.b0;omega) (by have:=h.W0;omega)
 have h2:=Int.mul_le_mul_of_nonneg_right h1 hbW
 have h3:(head*b+x2+1)*W≤(head+1)*(b*W):=by
  have:(head+1)*(b*W)=(head*b+b)*W:=by grind
  rw [this]
  exact Int.mul_le_mul_of_nonneg_right (by have:=h.xb;omega) (by have:=h.W0;omega)
 have h4:top*(b*W)≤Y:=by
  have:top*(b*W)≤(top*b+next)*W:=by
   have e:top*(b*W)=(top*b)*W:=by grind
   rw [e]
   exact Int.mul_le_mul_of_nonneg_right (by have:=h.n0;omega) (by have:=h.W0;omega)
  have:=h.Yl;omega
 have h5:(head/top+1)*top*(b*W)≤(head/top+1)*Y:=by
  rw [Int.mul_assoc];exact Int.mul_le_mul_of_nonneg_left h4 hg
 have:=h.Xu;omega
theorem KD.big{g:Int}(hg:b≤g):X<g*Y:=by
 have:=Int.mul_le_mul_of_nonneg_right hg (Int.le_of_lt h.Y0)
 have:=h.lt;omega
theorem KD.over{g r:Int}(hg:0≤g)(hr:g*top+r=head)(ho:r*b+x2<g*next):X<g*Y:=by
 have h1:head*b+x2+1≤g*(top*b+next):=by
  have:g*(top*b+next)=(g*top)*b+g*next:=by grind
  have h2:g*top=head-r:=by omega
  have h3:(head-r)*b=head*b-r*b:=by grind
  rw [this,h2,h3];omega
 have h2:=Int.mul_le_mul_of_nonneg_right h1 (show 0≤W by have:=h.W0;omega)
 have h3:=Int.mul_le_mul_of_nonneg_left h.Yl hg
 rw [←Int.mul_assoc]at h3
 have:=h.Xu;omega
theorem KD.tM{g r:Int}(hg:0≤g)(K5:g<b)(hr:g*top+r=head)(hn:g*next≤r*b+x2):g*Y<X+Y:=by
 have h1:g*(top*b+next)≤head*b+x2:=by
  have:g*(top*b+next)=(g*top)*b+g*next:=by grind
  have h2:g*top=head-r:=by omega
  have h3:(head-r)*b=head*b-r*b:=by grind
  rw [this,h2,h3];omega
 have h2:=Int.mul_le_mul_of_nonneg_right h1 (show 0≤W by have:=h.W0;omega)
 have h3:g*Y≤g*((top*b+next)*W)+g*W:=by
  have h4:Y≤(top*b+next)*W+W:=by have:=h.Yu;grind
  have:=Int.mul_le_mul_of_nonneg_left h4 hg
  rw [Int.mul_add]at this;exact this
 have h5:g*W<b*W:=Int.mul_lt_mul_of_pos_right K5 (by have:=h.W0;omega)
 have h6:b*W≤Y:=by
  have h7:b*W≤(top*b+next)*W:=Int.mul_le_mul_of_nonneg_right (by
   have:=Int.mul_le_mul_of_nonneg_right h.t0 (show 0≤b by have:=h.b0;omega)
   have:=h.n0;omega) (by have:=h.W0;omega)
  have:=h.Yl;omega
 rw [←Int.mul_assoc]at h3
 have:=h.Xl;omega
theorem KD.asX{g r:Int}(hg:0≤g)(K5:g<b)(hr:b≤r):g*next≤r*b+x2:=by
 have h1:g*next≤b*b:=Int.mul_le_mul (by omega) (by have:=h.nb;omega) h.n0 (by have:=h.b0;omega)
 have h2:b*b≤r*b:=Int.mul_le_mul_of_nonneg_right hr (by have:=h.b0;omega)
 have:=h.x0;omega
theorem KD.acH{g r:Int}(hh:head≤top*b+b-1)(he:g*top+r=head)(hr:b≤r):g<b:=by
 rcases Int.lt_or_le g b with h1 | h1
 ·exact h1
 ·have:=Int.mul_le_mul_of_nonneg_right h1 (show 0≤top by have:=h.t0;omega)
  rw [Int.mul_comm b]at this
  omega
theorem KD.right{g:Int}(h1:X<(g+1)*Y)(h2:0≤X-g*Y):g=X/Y∧X-g*Y=X%Y:=by
 have hY:=h.Y0
 have h3:X/Y=g:=by
  have e:(g+1)*Y=g*Y+Y:=by grind
  rw [Int.ediv_eq_iff_of_pos hY]
  constructor
  ·omega
  ·omega
 refine⟨h3.symm,?_⟩
 have:=Int.emod_def X Y
 rw [h3,Int.mul_comm]at this
 omega
theorem KD.asY{g:Int}(h1:g*Y<X+Y)(h2:X-g*Y<0):g-1=X/Y∧X-g*Y+Y=X%Y:=by
 have hY:=h.Y0
 have e:(g-1)*Y=g*Y-Y:=by grind
 have e2:(g-1+1)*Y=g*Y:=by grind
 have:=h.right (g:=g-1) (by rw [e2];omega) (by rw [e];omega)
 rw [e]at this
 exact⟨this.1,by have:=this.2;omega⟩
end
theorem acI{d e x x':Int}(hd:0<d)(he:0<e)(Y3:d*e=4294967296)(hx:0≤x∧x<4294967296)(FQ:0≤x'∧x'<4294967296) :
  d*(((x+4294967296*x')/d)%4294967296)=x-x%d+4294967296*(x'%d)∧(0≤((x+4294967296*x')/d)%4294967296∧((x+4294967296*x')/d)%4294967296<4294967296):=by
 have h1:(x+4294967296*x')/d=x/d+e*x':=by
  have:x+4294967296*x'=x+d*(e*x'):=by rw [←Y3];grind
  rw [this,Int.add_mul_ediv_left _ _ (by omega)]
 have h2:x/d<e:=Int.ediv_lt_of_lt_mul hd (by rw [Int.mul_comm,Y3];exact hx.2)
 have h3:0≤x/d:=Int.ediv_nonneg hx.1 (by omega)
 have h4:e*x'=e*(x'%d)+4294967296*(x'/d):=by
  have:=Int.mul_ediv_add_emod x' d
  calc e*x'=e*(d*(x'/d)+x'%d):=by rw [this]
   _=e*(x'%d)+(d*e)*(x'/d):=by grind
   _=e*(x'%d)+4294967296*(x'/d):=by rw [Y3]
 have h5:0≤x'%d:=Int.emod_nonneg _ (by omega)
 have h6:x'%d<d:=Int.emod_lt_of_pos _ hd
 have h7:e*(x'%d)+e≤4294967296:=by
  have:=Int.mul_le_mul_of_nonneg_left (show x'%d+1≤d by omega) (show 0≤e by omega)
  rw [Int.mul_add,Int.mul_comm e d,Y3]at this;omega
 have h8:0≤e*(x'%d):=Int.mul_nonneg (by omega) h5
 have h9:((x+4294967296*x')/d)%4294967296=x/d+e*(x'%d):=by
  rw [h1,h4,←Int.add_assoc,Int.add_mul_emod_self_left,Int.emod_eq_of_lt (by omega) (by omega)]
 rw [h9]
 refine⟨?_,by omega,by omega⟩
 have h10:=Int.mul_ediv_add_emod x d
 have h11:d*(e*(x'%d))=4294967296*(x'%d):=by rw [←Int.mul_assoc,Y3]
 rw [Int.mul_add,h11];omega
theorem asZ{m:Nat}{D y:List Int}(hD:m+3≤D.length)(hy:y.length=m+2)(lD:cV 4294967296 D)(ly:cV 4294967296 y)(ht:1≤nth y (m+1))(dK:V 4294967296 (D.take (m+3))<4294967296*V 4294967296 y) :
  KD 4294967296 (4294967296^m) (nth y (m+1)) (nth y m) (nth D (m+2)*4294967296+nth D (m+1)) (nth D m) (V 4294967296 (D.take (m+3))) (V 4294967296 y)∧nth D (m+2)≤nth y (m+1):=by
 have hp:(0:Int)<4294967296^m:=Int.pow_pos (by decide)
 have y0:=bM (by decide) (ly.take m)
 have y1:=oS (by decide) (ly.take m)
 rw [List.length_take,Nat.min_eq_left (by omega)]at y1
 have x0:=bM (by decide) (lD.take m)
 have x1:=oS (by decide) (lD.take m)
 rw [List.length_take,Nat.min_eq_left (by omega)]at x1
 have hY:V 4294967296 y=V 4294967296 (y.take m)+4294967296^m*(nth y m+4294967296*nth y (m+1)):=by
  rw [←a9 (l:=y) (i:=m+1+1) (by omega),aV (by omega),aV (by omega),Int.pow_succ];grind
 have hX:V 4294967296 (D.take (m+3))=V 4294967296 (D.take m)+4294967296^m*(nth D m+4294967296*(nth D (m+1)+4294967296*nth D (m+2))):=by
  rw [show m+3=m+1+1+1 from rfl,aV (by omega),aV (by omega),aV (by omega),Int.pow_succ,Int.pow_succ];grind
 have l1:=ly.nth (i:=m) (by omega)
 have l2:=ly.nth (i:=m+1) (by omega)
 have k0:=lD.nth (i:=m) (by omega)
 have k1:=lD.nth (i:=m+1) (by omega)
 have k2:=lD.nth (i:=m+2) (by omega)
 generalize nth y m=ya at *
 generalize nth y (m+1)=yb at *
 generalize nth D m=xa at *
 generalize nth D (m+1)=xb at *
 generalize nth D (m+2)=xc at *
 generalize V 4294967296 (y.take m)=yr at *
 generalize V 4294967296 (D.take m)=xr at *
 generalize V 4294967296 (D.take (m+3))=X at *
 generalize V 4294967296 y=Y at *
 generalize (4294967296:Int)^m=W at *
 have e1:(yb*4294967296+ya)*W=W*(ya+4294967296*yb):=by grind
 have e2:(yb*4294967296+ya+1)*W=W*(ya+4294967296*yb)+W:=by grind
 have e3:((xc*4294967296+xb)*4294967296+xa)*W=W*(xa+4294967296*(xb+4294967296*xc)):=by grind
 have e4:((xc*4294967296+xb)*4294967296+xa+1)*W=W*(xa+4294967296*(xb+4294967296*xc))+W:=by grind
 refine⟨⟨by decide,by omega,ht,l1.1,by omega,k0.1,l1.2,k0.2,by omega,by omega,by omega,by omega,dK⟩,?_⟩
 rcases Int.lt_or_le yb xc with h | h
 ·exfalso
  have h1:W*(4294967296*(4294967296*(yb+1)))≤W*(xa+4294967296*(xb+4294967296*xc)):=Int.mul_le_mul_of_nonneg_left (by omega) (by omega)
  have h2:Y<W*(4294967296*(yb+1)):=by
   have:=Int.mul_le_mul_of_nonneg_left (show ya+4294967296*yb+1≤4294967296*(yb+1)by omega) (show 0≤W by omega)
   rw [Int.mul_add]at this
   omega
  have h3:W*(4294967296*(4294967296*(yb+1)))=4294967296*(W*(4294967296*(yb+1))):=by grind
  omega
 ·exact h
theorem acJ{g w c x β:Int}(hg:0≤g∧g<4294967296)(hw:0≤w∧w<4294967296)(hc:0≤c∧c<4294967296)(hx:0≤x∧x<4294967296)(hβ:β=0∨β=1) :
  (0≤g*w+c∧g*w+c<18446744069414584321)∧(0≤(g*w+c)/4294967296∧(g*w+c)/4294967296<4294967296) ∧
  ∃β',(β'=0∨β'=1)∧((x-(g*w+c)%4294967296-β)%18446744073709551616)/9223372036854775808=β' ∧
   ((x-(g*w+c)%4294967296-β)%18446744073709551616)%4294967296=x-(g*w+c)%4294967296-β+β'*4294967296:=by
 have h1:0≤g*w:=Int.mul_nonneg hg.1 hw.1
 have h2:g*w≤4294967295*4294967295:=Int.mul_le_mul (by omega) (by omega) hw.1 (by omega)
 generalize g*w=p at *
 refine⟨by omega,by omega,?_⟩
 rcases Int.lt_or_le (x-(p+c)%4294967296-β) 0 with h | h
 ·exact⟨1, .inr rfl,by omega,by omega⟩
 ·exact⟨0, .inl rfl,by omega,by omega⟩
theorem wB(x y:List Int):(fL x y).length≤max x.length y.length:=Nat.le_trans (bV _) (by simp)
theorem qE(x:List Int)(c:Int):(bB x c).length≤x.length:=Nat.le_trans (bV _) (by simp)
def lead(x:List Int):Int:=nth x (x.length-1)
theorem uR{x:List Int}(h:0<x.length):x=x.take (x.length-1) ++ [lead x]:=by
 have:=bF (l:=x) (i:=x.length-1) (by omega)
 rw [show x.length-1+1=x.length by omega,List.take_length]at this
 exact this
theorem dC{x:List Int}(hc:Cn x)(h:0<x.length):lead x≠0:=by
 intro h0
 have e:=uR h
 rw [h0]at e
 have h1:=j2 (x.take (x.length-1))
 rw [←e,show aO x=x from hc]at h1
 have h2:=bV (x.take (x.length-1))
 rw [←h1,List.length_take]at h2
 omega
theorem I5{x:List Int}(h:0<x.length)(t:Int):V t x=V t (x.take (x.length-1))+t^(x.length-1)*lead x:=by
 conv=>lhs;rw [uR h]
 rw [eB,n9,List.length_take,Nat.min_eq_left (by omega)]
def rA(i:Nat)(x:Int):List Int:=List.replicate i 0 ++ [x]
theorem oC(t:Int)(i:Nat)(x:Int):V t (rA i x)=t^i*x:=by rw [rA,eB,qW,n9];simp
def wC(b r:List Int)(i:Nat):Int:=if r.length=b.length+i then lead r else 0
def psq(c x:Int)(i:Nat)(q:List Int):List Int:=iJ (bB q c) (rA i x)
def xO(b:List Int)(c x:Int)(i:Nat)(r:List Int):List Int:=fL (bB r c) (bR (rA i x) b)
def ps(b:List Int)(c:Int):Nat→List Int→List Int→List Int × List Int
 | 0,q,r=>(q,r)
 | i+1,q,r=>ps b c i (psq c (wC b r i) i q) (xO b c (wC b r i) i r)
theorem as1(t:Int)(b:List Int)(c:Int):∀(k:Nat) (q r:List Int),V t (ps b c k q r).1*V t b+V t (ps b c k q r).2=c^k*(V t q*V t b+V t r)
 | 0,q,r=>by simp [ps]
 | i+1,q,r=>by
  rw [ps,as1 t b c i]
  simp only [psq,xO,r6,i7,cW,dJ,oC,Int.pow_succ]
  grind
theorem AV{b r:List Int}{i:Nat}(hb:0<b.length)(hr:r.length≤b.length+i):(xO b (lead b) (wC b r i) i r).length≤b.length-1+i:=by
 rcases Nat.lt_or_ge r.length (b.length+i)with h | h
 ·have hx:wC b r i=0:=by rw [wC,if_neg (by omega)]
  have e:xO b (lead b) (wC b r i) i r=bB r (lead b):=Cn.ext (Cn.fL _ _) (Cn.bB _ _) fun t=>by
   rw [hx,xO,i7,dJ,oC];simp
  rw [e]
  have:=qE r (lead b);omega
 ·have Y4:r.length=b.length+i:=by omega
  have hx:wC b r i=lead r:=by rw [wC,if_pos Y4]
  have e:xO b (lead b) (wC b r i) i r=fL (bB (r.take (r.length-1)) (lead b)) (List.replicate i 0++(b.take (b.length-1)).map fun v=>v*lead r):=Cn.ext (Cn.fL _ _) (Cn.fL _ _) fun t=>by
   have h1:=I5 (x:=r) (by omega) t
   have h2:=I5 (x:=b) hb t
   have h3:=gW (t:=t) (lead r) id (b.take (b.length-1))
   simp only [id_eq,List.map_id_fun]at h3
   rw [hx,xO,i7,i7,dJ,oC,cW,cW,eB,qW,h3,List.length_replicate,h1,h2,show r.length-1=i+(b.length-1)by omega,Int.pow_add]
   grind
  rw [e]
  refine Nat.le_trans (wB _ _) ?_
  have h4:=qE (r.take (r.length-1)) (lead b)
  rw [List.length_take]at h4
  simp only [List.length_append,List.length_replicate,List.length_map,List.length_take]
  omega
theorem acK{b:List Int}(hb:0<b.length):∀(k:Nat) (q r:List Int),r.length≤b.length-1+k→(ps b (lead b) k q r).2.length≤b.length-1
 | 0,q,r,h=>by simpa [ps]using h
 | i+1,q,r,h=>by
  rw [ps]
  exact acK hb i _ _ (AV hb (by omega))
theorem ajK{b:List Int}{c:Int}:∀(k:Nat) (q r:List Int),Cn q→Cn r→Cn (ps b c k q r).1∧Cn (ps b c k q r).2
 | 0,q,r,h1,h2=>⟨h1,h2⟩
 | i+1,q,r,_,_=>by rw [ps];exact ajK i _ _ (Cn.iJ _ _) (Cn.fL _ _)
theorem gT{b s n:Nat}{x:List Int}(h:Bd b s n x):sz b (lead x)≤s:=h.nth _
theorem Bd.rA{b s:Nat}{x:Int}(h:Pm.sz b x≤s)(i:Nat):Bd b s (i+1) (Pm.rA i x):=⟨by simp [Pm.rA],fun c hc=>by
 simp only [Pm.rA,List.mem_append,List.mem_replicate,List.mem_singleton]at hc
 rcases hc with ⟨_,rfl⟩ | rfl
 ·rw [kR];omega
 ·exact h⟩
theorem acL{b s n i:Nat}{y r:List Int}(h:Bd b s n r):sz b (wC y r i)≤s:=by
 rw [wC];split
 ·exact gT h
 ·rw [kR];omega
theorem CT{B s s' N i:Nat}{b q r:List Int}(hB:2≤B)(hb:Bd B s' N b)(hq:Bd B s (N+N) q)(hr:Bd B s (N+N) r)(hi:i<N) :
  Bd B (s+s'+N+1) (N+N) (psq (lead b) (wC b r i) i q)∧Bd B (s+s'+N+1) (N+N) (xO b (lead b) (wC b r i) i r):=by
 have hc:=gT hb
 have hx:=acL (y:=b) (i:=i) hr
 have hs:=Bd.rA hx i
 constructor
 ·exact(Bd.iJ hB ((hq.bB hB hc).mono (s':=s+s') (n':=N+N) (by omega) (by omega)) (hs.mono (by omega) (by omega))).mono (by omega) (by omega)
 ·exact(Bd.fL hB ((hr.bB hB hc).mono (s':=s+s'+N) (n':=N+N) (by omega) (by omega)) ((hs.bR hB hb).mono (by omega) (by omega))).mono (by omega) (by omega)
theorem acM{B s' N:Nat}{b:List Int}(hB:2≤B)(hb:Bd B s' N b):∀(k s:Nat) (q r:List Int),k≤N→Bd B s (N+N) q→Bd B s (N+N) r→Bd B (s+k*(s'+N+1)) (N+N) (ps b (lead b) k q r).1∧Bd B (s+k*(s'+N+1)) (N+N) (ps b (lead b) k q r).2
 | 0,s,q,r,_,hq,hr=>⟨hq.mono (by omega) (by omega),hr.mono (by omega) (by omega)⟩
 | i+1,s,q,r,hk,hq,hr=>by
  obtain⟨h1,h2⟩:=CT hB hb hq hr (show i<N by omega)
  obtain⟨h3,h4⟩:=acM hB hb i (s+s'+N+1) _ _ (by omega) h1 h2
  rw [ps,Nat.add_mul,Nat.one_mul]
  exact⟨h3.mono (by omega) (by omega),h4.mono (by omega) (by omega)⟩
def jU(a b:List Int):Nat:=a.length+1-b.length
def zF(a b:List Int):List Int × List Int:=ps b (lead b) (jU a b) [] a
theorem acN(t:Int)(a b:List Int):V t (zF a b).1*V t b+V t (zF a b).2=lead b^jU a b*V t a:=by
 rw [zF,as1];simp [V]
theorem I6{a b:List Int}(hb:0<b.length):(zF a b).2.length≤b.length-1:=acK hb _ _ _ (by unfold jU;omega)
theorem CU{a b:List Int}(ha:Cn a):Cn (zF a b).1∧Cn (zF a b).2:=ajK _ _ _ Cn.nil ha
theorem CV(x y:List Int):(iJ x y).length≤max x.length y.length:=Nat.le_trans (bV _) (by simp)
theorem GC:∀(x y:List Int),0<y.length→(gQ x y).length≤x.length+y.length-1
 | [],y,_=>by simp [gQ]
 | a::x,y,h=>by
  have ih:=GC x y h
  have h1:=CV (y.map fun c=>c*a) (0::gQ x y)
  simp only [List.length_map,List.length_cons]at h1
  rw [gQ]
  simp only [List.length_cons]
  omega
theorem r7{x y:List Int}(h:0<y.length):(bR x y).length≤x.length+y.length-1:=Nat.le_trans (bV _) (GC x y h)
theorem MX(x:List Int):bR x [] = []:=Cn.ext (Cn.bR _ _) Cn.nil fun t=>by rw [dJ];simp [V]
theorem MY{x y:List Int}(cx:Cn x)(cy:Cn y)(hx:0<x.length)(hy:0<y.length):∃w:List Int,w.length=x.length+y.length-2∧bR x y=w ++ [lead x*lead y]:=by
 have lx:=dC cx hx
 have ly:=dC cy hy
 obtain⟨u,hu⟩:∃u,u=iJ (bR (y.take (y.length-1)) x) (bR (rA (y.length-1) (lead y)) (x.take (x.length-1))):=⟨_,rfl⟩
 have hul:u.length≤x.length+y.length-2:=by
  have h1:=r7 (x:=y.take (y.length-1)) (y:=x) hx
  rw [List.length_take]at h1
  have h2:(bR (rA (y.length-1) (lead y)) (x.take (x.length-1))).length≤x.length+y.length-2:=by
   rcases Nat.eq_zero_or_pos (x.take (x.length-1)).length with h | h
   ·have:x.take (x.length-1) = []:=List.eq_nil_of_length_eq_zero h
    rw [this,MX];simp
   ·have:=r7 (x:=rA (y.length-1) (lead y)) h
    simp only [rA,List.length_append,List.length_replicate,List.length_singleton,List.length_take]at this ⊢
    omega
  have h3:=CV (bR (y.take (y.length-1)) x) (bR (rA (y.length-1) (lead y)) (x.take (x.length-1)))
  rw [←hu]at h3
  omega
 refine⟨(List.range (x.length+y.length-2)).map (nth u),by simp,?_⟩
 have mZ:lead x*lead y≠0:=Int.mul_ne_zero lx ly
 refine Cn.ext (Cn.bR _ _) (jL mZ _) fun t=>?_
 rw [eB,j5 hul,n9,hu,r6,dJ,dJ,dJ,oC,I5 hx,I5 hy]
 simp only [List.length_map,List.length_range]
 rw [show x.length+y.length-2=(x.length-1)+(y.length-1)by omega,Int.pow_add]
 grind
theorem j6{x y:List Int}(cx:Cn x)(cy:Cn y)(hx:0<x.length)(hy:0<y.length):(bR x y).length=x.length+y.length-1:=by
 obtain⟨w,h1,h2⟩:=MY cx cy hx hy
 rw [h2,List.length_append,h1,List.length_singleton];omega
theorem xX{x y:List Int}(cx:Cn x)(cy:Cn y)(hx:0<x.length)(hy:0<y.length):lead (bR x y)=lead x*lead y:=by
 obtain⟨w,h1,h2⟩:=MY cx cy hx hy
 rw [h2,lead,List.length_append,List.length_singleton,Nat.add_sub_cancel,bW (by simp)]
 simp
theorem GD{u y h:List Int}(cu:Cn u)(cy:Cn y)(hy:0<y.length)(e:∀t,V t u=V t y*V t h)(hl:u.length<y.length):u = []:=by
 have e2:u=bR y (aO h):=Cn.ext cu (Cn.bR _ _) fun t=>by rw [dJ,c8,e t]
 rcases Nat.eq_zero_or_pos (aO h).length with h0 | h0
 ·have:aO h = []:=List.eq_nil_of_length_eq_zero h0
  rw [e2,this,MX]
 ·have:=j6 cy (Cn.cut h) hy h0
  rw [←e2]at this;omega
theorem pL(i:Nat):nth ([]:List Int) i=0:=iI (by simp)
theorem s7(a:Int)(l:List Int):nth (a::l) 0=a:=rfl
theorem j7(a:Int)(l:List Int)(i:Nat):nth (a::l) (i+1)=nth l i:=by simp [nth]
theorem jD:∀(x:List Int) (i:Nat),nth (aO x) i=nth x i
 | [],i=>rfl
 | a::l,i=>by
  rw [aO]
  split
  ·rename_i h
   cases i with
   | zero=>rw [pL,s7,h.2]
   | succ i=>rw [j7,←jD l i,h.1,pL,pL]
  ·cases i with
   | zero=>rfl
   | succ i=>rw [j7,j7,jD l i]
theorem wD(x y:List Int)(i:Nat):nth (iJ x y) i=nth x i+nth y i:=by
 rw [iJ,jD]
 rcases Nat.lt_or_ge i (max x.length y.length)with h | h
 ·rw [bW (by simpa using h)];simp
 ·rw [iI (by simpa using h),iI (l:=x) (by omega),iI (l:=y) (by omega)];rfl
theorem jV(c:Int)(x:List Int)(i:Nat):nth (x.map (· * c)) i=nth x i*c:=AS (f:=fun v=>v*c) (Int.zero_mul c) x i
theorem R5(c:Int)(x:List Int)(i:Nat):nth (bB x c) i=nth x i*c:=by rw [bB,jD];exact jV c x i
theorem r8(k:Int)(x y:List Int):nth (bR (k::x) y) 0=nth y 0*k:=by
 rw [bR,jD,gQ,wD,s7,jV,Int.add_zero]
theorem nK(k:Int)(x y:List Int)(i:Nat):nth (bR (k::x) y) (i+1)=nth y (i+1)*k+nth (bR x y) i:=by
 rw [bR,jD,gQ,wD,j7,jV,bR,jD]
theorem GF(x y:List Int):bR x y=bR y x:=Cn.ext (Cn.bR _ _) (Cn.bR _ _) fun t=>by rw [dJ,dJ,Int.mul_comm]
def Dv(d:Nat)(x:List Int):Prop:=∀i,(d:Int)∣nth x i
theorem Dv.mem{d:Nat}{x:List Int}(h:Dv d x):∀c∈x,(d:Int)∣c:=fun c hc=>by
 obtain⟨i,hi,rfl⟩:=List.getElem_of_mem hc
 rw [←bW hi];exact h i
theorem Dv.of{d:Nat}{x:List Int}(h:∀c∈x,(d:Int)∣c):Dv d x:=fun i=>by
 rcases Nat.lt_or_ge i x.length with h1 | h1
 ·exact h _ (bN h1)
 ·rw [iI h1];exact Int.dvd_zero _
theorem Dv.cons{d:Nat}{k:Int}{x:List Int}(h1:(d:Int)∣k)(h2:Dv d x):Dv d (k::x):=fun i=>by
 cases i with
 | zero=>exact h1
 | succ i=>rw [j7];exact h2 i
theorem Dv.nil(d:Nat):Dv d []:=fun i=>by rw [pL];exact Int.dvd_zero _
theorem Dv.trans{d e:Nat}{x:List Int}(h:e∣d)(h2:Dv d x):Dv e x:=fun i=>Int.dvd_trans (Int.ofNat_dvd.2 h) (h2 i)
theorem VD:∀(n d:Nat) (x y:List Int),d+x.length+y.length≤n→0<d→Dv d (bR x y)→(∀e:Nat,e∣d→Dv e y→e=1)→Dv d x
 | n,d,[],y,_,_,_,_=>Dv.nil d
 | n,d,k::x,[],_,_,_,h=>by
  have:=h d (Nat.dvd_refl d) (Dv.nil d)
  subst this
  exact fun i=>Int.one_dvd _
 | 0,d,k::x,l::y,hn,_,_,_=>by simp at hn
 | n+1,d,k::x,l::y,hn,hd,hp,h=>by
  simp only [List.length_cons]at hn
  have h0:=hp 0
  rw [r8,s7]at h0
  obtain⟨g,hg⟩:∃g,g=Nat.gcd d l.natAbs:=⟨_,rfl⟩
  have gd:g∣d:=by rw [hg];exact Nat.gcd_dvd_left _ _
  have gl:(g:Int)∣l:=by rw [hg];exact Int.ofNat_dvd_left.2 (Nat.gcd_dvd_right _ _)
  have g0:0<g:=Nat.pos_of_dvd_of_pos gd hd
  have gle:g≤d:=Nat.le_of_dvd hd gd
  by_cases g1:g=1
  ·have hk:(d:Int)∣k:=by
    have h1:d∣(l*k).natAbs:=Int.ofNat_dvd_left.1 h0
    rw [Int.natAbs_mul]at h1
    exact Int.ofNat_dvd_left.2 (Nat.Coprime.dvd_of_dvd_mul_left (show Nat.gcd d l.natAbs=1 by omega) h1)
   refine Dv.cons hk (VD n d x (l::y) (by simp only [List.length_cons];omega) hd (fun i=>?_) h)
   have h1:=hp (i+1)
   rw [nK]at h1
   exact(Int.dvd_add_right (Int.dvd_trans hk (Int.dvd_mul_left _ _))).1 h1
  ·have hgx:Dv g (k::x):=by
    refine VD n g (k::x) y (by simp only [List.length_cons];omega) g0 (fun i=>?_) (fun e he hy=>h e (Nat.dvd_trans he gd) (Dv.cons (Int.dvd_trans (Int.ofNat_dvd.2 he) gl) hy))
    have h1:=Dv.trans gd hp (i+1)
    rw [GF,nK,GF y]at h1
    exact(Int.dvd_add_right (Int.dvd_trans gl (Int.dvd_mul_left _ _))).1 h1
   obtain⟨d',rfl⟩:=gd
   have hd':0<d':=Nat.pos_of_mul_pos_left hd
   have dK:d'<g*d':=by
    have:2*d'≤g*d':=Nat.mul_le_mul_right _ (by omega)
    omega
   obtain⟨x',FQ⟩:∃x':List Int,x'=(k::x).map (· / (g:Int)):=⟨_,rfl⟩
   have hxe:x'.map (· * (g:Int))=k::x:=by
    rw [FQ,List.map_map]
    refine(List.map_congr_left fun v hv=>?_).trans (List.map_id _)
    exact Int.ediv_mul_cancel (hgx.mem v hv)
   have hxl:x'.length=x.length+1:=by rw [FQ];simp
   have hpe:bR (k::x) (l::y)=bB (bR x' (l::y)) g:=Cn.ext (Cn.bR _ _) (Cn.bB _ _) fun t=>by
    have:=gW (t:=t) (g:Int) id x'
    simp only [id_eq,List.map_id_fun]at this
    rw [cW,dJ,dJ,←hxe,this];grind
   have ih:=VD n d' x' (l::y) (by simp only [List.length_cons];omega) hd' (fun i=>by
    have h1:=hp i
    rw [hpe,R5,Int.natCast_mul,Int.mul_comm]at h1
    exact Int.dvd_of_mul_dvd_mul_right (by omega) h1) (fun e he=>h e (Nat.dvd_trans he (Nat.dvd_mul_left _ _)))
   rw [←hxe]
   intro i
   rw [jV,Int.natCast_mul,Int.mul_comm]
   exact Int.mul_dvd_mul (ih i) (Int.dvd_refl _)
termination_by n _ x y=>n
end Pm
namespace Pm
open Go Go.RowKit Go.ChangeShapes Go.WideShapes Go.Deep
def Low(w:World):dZ:=fun b _=>b<w.heap.size
theorem MZ{w:World}{a:Addr}{v:Value}(h:w.cell? a=some v):a.block<w.heap.size∧a.spot=none:=by
 unfold World.cell? at h
 split at h
 ·rename_i hb
  refine⟨?_,?_⟩
  ·exact(Array.getElem?_eq_some_iff.1 hb).1
  ·split at h
   ·cases h
   ·rename_i hs;simpa using hs
 ·cases h
def K8(P:Program)(t:TypeId)(R:List PV→Prop):Prop:=
 ∀(H:Type) (enc:TypeId × Value→H) (w:World) (fuel:Nat) (cs:List Value) (x:DataW H × List MemPlace),
  DataW.trod enc P w 0 (fun _=>true) true fuel t cs=some x → ∃ps,R ps∧bP (Low w) w ps cs ∧ ∀v∈cs,v.oneCell'=true
theorem bP.length{S:dZ}{w:World}:∀ {ps:List PV} {vs:List Value},bP S w ps vs→ps.length=vs.length
 | [],vs,h=>by simp only [bP]at h;simp [h]
 | p::ps,vs,h=>by
  simp only [bP]at h
  obtain⟨v,EK,rfl,_,h2⟩:=h
  simp [bP.length h2]
theorem K8.int{P:Program}{t:TypeId}(k:IntKind)(ht:P.underlying t=some (.int k)):K8 P t (fun ps=>∃n,ps = [.int k n]∧k.min≤n∧n≤k.max):=by
 intro H enc w fuel cs x h
 obtain⟨n,rfl,_,hw⟩:=DataW.trod_int ht h
 simp only [Lit.wf,Bool.and_eq_true,decide_eq_true_eq]at hw
 exact⟨[.int k n],⟨n,rfl,hw⟩,⟨_,_,rfl,by simp [dE],rfl⟩,by simp [Value.oneCell']⟩
theorem K8.bool{P:Program}{t:TypeId}(ht:P.underlying t=some .bool):K8 P t (fun ps=>∃b,ps = [.bool b]):=by
 intro H enc w fuel cs x h
 obtain⟨n,rfl,_⟩:=DataW.trod_bool ht h
 exact⟨[.bool n],⟨n,rfl⟩,⟨_,_,rfl,by simp [dE],rfl⟩,by simp [Value.oneCell']⟩
theorem wE{w:World}{b:Nat}:∀ {ps:List PV} {vs:List Value} {o:Nat},bP (Low w) w ps vs→(∀v∈vs,v.oneCell'=true)→(∀i,i<vs.length→w.cell? ⟨b,o+i,none⟩=vs[i]?)→dG (Low w) w b o ps
 | [],_,_,_,_,_=>by simp [dG]
 | p::ps,vs,o,h,h1,h2=>by
  simp only [bP]at h
  obtain⟨v,EK,rfl,h3,h4⟩:=h
  have hc:w.cell? ⟨b,o,none⟩=some v:=by simpa using h2 0 (by simp)
  simp only [dG]
  refine⟨⟨v,hc,(MZ hc).1,h1 v (by simp),h3⟩,wE h4 (fun u hu=>h1 u (by simp [hu])) fun i hi=>?_⟩
  have:=h2 (i+1) (by simpa using hi)
  simpa [Nat.add_assoc,Nat.add_comm 1]using this
theorem CW{w:World}{b c:Nat}{f:Nat→List PV}:∀(n o k:Nat),(∀i,k≤i→i<k+n→dG (Low w) w b (o+(i-k)*c) (f i)∧(f i).length=c)→fU (Low w) w b o ((List.range' k n).map f)
 | 0,o,k,_=>by simp [fU]
 | n+1,o,k,h=>by
  obtain⟨h1,h2⟩:=h k (Nat.le_refl _) (by omega)
  simp only [List.range'_succ,List.map_cons,fU]
  refine⟨by simpa using h1,CW (c:=c) n _ _ fun i hi hi2=>?_⟩
  obtain⟨h3,h4⟩:=h i (by omega) (by omega)
  refine⟨?_,h4⟩
  rw [h2]
  have e:o+c+(i-(k+1))*c=o+(i-k)*c:=by
   have:i-k=(i-(k+1))+1:=by omega
   rw [this,Nat.add_mul];omega
  rw [e];exact h3
theorem K8.slice{P:Program}{t e:TypeId}{R:List PV→Prop}(ht:P.underlying t=some (.slice e))(xY:0<P.cellsOf e)(he:K8 P e R):K8 P t (fun ps=>∃l:List (List PV),ps = [.sl l]∧(∀x∈l,R x)∧l.length≤maxLen):=by
 intro H enc w fuel cs x h
 rcases open_slice ht h with ⟨rfl,_⟩ | ⟨a,len,cap,m,n,D,Pl,rfl,_,hl,hm,hmm,_,hx⟩
 ·refine⟨[.sl []],⟨[],rfl,by simp,by simp⟩,⟨_,_,rfl,?_,rfl⟩,by simp [Value.oneCell']⟩
  simp only [dE]
  exact⟨none,0,rfl,by simp,by simp, .inl trivial⟩
 ·have hlm:len≤m:=by rw [hmm];split<;>omega
  have each:∀i,i<len → ∃ps:List PV,R ps∧ps.length=P.cellsOf e ∧ ∃cs',w.cells? 0 (a.add (i*P.cellsOf e)) (P.cellsOf e)=some cs'∧bP (Low w) w ps cs' ∧ ∀v∈cs',v.oneCell'=true:=by
   intro i hi
   obtain⟨cs',h1,h2⟩:=hx i (by omega)
   obtain⟨ps,h3,h4,h5⟩:=he H enc w _ _ _ h2
   refine⟨ps,h3,?_,cs',h1,h4,h5⟩
   rw [h4.length];exact(World.cells?_some h1).2.1
  obtain⟨f,hf⟩:=choose_lt each
  refine⟨[.sl ((List.range' 0 len).map f)],⟨_,rfl,?_,by simp;omega⟩,⟨_,_,rfl,?_,rfl⟩,by simp [Value.oneCell']⟩
  ·intro y hy
   simp only [List.mem_map,List.mem_range'_1]at hy
   obtain⟨i,hi,rfl⟩:=hy
   exact(hf i (by omega)).1
  ·simp only [dE]
   refine⟨some a,cap,by simp,by simpa using hl,hm,?_⟩
   by_cases h0:len=0
   ·left;simp [h0]
   right
   have hsp:a.spot=none:=by
    obtain⟨_,_,cs',h3,_,_⟩:=hf 0 (by omega)
    obtain⟨_,h4,h5⟩:=World.cells?_some h3
    have h6:=h5 0 (by omega)
    rw [List.getElem?_eq_getElem (by omega)]at h6
    have h7:=(MZ h6).2
    simpa [Addr.add]using h7
   obtain⟨b,o,sp⟩:=a
   simp only at hsp
   subst hsp
   refine⟨b,o,rfl,CW (c:=P.cellsOf e) len o 0 fun i _ hi=>?_⟩
   obtain⟨_,h2,cs',h3,h4,h5⟩:=hf i (by omega)
   obtain⟨_,h6,h7⟩:=World.cells?_some h3
   refine⟨wE h4 h5 fun j hj=>?_,h2⟩
   rw [←h7 j (by omega),add_plain,add_plain]
   simp
theorem K8.mono{P:Program}{t:TypeId}{R R':List PV→Prop}(h:K8 P t R)(hR:∀ps,R ps→R' ps):K8 P t R':=fun H enc w fuel cs x hx=>by
 obtain⟨ps,h1,h2⟩:=h H enc w fuel cs x hx
 exact⟨ps,hR _ h1,h2⟩
def uS(P:Program)(t:TypeId)(Q:PV→Prop):Prop:=
 ∀(H:Type) (enc:TypeId × Value→H) (w:World) (base:Nat) (v:Value) (d:DataW H) (p:List MemPlace),
  Value.okWide P w .any base t v→DataW.Trod enc P w 0 (fun _=>true) true t v d p → ∃q,Q q∧dE (Low w) w q v
theorem K8.one{P:Program}{t:TypeId}{R:List PV→Prop}(h:K8 P t R)(hs:∀w base v,Value.okWide P w .any base t v→v.cells = #[v]):uS P t (fun q=>R [q]):=by
 intro H enc w base v d p gO ⟨fuel,hf⟩
 obtain⟨ps,h1,h2,_⟩:=h _ _ _ _ _ _ hf
 rw [hs _ _ _ gO]at h2
 have hl:=h2.length
 match ps,hl with
 | [q],_ =>
  simp only [bP]at h2
  obtain⟨v',EK,h3,h4,_⟩:=h2
  cases h3
  exact⟨q,h1,h4⟩
theorem uS.int{P:Program}{t:TypeId}(k:IntKind)(ht:P.underlying t=some (.int k)):uS P t (fun q=>∃n,q = .int k n∧k.min≤n∧n≤k.max):=by
 have:=(K8.int k ht).one fun w base v h=>by obtain⟨n,rfl⟩:=okWide_int ht h;rfl
 intro H enc w base v d p h1 h2
 obtain⟨q,⟨n,h3,h4⟩,h5⟩:=this H enc w base v d p h1 h2
 exact⟨q,⟨n,by simpa using h3,h4⟩,h5⟩
theorem uS.bool{P:Program}{t:TypeId}(ht:P.underlying t=some .bool):uS P t (fun q=>∃b,q = .bool b):=by
 have:=(K8.bool ht).one fun w base v h=>by obtain⟨n,rfl⟩:=okWide_bool ht h;rfl
 intro H enc w base v d p h1 h2
 obtain⟨q,⟨n,h3⟩,h5⟩:=this H enc w base v d p h1 h2
 exact⟨q,⟨n,by simpa using h3⟩,h5⟩
theorem uS.slice{P:Program}{t e:TypeId}{R:List PV→Prop}(ht:P.underlying t=some (.slice e))(xY:0<P.cellsOf e)(he:K8 P e R):uS P t (fun q=>∃l:List (List PV),q = .sl l∧(∀x∈l,R x)∧l.length≤maxLen):=by
 have:=(K8.slice ht xY he).one fun w base v h=>by obtain⟨a,len,cap,rfl⟩:=okWide_slice ht h;rfl
 intro H enc w base v d p h1 h2
 obtain⟨q,⟨n,h3,h4⟩,h5⟩:=this H enc w base v d p h1 h2
 exact⟨q,⟨n,by simpa using h3,h4⟩,h5⟩
theorem uS.mono{P:Program}{t:TypeId}{Q Q':PV→Prop}(h:uS P t Q)(hQ:∀q,Q q→Q' q):uS P t Q':=fun H enc w base v d p h1 h2=>by
 obtain⟨q,h3,h4⟩:=h H enc w base v d p h1 h2
 exact⟨q,hQ _ h3,h4⟩
def M0(P:Program):List TypeId→List (PV→Prop)→Prop
 | [],[]=>True
 | t::ts,Q::Qs=>uS P t Q∧P.readableRec t=true∧t<P.types.size∧M0 P ts Qs
 | _,_=>False
def amK:List (PV→Prop)→List PV→Prop
 | [],ps=>ps = []
 | Q::Qs,ps=>∃q qs,ps=q::qs∧Q q∧amK Qs qs
theorem M3{P:Program}{H:Type}{enc:TypeId × Value→H}{w:World}{base:Nat}:∀ {ts:List TypeId} {Qs:List (PV→Prop)} {vs:List Value} {ds:List (DataW H)} {p:List MemPlace},M0 P ts Qs →
  (∀(j:Nat) t v,ts[j]? = some t→vs[j]? = some v→Value.okWide P w .any base t v)→DataW.TrodAll enc P w 0 (fun _=>true) true ts vs ds p → ∃ps,amK Qs ps∧bP (Low w) w ps vs
 | [],[],vs,ds,p,_,_,h=>by
  obtain⟨rfl,_⟩:=trodAll_nil h
  exact⟨[],rfl,rfl⟩
 | t::ts,Q::Qs,vs,ds,p,hA,gO,h=>by
  obtain⟨v,EK,d,ds',p1,q1,rfl,rfl,rfl,h1,h2⟩:=trodAll_cons h
  obtain⟨hO,_,_,hA'⟩:=hA
  obtain⟨q,h3,h4⟩:=hO _ _ _ base _ _ _ (gO 0 t v rfl rfl) h1
  obtain⟨ps,h5,h6⟩:=M3 hA' (fun j t' v' hj hv=>gO (j+1) t' v' (by simpa using hj) (by simpa using hv)) h2
  exact⟨q::ps,⟨q,ps,rfl,h3,h5⟩,⟨v,EK,rfl,h4,h6⟩⟩
 | [],_::_,_,_,_,h,_,_=>by simp [M0]at h
 | _::_,[],_,_,_,h,_,_=>by simp [M0]at h
theorem GG{P:Program}(hl:laidOutB P=true){H:Type}{enc:TypeId × Value→H}{w w':World}(hb:Below w.heap.size w w'):∀ {ts:List TypeId} {Qs:List (PV→Prop)} {vs:List Value} {ds:List (DataW H)} {p:List MemPlace},M0 P ts Qs→(∀x∈p,x.block<w.heap.size) →
  DataW.TrodAll enc P w 0 (fun _=>true) true ts vs ds p→DataW.TrodAll enc P w' 0 (fun b=>decide (b<w.heap.size)) true ts vs ds p
 | [],[],vs,ds,p,_,_,h=>by
  obtain⟨rfl,rfl,rfl⟩:=trodAll_nil h
  exact trodAll_mk0
 | t::ts,Q::Qs,vs,ds,p,hA,dK,h=>by
  obtain⟨v,EK,d,ds',p1,q1,rfl,rfl,rfl,h1,h2⟩:=trodAll_cons h
  obtain⟨_,h3,h4,hA'⟩:=hA
  exact⟨p1,q1,Below.trod hl h3 h4 h1 hb (fun x hx=>dK x (by simp [hx])),GG hl hb hA' (fun x hx=>dK x (by simp [hx])) h2,rfl⟩
 | [],_::_,_,_,_,h,_,_=>by simp [M0]at h
 | _::_,[],_,_,_,h,_,_=>by simp [M0]at h
theorem acO{C:Checked}{f:FuncId}{fn:Func}{s:ChangeSpec}{Qs:List (PV→Prop)}{os:Os}{H:Type}{enc:TypeId × Value→H}{tb:TypeId}
  (own:ownKnob C.prog.godebug=none) (hl:laidOutB C.prog=true) (started:os.Started) (amL:C.prog.inits.idxOf? f=none) (hfn:C.prog.funcs[f]? = some fn)
  (witness:∃(w:World) (tape:Tape) (i:Input),w.os=os∧(w.forCall tape i).Shaped C.prog∧i.vars = []∧Input.okWide C.prog (w.forCall tape i) .any w.heap.size f i ∧
   s.pre6 enc C.prog fn [] false (w.forCall tape i).memory i.args∧({}:Assume).holds C.prog (lone (Frame.enter C.prog f i.args .normal) [] (w.forCall tape i)))
  (hv:s.vars = []) (hs:∀ds:List (DataW H),ds.length=fn.params.size→s.fn H ds = { results:=[.lit (.bool true)],args:=ds })
  (CX:fn.resultTypes = #[tb]) (htb:C.prog.underlying tb=some .bool)
  (hA:M0 C.prog fn.params.toList Qs) (h:∀ps,amK Qs ps→aE C.prog f ps (.bool true)) :
  ReturnsInHanded {} C os f .any (s.pre6 enc C.prog fn [] false) (s.post enc C.prog fn false true false false):=by
 refine returnsInHanded_of_change own started amL hfn witness ?_
 intro W base args ds gs before agI hW _ _
 have hW':=hW
 obtain⟨p,q,hT,hV,rfl,_,_⟩:=hW
 rw [hv]at hV
 obtain⟨rfl,rfl⟩:=trodVars_none hV
 obtain⟨ps,h1,h2⟩:=M3 (base:=base) hA (fun j t v hj hv=>agI j t v (by simpa using hj) (by simpa using hv)) hT
 obtain⟨_,mN⟩:=h ps h1
 have h3:=mN W (Low W) args.toList (fun b o hb=>hb) h2
 refine Calls.mono h3 fun e w' hw=>?_
 obtain⟨v,rfl,XU,S',_,_,fM⟩:=hw
 simp only [dE]at fM
 subst fM
 refine⟨_,rfl,?_⟩
 have hlen:ds.length=fn.params.size:=by
  have:∀ {ts:List TypeId} {vs:List Value} {ds:List (DataW H)} {p:List MemPlace},DataW.TrodAll enc C.prog W 0 (fun _=>true) true ts vs ds p→ds.length=ts.length:=by
   intro ts
   induction ts with
   | nil=>intro vs ds p h;obtain⟨_,rfl,_⟩:=trodAll_nil h;rfl
   | cons t ts ih =>
    intro vs ds p h
    obtain⟨v,EK,d,ds',p1,q1,rfl,rfl,rfl,h1,h2⟩:=trodAll_cons h
    simp [ih h2]
  rw [this hT];simp
 have dK:∀x∈p,x.block<W.heap.size:=fun x hx=>hW'.lt x (by simpa using hx)
 have hold:∀x∈p,(fun b=>decide (b<W.heap.size)) x.block=true:=fun x hx=>by simpa using dK x hx
 have amM:s.fn H (ds ++ []) = { results:=[.lit (.bool true)],args:=ds }:=by rw [List.append_nil,hs ds hlen]
 refine⟨ds,[],p ++ [],[],p,[],hW',?_,?_,?_,World.keptBut_mono (fun x hx=>⟨hx, .inr (.inl (by simpa using hx))⟩) (XU.frame (· ∈ p ++ [])),?_⟩
 ·rw [amM,CX]
  exact trodAll_mk1 (shut_bool htb true)
 ·rw [amM]
  exact GG hl XU hA dK hT
 ·rw [amM,hv];rfl
 ·intro h0;cases h0
end Pm
namespace Pm
open Go Go.RowKit
section
variable {E:Env} {w0:World} {S0:dZ} {c:Cx}
theorem zG(hI:Inv w0 S0 c){clk:Nat}{fn:Func}{a:Act}{f:Nat→PV}(hf:∀s,aG c (f s) (a.tmps.getD s undef)){K:List PV→Prop}(hp:nG E ⟨f,c.rows,clk⟩ fn.results.toList K) :
  ∃vs us,K vs∧bC (aG c) vs us∧(results fn a.tmps).run E.P c.w = .ok (if h:us.toArray.size=1 then us.toArray[0]else .tuple us.toArray) c.w:=by
 have key:∀g:ResultVar→Sem Value,(∀t,g (.tmp t)=pure (a.tmps.getD t undef))→(∀x t,g (.cell x t)=do loadVar t (←asAddr (a.tmps.getD x undef))) →
   ∃vs us,K vs∧bC (aG c) vs us∧(do let vs ←fn.results.mapM g;pure (if h:vs.size=1 then vs[0]else .tuple vs):Sem Value).run E.P c.w = .ok (if h:us.toArray.size=1 then us.toArray[0]else .tuple us.toArray) c.w:=by
  intro g X9 qZ
  obtain⟨vs,us,g1,g4,g5⟩:=sW hI hf X9 qZ _ _ hp
  refine⟨vs,us,g1,g4,?_⟩
  have:(fn.results.mapM g).run E.P c.w = .ok us.toArray c.w:=by
   rw [Array.mapM_eq_mapM_toList]
   simp [g5]
  rw [Sem.run_bind,this,Result.andThen_ok,Sem.run_pure]
 unfold results
 exact key _ (fun _=>rfl) (fun _ _=>rfl)
theorem CY(hI:Inv w0 S0 c){fn:Func}{t:Tmp}(CX:fn.results.toList = [.tmp t]){a:Act}{f:Nat→PV}(hf:∀s,aG c (f s) (a.tmps.getD s undef)) :
  ∃u,aG c (f t) u∧(results fn a.tmps).run E.P c.w = .ok u c.w:=by
 obtain⟨vs,us,h1,h2,h3⟩:=zG (E:=E) (K:=fun vs=>vs = [f t]) (clk:=0) hI (fn:=fn) hf (by rw [CX];rfl)
 subst h1
 match us,h2 with
 | [u],h2=>exact⟨u,h2.1,by simpa using h3⟩
 | [],h2=>exact h2.elim
 | _::_::_,h2=>exact h2.2.elim
def ajM(t:Tmp)(R:PV→Rows→Nat→Prop):PX→PS→Prop
 | .normal,σ=>R (σ.f t) σ.rows σ.clock
 | .ret,σ=>R (σ.f t) σ.rows σ.clock
 | .exit _,_=>False
def R6(args:List PV)(rows:Rows)(clk:Nat):PS:=⟨fun s=>args.getD s .undef,rows,clk⟩
theorem CZ{args:List PV}{vs:List Value}{m:Nat}(h:bC (aG c) args vs)(s:Nat):aG c (args.getD s .undef) ((vs.toArray++Array.replicate m undef).getD s undef):=by
 have LJ:=h.length
 by_cases hs:s<args.length
 ·obtain⟨u,hu,hr⟩:=h.get (List.getElem?_eq_getElem hs)
  have e1:args.getD s .undef=args[s]:=by simp [List.getD,List.getElem?_eq_getElem hs]
  have e2:(vs.toArray++Array.replicate m undef).getD s undef=u:=by
   have:s<vs.length:=by omega
   simp [this]at hu ⊢
   simp [Array.getElem?_append,this,hu]
  rw [e1,e2];exact hr
 ·have e1:args.getD s .undef = .undef:=by simp [List.getD,List.getElem?_eq_none (show args.length≤s by omega)]
  rw [e1]
  simp [aG,aK]
theorem Y5{y8:FuncId}{fn:Func}{code:Code}(tl:Nat→Nat){args:List PV}{rows:Rows}{clk:Nat}{R:PV→Rows→Nat→Prop}{t:Tmp}(h1:E.P.funcs[y8]? = some fn)(h2:fn.body=some code) (h3:(fn.name == "runtime.NumGoroutine") = false)
  (gO:eY E fn.ntmps tl code=true) (eT:args.length≤fn.ntmps) (CX:fn.results.toList = [.tmp t]) (h:W E fn.ntmps tl code (ajM t R) (R6 args rows clk)):LM E.P y8 args rows clk R:=by
 refine⟨⟨fn,code,h1,h2,h3⟩,fun w0 S0 c vs G hI hr gB fM hG=>?_⟩
 refine calls_of_wp h1 h2 ?_
 have LJ:=fM.length
 have IE:Rel w0 S0 fn.ntmps G (R6 args rows clk) { tmps:=vs.toArray++Array.replicate (fn.ntmps-vs.toArray.size) undef,defers:=[] } c.w:=
  ⟨⟨c,rfl,hr,gB,hI,fun s=>CZ fM s,hG⟩,by simp;omega,rfl⟩
 refine h gO w0 S0 G _ _ _ IE ?_
 have fin:∀σ' a' w',R (σ'.f t) σ'.rows σ'.clock→Rel w0 S0 fn.ntmps G σ' a' w'→a'.defers = [] ∧ ∃v,(results fn a'.tmps).run E.P w' = .ok v w' ∧
   ∃v' c' r gZ,Ending.returned v = .returned v'∧c'.w=w'∧Inv w0 S0 c'∧(∀p∈G,aG c' p.1 p.2)∧R r c'.rows gZ∧(∀v,c'.used v→v<gZ)∧aG c' r v':=by
  rintro σ' a' w' hx ⟨⟨c',rfl,kF,XW,p8,hf',hG'⟩,hn,fK⟩
  obtain⟨u,hu,i3⟩:=CY (E:=E) p8 CX hf'
  exact⟨fK,u,i3,u,c',_,σ'.clock,rfl,rfl,p8,hG',by rw [kF];exact hx,XW,hu⟩
 intro x σ' a' w' hx lH
 cases x with
 | normal=>exact fin σ' a' w' hx lH
 | ret=>exact fin σ' a' w' hx lH
 | exit id=>exact hx.elim
def ajN(t:Tmp)(e:TypeId)(n:Nat)(els:List (List PV)):PX→PS→Prop
 | .normal,σ=>∃id ver,σ.f t = .own id ver 0 els.length∧σ.rows id=some ⟨ver,e,n,els⟩ ∧ ∀x∈els,∀p∈x,bI p=true
 | .ret,σ=>∃id ver,σ.f t = .own id ver 0 els.length∧σ.rows id=some ⟨ver,e,n,els⟩ ∧ ∀x∈els,∀p∈x,bI p=true
 | .exit _,_=>False
theorem Y6{y8:FuncId}{fn:Func}{code:Code}(tl:Nat→Nat){args:List PV}{e:TypeId}{n:Nat}{els:List (List PV)}{t:Tmp}(h1:E.P.funcs[y8]? = some fn)(h2:fn.body=some code) (h3:(fn.name == "runtime.NumGoroutine") = false)
  (gO:eY E fn.ntmps tl code=true) (eT:args.length≤fn.ntmps) (CX:fn.results.toList = [.tmp t]) (h:W E fn.ntmps tl code (ajN t e n els) (FY args)):mD E.P y8 args e n els:=by
 refine⟨⟨fn,code,h1,h2,h3⟩,fun w S vs hS fM=>?_⟩
 refine calls_of_wp h1 h2 ?_
 have BW:=cL.1 fM
 have LJ:=BW.length
 let c0:Cx:=⟨S,w,fun _ => .slice none 0 0,fun _=>none,fun _=>False⟩
 have hI0:Inv w S c0:=⟨Below.refl _ _,fun _ _ h=>h,fun _ _ h => .inl h,hS,fun _ _ h=>by simp [c0]at h,fun _ _ h=>by simp [c0]at h,fun _ _ _ _ _ h=>by simp [c0]at h,⟨0,fun _ h=>h.elim⟩⟩
 have IE:Rel w S fn.ntmps Gs.none (FY args) { tmps:=vs.toArray++Array.replicate (fn.ntmps-vs.toArray.size) undef,defers:=[] } w:=
  ⟨⟨c0,rfl,rfl,fun _ h=>h.elim,hI0,fun s=>CZ (c:=c0) (BW.mono fun _ _ h=>aG.jN h) s,fun p hp=>(Gs.LK hp).elim⟩,by simp;omega,rfl⟩
 refine h gO w S Gs.none _ _ _ IE ?_
 have fin:∀(σ':PS) a' w',(∃id ver,σ'.f t = .own id ver 0 els.length∧σ'.rows id=some ⟨ver,e,n,els⟩ ∧ ∀x∈els,∀p∈x,bI p=true)→Rel w S fn.ntmps Gs.none σ' a' w'→a'.defers = [] ∧ ∃v,(results fn a'.tmps).run E.P w' = .ok v w' ∧
   ∃(v':Value) (xs:List Value) (S':dZ),Ending.returned v = .returned v'∧Below w.heap.size w w'∧(∀b o,S b o→S' b o)∧(∀b o,S' b o→S b o∨(w.heap.size≤b∧b<w'.heap.size)) ∧
   w'.ownsRow w.heap.size e n v' els.length xs∧bC (dE S' w') els.flatten xs∧(∀y∈xs,y.oneCell'=true)∧(∀x∈els,x.length=n)∧0<n∧(∀g o,v'.ownBlock=some g→¬S' g o):=by
  rintro σ' a' w' ⟨id,ver,e1,e2,e3⟩ ⟨⟨c,rfl,hr,gB,hI,hf,_⟩,hn,fK⟩
  obtain⟨u,hu,i3⟩:=CY (E:=E) hI CX hf
  rw [e1]at hu
  rw [←hr]at e2
  obtain⟨⟨xs,g1,g2,g3⟩,g4,g5,g6⟩:=hI.row id _ e2
  simp only [aG,aK]at hu
  obtain⟨_,hu⟩:=hu
  obtain⟨_,hu⟩:=hu _ e2 rfl
  have hub:u=c.β id:=by
   rcases hu with ⟨_,A,m,cap,h5,h6⟩ | ⟨h5,_⟩
   ·rcases g1.2 with ⟨h7,h8⟩ | ⟨g,jQ,cur,h7,_⟩
    ·rw [h7]at h5;cases h5
     simp only at h8
     rw [h6,h7,h8]
    ·rw [h7]at h5;cases h5
     rw [h6,h7]
   ·omega
  refine⟨fK,u,i3,u,xs,c.S,rfl,hI.below,hI.ext,hI.new,by rw [hub];exact g1,?_,g3,g4,g6,fun g o hg=>g5 g o (by rw [←hub];exact hg)⟩
  refine bC.cT g2.length fun k p y hp hy=>?_
  obtain⟨y',xS,kF⟩:=g2.get hp
  rw [hy]at xS;cases xS
  have pG:=List.mem_of_getElem? hp
  obtain⟨x,hx,hpx⟩:=List.mem_flatten.1 pG
  exact kF.rep (e3 x hx p hpx)
 intro x σ' a' w' hx lH
 cases x with
 | normal=>exact fin σ' a' w' hx lH
 | ret=>exact fin σ' a' w' hx lH
 | exit id=>exact hx.elim
theorem mD.ret{P:Program}{f:FuncId}{args:List PV}{e:TypeId}{n:Nat}{els:List (List PV)}(h:mD P f args e n els){eX:List PV}{rows:Rows}{clk:Nat}(d:Nat)(ha:eX.map (pz rows)=args)(tY:(eX.map (pz rows)).all dA=true)(hp:eU rows (eX.flatMap dV)) :
  LM P f eX rows clk (fun r rows' gZ=>r = .own d clk 0 els.length∧rows'=dW (FT rows (eX.flatMap dV)) d (some ⟨clk,e,n,els⟩)∧gZ=clk+1):=by
 obtain⟨h0,QU⟩:=h
 refine⟨h0,fun w0 S0 c vs G hI kB gB eT hG=>?_⟩
 subst kB
 generalize uL:eX.flatMap dV=ids at *
 have K6:=hI.freeze ids
 have dK:∀b o,QP c ids b o→b<c.w.heap.size:=fun b o hb=>K6.lt (c:=EL c ids) hb
 have fM:bP (QP c ids) c.w args vs:=by
  rw [←ha]
  refine cL.2 (bC.cT (by simp [eT.length]) fun k p u xM hu=>?_)
  simp at xM
  obtain⟨q,hq,rfl⟩:=xM
  obtain⟨u',g1,g2⟩:=eT.get hq
  rw [hu]at g1;cases g1
  exact H5 hI hp g2 (fun id gD=>by rw [←uL];simp only [List.mem_flatMap];exact⟨q,List.mem_of_getElem? hq,gD⟩) (List.all_eq_true.1 tY _ (by simp;exact⟨q,List.mem_of_getElem? hq,rfl⟩))
 refine(QU c.w (QP c ids) vs dK fM).mono ?_
 rintro x w' ⟨v,xs,S',rfl,hb,g1,g2,g3,g4,g5,g6,g7,g8⟩
 obtain⟨hI2,hA2⟩:=K6.grow (c:=EL c ids) hb g1 g2
 have hA1:=mR c ids
 obtain⟨hI3,hA3⟩:=hI2.set (w':=w') (ob:=v.ownBlock) (id:=d) (r':=⟨clk,e,n,els⟩) (v':=v) (xs:=xs) (World.grownBy.refl _ _)
  (fun g hg=>by
   have XT:=(g3.lt g hg).1
   refine⟨by have:=hI.below.size;omega,fun o=>g8 g o hg,fun i9 r hr _ jX=>?_⟩
   obtain⟨⟨ys,q1,_,_⟩,_⟩:=K6.row i9 r hr
   have:=(q1.lt g jX).2
   simp only [EL]at this
   omega) ⟨g3.1,g3.2.imp id fun⟨g,cap,cur,q1,q2,q3⟩=>⟨g,cap,cur,q1,Nat.le_trans hI.below.size q2,q3⟩⟩ (g4.mono fun _ _ h=>aK.jN h) g5 g6 g7 (fun g hg => .inl hg) (fun hu=>Nat.lt_irrefl _ (gB _ hu))
 refine⟨v,_, .own d clk 0 els.length,clk+1,rfl,rfl,hI3,fun p xM=>?_,⟨rfl,rfl,rfl⟩,fun v hv=>?_,?_⟩
 ·exact aG.tR hA3 _ _ (aG.tR hA2 _ _ (aG.tR hA1 _ _ (hG p xM)))
 ·rcases hv with hv | hv
  ·have:v=clk:=hv
   omega
  ·have:=gB v hv;omega
 ·rcases g3.2 with ⟨rfl,h8⟩ | ⟨g,jQ,cur,rfl,_⟩
  ·have:els.length=0:=h8
   rw [this]
   exact mC (r:=⟨clk,e,n,els⟩) (A:=none) (cap:=0) (by simp [dW]) (by simpa using h8) (Or.inl rfl) (by simp [dW])
  ·exact mC (r:=⟨clk,e,n,els⟩) (by simp [dW]) rfl (Or.inl rfl) (by simp [dW])
end
theorem ajO{P:Program}{g:FuncId}{eX:List PV}{rows:Rows}{clk:Nat}{K:PV→Rows→Nat→Prop}{args:List PV}{e:TypeId}{n:Nat}{els:List (List PV)}(h:mD P g args e n els)(d:Nat)(ha:eX.map (pz rows)=args)(tY:(eX.map (pz rows)).all dA=true)
  (hp:eU rows (eX.flatMap dV)) (hK:go (K (.own d clk 0 els.length) (dW (FT rows (eX.flatMap dV)) d (some ⟨clk,e,n,els⟩)) (clk+1))):vO P g eX rows clk K:=
 ⟨_,h.ret d ha tY hp,by rintro r rows' gZ ⟨rfl,rfl,rfl⟩;exact hK⟩
theorem qF{E:Env}{y8:FuncId}{fn:Func}{code:Code}(tl:Nat→Nat){args:List PV}{e:TypeId}{n:Nat}{els:List (List PV)}{t:Tmp}(l:List (Nat × PV))(h1:E.P.funcs[y8]? = some fn)(h2:fn.body=some code) (h3:(fn.name == "runtime.NumGoroutine") = false)
  (gO:eY E fn.ntmps tl code=true) (eT:args.length≤fn.ntmps) (CX:fn.results.toList = [.tmp t]) (hl:∀p∈l,args.getD p.1 .undef=p.2) (h:W E fn.ntmps tl code (ajN t e n els) ⟨fa l,fun _=>none,0⟩):mD E.P y8 args e n els:=
 Y6 tl h1 h2 h3 gO eT CX (W.ghf l (by simpa using hl) h)
theorem R7{E:Env}{y8:FuncId}{fn:Func}{code:Code}(tl:Nat→Nat){args:List PV}{rows:Rows}{clk:Nat}{R:PV→Rows→Nat→Prop}{t:Tmp}(l:List (Nat × PV))(h1:E.P.funcs[y8]? = some fn)(h2:fn.body=some code) (h3:(fn.name == "runtime.NumGoroutine") = false)
  (gO:eY E fn.ntmps tl code=true) (eT:args.length≤fn.ntmps) (CX:fn.results.toList = [.tmp t]) (hl:∀p∈l,args.getD p.1 .undef=p.2) (h:W E fn.ntmps tl code (ajM t R) ⟨fa l,rows,clk⟩):LM E.P y8 args rows clk R:=
 Y5 tl h1 h2 h3 gO eT CX (W.ghf l (by simpa using hl) h)
def xZ(t:TI)(rows:Rows)(x y:PV)(K:PV→Rows→Prop):Prop:=
 match t,x with
 | .slice _ n _ _, .own id ver off len=>∃r,rows id=some r∧r.ver=ver∧r.size=n∧off+len≤r.els.length ∧ ∃l,rO rows y l∧(∀e∈l,e.length=n) ∧
   K (.int .i64 (min l.length len)) (dW rows id (some { r with els:=r.els.take off++l.take len++r.els.drop (off+min l.length len) }))
 | _,_=>False
@[simp] theorem awP{E:Env}{ops os:List Oper}{K:PS→Prop}{f:Nat→PV}{rows:Rows}{clk:Nat}{d:Option Tmp}{ty:TypeId}{pos:String}{af:Array Edge}{x y:Operand}{t t2:TypeId} :
  go (aM E ops (⟨d, .call { callee:=.builtin .copy,args:=⟨[x,y]⟩,argTypes:=⟨[t,t2]⟩ },ty,pos,af,none⟩::os) K ⟨f,rows,clk⟩)=xZ (E.ty t) rows (aP f x) (aP f y) fun v rows=>aM E ops os K ⟨put f d v,rows,clk⟩:=by
 simp only [go,aM,fD,ys,tX,xZ]
 generalize E.ty t=T
 generalize aP f x=X
 apply propext
 constructor
 ·rintro⟨v,u,h,hK⟩
  split at h
  ·obtain⟨r,h1,h2,h3,h4,l,h5,h6,rfl,rfl⟩:=h
   exact⟨r,h1,h2,h3,h4,l,h5,h6,hK⟩
  ·exact h.elim
 ·intro h
  split at h
  ·obtain⟨r,h1,h2,h3,h4,l,h5,h6,hK⟩:=h
   exact⟨_,_,⟨r,h1,h2,h3,h4,l,h5,h6,rfl,rfl⟩,hK⟩
  ·exact h.elim
@[congr] theorem agJ{t t':TI}{rows rows':Rows}{x x' y y':PV}{K:PV→Rows→Prop}(h1:t=t')(h2:rows=rows')(h3:x=x')(h4:y=y'):xZ t rows x y K=xZ t' rows' x' y' K:=by rw [h1,h2,h3,h4]
theorem as2{e e':TypeId}{n b:Nat}{z:List PV}{rows:Rows}{id ver off len:Nat}{y:PV}{K:PV→Rows→Prop}{els l:List (List PV)}(hr:rows id=some ⟨ver,e',n,els⟩)(hl:off+len≤els.length)(hy:rO rows y l)(h1:∀e∈l,e.length=n)
  (hK:go (K (.int .i64 (min l.length len)) (dW rows id (some ⟨ver,e',n,els.take off++l.take len++els.drop (off+min l.length len)⟩)))):xZ (.slice e n b z) rows (.own id ver off len) y K:=
 ⟨_,hr,rfl,rfl,hl,l,hy,h1,hK⟩
theorem as3{e e':TypeId}{b:Nat}{z:List PV}{rows:Rows}{id ver off len:Nat}{y:PV}{K:PV→Rows→Prop}{els l:List (List PV)}(hr:rows id=some ⟨ver,e',1,els⟩)(hl:off+len≤els.length)(h0:0<len)(hy:rO rows y l)(h1:∀e∈l,e.length=1)
  (hK:go (K (.int .i64 (min l.length len)) (dW rows id (some ⟨ver,e',1,els.take off++l.take len++els.drop (off+min l.length len)⟩)))):xZ (.slice e 1 b z) rows (.own id ver off len) y K:=
 as2 hr hl hy h1 hK
theorem bA{c B:Prop}(h:c)(hB:go B):aH c B:=⟨h,hB⟩
def ajP(E:Env)(rs:List ResultVar)(r:PV)(R:Rows→Prop):PX→PS→Prop
 | .normal,σ=>nG E σ rs fun vs=>vs.all dA=true∧r=vT vs∧R σ.rows
 | .ret,σ=>nG E σ rs fun vs=>vs.all dA=true∧r=vT vs∧R σ.rows
 | .exit _,_=>False
theorem iK{E:Env}{y8:FuncId}{fn:Func}{code:Code}(tl:Nat→Nat){args:List PV}{e:TypeId}{n:Nat}{core eA:List PV}{r:PV}(l:List (Nat × PV))(h1:E.P.funcs[y8]? = some fn)(h2:fn.body=some code) (h3:(fn.name == "runtime.NumGoroutine") = false)
  (gO:eY E fn.ntmps tl code=true) (eT:args.length+1≤fn.ntmps) (hl:∀q:PV,∀p∈(0,q)::l,(q::args).getD p.1 .undef=p.2)
  (h:∀id ver (rows:Rows) clk,rows (id+1000000)=some ⟨ver,e,n,[core]⟩→W E fn.ntmps tl code (ajP E fn.results.toList r fun rows'=>rows' (id+1000000)=some ⟨ver,e,n,[eA]⟩ ∧ ∀j,j≠id→rows' (j+1000000)=rows (j+1000000)) ⟨fa ((0, .ptr (id+1000000) ver 0 0)::l),rows,clk⟩) :
  g9 E.P y8 args e n core eA r:=by
 intro id0 ver rows clk gD kB jR
 obtain⟨id,rfl⟩:∃id,id0=id+1000000:=⟨id0-1000000,by have:pB=1000000:=rfl;omega⟩
 have hW:=W.ghf (E:=E) (n:=fn.ntmps) ((0, .ptr (id+1000000) ver 0 0)::l) (f:=fun s=>(PV.ptr (id+1000000) ver 0 0::args).getD s .undef) (hl (.ptr (id+1000000) ver 0 0)) (h id ver rows clk kB)
 refine⟨⟨fn,code,h1,h2,h3⟩,fun w0 S0 c vs G hI hr gB fM hG=>?_⟩
 refine calls_of_wp h1 h2 ?_
 have LJ:=fM.length
 have IE:Rel w0 S0 fn.ntmps G (R6 (.ptr (id+1000000) ver 0 0::args) rows clk) { tmps:=vs.toArray++Array.replicate (fn.ntmps-vs.toArray.size) undef,defers:=[] } c.w:=
  ⟨⟨c,rfl,hr,gB,hI,fun s=>CZ fM s,hG⟩,by simp at LJ ⊢;omega,rfl⟩
 refine hW gO w0 S0 G _ _ _ IE ?_
 have fin:∀(σ':PS) a' w',(nG E σ' fn.results.toList fun vs=>vs.all dA=true∧r=vT vs∧σ'.rows (id+1000000)=some ⟨ver,e,n,[eA]⟩ ∧ ∀j,j≠id→σ'.rows (j+1000000)=rows (j+1000000))→Rel w0 S0 fn.ntmps G σ' a' w'→a'.defers = [] ∧ ∃v,(results fn a'.tmps).run E.P w' = .ok v w' ∧
   ∃v' c' r' gZ,Ending.returned v = .returned v'∧c'.w=w'∧Inv w0 S0 c'∧(∀p∈G,aG c' p.1 p.2)∧(r'=r∧c'.rows (id+1000000)=some ⟨ver,e,n,[eA]⟩ ∧ ∀j,pB≤j→j≠id+1000000→c'.rows j=rows j)∧(∀v,c'.used v→v<gZ)∧aG c' r' v':=by
  rintro σ' a' w' hx ⟨⟨c',rfl,kF,XW,p8,hf',hG'⟩,hn,fK⟩
  obtain⟨us,EK,⟨k1,k2,k3,k4⟩,k5,k6⟩:=zG (E:=E) (clk:=σ'.clock) p8 (fn:=fn) hf' (by rw [kF];exact hx)
  refine⟨fK,_,k6,_,c',r,σ'.clock,rfl,rfl,p8,hG',⟨rfl,by rw [kF];exact k3,fun j hj mZ=>?_⟩,XW,?_⟩
  ·obtain⟨m,rfl⟩:∃m,j=m+1000000:=⟨j-1000000,by have:pB=1000000:=rfl;omega⟩
   rw [kF];exact k4 m (by omega)
  ·rw [k2]
   have key:us.length≠1→aG c' (.dU us) (.tuple EK.toArray):=fun _=>by
    simp only [aG,aK,dE]
    refine⟨EK,rfl,cL.2 (bC.cT k5.length fun i a b ha hb=>?_)⟩
    obtain⟨b',jX,q⟩:=k5.get ha
    rw [hb]at jX;cases jX
    exact q.rep (List.all_eq_true.1 k1 a (List.mem_of_getElem? ha))
   match us,EK,k5 with
   | [],[],_=>simpa [vT]using key (by simp)
   | [p],[v],k5=>simpa [vT]using k5.1
   | p::q::us,v::u::EK,k5=>simpa [vT]using key (by simp)
 intro x σ' a' w' hx lH
 cases x with
 | normal=>exact fin σ' a' w' hx lH
 | ret=>exact fin σ' a' w' hx lH
 | exit id=>exact hx.elim
end Pm
