import Derived.ProofKit
import Derived.JoinedOf
import Derived.SizedLaws
import Derived.Carry
import Derived.Deep.Slices
import Derived.Test.YtiobceocpabjdaaGreatKad
set_option linter.unusedSimpArgs false
set_option linter.unusedVariables false
namespace Pm
def V(b:Int):List Int→Int
 | []=>0
 | x::l=>x+b*V b l
def c8(b:Int)(l:List Int):Prop:=∀x∈l,0≤x∧x<b
def O4(b:Nat):Nat→Nat→List Int
 | 0,_=>[]
 | f+1,n=>if n=0 then []else((n%b:Nat):Int)::O4 b f (n/b)
def aR(b n:Nat):List Int:=O4 b n n
def aP:List Int→List Int
 | []=>[]
 | x::l=>if aP l = []∧x=0 then []else x::aP l
theorem kJ:∀l:List Int,aP (l ++ [0])=aP l
 | []=>by simp [aP]
 | x::l=>by simp [aP,kJ l]
theorem jD{x:Int}(h:x≠0):∀l:List Int,aP (l ++ [x])=l ++ [x]
 | []=>by
  show aP [x] = [x]
  rw [aP,if_neg (fun hh=>h hh.2)];rfl
 | y::l=>by
  have ih:=jD h l
  have hn:¬(l ++ [x] = []∧y=0):=by simp
  show aP (y::(l ++ [x]))=y::(l ++ [x])
  rw [aP,ih,if_neg hn]
theorem bW:∀l:List Int,(aP l).length≤l.length
 | []=>by simp [aP]
 | x::l=>by
  have:=bW l
  simp only [aP]
  split
  ·simp
  ·simpa using this
theorem cE{α:Type}[Inhabited α]{l:List α}{i:Nat}(h:i<l.length):nth l i=l[i]:=by unfold nth;rw [List.getElem?_eq_getElem h];rfl
theorem i0{α:Type}[Inhabited α]{l:List α}{i:Nat}(h:l.length≤i):nth l i=default:=by unfold nth;rw [List.getElem?_eq_none h];rfl
theorem bG{α:Type}[Inhabited α]{l:List α}{i:Nat}(h:i<l.length):l.take (i+1)=l.take i ++ [nth l i]:=by
 rw [cE h,List.take_succ_eq_append_getElem h]
theorem bJ{α:Type}[Inhabited α]{l:List α}{i:Nat}(h:i<l.length):nth l i∈l:=by rw [cE h];exact List.getElem_mem h
theorem fG{α:Type}[Inhabited α]{l:List α}{i:Nat}{x:α}(h:i<l.length):nth (l.set i x) i=x:=by rw [cE (by simpa using h)];simp
theorem iC{α:Type}[Inhabited α]{l:List α}{i j:Nat}{x:α}(h:i≠j):nth (l.set i x) j=nth l j:=by unfold nth;rw [List.getElem?_set_ne h]
theorem fK{α:Type}[Inhabited α]{l:List α}{i:Nat}(h:i<l.length):l.drop i=nth l i::l.drop (i+1):=by rw [cE h];exact List.drop_eq_getElem_cons h
theorem gZ{α:Type}{l:List α}{i k:Nat}{x:α}(h:k≤i):(l.set i x).take k=l.take k:=by
 rw [List.take_set];exact List.set_eq_of_length_le (by simp;omega)
section
variable {b:Int}
theorem c8.nil:c8 b []:=by simp [c8]
theorem c8.cons{x:Int}{l:List Int}:c8 b (x::l)↔(0≤x∧x<b)∧c8 b l:=by simp [c8]
theorem c8.append{a c:List Int}:c8 b (a++c)↔c8 b a∧c8 b c:=by
 simp only [c8,List.mem_append]
 constructor
 ·intro h;exact⟨fun x hx=>h x (.inl hx),fun x hx=>h x (.inr hx)⟩
 ·rintro⟨h1,h2⟩ x (hx | hx)
  ·exact h1 x hx
  ·exact h2 x hx
theorem c8.take{l:List Int}(h:c8 b l)(n:Nat):c8 b (l.take n):=fun x hx=>h x (List.mem_of_mem_take hx)
theorem c8.drop{l:List Int}(h:c8 b l)(n:Nat):c8 b (l.drop n):=fun x hx=>h x (List.mem_of_mem_drop hx)
theorem c8.nth{l:List Int}(h:c8 b l){i:Nat}(hi:i<l.length):0≤nth l i∧nth l i<b:=by
 rw [cE hi];exact h _ (List.getElem_mem hi)
theorem c8.set{l:List Int}(h:c8 b l){i:Nat}{x:Int}(hx:0≤x∧x<b):c8 b (l.set i x):=fun y hy=>by
 rcases List.mem_or_eq_of_mem_set hy with h1 | h1
 ·exact h y h1
 ·rw [h1];exact hx
theorem c8.rep(hb:0<b)(n:Nat):c8 b (List.replicate n 0):=fun x hx=>by rw [(List.mem_replicate.1 hx).2];omega
theorem bN(hb:0<b):∀ {l:List Int},c8 b l→0≤V b l
 | [],_=>by simp [V]
 | x::l,h=>by
  have h1:=bN hb (c8.cons.1 h).2;have h2:=(c8.cons.1 h).1
  have h3:=Int.mul_nonneg (Int.le_of_lt hb) h1
  simp only [V];omega
theorem eJ:∀(a c:List Int),V b (a++c)=V b a+b^a.length*V b c
 | [],c=>by simp [V]
 | x::a,c=>by simp only [List.cons_append,V,eJ a c,List.length_cons,Int.pow_succ];grind
theorem oV{x:Int}:V b [x]=x:=by simp [V]
theorem pJ(hb:0<b):∀ {l:List Int},c8 b l→V b l<b^l.length
 | [],_=>by simp [V]
 | x::l,h=>by
  have h1:=pJ hb (c8.cons.1 h).2;have h2:=(c8.cons.1 h).1
  have h3:b*(V b l+1)≤b*b^l.length:=Int.mul_le_mul_of_nonneg_left (by omega) (by omega)
  rw [Int.mul_add]at h3
  simp only [V,List.length_cons,Int.pow_succ,Int.mul_comm _ b];omega
theorem aV{l:List Int}{i:Nat}(h:i<l.length):V b (l.take (i+1))=V b (l.take i)+b^i*nth l i:=by
 rw [bG h,eJ,oV];simp [Nat.min_eq_left (Nat.le_of_lt h)]
theorem bC{l:List Int}{i:Nat}(h:l.length≤i):V b (l.take i)=V b l:=by rw [List.take_of_length_le h]
theorem fL{l:List Int}{i:Nat}{x:Int}(h:i<l.length):V b ((l.set i x).take (i+1))=V b (l.take i)+b^i*x:=by
 rw [aV (by simpa using h),gZ (Nat.le_refl _),fG h]
theorem H3{l:List Int}{i:Nat}{x:Int}(h:i<l.length):V b (l.set i x)=V b l+b^i*(x-nth l i):=by
 induction l generalizing i with
 | nil=>simp at h
 | cons y l ih =>
  cases i with
  | zero=>simp only [List.set_cons_zero,V,Int.pow_zero,nth,List.getElem?_cons_zero,Option.getD_some];omega
  | succ i =>
   have e:nth (y::l) (i+1)=nth l i:=by simp [nth]
   simp only [List.set_cons_succ,V,e,Int.pow_succ]
   rw [ih (by simpa using h)]
   grind
theorem rO:∀n:Nat,V b (List.replicate n 0)=0
 | 0=>rfl
 | n+1=>by simp [List.replicate_succ,V,rO n]
end
section
variable {b:Int}
theorem dE:∀l:List Int,V b (aP l)=V b l
 | []=>rfl
 | x::l=>by
  have ih:=dE l
  simp only [aP]
  split
  ·rename_i h
   rw [h.1]at ih
   simp only [V]at ih ⊢
   rw [←ih,h.2];simp
  ·simp [V,ih]
theorem eT{l:List Int}(h:c8 b l):c8 b (aP l):=by
 induction l with
 | nil=>exact h
 | cons x l ih =>
  obtain⟨h1,h2⟩:=c8.cons.1 h
  simp only [aP]
  split
  ·exact c8.nil
  ·exact c8.cons.2 ⟨h1,ih h2⟩
end
section
variable {b:Nat}
theorem XU(hb:2≤b):∀(f g n:Nat),n≤f→n≤g→O4 b f n=O4 b g n
 | 0,g,n,h,_=>by
  have:n=0:=by omega
  subst this
  cases g<;>simp [O4]
 | f+1,0,n,_,h=>by
  have:n=0:=by omega
  subst this
  simp [O4]
 | f+1,g+1,n,h1,h2=>by
  simp only [O4]
  by_cases hn:n=0
  ·simp [hn]
  ·simp only [hn,if_false]
   have:n/b<n:=Nat.div_lt_self (by omega) hb
   rw [XU hb f g _ (by omega) (by omega)]
theorem mU:aR b 0 = []:=rfl
theorem sR(hb:2≤b){n:Nat}(h:n≠0):aR b n=((n%b:Nat):Int)::aR b (n/b):=by
 cases n with
 | zero=>exact absurd rfl h
 | succ n =>
  simp only [aR]
  rw [O4]
  simp only [h,if_false]
  have:(n+1)/b<n+1:=Nat.div_lt_self (by omega) hb
  rw [XU hb n _ _ (by omega) (Nat.le_refl _)]
theorem O5(hb:2≤b)(n:Nat):V b (aR b n)=n∧c8 b (aR b n):=by
 induction n using Nat.strongRecOn with
 | _ n ih =>
  by_cases h:n=0
  ·subst h;simp [mU,V,c8]
  ·rw [sR hb h]
   obtain⟨h1,h2⟩:=ih (n/b) (Nat.div_lt_self (by omega) hb)
   have h3:=Nat.mod_lt n (show 0<b by omega)
   have h4:=Nat.mod_add_div n b
   simp only [V,h1,c8.cons]
   refine⟨by exact_mod_cast h4,⟨by omega,by omega⟩,h2⟩
theorem lE(hb:2≤b)(n:Nat):V b (aR b n)=n:=(O5 hb n).1
theorem fN(hb:2≤b)(n:Nat):c8 b (aR b n):=(O5 hb n).2
theorem eZ(hb:2≤b){n:Nat}:aR b n = []↔n=0:=by
 constructor
 ·intro h;have:=lE hb n;rw [h]at this;simp [V]at this;omega
 ·rintro rfl;rfl
theorem sS(hb:2≤b):∀ {l:List Int},c8 b l→aP l=aR b (V b l).toNat
 | [],_=>rfl
 | x::l,h=>by
  obtain⟨h1,h2⟩:=c8.cons.1 h
  have ih:=sS hb h2
  have h3:=bN (by omega) h2
  simp only [aP,ih,eZ hb,V]
  obtain⟨m,hm⟩:=Int.eq_ofNat_of_zero_le h3
  obtain⟨y,hy⟩:=Int.eq_ofNat_of_zero_le h1.1
  subst hy
  rw [hm]
  have e0:((y:Int)+b*m).toNat=y+b*m:=by
   rw [show((y:Int)+b*m)=((y+b*m:Nat):Int)by simp];exact Int.toNat_natCast _
  rw [e0,Int.toNat_natCast]
  by_cases hz:m=0∧y=0
  ·obtain⟨rfl,rfl⟩:=hz;simp [mU]
  ·rw [if_neg (by omega)]
   have hyb:y<b:=by omega
   have e1:(y+b*m)/b=m:=by rw [Nat.add_mul_div_left _ _ (by omega),Nat.div_eq_of_lt hyb];simp
   have e2:(y+b*m)%b=y:=by rw [Nat.add_mul_mod_self_left,Nat.mod_eq_of_lt hyb]
   have m7:y+b*m≠0:=by
    intro h0
    have h5:b*m=0:=by omega
    rcases Nat.mul_eq_zero.1 h5 with h6 | h6<;>omega
   rw [sR hb m7,e1,e2]
theorem B6(hb:2≤b){n k:Nat}(h:n<b^k):(aR b n).length≤k:=by
 induction k generalizing n with
 | zero => have:n=0:=by simpa using h
           subst this;simp [mU]
 | succ k ih =>
  by_cases h0:n=0
  ·subst h0;simp [mU]
  ·rw [sR hb h0]
   have:n/b<b^k:=by
    rw [Nat.pow_succ,Nat.mul_comm]at h
    exact Nat.div_lt_of_lt_mul h
   simpa using ih this
theorem kK(hb:2≤b)(n:Nat):aP (aR b n)=aR b n:=by rw [sS hb (fN hb n),lE hb];simp
end
section
variable {b:Int}
theorem lF(l:List Int)(i:Nat)(h:i≤l.length):V b l=V b (l.take i)+b^i*V b (l.drop i):=by
 conv=>lhs;rw [←List.take_append_drop i l]
 rw [eJ];simp [Nat.min_eq_left h]
theorem D5{l:List Int}{i:Nat}(h:i<l.length):V b l=V b (l.take i)+b^i*nth l i+b^(i+1)*V b (l.drop (i+1)):=by
 rw [lF l (i+1) (by omega),aV h]
theorem oW(hb:0<b){x y:List Int}(lx:c8 b x)(ly:c8 b y)(hl:x.length=y.length){i:Nat}(hi:i<x.length)(hd:x.drop (i+1)=y.drop (i+1))(h:nth x i<nth y i):V b x<V b y:=by
 rw [D5 hi,D5 (l:=y) (i:=i) (by omega),hd]
 have h1:=pJ hb (lx.take i)
 have h2:=bN hb (ly.take i)
 rw [List.length_take,Nat.min_eq_left (by omega)]at h1
 have h3:b^i*(nth x i+1)≤b^i*nth y i:=Int.mul_le_mul_of_nonneg_left (by omega) (Int.le_of_lt (Int.pow_pos hb))
 rw [Int.mul_add]at h3
 omega
theorem l9(hb:1≤b):∀ {l:List Int},c8 b l→aP l=l→l ≠ []→b^(l.length-1)≤V b l
 | [],_,_,h=>absurd rfl h
 | [x],hl,hc,_=>by
  have h1:=(c8.cons.1 hl).1
  have h2:x≠0:=fun h=>by subst h;simp [aP]at hc
  simp [V];omega
 | x::y::l,hl,hc,_=>by
  have h1:=(c8.cons.1 hl).1
  have hc2:aP (y::l)=y::l:=by
   rw [aP]at hc
   split at hc
   ·cases hc
   ·exact(List.cons.inj hc).2
  have ih:=l9 hb (c8.cons.1 hl).2 hc2 (by simp)
  simp only [List.length_cons,Nat.add_sub_cancel]at ih ⊢
  rw [Int.pow_succ,V]
  have:=Int.mul_le_mul_of_nonneg_left ih (show 0≤b by omega)
  rw [Int.mul_comm b]at this
  omega
theorem eX:∀l:List Int,aP (aP l)=aP l
 | []=>rfl
 | x::l=>by
  have ih:=eX l
  rw [aP]
  split
  ·rfl
  ·rename_i h
   rw [aP,ih,if_neg h]
theorem kN(hb:1≤b){x y:List Int}(lx:c8 b x)(ly:c8 b y)(hy:aP y=y)(h:x.length<y.length):V b x<V b y:=by
 have h1:=pJ (by omega) lx
 have h2:=l9 hb ly hy (by intro h0;rw [h0]at h;simp at h)
 have h3:b^x.length≤b^(y.length-1):=by
  obtain⟨k,hk⟩:∃k,y.length-1=x.length+k:=⟨y.length-1-x.length,by omega⟩
  rw [hk,Int.pow_add]
  have:1≤b^k:=Int.pow_pos (by omega)
  have:=Int.mul_le_mul_of_nonneg_left this (show 0≤b^x.length from Int.le_of_lt (Int.pow_pos (by omega)))
  simpa using this
 omega
end
def dP(x y:Int):Int:=if x<y then -1 else if y<x then 1 else 0
theorem mK{x y:Int}(h:x<y):dP x y = -1:=by simp [dP,h]
theorem mL{x y:Int}(h:y<x):dP x y=1:=by simp [dP,h];omega
theorem xF(x:Int):dP x x=0:=by simp [dP]
theorem mV{x y:Int}:dP x y<0↔x<y:=by simp only [dP];split<;>(try split)<;>omega
theorem sU{x y:Int}:0≤dP x y↔y≤x:=by simp only [dP];split<;>(try split)<;>omega
theorem tX{x y:Int}:dP x y=0↔x=y:=by simp only [dP];split<;>(try split)<;>omega
theorem p7{x y:Int}:0<dP x y↔y<x:=by simp only [dP];split<;>(try split)<;>omega
section
variable {b:Nat}
def sz(b:Nat)(x:Int):Nat:=(aR b x.natAbs).length
theorem jH(hb:2≤b)(x:Int):x.natAbs<b^sz b x:=by
 have h1:=pJ (b:=(b:Int)) (by omega) (fN hb x.natAbs)
 rw [lE hb]at h1
 have h2:((b:Int)^(aR b x.natAbs).length)=((b^(aR b x.natAbs).length:Nat):Int):=by simp
 rw [h2]at h1
 unfold sz
 omega
theorem dV(hb:2≤b){x:Int}{k:Nat}(h:x.natAbs<b^k):sz b x≤k:=B6 hb h
theorem xG(hb:2≤b){m n:Nat}(h:m≤n):b^m≤b^n:=Nat.pow_le_pow_right (by omega) h
theorem n6(hb:2≤b){x y:Int}{k:Nat}(hx:sz b x≤k)(hy:sz b y≤k):sz b (x+y)≤k+1:=by
 refine dV hb ?_
 have h1:=Nat.lt_of_lt_of_le (jH hb x) (xG hb hx)
 have h2:=Nat.lt_of_lt_of_le (jH hb y) (xG hb hy)
 rw [Nat.pow_succ]
 have h3:b^k*2≤b^k*b:=Nat.mul_le_mul_left _ hb
 omega
theorem cP(hb:2≤b){x y:Int}{k m:Nat}(hx:sz b x≤k)(hy:sz b y≤m):sz b (x*y)≤k+m:=by
 refine dV hb ?_
 have h1:=Nat.lt_of_lt_of_le (jH hb x) (xG hb hx)
 have h2:=Nat.lt_of_lt_of_le (jH hb y) (xG hb hy)
 rw [Int.natAbs_mul,Nat.pow_add]
 exact Nat.mul_lt_mul'' h1 h2
theorem pK(x:Int):sz b (-x)=sz b x:=by simp [sz]
theorem lG:sz b 0=0:=by simp [sz,mU]
theorem dY(hb:2≤b){x y:Int}(h:x.natAbs≤y.natAbs):sz b x≤sz b y:=dV hb (Nat.lt_of_le_of_lt h (jH hb y))
end
theorem aAP{b:Nat}(hb:2≤b){l:List Int}(h:c8 b l):sz b (V b l)≤l.length:=by
 refine dV hb ?_
 have h1:=pJ (b:=(b:Int)) (by omega) h
 have h2:=bN (b:=(b:Int)) (by omega) h
 have h3:((b:Int)^l.length)=((b^l.length:Nat):Int):=by simp
 rw [h3]at h1
 omega
theorem bM{α:Type}{l:List α}{n:Nat}(h:l.length=n):l.take n=l:=List.take_of_length_le (by omega)
theorem mW{α:Type}{l m:List α}{i:Nat}{x:α}(h:l.take i=m)(hi:i<l.length):(l.set i x).take (i+1)=m ++ [x]:=by
 subst h
 rw [List.take_succ_eq_append_getElem (by simpa using hi),gZ (Nat.le_refl _)]
 simp
theorem pL{α β:Type}[Inhabited α]{l:List α}{f:α→β}{i:Nat}(h:i<l.length):(l.take (i+1)).map f=(l.take i).map f ++ [f (nth l i)]:=by
 rw [bG h];simp
theorem B7{α β:Type}[Inhabited α][Inhabited β]{f:α→β}(h:f default=default)(l:List α)(k:Nat):nth (l.map f) k=f (nth l k):=by
 unfold nth
 cases hk:l[k]? with
 | none=>simp [hk,h]
 | some x=>simp [hk]
theorem tY{t:Int}{α:Type}(f g:α→Int):∀l:List α,V t (l.map fun k=>f k+g k)=V t (l.map f)+V t (l.map g)
 | []=>by simp [V]
 | x::l=>by simp only [List.map_cons,V,tY f g l];grind
theorem iL{t:Int}{α:Type}(c:Int)(f:α→Int):∀l:List α,V t (l.map fun k=>f k*c)=V t (l.map f)*c
 | []=>by simp [V]
 | x::l=>by simp only [List.map_cons,V,iL c f l];grind
theorem p8{x:List Int}{n:Nat}(h:x.length≤n):(List.range n).map (nth x)=x++List.replicate (n-x.length) 0:=by
 apply List.ext_getElem
 ·simp;omega
 ·intro i h1 h2
  simp at h1
  by_cases hi:i<x.length
  ·simp [List.getElem_append,hi,cE hi]
  ·simp [List.getElem_append,hi];exact i0 (by omega)
theorem kO{t:Int}{x:List Int}{n:Nat}(h:x.length≤n):V t ((List.range n).map (nth x))=V t x:=by
 rw [p8 h,eJ,rO];simp
theorem zD{N a b:Int}{A B:Int→Int}(h:∀t,N<t→a+t*A t=b+t*B t):a=b ∧ ∀t,max N 0<t→A t=B t:=by
 have fQ:a=b:=by
  have h1:=h (max N 0+(b-a).natAbs+1) (by omega)
  generalize hT:max N 0+(b-a).natAbs+1=T at *
  have h2:b-a=T*(A T-B T):=by rw [Int.mul_sub];omega
  have h3:T∣b-a:=⟨_,h2⟩
  have h4:=Nat.eq_zero_of_dvd_of_lt (Int.natAbs_dvd_natAbs.2 h3) (by omega)
  omega
 refine⟨fQ,fun t ht=>?_⟩
 have h1:=h t (by omega)
 have h2:t*A t=t*B t:=by omega
 exact Int.eq_of_mul_eq_mul_left (by omega) h2
theorem qS:∀(x y:List Int) (N:Int),(∀t,N<t→V t x=V t y)→aP x=aP y
 | [],[],_,_=>rfl
 | [],b::y,N,h=>by
  obtain⟨h1,h2⟩:=zD (N:=N) (a:=0) (b:=b) (A:=fun _=>0) (B:=fun t=>V t y) (fun t ht=>by have:=h t ht;simp only [V]at this;omega)
  have:=qS [] y (max N 0) (fun t ht=>by have:=h2 t ht;simpa [V]using this)
  simp only [aP]at this ⊢
  rw [←this];simp [←h1]
 | a::x,[],N,h=>by
  obtain⟨h1,h2⟩:=zD (N:=N) (a:=a) (b:=0) (A:=fun t=>V t x) (B:=fun _=>0) (fun t ht=>by have:=h t ht;simp only [V]at this;omega)
  have:=qS x [] (max N 0) (fun t ht=>by have:=h2 t ht;simpa [V]using this)
  simp only [aP]at this ⊢
  rw [this];simp [h1]
 | a::x,b::y,N,h=>by
  obtain⟨h1,h2⟩:=zD (N:=N) (a:=a) (b:=b) (A:=fun t=>V t x) (B:=fun t=>V t y) (fun t ht=>h t ht)
  have:=qS x y (max N 0) h2
  simp only [aP]
  rw [this,h1]
theorem aoU{x y:List Int}(h:∀t,V t x=V t y):aP x=aP y:=qS x y 0 fun t _=>h t
def i3(x y:List Int):List Int:=aP ((List.range (max x.length y.length)).map fun k=>nth x k+nth y k)
def fS(x y:List Int):List Int:=aP ((List.range (max x.length y.length)).map fun k=>nth x k-nth y k)
def iH(x:List Int):List Int:=aP (x.map fun c => -c)
def a9(x:List Int)(c:Int):List Int:=aP (x.map fun a=>a*c)
def g9:List Int→List Int→List Int
 | [],_=>[]
 | a::x,y=>i3 (y.map fun c=>c*a) (0::g9 x y)
def bR(x y:List Int):List Int:=aP (g9 x y)
theorem sV{t:Int}(x y:List Int):V t (i3 x y)=V t x+V t y:=by
 rw [i3,dE,tY,kO (by omega),kO (by omega)]
theorem D6{t:Int}(x:List Int):V t (iH x) = - V t x:=by
 have:=iL (t:=t) (-1) id x
 rw [iH,dE]
 simp only [id_eq,Int.mul_neg,Int.mul_one,List.map_id_fun]at this
 exact this
theorem cU{t:Int}(x:List Int)(c:Int):V t (a9 x c)=V t x*c:=by
 have:=iL (t:=t) c id x
 rw [a9,dE]
 simpa using this
theorem jM{t:Int}(x y:List Int):V t (fS x y)=V t x-V t y:=by
 rw [fS,dE]
 have h1:=tY (t:=t) (fun k=>nth x k-nth y k) (nth y) (List.range (max x.length y.length))
 have h2:(fun k=>nth x k-nth y k+nth y k)=nth x:=by funext k;omega
 rw [h2,kO (by omega),kO (by omega)]at h1
 omega
theorem XV{t:Int}:∀x y:List Int,V t (g9 x y)=V t x*V t y
 | [],y=>by simp [g9,V]
 | a::x,y=>by
  have:=iL (t:=t) a id y
  simp only [id_eq,List.map_id_fun]at this
  rw [g9,sV,this]
  simp only [V,XV x y]
  grind
theorem dQ{t:Int}(x y:List Int):V t (bR x y)=V t x*V t y:=by rw [bR,dE,XV]
def Cn(x:List Int):Prop:=aP x=x
theorem Cn.i3(x y:List Int):Cn (i3 x y):=eX _
theorem Cn.fS(x y:List Int):Cn (fS x y):=eX _
theorem Cn.iH(x:List Int):Cn (iH x):=eX _
theorem Cn.a9(x:List Int)(c:Int):Cn (a9 x c):=eX _
theorem Cn.bR(x y:List Int):Cn (bR x y):=eX _
theorem Cn.cut(x:List Int):Cn (aP x):=eX _
theorem Cn.nil:Cn []:=rfl
theorem Cn.ext{x y:List Int}(hx:Cn x)(hy:Cn y)(h:∀t,V t x=V t y):x=y:=by rw [←hx,←hy];exact aoU h
structure Bd(b s n:Nat)(x:List Int):Prop where
 len:x.length≤n
 sz:∀c∈x,sz b c≤s
theorem p9:∀(x:List Int) (c:Int),c∈aP x→c∈x
 | [],c,h=>h
 | a::x,c,h=>by
  rw [aP]at h
  split at h
  ·cases h
  ·rcases List.mem_cons.1 h with h1 | h1
   ·simp [h1]
   ·exact List.mem_cons_of_mem _ (p9 x c h1)
section
variable {b s s' n n':Nat} {x y:List Int}
theorem Bd.mono(h:Bd b s n x)(hs:s≤s')(hn:n≤n'):Bd b s' n' x:=⟨Nat.le_trans h.len hn,fun c hc=>Nat.le_trans (h.sz c hc) hs⟩
theorem Bd.cut(h:Bd b s n x):Bd b s n (aP x):=⟨Nat.le_trans (bW x) h.len,fun c hc=>h.sz c (p9 x c hc)⟩
theorem Bd.nth(h:Bd b s n x)(i:Nat):Pm.sz b (nth x i)≤s:=by
 by_cases hi:i<x.length
 ·exact h.sz _ (bJ hi)
 ·rw [i0 (by omega)]
  show Pm.sz b 0≤s
  rw [lG];omega
theorem Bd.i3(hb:2≤b)(hx:Bd b s n x)(hy:Bd b s n y):Bd b (s+1) n (i3 x y):=by
 refine Bd.cut ⟨by have:=hx.len;have:=hy.len;simp;omega,fun c hc=>?_⟩
 simp only [List.mem_map]at hc
 obtain⟨k,_,rfl⟩:=hc
 exact n6 hb (hx.nth k) (hy.nth k)
theorem Bd.fS(hb:2≤b)(hx:Bd b s n x)(hy:Bd b s n y):Bd b (s+1) n (fS x y):=by
 refine Bd.cut ⟨by have:=hx.len;have:=hy.len;simp;omega,fun c hc=>?_⟩
 simp only [List.mem_map]at hc
 obtain⟨k,_,rfl⟩:=hc
 rw [Int.sub_eq_add_neg]
 exact n6 hb (hx.nth k) (by rw [pK];exact hy.nth k)
theorem Bd.iH(hx:Bd b s n x):Bd b s n (iH x):=by
 refine Bd.cut ⟨by simpa using hx.len,fun c hc=>?_⟩
 simp only [List.mem_map]at hc
 obtain⟨k,hk,rfl⟩:=hc
 rw [pK];exact hx.sz k hk
theorem Bd.a9(hb:2≤b)(hx:Bd b s n x){c:Int}(hc:Pm.sz b c≤s'):Bd b (s+s') n (a9 x c):=by
 refine Bd.cut ⟨by simpa using hx.len,fun d hd=>?_⟩
 simp only [List.mem_map]at hd
 obtain⟨k,hk,rfl⟩:=hd
 exact cP hb (hx.sz k hk) hc
theorem Bd.g9(hb:2≤b)(hy:Bd b s' n' y):∀ {x:List Int} {n:Nat},Bd b s n x→Bd b (s+s'+n) (n+n') (g9 x y)
 | [],n,_=>⟨by simp [Pm.g9],by simp [Pm.g9]⟩
 | a::x,0,h=>by have:=h.len;simp at this
 | a::x,n+1,h=>by
  have h1:Bd b s n x:=⟨by have:=h.len;simpa using this,fun c hc=>h.sz c (List.mem_cons_of_mem _ hc)⟩
  have h2:=Bd.g9 hb hy h1
  have h3:Bd b (s+s'+n) (n+1+n') (0::Pm.g9 x y):=⟨by have:=h2.len;simp;omega,fun c hc=>by
   rcases List.mem_cons.1 hc with h4 | h4
   ·rw [h4,lG];omega
   ·exact h2.sz c h4⟩
  have h4:Bd b (s+s'+n) (n+1+n') (y.map fun c=>c*a):=⟨by have:=hy.len;simp;omega,fun d hd=>by
   simp only [List.mem_map]at hd
   obtain⟨k,hk,rfl⟩:=hd
   have:=cP hb (hy.sz k hk) (h.sz a (by simp))
   omega⟩
  have:=Bd.i3 hb h4 h3
  rw [Pm.g9]
  exact this.mono (by omega) (by omega)
theorem Bd.bR(hb:2≤b)(hx:Bd b s n x)(hy:Bd b s' n' y):Bd b (s+s'+n) (n+n') (bR x y):=(Bd.g9 hb hy hx).cut
end
def nb(n:Nat):Nat:=if n=0 then 0 else n.log2+1
theorem oX{n k:Nat}:nb n≤k↔n<2^k:=by
 unfold nb
 split
 ·rename_i h;subst h;simp;exact Nat.pow_pos (by decide)
 ·rename_i h;rw [←Nat.log2_lt h];omega
theorem O6{n k:Nat}(h:n/2^k≠0):nb n=k+nb (n/2^k):=by
 apply Nat.le_antisymm
 ·rw [oX,Nat.pow_add]
  have h1:n/2^k<2^nb (n/2^k):=oX.1 (Nat.le_refl _)
  have h2:=Nat.lt_mul_of_div_lt h1 (Nat.pow_pos (by decide))
  rw [Nat.mul_comm]at h2
  exact h2
 ·have h3:∀m,nb n≤m→k+nb (n/2^k)≤m:=by
   intro m hm
   rw [oX]at hm
   have hkm:k≤m:=by
    rcases Nat.lt_or_ge m k with h4 | h4
    ·exfalso;apply h;apply Nat.div_eq_of_lt;exact Nat.lt_of_lt_of_le hm (Nat.pow_le_pow_right (by decide) (by omega))
    ·exact h4
   have h5:nb (n/2^k)≤m-k:=by
    rw [oX]
    apply Nat.div_lt_of_lt_mul
    rw [←Nat.pow_add,show k+(m-k)=m by omega];exact hm
   omega
  exact h3 _ (Nat.le_refl _)
end Pm
namespace Pm
open Go
theorem aef{a b s:Nat}(h:2^s∣a)(hb:b<2^s):a ||| b=a+b:=by
 obtain⟨q,rfl⟩:=h
 exact(Nat.two_pow_add_eq_or_of_lt hb q).symm
theorem aaV{a b s:Nat}(h:2^s∣a)(hb:b<2^s)(fQ:a+b<4294967296):r9 .u32 a b=((a+b:Nat):Int):=by
 have h1:((BitVec.ofInt 32 (a:Int)) ||| (BitVec.ofInt 32 (b:Int))).toNat=a+b:=by
  rw [BitVec.toNat_or,BitVec.toNat_ofInt,BitVec.toNat_ofInt,←aef h hb]
  congr 1<;>omega
 show IntKind.u32.wrap (((BitVec.ofInt 32 (a:Int)) ||| (BitVec.ofInt 32 (b:Int))).toNat:Int)=_
 rw [h1]
 simp only [IntKind.wrap,IntKind.bits,IntKind.signed]
 simp
 omega
theorem aaW{a b s:Nat}(h:2^s∣a)(hb:b<2^s)(fQ:a+b<18446744073709551616):r9 .u64 a b=((a+b:Nat):Int):=by
 have h1:((BitVec.ofInt 64 (a:Int)) ||| (BitVec.ofInt 64 (b:Int))).toNat=a+b:=by
  rw [BitVec.toNat_or,BitVec.toNat_ofInt,BitVec.toNat_ofInt,←aef h hb]
  congr 1<;>omega
 show IntKind.u64.wrap (((BitVec.ofInt 64 (a:Int)) ||| (BitVec.ofInt 64 (b:Int))).toNat:Int)=_
 rw [h1]
 simp only [IntKind.wrap,IntKind.bits,IntKind.signed]
 simp
 omega
theorem D7(k:IntKind)(a b:Int):r9 k a b=r9 k b a:=by unfold r9;rw [BitVec.or_comm]
theorem aiw{a b:Int}(s:Nat)(ha:0≤a)(hb0:0≤b)(h:(2^s:Int)∣a)(hb:b<2^s)(fQ:a+b<4294967296):r9 .u32 a b=a+b∧r9 .u32 b a=a+b:=by
 obtain⟨x,rfl⟩:=Int.eq_ofNat_of_zero_le ha
 obtain⟨y,rfl⟩:=Int.eq_ofNat_of_zero_le hb0
 have h1:2^s∣x:=by exact_mod_cast h
 have h2:y<2^s:=by exact_mod_cast hb
 have:=aaV h1 h2 (by omega)
 rw [D7 .u32 (y:Int)]
 refine⟨?_,?_⟩<;>rw [this]<;>simp
theorem B8{a b:Int}(s:Nat)(ha:0≤a)(hb0:0≤b)(h:(2^s:Int)∣a)(hb:b<2^s)(fQ:a+b<18446744073709551616):r9 .u64 a b=a+b∧r9 .u64 b a=a+b:=by
 obtain⟨x,rfl⟩:=Int.eq_ofNat_of_zero_le ha
 obtain⟨y,rfl⟩:=Int.eq_ofNat_of_zero_le hb0
 have h1:2^s∣x:=by exact_mod_cast h
 have h2:y<2^s:=by exact_mod_cast hb
 have:=aaW h1 h2 (by omega)
 rw [D7 .u64 (y:Int)]
 refine⟨?_,?_⟩<;>rw [this]<;>simp
end Pm
namespace Pm
structure KD(b W top next head x2 X Y:Int):Prop where
 b0:2≤b
 W0:1≤W
 t0:1≤top
 n0:0≤next
 h0:0≤head
 x0:0≤x2
 nb:next<b
 xb:x2<b
 Yl:(top*b+next)*W≤Y
 Yu:Y<(top*b+next+1)*W
 Xl:(head*b+x2)*W≤X
 Xu:X<(head*b+x2+1)*W
 lt:X<b*Y
section
variable {b W top next head x2 X Y:Int} (h:KD b W top next head x2 X Y)
include h
theorem KD.Y0:0<Y:=by
 have h1:1≤top*b+next:=by
  have:=Int.mul_le_mul_of_nonneg_right h.t0 (show 0≤b by have:=h.b0;omega)
  have:=h.n0;have:=h.b0;omega
 have:=Int.mul_le_mul h1 h.W0 (by decide) (by omega)
 have:=h.Yl;omega
theorem KD.first:X<(head/top+1)*Y:=by
 have h1:head+1≤(head/top+1)*top:=by
  have:=Int.lt_ediv_add_one_mul_self head (show 0<top by have:=h.t0;omega)
  omega
 have hg:0≤head/top+1:=by have:=Int.ediv_nonneg h.h0 (show 0≤top by have:=h.t0;omega);omega
 have hbW:0≤b*W:=Int.mul_nonneg (by have:=h.b0;omega) (by have:=h.W0;omega)
 have h2:=Int.mul_le_mul_of_nonneg_right h1 hbW
 have h3:(head*b+x2+1)*W≤(head+1)*(b*W):=by
  have:(head+1)*(b*W)=(head*b+b)*W:=by grind
  rw [this]
  exact Int.mul_le_mul_of_nonneg_right (by have:=h.xb;omega) (by have:=h.W0;omega)
 have h4:top*(b*W)≤Y:=by
  have:top*(b*W)≤(top*b+next)*W:=by
   have e:top*(b*W)=(top*b)*W:=by grind
   rw [e]
   exact Int.mul_le_mul_of_nonneg_right (by have:=h.n0;omega) (by have:=h.W0;omega)
  have:=h.Yl;omega
 have h5:(head/top+1)*top*(b*W)≤(head/top+1)*Y:=by
  rw [Int.mul_assoc];exact Int.mul_le_mul_of_nonneg_left h4 hg
 have:=h.Xu;omega
theorem KD.big{g:Int}(hg:b≤g):X<g*Y:=by
 have:=Int.mul_le_mul_of_nonneg_right hg (Int.le_of_lt h.Y0)
 have:=h.lt;omega
theorem KD.over{g r:Int}(hg:0≤g)(hr:g*top+r=head)(ho:r*b+x2<g*next):X<g*Y:=by
 have h1:head*b+x2+1≤g*(top*b+next):=by
  have:g*(top*b+next)=(g*top)*b+g*next:=by grind
  have h2:g*top=head-r:=by omega
  have h3:(head-r)*b=head*b-r*b:=by grind
  rw [this,h2,h3];omega
 have h2:=Int.mul_le_mul_of_nonneg_right h1 (show 0≤W by have:=h.W0;omega)
 have h3:=Int.mul_le_mul_of_nonneg_left h.Yl hg
 rw [←Int.mul_assoc]at h3
 have:=h.Xu;omega
theorem KD.uV{g r:Int}(hg:0≤g)(M7:g<b)(hr:g*top+r=head)(hn:g*next≤r*b+x2):g*Y<X+Y:=by
 have h1:g*(top*b+next)≤head*b+x2:=by
  have:g*(top*b+next)=(g*top)*b+g*next:=by grind
  have h2:g*top=head-r:=by omega
  have h3:(head-r)*b=head*b-r*b:=by grind
  rw [this,h2,h3];omega
 have h2:=Int.mul_le_mul_of_nonneg_right h1 (show 0≤W by have:=h.W0;omega)
 have h3:g*Y≤g*((top*b+next)*W)+g*W:=by
  have h4:Y≤(top*b+next)*W+W:=by have:=h.Yu;grind
  have:=Int.mul_le_mul_of_nonneg_left h4 hg
  rw [Int.mul_add]at this;exact this
 have h5:g*W<b*W:=Int.mul_lt_mul_of_pos_right M7 (by have:=h.W0;omega)
 have h6:b*W≤Y:=by
  have h7:b*W≤(top*b+next)*W:=Int.mul_le_mul_of_nonneg_right (by
   have:=Int.mul_le_mul_of_nonneg_right h.t0 (show 0≤b by have:=h.b0;omega)
   have:=h.n0;omega) (by have:=h.W0;omega)
  have:=h.Yl;omega
 rw [←Int.mul_assoc]at h3
 have:=h.Xl;omega
theorem KD.ava{g r:Int}(hg:0≤g)(M7:g<b)(hr:b≤r):g*next≤r*b+x2:=by
 have h1:g*next≤b*b:=Int.mul_le_mul (by omega) (by have:=h.nb;omega) h.n0 (by have:=h.b0;omega)
 have h2:b*b≤r*b:=Int.mul_le_mul_of_nonneg_right hr (by have:=h.b0;omega)
 have:=h.x0;omega
theorem KD.aeg{g r:Int}(hh:head≤top*b+b-1)(he:g*top+r=head)(hr:b≤r):g<b:=by
 rcases Int.lt_or_le g b with h1 | h1
 ·exact h1
 ·have:=Int.mul_le_mul_of_nonneg_right h1 (show 0≤top by have:=h.t0;omega)
  rw [Int.mul_comm b]at this
  omega
theorem KD.right{g:Int}(h1:X<(g+1)*Y)(h2:0≤X-g*Y):g=X/Y∧X-g*Y=X%Y:=by
 have hY:=h.Y0
 have h3:X/Y=g:=by
  have e:(g+1)*Y=g*Y+Y:=by grind
  rw [Int.ediv_eq_iff_of_pos hY]
  constructor
  ·omega
  ·omega
 refine⟨h3.symm,?_⟩
 have:=Int.emod_def X Y
 rw [h3,Int.mul_comm]at this
 omega
theorem KD.avb{g:Int}(h1:g*Y<X+Y)(h2:X-g*Y<0):g-1=X/Y∧X-g*Y+Y=X%Y:=by
 have hY:=h.Y0
 have e:(g-1)*Y=g*Y-Y:=by grind
 have e2:(g-1+1)*Y=g*Y:=by grind
 have:=h.right (g:=g-1) (by rw [e2];omega) (by rw [e];omega)
 rw [e]at this
 exact⟨this.1,by have:=this.2;omega⟩
end
theorem aeh{d e x x':Int}(hd:0<d)(he:0<e)(hde:d*e=4294967296)(hx:0≤x∧x<4294967296)(HJ:0≤x'∧x'<4294967296) :
  d*(((x+4294967296*x')/d)%4294967296)=x-x%d+4294967296*(x'%d)∧(0≤((x+4294967296*x')/d)%4294967296∧((x+4294967296*x')/d)%4294967296<4294967296):=by
 have h1:(x+4294967296*x')/d=x/d+e*x':=by
  have:x+4294967296*x'=x+d*(e*x'):=by rw [←hde];grind
  rw [this,Int.add_mul_ediv_left _ _ (by omega)]
 have h2:x/d<e:=Int.ediv_lt_of_lt_mul hd (by rw [Int.mul_comm,hde];exact hx.2)
 have h3:0≤x/d:=Int.ediv_nonneg hx.1 (by omega)
 have h4:e*x'=e*(x'%d)+4294967296*(x'/d):=by
  have:=Int.mul_ediv_add_emod x' d
  calc e*x'=e*(d*(x'/d)+x'%d):=by rw [this]
   _=e*(x'%d)+(d*e)*(x'/d):=by grind
   _=e*(x'%d)+4294967296*(x'/d):=by rw [hde]
 have h5:0≤x'%d:=Int.emod_nonneg _ (by omega)
 have h6:x'%d<d:=Int.emod_lt_of_pos _ hd
 have h7:e*(x'%d)+e≤4294967296:=by
  have:=Int.mul_le_mul_of_nonneg_left (show x'%d+1≤d by omega) (show 0≤e by omega)
  rw [Int.mul_add,Int.mul_comm e d,hde]at this;omega
 have h8:0≤e*(x'%d):=Int.mul_nonneg (by omega) h5
 have h9:((x+4294967296*x')/d)%4294967296=x/d+e*(x'%d):=by
  rw [h1,h4,←Int.add_assoc,Int.add_mul_emod_self_left,Int.emod_eq_of_lt (by omega) (by omega)]
 rw [h9]
 refine⟨?_,by omega,by omega⟩
 have h10:=Int.mul_ediv_add_emod x d
 have h11:d*(e*(x'%d))=4294967296*(x'%d):=by rw [←Int.mul_assoc,hde]
 rw [Int.mul_add,h11];omega
theorem avc{m:Nat}{D y:List Int}(hD:m+3≤D.length)(hy:y.length=m+2)(lD:c8 4294967296 D)(ly:c8 4294967296 y)(ht:1≤nth y (m+1))(dC:V 4294967296 (D.take (m+3))<4294967296*V 4294967296 y) :
  KD 4294967296 (4294967296^m) (nth y (m+1)) (nth y m) (nth D (m+2)*4294967296+nth D (m+1)) (nth D m) (V 4294967296 (D.take (m+3))) (V 4294967296 y)∧nth D (m+2)≤nth y (m+1):=by
 have hp:(0:Int)<4294967296^m:=Int.pow_pos (by decide)
 have y0:=bN (by decide) (ly.take m)
 have y1:=pJ (by decide) (ly.take m)
 rw [List.length_take,Nat.min_eq_left (by omega)]at y1
 have x0:=bN (by decide) (lD.take m)
 have x1:=pJ (by decide) (lD.take m)
 rw [List.length_take,Nat.min_eq_left (by omega)]at x1
 have hY:V 4294967296 y=V 4294967296 (y.take m)+4294967296^m*(nth y m+4294967296*nth y (m+1)):=by
  rw [←bC (l:=y) (i:=m+1+1) (by omega),aV (by omega),aV (by omega),Int.pow_succ];grind
 have hX:V 4294967296 (D.take (m+3))=V 4294967296 (D.take m)+4294967296^m*(nth D m+4294967296*(nth D (m+1)+4294967296*nth D (m+2))):=by
  rw [show m+3=m+1+1+1 from rfl,aV (by omega),aV (by omega),aV (by omega),Int.pow_succ,Int.pow_succ];grind
 have l1:=ly.nth (i:=m) (by omega)
 have l2:=ly.nth (i:=m+1) (by omega)
 have k0:=lD.nth (i:=m) (by omega)
 have k1:=lD.nth (i:=m+1) (by omega)
 have k2:=lD.nth (i:=m+2) (by omega)
 generalize nth y m=ya at *
 generalize nth y (m+1)=yb at *
 generalize nth D m=xa at *
 generalize nth D (m+1)=xb at *
 generalize nth D (m+2)=xc at *
 generalize V 4294967296 (y.take m)=yr at *
 generalize V 4294967296 (D.take m)=xr at *
 generalize V 4294967296 (D.take (m+3))=X at *
 generalize V 4294967296 y=Y at *
 generalize (4294967296:Int)^m=W at *
 have e1:(yb*4294967296+ya)*W=W*(ya+4294967296*yb):=by grind
 have e2:(yb*4294967296+ya+1)*W=W*(ya+4294967296*yb)+W:=by grind
 have e3:((xc*4294967296+xb)*4294967296+xa)*W=W*(xa+4294967296*(xb+4294967296*xc)):=by grind
 have e4:((xc*4294967296+xb)*4294967296+xa+1)*W=W*(xa+4294967296*(xb+4294967296*xc))+W:=by grind
 refine⟨⟨by decide,by omega,ht,l1.1,by omega,k0.1,l1.2,k0.2,by omega,by omega,by omega,by omega,dC⟩,?_⟩
 rcases Int.lt_or_le yb xc with h | h
 ·exfalso
  have h1:W*(4294967296*(4294967296*(yb+1)))≤W*(xa+4294967296*(xb+4294967296*xc)):=Int.mul_le_mul_of_nonneg_left (by omega) (by omega)
  have h2:Y<W*(4294967296*(yb+1)):=by
   have:=Int.mul_le_mul_of_nonneg_left (show ya+4294967296*yb+1≤4294967296*(yb+1)by omega) (show 0≤W by omega)
   rw [Int.mul_add]at this
   omega
  have h3:W*(4294967296*(4294967296*(yb+1)))=4294967296*(W*(4294967296*(yb+1))):=by grind
  omega
 ·exact h
theorem aei{g w c x β:Int}(hg:0≤g∧g<4294967296)(hw:0≤w∧w<4294967296)(hc:0≤c∧c<4294967296)(hx:0≤x∧x<4294967296)(hβ:β=0∨β=1) :
  (0≤g*w+c∧g*w+c<18446744069414584321)∧(0≤(g*w+c)/4294967296∧(g*w+c)/4294967296<4294967296) ∧
  ∃β',(β'=0∨β'=1)∧((x-(g*w+c)%4294967296-β)%18446744073709551616)/9223372036854775808=β' ∧
   ((x-(g*w+c)%4294967296-β)%18446744073709551616)%4294967296=x-(g*w+c)%4294967296-β+β'*4294967296:=by
 have h1:0≤g*w:=Int.mul_nonneg hg.1 hw.1
 have h2:g*w≤4294967295*4294967295:=Int.mul_le_mul (by omega) (by omega) hw.1 (by omega)
 generalize g*w=p at *
 refine⟨by omega,by omega,?_⟩
 rcases Int.lt_or_le (x-(p+c)%4294967296-β) 0 with h | h
 ·exact⟨1, .inr rfl,by omega,by omega⟩
 ·exact⟨0, .inl rfl,by omega,by omega⟩
theorem xH(x y:List Int):(fS x y).length≤max x.length y.length:=Nat.le_trans (bW _) (by simp)
theorem qT(x:List Int)(c:Int):(a9 x c).length≤x.length:=Nat.le_trans (bW _) (by simp)
def lead(x:List Int):Int:=nth x (x.length-1)
theorem vR{x:List Int}(h:0<x.length):x=x.take (x.length-1) ++ [lead x]:=by
 have:=bG (l:=x) (i:=x.length-1) (by omega)
 rw [show x.length-1+1=x.length by omega,List.take_length]at this
 exact this
theorem dH{x:List Int}(hc:Cn x)(h:0<x.length):lead x≠0:=by
 intro h0
 have e:=vR h
 rw [h0]at e
 have h1:=kJ (x.take (x.length-1))
 rw [←e,show aP x=x from hc]at h1
 have h2:=bW (x.take (x.length-1))
 rw [←h1,List.length_take]at h2
 omega
theorem KU{x:List Int}(h:0<x.length)(t:Int):V t x=V t (x.take (x.length-1))+t^(x.length-1)*lead x:=by
 conv=>lhs;rw [vR h]
 rw [eJ,oV,List.length_take,Nat.min_eq_left (by omega)]
def rV(i:Nat)(x:Int):List Int:=List.replicate i 0 ++ [x]
theorem oY(t:Int)(i:Nat)(x:Int):V t (rV i x)=t^i*x:=by rw [rV,eJ,rO,oV];simp
def xI(b r:List Int)(i:Nat):Int:=if r.length=b.length+i then lead r else 0
def psq(c x:Int)(i:Nat)(q:List Int):List Int:=i3 (a9 q c) (rV i x)
def yW(b:List Int)(c x:Int)(i:Nat)(r:List Int):List Int:=fS (a9 r c) (bR (rV i x) b)
def ps(b:List Int)(c:Int):Nat→List Int→List Int→List Int × List Int
 | 0,q,r=>(q,r)
 | i+1,q,r=>ps b c i (psq c (xI b r i) i q) (yW b c (xI b r i) i r)
theorem ave(t:Int)(b:List Int)(c:Int):∀(k:Nat) (q r:List Int),V t (ps b c k q r).1*V t b+V t (ps b c k q r).2=c^k*(V t q*V t b+V t r)
 | 0,q,r=>by simp [ps]
 | i+1,q,r=>by
  rw [ps,ave t b c i]
  simp only [psq,yW,sV,jM,cU,dQ,oY,Int.pow_succ]
  grind
theorem B9{b r:List Int}{i:Nat}(hb:0<b.length)(hr:r.length≤b.length+i):(yW b (lead b) (xI b r i) i r).length≤b.length-1+i:=by
 rcases Nat.lt_or_ge r.length (b.length+i)with h | h
 ·have hx:xI b r i=0:=by rw [xI,if_neg (by omega)]
  have e:yW b (lead b) (xI b r i) i r=a9 r (lead b):=Cn.ext (Cn.fS _ _) (Cn.a9 _ _) fun t=>by
   rw [hx,yW,jM,dQ,oY];simp
  rw [e]
  have:=qT r (lead b);omega
 ·have hrl:r.length=b.length+i:=by omega
  have hx:xI b r i=lead r:=by rw [xI,if_pos hrl]
  have e:yW b (lead b) (xI b r i) i r=fS (a9 (r.take (r.length-1)) (lead b)) (List.replicate i 0++(b.take (b.length-1)).map fun v=>v*lead r):=Cn.ext (Cn.fS _ _) (Cn.fS _ _) fun t=>by
   have h1:=KU (x:=r) (by omega) t
   have h2:=KU (x:=b) hb t
   have h3:=iL (t:=t) (lead r) id (b.take (b.length-1))
   simp only [id_eq,List.map_id_fun]at h3
   rw [hx,yW,jM,jM,dQ,oY,cU,cU,eJ,rO,h3,List.length_replicate,h1,h2,show r.length-1=i+(b.length-1)by omega,Int.pow_add]
   grind
  rw [e]
  refine Nat.le_trans (xH _ _) ?_
  have h4:=qT (r.take (r.length-1)) (lead b)
  rw [List.length_take]at h4
  simp only [List.length_append,List.length_replicate,List.length_map,List.length_take]
  omega
theorem aej{b:List Int}(hb:0<b.length):∀(k:Nat) (q r:List Int),r.length≤b.length-1+k→(ps b (lead b) k q r).2.length≤b.length-1
 | 0,q,r,h=>by simpa [ps]using h
 | i+1,q,r,h=>by
  rw [ps]
  exact aej hb i _ _ (B9 hb (by omega))
theorem alO{b:List Int}{c:Int}:∀(k:Nat) (q r:List Int),Cn q→Cn r→Cn (ps b c k q r).1∧Cn (ps b c k q r).2
 | 0,q,r,h1,h2=>⟨h1,h2⟩
 | i+1,q,r,_,_=>by rw [ps];exact alO i _ _ (Cn.i3 _ _) (Cn.fS _ _)
theorem iD{b s n:Nat}{x:List Int}(h:Bd b s n x):sz b (lead x)≤s:=h.nth _
theorem Bd.rV{b s:Nat}{x:Int}(h:Pm.sz b x≤s)(i:Nat):Bd b s (i+1) (Pm.rV i x):=⟨by simp [Pm.rV],fun c hc=>by
 simp only [Pm.rV,List.mem_append,List.mem_replicate,List.mem_singleton]at hc
 rcases hc with ⟨_,rfl⟩ | rfl
 ·rw [lG];omega
 ·exact h⟩
theorem aek{b s n i:Nat}{y r:List Int}(h:Bd b s n r):sz b (xI y r i)≤s:=by
 rw [xI];split
 ·exact iD h
 ·rw [lG];omega
theorem D8{B s s' N i:Nat}{b q r:List Int}(hB:2≤B)(hb:Bd B s' N b)(hq:Bd B s (N+N) q)(hr:Bd B s (N+N) r)(hi:i<N) :
  Bd B (s+s'+N+1) (N+N) (psq (lead b) (xI b r i) i q)∧Bd B (s+s'+N+1) (N+N) (yW b (lead b) (xI b r i) i r):=by
 have hc:=iD hb
 have hx:=aek (y:=b) (i:=i) hr
 have hs:=Bd.rV hx i
 constructor
 ·exact(Bd.i3 hB ((hq.a9 hB hc).mono (s':=s+s') (n':=N+N) (by omega) (by omega)) (hs.mono (by omega) (by omega))).mono (by omega) (by omega)
 ·exact(Bd.fS hB ((hr.a9 hB hc).mono (s':=s+s'+N) (n':=N+N) (by omega) (by omega)) ((hs.bR hB hb).mono (by omega) (by omega))).mono (by omega) (by omega)
theorem ael{B s' N:Nat}{b:List Int}(hB:2≤B)(hb:Bd B s' N b):∀(k s:Nat) (q r:List Int),k≤N→Bd B s (N+N) q→Bd B s (N+N) r→Bd B (s+k*(s'+N+1)) (N+N) (ps b (lead b) k q r).1∧Bd B (s+k*(s'+N+1)) (N+N) (ps b (lead b) k q r).2
 | 0,s,q,r,_,hq,hr=>⟨hq.mono (by omega) (by omega),hr.mono (by omega) (by omega)⟩
 | i+1,s,q,r,hk,hq,hr=>by
  obtain⟨h1,h2⟩:=D8 hB hb hq hr (show i<N by omega)
  obtain⟨h3,h4⟩:=ael hB hb i (s+s'+N+1) _ _ (by omega) h1 h2
  rw [ps,Nat.add_mul,Nat.one_mul]
  exact⟨h3.mono (by omega) (by omega),h4.mono (by omega) (by omega)⟩
def j8(a b:List Int):Nat:=a.length+1-b.length
def AX(a b:List Int):List Int × List Int:=ps b (lead b) (j8 a b) [] a
theorem aem(t:Int)(a b:List Int):V t (AX a b).1*V t b+V t (AX a b).2=lead b^j8 a b*V t a:=by
 rw [AX,ave];simp [V]
theorem KV{a b:List Int}(hb:0<b.length):(AX a b).2.length≤b.length-1:=aej hb _ _ _ (by unfold j8;omega)
theorem D9{a b:List Int}(ha:Cn a):Cn (AX a b).1∧Cn (AX a b).2:=alO _ _ _ Cn.nil ha
theorem EA(x y:List Int):(i3 x y).length≤max x.length y.length:=Nat.le_trans (bW _) (by simp)
theorem H4:∀(x y:List Int),0<y.length→(g9 x y).length≤x.length+y.length-1
 | [],y,_=>by simp [g9]
 | a::x,y,h=>by
  have ih:=H4 x y h
  have h1:=EA (y.map fun c=>c*a) (0::g9 x y)
  simp only [List.length_map,List.length_cons]at h1
  rw [g9]
  simp only [List.length_cons]
  omega
theorem sW{x y:List Int}(h:0<y.length):(bR x y).length≤x.length+y.length-1:=Nat.le_trans (bW _) (H4 x y h)
theorem O7(x:List Int):bR x [] = []:=Cn.ext (Cn.bR _ _) Cn.nil fun t=>by rw [dQ];simp [V]
theorem O8{x y:List Int}(cx:Cn x)(cy:Cn y)(hx:0<x.length)(hy:0<y.length):∃w:List Int,w.length=x.length+y.length-2∧bR x y=w ++ [lead x*lead y]:=by
 have lx:=dH cx hx
 have ly:=dH cy hy
 obtain⟨u,hu⟩:∃u,u=i3 (bR (y.take (y.length-1)) x) (bR (rV (y.length-1) (lead y)) (x.take (x.length-1))):=⟨_,rfl⟩
 have hul:u.length≤x.length+y.length-2:=by
  have h1:=sW (x:=y.take (y.length-1)) (y:=x) hx
  rw [List.length_take]at h1
  have h2:(bR (rV (y.length-1) (lead y)) (x.take (x.length-1))).length≤x.length+y.length-2:=by
   rcases Nat.eq_zero_or_pos (x.take (x.length-1)).length with h | h
   ·have:x.take (x.length-1) = []:=List.eq_nil_of_length_eq_zero h
    rw [this,O7];simp
   ·have:=sW (x:=rV (y.length-1) (lead y)) h
    simp only [rV,List.length_append,List.length_replicate,List.length_singleton,List.length_take]at this ⊢
    omega
  have h3:=EA (bR (y.take (y.length-1)) x) (bR (rV (y.length-1) (lead y)) (x.take (x.length-1)))
  rw [←hu]at h3
  omega
 refine⟨(List.range (x.length+y.length-2)).map (nth u),by simp,?_⟩
 have m7:lead x*lead y≠0:=Int.mul_ne_zero lx ly
 refine Cn.ext (Cn.bR _ _) (jD m7 _) fun t=>?_
 rw [eJ,kO hul,oV,hu,sV,dQ,dQ,dQ,oY,KU hx,KU hy]
 simp only [List.length_map,List.length_range]
 rw [show x.length+y.length-2=(x.length-1)+(y.length-1)by omega,Int.pow_add]
 grind
theorem kP{x y:List Int}(cx:Cn x)(cy:Cn y)(hx:0<x.length)(hy:0<y.length):(bR x y).length=x.length+y.length-1:=by
 obtain⟨w,h1,h2⟩:=O8 cx cy hx hy
 rw [h2,List.length_append,h1,List.length_singleton];omega
theorem zE{x y:List Int}(cx:Cn x)(cy:Cn y)(hx:0<x.length)(hy:0<y.length):lead (bR x y)=lead x*lead y:=by
 obtain⟨w,h1,h2⟩:=O8 cx cy hx hy
 rw [h2,lead,List.length_append,List.length_singleton,Nat.add_sub_cancel,cE (by simp)]
 simp
theorem H5{u y h:List Int}(cu:Cn u)(cy:Cn y)(hy:0<y.length)(e:∀t,V t u=V t y*V t h)(hl:u.length<y.length):u = []:=by
 have e2:u=bR y (aP h):=Cn.ext cu (Cn.bR _ _) fun t=>by rw [dQ,dE,e t]
 rcases Nat.eq_zero_or_pos (aP h).length with h0 | h0
 ·have:aP h = []:=List.eq_nil_of_length_eq_zero h0
  rw [e2,this,O7]
 ·have:=kP cy (Cn.cut h) hy h0
  rw [←e2]at this;omega
theorem qA(i:Nat):nth ([]:List Int) i=0:=i0 (by simp)
theorem tZ(a:Int)(l:List Int):nth (a::l) 0=a:=rfl
theorem kQ(a:Int)(l:List Int)(i:Nat):nth (a::l) (i+1)=nth l i:=by simp [nth]
theorem jS:∀(x:List Int) (i:Nat),nth (aP x) i=nth x i
 | [],i=>rfl
 | a::l,i=>by
  rw [aP]
  split
  ·rename_i h
   cases i with
   | zero=>rw [qA,tZ,h.2]
   | succ i=>rw [kQ,←jS l i,h.1,qA,qA]
  ·cases i with
   | zero=>rfl
   | succ i=>rw [kQ,kQ,jS l i]
theorem xJ(x y:List Int)(i:Nat):nth (i3 x y) i=nth x i+nth y i:=by
 rw [i3,jS]
 rcases Nat.lt_or_ge i (max x.length y.length)with h | h
 ·rw [cE (by simpa using h)];simp
 ·rw [i0 (by simpa using h),i0 (l:=x) (by omega),i0 (l:=y) (by omega)];rfl
theorem j9(c:Int)(x:List Int)(i:Nat):nth (x.map (· * c)) i=nth x i*c:=B7 (f:=fun v=>v*c) (Int.zero_mul c) x i
theorem UL(c:Int)(x:List Int)(i:Nat):nth (a9 x c) i=nth x i*c:=by rw [a9,jS];exact j9 c x i
theorem sX(k:Int)(x y:List Int):nth (bR (k::x) y) 0=nth y 0*k:=by
 rw [bR,jS,g9,xJ,tZ,j9,Int.add_zero]
theorem n7(k:Int)(x y:List Int)(i:Nat):nth (bR (k::x) y) (i+1)=nth y (i+1)*k+nth (bR x y) i:=by
 rw [bR,jS,g9,xJ,kQ,j9,bR,jS]
theorem zF(x y:List Int):bR x y=bR y x:=Cn.ext (Cn.bR _ _) (Cn.bR _ _) fun t=>by rw [dQ,dQ,Int.mul_comm]
def Dv(d:Nat)(x:List Int):Prop:=∀i,(d:Int)∣nth x i
theorem Dv.mem{d:Nat}{x:List Int}(h:Dv d x):∀c∈x,(d:Int)∣c:=fun c hc=>by
 obtain⟨i,hi,rfl⟩:=List.getElem_of_mem hc
 rw [←cE hi];exact h i
theorem Dv.of{d:Nat}{x:List Int}(h:∀c∈x,(d:Int)∣c):Dv d x:=fun i=>by
 rcases Nat.lt_or_ge i x.length with h1 | h1
 ·exact h _ (bJ h1)
 ·rw [i0 h1];exact Int.dvd_zero _
theorem Dv.cons{d:Nat}{k:Int}{x:List Int}(h1:(d:Int)∣k)(h2:Dv d x):Dv d (k::x):=fun i=>by
 cases i with
 | zero=>exact h1
 | succ i=>rw [kQ];exact h2 i
theorem Dv.nil(d:Nat):Dv d []:=fun i=>by rw [qA];exact Int.dvd_zero _
theorem Dv.trans{d e:Nat}{x:List Int}(h:e∣d)(h2:Dv d x):Dv e x:=fun i=>Int.dvd_trans (Int.ofNat_dvd.2 h) (h2 i)
theorem XW:∀(n d:Nat) (x y:List Int),d+x.length+y.length≤n→0<d→Dv d (bR x y)→(∀e:Nat,e∣d→Dv e y→e=1)→Dv d x
 | n,d,[],y,_,_,_,_=>Dv.nil d
 | n,d,k::x,[],_,_,_,h=>by
  have:=h d (Nat.dvd_refl d) (Dv.nil d)
  subst this
  exact fun i=>Int.one_dvd _
 | 0,d,k::x,l::y,hn,_,_,_=>by simp at hn
 | n+1,d,k::x,l::y,hn,hd,hp,h=>by
  simp only [List.length_cons]at hn
  have h0:=hp 0
  rw [sX,tZ]at h0
  obtain⟨g,hg⟩:∃g,g=Nat.gcd d l.natAbs:=⟨_,rfl⟩
  have gd:g∣d:=by rw [hg];exact Nat.gcd_dvd_left _ _
  have gl:(g:Int)∣l:=by rw [hg];exact Int.ofNat_dvd_left.2 (Nat.gcd_dvd_right _ _)
  have g0:0<g:=Nat.pos_of_dvd_of_pos gd hd
  have gle:g≤d:=Nat.le_of_dvd hd gd
  by_cases g1:g=1
  ·have hk:(d:Int)∣k:=by
    have h1:d∣(l*k).natAbs:=Int.ofNat_dvd_left.1 h0
    rw [Int.natAbs_mul]at h1
    exact Int.ofNat_dvd_left.2 (Nat.Coprime.dvd_of_dvd_mul_left (show Nat.gcd d l.natAbs=1 by omega) h1)
   refine Dv.cons hk (XW n d x (l::y) (by simp only [List.length_cons];omega) hd (fun i=>?_) h)
   have h1:=hp (i+1)
   rw [n7]at h1
   exact(Int.dvd_add_right (Int.dvd_trans hk (Int.dvd_mul_left _ _))).1 h1
  ·have hgx:Dv g (k::x):=by
    refine XW n g (k::x) y (by simp only [List.length_cons];omega) g0 (fun i=>?_) (fun e he hy=>h e (Nat.dvd_trans he gd) (Dv.cons (Int.dvd_trans (Int.ofNat_dvd.2 he) gl) hy))
    have h1:=Dv.trans gd hp (i+1)
    rw [zF,n7,zF y]at h1
    exact(Int.dvd_add_right (Int.dvd_trans gl (Int.dvd_mul_left _ _))).1 h1
   obtain⟨d',rfl⟩:=gd
   have hd':0<d':=Nat.pos_of_mul_pos_left hd
   have dC:d'<g*d':=by
    have:2*d'≤g*d':=Nat.mul_le_mul_right _ (by omega)
    omega
   obtain⟨x',HJ⟩:∃x':List Int,x'=(k::x).map (· / (g:Int)):=⟨_,rfl⟩
   have hxe:x'.map (· * (g:Int))=k::x:=by
    rw [HJ,List.map_map]
    refine(List.map_congr_left fun v hv=>?_).trans (List.map_id _)
    exact Int.ediv_mul_cancel (hgx.mem v hv)
   have hxl:x'.length=x.length+1:=by rw [HJ];simp
   have hpe:bR (k::x) (l::y)=a9 (bR x' (l::y)) g:=Cn.ext (Cn.bR _ _) (Cn.a9 _ _) fun t=>by
    have:=iL (t:=t) (g:Int) id x'
    simp only [id_eq,List.map_id_fun]at this
    rw [cU,dQ,dQ,←hxe,this];grind
   have ih:=XW n d' x' (l::y) (by simp only [List.length_cons];omega) hd' (fun i=>by
    have h1:=hp i
    rw [hpe,UL,Int.natCast_mul,Int.mul_comm]at h1
    exact Int.dvd_of_mul_dvd_mul_right (by omega) h1) (fun e he=>h e (Nat.dvd_trans he (Nat.dvd_mul_left _ _)))
   rw [←hxe]
   intro i
   rw [j9,Int.natCast_mul,Int.mul_comm]
   exact Int.mul_dvd_mul (ih i) (Int.dvd_refl _)
termination_by n _ x y=>n
end Pm
namespace Pm
open Go Go.RowKit Go.ChangeShapes Go.WideShapes Go.Deep
def Low(w:World):eG:=fun b _=>b<w.heap.size
theorem O9{w:World}{a:Addr}{v:Value}(h:w.cell? a=some v):a.block<w.heap.size∧a.spot=none:=by
 unfold World.cell? at h
 split at h
 ·rename_i hb
  refine⟨?_,?_⟩
  ·exact(Array.getElem?_eq_some_iff.1 hb).1
  ·split at h
   ·cases h
   ·rename_i hs;simpa using hs
 ·cases h
def H6(P:Program)(t:TypeId)(R:List PV→Prop):Prop:=
 ∀(H:Type) (enc:TypeId × Value→H) (w:World) (fuel:Nat) (cs:List Value) (x:DataW H × List MemPlace),
  DataW.trod enc P w 0 (fun _=>true) true fuel t cs=some x → ∃ps,R ps∧bP (Low w) w ps cs ∧ ∀v∈cs,v.oneCell'=true
theorem bP.length{S:eG}{w:World}:∀ {ps:List PV} {vs:List Value},bP S w ps vs→ps.length=vs.length
 | [],vs,h=>by simp only [bP]at h;simp [h]
 | p::ps,vs,h=>by
  simp only [bP]at h
  obtain⟨v,F5,rfl,_,h2⟩:=h
  simp [bP.length h2]
theorem H6.int{P:Program}{t:TypeId}(k:IntKind)(ht:P.underlying t=some (.int k)):H6 P t (fun ps=>∃n,ps = [.int k n]∧k.min≤n∧n≤k.max):=by
 intro H enc w fuel cs x h
 obtain⟨n,rfl,_,hw⟩:=DataW.trod_int ht h
 simp only [Lit.wf,Bool.and_eq_true,decide_eq_true_eq]at hw
 exact⟨[.int k n],⟨n,rfl,hw⟩,⟨_,_,rfl,by simp [dK],rfl⟩,by simp [Value.oneCell']⟩
theorem H6.bool{P:Program}{t:TypeId}(ht:P.underlying t=some .bool):H6 P t (fun ps=>∃b,ps = [.bool b]):=by
 intro H enc w fuel cs x h
 obtain⟨n,rfl,_⟩:=DataW.trod_bool ht h
 exact⟨[.bool n],⟨n,rfl⟩,⟨_,_,rfl,by simp [dK],rfl⟩,by simp [Value.oneCell']⟩
theorem xK{w:World}{b:Nat}:∀ {ps:List PV} {vs:List Value} {o:Nat},bP (Low w) w ps vs→(∀v∈vs,v.oneCell'=true)→(∀i,i<vs.length→w.cell? ⟨b,o+i,none⟩=vs[i]?)→dN (Low w) w b o ps
 | [],_,_,_,_,_=>by simp [dN]
 | p::ps,vs,o,h,h1,h2=>by
  simp only [bP]at h
  obtain⟨v,F5,rfl,h3,h4⟩:=h
  have hc:w.cell? ⟨b,o,none⟩=some v:=by simpa using h2 0 (by simp)
  simp only [dN]
  refine⟨⟨v,hc,(O9 hc).1,h1 v (by simp),h3⟩,xK h4 (fun u hu=>h1 u (by simp [hu])) fun i hi=>?_⟩
  have:=h2 (i+1) (by simpa using hi)
  simpa [Nat.add_assoc,Nat.add_comm 1]using this
theorem EB{w:World}{b c:Nat}{f:Nat→List PV}:∀(n o k:Nat),(∀i,k≤i→i<k+n→dN (Low w) w b (o+(i-k)*c) (f i)∧(f i).length=c)→gF (Low w) w b o ((List.range' k n).map f)
 | 0,o,k,_=>by simp [gF]
 | n+1,o,k,h=>by
  obtain⟨h1,h2⟩:=h k (Nat.le_refl _) (by omega)
  simp only [List.range'_succ,List.map_cons,gF]
  refine⟨by simpa using h1,EB (c:=c) n _ _ fun i hi hi2=>?_⟩
  obtain⟨h3,h4⟩:=h i (by omega) (by omega)
  refine⟨?_,h4⟩
  rw [h2]
  have e:o+c+(i-(k+1))*c=o+(i-k)*c:=by
   have:i-k=(i-(k+1))+1:=by omega
   rw [this,Nat.add_mul];omega
  rw [e];exact h3
theorem H6.slice{P:Program}{t e:TypeId}{R:List PV→Prop}(ht:P.underlying t=some (.slice e))(zG:0<P.cellsOf e)(he:H6 P e R):H6 P t (fun ps=>∃l:List (List PV),ps = [.sl l]∧(∀x∈l,R x)∧l.length≤maxLen):=by
 intro H enc w fuel cs x h
 rcases open_slice ht h with ⟨rfl,_⟩ | ⟨a,len,cap,m,n,D,Pl,rfl,_,hl,hm,hmm,_,hx⟩
 ·refine⟨[.sl []],⟨[],rfl,by simp,by simp⟩,⟨_,_,rfl,?_,rfl⟩,by simp [Value.oneCell']⟩
  simp only [dK]
  exact⟨none,0,rfl,by simp,by simp, .inl trivial⟩
 ·have hlm:len≤m:=by rw [hmm];split<;>omega
  have each:∀i,i<len → ∃ps:List PV,R ps∧ps.length=P.cellsOf e ∧ ∃cs',w.cells? 0 (a.add (i*P.cellsOf e)) (P.cellsOf e)=some cs'∧bP (Low w) w ps cs' ∧ ∀v∈cs',v.oneCell'=true:=by
   intro i hi
   obtain⟨cs',h1,h2⟩:=hx i (by omega)
   obtain⟨ps,h3,h4,h5⟩:=he H enc w _ _ _ h2
   refine⟨ps,h3,?_,cs',h1,h4,h5⟩
   rw [h4.length];exact(World.cells?_some h1).2.1
  obtain⟨f,hf⟩:=choose_lt each
  refine⟨[.sl ((List.range' 0 len).map f)],⟨_,rfl,?_,by simp;omega⟩,⟨_,_,rfl,?_,rfl⟩,by simp [Value.oneCell']⟩
  ·intro y hy
   simp only [List.mem_map,List.mem_range'_1]at hy
   obtain⟨i,hi,rfl⟩:=hy
   exact(hf i (by omega)).1
  ·simp only [dK]
   refine⟨some a,cap,by simp,by simpa using hl,hm,?_⟩
   by_cases h0:len=0
   ·left;simp [h0]
   right
   have hsp:a.spot=none:=by
    obtain⟨_,_,cs',h3,_,_⟩:=hf 0 (by omega)
    obtain⟨_,h4,h5⟩:=World.cells?_some h3
    have h6:=h5 0 (by omega)
    rw [List.getElem?_eq_getElem (by omega)]at h6
    have h7:=(O9 h6).2
    simpa [Addr.add]using h7
   obtain⟨b,o,sp⟩:=a
   simp only at hsp
   subst hsp
   refine⟨b,o,rfl,EB (c:=P.cellsOf e) len o 0 fun i _ hi=>?_⟩
   obtain⟨_,h2,cs',h3,h4,h5⟩:=hf i (by omega)
   obtain⟨_,h6,h7⟩:=World.cells?_some h3
   refine⟨xK h4 h5 fun j hj=>?_,h2⟩
   rw [←h7 j (by omega),add_plain,add_plain]
   simp
theorem H6.mono{P:Program}{t:TypeId}{R R':List PV→Prop}(h:H6 P t R)(hR:∀ps,R ps→R' ps):H6 P t R':=fun H enc w fuel cs x hx=>by
 obtain⟨ps,h1,h2⟩:=h H enc w fuel cs x hx
 exact⟨ps,hR _ h1,h2⟩
def vS(P:Program)(t:TypeId)(Q:PV→Prop):Prop:=
 ∀(H:Type) (enc:TypeId × Value→H) (w:World) (base:Nat) (v:Value) (d:DataW H) (p:List MemPlace),
  Value.okWide P w .any base t v→DataW.Trod enc P w 0 (fun _=>true) true t v d p → ∃q,Q q∧dK (Low w) w q v
theorem H6.one{P:Program}{t:TypeId}{R:List PV→Prop}(h:H6 P t R)(hs:∀w base v,Value.okWide P w .any base t v→v.cells = #[v]):vS P t (fun q=>R [q]):=by
 intro H enc w base v d p fT ⟨fuel,hf⟩
 obtain⟨ps,h1,h2,_⟩:=h _ _ _ _ _ _ hf
 rw [hs _ _ _ fT]at h2
 have hl:=h2.length
 match ps,hl with
 | [q],_ =>
  simp only [bP]at h2
  obtain⟨v',F5,h3,h4,_⟩:=h2
  cases h3
  exact⟨q,h1,h4⟩
theorem vS.int{P:Program}{t:TypeId}(k:IntKind)(ht:P.underlying t=some (.int k)):vS P t (fun q=>∃n,q = .int k n∧k.min≤n∧n≤k.max):=by
 have:=(H6.int k ht).one fun w base v h=>by obtain⟨n,rfl⟩:=okWide_int ht h;rfl
 intro H enc w base v d p h1 h2
 obtain⟨q,⟨n,h3,h4⟩,h5⟩:=this H enc w base v d p h1 h2
 exact⟨q,⟨n,by simpa using h3,h4⟩,h5⟩
theorem vS.bool{P:Program}{t:TypeId}(ht:P.underlying t=some .bool):vS P t (fun q=>∃b,q = .bool b):=by
 have:=(H6.bool ht).one fun w base v h=>by obtain⟨n,rfl⟩:=okWide_bool ht h;rfl
 intro H enc w base v d p h1 h2
 obtain⟨q,⟨n,h3⟩,h5⟩:=this H enc w base v d p h1 h2
 exact⟨q,⟨n,by simpa using h3⟩,h5⟩
theorem vS.slice{P:Program}{t e:TypeId}{R:List PV→Prop}(ht:P.underlying t=some (.slice e))(zG:0<P.cellsOf e)(he:H6 P e R):vS P t (fun q=>∃l:List (List PV),q = .sl l∧(∀x∈l,R x)∧l.length≤maxLen):=by
 have:=(H6.slice ht zG he).one fun w base v h=>by obtain⟨a,len,cap,rfl⟩:=okWide_slice ht h;rfl
 intro H enc w base v d p h1 h2
 obtain⟨q,⟨n,h3,h4⟩,h5⟩:=this H enc w base v d p h1 h2
 exact⟨q,⟨n,by simpa using h3,h4⟩,h5⟩
theorem vS.mono{P:Program}{t:TypeId}{Q Q':PV→Prop}(h:vS P t Q)(hQ:∀q,Q q→Q' q):vS P t Q':=fun H enc w base v d p h1 h2=>by
 obtain⟨q,h3,h4⟩:=h H enc w base v d p h1 h2
 exact⟨q,hQ _ h3,h4⟩
def PA(P:Program):List TypeId→List (PV→Prop)→Prop
 | [],[]=>True
 | t::ts,Q::Qs=>vS P t Q∧P.readableRec t=true∧t<P.types.size∧PA P ts Qs
 | _,_=>False
def aoX:List (PV→Prop)→List PV→Prop
 | [],ps=>ps = []
 | Q::Qs,ps=>∃q qs,ps=q::qs∧Q q∧aoX Qs qs
theorem PC{P:Program}{H:Type}{enc:TypeId × Value→H}{w:World}{base:Nat}:∀ {ts:List TypeId} {Qs:List (PV→Prop)} {vs:List Value} {ds:List (DataW H)} {p:List MemPlace},PA P ts Qs →
  (∀(j:Nat) t v,ts[j]? = some t→vs[j]? = some v→Value.okWide P w .any base t v)→DataW.TrodAll enc P w 0 (fun _=>true) true ts vs ds p → ∃ps,aoX Qs ps∧bP (Low w) w ps vs
 | [],[],vs,ds,p,_,_,h=>by
  obtain⟨rfl,_⟩:=trodAll_nil h
  exact⟨[],rfl,rfl⟩
 | t::ts,Q::Qs,vs,ds,p,hA,fT,h=>by
  obtain⟨v,F5,d,ds',p1,q1,rfl,rfl,rfl,h1,h2⟩:=trodAll_cons h
  obtain⟨hO,_,_,hA'⟩:=hA
  obtain⟨q,h3,h4⟩:=hO _ _ _ base _ _ _ (fT 0 t v rfl rfl) h1
  obtain⟨ps,h5,h6⟩:=PC hA' (fun j t' v' hj hv=>fT (j+1) t' v' (by simpa using hj) (by simpa using hv)) h2
  exact⟨q::ps,⟨q,ps,rfl,h3,h5⟩,⟨v,F5,rfl,h4,h6⟩⟩
 | [],_::_,_,_,_,h,_,_=>by simp [PA]at h
 | _::_,[],_,_,_,h,_,_=>by simp [PA]at h
theorem H7{P:Program}(hl:laidOutB P=true){H:Type}{enc:TypeId × Value→H}{w w':World}(hb:Below w.heap.size w w'):∀ {ts:List TypeId} {Qs:List (PV→Prop)} {vs:List Value} {ds:List (DataW H)} {p:List MemPlace},PA P ts Qs→(∀x∈p,x.block<w.heap.size) →
  DataW.TrodAll enc P w 0 (fun _=>true) true ts vs ds p→DataW.TrodAll enc P w' 0 (fun b=>decide (b<w.heap.size)) true ts vs ds p
 | [],[],vs,ds,p,_,_,h=>by
  obtain⟨rfl,rfl,rfl⟩:=trodAll_nil h
  exact trodAll_mk0
 | t::ts,Q::Qs,vs,ds,p,hA,dC,h=>by
  obtain⟨v,F5,d,ds',p1,q1,rfl,rfl,rfl,h1,h2⟩:=trodAll_cons h
  obtain⟨_,h3,h4,hA'⟩:=hA
  exact⟨p1,q1,Below.trod hl h3 h4 h1 hb (fun x hx=>dC x (by simp [hx])),H7 hl hb hA' (fun x hx=>dC x (by simp [hx])) h2,rfl⟩
 | [],_::_,_,_,_,h,_,_=>by simp [PA]at h
 | _::_,[],_,_,_,h,_,_=>by simp [PA]at h
theorem aen{C:Checked}{f:FuncId}{fn:Func}{s:ChangeSpec}{Qs:List (PV→Prop)}{os:Os}{H:Type}{enc:TypeId × Value→H}{tb:TypeId}
  (own:ownKnob C.prog.godebug=none) (hl:laidOutB C.prog=true) (started:os.Started) (aoY:C.prog.inits.idxOf? f=none) (hfn:C.prog.funcs[f]? = some fn)
  (witness:∃(w:World) (tape:Tape) (i:Input),w.os=os∧(w.forCall tape i).Shaped C.prog∧i.vars = []∧Input.okWide C.prog (w.forCall tape i) .any w.heap.size f i ∧
   s.pre6 enc C.prog fn [] false (w.forCall tape i).memory i.args∧({}:Assume).holds C.prog (lone (Frame.enter C.prog f i.args .normal) [] (w.forCall tape i)))
  (hv:s.vars = []) (hs:∀ds:List (DataW H),ds.length=fn.params.size→s.fn H ds = { results:=[.lit (.bool true)],args:=ds })
  (EC:fn.resultTypes = #[tb]) (htb:C.prog.underlying tb=some .bool)
  (hA:PA C.prog fn.params.toList Qs) (h:∀ps,aoX Qs ps→aE C.prog f ps (.bool true)) :
  ReturnsInHanded {} C os f .any (s.pre6 enc C.prog fn [] false) (s.post enc C.prog fn false true false false):=by
 refine returnsInHanded_of_change own started aoY hfn witness ?_
 intro W base args ds gs before aAR hW _ _
 have hW':=hW
 obtain⟨p,q,hT,hV,rfl,_,_⟩:=hW
 rw [hv]at hV
 obtain⟨rfl,rfl⟩:=trodVars_none hV
 obtain⟨ps,h1,h2⟩:=PC (base:=base) hA (fun j t v hj hv=>aAR j t v (by simpa using hj) (by simpa using hv)) hT
 obtain⟨_,nE⟩:=h ps h1
 have h3:=nE W (Low W) args.toList (fun b o hb=>hb) h2
 refine Calls.mono h3 fun e w' hw=>?_
 obtain⟨v,rfl,aai,S',_,_,fU⟩:=hw
 simp only [dK]at fU
 subst fU
 refine⟨_,rfl,?_⟩
 have hlen:ds.length=fn.params.size:=by
  have:∀ {ts:List TypeId} {vs:List Value} {ds:List (DataW H)} {p:List MemPlace},DataW.TrodAll enc C.prog W 0 (fun _=>true) true ts vs ds p→ds.length=ts.length:=by
   intro ts
   induction ts with
   | nil=>intro vs ds p h;obtain⟨_,rfl,_⟩:=trodAll_nil h;rfl
   | cons t ts ih =>
    intro vs ds p h
    obtain⟨v,F5,d,ds',p1,q1,rfl,rfl,rfl,h1,h2⟩:=trodAll_cons h
    simp [ih h2]
  rw [this hT];simp
 have dC:∀x∈p,x.block<W.heap.size:=fun x hx=>hW'.lt x (by simpa using hx)
 have hold:∀x∈p,(fun b=>decide (b<W.heap.size)) x.block=true:=fun x hx=>by simpa using dC x hx
 have aoZ:s.fn H (ds ++ []) = { results:=[.lit (.bool true)],args:=ds }:=by rw [List.append_nil,hs ds hlen]
 refine⟨ds,[],p ++ [],[],p,[],hW',?_,?_,?_,World.keptBut_mono (fun x hx=>⟨hx, .inr (.inl (by simpa using hx))⟩) (aai.frame (· ∈ p ++ [])),?_⟩
 ·rw [aoZ,EC]
  exact trodAll_mk1 (shut_bool htb true)
 ·rw [aoZ]
  exact H7 hl aai hA dC hT
 ·rw [aoZ,hv];rfl
 ·intro h0;cases h0
end Pm
namespace Pm
open Go Go.RowKit
section
variable {E:Env} {w0:World} {S0:eG} {c:Cx}
theorem AY(hI:Inv w0 S0 c){clk:Nat}{fn:Func}{a:Act}{f:Nat→PV}(hf:∀s,aI c (f s) (a.tmps.getD s undef)){K:List PV→Prop}(hp:n4 E ⟨f,c.rows,clk⟩ fn.results.toList K) :
  ∃vs us,K vs∧bF (aI c) vs us∧(results fn a.tmps).run E.P c.w = .ok (if h:us.toArray.size=1 then us.toArray[0]else .tuple us.toArray) c.w:=by
 have key:∀g:ResultVar→Sem Value,(∀t,g (.tmp t)=pure (a.tmps.getD t undef))→(∀x t,g (.cell x t)=do loadVar t (←asAddr (a.tmps.getD x undef))) →
   ∃vs us,K vs∧bF (aI c) vs us∧(do let vs ←fn.results.mapM g;pure (if h:vs.size=1 then vs[0]else .tuple vs):Sem Value).run E.P c.w = .ok (if h:us.toArray.size=1 then us.toArray[0]else .tuple us.toArray) c.w:=by
  intro g hg1 pT
  obtain⟨vs,us,g1,g4,g5⟩:=tT hI hf hg1 pT _ _ hp
  refine⟨vs,us,g1,g4,?_⟩
  have:(fn.results.mapM g).run E.P c.w = .ok us.toArray c.w:=by
   rw [Array.mapM_eq_mapM_toList]
   simp [g5]
  rw [Sem.run_bind,this,Result.andThen_ok,Sem.run_pure]
 unfold results
 exact key _ (fun _=>rfl) (fun _ _=>rfl)
theorem ED(hI:Inv w0 S0 c){fn:Func}{t:Tmp}(EC:fn.results.toList = [.tmp t]){a:Act}{f:Nat→PV}(hf:∀s,aI c (f s) (a.tmps.getD s undef)) :
  ∃u,aI c (f t) u∧(results fn a.tmps).run E.P c.w = .ok u c.w:=by
 obtain⟨vs,us,h1,h2,h3⟩:=AY (E:=E) (K:=fun vs=>vs = [f t]) (clk:=0) hI (fn:=fn) hf (by rw [EC];rfl)
 subst h1
 match us,h2 with
 | [u],h2=>exact⟨u,h2.1,by simpa using h3⟩
 | [],h2=>exact h2.elim
 | _::_::_,h2=>exact h2.2.elim
def alQ(t:Tmp)(R:PV→Rows→Nat→Prop):PX→PS→Prop
 | .normal,σ=>R (σ.f t) σ.rows σ.clock
 | .ret,σ=>R (σ.f t) σ.rows σ.clock
 | .exit _,_=>False
def UM(args:List PV)(rows:Rows)(clk:Nat):PS:=⟨fun s=>args.getD s .undef,rows,clk⟩
theorem EE{args:List PV}{vs:List Value}{m:Nat}(h:bF (aI c) args vs)(s:Nat):aI c (args.getD s .undef) ((vs.toArray++Array.replicate m undef).getD s undef):=by
 have NQ:=h.length
 by_cases hs:s<args.length
 ·obtain⟨u,hu,hr⟩:=h.get (List.getElem?_eq_getElem hs)
  have e1:args.getD s .undef=args[s]:=by simp [List.getD,List.getElem?_eq_getElem hs]
  have e2:(vs.toArray++Array.replicate m undef).getD s undef=u:=by
   have:s<vs.length:=by omega
   simp [this]at hu ⊢
   simp [Array.getElem?_append,this,hu]
  rw [e1,e2];exact hr
 ·have e1:args.getD s .undef = .undef:=by simp [List.getD,List.getElem?_eq_none (show args.length≤s by omega)]
  rw [e1]
  simp [aI,aM]
theorem aaZ{AQ:FuncId}{fn:Func}{code:Code}(tl:Nat→Nat){args:List PV}{rows:Rows}{clk:Nat}{R:PV→Rows→Nat→Prop}{t:Tmp}(h1:E.P.funcs[AQ]? = some fn)(h2:fn.body=some code) (h3:(fn.name == "runtime.NumGoroutine") = false)
  (fT:fF E fn.ntmps tl code=true) (fB:args.length≤fn.ntmps) (EC:fn.results.toList = [.tmp t]) (h:W E fn.ntmps tl code (alQ t R) (UM args rows clk)):NS E.P AQ args rows clk R:=by
 refine⟨⟨fn,code,h1,h2,h3⟩,fun w0 S0 c vs G hI hr gE fU hG=>?_⟩
 refine calls_of_wp h1 h2 ?_
 have NQ:=fU.length
 have J9:Rel w0 S0 fn.ntmps G (UM args rows clk) { tmps:=vs.toArray++Array.replicate (fn.ntmps-vs.toArray.size) undef,defers:=[] } c.w:=
  ⟨⟨c,rfl,hr,gE,hI,fun s=>EE fU s,hG⟩,by simp;omega,rfl⟩
 refine h fT w0 S0 G _ _ _ J9 ?_
 have fin:∀σ' a' w',R (σ'.f t) σ'.rows σ'.clock→Rel w0 S0 fn.ntmps G σ' a' w'→a'.defers = [] ∧ ∃v,(results fn a'.tmps).run E.P w' = .ok v w' ∧
   ∃v' c' r iM,Ending.returned v = .returned v'∧c'.w=w'∧Inv w0 S0 c'∧(∀p∈G,aI c' p.1 p.2)∧R r c'.rows iM∧(∀v,c'.used v→v<iM)∧aI c' r v':=by
  rintro σ' a' w' hx ⟨⟨c',rfl,kZ,aak,qN,hf',W1⟩,hn,fR⟩
  obtain⟨u,hu,jJ⟩:=ED (E:=E) qN EC hf'
  exact⟨fR,u,jJ,u,c',_,σ'.clock,rfl,rfl,qN,W1,by rw [kZ];exact hx,aak,hu⟩
 intro x σ' a' w' hx lZ
 cases x with
 | normal=>exact fin σ' a' w' hx lZ
 | ret=>exact fin σ' a' w' hx lZ
 | exit id=>exact hx.elim
def alR(t:Tmp)(e:TypeId)(n:Nat)(els:List (List PV)):PX→PS→Prop
 | .normal,σ=>∃id ver,σ.f t = .own id ver 0 els.length∧σ.rows id=some ⟨ver,e,n,els⟩ ∧ ∀x∈els,∀p∈x,bL p=true
 | .ret,σ=>∃id ver,σ.f t = .own id ver 0 els.length∧σ.rows id=some ⟨ver,e,n,els⟩ ∧ ∀x∈els,∀p∈x,bL p=true
 | .exit _,_=>False
theorem aa0{AQ:FuncId}{fn:Func}{code:Code}(tl:Nat→Nat){args:List PV}{e:TypeId}{n:Nat}{els:List (List PV)}{t:Tmp}(h1:E.P.funcs[AQ]? = some fn)(h2:fn.body=some code) (h3:(fn.name == "runtime.NumGoroutine") = false)
  (fT:fF E fn.ntmps tl code=true) (fB:args.length≤fn.ntmps) (EC:fn.results.toList = [.tmp t]) (h:W E fn.ntmps tl code (alR t e n els) (HQ args)):mT E.P AQ args e n els:=by
 refine⟨⟨fn,code,h1,h2,h3⟩,fun w S vs hS fU=>?_⟩
 refine calls_of_wp h1 h2 ?_
 have DG:=cS.1 fU
 have NQ:=DG.length
 let c0:Cx:=⟨S,w,fun _ => .slice none 0 0,fun _=>none,fun _=>False⟩
 have hI0:Inv w S c0:=⟨Below.refl _ _,fun _ _ h=>h,fun _ _ h => .inl h,hS,fun _ _ h=>by simp [c0]at h,fun _ _ h=>by simp [c0]at h,fun _ _ _ _ _ h=>by simp [c0]at h,⟨0,fun _ h=>h.elim⟩⟩
 have J9:Rel w S fn.ntmps Gs.none (HQ args) { tmps:=vs.toArray++Array.replicate (fn.ntmps-vs.toArray.size) undef,defers:=[] } w:=
  ⟨⟨c0,rfl,rfl,fun _ h=>h.elim,hI0,fun s=>EE (c:=c0) (DG.mono fun _ _ h=>aI.j0 h) s,fun p hp=>(Gs.NR hp).elim⟩,by simp;omega,rfl⟩
 refine h fT w S Gs.none _ _ _ J9 ?_
 have fin:∀(σ':PS) a' w',(∃id ver,σ'.f t = .own id ver 0 els.length∧σ'.rows id=some ⟨ver,e,n,els⟩ ∧ ∀x∈els,∀p∈x,bL p=true)→Rel w S fn.ntmps Gs.none σ' a' w'→a'.defers = [] ∧ ∃v,(results fn a'.tmps).run E.P w' = .ok v w' ∧
   ∃(v':Value) (xs:List Value) (S':eG),Ending.returned v = .returned v'∧Below w.heap.size w w'∧(∀b o,S b o→S' b o)∧(∀b o,S' b o→S b o∨(w.heap.size≤b∧b<w'.heap.size)) ∧
   w'.ownsRow w.heap.size e n v' els.length xs∧bF (dK S' w') els.flatten xs∧(∀y∈xs,y.oneCell'=true)∧(∀x∈els,x.length=n)∧0<n∧(∀g o,v'.ownBlock=some g→¬S' g o):=by
  rintro σ' a' w' ⟨id,ver,e1,e2,e3⟩ ⟨⟨c,rfl,hr,gE,hI,hf,_⟩,hn,fR⟩
  obtain⟨u,hu,jJ⟩:=ED (E:=E) hI EC hf
  rw [e1]at hu
  rw [←hr]at e2
  obtain⟨⟨xs,g1,g2,g3⟩,g4,g5,g6⟩:=hI.row id _ e2
  simp only [aI,aM]at hu
  obtain⟨_,hu⟩:=hu
  obtain⟨_,hu⟩:=hu _ e2 rfl
  have hub:u=c.β id:=by
   rcases hu with ⟨_,A,m,cap,h5,h6⟩ | ⟨h5,_⟩
   ·rcases g1.2 with ⟨h7,h8⟩ | ⟨g,j3,cur,h7,_⟩
    ·rw [h7]at h5;cases h5
     simp only at h8
     rw [h6,h7,h8]
    ·rw [h7]at h5;cases h5
     rw [h6,h7]
   ·omega
  refine⟨fR,u,jJ,u,xs,c.S,rfl,hI.below,hI.ext,hI.new,by rw [hub];exact g1,?_,g3,g4,g6,fun g o hg=>g5 g o (by rw [←hub];exact hg)⟩
  refine bF.cZ g2.length fun k p y hp hy=>?_
  obtain⟨y',y8,kZ⟩:=g2.get hp
  rw [hy]at y8;cases y8
  have pY:=List.mem_of_getElem? hp
  obtain⟨x,hx,hpx⟩:=List.mem_flatten.1 pY
  exact kZ.rep (e3 x hx p hpx)
 intro x σ' a' w' hx lZ
 cases x with
 | normal=>exact fin σ' a' w' hx lZ
 | ret=>exact fin σ' a' w' hx lZ
 | exit id=>exact hx.elim
theorem mT.ret{P:Program}{f:FuncId}{args:List PV}{e:TypeId}{n:Nat}{els:List (List PV)}(h:mT P f args e n els){fE:List PV}{rows:Rows}{clk:Nat}(d:Nat)(ha:fE.map (pz rows)=args)(vA:(fE.map (pz rows)).all dI=true)(hp:fC rows (fE.flatMap eB)) :
  NS P f fE rows clk (fun r rows' iM=>r = .own d clk 0 els.length∧rows'=eC (HL rows (fE.flatMap eB)) d (some ⟨clk,e,n,els⟩)∧iM=clk+1):=by
 obtain⟨h0,TH⟩:=h
 refine⟨h0,fun w0 S0 c vs G hI kV gE fB hG=>?_⟩
 subst kV
 generalize vL:fE.flatMap eB=ids at *
 have M8:=hI.freeze ids
 have dC:∀b o,TD c ids b o→b<c.w.heap.size:=fun b o hb=>M8.lt (c:=F6 c ids) hb
 have fU:bP (TD c ids) c.w args vs:=by
  rw [←ha]
  refine cS.2 (bF.cZ (by simp [fB.length]) fun k p u yT hu=>?_)
  simp at yT
  obtain⟨q,hq,rfl⟩:=yT
  obtain⟨u',g1,g2⟩:=fB.get hq
  rw [hu]at g1;cases g1
  exact JW hI hp g2 (fun id gL=>by rw [←vL];simp only [List.mem_flatMap];exact⟨q,List.mem_of_getElem? hq,gL⟩) (List.all_eq_true.1 vA _ (by simp;exact⟨q,List.mem_of_getElem? hq,rfl⟩))
 refine(TH c.w (TD c ids) vs dC fU).mono ?_
 rintro x w' ⟨v,xs,S',rfl,hb,g1,g2,g3,g4,g5,g6,g7,g8⟩
 obtain⟨hI2,hA2⟩:=M8.grow (c:=F6 c ids) hb g1 g2
 have hA1:=nK c ids
 obtain⟨hI3,hA3⟩:=hI2.set (w':=w') (ob:=v.ownBlock) (id:=d) (r':=⟨clk,e,n,els⟩) (v':=v) (xs:=xs) (World.grownBy.refl _ _)
  (fun g hg=>by
   have hge:=(g3.lt g hg).1
   refine⟨by have:=hI.below.size;omega,fun o=>g8 g o hg,fun jO r hr _ kY=>?_⟩
   obtain⟨⟨ys,q1,_,_⟩,_⟩:=M8.row jO r hr
   have:=(q1.lt g kY).2
   simp only [F6]at this
   omega) ⟨g3.1,g3.2.imp id fun⟨g,cap,cur,q1,q2,q3⟩=>⟨g,cap,cur,q1,Nat.le_trans hI.below.size q2,q3⟩⟩ (g4.mono fun _ _ h=>aM.j0 h) g5 g6 g7 (fun g hg => .inl hg) (fun hu=>Nat.lt_irrefl _ (gE _ hu))
 refine⟨v,_, .own d clk 0 els.length,clk+1,rfl,rfl,hI3,fun p yT=>?_,⟨rfl,rfl,rfl⟩,fun v hv=>?_,?_⟩
 ·exact aI.uZ hA3 _ _ (aI.uZ hA2 _ _ (aI.uZ hA1 _ _ (hG p yT)))
 ·rcases hv with hv | hv
  ·have:v=clk:=hv
   omega
  ·have:=gE v hv;omega
 ·rcases g3.2 with ⟨rfl,h8⟩ | ⟨g,j3,cur,rfl,_⟩
  ·have:els.length=0:=h8
   rw [this]
   exact mS (r:=⟨clk,e,n,els⟩) (A:=none) (cap:=0) (by simp [eC]) (by simpa using h8) (Or.inl rfl) (by simp [eC])
  ·exact mS (r:=⟨clk,e,n,els⟩) (by simp [eC]) rfl (Or.inl rfl) (by simp [eC])
end
theorem alS{P:Program}{g:FuncId}{fE:List PV}{rows:Rows}{clk:Nat}{K:PV→Rows→Nat→Prop}{args:List PV}{e:TypeId}{n:Nat}{els:List (List PV)}(h:mT P g args e n els)(d:Nat)(ha:fE.map (pz rows)=args)(vA:(fE.map (pz rows)).all dI=true)
  (hp:fC rows (fE.flatMap eB)) (hK:go (K (.own d clk 0 els.length) (eC (HL rows (fE.flatMap eB)) d (some ⟨clk,e,n,els⟩)) (clk+1))):w5 P g fE rows clk K:=
 ⟨_,h.ret d ha vA hp,by rintro r rows' iM ⟨rfl,rfl,rfl⟩;exact hK⟩
theorem qU{E:Env}{AQ:FuncId}{fn:Func}{code:Code}(tl:Nat→Nat){args:List PV}{e:TypeId}{n:Nat}{els:List (List PV)}{t:Tmp}(l:List (Nat × PV))(h1:E.P.funcs[AQ]? = some fn)(h2:fn.body=some code) (h3:(fn.name == "runtime.NumGoroutine") = false)
  (fT:fF E fn.ntmps tl code=true) (fB:args.length≤fn.ntmps) (EC:fn.results.toList = [.tmp t]) (hl:∀p∈l,args.getD p.1 .undef=p.2) (h:W E fn.ntmps tl code (alR t e n els) ⟨fa l,fun _=>none,0⟩):mT E.P AQ args e n els:=
 aa0 tl h1 h2 h3 fT fB EC (W.ghf l (by simpa using hl) h)
theorem UN{E:Env}{AQ:FuncId}{fn:Func}{code:Code}(tl:Nat→Nat){args:List PV}{rows:Rows}{clk:Nat}{R:PV→Rows→Nat→Prop}{t:Tmp}(l:List (Nat × PV))(h1:E.P.funcs[AQ]? = some fn)(h2:fn.body=some code) (h3:(fn.name == "runtime.NumGoroutine") = false)
  (fT:fF E fn.ntmps tl code=true) (fB:args.length≤fn.ntmps) (EC:fn.results.toList = [.tmp t]) (hl:∀p∈l,args.getD p.1 .undef=p.2) (h:W E fn.ntmps tl code (alQ t R) ⟨fa l,rows,clk⟩):NS E.P AQ args rows clk R:=
 aaZ tl h1 h2 h3 fT fB EC (W.ghf l (by simpa using hl) h)
def zH(t:TI)(rows:Rows)(x y:PV)(K:PV→Rows→Prop):Prop:=
 match t,x with
 | .slice _ n _ _, .own id ver off len=>∃r,rows id=some r∧r.ver=ver∧r.size=n∧off+len≤r.els.length ∧ ∃l,sG rows y l∧(∀e∈l,e.length=n) ∧
   K (.int .i64 (min l.length len)) (eC rows id (some { r with els:=r.els.take off++l.take len++r.els.drop (off+min l.length len) }))
 | _,_=>False
@[simp] theorem ay0{E:Env}{ops os:List Oper}{K:PS→Prop}{f:Nat→PV}{rows:Rows}{clk:Nat}{d:Option Tmp}{ty:TypeId}{pos:String}{af:Array Edge}{x y:Operand}{t t2:TypeId} :
  go (aO E ops (⟨d, .call { callee:=.builtin .copy,args:=⟨[x,y]⟩,argTypes:=⟨[t,t2]⟩ },ty,pos,af,none⟩::os) K ⟨f,rows,clk⟩)=zH (E.ty t) rows (aS f x) (aS f y) fun v rows=>aO E ops os K ⟨put f d v,rows,clk⟩:=by
 simp only [go,aO,fJ,ys,u7,zH]
 generalize E.ty t=T
 generalize aS f x=X
 apply propext
 constructor
 ·rintro⟨v,u,h,hK⟩
  split at h
  ·obtain⟨r,h1,h2,h3,h4,l,h5,h6,rfl,rfl⟩:=h
   exact⟨r,h1,h2,h3,h4,l,h5,h6,hK⟩
  ·exact h.elim
 ·intro h
  split at h
  ·obtain⟨r,h1,h2,h3,h4,l,h5,h6,hK⟩:=h
   exact⟨_,_,⟨r,h1,h2,h3,h4,l,h5,h6,rfl,rfl⟩,hK⟩
  ·exact h.elim
@[congr] theorem aiy{t t':TI}{rows rows':Rows}{x x' y y':PV}{K:PV→Rows→Prop}(h1:t=t')(h2:rows=rows')(h3:x=x')(h4:y=y'):zH t rows x y K=zH t' rows' x' y' K:=by rw [h1,h2,h3,h4]
theorem avf{e e':TypeId}{n b:Nat}{z:List PV}{rows:Rows}{id ver off len:Nat}{y:PV}{K:PV→Rows→Prop}{els l:List (List PV)}(hr:rows id=some ⟨ver,e',n,els⟩)(hl:off+len≤els.length)(hy:sG rows y l)(h1:∀e∈l,e.length=n)
  (hK:go (K (.int .i64 (min l.length len)) (eC rows id (some ⟨ver,e',n,els.take off++l.take len++els.drop (off+min l.length len)⟩)))):zH (.slice e n b z) rows (.own id ver off len) y K:=
 ⟨_,hr,rfl,rfl,hl,l,hy,h1,hK⟩
theorem avg{e e':TypeId}{b:Nat}{z:List PV}{rows:Rows}{id ver off len:Nat}{y:PV}{K:PV→Rows→Prop}{els l:List (List PV)}(hr:rows id=some ⟨ver,e',1,els⟩)(hl:off+len≤els.length)(h0:0<len)(hy:sG rows y l)(h1:∀e∈l,e.length=1)
  (hK:go (K (.int .i64 (min l.length len)) (eC rows id (some ⟨ver,e',1,els.take off++l.take len++els.drop (off+min l.length len)⟩)))):zH (.slice e 1 b z) rows (.own id ver off len) y K:=
 avf hr hl hy h1 hK
theorem bE{c B:Prop}(h:c)(hB:go B):aJ c B:=⟨h,hB⟩
def alT(E:Env)(rs:List ResultVar)(r:PV)(R:Rows→Prop):PX→PS→Prop
 | .normal,σ=>n4 E σ rs fun vs=>vs.all dI=true∧r=w9 vs∧R σ.rows
 | .ret,σ=>n4 E σ rs fun vs=>vs.all dI=true∧r=w9 vs∧R σ.rows
 | .exit _,_=>False
theorem iE{E:Env}{AQ:FuncId}{fn:Func}{code:Code}(tl:Nat→Nat){args:List PV}{e:TypeId}{n:Nat}{core eI:List PV}{r:PV}(l:List (Nat × PV))(h1:E.P.funcs[AQ]? = some fn)(h2:fn.body=some code) (h3:(fn.name == "runtime.NumGoroutine") = false)
  (fT:fF E fn.ntmps tl code=true) (fB:args.length+1≤fn.ntmps) (hl:∀q:PV,∀p∈(0,q)::l,(q::args).getD p.1 .undef=p.2)
  (h:∀id ver (rows:Rows) clk,rows (id+1000000)=some ⟨ver,e,n,[core]⟩→W E fn.ntmps tl code (alT E fn.results.toList r fun rows'=>rows' (id+1000000)=some ⟨ver,e,n,[eI]⟩ ∧ ∀j,j≠id→rows' (j+1000000)=rows (j+1000000)) ⟨fa ((0, .ptr (id+1000000) ver 0 0)::l),rows,clk⟩) :
  fY E.P AQ args e n core eI r:=by
 intro id0 ver rows clk gL kV j4
 obtain⟨id,rfl⟩:∃id,id0=id+1000000:=⟨id0-1000000,by have:pR=1000000:=rfl;omega⟩
 have hW:=W.ghf (E:=E) (n:=fn.ntmps) ((0, .ptr (id+1000000) ver 0 0)::l) (f:=fun s=>(PV.ptr (id+1000000) ver 0 0::args).getD s .undef) (hl (.ptr (id+1000000) ver 0 0)) (h id ver rows clk kV)
 refine⟨⟨fn,code,h1,h2,h3⟩,fun w0 S0 c vs G hI hr gE fU hG=>?_⟩
 refine calls_of_wp h1 h2 ?_
 have NQ:=fU.length
 have J9:Rel w0 S0 fn.ntmps G (UM (.ptr (id+1000000) ver 0 0::args) rows clk) { tmps:=vs.toArray++Array.replicate (fn.ntmps-vs.toArray.size) undef,defers:=[] } c.w:=
  ⟨⟨c,rfl,hr,gE,hI,fun s=>EE fU s,hG⟩,by simp at NQ ⊢;omega,rfl⟩
 refine hW fT w0 S0 G _ _ _ J9 ?_
 have fin:∀(σ':PS) a' w',(n4 E σ' fn.results.toList fun vs=>vs.all dI=true∧r=w9 vs∧σ'.rows (id+1000000)=some ⟨ver,e,n,[eI]⟩ ∧ ∀j,j≠id→σ'.rows (j+1000000)=rows (j+1000000))→Rel w0 S0 fn.ntmps G σ' a' w'→a'.defers = [] ∧ ∃v,(results fn a'.tmps).run E.P w' = .ok v w' ∧
   ∃v' c' r' iM,Ending.returned v = .returned v'∧c'.w=w'∧Inv w0 S0 c'∧(∀p∈G,aI c' p.1 p.2)∧(r'=r∧c'.rows (id+1000000)=some ⟨ver,e,n,[eI]⟩ ∧ ∀j,pR≤j→j≠id+1000000→c'.rows j=rows j)∧(∀v,c'.used v→v<iM)∧aI c' r' v':=by
  rintro σ' a' w' hx ⟨⟨c',rfl,kZ,aak,qN,hf',W1⟩,hn,fR⟩
  obtain⟨us,F5,⟨k1,k2,k3,k4⟩,k5,k6⟩:=AY (E:=E) (clk:=σ'.clock) qN (fn:=fn) hf' (by rw [kZ];exact hx)
  refine⟨fR,_,k6,_,c',r,σ'.clock,rfl,rfl,qN,W1,⟨rfl,by rw [kZ];exact k3,fun j hj m7=>?_⟩,aak,?_⟩
  ·obtain⟨m,rfl⟩:∃m,j=m+1000000:=⟨j-1000000,by have:pR=1000000:=rfl;omega⟩
   rw [kZ];exact k4 m (by omega)
  ·rw [k2]
   have key:us.length≠1→aI c' (.dX us) (.tuple F5.toArray):=fun _=>by
    simp only [aI,aM,dK]
    refine⟨F5,rfl,cS.2 (bF.cZ k5.length fun i a b ha hb=>?_)⟩
    obtain⟨b',kY,q⟩:=k5.get ha
    rw [hb]at kY;cases kY
    exact q.rep (List.all_eq_true.1 k1 a (List.mem_of_getElem? ha))
   match us,F5,k5 with
   | [],[],_=>simpa [w9]using key (by simp)
   | [p],[v],k5=>simpa [w9]using k5.1
   | p::q::us,v::u::F5,k5=>simpa [w9]using key (by simp)
 intro x σ' a' w' hx lZ
 cases x with
 | normal=>exact fin σ' a' w' hx lZ
 | ret=>exact fin σ' a' w' hx lZ
 | exit id=>exact hx.elim
end Pm
