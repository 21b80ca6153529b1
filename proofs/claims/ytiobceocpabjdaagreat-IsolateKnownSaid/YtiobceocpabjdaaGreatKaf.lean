import Derived.Test.YtiobceocpabjdaaGreatKad
set_option linter.unusedSimpArgs false
set_option linter.unusedVariables false
namespace Pm
def V(b:Int):List Int→Int
 | []=>0
 | x::l=>x+b*V b l
def b9(b:Int)(l:List Int):Prop:=∀x∈l,0≤x∧x<b
def HF(b:Nat):Nat→Nat→List Int
 | 0,_=>[]
 | f+1,n=>if n=0 then []else((n%b:Nat):Int)::HF b f (n/b)
def aY(b n:Nat):List Int:=HF b n n
def aM:List Int→List Int
 | []=>[]
 | x::l=>if aM l = []∧x=0 then []else x::aM l
theorem iP:∀l:List Int,aM (l ++ [0])=aM l
 | []=>by simp [aM]
 | x::l=>by simp [aM,iP l]
theorem gV{x:Int}(h:x≠0):∀l:List Int,aM (l ++ [x])=l ++ [x]
 | []=>by
  show aM [x] = [x]
  rw [aM,if_neg (fun hh=>h hh.2)];rfl
 | y::l=>by
  have ih:=gV h l
  have hn:¬(l ++ [x] = []∧y=0):=by simp
  show aM (y::(l ++ [x]))=y::(l ++ [x])
  rw [aM,ih,if_neg hn]
theorem bN:∀l:List Int,(aM l).length≤l.length
 | []=>by simp [aM]
 | x::l=>by
  have:=bN l
  simp only [aM]
  split
  ·simp
  ·simpa using this
theorem bZ{α:Type}[Inhabited α]{l:List α}{i:Nat}(h:i<l.length):nth l i=l[i]:=by unfold nth;rw [List.getElem?_eq_getElem h];rfl
theorem fY{α:Type}[Inhabited α]{l:List α}{i:Nat}(h:l.length≤i):nth l i=default:=by unfold nth;rw [List.getElem?_eq_none h];rfl
theorem bA{α:Type}[Inhabited α]{l:List α}{i:Nat}(h:i<l.length):l.take (i+1)=l.take i ++ [nth l i]:=by
 rw [bZ h,List.take_succ_eq_append_getElem h]
theorem bR{α:Type}[Inhabited α]{l:List α}{i:Nat}(h:i<l.length):nth l i∈l:=by rw [bZ h];exact List.getElem_mem h
theorem dV{α:Type}[Inhabited α]{l:List α}{i:Nat}{x:α}(h:i<l.length):nth (l.set i x) i=x:=by rw [bZ (by simpa using h)];simp
theorem fD{α:Type}[Inhabited α]{l:List α}{i j:Nat}{x:α}(h:i≠j):nth (l.set i x) j=nth l j:=by unfold nth;rw [List.getElem?_set_ne h]
theorem eB{α:Type}[Inhabited α]{l:List α}{i:Nat}(h:i<l.length):l.drop i=nth l i::l.drop (i+1):=by rw [bZ h];exact List.drop_eq_getElem_cons h
theorem fZ{α:Type}{l:List α}{i k:Nat}{x:α}(h:k≤i):(l.set i x).take k=l.take k:=by
 rw [List.take_set];exact List.set_eq_of_length_le (by simp;omega)
section
variable {b:Int}
theorem b9.nil:b9 b []:=by simp [b9]
theorem b9.cons{x:Int}{l:List Int}:b9 b (x::l)↔(0≤x∧x<b)∧b9 b l:=by simp [b9]
theorem b9.append{a c:List Int}:b9 b (a++c)↔b9 b a∧b9 b c:=by
 simp only [b9,List.mem_append]
 constructor
 ·intro h;exact⟨fun x hx=>h x (.inl hx),fun x hx=>h x (.inr hx)⟩
 ·rintro⟨h1,h2⟩ x (hx | hx)
  ·exact h1 x hx
  ·exact h2 x hx
theorem b9.take{l:List Int}(h:b9 b l)(n:Nat):b9 b (l.take n):=fun x hx=>h x (List.mem_of_mem_take hx)
theorem b9.drop{l:List Int}(h:b9 b l)(n:Nat):b9 b (l.drop n):=fun x hx=>h x (List.mem_of_mem_drop hx)
theorem b9.nth{l:List Int}(h:b9 b l){i:Nat}(hi:i<l.length):0≤nth l i∧nth l i<b:=by
 rw [bZ hi];exact h _ (List.getElem_mem hi)
theorem b9.set{l:List Int}(h:b9 b l){i:Nat}{x:Int}(hx:0≤x∧x<b):b9 b (l.set i x):=fun y hy=>by
 rcases List.mem_or_eq_of_mem_set hy with h1 | h1
 ·exact h y h1
 ·rw [h1];exact hx
theorem b9.rep(hb:0<b)(n:Nat):b9 b (List.replicate n 0):=fun x hx=>by rw [(List.mem_replicate.1 hx).2];omega
theorem bF(hb:0<b):∀ {l:List Int},b9 b l→0≤V b l
 | [],_=>by simp [V]
 | x::l,h=>by
  have h1:=bF hb (b9.cons.1 h).2;have h2:=(b9.cons.1 h).1
  have h3:=Int.mul_nonneg (Int.le_of_lt hb) h1
  simp only [V];omega
theorem dK:∀(a c:List Int),V b (a++c)=V b a+b^a.length*V b c
 | [],c=>by simp [V]
 | x::a,c=>by simp only [List.cons_append,V,dK a c,List.length_cons,Int.pow_succ];grind
theorem lB{x:Int}:V b [x]=x:=by simp [V]
theorem nC(hb:0<b):∀ {l:List Int},b9 b l→V b l<b^l.length
 | [],_=>by simp [V]
 | x::l,h=>by
  have h1:=nC hb (b9.cons.1 h).2;have h2:=(b9.cons.1 h).1
  have h3:b*(V b l+1)≤b*b^l.length:=Int.mul_le_mul_of_nonneg_left (by omega) (by omega)
  rw [Int.mul_add]at h3
  simp only [V,List.length_cons,Int.pow_succ,Int.mul_comm _ b];omega
theorem aS{l:List Int}{i:Nat}(h:i<l.length):V b (l.take (i+1))=V b (l.take i)+b^i*nth l i:=by
 rw [bA h,dK,lB];simp [Nat.min_eq_left (Nat.le_of_lt h)]
theorem aV{l:List Int}{i:Nat}(h:l.length≤i):V b (l.take i)=V b l:=by rw [List.take_of_length_le h]
theorem eC{l:List Int}{i:Nat}{x:Int}(h:i<l.length):V b ((l.set i x).take (i+1))=V b (l.take i)+b^i*x:=by
 rw [aS (by simpa using h),fZ (Nat.le_refl _),dV h]
theorem B5{l:List Int}{i:Nat}{x:Int}(h:i<l.length):V b (l.set i x)=V b l+b^i*(x-nth l i):=by
 induction l generalizing i with
 | nil=>simp at h
 | cons y l ih =>
  cases i with
  | zero=>simp only [List.set_cons_zero,V,Int.pow_zero,nth,List.getElem?_cons_zero,Option.getD_some];omega
  | succ i =>
   have e:nth (y::l) (i+1)=nth l i:=by simp [nth]
   simp only [List.set_cons_succ,V,e,Int.pow_succ]
   rw [ih (by simpa using h)]
   grind
theorem nW:∀n:Nat,V b (List.replicate n 0)=0
 | 0=>rfl
 | n+1=>by simp [List.replicate_succ,V,nW n]
end
section
variable {b:Int}
theorem cE:∀l:List Int,V b (aM l)=V b l
 | []=>rfl
 | x::l=>by
  have ih:=cE l
  simp only [aM]
  split
  ·rename_i h
   rw [h.1]at ih
   simp only [V]at ih ⊢
   rw [←ih,h.2];simp
  ·simp [V,ih]
theorem dM{l:List Int}(h:b9 b l):b9 b (aM l):=by
 induction l with
 | nil=>exact h
 | cons x l ih =>
  obtain⟨h1,h2⟩:=b9.cons.1 h
  simp only [aM]
  split
  ·exact b9.nil
  ·exact b9.cons.2 ⟨h1,ih h2⟩
end
section
variable {b:Nat}
theorem OT(hb:2≤b):∀(f g n:Nat),n≤f→n≤g→HF b f n=HF b g n
 | 0,g,n,h,_=>by
  have:n=0:=by omega
  subst this
  cases g<;>simp [HF]
 | f+1,0,n,_,h=>by
  have:n=0:=by omega
  subst this
  simp [HF]
 | f+1,g+1,n,h1,h2=>by
  simp only [HF]
  by_cases hn:n=0
  ·simp [hn]
  ·simp only [hn,if_false]
   have:n/b<n:=Nat.div_lt_self (by omega) hb
   rw [OT hb f g _ (by omega) (by omega)]
theorem j0:aY b 0 = []:=rfl
theorem oQ(hb:2≤b){n:Nat}(h:n≠0):aY b n=((n%b:Nat):Int)::aY b (n/b):=by
 cases n with
 | zero=>exact absurd rfl h
 | succ n =>
  simp only [aY]
  rw [HF]
  simp only [h,if_false]
  have:(n+1)/b<n+1:=Nat.div_lt_self (by omega) hb
  rw [OT hb n _ _ (by omega) (Nat.le_refl _)]
theorem HG(hb:2≤b)(n:Nat):V b (aY b n)=n∧b9 b (aY b n):=by
 induction n using Nat.strongRecOn with
 | _ n ih =>
  by_cases h:n=0
  ·subst h;simp [j0,V,b9]
  ·rw [oQ hb h]
   obtain⟨h1,h2⟩:=ih (n/b) (Nat.div_lt_self (by omega) hb)
   have h3:=Nat.mod_lt n (show 0<b by omega)
   have h4:=Nat.mod_add_div n b
   simp only [V,h1,b9.cons]
   refine⟨by exact_mod_cast h4,⟨by omega,by omega⟩,h2⟩
theorem jH(hb:2≤b)(n:Nat):V b (aY b n)=n:=(HG hb n).1
theorem eT(hb:2≤b)(n:Nat):b9 b (aY b n):=(HG hb n).2
theorem dR(hb:2≤b){n:Nat}:aY b n = []↔n=0:=by
 constructor
 ·intro h;have:=jH hb n;rw [h]at this;simp [V]at this;omega
 ·rintro rfl;rfl
theorem oR(hb:2≤b):∀ {l:List Int},b9 b l→aM l=aY b (V b l).toNat
 | [],_=>rfl
 | x::l,h=>by
  obtain⟨h1,h2⟩:=b9.cons.1 h
  have ih:=oR hb h2
  have h3:=bF (by omega) h2
  simp only [aM,ih,dR hb,V]
  obtain⟨m,hm⟩:=Int.eq_ofNat_of_zero_le h3
  obtain⟨y,hy⟩:=Int.eq_ofNat_of_zero_le h1.1
  subst hy
  rw [hm]
  have e0:((y:Int)+b*m).toNat=y+b*m:=by
   rw [show((y:Int)+b*m)=((y+b*m:Nat):Int)by simp];exact Int.toNat_natCast _
  rw [e0,Int.toNat_natCast]
  by_cases hz:m=0∧y=0
  ·obtain⟨rfl,rfl⟩:=hz;simp [j0]
  ·rw [if_neg (by omega)]
   have hyb:y<b:=by omega
   have e1:(y+b*m)/b=m:=by rw [Nat.add_mul_div_left _ _ (by omega),Nat.div_eq_of_lt hyb];simp
   have e2:(y+b*m)%b=y:=by rw [Nat.add_mul_mod_self_left,Nat.mod_eq_of_lt hyb]
   have qF:y+b*m≠0:=by
    intro h0
    have h5:b*m=0:=by omega
    rcases Nat.mul_eq_zero.1 h5 with h6 | h6<;>omega
   rw [oQ hb qF,e1,e2]
theorem EA(hb:2≤b){n k:Nat}(h:n<b^k):(aY b n).length≤k:=by
 induction k generalizing n with
 | zero => have:n=0:=by simpa using h
           subst this;simp [j0]
 | succ k ih =>
  by_cases h0:n=0
  ·subst h0;simp [j0]
  ·rw [oQ hb h0]
   have:n/b<b^k:=by
    rw [Nat.pow_succ,Nat.mul_comm]at h
    exact Nat.div_lt_of_lt_mul h
   simpa using ih this
theorem lC(hb:2≤b)(n:Nat):aM (aY b n)=aY b n:=by rw [oR hb (eT hb n),jH hb];simp
end
section
variable {b:Int}
theorem i6(l:List Int)(i:Nat)(h:i≤l.length):V b l=V b (l.take i)+b^i*V b (l.drop i):=by
 conv=>lhs;rw [←List.take_append_drop i l]
 rw [dK];simp [Nat.min_eq_left h]
theorem yJ{l:List Int}{i:Nat}(h:i<l.length):V b l=V b (l.take i)+b^i*nth l i+b^(i+1)*V b (l.drop (i+1)):=by
 rw [i6 l (i+1) (by omega),aS h]
theorem lE(hb:0<b){x y:List Int}(lx:b9 b x)(ly:b9 b y)(hl:x.length=y.length){i:Nat}(hi:i<x.length)(hd:x.drop (i+1)=y.drop (i+1))(h:nth x i<nth y i):V b x<V b y:=by
 rw [yJ hi,yJ (l:=y) (i:=i) (by omega),hd]
 have h1:=nC hb (lx.take i)
 have h2:=bF hb (ly.take i)
 rw [List.length_take,Nat.min_eq_left (by omega)]at h1
 have h3:b^i*(nth x i+1)≤b^i*nth y i:=Int.mul_le_mul_of_nonneg_left (by omega) (Int.le_of_lt (Int.pow_pos hb))
 rw [Int.mul_add]at h3
 omega
theorem kQ(hb:1≤b):∀ {l:List Int},b9 b l→aM l=l→l ≠ []→b^(l.length-1)≤V b l
 | [],_,_,h=>absurd rfl h
 | [x],hl,hc,_=>by
  have h1:=(b9.cons.1 hl).1
  have h2:x≠0:=fun h=>by subst h;simp [aM]at hc
  simp [V];omega
 | x::y::l,hl,hc,_=>by
  have h1:=(b9.cons.1 hl).1
  have hc2:aM (y::l)=y::l:=by
   rw [aM]at hc
   split at hc
   ·cases hc
   ·exact(List.cons.inj hc).2
  have ih:=kQ hb (b9.cons.1 hl).2 hc2 (by simp)
  simp only [List.length_cons,Nat.add_sub_cancel]at ih ⊢
  rw [Int.pow_succ,V]
  have:=Int.mul_le_mul_of_nonneg_left ih (show 0≤b by omega)
  rw [Int.mul_comm b]at this
  omega
theorem dP:∀l:List Int,aM (aM l)=aM l
 | []=>rfl
 | x::l=>by
  have ih:=dP l
  rw [aM]
  split
  ·rfl
  ·rename_i h
   rw [aM,ih,if_neg h]
theorem iQ(hb:1≤b){x y:List Int}(lx:b9 b x)(ly:b9 b y)(hy:aM y=y)(h:x.length<y.length):V b x<V b y:=by
 have h1:=nC (by omega) lx
 have h2:=kQ hb ly hy (by intro h0;rw [h0]at h;simp at h)
 have h3:b^x.length≤b^(y.length-1):=by
  obtain⟨k,hk⟩:∃k,y.length-1=x.length+k:=⟨y.length-1-x.length,by omega⟩
  rw [hk,Int.pow_add]
  have:1≤b^k:=Int.pow_pos (by omega)
  have:=Int.mul_le_mul_of_nonneg_left this (show 0≤b^x.length from Int.le_of_lt (Int.pow_pos (by omega)))
  simpa using this
 omega
end
def dJ(x y:Int):Int:=if x<y then -1 else if y<x then 1 else 0
theorem lF{x y:Int}(h:x<y):dJ x y = -1:=by simp [dJ,h]
theorem lG{x y:Int}(h:y<x):dJ x y=1:=by simp [dJ,h];omega
theorem wU(x:Int):dJ x x=0:=by simp [dJ]
theorem mI{x y:Int}:dJ x y<0↔x<y:=by simp only [dJ];split<;>(try split)<;>omega
theorem oS{x y:Int}:0≤dJ x y↔y≤x:=by simp only [dJ];split<;>(try split)<;>omega
theorem uF{x y:Int}:dJ x y=0↔x=y:=by simp only [dJ];split<;>(try split)<;>omega
theorem sU{x y:Int}:0<dJ x y↔y<x:=by simp only [dJ];split<;>(try split)<;>omega
section
variable {b:Nat}
def sz(b:Nat)(x:Int):Nat:=(aY b x.natAbs).length
theorem lH(hb:2≤b)(x:Int):x.natAbs<b^sz b x:=by
 have h1:=nC (b:=(b:Int)) (by omega) (eT hb x.natAbs)
 rw [jH hb]at h1
 have h2:((b:Int)^(aY b x.natAbs).length)=((b^(aY b x.natAbs).length:Nat):Int):=by simp
 rw [h2]at h1
 unfold sz
 omega
theorem dN(hb:2≤b){x:Int}{k:Nat}(h:x.natAbs<b^k):sz b x≤k:=EA hb h
theorem sV(hb:2≤b){m n:Nat}(h:m≤n):b^m≤b^n:=Nat.pow_le_pow_right (by omega) h
theorem l6(hb:2≤b){x y:Int}{k:Nat}(hx:sz b x≤k)(hy:sz b y≤k):sz b (x+y)≤k+1:=by
 refine dN hb ?_
 have h1:=Nat.lt_of_lt_of_le (lH hb x) (sV hb hx)
 have h2:=Nat.lt_of_lt_of_le (lH hb y) (sV hb hy)
 rw [Nat.pow_succ]
 have h3:b^k*2≤b^k*b:=Nat.mul_le_mul_left _ hb
 omega
theorem b5(hb:2≤b){x y:Int}{k m:Nat}(hx:sz b x≤k)(hy:sz b y≤m):sz b (x*y)≤k+m:=by
 refine dN hb ?_
 have h1:=Nat.lt_of_lt_of_le (lH hb x) (sV hb hx)
 have h2:=Nat.lt_of_lt_of_le (lH hb y) (sV hb hy)
 rw [Int.natAbs_mul,Nat.pow_add]
 exact Nat.mul_lt_mul'' h1 h2
theorem nD(x:Int):sz b (-x)=sz b x:=by simp [sz]
theorem i7:sz b 0=0:=by simp [sz,j0]
theorem cS(hb:2≤b){x y:Int}(h:x.natAbs≤y.natAbs):sz b x≤sz b y:=dN hb (Nat.lt_of_le_of_lt h (lH hb y))
end
theorem bG{α:Type}{l:List α}{n:Nat}(h:l.length=n):l.take n=l:=List.take_of_length_le (by omega)
theorem kR{α:Type}{l m:List α}{i:Nat}{x:α}(h:l.take i=m)(hi:i<l.length):(l.set i x).take (i+1)=m ++ [x]:=by
 subst h
 rw [List.take_succ_eq_append_getElem (by simpa using hi),fZ (Nat.le_refl _)]
 simp
theorem l7{α β:Type}[Inhabited α]{l:List α}{f:α→β}{i:Nat}(h:i<l.length):(l.take (i+1)).map f=(l.take i).map f ++ [f (nth l i)]:=by
 rw [bA h];simp
theorem wV{α β:Type}[Inhabited α][Inhabited β]{f:α→β}(h:f default=default)(l:List α)(k:Nat):nth (l.map f) k=f (nth l k):=by
 unfold nth
 cases hk:l[k]? with
 | none=>simp [hk,h]
 | some x=>simp [hk]
theorem pR{t:Int}{α:Type}(f g:α→Int):∀l:List α,V t (l.map fun k=>f k+g k)=V t (l.map f)+V t (l.map g)
 | []=>by simp [V]
 | x::l=>by simp only [List.map_cons,V,pR f g l];grind
theorem fO{t:Int}{α:Type}(c:Int)(f:α→Int):∀l:List α,V t (l.map fun k=>f k*c)=V t (l.map f)*c
 | []=>by simp [V]
 | x::l=>by simp only [List.map_cons,V,fO c f l];grind
theorem mJ{x:List Int}{n:Nat}(h:x.length≤n):(List.range n).map (nth x)=x++List.replicate (n-x.length) 0:=by
 apply List.ext_getElem
 ·simp;omega
 ·intro i h1 h2
  simp at h1
  by_cases hi:i<x.length
  ·simp [List.getElem_append,hi,bZ hi]
  ·simp [List.getElem_append,hi];exact fY (by omega)
theorem iR{t:Int}{x:List Int}{n:Nat}(h:x.length≤n):V t ((List.range n).map (nth x))=V t x:=by
 rw [mJ h,dK,nW];simp
theorem uG{N a b:Int}{A B:Int→Int}(h:∀t,N<t→a+t*A t=b+t*B t):a=b ∧ ∀t,max N 0<t→A t=B t:=by
 have fN:a=b:=by
  have h1:=h (max N 0+(b-a).natAbs+1) (by omega)
  generalize hT:max N 0+(b-a).natAbs+1=T at *
  have h2:b-a=T*(A T-B T):=by rw [Int.mul_sub];omega
  have h3:T∣b-a:=⟨_,h2⟩
  have h4:=Nat.eq_zero_of_dvd_of_lt (Int.natAbs_dvd_natAbs.2 h3) (by omega)
  omega
 refine⟨fN,fun t ht=>?_⟩
 have h1:=h t (by omega)
 have h2:t*A t=t*B t:=by omega
 exact Int.eq_of_mul_eq_mul_left (by omega) h2
theorem nE:∀(x y:List Int) (N:Int),(∀t,N<t→V t x=V t y)→aM x=aM y
 | [],[],_,_=>rfl
 | [],b::y,N,h=>by
  obtain⟨h1,h2⟩:=uG (N:=N) (a:=0) (b:=b) (A:=fun _=>0) (B:=fun t=>V t y) (fun t ht=>by have:=h t ht;simp only [V]at this;omega)
  have:=nE [] y (max N 0) (fun t ht=>by have:=h2 t ht;simpa [V]using this)
  simp only [aM]at this ⊢
  rw [←this];simp [←h1]
 | a::x,[],N,h=>by
  obtain⟨h1,h2⟩:=uG (N:=N) (a:=a) (b:=0) (A:=fun t=>V t x) (B:=fun _=>0) (fun t ht=>by have:=h t ht;simp only [V]at this;omega)
  have:=nE x [] (max N 0) (fun t ht=>by have:=h2 t ht;simpa [V]using this)
  simp only [aM]at this ⊢
  rw [this];simp [h1]
 | a::x,b::y,N,h=>by
  obtain⟨h1,h2⟩:=uG (N:=N) (a:=a) (b:=b) (A:=fun t=>V t x) (B:=fun t=>V t y) (fun t ht=>h t ht)
  have:=nE x y (max N 0) h2
  simp only [aM]
  rw [this,h1]
theorem ah6{x y:List Int}(h:∀t,V t x=V t y):aM x=aM y:=nE x y 0 fun t _=>h t
def gB(x y:List Int):List Int:=aM ((List.range (max x.length y.length)).map fun k=>nth x k+nth y k)
def eE(x y:List Int):List Int:=aM ((List.range (max x.length y.length)).map fun k=>nth x k-nth y k)
def fK(x:List Int):List Int:=aM (x.map fun c => -c)
def aX(x:List Int)(c:Int):List Int:=aM (x.map fun a=>a*c)
def eZ:List Int→List Int→List Int
 | [],_=>[]
 | a::x,y=>gB (y.map fun c=>c*a) (0::eZ x y)
def bJ(x y:List Int):List Int:=aM (eZ x y)
theorem oT{t:Int}(x y:List Int):V t (gB x y)=V t x+V t y:=by
 rw [gB,cE,pR,iR (by omega),iR (by omega)]
theorem yK{t:Int}(x:List Int):V t (fK x) = - V t x:=by
 have:=fO (t:=t) (-1) id x
 rw [fK,cE]
 simp only [id_eq,Int.mul_neg,Int.mul_one,List.map_id_fun]at this
 exact this
theorem b8{t:Int}(x:List Int)(c:Int):V t (aX x c)=V t x*c:=by
 have:=fO (t:=t) c id x
 rw [aX,cE]
 simpa using this
theorem gO{t:Int}(x y:List Int):V t (eE x y)=V t x-V t y:=by
 rw [eE,cE]
 have h1:=pR (t:=t) (fun k=>nth x k-nth y k) (nth y) (List.range (max x.length y.length))
 have h2:(fun k=>nth x k-nth y k+nth y k)=nth x:=by funext k;omega
 rw [h2,iR (by omega),iR (by omega)]at h1
 omega
theorem OU{t:Int}:∀x y:List Int,V t (eZ x y)=V t x*V t y
 | [],y=>by simp [eZ,V]
 | a::x,y=>by
  have:=fO (t:=t) a id y
  simp only [id_eq,List.map_id_fun]at this
  rw [eZ,oT,this]
  simp only [V,OU x y]
  grind
theorem cQ{t:Int}(x y:List Int):V t (bJ x y)=V t x*V t y:=by rw [bJ,cE,OU]
def Cn(x:List Int):Prop:=aM x=x
theorem Cn.gB(x y:List Int):Cn (gB x y):=dP _
theorem Cn.eE(x y:List Int):Cn (eE x y):=dP _
theorem Cn.fK(x:List Int):Cn (fK x):=dP _
theorem Cn.aX(x:List Int)(c:Int):Cn (aX x c):=dP _
theorem Cn.bJ(x y:List Int):Cn (bJ x y):=dP _
theorem Cn.cut(x:List Int):Cn (aM x):=dP _
theorem Cn.nil:Cn []:=rfl
theorem Cn.ext{x y:List Int}(hx:Cn x)(hy:Cn y)(h:∀t,V t x=V t y):x=y:=by rw [←hx,←hy];exact ah6 h
structure Bd(b s n:Nat)(x:List Int):Prop where
 len:x.length≤n
 sz:∀c∈x,sz b c≤s
theorem oU:∀(x:List Int) (c:Int),c∈aM x→c∈x
 | [],c,h=>h
 | a::x,c,h=>by
  rw [aM]at h
  split at h
  ·cases h
  ·rcases List.mem_cons.1 h with h1 | h1
   ·simp [h1]
   ·exact List.mem_cons_of_mem _ (oU x c h1)
section
variable {b s s' n n':Nat} {x y:List Int}
theorem Bd.mono(h:Bd b s n x)(hs:s≤s')(hn:n≤n'):Bd b s' n' x:=⟨Nat.le_trans h.len hn,fun c hc=>Nat.le_trans (h.sz c hc) hs⟩
theorem Bd.cut(h:Bd b s n x):Bd b s n (aM x):=⟨Nat.le_trans (bN x) h.len,fun c hc=>h.sz c (oU x c hc)⟩
theorem Bd.nth(h:Bd b s n x)(i:Nat):Pm.sz b (nth x i)≤s:=by
 by_cases hi:i<x.length
 ·exact h.sz _ (bR hi)
 ·rw [fY (by omega)]
  show Pm.sz b 0≤s
  rw [i7];omega
theorem Bd.gB(hb:2≤b)(hx:Bd b s n x)(hy:Bd b s n y):Bd b (s+1) n (gB x y):=by
 refine Bd.cut ⟨by have:=hx.len;have:=hy.len;simp;omega,fun c hc=>?_⟩
 simp only [List.mem_map]at hc
 obtain⟨k,_,rfl⟩:=hc
 exact l6 hb (hx.nth k) (hy.nth k)
theorem Bd.eE(hb:2≤b)(hx:Bd b s n x)(hy:Bd b s n y):Bd b (s+1) n (eE x y):=by
 refine Bd.cut ⟨by have:=hx.len;have:=hy.len;simp;omega,fun c hc=>?_⟩
 simp only [List.mem_map]at hc
 obtain⟨k,_,rfl⟩:=hc
 rw [Int.sub_eq_add_neg]
 exact l6 hb (hx.nth k) (by rw [nD];exact hy.nth k)
theorem Bd.fK(hx:Bd b s n x):Bd b s n (fK x):=by
 refine Bd.cut ⟨by simpa using hx.len,fun c hc=>?_⟩
 simp only [List.mem_map]at hc
 obtain⟨k,hk,rfl⟩:=hc
 rw [nD];exact hx.sz k hk
theorem Bd.aX(hb:2≤b)(hx:Bd b s n x){c:Int}(hc:Pm.sz b c≤s'):Bd b (s+s') n (aX x c):=by
 refine Bd.cut ⟨by simpa using hx.len,fun d hd=>?_⟩
 simp only [List.mem_map]at hd
 obtain⟨k,hk,rfl⟩:=hd
 exact b5 hb (hx.sz k hk) hc
theorem Bd.eZ(hb:2≤b)(hy:Bd b s' n' y):∀ {x:List Int} {n:Nat},Bd b s n x→Bd b (s+s'+n) (n+n') (eZ x y)
 | [],n,_=>⟨by simp [Pm.eZ],by simp [Pm.eZ]⟩
 | a::x,0,h=>by have:=h.len;simp at this
 | a::x,n+1,h=>by
  have h1:Bd b s n x:=⟨by have:=h.len;simpa using this,fun c hc=>h.sz c (List.mem_cons_of_mem _ hc)⟩
  have h2:=Bd.eZ hb hy h1
  have h3:Bd b (s+s'+n) (n+1+n') (0::Pm.eZ x y):=⟨by have:=h2.len;simp;omega,fun c hc=>by
   rcases List.mem_cons.1 hc with h4 | h4
   ·rw [h4,i7];omega
   ·exact h2.sz c h4⟩
  have h4:Bd b (s+s'+n) (n+1+n') (y.map fun c=>c*a):=⟨by have:=hy.len;simp;omega,fun d hd=>by
   simp only [List.mem_map]at hd
   obtain⟨k,hk,rfl⟩:=hd
   have:=b5 hb (hy.sz k hk) (h.sz a (by simp))
   omega⟩
  have:=Bd.gB hb h4 h3
  rw [Pm.eZ]
  exact this.mono (by omega) (by omega)
theorem Bd.bJ(hb:2≤b)(hx:Bd b s n x)(hy:Bd b s' n' y):Bd b (s+s'+n) (n+n') (bJ x y):=(Bd.eZ hb hy hx).cut
end
def nb(n:Nat):Nat:=if n=0 then 0 else n.log2+1
theorem nX{n k:Nat}:nb n≤k↔n<2^k:=by
 unfold nb
 split
 ·rename_i h;subst h;simp;exact Nat.pow_pos (by decide)
 ·rename_i h;rw [←Nat.log2_lt h];omega
theorem HH{n k:Nat}(h:n/2^k≠0):nb n=k+nb (n/2^k):=by
 apply Nat.le_antisymm
 ·rw [nX,Nat.pow_add]
  have h1:n/2^k<2^nb (n/2^k):=nX.1 (Nat.le_refl _)
  have h2:=Nat.lt_mul_of_div_lt h1 (Nat.pow_pos (by decide))
  rw [Nat.mul_comm]at h2
  exact h2
 ·have h3:∀m,nb n≤m→k+nb (n/2^k)≤m:=by
   intro m hm
   rw [nX]at hm
   have hkm:k≤m:=by
    rcases Nat.lt_or_ge m k with h4 | h4
    ·exfalso;apply h;apply Nat.div_eq_of_lt;exact Nat.lt_of_lt_of_le hm (Nat.pow_le_pow_right (by decide) (by omega))
    ·exact h4
   have h5:nb (n/2^k)≤m-k:=by
    rw [nX]
    apply Nat.div_lt_of_lt_mul
    rw [←Nat.pow_add,show k+(m-k)=m by omega];exact hm
   omega
  exact h3 _ (Nat.le_refl _)
end Pm
namespace Pm
open Go
theorem W7{a b s:Nat}(h:2^s∣a)(hb:b<2^s):a ||| b=a+b:=by
 obtain⟨q,rfl⟩:=h
 exact(Nat.two_pow_add_eq_or_of_lt hb q).symm
theorem R4{a b s:Nat}(h:2^s∣a)(hb:b<2^s)(fN:a+b<4294967296):oD .u32 a b=((a+b:Nat):Int):=by
 have h1:((BitVec.ofInt 32 (a:Int)) ||| (BitVec.ofInt 32 (b:Int))).toNat=a+b:=by
  rw [BitVec.toNat_or,BitVec.toNat_ofInt,BitVec.toNat_ofInt,←W7 h hb]
  congr 1<;>omega
 show IntKind.u32.wrap (((BitVec.ofInt 32 (a:Int)) ||| (BitVec.ofInt 32 (b:Int))).toNat:Int)=_
 rw [h1]
 simp only [IntKind.wrap,IntKind.bits,IntKind.signed]
 simp
 omega
theorem R5{a b s:Nat}(h:2^s∣a)(hb:b<2^s)(fN:a+b<18446744073709551616):oD .u64 a b=((a+b:Nat):Int):=by
 have h1:((BitVec.ofInt 64 (a:Int)) ||| (BitVec.ofInt 64 (b:Int))).toNat=a+b:=by
  rw [BitVec.toNat_or,BitVec.toNat_ofInt,BitVec.toNat_ofInt,←W7 h hb]
  congr 1<;>omega
 show IntKind.u64.wrap (((BitVec.ofInt 64 (a:Int)) ||| (BitVec.ofInt 64 (b:Int))).toNat:Int)=_
 rw [h1]
 simp only [IntKind.wrap,IntKind.bits,IntKind.signed]
 simp
 omega
theorem yL(k:IntKind)(a b:Int):oD k a b=oD k b a:=by unfold oD;rw [BitVec.or_comm]
theorem acb{a b:Int}(s:Nat)(ha:0≤a)(hb0:0≤b)(h:(2^s:Int)∣a)(hb:b<2^s)(fN:a+b<4294967296):oD .u32 a b=a+b∧oD .u32 b a=a+b:=by
 obtain⟨x,rfl⟩:=Int.eq_ofNat_of_zero_le ha
 obtain⟨y,rfl⟩:=Int.eq_ofNat_of_zero_le hb0
 have h1:2^s∣x:=by exact_mod_cast h
 have h2:y<2^s:=by exact_mod_cast hb
 have:=R4 h1 h2 (by omega)
 rw [yL .u32 (y:Int)]
 refine⟨?_,?_⟩<;>rw [this]<;>simp
theorem wW{a b:Int}(s:Nat)(ha:0≤a)(hb0:0≤b)(h:(2^s:Int)∣a)(hb:b<2^s)(fN:a+b<18446744073709551616):oD .u64 a b=a+b∧oD .u64 b a=a+b:=by
 obtain⟨x,rfl⟩:=Int.eq_ofNat_of_zero_le ha
 obtain⟨y,rfl⟩:=Int.eq_ofNat_of_zero_le hb0
 have h1:2^s∣x:=by exact_mod_cast h
 have h2:y<2^s:=by exact_mod_cast hb
 have:=R5 h1 h2 (by omega)
 rw [yL .u64 (y:Int)]
 refine⟨?_,?_⟩<;>rw [this]<;>simp
end Pm
namespace Pm
structure KD(b W top next head x2 X Y:Int):Prop where
 b0:2≤b
 W0:1≤W
 t0:1≤top
 n0:0≤next
 h0:0≤head
 x0:0≤x2
 nb:next<b
 xb:x2<b
 Yl:(top*b+next)*W≤Y
 Yu:Y<(top*b+next+1)*W
 Xl:(head*b+x2)*W≤X
 Xu:X<(head*b+x2+1)*W
 lt:X<b*Y
section
variable {b W top next head x2 X Y:Int} (h:KD b W top next head x2 X Y)
include h
theorem KD.Y0:0<Y:=by
 have h1:1≤top*b+next:=by
  have:=Int.mul_le_mul_of_nonneg_right h.t0 (show 0≤b by have:=h.b0;omega)
  have:=h.n0;have:=h.b0;omega
 have:=Int.mul_le_mul h1 h.W0 (by decide) (by omega)
 have:=h.Yl;omega
theorem KD.first:X<(head/top+1)*Y:=by
 have h1:head+1≤(head/top+1)*top:=by
  have:=Int.lt_ediv_add_one_mul_self head (show 0<top by have:=h.t0;omega)
  omega
 have hg:0≤head/top+1:=by have:=Int.ediv_nonneg h.h0 (show 0≤top by have:=h.t0;omega);omega
 have hbW:0≤b*W:=Int.mul_nonneg (by have:=h.b0;omega) (by have:=h.W0;omega)
 have h2:=Int.mul_le_mul_of_nonneg_right h1 hbW
 have h3:(head*b+x2+1)*W≤(head+1)*(b*W):=by
  have:(head+1)*(b*W)=(head*b+b)*W:=by grind
  rw [this]
  exact Int.mul_le_mul_of_nonneg_right (by have:=h.xb;omega) (by have:=h.W0;omega)
 have h4:top*(b*W)≤Y:=by
  have:top*(b*W)≤(top*b+next)*W:=by
   have e:top*(b*W)=(top*b)*W:=by grind
   rw [e]
   exact Int.mul_le_mul_of_nonneg_right (by have:=h.n0;omega) (by have:=h.W0;omega)
  have:=h.Yl;omega
 have h5:(head/top+1)*top*(b*W)≤(head/top+1)*Y:=by
  rw [Int.mul_assoc];exact Int.mul_le_mul_of_nonneg_left h4 hg
 have:=h.Xu;omega
theorem KD.big{g:Int}(hg:b≤g):X<g*Y:=by
 have:=Int.mul_le_mul_of_nonneg_right hg (Int.le_of_lt h.Y0)
 have:=h.lt;omega
theorem KD.over{g r:Int}(hg:0≤g)(hr:g*top+r=head)(ho:r*b+x2<g*next):X<g*Y:=by
 have h1:head*b+x2+1≤g*(top*b+next):=by
  have:g*(top*b+next)=(g*top)*b+g*next:=by grind
  have h2:g*top=head-r:=by omega
  have h3:(head-r)*b=head*b-r*b:=by grind
  rw [this,h2,h3];omega
 have h2:=Int.mul_le_mul_of_nonneg_right h1 (show 0≤W by have:=h.W0;omega)
 have h3:=Int.mul_le_mul_of_nonneg_left h.Yl hg
 rw [←Int.mul_assoc]at h3
 have:=h.Xu;omega
theorem KD.A7{g r:Int}(hg:0≤g)(FW:g<b)(hr:g*top+r=head)(hn:g*next≤r*b+x2):g*Y<X+Y:=by
 have h1:g*(top*b+next)≤head*b+x2:=by
  have:g*(top*b+next)=(g*top)*b+g*next:=by grind
  have h2:g*top=head-r:=by omega
  have h3:(head-r)*b=head*b-r*b:=by grind
  rw [this,h2,h3];omega
 have h2:=Int.mul_le_mul_of_nonneg_right h1 (show 0≤W by have:=h.W0;omega)
 have h3:g*Y≤g*((top*b+next)*W)+g*W:=by
  have h4:Y≤(top*b+next)*W+W:=by have:=h.Yu;grind
  have:=Int.mul_le_mul_of_nonneg_left h4 hg
  rw [Int.mul_add]at this;exact this
 have h5:g*W<b*W:=Int.mul_lt_mul_of_pos_right FW (by have:=h.W0;omega)
 have h6:b*W≤Y:=by
  have h7:b*W≤(top*b+next)*W:=Int.mul_le_mul_of_nonneg_right (by
   have:=Int.mul_le_mul_of_nonneg_right h.t0 (show 0≤b by have:=h.b0;omega)
   have:=h.n0;omega) (by have:=h.W0;omega)
  have:=h.Yl;omega
 rw [←Int.mul_assoc]at h3
 have:=h.Xl;omega
theorem KD.an5{g r:Int}(hg:0≤g)(FW:g<b)(hr:b≤r):g*next≤r*b+x2:=by
 have h1:g*next≤b*b:=Int.mul_le_mul (by omega) (by have:=h.nb;omega) h.n0 (by have:=h.b0;omega)
 have h2:b*b≤r*b:=Int.mul_le_mul_of_nonneg_right hr (by have:=h.b0;omega)
 have:=h.x0;omega
theorem KD.W8{g r:Int}(hh:head≤top*b+b-1)(he:g*top+r=head)(hr:b≤r):g<b:=by
 rcases Int.lt_or_le g b with h1 | h1
 ·exact h1
 ·have:=Int.mul_le_mul_of_nonneg_right h1 (show 0≤top by have:=h.t0;omega)
  rw [Int.mul_comm b]at this
  omega
theorem KD.right{g:Int}(h1:X<(g+1)*Y)(h2:0≤X-g*Y):g=X/Y∧X-g*Y=X%Y:=by
 have hY:=h.Y0
 have h3:X/Y=g:=by
  have e:(g+1)*Y=g*Y+Y:=by grind
  rw [Int.ediv_eq_iff_of_pos hY]
  constructor
  ·omega
  ·omega
 refine⟨h3.symm,?_⟩
 have:=Int.emod_def X Y
 rw [h3,Int.mul_comm]at this
 omega
theorem KD.an6{g:Int}(h1:g*Y<X+Y)(h2:X-g*Y<0):g-1=X/Y∧X-g*Y+Y=X%Y:=by
 have hY:=h.Y0
 have e:(g-1)*Y=g*Y-Y:=by grind
 have e2:(g-1+1)*Y=g*Y:=by grind
 have:=h.right (g:=g-1) (by rw [e2];omega) (by rw [e];omega)
 rw [e]at this
 exact⟨this.1,by have:=this.2;omega⟩
end
theorem W9{d e x x':Int}(hd:0<d)(he:0<e)(R6:d*e=4294967296)(hx:0≤x∧x<4294967296)(QV:0≤x'∧x'<4294967296) :
  d*(((x+4294967296*x')/d)%4294967296)=x-x%d+4294967296*(x'%d)∧(0≤((x+4294967296*x')/d)%4294967296∧((x+4294967296*x')/d)%4294967296<4294967296):=by
 have h1:(x+4294967296*x')/d=x/d+e*x':=by
  have:x+4294967296*x'=x+d*(e*x'):=by rw [←R6];grind
  rw [this,Int.add_mul_ediv_left _ _ (by omega)]
 have h2:x/d<e:=Int.ediv_lt_of_lt_mul hd (by rw [Int.mul_comm,R6];exact hx.2)
 have h3:0≤x/d:=Int.ediv_nonneg hx.1 (by omega)
 have h4:e*x'=e*(x'%d)+4294967296*(x'/d):=by
  have:=Int.mul_ediv_add_emod x' d
  calc e*x'=e*(d*(x'/d)+x'%d):=by rw [this]
   _=e*(x'%d)+(d*e)*(x'/d):=by grind
   _=e*(x'%d)+4294967296*(x'/d):=by rw [R6]
 have h5:0≤x'%d:=Int.emod_nonneg _ (by omega)
 have h6:x'%d<d:=Int.emod_lt_of_pos _ hd
 have h7:e*(x'%d)+e≤4294967296:=by
  have:=Int.mul_le_mul_of_nonneg_left (show x'%d+1≤d by omega) (show 0≤e by omega)
  rw [Int.mul_add,Int.mul_comm e d,R6]at this;omega
 have h8:0≤e*(x'%d):=Int.mul_nonneg (by omega) h5
 have h9:((x+4294967296*x')/d)%4294967296=x/d+e*(x'%d):=by
  rw [h1,h4,←Int.add_assoc,Int.add_mul_emod_self_left,Int.emod_eq_of_lt (by omega) (by omega)]
 rw [h9]
 refine⟨?_,by omega,by omega⟩
 have h10:=Int.mul_ediv_add_emod x d
 have h11:d*(e*(x'%d))=4294967296*(x'%d):=by rw [←Int.mul_assoc,R6]
 rw [Int.mul_add,h11];omega
theorem an7{m:Nat}{D y:List Int}(hD:m+3≤D.length)(hy:y.length=m+2)(lD:b9 4294967296 D)(ly:b9 4294967296 y)(ht:1≤nth y (m+1))(fS:V 4294967296 (D.take (m+3))<4294967296*V 4294967296 y) :
  KD 4294967296 (4294967296^m) (nth y (m+1)) (nth y m) (nth D (m+2)*4294967296+nth D (m+1)) (nth D m) (V 4294967296 (D.take (m+3))) (V 4294967296 y)∧nth D (m+2)≤nth y (m+1):=by
 have hp:(0:Int)<4294967296^m:=Int.pow_pos (by decide)
 have y0:=bF (by decide) (ly.take m)
 have y1:=nC (by decide) (ly.take m)
 rw [List.length_take,Nat.min_eq_left (by omega)]at y1
 have x0:=bF (by decide) (lD.take m)
 have x1:=nC (by decide) (lD.take m)
 rw [List.length_take,Nat.min_eq_left (by omega)]at x1
 have hY:V 4294967296 y=V 4294967296 (y.take m)+4294967296^m*(nth y m+4294967296*nth y (m+1)):=by
  rw [←aV (l:=y) (i:=m+1+1) (by omega),aS (by omega),aS (by omega),Int.pow_succ];grind
 have hX:V 4294967296 (D.take (m+3))=V 4294967296 (D.take m)+4294967296^m*(nth D m+4294967296*(nth D (m+1)+4294967296*nth D (m+2))):=by
  rw [show m+3=m+1+1+1 from rfl,aS (by omega),aS (by omega),aS (by omega),Int.pow_succ,Int.pow_succ];grind
 have l1:=ly.nth (i:=m) (by omega)
 have l2:=ly.nth (i:=m+1) (by omega)
 have k0:=lD.nth (i:=m) (by omega)
 have k1:=lD.nth (i:=m+1) (by omega)
 have k2:=lD.nth (i:=m+2) (by omega)
 generalize nth y m=ya at *
 generalize nth y (m+1)=yb at *
 generalize nth D m=xa at *
 generalize nth D (m+1)=xb at *
 generalize nth D (m+2)=xc at *
 generalize V 4294967296 (y.take m)=yr at *
 generalize V 4294967296 (D.take m)=xr at *
 generalize V 4294967296 (D.take (m+3))=X at *
 generalize V 4294967296 y=Y at *
 generalize (4294967296:Int)^m=W at *
 have e1:(yb*4294967296+ya)*W=W*(ya+4294967296*yb):=by grind
 have e2:(yb*4294967296+ya+1)*W=W*(ya+4294967296*yb)+W:=by grind
 have e3:((xc*4294967296+xb)*4294967296+xa)*W=W*(xa+4294967296*(xb+4294967296*xc)):=by grind
 have e4:((xc*4294967296+xb)*4294967296+xa+1)*W=W*(xa+4294967296*(xb+4294967296*xc))+W:=by grind
 refine⟨⟨by decide,by omega,ht,l1.1,by omega,k0.1,l1.2,k0.2,by omega,by omega,by omega,by omega,fS⟩,?_⟩
 rcases Int.lt_or_le yb xc with h | h
 ·exfalso
  have h1:W*(4294967296*(4294967296*(yb+1)))≤W*(xa+4294967296*(xb+4294967296*xc)):=Int.mul_le_mul_of_nonneg_left (by omega) (by omega)
  have h2:Y<W*(4294967296*(yb+1)):=by
   have:=Int.mul_le_mul_of_nonneg_left (show ya+4294967296*yb+1≤4294967296*(yb+1)by omega) (show 0≤W by omega)
   rw [Int.mul_add]at this
   omega
  have h3:W*(4294967296*(4294967296*(yb+1)))=4294967296*(W*(4294967296*(yb+1))):=by grind
  omega
 ·exact h
theorem XA{g w c x β:Int}(hg:0≤g∧g<4294967296)(hw:0≤w∧w<4294967296)(hc:0≤c∧c<4294967296)(hx:0≤x∧x<4294967296)(hβ:β=0∨β=1) :
  (0≤g*w+c∧g*w+c<18446744069414584321)∧(0≤(g*w+c)/4294967296∧(g*w+c)/4294967296<4294967296) ∧
  ∃β',(β'=0∨β'=1)∧((x-(g*w+c)%4294967296-β)%18446744073709551616)/9223372036854775808=β' ∧
   ((x-(g*w+c)%4294967296-β)%18446744073709551616)%4294967296=x-(g*w+c)%4294967296-β+β'*4294967296:=by
 have h1:0≤g*w:=Int.mul_nonneg hg.1 hw.1
 have h2:g*w≤4294967295*4294967295:=Int.mul_le_mul (by omega) (by omega) hw.1 (by omega)
 generalize g*w=p at *
 refine⟨by omega,by omega,?_⟩
 rcases Int.lt_or_le (x-(p+c)%4294967296-β) 0 with h | h
 ·exact⟨1, .inr rfl,by omega,by omega⟩
 ·exact⟨0, .inl rfl,by omega,by omega⟩
theorem sW(x y:List Int):(eE x y).length≤max x.length y.length:=Nat.le_trans (bN _) (by simp)
theorem nF(x:List Int)(c:Int):(aX x c).length≤x.length:=Nat.le_trans (bN _) (by simp)
def lead(x:List Int):Int:=nth x (x.length-1)
theorem rK{x:List Int}(h:0<x.length):x=x.take (x.length-1) ++ [lead x]:=by
 have:=bA (l:=x) (i:=x.length-1) (by omega)
 rw [show x.length-1+1=x.length by omega,List.take_length]at this
 exact this
theorem cM{x:List Int}(hc:Cn x)(h:0<x.length):lead x≠0:=by
 intro h0
 have e:=rK h
 rw [h0]at e
 have h1:=iP (x.take (x.length-1))
 rw [←e,show aM x=x from hc]at h1
 have h2:=bN (x.take (x.length-1))
 rw [←h1,List.length_take]at h2
 omega
theorem EB{x:List Int}(h:0<x.length)(t:Int):V t x=V t (x.take (x.length-1))+t^(x.length-1)*lead x:=by
 conv=>lhs;rw [rK h]
 rw [dK,lB,List.length_take,Nat.min_eq_left (by omega)]
def n6(i:Nat)(x:Int):List Int:=List.replicate i 0 ++ [x]
theorem lI(t:Int)(i:Nat)(x:Int):V t (n6 i x)=t^i*x:=by rw [n6,dK,nW,lB];simp
def sX(b r:List Int)(i:Nat):Int:=if r.length=b.length+i then lead r else 0
def psq(c x:Int)(i:Nat)(q:List Int):List Int:=gB (aX q c) (n6 i x)
def tW(b:List Int)(c x:Int)(i:Nat)(r:List Int):List Int:=eE (aX r c) (bJ (n6 i x) b)
def ps(b:List Int)(c:Int):Nat→List Int→List Int→List Int × List Int
 | 0,q,r=>(q,r)
 | i+1,q,r=>ps b c i (psq c (sX b r i) i q) (tW b c (sX b r i) i r)
theorem an9(t:Int)(b:List Int)(c:Int):∀(k:Nat) (q r:List Int),V t (ps b c k q r).1*V t b+V t (ps b c k q r).2=c^k*(V t q*V t b+V t r)
 | 0,q,r=>by simp [ps]
 | i+1,q,r=>by
  rw [ps,an9 t b c i]
  simp only [psq,tW,oT,gO,b8,cQ,lI,Int.pow_succ]
  grind
theorem wX{b r:List Int}{i:Nat}(hb:0<b.length)(hr:r.length≤b.length+i):(tW b (lead b) (sX b r i) i r).length≤b.length-1+i:=by
 rcases Nat.lt_or_ge r.length (b.length+i)with h | h
 ·have hx:sX b r i=0:=by rw [sX,if_neg (by omega)]
  have e:tW b (lead b) (sX b r i) i r=aX r (lead b):=Cn.ext (Cn.eE _ _) (Cn.aX _ _) fun t=>by
   rw [hx,tW,gO,cQ,lI];simp
  rw [e]
  have:=nF r (lead b);omega
 ·have R7:r.length=b.length+i:=by omega
  have hx:sX b r i=lead r:=by rw [sX,if_pos R7]
  have e:tW b (lead b) (sX b r i) i r=eE (aX (r.take (r.length-1)) (lead b)) (List.replicate i 0++(b.take (b.length-1)).map fun v=>v*lead r):=Cn.ext (Cn.eE _ _) (Cn.eE _ _) fun t=>by
   have h1:=EB (x:=r) (by omega) t
   have h2:=EB (x:=b) hb t
   have h3:=fO (t:=t) (lead r) id (b.take (b.length-1))
   simp only [id_eq,List.map_id_fun]at h3
   rw [hx,tW,gO,gO,cQ,lI,b8,b8,dK,nW,h3,List.length_replicate,h1,h2,show r.length-1=i+(b.length-1)by omega,Int.pow_add]
   grind
  rw [e]
  refine Nat.le_trans (sW _ _) ?_
  have h4:=nF (r.take (r.length-1)) (lead b)
  rw [List.length_take]at h4
  simp only [List.length_append,List.length_replicate,List.length_map,List.length_take]
  omega
theorem XB{b:List Int}(hb:0<b.length):∀(k:Nat) (q r:List Int),r.length≤b.length-1+k→(ps b (lead b) k q r).2.length≤b.length-1
 | 0,q,r,h=>by simpa [ps]using h
 | i+1,q,r,h=>by
  rw [ps]
  exact XB hb i _ _ (wX hb (by omega))
theorem aeX{b:List Int}{c:Int}:∀(k:Nat) (q r:List Int),Cn q→Cn r→Cn (ps b c k q r).1∧Cn (ps b c k q r).2
 | 0,q,r,h1,h2=>⟨h1,h2⟩
 | i+1,q,r,_,_=>by rw [ps];exact aeX i _ _ (Cn.gB _ _) (Cn.eE _ _)
theorem fE{b s n:Nat}{x:List Int}(h:Bd b s n x):sz b (lead x)≤s:=h.nth _
theorem Bd.n6{b s:Nat}{x:Int}(h:Pm.sz b x≤s)(i:Nat):Bd b s (i+1) (Pm.n6 i x):=⟨by simp [Pm.n6],fun c hc=>by
 simp only [Pm.n6,List.mem_append,List.mem_replicate,List.mem_singleton]at hc
 rcases hc with ⟨_,rfl⟩ | rfl
 ·rw [i7];omega
 ·exact h⟩
theorem XC{b s n i:Nat}{y r:List Int}(h:Bd b s n r):sz b (sX y r i)≤s:=by
 rw [sX];split
 ·exact fE h
 ·rw [i7];omega
theorem yM{B s s' N i:Nat}{b q r:List Int}(hB:2≤B)(hb:Bd B s' N b)(hq:Bd B s (N+N) q)(hr:Bd B s (N+N) r)(hi:i<N) :
  Bd B (s+s'+N+1) (N+N) (psq (lead b) (sX b r i) i q)∧Bd B (s+s'+N+1) (N+N) (tW b (lead b) (sX b r i) i r):=by
 have hc:=fE hb
 have hx:=XC (y:=b) (i:=i) hr
 have hs:=Bd.n6 hx i
 constructor
 ·exact(Bd.gB hB ((hq.aX hB hc).mono (s':=s+s') (n':=N+N) (by omega) (by omega)) (hs.mono (by omega) (by omega))).mono (by omega) (by omega)
 ·exact(Bd.eE hB ((hr.aX hB hc).mono (s':=s+s'+N) (n':=N+N) (by omega) (by omega)) ((hs.bJ hB hb).mono (by omega) (by omega))).mono (by omega) (by omega)
theorem XD{B s' N:Nat}{b:List Int}(hB:2≤B)(hb:Bd B s' N b):∀(k s:Nat) (q r:List Int),k≤N→Bd B s (N+N) q→Bd B s (N+N) r→Bd B (s+k*(s'+N+1)) (N+N) (ps b (lead b) k q r).1∧Bd B (s+k*(s'+N+1)) (N+N) (ps b (lead b) k q r).2
 | 0,s,q,r,_,hq,hr=>⟨hq.mono (by omega) (by omega),hr.mono (by omega) (by omega)⟩
 | i+1,s,q,r,hk,hq,hr=>by
  obtain⟨h1,h2⟩:=yM hB hb hq hr (show i<N by omega)
  obtain⟨h3,h4⟩:=XD hB hb i (s+s'+N+1) _ _ (by omega) h1 h2
  rw [ps,Nat.add_mul,Nat.one_mul]
  exact⟨h3.mono (by omega) (by omega),h4.mono (by omega) (by omega)⟩
def iH(a b:List Int):Nat:=a.length+1-b.length
def vK(a b:List Int):List Int × List Int:=ps b (lead b) (iH a b) [] a
theorem XE(t:Int)(a b:List Int):V t (vK a b).1*V t b+V t (vK a b).2=lead b^iH a b*V t a:=by
 rw [vK,an9];simp [V]
theorem EC{a b:List Int}(hb:0<b.length):(vK a b).2.length≤b.length-1:=XB hb _ _ _ (by unfold iH;omega)
theorem yN{a b:List Int}(ha:Cn a):Cn (vK a b).1∧Cn (vK a b).2:=aeX _ _ _ Cn.nil ha
theorem yO(x y:List Int):(gB x y).length≤max x.length y.length:=Nat.le_trans (bN _) (by simp)
theorem B6:∀(x y:List Int),0<y.length→(eZ x y).length≤x.length+y.length-1
 | [],y,_=>by simp [eZ]
 | a::x,y,h=>by
  have ih:=B6 x y h
  have h1:=yO (y.map fun c=>c*a) (0::eZ x y)
  simp only [List.length_map,List.length_cons]at h1
  rw [eZ]
  simp only [List.length_cons]
  omega
theorem oV{x y:List Int}(h:0<y.length):(bJ x y).length≤x.length+y.length-1:=Nat.le_trans (bN _) (B6 x y h)
theorem HI(x:List Int):bJ x [] = []:=Cn.ext (Cn.bJ _ _) Cn.nil fun t=>by rw [cQ];simp [V]
theorem HJ{x y:List Int}(cx:Cn x)(cy:Cn y)(hx:0<x.length)(hy:0<y.length):∃w:List Int,w.length=x.length+y.length-2∧bJ x y=w ++ [lead x*lead y]:=by
 have lx:=cM cx hx
 have ly:=cM cy hy
 obtain⟨u,hu⟩:∃u,u=gB (bJ (y.take (y.length-1)) x) (bJ (n6 (y.length-1) (lead y)) (x.take (x.length-1))):=⟨_,rfl⟩
 have hul:u.length≤x.length+y.length-2:=by
  have h1:=oV (x:=y.take (y.length-1)) (y:=x) hx
  rw [List.length_take]at h1
  have h2:(bJ (n6 (y.length-1) (lead y)) (x.take (x.length-1))).length≤x.length+y.length-2:=by
   rcases Nat.eq_zero_or_pos (x.take (x.length-1)).length with h | h
   ·have:x.take (x.length-1) = []:=List.eq_nil_of_length_eq_zero h
    rw [this,HI];simp
   ·have:=oV (x:=n6 (y.length-1) (lead y)) h
    simp only [n6,List.length_append,List.length_replicate,List.length_singleton,List.length_take]at this ⊢
    omega
  have h3:=yO (bJ (y.take (y.length-1)) x) (bJ (n6 (y.length-1) (lead y)) (x.take (x.length-1)))
  rw [←hu]at h3
  omega
 refine⟨(List.range (x.length+y.length-2)).map (nth u),by simp,?_⟩
 have qF:lead x*lead y≠0:=Int.mul_ne_zero lx ly
 refine Cn.ext (Cn.bJ _ _) (gV qF _) fun t=>?_
 rw [dK,iR hul,lB,hu,oT,cQ,cQ,cQ,lI,EB hx,EB hy]
 simp only [List.length_map,List.length_range]
 rw [show x.length+y.length-2=(x.length-1)+(y.length-1)by omega,Int.pow_add]
 grind
theorem iS{x y:List Int}(cx:Cn x)(cy:Cn y)(hx:0<x.length)(hy:0<y.length):(bJ x y).length=x.length+y.length-1:=by
 obtain⟨w,h1,h2⟩:=HJ cx cy hx hy
 rw [h2,List.length_append,h1,List.length_singleton];omega
theorem uH{x y:List Int}(cx:Cn x)(cy:Cn y)(hx:0<x.length)(hy:0<y.length):lead (bJ x y)=lead x*lead y:=by
 obtain⟨w,h1,h2⟩:=HJ cx cy hx hy
 rw [h2,lead,List.length_append,List.length_singleton,Nat.add_sub_cancel,bZ (by simp)]
 simp
theorem B7{u y h:List Int}(cu:Cn u)(cy:Cn y)(hy:0<y.length)(e:∀t,V t u=V t y*V t h)(hl:u.length<y.length):u = []:=by
 have e2:u=bJ y (aM h):=Cn.ext cu (Cn.bJ _ _) fun t=>by rw [cQ,cE,e t]
 rcases Nat.eq_zero_or_pos (aM h).length with h0 | h0
 ·have:aM h = []:=List.eq_nil_of_length_eq_zero h0
  rw [e2,this,HI]
 ·have:=iS cy (Cn.cut h) hy h0
  rw [←e2]at this;omega
theorem mK(i:Nat):nth ([]:List Int) i=0:=fY (by simp)
theorem pS(a:Int)(l:List Int):nth (a::l) 0=a:=rfl
theorem iT(a:Int)(l:List Int)(i:Nat):nth (a::l) (i+1)=nth l i:=by simp [nth]
theorem gS:∀(x:List Int) (i:Nat),nth (aM x) i=nth x i
 | [],i=>rfl
 | a::l,i=>by
  rw [aM]
  split
  ·rename_i h
   cases i with
   | zero=>rw [mK,pS,h.2]
   | succ i=>rw [iT,←gS l i,h.1,mK,mK]
  ·cases i with
   | zero=>rfl
   | succ i=>rw [iT,iT,gS l i]
theorem sY(x y:List Int)(i:Nat):nth (gB x y) i=nth x i+nth y i:=by
 rw [gB,gS]
 rcases Nat.lt_or_ge i (max x.length y.length)with h | h
 ·rw [bZ (by simpa using h)];simp
 ·rw [fY (by simpa using h),fY (l:=x) (by omega),fY (l:=y) (by omega)];rfl
theorem iI(c:Int)(x:List Int)(i:Nat):nth (x.map (· * c)) i=nth x i*c:=wV (f:=fun v=>v*c) (Int.zero_mul c) x i
theorem L0(c:Int)(x:List Int)(i:Nat):nth (aX x c) i=nth x i*c:=by rw [aX,gS];exact iI c x i
theorem oW(k:Int)(x y:List Int):nth (bJ (k::x) y) 0=nth y 0*k:=by
 rw [bJ,gS,eZ,sY,pS,iI,Int.add_zero]
theorem kS(k:Int)(x y:List Int)(i:Nat):nth (bJ (k::x) y) (i+1)=nth y (i+1)*k+nth (bJ x y) i:=by
 rw [bJ,gS,eZ,sY,iT,iI,bJ,gS]
theorem B8(x y:List Int):bJ x y=bJ y x:=Cn.ext (Cn.bJ _ _) (Cn.bJ _ _) fun t=>by rw [cQ,cQ,Int.mul_comm]
def Dv(d:Nat)(x:List Int):Prop:=∀i,(d:Int)∣nth x i
theorem Dv.mem{d:Nat}{x:List Int}(h:Dv d x):∀c∈x,(d:Int)∣c:=fun c hc=>by
 obtain⟨i,hi,rfl⟩:=List.getElem_of_mem hc
 rw [←bZ hi];exact h i
theorem Dv.of{d:Nat}{x:List Int}(h:∀c∈x,(d:Int)∣c):Dv d x:=fun i=>by
 rcases Nat.lt_or_ge i x.length with h1 | h1
 ·exact h _ (bR h1)
 ·rw [fY h1];exact Int.dvd_zero _
theorem Dv.cons{d:Nat}{k:Int}{x:List Int}(h1:(d:Int)∣k)(h2:Dv d x):Dv d (k::x):=fun i=>by
 cases i with
 | zero=>exact h1
 | succ i=>rw [iT];exact h2 i
theorem Dv.nil(d:Nat):Dv d []:=fun i=>by rw [mK];exact Int.dvd_zero _
theorem Dv.trans{d e:Nat}{x:List Int}(h:e∣d)(h2:Dv d x):Dv e x:=fun i=>Int.dvd_trans (Int.ofNat_dvd.2 h) (h2 i)
theorem OV:∀(n d:Nat) (x y:List Int),d+x.length+y.length≤n→0<d→Dv d (bJ x y)→(∀e:Nat,e∣d→Dv e y→e=1)→Dv d x
 | n,d,[],y,_,_,_,_=>Dv.nil d
 | n,d,k::x,[],_,_,_,h=>by
  have:=h d (Nat.dvd_refl d) (Dv.nil d)
  subst this
  exact fun i=>Int.one_dvd _
 | 0,d,k::x,l::y,hn,_,_,_=>by simp at hn
 | n+1,d,k::x,l::y,hn,hd,hp,h=>by
  simp only [List.length_cons]at hn
  have h0:=hp 0
  rw [oW,pS]at h0
  obtain⟨g,hg⟩:∃g,g=Nat.gcd d l.natAbs:=⟨_,rfl⟩
  have gd:g∣d:=by rw [hg];exact Nat.gcd_dvd_left _ _
  have gl:(g:Int)∣l:=by rw [hg];exact Int.ofNat_dvd_left.2 (Nat.gcd_dvd_right _ _)
  have g0:0<g:=Nat.pos_of_dvd_of_pos gd hd
  have gle:g≤d:=Nat.le_of_dvd hd gd
  by_cases g1:g=1
  ·have hk:(d:Int)∣k:=by
    have h1:d∣(l*k).natAbs:=Int.ofNat_dvd_left.1 h0
    rw [Int.natAbs_mul]at h1
    exact Int.ofNat_dvd_left.2 (Nat.Coprime.dvd_of_dvd_mul_left (show Nat.gcd d l.natAbs=1 by omega) h1)
   refine Dv.cons hk (OV n d x (l::y) (by simp only [List.length_cons];omega) hd (fun i=>?_) h)
   have h1:=hp (i+1)
   rw [kS]at h1
   exact(Int.dvd_add_right (Int.dvd_trans hk (Int.dvd_mul_left _ _))).1 h1
  ·have hgx:Dv g (k::x):=by
    refine OV n g (k::x) y (by simp only [List.length_cons];omega) g0 (fun i=>?_) (fun e he hy=>h e (Nat.dvd_trans he gd) (Dv.cons (Int.dvd_trans (Int.ofNat_dvd.2 he) gl) hy))
    have h1:=Dv.trans gd hp (i+1)
    rw [B8,kS,B8 y]at h1
    exact(Int.dvd_add_right (Int.dvd_trans gl (Int.dvd_mul_left _ _))).1 h1
   obtain⟨d',rfl⟩:=gd
   have VD:0<d':=Nat.pos_of_mul_pos_left hd
   have fS:d'<g*d':=by
    have:2*d'≤g*d':=Nat.mul_le_mul_right _ (by omega)
    omega
   obtain⟨x',QV⟩:∃x':List Int,x'=(k::x).map (· / (g:Int)):=⟨_,rfl⟩
   have hxe:x'.map (· * (g:Int))=k::x:=by
    rw [QV,List.map_map]
    refine(List.map_congr_left fun v hv=>?_).trans (List.map_id _)
    exact Int.ediv_mul_cancel (hgx.mem v hv)
   have hxl:x'.length=x.length+1:=by rw [QV];simp
   have hpe:bJ (k::x) (l::y)=aX (bJ x' (l::y)) g:=Cn.ext (Cn.bJ _ _) (Cn.aX _ _) fun t=>by
    have:=fO (t:=t) (g:Int) id x'
    simp only [id_eq,List.map_id_fun]at this
    rw [b8,cQ,cQ,←hxe,this];grind
   have ih:=OV n d' x' (l::y) (by simp only [List.length_cons];omega) VD (fun i=>by
    have h1:=hp i
    rw [hpe,L0,Int.natCast_mul,Int.mul_comm]at h1
    exact Int.dvd_of_mul_dvd_mul_right (by omega) h1) (fun e he=>h e (Nat.dvd_trans he (Nat.dvd_mul_left _ _)))
   rw [←hxe]
   intro i
   rw [iI,Int.natCast_mul,Int.mul_comm]
   exact Int.mul_dvd_mul (ih i) (Int.dvd_refl _)
termination_by n _ x y=>n
end Pm
