import Derived.Test.YtiobceocpabjdaaGreatEad
set_option linter.unusedSimpArgs false
set_option linter.unusedVariables false
namespace Pm
def V(b:Int):List Int→Int
 | []=>0
 | x::l=>x+b*V b l
def cM(b:Int)(l:List Int):Prop:=∀x∈l,0≤x∧x<b
def KC(b:Nat):Nat→Nat→List Int
 | 0,_=>[]
 | f+1,n=>if n=0 then []else((n%b:Nat):Int)::KC b f (n/b)
def aU(b n:Nat):List Int:=KC b n n
def aI:List Int→List Int
 | []=>[]
 | x::l=>if aI l = []∧x=0 then []else x::aI l
theorem jH:∀l:List Int,aI (l ++ [0])=aI l
 | []=>by simp [aI]
 | x::l=>by simp [aI,jH l]
theorem iE{x:Int}(h:x≠0):∀l:List Int,aI (l ++ [x])=l ++ [x]
 | []=>by
  show aI [x] = [x]
  rw [aI,if_neg (fun hh=>h hh.2)];rfl
 | y::l=>by
  have ih:=iE h l
  have hn:¬(l ++ [x] = []∧y=0):=by simp
  show aI (y::(l ++ [x]))=y::(l ++ [x])
  rw [aI,ih,if_neg hn]
theorem bU:∀l:List Int,(aI l).length≤l.length
 | []=>by simp [aI]
 | x::l=>by
  have:=bU l
  simp only [aI]
  split
  ·simp
  ·simpa using this
theorem c9{α:Type}[Inhabited α]{l:List α}{i:Nat}(h:i<l.length):nth l i=l[i]:=by unfold nth;rw [List.getElem?_eq_getElem h];rfl
theorem gE{α:Type}[Inhabited α]{l:List α}{i:Nat}(h:l.length≤i):nth l i=default:=by unfold nth;rw [List.getElem?_eq_none h];rfl
theorem aT{α:Type}[Inhabited α]{l:List α}{i:Nat}(h:i<l.length):l.take (i+1)=l.take i ++ [nth l i]:=by
 rw [c9 h,List.take_succ_eq_append_getElem h]
theorem bI{α:Type}[Inhabited α]{l:List α}{i:Nat}(h:i<l.length):nth l i∈l:=by rw [c9 h];exact List.getElem_mem h
theorem eO{α:Type}[Inhabited α]{l:List α}{i:Nat}{x:α}(h:i<l.length):nth (l.set i x) i=x:=by rw [c9 (by simpa using h)];simp
theorem gF{α:Type}[Inhabited α]{l:List α}{i j:Nat}{x:α}(h:i≠j):nth (l.set i x) j=nth l j:=by unfold nth;rw [List.getElem?_set_ne h]
theorem eX{α:Type}[Inhabited α]{l:List α}{i:Nat}(h:i<l.length):l.drop i=nth l i::l.drop (i+1):=by rw [c9 h];exact List.drop_eq_getElem_cons h
theorem gX{α:Type}{l:List α}{i k:Nat}{x:α}(h:k≤i):(l.set i x).take k=l.take k:=by
 rw [List.take_set];exact List.set_eq_of_length_le (by simp;omega)
section
variable {b:Int}
theorem cM.nil:cM b []:=by simp [cM]
theorem cM.cons{x:Int}{l:List Int}:cM b (x::l)↔(0≤x∧x<b)∧cM b l:=by simp [cM]
theorem cM.append{a c:List Int}:cM b (a++c)↔cM b a∧cM b c:=by
 simp only [cM,List.mem_append]
 constructor
 ·intro h;exact⟨fun x hx=>h x (.inl hx),fun x hx=>h x (.inr hx)⟩
 ·rintro⟨h1,h2⟩ x (hx | hx)
  ·exact h1 x hx
  ·exact h2 x hx
theorem cM.take{l:List Int}(h:cM b l)(n:Nat):cM b (l.take n):=fun x hx=>h x (List.mem_of_mem_take hx)
theorem cM.drop{l:List Int}(h:cM b l)(n:Nat):cM b (l.drop n):=fun x hx=>h x (List.mem_of_mem_drop hx)
theorem cM.nth{l:List Int}(h:cM b l){i:Nat}(hi:i<l.length):0≤nth l i∧nth l i<b:=by
 rw [c9 hi];exact h _ (List.getElem_mem hi)
theorem cM.set{l:List Int}(h:cM b l){i:Nat}{x:Int}(hx:0≤x∧x<b):cM b (l.set i x):=fun y hy=>by
 rcases List.mem_or_eq_of_mem_set hy with h1 | h1
 ·exact h y h1
 ·rw [h1];exact hx
theorem cM.rep(hb:0<b)(n:Nat):cM b (List.replicate n 0):=fun x hx=>by rw [(List.mem_replicate.1 hx).2];omega
theorem bN(hb:0<b):∀ {l:List Int},cM b l→0≤V b l
 | [],_=>by simp [V]
 | x::l,h=>by
  have h1:=bN hb (cM.cons.1 h).2;have h2:=(cM.cons.1 h).1
  have h3:=Int.mul_nonneg (Int.le_of_lt hb) h1
  simp only [V];omega
theorem dU:∀(a c:List Int),V b (a++c)=V b a+b^a.length*V b c
 | [],c=>by simp [V]
 | x::a,c=>by simp only [List.cons_append,V,dU a c,List.length_cons,Int.pow_succ];grind
theorem mS{x:Int}:V b [x]=x:=by simp [V]
theorem nO(hb:0<b):∀ {l:List Int},cM b l→V b l<b^l.length
 | [],_=>by simp [V]
 | x::l,h=>by
  have h1:=nO hb (cM.cons.1 h).2;have h2:=(cM.cons.1 h).1
  have h3:b*(V b l+1)≤b*b^l.length:=Int.mul_le_mul_of_nonneg_left (by omega) (by omega)
  rw [Int.mul_add]at h3
  simp only [V,List.length_cons,Int.pow_succ,Int.mul_comm _ b];omega
theorem aV{l:List Int}{i:Nat}(h:i<l.length):V b (l.take (i+1))=V b (l.take i)+b^i*nth l i:=by
 rw [aT h,dU,mS];simp [Nat.min_eq_left (Nat.le_of_lt h)]
theorem aZ{l:List Int}{i:Nat}(h:l.length≤i):V b (l.take i)=V b l:=by rw [List.take_of_length_le h]
theorem eY{l:List Int}{i:Nat}{x:Int}(h:i<l.length):V b ((l.set i x).take (i+1))=V b (l.take i)+b^i*x:=by
 rw [aV (by simpa using h),gX (Nat.le_refl _),eO h]
theorem EZ{l:List Int}{i:Nat}{x:Int}(h:i<l.length):V b (l.set i x)=V b l+b^i*(x-nth l i):=by
 induction l generalizing i with
 | nil=>simp at h
 | cons y l ih =>
  cases i with
  | zero=>simp only [List.set_cons_zero,V,Int.pow_zero,nth,List.getElem?_cons_zero,Option.getD_some];omega
  | succ i =>
   have e:nth (y::l) (i+1)=nth l i:=by simp [nth]
   simp only [List.set_cons_succ,V,e,Int.pow_succ]
   rw [ih (by simpa using h)]
   grind
theorem pY:∀n:Nat,V b (List.replicate n 0)=0
 | 0=>rfl
 | n+1=>by simp [List.replicate_succ,V,pY n]
end
section
variable {b:Int}
theorem cV:∀l:List Int,V b (aI l)=V b l
 | []=>rfl
 | x::l=>by
  have ih:=cV l
  simp only [aI]
  split
  ·rename_i h
   rw [h.1]at ih
   simp only [V]at ih ⊢
   rw [←ih,h.2];simp
  ·simp [V,ih]
theorem eC{l:List Int}(h:cM b l):cM b (aI l):=by
 induction l with
 | nil=>exact h
 | cons x l ih =>
  obtain⟨h1,h2⟩:=cM.cons.1 h
  simp only [aI]
  split
  ·exact cM.nil
  ·exact cM.cons.2 ⟨h1,ih h2⟩
end
section
variable {b:Nat}
theorem SW(hb:2≤b):∀(f g n:Nat),n≤f→n≤g→KC b f n=KC b g n
 | 0,g,n,h,_=>by
  have:n=0:=by omega
  subst this
  cases g<;>simp [KC]
 | f+1,0,n,_,h=>by
  have:n=0:=by omega
  subst this
  simp [KC]
 | f+1,g+1,n,h1,h2=>by
  simp only [KC]
  by_cases hn:n=0
  ·simp [hn]
  ·simp only [hn,if_false]
   have:n/b<n:=Nat.div_lt_self (by omega) hb
   rw [SW hb f g _ (by omega) (by omega)]
theorem kW:aU b 0 = []:=rfl
theorem qR(hb:2≤b){n:Nat}(h:n≠0):aU b n=((n%b:Nat):Int)::aU b (n/b):=by
 cases n with
 | zero=>exact absurd rfl h
 | succ n =>
  simp only [aU]
  rw [KC]
  simp only [h,if_false]
  have:(n+1)/b<n+1:=Nat.div_lt_self (by omega) hb
  rw [SW hb n _ _ (by omega) (Nat.le_refl _)]
theorem KE(hb:2≤b)(n:Nat):V b (aU b n)=n∧cM b (aU b n):=by
 induction n using Nat.strongRecOn with
 | _ n ih =>
  by_cases h:n=0
  ·subst h;simp [kW,V,cM]
  ·rw [qR hb h]
   obtain⟨h1,h2⟩:=ih (n/b) (Nat.div_lt_self (by omega) hb)
   have h3:=Nat.mod_lt n (show 0<b by omega)
   have h4:=Nat.mod_add_div n b
   simp only [V,h1,cM.cons]
   refine⟨by exact_mod_cast h4,⟨by omega,by omega⟩,h2⟩
theorem jX(hb:2≤b)(n:Nat):V b (aU b n)=n:=(KE hb n).1
theorem eQ(hb:2≤b)(n:Nat):cM b (aU b n):=(KE hb n).2
theorem eI(hb:2≤b){n:Nat}:aU b n = []↔n=0:=by
 constructor
 ·intro h;have:=jX hb n;rw [h]at this;simp [V]at this;omega
 ·rintro rfl;rfl
theorem qS(hb:2≤b):∀ {l:List Int},cM b l→aI l=aU b (V b l).toNat
 | [],_=>rfl
 | x::l,h=>by
  obtain⟨h1,h2⟩:=cM.cons.1 h
  have ih:=qS hb h2
  have h3:=bN (by omega) h2
  simp only [aI,ih,eI hb,V]
  obtain⟨m,hm⟩:=Int.eq_ofNat_of_zero_le h3
  obtain⟨y,hy⟩:=Int.eq_ofNat_of_zero_le h1.1
  subst hy
  rw [hm]
  have e0:((y:Int)+b*m).toNat=y+b*m:=by
   rw [show((y:Int)+b*m)=((y+b*m:Nat):Int)by simp];exact Int.toNat_natCast _
  rw [e0,Int.toNat_natCast]
  by_cases hz:m=0∧y=0
  ·obtain⟨rfl,rfl⟩:=hz;simp [kW]
  ·rw [if_neg (by omega)]
   have hyb:y<b:=by omega
   have e1:(y+b*m)/b=m:=by rw [Nat.add_mul_div_left _ _ (by omega),Nat.div_eq_of_lt hyb];simp
   have e2:(y+b*m)%b=y:=by rw [Nat.add_mul_mod_self_left,Nat.mod_eq_of_lt hyb]
   have pS:y+b*m≠0:=by
    intro h0
    have h5:b*m=0:=by omega
    rcases Nat.mul_eq_zero.1 h5 with h6 | h6<;>omega
   rw [qR hb pS,e1,e2]
theorem uZ(hb:2≤b){n k:Nat}(h:n<b^k):(aU b n).length≤k:=by
 induction k generalizing n with
 | zero => have:n=0:=by simpa using h
           subst this;simp [kW]
 | succ k ih =>
  by_cases h0:n=0
  ·subst h0;simp [kW]
  ·rw [qR hb h0]
   have:n/b<b^k:=by
    rw [Nat.pow_succ,Nat.mul_comm]at h
    exact Nat.div_lt_of_lt_mul h
   simpa using ih this
theorem jI(hb:2≤b)(n:Nat):aI (aU b n)=aU b n:=by rw [qS hb (eQ hb n),jX hb];simp
end
section
variable {b:Int}
theorem jY(l:List Int)(i:Nat)(h:i≤l.length):V b l=V b (l.take i)+b^i*V b (l.drop i):=by
 conv=>lhs;rw [←List.take_append_drop i l]
 rw [dU];simp [Nat.min_eq_left h]
theorem BK{l:List Int}{i:Nat}(h:i<l.length):V b l=V b (l.take i)+b^i*nth l i+b^(i+1)*V b (l.drop (i+1)):=by
 rw [jY l (i+1) (by omega),aV h]
theorem mT(hb:0<b){x y:List Int}(lx:cM b x)(ly:cM b y)(hl:x.length=y.length){i:Nat}(hi:i<x.length)(hd:x.drop (i+1)=y.drop (i+1))(h:nth x i<nth y i):V b x<V b y:=by
 rw [BK hi,BK (l:=y) (i:=i) (by omega),hd]
 have h1:=nO hb (lx.take i)
 have h2:=bN hb (ly.take i)
 rw [List.length_take,Nat.min_eq_left (by omega)]at h1
 have h3:b^i*(nth x i+1)≤b^i*nth y i:=Int.mul_le_mul_of_nonneg_left (by omega) (Int.le_of_lt (Int.pow_pos hb))
 rw [Int.mul_add]at h3
 omega
theorem kJ(hb:1≤b):∀ {l:List Int},cM b l→aI l=l→l ≠ []→b^(l.length-1)≤V b l
 | [],_,_,h=>absurd rfl h
 | [x],hl,hc,_=>by
  have h1:=(cM.cons.1 hl).1
  have h2:x≠0:=fun h=>by subst h;simp [aI]at hc
  simp [V];omega
 | x::y::l,hl,hc,_=>by
  have h1:=(cM.cons.1 hl).1
  have hc2:aI (y::l)=y::l:=by
   rw [aI]at hc
   split at hc
   ·cases hc
   ·exact(List.cons.inj hc).2
  have ih:=kJ hb (cM.cons.1 hl).2 hc2 (by simp)
  simp only [List.length_cons,Nat.add_sub_cancel]at ih ⊢
  rw [Int.pow_succ,V]
  have:=Int.mul_le_mul_of_nonneg_left ih (show 0≤b by omega)
  rw [Int.mul_comm b]at this
  omega
theorem dG:∀l:List Int,aI (aI l)=aI l
 | []=>rfl
 | x::l=>by
  have ih:=dG l
  rw [aI]
  split
  ·rfl
  ·rename_i h
   rw [aI,ih,if_neg h]
theorem jJ(hb:1≤b){x y:List Int}(lx:cM b x)(ly:cM b y)(hy:aI y=y)(h:x.length<y.length):V b x<V b y:=by
 have h1:=nO (by omega) lx
 have h2:=kJ hb ly hy (by intro h0;rw [h0]at h;simp at h)
 have h3:b^x.length≤b^(y.length-1):=by
  obtain⟨k,hk⟩:∃k,y.length-1=x.length+k:=⟨y.length-1-x.length,by omega⟩
  rw [hk,Int.pow_add]
  have:1≤b^k:=Int.pow_pos (by omega)
  have:=Int.mul_le_mul_of_nonneg_left this (show 0≤b^x.length from Int.le_of_lt (Int.pow_pos (by omega)))
  simpa using this
 omega
end
def eD(x y:Int):Int:=if x<y then -1 else if y<x then 1 else 0
theorem oY{x y:Int}(h:x<y):eD x y = -1:=by simp [eD,h]
theorem oZ{x y:Int}(h:y<x):eD x y=1:=by simp [eD,h];omega
theorem u0(x:Int):eD x x=0:=by simp [eD]
theorem qT{x y:Int}:eD x y<0↔x<y:=by simp only [eD];split<;>(try split)<;>omega
theorem qU{x y:Int}:0≤eD x y↔y≤x:=by simp only [eD];split<;>(try split)<;>omega
theorem w5{x y:Int}:eD x y=0↔x=y:=by simp only [eD];split<;>(try split)<;>omega
theorem BL{x y:Int}:0<eD x y↔y<x:=by simp only [eD];split<;>(try split)<;>omega
section
variable {b:Nat}
def sz(b:Nat)(x:Int):Nat:=(aU b x.natAbs).length
theorem kC(hb:2≤b)(x:Int):x.natAbs<b^sz b x:=by
 have h1:=nO (b:=(b:Int)) (by omega) (eQ hb x.natAbs)
 rw [jX hb]at h1
 have h2:((b:Int)^(aU b x.natAbs).length)=((b^(aU b x.natAbs).length:Nat):Int):=by simp
 rw [h2]at h1
 unfold sz
 omega
theorem cK(hb:2≤b){x:Int}{k:Nat}(h:x.natAbs<b^k):sz b x≤k:=uZ hb h
theorem u6(hb:2≤b){m n:Nat}(h:m≤n):b^m≤b^n:=Nat.pow_le_pow_right (by omega) h
theorem o0(hb:2≤b){x y:Int}{k:Nat}(hx:sz b x≤k)(hy:sz b y≤k):sz b (x+y)≤k+1:=by
 refine cK hb ?_
 have h1:=Nat.lt_of_lt_of_le (kC hb x) (u6 hb hx)
 have h2:=Nat.lt_of_lt_of_le (kC hb y) (u6 hb hy)
 rw [Nat.pow_succ]
 have h3:b^k*2≤b^k*b:=Nat.mul_le_mul_left _ hb
 omega
theorem cE(hb:2≤b){x y:Int}{k m:Nat}(hx:sz b x≤k)(hy:sz b y≤m):sz b (x*y)≤k+m:=by
 refine cK hb ?_
 have h1:=Nat.lt_of_lt_of_le (kC hb x) (u6 hb hx)
 have h2:=Nat.lt_of_lt_of_le (kC hb y) (u6 hb hy)
 rw [Int.natAbs_mul,Nat.pow_add]
 exact Nat.mul_lt_mul'' h1 h2
theorem o6(x:Int):sz b (-x)=sz b x:=by simp [sz]
theorem iU:sz b 0=0:=by simp [sz,kW]
theorem cB(hb:2≤b){x y:Int}(h:x.natAbs≤y.natAbs):sz b x≤sz b y:=cK hb (Nat.lt_of_le_of_lt h (kC hb y))
end
theorem ars{b:Nat}(hb:2≤b){l:List Int}(h:cM b l):sz b (V b l)≤l.length:=by
 refine cK hb ?_
 have h1:=nO (b:=(b:Int)) (by omega) h
 have h2:=bN (b:=(b:Int)) (by omega) h
 have h3:((b:Int)^l.length)=((b^l.length:Nat):Int):=by simp
 rw [h3]at h1
 omega
theorem bJ{α:Type}{l:List α}{n:Nat}(h:l.length=n):l.take n=l:=List.take_of_length_le (by omega)
theorem kX{α:Type}{l m:List α}{i:Nat}{x:α}(h:l.take i=m)(hi:i<l.length):(l.set i x).take (i+1)=m ++ [x]:=by
 subst h
 rw [List.take_succ_eq_append_getElem (by simpa using hi),gX (Nat.le_refl _)]
 simp
theorem iQ{α β:Type}[Inhabited α]{l:List α}{f:α→β}{i:Nat}(h:i<l.length):(l.take (i+1)).map f=(l.take i).map f ++ [f (nth l i)]:=by
 rw [aT h];simp
theorem rW{α β:Type}[Inhabited α][Inhabited β]{f:α→β}(h:f default=default)(l:List α)(k:Nat):nth (l.map f) k=f (nth l k):=by
 unfold nth
 cases hk:l[k]? with
 | none=>simp [hk,h]
 | some x=>simp [hk]
theorem rZ{t:Int}{α:Type}(f g:α→Int):∀l:List α,V t (l.map fun k=>f k+g k)=V t (l.map f)+V t (l.map g)
 | []=>by simp [V]
 | x::l=>by simp only [List.map_cons,V,rZ f g l];grind
theorem gM{t:Int}{α:Type}(c:Int)(f:α→Int):∀l:List α,V t (l.map fun k=>f k*c)=V t (l.map f)*c
 | []=>by simp [V]
 | x::l=>by simp only [List.map_cons,V,gM c f l];grind
theorem w6{x:List Int}{n:Nat}(h:x.length≤n):(List.range n).map (nth x)=x++List.replicate (n-x.length) 0:=by
 apply List.ext_getElem
 ·simp;omega
 ·intro i h1 h2
  simp at h1
  by_cases hi:i<x.length
  ·simp [List.getElem_append,hi,c9 hi]
  ·simp [List.getElem_append,hi];exact gE (by omega)
theorem jK{t:Int}{x:List Int}{n:Nat}(h:x.length≤n):V t ((List.range n).map (nth x))=V t x:=by
 rw [w6 h,dU,pY];simp
theorem w7{N a b:Int}{A B:Int→Int}(h:∀t,N<t→a+t*A t=b+t*B t):a=b ∧ ∀t,max N 0<t→A t=B t:=by
 have iJ:a=b:=by
  have h1:=h (max N 0+(b-a).natAbs+1) (by omega)
  generalize hT:max N 0+(b-a).natAbs+1=T at *
  have h2:b-a=T*(A T-B T):=by rw [Int.mul_sub];omega
  have h3:T∣b-a:=⟨_,h2⟩
  have h4:=Nat.eq_zero_of_dvd_of_lt (Int.natAbs_dvd_natAbs.2 h3) (by omega)
  omega
 refine⟨iJ,fun t ht=>?_⟩
 have h1:=h t (by omega)
 have h2:t*A t=t*B t:=by omega
 exact Int.eq_of_mul_eq_mul_left (by omega) h2
theorem o7:∀(x y:List Int) (N:Int),(∀t,N<t→V t x=V t y)→aI x=aI y
 | [],[],_,_=>rfl
 | [],b::y,N,h=>by
  obtain⟨h1,h2⟩:=w7 (N:=N) (a:=0) (b:=b) (A:=fun _=>0) (B:=fun t=>V t y) (fun t ht=>by have:=h t ht;simp only [V]at this;omega)
  have:=o7 [] y (max N 0) (fun t ht=>by have:=h2 t ht;simpa [V]using this)
  simp only [aI]at this ⊢
  rw [←this];simp [←h1]
 | a::x,[],N,h=>by
  obtain⟨h1,h2⟩:=w7 (N:=N) (a:=a) (b:=0) (A:=fun t=>V t x) (B:=fun _=>0) (fun t ht=>by have:=h t ht;simp only [V]at this;omega)
  have:=o7 x [] (max N 0) (fun t ht=>by have:=h2 t ht;simpa [V]using this)
  simp only [aI]at this ⊢
  rw [this];simp [h1]
 | a::x,b::y,N,h=>by
  obtain⟨h1,h2⟩:=w7 (N:=N) (a:=a) (b:=b) (A:=fun t=>V t x) (B:=fun t=>V t y) (fun t ht=>h t ht)
  have:=o7 x y (max N 0) h2
  simp only [aI]
  rw [this,h1]
theorem alj{x y:List Int}(h:∀t,V t x=V t y):aI x=aI y:=o7 x y 0 fun t _=>h t
def eV(x y:List Int):List Int:=aI ((List.range (max x.length y.length)).map fun k=>nth x k+nth y k)
def dA(x y:List Int):List Int:=aI ((List.range (max x.length y.length)).map fun k=>nth x k-nth y k)
def fW(x:List Int):List Int:=aI (x.map fun c => -c)
def aL(x:List Int)(c:Int):List Int:=aI (x.map fun a=>a*c)
def iI:List Int→List Int→List Int
 | [],_=>[]
 | a::x,y=>eV (y.map fun c=>c*a) (0::iI x y)
def bA(x y:List Int):List Int:=aI (iI x y)
theorem o8{t:Int}(x y:List Int):V t (eV x y)=V t x+V t y:=by
 rw [eV,cV,rZ,jK (by omega),jK (by omega)]
theorem w8{t:Int}(x:List Int):V t (fW x) = - V t x:=by
 have:=gM (t:=t) (-1) id x
 rw [fW,cV]
 simp only [id_eq,Int.mul_neg,Int.mul_one,List.map_id_fun]at this
 exact this
theorem cG{t:Int}(x:List Int)(c:Int):V t (aL x c)=V t x*c:=by
 have:=gM (t:=t) c id x
 rw [aL,cV]
 simpa using this
theorem gG{t:Int}(x y:List Int):V t (dA x y)=V t x-V t y:=by
 rw [dA,cV]
 have h1:=rZ (t:=t) (fun k=>nth x k-nth y k) (nth y) (List.range (max x.length y.length))
 have h2:(fun k=>nth x k-nth y k+nth y k)=nth x:=by funext k;omega
 rw [h2,jK (by omega),jK (by omega)]at h1
 omega
theorem SX{t:Int}:∀x y:List Int,V t (iI x y)=V t x*V t y
 | [],y=>by simp [iI,V]
 | a::x,y=>by
  have:=gM (t:=t) a id y
  simp only [id_eq,List.map_id_fun]at this
  rw [iI,o8,this]
  simp only [V,SX x y]
  grind
theorem c7{t:Int}(x y:List Int):V t (bA x y)=V t x*V t y:=by rw [bA,cV,SX]
def Cn(x:List Int):Prop:=aI x=x
theorem Cn.eV(x y:List Int):Cn (eV x y):=dG _
theorem Cn.dA(x y:List Int):Cn (dA x y):=dG _
theorem Cn.fW(x:List Int):Cn (fW x):=dG _
theorem Cn.aL(x:List Int)(c:Int):Cn (aL x c):=dG _
theorem Cn.bA(x y:List Int):Cn (bA x y):=dG _
theorem Cn.cut(x:List Int):Cn (aI x):=dG _
theorem Cn.nil:Cn []:=rfl
theorem Cn.ext{x y:List Int}(hx:Cn x)(hy:Cn y)(h:∀t,V t x=V t y):x=y:=by rw [←hx,←hy];exact alj h
structure Bd(b s n:Nat)(x:List Int):Prop where
 len:x.length≤n
 sz:∀c∈x,sz b c≤s
theorem l8:∀(x:List Int) (c:Int),c∈aI x→c∈x
 | [],c,h=>h
 | a::x,c,h=>by
  rw [aI]at h
  split at h
  ·cases h
  ·rcases List.mem_cons.1 h with h1 | h1
   ·simp [h1]
   ·exact List.mem_cons_of_mem _ (l8 x c h1)
section
variable {b s s' n n':Nat} {x y:List Int}
theorem Bd.mono(h:Bd b s n x)(hs:s≤s')(hn:n≤n'):Bd b s' n' x:=⟨Nat.le_trans h.len hn,fun c hc=>Nat.le_trans (h.sz c hc) hs⟩
theorem Bd.cut(h:Bd b s n x):Bd b s n (aI x):=⟨Nat.le_trans (bU x) h.len,fun c hc=>h.sz c (l8 x c hc)⟩
theorem Bd.nth(h:Bd b s n x)(i:Nat):Pm.sz b (nth x i)≤s:=by
 by_cases hi:i<x.length
 ·exact h.sz _ (bI hi)
 ·rw [gE (by omega)]
  show Pm.sz b 0≤s
  rw [iU];omega
theorem Bd.eV(hb:2≤b)(hx:Bd b s n x)(hy:Bd b s n y):Bd b (s+1) n (eV x y):=by
 refine Bd.cut ⟨by have:=hx.len;have:=hy.len;simp;omega,fun c hc=>?_⟩
 simp only [List.mem_map]at hc
 obtain⟨k,_,rfl⟩:=hc
 exact o0 hb (hx.nth k) (hy.nth k)
theorem Bd.dA(hb:2≤b)(hx:Bd b s n x)(hy:Bd b s n y):Bd b (s+1) n (dA x y):=by
 refine Bd.cut ⟨by have:=hx.len;have:=hy.len;simp;omega,fun c hc=>?_⟩
 simp only [List.mem_map]at hc
 obtain⟨k,_,rfl⟩:=hc
 rw [Int.sub_eq_add_neg]
 exact o0 hb (hx.nth k) (by rw [o6];exact hy.nth k)
theorem Bd.fW(hx:Bd b s n x):Bd b s n (fW x):=by
 refine Bd.cut ⟨by simpa using hx.len,fun c hc=>?_⟩
 simp only [List.mem_map]at hc
 obtain⟨k,hk,rfl⟩:=hc
 rw [o6];exact hx.sz k hk
theorem Bd.aL(hb:2≤b)(hx:Bd b s n x){c:Int}(hc:Pm.sz b c≤s'):Bd b (s+s') n (aL x c):=by
 refine Bd.cut ⟨by simpa using hx.len,fun d hd=>?_⟩
 simp only [List.mem_map]at hd
 obtain⟨k,hk,rfl⟩:=hd
 exact cE hb (hx.sz k hk) hc
theorem Bd.iI(hb:2≤b)(hy:Bd b s' n' y):∀ {x:List Int} {n:Nat},Bd b s n x→Bd b (s+s'+n) (n+n') (iI x y)
 | [],n,_=>⟨by simp [Pm.iI],by simp [Pm.iI]⟩
 | a::x,0,h=>by have:=h.len;simp at this
 | a::x,n+1,h=>by
  have h1:Bd b s n x:=⟨by have:=h.len;simpa using this,fun c hc=>h.sz c (List.mem_cons_of_mem _ hc)⟩
  have h2:=Bd.iI hb hy h1
  have h3:Bd b (s+s'+n) (n+1+n') (0::Pm.iI x y):=⟨by have:=h2.len;simp;omega,fun c hc=>by
   rcases List.mem_cons.1 hc with h4 | h4
   ·rw [h4,iU];omega
   ·exact h2.sz c h4⟩
  have h4:Bd b (s+s'+n) (n+1+n') (y.map fun c=>c*a):=⟨by have:=hy.len;simp;omega,fun d hd=>by
   simp only [List.mem_map]at hd
   obtain⟨k,hk,rfl⟩:=hd
   have:=cE hb (hy.sz k hk) (h.sz a (by simp))
   omega⟩
  have:=Bd.eV hb h4 h3
  rw [Pm.iI]
  exact this.mono (by omega) (by omega)
theorem Bd.bA(hb:2≤b)(hx:Bd b s n x)(hy:Bd b s' n' y):Bd b (s+s'+n) (n+n') (bA x y):=(Bd.iI hb hy hx).cut
end
def nb(n:Nat):Nat:=if n=0 then 0 else n.log2+1
theorem mU{n k:Nat}:nb n≤k↔n<2^k:=by
 unfold nb
 split
 ·rename_i h;subst h;simp;exact Nat.pow_pos (by decide)
 ·rename_i h;rw [←Nat.log2_lt h];omega
theorem KF{n k:Nat}(h:n/2^k≠0):nb n=k+nb (n/2^k):=by
 apply Nat.le_antisymm
 ·rw [mU,Nat.pow_add]
  have h1:n/2^k<2^nb (n/2^k):=mU.1 (Nat.le_refl _)
  have h2:=Nat.lt_mul_of_div_lt h1 (Nat.pow_pos (by decide))
  rw [Nat.mul_comm]at h2
  exact h2
 ·have h3:∀m,nb n≤m→k+nb (n/2^k)≤m:=by
   intro m hm
   rw [mU]at hm
   have hkm:k≤m:=by
    rcases Nat.lt_or_ge m k with h4 | h4
    ·exfalso;apply h;apply Nat.div_eq_of_lt;exact Nat.lt_of_lt_of_le hm (Nat.pow_le_pow_right (by decide) (by omega))
    ·exact h4
   have h5:nb (n/2^k)≤m-k:=by
    rw [mU]
    apply Nat.div_lt_of_lt_mul
    rw [←Nat.pow_add,show k+(m-k)=m by omega];exact hm
   omega
  exact h3 _ (Nat.le_refl _)
theorem o9{α:Type}[Inhabited α]{m:List α}{r i:Nat}(hr:r<m.length):(m.take (r+1)).eraseIdx i=if r=i then(m.take r).eraseIdx i else(m.take r).eraseIdx i ++ [nth m r]:=by
 rw [aT hr]
 have hl:(m.take r).length=r:=by simp;omega
 generalize m.take r=l at *
 split
 ·rename_i h
  subst h
  rw [List.eraseIdx_append_of_length_le (by omega),List.eraseIdx_of_length_le (l:=l) (by omega)]
  simp [hl]
 ·rename_i h
  rcases Nat.lt_or_ge i r with h1 | h1
  ·rw [List.eraseIdx_append_of_lt_length (by omega)]
  ·have h2:(l ++ [nth m r]).length≤i:=by simp;omega
   rw [List.eraseIdx_of_length_le h2,List.eraseIdx_of_length_le (l:=l) (by omega)]
end Pm
namespace Pm
open Go
theorem aa8{a b s:Nat}(h:2^s∣a)(hb:b<2^s):a ||| b=a+b:=by
 obtain⟨q,rfl⟩:=h
 exact(Nat.two_pow_add_eq_or_of_lt hb q).symm
theorem WG{a b s:Nat}(h:2^s∣a)(hb:b<2^s)(iJ:a+b<4294967296):qD .u32 a b=((a+b:Nat):Int):=by
 have h1:((BitVec.ofInt 32 (a:Int)) ||| (BitVec.ofInt 32 (b:Int))).toNat=a+b:=by
  rw [BitVec.toNat_or,BitVec.toNat_ofInt,BitVec.toNat_ofInt,←aa8 h hb]
  congr 1<;>omega
 show IntKind.u32.wrap (((BitVec.ofInt 32 (a:Int)) ||| (BitVec.ofInt 32 (b:Int))).toNat:Int)=_
 rw [h1]
 simp only [IntKind.wrap,IntKind.bits,IntKind.signed]
 simp
 omega
theorem WH{a b s:Nat}(h:2^s∣a)(hb:b<2^s)(iJ:a+b<18446744073709551616):qD .u64 a b=((a+b:Nat):Int):=by
 have h1:((BitVec.ofInt 64 (a:Int)) ||| (BitVec.ofInt 64 (b:Int))).toNat=a+b:=by
  rw [BitVec.toNat_or,BitVec.toNat_ofInt,BitVec.toNat_ofInt,←aa8 h hb]
  congr 1<;>omega
 show IntKind.u64.wrap (((BitVec.ofInt 64 (a:Int)) ||| (BitVec.ofInt 64 (b:Int))).toNat:Int)=_
 rw [h1]
 simp only [IntKind.wrap,IntKind.bits,IntKind.signed]
 simp
 omega
theorem BM(k:IntKind)(a b:Int):qD k a b=qD k b a:=by unfold qD;rw [BitVec.or_comm]
theorem afj{a b:Int}(s:Nat)(ha:0≤a)(hb0:0≤b)(h:(2^s:Int)∣a)(hb:b<2^s)(iJ:a+b<4294967296):qD .u32 a b=a+b∧qD .u32 b a=a+b:=by
 obtain⟨x,rfl⟩:=Int.eq_ofNat_of_zero_le ha
 obtain⟨y,rfl⟩:=Int.eq_ofNat_of_zero_le hb0
 have h1:2^s∣x:=by exact_mod_cast h
 have h2:y<2^s:=by exact_mod_cast hb
 have:=WG h1 h2 (by omega)
 rw [BM .u32 (y:Int)]
 refine⟨?_,?_⟩<;>rw [this]<;>simp
theorem zW{a b:Int}(s:Nat)(ha:0≤a)(hb0:0≤b)(h:(2^s:Int)∣a)(hb:b<2^s)(iJ:a+b<18446744073709551616):qD .u64 a b=a+b∧qD .u64 b a=a+b:=by
 obtain⟨x,rfl⟩:=Int.eq_ofNat_of_zero_le ha
 obtain⟨y,rfl⟩:=Int.eq_ofNat_of_zero_le hb0
 have h1:2^s∣x:=by exact_mod_cast h
 have h2:y<2^s:=by exact_mod_cast hb
 have:=WH h1 h2 (by omega)
 rw [BM .u64 (y:Int)]
 refine⟨?_,?_⟩<;>rw [this]<;>simp
end Pm
namespace Pm
structure KD(b W top next head x2 X Y:Int):Prop where
 b0:2≤b
 W0:1≤W
 t0:1≤top
 n0:0≤next
 h0:0≤head
 x0:0≤x2
 nb:next<b
 xb:x2<b
 Yl:(top*b+next)*W≤Y
 Yu:Y<(top*b+next+1)*W
 Xl:(head*b+x2)*W≤X
 Xu:X<(head*b+x2+1)*W
 lt:X<b*Y
section
variable {b W top next head x2 X Y:Int} (h:KD b W top next head x2 X Y)
include h
theorem KD.Y0:0<Y:=by
 have h1:1≤top*b+next:=by
  have:=Int.mul_le_mul_of_nonneg_right h.t0 (show 0≤b by have:=h.b0;omega)
  have:=h.n0;have:=h.b0;omega
 have:=Int.mul_le_mul h1 h.W0 (by decide) (by omega)
 have:=h.Yl;omega
theorem KD.first:X<(head/top+1)*Y:=by
 have h1:head+1≤(head/top+1)*top:=by
  have:=Int.lt_ediv_add_one_mul_self head (show 0<top by have:=h.t0;omega)
  omega
 have hg:0≤head/top+1:=by have:=Int.ediv_nonneg h.h0 (show 0≤top by have:=h.t0;omega);omega
 have hbW:0≤b*W:=Int.mul_nonneg (by have:=h.b0;omega) (by have:=h.W0;omega)
 have h2:=Int.mul_le_mul_of_nonneg_right h1 hbW
 have h3:(head*b+x2+1)*W≤(head+1)*(b*W):=by
  have:(head+1)*(b*W)=(head*b+b)*W:=by grind
  rw [this]
  exact Int.mul_le_mul_of_nonneg_right (by have:=h.xb;omega) (by have:=h.W0;omega)
 have h4:top*(b*W)≤Y:=by
  have:top*(b*W)≤(top*b+next)*W:=by
   have e:top*(b*W)=(top*b)*W:=by grind
   rw [e]
   exact Int.mul_le_mul_of_nonneg_right (by have:=h.n0;omega) (by have:=h.W0;omega)
  have:=h.Yl;omega
 have h5:(head/top+1)*top*(b*W)≤(head/top+1)*Y:=by
  rw [Int.mul_assoc];exact Int.mul_le_mul_of_nonneg_left h4 hg
 have:=h.Xu;omega
theorem KD.big{g:Int}(hg:b≤g):X<g*Y:=by
 have:=Int.mul_le_mul_of_nonneg_right hg (Int.le_of_lt h.Y0)
 have:=h.lt;omega
theorem KD.over{g r:Int}(hg:0≤g)(hr:g*top+r=head)(ho:r*b+x2<g*next):X<g*Y:=by
 have h1:head*b+x2+1≤g*(top*b+next):=by
  have:g*(top*b+next)=(g*top)*b+g*next:=by grind
  have h2:g*top=head-r:=by omega
  have h3:(head-r)*b=head*b-r*b:=by grind
  rw [this,h2,h3];omega
 have h2:=Int.mul_le_mul_of_nonneg_right h1 (show 0≤W by have:=h.W0;omega)
 have h3:=Int.mul_le_mul_of_nonneg_left h.Yl hg
 rw [←Int.mul_assoc]at h3
 have:=h.Xu;omega
theorem KD.zL{g r:Int}(hg:0≤g)(I1:g<b)(hr:g*top+r=head)(hn:g*next≤r*b+x2):g*Y<X+Y:=by
 have h1:g*(top*b+next)≤head*b+x2:=by
  have:g*(top*b+next)=(g*top)*b+g*next:=by grind
  have h2:g*top=head-r:=by omega
  have h3:(head-r)*b=head*b-r*b:=by grind
  rw [this,h2,h3];omega
 have h2:=Int.mul_le_mul_of_nonneg_right h1 (show 0≤W by have:=h.W0;omega)
 have h3:g*Y≤g*((top*b+next)*W)+g*W:=by
  have h4:Y≤(top*b+next)*W+W:=by have:=h.Yu;grind
  have:=Int.mul_le_mul_of_nonneg_left h4 hg
  rw [Int.mul_add]at this;exact this
 have h5:g*W<b*W:=Int.mul_lt_mul_of_pos_right I1 (by have:=h.W0;omega)
 have h6:b*W≤Y:=by
  have h7:b*W≤(top*b+next)*W:=Int.mul_le_mul_of_nonneg_right (by
   have:=Int.mul_le_mul_of_nonneg_right h.t0 (show 0≤b by have:=h.b0;omega)
   have:=h.n0;omega) (by have:=h.W0;omega)
  have:=h.Yl;omega
 rw [←Int.mul_assoc]at h3
 have:=h.Xl;omega
theorem KD.art{g r:Int}(hg:0≤g)(I1:g<b)(hr:b≤r):g*next≤r*b+x2:=by
 have h1:g*next≤b*b:=Int.mul_le_mul (by omega) (by have:=h.nb;omega) h.n0 (by have:=h.b0;omega)
 have h2:b*b≤r*b:=Int.mul_le_mul_of_nonneg_right hr (by have:=h.b0;omega)
 have:=h.x0;omega
theorem KD.aa9{g r:Int}(hh:head≤top*b+b-1)(he:g*top+r=head)(hr:b≤r):g<b:=by
 rcases Int.lt_or_le g b with h1 | h1
 ·exact h1
 ·have:=Int.mul_le_mul_of_nonneg_right h1 (show 0≤top by have:=h.t0;omega)
  rw [Int.mul_comm b]at this
  omega
theorem KD.right{g:Int}(h1:X<(g+1)*Y)(h2:0≤X-g*Y):g=X/Y∧X-g*Y=X%Y:=by
 have hY:=h.Y0
 have h3:X/Y=g:=by
  have e:(g+1)*Y=g*Y+Y:=by grind
  rw [Int.ediv_eq_iff_of_pos hY]
  constructor
  ·omega
  ·omega
 refine⟨h3.symm,?_⟩
 have:=Int.emod_def X Y
 rw [h3,Int.mul_comm]at this
 omega
theorem KD.aru{g:Int}(h1:g*Y<X+Y)(h2:X-g*Y<0):g-1=X/Y∧X-g*Y+Y=X%Y:=by
 have hY:=h.Y0
 have e:(g-1)*Y=g*Y-Y:=by grind
 have e2:(g-1+1)*Y=g*Y:=by grind
 have:=h.right (g:=g-1) (by rw [e2];omega) (by rw [e];omega)
 rw [e]at this
 exact⟨this.1,by have:=this.2;omega⟩
end
theorem aba{d e x x':Int}(hd:0<d)(he:0<e)(WI:d*e=4294967296)(hx:0≤x∧x<4294967296)(VJ:0≤x'∧x'<4294967296) :
  d*(((x+4294967296*x')/d)%4294967296)=x-x%d+4294967296*(x'%d)∧(0≤((x+4294967296*x')/d)%4294967296∧((x+4294967296*x')/d)%4294967296<4294967296):=by
 have h1:(x+4294967296*x')/d=x/d+e*x':=by
  have:x+4294967296*x'=x+d*(e*x'):=by rw [←WI];grind
  rw [this,Int.add_mul_ediv_left _ _ (by omega)]
 have h2:x/d<e:=Int.ediv_lt_of_lt_mul hd (by rw [Int.mul_comm,WI];exact hx.2)
 have h3:0≤x/d:=Int.ediv_nonneg hx.1 (by omega)
 have h4:e*x'=e*(x'%d)+4294967296*(x'/d):=by
  have:=Int.mul_ediv_add_emod x' d
  calc e*x'=e*(d*(x'/d)+x'%d):=by rw [this]
   _=e*(x'%d)+(d*e)*(x'/d):=by grind
   _=e*(x'%d)+4294967296*(x'/d):=by rw [WI]
 have h5:0≤x'%d:=Int.emod_nonneg _ (by omega)
 have h6:x'%d<d:=Int.emod_lt_of_pos _ hd
 have h7:e*(x'%d)+e≤4294967296:=by
  have:=Int.mul_le_mul_of_nonneg_left (show x'%d+1≤d by omega) (show 0≤e by omega)
  rw [Int.mul_add,Int.mul_comm e d,WI]at this;omega
 have h8:0≤e*(x'%d):=Int.mul_nonneg (by omega) h5
 have h9:((x+4294967296*x')/d)%4294967296=x/d+e*(x'%d):=by
  rw [h1,h4,←Int.add_assoc,Int.add_mul_emod_self_left,Int.emod_eq_of_lt (by omega) (by omega)]
 rw [h9]
 refine⟨?_,by omega,by omega⟩
 have h10:=Int.mul_ediv_add_emod x d
 have h11:d*(e*(x'%d))=4294967296*(x'%d):=by rw [←Int.mul_assoc,WI]
 rw [Int.mul_add,h11];omega
theorem arv{m:Nat}{D y:List Int}(hD:m+3≤D.length)(hy:y.length=m+2)(lD:cM 4294967296 D)(ly:cM 4294967296 y)(ht:1≤nth y (m+1))(dM:V 4294967296 (D.take (m+3))<4294967296*V 4294967296 y) :
  KD 4294967296 (4294967296^m) (nth y (m+1)) (nth y m) (nth D (m+2)*4294967296+nth D (m+1)) (nth D m) (V 4294967296 (D.take (m+3))) (V 4294967296 y)∧nth D (m+2)≤nth y (m+1):=by
 have hp:(0:Int)<4294967296^m:=Int.pow_pos (by decide)
 have y0:=bN (by decide) (ly.take m)
 have y1:=nO (by decide) (ly.take m)
 rw [List.length_take,Nat.min_eq_left (by omega)]at y1
 have x0:=bN (by decide) (lD.take m)
 have x1:=nO (by decide) (lD.take m)
 rw [List.length_take,Nat.min_eq_left (by omega)]at x1
 have hY:V 4294967296 y=V 4294967296 (y.take m)+4294967296^m*(nth y m+4294967296*nth y (m+1)):=by
  rw [←aZ (l:=y) (i:=m+1+1) (by omega),aV (by omega),aV (by omega),Int.pow_succ];grind
 have hX:V 4294967296 (D.take (m+3))=V 4294967296 (D.take m)+4294967296^m*(nth D m+4294967296*(nth D (m+1)+4294967296*nth D (m+2))):=by
  rw [show m+3=m+1+1+1 from rfl,aV (by omega),aV (by omega),aV (by omega),Int.pow_succ,Int.pow_succ];grind
 have l1:=ly.nth (i:=m) (by omega)
 have l2:=ly.nth (i:=m+1) (by omega)
 have k0:=lD.nth (i:=m) (by omega)
 have k1:=lD.nth (i:=m+1) (by omega)
 have k2:=lD.nth (i:=m+2) (by omega)
 generalize nth y m=ya at *
 generalize nth y (m+1)=yb at *
 generalize nth D m=xa at *
 generalize nth D (m+1)=xb at *
 generalize nth D (m+2)=xc at *
 generalize V 4294967296 (y.take m)=yr at *
 generalize V 4294967296 (D.take m)=xr at *
 generalize V 4294967296 (D.take (m+3))=X at *
 generalize V 4294967296 y=Y at *
 generalize (4294967296:Int)^m=W at *
 have e1:(yb*4294967296+ya)*W=W*(ya+4294967296*yb):=by grind
 have e2:(yb*4294967296+ya+1)*W=W*(ya+4294967296*yb)+W:=by grind
 have e3:((xc*4294967296+xb)*4294967296+xa)*W=W*(xa+4294967296*(xb+4294967296*xc)):=by grind
 have e4:((xc*4294967296+xb)*4294967296+xa+1)*W=W*(xa+4294967296*(xb+4294967296*xc))+W:=by grind
 refine⟨⟨by decide,by omega,ht,l1.1,by omega,k0.1,l1.2,k0.2,by omega,by omega,by omega,by omega,dM⟩,?_⟩
 rcases Int.lt_or_le yb xc with h | h
 ·exfalso
  have h1:W*(4294967296*(4294967296*(yb+1)))≤W*(xa+4294967296*(xb+4294967296*xc)):=Int.mul_le_mul_of_nonneg_left (by omega) (by omega)
  have h2:Y<W*(4294967296*(yb+1)):=by
   have:=Int.mul_le_mul_of_nonneg_left (show ya+4294967296*yb+1≤4294967296*(yb+1)by omega) (show 0≤W by omega)
   rw [Int.mul_add]at this
   omega
  have h3:W*(4294967296*(4294967296*(yb+1)))=4294967296*(W*(4294967296*(yb+1))):=by grind
  omega
 ·exact h
theorem abb{g w c x β:Int}(hg:0≤g∧g<4294967296)(hw:0≤w∧w<4294967296)(hc:0≤c∧c<4294967296)(hx:0≤x∧x<4294967296)(hβ:β=0∨β=1) :
  (0≤g*w+c∧g*w+c<18446744069414584321)∧(0≤(g*w+c)/4294967296∧(g*w+c)/4294967296<4294967296) ∧
  ∃β',(β'=0∨β'=1)∧((x-(g*w+c)%4294967296-β)%18446744073709551616)/9223372036854775808=β' ∧
   ((x-(g*w+c)%4294967296-β)%18446744073709551616)%4294967296=x-(g*w+c)%4294967296-β+β'*4294967296:=by
 have h1:0≤g*w:=Int.mul_nonneg hg.1 hw.1
 have h2:g*w≤4294967295*4294967295:=Int.mul_le_mul (by omega) (by omega) hw.1 (by omega)
 generalize g*w=p at *
 refine⟨by omega,by omega,?_⟩
 rcases Int.lt_or_le (x-(p+c)%4294967296-β) 0 with h | h
 ·exact⟨1, .inr rfl,by omega,by omega⟩
 ·exact⟨0, .inl rfl,by omega,by omega⟩
theorem u7(x y:List Int):(dA x y).length≤max x.length y.length:=Nat.le_trans (bU _) (by simp)
theorem pA(x:List Int)(c:Int):(aL x c).length≤x.length:=Nat.le_trans (bU _) (by simp)
def lead(x:List Int):Int:=nth x (x.length-1)
theorem tL{x:List Int}(h:0<x.length):x=x.take (x.length-1) ++ [lead x]:=by
 have:=aT (l:=x) (i:=x.length-1) (by omega)
 rw [show x.length-1+1=x.length by omega,List.take_length]at this
 exact this
theorem dB{x:List Int}(hc:Cn x)(h:0<x.length):lead x≠0:=by
 intro h0
 have e:=tL h
 rw [h0]at e
 have h1:=jH (x.take (x.length-1))
 rw [←e,show aI x=x from hc]at h1
 have h2:=bU (x.take (x.length-1))
 rw [←h1,List.length_take]at h2
 omega
theorem G4{x:List Int}(h:0<x.length)(t:Int):V t x=V t (x.take (x.length-1))+t^(x.length-1)*lead x:=by
 conv=>lhs;rw [tL h]
 rw [dU,mS,List.length_take,Nat.min_eq_left (by omega)]
def p8(i:Nat)(x:Int):List Int:=List.replicate i 0 ++ [x]
theorem mV(t:Int)(i:Nat)(x:Int):V t (p8 i x)=t^i*x:=by rw [p8,dU,pY,mS];simp
def u9(b r:List Int)(i:Nat):Int:=if r.length=b.length+i then lead r else 0
def psq(c x:Int)(i:Nat)(q:List Int):List Int:=eV (aL q c) (p8 i x)
def wO(b:List Int)(c x:Int)(i:Nat)(r:List Int):List Int:=dA (aL r c) (bA (p8 i x) b)
def ps(b:List Int)(c:Int):Nat→List Int→List Int→List Int × List Int
 | 0,q,r=>(q,r)
 | i+1,q,r=>ps b c i (psq c (u9 b r i) i q) (wO b c (u9 b r i) i r)
theorem arx(t:Int)(b:List Int)(c:Int):∀(k:Nat) (q r:List Int),V t (ps b c k q r).1*V t b+V t (ps b c k q r).2=c^k*(V t q*V t b+V t r)
 | 0,q,r=>by simp [ps]
 | i+1,q,r=>by
  rw [ps,arx t b c i]
  simp only [psq,wO,o8,gG,cG,c7,mV,Int.pow_succ]
  grind
theorem zY{b r:List Int}{i:Nat}(hb:0<b.length)(hr:r.length≤b.length+i):(wO b (lead b) (u9 b r i) i r).length≤b.length-1+i:=by
 rcases Nat.lt_or_ge r.length (b.length+i)with h | h
 ·have hx:u9 b r i=0:=by rw [u9,if_neg (by omega)]
  have e:wO b (lead b) (u9 b r i) i r=aL r (lead b):=Cn.ext (Cn.dA _ _) (Cn.aL _ _) fun t=>by
   rw [hx,wO,gG,c7,mV];simp
  rw [e]
  have:=pA r (lead b);omega
 ·have ND:r.length=b.length+i:=by omega
  have hx:u9 b r i=lead r:=by rw [u9,if_pos ND]
  have e:wO b (lead b) (u9 b r i) i r=dA (aL (r.take (r.length-1)) (lead b)) (List.replicate i 0++(b.take (b.length-1)).map fun v=>v*lead r):=Cn.ext (Cn.dA _ _) (Cn.dA _ _) fun t=>by
   have h1:=G4 (x:=r) (by omega) t
   have h2:=G4 (x:=b) hb t
   have h3:=gM (t:=t) (lead r) id (b.take (b.length-1))
   simp only [id_eq,List.map_id_fun]at h3
   rw [hx,wO,gG,gG,c7,mV,cG,cG,dU,pY,h3,List.length_replicate,h1,h2,show r.length-1=i+(b.length-1)by omega,Int.pow_add]
   grind
  rw [e]
  refine Nat.le_trans (u7 _ _) ?_
  have h4:=pA (r.take (r.length-1)) (lead b)
  rw [List.length_take]at h4
  simp only [List.length_append,List.length_replicate,List.length_map,List.length_take]
  omega
theorem abc{b:List Int}(hb:0<b.length):∀(k:Nat) (q r:List Int),r.length≤b.length-1+k→(ps b (lead b) k q r).2.length≤b.length-1
 | 0,q,r,h=>by simpa [ps]using h
 | i+1,q,r,h=>by
  rw [ps]
  exact abc hb i _ _ (zY hb (by omega))
theorem aie{b:List Int}{c:Int}:∀(k:Nat) (q r:List Int),Cn q→Cn r→Cn (ps b c k q r).1∧Cn (ps b c k q r).2
 | 0,q,r,h1,h2=>⟨h1,h2⟩
 | i+1,q,r,_,_=>by rw [ps];exact aie i _ _ (Cn.eV _ _) (Cn.dA _ _)
theorem gH{b s n:Nat}{x:List Int}(h:Bd b s n x):sz b (lead x)≤s:=h.nth _
theorem Bd.p8{b s:Nat}{x:Int}(h:Pm.sz b x≤s)(i:Nat):Bd b s (i+1) (Pm.p8 i x):=⟨by simp [Pm.p8],fun c hc=>by
 simp only [Pm.p8,List.mem_append,List.mem_replicate,List.mem_singleton]at hc
 rcases hc with ⟨_,rfl⟩ | rfl
 ·rw [iU];omega
 ·exact h⟩
theorem abd{b s n i:Nat}{y r:List Int}(h:Bd b s n r):sz b (u9 y r i)≤s:=by
 rw [u9];split
 ·exact gH h
 ·rw [iU];omega
theorem BN{B s s' N i:Nat}{b q r:List Int}(hB:2≤B)(hb:Bd B s' N b)(hq:Bd B s (N+N) q)(hr:Bd B s (N+N) r)(hi:i<N) :
  Bd B (s+s'+N+1) (N+N) (psq (lead b) (u9 b r i) i q)∧Bd B (s+s'+N+1) (N+N) (wO b (lead b) (u9 b r i) i r):=by
 have hc:=gH hb
 have hx:=abd (y:=b) (i:=i) hr
 have hs:=Bd.p8 hx i
 constructor
 ·exact(Bd.eV hB ((hq.aL hB hc).mono (s':=s+s') (n':=N+N) (by omega) (by omega)) (hs.mono (by omega) (by omega))).mono (by omega) (by omega)
 ·exact(Bd.dA hB ((hr.aL hB hc).mono (s':=s+s'+N) (n':=N+N) (by omega) (by omega)) ((hs.bA hB hb).mono (by omega) (by omega))).mono (by omega) (by omega)
theorem abe{B s' N:Nat}{b:List Int}(hB:2≤B)(hb:Bd B s' N b):∀(k s:Nat) (q r:List Int),k≤N→Bd B s (N+N) q→Bd B s (N+N) r→Bd B (s+k*(s'+N+1)) (N+N) (ps b (lead b) k q r).1∧Bd B (s+k*(s'+N+1)) (N+N) (ps b (lead b) k q r).2
 | 0,s,q,r,_,hq,hr=>⟨hq.mono (by omega) (by omega),hr.mono (by omega) (by omega)⟩
 | i+1,s,q,r,hk,hq,hr=>by
  obtain⟨h1,h2⟩:=BN hB hb hq hr (show i<N by omega)
  obtain⟨h3,h4⟩:=abe hB hb i (s+s'+N+1) _ _ (by omega) h1 h2
  rw [ps,Nat.add_mul,Nat.one_mul]
  exact⟨h3.mono (by omega) (by omega),h4.mono (by omega) (by omega)⟩
def i4(a b:List Int):Nat:=a.length+1-b.length
def yO(a b:List Int):List Int × List Int:=ps b (lead b) (i4 a b) [] a
theorem abf(t:Int)(a b:List Int):V t (yO a b).1*V t b+V t (yO a b).2=lead b^i4 a b*V t a:=by
 rw [yO,arx];simp [V]
theorem G5{a b:List Int}(hb:0<b.length):(yO a b).2.length≤b.length-1:=abc hb _ _ _ (by unfold i4;omega)
theorem BO{a b:List Int}(ha:Cn a):Cn (yO a b).1∧Cn (yO a b).2:=aie _ _ _ Cn.nil ha
theorem BP(x y:List Int):(eV x y).length≤max x.length y.length:=Nat.le_trans (bU _) (by simp)
theorem E0:∀(x y:List Int),0<y.length→(iI x y).length≤x.length+y.length-1
 | [],y,_=>by simp [iI]
 | a::x,y,h=>by
  have ih:=E0 x y h
  have h1:=BP (y.map fun c=>c*a) (0::iI x y)
  simp only [List.length_map,List.length_cons]at h1
  rw [iI]
  simp only [List.length_cons]
  omega
theorem qV{x y:List Int}(h:0<y.length):(bA x y).length≤x.length+y.length-1:=Nat.le_trans (bU _) (E0 x y h)
theorem KG(x:List Int):bA x [] = []:=Cn.ext (Cn.bA _ _) Cn.nil fun t=>by rw [c7];simp [V]
theorem KH{x y:List Int}(cx:Cn x)(cy:Cn y)(hx:0<x.length)(hy:0<y.length):∃w:List Int,w.length=x.length+y.length-2∧bA x y=w ++ [lead x*lead y]:=by
 have lx:=dB cx hx
 have ly:=dB cy hy
 obtain⟨u,hu⟩:∃u,u=eV (bA (y.take (y.length-1)) x) (bA (p8 (y.length-1) (lead y)) (x.take (x.length-1))):=⟨_,rfl⟩
 have hul:u.length≤x.length+y.length-2:=by
  have h1:=qV (x:=y.take (y.length-1)) (y:=x) hx
  rw [List.length_take]at h1
  have h2:(bA (p8 (y.length-1) (lead y)) (x.take (x.length-1))).length≤x.length+y.length-2:=by
   rcases Nat.eq_zero_or_pos (x.take (x.length-1)).length with h | h
   ·have:x.take (x.length-1) = []:=List.eq_nil_of_length_eq_zero h
    rw [this,KG];simp
   ·have:=qV (x:=p8 (y.length-1) (lead y)) h
    simp only [p8,List.length_append,List.length_replicate,List.length_singleton,List.length_take]at this ⊢
    omega
  have h3:=BP (bA (y.take (y.length-1)) x) (bA (p8 (y.length-1) (lead y)) (x.take (x.length-1)))
  rw [←hu]at h3
  omega
 refine⟨(List.range (x.length+y.length-2)).map (nth u),by simp,?_⟩
 have pS:lead x*lead y≠0:=Int.mul_ne_zero lx ly
 refine Cn.ext (Cn.bA _ _) (iE pS _) fun t=>?_
 rw [dU,jK hul,mS,hu,o8,c7,c7,c7,mV,G4 hx,G4 hy]
 simp only [List.length_map,List.length_range]
 rw [show x.length+y.length-2=(x.length-1)+(y.length-1)by omega,Int.pow_add]
 grind
theorem jL{x y:List Int}(cx:Cn x)(cy:Cn y)(hx:0<x.length)(hy:0<y.length):(bA x y).length=x.length+y.length-1:=by
 obtain⟨w,h1,h2⟩:=KH cx cy hx hy
 rw [h2,List.length_append,h1,List.length_singleton];omega
theorem w9{x y:List Int}(cx:Cn x)(cy:Cn y)(hx:0<x.length)(hy:0<y.length):lead (bA x y)=lead x*lead y:=by
 obtain⟨w,h1,h2⟩:=KH cx cy hx hy
 rw [h2,lead,List.length_append,List.length_singleton,Nat.add_sub_cancel,c9 (by simp)]
 simp
theorem E1{u y h:List Int}(cu:Cn u)(cy:Cn y)(hy:0<y.length)(e:∀t,V t u=V t y*V t h)(hl:u.length<y.length):u = []:=by
 have e2:u=bA y (aI h):=Cn.ext cu (Cn.bA _ _) fun t=>by rw [c7,cV,e t]
 rcases Nat.eq_zero_or_pos (aI h).length with h0 | h0
 ·have:aI h = []:=List.eq_nil_of_length_eq_zero h0
  rw [e2,this,KG]
 ·have:=jL cy (Cn.cut h) hy h0
  rw [←e2]at this;omega
theorem oC(i:Nat):nth ([]:List Int) i=0:=gE (by simp)
theorem r7(a:Int)(l:List Int):nth (a::l) 0=a:=rfl
theorem jM(a:Int)(l:List Int)(i:Nat):nth (a::l) (i+1)=nth l i:=by simp [nth]
theorem iR:∀(x:List Int) (i:Nat),nth (aI x) i=nth x i
 | [],i=>rfl
 | a::l,i=>by
  rw [aI]
  split
  ·rename_i h
   cases i with
   | zero=>rw [oC,r7,h.2]
   | succ i=>rw [jM,←iR l i,h.1,oC,oC]
  ·cases i with
   | zero=>rfl
   | succ i=>rw [jM,jM,iR l i]
theorem vA(x y:List Int)(i:Nat):nth (eV x y) i=nth x i+nth y i:=by
 rw [eV,iR]
 rcases Nat.lt_or_ge i (max x.length y.length)with h | h
 ·rw [c9 (by simpa using h)];simp
 ·rw [gE (by simpa using h),gE (l:=x) (by omega),gE (l:=y) (by omega)];rfl
theorem i5(c:Int)(x:List Int)(i:Nat):nth (x.map (· * c)) i=nth x i*c:=rW (f:=fun v=>v*c) (Int.zero_mul c) x i
theorem PE(c:Int)(x:List Int)(i:Nat):nth (aL x c) i=nth x i*c:=by rw [aL,iR];exact i5 c x i
theorem qW(k:Int)(x y:List Int):nth (bA (k::x) y) 0=nth y 0*k:=by
 rw [bA,iR,iI,vA,r7,i5,Int.add_zero]
theorem l9(k:Int)(x y:List Int)(i:Nat):nth (bA (k::x) y) (i+1)=nth y (i+1)*k+nth (bA x y) i:=by
 rw [bA,iR,iI,vA,jM,i5,bA,iR]
theorem E2(x y:List Int):bA x y=bA y x:=Cn.ext (Cn.bA _ _) (Cn.bA _ _) fun t=>by rw [c7,c7,Int.mul_comm]
def Dv(d:Nat)(x:List Int):Prop:=∀i,(d:Int)∣nth x i
theorem Dv.mem{d:Nat}{x:List Int}(h:Dv d x):∀c∈x,(d:Int)∣c:=fun c hc=>by
 obtain⟨i,hi,rfl⟩:=List.getElem_of_mem hc
 rw [←c9 hi];exact h i
theorem Dv.of{d:Nat}{x:List Int}(h:∀c∈x,(d:Int)∣c):Dv d x:=fun i=>by
 rcases Nat.lt_or_ge i x.length with h1 | h1
 ·exact h _ (bI h1)
 ·rw [gE h1];exact Int.dvd_zero _
theorem Dv.cons{d:Nat}{k:Int}{x:List Int}(h1:(d:Int)∣k)(h2:Dv d x):Dv d (k::x):=fun i=>by
 cases i with
 | zero=>exact h1
 | succ i=>rw [jM];exact h2 i
theorem Dv.nil(d:Nat):Dv d []:=fun i=>by rw [oC];exact Int.dvd_zero _
theorem Dv.trans{d e:Nat}{x:List Int}(h:e∣d)(h2:Dv d x):Dv e x:=fun i=>Int.dvd_trans (Int.ofNat_dvd.2 h) (h2 i)
theorem SY:∀(n d:Nat) (x y:List Int),d+x.length+y.length≤n→0<d→Dv d (bA x y)→(∀e:Nat,e∣d→Dv e y→e=1)→Dv d x
 | n,d,[],y,_,_,_,_=>Dv.nil d
 | n,d,k::x,[],_,_,_,h=>by
  have:=h d (Nat.dvd_refl d) (Dv.nil d)
  subst this
  exact fun i=>Int.one_dvd _
 | 0,d,k::x,l::y,hn,_,_,_=>by simp at hn
 | n+1,d,k::x,l::y,hn,hd,hp,h=>by
  simp only [List.length_cons]at hn
  have h0:=hp 0
  rw [qW,r7]at h0
  obtain⟨g,hg⟩:∃g,g=Nat.gcd d l.natAbs:=⟨_,rfl⟩
  have gd:g∣d:=by rw [hg];exact Nat.gcd_dvd_left _ _
  have gl:(g:Int)∣l:=by rw [hg];exact Int.ofNat_dvd_left.2 (Nat.gcd_dvd_right _ _)
  have g0:0<g:=Nat.pos_of_dvd_of_pos gd hd
  have gle:g≤d:=Nat.le_of_dvd hd gd
  by_cases g1:g=1
  ·have hk:(d:Int)∣k:=by
    have h1:d∣(l*k).natAbs:=Int.ofNat_dvd_left.1 h0
    rw [Int.natAbs_mul]at h1
    exact Int.ofNat_dvd_left.2 (Nat.Coprime.dvd_of_dvd_mul_left (show Nat.gcd d l.natAbs=1 by omega) h1)
   refine Dv.cons hk (SY n d x (l::y) (by simp only [List.length_cons];omega) hd (fun i=>?_) h)
   have h1:=hp (i+1)
   rw [l9]at h1
   exact(Int.dvd_add_right (Int.dvd_trans hk (Int.dvd_mul_left _ _))).1 h1
  ·have hgx:Dv g (k::x):=by
    refine SY n g (k::x) y (by simp only [List.length_cons];omega) g0 (fun i=>?_) (fun e he hy=>h e (Nat.dvd_trans he gd) (Dv.cons (Int.dvd_trans (Int.ofNat_dvd.2 he) gl) hy))
    have h1:=Dv.trans gd hp (i+1)
    rw [E2,l9,E2 y]at h1
    exact(Int.dvd_add_right (Int.dvd_trans gl (Int.dvd_mul_left _ _))).1 h1
   obtain⟨d',rfl⟩:=gd
   have Z8:0<d':=Nat.pos_of_mul_pos_left hd
   have dM:d'<g*d':=by
    have:2*d'≤g*d':=Nat.mul_le_mul_right _ (by omega)
    omega
   obtain⟨x',VJ⟩:∃x':List Int,x'=(k::x).map (· / (g:Int)):=⟨_,rfl⟩
   have hxe:x'.map (· * (g:Int))=k::x:=by
    rw [VJ,List.map_map]
    refine(List.map_congr_left fun v hv=>?_).trans (List.map_id _)
    exact Int.ediv_mul_cancel (hgx.mem v hv)
   have hxl:x'.length=x.length+1:=by rw [VJ];simp
   have hpe:bA (k::x) (l::y)=aL (bA x' (l::y)) g:=Cn.ext (Cn.bA _ _) (Cn.aL _ _) fun t=>by
    have:=gM (t:=t) (g:Int) id x'
    simp only [id_eq,List.map_id_fun]at this
    rw [cG,c7,c7,←hxe,this];grind
   have ih:=SY n d' x' (l::y) (by simp only [List.length_cons];omega) Z8 (fun i=>by
    have h1:=hp i
    rw [hpe,PE,Int.natCast_mul,Int.mul_comm]at h1
    exact Int.dvd_of_mul_dvd_mul_right (by omega) h1) (fun e he=>h e (Nat.dvd_trans he (Nat.dvd_mul_left _ _)))
   rw [←hxe]
   intro i
   rw [i5,Int.natCast_mul,Int.mul_comm]
   exact Int.mul_dvd_mul (ih i) (Int.dvd_refl _)
termination_by n _ x y=>n
end Pm
