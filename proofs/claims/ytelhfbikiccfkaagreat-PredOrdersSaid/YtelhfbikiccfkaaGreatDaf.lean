import Derived.Test.YtelhfbikiccfkaaGreatDad
set_option linter.unusedSimpArgs false
set_option linter.unusedVariables false
namespace Pm
def V(b:Int):List Int→Int
 | []=>0
 | x::l=>x+b*V b l
def cW(b:Int)(l:List Int):Prop:=∀x∈l,0≤x∧x<b
def OD(b:Nat):Nat→Nat→List Int
 | 0,_=>[]
 | f+1,n=>if n=0 then []else((n%b:Nat):Int)::OD b f (n/b)
def aP(b n:Nat):List Int:=OD b n n
def aL:List Int→List Int
 | []=>[]
 | x::l=>if aL l = []∧x=0 then []else x::aL l
theorem j9:∀l:List Int,aL (l ++ [0])=aL l
 | []=>by simp [aL]
 | x::l=>by simp [aL,j9 l]
theorem iZ{x:Int}(h:x≠0):∀l:List Int,aL (l ++ [x])=l ++ [x]
 | []=>by
  show aL [x] = [x]
  rw [aL,if_neg (fun hh=>h hh.2)];rfl
 | y::l=>by
  have ih:=iZ h l
  have hn:¬(l ++ [x] = []∧y=0):=by simp
  show aL (y::(l ++ [x]))=y::(l ++ [x])
  rw [aL,ih,if_neg hn]
theorem cG:∀l:List Int,(aL l).length≤l.length
 | []=>by simp [aL]
 | x::l=>by
  have:=cG l
  simp only [aL]
  split
  ·simp
  ·simpa using this
theorem dE{α:Type}[Inhabited α]{l:List α}{i:Nat}(h:i<l.length):nth l i=l[i]:=by unfold nth;rw [List.getElem?_eq_getElem h];rfl
theorem iF{α:Type}[Inhabited α]{l:List α}{i:Nat}(h:l.length≤i):nth l i=default:=by unfold nth;rw [List.getElem?_eq_none h];rfl
theorem aY{α:Type}[Inhabited α]{l:List α}{i:Nat}(h:i<l.length):l.take (i+1)=l.take i ++ [nth l i]:=by
 rw [dE h,List.take_succ_eq_append_getElem h]
theorem bS{α:Type}[Inhabited α]{l:List α}{i:Nat}(h:i<l.length):nth l i∈l:=by rw [dE h];exact List.getElem_mem h
theorem fG{α:Type}[Inhabited α]{l:List α}{i:Nat}{x:α}(h:i<l.length):nth (l.set i x) i=x:=by rw [dE (by simpa using h)];simp
theorem iG{α:Type}[Inhabited α]{l:List α}{i j:Nat}{x:α}(h:i≠j):nth (l.set i x) j=nth l j:=by unfold nth;rw [List.getElem?_set_ne h]
theorem fP{α:Type}[Inhabited α]{l:List α}{i:Nat}(h:i<l.length):l.drop i=nth l i::l.drop (i+1):=by rw [dE h];exact List.drop_eq_getElem_cons h
theorem iA{α:Type}{l:List α}{i k:Nat}{x:α}(h:k≤i):(l.set i x).take k=l.take k:=by
 rw [List.take_set];exact List.set_eq_of_length_le (by simp;omega)
section
variable {b:Int}
theorem cW.nil:cW b []:=by simp [cW]
theorem cW.cons{x:Int}{l:List Int}:cW b (x::l)↔(0≤x∧x<b)∧cW b l:=by simp [cW]
theorem cW.append{a c:List Int}:cW b (a++c)↔cW b a∧cW b c:=by
 simp only [cW,List.mem_append]
 constructor
 ·intro h;exact⟨fun x hx=>h x (.inl hx),fun x hx=>h x (.inr hx)⟩
 ·rintro⟨h1,h2⟩ x (hx | hx)
  ·exact h1 x hx
  ·exact h2 x hx
theorem cW.take{l:List Int}(h:cW b l)(n:Nat):cW b (l.take n):=fun x hx=>h x (List.mem_of_mem_take hx)
theorem cW.drop{l:List Int}(h:cW b l)(n:Nat):cW b (l.drop n):=fun x hx=>h x (List.mem_of_mem_drop hx)
theorem cW.nth{l:List Int}(h:cW b l){i:Nat}(hi:i<l.length):0≤nth l i∧nth l i<b:=by
 rw [dE hi];exact h _ (List.getElem_mem hi)
theorem cW.set{l:List Int}(h:cW b l){i:Nat}{x:Int}(hx:0≤x∧x<b):cW b (l.set i x):=fun y hy=>by
 rcases List.mem_or_eq_of_mem_set hy with h1 | h1
 ·exact h y h1
 ·rw [h1];exact hx
theorem cW.rep(hb:0<b)(n:Nat):cW b (List.replicate n 0):=fun x hx=>by rw [(List.mem_replicate.1 hx).2];omega
theorem bZ(hb:0<b):∀ {l:List Int},cW b l→0≤V b l
 | [],_=>by simp [V]
 | x::l,h=>by
  have h1:=bZ hb (cW.cons.1 h).2;have h2:=(cW.cons.1 h).1
  have h3:=Int.mul_nonneg (Int.le_of_lt hb) h1
  simp only [V];omega
theorem eH:∀(a c:List Int),V b (a++c)=V b a+b^a.length*V b c
 | [],c=>by simp [V]
 | x::a,c=>by simp only [List.cons_append,V,eH a c,List.length_cons,Int.pow_succ];grind
theorem oW{x:Int}:V b [x]=x:=by simp [V]
theorem pJ(hb:0<b):∀ {l:List Int},cW b l→V b l<b^l.length
 | [],_=>by simp [V]
 | x::l,h=>by
  have h1:=pJ hb (cW.cons.1 h).2;have h2:=(cW.cons.1 h).1
  have h3:b*(V b l+1)≤b*b^l.length:=Int.mul_le_mul_of_nonneg_left (by omega) (by omega)
  rw [Int.mul_add]at h3
  simp only [V,List.length_cons,Int.pow_succ,Int.mul_comm _ b];omega
theorem aZ{l:List Int}{i:Nat}(h:i<l.length):V b (l.take (i+1))=V b (l.take i)+b^i*nth l i:=by
 rw [aY h,eH,oW];simp [Nat.min_eq_left (Nat.le_of_lt h)]
theorem bJ{l:List Int}{i:Nat}(h:l.length≤i):V b (l.take i)=V b l:=by rw [List.take_of_length_le h]
theorem fQ{l:List Int}{i:Nat}{x:Int}(h:i<l.length):V b ((l.set i x).take (i+1))=V b (l.take i)+b^i*x:=by
 rw [aZ (by simpa using h),iA (Nat.le_refl _),fG h]
theorem H9{l:List Int}{i:Nat}{x:Int}(h:i<l.length):V b (l.set i x)=V b l+b^i*(x-nth l i):=by
 induction l generalizing i with
 | nil=>simp at h
 | cons y l ih =>
  cases i with
  | zero=>simp only [List.set_cons_zero,V,Int.pow_zero,nth,List.getElem?_cons_zero,Option.getD_some];omega
  | succ i =>
   have e:nth (y::l) (i+1)=nth l i:=by simp [nth]
   simp only [List.set_cons_succ,V,e,Int.pow_succ]
   rw [ih (by simpa using h)]
   grind
theorem r7:∀n:Nat,V b (List.replicate n 0)=0
 | 0=>rfl
 | n+1=>by simp [List.replicate_succ,V,r7 n]
end
section
variable {b:Int}
theorem dF:∀l:List Int,V b (aL l)=V b l
 | []=>rfl
 | x::l=>by
  have ih:=dF l
  simp only [aL]
  split
  ·rename_i h
   rw [h.1]at ih
   simp only [V]at ih ⊢
   rw [←ih,h.2];simp
  ·simp [V,ih]
theorem eS{l:List Int}(h:cW b l):cW b (aL l):=by
 induction l with
 | nil=>exact h
 | cons x l ih =>
  obtain⟨h1,h2⟩:=cW.cons.1 h
  simp only [aL]
  split
  ·exact cW.nil
  ·exact cW.cons.2 ⟨h1,ih h2⟩
end
section
variable {b:Nat}
theorem XH(hb:2≤b):∀(f g n:Nat),n≤f→n≤g→OD b f n=OD b g n
 | 0,g,n,h,_=>by
  have:n=0:=by omega
  subst this
  cases g<;>simp [OD]
 | f+1,0,n,_,h=>by
  have:n=0:=by omega
  subst this
  simp [OD]
 | f+1,g+1,n,h1,h2=>by
  simp only [OD]
  by_cases hn:n=0
  ·simp [hn]
  ·simp only [hn,if_false]
   have:n/b<n:=Nat.div_lt_self (by omega) hb
   rw [XH hb f g _ (by omega) (by omega)]
theorem mO:aP b 0 = []:=rfl
theorem tA(hb:2≤b){n:Nat}(h:n≠0):aP b n=((n%b:Nat):Int)::aP b (n/b):=by
 cases n with
 | zero=>exact absurd rfl h
 | succ n =>
  simp only [aP]
  rw [OD]
  simp only [h,if_false]
  have:(n+1)/b<n+1:=Nat.div_lt_self (by omega) hb
  rw [XH hb n _ _ (by omega) (Nat.le_refl _)]
theorem OE(hb:2≤b)(n:Nat):V b (aP b n)=n∧cW b (aP b n):=by
 induction n using Nat.strongRecOn with
 | _ n ih =>
  by_cases h:n=0
  ·subst h;simp [mO,V,cW]
  ·rw [tA hb h]
   obtain⟨h1,h2⟩:=ih (n/b) (Nat.div_lt_self (by omega) hb)
   have h3:=Nat.mod_lt n (show 0<b by omega)
   have h4:=Nat.mod_add_div n b
   simp only [V,h1,cW.cons]
   refine⟨by exact_mod_cast h4,⟨by omega,by omega⟩,h2⟩
theorem jG(hb:2≤b)(n:Nat):V b (aP b n)=n:=(OE hb n).1
theorem eN(hb:2≤b)(n:Nat):cW b (aP b n):=(OE hb n).2
theorem eZ(hb:2≤b){n:Nat}:aP b n = []↔n=0:=by
 constructor
 ·intro h;have:=jG hb n;rw [h]at this;simp [V]at this;omega
 ·rintro rfl;rfl
theorem tB(hb:2≤b):∀ {l:List Int},cW b l→aL l=aP b (V b l).toNat
 | [],_=>rfl
 | x::l,h=>by
  obtain⟨h1,h2⟩:=cW.cons.1 h
  have ih:=tB hb h2
  have h3:=bZ (by omega) h2
  simp only [aL,ih,eZ hb,V]
  obtain⟨m,hm⟩:=Int.eq_ofNat_of_zero_le h3
  obtain⟨y,hy⟩:=Int.eq_ofNat_of_zero_le h1.1
  subst hy
  rw [hm]
  have e0:((y:Int)+b*m).toNat=y+b*m:=by
   rw [show((y:Int)+b*m)=((y+b*m:Nat):Int)by simp];exact Int.toNat_natCast _
  rw [e0,Int.toNat_natCast]
  by_cases hz:m=0∧y=0
  ·obtain⟨rfl,rfl⟩:=hz;simp [mO]
  ·rw [if_neg (by omega)]
   have hyb:y<b:=by omega
   have e1:(y+b*m)/b=m:=by rw [Nat.add_mul_div_left _ _ (by omega),Nat.div_eq_of_lt hyb];simp
   have e2:(y+b*m)%b=y:=by rw [Nat.add_mul_mod_self_left,Nat.mod_eq_of_lt hyb]
   have kQ:y+b*m≠0:=by
    intro h0
    have h5:b*m=0:=by omega
    rcases Nat.mul_eq_zero.1 h5 with h6 | h6<;>omega
   rw [tA hb kQ,e1,e2]
theorem CS(hb:2≤b){n k:Nat}(h:n<b^k):(aP b n).length≤k:=by
 induction k generalizing n with
 | zero => have:n=0:=by simpa using h
           subst this;simp [mO]
 | succ k ih =>
  by_cases h0:n=0
  ·subst h0;simp [mO]
  ·rw [tA hb h0]
   have:n/b<b^k:=by
    rw [Nat.pow_succ,Nat.mul_comm]at h
    exact Nat.div_lt_of_lt_mul h
   simpa using ih this
theorem kA(hb:2≤b)(n:Nat):aL (aP b n)=aP b n:=by rw [tB hb (eN hb n),jG hb];simp
end
section
variable {b:Int}
theorem kX(l:List Int)(i:Nat)(h:i≤l.length):V b l=V b (l.take i)+b^i*V b (l.drop i):=by
 conv=>lhs;rw [←List.take_append_drop i l]
 rw [eH];simp [Nat.min_eq_left h]
theorem EI{l:List Int}{i:Nat}(h:i<l.length):V b l=V b (l.take i)+b^i*nth l i+b^(i+1)*V b (l.drop (i+1)):=by
 rw [kX l (i+1) (by omega),aZ h]
theorem oX(hb:0<b){x y:List Int}(lx:cW b x)(ly:cW b y)(hl:x.length=y.length){i:Nat}(hi:i<x.length)(hd:x.drop (i+1)=y.drop (i+1))(h:nth x i<nth y i):V b x<V b y:=by
 rw [EI hi,EI (l:=y) (i:=i) (by omega),hd]
 have h1:=pJ hb (lx.take i)
 have h2:=bZ hb (ly.take i)
 rw [List.length_take,Nat.min_eq_left (by omega)]at h1
 have h3:b^i*(nth x i+1)≤b^i*nth y i:=Int.mul_le_mul_of_nonneg_left (by omega) (Int.le_of_lt (Int.pow_pos hb))
 rw [Int.mul_add]at h3
 omega
theorem l9(hb:1≤b):∀ {l:List Int},cW b l→aL l=l→l ≠ []→b^(l.length-1)≤V b l
 | [],_,_,h=>absurd rfl h
 | [x],hl,hc,_=>by
  have h1:=(cW.cons.1 hl).1
  have h2:x≠0:=fun h=>by subst h;simp [aL]at hc
  simp [V];omega
 | x::y::l,hl,hc,_=>by
  have h1:=(cW.cons.1 hl).1
  have hc2:aL (y::l)=y::l:=by
   rw [aL]at hc
   split at hc
   ·cases hc
   ·exact(List.cons.inj hc).2
  have ih:=l9 hb (cW.cons.1 hl).2 hc2 (by simp)
  simp only [List.length_cons,Nat.add_sub_cancel]at ih ⊢
  rw [Int.pow_succ,V]
  have:=Int.mul_le_mul_of_nonneg_left ih (show 0≤b by omega)
  rw [Int.mul_comm b]at this
  omega
theorem dX:∀l:List Int,aL (aL l)=aL l
 | []=>rfl
 | x::l=>by
  have ih:=dX l
  rw [aL]
  split
  ·rfl
  ·rename_i h
   rw [aL,ih,if_neg h]
theorem kB(hb:1≤b){x y:List Int}(lx:cW b x)(ly:cW b y)(hy:aL y=y)(h:x.length<y.length):V b x<V b y:=by
 have h1:=pJ (by omega) lx
 have h2:=l9 hb ly hy (by intro h0;rw [h0]at h;simp at h)
 have h3:b^x.length≤b^(y.length-1):=by
  obtain⟨k,hk⟩:∃k,y.length-1=x.length+k:=⟨y.length-1-x.length,by omega⟩
  rw [hk,Int.pow_add]
  have:1≤b^k:=Int.pow_pos (by omega)
  have:=Int.mul_le_mul_of_nonneg_left this (show 0≤b^x.length from Int.le_of_lt (Int.pow_pos (by omega)))
  simpa using this
 omega
end
def dQ(x y:Int):Int:=if x<y then -1 else if y<x then 1 else 0
theorem nK{x y:Int}(h:x<y):dQ x y = -1:=by simp [dQ,h]
theorem nM{x y:Int}(h:y<x):dQ x y=1:=by simp [dQ,h];omega
theorem xR(x:Int):dQ x x=0:=by simp [dQ]
theorem n6{x y:Int}:dQ x y<0↔x<y:=by simp only [dQ];split<;>(try split)<;>omega
theorem tC{x y:Int}:0≤dQ x y↔y≤x:=by simp only [dQ];split<;>(try split)<;>omega
theorem zT{x y:Int}:dQ x y=0↔x=y:=by simp only [dQ];split<;>(try split)<;>omega
theorem n7{x y:Int}:0<dQ x y↔y<x:=by simp only [dQ];split<;>(try split)<;>omega
section
variable {b:Nat}
def sz(b:Nat)(x:Int):Nat:=(aP b x.natAbs).length
theorem iK(hb:2≤b)(x:Int):x.natAbs<b^sz b x:=by
 have h1:=pJ (b:=(b:Int)) (by omega) (eN hb x.natAbs)
 rw [jG hb]at h1
 have h2:((b:Int)^(aP b x.natAbs).length)=((b^(aP b x.natAbs).length:Nat):Int):=by simp
 rw [h2]at h1
 unfold sz
 omega
theorem cQ(hb:2≤b){x:Int}{k:Nat}(h:x.natAbs<b^k):sz b x≤k:=CS hb h
theorem xS(hb:2≤b){m n:Nat}(h:m≤n):b^m≤b^n:=Nat.pow_le_pow_right (by omega) h
theorem n9(hb:2≤b){x y:Int}{k:Nat}(hx:sz b x≤k)(hy:sz b y≤k):sz b (x+y)≤k+1:=by
 refine cQ hb ?_
 have h1:=Nat.lt_of_lt_of_le (iK hb x) (xS hb hx)
 have h2:=Nat.lt_of_lt_of_le (iK hb y) (xS hb hy)
 rw [Nat.pow_succ]
 have h3:b^k*2≤b^k*b:=Nat.mul_le_mul_left _ hb
 omega
theorem cO(hb:2≤b){x y:Int}{k m:Nat}(hx:sz b x≤k)(hy:sz b y≤m):sz b (x*y)≤k+m:=by
 refine cQ hb ?_
 have h1:=Nat.lt_of_lt_of_le (iK hb x) (xS hb hx)
 have h2:=Nat.lt_of_lt_of_le (iK hb y) (xS hb hy)
 rw [Int.natAbs_mul,Nat.pow_add]
 exact Nat.mul_lt_mul'' h1 h2
theorem pK(x:Int):sz b (-x)=sz b x:=by simp [sz]
theorem jO:sz b 0=0:=by simp [sz,mO]
theorem cK(hb:2≤b){x y:Int}(h:x.natAbs≤y.natAbs):sz b x≤sz b y:=cQ hb (Nat.lt_of_le_of_lt h (iK hb y))
end
theorem auh{b:Nat}(hb:2≤b){l:List Int}(h:cW b l):sz b (V b l)≤l.length:=by
 refine cQ hb ?_
 have h1:=pJ (b:=(b:Int)) (by omega) h
 have h2:=bZ (b:=(b:Int)) (by omega) h
 have h3:((b:Int)^l.length)=((b^l.length:Nat):Int):=by simp
 rw [h3]at h1
 omega
theorem bQ{α:Type}{l:List α}{n:Nat}(h:l.length=n):l.take n=l:=List.take_of_length_le (by omega)
theorem kY{α:Type}{l m:List α}{i:Nat}{x:α}(h:l.take i=m)(hi:i<l.length):(l.set i x).take (i+1)=m ++ [x]:=by
 subst h
 rw [List.take_succ_eq_append_getElem (by simpa using hi),iA (Nat.le_refl _)]
 simp
theorem jH{α β:Type}[Inhabited α]{l:List α}{f:α→β}{i:Nat}(h:i<l.length):(l.take (i+1)).map f=(l.take i).map f ++ [f (nth l i)]:=by
 rw [aY h];simp
theorem uK{α β:Type}[Inhabited α][Inhabited β]{f:α→β}(h:f default=default)(l:List α)(k:Nat):nth (l.map f) k=f (nth l k):=by
 unfold nth
 cases hk:l[k]? with
 | none=>simp [hk,h]
 | some x=>simp [hk]
theorem uL{t:Int}{α:Type}(f g:α→Int):∀l:List α,V t (l.map fun k=>f k+g k)=V t (l.map f)+V t (l.map g)
 | []=>by simp [V]
 | x::l=>by simp only [List.map_cons,V,uL f g l];grind
theorem iN{t:Int}{α:Type}(c:Int)(f:α→Int):∀l:List α,V t (l.map fun k=>f k*c)=V t (l.map f)*c
 | []=>by simp [V]
 | x::l=>by simp only [List.map_cons,V,iN c f l];grind
theorem zU{x:List Int}{n:Nat}(h:x.length≤n):(List.range n).map (nth x)=x++List.replicate (n-x.length) 0:=by
 apply List.ext_getElem
 ·simp;omega
 ·intro i h1 h2
  simp at h1
  by_cases hi:i<x.length
  ·simp [List.getElem_append,hi,dE hi]
  ·simp [List.getElem_append,hi];exact iF (by omega)
theorem kC{t:Int}{x:List Int}{n:Nat}(h:x.length≤n):V t ((List.range n).map (nth x))=V t x:=by
 rw [zU h,eH,r7];simp
theorem zV{N a b:Int}{A B:Int→Int}(h:∀t,N<t→a+t*A t=b+t*B t):a=b ∧ ∀t,max N 0<t→A t=B t:=by
 have gW:a=b:=by
  have h1:=h (max N 0+(b-a).natAbs+1) (by omega)
  generalize hT:max N 0+(b-a).natAbs+1=T at *
  have h2:b-a=T*(A T-B T):=by rw [Int.mul_sub];omega
  have h3:T∣b-a:=⟨_,h2⟩
  have h4:=Nat.eq_zero_of_dvd_of_lt (Int.natAbs_dvd_natAbs.2 h3) (by omega)
  omega
 refine⟨gW,fun t ht=>?_⟩
 have h1:=h t (by omega)
 have h2:t*A t=t*B t:=by omega
 exact Int.eq_of_mul_eq_mul_left (by omega) h2
theorem qR:∀(x y:List Int) (N:Int),(∀t,N<t→V t x=V t y)→aL x=aL y
 | [],[],_,_=>rfl
 | [],b::y,N,h=>by
  obtain⟨h1,h2⟩:=zV (N:=N) (a:=0) (b:=b) (A:=fun _=>0) (B:=fun t=>V t y) (fun t ht=>by have:=h t ht;simp only [V]at this;omega)
  have:=qR [] y (max N 0) (fun t ht=>by have:=h2 t ht;simpa [V]using this)
  simp only [aL]at this ⊢
  rw [←this];simp [←h1]
 | a::x,[],N,h=>by
  obtain⟨h1,h2⟩:=zV (N:=N) (a:=a) (b:=0) (A:=fun t=>V t x) (B:=fun _=>0) (fun t ht=>by have:=h t ht;simp only [V]at this;omega)
  have:=qR x [] (max N 0) (fun t ht=>by have:=h2 t ht;simpa [V]using this)
  simp only [aL]at this ⊢
  rw [this];simp [h1]
 | a::x,b::y,N,h=>by
  obtain⟨h1,h2⟩:=zV (N:=N) (a:=a) (b:=b) (A:=fun t=>V t x) (B:=fun t=>V t y) (fun t ht=>h t ht)
  have:=qR x y (max N 0) h2
  simp only [aL]
  rw [this,h1]
theorem aol{x y:List Int}(h:∀t,V t x=V t y):aL x=aL y:=qR x y 0 fun t _=>h t
def fL(x y:List Int):List Int:=aL ((List.range (max x.length y.length)).map fun k=>nth x k+nth y k)
def dJ(x y:List Int):List Int:=aL ((List.range (max x.length y.length)).map fun k=>nth x k-nth y k)
def fU(x:List Int):List Int:=aL (x.map fun c => -c)
def aN(x:List Int)(c:Int):List Int:=aL (x.map fun a=>a*c)
def i6:List Int→List Int→List Int
 | [],_=>[]
 | a::x,y=>fL (y.map fun c=>c*a) (0::i6 x y)
def bH(x y:List Int):List Int:=aL (i6 x y)
theorem qS{t:Int}(x y:List Int):V t (fL x y)=V t x+V t y:=by
 rw [fL,dF,uL,kC (by omega),kC (by omega)]
theorem wF{t:Int}(x:List Int):V t (fU x) = - V t x:=by
 have:=iN (t:=t) (-1) id x
 rw [fU,dF]
 simp only [id_eq,Int.mul_neg,Int.mul_one,List.map_id_fun]at this
 exact this
theorem cR{t:Int}(x:List Int)(c:Int):V t (aN x c)=V t x*c:=by
 have:=iN (t:=t) c id x
 rw [aN,dF]
 simpa using this
theorem iH{t:Int}(x y:List Int):V t (dJ x y)=V t x-V t y:=by
 rw [dJ,dF]
 have h1:=uL (t:=t) (fun k=>nth x k-nth y k) (nth y) (List.range (max x.length y.length))
 have h2:(fun k=>nth x k-nth y k+nth y k)=nth x:=by funext k;omega
 rw [h2,kC (by omega),kC (by omega)]at h1
 omega
theorem XI{t:Int}:∀x y:List Int,V t (i6 x y)=V t x*V t y
 | [],y=>by simp [i6,V]
 | a::x,y=>by
  have:=iN (t:=t) a id y
  simp only [id_eq,List.map_id_fun]at this
  rw [i6,qS,this]
  simp only [V,XI x y]
  grind
theorem dP{t:Int}(x y:List Int):V t (bH x y)=V t x*V t y:=by rw [bH,dF,XI]
def Cn(x:List Int):Prop:=aL x=x
theorem Cn.fL(x y:List Int):Cn (fL x y):=dX _
theorem Cn.dJ(x y:List Int):Cn (dJ x y):=dX _
theorem Cn.fU(x:List Int):Cn (fU x):=dX _
theorem Cn.aN(x:List Int)(c:Int):Cn (aN x c):=dX _
theorem Cn.bH(x y:List Int):Cn (bH x y):=dX _
theorem Cn.cut(x:List Int):Cn (aL x):=dX _
theorem Cn.nil:Cn []:=rfl
theorem Cn.ext{x y:List Int}(hx:Cn x)(hy:Cn y)(h:∀t,V t x=V t y):x=y:=by rw [←hx,←hy];exact aol h
structure Bd(b s n:Nat)(x:List Int):Prop where
 len:x.length≤n
 sz:∀c∈x,sz b c≤s
theorem oA:∀(x:List Int) (c:Int),c∈aL x→c∈x
 | [],c,h=>h
 | a::x,c,h=>by
  rw [aL]at h
  split at h
  ·cases h
  ·rcases List.mem_cons.1 h with h1 | h1
   ·simp [h1]
   ·exact List.mem_cons_of_mem _ (oA x c h1)
section
variable {b s s' n n':Nat} {x y:List Int}
theorem Bd.mono(h:Bd b s n x)(hs:s≤s')(hn:n≤n'):Bd b s' n' x:=⟨Nat.le_trans h.len hn,fun c hc=>Nat.le_trans (h.sz c hc) hs⟩
theorem Bd.cut(h:Bd b s n x):Bd b s n (aL x):=⟨Nat.le_trans (cG x) h.len,fun c hc=>h.sz c (oA x c hc)⟩
theorem Bd.nth(h:Bd b s n x)(i:Nat):Pm.sz b (nth x i)≤s:=by
 by_cases hi:i<x.length
 ·exact h.sz _ (bS hi)
 ·rw [iF (by omega)]
  show Pm.sz b 0≤s
  rw [jO];omega
theorem Bd.fL(hb:2≤b)(hx:Bd b s n x)(hy:Bd b s n y):Bd b (s+1) n (fL x y):=by
 refine Bd.cut ⟨by have:=hx.len;have:=hy.len;simp;omega,fun c hc=>?_⟩
 simp only [List.mem_map]at hc
 obtain⟨k,_,rfl⟩:=hc
 exact n9 hb (hx.nth k) (hy.nth k)
theorem Bd.dJ(hb:2≤b)(hx:Bd b s n x)(hy:Bd b s n y):Bd b (s+1) n (dJ x y):=by
 refine Bd.cut ⟨by have:=hx.len;have:=hy.len;simp;omega,fun c hc=>?_⟩
 simp only [List.mem_map]at hc
 obtain⟨k,_,rfl⟩:=hc
 rw [Int.sub_eq_add_neg]
 exact n9 hb (hx.nth k) (by rw [pK];exact hy.nth k)
theorem Bd.fU(hx:Bd b s n x):Bd b s n (fU x):=by
 refine Bd.cut ⟨by simpa using hx.len,fun c hc=>?_⟩
 simp only [List.mem_map]at hc
 obtain⟨k,hk,rfl⟩:=hc
 rw [pK];exact hx.sz k hk
theorem Bd.aN(hb:2≤b)(hx:Bd b s n x){c:Int}(hc:Pm.sz b c≤s'):Bd b (s+s') n (aN x c):=by
 refine Bd.cut ⟨by simpa using hx.len,fun d hd=>?_⟩
 simp only [List.mem_map]at hd
 obtain⟨k,hk,rfl⟩:=hd
 exact cO hb (hx.sz k hk) hc
theorem Bd.i6(hb:2≤b)(hy:Bd b s' n' y):∀ {x:List Int} {n:Nat},Bd b s n x→Bd b (s+s'+n) (n+n') (i6 x y)
 | [],n,_=>⟨by simp [Pm.i6],by simp [Pm.i6]⟩
 | a::x,0,h=>by have:=h.len;simp at this
 | a::x,n+1,h=>by
  have h1:Bd b s n x:=⟨by have:=h.len;simpa using this,fun c hc=>h.sz c (List.mem_cons_of_mem _ hc)⟩
  have h2:=Bd.i6 hb hy h1
  have h3:Bd b (s+s'+n) (n+1+n') (0::Pm.i6 x y):=⟨by have:=h2.len;simp;omega,fun c hc=>by
   rcases List.mem_cons.1 hc with h4 | h4
   ·rw [h4,jO];omega
   ·exact h2.sz c h4⟩
  have h4:Bd b (s+s'+n) (n+1+n') (y.map fun c=>c*a):=⟨by have:=hy.len;simp;omega,fun d hd=>by
   simp only [List.mem_map]at hd
   obtain⟨k,hk,rfl⟩:=hd
   have:=cO hb (hy.sz k hk) (h.sz a (by simp))
   omega⟩
  have:=Bd.fL hb h4 h3
  rw [Pm.i6]
  exact this.mono (by omega) (by omega)
theorem Bd.bH(hb:2≤b)(hx:Bd b s n x)(hy:Bd b s' n' y):Bd b (s+s'+n) (n+n') (bH x y):=(Bd.i6 hb hy hx).cut
end
def nb(n:Nat):Nat:=if n=0 then 0 else n.log2+1
theorem oY{n k:Nat}:nb n≤k↔n<2^k:=by
 unfold nb
 split
 ·rename_i h;subst h;simp;exact Nat.pow_pos (by decide)
 ·rename_i h;rw [←Nat.log2_lt h];omega
theorem OG{n k:Nat}(h:n/2^k≠0):nb n=k+nb (n/2^k):=by
 apply Nat.le_antisymm
 ·rw [oY,Nat.pow_add]
  have h1:n/2^k<2^nb (n/2^k):=oY.1 (Nat.le_refl _)
  have h2:=Nat.lt_mul_of_div_lt h1 (Nat.pow_pos (by decide))
  rw [Nat.mul_comm]at h2
  exact h2
 ·have h3:∀m,nb n≤m→k+nb (n/2^k)≤m:=by
   intro m hm
   rw [oY]at hm
   have hkm:k≤m:=by
    rcases Nat.lt_or_ge m k with h4 | h4
    ·exfalso;apply h;apply Nat.div_eq_of_lt;exact Nat.lt_of_lt_of_le hm (Nat.pow_le_pow_right (by decide) (by omega))
    ·exact h4
   have h5:nb (n/2^k)≤m-k:=by
    rw [oY]
    apply Nat.div_lt_of_lt_mul
    rw [←Nat.pow_add,show k+(m-k)=m by omega];exact hm
   omega
  exact h3 _ (Nat.le_refl _)
theorem qT{α:Type}[Inhabited α]{m:List α}{r i:Nat}(hr:r<m.length):(m.take (r+1)).eraseIdx i=if r=i then(m.take r).eraseIdx i else(m.take r).eraseIdx i ++ [nth m r]:=by
 rw [aY hr]
 have hl:(m.take r).length=r:=by simp;omega
 generalize m.take r=l at *
 split
 ·rename_i h
  subst h
  rw [List.eraseIdx_append_of_length_le (by omega),List.eraseIdx_of_length_le (l:=l) (by omega)]
  simp [hl]
 ·rename_i h
  rcases Nat.lt_or_ge i r with h1 | h1
  ·rw [List.eraseIdx_append_of_lt_length (by omega)]
  ·have h2:(l ++ [nth m r]).length≤i:=by simp;omega
   rw [List.eraseIdx_of_length_le h2,List.eraseIdx_of_length_le (l:=l) (by omega)]
end Pm
namespace Pm
open Go
theorem adP{a b s:Nat}(h:2^s∣a)(hb:b<2^s):a ||| b=a+b:=by
 obtain⟨q,rfl⟩:=h
 exact(Nat.two_pow_add_eq_or_of_lt hb q).symm
theorem aaB{a b s:Nat}(h:2^s∣a)(hb:b<2^s)(gW:a+b<4294967296):sR .u32 a b=((a+b:Nat):Int):=by
 have h1:((BitVec.ofInt 32 (a:Int)) ||| (BitVec.ofInt 32 (b:Int))).toNat=a+b:=by
  rw [BitVec.toNat_or,BitVec.toNat_ofInt,BitVec.toNat_ofInt,←adP h hb]
  congr 1<;>omega
 show IntKind.u32.wrap (((BitVec.ofInt 32 (a:Int)) ||| (BitVec.ofInt 32 (b:Int))).toNat:Int)=_
 rw [h1]
 simp only [IntKind.wrap,IntKind.bits,IntKind.signed]
 simp
 omega
theorem aaC{a b s:Nat}(h:2^s∣a)(hb:b<2^s)(gW:a+b<18446744073709551616):sR .u64 a b=((a+b:Nat):Int):=by
 have h1:((BitVec.ofInt 64 (a:Int)) ||| (BitVec.ofInt 64 (b:Int))).toNat=a+b:=by
  rw [BitVec.toNat_or,BitVec.toNat_ofInt,BitVec.toNat_ofInt,←adP h hb]
  congr 1<;>omega
 show IntKind.u64.wrap (((BitVec.ofInt 64 (a:Int)) ||| (BitVec.ofInt 64 (b:Int))).toNat:Int)=_
 rw [h1]
 simp only [IntKind.wrap,IntKind.bits,IntKind.signed]
 simp
 omega
theorem EJ(k:IntKind)(a b:Int):sR k a b=sR k b a:=by unfold sR;rw [BitVec.or_comm]
theorem aih{a b:Int}(s:Nat)(ha:0≤a)(hb0:0≤b)(h:(2^s:Int)∣a)(hb:b<2^s)(gW:a+b<4294967296):sR .u32 a b=a+b∧sR .u32 b a=a+b:=by
 obtain⟨x,rfl⟩:=Int.eq_ofNat_of_zero_le ha
 obtain⟨y,rfl⟩:=Int.eq_ofNat_of_zero_le hb0
 have h1:2^s∣x:=by exact_mod_cast h
 have h2:y<2^s:=by exact_mod_cast hb
 have:=aaB h1 h2 (by omega)
 rw [EJ .u32 (y:Int)]
 refine⟨?_,?_⟩<;>rw [this]<;>simp
theorem CT{a b:Int}(s:Nat)(ha:0≤a)(hb0:0≤b)(h:(2^s:Int)∣a)(hb:b<2^s)(gW:a+b<18446744073709551616):sR .u64 a b=a+b∧sR .u64 b a=a+b:=by
 obtain⟨x,rfl⟩:=Int.eq_ofNat_of_zero_le ha
 obtain⟨y,rfl⟩:=Int.eq_ofNat_of_zero_le hb0
 have h1:2^s∣x:=by exact_mod_cast h
 have h2:y<2^s:=by exact_mod_cast hb
 have:=aaC h1 h2 (by omega)
 rw [EJ .u64 (y:Int)]
 refine⟨?_,?_⟩<;>rw [this]<;>simp
end Pm
namespace Pm
structure KD(b W top next head x2 X Y:Int):Prop where
 b0:2≤b
 W0:1≤W
 t0:1≤top
 n0:0≤next
 h0:0≤head
 x0:0≤x2
 nb:next<b
 xb:x2<b
 Yl:(top*b+next)*W≤Y
 Yu:Y<(top*b+next+1)*W
 Xl:(head*b+x2)*W≤X
 Xu:X<(head*b+x2+1)*W
 lt:X<b*Y
section
variable {b W top next head x2 X Y:Int} (h:KD b W top next head x2 X Y)
include h
theorem KD.Y0:0<Y:=by
 have h1:1≤top*b+next:=by
  have:=Int.mul_le_mul_of_nonneg_right h.t0 (show 0≤b by have:=h.b0;omega)
  have:=h.n0;have:=h.b0;omega
 have:=Int.mul_le_mul h1 h.W0 (by decide) (by omega)
 have:=h.Yl;omega
theorem KD.first:X<(head/top+1)*Y:=by
 have h1:head+1≤(head/top+1)*top:=by
  have:=Int.lt_ediv_add_one_mul_self head (show 0<top by have:=h.t0;omega)
  omega
 have hg:0≤head/top+1:=by have:=Int.ediv_nonneg h.h0 (show 0≤top by have:=h.t0;omega);omega
 have hbW:0≤b*W:=Int.mul_nonneg (by have:=h.b0;omega) (by have:=h.W0;omega)
 have h2:=Int.mul_le_mul_of_nonneg_right h1 hbW
 have h3:(head*b+x2+1)*W≤(head+1)*(b*W):=by
  have:(head+1)*(b*W)=(head*b+b)*W:=by grind
  rw [this]
  exact Int.mul_le_mul_of_nonneg_right (by have:=h.xb;omega) (by have:=h.W0;omega)
 have h4:top*(b*W)≤Y:=by
  have:top*(b*W)≤(top*b+next)*W:=by
   have e:top*(b*W)=(top*b)*W:=by grind
   rw [e]
   exact Int.mul_le_mul_of_nonneg_right (by have:=h.n0;omega) (by have:=h.W0;omega)
  have:=h.Yl;omega
 have h5:(head/top+1)*top*(b*W)≤(head/top+1)*Y:=by
  rw [Int.mul_assoc];exact Int.mul_le_mul_of_nonneg_left h4 hg
 have:=h.Xu;omega
theorem KD.big{g:Int}(hg:b≤g):X<g*Y:=by
 have:=Int.mul_le_mul_of_nonneg_right hg (Int.le_of_lt h.Y0)
 have:=h.lt;omega
theorem KD.over{g r:Int}(hg:0≤g)(hr:g*top+r=head)(ho:r*b+x2<g*next):X<g*Y:=by
 have h1:head*b+x2+1≤g*(top*b+next):=by
  have:g*(top*b+next)=(g*top)*b+g*next:=by grind
  have h2:g*top=head-r:=by omega
  have h3:(head-r)*b=head*b-r*b:=by grind
  rw [this,h2,h3];omega
 have h2:=Int.mul_le_mul_of_nonneg_right h1 (show 0≤W by have:=h.W0;omega)
 have h3:=Int.mul_le_mul_of_nonneg_left h.Yl hg
 rw [←Int.mul_assoc]at h3
 have:=h.Xu;omega
theorem KD.qU{g r:Int}(hg:0≤g)(MY:g<b)(hr:g*top+r=head)(hn:g*next≤r*b+x2):g*Y<X+Y:=by
 have h1:g*(top*b+next)≤head*b+x2:=by
  have:g*(top*b+next)=(g*top)*b+g*next:=by grind
  have h2:g*top=head-r:=by omega
  have h3:(head-r)*b=head*b-r*b:=by grind
  rw [this,h2,h3];omega
 have h2:=Int.mul_le_mul_of_nonneg_right h1 (show 0≤W by have:=h.W0;omega)
 have h3:g*Y≤g*((top*b+next)*W)+g*W:=by
  have h4:Y≤(top*b+next)*W+W:=by have:=h.Yu;grind
  have:=Int.mul_le_mul_of_nonneg_left h4 hg
  rw [Int.mul_add]at this;exact this
 have h5:g*W<b*W:=Int.mul_lt_mul_of_pos_right MY (by have:=h.W0;omega)
 have h6:b*W≤Y:=by
  have h7:b*W≤(top*b+next)*W:=Int.mul_le_mul_of_nonneg_right (by
   have:=Int.mul_le_mul_of_nonneg_right h.t0 (show 0≤b by have:=h.b0;omega)
   have:=h.n0;omega) (by have:=h.W0;omega)
  have:=h.Yl;omega
 rw [←Int.mul_assoc]at h3
 have:=h.Xl;omega
theorem KD.aui{g r:Int}(hg:0≤g)(MY:g<b)(hr:b≤r):g*next≤r*b+x2:=by
 have h1:g*next≤b*b:=Int.mul_le_mul (by omega) (by have:=h.nb;omega) h.n0 (by have:=h.b0;omega)
 have h2:b*b≤r*b:=Int.mul_le_mul_of_nonneg_right hr (by have:=h.b0;omega)
 have:=h.x0;omega
theorem KD.adQ{g r:Int}(hh:head≤top*b+b-1)(he:g*top+r=head)(hr:b≤r):g<b:=by
 rcases Int.lt_or_le g b with h1 | h1
 ·exact h1
 ·have:=Int.mul_le_mul_of_nonneg_right h1 (show 0≤top by have:=h.t0;omega)
  rw [Int.mul_comm b]at this
  omega
theorem KD.right{g:Int}(h1:X<(g+1)*Y)(h2:0≤X-g*Y):g=X/Y∧X-g*Y=X%Y:=by
 have hY:=h.Y0
 have h3:X/Y=g:=by
  have e:(g+1)*Y=g*Y+Y:=by grind
  rw [Int.ediv_eq_iff_of_pos hY]
  constructor
  ·omega
  ·omega
 refine⟨h3.symm,?_⟩
 have:=Int.emod_def X Y
 rw [h3,Int.mul_comm]at this
 omega
theorem KD.auj{g:Int}(h1:g*Y<X+Y)(h2:X-g*Y<0):g-1=X/Y∧X-g*Y+Y=X%Y:=by
 have hY:=h.Y0
 have e:(g-1)*Y=g*Y-Y:=by grind
 have e2:(g-1+1)*Y=g*Y:=by grind
 have:=h.right (g:=g-1) (by rw [e2];omega) (by rw [e];omega)
 rw [e]at this
 exact⟨this.1,by have:=this.2;omega⟩
end
theorem adR{d e x x':Int}(hd:0<d)(he:0<e)(hde:d*e=4294967296)(hx:0≤x∧x<4294967296)(HO:0≤x'∧x'<4294967296) :
  d*(((x+4294967296*x')/d)%4294967296)=x-x%d+4294967296*(x'%d)∧(0≤((x+4294967296*x')/d)%4294967296∧((x+4294967296*x')/d)%4294967296<4294967296):=by
 have h1:(x+4294967296*x')/d=x/d+e*x':=by
  have:x+4294967296*x'=x+d*(e*x'):=by rw [←hde];grind
  rw [this,Int.add_mul_ediv_left _ _ (by omega)]
 have h2:x/d<e:=Int.ediv_lt_of_lt_mul hd (by rw [Int.mul_comm,hde];exact hx.2)
 have h3:0≤x/d:=Int.ediv_nonneg hx.1 (by omega)
 have h4:e*x'=e*(x'%d)+4294967296*(x'/d):=by
  have:=Int.mul_ediv_add_emod x' d
  calc e*x'=e*(d*(x'/d)+x'%d):=by rw [this]
   _=e*(x'%d)+(d*e)*(x'/d):=by grind
   _=e*(x'%d)+4294967296*(x'/d):=by rw [hde]
 have h5:0≤x'%d:=Int.emod_nonneg _ (by omega)
 have h6:x'%d<d:=Int.emod_lt_of_pos _ hd
 have h7:e*(x'%d)+e≤4294967296:=by
  have:=Int.mul_le_mul_of_nonneg_left (show x'%d+1≤d by omega) (show 0≤e by omega)
  rw [Int.mul_add,Int.mul_comm e d,hde]at this;omega
 have h8:0≤e*(x'%d):=Int.mul_nonneg (by omega) h5
 have h9:((x+4294967296*x')/d)%4294967296=x/d+e*(x'%d):=by
  rw [h1,h4,←Int.add_assoc,Int.add_mul_emod_self_left,Int.emod_eq_of_lt (by omega) (by omega)]
 rw [h9]
 refine⟨?_,by omega,by omega⟩
 have h10:=Int.mul_ediv_add_emod x d
 have h11:d*(e*(x'%d))=4294967296*(x'%d):=by rw [←Int.mul_assoc,hde]
 rw [Int.mul_add,h11];omega
theorem auk{m:Nat}{D y:List Int}(hD:m+3≤D.length)(hy:y.length=m+2)(lD:cW 4294967296 D)(ly:cW 4294967296 y)(ht:1≤nth y (m+1))(c8:V 4294967296 (D.take (m+3))<4294967296*V 4294967296 y) :
  KD 4294967296 (4294967296^m) (nth y (m+1)) (nth y m) (nth D (m+2)*4294967296+nth D (m+1)) (nth D m) (V 4294967296 (D.take (m+3))) (V 4294967296 y)∧nth D (m+2)≤nth y (m+1):=by
 have hp:(0:Int)<4294967296^m:=Int.pow_pos (by decide)
 have y0:=bZ (by decide) (ly.take m)
 have y1:=pJ (by decide) (ly.take m)
 rw [List.length_take,Nat.min_eq_left (by omega)]at y1
 have x0:=bZ (by decide) (lD.take m)
 have x1:=pJ (by decide) (lD.take m)
 rw [List.length_take,Nat.min_eq_left (by omega)]at x1
 have hY:V 4294967296 y=V 4294967296 (y.take m)+4294967296^m*(nth y m+4294967296*nth y (m+1)):=by
  rw [←bJ (l:=y) (i:=m+1+1) (by omega),aZ (by omega),aZ (by omega),Int.pow_succ];grind
 have hX:V 4294967296 (D.take (m+3))=V 4294967296 (D.take m)+4294967296^m*(nth D m+4294967296*(nth D (m+1)+4294967296*nth D (m+2))):=by
  rw [show m+3=m+1+1+1 from rfl,aZ (by omega),aZ (by omega),aZ (by omega),Int.pow_succ,Int.pow_succ];grind
 have l1:=ly.nth (i:=m) (by omega)
 have l2:=ly.nth (i:=m+1) (by omega)
 have k0:=lD.nth (i:=m) (by omega)
 have k1:=lD.nth (i:=m+1) (by omega)
 have k2:=lD.nth (i:=m+2) (by omega)
 generalize nth y m=ya at *
 generalize nth y (m+1)=yb at *
 generalize nth D m=xa at *
 generalize nth D (m+1)=xb at *
 generalize nth D (m+2)=xc at *
 generalize V 4294967296 (y.take m)=yr at *
 generalize V 4294967296 (D.take m)=xr at *
 generalize V 4294967296 (D.take (m+3))=X at *
 generalize V 4294967296 y=Y at *
 generalize (4294967296:Int)^m=W at *
 have e1:(yb*4294967296+ya)*W=W*(ya+4294967296*yb):=by grind
 have e2:(yb*4294967296+ya+1)*W=W*(ya+4294967296*yb)+W:=by grind
 have e3:((xc*4294967296+xb)*4294967296+xa)*W=W*(xa+4294967296*(xb+4294967296*xc)):=by grind
 have e4:((xc*4294967296+xb)*4294967296+xa+1)*W=W*(xa+4294967296*(xb+4294967296*xc))+W:=by grind
 refine⟨⟨by decide,by omega,ht,l1.1,by omega,k0.1,l1.2,k0.2,by omega,by omega,by omega,by omega,c8⟩,?_⟩
 rcases Int.lt_or_le yb xc with h | h
 ·exfalso
  have h1:W*(4294967296*(4294967296*(yb+1)))≤W*(xa+4294967296*(xb+4294967296*xc)):=Int.mul_le_mul_of_nonneg_left (by omega) (by omega)
  have h2:Y<W*(4294967296*(yb+1)):=by
   have:=Int.mul_le_mul_of_nonneg_left (show ya+4294967296*yb+1≤4294967296*(yb+1)by omega) (show 0≤W by omega)
   rw [Int.mul_add]at this
   omega
  have h3:W*(4294967296*(4294967296*(yb+1)))=4294967296*(W*(4294967296*(yb+1))):=by grind
  omega
 ·exact h
theorem adS{g w c x β:Int}(hg:0≤g∧g<4294967296)(hw:0≤w∧w<4294967296)(hc:0≤c∧c<4294967296)(hx:0≤x∧x<4294967296)(hβ:β=0∨β=1) :
  (0≤g*w+c∧g*w+c<18446744069414584321)∧(0≤(g*w+c)/4294967296∧(g*w+c)/4294967296<4294967296) ∧
  ∃β',(β'=0∨β'=1)∧((x-(g*w+c)%4294967296-β)%18446744073709551616)/9223372036854775808=β' ∧
   ((x-(g*w+c)%4294967296-β)%18446744073709551616)%4294967296=x-(g*w+c)%4294967296-β+β'*4294967296:=by
 have h1:0≤g*w:=Int.mul_nonneg hg.1 hw.1
 have h2:g*w≤4294967295*4294967295:=Int.mul_le_mul (by omega) (by omega) hw.1 (by omega)
 generalize g*w=p at *
 refine⟨by omega,by omega,?_⟩
 rcases Int.lt_or_le (x-(p+c)%4294967296-β) 0 with h | h
 ·exact⟨1, .inr rfl,by omega,by omega⟩
 ·exact⟨0, .inl rfl,by omega,by omega⟩
theorem xT(x y:List Int):(dJ x y).length≤max x.length y.length:=Nat.le_trans (cG _) (by simp)
theorem qV(x:List Int)(c:Int):(aN x c).length≤x.length:=Nat.le_trans (cG _) (by simp)
def lead(x:List Int):Int:=nth x (x.length-1)
theorem wG{x:List Int}(h:0<x.length):x=x.take (x.length-1) ++ [lead x]:=by
 have:=aY (l:=x) (i:=x.length-1) (by omega)
 rw [show x.length-1+1=x.length by omega,List.take_length]at this
 exact this
theorem dK{x:List Int}(hc:Cn x)(h:0<x.length):lead x≠0:=by
 intro h0
 have e:=wG h
 rw [h0]at e
 have h1:=j9 (x.take (x.length-1))
 rw [←e,show aL x=x from hc]at h1
 have h2:=cG (x.take (x.length-1))
 rw [←h1,List.length_take]at h2
 omega
theorem KV{x:List Int}(h:0<x.length)(t:Int):V t x=V t (x.take (x.length-1))+t^(x.length-1)*lead x:=by
 conv=>lhs;rw [wG h]
 rw [eH,oW,List.length_take,Nat.min_eq_left (by omega)]
def sH(i:Nat)(x:Int):List Int:=List.replicate i 0 ++ [x]
theorem oZ(t:Int)(i:Nat)(x:Int):V t (sH i x)=t^i*x:=by rw [sH,eH,r7,oW];simp
def xU(b r:List Int)(i:Nat):Int:=if r.length=b.length+i then lead r else 0
def psq(c x:Int)(i:Nat)(q:List Int):List Int:=fL (aN q c) (sH i x)
def zG(b:List Int)(c x:Int)(i:Nat)(r:List Int):List Int:=dJ (aN r c) (bH (sH i x) b)
def ps(b:List Int)(c:Int):Nat→List Int→List Int→List Int × List Int
 | 0,q,r=>(q,r)
 | i+1,q,r=>ps b c i (psq c (xU b r i) i q) (zG b c (xU b r i) i r)
theorem aum(t:Int)(b:List Int)(c:Int):∀(k:Nat) (q r:List Int),V t (ps b c k q r).1*V t b+V t (ps b c k q r).2=c^k*(V t q*V t b+V t r)
 | 0,q,r=>by simp [ps]
 | i+1,q,r=>by
  rw [ps,aum t b c i]
  simp only [psq,zG,qS,iH,cR,dP,oZ,Int.pow_succ]
  grind
theorem CU{b r:List Int}{i:Nat}(hb:0<b.length)(hr:r.length≤b.length+i):(zG b (lead b) (xU b r i) i r).length≤b.length-1+i:=by
 rcases Nat.lt_or_ge r.length (b.length+i)with h | h
 ·have hx:xU b r i=0:=by rw [xU,if_neg (by omega)]
  have e:zG b (lead b) (xU b r i) i r=aN r (lead b):=Cn.ext (Cn.dJ _ _) (Cn.aN _ _) fun t=>by
   rw [hx,zG,iH,dP,oZ];simp
  rw [e]
  have:=qV r (lead b);omega
 ·have R8:r.length=b.length+i:=by omega
  have hx:xU b r i=lead r:=by rw [xU,if_pos R8]
  have e:zG b (lead b) (xU b r i) i r=dJ (aN (r.take (r.length-1)) (lead b)) (List.replicate i 0++(b.take (b.length-1)).map fun v=>v*lead r):=Cn.ext (Cn.dJ _ _) (Cn.dJ _ _) fun t=>by
   have h1:=KV (x:=r) (by omega) t
   have h2:=KV (x:=b) hb t
   have h3:=iN (t:=t) (lead r) id (b.take (b.length-1))
   simp only [id_eq,List.map_id_fun]at h3
   rw [hx,zG,iH,iH,dP,oZ,cR,cR,eH,r7,h3,List.length_replicate,h1,h2,show r.length-1=i+(b.length-1)by omega,Int.pow_add]
   grind
  rw [e]
  refine Nat.le_trans (xT _ _) ?_
  have h4:=qV (r.take (r.length-1)) (lead b)
  rw [List.length_take]at h4
  simp only [List.length_append,List.length_replicate,List.length_map,List.length_take]
  omega
theorem adT{b:List Int}(hb:0<b.length):∀(k:Nat) (q r:List Int),r.length≤b.length-1+k→(ps b (lead b) k q r).2.length≤b.length-1
 | 0,q,r,h=>by simpa [ps]using h
 | i+1,q,r,h=>by
  rw [ps]
  exact adT hb i _ _ (CU hb (by omega))
theorem ak5{b:List Int}{c:Int}:∀(k:Nat) (q r:List Int),Cn q→Cn r→Cn (ps b c k q r).1∧Cn (ps b c k q r).2
 | 0,q,r,h1,h2=>⟨h1,h2⟩
 | i+1,q,r,_,_=>by rw [ps];exact ak5 i _ _ (Cn.fL _ _) (Cn.dJ _ _)
theorem gO{b s n:Nat}{x:List Int}(h:Bd b s n x):sz b (lead x)≤s:=h.nth _
theorem Bd.sH{b s:Nat}{x:Int}(h:Pm.sz b x≤s)(i:Nat):Bd b s (i+1) (Pm.sH i x):=⟨by simp [Pm.sH],fun c hc=>by
 simp only [Pm.sH,List.mem_append,List.mem_replicate,List.mem_singleton]at hc
 rcases hc with ⟨_,rfl⟩ | rfl
 ·rw [jO];omega
 ·exact h⟩
theorem adU{b s n i:Nat}{y r:List Int}(h:Bd b s n r):sz b (xU y r i)≤s:=by
 rw [xU];split
 ·exact gO h
 ·rw [jO];omega
theorem EK{B s s' N i:Nat}{b q r:List Int}(hB:2≤B)(hb:Bd B s' N b)(hq:Bd B s (N+N) q)(hr:Bd B s (N+N) r)(hi:i<N) :
  Bd B (s+s'+N+1) (N+N) (psq (lead b) (xU b r i) i q)∧Bd B (s+s'+N+1) (N+N) (zG b (lead b) (xU b r i) i r):=by
 have hc:=gO hb
 have hx:=adU (y:=b) (i:=i) hr
 have hs:=Bd.sH hx i
 constructor
 ·exact(Bd.fL hB ((hq.aN hB hc).mono (s':=s+s') (n':=N+N) (by omega) (by omega)) (hs.mono (by omega) (by omega))).mono (by omega) (by omega)
 ·exact(Bd.dJ hB ((hr.aN hB hc).mono (s':=s+s'+N) (n':=N+N) (by omega) (by omega)) ((hs.bH hB hb).mono (by omega) (by omega))).mono (by omega) (by omega)
theorem adV{B s' N:Nat}{b:List Int}(hB:2≤B)(hb:Bd B s' N b):∀(k s:Nat) (q r:List Int),k≤N→Bd B s (N+N) q→Bd B s (N+N) r→Bd B (s+k*(s'+N+1)) (N+N) (ps b (lead b) k q r).1∧Bd B (s+k*(s'+N+1)) (N+N) (ps b (lead b) k q r).2
 | 0,s,q,r,_,hq,hr=>⟨hq.mono (by omega) (by omega),hr.mono (by omega) (by omega)⟩
 | i+1,s,q,r,hk,hq,hr=>by
  obtain⟨h1,h2⟩:=EK hB hb hq hr (show i<N by omega)
  obtain⟨h3,h4⟩:=adV hB hb i (s+s'+N+1) _ _ (by omega) h1 h2
  rw [ps,Nat.add_mul,Nat.one_mul]
  exact⟨h3.mono (by omega) (by omega),h4.mono (by omega) (by omega)⟩
def jW(a b:List Int):Nat:=a.length+1-b.length
def BG(a b:List Int):List Int × List Int:=ps b (lead b) (jW a b) [] a
theorem adW(t:Int)(a b:List Int):V t (BG a b).1*V t b+V t (BG a b).2=lead b^jW a b*V t a:=by
 rw [BG,aum];simp [V]
theorem KW{a b:List Int}(hb:0<b.length):(BG a b).2.length≤b.length-1:=adT hb _ _ _ (by unfold jW;omega)
theorem EL{a b:List Int}(ha:Cn a):Cn (BG a b).1∧Cn (BG a b).2:=ak5 _ _ _ Cn.nil ha
theorem EM(x y:List Int):(fL x y).length≤max x.length y.length:=Nat.le_trans (cG _) (by simp)
theorem IA:∀(x y:List Int),0<y.length→(i6 x y).length≤x.length+y.length-1
 | [],y,_=>by simp [i6]
 | a::x,y,h=>by
  have ih:=IA x y h
  have h1:=EM (y.map fun c=>c*a) (0::i6 x y)
  simp only [List.length_map,List.length_cons]at h1
  rw [i6]
  simp only [List.length_cons]
  omega
theorem tD{x y:List Int}(h:0<y.length):(bH x y).length≤x.length+y.length-1:=Nat.le_trans (cG _) (IA x y h)
theorem OH(x:List Int):bH x [] = []:=Cn.ext (Cn.bH _ _) Cn.nil fun t=>by rw [dP];simp [V]
theorem OI{x y:List Int}(cx:Cn x)(cy:Cn y)(hx:0<x.length)(hy:0<y.length):∃w:List Int,w.length=x.length+y.length-2∧bH x y=w ++ [lead x*lead y]:=by
 have lx:=dK cx hx
 have ly:=dK cy hy
 obtain⟨u,hu⟩:∃u,u=fL (bH (y.take (y.length-1)) x) (bH (sH (y.length-1) (lead y)) (x.take (x.length-1))):=⟨_,rfl⟩
 have hul:u.length≤x.length+y.length-2:=by
  have h1:=tD (x:=y.take (y.length-1)) (y:=x) hx
  rw [List.length_take]at h1
  have h2:(bH (sH (y.length-1) (lead y)) (x.take (x.length-1))).length≤x.length+y.length-2:=by
   rcases Nat.eq_zero_or_pos (x.take (x.length-1)).length with h | h
   ·have:x.take (x.length-1) = []:=List.eq_nil_of_length_eq_zero h
    rw [this,OH];simp
   ·have:=tD (x:=sH (y.length-1) (lead y)) h
    simp only [sH,List.length_append,List.length_replicate,List.length_singleton,List.length_take]at this ⊢
    omega
  have h3:=EM (bH (y.take (y.length-1)) x) (bH (sH (y.length-1) (lead y)) (x.take (x.length-1)))
  rw [←hu]at h3
  omega
 refine⟨(List.range (x.length+y.length-2)).map (nth u),by simp,?_⟩
 have kQ:lead x*lead y≠0:=Int.mul_ne_zero lx ly
 refine Cn.ext (Cn.bH _ _) (iZ kQ _) fun t=>?_
 rw [eH,kC hul,oW,hu,qS,dP,dP,dP,oZ,KV hx,KV hy]
 simp only [List.length_map,List.length_range]
 rw [show x.length+y.length-2=(x.length-1)+(y.length-1)by omega,Int.pow_add]
 grind
theorem kE{x y:List Int}(cx:Cn x)(cy:Cn y)(hx:0<x.length)(hy:0<y.length):(bH x y).length=x.length+y.length-1:=by
 obtain⟨w,h1,h2⟩:=OI cx cy hx hy
 rw [h2,List.length_append,h1,List.length_singleton];omega
theorem zW{x y:List Int}(cx:Cn x)(cy:Cn y)(hx:0<x.length)(hy:0<y.length):lead (bH x y)=lead x*lead y:=by
 obtain⟨w,h1,h2⟩:=OI cx cy hx hy
 rw [h2,lead,List.length_append,List.length_singleton,Nat.add_sub_cancel,dE (by simp)]
 simp
theorem IB{u y h:List Int}(cu:Cn u)(cy:Cn y)(hy:0<y.length)(e:∀t,V t u=V t y*V t h)(hl:u.length<y.length):u = []:=by
 have e2:u=bH y (aL h):=Cn.ext cu (Cn.bH _ _) fun t=>by rw [dP,dF,e t]
 rcases Nat.eq_zero_or_pos (aL h).length with h0 | h0
 ·have:aL h = []:=List.eq_nil_of_length_eq_zero h0
  rw [e2,this,OH]
 ·have:=kE cy (Cn.cut h) hy h0
  rw [←e2]at this;omega
theorem p7(i:Nat):nth ([]:List Int) i=0:=iF (by simp)
theorem uM(a:Int)(l:List Int):nth (a::l) 0=a:=rfl
theorem kF(a:Int)(l:List Int)(i:Nat):nth (a::l) (i+1)=nth l i:=by simp [nth]
theorem jI:∀(x:List Int) (i:Nat),nth (aL x) i=nth x i
 | [],i=>rfl
 | a::l,i=>by
  rw [aL]
  split
  ·rename_i h
   cases i with
   | zero=>rw [p7,uM,h.2]
   | succ i=>rw [kF,←jI l i,h.1,p7,p7]
  ·cases i with
   | zero=>rfl
   | succ i=>rw [kF,kF,jI l i]
theorem xV(x y:List Int)(i:Nat):nth (fL x y) i=nth x i+nth y i:=by
 rw [fL,jI]
 rcases Nat.lt_or_ge i (max x.length y.length)with h | h
 ·rw [dE (by simpa using h)];simp
 ·rw [iF (by simpa using h),iF (l:=x) (by omega),iF (l:=y) (by omega)];rfl
theorem jX(c:Int)(x:List Int)(i:Nat):nth (x.map (· * c)) i=nth x i*c:=uK (f:=fun v=>v*c) (Int.zero_mul c) x i
theorem T6(c:Int)(x:List Int)(i:Nat):nth (aN x c) i=nth x i*c:=by rw [aN,jI];exact jX c x i
theorem tE(k:Int)(x y:List Int):nth (bH (k::x) y) 0=nth y 0*k:=by
 rw [bH,jI,i6,xV,uM,jX,Int.add_zero]
theorem oB(k:Int)(x y:List Int)(i:Nat):nth (bH (k::x) y) (i+1)=nth y (i+1)*k+nth (bH x y) i:=by
 rw [bH,jI,i6,xV,kF,jX,bH,jI]
theorem IC(x y:List Int):bH x y=bH y x:=Cn.ext (Cn.bH _ _) (Cn.bH _ _) fun t=>by rw [dP,dP,Int.mul_comm]
def Dv(d:Nat)(x:List Int):Prop:=∀i,(d:Int)∣nth x i
theorem Dv.mem{d:Nat}{x:List Int}(h:Dv d x):∀c∈x,(d:Int)∣c:=fun c hc=>by
 obtain⟨i,hi,rfl⟩:=List.getElem_of_mem hc
 rw [←dE hi];exact h i
theorem Dv.of{d:Nat}{x:List Int}(h:∀c∈x,(d:Int)∣c):Dv d x:=fun i=>by
 rcases Nat.lt_or_ge i x.length with h1 | h1
 ·exact h _ (bS h1)
 ·rw [iF h1];exact Int.dvd_zero _
theorem Dv.cons{d:Nat}{k:Int}{x:List Int}(h1:(d:Int)∣k)(h2:Dv d x):Dv d (k::x):=fun i=>by
 cases i with
 | zero=>exact h1
 | succ i=>rw [kF];exact h2 i
theorem Dv.nil(d:Nat):Dv d []:=fun i=>by rw [p7];exact Int.dvd_zero _
theorem Dv.trans{d e:Nat}{x:List Int}(h:e∣d)(h2:Dv d x):Dv e x:=fun i=>Int.dvd_trans (Int.ofNat_dvd.2 h) (h2 i)
theorem XJ:∀(n d:Nat) (x y:List Int),d+x.length+y.length≤n→0<d→Dv d (bH x y)→(∀e:Nat,e∣d→Dv e y→e=1)→Dv d x
 | n,d,[],y,_,_,_,_=>Dv.nil d
 | n,d,k::x,[],_,_,_,h=>by
  have:=h d (Nat.dvd_refl d) (Dv.nil d)
  subst this
  exact fun i=>Int.one_dvd _
 | 0,d,k::x,l::y,hn,_,_,_=>by simp at hn
 | n+1,d,k::x,l::y,hn,hd,hp,h=>by
  simp only [List.length_cons]at hn
  have h0:=hp 0
  rw [tE,uM]at h0
  obtain⟨g,hg⟩:∃g,g=Nat.gcd d l.natAbs:=⟨_,rfl⟩
  have gd:g∣d:=by rw [hg];exact Nat.gcd_dvd_left _ _
  have gl:(g:Int)∣l:=by rw [hg];exact Int.ofNat_dvd_left.2 (Nat.gcd_dvd_right _ _)
  have g0:0<g:=Nat.pos_of_dvd_of_pos gd hd
  have gle:g≤d:=Nat.le_of_dvd hd gd
  by_cases g1:g=1
  ·have hk:(d:Int)∣k:=by
    have h1:d∣(l*k).natAbs:=Int.ofNat_dvd_left.1 h0
    rw [Int.natAbs_mul]at h1
    exact Int.ofNat_dvd_left.2 (Nat.Coprime.dvd_of_dvd_mul_left (show Nat.gcd d l.natAbs=1 by omega) h1)
   refine Dv.cons hk (XJ n d x (l::y) (by simp only [List.length_cons];omega) hd (fun i=>?_) h)
   have h1:=hp (i+1)
   rw [oB]at h1
   exact(Int.dvd_add_right (Int.dvd_trans hk (Int.dvd_mul_left _ _))).1 h1
  ·have hgx:Dv g (k::x):=by
    refine XJ n g (k::x) y (by simp only [List.length_cons];omega) g0 (fun i=>?_) (fun e he hy=>h e (Nat.dvd_trans he gd) (Dv.cons (Int.dvd_trans (Int.ofNat_dvd.2 he) gl) hy))
    have h1:=Dv.trans gd hp (i+1)
    rw [IC,oB,IC y]at h1
    exact(Int.dvd_add_right (Int.dvd_trans gl (Int.dvd_mul_left _ _))).1 h1
   obtain⟨d',rfl⟩:=gd
   have hd':0<d':=Nat.pos_of_mul_pos_left hd
   have c8:d'<g*d':=by
    have:2*d'≤g*d':=Nat.mul_le_mul_right _ (by omega)
    omega
   obtain⟨x',HO⟩:∃x':List Int,x'=(k::x).map (· / (g:Int)):=⟨_,rfl⟩
   have hxe:x'.map (· * (g:Int))=k::x:=by
    rw [HO,List.map_map]
    refine(List.map_congr_left fun v hv=>?_).trans (List.map_id _)
    exact Int.ediv_mul_cancel (hgx.mem v hv)
   have hxl:x'.length=x.length+1:=by rw [HO];simp
   have hpe:bH (k::x) (l::y)=aN (bH x' (l::y)) g:=Cn.ext (Cn.bH _ _) (Cn.aN _ _) fun t=>by
    have:=iN (t:=t) (g:Int) id x'
    simp only [id_eq,List.map_id_fun]at this
    rw [cR,dP,dP,←hxe,this];grind
   have ih:=XJ n d' x' (l::y) (by simp only [List.length_cons];omega) hd' (fun i=>by
    have h1:=hp i
    rw [hpe,T6,Int.natCast_mul,Int.mul_comm]at h1
    exact Int.dvd_of_mul_dvd_mul_right (by omega) h1) (fun e he=>h e (Nat.dvd_trans he (Nat.dvd_mul_left _ _)))
   rw [←hxe]
   intro i
   rw [jX,Int.natCast_mul,Int.mul_comm]
   exact Int.mul_dvd_mul (ih i) (Int.dvd_refl _)
termination_by n _ x y=>n
end Pm
