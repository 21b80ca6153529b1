import Derived.ProofKit
import Derived.JoinedOf
import Derived.SizedLaws
import Derived.Carry
import Derived.Deep.Slices
import Derived.Test.YtiobceocpabjdaaGreatGad
set_option linter.unusedSimpArgs false
set_option linter.unusedVariables false
namespace Pm
variable {α β:Type}{i k n m:Nat}{x y t:Int}{l:List Int}
def V(b:Int):List Int->Int
 | []=>0
 | x::l=>x+b*V b l
def cV(b:Int)(l:List Int):Prop:=∀x∈l,0<=x∧x<b
def Hk(b:Nat):Nat->Nat->List Int
 | 0,_=>[]
 | f+1,n=>if n=0 then []else((n%b:Nat):Int)::Hk b f (n/b)
def aI(b n:Nat):List Int:=Hk b n n
def aK:List Int->List Int
 | []=>[]
 | x::l=>if aK l = []∧x=0 then []else x::aK l
theorem jy:∀l:List Int,aK (l ++ [0])=aK l
 | []=>by simp [aK]
 | x::l=>by simp [aK,jy l]
theorem iJ{x:Int}(h:x≠0):∀l:List Int,aK (l ++ [x])=l ++ [x]
 | []=>by
  show aK [x] = [x]
  rw [aK,if_neg (fun hh=>h hh.2)];rfl
 | y::l=>by
  have ih:=iJ h l;have hn:¬(l ++ [x] = []∧y=0):=av;show aK (y::(l ++ [x]))=y::(l ++ [x])
  rw [aK,ih,if_neg hn]
theorem bS:∀l:List Int,(aK l).length<=l.length
 | []=>by simp [aK]
 | x::l=>by
  have:=bS l;simp only [aK]
  split
  ·simp
  ·simpa using this
theorem bJ[Inhabited α]{l:List α}(h:i<l.length):nth l i=l[i]:=by unfold nth;rw [List.getElem?_eq_getElem h];rfl
theorem ir[Inhabited α]{l:List α}(h:l.length<=i):nth l i=default:=by unfold nth;rw [List.getElem?_eq_none h];rfl
theorem bt[Inhabited α]{l:List α}(h:i<l.length):l.take (i+1)=l.take i ++ [nth l i]:=by rw [bJ h,List.take_succ_eq_append_getElem h]
theorem bo[Inhabited α]{l:List α}(h:i<l.length):nth l i∈l:=by rw [bJ h];exact List.getElem_mem h
theorem fe[Inhabited α]{l:List α}{x:α}(h:i<l.length):nth (l.set i x) i=x:=by rw [bJ (au h)];simp
theorem gG[Inhabited α]{l:List α}{j:Nat}{x:α}(h:i≠j):nth (l.set i x) j=nth l j:=by unfold nth;rw [List.getElem?_set_ne h]
theorem fu[Inhabited α]{l:List α}(h:i<l.length):l.drop i=nth l i::l.drop (i+1):=by rw [bJ h];exact List.drop_eq_getElem_cons h
theorem gD{l:List α}{x:α}(h:k<=i):(l.set i x).take k=l.take k:=by rw [List.take_set];exact List.set_eq_of_length_le (by simp;omega)
section
variable {b:Int}
theorem cV.nil:cV b []:=by simp [cV]
theorem cV.cons:cV b (x::l)↔(0<=x∧x<b)∧cV b l:=by simp [cV]
theorem cV.append{a c:List Int}:cV b (a++c)↔cV b a∧cV b c:=by
 simp only [cV,List.mem_append]
 constructor
 ·intro h;exact⟨fun x hx=>h x (.inl hx),fun x hx=>h x (.inr hx)⟩
 ·rintro⟨h1,h2⟩ x (hx | hx)
  ·exact h1 x hx
  ·exact h2 x hx
theorem cV.take(h:cV b l)(n:Nat):cV b (l.take n):=fun x hx=>h x (List.mem_of_mem_take hx)
theorem cV.drop(h:cV b l)(n:Nat):cV b (l.drop n):=fun x hx=>h x (List.mem_of_mem_drop hx)
theorem cV.nth(h:cV b l)(hi:i<l.length):0<=nth l i∧nth l i<b:=by rw [bJ hi];exact h _ (List.getElem_mem hi)
theorem cV.set(h:cV b l)(hx:0<=x∧x<b):cV b (l.set i x):=fun y hy=>by
 rcases List.mem_or_eq_of_mem_set hy with h1 | h1
 ·exact h y h1
 ·rw [h1];exact hx
theorem cV.rep(hb:0<b)(n:Nat):cV b (List.replicate n 0):=fun x hx=>by rw [(List.mem_replicate.1 hx).2];omega
theorem bH(hb:0<b):∀ {l:List Int},cV b l->0<=V b l
 | [],_=>by simp [V]
 | x::l,h=>by have h1:=bH hb (cV.cons.1 h).2;have h2:=(cV.cons.1 h).1;have h3:=Int.mul_nonneg (Int.le_of_lt hb) h1;simp only [V];omega
theorem dK:∀(a c:List Int),V b (a++c)=V b a+b^a.length*V b c
 | [],c=>by simp [V]
 | x::a,c=>by simp only [List.cons_append,V,dK a c,List.length_cons,Int.pow_succ];grind
theorem nv:V b [x]=x:=by simp [V]
theorem nZ(hb:0<b):∀ {l:List Int},cV b l->V b l<b^l.length
 | [],_=>by simp [V]
 | x::l,h=>by have h1:=nZ hb (cV.cons.1 h).2;have h2:=(cV.cons.1 h).1;have h3:b*(V b l+1)<=b*b^l.length:=Int.mul_le_mul_of_nonneg_left aa aa;rw [Int.mul_add]at h3;simp only [V,List.length_cons,Int.pow_succ,Int.mul_comm _ b];omega
theorem aT(h:i<l.length):V b (l.take (i+1))=V b (l.take i)+b^i*nth l i:=by rw [bt h,dK,nv];simp [Nat.min_eq_left (Nat.le_of_lt h)]
theorem aZ(h:l.length<=i):V b (l.take i)=V b l:=by rw [List.take_of_length_le h]
theorem fw(h:i<l.length):V b ((l.set i x).take (i+1))=V b (l.take i)+b^i*x:=by rw [aT (au h),gD (Nat.le_refl _),fe h]
theorem Dg(h:i<l.length):V b (l.set i x)=V b l+b^i*(x-nth l i):=by
 induction l generalizing i with
 | nil=>simp at h
 | cons y l ih =>
  cases i with
  | zero=>simp only [List.set_cons_zero,V,Int.pow_zero,nth,List.getElem?_cons_zero,Option.getD_some];omega
  | succ i =>
   have e:nth (y::l) (i+1)=nth l i:=(by simp [nth]);simp only [List.set_cons_succ,V,e,Int.pow_succ];rw [ih (au h)];grind
theorem pW:∀n:Nat,V b (List.replicate n 0)=0
 | 0=>rfl
 | n+1=>by simp [List.replicate_succ,V,pW n]
end
section
variable {b:Int}
theorem c8:∀l:List Int,V b (aK l)=V b l
 | []=>rfl
 | x::l=>by
  have ih:=c8 l;simp only [aK]
  split
  ·rename_i h;rw [h.1]at ih;simp only [V]at ih |-;rw [<-ih,h.2];simp
  ·simp [V,ih]
theorem eh(h:cV b l):cV b (aK l):=by
 induction l with
 | nil=>exact h
 | cons x l ih =>
  obtain⟨h1,h2⟩:=cV.cons.1 h;simp only [aK]
  split
  ·exact cV.nil
  ·exact cV.cons.2 ⟨h1,ih h2⟩
end
section
variable {b:Nat}
theorem M7(hb:2<=b):∀(f g n:Nat),n<=f->n<=g->Hk b f n=Hk b g n
 | 0,g,n,h,_=>by have:n=0:=aa;subst this;cases g<;>simp [Hk]
 | f+1,0,n,_,h=>by have:n=0:=aa;subst this;simp [Hk]
 | f+1,g+1,n,h1,h2=>by
  simp only [Hk]
  by_cases hn:n=0
  ·simp [hn]
  ·simp only [hn,if_false];have:n/b<n:=Nat.div_lt_self aa hb;rw [M7 hb f g _ aa aa]
theorem kY:aI b 0 = []:=rfl
theorem rh(hb:2<=b)(h:n≠0):aI b n=((n%b:Nat):Int)::aI b (n/b):=by
 cases n with
 | zero=>exact absurd rfl h
 | succ n =>
  simp only [aI];rw [Hk];simp only [h,if_false];have:(n+1)/b<n+1:=Nat.div_lt_self aa hb;rw [M7 hb n _ _ aa (Nat.le_refl _)]
theorem Hl(hb:2<=b)(n:Nat):V b (aI b n)=n∧cV b (aI b n):=by
 induction n using Nat.strongRecOn with
 | _ n ih =>
  by_cases h:n=0
  ·subst h;simp [kY,V,cV]
  ·rw [rh hb h];obtain⟨h1,h2⟩:=ih (n/b) (Nat.div_lt_self aa hb);have h3:=Nat.mod_lt n (show 0<b by omega);have h4:=Nat.mod_add_div n b;simp only [V,h1,cV.cons];refine⟨by exact_mod_cast h4,⟨aa,aa⟩,h2⟩
theorem jT(hb:2<=b)(n:Nat):V b (aI b n)=n:=(Hl hb n).1
theorem fy(hb:2<=b)(n:Nat):cV b (aI b n):=(Hl hb n).2
theorem eT(hb:2<=b):aI b n = []↔n=0:=by
 constructor
 ·intro h;have:=jT hb n;rw [h]at this;simp [V]at this;omega
 ·rintro rfl;rfl
theorem rj(hb:2<=b):∀ {l:List Int},cV b l->aK l=aI b (V b l).toNat
 | [],_=>rfl
 | x::l,h=>by
  obtain⟨h1,h2⟩:=cV.cons.1 h;have ih:=rj hb h2;have h3:=bH aa h2;simp only [aK,ih,eT hb,V];obtain⟨m,hm⟩:=Int.eq_ofNat_of_zero_le h3;obtain⟨y,hy⟩:=Int.eq_ofNat_of_zero_le h1.1;subst hy;rw [hm];have e0:((y:Int)+b*m).toNat=y+b*m:=by rw [show((y:Int)+b*m)=((y+b*m:Nat):Int)by simp];exact Int.toNat_natCast _
  rw [e0,Int.toNat_natCast]
  by_cases hz:m=0∧y=0
  ·obtain⟨rfl,rfl⟩:=hz;simp [kY]
  ·rw [if_neg aa];have hyb:y<b:=aa;have e1:(y+b*m)/b=m:=(by rw [Nat.add_mul_div_left _ _ aa,Nat.div_eq_of_lt hyb];simp);have e2:(y+b*m)%b=y:=by rw [Nat.add_mul_mod_self_left,Nat.mod_eq_of_lt hyb]
   have km:y+b*m≠0:=(by intro h0;have h5:b*m=0:=aa;rcases Nat.mul_eq_zero.1 h5 with h6 | h6<;>omega);rw [rh hb km,e1,e2]
theorem yX(hb:2<=b)(h:n<b^k):(aI b n).length<=k:=by
 induction k generalizing n with
 | zero => have:n=0:=au h
           subst this;simp [kY]
 | succ k ih =>
  by_cases h0:n=0
  ·subst h0;simp [kY]
  ·rw [rh hb h0];have:n/b<b^k:=(by rw [Nat.pow_succ,Nat.mul_comm]at h;exact Nat.div_lt_of_lt_mul h);simpa using ih this
theorem jz(hb:2<=b)(n:Nat):aK (aI b n)=aI b n:=by rw [rj hb (fy hb n),jT hb];simp
end
section
variable {b:Int}
theorem jU(l:List Int)(i:Nat)(h:i<=l.length):V b l=V b (l.take i)+b^i*V b (l.drop i):=by
 conv=>lhs;rw [<-List.take_append_drop i l]
 rw [dK];simp [Nat.min_eq_left h]
theorem AF(h:i<l.length):V b l=V b (l.take i)+b^i*nth l i+b^(i+1)*V b (l.drop (i+1)):=by rw [jU l (i+1) aa,aT h]
theorem nB(hb:0<b){x y:List Int}(lx:cV b x)(ly:cV b y)(hl:x.length=y.length)(hi:i<x.length)(hd:x.drop (i+1)=y.drop (i+1))(h:nth x i<nth y i):V b x<V b y:=by rw [AF hi,AF (l:=y) (i:=i) aa,hd];have h1:=nZ hb (lx.take i);have h2:=bH hb (ly.take i);rw [List.length_take,Nat.min_eq_left aa]at h1;have h3:b^i*(nth x i+1)<=b^i*nth y i:=Int.mul_le_mul_of_nonneg_left aa (Int.le_of_lt (Int.pow_pos hb));rw [Int.mul_add]at h3;omega
theorem ku(hb:1<=b):∀ {l:List Int},cV b l->aK l=l->l ≠ []->b^(l.length-1)<=V b l
 | [],_,_,h=>absurd rfl h
 | [x],hl,hc,_=>by
  have h1:=(cV.cons.1 hl).1;have h2:x≠0:=fun h=>by subst h;simp [aK]at hc
  simp [V];omega
 | x::y::l,hl,hc,_=>by
  have h1:=(cV.cons.1 hl).1
  have JR:aK (y::l)=y::l:=by
   rw [aK]at hc
   split at hc
   ·cases hc
   ·exact(List.cons.inj hc).2
  have ih:=ku hb (cV.cons.1 hl).2 JR av;simp only [List.length_cons,Nat.add_sub_cancel]at ih |-;rw [Int.pow_succ,V];have:=Int.mul_le_mul_of_nonneg_left ih (show 0<=b by omega);rw [Int.mul_comm b]at this;omega
theorem eD:∀l:List Int,aK (aK l)=aK l
 | []=>rfl
 | x::l=>by
  have ih:=eD l;rw [aK]
  split
  ·rfl
  ·rename_i h;rw [aK,ih,if_neg h]
theorem jA(hb:1<=b){x y:List Int}(lx:cV b x)(ly:cV b y)(hy:aK y=y)(h:x.length<y.length):V b x<V b y:=by
 have h1:=nZ aa lx;have h2:=ku hb ly hy (by intro h0;rw [h0]at h;simp at h)
 have h3:b^x.length<=b^(y.length-1):=by
  obtain⟨k,hk⟩:∃k,y.length-1=x.length+k:=⟨y.length-1-x.length,aa⟩
  rw [hk,Int.pow_add];have:1<=b^k:=Int.pow_pos aa;have:=Int.mul_le_mul_of_nonneg_left this (show 0<=b^x.length from Int.le_of_lt (Int.pow_pos aa));simpa using this
 omega
end
def dc(x y:Int):Int:=if x<y then -1 else if y<x then 1 else 0
theorem kK(h:x<y):dc x y = -1:=by simp [dc,h]
theorem kN(h:y<x):dc x y=1:=by simp [dc,h];omega
theorem ve(x:Int):dc x x=0:=by simp [dc]
theorem kZ:dc x y<0↔x<y:=by simp only [dc];split<;>(try split)<;>omega
theorem rm:0<=dc x y↔y<=x:=by simp only [dc];split<;>(try split)<;>omega
theorem sE:dc x y=0↔x=y:=by simp only [dc];split<;>(try split)<;>omega
theorem k8:0<dc x y↔y<x:=by simp only [dc];split<;>(try split)<;>omega
section
variable {b:Nat}
def sz(b:Nat)(x:Int):Nat:=(aI b x.natAbs).length
theorem iu(hb:2<=b)(x:Int):x.natAbs<b^sz b x:=by have h1:=nZ (b:=(b:Int)) aa (fy hb x.natAbs);rw [jT hb]at h1;have h2:((b:Int)^(aI b x.natAbs).length)=((b^(aI b x.natAbs).length:Nat):Int):=av;rw [h2]at h1;unfold sz;omega
theorem dp(hb:2<=b)(h:x.natAbs<b^k):sz b x<=k:=yX hb h
theorem vg(hb:2<=b)(h:m<=n):b^m<=b^n:=Nat.pow_le_pow_right aa h
theorem mA(hb:2<=b)(hx:sz b x<=k)(hy:sz b y<=k):sz b (x+y)<=k+1:=by refine dp hb ?_;have h1:=Nat.lt_of_lt_of_le (iu hb x) (vg hb hx);have h2:=Nat.lt_of_lt_of_le (iu hb y) (vg hb hy);rw [Nat.pow_succ];have h3:b^k*2<=b^k*b:=Nat.mul_le_mul_left _ hb;omega
theorem ct(hb:2<=b)(hx:sz b x<=k)(hy:sz b y<=m):sz b (x*y)<=k+m:=by refine dp hb ?_;have h1:=Nat.lt_of_lt_of_le (iu hb x) (vg hb hx);have h2:=Nat.lt_of_lt_of_le (iu hb y) (vg hb hy);rw [Int.natAbs_mul,Nat.pow_add];exact Nat.mul_lt_mul'' h1 h2
theorem n4(x:Int):sz b (-x)=sz b x:=by simp [sz]
theorem jV:sz b 0=0:=by simp [sz,kY]
theorem cY(hb:2<=b)(h:x.natAbs<=y.natAbs):sz b x<=sz b y:=dp hb (Nat.lt_of_le_of_lt h (iu hb y))
end
theorem ars{b:Nat}(hb:2<=b)(h:cV b l):sz b (V b l)<=l.length:=by refine dp hb ?_;have h1:=nZ (b:=(b:Int)) aa h;have h2:=bH (b:=(b:Int)) aa h;have h3:((b:Int)^l.length)=((b^l.length:Nat):Int):=av;rw [h3]at h1;omega
theorem bG{l:List α}(h:l.length=n):l.take n=l:=List.take_of_length_le aa
theorem lf{l m:List α}{x:α}(h:l.take i=m)(hi:i<l.length):(l.set i x).take (i+1)=m ++ [x]:=by subst h;rw [List.take_succ_eq_append_getElem (au hi),gD (Nat.le_refl _)];simp
theorem n5[Inhabited α]{l:List α}{f:α->β}(h:i<l.length):(l.take (i+1)).map f=(l.take i).map f ++ [f (nth l i)]:=by rw [bt h];simp
theorem yY[Inhabited α][Inhabited β]{f:α->β}(h:f default=default)(l:List α)(k:Nat):nth (l.map f) k=f (nth l k):=by
 unfold nth;cases hk:l[k]? with
 | none=>simp [hk,h]
 | some x=>simp [hk]
theorem sF{t:Int}{α:Type}(f g:α->Int):∀l:List α,V t (l.map fun k=>f k+g k)=V t (l.map f)+V t (l.map g)
 | []=>by simp [V]
 | x::l=>by simp only [List.map_cons,V,sF f g l];grind
theorem gO{t:Int}{α:Type}(c:Int)(f:α->Int):∀l:List α,V t (l.map fun k=>f k*c)=V t (l.map f)*c
 | []=>by simp [V]
 | x::l=>by simp only [List.map_cons,V,gO c f l];grind
theorem oE{x:List Int}(h:x.length<=n):(List.range n).map (nth x)=x++List.replicate (n-x.length) 0:=by
 apply List.ext_getElem
 ·simp;omega
 ·intro i h1 h2;simp at h1
  by_cases hi:i<x.length
  ·simp [List.getElem_append,hi,bJ hi]
  ·simp [List.getElem_append,hi];exact ir aa
theorem jB{x:List Int}(h:x.length<=n):V t ((List.range n).map (nth x))=V t x:=by rw [oE h,dK,pW];simp
theorem w6{N a b:Int}{A B:Int->Int}(h:∀t,N<t->a+t*A t=b+t*B t):a=b ∧ ∀t,max N 0<t->A t=B t:=by
 have fm:a=b:=by
  have h1:=h (max N 0+(b-a).natAbs+1) aa;generalize hT:max N 0+(b-a).natAbs+1=T at *;have h2:b-a=T*(A T-B T):=by rw [Int.mul_sub];omega
  have h3:T∣b-a:=⟨_,h2⟩
  have h4:=Nat.eq_zero_of_dvd_of_lt (Int.natAbs_dvd_natAbs.2 h3) aa;omega
 refine⟨fm,fun t ht=>?_⟩;have h1:=h t aa;have h2:t*A t=t*B t:=aa;exact Int.eq_of_mul_eq_mul_left aa h2
theorem o6:∀(x y:List Int) (N:Int),(∀t,N<t->V t x=V t y)->aK x=aK y
 | [],[],_,_=>rfl
 | [],b::y,N,h=>by obtain⟨h1,h2⟩:=w6 (N:=N) (a:=0) (b:=b) (A:=fun _=>0) (B:=fun t=>V t y) (fun t ht=>by have:=h t ht;simp only [V]at this;omega);have:=o6 [] y (max N 0) (fun t ht=>by have:=h2 t ht;simpa [V]using this);simp only [aK]at this |-;rw [<-this];simp [<-h1]
 | a::x,[],N,h=>by obtain⟨h1,h2⟩:=w6 (N:=N) (a:=a) (b:=0) (A:=fun t=>V t x) (B:=fun _=>0) (fun t ht=>by have:=h t ht;simp only [V]at this;omega);have:=o6 x [] (max N 0) (fun t ht=>by have:=h2 t ht;simpa [V]using this);simp only [aK]at this |-;rw [this];simp [h1]
 | a::x,b::y,N,h=>by obtain⟨h1,h2⟩:=w6 (N:=N) (a:=a) (b:=b) (A:=fun t=>V t x) (B:=fun t=>V t y) (fun t ht=>h t ht);have:=o6 x y (max N 0) h2;simp only [aK];rw [this,h1]
theorem afk{x y:List Int}(h:∀t,V t x=V t y):aK x=aK y:=o6 x y 0 fun t _=>h t
def iw(x y:List Int):List Int:=aK ((List.range (max x.length y.length)).map fun k=>nth x k+nth y k)
def fC(x y:List Int):List Int:=aK ((List.range (max x.length y.length)).map fun k=>nth x k-nth y k)
def gL(x:List Int):List Int:=aK (x.map fun c => -c)
def aY(x:List Int)(c:Int):List Int:=aK (x.map fun a=>a*c)
def gE:List Int->List Int->List Int
 | [],_=>[]
 | a::x,y=>iw (y.map fun c=>c*a) (0::gE x y)
def bN(x y:List Int):List Int:=aK (gE x y)
theorem rp(x y:List Int):V t (iw x y)=V t x+V t y:=by rw [iw,c8,sF,jB aa,jB aa]
theorem AG(x:List Int):V t (gL x) = - V t x:=by have:=gO (t:=t) (-1) id x;rw [gL,c8];simp only [id_eq,Int.mul_neg,Int.mul_one,List.map_id_fun]at this;exact this
theorem cM(x:List Int)(c:Int):V t (aY x c)=V t x*c:=by have:=gO (t:=t) c id x;rw [aY,c8];simpa using this
theorem iT(x y:List Int):V t (fC x y)=V t x-V t y:=by
 rw [fC,c8];have h1:=sF (t:=t) (fun k=>nth x k-nth y k) (nth y) (List.range (max x.length y.length));have h2:(fun k=>nth x k-nth y k+nth y k)=nth x:=by funext k;omega
 rw [h2,jB aa,jB aa]at h1;omega
theorem M8{t:Int}:∀x y:List Int,V t (gE x y)=V t x*V t y
 | [],y=>by simp [gE,V]
 | a::x,y=>by have:=gO (t:=t) a id y;simp only [id_eq,List.map_id_fun]at this;rw [gE,rp,this];simp only [V,M8 x y];grind
theorem dq(x y:List Int):V t (bN x y)=V t x*V t y:=by rw [bN,c8,M8]
def Cn(x:List Int):Prop:=aK x=x
theorem Cn.iw(x y:List Int):Cn (iw x y):=eD _
theorem Cn.fC(x y:List Int):Cn (fC x y):=eD _
theorem Cn.gL(x:List Int):Cn (gL x):=eD _
theorem Cn.aY(x:List Int)(c:Int):Cn (aY x c):=eD _
theorem Cn.bN(x y:List Int):Cn (bN x y):=eD _
theorem Cn.cut(x:List Int):Cn (aK x):=eD _
theorem Cn.nil:Cn []:=rfl
theorem Cn.ext{x y:List Int}(hx:Cn x)(hy:Cn y)(h:∀t,V t x=V t y):x=y:=by rw [<-hx,<-hy];exact afk h
structure Bd(b s n:Nat)(x:List Int):Prop where
 len:x.length<=n
 sz:∀c∈x,sz b c<=s
theorem oF:∀(x:List Int) (c:Int),c∈aK x->c∈x
 | [],c,h=>h
 | a::x,c,h=>by
  rw [aK]at h
  split at h
  ·cases h
  ·rcases List.mem_cons.1 h with h1 | h1
   ·simp [h1]
   ·exact List.mem_cons_of_mem _ (oF x c h1)
section
variable {b s s' n n':Nat} {x y:List Int}
theorem Bd.mono(h:Bd b s n x)(hs:s<=s')(hn:n<=n'):Bd b s' n' x:=⟨Nat.le_trans h.len hn,fun c hc=>Nat.le_trans (h.sz c hc) hs⟩
theorem Bd.cut(h:Bd b s n x):Bd b s n (aK x):=⟨Nat.le_trans (bS x) h.len,fun c hc=>h.sz c (oF x c hc)⟩
theorem Bd.nth(h:Bd b s n x)(i:Nat):Pm.sz b (nth x i)<=s:=by
 by_cases hi:i<x.length
 ·exact h.sz _ (bo hi)
 ·rw [ir aa];show Pm.sz b 0<=s;rw [jV];omega
theorem Bd.iw(hb:2<=b)(hx:Bd b s n x)(hy:Bd b s n y):Bd b (s+1) n (iw x y):=by refine Bd.cut ⟨by have:=hx.len;have:=hy.len;simp;omega,fun c hc=>?_⟩;simp only [List.mem_map]at hc;obtain⟨k,_,rfl⟩:=hc;exact mA hb (hx.nth k) (hy.nth k)
theorem Bd.fC(hb:2<=b)(hx:Bd b s n x)(hy:Bd b s n y):Bd b (s+1) n (fC x y):=by refine Bd.cut ⟨by have:=hx.len;have:=hy.len;simp;omega,fun c hc=>?_⟩;simp only [List.mem_map]at hc;obtain⟨k,_,rfl⟩:=hc;rw [Int.sub_eq_add_neg];exact mA hb (hx.nth k) (by rw [n4];exact hy.nth k)
theorem Bd.gL(hx:Bd b s n x):Bd b s n (gL x):=by refine Bd.cut ⟨by simpa using hx.len,fun c hc=>?_⟩;simp only [List.mem_map]at hc;obtain⟨k,hk,rfl⟩:=hc;rw [n4];exact hx.sz k hk
theorem Bd.aY(hb:2<=b)(hx:Bd b s n x){c:Int}(hc:Pm.sz b c<=s'):Bd b (s+s') n (aY x c):=by refine Bd.cut ⟨by simpa using hx.len,fun d hd=>?_⟩;simp only [List.mem_map]at hd;obtain⟨k,hk,rfl⟩:=hd;exact ct hb (hx.sz k hk) hc
theorem Bd.gE(hb:2<=b)(hy:Bd b s' n' y):∀ {x:List Int} {n:Nat},Bd b s n x->Bd b (s+s'+n) (n+n') (gE x y)
 | [],n,_=>⟨by simp [Pm.gE],by simp [Pm.gE]⟩
 | a::x,0,h=>by have:=h.len;simp at this
 | a::x,n+1,h=>by
  have h1:Bd b s n x:=⟨by have:=h.len;simpa using this,fun c hc=>h.sz c (List.mem_cons_of_mem _ hc)⟩
  have h2:=Bd.gE hb hy h1
  have h3:Bd b (s+s'+n) (n+1+n') (0::Pm.gE x y):=⟨by have:=h2.len;simp;omega,fun c hc=>by
   rcases List.mem_cons.1 hc with h4 | h4
   ·rw [h4,jV];omega
   ·exact h2.sz c h4⟩
  have h4:Bd b (s+s'+n) (n+1+n') (y.map fun c=>c*a):=⟨by have:=hy.len;simp;omega,fun d hd=>by simp only [List.mem_map]at hd;obtain⟨k,hk,rfl⟩:=hd;have:=ct hb (hy.sz k hk) (h.sz a av);omega⟩
  have:=Bd.iw hb h4 h3;rw [Pm.gE];exact this.mono aa aa
theorem Bd.bN(hb:2<=b)(hx:Bd b s n x)(hy:Bd b s' n' y):Bd b (s+s'+n) (n+n') (bN x y):=(Bd.gE hb hy hx).cut
end
def nb(n:Nat):Nat:=if n=0 then 0 else n.log2+1
theorem nC:nb n<=k↔n<2^k:=by
 unfold nb
 split
 ·rename_i h;subst h;simp;exact Nat.pow_pos ar
 ·rename_i h;rw [<-Nat.log2_lt h];omega
theorem Hm(h:n/2^k≠0):nb n=k+nb (n/2^k):=by
 apply Nat.le_antisymm
 ·rw [nC,Nat.pow_add];have h1:n/2^k<2^nb (n/2^k):=nC.1 (Nat.le_refl _);have h2:=Nat.lt_mul_of_div_lt h1 (Nat.pow_pos ar);rw [Nat.mul_comm]at h2;exact h2
 ·have h3:∀m,nb n<=m->k+nb (n/2^k)<=m:=by
   intro m hm;rw [nC]at hm
   have XY:k<=m:=by
    rcases Nat.lt_or_ge m k with h4 | h4
    ·exfalso;apply h;apply Nat.div_eq_of_lt;exact Nat.lt_of_lt_of_le hm (Nat.pow_le_pow_right ar aa)
    ·exact h4
   have h5:nb (n/2^k)<=m-k:=(by rw [nC];apply Nat.div_lt_of_lt_mul;rw [<-Nat.pow_add,show k+(m-k)=m by omega];exact hm);omega
  exact h3 _ (Nat.le_refl _)
end Pm
namespace Pm
open Go
variable {a b s:Nat}
theorem T6(h:2^s∣a)(hb:b<2^s):a ||| b=a+b:=by obtain⟨q,rfl⟩:=h;exact(Nat.two_pow_add_eq_or_of_lt hb q).symm
theorem Qd(h:2^s∣a)(hb:b<2^s)(fm:a+b<4294967296):qF .u32 a b=((a+b:Nat):Int):=by
 have h1:((BitVec.ofInt 32 (a:Int)) ||| (BitVec.ofInt 32 (b:Int))).toNat=a+b:=by rw [BitVec.toNat_or,BitVec.toNat_ofInt,BitVec.toNat_ofInt,<-T6 h hb];congr 1<;>omega
 show IntKind.u32.wrap (((BitVec.ofInt 32 (a:Int)) ||| (BitVec.ofInt 32 (b:Int))).toNat:Int)=_;rw [h1];simp only [IntKind.wrap,IntKind.bits,IntKind.signed];simp;omega
theorem Qe(h:2^s∣a)(hb:b<2^s)(fm:a+b<18446744073709551616):qF .u64 a b=((a+b:Nat):Int):=by
 have h1:((BitVec.ofInt 64 (a:Int)) ||| (BitVec.ofInt 64 (b:Int))).toNat=a+b:=by rw [BitVec.toNat_or,BitVec.toNat_ofInt,BitVec.toNat_ofInt,<-T6 h hb];congr 1<;>omega
 show IntKind.u64.wrap (((BitVec.ofInt 64 (a:Int)) ||| (BitVec.ofInt 64 (b:Int))).toNat:Int)=_;rw [h1];simp only [IntKind.wrap,IntKind.bits,IntKind.signed];simp;omega
theorem AH(k:IntKind)(a b:Int):qF k a b=qF k b a:=by unfold qF;rw [BitVec.or_comm]
theorem YW{a b:Int}(s:Nat)(ha:0<=a)(hb0:0<=b)(h:(2^s:Int)∣a)(hb:b<2^s)(fm:a+b<4294967296):qF .u32 a b=a+b∧qF .u32 b a=a+b:=by
 obtain⟨x,rfl⟩:=Int.eq_ofNat_of_zero_le ha;obtain⟨y,rfl⟩:=Int.eq_ofNat_of_zero_le hb0;have h1:2^s∣x:=by exact_mod_cast h
 have h2:y<2^s:=by exact_mod_cast hb
 have:=Qd h1 h2 aa;rw [AH .u32 (y:Int)];refine⟨?_,?_⟩<;>rw [this]<;>simp
theorem yZ{a b:Int}(s:Nat)(ha:0<=a)(hb0:0<=b)(h:(2^s:Int)∣a)(hb:b<2^s)(fm:a+b<18446744073709551616):qF .u64 a b=a+b∧qF .u64 b a=a+b:=by
 obtain⟨x,rfl⟩:=Int.eq_ofNat_of_zero_le ha;obtain⟨y,rfl⟩:=Int.eq_ofNat_of_zero_le hb0;have h1:2^s∣x:=by exact_mod_cast h
 have h2:y<2^s:=by exact_mod_cast hb
 have:=Qe h1 h2 aa;rw [AH .u64 (y:Int)];refine⟨?_,?_⟩<;>rw [this]<;>simp
end Pm
namespace Pm
variable {g r:Int}{d i s n:Nat}{x y b a:List Int}
structure KD(b W top next head x2 X Y:Int):Prop where
 b0:2<=b
 W0:1<=W
 t0:1<=top
 n0:0<=next
 h0:0<=head
 x0:0<=x2
 nb:next<b
 xb:x2<b
 Yl:(top*b+next)*W<=Y
 Yu:Y<(top*b+next+1)*W
 Xl:(head*b+x2)*W<=X
 Xu:X<(head*b+x2+1)*W
 lt:X<b*Y
section
variable {b W top next head x2 X Y:Int} (h:KD b W top next head x2 X Y)
include h
theorem KD.Y0:0<Y:=by
 have h1:1<=top*b+next:=by have:=Int.mul_le_mul_of_nonneg_right h.t0 (show 0<=b by have:=h.b0;omega);have:=h.n0;have:=h.b0;omega
 have:=Int.mul_le_mul h1 h.W0 ar aa;have:=h.Yl;omega
theorem KD.first:X<(head/top+1)*Y:=by
 have h1:head+1<=(head/top+1)*top:=by have:=Int.lt_ediv_add_one_mul_self head (show 0<top by have:=h.t0;omega);omega
 have hg:0<=head/top+1:=by have:=Int.ediv_nonneg h.h0 (show 0<=top by have:=h.t0;omega);omega
 have hbW:0<=b*W:=Int.mul_nonneg (by have:=h.b0;omega) (by have:=h.W0;omega);have h2:=Int.mul_le_mul_of_nonneg_right h1 hbW;have h3:(head*b+x2+1)*W<=(head+1)*(b*W):=by have:(head+1)*(b*W)=(head*b+b)*W:=aG;rw [this];exact Int.mul_le_mul_of_nonneg_right (by have:=h.xb;omega) (by have:=h.W0;omega)
 have h4:top*(b*W)<=Y:=by
  have:top*(b*W)<=(top*b+next)*W:=by have e:top*(b*W)=(top*b)*W:=aG;rw [e];exact Int.mul_le_mul_of_nonneg_right (by have:=h.n0;omega) (by have:=h.W0;omega)
  have:=h.Yl;omega
 have h5:(head/top+1)*top*(b*W)<=(head/top+1)*Y:=by rw [Int.mul_assoc];exact Int.mul_le_mul_of_nonneg_left h4 hg
 have:=h.Xu;omega
theorem KD.big(hg:b<=g):X<g*Y:=by have:=Int.mul_le_mul_of_nonneg_right hg (Int.le_of_lt h.Y0);have:=h.lt;omega
theorem KD.over(hg:0<=g)(hr:g*top+r=head)(ho:r*b+x2<g*next):X<g*Y:=by
 have h1:head*b+x2+1<=g*(top*b+next):=by
  have:g*(top*b+next)=(g*top)*b+g*next:=aG
  have h2:g*top=head-r:=aa;have h3:(head-r)*b=head*b-r*b:=aG;rw [this,h2,h3];omega
 have h2:=Int.mul_le_mul_of_nonneg_right h1 (show 0<=W by have:=h.W0;omega);have h3:=Int.mul_le_mul_of_nonneg_left h.Yl hg;rw [<-Int.mul_assoc]at h3;have:=h.Xu;omega
theorem KD.o7(hg:0<=g)(Gk:g<b)(hr:g*top+r=head)(hn:g*next<=r*b+x2):g*Y<X+Y:=by
 have h1:g*(top*b+next)<=head*b+x2:=by
  have:g*(top*b+next)=(g*top)*b+g*next:=aG
  have h2:g*top=head-r:=aa;have h3:(head-r)*b=head*b-r*b:=aG;rw [this,h2,h3];omega
 have h2:=Int.mul_le_mul_of_nonneg_right h1 (show 0<=W by have:=h.W0;omega)
 have h3:g*Y<=g*((top*b+next)*W)+g*W:=by
  have h4:Y<=(top*b+next)*W+W:=by have:=h.Yu;grind
  have:=Int.mul_le_mul_of_nonneg_left h4 hg;rw [Int.mul_add]at this;exact this
 have h5:g*W<b*W:=Int.mul_lt_mul_of_pos_right Gk (by have:=h.W0;omega);have h6:b*W<=Y:=by have h7:b*W<=(top*b+next)*W:=Int.mul_le_mul_of_nonneg_right (by have:=Int.mul_le_mul_of_nonneg_right h.t0 (show 0<=b by have:=h.b0;omega);have:=h.n0;omega) (by have:=h.W0;omega);have:=h.Yl;omega
 rw [<-Int.mul_assoc]at h3;have:=h.Xl;omega
theorem KD.alz(hg:0<=g)(Gk:g<b)(hr:b<=r):g*next<=r*b+x2:=by
 have h1:g*next<=b*b:=Int.mul_le_mul aa (by have:=h.nb;omega) h.n0 (by have:=h.b0;omega)
 have h2:b*b<=r*b:=Int.mul_le_mul_of_nonneg_right hr (by have:=h.b0;omega);have:=h.x0;omega
theorem KD.T7(hh:head<=top*b+b-1)(he:g*top+r=head)(hr:b<=r):g<b:=by
 rcases Int.lt_or_le g b with h1 | h1
 ·exact h1
 ·have:=Int.mul_le_mul_of_nonneg_right h1 (show 0<=top by have:=h.t0;omega);rw [Int.mul_comm b]at this;omega
theorem KD.right(h1:X<(g+1)*Y)(h2:0<=X-g*Y):g=X/Y∧X-g*Y=X%Y:=by
 have hY:=h.Y0
 have h3:X/Y=g:=by
  have e:(g+1)*Y=g*Y+Y:=aG;rw [Int.ediv_eq_iff_of_pos hY]
  constructor
  ·omega
  ·omega
 refine⟨h3.symm,?_⟩;have:=Int.emod_def X Y;rw [h3,Int.mul_comm]at this;omega
theorem KD.alA(h1:g*Y<X+Y)(h2:X-g*Y<0):g-1=X/Y∧X-g*Y+Y=X%Y:=by have hY:=h.Y0;have e:(g-1)*Y=g*Y-Y:=aG;have e2:(g-1+1)*Y=g*Y:=aG;have:=h.right (g:=g-1) (by rw [e2];omega) (by rw [e];omega);rw [e]at this;exact⟨this.1,by have:=this.2;omega⟩
end
theorem T8{d e x x':Int}(hd:0<d)(he:0<e)(Qf:d*e=4294967296)(hx:0<=x∧x<4294967296)(z7:0<=x'∧x'<4294967296) :
  d*(((x+4294967296*x')/d)%4294967296)=x-x%d+4294967296*(x'%d)∧(0<=((x+4294967296*x')/d)%4294967296∧((x+4294967296*x')/d)%4294967296<4294967296):=by
 have h1:(x+4294967296*x')/d=x/d+e*x':=by
  have:x+4294967296*x'=x+d*(e*x'):=by rw [<-Qf];grind
  rw [this,Int.add_mul_ediv_left _ _ aa]
 have h2:x/d<e:=Int.ediv_lt_of_lt_mul hd (by rw [Int.mul_comm,Qf];exact hx.2);have h3:0<=x/d:=Int.ediv_nonneg hx.1 aa
 have h4:e*x'=e*(x'%d)+4294967296*(x'/d):=by
  have:=Int.mul_ediv_add_emod x' d
  calc e*x'=e*(d*(x'/d)+x'%d):=by rw [this]
   _=e*(x'%d)+(d*e)*(x'/d):=by grind
   _=e*(x'%d)+4294967296*(x'/d):=by rw [Qf]
 have h5:0<=x'%d:=Int.emod_nonneg _ aa;have h6:x'%d<d:=Int.emod_lt_of_pos _ hd;have h7:e*(x'%d)+e<=4294967296:=by have:=Int.mul_le_mul_of_nonneg_left (show x'%d+1<=d by omega) (show 0<=e by omega);rw [Int.mul_add,Int.mul_comm e d,Qf]at this;omega
 have h8:0<=e*(x'%d):=Int.mul_nonneg aa h5;have h9:((x+4294967296*x')/d)%4294967296=x/d+e*(x'%d):=by rw [h1,h4,<-Int.add_assoc,Int.add_mul_emod_self_left,Int.emod_eq_of_lt aa aa]
 rw [h9];refine⟨?_,aa,aa⟩;have h10:=Int.mul_ediv_add_emod x d;have h11:d*(e*(x'%d))=4294967296*(x'%d):=by rw [<-Int.mul_assoc,Qf]
 rw [Int.mul_add,h11];omega
theorem alB{m:Nat}{D:List Int}(hD:m+3<=D.length)(hy:y.length=m+2)(lD:cV 4294967296 D)(ly:cV 4294967296 y)(ht:1<=nth y (m+1))(bZ:V 4294967296 (D.take (m+3))<4294967296*V 4294967296 y) :
  KD 4294967296 (4294967296^m) (nth y (m+1)) (nth y m) (nth D (m+2)*4294967296+nth D (m+1)) (nth D m) (V 4294967296 (D.take (m+3))) (V 4294967296 y)∧nth D (m+2)<=nth y (m+1):=by
 have hp:(0:Int)<4294967296^m:=Int.pow_pos ar;have y0:=bH ar (ly.take m);have y1:=nZ ar (ly.take m);rw [List.length_take,Nat.min_eq_left aa]at y1;have x0:=bH ar (lD.take m);have x1:=nZ ar (lD.take m);rw [List.length_take,Nat.min_eq_left aa]at x1;have hY:V 4294967296 y=V 4294967296 (y.take m)+4294967296^m*(nth y m+4294967296*nth y (m+1)):=by rw [<-aZ (l:=y) (i:=m+1+1) aa,aT aa,aT aa,Int.pow_succ];grind
 have hX:V 4294967296 (D.take (m+3))=V 4294967296 (D.take m)+4294967296^m*(nth D m+4294967296*(nth D (m+1)+4294967296*nth D (m+2))):=by rw [show m+3=m+1+1+1 from rfl,aT aa,aT aa,aT aa,Int.pow_succ,Int.pow_succ];grind
 have l1:=ly.nth (i:=m) aa;have l2:=ly.nth (i:=m+1) aa;have k0:=lD.nth (i:=m) aa;have k1:=lD.nth (i:=m+1) aa;have k2:=lD.nth (i:=m+2) aa;generalize nth y m=ya at *;generalize nth y (m+1)=yb at *;generalize nth D m=xa at *;generalize nth D (m+1)=xb at *;generalize nth D (m+2)=xc at *;generalize V 4294967296 (y.take m)=yr at *;generalize V 4294967296 (D.take m)=xr at *;generalize V 4294967296 (D.take (m+3))=X at *;generalize V 4294967296 y=Y at *;generalize (4294967296:Int)^m=W at *;have e1:(yb*4294967296+ya)*W=W*(ya+4294967296*yb):=aG;have e2:(yb*4294967296+ya+1)*W=W*(ya+4294967296*yb)+W:=aG;have e3:((xc*4294967296+xb)*4294967296+xa)*W=W*(xa+4294967296*(xb+4294967296*xc)):=aG;have e4:((xc*4294967296+xb)*4294967296+xa+1)*W=W*(xa+4294967296*(xb+4294967296*xc))+W:=aG;refine⟨⟨ar,aa,ht,l1.1,aa,k0.1,l1.2,k0.2,aa,aa,aa,aa,bZ⟩,?_⟩
 rcases Int.lt_or_le yb xc with h | h
 ·exfalso;have h1:W*(4294967296*(4294967296*(yb+1)))<=W*(xa+4294967296*(xb+4294967296*xc)):=Int.mul_le_mul_of_nonneg_left aa aa;have h2:Y<W*(4294967296*(yb+1)):=by have:=Int.mul_le_mul_of_nonneg_left (show ya+4294967296*yb+1<=4294967296*(yb+1)by omega) (show 0<=W by omega);rw [Int.mul_add]at this;omega
  have h3:W*(4294967296*(4294967296*(yb+1)))=4294967296*(W*(4294967296*(yb+1))):=aG;omega
 ·exact h
theorem T9{w c x β:Int}(hg:0<=g∧g<4294967296)(hw:0<=w∧w<4294967296)(hc:0<=c∧c<4294967296)(hx:0<=x∧x<4294967296)(hβ:β=0∨β=1) :
  (0<=g*w+c∧g*w+c<18446744069414584321)∧(0<=(g*w+c)/4294967296∧(g*w+c)/4294967296<4294967296) ∧
  ∃β',(β'=0∨β'=1)∧((x-(g*w+c)%4294967296-β)%18446744073709551616)/9223372036854775808=β' ∧
   ((x-(g*w+c)%4294967296-β)%18446744073709551616)%4294967296=x-(g*w+c)%4294967296-β+β'*4294967296:=by
 have h1:0<=g*w:=Int.mul_nonneg hg.1 hw.1;have h2:g*w<=4294967295*4294967295:=Int.mul_le_mul aa aa hw.1 aa;generalize g*w=p at *;refine⟨aa,aa,?_⟩
 rcases Int.lt_or_le (x-(p+c)%4294967296-β) 0 with h | h
 ·exact⟨1, .inr rfl,aa,aa⟩
 ·exact⟨0, .inl rfl,aa,aa⟩
theorem vh(x y:List Int):(fC x y).length<=max x.length y.length:=Nat.le_trans (bS _) av
theorem o8(x:List Int)(c:Int):(aY x c).length<=x.length:=Nat.le_trans (bS _) av
def lead(x:List Int):Int:=nth x (x.length-1)
theorem tV(h:0<x.length):x=x.take (x.length-1) ++ [lead x]:=by have:=bt (l:=x) (i:=x.length-1) aa;rw [show x.length-1+1=x.length by omega,List.take_length]at this;exact this
theorem cZ(hc:Cn x)(h:0<x.length):lead x≠0:=by intro h0;have e:=tV h;rw [h0]at e;have h1:=jy (x.take (x.length-1));rw [<-e,show aK x=x from hc]at h1;have h2:=bS (x.take (x.length-1));rw [<-h1,List.length_take]at h2;omega
theorem EW(h:0<x.length)(t:Int):V t x=V t (x.take (x.length-1))+t^(x.length-1)*lead x:=by
 conv=>lhs;rw [tV h]
 rw [dK,nv,List.length_take,Nat.min_eq_left aa]
def qo(i:Nat)(x:Int):List Int:=List.replicate i 0 ++ [x]
theorem nD(t:Int)(i:Nat)(x:Int):V t (qo i x)=t^i*x:=by rw [qo,dK,pW,nv];simp
def vk(b r:List Int)(i:Nat):Int:=if r.length=b.length+i then lead r else 0
def psq(c x:Int)(i:Nat)(q:List Int):List Int:=iw (aY q c) (qo i x)
def wJ(b:List Int)(c x:Int)(i:Nat)(r:List Int):List Int:=fC (aY r c) (bN (qo i x) b)
def ps(b:List Int)(c:Int):Nat->List Int->List Int->List Int × List Int
 | 0,q,r=>(q,r)
 | i+1,q,r=>ps b c i (psq c (vk b r i) i q) (wJ b c (vk b r i) i r)
theorem alD(t:Int)(b:List Int)(c:Int):∀(k:Nat) (q r:List Int),V t (ps b c k q r).1*V t b+V t (ps b c k q r).2=c^k*(V t q*V t b+V t r)
 | 0,q,r=>by simp [ps]
 | i+1,q,r=>by rw [ps,alD t b c i];simp only [psq,wJ,rp,iT,cM,dq,nD,Int.pow_succ];grind
theorem y6{r:List Int}(hb:0<b.length)(hr:r.length<=b.length+i):(wJ b (lead b) (vk b r i) i r).length<=b.length-1+i:=by
 rcases Nat.lt_or_ge r.length (b.length+i)with h | h
 ·have hx:vk b r i=0:=by rw [vk,if_neg aa]
  have e:wJ b (lead b) (vk b r i) i r=aY r (lead b):=Cn.ext (Cn.fC _ _) (Cn.aY _ _) fun t=>by rw [hx,wJ,iT,dq,nD];simp
  rw [e];have:=o8 r (lead b);omega
 ·have KB:r.length=b.length+i:=by omega
  have hx:vk b r i=lead r:=by rw [vk,if_pos KB]
  have e:wJ b (lead b) (vk b r i) i r=fC (aY (r.take (r.length-1)) (lead b)) (List.replicate i 0++(b.take (b.length-1)).map fun v=>v*lead r):=Cn.ext (Cn.fC _ _) (Cn.fC _ _) fun t=>by have h1:=EW (x:=r) aa t;have h2:=EW (x:=b) hb t;have h3:=gO (t:=t) (lead r) id (b.take (b.length-1));simp only [id_eq,List.map_id_fun]at h3;rw [hx,wJ,iT,iT,dq,nD,cM,cM,dK,pW,h3,List.length_replicate,h1,h2,show r.length-1=i+(b.length-1)by omega,Int.pow_add];grind
  rw [e];refine Nat.le_trans (vh _ _) ?_;have h4:=o8 (r.take (r.length-1)) (lead b);rw [List.length_take]at h4;simp only [List.length_append,List.length_replicate,List.length_map,List.length_take];omega
theorem Ua{b:List Int}(hb:0<b.length):∀(k:Nat) (q r:List Int),r.length<=b.length-1+k->(ps b (lead b) k q r).2.length<=b.length-1
 | 0,q,r,h=>by simpa [ps]using h
 | i+1,q,r,h=>by rw [ps];exact Ua hb i _ _ (y6 hb aa)
theorem acm{b:List Int}{c:Int}:∀(k:Nat) (q r:List Int),Cn q->Cn r->Cn (ps b c k q r).1∧Cn (ps b c k q r).2
 | 0,q,r,h1,h2=>⟨h1,h2⟩
 | i+1,q,r,_,_=>by rw [ps];exact acm i _ _ (Cn.iw _ _) (Cn.fC _ _)
theorem fU{b:Nat}(h:Bd b s n x):sz b (lead x)<=s:=h.nth _
theorem Bd.qo{b s:Nat}{x:Int}(h:Pm.sz b x<=s)(i:Nat):Bd b s (i+1) (Pm.qo i x):=⟨by simp [Pm.qo],fun c hc=>by
 simp only [Pm.qo,List.mem_append,List.mem_replicate,List.mem_singleton]at hc
 rcases hc with ⟨_,rfl⟩ | rfl
 ·rw [jV];omega
 ·exact h⟩
theorem Ub{b:Nat}{r:List Int}(h:Bd b s n r):sz b (vk y r i)<=s:=by
 rw [vk];split
 ·exact fU h
 ·rw [jV];omega
theorem AJ{B s' N:Nat}{q r:List Int}(hB:2<=B)(hb:Bd B s' N b)(hq:Bd B s (N+N) q)(hr:Bd B s (N+N) r)(hi:i<N) :
  Bd B (s+s'+N+1) (N+N) (psq (lead b) (vk b r i) i q)∧Bd B (s+s'+N+1) (N+N) (wJ b (lead b) (vk b r i) i r):=by
 have hc:=fU hb;have hx:=Ub (y:=b) (i:=i) hr;have hs:=Bd.qo hx i
 constructor
 ·exact(Bd.iw hB ((hq.aY hB hc).mono (s':=s+s') (n':=N+N) aa aa) (hs.mono aa aa)).mono aa aa
 ·exact(Bd.fC hB ((hr.aY hB hc).mono (s':=s+s'+N) (n':=N+N) aa aa) ((hs.bN hB hb).mono aa aa)).mono aa aa
theorem Uc{B s' N:Nat}{b:List Int}(hB:2<=B)(hb:Bd B s' N b):∀(k s:Nat) (q r:List Int),k<=N->Bd B s (N+N) q->Bd B s (N+N) r->Bd B (s+k*(s'+N+1)) (N+N) (ps b (lead b) k q r).1∧Bd B (s+k*(s'+N+1)) (N+N) (ps b (lead b) k q r).2
 | 0,s,q,r,_,hq,hr=>⟨hq.mono aa aa,hr.mono aa aa⟩
 | i+1,s,q,r,hk,hq,hr=>by obtain⟨h1,h2⟩:=AJ hB hb hq hr (show i<N by omega);obtain⟨h3,h4⟩:=Uc hB hb i (s+s'+N+1) _ _ aa h1 h2;rw [ps,Nat.add_mul,Nat.one_mul];exact⟨h3.mono aa aa,h4.mono aa aa⟩
def jn(a b:List Int):Nat:=a.length+1-b.length
def xV(a b:List Int):List Int × List Int:=ps b (lead b) (jn a b) [] a
theorem Ud(t:Int)(a b:List Int):V t (xV a b).1*V t b+V t (xV a b).2=lead b^jn a b*V t a:=by rw [xV,alD];simp [V]
theorem EX(hb:0<b.length):(xV a b).2.length<=b.length-1:=Ua hb _ _ _ (by unfold jn;omega)
theorem AK(ha:Cn a):Cn (xV a b).1∧Cn (xV a b).2:=acm _ _ _ Cn.nil ha
theorem AL(x y:List Int):(iw x y).length<=max x.length y.length:=Nat.le_trans (bS _) av
theorem Dh:∀(x y:List Int),0<y.length->(gE x y).length<=x.length+y.length-1
 | [],y,_=>by simp [gE]
 | a::x,y,h=>by have ih:=Dh x y h;have h1:=AL (y.map fun c=>c*a) (0::gE x y);simp only [List.length_map,List.length_cons]at h1;rw [gE];simp only [List.length_cons];omega
theorem ru(h:0<y.length):(bN x y).length<=x.length+y.length-1:=Nat.le_trans (bS _) (Dh x y h)
theorem Hn(x:List Int):bN x [] = []:=Cn.ext (Cn.bN _ _) Cn.nil fun t=>by rw [dq];simp [V]
theorem Ho(cx:Cn x)(cy:Cn y)(hx:0<x.length)(hy:0<y.length):∃w:List Int,w.length=x.length+y.length-2∧bN x y=w ++ [lead x*lead y]:=by
 have lx:=cZ cx hx;have ly:=cZ cy hy;obtain⟨u,hu⟩:∃u,u=iw (bN (y.take (y.length-1)) x) (bN (qo (y.length-1) (lead y)) (x.take (x.length-1))):=⟨_,rfl⟩
 have hul:u.length<=x.length+y.length-2:=by
  have h1:=ru (x:=y.take (y.length-1)) (y:=x) hx;rw [List.length_take]at h1
  have h2:(bN (qo (y.length-1) (lead y)) (x.take (x.length-1))).length<=x.length+y.length-2:=by
   rcases Nat.eq_zero_or_pos (x.take (x.length-1)).length with h | h
   ·have:x.take (x.length-1) = []:=List.eq_nil_of_length_eq_zero h;rw [this,Hn];simp
   ·have:=ru (x:=qo (y.length-1) (lead y)) h;simp only [qo,List.length_append,List.length_replicate,List.length_singleton,List.length_take]at this |-;omega
  have h3:=AL (bN (y.take (y.length-1)) x) (bN (qo (y.length-1) (lead y)) (x.take (x.length-1)));rw [<-hu]at h3;omega
 refine⟨(List.range (x.length+y.length-2)).map (nth u),av,?_⟩;have km:lead x*lead y≠0:=Int.mul_ne_zero lx ly;refine Cn.ext (Cn.bN _ _) (iJ km _) fun t=>?_;rw [dK,jB hul,nv,hu,rp,dq,dq,dq,nD,EW hx,EW hy];simp only [List.length_map,List.length_range];rw [show x.length+y.length-2=(x.length-1)+(y.length-1)by omega,Int.pow_add];grind
theorem jC(cx:Cn x)(cy:Cn y)(hx:0<x.length)(hy:0<y.length):(bN x y).length=x.length+y.length-1:=by obtain⟨w,h1,h2⟩:=Ho cx cy hx hy;rw [h2,List.length_append,h1,List.length_singleton];omega
theorem w7(cx:Cn x)(cy:Cn y)(hx:0<x.length)(hy:0<y.length):lead (bN x y)=lead x*lead y:=by obtain⟨w,h1,h2⟩:=Ho cx cy hx hy;rw [h2,lead,List.length_append,List.length_singleton,Nat.add_sub_cancel,bJ av];simp
theorem Di{u h:List Int}(cu:Cn u)(cy:Cn y)(hy:0<y.length)(e:∀t,V t u=V t y*V t h)(hl:u.length<y.length):u = []:=by
 have e2:u=bN y (aK h):=Cn.ext cu (Cn.bN _ _) fun t=>by rw [dq,c8,e t]
 rcases Nat.eq_zero_or_pos (aK h).length with h0 | h0
 ·have:aK h = []:=List.eq_nil_of_length_eq_zero h0;rw [e2,this,Hn]
 ·have:=jC cy (Cn.cut h) hy h0;rw [<-e2]at this;omega
theorem oG(i:Nat):nth ([]:List Int) i=0:=ir av
theorem sG(a:Int)(l:List Int):nth (a::l) 0=a:=rfl
theorem jD(a:Int)(l:List Int)(i:Nat):nth (a::l) (i+1)=nth l i:=by simp [nth]
theorem i7:∀(x:List Int) (i:Nat),nth (aK x) i=nth x i
 | [],i=>rfl
 | a::l,i=>by
  rw [aK]
  split
  ·rename_i h;cases i with
   | zero=>rw [oG,sG,h.2]
   | succ i=>rw [jD,<-i7 l i,h.1,oG,oG]
  ·cases i with
   | zero=>rfl
   | succ i=>rw [jD,jD,i7 l i]
theorem vl(x y:List Int)(i:Nat):nth (iw x y) i=nth x i+nth y i:=by
 rw [iw,i7]
 rcases Nat.lt_or_ge i (max x.length y.length)with h | h
 ·rw [bJ (au h)];simp
 ·rw [ir (au h),ir (l:=x) aa,ir (l:=y) aa];rfl
theorem jo(c:Int)(x:List Int)(i:Nat):nth (x.map (· * c)) i=nth x i*c:=yY (f:=fun v=>v*c) (Int.zero_mul c) x i
theorem KC(c:Int)(x:List Int)(i:Nat):nth (aY x c) i=nth x i*c:=by rw [aY,i7];exact jo c x i
theorem rv(k:Int)(x y:List Int):nth (bN (k::x) y) 0=nth y 0*k:=by rw [bN,i7,gE,vl,sG,jo,Int.add_zero]
theorem mB(k:Int)(x y:List Int)(i:Nat):nth (bN (k::x) y) (i+1)=nth y (i+1)*k+nth (bN x y) i:=by rw [bN,i7,gE,vl,jD,jo,bN,i7]
theorem w8(x y:List Int):bN x y=bN y x:=Cn.ext (Cn.bN _ _) (Cn.bN _ _) fun t=>by rw [dq,dq,Int.mul_comm]
def Dv(d:Nat)(x:List Int):Prop:=∀i,(d:Int)∣nth x i
theorem Dv.mem(h:Dv d x):∀c∈x,(d:Int)∣c:=fun c hc=>by obtain⟨i,hi,rfl⟩:=List.getElem_of_mem hc;rw [<-bJ hi];exact h i
theorem Dv.of(h:∀c∈x,(d:Int)∣c):Dv d x:=fun i=>by
 rcases Nat.lt_or_ge i x.length with h1 | h1
 ·exact h _ (bo h1)
 ·rw [ir h1];exact Int.dvd_zero _
theorem Dv.cons{k:Int}(h1:(d:Int)∣k)(h2:Dv d x):Dv d (k::x):=fun i=>by
 cases i with
 | zero=>exact h1
 | succ i=>rw [jD];exact h2 i
theorem Dv.nil(d:Nat):Dv d []:=fun i=>by rw [oG];exact Int.dvd_zero _
theorem Dv.trans{e:Nat}(h:e∣d)(h2:Dv d x):Dv e x:=fun i=>Int.dvd_trans (Int.ofNat_dvd.2 h) (h2 i)
theorem M9:∀(n d:Nat) (x y:List Int),d+x.length+y.length<=n->0<d->Dv d (bN x y)->(∀e:Nat,e∣d->Dv e y->e=1)->Dv d x
 | n,d,[],y,_,_,_,_=>Dv.nil d
 | n,d,k::x,[],_,_,_,h=>by have:=h d (Nat.dvd_refl d) (Dv.nil d);subst this;exact fun i=>Int.one_dvd _
 | 0,d,k::x,l::y,hn,_,_,_=>by simp at hn
 | n+1,d,k::x,l::y,hn,hd,hp,h=>by
  simp only [List.length_cons]at hn;have h0:=hp 0;rw [rv,sG]at h0;obtain⟨g,hg⟩:∃g,g=Nat.gcd d l.natAbs:=⟨_,rfl⟩
  have gd:g∣d:=by rw [hg];exact Nat.gcd_dvd_left _ _
  have gl:(g:Int)∣l:=by rw [hg];exact Int.ofNat_dvd_left.2 (Nat.gcd_dvd_right _ _)
  have g0:0<g:=Nat.pos_of_dvd_of_pos gd hd;have gle:g<=d:=Nat.le_of_dvd hd gd
  by_cases g1:g=1
  ·have hk:(d:Int)∣k:=(by have h1:d∣(l*k).natAbs:=Int.ofNat_dvd_left.1 h0;rw [Int.natAbs_mul]at h1;exact Int.ofNat_dvd_left.2 (Nat.Coprime.dvd_of_dvd_mul_left (show Nat.gcd d l.natAbs=1 by omega) h1));refine Dv.cons hk (M9 n d x (l::y) (by simp only [List.length_cons];omega) hd (fun i=>?_) h);have h1:=hp (i+1);rw [mB]at h1;exact(Int.dvd_add_right (Int.dvd_trans hk (Int.dvd_mul_left _ _))).1 h1
  ·have hgx:Dv g (k::x):=(by refine M9 n g (k::x) y (by simp only [List.length_cons];omega) g0 (fun i=>?_) (fun e he hy=>h e (Nat.dvd_trans he gd) (Dv.cons (Int.dvd_trans (Int.ofNat_dvd.2 he) gl) hy));have h1:=Dv.trans gd hp (i+1);rw [w8,mB,w8 y]at h1;exact(Int.dvd_add_right (Int.dvd_trans gl (Int.dvd_mul_left _ _))).1 h1);obtain⟨d',rfl⟩:=gd;have MQ:0<d':=Nat.pos_of_mul_pos_left hd;have bZ:d'<g*d':=(by have:2*d'<=g*d':=Nat.mul_le_mul_right _ aa;omega);obtain⟨x',z7⟩:∃x':List Int,x'=(k::x).map (· / (g:Int)):=⟨_,rfl⟩
   have hxe:x'.map (· * (g:Int))=k::x:=(by rw [z7,List.map_map];refine(List.map_congr_left fun v hv=>?_).trans (List.map_id _);exact Int.ediv_mul_cancel (hgx.mem v hv));have hxl:x'.length=x.length+1:=(by rw [z7];simp);have Ue:bN (k::x) (l::y)=aY (bN x' (l::y)) g:=Cn.ext (Cn.bN _ _) (Cn.aY _ _) fun t=>by have:=gO (t:=t) (g:Int) id x';simp only [id_eq,List.map_id_fun]at this;rw [cM,dq,dq,<-hxe,this];grind
   have ih:=M9 n d' x' (l::y) (by simp only [List.length_cons];omega) MQ (fun i=>by have h1:=hp i;rw [Ue,KC,Int.natCast_mul,Int.mul_comm]at h1;exact Int.dvd_of_mul_dvd_mul_right aa h1) (fun e he=>h e (Nat.dvd_trans he (Nat.dvd_mul_left _ _)));rw [<-hxe];intro i;rw [jo,Int.natCast_mul,Int.mul_comm];exact Int.mul_dvd_mul (ih i) (Int.dvd_refl _)
termination_by n _ x y=>n
end Pm
namespace Pm
open Go Go.RowKit Go.ChangeShapes Go.WideShapes Go.Deep List
variable {P:Program}{t:TypeId}{R:List PV->Prop}
def YX(w:World):dz:=fun b _=>b<w.heap.size
theorem Hp{w:World}{a:Addr}{v:Value}(h:w.cell? a=some v):a.block<w.heap.size∧a.spot=none:=by
 unfold World.cell? at h
 split at h
 ·rename_i hb
  refine⟨?_,?_⟩
  ·exact(Array.getElem?_eq_some_iff.1 hb).1
  ·split at h
   ·cases h
   ·rename_i hs;simpa using hs
 ·cases h
def Dj(P:Program)(t:TypeId)(R:List PV->Prop):Prop:=
 ∀(H:Type) (enc:TypeId × Value->H) (w:World) (fuel:Nat) (cs:List Value) (x:DataW H × List MemPlace),
  DataW.trod enc P w 0 (fun _=>true) true fuel t cs=some x -> ∃ps,R ps∧bO (YX w) w ps cs ∧ ∀v∈cs,v.oneCell'=true
theorem bO.length{S:dz}{w:World}:∀ {ps:List PV} {vs:List Value},bO S w ps vs->ps.length=vs.length
 | [],vs,h=>by simp only [bO]at h;simp [h]
 | p::ps,vs,h=>by simp only [bO]at h;obtain⟨v,tM,rfl,_,h2⟩:=h;simp [bO.length h2]
theorem Dj.int{P:Program}{t:TypeId}(k:IntKind)(ht:P.underlying t=some (.int k)):Dj P t (fun ps=>∃n,ps = [.int k n]∧k.min<=n∧n<=k.max):=by intro H enc w fuel cs x h;obtain⟨n,rfl,_,hw⟩:=DataW.trod_int ht h;simp only [Lit.wf,Bool.and_eq_true,decide_eq_true_eq]at hw;exact⟨[.int k n],⟨n,rfl,hw⟩,⟨_,_,rfl,by simp [de],rfl⟩,by simp [Value.oneCell']⟩
theorem Dj.bool{P:Program}{t:TypeId}(ht:P.underlying t=some .bool):Dj P t (fun ps=>∃b,ps = [.bool b]):=by intro H enc w fuel cs x h;obtain⟨n,rfl,_⟩:=DataW.trod_bool ht h;exact⟨[.bool n],⟨n,rfl⟩,⟨_,_,rfl,by simp [de],rfl⟩,by simp [Value.oneCell']⟩
theorem vm{w:World}{b:Nat}:∀ {ps:List PV} {vs:List Value} {o:Nat},bO (YX w) w ps vs->(∀v∈vs,v.oneCell'=true)->(∀i,i<vs.length->w.cell? ⟨b,o+i,none⟩=vs[i]?)->dk (YX w) w b o ps
 | [],_,_,_,_,_=>by simp [dk]
 | p::ps,vs,o,h,h1,h2=>by
  simp only [bO]at h;obtain⟨v,tM,rfl,h3,h4⟩:=h;have hc:w.cell? ⟨b,o,none⟩=some v:=by simpa using h2 0 av
  simp only [dk];refine⟨⟨v,hc,(Hp hc).1,h1 v av,h3⟩,vm h4 (fun u hu=>h1 u (by simp [hu])) fun i hi=>?_⟩;have:=h2 (i+1) (au hi);simpa [Nat.add_assoc,Nat.add_comm 1]using this
theorem AM{w:World}{b c:Nat}{f:Nat->List PV}:∀(n o k:Nat),(∀i,k<=i->i<k+n->dk (YX w) w b (o+(i-k)*c) (f i)∧(f i).length=c)->fL (YX w) w b o ((range' k n).map f)
 | 0,o,k,_=>by simp [fL]
 | n+1,o,k,h=>by
  obtain⟨h1,h2⟩:=h k (Nat.le_refl _) aa;simp only [range'_succ,map_cons,fL];refine⟨by simpa using h1,AM (c:=c) n _ _ fun i hi GC=>?_⟩;obtain⟨h3,h4⟩:=h i aa aa;refine⟨?_,h4⟩;rw [h2];have e:o+c+(i-(k+1))*c=o+(i-k)*c:=by have:i-k=(i-(k+1))+1:=aa;rw [this,Nat.add_mul];omega
  rw [e];exact h3
theorem Dj.slice{e:TypeId}(ht:P.underlying t=some (.slice e))(pY:0<P.cellsOf e)(he:Dj P e R):Dj P t (fun ps=>∃l:List (List PV),ps = [.sl l]∧(∀x∈l,R x)∧l.length<=maxLen):=by
 intro H enc w fuel cs x h
 rcases open_slice ht h with ⟨rfl,_⟩ | ⟨a,len,cap,m,n,D,Pl,rfl,_,hl,hm,hmm,_,hx⟩
 ·refine⟨[.sl []],⟨[],rfl,av,av⟩,⟨_,_,rfl,?_,rfl⟩,by simp [Value.oneCell']⟩;simp only [de];exact⟨none,0,rfl,av,av, .inl trivial⟩
 ·have hlm:len<=m:=by rw [hmm];split<;>omega
  have each:∀i,i<len -> ∃ps:List PV,R ps∧ps.length=P.cellsOf e ∧ ∃SL,w.cells? 0 (a.add (i*P.cellsOf e)) (P.cellsOf e)=some SL∧bO (YX w) w ps SL ∧ ∀v∈SL,v.oneCell'=true:=by intro i hi;obtain⟨SL,h1,h2⟩:=hx i aa;obtain⟨ps,h3,h4,h5⟩:=he H enc w _ _ _ h2;refine⟨ps,h3,?_,SL,h1,h4,h5⟩;rw [h4.length];exact(World.cells?_some h1).2.1
  obtain⟨f,hf⟩:=choose_lt each
  refine⟨[.sl ((range' 0 len).map f)],⟨_,rfl,?_,by simp;omega⟩,⟨_,_,rfl,?_,rfl⟩,by simp [Value.oneCell']⟩
  ·intro y hy;simp only [mem_map,mem_range'_1]at hy;obtain⟨i,hi,rfl⟩:=hy;exact(hf i aa).1
  ·simp only [de];refine⟨some a,cap,av,au hl,hm,?_⟩
   by_cases h0:len=0
   ·left;simp [h0]
   right;have hsp:a.spot=none:=(by obtain⟨_,_,SL,h3,_,_⟩:=hf 0 aa;obtain⟨_,h4,h5⟩:=World.cells?_some h3;have h6:=h5 0 aa;rw [getElem?_eq_getElem aa]at h6;have h7:=(Hp h6).2;simpa [Addr.add]using h7);obtain⟨b,o,sp⟩:=a;simp only at hsp;subst hsp;refine⟨b,o,rfl,AM (c:=P.cellsOf e) len o 0 fun i _ hi=>?_⟩;obtain⟨_,h2,SL,h3,h4,h5⟩:=hf i aa;obtain⟨_,h6,h7⟩:=World.cells?_some h3;refine⟨vm h4 h5 fun j hj=>?_,h2⟩;rw [<-h7 j aa,add_plain,add_plain];simp
theorem Dj.mono{R':List PV->Prop}(h:Dj P t R)(hR:∀ps,R ps->R' ps):Dj P t R':=fun H enc w fuel cs x hx=>by obtain⟨ps,h1,h2⟩:=h H enc w fuel cs x hx;exact⟨ps,hR _ h1,h2⟩
def tW(P:Program)(t:TypeId)(Q:PV->Prop):Prop:=
 ∀(H:Type) (enc:TypeId × Value->H) (w:World) (base:Nat) (v:Value) (d:DataW H) (p:List MemPlace),
  Value.okWide P w .any base t v->DataW.Trod enc P w 0 (fun _=>true) true t v d p -> ∃q,Q q∧de (YX w) w q v
theorem Dj.one(h:Dj P t R)(hs:∀w base v,Value.okWide P w .any base t v->v.cells = #[v]):tW P t (fun q=>R [q]):=by
 intro H enc w base v d p ec ⟨fuel,hf⟩;obtain⟨ps,h1,h2,_⟩:=h _ _ _ _ _ _ hf;rw [hs _ _ _ ec]at h2;have hl:=h2.length
 match ps,hl with
 | [q],_ =>
  simp only [bO]at h2;obtain⟨v',tM,h3,h4,_⟩:=h2;cases h3;exact⟨q,h1,h4⟩
theorem tW.int{P:Program}{t:TypeId}(k:IntKind)(ht:P.underlying t=some (.int k)):tW P t (fun q=>∃n,q = .int k n∧k.min<=n∧n<=k.max):=by
 have:=(Dj.int k ht).one fun w base v h=>by obtain⟨n,rfl⟩:=okWide_int ht h;rfl
 intro H enc w base v d p h1 h2;obtain⟨q,⟨n,h3,h4⟩,h5⟩:=this H enc w base v d p h1 h2;exact⟨q,⟨n,au h3,h4⟩,h5⟩
theorem tW.bool{P:Program}{t:TypeId}(ht:P.underlying t=some .bool):tW P t (fun q=>∃b,q = .bool b):=by
 have:=(Dj.bool ht).one fun w base v h=>by obtain⟨n,rfl⟩:=okWide_bool ht h;rfl
 intro H enc w base v d p h1 h2;obtain⟨q,⟨n,h3⟩,h5⟩:=this H enc w base v d p h1 h2;exact⟨q,⟨n,au h3⟩,h5⟩
theorem tW.slice{P:Program}{t e:TypeId}{R:List PV->Prop}(ht:P.underlying t=some (.slice e))(pY:0<P.cellsOf e)(he:Dj P e R):tW P t (fun q=>∃l:List (List PV),q = .sl l∧(∀x∈l,R x)∧l.length<=maxLen):=by
 have:=(Dj.slice ht pY he).one fun w base v h=>by obtain⟨a,len,cap,rfl⟩:=okWide_slice ht h;rfl
 intro H enc w base v d p h1 h2;obtain⟨q,⟨n,h3,h4⟩,h5⟩:=this H enc w base v d p h1 h2;exact⟨q,⟨n,au h3,h4⟩,h5⟩
theorem tW.mono{Q Q':PV->Prop}(h:tW P t Q)(hQ:∀q,Q q->Q' q):tW P t Q':=fun H enc w base v d p h1 h2=>by obtain⟨q,h3,h4⟩:=h H enc w base v d p h1 h2;exact⟨q,hQ _ h3,h4⟩
def Hq(P:Program):List TypeId->List (PV->Prop)->Prop
 | [],[]=>True
 | t::ts,Q::Qs=>tW P t Q∧P.readableRec t=true∧t<P.types.size∧Hq P ts Qs
 | _,_=>False
def afm:List (PV->Prop)->List PV->Prop
 | [],ps=>ps = []
 | Q::Qs,ps=>∃q qs,ps=q::qs∧Q q∧afm Qs qs
theorem Hr{P:Program}{H:Type}{enc:TypeId × Value->H}{w:World}{base:Nat}:∀ {ts:List TypeId} {Qs:List (PV->Prop)} {vs:List Value} {ds:List (DataW H)} {p:List MemPlace},Hq P ts Qs ->
  (∀(j:Nat) t v,ts[j]? = some t->vs[j]? = some v->Value.okWide P w .any base t v)->DataW.TrodAll enc P w 0 (fun _=>true) true ts vs ds p -> ∃ps,afm Qs ps∧bO (YX w) w ps vs
 | [],[],vs,ds,p,_,_,h=>by obtain⟨rfl,_⟩:=trodAll_nil h;exact⟨[],rfl,rfl⟩
 | t::ts,Q::Qs,vs,ds,p,hA,ec,h=>by obtain⟨v,tM,d,ds',p1,q1,rfl,rfl,rfl,h1,h2⟩:=trodAll_cons h;obtain⟨hO,_,_,Jo⟩:=hA;obtain⟨q,h3,h4⟩:=hO _ _ _ base _ _ _ (ec 0 t v rfl rfl) h1;obtain⟨ps,h5,h6⟩:=Hr Jo (fun j t' v' hj hv=>ec (j+1) t' v' (au hj) (au hv)) h2;exact⟨q::ps,⟨q,ps,rfl,h3,h5⟩,⟨v,tM,rfl,h4,h6⟩⟩
 | [],_::_,_,_,_,h,_,_=>by simp [Hq]at h
 | _::_,[],_,_,_,h,_,_=>by simp [Hq]at h
theorem Dk{P:Program}(hl:laidOutB P=true){H:Type}{enc:TypeId × Value->H}{w w':World}(hb:Below w.heap.size w w'):∀ {ts:List TypeId} {Qs:List (PV->Prop)} {vs:List Value} {ds:List (DataW H)} {p:List MemPlace},Hq P ts Qs->(∀x∈p,x.block<w.heap.size) ->
  DataW.TrodAll enc P w 0 (fun _=>true) true ts vs ds p->DataW.TrodAll enc P w' 0 (fun b=>decide (b<w.heap.size)) true ts vs ds p
 | [],[],vs,ds,p,_,_,h=>by obtain⟨rfl,rfl,rfl⟩:=trodAll_nil h;exact trodAll_mk0
 | t::ts,Q::Qs,vs,ds,p,hA,bZ,h=>by obtain⟨v,tM,d,ds',p1,q1,rfl,rfl,rfl,h1,h2⟩:=trodAll_cons h;obtain⟨_,h3,h4,Jo⟩:=hA;exact⟨p1,q1,Below.trod hl h3 h4 h1 hb (fun x hx=>bZ x (by simp [hx])),Dk hl hb Jo (fun x hx=>bZ x (by simp [hx])) h2,rfl⟩
 | [],_::_,_,_,_,h,_,_=>by simp [Hq]at h
 | _::_,[],_,_,_,h,_,_=>by simp [Hq]at h
theorem Uf{C:Checked}{f:FuncId}{fn:Func}{s:ChangeSpec}{Qs:List (PV->Prop)}{os:Os}{H:Type}{enc:TypeId × Value->H}{tb:TypeId}
  (own:ownKnob C.prog.godebug=none) (hl:laidOutB C.prog=true) (started:os.Started) (afn:C.prog.inits.idxOf? f=none) (hfn:C.prog.funcs[f]? = some fn)
  (witness:∃(w:World) (tape:Tape) (i:Input),w.os=os∧(w.forCall tape i).Shaped C.prog∧i.vars = []∧Input.okWide C.prog (w.forCall tape i) .any w.heap.size f i ∧
   s.pre6 enc C.prog fn [] false (w.forCall tape i).memory i.args∧({}:Assume).holds C.prog (lone (Frame.enter C.prog f i.args .normal) [] (w.forCall tape i)))
  (hv:s.vars = []) (hs:∀ds:List (DataW H),ds.length=fn.params.size->s.fn H ds = { results:=[.lit (.bool true)],args:=ds })
  (AO:fn.resultTypes = #[tb]) (htb:C.prog.underlying tb=some .bool)
  (hA:Hq C.prog fn.params.toList Qs) (h:∀ps,afm Qs ps->Xr C.prog f ps (.bool true)) :
  ReturnsInHanded {} C os f .any (s.pre6 enc C.prog fn [] false) (s.post enc C.prog fn false true false false):=by
 refine returnsInHanded_of_change own started afn hfn witness ?_;intro W base args ds gs before art hW _ _;have hW':=hW;obtain⟨p,q,hT,hV,rfl,_,_⟩:=hW;rw [hv]at hV;obtain⟨rfl,rfl⟩:=trodVars_none hV;obtain⟨ps,h1,h2⟩:=Hr (base:=base) hA (fun j t v hj hv=>art j t v (au hj) (au hv)) hT;obtain⟨_,iL⟩:=h ps h1;have h3:=iL W (YX W) args.toList (fun b o hb=>hb) h2;refine Calls.mono h3 fun e w' hw=>?_;obtain⟨v,rfl,Ph,S',_,_,fh⟩:=hw;simp only [de]at fh;subst fh;refine⟨_,rfl,?_⟩
 have hlen:ds.length=fn.params.size:=by
  have:∀ {ts:List TypeId} {vs:List Value} {ds:List (DataW H)} {p:List MemPlace},DataW.TrodAll enc C.prog W 0 (fun _=>true) true ts vs ds p->ds.length=ts.length:=by
   intro ts
   induction ts with
   | nil=>intro vs ds p h;obtain⟨_,rfl,_⟩:=trodAll_nil h;rfl
   | cons t ts ih =>
    intro vs ds p h;obtain⟨v,tM,d,ds',p1,q1,rfl,rfl,rfl,h1,h2⟩:=trodAll_cons h;simp [ih h2]
  rw [this hT];simp
 have bZ:∀x∈p,x.block<W.heap.size:=fun x hx=>hW'.lt x (au hx);have hold:∀x∈p,(fun b=>decide (b<W.heap.size)) x.block=true:=fun x hx=>by simpa using bZ x hx
 have afo:s.fn H (ds ++ []) = { results:=[.lit (.bool true)],args:=ds }:=by rw [append_nil,hs ds hlen]
 refine⟨ds,[],p ++ [],[],p,[],hW',?_,?_,?_,World.keptBut_mono (fun x hx=>⟨hx, .inr (.inl (au hx))⟩) (Ph.frame (· ∈ p ++ [])),?_⟩
 ·rw [afo,AO];exact trodAll_mk1 (shut_bool htb true)
 ·rw [afo];exact Dk hl Ph hA bZ hT
 ·rw [afo,hv];rfl
 ·intro h0;cases h0
end Pm
namespace Pm
open Go Go.RowKit List
variable {clk n b id ver off len:Nat}{fn:Func}{a:Act}{f:Nat->PV}{t:Tmp}{args dD z:List PV}{tG:FuncId}{code:Code}{rows:Rows}{R:PV->Rows->Nat->Prop}{e e':TypeId}{els l:List (List PV)}{P:Program}{E:Env}{y:PV}
section
variable {E:Env} {w0:World} {S0:dz} {c:Cx}
theorem ry(hI:Inv w0 S0 c)(hf:∀s,az c (f s) (a.tmps.getD s undef)){K:List PV->Prop}(hp:gU E ⟨f,c.rows,clk⟩ fn.results.toList K) :
  ∃vs us,K vs∧aN (az c) vs us∧(results fn a.tmps).run E.P c.w = .ok (if h:us.toArray.size=1 then us.toArray[0]else .tuple us.toArray) c.w:=by
 have key:∀g:ResultVar->Sem Value,(∀t,g (.tmp t)=pure (a.tmps.getD t undef))->(∀x t,g (.cell x t)=do loadVar t (<-asAddr (a.tmps.getD x undef))) ->
   ∃vs us,K vs∧aN (az c) vs us∧(do let vs <-fn.results.mapM g;pure (if h:vs.size=1 then vs[0]else .tuple vs):Sem Value).run E.P c.w = .ok (if h:us.toArray.size=1 then us.toArray[0]else .tuple us.toArray) c.w:=by
  intro g Tf nW;obtain⟨vs,us,g1,g4,g5⟩:=su hI hf Tf nW _ _ hp;refine⟨vs,us,g1,g4,?_⟩;have:(fn.results.mapM g).run E.P c.w = .ok us.toArray c.w:=by rw [Array.mapM_eq_mapM_toList];simp [g5]
  rw [Sem.run_bind,this,Result.andThen_ok,Sem.run_pure]
 unfold results;exact key _ (fun _=>rfl) (fun _ _=>rfl)
theorem AQ(hI:Inv w0 S0 c)(AO:fn.results.toList = [.tmp t])(hf:∀s,az c (f s) (a.tmps.getD s undef)) :
  ∃u,az c (f t) u∧(results fn a.tmps).run E.P c.w = .ok u c.w:=by
 obtain⟨vs,us,h1,h2,h3⟩:=ry (E:=E) (K:=fun vs=>vs = [f t]) (clk:=0) hI (fn:=fn) hf (by rw [AO];rfl);subst h1
 match us,h2 with
 | [u],h2=>exact⟨u,h2.1,au h3⟩
 | [],h2=>exact h2.elim
 | _::_::_,h2=>exact h2.2.elim
def acn(t:Tmp)(R:PV->Rows->Nat->Prop):PX->PS->Prop
 | .normal,σ=>R (σ.f t) σ.rows σ.clock
 | .ret,σ=>R (σ.f t) σ.rows σ.clock
 | .exit _,_=>False
def EY(args:List PV)(rows:Rows)(clk:Nat):PS:=⟨fun s=>args.getD s .undef,rows,clk⟩
theorem vu{vs:List Value}{m:Nat}(h:aN (az c) args vs)(s:Nat):az c (args.getD s .undef) ((vs.toArray++Array.replicate m undef).getD s undef):=by
 have Gj:=h.length
 by_cases hs:s<args.length
 ·obtain⟨u,hu,hr⟩:=h.get (getElem?_eq_getElem hs);have e1:args.getD s .undef=args[s]:=by simp [getD,getElem?_eq_getElem hs]
  have e2:(vs.toArray++Array.replicate m undef).getD s undef=u:=by have:s<vs.length:=aa;simp [this]at hu |-;simp [Array.getElem?_append,this,hu]
  rw [e1,e2];exact hr
 ·have e1:args.getD s .undef = .undef:=by simp [getD,getElem?_eq_none (show args.length<=s by omega)]
  rw [e1];simp [az,aB]
theorem Qg(tl:Nat->Nat)(h1:E.P.funcs[tG]? = some fn)(h2:fn.body=some code) (h3:(fn.name == "runtime.NumGoroutine") = false)
  (ec:dQ E fn.ntmps tl code=true) (di:args.length<=fn.ntmps) (AO:fn.results.toList = [.tmp t]) (h:W E fn.ntmps tl code (acn t R) (EY args rows clk)):nV E.P tG args rows clk R:=by
 refine⟨⟨fn,code,h1,h2,h3⟩,fun w0 S0 c vs G hI hr eB fh hG=>?_⟩;refine calls_of_wp h1 h2 ?_;have Gj:=fh.length
 have Ap:Rel w0 S0 fn.ntmps G (EY args rows clk) { tmps:=vs.toArray++Array.replicate (fn.ntmps-vs.toArray.size) undef,defers:=[] } c.w:=
  ⟨⟨c,rfl,hr,eB,hI,fun s=>vu fh s,hG⟩,by simp;omega,rfl⟩
 refine h ec w0 S0 G _ _ _ Ap ?_
 have fin:∀σ' a' w',R (σ'.f t) σ'.rows σ'.clock->Rel w0 S0 fn.ntmps G σ' a' w'->a'.defers = [] ∧ ∃v,(results fn a'.tmps).run E.P w' = .ok v w' ∧
   ∃v' c' r bV,Ending.returned v = .returned v'∧c'.w=w'∧Inv w0 S0 c'∧(∀p∈G,az c' p.1 p.2)∧R r c'.rows bV∧(∀v,c'.used v->v<bV)∧az c' r v':=by
  rintro σ' a' w' hx ⟨⟨c',rfl,gI,tQ,mh,hf',B8⟩,hn,eW⟩;obtain⟨u,hu,gQ⟩:=AQ (E:=E) mh AO hf';exact⟨eW,u,gQ,u,c',_,σ'.clock,rfl,rfl,mh,B8,by rw [gI];exact hx,tQ,hu⟩
 intro x σ' a' w' hx gR;cases x with
 | normal=>exact fin σ' a' w' hx gR
 | ret=>exact fin σ' a' w' hx gR
 | exit id=>exact hx.elim
def aco(t:Tmp)(e:TypeId)(n:Nat)(els:List (List PV)):PX->PS->Prop
 | .normal,σ=>∃id ver,σ.f t = .own id ver 0 els.length∧σ.rows id=some ⟨ver,e,n,els⟩ ∧ ∀x∈els,∀p∈x,aF p=true
 | .ret,σ=>∃id ver,σ.f t = .own id ver 0 els.length∧σ.rows id=some ⟨ver,e,n,els⟩ ∧ ∀x∈els,∀p∈x,aF p=true
 | .exit _,_=>False
theorem Qh(tl:Nat->Nat)(h1:E.P.funcs[tG]? = some fn)(h2:fn.body=some code) (h3:(fn.name == "runtime.NumGoroutine") = false)
  (ec:dQ E fn.ntmps tl code=true) (di:args.length<=fn.ntmps) (AO:fn.results.toList = [.tmp t]) (h:W E fn.ntmps tl code (aco t e n els) (C4 args)):gS E.P tG args e n els:=by
 refine⟨⟨fn,code,h1,h2,h3⟩,fun w S vs hS fh=>?_⟩;refine calls_of_wp h1 h2 ?_;have Ad:=cI.1 fh;have Gj:=Ad.length
 let c0:Cx:=⟨S,w,fun _ => .slice none 0 0,fun _=>none,fun _=>False⟩
 have hI0:Inv w S c0:=⟨Below.refl _ _,fun _ _ h=>h,fun _ _ h => .inl h,hS,fun _ _ h=>by simp [c0]at h,fun _ _ h=>by simp [c0]at h,fun _ _ _ _ _ h=>by simp [c0]at h,⟨0,fun _ h=>h.elim⟩⟩
 have Ap:Rel w S fn.ntmps Gs.none (C4 args) { tmps:=vs.toArray++Array.replicate (fn.ntmps-vs.toArray.size) undef,defers:=[] } w:=
  ⟨⟨c0,rfl,rfl,fun _ h=>h.elim,hI0,fun s=>vu (c:=c0) (Ad.mono fun _ _ h=>az.ia h) s,fun p hp=>(Gs.GF hp).elim⟩,by simp;omega,rfl⟩
 refine h ec w S Gs.none _ _ _ Ap ?_
 have fin:∀(σ':PS) a' w',(∃id ver,σ'.f t = .own id ver 0 els.length∧σ'.rows id=some ⟨ver,e,n,els⟩ ∧ ∀x∈els,∀p∈x,aF p=true)->Rel w S fn.ntmps Gs.none σ' a' w'->a'.defers = [] ∧ ∃v,(results fn a'.tmps).run E.P w' = .ok v w' ∧
   ∃(v':Value) (xs:List Value) (S':dz),Ending.returned v = .returned v'∧Below w.heap.size w w'∧(∀b o,S b o->S' b o)∧(∀b o,S' b o->S b o∨(w.heap.size<=b∧b<w'.heap.size)) ∧
   w'.ownsRow w.heap.size e n v' els.length xs∧aN (de S' w') els.flatten xs∧(∀y∈xs,y.oneCell'=true)∧(∀x∈els,x.length=n)∧0<n∧(∀g o,v'.ownBlock=some g->¬S' g o):=by
  rintro σ' a' w' ⟨id,ver,e1,e2,e3⟩ ⟨⟨c,rfl,hr,eB,hI,hf,_⟩,hn,eW⟩;obtain⟨u,hu,gQ⟩:=AQ (E:=E) hI AO hf;rw [e1]at hu;rw [<-hr]at e2;obtain⟨⟨xs,g1,g2,g3⟩,g4,g5,g6⟩:=hI.row id _ e2;simp only [az,aB]at hu;obtain⟨_,hu⟩:=hu;obtain⟨_,hu⟩:=hu _ e2 rfl
  have hub:u=c.β id:=by
   rcases hu with ⟨_,A,m,cap,h5,h6⟩ | ⟨h5,_⟩
   ·rcases g1.2 with ⟨h7,h8⟩ | ⟨g,jj,cur,h7,_⟩
    ·rw [h7]at h5;cases h5;simp only at h8;rw [h6,h7,h8]
    ·rw [h7]at h5;cases h5;rw [h6,h7]
   ·omega
  refine⟨eW,u,gQ,u,xs,c.S,rfl,hI.below,hI.ext,hI.new,by rw [hub];exact g1,?_,g3,g4,g6,fun g o hg=>g5 g o (by rw [<-hub];exact hg)⟩;refine aN.bT g2.length fun k p y hp hy=>?_;obtain⟨y',tz,gI⟩:=g2.get hp;rw [hy]at tz;cases tz;have lA:=mem_of_getElem? hp;obtain⟨x,hx,hpx⟩:=mem_flatten.1 lA;exact gI.rep (e3 x hx p hpx)
 intro x σ' a' w' hx gR;cases x with
 | normal=>exact fin σ' a' w' hx gR
 | ret=>exact fin σ' a' w' hx gR
 | exit id=>exact hx.elim
theorem gS.ret{f:FuncId}(h:gS P f args e n els)(d:Nat)(ha:dD.map (pz rows)=args)(tx:(dD.map (pz rows)).all cB=true)(hp:eX rows (dD.flatMap dA)) :
  nV P f dD rows clk (fun r rows' bV=>r = .own d clk 0 els.length∧rows'=dH (CY rows (dD.flatMap dA)) d (some ⟨clk,e,n,els⟩)∧bV=clk+1):=by
 obtain⟨h0,Ag⟩:=h;refine⟨h0,fun w0 S0 c vs G hI gq eB di hG=>?_⟩;subst gq;generalize s6:dD.flatMap dA=ids at *;have Gl:=hI.freeze ids;have bZ:∀b o,JL c ids b o->b<c.w.heap.size:=fun b o hb=>Gl.lt (c:=B7 c ids) hb;have fh:bO (JL c ids) c.w args vs:=by rw [<-ha];refine cI.2 (aN.bT (by simp [di.length]) fun k p u lU hu=>?_);simp at lU;obtain⟨q,hq,rfl⟩:=lU;obtain⟨u',g1,g2⟩:=di.get hq;rw [hu]at g1;cases g1;exact En hI hp g2 (fun id fp=>by rw [<-s6];simp only [mem_flatMap];exact⟨q,mem_of_getElem? hq,fp⟩) (all_eq_true.1 tx _ (by simp;exact⟨q,mem_of_getElem? hq,rfl⟩))
 refine(Ag c.w (JL c ids) vs bZ fh).mono ?_;rintro x w' ⟨v,xs,S',rfl,hb,g1,g2,g3,g4,g5,g6,g7,g8⟩;obtain⟨Xz,hA2⟩:=Gl.grow (c:=B7 c ids) hb g1 g2;have hA1:=jf c ids
 obtain⟨hI3,hA3⟩:=Xz.set (w':=w') (ob:=v.ownBlock) (id:=d) (r':=⟨clk,e,n,els⟩) (v':=v) (xs:=xs) (World.grownBy.refl _ _)
  (fun g hg=>by have Pf:=(g3.lt g hg).1;refine⟨by have:=hI.below.size;omega,fun o=>g8 g o hg,fun iX r hr _ gC=>?_⟩;obtain⟨⟨ys,q1,_,_⟩,_⟩:=Gl.row iX r hr;have:=(q1.lt g gC).2;simp only [B7]at this;omega) ⟨g3.1,g3.2.imp id fun⟨g,cap,cur,q1,q2,q3⟩=>⟨g,cap,cur,q1,Nat.le_trans hI.below.size q2,q3⟩⟩ (g4.mono fun _ _ h=>aB.ia h) g5 g6 g7 (fun g hg => .inl hg) (fun hu=>Nat.lt_irrefl _ (eB _ hu))
 refine⟨v,_, .own d clk 0 els.length,clk+1,rfl,rfl,hI3,fun p lU=>?_,⟨rfl,rfl,rfl⟩,fun v hv=>?_,?_⟩
 ·exact az.pM hA3 _ _ (az.pM hA2 _ _ (az.pM hA1 _ _ (hG p lU)))
 ·rcases hv with hv | hv
  ·have:v=clk:=hv;omega
  ·have:=eB v hv;omega
 ·rcases g3.2 with ⟨rfl,h8⟩ | ⟨g,jj,cur,rfl,_⟩
  ·have:els.length=0:=h8;rw [this];exact kV (r:=⟨clk,e,n,els⟩) (A:=none) (cap:=0) (by simp [dH]) (au h8) (Or.inl rfl) (by simp [dH])
  ·exact kV (r:=⟨clk,e,n,els⟩) (by simp [dH]) rfl (Or.inl rfl) (by simp [dH])
end
theorem acp{g:FuncId}{K:PV->Rows->Nat->Prop}(h:gS P g args e n els)(d:Nat)(ha:dD.map (pz rows)=args)(tx:(dD.map (pz rows)).all cB=true)
  (hp:eX rows (dD.flatMap dA)) (hK:go (K (.own d clk 0 els.length) (dH (CY rows (dD.flatMap dA)) d (some ⟨clk,e,n,els⟩)) (clk+1))):jQ P g dD rows clk K:=
 ⟨_,h.ret d ha tx hp,by rintro r rows' bV ⟨rfl,rfl,rfl⟩;exact hK⟩
theorem iy(tl:Nat->Nat)(l:List (Nat × PV))(h1:E.P.funcs[tG]? = some fn)(h2:fn.body=some code) (h3:(fn.name == "runtime.NumGoroutine") = false)
  (ec:dQ E fn.ntmps tl code=true) (di:args.length<=fn.ntmps) (AO:fn.results.toList = [.tmp t]) (hl:∀p∈l,args.getD p.1 .undef=p.2) (h:W E fn.ntmps tl code (aco t e n els) ⟨fa l,fun _=>none,0⟩):gS E.P tG args e n els:=
 Qh tl h1 h2 h3 ec di AO (W.ghf l (au hl) h)
theorem KE(tl:Nat->Nat)(l:List (Nat × PV))(h1:E.P.funcs[tG]? = some fn)(h2:fn.body=some code) (h3:(fn.name == "runtime.NumGoroutine") = false)
  (ec:dQ E fn.ntmps tl code=true) (di:args.length<=fn.ntmps) (AO:fn.results.toList = [.tmp t]) (hl:∀p∈l,args.getD p.1 .undef=p.2) (h:W E fn.ntmps tl code (acn t R) ⟨fa l,rows,clk⟩):nV E.P tG args rows clk R:=
 Qg tl h1 h2 h3 ec di AO (W.ghf l (au hl) h)
def w9(t:TI)(rows:Rows)(x y:PV)(K:PV->Rows->Prop):Prop:=
 match t,x with
 | .slice _ n _ _, .own id ver off len=>∃r,rows id=some r∧r.ver=ver∧r.size=n∧off+len<=r.els.length ∧ ∃l,qP rows y l∧(∀e∈l,e.length=n) ∧
   K (.int .i64 (min l.length len)) (dH rows id (some { r with els:=r.els.take off++l.take len++r.els.drop (off+min l.length len) }))
 | _,_=>False
@[simp] theorem apn{ops os:List Oper}{K:PS->Prop}{d:Option Tmp}{ty:TypeId}{pos:String}{af:Array Edge}{x y:Operand}{t t2:TypeId} :
  go (aC E ops (⟨d, .call { callee:=.builtin .copy,args:=⟨[x,y]⟩,argTypes:=⟨[t,t2]⟩ },ty,pos,af,none⟩::os) K ⟨f,rows,clk⟩)=w9 (E.ty t) rows (aJ f x) (aJ f y) fun v rows=>aC E ops os K ⟨put f d v,rows,clk⟩:=by
 simp only [go,aC,dJ,ys,tv,w9];generalize E.ty t=T;generalize aJ f x=X;apply propext
 constructor
 ·rintro⟨v,u,h,hK⟩
  split at h
  ·obtain⟨r,h1,h2,h3,h4,l,h5,h6,rfl,rfl⟩:=h;exact⟨r,h1,h2,h3,h4,l,h5,h6,hK⟩
  ·exact h.elim
 ·intro h
  split at h
  ·obtain⟨r,h1,h2,h3,h4,l,h5,h6,hK⟩:=h;exact⟨_,_,⟨r,h1,h2,h3,h4,l,h5,h6,rfl,rfl⟩,hK⟩
  ·exact h.elim
@[congr] theorem YZ{t t':TI}{rows':Rows}{x x' y':PV}{K:PV->Rows->Prop}(h1:t=t')(h2:rows=rows')(h3:x=x')(h4:y=y'):w9 t rows x y K=w9 t' rows' x' y' K:=by rw [h1,h2,h3,h4]
theorem alF{K:PV->Rows->Prop}(hr:rows id=some ⟨ver,e',n,els⟩)(hl:off+len<=els.length)(hy:qP rows y l)(h1:∀e∈l,e.length=n)
  (hK:go (K (.int .i64 (min l.length len)) (dH rows id (some ⟨ver,e',n,els.take off++l.take len++els.drop (off+min l.length len)⟩)))):w9 (.slice e n b z) rows (.own id ver off len) y K:=
 ⟨_,hr,rfl,rfl,hl,l,hy,h1,hK⟩
theorem alG{K:PV->Rows->Prop}(hr:rows id=some ⟨ver,e',1,els⟩)(hl:off+len<=els.length)(h0:0<len)(hy:qP rows y l)(h1:∀e∈l,e.length=1)
  (hK:go (K (.int .i64 (min l.length len)) (dH rows id (some ⟨ver,e',1,els.take off++l.take len++els.drop (off+min l.length len)⟩)))):w9 (.slice e 1 b z) rows (.own id ver off len) y K:=
 alF hr hl hy h1 hK
theorem aM{c B:Prop}(h:c)(hB:go B):aA c B:=⟨h,hB⟩
def acq(E:Env)(rs:List ResultVar)(r:PV)(R:Rows->Prop):PX->PS->Prop
 | .normal,σ=>gU E σ rs fun vs=>vs.all cB=true∧r=kW vs∧R σ.rows
 | .ret,σ=>gU E σ rs fun vs=>vs.all cB=true∧r=kW vs∧R σ.rows
 | .exit _,_=>False
theorem iz(tl:Nat->Nat){core fD:List PV}{r:PV}(l:List (Nat × PV))(h1:E.P.funcs[tG]? = some fn)(h2:fn.body=some code) (h3:(fn.name == "runtime.NumGoroutine") = false)
  (ec:dQ E fn.ntmps tl code=true) (di:args.length+1<=fn.ntmps) (hl:∀q:PV,∀p∈(0,q)::l,(q::args).getD p.1 .undef=p.2)
  (h:∀id ver (rows:Rows) clk,rows (id+1000000)=some ⟨ver,e,n,[core]⟩->W E fn.ntmps tl code (acq E fn.results.toList r fun rows'=>rows' (id+1000000)=some ⟨ver,e,n,[fD]⟩ ∧ ∀j,j≠id->rows' (j+1000000)=rows (j+1000000)) ⟨fa ((0, .ptr (id+1000000) ver 0 0)::l),rows,clk⟩) :
  yD E.P tG args e n core fD r:=by
 intro id0 ver rows clk fp gq iZ;obtain⟨id,rfl⟩:∃id,id0=id+1000000:=⟨id0-1000000,by have:eI=1000000:=rfl;omega⟩
 have hW:=W.ghf (E:=E) (n:=fn.ntmps) ((0, .ptr (id+1000000) ver 0 0)::l) (f:=fun s=>(PV.ptr (id+1000000) ver 0 0::args).getD s .undef) (hl (.ptr (id+1000000) ver 0 0)) (h id ver rows clk gq);refine⟨⟨fn,code,h1,h2,h3⟩,fun w0 S0 c vs G hI hr eB fh hG=>?_⟩;refine calls_of_wp h1 h2 ?_;have Gj:=fh.length
 have Ap:Rel w0 S0 fn.ntmps G (EY (.ptr (id+1000000) ver 0 0::args) rows clk) { tmps:=vs.toArray++Array.replicate (fn.ntmps-vs.toArray.size) undef,defers:=[] } c.w:=
  ⟨⟨c,rfl,hr,eB,hI,fun s=>vu fh s,hG⟩,by simp at Gj |-;omega,rfl⟩
 refine hW ec w0 S0 G _ _ _ Ap ?_
 have fin:∀(σ':PS) a' w',(gU E σ' fn.results.toList fun vs=>vs.all cB=true∧r=kW vs∧σ'.rows (id+1000000)=some ⟨ver,e,n,[fD]⟩ ∧ ∀j,j≠id->σ'.rows (j+1000000)=rows (j+1000000))->Rel w0 S0 fn.ntmps G σ' a' w'->a'.defers = [] ∧ ∃v,(results fn a'.tmps).run E.P w' = .ok v w' ∧
   ∃v' c' r' bV,Ending.returned v = .returned v'∧c'.w=w'∧Inv w0 S0 c'∧(∀p∈G,az c' p.1 p.2)∧(r'=r∧c'.rows (id+1000000)=some ⟨ver,e,n,[fD]⟩ ∧ ∀j,eI<=j->j≠id+1000000->c'.rows j=rows j)∧(∀v,c'.used v->v<bV)∧az c' r' v':=by
  rintro σ' a' w' hx ⟨⟨c',rfl,gI,tQ,mh,hf',B8⟩,hn,eW⟩;obtain⟨us,tM,⟨k1,k2,k3,k4⟩,k5,k6⟩:=ry (E:=E) (clk:=σ'.clock) mh (fn:=fn) hf' (by rw [gI];exact hx)
  refine⟨eW,_,k6,_,c',r,σ'.clock,rfl,rfl,mh,B8,⟨rfl,by rw [gI];exact k3,fun j hj km=>?_⟩,tQ,?_⟩
  ·obtain⟨m,rfl⟩:∃m,j=m+1000000:=⟨j-1000000,by have:eI=1000000:=rfl;omega⟩
   rw [gI];exact k4 m aa
  ·rw [k2];have key:us.length≠1->az c' (.cW us) (.tuple tM.toArray):=fun _=>by refine⟨tM,rfl,aN.bT k5.length fun i a b ha hb=>?_⟩;obtain⟨b',gC,q⟩:=k5.get ha;rw [hb]at gC;cases gC;exact aB.ia (q.rep (all_eq_true.1 k1 a (mem_of_getElem? ha)))
   match us,tM,k5 with
   | [],[],_=>simpa [kW]using key av
   | [p],[v],k5=>simpa [kW]using k5.1
   | p::q::us,v::u::tM,k5=>simpa [kW]using key av
 intro x σ' a' w' hx gR;cases x with
 | normal=>exact fin σ' a' w' hx gR
 | ret=>exact fin σ' a' w' hx gR
 | exit id=>exact hx.elim
end Pm
