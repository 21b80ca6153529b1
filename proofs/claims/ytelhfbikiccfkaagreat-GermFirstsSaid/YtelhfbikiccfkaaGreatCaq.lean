import Derived.Test.YtelhfbikiccfkaaGreatCan
import Derived.Test.YtelhfbikiccfkaaGreatCao
import Derived.Test.YtelhfbikiccfkaaGreatCap
set_option linter.unusedSimpArgs false
set_option linter.unusedVariables false
namespace Pm
theorem aei:∀(n:Nat) (f:Nat→Nat),(∀k,k≤n→f k<n) → ∃i j,i<j∧j≤n∧f i=f j
 | 0,f,h=>absurd (h 0 (Nat.le_refl _)) (by omega)
 | n+1,f,h=>by
  by_cases hx:∃i,i≤n∧f i=f (n+1)
  ·obtain⟨i,hi,e⟩:=hx
   exact⟨i,n+1,by omega,Nat.le_refl _,e⟩
  ·have nT:∀i,i≤n→f i≠f (n+1):=fun i hi e=>hx ⟨i,hi,e⟩
   have hm:=h (n+1) (Nat.le_refl _)
   obtain⟨i,j,hij,hj,e⟩:=aei n (fun k=>if f k=n then f (n+1)else f k) (fun k hk=>by
    have h1:=h k (by omega)
    have h2:=nT k hk
    show(if f k=n then f (n+1)else f k)<n
    split<;>omega)
   refine⟨i,j,hij,by omega,?_⟩
   have h1:=nT i (by omega)
   have h2:=nT j hj
   have e':(if f i=n then f (n+1)else f i)=(if f j=n then f (n+1)else f j):=e
   split at e'<;>split at e'<;>omega
def EL(b:Nat):Nat→Nat→List Int
 | 0,_=>[]
 | n+1,k=>((k%b:Nat):Int)::EL b n (k/b)
theorem xA(b:Nat):∀n k,(EL b n k).length=n
 | 0,_=>rfl
 | n+1,k=>by rw [EL,List.length_cons,xA b n]
theorem KN{b:Nat}(hb:0<b):∀n k,∀c∈EL b n k,0≤c∧c<b
 | 0,_,c,h=>by cases h
 | n+1,k,c,h=>by
  rcases List.mem_cons.1 h with rfl | h
  ·have:=Nat.mod_lt k hb;omega
  ·exact KN hb n _ c h
theorem KO{b:Nat}(hb:0<b):∀n k m,k<b^n→m<b^n→EL b n k=EL b n m→k=m
 | 0,k,m,h1,h2,_=>by simp at h1 h2;omega
 | n+1,k,m,h1,h2,h=>by
  rw [EL,EL]at h
  injection h with h3 h4
  rw [Nat.pow_succ]at h1 h2
  have h5:=KO hb n (k/b) (m/b) ((Nat.div_lt_iff_lt_mul hb).2 h1) ((Nat.div_lt_iff_lt_mul hb).2 h2) h4
  have h6:=Nat.div_add_mod k b
  have h7:=Nat.div_add_mod m b
  rw [h5]at h6
  omega
def TW(R:Nat):List Nat→Nat
 | []=>0
 | x::l=>x+R*TW R l
theorem aej{R:Nat}:∀l:List Nat,(∀x∈l,x<R)→TW R l<R^l.length
 | [],_=>by simp [TW]
 | x::l,h=>by
  have h1:=aej l fun y hy=>h y (List.mem_cons_of_mem _ hy)
  have h2:=h x (List.mem_cons_self ..)
  rw [TW,List.length_cons,Nat.pow_succ]
  have h3:R*(TW R l+1)≤R*R^l.length:=Nat.mul_le_mul_left _ h1
  rw [Nat.mul_add]at h3
  rw [Nat.mul_comm (R^_)]
  omega
theorem WZ{R:Nat}:∀l m:List Nat,l.length=m.length→(∀x∈l,x<R)→(∀x∈m,x<R)→TW R l=TW R m→l=m
 | [],[],_,_,_,_=>rfl
 | [],_::_,h,_,_,_=>by simp at h
 | _::_,[],h,_,_,_=>by simp at h
 | x::l,y::m,hl,h1,h2,e=>by
  rw [TW,TW]at e
  have hx:=h1 x (List.mem_cons_self ..)
  have hy:=h2 y (List.mem_cons_self ..)
  have e1:(x+R*TW R l)%R=(y+R*TW R m)%R:=by rw [e]
  rw [Nat.add_mul_mod_self_left,Nat.add_mul_mod_self_left,Nat.mod_eq_of_lt hx,Nat.mod_eq_of_lt hy]at e1
  subst e1
  have e2:R*TW R l=R*TW R m:=by omega
  have e3:=Nat.eq_of_mul_eq_mul_left (by omega) e2
  rw [WZ l m (by simpa using hl) (fun z hz=>h1 z (List.mem_cons_of_mem _ hz)) (fun z hz=>h2 z (List.mem_cons_of_mem _ hz)) e3]
theorem sJ{X Y:Nat}:∀(x y:List Int),(∀c∈x,c.natAbs≤X)→(∀i,(nth y i).natAbs≤Y) → ∀i,(nth (bT x y) i).natAbs≤x.length*(X*Y)
 | [],y,_,_,i=>by
  rw [show bT [] y = []from rfl,pA];simp
 | k::x,y,hx,hy,i=>by
  have hk:=hx k (List.mem_cons_self ..)
  have ih:=sJ x y (fun c hc=>hx c (List.mem_cons_of_mem _ hc)) hy
  have h1:∀j,(nth y j*k).natAbs≤X*Y:=fun j=>by
   rw [Int.natAbs_mul,Nat.mul_comm]
   exact Nat.mul_le_mul hk (hy j)
  rw [List.length_cons,Nat.add_mul,Nat.one_mul]
  cases i with
  | zero =>
   rw [rX]
   have:=h1 0;omega
  | succ i =>
   rw [nI]
   have h2:=h1 (i+1)
   have h3:=ih i
   have h4:=Int.natAbs_add_le (nth y (i+1)*k) (nth (bT x y) i)
   omega
theorem TX{A:Nat}{y:List Int}(h:∀c∈y,c.natAbs≤A)(i:Nat):(nth y i).natAbs≤A:=by
 rcases Nat.lt_or_ge i y.length with h1 | h1
 ·exact h _ (bP h1)
 ·rw [iG h1];exact Nat.zero_le _
namespace ZX
theorem KP(x y:ZX)(i:Nat):nth (x-y).l i=nth x.l i-nth y.l i:=by
 have h:x=(x-y)+y:=by grind
 have h2:nth x.l i=nth ((x-y)+y).l i:=by rw [←h]
 rw [show((x-y)+y).l=iI (x-y).l y.l from rfl,wC]at h2
 omega
theorem aie{a b v:ZX}(ha:a≠0)(hc:∀d,dv d a→dv d b→N d≤1)(h:dv a (v*b)):dv a v:=by
 obtain⟨g,hg⟩:=jP _ a b (Nat.le_refl _)
 have h0:=hg.ne (.inl ha)
 have h1:=hc g hg.l hg.r
 have h2:=ZX.aH.1 h0
 obtain⟨k,hk,rfl⟩:=mA (show N g=1 by omega)
 obtain⟨c,x9,u',v',e⟩:=hg.uv
 rw [pI]at e
 refine dv.FG (Int.mul_ne_zero x9 hk) ?_
 rw [e,show(u'*a+v'*b)*v=(u'*v)*a+v'*(v*b)by grind]
 exact((dv.refl a).mul_left _).add (h.mul_left _)
theorem W1{l:List Int}{n:Nat}(h:l.length≤n):N (of l)≤n:=Nat.le_trans (bZ l) h
theorem KQ{x:ZX}{n:Nat}(hN:N x≤n+1)(h:∀i,i<n→nth x.l (i+1)=0):∃c:Int,x=K c:=by
 rcases Nat.lt_or_ge (N x) 2 with h1 | h1
 ·rcases Nat.eq_zero_or_pos (N x)with h2 | h2
  ·refine⟨0,?_⟩
   have:x=0:=Classical.byContradiction fun h0=>by have:=ZX.aH.1 h0;omega
   rw [this];rfl
  ·obtain⟨c,_,e⟩:=mA (show N x=1 by omega)
   exact⟨c,e⟩
 ·exfalso
  have h2:lead x.l≠0:=cX x.c (show 0<N x by omega)
  refine h2 ?_
  have h3:=h (N x-2) (by omega)
  rw [show N x-2+1=x.l.length-1 from by show N x-2+1=N x-1;omega]at h3
  exact h3
theorem KR(l:List Int)(i:Nat):nth (of l).l i=nth l i:=i7 l i
theorem anY{a b:ZX}{s r l X:Nat}(ha:a≠0)(hb:b≠0)(hA:∀c∈a.l,c.natAbs≤2^s)(hB:∀c∈b.l,c.natAbs≤2^r)(hl:N a+N b≤2^l)(hc:∀d,dv d a→dv d b→N d≤1)(hX:(l+2)*(N a+N b)+s*N b+r*N a≤X) :
  ∃(u v:ZX) (c:Int),c≠0∧u*a+v*b=K c∧N u≤N b∧N v≤N a∧(∀c∈u.l,c.natAbs≤2^(X-s)) ∧ ∀c∈v.l,c.natAbs≤2^(X-r):=by
 have na:=ZX.aH.1 ha
 have nb:=ZX.aH.1 hb
 obtain⟨p,hp⟩:∃p,N a=p+1:=⟨N a-1,by omega⟩
 obtain⟨q,hq⟩:∃q,N b=q+1:=⟨N b-1,by omega⟩
 have hsX:s≤X:=by rw [hq,Nat.mul_add s]at hX;omega
 have hrX:r≤X:=by rw [hp,Nat.mul_add r]at hX;omega
 rcases Nat.lt_or_ge 2 (N a+N b)with hm | hm
 ·obtain⟨m,hmm⟩:∃m,p+q=m+1:=⟨p+q-1,by omega⟩
  obtain⟨U,hU⟩:∃U,U=2^(X-s):=⟨_,rfl⟩
  obtain⟨V,hV⟩:∃V,V=2^(X-r):=⟨_,rfl⟩
  have hUA:U*2^s=2^X:=by rw [hU,←Nat.pow_add];congr 1;omega
  have hVB:V*2^r=2^X:=by rw [hV,←Nat.pow_add];congr 1;omega
  rw [←hU,←hV]
  let P:=(U+1)^q
  have hPp:0<P:=Nat.pow_pos (Nat.succ_pos _)
  have hQp:0<(V+1)^p:=Nat.pow_pos (Nat.succ_pos _)
  let W:=(m+1)*2^X
  let uu:=fun k:Nat=>of (EL (U+1) q (k%P))
  let vv:=fun k:Nat=>of (EL (V+1) p (k/P))
  let L:=fun k:Nat=>uu k*a+vv k*b
  have ahf:∀B n k,∀c∈EL (B+1) n k,c.natAbs≤B:=fun B n k c hc=>by
   have:=KN (Nat.succ_pos B) _ _ c hc
   omega
  have hu:∀k,∀c∈(uu k).l,c.natAbs≤U:=fun k c hc=>ahf _ _ _ c (nG _ _ hc)
  have hv:∀k,∀c∈(vv k).l,c.natAbs≤V:=fun k c hc=>ahf _ _ _ c (nG _ _ hc)
  have hNu:∀k,N (uu k)≤q:=fun k=>W1 (by rw [xA];exact Nat.le_refl _)
  have hNv:∀k,N (vv k)≤p:=fun k=>W1 (by rw [xA];exact Nat.le_refl _)
  have hW:∀k i,(nth (L k).l i).natAbs≤W:=fun k i=>by
   have e:(L k).l=iI (bT (uu k).l a.l) (bT (vv k).l b.l):=rfl
   rw [e,wC]
   have h1:=sJ (uu k).l a.l (hu k) (TX hA) i
   have h2:=sJ (vv k).l b.l (hv k) (TX hB) i
   rw [hUA]at h1
   rw [hVB]at h2
   have h4:=Int.natAbs_add_le (nth (bT (uu k).l a.l) i) (nth (bT (vv k).l b.l) i)
   have h5:(uu k).l.length*2^X+(vv k).l.length*2^X≤W:=by
    rw [←Nat.add_mul]
    refine Nat.mul_le_mul_right _ ?_
    have h4:N (uu k)≤q:=hNu k
    have h5:N (vv k)≤p:=hNv k
    show N (uu k)+N (vv k)≤m+1
    omega
   omega
  let im:=fun k:Nat=>(List.range m).map fun i=>(nth (L k).l (i+1)+W).toNat
  have him:∀k,∀x∈im k,x<2*W+1:=fun k x hx=>by
   simp only [im,List.mem_map]at hx
   obtain⟨i,_,rfl⟩:=hx
   have:=hW k (i+1)
   omega
  have azh:(2*W+1)^m<P*(V+1)^p:=by
   have h1:2*W+1≤2^(X+l+2):=by
    have h2:(m+1)*2^X≤2^l*2^X:=Nat.mul_le_mul_right _ (by omega)
    have h3:2^(X+l+2)=2^l*2^X*4:=by rw [Nat.pow_add,Nat.pow_add,Nat.mul_comm (2^X)]
    have h4:1≤2^l*2^X:=Nat.mul_pos (Nat.two_pow_pos _) (Nat.two_pow_pos _)
    simp only [W]
    omega
   have h2:=Nat.pow_le_pow_left h1 m
   rw [←Nat.pow_mul]at h2
   have h3:2^((X-s)*q+(X-r)*p)≤P*(V+1)^p:=by
    rw [Nat.pow_add,Nat.pow_mul,Nat.pow_mul,←hU,←hV]
    exact Nat.mul_le_mul (Nat.pow_le_pow_left (Nat.le_succ _) _) (Nat.pow_le_pow_left (Nat.le_succ _) _)
   refine Nat.lt_of_le_of_lt h2 (Nat.lt_of_lt_of_le (Nat.pow_lt_pow_right (by decide) ?_) h3)
   rw [hp,hq]at hX
   rw [Nat.sub_mul,Nat.sub_mul]
   have e1:X*q+X*p=X*m+X:=by rw [←Nat.mul_add,show q+p=m+1 by omega,Nat.mul_add,Nat.mul_one]
   have e2:s*q≤X*q:=Nat.mul_le_mul_right _ hsX
   have e3:r*p≤X*p:=Nat.mul_le_mul_right _ hrX
   have e4:(X+l+2)*m=X*m+(l+2)*m:=by rw [Nat.add_assoc,Nat.add_mul]
   have e5:(l+2)*(p+1+(q+1))=(l+2)*m+(l+2)*3:=by rw [←Nat.mul_add];congr 1;omega
   have e6:s*(q+1)=s*q+s:=Nat.mul_succ _ _
   have e7:r*(p+1)=r*p+r:=Nat.mul_succ _ _
   omega
  obtain⟨n,hn⟩:∃n,P*(V+1)^p=n+1:=⟨P*(V+1)^p-1,by have:=Nat.mul_pos hPp hQp;omega⟩
  obtain⟨i,j,hij,hj,e⟩:=aei n (fun k=>TW (2*W+1) (im k)) (fun k hk=>by
   have h1:=aej (im k) (him k)
   rw [show(im k).length=m by simp [im]]at h1
   show TW (2*W+1) (im k)<n
   omega)
  have e2:=WZ (im i) (im j) (by simp [im]) (him i) (him j) e
  have e3:∀s,s<m→nth (L i).l (s+1)=nth (L j).l (s+1):=fun s hs=>by
   have h1:(im i)[s]? = (im j)[s]? := by rw [e2]
   simp only [im,List.getElem?_map,List.getElem?_range hs,Option.map_some]at h1
   injection h1 with h1
   have:=hW i (s+1)
   have:=hW j (s+1)
   omega
  have hNL:∀x y:ZX,N x≤q→N y≤p→N (x*a+y*b)≤m+1:=fun x y hx hy=>by
   have h1:N (x*a+y*b)≤max (N (x*a)) (N (y*b)):=CR _ _
   have h2:N (x*a)≤N x+N a-1:=rW (x:=x.l) (y:=a.l) na
   have h3:N (y*b)≤N y+N b-1:=rW (x:=y.l) (y:=b.l) nb
   omega
  have PT:N (uu i-uu j)≤q:=by
   have h1:N (uu i-uu j)≤max (N (uu i)) (N (uu j)):=vZ _ _
   have:=hNu i;have:=hNu j;omega
  have hv':N (vv i-vv j)≤p:=by
   have h1:N (vv i-vv j)≤max (N (vv i)) (N (vv j)):=vZ _ _
   have:=hNv i;have:=hNv j;omega
  have eL:(uu i-uu j)*a+(vv i-vv j)*b=L i-L j:=by simp only [L];grind
  obtain⟨c,SY⟩:=KQ (x:=(uu i-uu j)*a+(vv i-vv j)*b) (n:=m) (hNL _ _ PT hv') (fun s hs=>by
   rw [eL,KP,e3 s hs];omega)
  have oN:∀(B n k k':Nat),∀c∈(of (EL (B+1) n k)-of (EL (B+1) n k')).l,c.natAbs≤B:=fun B n k k' c hc=>by
   obtain⟨s,hs,rfl⟩:=List.getElem_of_mem hc
   rw [←dD hs,KP,KR,KR]
   have h3:∀k,0≤nth (EL (B+1) n k) s∧nth (EL (B+1) n k) s<((B+1:Nat):Int):=fun k=>by
    rcases Nat.lt_or_ge s (EL (B+1) n k).length with h4 | h4
    ·exact KN (Nat.succ_pos B) _ _ _ (bP h4)
    ·rw [iG h4];exact⟨by decide,by show(0:Int)<_;omega⟩
   have:=h3 k
   have:=h3 k'
   omega
  refine⟨uu i-uu j,vv i-vv j,c,fun h0=>?_,SY,by omega,by omega,oN _ _ _ _,oN _ _ _ _⟩
  rw [h0,show K 0=(0:ZX)from rfl]at SY
  have hvz:vv i-vv j=0:=Classical.byContradiction fun nT=>by
   have h1:dv a (vv i-vv j):=aie ha hc (b:=b) ⟨1,by decide, -(uu i-uu j),by
    show(1:ZX)*_=_
    have:(vv i-vv j)*b = -((uu i-uu j)*a):=by grind
    rw [this];grind⟩
   have:=h1.nW nT
   omega
  have huz:uu i-uu j=0:=Classical.byContradiction fun nT=>by
   have h1:(uu i-uu j)*a=0:=by rw [hvz]at SY;grind
   exact jO nT ha h1
  have hd:∀(B n k k':Nat),of (EL (B+1) n k)-of (EL (B+1) n k')=0→EL (B+1) n k=EL (B+1) n k':=fun B n k k' h0=>by
   refine List.ext_getElem (by rw [xA,xA]) fun s hs AD=>?_
   have h3:=KP (of (EL (B+1) n k)) (of (EL (B+1) n k')) s
   rw [h0,show nth (0:ZX).l s=0 from pA s,KR,KR]at h3
   rw [←dD hs,←dD AD]
   omega
  have lt2:∀k,k≤n→k/P<(V+1)^p:=fun k hk=>(Nat.div_lt_iff_lt_mul hPp).2 (by rw [Nat.mul_comm];omega)
  have d1:i%P=j%P:=KO (Nat.succ_pos U) q _ _ (Nat.mod_lt i hPp) (Nat.mod_lt j hPp) (hd _ _ _ _ huz)
  have d2:i/P=j/P:=KO (Nat.succ_pos V) p _ _ (lt2 i (by omega)) (lt2 j hj) (hd _ _ _ _ hvz)
  have h6:=Nat.div_add_mod i P
  have h7:=Nat.div_add_mod j P
  rw [d1,d2]at h6
  omega
 ·obtain⟨c,x9,rfl⟩:=mA (show N a=1 by omega)
  refine⟨1,0,c,x9,by grind,by rw [wS];omega,by rw [acS];omega,fun x hx=>?_,fun x hx=>by cases hx⟩
  have h1:(1:ZX).l = [1]:=rfl
  rw [h1]at hx
  simp at hx;subst hx;exact Nat.two_pow_pos _
end ZX
end Pm
namespace Pm
theorem oX(a b:Nat):(2:Rat)^(a+b)=2^a*2^b:=by
 induction b with
 | zero=>rw [Nat.add_zero,Rat.pow_zero,Rat.mul_one]
 | succ b ih=>rw [←Nat.add_assoc,Rat.pow_succ,Rat.pow_succ,ih];grind
theorem eK(a:Nat):(0:Rat)<2^a:=Rat.pow_pos (by decide)
theorem qK:∀a:Nat,(1:Rat)≤2^a
 | 0=>by simp
 | a+1=>by
  have:=qK a
  rw [Rat.pow_succ];grind
theorem DY{a b:Nat}(h:a≤b):(2:Rat)^a≤2^b:=by
 obtain⟨c,rfl⟩:∃c,b=a+c:=⟨b-a,by omega⟩
 rw [oX]
 have h1:=qK c
 have h2:=eK a
 have h3:=Rat.mul_le_mul_of_nonneg_left h1 (Rat.le_of_lt h2)
 grind
theorem KS:∀a:Nat,(((2^a:Nat):Int):Rat)=2^a
 | 0=>by simp
 | a+1=>by
  rw [Nat.pow_succ,Rat.pow_succ,←KS a,Int.natCast_mul,Rat.intCast_mul];rfl
theorem HL{c:Int}{s:Nat}(h:c.natAbs≤2^s):Ab (c:Rat) (2^s):=by
 have h1:=KS s
 have h2:c≤((2^s:Nat):Int):=by omega
 have h3 : -((2^s:Nat):Int)≤c:=by omega
 have h4:=Rat.intCast_le_intCast.2 h2
 have h5:=Rat.intCast_le_intCast.2 h3
 rw [Rat.intCast_neg]at h5
 rw [h1]at h4 h5
 exact⟨h5,h4⟩
theorem TY(s β:Nat):∀k,FJ (2^s) (2^β) k=2^(s+k*(β+2))
 | 0=>by simp [FJ]
 | k+1=>by
  rw [FJ,TY s β k,show s+(k+1)*(β+2)=s+k*(β+2)+β+1+1 by rw [Nat.add_mul];omega,Rat.pow_succ,Rat.pow_succ,oX _ β]
  grind
namespace ZX
theorem aua{a:ZX}{s n β:Nat}(h:∀c∈a.l,c.natAbs≤2^s)(hN:N a≤n){t:Rat}(ht:Ab t (2^β)):Ab (e t a) (2^(s+n*(β+2))):=by
 have h1:=WO (S:=2^s) (B:=2^β) (t:=t) (Rat.le_of_lt (eK s)) (qK β) ht a.l fun c hc=>HL (h c hc)
 rw [TY]at h1
 refine h1.mono (DY ?_)
 have:a.l.length*(β+2)≤n*(β+2):=Nat.mul_le_mul_right _ hN
 omega
theorem aek{a:ZX}{s n β:Nat}(h:∀c∈a.l,c.natAbs≤2^s)(hN:N a≤n){r t:Rat}(hr:Ab r (2^β))(ht:Ab t (2^β)):Ab (dd r t a.l) (2^(s+n*(β+2)))∧Ab (cc r t a.l) (2^(s+n*(β+2))):=by
 have h1:=HF (S:=2^s) (B:=2^β) (s:=r) (t:=t) (Rat.le_of_lt (eK s)) (qK β) hr ht a.l fun c hc=>HL (h c hc)
 have h2:=adW (S:=2^s) (B:=2^β) (s:=r) (t:=t) (Rat.le_of_lt (eK s)) (qK β) hr ht a.l fun c hc=>HL (h c hc)
 rw [TY]at h1 h2
 have h3:a.l.length*(β+2)≤n*(β+2):=Nat.mul_le_mul_right _ hN
 exact⟨h1.mono (DY (by omega)),h2.mono (DY (by omega))⟩
def sk(s n l β:Nat):Nat:=n*(s+2+l)+n*(β+2)+1
def sx(a b:ZX)(s r l:Nat):Nat:=(l+2)*(N a+N b)+s*N b+r*N a
theorem aub{a b:ZX}{s r l β:Nat}(ha:a≠0)(hb:b≠0)(hA:∀c∈a.l,c.natAbs≤2^s)(hB:∀c∈b.l,c.natAbs≤2^r)(hl:N a+N b≤2^l)(hc:∀d,dv d a→dv d b→N d≤1)
  {t ε η:Rat} (ht:Ab t (2^β)) (hε:ε*2^(sx a b s r l-s+N b*(β+2)+1)≤1) (hη:η*2^(sx a b s r l-r+N a*(β+2)+1)≤1):kU ε (e t a)∨kU η (e t b):=by
 obtain⟨u,v,c,x9,he,hNu,hNv,hu,hv⟩:=anY ha hb hA hB hl hc (Nat.le_refl _)
 have h1:=aua (β:=β) hu hNu ht
 have h2:=aua (β:=β) hv hNv ht
 have h3:e t u*e t a+e t v*e t b=(c:Rat):=by rw [←qY,←qY,←atX,he,EK]
 have h4:=BC x9
 rw [show(l+2)*(N a+N b)+s*N b+r*N a=sx a b s r l from rfl]at h1 h2
 rw [oX _ 1]at hε hη
 have hM:=eK (sx a b s r l-s+N b*(β+2))
 have hM2:=eK (sx a b s r l-r+N a*(β+2))
 generalize (2:Rat)^(sx a b s r l-s+N b*(β+2))=M at *
 generalize (2:Rat)^(sx a b s r l-r+N a*(β+2))=M2 at *
 refine Classical.byContradiction fun AU=>?_
 have e1:(2:Rat)^1=2:=by rw [Rat.pow_succ,Rat.pow_zero];grind
 rw [e1]at hε hη
 have key:∀x y E M:Rat,0<M→Ab y M→E*(M*2)≤1→¬kU E x → ∃δ:Rat,δ<1/2∧Ab (y*x) δ:=fun x y E M hM hy hE hx=>by
  have g1:=KA hx
  obtain⟨m,g2,g3,g4⟩:∃m:Rat,m<E∧x≤m ∧ -x≤m:=by
   by_cases h:x ≤ -x
   ·exact⟨-x,by grind,h,Rat.le_refl⟩
   ·exact⟨x,by grind,Rat.le_refl,by grind⟩
  have g5:=hy.mul (show Ab x m from⟨by grind,g3⟩)
  refine⟨_,?_,g5⟩
  have g6:=Rat.mul_lt_mul_of_pos_left g2 hM
  grind
 obtain⟨d1,p1,p2,p3⟩:=key _ _ _ _ hM h1 hε fun h=>AU (.inl h)
 obtain⟨d2,p4,p5,p6⟩:=key _ _ _ _ hM2 h2 hη fun h=>AU (.inr h)
 rcases h4 with h4 | h4<;>grind
theorem ael{a b:ZX}{s n l β m:Nat}(hn:N a+N b≤n)(hm:m≤n):sx a b s s l-s+m*(β+2)+1≤sk s n l β:=by
 unfold sx sk
 have h1:(l+2)*(N a+N b)+s*N b+s*N a=(s+2+l)*(N a+N b):=by grind
 have h2:(s+2+l)*(N a+N b)≤(s+2+l)*n:=Nat.mul_le_mul_left _ hn
 have h3:m*(β+2)≤n*(β+2):=Nat.mul_le_mul_right _ hm
 rw [h1,Nat.mul_comm n]
 omega
theorem DZ{ε:Rat}{i j:Nat}(h:ε*2^j≤1)(hij:i≤j):ε*2^i≤1:=by
 have h1:=DY hij
 have h2:=eK i
 by_cases h0:0≤ε
 ·have:=Rat.mul_le_mul_of_nonneg_left h1 h0;grind
 ·have:=Rat.mul_lt_mul_of_pos_right (show ε<0 by grind) h2;grind
theorem sep{a b:ZX}{s n l β:Nat}(ha:a≠0)(hb:b≠0)(hA:∀c∈a.l,c.natAbs≤2^s)(hB:∀c∈b.l,c.natAbs≤2^s)(hn:N a+N b≤n)(hl:n≤2^l)(hc:∀d,dv d a→dv d b→N d≤1)
  {t ε:Rat} (ht:Ab t (2^β)) (hε:ε*2^sk s n l β≤1):kU ε (e t a)∨kU ε (e t b):=
 aub (l:=l) ha hb hA hB (by omega) hc ht (DZ hε (ael hn (by omega))) (DZ hε (ael hn (by omega)))
theorem anZ{f:ZX}{s n l:Nat}(h:∀c∈f.l,c.natAbs≤2^s)(hN:N f≤n)(hl:n≤2^l):∀c∈(bX f).l,c.natAbs≤2^(s+l):=fun c hc=>by
 have h1:=nG _ _ hc
 simp only [yE,List.mem_map,List.mem_range]at h1
 obtain⟨i,hi,rfl⟩:=h1
 rw [Int.natAbs_mul,Nat.pow_add]
 have h2:=TX h (i+1)
 have h3:N f=f.l.length:=rfl
 exact Nat.mul_le_mul h2 (by rw [Int.natAbs_natCast];omega)
theorem aif{x y z:Rat}(h:(x<y∧y<z)∨(y<x∧z<y)):(if x≠0∧b8 z≠b8 x then 1 else 0:Nat)=(if x≠0∧b8 y≠b8 x then 1 else 0)+(if y≠0∧b8 z≠b8 y then 1 else 0):=by
 rcases cV x with ⟨h1,h2⟩ | ⟨h1,h2⟩ | ⟨h1,h2⟩<;>rcases cV y with ⟨h3,h4⟩ | ⟨h3,h4⟩ | ⟨h3,h4⟩<;>rcases cV z with ⟨h5,h6⟩ | ⟨h5,h6⟩ | ⟨h5,h6⟩ <;>
  rw [h2,h4,h6]<;>first
   | (exfalso;rcases h with ⟨h7,h8⟩ | ⟨h7,h8⟩<;>grind)
   | (have n1:(x≠0)=True:=eq_true (by grind)
      have n2:(y≠0)=True:=eq_true (by grind)
      simp only [n1,n2];decide)
   | (have n1:(x≠0)=False:=eq_false (by grind)
      have n2:(y≠0)=True:=eq_true (by grind)
      simp only [n1,n2];decide)
   | (have n1:(x≠0)=True:=eq_true (by grind)
      have n2:(y≠0)=False:=eq_false (by grind)
      simp only [n1,n2];decide)
def D0(f:ZX)(t:Rat):Int:=if e t f=0 then b8 (e t (bX f))else b8 (e t f)
theorem aem{x y:Rat}{σ:Int}(h:(σ=1∧x<y)∨(σ = -1∧y<x)):(if y=0 then σ else b8 y)=(if (if x≠0∧b8 y≠b8 x then 1 else 0:Nat)=0 then 1 else -1)*(if x=0 then σ else b8 x):=by
 rcases cV x with ⟨h1,h2⟩ | ⟨h1,h2⟩ | ⟨h1,h2⟩<;>rcases cV y with ⟨h3,h4⟩ | ⟨h3,h4⟩ | ⟨h3,h4⟩<;>rw [h2,h4]<;>first
   | (exfalso;rcases h with ⟨h7,h8⟩ | ⟨h7,h8⟩<;>grind)
   | (have n1:(x=0)=False:=eq_false (by grind)
      have n2:(y=0)=False:=eq_false (by grind)
      simp only [n1,n2,ne_eq,not_false_eq_true,true_and,if_false];decide)
   | (have n1:(x=0)=True:=eq_true (by grind)
      have n2:(y=0)=False:=eq_false (by grind)
      have:σ=1∨σ = -1:=by omega
      rcases this with rfl | rfl<;>first
        | (simp only [n1,n2,ne_eq,not_true_eq_false,false_and,if_false,if_true];decide)
        | (exfalso;rcases h with ⟨h7,h8⟩ | ⟨h7,h8⟩<;>grind))
   | (have n1:(x=0)=False:=eq_false (by grind)
      have n2:(y=0)=True:=eq_true (by grind)
      have:σ=1∨σ = -1:=by omega
      rcases this with rfl | rfl<;>first
        | (simp only [n1,n2,ne_eq,not_false_eq_true,true_and,if_false,if_true];decide)
        | (exfalso;rcases h with ⟨h7,h8⟩ | ⟨h7,h8⟩<;>grind))
structure azi(f:ZX)(B δ:Rat):Prop where
 par:∀s t,Ab s B→Ab t B→s<t→t-s≤δ→D0 f t=(if ind f s t=0 then 1 else -1)*D0 f s
def lk(s n l β:Nat):Nat:=sk (s+l) (n+n) (l+1) β+(s+l+n*(β+2))+2
theorem tI{L:List ZX}{f:ZX}(G:AS L f){s n l β:Nat}(hf:f≠0)(hA:∀c∈f.l,c.natAbs≤2^s)(hn:N f≤n)(hl:n≤2^l)(hc:∀d,dv d f→dv d (bX f)→N d≤1){δ:Rat}(hδ:δ*2^lk s n l β≤1):Lcl L f (2^β) δ∧azi f (2^β) δ:=by
 have hA':∀c∈f.l,c.natAbs≤2^(s+l):=fun c hc=>Nat.le_trans (hA c hc) (Nat.pow_le_pow_right (by decide) (by omega))
 have hD:=anZ hA hn hl
 have hND:=oD f
 have main:∀lo hi,Ab lo (2^β)→Ab hi (2^β)→lo<hi→hi-lo≤δ→vt L lo=vt L hi+ind f lo hi∧(e lo f=0→e hi f≠0)∧D0 f hi=(if ind f lo hi=0 then 1 else -1)*D0 f lo:=fun lo hi alo ahi hlh hw=>by
  have hδ0:0<δ:=by grind
  rw [lk,oX,oX]at hδ
  have hQ:=eK (s+l+n*(β+2))
  have hK:=eK (sk (s+l) (n+n) (l+1) β)
  generalize hQe:(2:Rat)^(s+l+n*(β+2))=Q at *
  generalize hKe:(2:Rat)^sk (s+l) (n+n) (l+1) β=κ at *
  have h22:(2:Rat)^2=4:=by rw [Rat.pow_succ,Rat.pow_succ,Rat.pow_zero];grind
  rw [h22]at hδ
  have hε:(1/κ)*κ=1:=Rat.div_mul_cancel (Rat.ne_of_gt hK)
  have hε0:0<1/κ:=(Rat.lt_div_iff hK).2 (by grind)
  generalize 1/κ=ε at *
  have hδQ:4*(δ*Q)≤ε:=by
   have h1:δ*(κ*Q*4)=(4*(δ*Q))*κ:=by grind
   rw [h1,←hε]at hδ
   exact Rat.le_of_mul_le_mul_right hδ hK
  have hin:∀x,lo≤x→x≤hi→Ab x (2^β):=fun x h1 h2=>cH alo ahi h1 h2
  by_cases hd0:bX f=0
  ·-- a constant
   have hN1:N f=1:=by
    have h0:=ZX.aH.1 hf
    rcases Nat.lt_or_ge (N f) 2 with h1 | h1
    ·omega
    ·exact absurd hd0 (J0 h1)
   obtain⟨c,x9,rfl⟩:=mA hN1
   have hcv:∀x,b8 (e x (K c))=b8 (c:Rat):=fun x=>by rw [EK]
   have h1:=G.const hlh (σ:=b8 (c:Rat)) (.inr (hcv lo)) (fun x _ _=>hcv x)
   have h2:ind (K c) lo hi=0:=if_neg fun h=>h.2 (by rw [hcv,hcv])
   have auc:(c:Rat)≠0:=fun h=>x9 (by exact_mod_cast h)
   have hz:∀x,e x (K c)≠0:=fun x=>by rw [EK];exact auc
   exact⟨by rw [h1,h2];omega,fun h=>by rw [EK]at h;exact absurd h auc,by rw [h2,if_pos rfl,Int.one_mul,D0,D0,if_neg (hz _),if_neg (hz _),hcv,hcv]⟩
  have hb:=sep hf hd0 hA' hD (show N f+N (bX f)≤n+n by omega) (show n+n≤2^(l+1)by rw [Nat.pow_succ];omega) hc alo (ε:=ε) (by rw [hKe,hε];exact Rat.le_refl)
  have dsz:∀x y,lo≤x→x≤hi→lo≤y→y≤hi→Ab (dd x y f.l) Q∧Ab (cc x y f.l) Q∧Ab (dd x y (bX f).l) Q:=fun x y h1 h2 h3 h4=>by
   have g1:=aek hA' hn (hin x h1 h2) (hin y h3 h4)
   have g2:=aek hD (show N (bX f)≤n by omega) (hin x h1 h2) (hin y h3 h4)
   rw [hQe]at g1 g2
   exact⟨g1.1,g1.2,g2.1⟩
  have aCn:0≤δ*Q:=Rat.mul_nonneg (Rat.le_of_lt hδ0) (Rat.le_of_lt hQ)
  have small:∀h x,0≤h→h≤δ→Ab x Q→Ab (h*x) (δ*Q):=fun h x h1 h2 h3=>Ab.mul ⟨by grind,h2⟩ h3
  rcases hb with hb | hb
  ·-- one sign
   have xP:∀x,lo≤x→x≤hi→b8 (e x f)=b8 (e lo f)∧b8 (e lo f)≠0:=fun x h1 h2=>by
    refine fK hb hε0 fun h=>?_
    have h3:=nO lo x f.l
    have h4:=small (x-lo) _ (by grind) (by grind) (dsz lo x Rat.le_refl (by grind) h1 h2).1
    rw [←h3]at h4
    obtain⟨p1,p2⟩:=h4
    have h5:e x f-e lo f=qv x f.l-qv lo f.l:=rfl
    rw [h5]at h
    rcases h with h | h<;>grind
   have h1:=G.const hlh (σ:=b8 (e lo f)) (.inr rfl) (fun x h1 h2=>(xP x (by grind) h2).1)
   have h2:ind f lo hi=0:=if_neg fun h=>h.2 (xP hi (by grind) Rat.le_refl).1
   have hz:∀x,lo≤x→x≤hi→e x f≠0:=fun x h1 h2 h=>by
    obtain⟨g1,g2⟩:=xP x h1 h2
    rw [h,iK]at g1
    exact g2 g1.symm
   exact⟨by rw [h1,h2];omega,fun h=>absurd h (hz lo Rat.le_refl (by grind)),by rw [h2,if_pos rfl,Int.one_mul,D0,D0,if_neg (hz _ (by grind) Rat.le_refl),if_neg (hz _ Rat.le_refl (by grind)),(xP hi (by grind) Rat.le_refl).1]⟩
  ·-- rising or awe
   have mono:∀x y,lo≤x→x<y→y≤hi→b8 (e y f-e x f)=b8 (e lo (bX f))∧b8 (e lo (bX f))≠0:=fun x y h1 h2 h3=>by
    have g1:=nO x y f.l
    have g2:=TE x y f.l
    have g3:dd x x f.l=e x (bX f):=(akq x f).symm
    have g4:=nO lo x (bX f).l
    have b1:=small (y-x) _ (by grind) (by grind) (dsz x y h1 (by grind) (by grind) h3).2.1
    have b2:=small (x-lo) _ (by grind) (by grind) (dsz lo x Rat.le_refl (by grind) h1 (by grind)).2.2
    rw [←g2]at b1
    rw [←g4]at b2
    have h5:e x (bX f)-e lo (bX f)=qv x (bX f).l-qv lo (bX f).l:=rfl
    have h6:=fK (y:=dd x y f.l) hb hε0 fun h=>by
     obtain⟨p1,p2⟩:=b1
     obtain⟨p3,p4⟩:=b2
     rcases h with h | h<;>grind
    have h7:e y f-e x f=qv y f.l-qv x f.l:=rfl
    rw [h7,g1,tG,eI (show 0<y-x by grind),Int.one_mul]
    exact h6
   have W2:∀x y,lo≤x→x<y→y≤hi→(b8 (e lo (bX f))=1∧e x f<e y f)∨(b8 (e lo (bX f)) = -1∧e y f<e x f):=fun x y h1 h2 h3=>by
    obtain⟨g1,g2⟩:=mono x y h1 h2 h3
    rcases cV (e y f-e x f)with ⟨g3,g4⟩ | ⟨g3,g4⟩ | ⟨g3,g4⟩
    ·exact .inr ⟨by omega,by grind⟩
    ·omega
    ·exact .inl ⟨by omega,by grind⟩
   have dsg:∀x,lo≤x→x≤hi→b8 (e x (bX f))=b8 (e lo (bX f)):=fun x h1 h2=>by
    have g4:=nO lo x (bX f).l
    have b2:=small (x-lo) _ (by grind) (by grind) (dsz lo x Rat.le_refl (by grind) h1 h2).2.2
    rw [←g4]at b2
    have h5:e x (bX f)-e lo (bX f)=qv x (bX f).l-qv lo (bX f).l:=rfl
    exact(fK hb hε0 fun h=>by
     obtain⟨p3,p4⟩:=b2
     rcases h with h | h<;>grind).1
   refine⟨?_,fun h=>?_,?_⟩
   ·refine G.adZ (P:=fun x y=>lo≤x→y≤hi→vt L x=vt L y+ind f x y) (fun x y z tW hyz p1 p2 hx hz=>?_) (fun B δ' hL x y hx hy tW hd h1 h2=>hL.turns x y hx hy tW hd) hlh Rat.le_refl Rat.le_refl
    rw [p1 hx (by grind),p2 (by grind) hz]
    have h1:=W2 x y hx tW (by grind)
    have h2:=W2 y z (by grind) hyz hz
    have h3:=aif (x:=e x f) (y:=e y f) (z:=e z f) (by
     rcases h1 with ⟨q1,q2⟩ | ⟨q1,q2⟩<;>rcases h2 with ⟨q3,q4⟩ | ⟨q3,q4⟩
     ·exact .inl ⟨q2,q4⟩
     ·omega
     ·omega
     ·exact .inr ⟨q2,q4⟩)
    have h4:ind f x z=ind f x y+ind f y z:=h3
    omega
   ·rcases W2 lo hi Rat.le_refl hlh Rat.le_refl with ⟨q1,q2⟩ | ⟨q1,q2⟩<;>grind
   ·have h1:=aem (W2 lo hi Rat.le_refl hlh Rat.le_refl)
    unfold D0 ind
    rw [dsg hi (by grind) Rat.le_refl]
    exact h1
 exact⟨⟨fun x y hx hy tW hd=>(main x y hx hy tW hd).1,fun x y hx hy tW hd=>(main x y hx hy tW hd).2.1⟩,⟨fun x y hx hy tW hd=>(main x y hx hy tW hd).2.2⟩⟩
end ZX
end Pm
namespace Pm
namespace ZX
theorem D1:∀l:List Int,∃s:Nat,∀c∈l,c.natAbs≤2^s
 | []=>⟨0,fun c hc=>by cases hc⟩
 | a::l=>by
  obtain⟨s,h⟩:=D1 l
  refine⟨s+a.natAbs,fun c hc=>?_⟩
  rcases List.mem_cons.1 hc with rfl | hc
  ·have h1:c.natAbs<2^c.natAbs:=Nat.lt_two_pow_self
   exact Nat.le_trans (Nat.le_of_lt h1) (Nat.pow_le_pow_right (by decide) (by omega))
  ·exact Nat.le_trans (h c hc) (Nat.pow_le_pow_right (by decide) (by omega))
theorem O1(B:Rat):∃β:Nat,B≤2^β:=by
 have h1:=Rat.lt_floor_add_one B
 refine⟨(B.floor+1).toNat,Rat.le_trans (Rat.le_of_lt h1) ?_⟩
 have h2:((2^(B.floor+1).toNat:Int):Rat)=2^(B.floor+1).toNat:=by rw [Rat.intCast_pow];rfl
 rw [←h2]
 refine Rat.intCast_le_intCast.2 ?_
 have h3:(B.floor+1).toNat<2^(B.floor+1).toNat:=Nat.lt_two_pow_self
 have h4:((2^(B.floor+1).toNat:Nat):Int)=2^(B.floor+1).toNat:=by rw [Int.natCast_pow];rfl
 omega
theorem D2(k:Nat):∃δ:Rat,0<δ∧δ*2^k=1:=by
 have h:=eK k
 have h1:(1/2^k)*(2:Rat)^k=1:=Rat.div_mul_cancel (Rat.ne_of_gt h)
 exact⟨1/2^k,(Rat.lt_div_iff h).2 (by grind),h1⟩
theorem min2{a b:Rat}(ha:0<a)(hb:0<b):∃c:Rat,0<c∧c≤a∧c≤b:=by
 by_cases h:a≤b
 ·exact⟨a,ha,Rat.le_refl,h⟩
 ·exact⟨b,hb,by grind,Rat.le_refl⟩
theorem akv{P:Rat→Rat→Prop}(ht:∀a b c,a<b→b<c→P a b→P b c→P a c)(hs:∀B:Rat,1≤B → ∃δ:Rat,0<δ ∧ ∀a b,Ab a B→Ab b B→a<b→b-a≤δ→P a b){a b:Rat}(gJ:a<b):P a b:=by
 obtain⟨B,hB,ha,hb⟩:=lO a b
 obtain⟨δ,hδ,h⟩:=hs B hB
 exact anO hδ ht h ha hb gJ
theorem lip(p:ZX)(B:Rat)(hB:1≤B):∃Q:Rat,0<Q ∧ ∀a b,Ab a B→Ab b B→a≤b→Ab (e b p-e a p) ((b-a)*Q):=by
 obtain⟨S,hS,hc⟩:=KF p.l
 obtain⟨h3,_⟩:=qI hS hB p.l.length
 refine⟨FJ S B p.l.length+1,by grind,fun a b ha hb gJ=>?_⟩
 have h1:=(HF hS hB ha hb p.l hc).mono (show FJ S B p.l.length≤FJ S B p.l.length+1 by grind)
 have h2:=nO a b p.l
 have h4:e b p-e a p=qv b p.l-qv a p.l:=rfl
 rw [h4,h2]
 exact Ab.mul ⟨by grind,Rat.le_refl⟩ h1
def tJ(a b:ZX):Prop:=∀d,dv d a→dv d b→N d≤1
theorem tJ.mono{a b c d:ZX}(h:tJ a b)(h1:dv c a)(h2:dv d b):tJ c d:=fun x h3 h4=>h x (h3.trans h1) (h4.trans h2)
theorem aud{a b:ZX}(ha:a≠0)(hb:b≠0)(hc:tJ a b)(B:Rat):∃ε:Rat,0<ε ∧ ∀t,Ab t B→kU ε (e t a)∨kU ε (e t b):=by
 obtain⟨s1,h1⟩:=D1 a.l
 obtain⟨s2,h2⟩:=D1 b.l
 obtain⟨β,hβ⟩:=O1 B
 obtain⟨ε,h3,h4⟩:=D2 (sk (s1+s2) (N a+N b) (N a+N b) β)
 exact⟨ε,h3,fun t ht=>sep (s:=s1+s2) (l:=N a+N b) (β:=β) ha hb (fun c hc=>Nat.le_trans (h1 c hc) (Nat.pow_le_pow_right (by decide) (by omega))) (fun c hc=>Nat.le_trans (h2 c hc) (Nat.pow_le_pow_right (by decide) (by omega))) (Nat.le_refl _) (Nat.le_of_lt Nat.lt_two_pow_self) hc (ht.mono hβ) (by rw [h4];exact Rat.le_refl)⟩
structure sK(f:ZX)(v:Rat→Nat):Prop where
 ne:f≠0
 LG:tJ f (bX f)
 g:∃L,AS L f∧v=vt L
structure azj(f:ZX)(v:Rat→Nat)(B δ:Rat):Prop where
 turns:∀s t,Ab s B→Ab t B→s<t→t-s≤δ→v s=v t+ind f s t
 simple:∀s t,Ab s B→Ab t B→s<t→t-s≤δ→e s f=0→e t f≠0
 par:∀s t,Ab s B→Ab t B→s<t→t-s≤δ→D0 f t=(if ind f s t=0 then 1 else -1)*D0 f s
def sg1(n:Nat):Int:=if n%2=0 then 1 else -1
theorem aih(a b:Nat):sg1 (a+b)=sg1 a*sg1 b:=by
 unfold sg1
 split<;>split<;>split<;>omega
theorem KT(f:ZX)(s t:Rat):ind f s t=0∨ind f s t=1:=by unfold ind;split<;>simp
namespace sK
variable {f:ZX} {v:Rat→Nat} (S:sK f v)
include S
theorem pV(B:Rat):∃δ:Rat,0<δ∧azj f v B δ:=by
 obtain⟨L,G,rfl⟩:=S.g
 obtain⟨s,h1⟩:=D1 f.l
 obtain⟨β,hβ⟩:=O1 B
 obtain⟨δ,h3,h4⟩:=D2 (lk s (N f) (N f) β)
 obtain⟨h5,h6⟩:=tI G S.ne h1 (Nat.le_refl _) (Nat.le_of_lt Nat.lt_two_pow_self) S.LG (δ:=δ) (by rw [h4];exact Rat.le_refl)
 exact⟨δ,h3,fun s t hs ht=>h5.turns s t (hs.mono hβ) (ht.mono hβ),fun s t hs ht=>h5.simple s t (hs.mono hβ) (ht.mono hβ),fun s t hs ht=>h6.par s t (hs.mono hβ) (ht.mono hβ)⟩
theorem cA{a b:Rat}(gJ:a≤b):v b≤v a:=by
 obtain⟨L,G,rfl⟩:=S.g
 exact G.cA gJ
theorem const{a b:Rat}(gJ:a<b){σ:Int}(h0:e a f=0∨b8 (e a f)=σ)(h1:∀x,a<x→x≤b→b8 (e x f)=σ):v a=v b:=by
 obtain⟨L,G,rfl⟩:=S.g
 exact G.const gJ h0 h1
theorem flat{a b:Rat}(gJ:a<b)(he:v a=v b):e b f≠0∧(e a f≠0→b8 (e b f)=b8 (e a f)):=by
 obtain⟨L,G,rfl⟩:=S.g
 exact G.flat gJ he
theorem root{s t:Rat}(jD:s<t)(h0:e t f=0):v t<v s:=by
 obtain⟨L,G,rfl⟩:=S.g
 exact G.root jD h0
theorem bg{a b:Rat}(hb:Bg a b f)(gJ:a<b):v a=v b:=by
 obtain⟨L,G,rfl⟩:=S.g
 exact G.bg hb gJ
theorem par{s t:Rat}(h:s≤t):D0 f t=sg1 (v s-v t)*D0 f s:=by
 rcases Rat.le_iff_lt_or_eq.1 h with h1 | rfl
 ·refine akv (P:=fun a b=>D0 f b=sg1 (v a-v b)*D0 f a) (fun a b c h1 h2 p1 p2=>?_) (fun B hB=>?_) h1
  ·have:=S.cA (Rat.le_of_lt h1)
   have:=S.cA (Rat.le_of_lt h2)
   rw [p2,p1,show v a-v c=(v a-v b)+(v b-v c)by omega,aih];grind
  ·obtain⟨δ,hδ,hN⟩:=S.pV B
   refine⟨δ,hδ,fun a b ha hb gJ hd=>?_⟩
   have h1:=hN.turns a b ha hb gJ hd
   have h2:=hN.par a b ha hb gJ hd
   rw [h2,show v a-v b=ind f a b by omega]
   rcases KT f a b with h3 | h3<;>rw [h3]<;>rfl
 ·rw [Nat.sub_self];show _=1*_;omega
end sK
theorem aii{f:ZX}{t:Rat}(h:e t f≠0):∃r:Rat,0<r ∧ ∀x,t-r≤x→x≤t+r→b8 (e x f)=b8 (e t f):=by
 obtain⟨B,hB,ha,hb⟩:=lO (t-1) (t+1)
 obtain⟨Q,hQ,hl⟩:=lip f B hB
 have hε:∃ε:Rat,0<ε∧kU ε (e t f):=by
  by_cases h0:0≤e t f
  ·exact⟨e t f,by grind, .inr Rat.le_refl⟩
  ·exact⟨-e t f,by grind, .inl (by grind)⟩
 obtain⟨ε,hε,TF⟩:=hε
 have h1:ε/(2*Q)*(2*Q)=ε:=Rat.div_mul_cancel (by grind)
 have h2:0<ε/(2*Q):=(Rat.lt_div_iff (by grind)).2 (by grind)
 generalize ε/(2*Q)=η at *
 obtain⟨r,hr,vX,bR⟩:=min2 (show (0:Rat)<1 by decide) h2
 refine⟨r,hr,fun x hx hy=>?_⟩
 have FW:Ab x B:=cH ha hb (by grind) (by grind)
 have ht':Ab t B:=cH ha hb (by grind) (by grind)
 have hrQ:r*Q≤η*Q:=Rat.mul_le_mul_of_nonneg_right bR (Rat.le_of_lt hQ)
 refine(fK TF hε fun hn=>?_).1
 by_cases hxt:t≤x
 ·have h3:=hl t x ht' FW hxt
  have h4:(x-t)*Q≤r*Q:=Rat.mul_le_mul_of_nonneg_right (by grind) (Rat.le_of_lt hQ)
  obtain⟨p1,p2⟩:=h3
  rcases hn with hn | hn<;>grind
 ·have h3:=hl x t FW ht' (by grind)
  have h4:(t-x)*Q≤r*Q:=Rat.mul_le_mul_of_nonneg_right (by grind) (Rat.le_of_lt hQ)
  obtain⟨p1,p2⟩:=h3
  rcases hn with hn | hn<;>grind
namespace sK
variable {f:ZX} {v:Rat→Nat} (S:sK f v)
include S
theorem lft{t:Rat}(h:e t f≠0){a:Rat}(hat:a<t):∃s,a≤s∧s<t∧v s=v t∧b8 (e s f)=b8 (e t f):=by
 obtain⟨B,hB,ha,hb⟩:=lO a t
 obtain⟨δ,hδ,hN⟩:=S.pV B
 obtain⟨r1,vX,hc⟩:=aii h
 obtain⟨r2,bR,h1,h2⟩:=min2 hδ (show 0<t-a by grind)
 obtain⟨r,hr,h3,h4⟩:=min2 vX bR
 have hs:Ab (t-r) B:=cH ha hb (by grind) (by grind)
 have g1:=hN.turns (t-r) t hs hb (by grind) (by grind)
 have g5:=hc (t-r) (by grind) (by grind)
 have g4:ind f (t-r) t=0:=if_neg fun hh=>hh.2 g5.symm
 exact⟨t-r,by grind,by grind,by omega,g5⟩
theorem small{s t Q:Rat}(jD:s<t)(hv:v s≠v t)(hQ:0<Q)(hl:∀a b,s≤a→a≤b→b≤t→Ab (e b f-e a f) ((b-a)*Q)){x:Rat}(hx:s≤x)(hy:x≤t):Ab (e x f) ((t-s)*Q):=by
 refine Classical.byContradiction fun hn=>hv ?_
 have key:∀y,s≤y→y≤t→b8 (e y f)=b8 (e x f):=fun y h1 h2=>by
  have h3:Ab (e y f-e x f) ((t-s)*Q):=by
   by_cases tW:x≤y
   ·exact(hl x y hx tW h2).mono (Rat.mul_le_mul_of_nonneg_right (by grind) (Rat.le_of_lt hQ))
   ·have h4:=(hl y x h1 (by grind) hy).mono (Rat.mul_le_mul_of_nonneg_right (show x-y≤t-s by grind) (Rat.le_of_lt hQ))
    obtain⟨p1,p2⟩:=h4
    exact⟨by grind,by grind⟩
  obtain⟨p1,p2⟩:=h3
  have h0:0≤(t-s)*Q:=Rat.mul_nonneg (by grind) (Rat.le_of_lt hQ)
  generalize (t-s)*Q=M at *
  rcases cV (e x f)with ⟨h5,h6⟩ | ⟨h5,h6⟩ | ⟨h5,h6⟩
  ·rw [h6]
   refine fZ ?_
   have:e x f < -M:=Rat.not_le.1 fun h=>hn ⟨h,by grind⟩
   grind
  ·exact absurd ⟨by grind,by grind⟩ hn
  ·rw [h6]
   refine eI ?_
   have:M<e x f:=Rat.not_le.1 fun h=>hn ⟨by grind,h⟩
   grind
 exact S.const jD (σ:=b8 (e x f)) (.inr (key s Rat.le_refl (Rat.le_of_lt jD))) fun y h1 h2=>key y (Rat.le_of_lt h1) h2
end sK
theorem HM{p q:Prop}[Decidable p][Decidable q](h:p↔q):(if p then 1 else 0:Nat)=if q then 1 else 0:=by
 by_cases hp:p
 ·rw [if_pos hp,if_pos (h.1 hp)]
 ·rw [if_neg hp,if_neg (fun hq=>hp (h.2 hq))]
theorem yQ{c x y z:Rat}(hc:c≠0)(h:c*x=y*z):b8 x=b8 c*(b8 y*b8 z):=by
 have h1:b8 c*b8 x=b8 y*b8 z:=by rw [←tG,←tG,h]
 rw [←h1]
 rcases cV c with ⟨h2,h3⟩ | ⟨h2,h3⟩ | ⟨h2,h3⟩
 ·rw [h3];omega
 ·exact absurd h2 hc
 ·rw [h3];omega
theorem sK.mul{f g h:ZX}{v w u:Rat→Nat}(Sf:sK f v)(Sg:sK g w)(Sh:sK h u){c:Int}(hc:c≠0)(he:K c*f=g*h)(azk:tJ g h){s t:Rat}(jD:s≤t):v s+w t+u t=v t+w s+u s:=by
 rcases Rat.le_iff_lt_or_eq.1 jD with h1 | rfl
 ·refine akv (P:=fun s t=>v s+w t+u t=v t+w s+u s) (fun a b c h1 h2 p1 p2=>by omega) (fun B hB=>?_) h1
  obtain⟨δ1,hδ1,N1⟩:=Sf.pV B
  obtain⟨δ2,hδ2,N2⟩:=Sg.pV B
  obtain⟨δ3,hδ3,N3⟩:=Sh.pV B
  obtain⟨ε,hε,azo⟩:=aud Sg.ne Sh.ne azk B
  obtain⟨Q1,hQ1,l1⟩:=lip g B hB
  obtain⟨Q2,hQ2,l2⟩:=lip h B hB
  have hQ:0<Q1+Q2:=by grind
  have e1:ε/(2*(Q1+Q2))*(2*(Q1+Q2))=ε:=Rat.div_mul_cancel (by grind)
  have e2:0<ε/(2*(Q1+Q2)):=(Rat.lt_div_iff (by grind)).2 (by grind)
  generalize ε/(2*(Q1+Q2))=δ4 at *
  obtain⟨m1,GN,a1,a2⟩:=min2 hδ1 hδ2
  obtain⟨m2,hm2,a3,a4⟩:=min2 hδ3 e2
  obtain⟨δ,hδ,a5,a6⟩:=min2 GN hm2
  refine⟨δ,hδ,fun s t hs ht dA hd=>?_⟩
  have t1:=N1.turns s t hs ht dA (by grind)
  have t2:=N2.turns s t hs ht dA (by grind)
  have t3:=N3.turns s t hs ht dA (by grind)
  have SZ:(c:Rat)≠0:=fun h0=>hc (Rat.intCast_eq_zero_iff.1 h0)
  have sgm:∀x,b8 (e x f)=b8 (c:Rat)*(b8 (e x g)*b8 (e x h)):=fun x=>by
   refine yQ SZ ?_
   rw [←qY,←he,qY,EK]
  have dl:∀Q,0<Q→Q≤Q1+Q2→(t-s)*Q<ε:=fun Q h0 h1=>by
   have h2:(t-s)*Q≤δ4*(Q1+Q2):=by
    have h3:=Rat.mul_le_mul_of_nonneg_right (show t-s≤δ4 by grind) (Rat.le_of_lt h0)
    have h4:=Rat.mul_le_mul_of_nonneg_left h1 (Rat.le_of_lt e2)
    grind
   have h5:δ4*(Q1+Q2)*2=ε:=by rw [←e1];grind
   grind
  have sc:=cV (c:Rat)
  have K9:b8 (c:Rat)=1∨b8 (c:Rat) = -1:=by
   rcases sc with ⟨_,h⟩ | ⟨h,_⟩ | ⟨_,h⟩
   ·exact .inr h
   ·exact absurd h SZ
   ·exact .inl h
  have ez:∀(p:ZX) x,(e x p≠0)=(b8 (e x p)≠0):=fun p x=>propext ⟨fun h h0=>h (eX.1 h0),fun h h0=>h (by rw [h0];exact iK)⟩
  rcases azo s hs with hb | hb
  ·have VN:=fK (y:=e t g) hb hε fun hn=>by
    obtain⟨p1,p2⟩:=l1 s t hs ht (Rat.le_of_lt dA)
    have:=dl Q1 hQ1 (by grind)
    rcases hn with hn | hn<;>grind
   have i1:ind g s t=0:=if_neg fun hh=>hh.2 VN.1
   have i2:ind f s t=ind h s t:=by
    refine HM ?_
    rw [ez f s,ez h s,sgm s,sgm t,VN.1]
    have:=oG (e s g)
    have h7:b8 (c:Rat)*b8 (e s g)=1∨b8 (c:Rat)*b8 (e s g) = -1:=by
     rcases K9 with h | h<;>rw [h]<;>omega
    rw [←Int.mul_assoc,←Int.mul_assoc]
    rcases h7 with h | h<;>rw [h]
    ·simp only [Int.one_mul]
    ·simp only [Int.neg_mul,Int.one_mul,ne_eq,Int.neg_eq_zero,Int.neg_inj]
   omega
  ·have VN:=fK (y:=e t h) hb hε fun hn=>by
    obtain⟨p1,p2⟩:=l2 s t hs ht (Rat.le_of_lt dA)
    have:=dl Q2 hQ2 (by grind)
    rcases hn with hn | hn<;>grind
   have i1:ind h s t=0:=if_neg fun hh=>hh.2 VN.1
   have i2:ind f s t=ind g s t:=by
    refine HM ?_
    rw [ez f s,ez g s,sgm s,sgm t,VN.1]
    have:=oG (e s h)
    have h7:b8 (c:Rat)*b8 (e s h)=1∨b8 (c:Rat)*b8 (e s h) = -1:=by
     rcases K9 with h | h<;>rw [h]<;>omega
    have cm:∀y:Int,b8 (c:Rat)*(y*b8 (e s h))=b8 (c:Rat)*b8 (e s h)*y:=fun y=>by grind
    rw [cm,cm]
    rcases h7 with h | h<;>rw [h]
    ·simp only [Int.one_mul]
    ·simp only [Int.neg_mul,Int.one_mul,ne_eq,Int.neg_eq_zero,Int.neg_inj]
   omega
 ·omega
structure j7(f:ZX)(v:Rat→Nat)(lo hi:Rat):Prop where
 S:sK f v
 k:(lo=hi∧e lo f=0)∨(lo<hi∧v lo=v hi+1)
def gG(v:Rat→Nat)(lo hi t:Rat):Prop:=hi≤t∨(lo<t∧v t<v lo)
noncomputable def cr(U:Rat→Prop)(t:Rat):Int:=open Classical in if U t then(if ∃s,s<t∧U s then -1 else 0)else 1
theorem qL{U:Rat→Prop}{t:Rat}:cr U t=1↔¬U t:=by
 unfold cr
 split
 ·rename_i h
  split<;>simp [h]
 ·rename_i h
  simp [h]
theorem D3{U:Rat→Prop}(hU:∀s t,U s→s≤t→U t){t:Rat}:cr U t = -1 ↔ ∃s,s<t∧U s:=by
 unfold cr
 split
 ·split
  ·rename_i h;simp [h]
  ·rename_i h;simp [h]
 ·rename_i h
  refine⟨fun h1=>absurd h1 (by decide),fun⟨s,h1,h2⟩=>absurd (hU s t h2 (Rat.le_of_lt h1)) h⟩
theorem BJ{U:Rat→Prop}{t:Rat}:cr U t=0↔U t ∧ ∀s,s<t→¬U s:=by
 unfold cr
 split
 ·rename_i h
  split
  ·rename_i h2
   refine⟨fun h1=>absurd h1 (by decide),fun⟨_,h3⟩=>?_⟩
   obtain⟨s,h4,h5⟩:=h2
   exact absurd h5 (h3 s h4)
  ·rename_i h2
   exact⟨fun _=>⟨h,fun s h3 h4=>h2 ⟨s,h3,h4⟩⟩,fun _=>rfl⟩
 ·rename_i h
  exact⟨fun h1=>absurd h1 (by decide),fun h1=>absurd h1.1 h⟩
noncomputable def cu(U V:Rat→Prop):Int:=open Classical in if ∃t,U t∧¬V t then -1 else if ∃t,V t∧¬U t then 1 else 0
theorem tK(U:Rat→Prop):cu U U=0:=by
 unfold cu
 rw [if_neg (fun ⟨t,h1,h2⟩=>h2 h1),if_neg (fun ⟨t,h1,h2⟩=>h2 h1)]
theorem W3{U V:Rat→Prop}:cu U V=0 ↔ ∀t,U t↔V t:=by
 unfold cu
 split
 ·rename_i h
  refine⟨fun h1=>absurd h1 (by decide),fun h1=>?_⟩
  obtain⟨t,h2,h3⟩:=h
  exact absurd ((h1 t).1 h2) h3
 ·rename_i h
  split
  ·rename_i h'
   refine⟨fun h1=>absurd h1 (by decide),fun h1=>?_⟩
   obtain⟨t,h2,h3⟩:=h'
   exact absurd ((h1 t).2 h2) h3
  ·rename_i h'
   exact⟨fun _ t=>⟨fun h1=>Classical.byContradiction fun h2=>h ⟨t,h1,h2⟩,fun h1=>Classical.byContradiction fun h2=>h' ⟨t,h1,h2⟩⟩,fun _=>rfl⟩
theorem eU{v:Rat→Nat}{lo hi:Rat}:gG v lo hi hi:=.inl Rat.le_refl
namespace j7
variable {f:ZX} {v:Rat→Nat} {lo hi:Rat} (A:j7 f v lo hi)
include A
theorem le:lo≤hi:=by
 rcases A.k with ⟨h,_⟩ | ⟨h,_⟩
 ·rw [h];exact Rat.le_refl
 ·exact Rat.le_of_lt h
theorem up{s t:Rat}(h:gG v lo hi s)(jD:s≤t):gG v lo hi t:=by
 rcases h with h | ⟨h1,h2⟩
 ·exact .inl (by grind)
 ·have:=A.S.cA jD
  exact .inr ⟨by grind,by omega⟩
theorem g9{t:Rat}(h:t<lo∨(t=lo∧lo<hi)):¬gG v lo hi t:=by
 have:=A.le
 rintro(h1 | ⟨h1,_⟩)<;>grind
theorem aue(t:Rat):cr (gG v lo hi) t=if lo=hi then(if lo<t then -1 else if t<lo then 1 else 0)else if t≤lo then 1 else if hi<t then -1 else if v lo=v t then 1 else if e t f=0 then 0 else -1:=by
 have hup:=fun s t (h:gG v lo hi s) (h':s≤t)=>A.up h h'
 have hle:=A.le
 split
 ·rename_i h
  subst h
  have hU:∀t,gG v lo lo t↔lo≤t:=fun t=>⟨fun h=>by rcases h with h | h<;>grind,fun h => .inl h⟩
  split
  ·exact(D3 hup).2 ⟨lo,by assumption, .inl Rat.le_refl⟩
  ·split
   ·exact qL.2 (fun h=>by have:=(hU t).1 h;grind)
   ·exact BJ.2 ⟨.inl (by grind),fun s h1 h2=>by have:=(hU s).1 h2;grind⟩
 ·rename_i nT
  have dA:lo<hi:=by grind
  have hk:v lo=v hi+1:=by
   rcases A.k with ⟨h,_⟩ | ⟨_,h⟩
   ·exact absurd h nT
   ·exact h
  split
  ·rename_i h
   exact qL.2 (A.g9 (by grind))
  ·rename_i h1
   split
   ·rename_i h2
    exact(D3 hup).2 ⟨hi,h2,eU⟩
   ·rename_i h2
    have b1:=A.S.cA (show lo≤t by grind)
    have b2:=A.S.cA (show t≤hi by grind)
    split
    ·rename_i h3
     refine qL.2 ?_
     rintro(h4 | ⟨_,h4⟩)
     ·have:t=hi:=by grind
      subst this;omega
     ·omega
    ·rename_i h3
     split
     ·rename_i h4
      refine BJ.2 ⟨.inr ⟨by grind,by omega⟩,fun s h5 h6=>?_⟩
      have h7:=A.S.root h5 h4
      rcases h6 with h6 | ⟨h6,h8⟩
      ·grind
      ·omega
     ·rename_i h4
      obtain⟨s,h5,h6,h7,_⟩:=A.S.lft h4 (show lo<t by grind)
      refine(D3 hup).2 ⟨s,h6, .inr ⟨?_,by omega⟩⟩
      rcases Rat.le_iff_lt_or_eq.1 h5 with h8 | rfl
      ·exact h8
      ·omega
theorem half{m:Rat}(h1:lo<m)(h2:m<hi):(v m<v lo→j7 f v lo m ∧ ∀t,gG v lo m t↔gG v lo hi t)∧(¬v m<v lo→j7 f v m hi ∧ ∀t,gG v m hi t↔gG v lo hi t):=by
 have hk:v lo=v hi+1:=by
  rcases A.k with ⟨h,_⟩ | ⟨_,h⟩
  ·grind
  ·exact h
 have b1:=A.S.cA (Rat.le_of_lt h1)
 have b2:=A.S.cA (Rat.le_of_lt h2)
 refine⟨fun h=>⟨⟨A.S, .inr ⟨h1,by omega⟩⟩,fun t=>⟨?_,?_⟩⟩,fun h=>⟨⟨A.S, .inr ⟨h2,by omega⟩⟩,fun t=>⟨?_,?_⟩⟩⟩
 ·rintro(h3 | h3)
  ·have:=A.S.cA h3
   exact .inr ⟨by grind,by omega⟩
  ·exact .inr h3
 ·rintro(h3 | h3)
  ·exact .inl (by grind)
  ·exact .inr h3
 ·rintro(h3 | ⟨h3,h4⟩)
  ·exact .inl h3
  ·exact .inr ⟨by grind,by omega⟩
 ·rintro(h3 | ⟨h3,h4⟩)
  ·exact .inl h3
  ·refine .inr ⟨?_,by omega⟩
   refine Rat.not_le.1 fun h5=>?_
   have:=A.S.cA h5
   omega
theorem exact(h:e hi f=0):j7 f v hi hi ∧ ∀t,gG v hi hi t↔gG v lo hi t:=by
 refine⟨⟨A.S, .inl ⟨rfl,h⟩⟩,fun t=>⟨?_,?_⟩⟩
 ·rintro(h3 | ⟨h3,_⟩)
  ·exact .inl h3
  ·exact .inl (by grind)
 ·rintro(h3 | ⟨h3,h4⟩)
  ·exact .inl h3
  ·refine .inl (Rat.not_lt.1 fun h5=>?_)
   have h6:=A.S.root h5 h
   rcases A.k with ⟨h7,_⟩ | ⟨_,h7⟩
   ·grind
   ·omega
end j7
end ZX
end Pm
namespace Pm
open Go Go.RowKit
section
variable {E:Env} {m:Nat} {G:Gs} {w0:World} {S0:eC}
def mx3(p q r:PV)(K:PV→Prop):Prop:=∃k a b c,p = .int k a∧q = .int k b∧r = .int k c∧K (.int k (max (max a b) c))
@[simp] theorem awg{k:IntKind}{a b c:Int}{K:PV→Prop}:mx3 (.int k a) (.int k b) (.int k c) K=K (.int k (max (max a b) c)):=by
 apply propext
 constructor
 ·rintro⟨k',a',b',c',h1,h2,h3,h⟩
  cases h1;cases h2;cases h3;exact h
 ·exact fun h=>⟨k,a,b,c,rfl,rfl,rfl,h⟩
def auf(o:Oper)(K:PS→Prop)(σ:PS):Prop:=
 match o.op with
 | .call { callee:=.builtin .max,args:=⟨[x,y,z]⟩,argTypes:=_ }=>mx3 (aV σ.f x) (aV σ.f y) (aV σ.f z) fun v=>K (σ.put o.dst v)
 | _=>False
end
@[simp] theorem aug{K:PS→Prop}{f:Nat→PV}{rows:Rows}{clk:Nat}{d:Option Tmp}{ty:TypeId}{pos:String}{af:Array Edge}{ts:Array TypeId}{x y z:Operand} :
  auf ⟨d, .call { callee:=.builtin .max,args:=⟨[x,y,z]⟩,argTypes:=ts },ty,pos,af,none⟩ K ⟨f,rows,clk⟩=mx3 (aV f x) (aV f y) (aV f z) fun v=>K ⟨put f d v,rows,clk⟩:=rfl
section
variable {E:Env} {w0:World} {S0:eC} {n:Nat} {G:Gs}
theorem FO{id tl:Nat}{ops:Array Oper}{T:PS→Prop}{Q:Exit→Act→World→Prop}(gT:rO E n tl ops true=true)(htl:tl≠0){σ:PS}{a:Act}{w:World}
  (h:aQ E ops.toList σ.clock 0 (ops.toList.take (ops.size-tl)) T ⟨σ.f,σ.rows,fun _ _=>False,fun _ _=>False⟩) (hR:Rel w0 S0 n G σ a w)
  (hT:∀σ' a' w',T σ'→Rel w0 S0 n G σ' a' w'→wpList E.P ops Q (ops.toList.drop (ops.size-tl)) a' w'):(Code.region id ops true).wp E.P Q a w:=by
 simp only [rO,Bool.and_eq_true,Bool.not_true,Bool.false_or]at gT
 obtain⟨ald,tY,gT⟩:=gT
 have hd:∀o,o∈ops → ∀t,o.dst=some t→t<n:=by
  intro o ho t ht
  have:=Array.all_eq_true_iff_forall_mem.1 ald o ho
  simpa [ht]using this
 refine wp_region_any E.mixed ?_
 have LW:=hR.drew
 have hU0:∀k (l:Array Bool),pO w0 S0 n G (Ul E ops σ.clock k l) σ.f σ.rows a { w with drawn:=w.drawn+1 }:=fun k l=>LW.mono fun v hv => .inl hv
 have af3:∀(l:List Oper),uL E l=true → ∀(i:Nat) (oi:Oper),l[i]? = some oi→dQ E oi.op=true→oi.dst.isSome=true:=fun l h i oi hi hn=>by
  have:=List.all_eq_true.1 h oi (List.mem_of_getElem? hi)
  rw [hn]at this;simp at this;exact Option.isSome_iff_exists.2 (by obtain⟨x,hx⟩:=Option.isSome_iff_exists.1 this.1;exact⟨x,hx⟩)
 rw [if_neg htl]at gT tY
 have pN:∀i oi,i<ops.size-tl→ops[i]? = some oi→dQ E oi.op=true→oi.dst.isSome=true:=fun i oi h1 hi=>af3 _ tY i oi (by rw [List.getElem?_take,if_pos h1];simpa using hi)
 simp only [Bool.and_eq_true,decide_eq_true_eq]at gT
 obtain⟨hle,hB⟩:=gT
 simp only [Region.lexTailB,Bool.and_eq_true,decide_eq_true_eq]at hB
 obtain⟨⟨⟨⟨aw3,xW⟩,hs⟩,hc⟩,ale⟩:=hB
 have hl:=o7 (c0:=σ.clock) (ops.toList.take (ops.size-tl)) 0 _ _ (fun j hj=>by
  have hj':j<ops.size-tl:=by simpa using hj
  simp [hj']) tY (by simp [rk]) h
 have abn:HeadInv .any ops (ops.size-tl) (Array.replicate ops.size false):=
  ⟨by simp,fun j oj _ hl=>(by rw [getD_replicate_false]at hl;cases hl),fun t _ ht=>getD_in (by simpa using ht) (getD_replicate_false _ _)⟩
 have xL:(ops.toList.take (ops.size-tl)).length=ops.size-tl:=by simp
 have hdl:(ops.toList.drop (ops.size-tl)).length=ops.size-(ops.size-tl):=by simp
 have H:=sW (E:=E) (md:=.any) (n:=ops.size-tl) (g:=ops.size-(ops.size-tl)) pN (fun bH inv i hi P3 t ht=>tail_waits hs hc xW inv _ i rfl hi P3 t ht) (ops.toList.take (ops.size-tl)) 0 _ _ (fun j hj=>by
  rw [xL]at hj
  simp [hj]) (by rw [xL];simp) abn (by rw [xL];exact ale) hl
 have:=lU (E:=E) (md:=.any) (g:=ops.size-(ops.size-tl)) (Q:=Q) (m:=n) hd (fun bH st a' w' hL l5=>by
  obtain⟨h1,h2⟩:=hL
  have h3:=hT _ a' w' h2 (l5.mono fun v hv=>by have:=Q5 hv;simpa using this)
  have h4:=wpAny_of_seq (md:=.any) (Q':=Q) (ops.toList.drop (ops.size-tl)) (ops.size-tl) bH a' w' (fun j=>by simp [List.getElem?_drop]) (by rw [hdl];exact h1) h3
  rwa [hdl]at h4) _ _ _ _ _ (by simp) H (hU0 _ _)
 rw [xL,show ops.size-tl+(ops.size-(ops.size-tl))=ops.size by omega]at this
 exact this
end
theorem W.auh{E:Env}{n:Nat}{tl:Nat→Nat}{Q:PX→PS→Prop}{f:Nat→PV}{rows:Rows}{clk:Nat}{id:Nat}{ops:List Oper}{y:Code}(m:Nat){o:Oper}{r:List Oper}(hm:tl id=m+1)(ho:ops.drop (ops.length-(m+1))=o::r)(hg:o.guard=none)
  (h:∀K:PS→Prop,(∀σ,W E n tl y Q σ→K σ)→go (aQ E ops clk 0 (ops.take (ops.length-(m+1))) (fun σ=>FH E o (aO E ops r K) σ) ⟨f,rows,fun _ _=>False,fun _ _=>False⟩)):W E n tl (.seq (.region id ops.toArray true) y) Q ⟨f,rows,clk⟩:=by
 refine W.seq ?_
 intro gT w0 S0 G a w Q' hR hQ
 have an4:rO E n (tl id) ops.toArray true=true:=by simpa [fA]using gT
 have hd:∀o∈ops,∀t,o.dst=some t→t<n:=fun o ho t ht=>by
  simp only [rO,Bool.and_eq_true]at an4
  have:=Array.all_eq_true_iff_forall_mem.1 an4.1 o (by simpa using ho)
  simpa [ht]using this
 have h1:=h (fun σ=>W E n tl y Q σ) fun _ h=>h
 have uK:∀x∈o::r,x∈ops:=fun x hx=>by rw [←ho]at hx;exact List.mem_of_mem_drop hx
 refine FO (T:=fun σ=>FH E o (aO E ops r (fun σ=>W E n tl y Q σ)) σ) an4 (by omega) (by rw [hm];exact h1) hR fun σ' a' w' hT l5=>?_
 rw [hm]
 have e:ops.toArray.toList.drop (ops.toArray.size-(m+1))=o::r:=by simpa using ho
 rw [e]
 unfold wpList
 rw [if_pos (by simp [Region.wanted,hg])]
 refine .inl (uY hT l5 (hd o (uK o (by simp))) fun σ2 a2 w2 hk hR2=>?_)
 exact iE (E:=E) (ops:=ops.toArray) (fun σ3 a3 w3 hk3 hR3=>hQ .normal σ3 a3 w3 hk3 hR3) _ σ2 a2 w2 (fun o ho=>hd o (uK o (by simp [ho]))) hk hR2
end Pm
namespace Go.Proofs.YtelhfbikiccfkaaGreat
open Go Pm
open ZX hiding N W
theorem gB{α β:Type}{c:Prop}[Decidable c](f g:α→β)(x:α):(if c then f else g) x=if c then f x else g x:=by split<;>rfl
def P9(v:Rat→Nat):Nat→Rat→Rat→List (Rat × Rat)
 | 0,lo,hi=>if v lo=v hi then []else [(lo,hi)]
 | k+1,lo,hi=>if v lo=v hi then []else if v lo=v hi+1 then [(lo,hi)]else P9 v k lo ((lo+hi)/2)++P9 v k ((lo+hi)/2) hi
theorem sL{lo hi:Rat}(h:lo<hi):lo<(lo+hi)/2∧(lo+hi)/2<hi:=by
 have h1:(lo+hi)/2*2=lo+hi:=Rat.div_mul_cancel (by decide)
 exact⟨by grind,by grind⟩
theorem xB{lo hi δ:Rat}{k:Nat}(h:hi-lo≤δ*2^(k+1)):(lo+hi)/2-lo≤δ*2^k∧hi-(lo+hi)/2≤δ*2^k:=by
 have h1:(lo+hi)/2*2=lo+hi:=Rat.div_mul_cancel (by decide)
 rw [Rat.pow_succ]at h
 generalize (2:Rat)^k=p at *
 exact⟨by grind,by grind⟩
structure Gr(D:Nat)(B:Rat)(j:Nat)(q:Rat):Prop where
 z:∃z:Int,q*((D*2^j:Nat):Int)=(z:Rat)
 b:Ab q B
theorem Gr.mono{D:Nat}{B q:Rat}{i j:Nat}(h:Gr D B i q)(hij:i≤j):Gr D B j q:=by
 obtain⟨⟨z,hz⟩,hb⟩:=h
 obtain⟨k,rfl⟩:∃k,j=i+k:=⟨j-i,by omega⟩
 refine⟨⟨z*(2^k:Nat),?_⟩,hb⟩
 rw [Rat.intCast_mul,←hz,Nat.pow_add,←Nat.mul_assoc,Int.natCast_mul (D*2^i),Rat.intCast_mul]
 grind
theorem Gr.FD{D:Nat}{B p q:Rat}{j:Nat}(hp:Gr D B j p)(hq:Gr D B j q):Gr D B (j+1) ((p+q)/2):=by
 obtain⟨⟨y,hy⟩,b1,b2⟩:=hp
 obtain⟨⟨z,hz⟩,b3,b4⟩:=hq
 have h1:(p+q)/2*2=p+q:=Rat.div_mul_cancel (by decide)
 refine⟨⟨y+z,?_⟩,by grind,by grind⟩
 rw [Rat.intCast_add,←hy,←hz,Nat.pow_succ,←Nat.mul_assoc,Int.natCast_mul (D*2^j),Rat.intCast_mul]
 have h2:(((2:Nat):Int):Rat)=2:=rfl
 rw [h2]
 generalize (((D*2^j:Nat):Int):Rat)=M at *
 grind
theorem Gr.sq{D d β j:Nat}{q:Rat}(h:Gr D (2^β) j q)(h0:1≤D)(hD:D≤2^d):SQ (β+d+j+1) q:=by
 obtain⟨⟨z,hz⟩,hb⟩:=h
 have hM:1≤D*2^j:=Nat.mul_pos h0 (Nat.two_pow_pos _)
 have hM2:D*2^j≤2^(d+j):=by rw [Nat.pow_add];exact Nat.mul_le_mul_right _ hD
 have hMq:(0:Rat)<(((D*2^j:Nat):Int):Rat):=Rat.intCast_pos.2 (by omega)
 have hzb:z.natAbs≤2^(β+d+j):=by
  have h1:Ab (z:Rat) (((2^β*(D*2^j):Nat):Int):Rat):=by
   rw [←hz,Int.natCast_mul (2^β),Rat.intCast_mul,KS]
   exact hb.mul ⟨by grind,Rat.le_refl⟩
  obtain⟨h2,h3⟩:=h1
  rw [←Rat.intCast_neg]at h2
  have h4:=Rat.intCast_le_intCast.1 h2
  have h5:=Rat.intCast_le_intCast.1 h3
  have h6:2^β*(D*2^j)≤2^(β+d+j):=by
   rw [Nat.add_assoc,Nat.pow_add];exact Nat.mul_le_mul_left _ hM2
  omega
 have e:=KM (n:=z) (d:=((D*2^j:Nat):Int)) (by omega) hz.symm
 have nT:((D*2^j:Nat):Int)≠0:=by omega
 have YZ:=p0 z ((D*2^j:Nat):Int) nT
 have LV:=p7 z ((D*2^j:Nat):Int) nT
 rw [if_neg (by omega)]at YZ LV
 rw [e]at YZ LV
 have b1:q.num.natAbs≤z.natAbs:=by rw [YZ];exact Int.natAbs_ediv_le_natAbs _ _
 have b2:((q.den:Int)).natAbs≤D*2^j:=by rw [LV];exact Nat.le_trans (Int.natAbs_ediv_le_natAbs _ _) (by omega)
 have hp:∀i,2^i<2^(i+1):=fun i=>Nat.pow_lt_pow_right (by decide) (by omega)
 refine⟨dE (by decide) (Nat.lt_of_le_of_lt (Nat.le_trans b1 hzb) (hp _)),dE (by decide) (Nat.lt_of_le_of_lt (Nat.le_trans b2 hM2) ?_),by omega⟩
 exact Nat.pow_lt_pow_right (by decide) (by omega)
structure Cut(v:Rat→Nat)(B δ:Rat):Prop where
 cA:∀a b,a≤b→v b≤v a
 pV:∀a b,Ab a B→Ab b B→a<b→b-a≤δ→v a≤v b+1
theorem Cut.leaf{v:Rat→Nat}{B δ:Rat}(C:Cut v B δ){lo hi:Rat}(ES:Ab lo B)(PU:Ab hi B)(h:lo<hi)(hd:hi-lo≤δ)(nT:v lo≠v hi):v lo=v hi+1:=by
 have:=C.pV lo hi ES PU h hd
 have:=C.cA lo hi (Rat.le_of_lt h)
 omega
theorem qM{v:Rat→Nat}{D:Nat}{B δ:Rat}(C:Cut v B δ):∀(k j:Nat) (lo hi:Rat),Gr D B j lo→Gr D B j hi→lo<hi→hi-lo≤δ*2^k →
  (∀p∈P9 v k lo hi,Gr D B (j+k) p.1∧Gr D B (j+k) p.2∧lo≤p.1∧p.1<p.2∧p.2≤hi∧v p.1=v p.2+1)∧(P9 v k lo hi).length=v lo-v hi∧(P9 v k lo hi).Pairwise fun p q=>p.2≤q.1
 | 0,j,lo,hi,g1,g2,h,hd=>by
  rw [P9]
  split
  ·rename_i he
   exact⟨fun p hp=>absurd hp List.not_mem_nil,by rw [he];simp,List.Pairwise.nil⟩
  ·rename_i he
   have:=C.leaf g1.b g2.b h (by rw [Rat.pow_zero,Rat.mul_one]at hd;exact hd) he
   refine⟨fun p hp=>?_,by simp;omega,List.pairwise_singleton _ _⟩
   rw [List.mem_singleton]at hp;subst hp
   exact⟨g1,g2,Rat.le_refl,h,Rat.le_refl,this⟩
 | k+1,j,lo,hi,g1,g2,h,hd=>by
  rw [P9]
  split
  ·rename_i he
   exact⟨fun p hp=>absurd hp List.not_mem_nil,by rw [he];simp,List.Pairwise.nil⟩
  ·rename_i he
   split
   ·rename_i HC
    refine⟨fun p hp=>?_,by simp;omega,List.pairwise_singleton _ _⟩
    rw [List.mem_singleton]at hp;subst hp
    exact⟨g1.mono (by omega),g2.mono (by omega),Rat.le_refl,h,Rat.le_refl,HC⟩
   ·obtain⟨m1,m2⟩:=sL h
    obtain⟨d1,d2⟩:=xB hd
    have gm:=g1.FD g2
    obtain⟨a1,a2,a3⟩:=qM C k (j+1) lo ((lo+hi)/2) (g1.mono (by omega)) gm m1 d1
    obtain⟨b1,b2,b3⟩:=qM C k (j+1) ((lo+hi)/2) hi gm (g2.mono (by omega)) m2 d2
    have n1:=C.cA lo ((lo+hi)/2) (Rat.le_of_lt m1)
    have n2:=C.cA ((lo+hi)/2) hi (Rat.le_of_lt m2)
    rw [show j+1+k=j+(k+1)by omega]at a1 b1
    generalize (lo+hi)/2=m at *
    refine⟨fun p hp=>?_,by rw [List.length_append,a2,b2];omega,List.pairwise_append.2 ⟨a3,b3,fun p hp q hq=>?_⟩⟩
    ·rcases List.mem_append.1 hp with hp | hp
     ·obtain⟨c1,c2,c3,c4,c5,c6⟩:=a1 p hp
      exact⟨c1,c2,c3,c4,by grind,c6⟩
     ·obtain⟨c1,c2,c3,c4,c5,c6⟩:=b1 p hp
      exact⟨c1,c2,by grind,c4,c5,c6⟩
    ·obtain⟨c1,c2,c3,c4,c5,c6⟩:=a1 p hp
     obtain⟨d1,d2,d3,d4,d5,d6⟩:=b1 q hq
     grind
theorem SQ.mono{u w:Nat}{q:Rat}(h:SQ u q)(hu:u≤w):SQ w q:=⟨Nat.le_trans h.n2 hu,Nat.le_trans h.d2 hu,Nat.le_trans h.hu hu⟩
theorem SQ.LLs{u:Nat}{q:Rat}(h:SQ u q){k:Nat}(hu:u≤k):sz LL q.num≤k∧sz LL (q.den:Int)≤k:=⟨Nat.le_trans h.nL hu,Nat.le_trans h.dL hu⟩
theorem SQ.LLt{u:Nat}{q:Rat}(h:SQ u q){k:Nat}(hu:u<k):sz LL q.num<k∧sz LL (q.den:Int)<k:=⟨Nat.lt_of_le_of_lt h.nL hu,Nat.lt_of_le_of_lt h.dL hu⟩
structure kR(s n:Nat)(f:ZX):Prop where
 lay:nX s n f
 qF:1≤n
 nf:Nf f
 sq:Go.Proofs.YtelhfbikiccfkaaGreat.sq f=f
 hs:s≤5000000
namespace kR
variable {s n:Nat} {f:ZX} (I:kR s n f)
include I
theorem ch:Ch s n f:=⟨I.lay.bz,I.lay.hn,I.qF,Nat.le_trans (Nat.mul_le_mul_right _ (by unfold qb;omega)) I.lay.hC⟩
theorem s1:1≤s:=by
 have h1:=I.lay.hs
 have h2:=I.qF
 rcases Nat.eq_zero_or_pos s with h | h
 ·rw [h]at h1;simp at h1;omega
 ·exact h
theorem hb:∀p∈aT f,BZ 4500000000 n p:=I.ch.all.1
theorem hl:(aT f).length≤21:=I.ch.all.2
theorem gz1:gz f (bX f)=1:=by
 have:=aed I.nf.ne
 rwa [I.sq]at this
theorem LG:tJ f (bX f):=fun d h1 h2=>by
 have h3:=(eT f (bX f)).least h1 h2
 rw [I.gz1]at h3
 have:=h3.nW ZX.qA
 rwa [ZX.wS]at this
theorem aac:AS (aT f) f:=I.ch.aac I.nf.ne I.gz1
theorem S:sK f (vt (aT f)):=⟨I.nf.ne,I.LG,_,I.aac,rfl⟩
theorem szf:∀c∈f.l,c.natAbs≤2^s:=fun c hc=>by
 have h1:=iH (b:=2) (by decide) c
 have h2:=Nat.pow_le_pow_right (show 0<2 by decide) (I.ch.bz.sz c hc)
 omega
theorem cut(β:Nat):∃δ:Rat,0<δ∧δ*2^lk s n 5 β=1∧Cut (vt (aT f)) (2^β) δ:=by
 obtain⟨δ,h1,h2⟩:=D2 (lk s n 5 β)
 have hn:=I.ch.hn
 obtain⟨h3,_⟩:=tI I.aac (s:=s) (n:=n) (l:=5) (β:=β) I.nf.ne I.szf I.ch.bz.N (by omega) I.LG (by rw [h2];exact Rat.le_refl)
 refine⟨δ,h1,h2,fun a b gJ=>I.aac.cA gJ,fun a b ha hb gJ hd=>?_⟩
 have:=h3.turns a b ha hb gJ hd
 rcases KT f a b with h4 | h4<;>omega
end kR
section
variable {c:List ZX} {n u:Nat} {p q:Rat} (hb:∀p∈c,BZ 4500000000 n p) (hn:n≤20) (hl:c.length≤21) (hp:SQ u p) (hq:SQ u q) (hu:u≤1000000000)
include hb hn hl hp hq hu
theorem aen:aD env.P 92 [CH c,RT p,RT q] (.int .i64 (if q<p then 0 else(vt c p:Int)-vt c q)):=by
 have z1:=cZ hq.nL hq.dL hp.nL hp.dL (by omega) (bA q) (bA p) ⟨hq.nL,hq.dL⟩ ⟨hp.nL,hp.dL⟩
 have b1:=KG (by omega) z1 (aea hb hn hl hp hu) (aea hb hn hl hq hu)
 rw [DW,DW]at b1
 simp only [j3]at b1
 exact b1
theorem aeo:aD env.P 80 [aI zq c,RR p,RR q] (.int .i64 (if q<p then 0 else(vt c p:Int)-vt c q)):=by
 have yy:∀ {v:Int},sz 2 v≤u→sz 2 v≤YY:=fun h=>by simp only [YY];omega
 have b1:=OS (yy hp.n2) (yy hp.d2) (yy hq.n2) (yy hq.d2) (by omega) (ad9 hb hn hl hp hu) (ad9 hb hn hl hq hu)
 have hcm:(q.num*(p.den:Int)<p.num*(q.den:Int))=(q<p):=propext (by rw [←j3];exact nC.symm)
 rw [DW,DW]at b1
 simp only [hcm]at b1
 rw [cW,cW]
 exact b1
end
abbrev tc(q:Rat):List PV:=[.bool (decide (q.num<0)),us (aN LL q.num.natAbs), .bool (decide ((q.den:Int)<0)),us (aN LL (q.den:Int).natAbs)]
def ga(f:ZX)(p:Rat × Rat):List PV:=Po f.l::(tc p.1++tc p.2)
@[simp] theorem azs{f:ZX}{p:Rat × Rat}:ga f p=Po f.l::(tc p.1++tc p.2):=rfl
@[simp] theorem yR{f:ZX}{l:List (Rat × Rat)}:bM 9 (emap (ga f) l)=True:=dO fun _=>rfl
@[simp] theorem an6{v e n:Nat}{f:ZX}{l:List (Rat × Rat)}:dJ (some ⟨v,e,n,emap (ga f) l⟩)=True:=dC fun _=>rfl
theorem KU{f:ZX}{l:List (Rat × Rat)}:∀x∈emap (ga f) l,∀p∈x,cR p=true:=fun x hx p hp=>by
 simp only [emap,List.mem_map]at hx
 obtain⟨r,_,rfl⟩:=hx
 simp at hp
 rcases hp with rfl | rfl | rfl | rfl | rfl | rfl | rfl | rfl | rfl<;>rfl
theorem aep{f:ZX}{c:List ZX}{lo hi:Rat}:iM env.P 76 [Po f.l,CH c,RT lo,RT hi, .int .i64 0] 54 9 []:=by
 show iM env.P _ [Po f.l, .rd [aI zp c],T2 lo.num lo.den,T2 hi.num hi.den, .int .i64 0] _ _ _
 generalize lo.num=ln at *
 generalize (lo.den:Int)=ld at *
 generalize hi.num=hn at *
 generalize (hi.den:Int)=hd at *
 generalize aI zp c=X at *
 refine jL (E:=env) (fun id=>if id=5 then 2 else if id=8 then 2 else 0) (t:=10) [(0,Po f.l),(1, .rd [X]),(2,T2 ln ld),(3,T2 hn hd),(4, .int .i64 0)] Tryz.func76 rfl (by kernel_rfl) (by kernel_rfl) (show 5≤48 by decide) rfl (by simp) ?_
 refine aA [0,1,4,7,8] ?_
 refine aL [0,1,4,7,8,13] ?_
 refine W.block ?_
 refine aA [0,1,4,7,8,13,14] ?_
 refine bC ?_ ?_<;>intro h
 ·refine aA [10] ?_
  refine W.nil 10 10 54 9 (by simp) (by decide) (fun K hK=>?_)
  simp
  refine hK _ ?_
  refine W.ret ?_
  exact⟨10,_,by simp;exact rfl,by simp,fun x hx=>by cases hx⟩
 ·simp at h
theorem aij{s n:Nat}{f:ZX}(I:kR s n f){c:List ZX}{lo hi:Rat}{u:Nat}(q1:SQ u lo)(q2:SQ u hi)(hu:u≤1000000000):iM env.P 76 [Po f.l,CH c,RT lo,RT hi, .int .i64 1] 54 9 (emap (ga f) [(lo,hi)]):=by
 have N1:=fU (x:=f.l) (I.ch.bz.pb (by have:=I.hs;omega) (by have:=I.ch.hn;omega))
 rw [f.c]at N1
 obtain⟨l1,l2⟩:=q1.LLt (show u<1099511627770 by omega)
 obtain⟨l3,l4⟩:=q2.LLt (show u<1099511627770 by omega)
 have M1:=w6 l1 l2
 have M2:=w6 l3 l4
 rw [bA]at M1 M2
 rw [show emap (ga f) [(lo,hi)] = [Po f.l::(tc lo++tc hi)]from rfl]
 show iM env.P _ [Po f.l, .rd [aI zp c],T2 lo.num lo.den,T2 hi.num hi.den, .int .i64 1] _ _ _
 replace M1:aD env.P 94 [T2 lo.num lo.den, .sl []] (T2 lo.num lo.den):=M1
 replace M2:aD env.P 94 [T2 hi.num hi.den, .sl []] (T2 hi.num hi.den):=M2
 clear l1 l2 l3 l4 q1 q2
 simp only [tc]
 generalize lo.num=ln at *
 generalize (lo.den:Int)=ld at *
 generalize hi.num=hn at *
 generalize (hi.den:Int)=hd at *
 generalize aI zp c=X at *
 refine jL (E:=env) (fun id=>if id=5 then 2 else if id=8 then 2 else 0) (t:=10) [(0,Po f.l),(1, .rd [X]),(2,T2 ln ld),(3,T2 hn hd),(4, .int .i64 1)] Tryz.func76 rfl (by kernel_rfl) (by kernel_rfl) (show 5≤48 by decide) rfl (by simp) ?_
 refine aA [0,1,4,7,8] ?_
 refine aL [0,1,4,7,8,13] ?_
 refine W.block ?_
 refine aA [0,1,4,7,8,13,14] ?_
 refine bC ?_ ?_<;>intro h
 ·simp at h
 ·refine aA [0,1,4,7,8,16] ?_
  refine bC ?_ ?_<;>intro h
  ·refine W.auh 1 rfl rfl rfl (fun K hK=>?_)
   simp (disch:=omega) [gw]
   refine cB N1 ?_
   refine cB M1 ?_
   refine cB M2 ?_
   refine W.lw [10] hK ?_;clear hK K;simp
   refine W.ret ?_
   exact⟨25,_,by simp;exact rfl,by simp,fun x hx p hp=>by
    simp at hx;subst hx
    simp at hp
    rcases hp with rfl | rfl | rfl | rfl | rfl | rfl | rfl | rfl | rfl<;>rfl⟩
  ·simp at h
theorem aeq{f:ZX}{c:List ZX}{lo hi:Rat}{n k:Int}{la lb:List (Rat × Rat)}(hn:2≤n∧n≤21)(hk:0≤k∧k≤n)(R9:la.length≤21)(hlb:lb.length≤21)
  (M:aD env.P 95 [RT lo,RT hi] (RT ((lo+hi)/2))) (B:aD env.P 92 [CH c,RT lo,RT ((lo+hi)/2)] (.int .i64 k))
  (h1:iM env.P 76 [Po f.l,CH c,RT lo,RT ((lo+hi)/2), .int .i64 k] 54 9 (emap (ga f) la)) (h2:iM env.P 76 [Po f.l,CH c,RT ((lo+hi)/2),RT hi, .int .i64 (n-k)] 54 9 (emap (ga f) lb)) :
  iM env.P 76 [Po f.l,CH c,RT lo,RT hi, .int .i64 n] 54 9 (emap (ga f) (la++lb)):=by
 rw [←zJ]
 have el1:(emap (ga f) la).length≤21:=by simpa [emap]using R9
 have el2:(emap (ga f) lb).length≤21:=by simpa [emap]using hlb
 have p1:=KU (f:=f) (l:=la)
 have p2:=KU (f:=f) (l:=lb)
 have a1:bM 9 (emap (ga f) la)=True:=yR
 have a2:bM 9 (emap (ga f) lb)=True:=yR
 show iM env.P _ [Po f.l, .rd [aI zp c],T2 lo.num lo.den,T2 hi.num hi.den, .int .i64 n] _ _ _
 replace M:aD env.P 95 [T2 lo.num lo.den,T2 hi.num hi.den] (T2 ((lo+hi)/2).num ((lo+hi)/2).den):=M
 replace B:aD env.P 92 [.rd [aI zp c],T2 lo.num lo.den,T2 ((lo+hi)/2).num ((lo+hi)/2).den] (.int .i64 k):=B
 replace h1:iM env.P 76 [Po f.l, .rd [aI zp c],T2 lo.num lo.den,T2 ((lo+hi)/2).num ((lo+hi)/2).den, .int .i64 k] 54 9 (emap (ga f) la):=h1
 replace h2:iM env.P 76 [Po f.l, .rd [aI zp c],T2 ((lo+hi)/2).num ((lo+hi)/2).den,T2 hi.num hi.den, .int .i64 (n-k)] 54 9 (emap (ga f) lb):=h2
 generalize ((lo+hi)/2).num=mn at *
 generalize (((lo+hi)/2).den:Int)=md at *
 generalize lo.num=ln at *
 generalize (lo.den:Int)=ld at *
 generalize hi.num=xW at *
 generalize (hi.den:Int)=hd at *
 generalize aI zp c=X at *
 generalize emap (ga f) la=ea at *
 generalize emap (ga f) lb=eb at *
 have w1:IntKind.wrap .i64 (n-k)=n-k:=wrap_i64 (by omega) (by omega)
 refine jL (E:=env) (fun id=>if id=5 then 2 else if id=8 then 2 else 0) (t:=10) [(0,Po f.l),(1, .rd [X]),(2,T2 ln ld),(3,T2 xW hd),(4, .int .i64 n)] Tryz.func76 rfl (by kernel_rfl) (by kernel_rfl) (show 5≤48 by decide) rfl (by simp) ?_
 refine aA [0,1,4,7,8] ?_
 refine aL [0,1,4,7,8,13] ?_
 refine W.block ?_
 refine aA [0,1,4,7,8,13,14] ?_
 refine bC ?_ ?_<;>intro h
 ·simp at h;omega
 ·refine aA [0,1,4,7,8,16] ?_
  refine bC ?_ ?_<;>intro h
  ·simp at h;omega
  ·refine W.skip ?_
   refine aJ [0,1,4,7,8,11] M ?_
   refine aJ [0,1,4,7,8,11,12] B ?_
   refine W.sd ?_
   rw [show(if 8=5 then 2 else if 8=8 then 2 else 0)=1+1 from rfl,eQ]
   simp (disch:=omega) [gw]
   refine GG h1 rfl trivial ?_
   simp (disch:=omega) [gw,w1,gB]
   refine GG h2 rfl trivial ?_
   simp (disch:=omega) [gw,a1,a2,gB]
   refine bL [10] ?_
   refine W.ret ?_
   exact⟨38,5,by simp,by simp,fun x hx=>by
    rcases List.mem_append.1 hx with hx | hx
    ·exact p1 x hx
    ·exact p2 x hx⟩
theorem aer{s n:Nat}{f:ZX}(I:kR s n f){D d β J:Nat}{δ:Rat}(xO:1≤D)(hD:D≤2^d)(C:Cut (vt (aT f)) (2^β) δ)(hu:β+d+J+1≤1000000000):∀(k j:Nat) (lo hi:Rat),j+k≤J→Gr D (2^β) j lo→Gr D (2^β) j hi→lo<hi→hi-lo≤δ*2^k →
  iM env.P 76 [Po f.l,CH (aT f),RT lo,RT hi, .int .i64 ((vt (aT f) lo:Int)-vt (aT f) hi)] 54 9 (emap (ga f) (P9 (vt (aT f)) k lo hi)):=by
 have leaf:∀(j:Nat) (lo hi:Rat),j≤J→Gr D (2^β) j lo→Gr D (2^β) j hi→vt (aT f) lo=vt (aT f) hi+1→iM env.P 76 [Po f.l,CH (aT f),RT lo,RT hi, .int .i64 ((vt (aT f) lo:Int)-vt (aT f) hi)] 54 9 (emap (ga f) [(lo,hi)]):=fun j lo hi hj g1 g2 he=>by
  rw [show(vt (aT f) lo:Int)-vt (aT f) hi=1 by omega]
  exact aij I ((g1.mono hj).sq xO hD) ((g2.mono hj).sq xO hD) hu
 have O2:∀(lo hi:Rat),vt (aT f) lo=vt (aT f) hi→iM env.P 76 [Po f.l,CH (aT f),RT lo,RT hi, .int .i64 ((vt (aT f) lo:Int)-vt (aT f) hi)] 54 9 (emap (ga f) []):=fun lo hi he=>by
  rw [show(vt (aT f) lo:Int)-vt (aT f) hi=0 by omega]
  exact aep
 intro k
 induction k with
 | zero =>
  intro j lo hi hj g1 g2 dA hd
  rw [P9]
  by_cases he:vt (aT f) lo=vt (aT f) hi
  ·rw [if_pos he];exact O2 lo hi he
  ·rw [if_neg he];exact leaf j lo hi (by omega) g1 g2 (C.leaf g1.b g2.b dA (by rw [Rat.pow_zero,Rat.mul_one]at hd;exact hd) he)
 | succ k ih =>
  intro j lo hi hj g1 g2 dA hd
  rw [P9]
  by_cases he:vt (aT f) lo=vt (aT f) hi
  ·rw [if_pos he];exact O2 lo hi he
  ·rw [if_neg he]
   by_cases HC:vt (aT f) lo=vt (aT f) hi+1
   ·rw [if_pos HC];exact leaf j lo hi (by omega) g1 g2 HC
   ·rw [if_neg HC]
    obtain⟨m1,m2⟩:=sL dA
    obtain⟨d1,d2⟩:=xB hd
    have gm:=g1.FD g2
    have n1:=C.cA lo ((lo+hi)/2) (Rat.le_of_lt m1)
    have n2:=C.cA ((lo+hi)/2) hi (Rat.le_of_lt m2)
    have hv1:=Nat.le_trans (aee (aT f) lo) I.hl
    obtain⟨_,a2,_⟩:=qM C k (j+1) lo ((lo+hi)/2) (g1.mono (by omega)) gm m1 d1
    obtain⟨_,b2,_⟩:=qM C k (j+1) ((lo+hi)/2) hi gm (g2.mono (by omega)) m2 d2
    have r1:=ih (j+1) lo ((lo+hi)/2) (by omega) (g1.mono (by omega)) gm m1 d1
    have r2:=ih (j+1) ((lo+hi)/2) hi (by omega) gm (g2.mono (by omega)) m2 d2
    have q1:SQ (β+d+J+1) lo:=(g1.mono (by omega)).sq xO hD
    have q2:SQ (β+d+J+1) hi:=(g2.mono (by omega)).sq xO hD
    have q3:SQ (β+d+J+1) ((lo+hi)/2):=(gm.mono (by omega)).sq xO hD
    have hM:=OZ (q1.LLs (Nat.le_refl _)) (q2.LLs (Nat.le_refl _)) (by omega)
    have hB:=aen I.hb I.ch.hn I.hl q1 q3 hu
    rw [if_neg (Rat.not_lt.2 (Rat.le_of_lt m1))]at hB
    refine aeq (n:=(vt (aT f) lo:Int)-vt (aT f) hi) (k:=(vt (aT f) lo:Int)-vt (aT f) ((lo+hi)/2)) (by omega) (by omega) (by omega) (by omega) hM hB r1 ?_
    rw [show(vt (aT f) lo:Int)-vt (aT f) hi-((vt (aT f) lo:Int)-vt (aT f) ((lo+hi)/2))=(vt (aT f) ((lo+hi)/2):Int)-vt (aT f) hi by omega]
    exact r2
end Go.Proofs.YtelhfbikiccfkaaGreat
namespace Go.Proofs.YtelhfbikiccfkaaGreat
open Go Pm
open ZX hiding N W
theorem SQ.tor{u:Nat}{p:Rat}(hp:SQ u p)(hu:u≤YY):aD env.P 24 [RR p] (RT p):=by
 rw [cW]
 have h1:=hp.n2;have h2:=hp.d2
 exact ah0 (by simp only [Z,YY]at *;omega) (by simp only [Z,YY]at *;omega)
def l1(x:List Int):Nat:=(x.map Int.natAbs).sum
theorem jE(a:Int)(x:List Int):l1 (a::x)=a.natAbs+l1 x:=by simp [l1]
theorem KV:l1 []=0:=rfl
theorem KW:∀x:List Int,l1 (aP x)≤l1 x
 | []=>Nat.le_refl _
 | a::x=>by
  have:=KW x
  rw [aP]
  split
  ·rw [KV];omega
  ·rw [jE,jE];omega
theorem D4{α:Type}(f g:α→Int):∀l:List α,l1 (l.map fun k=>f k+g k)≤l1 (l.map f)+l1 (l.map g)
 | []=>Nat.le_refl _
 | x::l=>by
  have:=D4 f g l
  simp only [List.map_cons,jE]
  omega
theorem vB:∀(x:List Int) (n:Nat),l1 (x++List.replicate n 0)=l1 x
 | [],n=>by simp [l1]
 | a::x,n=>by rw [List.cons_append,jE,jE,vB x n]
theorem aik(x y:List Int):l1 (iI x y)≤l1 x+l1 y:=by
 have h1:=D4 (nth x) (nth y) (List.range (max x.length y.length))
 rw [o9 (by omega),o9 (by omega),vB,vB]at h1
 exact Nat.le_trans (KW _) h1
theorem aes(a:Int):∀y:List Int,l1 (y.map fun c=>c*a)=a.natAbs*l1 y
 | []=>by simp [l1]
 | c::y=>by rw [List.map_cons,jE,jE,aes a y,Int.natAbs_mul,Nat.mul_add,Nat.mul_comm]
theorem O3:∀x y:List Int,l1 (gM x y)≤l1 x*l1 y
 | [],y=>by rw [gM,KV];omega
 | a::x,y=>by
  have h1:=O3 x y
  have h2:=aik (y.map fun c=>c*a) (0::gM x y)
  rw [aes,jE]at h2
  rw [gM,jE,Nat.add_mul]
  simp only [Int.natAbs_zero]at h2
  omega
def n1(a:ZX):Nat:=l1 a.l
theorem D5(a b:ZX):n1 (a*b)≤n1 a*n1 b:=Nat.le_trans (KW _) (O3 _ _)
theorem auj(x:List Int):n1 (of x)≤l1 x:=KW x
theorem ail(c:Int):n1 (K c)≤c.natAbs:=Nat.le_trans (auj _) (by simp [l1])
theorem aet{a:ZX}{m:Nat}(h:n1 a≤m):∀k:Nat,n1 (a^k)≤m^k
 | 0=>ail 1
 | k+1=>by
  rw [pow_succ',Nat.pow_succ]
  exact Nat.le_trans (D5 _ _) (Nat.mul_le_mul (aet h k) h)
theorem aeu:∀ {x:List Int} {c:Int},c∈x→c.natAbs≤l1 x
 | a::x,c,h=>by
  rw [jE]
  rcases List.mem_cons.1 h with rfl | h
  ·omega
  ·have:=aeu h;omega
theorem BZ.O4{s n:Nat}{a:ZX}(h:n1 a<2^s)(hn:ZX.N a≤n):BZ s n a:=⟨hn,fun c hc=>dE (by decide) (Nat.lt_of_le_of_lt (aeu hc) h)⟩
theorem aim(l:List Int)(i:Nat):n1 (of (gX l i))≤9^(ZX.N (of (gX l i))-1)∧2≤ZX.N (of (gX l i)):=by
 obtain⟨_,hl,_⟩:=BG l i
 have h9:=Int.emod_nonneg (nth l i) (show (9:Int)≠0 by decide)
 have h9':=Int.emod_lt_of_pos (nth l i) (show (0:Int)<9 by decide)
 have h5:=Int.emod_nonneg (nth l (i+1)) (show (5:Int)≠0 by decide)
 have h5':=Int.emod_lt_of_pos (nth l (i+1)) (show (0:Int)<5 by decide)
 have h3:=Int.emod_nonneg (nth l (i+2)) (show (3:Int)≠0 by decide)
 have h3':=Int.emod_lt_of_pos (nth l (i+2)) (show (0:Int)<3 by decide)
 unfold n1 ZX.N
 rw [hl]
 unfold gX
 split
 ·simp only [jE,KV,List.length_cons,List.length_nil]
  refine⟨?_,by omega⟩
  show _≤81
  omega
 ·simp only [jE,KV,List.length_cons,List.length_nil]
  refine⟨?_,by omega⟩
  show _≤9
  omega
theorem O5(l:List Int)(most:Nat):∀j,n1 (dX l most j)≤9^(ZX.N (dX l most j)-1)
 | 0=>Nat.le_trans (ail 1) (Nat.one_le_pow _ _ (by decide))
 | j+1=>by
  have ih:=O5 l most j
  obtain⟨h0,_⟩:=nQ l most j
  obtain⟨b1,b2,b3⟩:=BG l (3*j)
  obtain⟨e1,e2⟩:=KH l (3*j)
  obtain⟨f1,f2⟩:=aim l (3*j)
  obtain⟨p1,p2,p3⟩:=ad3 b3 b1 _ e1
  show n1 (w7 l most (3*j) (dX l most j))≤9^(ZX.N (w7 l most (3*j) (dX l most j))-1)
  unfold w7
  split
  ·exact ih
  ·have h1:=Nat.mul_le_mul ih (aet f1 (sH l (3*j)))
   refine Nat.le_trans (D5 _ _) (Nat.le_trans h1 ?_)
   rw [←Nat.pow_mul,←Nat.pow_add]
   refine Nat.pow_le_pow_right (by decide) ?_
   rw [ZX.j1 h0 p2,p3,Nat.mul_comm]
   have:=ZX.aH.1 h0
   omega
theorem W4(l:List Int)(most:Nat):n1 (made l most)≤3*9^most∧ZX.N (made l most)≤most+1:=by
 have hN:=(BH l most).2.N
 refine⟨?_,hN⟩
 have h1:=O5 l most (min 6 (l.length/3))
 have h2:=(nQ l most (min 6 (l.length/3))).2.N
 have h3:9^(ZX.N (dX l most (min 6 (l.length/3)))-1)≤9^most:=Nat.pow_le_pow_right (by decide) (by omega)
 unfold made
 split
 ·have h4:=D5 (K (-3)) (dX l most (min 6 (l.length/3)))
  have h5:=ail (-3)
  exact Nat.le_trans h4 (Nat.mul_le_mul h5 (Nat.le_trans h1 h3))
 ·omega
def KX(x:List Int):Nat→List Int
 | 0=>[]
 | i+1=>KX x i ++ [if i%2=1 then -nth x i else nth x i]
theorem O6(x:List Int):∀i,(KX x i).length=i
 | 0=>rfl
 | i+1=>by rw [KX,List.length_append,O6 x i];rfl
theorem ain{x:List Int}(h:Cn x):Cn (KX x x.length):=by
 rcases Nat.eq_zero_or_pos x.length with h0 | h0
 ·rw [h0];rfl
 ·obtain⟨n,hn⟩:∃n,x.length=n+1:=⟨x.length-1,by omega⟩
  have hl:=cX h h0
  have e:lead x=nth x n:=by unfold lead;rw [hn];rfl
  rw [e]at hl
  rw [hn,KX]
  exact iA (by split<;>omega) _
def mir(a:ZX):ZX:=⟨KX a.l a.l.length,ain a.c⟩
theorem auk(a:ZX):ZX.N (mir a)=ZX.N a:=O6 _ _
theorem D6{S τ t:Rat}(hS:0≤S)(hτ:0<τ)(ht:kU τ t):∀ {x:List Int},Cn x→0<x.length→(∀c∈x.dropLast,Ab (c:Rat) S)→S+(((lead x).natAbs:Int):Rat)≤(((lead x).natAbs:Int):Rat)*τ→kU (((lead x).natAbs:Int):Rat) (qv t x)
 | [a],hc,_,_,_=>by
  have e1:qv t [a]=(a:Rat):=by simp only [qv];grind
  have e2:lead [a]=a:=rfl
  rw [e1,e2]
  by_cases h:0≤a
  ·right
   exact Rat.intCast_le_intCast.2 (by omega)
  ·left
   rw [←Rat.intCast_neg]
   exact Rat.intCast_le_intCast.2 (by omega)
 | a::b::l,hc,_,hb,hL=>by
  have hl:=cX (BD hc) (by simp)
  rw [yK]at hL ⊢
  have ih:=D6 hS hτ ht (BD hc) (by simp) (fun c hc=>hb c (by
   rw [List.dropLast_cons_of_ne_nil (by simp)];exact List.mem_cons_of_mem _ hc)) hL
  obtain⟨h4,h5⟩:=hb a (by rw [List.dropLast_cons_of_ne_nil (by simp)];simp)
  have e1:qv t (a::b::l)=a+t*qv t (b::l):=rfl
  have hp:(0:Rat)<(((lead (b::l)).natAbs:Int):Rat):=Rat.intCast_pos.2 (by omega)
  have hm:=kU.mul hτ hp ht ih
  rw [e1]
  generalize (((lead (b::l)).natAbs:Int):Rat)=L at *
  rcases hm with h | h
  ·left;grind
  ·right;grind
theorem qN{x:List Int}(cx:Cn x)(hx:x ≠ []){t:Rat}(ht:kU (iU x) t):kU 1 (qv t x)∧1≤iU x:=by
 have oT:=List.length_pos_iff.2 hx
 have hl:=cX cx oT
 have hL:(1:Rat)≤(((lead x).natAbs:Int):Rat):=eY (by omega)
 have hm:(0:Rat)≤((lR x (x.length-1):Int):Rat):=Rat.intCast_nonneg.2 (aeg _ _)
 have e:=yP cx hx
 have h2:=Rat.div_mul_cancel (a:=((lR x (x.length-1):Int):Rat)) (b:=(((lead x).natAbs:Int):Rat)) (by grind)
 have hw:(0:Rat)≤((lR x (x.length-1):Int):Rat)/(((lead x).natAbs:Int):Rat):=by
  refine Rat.not_lt.1 fun h=>?_
  have:=Rat.mul_le_mul_of_nonneg_left hL (show 0 ≤ -(((lR x (x.length-1):Int):Rat)/(((lead x).natAbs:Int):Rat))by grind)
  grind
 have h1:1≤iU x:=by rw [e];grind
 refine⟨(D6 hm (show 0<iU x by grind) ht cx oT (fun c hc=>?_) ?_).mono hL,h1⟩
 ·obtain⟨k,hk,rfl⟩:=List.mem_iff_getElem.1 hc
  rw [List.length_dropLast]at hk
  have h3:=aeh x (x.length-1) k hk
  rw [dD (by omega)]at h3
  rw [List.getElem_dropLast]
  constructor
  ·rw [←Rat.intCast_neg]
   exact Rat.intCast_le_intCast.2 (by omega)
  ·exact Rat.intCast_le_intCast.2 (by omega)
 ·rw [e]
  generalize ((lR x (x.length-1):Int):Rat)/(((lead x).natAbs:Int):Rat)=w at *
  grind
end Go.Proofs.YtelhfbikiccfkaaGreat
