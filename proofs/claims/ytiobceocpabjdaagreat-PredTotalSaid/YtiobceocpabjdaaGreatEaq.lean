import Derived.Test.YtiobceocpabjdaaGreatEal
import Derived.Test.YtiobceocpabjdaaGreatEao
import Derived.Test.YtiobceocpabjdaaGreatEap
set_option linter.unusedSimpArgs false
set_option linter.unusedVariables false
namespace Pm
theorem acW:∀(n:Nat) (f:Nat→Nat),(∀k,k≤n→f k<n) → ∃i j,i<j∧j≤n∧f i=f j
 | 0,f,h=>absurd (h 0 (Nat.le_refl _)) (by omega)
 | n+1,f,h=>by
  by_cases hx:∃i,i≤n∧f i=f (n+1)
  ·obtain⟨i,hi,e⟩:=hx
   exact⟨i,n+1,by omega,Nat.le_refl _,e⟩
  ·have pS:∀i,i≤n→f i≠f (n+1):=fun i hi e=>hx ⟨i,hi,e⟩
   have hm:=h (n+1) (Nat.le_refl _)
   obtain⟨i,j,hij,hj,e⟩:=acW n (fun k=>if f k=n then f (n+1)else f k) (fun k hk=>by
    have h1:=h k (by omega)
    have h2:=pS k hk
    show(if f k=n then f (n+1)else f k)<n
    split<;>omega)
   refine⟨i,j,hij,by omega,?_⟩
   have h1:=pS i (by omega)
   have h2:=pS j hj
   have e':(if f i=n then f (n+1)else f i)=(if f j=n then f (n+1)else f j):=e
   split at e'<;>split at e'<;>omega
def DM(b:Nat):Nat→Nat→List Int
 | 0,_=>[]
 | n+1,k=>((k%b:Nat):Int)::DM b n (k/b)
theorem wH(b:Nat):∀n k,(DM b n k).length=n
 | 0,_=>rfl
 | n+1,k=>by rw [DM,List.length_cons,wH b n]
theorem IJ{b:Nat}(hb:0<b):∀n k,∀c∈DM b n k,0≤c∧c<b
 | 0,_,c,h=>by cases h
 | n+1,k,c,h=>by
  rcases List.mem_cons.1 h with rfl | h
  ·have:=Nat.mod_lt k hb;omega
  ·exact IJ hb n _ c h
theorem IK{b:Nat}(hb:0<b):∀n k m,k<b^n→m<b^n→DM b n k=DM b n m→k=m
 | 0,k,m,h1,h2,_=>by simp at h1 h2;omega
 | n+1,k,m,h1,h2,h=>by
  rw [DM,DM]at h
  injection h with h3 h4
  rw [Nat.pow_succ]at h1 h2
  have h5:=IK hb n (k/b) (m/b) ((Nat.div_lt_iff_lt_mul hb).2 h1) ((Nat.div_lt_iff_lt_mul hb).2 h2) h4
  have h6:=Nat.div_add_mod k b
  have h7:=Nat.div_add_mod m b
  rw [h5]at h6
  omega
def QY(R:Nat):List Nat→Nat
 | []=>0
 | x::l=>x+R*QY R l
theorem acX{R:Nat}:∀l:List Nat,(∀x∈l,x<R)→QY R l<R^l.length
 | [],_=>by simp [QY]
 | x::l,h=>by
  have h1:=acX l fun y hy=>h y (List.mem_cons_of_mem _ hy)
  have h2:=h x (List.mem_cons_self ..)
  rw [QY,List.length_cons,Nat.pow_succ]
  have h3:R*(QY R l+1)≤R*R^l.length:=Nat.mul_le_mul_left _ h1
  rw [Nat.mul_add]at h3
  rw [Nat.mul_comm (R^_)]
  omega
theorem UR{R:Nat}:∀l m:List Nat,l.length=m.length→(∀x∈l,x<R)→(∀x∈m,x<R)→QY R l=QY R m→l=m
 | [],[],_,_,_,_=>rfl
 | [],_::_,h,_,_,_=>by simp at h
 | _::_,[],h,_,_,_=>by simp at h
 | x::l,y::m,hl,h1,h2,e=>by
  rw [QY,QY]at e
  have hx:=h1 x (List.mem_cons_self ..)
  have hy:=h2 y (List.mem_cons_self ..)
  have e1:(x+R*QY R l)%R=(y+R*QY R m)%R:=by rw [e]
  rw [Nat.add_mul_mod_self_left,Nat.add_mul_mod_self_left,Nat.mod_eq_of_lt hx,Nat.mod_eq_of_lt hy]at e1
  subst e1
  have e2:R*QY R l=R*QY R m:=by omega
  have e3:=Nat.eq_of_mul_eq_mul_left (by omega) e2
  rw [UR l m (by simpa using hl) (fun z hz=>h1 z (List.mem_cons_of_mem _ hz)) (fun z hz=>h2 z (List.mem_cons_of_mem _ hz)) e3]
theorem rN{X Y:Nat}:∀(x y:List Int),(∀c∈x,c.natAbs≤X)→(∀i,(nth y i).natAbs≤Y) → ∀i,(nth (bA x y) i).natAbs≤x.length*(X*Y)
 | [],y,_,_,i=>by
  rw [show bA [] y = []from rfl,oC];simp
 | k::x,y,hx,hy,i=>by
  have hk:=hx k (List.mem_cons_self ..)
  have ih:=rN x y (fun c hc=>hx c (List.mem_cons_of_mem _ hc)) hy
  have h1:∀j,(nth y j*k).natAbs≤X*Y:=fun j=>by
   rw [Int.natAbs_mul,Nat.mul_comm]
   exact Nat.mul_le_mul hk (hy j)
  rw [List.length_cons,Nat.add_mul,Nat.one_mul]
  cases i with
  | zero =>
   rw [qW]
   have:=h1 0;omega
  | succ i =>
   rw [l9]
   have h2:=h1 (i+1)
   have h3:=ih i
   have h4:=Int.natAbs_add_le (nth y (i+1)*k) (nth (bA x y) i)
   omega
theorem QZ{A:Nat}{y:List Int}(h:∀c∈y,c.natAbs≤A)(i:Nat):(nth y i).natAbs≤A:=by
 rcases Nat.lt_or_ge i y.length with h1 | h1
 ·exact h _ (bI h1)
 ·rw [gE h1];exact Nat.zero_le _
namespace ZX
theorem IL(x y:ZX)(i:Nat):nth (x-y).l i=nth x.l i-nth y.l i:=by
 have h:x=(x-y)+y:=by grind
 have h2:nth x.l i=nth ((x-y)+y).l i:=by rw [←h]
 rw [show((x-y)+y).l=eV (x-y).l y.l from rfl,vA]at h2
 omega
theorem agA{a b v:ZX}(ha:a≠0)(hc:∀d,dv d a→dv d b→N d≤1)(h:dv a (v*b)):dv a v:=by
 obtain⟨g,hg⟩:=jA _ a b (Nat.le_refl _)
 have h0:=hg.ne (.inl ha)
 have h1:=hc g hg.l hg.r
 have h2:=ZX.aE.1 h0
 obtain⟨k,hk,rfl⟩:=k8 (show N g=1 by omega)
 obtain⟨c,xA,u',v',e⟩:=hg.uv
 rw [oO]at e
 refine dv.D7 (Int.mul_ne_zero xA hk) ?_
 rw [e,show(u'*a+v'*b)*v=(u'*v)*a+v'*(v*b)by grind]
 exact((dv.refl a).mul_left _).add (h.mul_left _)
theorem US{l:List Int}{n:Nat}(h:l.length≤n):N (of l)≤n:=Nat.le_trans (bU l) h
theorem IM{x:ZX}{n:Nat}(hN:N x≤n+1)(h:∀i,i<n→nth x.l (i+1)=0):∃c:Int,x=K c:=by
 rcases Nat.lt_or_ge (N x) 2 with h1 | h1
 ·rcases Nat.eq_zero_or_pos (N x)with h2 | h2
  ·refine⟨0,?_⟩
   have:x=0:=Classical.byContradiction fun h0=>by have:=ZX.aE.1 h0;omega
   rw [this];rfl
  ·obtain⟨c,_,e⟩:=k8 (show N x=1 by omega)
   exact⟨c,e⟩
 ·exfalso
  have h2:lead x.l≠0:=dB x.c (show 0<N x by omega)
  refine h2 ?_
  have h3:=h (N x-2) (by omega)
  rw [show N x-2+1=x.l.length-1 from by show N x-2+1=N x-1;omega]at h3
  exact h3
theorem IP(l:List Int)(i:Nat):nth (of l).l i=nth l i:=iR l i
theorem amB{a b:ZX}{s r l X:Nat}(ha:a≠0)(hb:b≠0)(hA:∀c∈a.l,c.natAbs≤2^s)(hB:∀c∈b.l,c.natAbs≤2^r)(hl:N a+N b≤2^l)(hc:∀d,dv d a→dv d b→N d≤1)(hX:(l+2)*(N a+N b)+s*N b+r*N a≤X) :
  ∃(u v:ZX) (c:Int),c≠0∧u*a+v*b=K c∧N u≤N b∧N v≤N a∧(∀c∈u.l,c.natAbs≤2^(X-s)) ∧ ∀c∈v.l,c.natAbs≤2^(X-r):=by
 have na:=ZX.aE.1 ha
 have nb:=ZX.aE.1 hb
 obtain⟨p,hp⟩:∃p,N a=p+1:=⟨N a-1,by omega⟩
 obtain⟨q,hq⟩:∃q,N b=q+1:=⟨N b-1,by omega⟩
 have hsX:s≤X:=by rw [hq,Nat.mul_add s]at hX;omega
 have hrX:r≤X:=by rw [hp,Nat.mul_add r]at hX;omega
 rcases Nat.lt_or_ge 2 (N a+N b)with hm | hm
 ·obtain⟨m,hmm⟩:∃m,p+q=m+1:=⟨p+q-1,by omega⟩
  obtain⟨U,hU⟩:∃U,U=2^(X-s):=⟨_,rfl⟩
  obtain⟨V,hV⟩:∃V,V=2^(X-r):=⟨_,rfl⟩
  have hUA:U*2^s=2^X:=by rw [hU,←Nat.pow_add];congr 1;omega
  have hVB:V*2^r=2^X:=by rw [hV,←Nat.pow_add];congr 1;omega
  rw [←hU,←hV]
  let P:=(U+1)^q
  have hPp:0<P:=Nat.pow_pos (Nat.succ_pos _)
  have hQp:0<(V+1)^p:=Nat.pow_pos (Nat.succ_pos _)
  let W:=(m+1)*2^X
  let uu:=fun k:Nat=>of (DM (U+1) q (k%P))
  let vv:=fun k:Nat=>of (DM (V+1) p (k/P))
  let L:=fun k:Nat=>uu k*a+vv k*b
  have afF:∀B n k,∀c∈DM (B+1) n k,c.natAbs≤B:=fun B n k c hc=>by
   have:=IJ (Nat.succ_pos B) _ _ c hc
   omega
  have hu:∀k,∀c∈(uu k).l,c.natAbs≤U:=fun k c hc=>afF _ _ _ c (l8 _ _ hc)
  have hv:∀k,∀c∈(vv k).l,c.natAbs≤V:=fun k c hc=>afF _ _ _ c (l8 _ _ hc)
  have hNu:∀k,N (uu k)≤q:=fun k=>US (by rw [wH];exact Nat.le_refl _)
  have hNv:∀k,N (vv k)≤p:=fun k=>US (by rw [wH];exact Nat.le_refl _)
  have hW:∀k i,(nth (L k).l i).natAbs≤W:=fun k i=>by
   have e:(L k).l=eV (bA (uu k).l a.l) (bA (vv k).l b.l):=rfl
   rw [e,vA]
   have h1:=rN (uu k).l a.l (hu k) (QZ hA) i
   have h2:=rN (vv k).l b.l (hv k) (QZ hB) i
   rw [hUA]at h1
   rw [hVB]at h2
   have h4:=Int.natAbs_add_le (nth (bA (uu k).l a.l) i) (nth (bA (vv k).l b.l) i)
   have h5:(uu k).l.length*2^X+(vv k).l.length*2^X≤W:=by
    rw [←Nat.add_mul]
    refine Nat.mul_le_mul_right _ ?_
    have h4:N (uu k)≤q:=hNu k
    have h5:N (vv k)≤p:=hNv k
    show N (uu k)+N (vv k)≤m+1
    omega
   omega
  let im:=fun k:Nat=>(List.range m).map fun i=>(nth (L k).l (i+1)+W).toNat
  have him:∀k,∀x∈im k,x<2*W+1:=fun k x hx=>by
   simp only [im,List.mem_map]at hx
   obtain⟨i,_,rfl⟩:=hx
   have:=hW k (i+1)
   omega
  have axN:(2*W+1)^m<P*(V+1)^p:=by
   have h1:2*W+1≤2^(X+l+2):=by
    have h2:(m+1)*2^X≤2^l*2^X:=Nat.mul_le_mul_right _ (by omega)
    have h3:2^(X+l+2)=2^l*2^X*4:=by rw [Nat.pow_add,Nat.pow_add,Nat.mul_comm (2^X)]
    have h4:1≤2^l*2^X:=Nat.mul_pos (Nat.two_pow_pos _) (Nat.two_pow_pos _)
    simp only [W]
    omega
   have h2:=Nat.pow_le_pow_left h1 m
   rw [←Nat.pow_mul]at h2
   have h3:2^((X-s)*q+(X-r)*p)≤P*(V+1)^p:=by
    rw [Nat.pow_add,Nat.pow_mul,Nat.pow_mul,←hU,←hV]
    exact Nat.mul_le_mul (Nat.pow_le_pow_left (Nat.le_succ _) _) (Nat.pow_le_pow_left (Nat.le_succ _) _)
   refine Nat.lt_of_le_of_lt h2 (Nat.lt_of_lt_of_le (Nat.pow_lt_pow_right (by decide) ?_) h3)
   rw [hp,hq]at hX
   rw [Nat.sub_mul,Nat.sub_mul]
   have e1:X*q+X*p=X*m+X:=by rw [←Nat.mul_add,show q+p=m+1 by omega,Nat.mul_add,Nat.mul_one]
   have e2:s*q≤X*q:=Nat.mul_le_mul_right _ hsX
   have e3:r*p≤X*p:=Nat.mul_le_mul_right _ hrX
   have e4:(X+l+2)*m=X*m+(l+2)*m:=by rw [Nat.add_assoc,Nat.add_mul]
   have e5:(l+2)*(p+1+(q+1))=(l+2)*m+(l+2)*3:=by rw [←Nat.mul_add];congr 1;omega
   have e6:s*(q+1)=s*q+s:=Nat.mul_succ _ _
   have e7:r*(p+1)=r*p+r:=Nat.mul_succ _ _
   omega
  obtain⟨n,hn⟩:∃n,P*(V+1)^p=n+1:=⟨P*(V+1)^p-1,by have:=Nat.mul_pos hPp hQp;omega⟩
  obtain⟨i,j,hij,hj,e⟩:=acW n (fun k=>QY (2*W+1) (im k)) (fun k hk=>by
   have h1:=acX (im k) (him k)
   rw [show(im k).length=m by simp [im]]at h1
   show QY (2*W+1) (im k)<n
   omega)
  have e2:=UR (im i) (im j) (by simp [im]) (him i) (him j) e
  have e3:∀s,s<m→nth (L i).l (s+1)=nth (L j).l (s+1):=fun s hs=>by
   have h1:(im i)[s]? = (im j)[s]? := by rw [e2]
   simp only [im,List.getElem?_map,List.getElem?_range hs,Option.map_some]at h1
   injection h1 with h1
   have:=hW i (s+1)
   have:=hW j (s+1)
   omega
  have hNL:∀x y:ZX,N x≤q→N y≤p→N (x*a+y*b)≤m+1:=fun x y hx hy=>by
   have h1:N (x*a+y*b)≤max (N (x*a)) (N (y*b)):=BP _ _
   have h2:N (x*a)≤N x+N a-1:=qV (x:=x.l) (y:=a.l) na
   have h3:N (y*b)≤N y+N b-1:=qV (x:=y.l) (y:=b.l) nb
   omega
  have VF:N (uu i-uu j)≤q:=by
   have h1:N (uu i-uu j)≤max (N (uu i)) (N (uu j)):=u7 _ _
   have:=hNu i;have:=hNu j;omega
  have hv':N (vv i-vv j)≤p:=by
   have h1:N (vv i-vv j)≤max (N (vv i)) (N (vv j)):=u7 _ _
   have:=hNv i;have:=hNv j;omega
  have eL:(uu i-uu j)*a+(vv i-vv j)*b=L i-L j:=by simp only [L];grind
  obtain⟨c,Y8⟩:=IM (x:=(uu i-uu j)*a+(vv i-vv j)*b) (n:=m) (hNL _ _ VF hv') (fun s hs=>by
   rw [eL,IL,e3 s hs];omega)
  have oP:∀(B n k k':Nat),∀c∈(of (DM (B+1) n k)-of (DM (B+1) n k')).l,c.natAbs≤B:=fun B n k k' c hc=>by
   obtain⟨s,hs,rfl⟩:=List.getElem_of_mem hc
   rw [←c9 hs,IL,IP,IP]
   have h3:∀k,0≤nth (DM (B+1) n k) s∧nth (DM (B+1) n k) s<((B+1:Nat):Int):=fun k=>by
    rcases Nat.lt_or_ge s (DM (B+1) n k).length with h4 | h4
    ·exact IJ (Nat.succ_pos B) _ _ _ (bI h4)
    ·rw [gE h4];exact⟨by decide,by show(0:Int)<_;omega⟩
   have:=h3 k
   have:=h3 k'
   omega
  refine⟨uu i-uu j,vv i-vv j,c,fun h0=>?_,Y8,by omega,by omega,oP _ _ _ _,oP _ _ _ _⟩
  rw [h0,show K 0=(0:ZX)from rfl]at Y8
  have hvz:vv i-vv j=0:=Classical.byContradiction fun pS=>by
   have h1:dv a (vv i-vv j):=agA ha hc (b:=b) ⟨1,by decide, -(uu i-uu j),by
    show(1:ZX)*_=_
    have:(vv i-vv j)*b = -((uu i-uu j)*a):=by grind
    rw [this];grind⟩
   have:=h1.nS pS
   omega
  have huz:uu i-uu j=0:=Classical.byContradiction fun pS=>by
   have h1:(uu i-uu j)*a=0:=by rw [hvz]at Y8;grind
   exact rK pS ha h1
  have hd:∀(B n k k':Nat),of (DM (B+1) n k)-of (DM (B+1) n k')=0→DM (B+1) n k=DM (B+1) n k':=fun B n k k' h0=>by
   refine List.ext_getElem (by rw [wH,wH]) fun s hs zU=>?_
   have h3:=IL (of (DM (B+1) n k)) (of (DM (B+1) n k')) s
   rw [h0,show nth (0:ZX).l s=0 from oC s,IP,IP]at h3
   rw [←c9 hs,←c9 zU]
   omega
  have lt2:∀k,k≤n→k/P<(V+1)^p:=fun k hk=>(Nat.div_lt_iff_lt_mul hPp).2 (by rw [Nat.mul_comm];omega)
  have d1:i%P=j%P:=IK (Nat.succ_pos U) q _ _ (Nat.mod_lt i hPp) (Nat.mod_lt j hPp) (hd _ _ _ _ huz)
  have d2:i/P=j/P:=IK (Nat.succ_pos V) p _ _ (lt2 i (by omega)) (lt2 j hj) (hd _ _ _ _ hvz)
  have h6:=Nat.div_add_mod i P
  have h7:=Nat.div_add_mod j P
  rw [d1,d2]at h6
  omega
 ·obtain⟨c,xA,rfl⟩:=k8 (show N a=1 by omega)
  refine⟨1,0,c,xA,by grind,by rw [CI];omega,by rw [abB];omega,fun x hx=>?_,fun x hx=>by cases hx⟩
  have h1:(1:ZX).l = [1]:=rfl
  rw [h1]at hx
  simp at hx;subst hx;exact Nat.two_pow_pos _
end ZX
end Pm
namespace Pm
theorem rO(a b:Nat):(2:Rat)^(a+b)=2^a*2^b:=by
 induction b with
 | zero=>rw [Nat.add_zero,Rat.pow_zero,Rat.mul_one]
 | succ b ih=>rw [←Nat.add_assoc,Rat.pow_succ,Rat.pow_succ,ih];grind
theorem gZ(a:Nat):(0:Rat)<2^a:=Rat.pow_pos (by decide)
theorem uE:∀a:Nat,(1:Rat)≤2^a
 | 0=>by simp
 | a+1=>by
  have:=uE a
  rw [Rat.pow_succ];grind
theorem MR{a b:Nat}(h:a≤b):(2:Rat)^a≤2^b:=by
 obtain⟨c,rfl⟩:∃c,b=a+c:=⟨b-a,by omega⟩
 rw [rO]
 have h1:=uE c
 have h2:=gZ a
 have h3:=Rat.mul_le_mul_of_nonneg_left h1 (Rat.le_of_lt h2)
 grind
theorem IQ:∀a:Nat,(((2^a:Nat):Int):Rat)=2^a
 | 0=>by simp
 | a+1=>by
  rw [Nat.pow_succ,Rat.pow_succ,←IQ a,Int.natCast_mul,Rat.intCast_mul];rfl
theorem FR{c:Int}{s:Nat}(h:c.natAbs≤2^s):Ab (c:Rat) (2^s):=by
 have h1:=IQ s
 have h2:c≤((2^s:Nat):Int):=by omega
 have h3 : -((2^s:Nat):Int)≤c:=by omega
 have h4:=Rat.intCast_le_intCast.2 h2
 have h5:=Rat.intCast_le_intCast.2 h3
 rw [Rat.intCast_neg]at h5
 rw [h1]at h4 h5
 exact⟨h5,h4⟩
theorem Q0(s β:Nat):∀k,xP (2^s) (2^β) k=2^(s+k*(β+2))
 | 0=>by simp [xP]
 | k+1=>by
  rw [xP,Q0 s β k,show s+(k+1)*(β+2)=s+k*(β+2)+β+1+1 by rw [Nat.add_mul];omega,Rat.pow_succ,Rat.pow_succ,rO _ β]
  grind
namespace ZX
theorem asM{a:ZX}{s n β:Nat}(h:∀c∈a.l,c.natAbs≤2^s)(hN:N a≤n){t:Rat}(ht:Ab t (2^β)):Ab (e t a) (2^(s+n*(β+2))):=by
 have h1:=UD (S:=2^s) (B:=2^β) (t:=t) (Rat.le_of_lt (gZ s)) (uE β) ht a.l fun c hc=>FR (h c hc)
 rw [Q0]at h1
 refine h1.mono (MR ?_)
 have:a.l.length*(β+2)≤n*(β+2):=Nat.mul_le_mul_right _ hN
 omega
theorem acY{a:ZX}{s n β:Nat}(h:∀c∈a.l,c.natAbs≤2^s)(hN:N a≤n){r t:Rat}(hr:Ab r (2^β))(ht:Ab t (2^β)):Ab (dd r t a.l) (2^(s+n*(β+2)))∧Ab (cc r t a.l) (2^(s+n*(β+2))):=by
 have h1:=MG (S:=2^s) (B:=2^β) (s:=r) (t:=t) (Rat.le_of_lt (gZ s)) (uE β) hr ht a.l fun c hc=>FR (h c hc)
 have h2:=UE (S:=2^s) (B:=2^β) (s:=r) (t:=t) (Rat.le_of_lt (gZ s)) (uE β) hr ht a.l fun c hc=>FR (h c hc)
 rw [Q0]at h1 h2
 have h3:a.l.length*(β+2)≤n*(β+2):=Nat.mul_le_mul_right _ hN
 exact⟨h1.mono (MR (by omega)),h2.mono (MR (by omega))⟩
def sk(s n l β:Nat):Nat:=n*(s+2+l)+n*(β+2)+1
def sx(a b:ZX)(s r l:Nat):Nat:=(l+2)*(N a+N b)+s*N b+r*N a
theorem asN{a b:ZX}{s r l β:Nat}(ha:a≠0)(hb:b≠0)(hA:∀c∈a.l,c.natAbs≤2^s)(hB:∀c∈b.l,c.natAbs≤2^r)(hl:N a+N b≤2^l)(hc:∀d,dv d a→dv d b→N d≤1)
  {t ε η:Rat} (ht:Ab t (2^β)) (hε:ε*2^(sx a b s r l-s+N b*(β+2)+1)≤1) (hη:η*2^(sx a b s r l-r+N a*(β+2)+1)≤1):kD ε (e t a)∨kD η (e t b):=by
 obtain⟨u,v,c,xA,he,hNu,hNv,hu,hv⟩:=amB ha hb hA hB hl hc (Nat.le_refl _)
 have h1:=asM (β:=β) hu hNu ht
 have h2:=asM (β:=β) hv hNv ht
 have h3:e t u*e t a+e t v*e t b=(c:Rat):=by rw [←lI,←lI,←asA,he,z9]
 have h4:=wF xA
 rw [show(l+2)*(N a+N b)+s*N b+r*N a=sx a b s r l from rfl]at h1 h2
 rw [rO _ 1]at hε hη
 have hM:=gZ (sx a b s r l-s+N b*(β+2))
 have hM2:=gZ (sx a b s r l-r+N a*(β+2))
 generalize (2:Rat)^(sx a b s r l-s+N b*(β+2))=M at *
 generalize (2:Rat)^(sx a b s r l-r+N a*(β+2))=M2 at *
 refine Classical.byContradiction fun Q3=>?_
 have e1:(2:Rat)^1=2:=by rw [Rat.pow_succ,Rat.pow_zero];grind
 rw [e1]at hε hη
 have key:∀x y E M:Rat,0<M→Ab y M→E*(M*2)≤1→¬kD E x → ∃δ:Rat,δ<1/2∧Ab (y*x) δ:=fun x y E M hM hy hE hx=>by
  have g1:=H7 hx
  obtain⟨m,g2,g3,g4⟩:∃m:Rat,m<E∧x≤m ∧ -x≤m:=by
   by_cases h:x ≤ -x
   ·exact⟨-x,by grind,h,Rat.le_refl⟩
   ·exact⟨x,by grind,Rat.le_refl,by grind⟩
  have g5:=hy.mul (show Ab x m from⟨by grind,g3⟩)
  refine⟨_,?_,g5⟩
  have g6:=Rat.mul_lt_mul_of_pos_left g2 hM
  grind
 obtain⟨d1,p1,p2,p3⟩:=key _ _ _ _ hM h1 hε fun h=>Q3 (.inl h)
 obtain⟨d2,p4,p5,p6⟩:=key _ _ _ _ hM2 h2 hη fun h=>Q3 (.inr h)
 rcases h4 with h4 | h4<;>grind
theorem acZ{a b:ZX}{s n l β m:Nat}(hn:N a+N b≤n)(hm:m≤n):sx a b s s l-s+m*(β+2)+1≤sk s n l β:=by
 unfold sx sk
 have h1:(l+2)*(N a+N b)+s*N b+s*N a=(s+2+l)*(N a+N b):=by grind
 have h2:(s+2+l)*(N a+N b)≤(s+2+l)*n:=Nat.mul_le_mul_left _ hn
 have h3:m*(β+2)≤n*(β+2):=Nat.mul_le_mul_right _ hm
 rw [h1,Nat.mul_comm n]
 omega
theorem UT{ε:Rat}{i j:Nat}(h:ε*2^j≤1)(hij:i≤j):ε*2^i≤1:=by
 have h1:=MR hij
 have h2:=gZ i
 by_cases h0:0≤ε
 ·have:=Rat.mul_le_mul_of_nonneg_left h1 h0;grind
 ·have:=Rat.mul_lt_mul_of_pos_right (show ε<0 by grind) h2;grind
theorem sep{a b:ZX}{s n l β:Nat}(ha:a≠0)(hb:b≠0)(hA:∀c∈a.l,c.natAbs≤2^s)(hB:∀c∈b.l,c.natAbs≤2^s)(hn:N a+N b≤n)(hl:n≤2^l)(hc:∀d,dv d a→dv d b→N d≤1)
  {t ε:Rat} (ht:Ab t (2^β)) (hε:ε*2^sk s n l β≤1):kD ε (e t a)∨kD ε (e t b):=
 asN (l:=l) ha hb hA hB (by omega) hc ht (UT hε (acZ hn (by omega))) (UT hε (acZ hn (by omega)))
theorem amC{f:ZX}{s n l:Nat}(h:∀c∈f.l,c.natAbs≤2^s)(hN:N f≤n)(hl:n≤2^l):∀c∈(bS f).l,c.natAbs≤2^(s+l):=fun c hc=>by
 have h1:=l8 _ _ hc
 simp only [xN,List.mem_map,List.mem_range]at h1
 obtain⟨i,hi,rfl⟩:=h1
 rw [Int.natAbs_mul,Nat.pow_add]
 have h2:=QZ h (i+1)
 have h3:N f=f.l.length:=rfl
 exact Nat.mul_le_mul h2 (by rw [Int.natAbs_natCast];omega)
theorem agB{x y z:Rat}(h:(x<y∧y<z)∨(y<x∧z<y)):(if x≠0∧bT z≠bT x then 1 else 0:Nat)=(if x≠0∧bT y≠bT x then 1 else 0)+(if y≠0∧bT z≠bT y then 1 else 0):=by
 rcases bZ x with ⟨h1,h2⟩ | ⟨h1,h2⟩ | ⟨h1,h2⟩<;>rcases bZ y with ⟨h3,h4⟩ | ⟨h3,h4⟩ | ⟨h3,h4⟩<;>rcases bZ z with ⟨h5,h6⟩ | ⟨h5,h6⟩ | ⟨h5,h6⟩ <;>
  rw [h2,h4,h6]<;>first
   | (exfalso;rcases h with ⟨h7,h8⟩ | ⟨h7,h8⟩<;>grind)
   | (have n1:(x≠0)=True:=eq_true (by grind)
      have n2:(y≠0)=True:=eq_true (by grind)
      simp only [n1,n2];decide)
   | (have n1:(x≠0)=False:=eq_false (by grind)
      have n2:(y≠0)=True:=eq_true (by grind)
      simp only [n1,n2];decide)
   | (have n1:(x≠0)=True:=eq_true (by grind)
      have n2:(y≠0)=False:=eq_false (by grind)
      simp only [n1,n2];decide)
def C7(f:ZX)(t:Rat):Int:=if e t f=0 then bT (e t (bS f))else bT (e t f)
theorem ac0{x y:Rat}{σ:Int}(h:(σ=1∧x<y)∨(σ = -1∧y<x)):(if y=0 then σ else bT y)=(if (if x≠0∧bT y≠bT x then 1 else 0:Nat)=0 then 1 else -1)*(if x=0 then σ else bT x):=by
 rcases bZ x with ⟨h1,h2⟩ | ⟨h1,h2⟩ | ⟨h1,h2⟩<;>rcases bZ y with ⟨h3,h4⟩ | ⟨h3,h4⟩ | ⟨h3,h4⟩<;>rw [h2,h4]<;>first
   | (exfalso;rcases h with ⟨h7,h8⟩ | ⟨h7,h8⟩<;>grind)
   | (have n1:(x=0)=False:=eq_false (by grind)
      have n2:(y=0)=False:=eq_false (by grind)
      simp only [n1,n2,ne_eq,not_false_eq_true,true_and,if_false];decide)
   | (have n1:(x=0)=True:=eq_true (by grind)
      have n2:(y=0)=False:=eq_false (by grind)
      have:σ=1∨σ = -1:=by omega
      rcases this with rfl | rfl<;>first
        | (simp only [n1,n2,ne_eq,not_true_eq_false,false_and,if_false,if_true];decide)
        | (exfalso;rcases h with ⟨h7,h8⟩ | ⟨h7,h8⟩<;>grind))
   | (have n1:(x=0)=False:=eq_false (by grind)
      have n2:(y=0)=True:=eq_true (by grind)
      have:σ=1∨σ = -1:=by omega
      rcases this with rfl | rfl<;>first
        | (simp only [n1,n2,ne_eq,not_false_eq_true,true_and,if_false,if_true];decide)
        | (exfalso;rcases h with ⟨h7,h8⟩ | ⟨h7,h8⟩<;>grind))
structure axO(f:ZX)(B δ:Rat):Prop where
 par:∀s t,Ab s B→Ab t B→s<t→t-s≤δ→C7 f t=(if ind f s t=0 then 1 else -1)*C7 f s
def lk(s n l β:Nat):Nat:=sk (s+l) (n+n) (l+1) β+(s+l+n*(β+2))+2
theorem FT{L:List ZX}{f:ZX}(G:QO L f){s n l β:Nat}(hf:f≠0)(hA:∀c∈f.l,c.natAbs≤2^s)(hn:N f≤n)(hl:n≤2^l)(hc:∀d,dv d f→dv d (bS f)→N d≤1){δ:Rat}(hδ:δ*2^lk s n l β≤1):Lcl L f (2^β) δ∧axO f (2^β) δ:=by
 have hA':∀c∈f.l,c.natAbs≤2^(s+l):=fun c hc=>Nat.le_trans (hA c hc) (Nat.pow_le_pow_right (by decide) (by omega))
 have hD:=amC hA hn hl
 have hND:=mG f
 have main:∀lo hi,Ab lo (2^β)→Ab hi (2^β)→lo<hi→hi-lo≤δ→vt L lo=vt L hi+ind f lo hi∧(e lo f=0→e hi f≠0)∧C7 f hi=(if ind f lo hi=0 then 1 else -1)*C7 f lo:=fun lo hi alo ahi hlh hw=>by
  have hδ0:0<δ:=by grind
  rw [lk,rO,rO]at hδ
  have hQ:=gZ (s+l+n*(β+2))
  have hK:=gZ (sk (s+l) (n+n) (l+1) β)
  generalize hQe:(2:Rat)^(s+l+n*(β+2))=Q at *
  generalize hKe:(2:Rat)^sk (s+l) (n+n) (l+1) β=κ at *
  have h22:(2:Rat)^2=4:=by rw [Rat.pow_succ,Rat.pow_succ,Rat.pow_zero];grind
  rw [h22]at hδ
  have hε:(1/κ)*κ=1:=Rat.div_mul_cancel (Rat.ne_of_gt hK)
  have hε0:0<1/κ:=(Rat.lt_div_iff hK).2 (by grind)
  generalize 1/κ=ε at *
  have hδQ:4*(δ*Q)≤ε:=by
   have h1:δ*(κ*Q*4)=(4*(δ*Q))*κ:=by grind
   rw [h1,←hε]at hδ
   exact Rat.le_of_mul_le_mul_right hδ hK
  have hin:∀x,lo≤x→x≤hi→Ab x (2^β):=fun x h1 h2=>dE alo ahi h1 h2
  by_cases hd0:bS f=0
  ·-- a constant
   have hN1:N f=1:=by
    have h0:=ZX.aE.1 hf
    rcases Nat.lt_or_ge (N f) 2 with h1 | h1
    ·omega
    ·exact absurd hd0 (CL h1)
   obtain⟨c,xA,rfl⟩:=k8 hN1
   have hcv:∀x,bT (e x (K c))=bT (c:Rat):=fun x=>by rw [z9]
   have h1:=G.const hlh (σ:=bT (c:Rat)) (.inr (hcv lo)) (fun x _ _=>hcv x)
   have h2:ind (K c) lo hi=0:=if_neg fun h=>h.2 (by rw [hcv,hcv])
   have asO:(c:Rat)≠0:=fun h=>xA (by exact_mod_cast h)
   have hz:∀x,e x (K c)≠0:=fun x=>by rw [z9];exact asO
   exact⟨by rw [h1,h2];omega,fun h=>by rw [z9]at h;exact absurd h asO,by rw [h2,if_pos rfl,Int.one_mul,C7,C7,if_neg (hz _),if_neg (hz _),hcv,hcv]⟩
  have hb:=sep hf hd0 hA' hD (show N f+N (bS f)≤n+n by omega) (show n+n≤2^(l+1)by rw [Nat.pow_succ];omega) hc alo (ε:=ε) (by rw [hKe,hε];exact Rat.le_refl)
  have dsz:∀x y,lo≤x→x≤hi→lo≤y→y≤hi→Ab (dd x y f.l) Q∧Ab (cc x y f.l) Q∧Ab (dd x y (bS f).l) Q:=fun x y h1 h2 h3 h4=>by
   have g1:=acY hA' hn (hin x h1 h2) (hin y h3 h4)
   have g2:=acY hD (show N (bS f)≤n by omega) (hin x h1 h2) (hin y h3 h4)
   rw [hQe]at g1 g2
   exact⟨g1.1,g1.2,g2.1⟩
  have aAK:0≤δ*Q:=Rat.mul_nonneg (Rat.le_of_lt hδ0) (Rat.le_of_lt hQ)
  have small:∀h x,0≤h→h≤δ→Ab x Q→Ab (h*x) (δ*Q):=fun h x h1 h2 h3=>Ab.mul ⟨by grind,h2⟩ h3
  rcases hb with hb | hb
  ·-- one sign
   have wS:∀x,lo≤x→x≤hi→bT (e x f)=bT (e lo f)∧bT (e lo f)≠0:=fun x h1 h2=>by
    refine fT hb hε0 fun h=>?_
    have h3:=mI lo x f.l
    have h4:=small (x-lo) _ (by grind) (by grind) (dsz lo x Rat.le_refl (by grind) h1 h2).1
    rw [←h3]at h4
    obtain⟨p1,p2⟩:=h4
    have h5:e x f-e lo f=qv x f.l-qv lo f.l:=rfl
    rw [h5]at h
    rcases h with h | h<;>grind
   have h1:=G.const hlh (σ:=bT (e lo f)) (.inr rfl) (fun x h1 h2=>(wS x (by grind) h2).1)
   have h2:ind f lo hi=0:=if_neg fun h=>h.2 (wS hi (by grind) Rat.le_refl).1
   have hz:∀x,lo≤x→x≤hi→e x f≠0:=fun x h1 h2 h=>by
    obtain⟨g1,g2⟩:=wS x h1 h2
    rw [h,fS]at g1
    exact g2 g1.symm
   exact⟨by rw [h1,h2];omega,fun h=>absurd h (hz lo Rat.le_refl (by grind)),by rw [h2,if_pos rfl,Int.one_mul,C7,C7,if_neg (hz _ (by grind) Rat.le_refl),if_neg (hz _ Rat.le_refl (by grind)),(wS hi (by grind) Rat.le_refl).1]⟩
  ·-- rising or auE
   have mono:∀x y,lo≤x→x<y→y≤hi→bT (e y f-e x f)=bT (e lo (bS f))∧bT (e lo (bS f))≠0:=fun x y h1 h2 h3=>by
    have g1:=mI x y f.l
    have g2:=H8 x y f.l
    have g3:dd x x f.l=e x (bS f):=(acF x f).symm
    have g4:=mI lo x (bS f).l
    have b1:=small (y-x) _ (by grind) (by grind) (dsz x y h1 (by grind) (by grind) h3).2.1
    have b2:=small (x-lo) _ (by grind) (by grind) (dsz lo x Rat.le_refl (by grind) h1 (by grind)).2.2
    rw [←g2]at b1
    rw [←g4]at b2
    have h5:e x (bS f)-e lo (bS f)=qv x (bS f).l-qv lo (bS f).l:=rfl
    have h6:=fT (y:=dd x y f.l) hb hε0 fun h=>by
     obtain⟨p1,p2⟩:=b1
     obtain⟨p3,p4⟩:=b2
     rcases h with h | h<;>grind
    have h7:e y f-e x f=qv y f.l-qv x f.l:=rfl
    rw [h7,g1,sL,eZ (show 0<y-x by grind),Int.one_mul]
    exact h6
   have UU:∀x y,lo≤x→x<y→y≤hi→(bT (e lo (bS f))=1∧e x f<e y f)∨(bT (e lo (bS f)) = -1∧e y f<e x f):=fun x y h1 h2 h3=>by
    obtain⟨g1,g2⟩:=mono x y h1 h2 h3
    rcases bZ (e y f-e x f)with ⟨g3,g4⟩ | ⟨g3,g4⟩ | ⟨g3,g4⟩
    ·exact .inr ⟨by omega,by grind⟩
    ·omega
    ·exact .inl ⟨by omega,by grind⟩
   have dsg:∀x,lo≤x→x≤hi→bT (e x (bS f))=bT (e lo (bS f)):=fun x h1 h2=>by
    have g4:=mI lo x (bS f).l
    have b2:=small (x-lo) _ (by grind) (by grind) (dsz lo x Rat.le_refl (by grind) h1 h2).2.2
    rw [←g4]at b2
    have h5:e x (bS f)-e lo (bS f)=qv x (bS f).l-qv lo (bS f).l:=rfl
    exact(fT hb hε0 fun h=>by
     obtain⟨p3,p4⟩:=b2
     rcases h with h | h<;>grind).1
   refine⟨?_,fun h=>?_,?_⟩
   ·refine G.agv (P:=fun x y=>lo≤x→y≤hi→vt L x=vt L y+ind f x y) (fun x y z sO hyz p1 p2 hx hz=>?_) (fun B δ' hL x y hx hy sO hd h1 h2=>hL.turns x y hx hy sO hd) hlh Rat.le_refl Rat.le_refl
    rw [p1 hx (by grind),p2 (by grind) hz]
    have h1:=UU x y hx sO (by grind)
    have h2:=UU y z (by grind) hyz hz
    have h3:=agB (x:=e x f) (y:=e y f) (z:=e z f) (by
     rcases h1 with ⟨q1,q2⟩ | ⟨q1,q2⟩<;>rcases h2 with ⟨q3,q4⟩ | ⟨q3,q4⟩
     ·exact .inl ⟨q2,q4⟩
     ·omega
     ·omega
     ·exact .inr ⟨q2,q4⟩)
    have h4:ind f x z=ind f x y+ind f y z:=h3
    omega
   ·rcases UU lo hi Rat.le_refl hlh Rat.le_refl with ⟨q1,q2⟩ | ⟨q1,q2⟩<;>grind
   ·have h1:=ac0 (UU lo hi Rat.le_refl hlh Rat.le_refl)
    unfold C7 ind
    rw [dsg hi (by grind) Rat.le_refl]
    exact h1
 exact⟨⟨fun x y hx hy sO hd=>(main x y hx hy sO hd).1,fun x y hx hy sO hd=>(main x y hx hy sO hd).2.1⟩,⟨fun x y hx hy sO hd=>(main x y hx hy sO hd).2.2⟩⟩
end ZX
end Pm
namespace Pm
namespace ZX
theorem C8:∀l:List Int,∃s:Nat,∀c∈l,c.natAbs≤2^s
 | []=>⟨0,fun c hc=>by cases hc⟩
 | a::l=>by
  obtain⟨s,h⟩:=C8 l
  refine⟨s+a.natAbs,fun c hc=>?_⟩
  rcases List.mem_cons.1 hc with rfl | hc
  ·have h1:c.natAbs<2^c.natAbs:=Nat.lt_two_pow_self
   exact Nat.le_trans (Nat.le_of_lt h1) (Nat.pow_le_pow_right (by decide) (by omega))
  ·exact Nat.le_trans (h c hc) (Nat.pow_le_pow_right (by decide) (by omega))
theorem MS(B:Rat):∃β:Nat,B≤2^β:=by
 have h1:=Rat.lt_floor_add_one B
 refine⟨(B.floor+1).toNat,Rat.le_trans (Rat.le_of_lt h1) ?_⟩
 have h2:((2^(B.floor+1).toNat:Int):Rat)=2^(B.floor+1).toNat:=by rw [Rat.intCast_pow];rfl
 rw [←h2]
 refine Rat.intCast_le_intCast.2 ?_
 have h3:(B.floor+1).toNat<2^(B.floor+1).toNat:=Nat.lt_two_pow_self
 have h4:((2^(B.floor+1).toNat:Nat):Int)=2^(B.floor+1).toNat:=by rw [Int.natCast_pow];rfl
 omega
theorem C9(k:Nat):∃δ:Rat,0<δ∧δ*2^k=1:=by
 have h:=gZ k
 have h1:(1/2^k)*(2:Rat)^k=1:=Rat.div_mul_cancel (Rat.ne_of_gt h)
 exact⟨1/2^k,(Rat.lt_div_iff h).2 (by grind),h1⟩
theorem min2{a b:Rat}(ha:0<a)(hb:0<b):∃c:Rat,0<c∧c≤a∧c≤b:=by
 by_cases h:a≤b
 ·exact⟨a,ha,Rat.le_refl,h⟩
 ·exact⟨b,hb,by grind,Rat.le_refl⟩
theorem ac1{P:Rat→Rat→Prop}(ht:∀a b c,a<b→b<c→P a b→P b c→P a c)(hs:∀B:Rat,1≤B → ∃δ:Rat,0<δ ∧ ∀a b,Ab a B→Ab b B→a<b→b-a≤δ→P a b){a b:Rat}(iJ:a<b):P a b:=by
 obtain⟨B,hB,ha,hb⟩:=mJ a b
 obtain⟨δ,hδ,h⟩:=hs B hB
 exact asB hδ ht h ha hb iJ
theorem lip(p:ZX)(B:Rat)(hB:1≤B):∃Q:Rat,0<Q ∧ ∀a b,Ab a B→Ab b B→a≤b→Ab (e b p-e a p) ((b-a)*Q):=by
 obtain⟨S,hS,hc⟩:=UH p.l
 obtain⟨h3,_⟩:=pP hS hB p.l.length
 refine⟨xP S B p.l.length+1,by grind,fun a b ha hb iJ=>?_⟩
 have h1:=(MG hS hB ha hb p.l hc).mono (show xP S B p.l.length≤xP S B p.l.length+1 by grind)
 have h2:=mI a b p.l
 have h4:e b p-e a p=qv b p.l-qv a p.l:=rfl
 rw [h4,h2]
 exact Ab.mul ⟨by grind,Rat.le_refl⟩ h1
def uL(a b:ZX):Prop:=∀d,dv d a→dv d b→N d≤1
theorem uL.mono{a b c d:ZX}(h:uL a b)(h1:dv c a)(h2:dv d b):uL c d:=fun x h3 h4=>h x (h3.trans h1) (h4.trans h2)
theorem asP{a b:ZX}(ha:a≠0)(hb:b≠0)(hc:uL a b)(B:Rat):∃ε:Rat,0<ε ∧ ∀t,Ab t B→kD ε (e t a)∨kD ε (e t b):=by
 obtain⟨s1,h1⟩:=C8 a.l
 obtain⟨s2,h2⟩:=C8 b.l
 obtain⟨β,hβ⟩:=MS B
 obtain⟨ε,h3,h4⟩:=C9 (sk (s1+s2) (N a+N b) (N a+N b) β)
 exact⟨ε,h3,fun t ht=>sep (s:=s1+s2) (l:=N a+N b) (β:=β) ha hb (fun c hc=>Nat.le_trans (h1 c hc) (Nat.pow_le_pow_right (by decide) (by omega))) (fun c hc=>Nat.le_trans (h2 c hc) (Nat.pow_le_pow_right (by decide) (by omega))) (Nat.le_refl _) (Nat.le_of_lt Nat.lt_two_pow_self) hc (ht.mono hβ) (by rw [h4];exact Rat.le_refl)⟩
structure uF(f:ZX)(v:Rat→Nat):Prop where
 ne:f≠0
 Y9:uL f (bS f)
 g:∃L,QO L f∧v=vt L
structure axQ(f:ZX)(v:Rat→Nat)(B δ:Rat):Prop where
 turns:∀s t,Ab s B→Ab t B→s<t→t-s≤δ→v s=v t+ind f s t
 simple:∀s t,Ab s B→Ab t B→s<t→t-s≤δ→e s f=0→e t f≠0
 par:∀s t,Ab s B→Ab t B→s<t→t-s≤δ→C7 f t=(if ind f s t=0 then 1 else -1)*C7 f s
def sg1(n:Nat):Int:=if n%2=0 then 1 else -1
theorem agC(a b:Nat):sg1 (a+b)=sg1 a*sg1 b:=by
 unfold sg1
 split<;>split<;>split<;>omega
theorem ac2(f:ZX)(s t:Rat):ind f s t=0∨ind f s t=1:=by unfold ind;split<;>simp
namespace uF
variable {f:ZX} {v:Rat→Nat} (S:uF f v)
include S
theorem zL(B:Rat):∃δ:Rat,0<δ∧axQ f v B δ:=by
 obtain⟨L,G,rfl⟩:=S.g
 obtain⟨s,h1⟩:=C8 f.l
 obtain⟨β,hβ⟩:=MS B
 obtain⟨δ,h3,h4⟩:=C9 (lk s (N f) (N f) β)
 obtain⟨h5,h6⟩:=FT G S.ne h1 (Nat.le_refl _) (Nat.le_of_lt Nat.lt_two_pow_self) S.Y9 (δ:=δ) (by rw [h4];exact Rat.le_refl)
 exact⟨δ,h3,fun s t hs ht=>h5.turns s t (hs.mono hβ) (ht.mono hβ),fun s t hs ht=>h5.simple s t (hs.mono hβ) (ht.mono hβ),fun s t hs ht=>h6.par s t (hs.mono hβ) (ht.mono hβ)⟩
theorem dK{a b:Rat}(iJ:a≤b):v b≤v a:=by
 obtain⟨L,G,rfl⟩:=S.g
 exact G.dK iJ
theorem const{a b:Rat}(iJ:a<b){σ:Int}(h0:e a f=0∨bT (e a f)=σ)(h1:∀x,a<x→x≤b→bT (e x f)=σ):v a=v b:=by
 obtain⟨L,G,rfl⟩:=S.g
 exact G.const iJ h0 h1
theorem flat{a b:Rat}(iJ:a<b)(he:v a=v b):e b f≠0∧(e a f≠0→bT (e b f)=bT (e a f)):=by
 obtain⟨L,G,rfl⟩:=S.g
 exact G.flat iJ he
theorem root{s t:Rat}(j3:s<t)(h0:e t f=0):v t<v s:=by
 obtain⟨L,G,rfl⟩:=S.g
 exact G.root j3 h0
theorem par{s t:Rat}(h:s≤t):C7 f t=sg1 (v s-v t)*C7 f s:=by
 rcases Rat.le_iff_lt_or_eq.1 h with h1 | rfl
 ·refine ac1 (P:=fun a b=>C7 f b=sg1 (v a-v b)*C7 f a) (fun a b c h1 h2 p1 p2=>?_) (fun B hB=>?_) h1
  ·have:=S.dK (Rat.le_of_lt h1)
   have:=S.dK (Rat.le_of_lt h2)
   rw [p2,p1,show v a-v c=(v a-v b)+(v b-v c)by omega,agC];grind
  ·obtain⟨δ,hδ,hN⟩:=S.zL B
   refine⟨δ,hδ,fun a b ha hb iJ hd=>?_⟩
   have h1:=hN.turns a b ha hb iJ hd
   have h2:=hN.par a b ha hb iJ hd
   rw [h2,show v a-v b=ind f a b by omega]
   rcases ac2 f a b with h3 | h3<;>rw [h3]<;>rfl
 ·rw [Nat.sub_self];show _=1*_;omega
end uF
theorem agD{f:ZX}{t:Rat}(h:e t f≠0):∃r:Rat,0<r ∧ ∀x,t-r≤x→x≤t+r→bT (e x f)=bT (e t f):=by
 obtain⟨B,hB,ha,hb⟩:=mJ (t-1) (t+1)
 obtain⟨Q,hQ,hl⟩:=lip f B hB
 have hε:∃ε:Rat,0<ε∧kD ε (e t f):=by
  by_cases h0:0≤e t f
  ·exact⟨e t f,by grind, .inr Rat.le_refl⟩
  ·exact⟨-e t f,by grind, .inl (by grind)⟩
 obtain⟨ε,hε,JH⟩:=hε
 have h1:ε/(2*Q)*(2*Q)=ε:=Rat.div_mul_cancel (by grind)
 have h2:0<ε/(2*Q):=(Rat.lt_div_iff (by grind)).2 (by grind)
 generalize ε/(2*Q)=η at *
 obtain⟨r,hr,yN,cR⟩:=min2 (show (0:Rat)<1 by decide) h2
 refine⟨r,hr,fun x hx hy=>?_⟩
 have VJ:Ab x B:=dE ha hb (by grind) (by grind)
 have ht':Ab t B:=dE ha hb (by grind) (by grind)
 have hrQ:r*Q≤η*Q:=Rat.mul_le_mul_of_nonneg_right cR (Rat.le_of_lt hQ)
 refine(fT JH hε fun hn=>?_).1
 by_cases hxt:t≤x
 ·have h3:=hl t x ht' VJ hxt
  have h4:(x-t)*Q≤r*Q:=Rat.mul_le_mul_of_nonneg_right (by grind) (Rat.le_of_lt hQ)
  obtain⟨p1,p2⟩:=h3
  rcases hn with hn | hn<;>grind
 ·have h3:=hl x t VJ ht' (by grind)
  have h4:(t-x)*Q≤r*Q:=Rat.mul_le_mul_of_nonneg_right (by grind) (Rat.le_of_lt hQ)
  obtain⟨p1,p2⟩:=h3
  rcases hn with hn | hn<;>grind
namespace uF
variable {f:ZX} {v:Rat→Nat} (S:uF f v)
include S
theorem small{s t Q:Rat}(j3:s<t)(hv:v s≠v t)(hQ:0<Q)(hl:∀a b,s≤a→a≤b→b≤t→Ab (e b f-e a f) ((b-a)*Q)){x:Rat}(hx:s≤x)(hy:x≤t):Ab (e x f) ((t-s)*Q):=by
 refine Classical.byContradiction fun hn=>hv ?_
 have key:∀y,s≤y→y≤t→bT (e y f)=bT (e x f):=fun y h1 h2=>by
  have h3:Ab (e y f-e x f) ((t-s)*Q):=by
   by_cases sO:x≤y
   ·exact(hl x y hx sO h2).mono (Rat.mul_le_mul_of_nonneg_right (by grind) (Rat.le_of_lt hQ))
   ·have h4:=(hl y x h1 (by grind) hy).mono (Rat.mul_le_mul_of_nonneg_right (show x-y≤t-s by grind) (Rat.le_of_lt hQ))
    obtain⟨p1,p2⟩:=h4
    exact⟨by grind,by grind⟩
  obtain⟨p1,p2⟩:=h3
  have h0:0≤(t-s)*Q:=Rat.mul_nonneg (by grind) (Rat.le_of_lt hQ)
  generalize (t-s)*Q=M at *
  rcases bZ (e x f)with ⟨h5,h6⟩ | ⟨h5,h6⟩ | ⟨h5,h6⟩
  ·rw [h6]
   refine gS ?_
   have:e x f < -M:=Rat.not_le.1 fun h=>hn ⟨h,by grind⟩
   grind
  ·exact absurd ⟨by grind,by grind⟩ hn
  ·rw [h6]
   refine eZ ?_
   have:M<e x f:=Rat.not_le.1 fun h=>hn ⟨by grind,h⟩
   grind
 exact S.const j3 (σ:=bT (e x f)) (.inr (key s Rat.le_refl (Rat.le_of_lt j3))) fun y h1 h2=>key y (Rat.le_of_lt h1) h2
end uF
theorem FU{p q:Prop}[Decidable p][Decidable q](h:p↔q):(if p then 1 else 0:Nat)=if q then 1 else 0:=by
 by_cases hp:p
 ·rw [if_pos hp,if_pos (h.1 hp)]
 ·rw [if_neg hp,if_neg (fun hq=>hp (h.2 hq))]
theorem xT{c x y z:Rat}(hc:c≠0)(h:c*x=y*z):bT x=bT c*(bT y*bT z):=by
 have h1:bT c*bT x=bT y*bT z:=by rw [←sL,←sL,h]
 rw [←h1]
 rcases bZ c with ⟨h2,h3⟩ | ⟨h2,h3⟩ | ⟨h2,h3⟩
 ·rw [h3];omega
 ·exact absurd h2 hc
 ·rw [h3];omega
theorem uF.mul{f g h:ZX}{v w u:Rat→Nat}(Sf:uF f v)(Sg:uF g w)(Sh:uF h u){c:Int}(hc:c≠0)(he:K c*f=g*h)(axR:uL g h){s t:Rat}(j3:s≤t):v s+w t+u t=v t+w s+u s:=by
 rcases Rat.le_iff_lt_or_eq.1 j3 with h1 | rfl
 ·refine ac1 (P:=fun s t=>v s+w t+u t=v t+w s+u s) (fun a b c h1 h2 p1 p2=>by omega) (fun B hB=>?_) h1
  obtain⟨δ1,hδ1,N1⟩:=Sf.zL B
  obtain⟨δ2,hδ2,N2⟩:=Sg.zL B
  obtain⟨δ3,hδ3,N3⟩:=Sh.zL B
  obtain⟨ε,hε,axV⟩:=asP Sg.ne Sh.ne axR B
  obtain⟨Q1,hQ1,l1⟩:=lip g B hB
  obtain⟨Q2,hQ2,l2⟩:=lip h B hB
  have hQ:0<Q1+Q2:=by grind
  have e1:ε/(2*(Q1+Q2))*(2*(Q1+Q2))=ε:=Rat.div_mul_cancel (by grind)
  have e2:0<ε/(2*(Q1+Q2)):=(Rat.lt_div_iff (by grind)).2 (by grind)
  generalize ε/(2*(Q1+Q2))=δ4 at *
  obtain⟨m1,E4,a1,a2⟩:=min2 hδ1 hδ2
  obtain⟨m2,hm2,a3,a4⟩:=min2 hδ3 e2
  obtain⟨δ,hδ,a5,a6⟩:=min2 E4 hm2
  refine⟨δ,hδ,fun s t hs ht dM hd=>?_⟩
  have t1:=N1.turns s t hs ht dM (by grind)
  have t2:=N2.turns s t hs ht dM (by grind)
  have t3:=N3.turns s t hs ht dM (by grind)
  have hcq:(c:Rat)≠0:=fun h0=>hc (Rat.intCast_eq_zero_iff.1 h0)
  have sgm:∀x,bT (e x f)=bT (c:Rat)*(bT (e x g)*bT (e x h)):=fun x=>by
   refine xT hcq ?_
   rw [←lI,←he,lI,z9]
  have dl:∀Q,0<Q→Q≤Q1+Q2→(t-s)*Q<ε:=fun Q h0 h1=>by
   have h2:(t-s)*Q≤δ4*(Q1+Q2):=by
    have h3:=Rat.mul_le_mul_of_nonneg_right (show t-s≤δ4 by grind) (Rat.le_of_lt h0)
    have h4:=Rat.mul_le_mul_of_nonneg_left h1 (Rat.le_of_lt e2)
    grind
   have h5:δ4*(Q1+Q2)*2=ε:=by rw [←e1];grind
   grind
  have sc:=bZ (c:Rat)
  have I0:bT (c:Rat)=1∨bT (c:Rat) = -1:=by
   rcases sc with ⟨_,h⟩ | ⟨h,_⟩ | ⟨_,h⟩
   ·exact .inr h
   ·exact absurd h hcq
   ·exact .inl h
  have ez:∀(p:ZX) x,(e x p≠0)=(bT (e x p)≠0):=fun p x=>propext ⟨fun h h0=>h (eU.1 h0),fun h h0=>h (by rw [h0];exact fS)⟩
  rcases axV s hs with hb | hb
  ·have hs2:=fT (y:=e t g) hb hε fun hn=>by
    obtain⟨p1,p2⟩:=l1 s t hs ht (Rat.le_of_lt dM)
    have:=dl Q1 hQ1 (by grind)
    rcases hn with hn | hn<;>grind
   have i1:ind g s t=0:=if_neg fun hh=>hh.2 hs2.1
   have i2:ind f s t=ind h s t:=by
    refine FU ?_
    rw [ez f s,ez h s,sgm s,sgm t,hs2.1]
    have:=lS (e s g)
    have h7:bT (c:Rat)*bT (e s g)=1∨bT (c:Rat)*bT (e s g) = -1:=by
     rcases I0 with h | h<;>rw [h]<;>omega
    rw [←Int.mul_assoc,←Int.mul_assoc]
    rcases h7 with h | h<;>rw [h]
    ·simp only [Int.one_mul]
    ·simp only [Int.neg_mul,Int.one_mul,ne_eq,Int.neg_eq_zero,Int.neg_inj]
   omega
  ·have hs2:=fT (y:=e t h) hb hε fun hn=>by
    obtain⟨p1,p2⟩:=l2 s t hs ht (Rat.le_of_lt dM)
    have:=dl Q2 hQ2 (by grind)
    rcases hn with hn | hn<;>grind
   have i1:ind h s t=0:=if_neg fun hh=>hh.2 hs2.1
   have i2:ind f s t=ind g s t:=by
    refine FU ?_
    rw [ez f s,ez g s,sgm s,sgm t,hs2.1]
    have:=lS (e s h)
    have h7:bT (c:Rat)*bT (e s h)=1∨bT (c:Rat)*bT (e s h) = -1:=by
     rcases I0 with h | h<;>rw [h]<;>omega
    have cm:∀y:Int,bT (c:Rat)*(y*bT (e s h))=bT (c:Rat)*bT (e s h)*y:=fun y=>by grind
    rw [cm,cm]
    rcases h7 with h | h<;>rw [h]
    ·simp only [Int.one_mul]
    ·simp only [Int.neg_mul,Int.one_mul,ne_eq,Int.neg_eq_zero,Int.neg_inj]
   omega
 ·omega
structure zS(f:ZX)(v:Rat→Nat)(lo hi:Rat):Prop where
 S:uF f v
 k:(lo=hi∧e lo f=0)∨(lo<hi∧v lo=v hi+1)
def qB(v:Rat→Nat)(lo hi t:Rat):Prop:=hi≤t∨(lo<t∧v t<v lo)
theorem wI{v:Rat→Nat}{lo hi:Rat}:qB v lo hi hi:=.inl Rat.le_refl
namespace zS
variable {f:ZX} {v:Rat→Nat} {lo hi:Rat} (A:zS f v lo hi)
include A
theorem le:lo≤hi:=by
 rcases A.k with ⟨h,_⟩ | ⟨h,_⟩
 ·rw [h];exact Rat.le_refl
 ·exact Rat.le_of_lt h
theorem up{s t:Rat}(h:qB v lo hi s)(j3:s≤t):qB v lo hi t:=by
 rcases h with h | ⟨h1,h2⟩
 ·exact .inl (by grind)
 ·have:=A.S.dK j3
  exact .inr ⟨by grind,by omega⟩
theorem DA{t:Rat}(h:t<lo∨(t=lo∧lo<hi)):¬qB v lo hi t:=by
 have:=A.le
 rintro(h1 | ⟨h1,_⟩)<;>grind
theorem half{m:Rat}(h1:lo<m)(h2:m<hi):(v m<v lo→zS f v lo m ∧ ∀t,qB v lo m t↔qB v lo hi t)∧(¬v m<v lo→zS f v m hi ∧ ∀t,qB v m hi t↔qB v lo hi t):=by
 have hk:v lo=v hi+1:=by
  rcases A.k with ⟨h,_⟩ | ⟨_,h⟩
  ·grind
  ·exact h
 have b1:=A.S.dK (Rat.le_of_lt h1)
 have b2:=A.S.dK (Rat.le_of_lt h2)
 refine⟨fun h=>⟨⟨A.S, .inr ⟨h1,by omega⟩⟩,fun t=>⟨?_,?_⟩⟩,fun h=>⟨⟨A.S, .inr ⟨h2,by omega⟩⟩,fun t=>⟨?_,?_⟩⟩⟩
 ·rintro(h3 | h3)
  ·have:=A.S.dK h3
   exact .inr ⟨by grind,by omega⟩
  ·exact .inr h3
 ·rintro(h3 | h3)
  ·exact .inl (by grind)
  ·exact .inr h3
 ·rintro(h3 | ⟨h3,h4⟩)
  ·exact .inl h3
  ·exact .inr ⟨by grind,by omega⟩
 ·rintro(h3 | ⟨h3,h4⟩)
  ·exact .inl h3
  ·refine .inr ⟨?_,by omega⟩
   refine Rat.not_le.1 fun h5=>?_
   have:=A.S.dK h5
   omega
theorem exact(h:e hi f=0):zS f v hi hi ∧ ∀t,qB v hi hi t↔qB v lo hi t:=by
 refine⟨⟨A.S, .inl ⟨rfl,h⟩⟩,fun t=>⟨?_,?_⟩⟩
 ·rintro(h3 | ⟨h3,_⟩)
  ·exact .inl h3
  ·exact .inl (by grind)
 ·rintro(h3 | ⟨h3,h4⟩)
  ·exact .inl h3
  ·refine .inl (Rat.not_lt.1 fun h5=>?_)
   have h6:=A.S.root h5 h
   rcases A.k with ⟨h7,_⟩ | ⟨_,h7⟩
   ·grind
   ·omega
end zS
end ZX
end Pm
namespace Pm
open Go Go.RowKit
section
variable {E:Env} {m:Nat} {G:Gs} {w0:World} {S0:dV}
def mx3(p q r:PV)(K:PV→Prop):Prop:=∃k a b c,p = .int k a∧q = .int k b∧r = .int k c∧K (.int k (max (max a b) c))
@[simp] theorem auG{k:IntKind}{a b c:Int}{K:PV→Prop}:mx3 (.int k a) (.int k b) (.int k c) K=K (.int k (max (max a b) c)):=by
 apply propext
 constructor
 ·rintro⟨k',a',b',c',h1,h2,h3,h⟩
  cases h1;cases h2;cases h3;exact h
 ·exact fun h=>⟨k,a,b,c,rfl,rfl,rfl,h⟩
def asQ(o:Oper)(K:PS→Prop)(σ:PS):Prop:=
 match o.op with
 | .call { callee:=.builtin .max,args:=⟨[x,y,z]⟩,argTypes:=_ }=>mx3 (aS σ.f x) (aS σ.f y) (aS σ.f z) fun v=>K (σ.put o.dst v)
 | _=>False
end
@[simp] theorem asR{K:PS→Prop}{f:Nat→PV}{rows:Rows}{clk:Nat}{d:Option Tmp}{ty:TypeId}{pos:String}{af:Array Edge}{ts:Array TypeId}{x y z:Operand} :
  asQ ⟨d, .call { callee:=.builtin .max,args:=⟨[x,y,z]⟩,argTypes:=ts },ty,pos,af,none⟩ K ⟨f,rows,clk⟩=mx3 (aS f x) (aS f y) (aS f z) fun v=>K ⟨put f d v,rows,clk⟩:=rfl
end Pm
namespace Go.Proofs.YtiobceocpabjdaaGreat
open Go Pm
open ZX hiding N W
theorem UW{α β:Type}{c:Prop}[Decidable c](f g:α→β)(x:α):(if c then f else g) x=if c then f x else g x:=by split<;>rfl
def ZA(v:Rat→Nat):Nat→Rat→Rat→List (Rat × Rat)
 | 0,lo,hi=>if v lo=v hi then []else [(lo,hi)]
 | k+1,lo,hi=>if v lo=v hi then []else if v lo=v hi+1 then [(lo,hi)]else ZA v k lo ((lo+hi)/2)++ZA v k ((lo+hi)/2) hi
theorem xU{lo hi:Rat}(h:lo<hi):lo<(lo+hi)/2∧(lo+hi)/2<hi:=by
 have h1:(lo+hi)/2*2=lo+hi:=Rat.div_mul_cancel (by decide)
 exact⟨by grind,by grind⟩
theorem DB{lo hi δ:Rat}{k:Nat}(h:hi-lo≤δ*2^(k+1)):(lo+hi)/2-lo≤δ*2^k∧hi-(lo+hi)/2≤δ*2^k:=by
 have h1:(lo+hi)/2*2=lo+hi:=Rat.div_mul_cancel (by decide)
 rw [Rat.pow_succ]at h
 generalize (2:Rat)^k=p at *
 exact⟨by grind,by grind⟩
structure Gr(D:Nat)(B:Rat)(j:Nat)(q:Rat):Prop where
 z:∃z:Int,q*((D*2^j:Nat):Int)=(z:Rat)
 b:Ab q B
theorem Gr.mono{D:Nat}{B q:Rat}{i j:Nat}(h:Gr D B i q)(hij:i≤j):Gr D B j q:=by
 obtain⟨⟨z,hz⟩,hb⟩:=h
 obtain⟨k,rfl⟩:∃k,j=i+k:=⟨j-i,by omega⟩
 refine⟨⟨z*(2^k:Nat),?_⟩,hb⟩
 rw [Rat.intCast_mul,←hz,Nat.pow_add,←Nat.mul_assoc,Int.natCast_mul (D*2^i),Rat.intCast_mul]
 grind
theorem Gr.NJ{D:Nat}{B p q:Rat}{j:Nat}(hp:Gr D B j p)(hq:Gr D B j q):Gr D B (j+1) ((p+q)/2):=by
 obtain⟨⟨y,hy⟩,b1,b2⟩:=hp
 obtain⟨⟨z,hz⟩,b3,b4⟩:=hq
 have h1:(p+q)/2*2=p+q:=Rat.div_mul_cancel (by decide)
 refine⟨⟨y+z,?_⟩,by grind,by grind⟩
 rw [Rat.intCast_add,←hy,←hz,Nat.pow_succ,←Nat.mul_assoc,Int.natCast_mul (D*2^j),Rat.intCast_mul]
 have h2:(((2:Nat):Int):Rat)=2:=rfl
 rw [h2]
 generalize (((D*2^j:Nat):Int):Rat)=M at *
 grind
theorem Gr.sq{D d β j:Nat}{q:Rat}(h:Gr D (2^β) j q)(h0:1≤D)(hD:D≤2^d):SQ (β+d+j+1) q:=by
 obtain⟨⟨z,hz⟩,hb⟩:=h
 have hM:1≤D*2^j:=Nat.mul_pos h0 (Nat.two_pow_pos _)
 have hM2:D*2^j≤2^(d+j):=by rw [Nat.pow_add];exact Nat.mul_le_mul_right _ hD
 have hMq:(0:Rat)<(((D*2^j:Nat):Int):Rat):=Rat.intCast_pos.2 (by omega)
 have hzb:z.natAbs≤2^(β+d+j):=by
  have h1:Ab (z:Rat) (((2^β*(D*2^j):Nat):Int):Rat):=by
   rw [←hz,Int.natCast_mul (2^β),Rat.intCast_mul,IQ]
   exact hb.mul ⟨by grind,Rat.le_refl⟩
  obtain⟨h2,h3⟩:=h1
  rw [←Rat.intCast_neg]at h2
  have h4:=Rat.intCast_le_intCast.1 h2
  have h5:=Rat.intCast_le_intCast.1 h3
  have h6:2^β*(D*2^j)≤2^(β+d+j):=by
   rw [Nat.add_assoc,Nat.pow_add];exact Nat.mul_le_mul_left _ hM2
  omega
 have e:=QW (n:=z) (d:=((D*2^j:Nat):Int)) (by omega) hz.symm
 have pS:((D*2^j:Nat):Int)≠0:=by omega
 have S2:=pG z ((D*2^j:Nat):Int) pS
 have YX:=pH z ((D*2^j:Nat):Int) pS
 rw [if_neg (by omega)]at S2 YX
 rw [e]at S2 YX
 have b1:q.num.natAbs≤z.natAbs:=by rw [S2];exact Int.natAbs_ediv_le_natAbs _ _
 have b2:((q.den:Int)).natAbs≤D*2^j:=by rw [YX];exact Nat.le_trans (Int.natAbs_ediv_le_natAbs _ _) (by omega)
 have hp:∀i,2^i<2^(i+1):=fun i=>Nat.pow_lt_pow_right (by decide) (by omega)
 refine⟨cK (by decide) (Nat.lt_of_le_of_lt (Nat.le_trans b1 hzb) (hp _)),cK (by decide) (Nat.lt_of_le_of_lt (Nat.le_trans b2 hM2) ?_),by omega⟩
 exact Nat.pow_lt_pow_right (by decide) (by omega)
structure Cut(v:Rat→Nat)(B δ:Rat):Prop where
 dK:∀a b,a≤b→v b≤v a
 zL:∀a b,Ab a B→Ab b B→a<b→b-a≤δ→v a≤v b+1
theorem Cut.leaf{v:Rat→Nat}{B δ:Rat}(C:Cut v B δ){lo hi:Rat}(F5:Ab lo B)(VG:Ab hi B)(h:lo<hi)(hd:hi-lo≤δ)(pS:v lo≠v hi):v lo=v hi+1:=by
 have:=C.zL lo hi F5 VG h hd
 have:=C.dK lo hi (Rat.le_of_lt h)
 omega
theorem wJ{v:Rat→Nat}{D:Nat}{B δ:Rat}(C:Cut v B δ):∀(k j:Nat) (lo hi:Rat),Gr D B j lo→Gr D B j hi→lo<hi→hi-lo≤δ*2^k →
  (∀p∈ZA v k lo hi,Gr D B (j+k) p.1∧Gr D B (j+k) p.2∧lo≤p.1∧p.1<p.2∧p.2≤hi∧v p.1=v p.2+1)∧(ZA v k lo hi).length=v lo-v hi∧(ZA v k lo hi).Pairwise fun p q=>p.2≤q.1
 | 0,j,lo,hi,g1,g2,h,hd=>by
  rw [ZA]
  split
  ·rename_i he
   exact⟨fun p hp=>absurd hp List.not_mem_nil,by rw [he];simp,List.Pairwise.nil⟩
  ·rename_i he
   have:=C.leaf g1.b g2.b h (by rw [Rat.pow_zero,Rat.mul_one]at hd;exact hd) he
   refine⟨fun p hp=>?_,by simp;omega,List.pairwise_singleton _ _⟩
   rw [List.mem_singleton]at hp;subst hp
   exact⟨g1,g2,Rat.le_refl,h,Rat.le_refl,this⟩
 | k+1,j,lo,hi,g1,g2,h,hd=>by
  rw [ZA]
  split
  ·rename_i he
   exact⟨fun p hp=>absurd hp List.not_mem_nil,by rw [he];simp,List.Pairwise.nil⟩
  ·rename_i he
   split
   ·rename_i Y5
    refine⟨fun p hp=>?_,by simp;omega,List.pairwise_singleton _ _⟩
    rw [List.mem_singleton]at hp;subst hp
    exact⟨g1.mono (by omega),g2.mono (by omega),Rat.le_refl,h,Rat.le_refl,Y5⟩
   ·obtain⟨m1,m2⟩:=xU h
    obtain⟨d1,d2⟩:=DB hd
    have gm:=g1.NJ g2
    obtain⟨a1,a2,a3⟩:=wJ C k (j+1) lo ((lo+hi)/2) (g1.mono (by omega)) gm m1 d1
    obtain⟨b1,b2,b3⟩:=wJ C k (j+1) ((lo+hi)/2) hi gm (g2.mono (by omega)) m2 d2
    have n1:=C.dK lo ((lo+hi)/2) (Rat.le_of_lt m1)
    have n2:=C.dK ((lo+hi)/2) hi (Rat.le_of_lt m2)
    rw [show j+1+k=j+(k+1)by omega]at a1 b1
    generalize (lo+hi)/2=m at *
    refine⟨fun p hp=>?_,by rw [List.length_append,a2,b2];omega,List.pairwise_append.2 ⟨a3,b3,fun p hp q hq=>?_⟩⟩
    ·rcases List.mem_append.1 hp with hp | hp
     ·obtain⟨c1,c2,c3,c4,c5,c6⟩:=a1 p hp
      exact⟨c1,c2,c3,c4,by grind,c6⟩
     ·obtain⟨c1,c2,c3,c4,c5,c6⟩:=b1 p hp
      exact⟨c1,c2,by grind,c4,c5,c6⟩
    ·obtain⟨c1,c2,c3,c4,c5,c6⟩:=a1 p hp
     obtain⟨d1,d2,d3,d4,d5,d6⟩:=b1 q hq
     grind
theorem SQ.mono{u w:Nat}{q:Rat}(h:SQ u q)(hu:u≤w):SQ w q:=⟨Nat.le_trans h.n2 hu,Nat.le_trans h.d2 hu,Nat.le_trans h.hu hu⟩
theorem SQ.LLs{u:Nat}{q:Rat}(h:SQ u q){k:Nat}(hu:u≤k):sz LL q.num≤k∧sz LL (q.den:Int)≤k:=⟨Nat.le_trans h.nL hu,Nat.le_trans h.dL hu⟩
theorem SQ.LLt{u:Nat}{q:Rat}(h:SQ u q){k:Nat}(hu:u<k):sz LL q.num<k∧sz LL (q.den:Int)<k:=⟨Nat.lt_of_le_of_lt h.nL hu,Nat.lt_of_le_of_lt h.dL hu⟩
structure zA(s n:Nat)(f:ZX):Prop where
 lay:wR s n f
 n3:1≤n
 nf:Nf f
 sq:Go.Proofs.YtiobceocpabjdaaGreat.sq f=f
 hs:s≤5000000
namespace zA
variable {s n:Nat} {f:ZX} (I:zA s n f)
include I
theorem ch:Ch s n f:=⟨I.lay.bz,I.lay.hn,I.n3,Nat.le_trans (Nat.mul_le_mul_right _ (by unfold qb;omega)) I.lay.hC⟩
theorem s1:1≤s:=by
 have h1:=I.lay.hs
 have h2:=I.n3
 rcases Nat.eq_zero_or_pos s with h | h
 ·rw [h]at h1;simp at h1;omega
 ·exact h
theorem hb:∀p∈cH f,BZ 4500000000 n p:=I.ch.all.1
theorem hl:(cH f).length≤21:=I.ch.all.2
theorem gz1:gz f (bS f)=1:=by
 have:=UQ I.nf.ne
 rwa [I.sq]at this
theorem Y9:uL f (bS f):=fun d h1 h2=>by
 have h3:=(eS f (bS f)).least h1 h2
 rw [I.gz1]at h3
 have:=h3.nS ZX.tX
 rwa [ZX.CI]at this
theorem acR:QO (cH f) f:=I.ch.acR I.nf.ne I.gz1
theorem S:uF f (vt (cH f)):=⟨I.nf.ne,I.Y9,_,I.acR,rfl⟩
theorem szf:∀c∈f.l,c.natAbs≤2^s:=fun c hc=>by
 have h1:=kC (b:=2) (by decide) c
 have h2:=Nat.pow_le_pow_right (show 0<2 by decide) (I.ch.bz.sz c hc)
 omega
theorem cut(β:Nat):∃δ:Rat,0<δ∧δ*2^lk s n 5 β=1∧Cut (vt (cH f)) (2^β) δ:=by
 obtain⟨δ,h1,h2⟩:=C9 (lk s n 5 β)
 have hn:=I.ch.hn
 obtain⟨h3,_⟩:=FT I.acR (s:=s) (n:=n) (l:=5) (β:=β) I.nf.ne I.szf I.ch.bz.N (by omega) I.Y9 (by rw [h2];exact Rat.le_refl)
 refine⟨δ,h1,h2,fun a b iJ=>I.acR.dK iJ,fun a b ha hb iJ hd=>?_⟩
 have:=h3.turns a b ha hb iJ hd
 rcases ac2 f a b with h4 | h4<;>omega
end zA
section
variable {c:List ZX} {n u:Nat} {p q:Rat} (hb:∀p∈c,BZ 4500000000 n p) (hn:n≤20) (hl:c.length≤21) (hp:SQ u p) (hq:SQ u q) (hu:u≤1000000000)
include hb hn hl hp hq hu
theorem amE:aH env.P 88 [CH c,RT p,RT q] (.int .i64 (if q<p then 0 else(vt c p:Int)-vt c q)):=by
 have z1:=kM hq.nL hq.dL hp.nL hp.dL (by omega) (dQ q) (dQ p) ⟨hq.nL,hq.dL⟩ ⟨hp.nL,hp.dL⟩
 have b1:=ID (by omega) z1 (acQ hb hn hl hp hu) (acQ hb hn hl hq hu)
 rw [C3,C3]at b1
 simp only [jN]at b1
 exact b1
theorem amF:aH env.P 76 [aJ zq c,RR p,RR q] (.int .i64 (if q<p then 0 else(vt c p:Int)-vt c q)):=by
 have yy:∀ {v:Int},sz 2 v≤u→sz 2 v≤YY:=fun h=>by simp only [YY];omega
 have b1:=MM (yy hp.n2) (yy hp.d2) (yy hq.n2) (yy hq.d2) (by omega) (acP hb hn hl hp hu) (acP hb hn hl hq hu)
 have hcm:(q.num*(p.den:Int)<p.num*(q.den:Int))=(q<p):=propext (by rw [←jN];exact qT.symm)
 rw [C3,C3]at b1
 simp only [hcm]at b1
 rw [gR,gR]
 exact b1
end
abbrev tc(q:Rat):List PV:=[.bool (decide (q.num<0)),us (aU LL q.num.natAbs), .bool (decide ((q.den:Int)<0)),us (aU LL (q.den:Int).natAbs)]
def ga(f:ZX)(p:Rat × Rat):List PV:=Po f.l::(tc p.1++tc p.2)
@[simp] theorem axX{f:ZX}{p:Rat × Rat}:ga f p=Po f.l::(tc p.1++tc p.2):=rfl
@[simp] theorem aoQ{f:ZX}{l:List (Rat × Rat)}:bM 9 (emap (ga f) l)=True:=cN fun _=>rfl
@[simp] theorem amG{v e n:Nat}{f:ZX}{l:List (Rat × Rat)}:cX (some ⟨v,e,n,emap (ga f) l⟩)=True:=b7 fun _=>rfl
end Go.Proofs.YtiobceocpabjdaaGreat
namespace Go.Proofs.YtiobceocpabjdaaGreat
open Go Pm
open ZX hiding N W
theorem SQ.tor{u:Nat}{p:Rat}(hp:SQ u p)(hu:u≤YY):aH env.P 23 [RR p] (RT p):=by
 rw [gR]
 have h1:=hp.n2;have h2:=hp.d2
 exact agw (by simp only [Z,YY]at *;omega) (by simp only [Z,YY]at *;omega)
theorem DC{S τ t:Rat}(hS:0≤S)(hτ:0<τ)(ht:kD τ t):∀ {x:List Int},Cn x→0<x.length→(∀c∈x.dropLast,Ab (c:Rat) S)→S+(((lead x).natAbs:Int):Rat)≤(((lead x).natAbs:Int):Rat)*τ→kD (((lead x).natAbs:Int):Rat) (qv t x)
 | [a],hc,_,_,_=>by
  have e1:qv t [a]=(a:Rat):=by simp only [qv];grind
  have e2:lead [a]=a:=rfl
  rw [e1,e2]
  by_cases h:0≤a
  ·right
   exact Rat.intCast_le_intCast.2 (by omega)
  ·left
   rw [←Rat.intCast_neg]
   exact Rat.intCast_le_intCast.2 (by omega)
 | a::b::l,hc,_,hb,hL=>by
  have hl:=dB (UG hc) (by simp)
  rw [X3]at hL ⊢
  have ih:=DC hS hτ ht (UG hc) (by simp) (fun c hc=>hb c (by
   rw [List.dropLast_cons_of_ne_nil (by simp)];exact List.mem_cons_of_mem _ hc)) hL
  obtain⟨h4,h5⟩:=hb a (by rw [List.dropLast_cons_of_ne_nil (by simp)];simp)
  have e1:qv t (a::b::l)=a+t*qv t (b::l):=rfl
  have hp:(0:Rat)<(((lead (b::l)).natAbs:Int):Rat):=Rat.intCast_pos.2 (by omega)
  have hm:=kD.mul hτ hp ht ih
  rw [e1]
  generalize (((lead (b::l)).natAbs:Int):Rat)=L at *
  rcases hm with h | h
  ·left;grind
  ·right;grind
theorem UX{x:List Int}(cx:Cn x)(hx:x ≠ []){t:Rat}(ht:kD (tA x) t):kD 1 (qv t x)∧1≤tA x:=by
 have oF:=List.length_pos_iff.2 hx
 have hl:=dB cx oF
 have hL:(1:Rat)≤(((lead x).natAbs:Int):Rat):=fZ (by omega)
 have hm:(0:Rat)≤((n4 x (x.length-1):Int):Rat):=Rat.intCast_nonneg.2 (acU _ _)
 have e:=xS cx hx
 have h2:=Rat.div_mul_cancel (a:=((n4 x (x.length-1):Int):Rat)) (b:=(((lead x).natAbs:Int):Rat)) (by grind)
 have hw:(0:Rat)≤((n4 x (x.length-1):Int):Rat)/(((lead x).natAbs:Int):Rat):=by
  refine Rat.not_lt.1 fun h=>?_
  have:=Rat.mul_le_mul_of_nonneg_left hL (show 0 ≤ -(((n4 x (x.length-1):Int):Rat)/(((lead x).natAbs:Int):Rat))by grind)
  grind
 have h1:1≤tA x:=by rw [e];grind
 refine⟨(DC hm (show 0<tA x by grind) ht cx oF (fun c hc=>?_) ?_).mono hL,h1⟩
 ·obtain⟨k,hk,rfl⟩:=List.mem_iff_getElem.1 hc
  rw [List.length_dropLast]at hk
  have h3:=acV x (x.length-1) k hk
  rw [c9 (by omega)]at h3
  rw [List.getElem_dropLast]
  constructor
  ·rw [←Rat.intCast_neg]
   exact Rat.intCast_le_intCast.2 (by omega)
  ·exact Rat.intCast_le_intCast.2 (by omega)
 ·rw [e]
  generalize ((n4 x (x.length-1):Int):Rat)/(((lead x).natAbs:Int):Rat)=w at *
  grind
abbrev rc(q:Rat):List PV:=[aJ aF (aU DD q.num.natAbs), .bool (decide (q.num<0)),aJ aF (aU DD (q.den:Int).natAbs), .bool (decide ((q.den:Int)<0))]
def qa(f:ZX)(c:List ZX)(p:Rat × Rat):List PV:=PI f.l::aJ zq c::(rc p.1++rc p.2)
@[simp] theorem axY{f:ZX}{c:List ZX}{p:Rat × Rat}:qa f c p=PI f.l::aJ zq c::(rc p.1++rc p.2):=rfl
@[simp] theorem FV{f:ZX}{c:List ZX}{l:List (Rat × Rat)}:bM 10 (emap (qa f c) l)=True:=cN fun _=>rfl
@[simp] theorem amH{v e n:Nat}{f:ZX}{c:List ZX}{l:List (Rat × Rat)}:cX (some ⟨v,e,n,emap (qa f c) l⟩)=True:=b7 fun _=>rfl
theorem UY{f:ZX}{c:List ZX}{l:List (Rat × Rat)}:∀x∈emap (qa f c) l,∀p∈x,cW p=true:=fun x hx p hp=>by
 simp only [emap,List.mem_map]at hx
 obtain⟨r,_,rfl⟩:=hx
 simp at hp
 rcases hp with rfl | rfl | rfl | rfl | rfl | rfl | rfl | rfl | rfl | rfl<;>rfl
abbrev QA(f:ZX)(c:List ZX)(p:Rat × Rat):PV:=.ag (qa f c p)
def ex(f:ZX)(p:Rat × Rat):Rat × Rat:=if e p.2 f=0 then(p.2,p.2)else p
theorem SQ.yy{u:Nat}{q:Rat}(h:SQ u q)(hu:u≤1000000000):ZR YY q:=⟨by have:=h.n2;simp only [YY];omega,by have:=h.d2;simp only [YY];omega⟩
theorem DE{p q:Rat}:eD (p.num*q.den) (q.num*p.den)=0↔p=q:=by
 have h1:=jN p q
 have h2:=jN q p
 rw [qT]at h1 h2
 refine⟨fun h=>?_,fun h=>?_⟩
 ·have h:=Pm.w5.1 h
  by_cases h3:p<q
  ·have:=h1.2 h3;omega
  ·rcases Rat.le_iff_lt_or_eq.1 (Rat.not_lt.1 h3)with h4 | h4
   ·have:=h2.2 h4;omega
   ·exact h4.symm
 ·rw [h];exact u0 _
abbrev c4(n d:Int):List PV:=[aJ aF (aU DD n.natAbs), .bool (decide (n<0)),aJ aF (aU DD d.natAbs), .bool (decide (d<0))]
theorem Q4{x:List Int}{c:List ZX}{ln ld hn hd z σ:Int}(hz:(z != 0)=false)(c1:aH env.P 14 [R2 ln ld,R2 hn hd] (.int .i64 z))(s1:aH env.P 77 [PI x,R2 hn hd] (.int .i64 σ)) :
  aH env.P 80 [.ag (PI x::aJ zq c::(c4 ln ld++c4 hn hd))] (.ag (PI x::aJ zq c::(c4 ln ld++c4 hn hd))):=by
 simp only [c4]
 refine cA [(0, .ag (PI x::aJ zq c :: [aJ aF (aU DD ln.natAbs), .bool (decide (ln<0)),aJ aF (aU DD ld.natAbs), .bool (decide (ld<0)),aJ aF (aU DD hn.natAbs), .bool (decide (hn<0)),aJ aF (aU DD hd.natAbs), .bool (decide (hd<0))]))] Tryz.func80 ?_
 refine aA [1,2] ?_
 refine W.seq ?_
 refine j4 ?_
 refine aD c1 ?_
 simp (disch:=omega) [gw,hz]
 refine bO [1,2,16] ?_
 refine bP ?_ ?_<;>intro h
 ·simp at h
 ·refine W.skip ?_
  refine aA [2] ?_
  exact cP
theorem ac4{x:List Int}{c:List ZX}{ln ld hn hd z σ:Int}(hz:(z != 0)=true)(hs:(σ==0)=false)(c1:aH env.P 14 [R2 ln ld,R2 hn hd] (.int .i64 z))(s1:aH env.P 77 [PI x,R2 hn hd] (.int .i64 σ)) :
  aH env.P 80 [.ag (PI x::aJ zq c::(c4 ln ld++c4 hn hd))] (.ag (PI x::aJ zq c::(c4 ln ld++c4 hn hd))):=by
 simp only [c4]
 refine cA [(0, .ag (PI x::aJ zq c :: [aJ aF (aU DD ln.natAbs), .bool (decide (ln<0)),aJ aF (aU DD ld.natAbs), .bool (decide (ld<0)),aJ aF (aU DD hn.natAbs), .bool (decide (hn<0)),aJ aF (aU DD hd.natAbs), .bool (decide (hd<0))]))] Tryz.func80 ?_
 refine aA [1,2] ?_
 refine W.seq ?_
 refine j4 ?_
 refine aD c1 ?_
 simp (disch:=omega) [gw,hz]
 refine aD s1 ?_
 simp (disch:=omega) [gw,hs]
 refine bO [1,2,16] ?_
 refine bP ?_ ?_<;>intro h
 ·simp at h
 ·refine W.skip ?_
  refine aA [2] ?_
  exact cP
theorem YC{x:List Int}{c:List ZX}{ln ld hn hd z σ:Int}(hz:(z != 0)=true)(hs:(σ==0)=true)(c1:aH env.P 14 [R2 ln ld,R2 hn hd] (.int .i64 z))(s1:aH env.P 77 [PI x,R2 hn hd] (.int .i64 σ)) :
  aH env.P 80 [.ag (PI x::aJ zq c::(c4 ln ld++c4 hn hd))] (.ag (PI x::aJ zq c::(c4 hn hd++c4 hn hd))):=by
 simp only [c4]
 refine cA [(0, .ag (PI x::aJ zq c :: [aJ aF (aU DD ln.natAbs), .bool (decide (ln<0)),aJ aF (aU DD ld.natAbs), .bool (decide (ld<0)),aJ aF (aU DD hn.natAbs), .bool (decide (hn<0)),aJ aF (aU DD hd.natAbs), .bool (decide (hd<0))]))] Tryz.func80 ?_
 refine aA [1,2] ?_
 refine W.seq ?_
 refine j4 ?_
 refine aD c1 ?_
 simp (disch:=omega) [gw,hz]
 refine aD s1 ?_
 simp (disch:=omega) [gw,hs]
 refine bO [1,2,16] ?_
 refine bP ?_ ?_<;>intro h
 ·refine W.b9 (fun K hK=>?_);simp (disch:=omega) [gw]
  refine W.lw [1,2] hK ?_;clear hK K;simp
  refine aA [2] ?_
  exact cP
 ·simp at h
theorem FW{f:ZX}{c:List ZX}{p:Rat × Rat}:QA f c p = .ag (PI f.l::aJ zq c::(c4 p.1.num p.1.den++c4 p.2.num p.2.den)):=rfl
theorem YD{f:ZX}{c:List ZX}{p:Rat × Rat}{n u:Nat}(hb:BZ 4500000000 n f)(hn:n≤20)(q1:SQ u p.1)(q2:SQ u p.2)(hu:u≤1000000000):aH env.P 80 [QA f c p] (QA f c (ex f p)):=by
 have c1:=acz p.1 p.2 (q1.yy hu) (q2.yy hu)
 have hmul:n*(u+1)≤20*(u+1):=Nat.mul_le_mul_right _ hn
 have s1:=FO hb q2.n2 q2.d2 q2.hu (by omega) (by show _<137438953472;omega)
 rw [IH]at s1
 rw [gR,gR]at c1
 by_cases h:p.1=p.2
 ·have he:ex f p=p:=by
   unfold ex;split
   ·exact Prod.ext h.symm rfl
   ·rfl
  rw [he,FW]
  exact Q4 (by rw [DE.2 h];rfl) c1 s1
 ·have hz:(eD (p.1.num*p.2.den) (p.2.num*p.1.den) != 0)=true:=bne_iff_ne.2 fun h0=>h (DE.1 h0)
  by_cases h2:e p.2 f=0
  ·rw [show ex f p=(p.2,p.2)from if_pos h2,FW,FW]
   exact YC hz (by rw [h2,fS];rfl) c1 s1
  ·rw [show ex f p=p from if_neg h2,FW]
   exact ac4 hz (by simp only [beq_eq_false_iff_ne];exact fun h0=>h2 (eU.1 h0)) c1 s1
theorem Q5{f:ZX}{c:List ZX}{lo hi:Rat}(B:aH env.P 76 [aJ zq c,RR lo,RR hi] (.int .i64 0)):oB env.P 184 [PI f.l,aJ zq c,RR lo,RR hi] 49 10 []:=by
 rw [gR,gR]at B ⊢
 generalize lo.num=ln at *
 generalize (lo.den:Int)=ld at *
 generalize hi.num=hn at *
 generalize (hi.den:Int)=hd at *
 refine pD (E:=env) (fun id=>if id=7 then 2 else 0) (t:=8) [(0,PI f.l),(1,aJ zq c),(2,R2 ln ld),(3,R2 hn hd)] Tryz.func184 rfl (by kernel_rfl) (by kernel_rfl) (show 4≤40 by decide) rfl (by simp) ?_
 refine aA [0,1,6,7] ?_
 refine aY [0,1,6,7,9] B ?_
 refine aM [0,1,6,7,9,16] ?_
 refine bP ?_ ?_<;>intro h
 ·refine aA [8] ?_
  refine W.nil 8 8 49 10 (by simp) (by decide) (fun K hK=>?_)
  simp
  refine hK _ ?_
  refine W.ret ?_
  exact⟨8,_,by simp;exact rfl,by simp,fun x hx=>by cases hx⟩
 ·simp at h
theorem YE{f:ZX}{c:List ZX}{lo hi:Rat}(B:aH env.P 76 [aJ zq c,RR lo,RR hi] (.int .i64 1))(X:aH env.P 80 [QA f c (lo,hi)] (QA f c (ex f (lo,hi)))):oB env.P 184 [PI f.l,aJ zq c,RR lo,RR hi] 49 10 (emap (qa f c) [ex f (lo,hi)]):=by
 rw [show emap (qa f c) [ex f (lo,hi)] = [qa f c (ex f (lo,hi))]from rfl]
 rw [gR,gR]at *
 generalize hy:ex f (lo,hi)=y at *
 rw [FW,FW]at X
 rw [show qa f c y=PI f.l::aJ zq c::(c4 y.1.num y.1.den++c4 y.2.num y.2.den)from rfl]
 simp only [c4,List.cons_append,List.nil_append]at X ⊢
 clear hy
 generalize y.1.num=an at *
 generalize (y.1.den:Int)=ad at *
 generalize y.2.num=bn at *
 generalize (y.2.den:Int)=bd at *
 generalize lo.num=ln at *
 generalize (lo.den:Int)=ld at *
 generalize hi.num=hn at *
 generalize (hi.den:Int)=hd at *
 refine pD (E:=env) (fun id=>if id=7 then 2 else 0) (t:=8) [(0,PI f.l),(1,aJ zq c),(2,R2 ln ld),(3,R2 hn hd)] Tryz.func184 rfl (by kernel_rfl) (by kernel_rfl) (show 4≤40 by decide) rfl (by simp) ?_
 refine aA [0,1,6,7] ?_
 refine aY [0,1,6,7,9] B ?_
 refine aM [0,1,6,7,9,16] ?_
 refine bP ?_ ?_<;>intro h
 ·simp at h
 refine W.skip ?_
 refine aM [0,1,6,7,18] ?_
 refine bP ?_ ?_<;>intro h
 ·refine W.TJ 6 rfl rfl (fun K hK=>?_)
  simp (disch:=omega) [gw]
  refine b8 X ?_
  refine W.lw [8] hK ?_;clear hK K;simp
  refine W.ret ?_
  exact⟨25,_,by simp;exact rfl,by simp,fun x hx p hp=>by
   simp at hx;subst hx
   simp at hp
   rcases hp with rfl | rfl | rfl | rfl | rfl | rfl | rfl | rfl | rfl | rfl<;>rfl⟩
 ·simp at h
theorem Q6{f:ZX}{c:List ZX}{lo hi:Rat}{n:Int}{la lb:List (Rat × Rat)}(hn:2≤n∧n≤21)(WL:la.length≤21)(hlb:lb.length≤21)
  (M:aH env.P 204 [RR lo,RR hi] (RR ((lo+hi)/2))) (B:aH env.P 76 [aJ zq c,RR lo,RR hi] (.int .i64 n))
  (h1:oB env.P 184 [PI f.l,aJ zq c,RR lo,RR ((lo+hi)/2)] 49 10 (emap (qa f c) la)) (h2:oB env.P 184 [PI f.l,aJ zq c,RR ((lo+hi)/2),RR hi] 49 10 (emap (qa f c) lb)) :
  oB env.P 184 [PI f.l,aJ zq c,RR lo,RR hi] 49 10 (emap (qa f c) (la++lb)):=by
 rw [←KJ]
 have el1:(emap (qa f c) la).length≤21:=by simpa [emap]using WL
 have el2:(emap (qa f c) lb).length≤21:=by simpa [emap]using hlb
 have p1:=UY (f:=f) (c:=c) (l:=la)
 have p2:=UY (f:=f) (c:=c) (l:=lb)
 have a1:bM 10 (emap (qa f c) la)=True:=FV
 have a2:bM 10 (emap (qa f c) lb)=True:=FV
 simp only [gR]at *
 generalize ((lo+hi)/2).num=mn at *
 generalize (((lo+hi)/2).den:Int)=md at *
 generalize lo.num=ln at *
 generalize (lo.den:Int)=ld at *
 generalize hi.num=EL at *
 generalize (hi.den:Int)=hd at *
 generalize emap (qa f c) la=ea at *
 generalize emap (qa f c) lb=eb at *
 refine pD (E:=env) (fun id=>if id=7 then 2 else 0) (t:=8) [(0,PI f.l),(1,aJ zq c),(2,R2 ln ld),(3,R2 EL hd)] Tryz.func184 rfl (by kernel_rfl) (by kernel_rfl) (show 4≤40 by decide) rfl (by simp) ?_
 refine aA [0,1,6,7] ?_
 refine aY [0,1,6,7,9] B ?_
 refine aM [0,1,6,7,9,16] ?_
 refine bP ?_ ?_<;>intro h
 ·simp at h;omega
 refine W.skip ?_
 refine aM [0,1,6,7,18] ?_
 refine bP ?_ ?_<;>intro h
 ·simp at h;omega
 refine W.skip ?_
 refine aY [0,1,6,7,10] M ?_
 refine W.sd ?_
 rw [if_pos rfl,fE]
 simp (disch:=omega) [gw]
 refine aaV h1 rfl trivial ?_
 simp (disch:=omega) [gw,UW]
 refine aaV h2 rfl trivial ?_
 simp (disch:=omega) [gw,a1,a2,UW]
 refine bO [8] ?_
 refine W.ret ?_
 exact⟨33,_,by simp;exact rfl,by simp,fun x hx=>by
  rcases List.mem_append.1 hx with hx | hx
  ·exact p1 x hx
  ·exact p2 x hx⟩
theorem Gr.add{D β j:Nat}{p q:Rat}(hp:Gr D (2^β) j p)(hq:Gr D (2^β) j q):Gr D (2^(β+1)) j (p+q):=by
 obtain⟨⟨y,hy⟩,b1,b2⟩:=hp
 obtain⟨⟨z,hz⟩,b3,b4⟩:=hq
 refine⟨⟨y+z,?_⟩,?_⟩
 ·rw [Rat.intCast_add,←hy,←hz];grind
 ·rw [Rat.pow_succ];exact⟨by grind,by grind⟩
theorem YF{s n:Nat}{f:ZX}(I:zA s n f){D d β J:Nat}{δ:Rat}(xJ:1≤D)(hD:D≤2^d)(C:Cut (vt (cH f)) (2^β) δ)(hu:β+1+d+J+1≤1000000000):∀(k j:Nat) (lo hi:Rat),j+k≤J→Gr D (2^β) j lo→Gr D (2^β) j hi→lo<hi→hi-lo≤δ*2^k →
  oB env.P 184 [PI f.l,aJ zq (cH f),RR lo,RR hi] 49 10 (emap (qa f (cH f)) ((ZA (vt (cH f)) k lo hi).map (ex f))):=by
 have hbt:∀(j:Nat) (lo hi:Rat),j≤J→Gr D (2^β) j lo→Gr D (2^β) j hi→lo<hi→aH env.P 76 [aJ zq (cH f),RR lo,RR hi] (.int .i64 ((vt (cH f) lo:Int)-vt (cH f) hi)):=fun j lo hi hj g1 g2 dM=>by
  have:=amF I.hb I.ch.hn I.hl ((g1.mono hj).sq xJ hD) ((g2.mono hj).sq xJ hD) (by omega)
  rwa [if_neg (Rat.not_lt.2 (Rat.le_of_lt dM))]at this
 have leaf:∀(j:Nat) (lo hi:Rat),j≤J→Gr D (2^β) j lo→Gr D (2^β) j hi→lo<hi→vt (cH f) lo=vt (cH f) hi+1→oB env.P 184 [PI f.l,aJ zq (cH f),RR lo,RR hi] 49 10 (emap (qa f (cH f)) ([(lo,hi)].map (ex f))):=fun j lo hi hj g1 g2 dM he=>by
  have h1:=hbt j lo hi hj g1 g2 dM
  rw [show(vt (cH f) lo:Int)-vt (cH f) hi=1 by omega]at h1
  exact YE h1 (YD (I.ch.bz.mono (by have:=I.hs;omega) (Nat.le_refl _)) I.ch.hn ((g1.mono hj).sq xJ hD) ((g2.mono hj).sq xJ hD) (by omega))
 have aiW:∀(j:Nat) (lo hi:Rat),j≤J→Gr D (2^β) j lo→Gr D (2^β) j hi→lo<hi→vt (cH f) lo=vt (cH f) hi→oB env.P 184 [PI f.l,aJ zq (cH f),RR lo,RR hi] 49 10 (emap (qa f (cH f)) ([].map (ex f))):=fun j lo hi hj g1 g2 dM he=>by
  have h1:=hbt j lo hi hj g1 g2 dM
  rw [show(vt (cH f) lo:Int)-vt (cH f) hi=0 by omega]at h1
  exact Q5 h1
 intro k
 induction k with
 | zero =>
  intro j lo hi hj g1 g2 dM hd
  rw [ZA]
  by_cases he:vt (cH f) lo=vt (cH f) hi
  ·rw [if_pos he];exact aiW j lo hi (by omega) g1 g2 dM he
  ·rw [if_neg he];exact leaf j lo hi (by omega) g1 g2 dM (C.leaf g1.b g2.b dM (by rw [Rat.pow_zero,Rat.mul_one]at hd;exact hd) he)
 | succ k ih =>
  intro j lo hi hj g1 g2 dM hd
  rw [ZA]
  by_cases he:vt (cH f) lo=vt (cH f) hi
  ·rw [if_pos he];exact aiW j lo hi (by omega) g1 g2 dM he
  ·rw [if_neg he]
   by_cases Y5:vt (cH f) lo=vt (cH f) hi+1
   ·rw [if_pos Y5];exact leaf j lo hi (by omega) g1 g2 dM Y5
   ·rw [if_neg Y5]
    obtain⟨m1,m2⟩:=xU dM
    obtain⟨d1,d2⟩:=DB hd
    have gm:=g1.NJ g2
    have n1:=C.dK lo ((lo+hi)/2) (Rat.le_of_lt m1)
    have n2:=C.dK ((lo+hi)/2) hi (Rat.le_of_lt m2)
    have hv1:=Nat.le_trans (aiV (cH f) lo) I.hl
    obtain⟨_,a2,_⟩:=wJ C k (j+1) lo ((lo+hi)/2) (g1.mono (by omega)) gm m1 d1
    obtain⟨_,b2,_⟩:=wJ C k (j+1) ((lo+hi)/2) hi gm (g2.mono (by omega)) m2 d2
    have r1:=ih (j+1) lo ((lo+hi)/2) (by omega) (g1.mono (by omega)) gm m1 d1
    have r2:=ih (j+1) ((lo+hi)/2) hi (by omega) gm (g2.mono (by omega)) m2 d2
    have q1:SQ (β+1+d+J+1) lo:=((g1.mono (show j≤J by omega)).sq xJ hD).mono (by omega)
    have q2:SQ (β+1+d+J+1) hi:=((g2.mono (show j≤J by omega)).sq xJ hD).mono (by omega)
    have q3:SQ (β+1+d+J+1) (lo+hi):=((g1.add g2).mono (show j≤J by omega)).sq xJ hD
    have hM:=acT (q1.yy hu) (q2.yy hu) (q3.yy hu)
    have hB:=hbt j lo hi (by omega) g1 g2 dM
    rw [List.map_append]
    exact Q6 (n:=(vt (cH f) lo:Int)-vt (cH f) hi) (by omega) (by rw [List.length_map];omega) (by rw [List.length_map];omega) hM hB r1 r2
def lvl(s n:Nat):Nat:=lk s n 5 (s+1)+s+2
theorem ac5{s n:Nat}(hn:n≤20):lvl s n≤102*s+720:=by
 have h1:(n+n)*(s+5+2+(5+1))≤40*(s+13):=Nat.mul_le_mul (by omega) (by omega)
 have h2:(n+n)*(s+1+2)≤40*(s+3):=Nat.mul_le_mul (by omega) (by omega)
 have h3:n*(s+1+2)≤20*(s+3):=Nat.mul_le_mul hn (by omega)
 unfold lvl lk sk
 omega
def uu(s:Nat):Nat:=105*s+800
namespace zA
variable {s n:Nat} {f:ZX} (I:zA s n f)
include I
theorem f0:f.l ≠ []:=vW I.nf.ne
theorem wK:1≤(lead f.l).natAbs∧(lead f.l).natAbs≤2^s:=by
 have h1:=dB f.c (List.length_pos_iff.2 I.f0)
 have h2:=kC (b:=2) (by decide) (lead f.l)
 have h3:=Nat.pow_le_pow_right (show 0<2 by decide) (gH I.ch.bz)
 omega
theorem asS:1≤tA f.l:=(UX f.c I.f0 (t:=tA f.l) (.inr Rat.le_refl)).2
theorem ac6:Ab (tA f.l) (2^(s+1)):=by
 have h1:=xS f.c I.f0
 have hL:(1:Rat)≤(((lead f.l).natAbs:Int):Rat):=fZ (by have:=I.wK.1;omega)
 have h2:=Rat.div_mul_cancel (a:=((n4 f.l (f.l.length-1):Int):Rat)) (b:=(((lead f.l).natAbs:Int):Rat)) (by grind)
 have h3:=I.asS
 have h4:((n4 f.l (f.l.length-1):Int):Rat)≤2^s:=by
  have h5:=kC (b:=2) (by decide) (n4 f.l (f.l.length-1))
  have h6:=Nat.pow_le_pow_right (show 0<2 by decide) (C6 I.ch.bz (f.l.length-1))
  exact(FR (s:=s) (by omega)).2
 have h7:=uE s
 rw [Rat.pow_succ]
 generalize (2:Rat)^s=T at *
 generalize ((n4 f.l (f.l.length-1):Int):Rat)=m at *
 have hw:m/(((lead f.l).natAbs:Int):Rat)≤T:=by
  refine Rat.not_lt.1 fun h=>?_
  have h8:=Rat.mul_le_mul_of_nonneg_left hL (show 0≤m/(((lead f.l).natAbs:Int):Rat)by grind)
  grind
 exact⟨by grind,by grind⟩
theorem Q7:Gr (lead f.l).natAbs (2^(s+1)) 0 (tA f.l):=by
 refine⟨⟨((lead f.l).natAbs:Int)+n4 f.l (f.l.length-1),?_⟩,I.ac6⟩
 have hL:(1:Rat)≤(((lead f.l).natAbs:Int):Rat):=fZ (by have:=I.wK.1;omega)
 have h1:=xS f.c I.f0
 have h2:=Rat.div_mul_cancel (a:=((n4 f.l (f.l.length-1):Int):Rat)) (b:=(((lead f.l).natAbs:Int):Rat)) (by grind)
 rw [Nat.pow_zero,Nat.mul_one,Rat.intCast_add,h1]
 grind
theorem UZ:Gr (lead f.l).natAbs (2^(s+1)) 0 (-tA f.l):=by
 obtain⟨⟨z,hz⟩,h1,h2⟩:=I.Q7
 exact⟨⟨-z,by rw [Rat.intCast_neg,←hz];grind⟩,by grind,by grind⟩
theorem aiX : -tA f.l<tA f.l:=by have:=I.asS;grind
end zA
def rtl(s n:Nat)(f:ZX):List (Rat × Rat):=ZA (vt (cH f)) (lvl s n) (-tA f.l) (tA f.l)
structure Ivs(f:ZX)(u:Nat)(lo hi:Rat)(l:List (Rat × Rat)):Prop where
 mem:∀p∈l,SQ u p.1∧SQ u p.2∧lo≤p.1∧p.1<p.2∧p.2≤hi∧vt (cH f) p.1=vt (cH f) p.2+1
 len:l.length=vt (cH f) lo-vt (cH f) hi
 srt:l.Pairwise fun p q=>p.2≤q.1
theorem zA.width{s n:Nat}{f:ZX}(I:zA s n f){δ:Rat}(hδ:δ*2^lk s n 5 (s+1)=1):tA f.l - -tA f.l≤δ*2^lvl s n:=by
 have h1:=I.ac6.2
 unfold lvl
 rw [show lk s n 5 (s+1)+s+2=lk s n 5 (s+1)+(s+1+1)by omega,rO,←Rat.mul_assoc,hδ,Rat.one_mul,Rat.pow_succ]
 grind
theorem zA.ivs{s n:Nat}{f:ZX}(I:zA s n f):Ivs f (uu s) (-tA f.l) (tA f.l) (rtl s n f):=by
 obtain⟨δ,h1,h2,C⟩:=I.cut (s+1)
 have hl:=ac5 (s:=s) I.ch.hn
 obtain⟨a1,a2,a3⟩:=wJ C (lvl s n) 0 _ _ I.UZ I.Q7 I.aiX (I.width h2)
 refine⟨fun p hp=>?_,a2,a3⟩
 obtain⟨b1,b2,b3⟩:=a1 p hp
 obtain⟨l1,l2⟩:=I.wK
 exact⟨(b1.sq l1 l2).mono (by unfold uu;omega),(b2.sq l1 l2).mono (by unfold uu;omega),b3⟩
theorem U0{s n:Nat}{f:ZX}(I:zA s n f):(rtl s n f).length≤21:=by
 have:=I.ivs.len
 have h1:=Nat.le_trans (aiV (cH f) (-tA f.l)) I.hl
 omega
theorem Q8{x:List Int}{s n:Nat}{f:ZX}(hS:aH env.P 158 [PI x] (PI f.l))(hC:aH env.P 81 [PI x] (aJ zq (cH f)))(I:zA s n f)(uK:1≤s):aH env.P 101 [PI x] (aJ (qa f (cH f)) ((rtl s n f).map (ex f))):=by
 have hs:=I.hs
 have hn:=I.ch.hn
 have B1:=QX f.c I.f0 I.ch.bz uK (by omega) (by omega)
 obtain⟨l1,l2⟩:=I.wK
 have M1:=B6 (tA f.l)
 obtain⟨δ,h1,h2,C⟩:=I.cut (s+1)
 have hl:=ac5 (s:=s) hn
 have R1:=YF I l1 l2 C (J:=lvl s n) (by omega) (lvl s n) 0 _ _ (by omega) I.UZ I.Q7 I.aiX (I.width h2)
 rw [show ZA (vt (cH f)) (lvl s n) (-tA f.l) (tA f.l)=rtl s n f from rfl]at R1
 have hlen:=U0 I
 rw [gR]at B1 M1
 rw [gR]at M1
 simp only [gR]at R1
 generalize (rtl s n f).map (ex f)=L at *
 generalize cH f=c at *
 generalize (-tA f.l).num=mn at *
 generalize ((-tA f.l).den:Int)=md at *
 generalize (tA f.l).num=bn at *
 generalize ((tA f.l).den:Int)=bd at *
 refine cA [(0,PI x)] Tryz.func101 ?_
 refine aA [0] ?_
 refine aY [0,3] hS ?_
 refine aY [3,4] hC ?_
 refine aY [3,4,5] B1 ?_
 refine kB ?_
 refine b8 M1 ?_
 refine aaV R1 rfl trivial ?_
 simp (disch:=omega) [gw]
 refine bO [2] ?_
 refine W.zV 17 (by simp) (fun K hK=>?_)
 simp
 refine hK _ ?_
 exact cP
end Go.Proofs.YtiobceocpabjdaaGreat
namespace Go.Proofs.YtiobceocpabjdaaGreat
open Go Pm
open ZX hiding N W
abbrev GA(f:ZX)(p:Rat × Rat):PV:=.ag (ga f p)
theorem FX{p q:Rat}:0<eD (p.num*q.den) (q.num*p.den)↔q<p:=by
 rw [BL,←jN q p,qT]
theorem sM{p q:Rat}:eD (p.num*q.den) (q.num*p.den)<0↔p<q:=jN p q
theorem ac7{p q:Rat}:eD (p.num*q.den) (q.num*p.den)≤0↔p≤q:=by
 rw [←Int.not_lt,FX,Rat.not_lt]
abbrev iG(f:ZX)(p:Rat × Rat):Rat→Prop:=qB (vt (cH f)) p.1 p.2
theorem agE{f:ZX}{p:Rat × Rat}(A:zS f (vt (cH f)) p.1 p.2):zS f (vt (cH f)) (ex f p).1 (ex f p).2 ∧ ∀t,iG f (ex f p) t↔iG f p t:=by
 unfold ex
 split
 ·rename_i h0
  exact A.exact h0
 ·exact⟨A,fun _=>Iff.rfl⟩
theorem YH{f:ZX}(h0:f≠0)(hc:uL f (bS f))(hN:ZX.N f≤20):uF f (vt (cH f)):=by
 have hg:gz f (bS f)=1:=(FL (.inl h0)).N1 (hc _ (eS _ _).l (eS _ _).r)
 refine⟨h0,hc,_,⟨fun B hB=>?_⟩,rfl⟩
 obtain⟨s,hs⟩:=C8 f.l
 obtain⟨β,hβ⟩:=MS B
 have hb:BZ (s+1+5) 20 f:=⟨hN,fun c hc=>cK (by decide) (by
  have h1:=hs c hc
  have h2:2^s<2^(s+1+5):=Nat.pow_lt_pow_right (by decide) (by omega)
  omega)⟩
 have hb0:BZ (s+1) 20 f:=⟨hN,fun c hc=>cK (by decide) (by
  have h1:=hs c hc
  have h2:2^s<2^(s+1):=Nat.pow_lt_pow_right (by decide) (by omega)
  omega)⟩
 have bd:BZ (s+1+5) 20 (bS f):=hb0.bS (by decide)
 have hND:=mG f
 have hP1:ZX.N (p0 (bS f))≤ZX.N (bS f):=kZ _
 obtain⟨δ,h1,h2⟩:=C9 (jb ((s+1+5+20+1)*2*4^20) 20 β)
 refine⟨δ,h1,Lcl.mono (UP (s:=s+1) (n:=20) (by decide) h0 hb ?_ (iS bd) hg (by rw [h2];exact Rat.le_refl)) hβ⟩
 unfold zO
 split
 ·have:(4:Nat)^ZX.N f≤4^20:=Nat.pow_le_pow_right (by decide) hN
  exact Nat.mul_le_mul (by omega) this
 ·have:(4:Nat)^ZX.N (p0 (bS f))≤4^20:=Nat.pow_le_pow_right (by decide) (by omega)
  exact Nat.mul_le_mul (Nat.le_refl _) this
structure pQ(f h g w:ZX):Prop where
 eq:f=w*g
 ng:Nf g
 nw:Nf w
 wg:uL w g
 wh:uL w h
 gd:dv g h
 sg:uL g (bS g)
 sw:uL w (bS w)
theorem Q9{f h:ZX}(nf:Nf f)(hc:uL f (bS f)):∃w,pQ f h (gz f h) w:=by
 have ng:Nf (gz f h):=FL (.inl nf.ne)
 obtain⟨w,nw,e⟩:=nf.quo ng (eS f h).l
 have hd:bS f=bS w*gz f h+w*bS (gz f h):=by
  have h1:=congrArg bS e
  rwa [sF]at h1
 have dwf:dv w f:=by rw [e];exact(dv.refl w).mul_right _
 have dgf:dv (gz f h) f:=(eS f h).l
 have wg:uL w (gz f h):=fun d h1 h2=>hc d (h1.trans dwf) (by rw [hd];exact(h2.mul_left _).add (h1.mul_right _))
 exact⟨w,e,ng,nw,wg,fun d h1 h2=>wg d h1 ((eS f h).least (h1.trans dwf) h2),(eS f h).r,
  fun d h1 h2=>hc d (h1.trans dgf) (by rw [hd];exact(h1.mul_left _).add (h2.mul_left _)),fun d h1 h2=>hc d (h1.trans dwf) (by rw [hd];exact(h2.mul_right _).add (h1.mul_right _))⟩
theorem pQ.N{f h g w:ZX}(S:pQ f h g w):ZX.N w≤ZX.N f∧ZX.N g≤ZX.N f:=by
 have h1:=mF S.nw.ne S.ng.ne
 rw [←S.eq]at h1
 have:=ZX.aE.1 S.nw.ne
 have:=ZX.aE.1 S.ng.ne
 omega
theorem pQ.cnt{f h g w:ZX}(S:pQ f h g w){v γ φ:Rat→Nat}(hv:uF f v)(hg:uF g γ)(hw:uF w φ){s t:Rat}(j3:s≤t):v s+γ t+φ t=v t+γ s+φ s:=by
 have e:K 1*f=w*g:=by rw [←S.eq];show(1:ZX)*f=f;grind
 have:=hv.mul hw hg (by decide) e S.wg j3
 omega
theorem U1{f h:ZX}{v w:Rat→Nat}(hv:uF f v)(hw:uF h w)(hc:uL f h){s r l β:Nat}(hA:∀c∈f.l,c.natAbs≤2^s)(hB:∀c∈h.l,c.natAbs≤2^r)(hl:ZX.N f+ZX.N h≤2^l)
  {a b:Rat} (ha:Ab a (2^β)) (hb:Ab b (2^β)) (iJ:a<b) (hd:(b-a)*2^(sx f h s r l+(ZX.N f+ZX.N h)*(β+2)+2)≤1):v a=v b∨w a=w b:=by
 refine Classical.byContradiction fun Q3=>?_
 have aiZ:=not_or.1 Q3
 have sm:∀ {p:ZX} {m:Nat} {u:Rat→Nat},uF p u→(∀c∈p.l,c.natAbs≤2^m)→¬u a=u b→Ab (e a p) ((b-a)*2^(m+ZX.N p*(β+2))):=fun {p m u} S hp hu =>
  S.small iJ hu (gZ _) (fun x y h1 h2 h3=>by
   have g1:=(acY hp (Nat.le_refl _) (dE ha hb h1 (by grind)) (dE ha hb (show a≤y by grind) h3)).1
   have g2:=mI x y p.l
   have g3:e y p-e x p=qv y p.l-qv x p.l:=rfl
   rw [g3,g2]
   exact Ab.mul ⟨by grind,Rat.le_refl⟩ g1) Rat.le_refl (Rat.le_of_lt iJ)
 have b1:=sm hv hA aiZ.1
 have b2:=sm hw hB aiZ.2
 have n1:=ZX.aE.1 hv.ne
 have n2:=ZX.aE.1 hw.ne
 have s1:s≤s*ZX.N h:=Nat.le_mul_of_pos_right _ (by omega)
 have s2:r≤r*ZX.N f:=Nat.le_mul_of_pos_right _ (by omega)
 have fin:∀ {i j k:Nat},i+j+1=k→(b-a)*2^k≤1→(b-a)*2^i*2*2^j≤1:=fun {i j k} hk h=>by
  rw [←hk,Rat.pow_succ,rO]at h;grind
 have hX:sx f h s r l=(l+2)*(ZX.N f+ZX.N h)+s*ZX.N h+r*ZX.N f:=rfl
 rw [Nat.add_mul]at hd
 have h5:=asN hv.ne hw.ne hA hB hl hc ha (β:=β) (fin (i:=s+ZX.N f*(β+2)) (k:=sx f h s r l+(ZX.N f*(β+2)+ZX.N h*(β+2))+2) (by omega) hd) (fin (i:=r+ZX.N h*(β+2)) (k:=sx f h s r l+(ZX.N f*(β+2)+ZX.N h*(β+2))+2) (by omega) hd)
 have q1:0<(b-a)*2^(s+ZX.N f*(β+2)):=Rat.mul_pos (by grind) (gZ _)
 have q2:0<(b-a)*2^(r+ZX.N h*(β+2)):=Rat.mul_pos (by grind) (gZ _)
 obtain⟨p1,p2⟩:=b1
 obtain⟨p3,p4⟩:=b2
 rcases h5 with (h5 | h5) | (h5 | h5)<;>grind
theorem amJ{f h:ZX}{v w:Rat→Nat}(hv:uF f v)(hw:uF h w)(hc:uL f h){s n l β:Nat}(hA:∀c∈f.l,c.natAbs≤2^s)(hB:∀c∈h.l,c.natAbs≤2^s)(hn:ZX.N f+ZX.N h≤n)(hl:n≤2^l)
  {a b:Rat} (ha:Ab a (2^β)) (hb:Ab b (2^β)) (iJ:a<b) (hd:(b-a)*2^(sk s n l β+(s+n*(β+2))+1)≤1):v a=v b∨w a=w b:=
 U1 hv hw hc hA hB (Nat.le_trans hn hl) ha hb iJ (UT hd (by
  have h1:=acZ (a:=f) (b:=h) (s:=s) (l:=l) (β:=β) hn (Nat.le_refl _)
  have h2:(ZX.N f+ZX.N h)*(β+2)≤n*(β+2):=Nat.mul_le_mul_right _ hn
  omega))
theorem agF{f h:ZX}{v w:Rat→Nat}(hv:uF f v)(hw:uF h w)(hc:uL f h)(B:Rat):∃δ:Rat,0<δ ∧ ∀a b,Ab a B→Ab b B→a<b→b-a≤δ→v a=v b∨w a=w b:=by
 obtain⟨s1,h1⟩:=C8 f.l
 obtain⟨s2,h2⟩:=C8 h.l
 obtain⟨β,hβ⟩:=MS B
 obtain⟨δ,h3,h4⟩:=C9 (sk (s1+s2) (ZX.N f+ZX.N h) (ZX.N f+ZX.N h) β+(s1+s2+(ZX.N f+ZX.N h)*(β+2))+1)
 refine⟨δ,h3,fun a b ha hb iJ hd=>amJ hv hw hc (s:=s1+s2) (l:=ZX.N f+ZX.N h) (β:=β) (fun c hc=>Nat.le_trans (h1 c hc) (Nat.pow_le_pow_right (by decide) (by omega))) (fun c hc=>Nat.le_trans (h2 c hc) (Nat.pow_le_pow_right (by decide) (by omega))) (Nat.le_refl _) (Nat.le_of_lt Nat.lt_two_pow_self) (ha.mono hβ) (hb.mono hβ) iJ ?_⟩
 rw [←h4]
 exact Rat.mul_le_mul_of_nonneg_right hd (Rat.le_of_lt (gZ _))
section
variable {f:ZX} {v:Rat→Nat} {lo hi:Rat} (A:zS f v lo hi)
include A
theorem RA{s t:Rat}(h1:¬qB v lo hi s)(h2:qB v lo hi t)(j3:s<t):v t<v s:=by
 have g1:s<hi:=Rat.not_le.1 fun h=>h1 (.inl h)
 rcases A.k with ⟨rfl,h0⟩ | ⟨dM,hk⟩
 ·have h3:lo≤t:=by rcases h2 with h | h<;>grind
  have h4:=A.S.root g1 h0
  have h5:=A.S.dK h3
  omega
 ·have h3:v lo≤v s:=by
   by_cases h:s≤lo
   ·exact A.S.dK h
   ·exact Nat.not_lt.1 fun h4=>h1 (.inr ⟨by grind,h4⟩)
  rcases h2 with h | ⟨_,h⟩
  ·have:=A.S.dK h;omega
  ·omega
end
theorem RB{U:Rat→Prop}{δ:Rat}(hδ:0<δ):∀(n:Nat) (s t:Rat),s<t→¬U s→U t→t-s≤δ*2^n → ∃a b,s≤a∧a<b∧b≤t∧b-a≤δ∧¬U a∧U b
 | 0,s,t,h,h1,h2,hd=>⟨s,t,Rat.le_refl,h,Rat.le_refl,by rwa [Rat.pow_zero,Rat.mul_one]at hd,h1,h2⟩
 | n+1,s,t,h,h1,h2,hd=>by
  obtain⟨m1,m2⟩:=xU h
  obtain⟨d1,d2⟩:=DB hd
  generalize (s+t)/2=m at *
  by_cases hm:U m
  ·obtain⟨a,b,g1,g2,g3,g4⟩:=RB hδ n s m m1 h1 hm d1
   exact⟨a,b,g1,g2,by grind,g4⟩
  ·obtain⟨a,b,g1,g2,g3,g4⟩:=RB hδ n m t m2 hm h2 d2
   exact⟨a,b,by grind,g2,g3,g4⟩
theorem U2{U:Rat→Prop}{δ:Rat}(hδ:0<δ){s t:Rat}(h:s<t)(h1:¬U s)(h2:U t):∃a b,s≤a∧a<b∧b≤t∧b-a≤δ∧¬U a∧U b:=by
 obtain⟨n,hn⟩:=MS ((t-s)/δ)
 refine RB hδ n s t h h1 h2 ?_
 have h3:(t-s)/δ*δ=t-s:=Rat.div_mul_cancel (Rat.ne_of_gt hδ)
 have h4:=Rat.mul_le_mul_of_nonneg_right hn (Rat.le_of_lt hδ)
 grind
theorem IU{f:ZX}{p:Rat × Rat}(h:p.1=p.2)(t:Rat):iG f p t↔p.1≤t:=by
 refine⟨fun h1=>?_,fun h1 => .inl (h▸h1)⟩
 rcases h1 with h1 | ⟨h1,_⟩
 ·rw [h];exact h1
 ·grind
theorem RD{a:ZX}(na:Nf a)(hc:uL a (bS a)):sq a=a:=by
 obtain⟨g,hg⟩:=jA _ a (bS a) (Nat.le_refl _)
 have h0:=hg.ne (.inl na.ne)
 have h1:=hc g hg.l hg.r
 have h2:=ZX.aE.1 h0
 obtain⟨k,hk,rfl⟩:=k8 (show ZX.N g=1 by omega)
 obtain⟨c,xA,u,v,e⟩:=hg.uv
 rw [oO]at e
 exact agy na (Int.mul_ne_zero xA hk) e.symm
abbrev ZB(x:List Int)(c:List ZX)(an ad bn bd:Int):List PV:=[PI x,aJ zq c,aJ aF (aU DD an.natAbs), .bool (decide (an<0)),aJ aF (aU DD ad.natAbs), .bool (decide (ad<0)),aJ aF (aU DD bn.natAbs), .bool (decide (bn<0)),aJ aF (aU DD bd.natAbs), .bool (decide (bd<0))]
theorem asT{f:ZX}{c:List ZX}{p:Rat × Rat}:QA f c p = .ag (ZB f.l c p.1.num p.1.den p.2.num p.2.den):=rfl
end Go.Proofs.YtiobceocpabjdaaGreat
