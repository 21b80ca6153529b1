import Derived.Test.YtiobceocpabjdaaGreatCai
import Derived.Test.YtiobceocpabjdaaGreatCaj
import Derived.Test.YtiobceocpabjdaaGreatCak
import Derived.Test.YtiobceocpabjdaaGreatCal
set_option linter.unusedSimpArgs false
set_option linter.unusedVariables false
namespace Go.Proofs.YtiobceocpabjdaaGreat
open Go Pm
open ZX hiding N W
structure Nf(a:ZX):Prop where
 ne:a≠0
 g:bB a.l=1
 l:0<lead a.l
theorem A6{a:ZX}(h:a≠0):a.l ≠ []:=fun e=>by
 have:=aK.1 h
 have h2:ZX.N a=a.l.length:=rfl
 rw [h2,e]at this;simp at this
theorem aeT(x:List Int):Cn (nQ x):=Cn.cut _
def nf(a:ZX):ZX:=⟨nQ a.l,aeT _⟩
theorem jT:nf 0=0:=ZX.ext fun t=>rfl
theorem HX{a:ZX}(ha:a≠0):K (i3 a.l)*nf a=a:=ZX.ext fun t=>by
 rw [dK,wB]
 conv=>rhs;rw [←M5 a.c (A6 ha)]
 rw [b7,Int.mul_comm];rfl
theorem qU{a:ZX}(ha:a≠0):i3 a.l≠0:=HR a.c (A6 ha)
theorem akR{a:ZX}(ha:a≠0):nf a≠0:=fun h=>ha (by rw [←HX ha,h];grind)
theorem mC{a:ZX}(ha:a≠0):Nf (nf a):=⟨akR ha,YT a.c (A6 ha),S4 a.c (A6 ha)⟩
theorem Nf.nfe{a:ZX}(h:Nf a):nf a=a:=by
 have h1:i3 a.l=1:=by
  unfold i3
  rw [if_neg (by have:=h.l;omega),h.g];rfl
 have:=HX h.ne
 rw [h1]at this
 rw [←this]
 conv=>lhs;rw [this]
 show _=(1:ZX)*_
 grind
theorem TP{c:Int}(hc:c≠0)(a:ZX):ZX.N (K c*a)=ZX.N a:=by
 by_cases ha:a=0
 ·rw [ha,show K c*(0:ZX)=0 by grind]
 ·rw [mB (tG hc) ha,N_K hc];have:=aK.1 ha;omega
theorem A7(a:ZX):ZX.N (nf a)=ZX.N a:=by
 by_cases ha:a=0
 ·rw [ha,jT]
 ·have:=TP (qU ha) (nf a)
  rw [HX ha]at this
  exact this.symm
theorem K_l{c:Int}(hc:c≠0)(a:ZX):(K c*a).l=a.l.map (· * c):=by
 refine Cn.ext (K c*a).c (i0 a.c hc) fun t=>?_
 rw [dK,wB,dH,Int.mul_comm]
theorem TQ{c:Int}(hc:c≠0){a:ZX}(ha:a≠0):lead (K c*a).l=c*lead a.l:=by
 have h:(K c*a).l=bK (K c).l a.l:=rfl
 have hK:(K c).l = [c]:=by show aG [c] = [c];exact fA hc []
 rw [h,rK (K c).c a.c (by rw [hK];simp) (aK.1 ha),hK]
 rfl
theorem Nf.A8{a b:ZX}(ha:Nf a)(hb:Nf b){c d:Int}(hc:c≠0)(hd:d≠0)(e:K c*a=K d*b):a=b:=by
 have h1:c.natAbs=d.natAbs:=by
  have h2:bB (K c*a).l=bB (K d*b).l:=by rw [e]
  rw [K_l hc,K_l hd,i2,i2,ha.g,hb.g]at h2
  omega
 have h3:c*lead a.l=d*lead b.l:=by rw [←TQ hc ha.ne,←TQ hd hb.ne,e]
 have h4:c=d:=by
  rcases Int.natAbs_eq_natAbs_iff.1 h1 with h5 | h5
  ·exact h5
  ·exfalso
   subst h5
   have hl:=ha.l
   have N9:=hb.l
   rcases Int.lt_or_gt_of_ne hd with h6 | h6
   ·have:=Int.mul_pos (show 0 < -d by omega) hl
    have:=Int.mul_neg_of_neg_of_pos h6 N9
    omega
   ·have:=Int.mul_neg_of_neg_of_pos (show -d<0 by omega) hl
    have:=Int.mul_pos h6 N9
    omega
 subst h4
 exact ZX.cancel (tG hc) e
theorem Y7{a b:ZX}{c d:Int}(ha:a≠0)(hc:c≠0)(hd:d≠0)(e:K c*a=K d*b):nf a=nf b:=by
 have hb:b≠0:=fun h=>by
  rw [h,show K d*(0:ZX)=0 by grind]at e
  exact rP (tG hc) ha e
 refine Nf.A8 (mC ha) (mC hb) (c:=c*i3 a.l) (d:=d*i3 b.l) (Int.mul_ne_zero hc (qU ha)) (Int.mul_ne_zero hd (qU hb)) ?_
 rw [←nT,←nT]
 have h1:=HX ha
 have h2:=HX hb
 grind
theorem TR(a:ZX):nf (nf a)=nf a:=by
 by_cases ha:a=0
 ·rw [ha,jT,jT]
 ·exact(mC ha).nfe
theorem EL(a:ZX):dv a (nf a)∧dv (nf a) a:=by
 by_cases ha:a=0
 ·rw [ha,jT];exact⟨dv.refl 0,dv.refl 0⟩
 ·have h:=HX ha
  exact⟨⟨i3 a.l,qU ha,1,by rw [h];grind⟩,⟨1,by decide,K (i3 a.l),by rw [h];show(1:ZX)*a=a;grind⟩⟩
theorem sS{a b:ZX}(h1:dv a b)(h2:dv b a):nf a=nf b:=by
 by_cases ha:a=0
 ·subst ha;rw [tS h1]
 ·obtain⟨c,hc,q,e⟩:=h2
  have h3:=h1.AZ (fun hb=>ha (by subst hb;exact tS ⟨c,hc,q,e⟩))
  have h4:=dv.AZ ⟨c,hc,q,e⟩ ha
  obtain⟨hq,hb⟩:=jS hc ha e
  have h5:=TP hc a
  rw [e,mB hq hb]at h5
  have:=aK.1 hq
  have:=aK.1 hb
  obtain⟨d,hd,rfl⟩:=EH (x:=q) (by omega)
  exact Y7 ha hc hd e
theorem Nf.one:Nf 1:=⟨TJ,by decide,by decide⟩
theorem Nf.mul{a b:ZX}(ha:Nf a)(hb:Nf b):Nf (a*b):=by
 refine⟨rP ha.ne hb.ne,?_,?_⟩
 ·show bB (bK a.l b.l)=1
  rw [S3 a.c b.c (A6 ha.ne) (A6 hb.ne),ha.g,hb.g]
 ·show 0<lead (bK a.l b.l)
  rw [rK a.c b.c (aK.1 ha.ne) (aK.1 hb.ne)]
  exact Int.mul_pos ha.l hb.l
theorem Nf.TS{a b:ZX}(ha:Nf a)(hb:Nf b)(h:∀p,o0 p→mu p a=mu p b):a=b:=by
 rw [←ha.nfe,←hb.nfe]
 exact sS ((oD ha.ne hb.ne).2 fun p hp=>by have:=h p hp;omega) ((oD hb.ne ha.ne).2 fun p hp=>by have:=h p hp;omega)
theorem Nf.quo{a b:ZX}(ha:Nf a)(hb:Nf b)(h:dv b a):∃w,Nf w∧a=w*b:=by
 obtain⟨c,hc,q,e⟩:=h
 obtain⟨hq,_⟩:=jS hc ha.ne e
 refine⟨nf q,mC hq,Nf.A8 ha ((mC hq).mul hb) hc (qU hq) ?_⟩
 have:=HX hq
 grind
theorem Nf.exact{a b w:ZX}(hb:Nf b)(e:a=w*b):exact a.l b.l=some w.l:=by
 subst e
 exact HT w.c b.c (aK.1 hb.ne)
theorem Nf.N1{a:ZX}(ha:Nf a)(h:ZX.N a≤1):a=1:=by
 obtain⟨c,hc,rfl⟩:=EH (x:=a) (by have:=aK.1 ha.ne;omega)
 exact Nf.A8 ha Nf.one (show (1:Int)≠0 by decide) hc (by show(1:ZX)*_=K c*1;grind)
noncomputable def gz(a b:ZX):ZX:=nf (Classical.choose (j5 _ a b (Nat.le_refl _)))
theorem qV(a b:ZX):∃g,oJ g a b∧gz a b=nf g:=⟨_,Classical.choose_spec (j5 _ a b (Nat.le_refl _)),rfl⟩
theorem TT{g a b:ZX}(h:oJ g a b):gz a b=nf g:=by
 obtain⟨g',h',e⟩:=qV a b
 rw [e]
 obtain⟨h1,h2⟩:=h'.assoc h
 exact sS h1 h2
theorem oJ.akT{g g' a b:ZX}(h:oJ g a b)(h1:dv g g')(h2:dv g' g):oJ g' a b:=by
 obtain⟨c,hc,u,v,e⟩:=h.uv
 obtain⟨d,hd,w,e2⟩:=h1
 exact⟨h2.trans h.l,h2.trans h.r,c*d,Int.mul_ne_zero hc hd,w*u,w*v,by rw [←nT];grind⟩
theorem rR(a b:ZX):oJ (gz a b) a b:=by
 obtain⟨g,h,e⟩:=qV a b
 rw [e]
 obtain⟨h1,h2⟩:=EL g
 exact oJ.akT h h1 h2
theorem akU{a b:ZX}(h:a≠0∨b≠0):gz a b≠0:=(rR a b).ne h
theorem akV{a b:ZX}(h:a≠0∨b≠0):Nf (gz a b):=by
 have h0:=akU h
 obtain⟨g,h,e⟩:=qV a b
 rw [e]at h0 ⊢
 exact mC (fun hg=>h0 (by rw [hg,jT]))
theorem qW(a:ZX):gz a 0=nf a:=TT (oJ.zero a)
theorem EM{a b a' b':ZX}(h1:dv a a')(h2:dv a' a)(h3:dv b b')(h4:dv b' b):gz a b=gz a' b':=by
 obtain⟨g,hg,e⟩:=qV a b
 rw [e,TT (hg.congr h1 h2 h3 h4)]
theorem abH(a b:ZX):gz (nf a) b=gz a b:=EM (EL a).2 (EL a).1 (dv.refl b) (dv.refl b)
theorem HY(a b:ZX):gz a (nf b)=gz a b:=EM (dv.refl a) (dv.refl a) (EL b).2 (EL b).1
theorem KC{a b q r:ZX}{c k:Int}(hc:c≠0)(hk:k≠0)(e:K c*a=q*b+K k*r):gz a b=gz b r:=by
 obtain⟨g,hg,e2⟩:=qV b r
 rw [e2,TT (hg.akQ hc hk e)]
end Go.Proofs.YtiobceocpabjdaaGreat
namespace Go.Proofs.YtiobceocpabjdaaGreat
open Go Pm
open ZX hiding N W
open Classical in
noncomputable def qz(a b:ZX):ZX:=if h:∃w,Nf w∧a=w*b then h.choose else 0
theorem lZ{a b:ZX}(ha:Nf a)(hb:Nf b)(h:dv b a):Nf (qz a b)∧a=qz a b*b:=by
 have h:=ha.quo hb h
 unfold qz
 rw [dif_pos h]
 exact h.choose_spec
theorem TU{a b:ZX}(ha:Nf a)(hb:Nf b)(h:dv b a):exact a.l b.l=some (qz a b).l:=Nf.exact hb (lZ ha hb h).2
theorem abI{a b p:ZX}(ha:Nf a)(hb:Nf b)(h:dv b a)(hp:o0 p):mu p (qz a b)=mu p a-mu p b:=by
 obtain⟨h1,h2⟩:=lZ ha hb h
 have h3:mu p a=mu p (qz a b)+mu p b:=by
  conv=>lhs;rw [h2]
  exact A3 hp h1.ne hb.ne
 omega
noncomputable def gd(a:ZX):ZX:=gz a (dD a)
theorem TV{a:ZX}(ha:a≠0):Nf (gd a):=akV (.inl ha)
theorem sU(a:ZX):dv (gd a) a:=(rR a (dD a)).l
theorem akW{a p:ZX}(ha:a≠0)(hp:o0 p):mu p (gd a)=mu p a-1:=(rR a (dD a)).HW ha hp
theorem apG{a:ZX}(h:2≤ZX.N a):ZX.N (gd a)<ZX.N a:=by
 have h1:=(rR a (dD a)).r.AZ (TN h)
 have h2:=nU a
 have:ZX.N (gd a)=ZX.N (gz a (dD a)):=rfl
 omega
theorem aeU:gd 1=1:=by
 unfold gd
 rw [KA,qW,Nf.one.nfe]
noncomputable def gs(a:ZX):Nat→ZX
 | 0=>a
 | k+1=>gd (gs a k)
theorem kK{a:ZX}(ha:Nf a):∀k,Nf (gs a k)
 | 0=>ha
 | k+1=>TV (kK ha k).ne
theorem EN(a:ZX):∀k,dv (gs a k) a
 | 0=>dv.refl a
 | k+1=>(sU _).trans (EN a k)
theorem KE{a p:ZX}(ha:Nf a)(hp:o0 p):∀k,mu p (gs a k)=mu p a-k
 | 0=>rfl
 | k+1=>by
  show mu p (gd (gs a k))=_
  rw [akW (kK ha k).ne hp,KE ha hp k];omega
theorem aeV{a:ZX}:∀k,ZX.N (gs a k)≤1∨ZX.N (gs a k)+k≤ZX.N a
 | 0 => .inr (Nat.le_refl _)
 | k+1=>by
  rcases aeV (a:=a) k with h | h
  ·left
   show ZX.N (gz (gs a k) (dD (gs a k)))≤1
   by_cases h0:gs a k=0
   ·rw [h0,show dD (0:ZX)=0 from ZX.ext fun t=>rfl,qW,jT];decide
   ·exact Nat.le_trans ((rR _ _).l.AZ h0) h
  ·rcases Nat.lt_or_ge (ZX.N (gs a k)) 2 with h2 | h2
   ·left
    show ZX.N (gz (gs a k) (dD (gs a k)))≤1
    by_cases h0:gs a k=0
    ·rw [h0,show dD (0:ZX)=0 from ZX.ext fun t=>rfl,qW,jT];decide
    ·exact Nat.le_trans ((rR _ _).l.AZ h0) (by omega)
   ·right
    have:=apG h2
    show ZX.N (gd (gs a k))+(k+1)≤_
    omega
open Classical in
noncomputable def nl(a:ZX):Nat:=if h:∃m,ZX.N (gs a m)≤1 ∧ ∀k,k<m→2≤ZX.N (gs a k)then h.choose else 0
theorem qX(a:ZX):ZX.N (gs a (nl a))≤1 ∧ ∀k,k<nl a→2≤ZX.N (gs a k):=by
 have h:∃m,ZX.N (gs a m)≤1 ∧ ∀k,k<m→2≤ZX.N (gs a k):=by
  have key:∀n,(∃m,m≤n∧ZX.N (gs a m)≤1 ∧ ∀k,k<m→2≤ZX.N (gs a k)) ∨ ∀k,k≤n→2≤ZX.N (gs a k):=by
   intro n
   induction n with
   | zero =>
    rcases Nat.lt_or_ge (ZX.N (gs a 0)) 2 with h | h
    ·exact .inl ⟨0,Nat.le_refl _,by omega,fun k hk=>by omega⟩
    ·exact .inr fun k hk=>by rw [show k=0 by omega];exact h
   | succ n ih =>
    rcases ih with ⟨m,h1,h2⟩ | ih
    ·exact .inl ⟨m,by omega,h2⟩
    ·rcases Nat.lt_or_ge (ZX.N (gs a (n+1))) 2 with h | h
     ·exact .inl ⟨n+1,Nat.le_refl _,by omega,fun k hk=>ih k (by omega)⟩
     ·refine .inr fun k hk=>?_
      rcases Nat.lt_or_ge k (n+1)with h3 | h3
      ·exact ih k (by omega)
      ·rw [show k=n+1 by omega];exact h
  rcases key (ZX.N a)with ⟨m,_,h⟩ | h
  ·exact⟨m,h⟩
  ·have h1:=h (ZX.N a) (Nat.le_refl _)
   rcases aeV (a:=a) (ZX.N a)with h2 | h2<;>omega
 unfold nl
 rw [dif_pos h]
 exact h.choose_spec
theorem abJ(a:ZX):nl a≤ZX.N a:=by
 rcases Nat.eq_zero_or_pos (nl a)with h | h
 ·omega
 ·have h1:=(qX a).2 (nl a-1) (by omega)
  rcases aeV (a:=a) (nl a-1)with h2 | h2<;>omega
theorem TW{a:ZX}(ha:Nf a):∀j,gs a (nl a+j)=1
 | 0=>(kK ha _).N1 (qX a).1
 | j+1=>by
  show gd (gs a (nl a+j))=1
  rw [TW ha j,aeU]
noncomputable def wz(a:ZX)(k:Nat):ZX:=qz (gs a k) (gs a (k+1))
theorem fY{a:ZX}(ha:Nf a)(k:Nat):Nf (wz a k)∧gs a k=wz a k*gs a (k+1):=lZ (kK ha k) (kK ha (k+1)) (sU _)
theorem EO{a p:ZX}(ha:Nf a)(hp:o0 p)(k:Nat):mu p (wz a k)=if k<mu p a then 1 else 0:=by
 rw [wz,abI (kK ha k) (kK ha (k+1)) (sU _) hp,KE ha hp,KE ha hp]
 split<;>omega
theorem KF{a:ZX}(ha:Nf a)(k:Nat):dv (wz a (k+1)) (wz a k):=(oD (fY ha _).1.ne (fY ha _).1.ne).2 fun p hp=>by
 rw [EO ha hp,EO ha hp]
 split<;>split<;>omega
noncomputable def wJ(a:ZX)(k:Nat):ZX:=qz (wz a k) (wz a (k+1))
theorem A9{a:ZX}(ha:Nf a)(k:Nat):Nf (wJ a k)∧wz a k=wJ a k*wz a (k+1):=lZ (fY ha k).1 (fY ha (k+1)).1 (KF ha k)
theorem akX{a p:ZX}(ha:Nf a)(hp:o0 p)(k:Nat):mu p (wJ a k)=if mu p a=k+1 then 1 else 0:=by
 rw [wJ,abI (fY ha k).1 (fY ha (k+1)).1 (KF ha k) hp,EO ha hp,EO ha hp]
 split<;>split<;>split<;>omega
noncomputable def fl(a:ZX):List ZX:=(List.range (nl a)).map (wJ a)
theorem TX{a p:ZX}(ha:Nf a)(hp:o0 p):mu p a≤nl a:=by
 have h:=KE ha hp (nl a)
 have h1:=TW ha 0
 rw [Nat.add_zero]at h1
 rw [h1,TO hp]at h
 omega
noncomputable def pf(a:ZX)(c:Nat→Bool):Nat→ZX
 | 0=>1
 | k+1=>if c k then pf a c k*wJ a k else pf a c k
theorem yV{a:ZX}(ha:Nf a)(c:Nat→Bool):∀k,Nf (pf a c k)
 | 0=>Nf.one
 | k+1=>by
  rw [pf]
  split
  ·exact(yV ha c k).mul (A9 ha k).1
  ·exact yV ha c k
theorem TY{a p:ZX}(ha:Nf a)(hp:o0 p)(c:Nat→Bool):∀k,mu p (pf a c k)=if 1≤mu p a∧mu p a≤k∧c (mu p a-1)=true then 1 else 0
 | 0=>by
  rw [pf,TO hp,if_neg (by omega)]
 | k+1=>by
  have ih:=TY ha hp c k
  have hf:=akX ha hp k
  rw [pf]
  by_cases hc:c k=true
  ·rw [if_pos hc,A3 hp (yV ha c k).ne (A9 ha k).1.ne,ih,hf]
   by_cases h1:mu p a=k+1
   ·rw [if_pos h1,h1,Nat.add_sub_cancel,if_neg (by omega),if_pos ⟨by omega,Nat.le_refl _,hc⟩]
   ·rw [if_neg h1]
    by_cases h2:1≤mu p a∧mu p a≤k∧c (mu p a-1)=true
    ·rw [if_pos h2,if_pos ⟨h2.1,by omega,h2.2.2⟩]
    ·rw [if_neg h2,if_neg (fun h3=>h2 ⟨h3.1,by omega,h3.2.2⟩)]
  ·rw [if_neg hc,ih]
   by_cases h1:mu p a=k+1
   ·rw [h1,Nat.add_sub_cancel,if_neg (by omega),if_neg (fun h3=>hc h3.2.2)]
   ·by_cases h2:1≤mu p a∧mu p a≤k∧c (mu p a-1)=true
    ·rw [if_pos h2,if_pos ⟨h2.1,by omega,h2.2.2⟩]
    ·rw [if_neg h2,if_neg (fun h3=>h2 ⟨h3.1,by omega,h3.2.2⟩)]
noncomputable def sz'(a:ZX):ZX:=wz a 0
theorem akY{a:ZX}(ha:Nf a):Nf (sz' a):=(fY ha 0).1
theorem akZ{a p:ZX}(ha:Nf a)(hp:o0 p):mu p (sz' a)=min (mu p a) 1:=by
 rw [sz',EO ha hp]
 split<;>omega
theorem aeX{a:ZX}(ha:Nf a):pf a (fun _=>true) (nl a)=sz' a:=Nf.TS (yV ha _ _) (akY ha) fun p hp=>by
 have h:=TX ha hp
 rw [TY ha hp,akZ ha hp]
 by_cases h1:1≤mu p a
 ·rw [if_pos ⟨h1,h,rfl⟩];omega
 ·rw [if_neg (fun h2=>h1 h2.1)];omega
theorem EP{a:ZX}(h:ZX.N a≤1):nl a=0:=by
 rcases Nat.eq_zero_or_pos (nl a)with h1 | h1
 ·exact h1
 ·have:=(qX a).2 0 h1
  have:ZX.N (gs a 0)=ZX.N a:=rfl
  omega
def qb(h n:Nat):Nat:=h+n*(2*h+5)+1
theorem ak0{a b:ZX}(ha:Nf a)(hb:Nf b)(hd:dv b a){h n:Nat}(hx:Bd 2 h n a.l)(hn:n+1≤2^h):Bd 2 (qb h n) n b.l:=by
 obtain⟨w,_,e⟩:=ha.quo hb hd
 exact aeS ha.ne e hx hn
theorem TZ{a b:ZX}(ha:Nf a)(hb:Nf b)(h:dv b a):dv (qz a b) a:=by
 obtain⟨_,h2⟩:=lZ ha hb h
 exact⟨1,by decide,b,by rw [ZX.NB b,←h2];show(1:ZX)*_=_;grind⟩
theorem BA{a:ZX}(ha:Nf a)(k:Nat):dv (wz a k) a:=(TZ (kK ha k) (kK ha (k+1)) (sU _)).trans (EN a k)
theorem Y8{a:ZX}(ha:Nf a)(k:Nat):dv (wJ a k) a:=(TZ (fY ha k).1 (fY ha (k+1)).1 (KF ha k)).trans (BA ha k)
theorem Y9{a:ZX}(ha:Nf a)(c:Nat→Bool)(k:Nat):dv (pf a c k) a:=(oD (yV ha c k).ne ha.ne).2 fun p hp=>by
 rw [TY ha hp]
 split<;>omega
end Go.Proofs.YtiobceocpabjdaaGreat
namespace Go.Proofs.YtiobceocpabjdaaGreat
open Go Pm
theorem wK(v:Int):sz LL v≤sz 2 v:=cX eV (Nat.lt_of_lt_of_le (sF (b:=2) (by decide) v) (Nat.pow_le_pow_left (by decide) _))
theorem OE{h n:Nat}{x:List Int}(hx:Bd 2 h n x):Bd LL h n x:=⟨hx.len,fun c hc=>Nat.le_trans (wK c) (hx.sz c hc)⟩
instance:Inhabited ZX:=⟨0⟩
abbrev BZ(h n:Nat)(a:ZX):Prop:=Bd 2 h n a.l
theorem BZ.pb{h n:Nat}{a:ZX}(b:BZ h n a)(hh:h<1099511627775)(hn:n<1099511627775):PB a.l:=PB.of (OE b) hh hn
theorem BZ.tP{h n:Nat}{a:ZX}(b:BZ h n a)(hh:h<1099511627775)(hn:n<1099511627775):mG (a.l.map jU):=(b.pb hh hn).tP
theorem sV(a:ZX):fP (a.l.map jU)=a.l:=by rw [YR];exact a.c
theorem BZ.mono{h h' n n':Nat}{a:ZX}(b:BZ h n a)(hh:h≤h')(hn:n≤n'):BZ h' n' a:=Bd.mono b hh hn
theorem BZ.nf{h n:Nat}{a:ZX}(b:BZ h n a):BZ h n (nf a):=TF b
theorem BZ.N{h n:Nat}{a:ZX}(b:BZ h n a):ZX.N a≤n:=Bd.len b
theorem T0{h n:Nat}{a:ZX}(b:BZ h n a)(hh:h<1099511627774)(hn:n<1099511627774)(k:Nat)(hk:k+1<a.l.length):aZ env.P 164 [.int .i64 (k:Int), .rd [Po a.l]] (I (nth a.l (k+1)*((k+1:Nat):Int))):=by
 have hlen:=b.len
 have hz:=(OE b).nth (k+1)
 have o1:=rM ((k+1:Nat):Int) (by omega) (by omega)
 have hk1:Sz ((k+1:Nat):Int):=Nat.lt_of_le_of_lt (cX (k:=2) eV (by rw [Int.natAbs_natCast];show k+1<4294967296^2;omega)) (by decide)
 have m1:=sH (x:=nth a.l (k+1)) (y:=((k+1:Nat):Int)) (by show Pm.sz LL _<_;omega) hk1
 have e:((k:Int)+1).toNat=k+1:=by omega
 rw [Int.natCast_add,Int.natCast_one]at o1 m1
 refine cL [(0, .int .i64 (k:Int)),(1, .rd [Po a.l])] Tryz.func164 ?_
 generalize a.l=x at *
 refine aB [0,1,3] ?_
 refine W.sd ?_
 simp (disch:=omega) [gw,e]
 refine cM o1 ?_
 refine c7 [3] m1 ?_
 exact cV
theorem pR{h n:Nat}{a:ZX}(b:BZ h n a)(hh:h<1099511627774)(hn:n<1099511627774):aZ env.P 85 [Po a.l] (Po (ZX.dD a).l):=by
 have hlen:=b.len
 have hc:=fun k hk=>T0 b hh hn k hk
 have hE:=nI 164 rfl [.rd [Po a.l]] rfl (a.l.length-1) (by omega) (fun k=>nth a.l (k+1)*((k+1:Nat):Int)) (fun k hk=>hc k (by omega))
 have e0:aG ((List.range (a.l.length-1)).map fun k=>nth a.l (k+1)*((k+1:Nat):Int))=(ZX.dD a).l:=rfl
 rw [e0]at hE
 generalize (ZX.dD a).l=d at *
 generalize a.l=x at *
 have e1:(if (1:Int)<(x.length:Int)then(x.length:Int)-1 else 0)=((x.length-1:Nat):Int):=by split<;>omega
 refine cL [(0,Po x)] Tryz.func85 ?_
 refine aB [1] ?_
 refine W.sr ?_
 simp (disch:=omega) [gw,e1]
 refine c7 [2] hE ?_
 exact cV
theorem HZ{α:Type}{g:α→List PV}{l:List α}{c:Int}{d:List Int}(h1:aZ env.P 137 [aX g l] (.eQ [I c,Po d])):aZ env.P 140 [aX g l] (Po d):=by
 refine cL [(0,aX g l)] Tryz.func140 ?_
 refine aB [0] ?_
 refine bT [4] h1 ?_
 refine aB [2] ?_
 exact cV
theorem oE{h n:Nat}{a:ZX}(b:BZ h n a)(hh:h<1099511627774)(hn:n<1099511627774):aZ env.P 140 [Po a.l] (Po (nf a).l):=by
 have h1:=oZ (a.l.map jU) (b.tP (by omega) (by omega)) (s:=h) (n:=n) (by rw [bC];exact OE b) hh hn
 rw [sV,←fB]at h1
 exact HZ h1
theorem ZA{h h' n:Nat}{a c:ZX}(b:BZ h n a)(b':BZ h' n c)(ha:Nf a)(hc:Nf c)(hd:ZX.dv c a)(hB:h+n*(h'+n+1)+h'+n+n+10<1099511627774):aZ env.P 141 [Po a.l,Po c.l] (Po (qz a c).l):=by
 have h0:¬c.l = []:=A6 hc.ne
 have h1:=M4 (a.l.map jU) (c.l.map jU) (b.tP (by omega) (by omega)) (b'.tP (by omega) (by omega)) (s:=h) (s':=h') (N:=n) (by rw [bC];exact OE b) (by rw [bC];exact OE b') hB
 rw [sV,sV,if_neg h0,TU ha hc hd,←fB,←fB,exR]at h1
 generalize (qz a c).l=d at *
 generalize a.l=x at *
 generalize c.l=y at *
 refine cL [(0,Po x),(1,Po y)] Tryz.func141 ?_
 refine aB [0,1] ?_
 refine bT [5] h1 ?_
 refine aB [4] ?_
 exact cV
def rs(a c:ZX):ZX:=⟨D6 a.l c.l,aeI _ _⟩
theorem T1{x:List Int}(cx:Cn x)(hx:x ≠ []):(jL x).map (· * (bB x:Int))=x:=by
 have hg:=cE cx hx
 have h1:=tR (g:=(bB x:Int)) (fun c hc=>eG x c hc)
 have h2:Cn (x.map (i6 (bB x))):=by
  have h3:x.map (i6 (bB x))=aG (x.map (i6 (bB x))):=by
   refine(List.map_inj_right (f:=fun v:Int=>v*(bB x:Int)) (fun u v e=>Int.eq_of_mul_eq_mul_right (by omega) e)).1 ?_
   rw [h1]
   refine Cn.ext cx (i0 (Cn.cut _) (by omega)) fun t=>?_
   rw [dH,cD,←dH,h1]
  exact h3.symm
 rw [jL,show aG (x.map (i6 (bB x)))=_ from h2,h1]
theorem ZB{a c:ZX}(hc:c≠0):∃(m k:Int) (q:ZX),m≠0∧k≠0∧ZX.K m*a=q*c+ZX.K k*rs a c:=by
 have h0:=ZX.aK.1 hc
 obtain⟨c1,c2⟩:=u6 (b:=c.l) a.c
 have hm:lead c.l^gM a.l c.l≠0:=Int.pow_ne_zero (dR c.c h0)
 have hsg:=SY (lead c.l) (gM a.l c.l)
 have hr:=SZ (b:=c.l) a.c
 have hV:=fun t=>RL t a.l c.l
 have hg:sg (lead c.l) (gM a.l c.l)≠0:=fun h=>by rw [h]at hsg;simp at hsg
 generalize sg (lead c.l) (gM a.l c.l)=g at *
 generalize lead c.l^gM a.l c.l=m at *
 have hl:(rs a c).l=jL (aL (sG a.l c.l).2 g):=hr
 generalize rs a c=R at *
 generalize (sG a.l c.l).1=q at *
 generalize (sG a.l c.l).2=r at *
 have hcp:Cn (aL r g):=Cn.aL _ _
 by_cases hz:aL r g = []
 ·refine⟨m,1,⟨q,c1⟩,hm,by decide,ZX.ext fun t=>?_⟩
  rw [hz]at hl
  have h1:V t R.l=0:=by rw [hl];rfl
  have h2:V t r=0:=by
   have h3:V t (aL r g)=0:=by rw [hz];rfl
   rw [b7]at h3
   rcases Int.mul_eq_zero.1 h3 with h4 | h4
   ·exact h4
   ·exact absurd h4 hg
  rw [ZX.dK,ZX.wB,ZX.j4,ZX.dK,ZX.dK,ZX.wB,h1]
  have:=hV t
  rw [h2]at this
  show m*V t a.l=V t q*V t c.l+1*0
  omega
 ·have hgp:=cE hcp hz
  refine⟨m,g*(bB (aL r g):Int),⟨q,c1⟩,hm,Int.mul_ne_zero hg (by omega),ZX.ext fun t=>?_⟩
  have h1:=T1 hcp hz
  have h2:V t (aL r g)=V t R.l*(bB (aL r g):Int):=by
   rw [hl,←dH,h1]
  rw [b7]at h2
  rw [ZX.dK,ZX.wB,ZX.j4,ZX.dK,ZX.dK,ZX.wB]
  have:=hV t
  show m*V t a.l=V t q*V t c.l+g*(bB (aL r g):Int)*V t R.l
  rw [←this]
  have h3:V t r=g*(V t r*g):=by
   have:g*(V t r*g)=V t r*(g*g):=by grind
   rw [this,hsg];omega
  rw [h3,h2];grind
theorem ak1{a c:ZX}(hc:c≠0):ZX.N (rs a c)<ZX.N c:=YS (ZX.aK.1 hc)
theorem jF{s n:Nat}{x:List Int}(hx:Bd 2 s n x):Bd 2 s n (jL x):=Bd.cut ⟨by simpa using hx.len,fun c hc=>by
 simp only [List.mem_map]at hc
 obtain⟨v,hv,rfl⟩:=hc
 refine Nat.le_trans (cQ (by decide) ?_) (hx.sz v hv)
 unfold i6
 split
 ·exact Int.natAbs_ediv_le_natAbs _ _
 ·simp⟩
theorem ak2{s s' n:Nat}{a c:ZX}(ha:BZ s n a)(hb:BZ s' n c)(hc:c≠0):BZ (s+(ZX.N a+1-ZX.N c)*(s'+n+1)) n (rs a c):=by
 have h0:=ZX.aK.1 hc
 have hl:=ak1 (a:=a) hc
 have hk:gM a.l c.l≤n:=by
  have h1:=ha.N
  have h2:gM a.l c.l=ZX.N a+1-ZX.N c:=rfl
  omega
 obtain⟨_,h2⟩:=RK (B:=2) (by decide) hb (gM a.l c.l) s [] a.l hk ⟨by simp,fun c hc=>by cases hc⟩ (ha.mono (Nat.le_refl _) (by omega))
 have h3:Bd 2 (s+gM a.l c.l*(s'+n+1)) (n+n) (D6 a.l c.l):=by
  unfold D6
  split
  ·exact jF (Bd.fC h2)
  ·exact jF h2
 have h4:=hb.N
 have h5:ZX.N (rs a c)=(D6 a.l c.l).length:=rfl
 exact⟨by show(D6 a.l c.l).length≤n;omega,fun d hd=>h3.sz d hd⟩
theorem T3{d:Nat}(h:1≤d):d+2≤4^d:=by
 obtain⟨k,rfl⟩:∃k,d=k+1:=⟨d-1,by omega⟩
 clear h
 induction k with
 | zero=>decide
 | succ k ih=>rw [Nat.pow_succ];omega
def BB(C n s:Nat)(a c:ZX):Prop:=if ZX.N c<ZX.N a then(s+n+1)*4^ZX.N a≤C else(s+n+1)*2*4^ZX.N c≤C
theorem BB.le{C n s:Nat}{a c:ZX}(h:BB C n s a c):s+n+1≤C:=by
 unfold BB at h
 split at h
 ·exact Nat.le_trans (Nat.le_mul_of_pos_right _ (Nat.pow_pos (by decide))) h
 ·refine Nat.le_trans ?_ h
  rw [Nat.mul_assoc]
  exact Nat.le_mul_of_pos_right _ (Nat.mul_pos (by decide) (Nat.pow_pos (by decide)))
theorem BB.step{C n s:Nat}{a c r:ZX}(h:BB C n s a c)(hr:ZX.N r<ZX.N c):BB C n (s+(ZX.N a+1-ZX.N c)*(s+n+1)) c r:=by
 unfold BB at h ⊢
 rw [if_pos hr]
 generalize hT:s+n+1=T at *
 have e:s+(ZX.N a+1-ZX.N c)*T+n+1=(ZX.N a+1-ZX.N c+1)*T:=by
  rw [Nat.add_mul,Nat.one_mul];omega
 rw [e]
 split at h
 ·rename_i h1
  obtain⟨d,hd⟩:∃d,ZX.N a=ZX.N c+d:=⟨ZX.N a-ZX.N c,by omega⟩
  have h2:=T3 (d:=d) (by omega)
  rw [hd,Nat.pow_add]at h
  have h3:(ZX.N a+1-ZX.N c+1)*T≤4^d*T:=Nat.mul_le_mul_right _ (by omega)
  refine Nat.le_trans (Nat.mul_le_mul_right _ h3) ?_
  have:4^d*T*4^ZX.N c=T*(4^ZX.N c*4^d):=by grind
  omega
 ·rename_i h1
  refine Nat.le_trans (Nat.mul_le_mul_right _ (Nat.mul_le_mul_right T (show ZX.N a+1-ZX.N c+1≤2 by omega))) ?_
  rw [Nat.mul_comm 2 T];exact h
theorem T4{s n C:Nat}{a c:ZX}(b:BZ s n a)(b':BZ s n c)(hP:BB C n s (nf a) (nf c))(hB:(n+1)*C≤99000000000):aZ env.P 142 [Po a.l,Po c.l] (Po (gz a c).l):=by
 have hC:C≤99000000000:=Nat.le_trans (Nat.le_mul_of_pos_left C (by omega)) hB
 rw [Nat.succ_mul]at hB
 have hs:=hP.le
 have p1:=oE b (by omega) (by omega)
 have p2:=oE b' (by omega) (by omega)
 have b1:=b.nf
 have b2:=b'.nf
 have hg:gz (nf a) (nf c)=gz a c:=by rw [abH,HY]
 rw [←hg]
 generalize vG:nf a=x0 at *
 generalize G6:nf c=y0 at *
 generalize hG:gz x0 y0=G at *
 refine cL [(0,Po a.l),(1,Po c.l)] Tryz.func142 ?_
 generalize a.l=al at *
 generalize c.l=cl at *
 refine aB [0,1] ?_
 refine j1 ?_
 refine cM p1 ?_
 refine c7 [0,1] p2 ?_
 refine W.seq ?_
 refine W.block ?_
 refine W.a9 (fun k σ=>∃(x y:ZX) (s:Nat) (rows:Pm.Rows) (clk:Nat),σ=⟨fa [(0,Po x.l),(1,Po y.l)],rows,clk⟩∧BZ s n x∧BZ s n y∧BB C n s x y∧gz x y=G∧k=ZX.N y) (ZX.N y0) ?_ ?_
 ·exact⟨_, .refl,x0,y0,s,_,_,rfl,b1,b2,hP,hG,rfl⟩
 rintro k _ ⟨x,y,s,rows,clk,rfl,bx,mH,hp,hgz,rfl⟩
 have hs:=hp.le
 have XV:=bx.len
 have hly:=mH.len
 refine aQ [0,1,13] ?_
 refine bO ?_ ?_<;>intro h
 ·have hy:y≠0:=ZX.aK.2 (by show 0<y.l.length;simp at h;omega)
  obtain⟨m,k,q,hm,hk,e⟩:=ZB (a:=x) hy
  have hR:=D8 (x.l.map jU) (y.l.map jU) (bx.tP (by omega) (by omega)) (mH.tP (by omega) (by omega)) (s:=s) (s':=s) (N:=n) (by rw [bC];exact OE bx) (by rw [bC];exact OE mH) (by
   have:n*(s+n+1)≤n*C:=Nat.mul_le_mul_left n hs
   omega)
  rw [sV,sV,if_neg (A6 hy),←fB,←fB,show D6 x.l y.l=(rs x y).l from rfl]at hR
  have br:=ak2 bx mH hy
  have hN:=ak1 (a:=x) hy
  have VG:=hp.step hN
  have s0:=KC hm hk e
  refine W.skip ?_
  refine W.block ?_
  refine bT [1,5] hR ?_
  refine W.cA (fun K hK=>?_)
  simp (disch:=omega) [gw]
  refine hK _ ⟨ZX.N (rs x y),_,aC _ [0,1],hN,y,rs x y,_,_,_,rfl,mH.mono (by omega) (Nat.le_refl _),br,VG,by rw [←s0,hgz],rfl⟩
 ·have hy:y=0:=by
   refine Classical.byContradiction fun h0=>?_
   have h1:=ZX.aK.1 h0
   have h2:ZX.N y=y.l.length:=rfl
   simp at h;rw [h2,h]at h1;simp at h1
  subst hy
  rw [qW]at hgz
  have p3:=oE bx (by omega) (by omega)
  rw [hgz]at p3
  refine eH ?_
  refine bT [4] p3 ?_
  exact cV
theorem ZC{s n C:Nat}{a c:ZX}(b:BZ s n a)(b':BZ s n c)(hP:BB C n s (nf a) (nf c))(hn:n≤20)(hC:C≤4500000000):aZ env.P 142 [Po a.l,Po c.l] (Po (gz a c).l):=
 T4 b b' hP (Nat.le_trans (Nat.mul_le_mul (show n+1≤21 by omega) hC) (by decide))
def zp(a:ZX):List PV:=[Po a.l]
@[simp] theorem apH{a:ZX}:zp a = [Po a.l]:=rfl
@[simp] theorem ag8{l:List ZX}:a8 1 (emap zp l)=True:=bQ fun _=>rfl
@[simp] theorem apI{l:List ZX}{a:ZX}:emap zp l ++ [[aX ie a.l]]=emap zp (l ++ [a]):=by simp [emap]
@[simp] theorem ae0{v e n:Nat}{l:List ZX}:cB (some ⟨v,e,n,emap zp l⟩)=True:=bR fun _=>rfl
theorem BZ.dD{h n:Nat}{a:ZX}(b:BZ h n a)(hn:n≤31):BZ (h+5) n (ZX.dD a):=Bd.cut ⟨by have:=b.len;simp [ZX.wE];omega,fun c hc=>by
 simp only [ZX.wE,List.mem_map,List.mem_range]at hc
 obtain⟨i,hi,rfl⟩:=hc
 have:=b.len
 exact cZ (by decide) (b.nth _) (cX (k:=5) (by decide) (by rw [Int.natAbs_natCast];show i+1<32;omega))⟩
theorem ZD{h n:Nat}{a:ZX}(b:BZ h n a)(hn:n<1099511627776):aZ env.P 83 [Po a.l] (.int .i64 ((ZX.N a:Int)-1)):=k9 a.l (by have:=b.len;omega)
structure tU(s n:Nat)(a:ZX):Prop where
 bz:BZ s n a
 hn:n≤20
 hs:n+1≤2^s
 hC:(qb s n+n+6)*4^n≤4500000000
theorem tU.sW{s n:Nat}{a:ZX}(h:tU s n a):qb s n+n+6≤4500000000:=Nat.le_trans (Nat.le_mul_of_pos_right _ (Nat.pow_pos (by decide))) h.hC
theorem tU.dv{s n:Nat}{a c:ZX}(h:tU s n a)(ha:Nf a)(hc:Nf c)(hd:ZX.dv c a):BZ (qb s n) n c:=ak0 ha hc hd h.bz h.hs
theorem tU.nfz{s n:Nat}{a:ZX}(h:tU s n a):tU s n (nf a):=⟨h.bz.nf,h.hn,h.hs,h.hC⟩
theorem tU.gdz{s n:Nat}{a c:ZX}(h:tU s n a)(ha:Nf a)(hc:Nf c)(hd:ZX.dv c a):aZ env.P 142 [Po c.l,Po (ZX.dD c).l] (Po (gd c).l)∧aZ env.P 85 [Po c.l] (Po (ZX.dD c).l)∧aZ env.P 141 [Po c.l,Po (gd c).l] (Po (qz c (gd c)).l):=by
 have b:=h.dv ha hc hd
 have b2:=b.dD (by have:=h.hn;omega)
 have hq:=h.sW
 have hn:=h.hn
 have bg:=h.dv ha (TV hc.ne) ((sU c).trans hd)
 refine⟨ZC (s:=qb s n+5) (b.mono (by omega) (Nat.le_refl _)) b2 ?_ h.hn (C:=4500000000) (Nat.le_refl _),pR b (by omega) (by omega),ZA b bg hc (TV hc.ne) (sU c) (by
  have:n*(qb s n+n+1)≤20*4500000000:=Nat.mul_le_mul hn (by omega)
  omega)⟩
 have hN:=ZX.nU c
 have h1:ZX.N c≤n:=b.N
 have h2:=ZX.aK.1 hc.ne
 unfold BB
 rw [A7,A7,if_pos (by omega)]
 refine Nat.le_trans (Nat.mul_le_mul (show qb s n+5+n+1≤qb s n+n+6 by omega) (Nat.pow_le_pow_right (by decide) h1)) h.hC
theorem kR(f:Nat→ZX){m i:Nat}(h:i<m):nth ((List.range m).map f) i=f i:=by
 rw [dP (by simpa using h)];simp
noncomputable def sq(a:ZX):ZX:=if ZX.N a≤1 then nf a else sz' (nf a)
theorem ER{α:Type}{g:α→List PV}{l:List α}{s n:Nat}{a:ZX}(h:tU s n a)(p1:aZ env.P 140 [aX g l] (Po (nf a).l)):aZ env.P 70 [aX g l] (Po (sq a).l):=by
 have hqb:=h.sW
 have hn:=h.hn
 have hA:=h.nfz
 have apJ:=ZD hA.bz (by omega)
 have hsq:sq a=if ZX.N (nf a)≤1 then nf a else sz' (nf a):=by rw [A7];rfl
 have nA:2≤ZX.N (nf a)→Nf (nf a):=fun h2=>mC fun h0=>by rw [h0,jT]at h2;revert h2;decide
 rw [hsq]
 generalize nf a=A at *
 refine cL [(0,aX g l)] Tryz.func70 ?_
 refine aB [0] ?_
 refine bT [0] p1 ?_
 refine W.seq ?_
 refine bT [0,7] apJ ?_
 refine W.cond ⟨_,rfl,fun h3=>?_,fun h3=>?_⟩
 ·have h2:ZX.N A≤1:=by simp at h3;omega
  rw [if_pos h2]
  refine aB [2] ?_
  exact cV
 ·have h2:2≤ZX.N A:=by simp at h3;omega
  obtain⟨t1,t2,t3⟩:=hA.gdz (nA h2) (nA h2) (ZX.dv.refl A)
  rw [if_neg (by omega),show sz' A=qz A (gd A)from rfl]
  generalize (gd A).l=g1 at *
  refine W.skip ?_
  refine j1 ?_
  refine cM t2 ?_
  refine cM t1 ?_
  refine c7 [2] t3 ?_
  exact cV
theorem H0{s n:Nat}{a:ZX}(h:tU s n a):aZ env.P 70 [Po a.l] (Po (sq a).l):=by
 have hqb:=h.sW
 have hn:=h.hn
 exact ER h (oE h.bz (by unfold qb at hqb;omega) (by omega))
@[simp] theorem NG:([]:List Int).length=0:=rfl
theorem j6{h n:Nat}{a:ZX}(b:BZ h n a)(h1:1≤h)(hh:h≤YY)(hn:n<1099511627776):aZ env.P 78 [PI a.l] (PI (nf a).l):=by
 have hP:=vZ a.l b a.c h1 hh hn
 have e:nQ a.l=(nf a).l:=rfl
 rw [e]at hP
 generalize i3 a.l=c at *
 generalize (nf a).l=d at *
 generalize a.l=x at *
 refine cL [(0,PI x)] Tryz.func78 ?_
 refine aB [0] ?_
 refine bT [4] hP ?_
 refine aB [2] ?_
 exact cV
theorem qY{h n:Nat}{a:ZX}(b:BZ h n a)(hh:h≤YY)(hn:n≤1000):aZ env.P 160 [PI a.l] (PI (ZX.dD a).l):=by
 have hlen:=b.len
 have e0:(ZX.dD a).l=aG ((List.range (a.l.length-1)).map fun k=>nth a.l (k+1)*((k:Int)+1)):=rfl
 rw [e0]
 have hz:=fun k=>b.nth k
 generalize a.l=x at *
 generalize hm:x.length-1=m at *
 refine b9 (E:=env) (fun id=>if id=5 then 2 else 0) [(0,PI x)] Tryz.func160 rfl (by kernel_rfl) (by kernel_rfl) (show 1≤23 by decide) (by simp) ?_
 refine aB [0] ?_
 refine aB [0,3] ?_
 refine W.nil 3 3 31 4 (by simp) (by decide) (fun K hK=>?_)
 refine W.lw [0,3] hK ?_;clear hK K;simp
 refine aQ [0,3,4] ?_
 refine W.block ?_
 refine W.a9 (fun k σ=>∃(i ver:Nat) (rows:Pm.Rows) (clk:Nat),σ=⟨fa [(0,PI x),(3, .own 3 ver 0 i),(4, .int .i64 ((i:Int)+1))],rows,clk⟩ ∧
  rows 3=some ⟨ver,31,4,emap ri ((List.range i).map fun k=>nth x (k+1)*((k:Int)+1))⟩∧i+k=m) m ?_ ?_
 ·exact⟨_, .refl,0,_,_,_,rfl,by simp [emap],by omega⟩
 rintro k _ ⟨i,ver,rows,clk,rfl,hr,L7⟩
 have sI:(emap ri ((List.range i).map fun k=>nth x (k+1)*((k:Int)+1))).length=i:=by simp [emap]
 refine aQ [0,3,4,8] ?_
 refine bO ?_ ?_<;>intro h
 ·have hi:i+1<x.length:=by simp at h;omega
  have o1:=DN ((i:Int)+1) (by omega)
  have hzi:=hz (i+1)
  have m1:=yM (nth x (i+1)) ((i:Int)+1) (Nat.le_trans hzi hh) (Nat.le_trans (cX (k:=10) (by decide) (by show((i:Int)+1).natAbs<1024;omega)) (by decide))
  have e1:((i:Int)+1).toNat=i+1:=by omega
  have er:(List.range (i+1)).map (fun k=>nth x (k+1)*((k:Int)+1))=(List.range i).map (fun k=>nth x (k+1)*((k:Int)+1)) ++ [nth x (i+1)*((i:Int)+1)]:=by
   rw [List.range_succ,List.map_append];simp
  have apK:((List.range i).map fun k=>nth x (k+1)*((k:Int)+1)).length=i:=by simp
  generalize (List.range i).map (fun k=>nth x (k+1)*((k:Int)+1))=acc at *
  generalize hq:nth x (i+1)*((i:Int)+1)=q at *
  refine iS ?_
  refine W.CS (fun K hK=>?_)
  rw [if_pos rfl,eL]
  simp (disch:=omega) [gw,e1]
  refine cM o1 ?_
  refine aD m1 ?_
  simp (disch:=omega) [gw,hr,apK]
  refine W.lw [0,3,4] hK ?_;clear hK K;simp
  refine W.cA (fun K hK=>?_);simp (disch:=omega) [gw]
  refine hK _ ⟨k-1,_,aC _ [0,3,4],by omega,i+1,_,_,_,by rw [Int.natCast_add];rfl,by rw [er];simp,by omega⟩
 ·have hi:i=m:=by simp at h;omega
  subst hi
  have eX:((List.range i).map fun k=>nth x (k+1)*((k:Int)+1)).length=i:=by simp
  generalize (List.range i).map (fun k=>nth x (k+1)*((k:Int)+1))=acc at *
  have ez:=bA eX
  refine eH ?_
  refine W.sr ?_
  simp (disch:=omega) [gw,hr,ez]
  refine aD (n7 acc (by omega)) ?_
  simp (disch:=omega) [gw]
  refine bF [2] ?_
  exact cV
theorem ES:aZ env.P 97 [.sl [[.int .i64 1]]] (PI (1:ZX).l):=JI [1] (by decide) (by decide)
def BC(l:Int):Int:=if l<0 then -1 else 1
theorem ZE(l:Int):BC l*l=l.natAbs:=by unfold BC;split<;>omega
def NH(y x:List Int):List Int:=rC y (lead y).natAbs (BC (lead y)*lead x) (x.length-y.length) x
def KG(y x:List Int)(i:Nat):Int:=nth x i*((lead y).natAbs:Int)-if x.length-y.length≤i then BC (lead y)*lead x*nth y (i-(x.length-y.length))else 0
theorem T5{y x:List Int}(h:y.length≤x.length):aG ((List.range x.length).map (KG y x))=NH y x:=by
 refine Cn.ext (Cn.cut _) (Cn.dJ _ _) fun t=>?_
 unfold NH
 rw [cD,rC,fS,b7,cK,kX]
 obtain⟨k,hk⟩:∃k,x.length=k+y.length:=⟨x.length-y.length,by omega⟩
 have e1:(List.range x.length).map (KG y x)=(List.range x.length).map fun i=>nth x i*((lead y).natAbs:Int)+(-(if x.length-y.length≤i then BC (lead y)*lead x*nth y (i-(x.length-y.length))else 0)):=List.map_congr_left fun i _=>by unfold KG;omega
 rw [e1,n4,eY,gV (Nat.le_refl _)]
 generalize BC (lead y)*lead x=T at *
 have e2:((List.range x.length).map fun i => -(if x.length-y.length≤i then T*nth y (i-(x.length-y.length))else 0))=List.replicate k 0++y.map fun v=>v*(-T):=by
  have hk2:x.length-y.length=k:=by omega
  rw [hk2,hk,List.range_add,List.map_append,List.map_map]
  congr 1
  ·rw [List.eq_replicate_iff]
   refine⟨by simp,fun v hv=>?_⟩
   simp only [List.mem_map,List.mem_range]at hv
   obtain⟨i,hi,rfl⟩:=hv
   rw [if_neg (by omega)];rfl
  ·have h2:=yC (x:=y) (n:=y.length) (Nat.le_refl _)
   rw [Nat.sub_self,List.replicate_zero,List.append_nil]at h2
   conv=>rhs;rw [←h2]
   rw [List.map_map]
   refine List.map_congr_left fun i _=>?_
   simp only [Function.comp_apply]
   rw [if_pos (by omega),Nat.add_sub_cancel_left];grind
 rw [e2,c8,l9]
 have h3:=eY (t:=t) (-T) id y
 simp only [id_eq,List.map_id_fun]at h3
 rw [h3,List.length_replicate,show x.length-y.length=k by omega]
 grind
theorem qZ{y x:List Int}(hy:0<y.length)(h:y.length≤x.length):(NH y x).length<x.length:=by
 have h1:=tK (b:=y) (r:=x) (i:=x.length-y.length) hy (by omega)
 rw [show qB y x (x.length-y.length)=lead x from by rw [qB,if_pos (by omega)]]at h1
 have e:NH y x=aL (rC y (lead y) (lead x) (x.length-y.length) x) (BC (lead y)):=Cn.ext (Cn.dJ _ _) (Cn.aL _ _) fun t=>by
  unfold NH
  rw [b7,rC,rC,fS,fS,b7,b7,cK,cK,kX,kX,←ZE]
  grind
 rw [e]
 have:=lP (rC y (lead y) (lead x) (x.length-y.length) x) (BC (lead y))
 omega
theorem abK(t:Int)(y x:List Int):((lead y).natAbs:Int)*V t x=t^(x.length-y.length)*(BC (lead y)*lead x)*V t y+V t (NH y x):=by
 unfold NH
 rw [rC,fS,b7,cK,kX];grind
def rq(y:List Int):Nat→List Int→List Int
 | 0,x=>x
 | n+1,x=>if x.length<y.length then x else rq y n (NH y x)
theorem ae2{y x:List Int}(h:x.length<y.length):∀n,rq y n x=x
 | 0=>rfl
 | n+1=>by rw [rq,if_pos h]
theorem KH{y:List Int}(cy:Cn y)(hy:0<y.length):∀(n:Nat) (x:List Int),Cn x→x.length<n→Cn (rq y n x)∧(rq y n x).length<y.length ∧ ∃(m:Int) (q:List Int),m≠0 ∧ ∀t,m*V t x=V t q*V t y+V t (rq y n x)
 | 0,x,_,h=>by omega
 | n+1,x,cx,h=>by
  rw [rq]
  split
  ·rename_i h1
   exact⟨cx,h1,1,[],by decide,fun t=>by simp [V]⟩
  ·rename_i h1
   have hl:=qZ hy (show y.length≤x.length by omega)
   obtain⟨h2,h3,m,q,hm,h4⟩:=KH cy hy n (NH y x) (Cn.dJ _ _) (by omega)
   have IF:=dR cy hy
   refine⟨h2,h3,m*(lead y).natAbs,iP q (aL (nE (x.length-y.length) (BC (lead y)*lead x)) m),Int.mul_ne_zero hm (by omega),fun t=>?_⟩
   have h5:=abK t y x
   have h6:=h4 t
   rw [pH,b7,kX]
   have:m*((lead y).natAbs:Int)*V t x=m*(((lead y).natAbs:Int)*V t x):=by grind
   rw [this,h5]
   grind
theorem T6{s s' N:Nat}{y x:List Int}(mH:Bd 2 s' N y)(bx:Bd 2 s N x)(hy:0<y.length)(h:y.length≤x.length):Bd 2 (s+(s'+N+1)) N (NH y x):=by
 have hl:=qZ hy h
 have XV:=bx.len
 have YN:sz 2 ((lead y).natAbs:Int)≤s':=Nat.le_trans (cQ (by decide) (by rw [Int.natAbs_natCast];exact Nat.le_refl _)) (iJ mH)
 have hlr:sz 2 (BC (lead y)*lead x)≤s:=Nat.le_trans (cQ (by decide) (by
  rw [Int.natAbs_mul]
  have:(BC (lead y)).natAbs=1:=by unfold BC;split<;>rfl
  rw [this,Nat.one_mul];exact Nat.le_refl _)) (iJ bx)
 have b1:Bd 2 (s+s'+N) (max N (x.length-y.length+1+N)) (aL x ((lead y).natAbs:Int)):=(bx.aL (by decide) YN).mono (by omega) (by omega)
 have b2:Bd 2 (s+s'+N) (max N (x.length-y.length+1+N)) (bK (nE (x.length-y.length) (BC (lead y)*lead x)) y):=((Bd.nE hlr (x.length-y.length)).bK (by decide) mH).mono (by omega) (by omega)
 exact⟨by omega,fun c hc=>by
  have h6:=(Bd.dJ (by decide) b1 b2).sz c hc
  omega⟩
theorem abL{s' N:Nat}{y:List Int}(mH:Bd 2 s' N y)(hy:0<y.length):∀(n j s:Nat) (x:List Int),Bd 2 s N x→x.length+1≤y.length+j→Bd 2 (s+j*(s'+N+1)) N (rq y n x)
 | 0,j,s,x,bx,_=>bx.mono (by simp) (Nat.le_refl _)
 | n+1,j,s,x,bx,hj=>by
  rw [rq]
  split
  ·exact bx.mono (by simp) (Nat.le_refl _)
  ·rename_i h1
   obtain⟨i,rfl⟩:∃i,j=i+1:=⟨j-1,by omega⟩
   have hl:=qZ hy (show y.length≤x.length by omega)
   have:=abL mH hy n i (s+(s'+N+1)) (NH y x) (T6 mH bx hy (by omega)) (by omega)
   rw [Nat.add_mul,Nat.one_mul]
   exact this.mono (by omega) (Nat.le_refl _)
theorem ae3(n:Nat):RI (n:Int) = .ag [aX aO (a5 DD n), .bool false]:=by
 simp [show ¬((n:Int)<0)by omega]
set_option maxHeartbeats 2000000 in
theorem yW{s s' N:Nat}{x0 y:List Int}(bx0:Bd 2 s N x0)(mH:Bd 2 s' N y)(cx0:Cn x0)(cy:Cn y)(G6:0<y.length)(hN:N≤1000)(hB:s+(x0.length+1-y.length+1)*(s'+N+1)<YY) :
  aZ env.P 162 [PI x0,PI y] (PI (rq y (x0.length+1) x0)):=by
 have hlN:=bx0.len
 have hNy:=mH.len
 obtain⟨R,hR⟩:∃R,R=rq y (x0.length+1) x0:=⟨_,rfl⟩
 rw [←hR]
 obtain⟨M,hM⟩:∃M,M=s+(x0.length+1-y.length+1)*(s'+N+1):=⟨_,rfl⟩
 rw [←hM]at hB
 have hB:M<137438953472:=hB
 have YN:sz 2 ((lead y).natAbs:Int)≤s':=Nat.le_trans (cQ (by decide) (by rw [Int.natAbs_natCast];exact Nat.le_refl _)) (iJ mH)
 have e2:((y.length:Int)-1).toNat=y.length-1:=by omega
 have DY:nth y (y.length-1)=lead y:=rfl
 refine b9 (E:=env) (fun id=>if id=16 then 2 else 0) [(0,PI x0),(1,PI y)] Tryz.func162 rfl (by kernel_rfl) (by kernel_rfl) (show 2≤78 by decide) (by simp) ?_
 refine aB [0,1] ?_
 refine W.sr ?_
 simp (disch:=omega) [gw,e2,DY]
 refine bF [0,1,5] ?_
 refine aB [0,1,5,6] ?_
 refine cH [0,1,5,6] ?_
 refine W.block ?_
 refine W.a9 (fun n σ=>∃(x:List Int) (j u:Nat) (rows:Pm.Rows) (clk:Nat),σ=⟨fa [(0,PI x),(1,PI y),(5, .ptr 5 0 0 0),(6, .ptr 6 1 0 0)],rows,clk⟩ ∧
  rows 5=some ⟨0,29,2,[[aX aO (a5 DD (lead y).natAbs), .bool (decide (lead y<0))]]⟩∧rows 6=some ⟨1,29,2,[[aX aO (a5 DD (lead y).natAbs), .bool false]]⟩ ∧
  Cn x∧x.length<n∧rq y n x=R∧Bd 2 u N x∧x.length+1≤y.length+j∧u+(j+1)*(s'+N+1)≤M) (x0.length+1) ?_ ?_
 ·exact⟨_, .refl,x0,x0.length+1-y.length,s,_,_,rfl,by simp,by simp,cx0,by omega,hR.symm,bx0,by omega,by omega⟩
 rintro n _ ⟨x,j,u,rows,clk,rfl,gX,mI,cx,YC,hxR,bx,hj,hu⟩
 have XV:=bx.len
 refine aQ [0,1,5,6,25] ?_
 refine bO ?_ ?_<;>intro h
 ·have h:y.length≤x.length:=by simp at h;omega
  obtain⟨n,rfl⟩:∃m,n=m+1:=⟨n-1,by omega⟩
  rw [rq,if_neg (by omega)]at hxR
  have N9:=qZ G6 h
  obtain⟨k,hk⟩:∃k,k=x.length-y.length:=⟨_,rfl⟩
  have hkI:(x.length:Int)-(y.length:Int)=k:=by omega
  have e1:((x.length:Int)-1).toNat=x.length-1:=by omega
  have N2:nth x (x.length-1)=lead x:=rfl
  have ak3:=T5 h
  have b2:=T6 mH bx G6 h
  have hlX:sz 2 (lead x)≤u:=iJ bx
  have Z3:u+(s'+N+1)≤M:=by
   have:=Nat.le_mul_of_pos_left (s'+N+1) (show 0<j+1 by omega)
   omega
  refine W.skip ?_
  refine W.block ?_
  refine W.sr ?_
  simp (disch:=omega) [gw,hkI]
  refine bF [0,1,5,6,7] ?_
  refine W.sr ?_
  simp (disch:=omega) [gw,e1,N2]
  refine bF [0,1,5,6,7,8] ?_
  obtain⟨T,hT⟩:∃T,T=BC (lead y)*lead x:=⟨_,rfl⟩
  have hTs:sz 2 T≤u:=Nat.le_trans (cQ (by decide) (by
   rw [hT,Int.natAbs_mul]
   have:(BC (lead y)).natAbs=1:=by unfold BC;split<;>rfl
   rw [this,Nat.one_mul];exact Nat.le_refl _)) hlX
  have hTp:(lead y<0→T = -lead x)∧(¬lead y<0→T=lead x):=by
   rw [hT];unfold BC
   constructor
   ·intro h;rw [if_pos h];omega
   ·intro h;rw [if_neg h];omega
  refine W.gK (fun σ=>∃(v:Nat) (rows:Pm.Rows) (clk:Nat),σ=⟨fa [(0,PI x),(1,PI y),(5, .ptr 5 0 0 0),(6, .ptr 6 1 0 0),(7, .int .i64 k),(8, .ptr 8 v 0 0)],rows,clk⟩ ∧
   rows 5=some ⟨0,29,2,[[aX aO (a5 DD (lead y).natAbs), .bool (decide (lead y<0))]]⟩∧rows 6=some ⟨1,29,2,[[aX aO (a5 DD (lead y).natAbs), .bool false]]⟩ ∧
   rows 8=some ⟨v,29,2,[[aX aO (a5 DD T.natAbs), .bool (decide (T<0))]]⟩) ?_ ?_
  ·refine W.sr ?_
   simp (disch:=omega) [gw,gX]
   refine bF [0,1,5,6,7,8,39] ?_
   refine bO ?_ ?_<;>intro h
   ·have h:lead y<0:=by simpa using h
    have SK:=nM (lead x)
    rw [←hTp.1 h]at SK
    refine W.cA (fun K hK=>?_)
    simp (disch:=omega) [gw]
    refine cM SK ?_
    exact hK _ ⟨_,aC _ [0,1,5,6,7,8],_,_,_,rfl,by simp [gX],by simp [mI],by simp⟩
   ·have h:¬lead y<0:=by simpa using h
    rw [hTp.2 h]
    refine W.skip ?_
    exact⟨_,aC _ [0,1,5,6,7,8],_,_,_,rfl,by simp [gX],by simp [mI],by simp⟩
  clear gX mI rows clk
  rintro _ ⟨v8,rows,clk,rfl,gX,mI,lA⟩
  refine aB [0,1,5,6,7,8,9] ?_
  refine W.nil 9 9 31 4 (by simp) (by decide) (fun K hK=>?_)
  refine W.lw [0,1,5,6,7,8,9] hK ?_;clear hK K;simp
  refine aQ [0,1,5,6,7,8,9,43,44] ?_
  refine W.block ?_
  refine W.a9 (fun m σ=>∃(i v9:Nat) (rows:Pm.Rows) (clk:Nat),σ=⟨fa [(0,PI x),(1,PI y),(5, .ptr 5 0 0 0),(6, .ptr 6 1 0 0),(7, .int .i64 k),(8, .ptr 8 v8 0 0),(9, .own 9 v9 0 i),(43, .int .i64 x.length),(44, .int .i64 i)],rows,clk⟩ ∧
   rows 5=some ⟨0,29,2,[[aX aO (a5 DD (lead y).natAbs), .bool (decide (lead y<0))]]⟩∧rows 6=some ⟨1,29,2,[[aX aO (a5 DD (lead y).natAbs), .bool false]]⟩ ∧
   rows 8=some ⟨v8,29,2,[[aX aO (a5 DD T.natAbs), .bool (decide (T<0))]]⟩∧rows 9=some ⟨v9,31,4,emap ri ((List.range i).map (KG y x))⟩∧i+m=x.length) x.length ?_ ?_
  ·exact⟨_,aC _ [0,1,5,6,7,8,9,43,44],0,_,_,_,rfl,by simp [gX],by simp [mI],by simp [lA],by simp [emap],by omega⟩
  clear gX mI lA rows clk
  rintro m _ ⟨i,v9,rows,clk,rfl,gX,mI,lA,Y4,him⟩
  have sI:((List.range i).map (KG y x)).length=i:=by simp
  refine cH [0,1,5,6,7,8,9,43,44,45] ?_
  refine bO ?_ ?_<;>intro h
  ·have hi:i<x.length:=by simp at h;omega
   have hxi:=bx.nth i
   have m1:=fI (nth x i) ((lead y).natAbs:Int) (by show sz 2 _<1099511627776;omega) (by show sz 2 _<1099511627776;omega)
   rw [ae3]at m1
   have s1:sz 2 (nth x i*((lead y).natAbs:Int))≤u+s':=cZ (by decide) hxi YN
   have er:(List.range (i+1)).map (KG y x)=(List.range i).map (KG y x) ++ [KG y x i]:=by
    rw [List.range_succ,List.map_append];rfl
   have hF:KG y x i=nth x i*((lead y).natAbs:Int)-if k≤i then T*nth y (i-k)else 0:=by unfold KG;rw [hk,hT]
   generalize (List.range i).map (KG y x)=acc at *
   generalize hP:nth x i*((lead y).natAbs:Int)=P at *
   refine iS ?_
   refine aB [0,1,5,6,7,8,9,10,43,44] ?_
   refine W.sd ?_
   simp (disch:=omega) [gw,mI]
   refine cM m1 ?_
   rw [if_pos (by kernel_rfl)]
   simp (disch:=omega) [gw]
   refine bF [0,1,5,6,7,8,9,10,11,43,44] ?_
   generalize hQ:KG y x i=Q at *
   have sQ:sz 2 Q≤u+(s'+N+1):=by
    have E6:sz 2 (nth y (i-k))≤s':=mH.nth _
    rw [hF]
    split
    ·have:=cZ (b:=2) (by decide) hTs E6
     have h1:=pG (b:=2) (by decide) (x:=P) (y := -(T*nth y (i-k))) (k:=u+s') s1 (by rw [nD];exact this)
     rw [←Int.sub_eq_add_neg]at h1
     omega
    ·rw [Int.sub_zero];omega
   refine W.gK (fun σ=>∃(v11:Nat) (rows:Pm.Rows) (clk:Nat),σ=⟨fa [(0,PI x),(1,PI y),(5, .ptr 5 0 0 0),(6, .ptr 6 1 0 0),(7, .int .i64 k),(8, .ptr 8 v8 0 0),(9, .own 9 v9 0 i),(11, .ptr 11 v11 0 0),(43, .int .i64 x.length),(44, .int .i64 i)],rows,clk⟩ ∧
    rows 5=some ⟨0,29,2,[[aX aO (a5 DD (lead y).natAbs), .bool (decide (lead y<0))]]⟩∧rows 6=some ⟨1,29,2,[[aX aO (a5 DD (lead y).natAbs), .bool false]]⟩ ∧
    rows 8=some ⟨v8,29,2,[[aX aO (a5 DD T.natAbs), .bool (decide (T<0))]]⟩∧rows 9=some ⟨v9,31,4,emap ri acc⟩ ∧
    rows 11=some ⟨v11,29,2,[[aX aO (a5 DD Q.natAbs), .bool (decide (Q<0))]]⟩) ?_ ?_
   ·refine aB [0,1,5,6,7,8,9,10,11,43,44,56] ?_
    refine bO ?_ ?_<;>intro h
    ·have V2:k≤i:=by simp at h;omega
     rw [if_pos V2]at hF
     have eik:(i:Int)-(k:Int)=((i-k:Nat):Int):=by omega
     have hyb:i-k<y.length:=by omega
     have m2:=fI T (nth y (i-k)) (by show sz 2 _<1099511627776;omega) (by have:=mH.nth (i-k);show sz 2 _<1099511627776;omega)
     have s2:=cZ (b:=2) (by decide) hTs (mH.nth (i-k))
     have m3:=DG P (T*nth y (i-k)) (by show sz 2 _<1099511627776;omega) (by show sz 2 _<1099511627776;omega)
     rw [←hF]at m3
     generalize T*nth y (i-k)=P2 at *
     refine W.CS (fun K hK=>?_)
     simp (disch:=omega) [gw,lA,eik]
     refine cM m2 ?_
     refine cM m3 ?_
     refine bU (by kernel_rfl) ?_
     simp (disch:=omega) [gw]
     exact hK _ ⟨_,aC _ [0,1,5,6,7,8,9,11,43,44],_,_,_,rfl,by simp [gX],by simp [mI],by simp [lA],by simp [Y4],by simp⟩
    ·have V2:¬k≤i:=by simp at h;omega
     rw [if_neg V2,Int.sub_zero]at hF
     rw [hF]
     refine W.skip ?_
     exact⟨_,aC _ [0,1,5,6,7,8,9,11,43,44],_,_,_,rfl,by simp [gX],by simp [mI],by simp [lA],by simp [Y4],by simp⟩
   clear gX mI lA Y4 rows clk
   rintro _ ⟨v11,rows,clk,rfl,gX,mI,lA,Y4,apL⟩
   have o1:=lT 1 (by decide) (by decide)
   have mk:=MI Q (by show sz 2 Q<549755813888;omega)
   refine W.CS (fun K hK=>?_)
   rw [if_pos rfl,eL]
   simp (disch:=omega) [gw,apL]
   refine cM o1 ?_
   refine aD mk ?_
   simp (disch:=omega) [gw,Y4,sI]
   refine W.lw [0,1,5,6,7,8,9,43,44] hK ?_;clear hK K;simp
   refine W.cA (fun K hK=>?_);simp (disch:=omega) [gw]
   refine hK _ ⟨m-1,_,aC _ [0,1,5,6,7,8,9,43,44],by omega,i+1,_,_,_,rfl,by simp [gX],by simp [mI],by simp [lA],by rw [er];simp,by omega⟩
  ·have hi:i=x.length:=by simp at h;omega
   subst hi
   have eX:((List.range x.length).map (KG y x)).length=x.length:=by simp
   generalize (List.range x.length).map (KG y x)=acc at *
   have ez:=bA eX
   have lU:=n7 acc (by omega)
   rw [ak3]at lU
   refine eH ?_
   refine W.cA (fun K hK=>?_)
   simp (disch:=omega) [gw,Y4,ez]
   refine cM lU ?_
   obtain⟨j,rfl⟩:∃i,j=i+1:=⟨j-1,by omega⟩
   rw [Nat.add_mul,Nat.one_mul]at hu
   refine hK _ ⟨n,_,aC _ [0,1,5,6],by omega,NH y x,j,u+(s'+N+1),_,_,rfl,by simp [gX],by simp [mI],Cn.dJ _ _,by omega,hxR,b2,by omega,by omega⟩
 ·have h:x.length<y.length:=by simp at h;omega
  rw [ae2 h]at hxR
  subst hxR
  refine eH ?_
  refine aB [4] ?_
  exact cV
def rz(a c:ZX):ZX:=ZX.of (rq c.l (a.l.length+1) a.l)
theorem q9{a c:ZX}(hc:c≠0):(rz a c).l=rq c.l (a.l.length+1) a.l∧ZX.N (rz a c)<ZX.N c ∧ ∃(m:Int) (q:ZX),m≠0∧ZX.K m*a=q*c+ZX.K 1*rz a c:=by
 obtain⟨h1,h2,m,q,hm,h3⟩:=KH c.c (ZX.aK.1 hc) (a.l.length+1) a.l a.c (by omega)
 have e:(rz a c).l=rq c.l (a.l.length+1) a.l:=h1
 refine⟨e,by show(rz a c).l.length<c.l.length;rw [e];exact h2,m,ZX.of q,hm,ZX.ext fun t=>?_⟩
 rw [ZX.dK,ZX.wB,ZX.j4,ZX.dK,ZX.dK,ZX.wB,ZX.aeO,e,h3 t];omega
theorem KI{s n:Nat}{a c:ZX}(ha:BZ s n a)(hb:BZ s n c)(hc:c≠0):BZ (s+(ZX.N a+1-ZX.N c)*(s+n+1)) n (rz a c):=by
 have h:=abL hb (ZX.aK.1 hc) (a.l.length+1) (ZX.N a+1-ZX.N c) s a.l ha (by show ZX.N a+1≤ZX.N c+_;omega)
 rw [←(q9 hc).1]at h
 exact h
theorem NI{s n C:Nat}{a c:ZX}(b:BZ s n a)(b':BZ s n c)(hP:BB C n s (nf a) (nf c))(hn:n≤20)(hC:C≤4500000000)(h1:1≤s):aZ env.P 203 [PI a.l,PI c.l] (PI (gz a c).l):=by
 have hs:=hP.le
 have p1:=j6 b h1 (by show s≤137438953472;omega) (by omega)
 have p2:=j6 b' h1 (by show s≤137438953472;omega) (by omega)
 have b1:=b.nf
 have b2:=b'.nf
 have hg:gz (nf a) (nf c)=gz a c:=by rw [abH,HY]
 have hx1:=TR a
 rw [←hg]
 generalize vG:nf a=x0 at *
 generalize G6:nf c=y0 at *
 generalize hG:gz x0 y0=G at *
 refine cL [(0,PI a.l),(1,PI c.l)] Tryz.func203 ?_
 generalize a.l=al at *
 generalize c.l=cl at *
 refine aB [0,1] ?_
 refine j1 ?_
 refine cM p1 ?_
 refine c7 [0,1] p2 ?_
 refine W.seq ?_
 refine W.block ?_
 refine W.a9 (fun k σ=>∃(x y:ZX) (s:Nat) (rows:Pm.Rows) (clk:Nat),σ=⟨fa [(0,PI x.l),(1,PI y.l)],rows,clk⟩∧BZ s n x∧BZ s n y∧1≤s∧BB C n s x y∧gz x y=G∧nf x=x∧nf y=y∧k=ZX.N y) (ZX.N y0) ?_ ?_
 ·exact⟨_, .refl,x0,y0,s,_,_,rfl,b1,b2,h1,hP,hG,hx1,by rw [←G6,TR],rfl⟩
 rintro k _ ⟨x,y,s,rows,clk,rfl,bx,mH,h1,hp,hgz,hnx,hny,rfl⟩
 have hs:=hp.le
 have XV:=bx.len
 have hly:=mH.len
 refine aQ [0,1,11] ?_
 refine bO ?_ ?_<;>intro h
 ·have hy:y≠0:=ZX.aK.2 (by show 0<y.l.length;simp at h;omega)
  obtain⟨RG,hN,m,q,hm,e⟩:=q9 (a:=x) hy
  have br:=KI bx mH hy
  have hmul:(x.l.length+1-y.l.length+1)*(s+n+1)≤22*4500000000:=Nat.mul_le_mul (by omega) (by omega)
  have abM:(ZX.N x+1-ZX.N y)*(s+n+1)≤22*4500000000:=Nat.mul_le_mul (by have:ZX.N x=x.l.length:=rfl;omega) (by omega)
  have hR:=yW (s:=s) (s':=s) (N:=n) bx mH x.c y.c (ZX.aK.1 hy) (by omega) (by show _<137438953472;omega)
  rw [←RG]at hR
  have pr:=j6 br (by omega) (by show _≤137438953472;omega) (by omega)
  have JQ:ZX.N (nf (rz x y))<ZX.N y:=by rw [A7];exact hN
  have VG:=hp.step JQ
  have s0:=KC hm (show (1:Int)≠0 by decide) e
  rw [←HY y (rz x y)]at s0
  have br2:=br.nf
  have hnn:=TR (rz x y)
  generalize (rz x y).l=rl at *
  generalize nf (rz x y)=r2 at *
  refine W.skip ?_
  refine W.block ?_
  refine W.cA (fun K hK=>?_)
  simp (disch:=omega) [gw]
  refine cM hR ?_
  refine cM pr ?_
  refine hK _ ⟨ZX.N r2,_,aC _ [0,1],JQ,y,r2,_,_,_,rfl,mH.mono (by omega) (Nat.le_refl _),br2,by omega,VG,by rw [←s0,hgz],hny,hnn,rfl⟩
 ·have hy:y=0:=by
   refine Classical.byContradiction fun h0=>?_
   have h1:=ZX.aK.1 h0
   have h2:ZX.N y=y.l.length:=rfl
   simp at h;rw [h2,h]at h1;simp at h1
  subst hy
  rw [qW,hnx]at hgz
  subst hgz
  refine eH ?_
  refine aB [4] ?_
  exact cV
theorem NJ{h h' n:Nat}{a c:ZX}(b:BZ h n a)(b':BZ h' n c)(h1:1≤h)(ha:Nf a)(hc:Nf c)(hd:ZX.dv c a)(hB:h+(n+1)*(h'+n+2)+h'+n+n+10<137438953472):aZ env.P 256 [PI a.l,PI c.l] (.eQ [PI (qz a c).l,PI []]):=by
 obtain⟨hw,e⟩:=lZ ha hc hd
 have hD:=EE a.l c.l b b' a.c c.c (ZX.aK.1 hc.ne) h1 hB
 obtain⟨e1,e2⟩:=TH (q:=(qz a c).l) a.c c.c (ZX.aK.1 hc.ne) (qz a c).c fun t=>by
  conv=>lhs;rw [e]
  rw [ZX.dK]
 rw [e1,e2,oY,oY,oY]at hD
 exact hD
def zq(a:ZX):List PV:=[PI a.l]
@[simp] theorem apN{a:ZX}:zq a = [PI a.l]:=rfl
@[simp] theorem aha{l:List ZX}:a8 1 (emap zq l)=True:=bQ fun _=>rfl
@[simp] theorem ae4{v e n:Nat}{l:List ZX}:cB (some ⟨v,e,n,emap zq l⟩)=True:=bR fun _=>rfl
@[simp] theorem apO{l:List ZX}{a:ZX}:emap zq l ++ [[aX ri a.l]]=emap zq (l ++ [a]):=by simp [emap]
theorem tU.qd{s n:Nat}{a c d:ZX}(h:tU s n a)(h1:1≤s)(ha:Nf a)(hc:Nf c)(hd:Nf d)(hca:ZX.dv c a)(hdc:ZX.dv d c):aZ env.P 256 [PI c.l,PI d.l] (.eQ [PI (qz c d).l,PI []])∧aZ env.P 78 [PI (qz c d).l] (PI (qz c d).l):=by
 have b:=h.dv ha hc hca
 have b2:=h.dv ha hd (hdc.trans hca)
 have hq:=h.sW
 have hn:=h.hn
 obtain⟨hw,e⟩:=lZ hc hd hdc
 have bq:=h.dv ha hw ((TZ hc hd hdc).trans hca)
 have hm:(n+1)*(qb s n+n+2)≤21*4500000000:=Nat.mul_le_mul (by omega) (by omega)
 have ae5:1≤qb s n:=by unfold qb;omega
 refine⟨NJ b b2 ae5 hc hd hdc (by omega),?_⟩
 have:=j6 bq ae5 (by show _≤137438953472;omega) (by omega)
 rwa [hw.nfe]at this
theorem tU.qgd{s n:Nat}{a c:ZX}(h:tU s n a)(ha:Nf a)(hc:Nf c)(hd:ZX.dv c a):aZ env.P 160 [PI c.l] (PI (ZX.dD c).l)∧aZ env.P 203 [PI c.l,PI (ZX.dD c).l] (PI (gd c).l):=by
 have b:=h.dv ha hc hd
 have b2:=b.dD (by have:=h.hn;omega)
 have hq:=h.sW
 have hn:=h.hn
 have ae5:1≤qb s n:=by unfold qb;omega
 refine⟨qY b (by show _≤137438953472;omega) (by omega),NI (s:=qb s n+5) (b.mono (by omega) (Nat.le_refl _)) b2 ?_ h.hn (C:=4500000000) (Nat.le_refl _) (by omega)⟩
 have hN:=ZX.nU c
 have h1:ZX.N c≤n:=b.N
 have h2:=ZX.aK.1 hc.ne
 unfold BB
 rw [A7,A7,if_pos (by omega)]
 refine Nat.le_trans (Nat.mul_le_mul (show qb s n+5+n+1≤qb s n+n+6 by omega) (Nat.pow_le_pow_right (by decide) h1)) h.hC
theorem BD{s n:Nat}{a:ZX}(h:tU s n a)(h1:1≤s):aZ env.P 207 [PI a.l] (aX zq (fl (nf a))):=by
 have hqb:=h.sW
 have hn:=h.hn
 have xF:s≤4500000000:=by unfold qb at hqb;omega
 have p1:=j6 h.bz h1 (by show s≤137438953472;omega) (by omega)
 have hA:=h.nfz
 have hNa:ZX.N a=a.l.length:=rfl
 have SP:=A7 a
 have hle:=abJ (nf a)
 have hNA:ZX.N (nf a)≤n:=hA.bz.N
 refine cL [(0,PI a.l)] Tryz.func207 ?_
 refine aB [0] ?_
 refine aQ [0,2,15] ?_
 refine bO ?_ ?_<;>intro h
 ·have h2:ZX.N a≤1:=by simp at h;omega
  have h3:fl (nf a) = []:=by unfold fl;rw [EP (by rw [SP];exact h2)];rfl
  rw [h3]
  refine aB [2] ?_
  refine W.Q8 2 (aX zq []) (by simp) rfl (fun K hK=>?_)
  refine W.lw [2] hK ?_;clear hK K;simp
  exact cV
 have h2:2≤ZX.N a:=by simp at h;omega
 have nA:Nf (nf a):=mC (ZX.aK.2 (by omega))
 clear h
 generalize nf a=A at *
 obtain⟨m,hm⟩:∃m,m=nl A:=⟨_,rfl⟩
 have hfl:fl A=(List.range m).map (wJ A):=by rw [hm];rfl
 rw [hfl]
 refine W.skip ?_
 refine bT [0] p1 ?_
 refine aB [0,3] ?_
 refine W.SS 1 rfl rfl (fun K hK=>?_)
 simp (disch:=omega) [gw]
 refine W.lw [3,4] hK ?_;clear hK K;simp
 refine W.seq ?_
 refine W.block ?_
 refine W.a9 (fun k σ=>∃(i ver:Nat) (rows:Pm.Rows) (clk:Nat),σ=⟨fa [(3, .nil),(4, .own 19 ver 0 (i+1))],rows,clk⟩∧rows 19=some ⟨ver,46,1,emap zq ((List.range (i+1)).map (gs A))⟩∧i+k=m) m ?_ ?_
 ·exact⟨_, .refl,0,_,_,_,rfl,by simp [emap,gs],by omega⟩
 rintro k _ ⟨i,ver,rows,clk,rfl,hr,L7⟩
 have sI:((List.range (i+1)).map (gs A)).length=i+1:=by simp
 have BE:nth ((List.range (i+1)).map (gs A)) i=gs A i:=kR _ (by omega)
 have er:(List.range (i+1+1)).map (gs A)=(List.range (i+1)).map (gs A) ++ [gs A (i+1)]:=by rw [List.range_succ,List.map_append];rfl
 have e1:((i:Int)+1-1).toNat=i:=by omega
 generalize hL:(List.range (i+1)).map (gs A)=L at *
 refine W.seq ?_
 refine W.sr ?_
 simp (disch:=omega) [gw,hr,sI,BE]
 refine bF [3,4,27] ?_
 refine bO ?_ ?_<;>intro h
 ·have h3:2≤ZX.N (gs A i):=by
   have h4:ZX.N (gs A i)=(gs A i).l.length:=rfl
   simp at h;omega
  clear h
  have hi:i<nl A:=by
   rcases Nat.lt_or_ge i (nl A)with h4 | h4
   ·exact h4
   ·have h5:=(qX A).1
    rw [show nl A=i by omega]at h5;omega
  obtain⟨t1,t2⟩:=hA.qgd nA (kK nA i) (EN A i)
  rw [show gd (gs A i)=gs A (i+1)from rfl]at t2
  generalize hg:(gs A i).l=g at *
  generalize s0:gs A (i+1)=g2 at *
  refine W.skip ?_
  refine W.block ?_
  refine W.sr ?_
  simp (disch:=omega) [gw,hr,sI,BE,hg]
  refine bF [3,4,5] ?_
  refine W.cA (fun K hK=>?_)
  simp (disch:=omega) [gw]
  refine cM t1 ?_
  refine aD t2 ?_
  simp (disch:=omega) [gw,hr,sI]
  refine hK _ ⟨k-1,_,aC _ [3,4],by omega,i+1,_,_,_,rfl,by rw [er];simp,by omega⟩
 have h3:ZX.N (gs A i)≤1:=by
  have h4:ZX.N (gs A i)=(gs A i).l.length:=rfl
  simp at h;omega
 clear h
 have hi:i=m:=by
  rcases Nat.lt_or_ge i (nl A)with h4 | h4
  ·have:=(qX A).2 i h4;omega
  ·omega
 subst hi
 have hR:L ++ [(1:ZX)]=(List.range (i+2)).map (gs A):=by
  rw [show(1:ZX)=gs A (i+1)by rw [hm,TW nA 1]]
  exact er.symm
 have g9:=ES
 generalize hz:(1:ZX)=z1 at *
 refine eH ?_
 refine j1 ?_
 refine aD g9 ?_
 simp (disch:=omega) [gw,hr,sI]
 refine bF [3,4] ?_
 clear hr BE e1 er hL sI
 have hRl:(L ++ [z1]).length=i+2:=by rw [hR];simp
 have BE:∀j,j<i+2→nth (L ++ [z1]) j=gs A j:=fun j hj=>by rw [hR];exact kR _ hj
 generalize L ++ [z1]=R at *
 have hRt:List.take (i+2) R=R:=List.take_of_length_le (by omega)
 refine W.freeze 19 (by simp) (fun K hK=>?_)
 simp [hRt]
 refine hK _ ?_;clear hK K
 refine W.nil 3 3 46 1 (by simp) (by decide) (fun K hK=>?_)
 refine W.lw [3,4] hK ?_;clear hK K;simp
 refine aQ [3,4,6] ?_
 refine W.block ?_
 refine W.a9 (fun k σ=>∃(j ver:Nat) (rows:Pm.Rows) (clk:Nat),σ=⟨fa [(3, .own 3 ver 0 j),(4,aX zq R),(6, .int .i64 j)],rows,clk⟩∧rows 3=some ⟨ver,46,1,emap zq ((List.range j).map (wJ A))⟩∧j+k=i) i ?_ ?_
 ·exact⟨_, .refl,0,_,_,_,rfl,by simp [emap],by omega⟩
 clear rows clk ver L7 k
 rintro k _ ⟨j,ver,rows,clk,rfl,hr,hjk⟩
 have hjl:((List.range j).map (wJ A)).length=j:=by simp
 refine W.seq ?_
 refine W.sr ?_
 simp (disch:=omega) [gw,hRl]
 refine bF [3,4,6,50] ?_
 refine bO ?_ ?_<;>intro h
 ·have hj:j<i:=by simp at h;omega
  clear h
  have er:(List.range (j+1)).map (wJ A)=(List.range j).map (wJ A) ++ [wJ A j]:=by rw [List.range_succ,List.map_append];rfl
  have n0:=BE j (by omega)
  have n1:=BE (j+1) (by omega)
  have n2:=BE (j+2) (by omega)
  have l0:j<R.length:=by omega
  have l1:j+1<R.length:=by omega
  have l2:j+2<R.length:=by omega
  have e1:((j:Int)+1).toNat=j+1:=by omega
  have e2:((j:Int)+2).toNat=j+2:=by omega
  obtain⟨d1,q1⟩:=hA.qd h1 nA (kK nA j) (kK nA (j+1)) (EN A j) (sU _)
  obtain⟨d2,q2⟩:=hA.qd h1 nA (kK nA (j+1)) (kK nA (j+2)) (EN A (j+1)) (sU _)
  obtain⟨d3,q3⟩:=hA.qd h1 nA (fY nA j).1 (fY nA (j+1)).1 (BA nA j) (KF nA j)
  rw [show qz (gs A j) (gs A (j+1))=wz A j from rfl]at d1 q1
  rw [show qz (gs A (j+1)) (gs A (j+2))=wz A (j+1)from rfl]at d2 q2
  rw [show qz (wz A j) (wz A (j+1))=wJ A j from rfl]at d3 q3
  have h0:(nth R j).l=(gs A j).l:=by rw [n0]
  have ZZ:(nth R (j+1)).l=(gs A (j+1)).l:=by rw [n1]
  have h2':(nth R (j+2)).l=(gs A (j+2)).l:=by rw [n2]
  generalize (gs A j).l=g0 at *
  generalize (gs A (j+1)).l=g1 at *
  generalize (gs A (j+2)).l=g2 at *
  generalize (wz A j).l=w0 at *
  generalize (wz A (j+1)).l=w1 at *
  generalize hF:wJ A j=F at *
  generalize hac:(List.range j).map (wJ A)=acc at *
  refine iS ?_
  refine W.sd ?_
  simp (disch:=omega) [gw,h0,ZZ,e1]
  refine c7 [3,4,6,7] d1 ?_
  refine W.sd ?_
  simp (disch:=omega) [gw,ZZ,h2',e1,e2]
  refine c7 [3,4,6,7,9] d2 ?_
  refine j1 ?_
  refine cM q1 ?_
  refine cM q2 ?_
  refine c7 [3,4,6,11] d3 ?_
  refine W.cA (fun K hK=>?_)
  simp (disch:=omega) [gw]
  refine aD q3 ?_
  simp (disch:=omega) [gw,hr,hjl]
  refine W.lw [3,4,6] hK ?_;clear hK K;simp
  refine W.cA (fun K hK=>?_);simp (disch:=omega) [gw]
  refine hK _ ⟨k-1,_,aC _ [3,4,6],by omega,j+1,_,_,_,rfl,by rw [er];simp,by omega⟩
 ·have hj:j=i:=by simp at h;omega
  subst hj
  generalize (List.range j).map (wJ A)=acc at *
  have K5:List.take j acc=acc:=List.take_of_length_le (by omega)
  refine eH ?_
  refine W.sr ?_
  simp (disch:=omega) [gw,hr,K5]
  refine bF [2] ?_
  refine W.ret ?_
  simp [go,hr,K5]
theorem BF{s n:Nat}{a:ZX}(h:tU s n a)(h1:1≤s):aZ env.P 158 [PI a.l] (PI (sq a).l):=by
 have hqb:=h.sW
 have hn:=h.hn
 have hF:=BD h h1
 have hA:=h.nfz
 have hNa:ZX.N a=a.l.length:=rfl
 have hsq:ZX.N a≠0→sq a=pf (nf a) (fun _=>true) (nl (nf a)):=fun h0=>by
  have nA:=mC (ZX.aK.2 (Nat.pos_of_ne_zero h0))
  unfold sq
  split
  ·rename_i h2
   rw [EP (by rw [A7];exact h2),nA.N1 (by rw [A7];exact h2)];rfl
  ·rw [aeX nA]
 have hNf:ZX.N a≠0→Nf (nf a):=fun h0=>mC (ZX.aK.2 (Nat.pos_of_ne_zero h0))
 have hle:=abJ (nf a)
 have hNA:ZX.N (nf a)≤n:=hA.bz.N
 have ak4:ZX.N a=0→(sq a).l = []:=fun h0=>by
  have h2:a=0:=Classical.byContradiction fun h3=>by have:=ZX.aK.1 h3;omega
  unfold sq
  rw [if_pos (by omega),h2,jT];rfl
 generalize nf a=A at *
 refine cL [(0,PI a.l)] Tryz.func158 ?_
 refine aB [0] ?_
 refine aQ [0,2,8] ?_
 refine W.cond ⟨_,rfl,fun h3=>?_,fun h3=>?_⟩
 ·have h0:ZX.N a=0:=by rw [hNa];simp at h3;rw [h3];rfl
  rw [ak4 h0]
  refine aB [2] ?_
  refine W.Q8 2 (PI []) (by simp) rfl (fun K hK=>?_)
  refine W.lw [2] hK ?_;clear hK K;simp
  exact cV
 have h0:ZX.N a≠0:=by rw [hNa];simp at h3;intro h4;exact h3 (List.eq_nil_of_length_eq_zero h4)
 have nA:=hNf h0
 rw [hsq h0]
 clear h3 hsq ak4 hNf
 have hmul:∀i,aZ env.P 199 [PI (pf A (fun _=>true) i).l,PI (wJ A i).l] (PI (pf A (fun _=>true) (i+1)).l):=fun i=>by
  have b1:=hA.dv nA (yV nA (fun _=>true) i) (Y9 nA _ i)
  have b2:=hA.dv nA (A9 nA i).1 (Y8 nA i)
  exact MO _ _ _ _ _ _ b1 b2 (by show _<137438953472;omega)
 obtain⟨m,hm⟩:∃m,m=nl A:=⟨_,rfl⟩
 have hfl:fl A=(List.range m).map (wJ A):=by rw [hm];rfl
 rw [←hm]at hle ⊢
 rw [hfl]at hF
 have FT:((List.range m).map (wJ A)).length=m:=by simp
 have BE:∀i,i<m→(nth ((List.range m).map (wJ A)) i).l=(wJ A i).l:=fun i hi=>by rw [kR _ hi]
 generalize (List.range m).map (wJ A)=L at *
 have h1:=ES
 rw [show(1:ZX)=pf A (fun _=>true) 0 from rfl]at h1
 generalize hg:pf A (fun _=>true) 0=g0 at *
 refine W.skip ?_
 refine bT [0,3] h1 ?_
 refine bT [3,4] hF ?_
 refine W.seq ?_
 refine W.sr ?_
 simp (disch:=omega) [gw,FT]
 refine bF [3,4,14,15] ?_
 subst hg
 refine W.block ?_
 refine W.a9 (fun k σ=>∃(i:Nat) (rows:Pm.Rows) (clk:Nat),σ=⟨fa [(3,PI (pf A (fun _=>true) i).l),(4,aX zq L),(14, .int .i64 m),(15, .int .i64 i)],rows,clk⟩∧i+k=m) m ?_ ?_
 ·exact⟨_, .refl,0,_,_,rfl,by omega⟩
 rintro k _ ⟨i,rows,clk,rfl,L7⟩
 refine cH [3,4,14,15,16] ?_
 refine bO ?_ ?_<;>intro h
 ·have hi:i<m:=by simp at h;omega
  have hiL:i<L.length:=by omega
  have ht:=hmul i
  have VH:=BE i hi
  generalize s0:pf A (fun _=>true) (i+1)=g2 at *
  generalize pf A (fun _=>true) i=g at *
  refine iS ?_
  refine aB [3,4,5,14,15] ?_
  refine W.cA (fun K hK=>?_)
  simp (disch:=omega) [gw,VH]
  refine cM ht ?_
  refine W.lw [3,4,14,15] hK ?_;clear hK K;simp
  subst s0
  refine W.cA (fun K hK=>?_);simp (disch:=omega) [gw]
  refine hK _ ⟨k-1,_,aC _ [3,4,14,15],by omega,i+1,_,_,rfl,by omega⟩
 ·have hi:i=m:=by simp at h;omega
  subst hi
  refine eH ?_
  refine aB [2] ?_
  exact cV
abbrev R2(n d:Int):PV:=.ag [aX aO (a5 DD n.natAbs), .bool (decide (n<0)),aX aO (a5 DD d.natAbs), .bool (decide (d<0))]
theorem T7(q:Rat):RR q=R2 q.num q.den:=by
 have:decide ((q.den:Int)<0)=false:=decide_eq_false (by omega)
 show PV.ag (re q)=PV.ag _
 rw [this];rfl
def hm(n d:Int):List Int→Int × Int
 | []=>(0,1)
 | a::l=>((hm n d l).1*n+a*(hm n d l).2,(hm n d l).2*d)
def KJ(x:List Int)(n d:Int):Int:=(hm n d x).1.sign
@[simp] theorem ZF:a5 DD 1 = [1]:=by decide
end Go.Proofs.YtiobceocpabjdaaGreat
namespace Go.Proofs.YtiobceocpabjdaaGreat
open Go Pm
open ZX hiding N W
theorem T8{y:List Int}(cy:Cn y)(hy:0<y.length):∀(n:Nat) (x:List Int),Cn x→x.length<n → ∃(m:Int) (q:List Int),0<m ∧ ∀t,m*V t x=V t q*V t y+V t (rq y n x)
 | 0,x,_,h=>by omega
 | n+1,x,cx,h=>by
  rw [rq]
  split
  ·exact⟨1,[],by decide,fun t=>by simp [V]⟩
  ·rename_i h1
   have hl:=qZ hy (show y.length≤x.length by omega)
   obtain⟨m,q,hm,h4⟩:=T8 cy hy n (NH y x) (Cn.dJ _ _) (by omega)
   have IF:=dR cy hy
   refine⟨m*(lead y).natAbs,iP q (aL (nE (x.length-y.length) (BC (lead y)*lead x)) m),Int.mul_pos hm (by omega),fun t=>?_⟩
   have h5:=abK t y x
   have h6:=h4 t
   rw [pH,b7,kX]
   have:m*((lead y).natAbs:Int)*V t x=m*(((lead y).natAbs:Int)*V t x):=by grind
   rw [this,h5]
   grind
theorem T9{x y s q:List Int}{D:Int}(cx:Cn x)(cy:Cn y)(hy:0<y.length)(cs:Cn s)(hs:s.length<y.length)(hD:0<D)(hv:∀t,D*V t x=V t q*V t y+V t s):D6 x y=jL s:=by
 have hV:=fun t=>RL t x y
 have hl:=AA (a:=x) hy
 obtain⟨c1,c2⟩:=u6 (b:=y) cx
 rw [SZ cx]
 have IF:=dR cy hy
 have yG:lead y^gM x y≠0:=Int.pow_ne_zero IF
 have hsg:=SX (lead y) (gM x y)
 have hsq:=SY (lead y) (gM x y)
 generalize sg (lead y) (gM x y)=g at *
 generalize (sG x y).1=p at *
 generalize (sG x y).2=r at *
 generalize hc:lead y^gM x y=c at *
 have hm:0<((lead y).natAbs:Int)^gM x y:=Int.pow_pos (by omega)
 generalize ((lead y).natAbs:Int)^gM x y=m at *
 have e:∀t,V t (dJ (s.map (· * c)) (r.map (· * D)))=V t y*V t (dJ (p.map (· * D)) (q.map (· * c))):=fun t=>by
  have h1:=hv t
  have h2:=hV t
  rw [fS,fS,dH,dH,dH,dH]
  have h3:c*(D*V t x)=c*(V t q*V t y+V t s):=by rw [h1]
  have h4:D*(V t p*V t y+V t r)=D*(c*V t x):=by rw [h2]
  grind
 have h1:=yE (Cn.dJ _ _) cy hy e (by
  have:=CZ (s.map (· * c)) (r.map (· * D))
  simp only [List.length_map]at this
  omega)
 have J0:D≠0:=by omega
 have e1:s.map (· * c)=r.map (· * D):=Cn.ext (i0 cs yG) (i0 c2 J0) fun t=>EG (by rw [h1];rfl) t
 rw [←sL cs hm,←sL (Cn.aL r g) hD]
 congr 1
 refine Cn.ext (Cn.aL _ _) (Cn.aL _ _) fun t=>?_
 have e2:V t s*c=V t r*D:=by rw [←dH,e1,dH]
 rw [b7,b7,b7]
 have h5:m=g*c:=by rw [hsg];grind
 rw [h5]
 have:V t s*(g*c)=g*(V t s*c):=by grind
 rw [this,e2];grind
def wL(a:ZX):ZX:=⟨jL a.l,Cn.cut _⟩
def nx(a b:ZX):ZX:=⟨fC (jL (rz a b).l),Cn.fC _⟩
theorem ZG{a b:ZX}(hb:b≠0):ZX.N (nx a b)<ZX.N b:=by
 obtain⟨_,hN,_⟩:=q9 (a:=a) hb
 have h1:=EA (jL (rz a b).l)
 have h2:=lB (rz a b).l
 have h3:ZX.N (nx a b)=(fC (jL (rz a b).l)).length:=rfl
 have h4:ZX.N (rz a b)=(rz a b).l.length:=rfl
 omega
theorem UA{s n:Nat}{a b:ZX}(ha:BZ s n a)(hb:BZ s n b)(h0:b≠0):BZ (s+(ZX.N a+1-ZX.N b)*(s+n+1)) n (nx a b):=Bd.fC (jF (KI ha hb h0))
def xH:Nat→ZX→ZX→List ZX
 | 0,_,_=>[]
 | k+1,a,b=>if ZX.N b=0 then []else b::xH k b (nx a b)
theorem lC(k:Nat)(a:ZX):xH k a 0 = []:=by cases k<;>simp [xH,show ZX.N 0=0 by decide]
theorem wM:∀ {k j:Nat} {a b:ZX},ZX.N b≤k→ZX.N b≤j→xH k a b=xH j a b
 | 0,j,a,b,h,_=>by
  have:b=0:=Classical.byContradiction fun h0=>by have:=ZX.aK.1 h0;omega
  rw [this,lC,lC]
 | k+1,0,a,b,_,h=>by
  have:b=0:=Classical.byContradiction fun h0=>by have:=ZX.aK.1 h0;omega
  rw [this,lC,lC]
 | k+1,j+1,a,b,h1,h2=>by
  rw [xH,xH]
  split
  ·rfl
  ·rename_i h0
   have:=ZG (a:=a) (ZX.aK.2 (Nat.pos_of_ne_zero h0))
   rw [wM (k:=k) (j:=j) (by omega) (by omega)]
def OG(f:ZX):List ZX:=f::xH (ZX.N f) f (wL (dD f))
theorem ae6(x:List Int):PP (qd x 1)=PI x:=by rw [AS];show PV.sl (emap re (qs x))=PV.sl (emap ri x);rw [vX]
theorem sX{s n:Nat}{a:ZX}(b:BZ s n a)(xF:1≤s)(hs:s≤YY)(hn:n<1099511627776):aZ env.P 159 [PI a.l] (PI (wL a).l):=by
 have:=EC a.l 1 (by decide) b (by exact Nat.le_trans (cX (k:=1) (by decide) (by decide)) xF) a.c xF hs hn
 rw [show((1:Nat):Int)=1 from rfl,ae6]at this
 exact this
structure Ch(s n:Nat)(f:ZX):Prop where
 bz:BZ s n f
 hn:n≤20
 VH:1≤n
 hC:(s+5+n+1)*4^n≤4500000000
theorem Ch.pot{s n:Nat}{f:ZX}(h:Ch s n f):BB 4500000000 n (s+5) f (wL (dD f)):=by
 have h1:=nU f
 have h2:ZX.N (wL (dD f))≤ZX.N (dD f):=lB _
 have h3:=h.bz.N
 have hn:=h.VH
 unfold BB
 split
 ·exact Nat.le_trans (Nat.mul_le_mul_left _ (Nat.pow_le_pow_right (by decide) h3)) h.hC
 ·have h4:ZX.N (wL (dD f))=0:=by omega
  have h5:=h.hC
  rw [h4,Nat.pow_zero,Nat.mul_one]
  exact Nat.le_trans (Nat.mul_le_mul_left _ (show 2≤4^n from Nat.le_trans (by decide) (Nat.pow_le_pow_right (n:=4) (by decide) hn))) h5
theorem UB{l:List ZX}{a:ZX}{i:Nat}(h:i<l.length):nth (l ++ [a]) i=nth l i:=by
 simp only [nth,List.getElem?_append_left h]
theorem ET{s n:Nat}{a f:ZX}(hS:aZ env.P 158 [PI a.l] (PI f.l))(h:Ch s n f)(h1:1≤s):aZ env.P 81 [PI a.l] (aX zq (OG f)):=by
 have hn:=h.hn
 have hp:=h.pot
 have hs:=hp.le
 have bd:BZ (s+5) n (dD f):=h.bz.dD (by omega)
 have d1:=qY h.bz (by show s≤137438953472;omega) (by omega)
 have d2:=sX bd (by omega) (by show s+5≤137438953472;omega) (by omega)
 have b2:BZ (s+5) n (wL (dD f)):=jF bd
 have b1:BZ (s+5) n f:=h.bz.mono (by omega) (Nat.le_refl _)
 have JQ:ZX.N (wL (dD f))≤ZX.N f:=Nat.le_trans (lB _) (Nat.le_trans (nU f) (by omega))
 have hc:OG f=f::xH (ZX.N f) f (wL (dD f)):=rfl
 rw [wM JQ (Nat.le_refl _)]at hc
 generalize hC:OG f=C at *
 generalize wL (dD f)=g0 at *
 generalize (dD f).l=dl at *
 have hfl:f.l=f.l:=rfl
 refine cL [(0,PI a.l)] Tryz.func81 ?_
 refine aB [0] ?_
 refine bT [3] hS ?_
 refine W.SS 1 rfl rfl (fun K hK=>?_)
 simp (disch:=omega) [gw]
 refine W.lw [3,4] hK ?_;clear hK K;simp
 refine j1 ?_
 refine cM d1 ?_
 refine c7 [4,5] d2 ?_
 refine W.seq ?_
 refine W.block ?_
 refine W.a9 (fun k σ=>∃(L:List ZX) (x g:ZX) (i ver s:Nat) (rows:Pm.Rows) (clk:Nat),σ=⟨fa [(4, .own 9 ver 0 (i+1)),(5,PI g.l)],rows,clk⟩∧rows 9=some ⟨ver,46,1,emap zq L⟩∧L.length=i+1∧nth L i=x ∧
  L++xH k x g=C∧k=ZX.N g∧BZ s n x∧BZ s n g∧1≤s∧BB 4500000000 n s x g∧i+ZX.N g≤20) (ZX.N g0) ?_ ?_
 ·exact⟨_, .refl,[f],f,g0,0,_,s+5,_,_,rfl,by simp [emap],rfl,rfl,hc.symm,rfl,b1,b2,by omega,hp,by have:=b2.N;omega⟩
 rintro k _ ⟨L,x,g,i,ver,s,rows,clk,rfl,hr,hL,hx,hcc,rfl,bx,bg,h1,hp,hiN⟩
 have hs:=hp.le
 have XV:=bx.len
 have hlg:=bg.len
 have hLl:(emap zq L).length=i+1:=by simp [emap,hL]
 refine aQ [4,5,15] ?_
 refine bO ?_ ?_<;>intro h
 ·have hg:g≠0:=ZX.aK.2 (by show 0<g.l.length;simp at h;omega)
  obtain⟨RG,hN,_⟩:=q9 (a:=x) hg
  have br:=KI bx bg hg
  have hmul:(x.l.length+1-g.l.length+1)*(s+n+1)≤22*4500000000:=Nat.mul_le_mul (by omega) (by omega)
  have abM:(ZX.N x+1-ZX.N g)*(s+n+1)≤22*4500000000:=Nat.mul_le_mul (by have:ZX.N x=x.l.length:=rfl;omega) (by omega)
  have hR:=yW (s:=s) (s':=s) (N:=n) bx bg x.c g.c (ZX.aK.1 hg) (by omega) (by show _<137438953472;omega)
  rw [←RG]at hR
  have hZ:=sX br (by omega) (by show _≤137438953472;omega) (by omega)
  have hNg:=yN (wL (rz x g)).l ((jF br).mono (by show _≤137438953472;omega) (by omega))
  have e3:fC (wL (rz x g)).l=(nx x g).l:=rfl
  rw [e3]at hNg
  have JQ:=ZG (a:=x) hg
  have VG:=hp.step JQ
  have bn:=UA bx bg hg
  have hi:i<L.length:=by omega
  have hx2:nth (L ++ [g]) i=x:=by rw [UB hi];exact hx
  have ak6:i<(L ++ [g]).length:=by simp;omega
  have hch:L ++ [g]++xH (ZX.N (nx x g)) g (nx x g)=C:=by
   rw [←hcc]
   obtain⟨j,hj⟩:∃j,ZX.N g=j+1:=⟨ZX.N g-1,by have:=ZX.aK.1 hg;have:ZX.N g=g.l.length:=rfl;omega⟩
   rw [hj,xH,if_neg (by omega),wM (k:=j) (j:=ZX.N (nx x g)) (by omega) (Nat.le_refl _)]
   simp
  generalize (rz x g).l=rl at *
  generalize (wL (rz x g)).l=pl at *
  generalize hnx:nx x g=nn at *
  have hnl:nn.l=nn.l:=rfl
  refine W.skip ?_
  refine W.block ?_
  refine W.sr ?_
  simp (disch:=omega) [gw,hr,hLl]
  refine bF [4,5] ?_
  have e1:((i:Int)+1+1-2).toNat=i:=by omega
  refine W.cA (fun K hK=>?_)
  simp (disch:=omega) [gw,e1,ak6,hx2]
  refine cM hR ?_
  refine cM hZ ?_
  refine cM hNg ?_
  refine hK _ ⟨ZX.N nn,_,aC _ [4,5],JQ,L ++ [g],g,nn,i+1,_,_,_,_,rfl,by simp,by simp [hL],?_,hch,rfl,bg.mono (by omega) (Nat.le_refl _),bn,by omega,VG,by omega⟩
  rw [dP (by simp;omega)]
  simp [←hL]
 ·have hg:g=0:=by
   refine Classical.byContradiction fun h0=>?_
   have h1:=ZX.aK.1 h0
   have h2:ZX.N g=g.l.length:=rfl
   simp at h;rw [h2,h]at h1;simp at h1
  subst hg
  rw [lC,List.append_nil]at hcc
  subst hcc
  have K5:List.take (i+1) L=L:=List.take_of_length_le (by omega)
  refine eH ?_
  refine aB [2] ?_
  refine W.ret ?_
  simp [go,hr,hLl,K5]
theorem UC{a:ZX}(ha:a≠0):Nf (sq a)∧dv (sq a) (nf a):=by
 have nA:=mC ha
 unfold sq
 split
 ·exact⟨nA,dv.refl _⟩
 ·exact⟨(fY nA 0).1,BA nA 0⟩
theorem tU.sqb{s n:Nat}{a:ZX}(h:tU s n a)(ha:a≠0):BZ (qb s n) n (sq a):=h.nfz.dv (mC ha) (UC ha).1 (UC ha).2
theorem tU.ch{s n:Nat}{a:ZX}(h:tU s n a)(ha:a≠0)(VH:1≤n):Ch (qb s n) n (sq a):=⟨h.sqb ha,h.hn,VH,Nat.le_trans (Nat.mul_le_mul_right _ (by omega)) h.hC⟩
theorem wN{s n:Nat}{a:ZX}(h:tU s n a)(ha:a≠0)(VH:1≤n)(h1:1≤s):aZ env.P 81 [PI a.l] (aX zq (OG (sq a))):=
 ET (BF h h1) (h.ch ha VH) (by unfold qb;omega)
abbrev AP(x:List Int)(c:List ZX)(n d:Int):PV:=.ag [PI x,aX zq c,aX aO (a5 DD n.natAbs), .bool (decide (n<0)),aX aO (a5 DD d.natAbs), .bool (decide (d<0)),aX aO (a5 DD n.natAbs), .bool (decide (n<0)),aX aO (a5 DD d.natAbs), .bool (decide (d<0))]
theorem nV{v:Int}{k:Nat}(h:v.natAbs<2^k):sz 2 v≤k:=cX (by decide) h
theorem xI{n d:Int}(hn:n.natAbs<65536)(hd:d.natAbs<65536)(h0:d≠0){x:ZX}(hx:x.l = [-n,d]):aZ env.P 41 [R2 n d] (AP [-n,d] (OG (sq x)) n d):=by
 have bz:BZ 16 2 x:=⟨by rw [hx];simp,fun c hc=>by
  rw [hx]at hc
  simp only [List.mem_cons,List.not_mem_nil,or_false]at hc
  rcases hc with rfl | rfl
  ·exact nV (by rw [Int.natAbs_neg];exact hn)
  ·exact nV hd⟩
 have hL:tU 16 2 x:=⟨bz,by decide,by decide,by decide⟩
 have hc:=wN hL (ZX.aK.2 (by show 0<x.l.length;rw [hx];simp)) (by decide) (by decide)
 rw [hx]at hc
 generalize OG (sq x)=C at *
 have zs:∀ {v:Int},v.natAbs<65536→sz 2 v≤16:=fun h=>nV h
 have hO:=lT 1 (by decide) (by decide)
 have m1:=jD n 1 (by have:=zs hn;simp only [Y];omega) (by decide)
 have m2:=jD d 1 (by have:=zs hd;simp only [Y];omega) (by decide)
 have hng:=DI (n:Rat)
 rw [i5]at m1 m2
 rw [show -((n:Int):Rat)=((-n:Int):Rat)by simp]at hng
 rw [show RR ((n:Int):Rat) = .ag (ri n)from congrArg PV.ag (fJ n)]at m1 hng
 rw [show RR ((d:Int):Rat) = .ag (ri d)from congrArg PV.ag (fJ d)]at m2
 rw [show RR ((-n:Int):Rat) = .ag (ri (-n))from congrArg PV.ag (fJ (-n))]at hng
 have e1:PI [-n,d] = .sl [ri (-n),ri d]:=rfl
 rw [e1]at hc
 unfold AP
 rw [e1]
 clear e1 hL bz hx x
 generalize -n=m at *
 simp only [aep,ZF]at *
 refine cL [(0,R2 n d)] Tryz.func41 ?_
 refine aB [1,2] ?_
 refine W.sd ?_
 simp (maxSteps:=4000000) (disch:=omega) [gw]
 refine aD hO ?_
 simp (maxSteps:=4000000) (disch:=omega) [gw]
 refine aD m1 ?_
 simp (maxSteps:=4000000) (disch:=omega) [gw]
 refine aD hng ?_
 simp (maxSteps:=4000000) (disch:=omega) [gw]
 refine aD hO ?_
 simp (maxSteps:=4000000) (disch:=omega) [gw]
 refine aD m2 ?_
 simp (maxSteps:=4000000) (disch:=omega) [gw]
 refine bF [1,2,3] ?_
 refine W.sd ?_
 simp (maxSteps:=4000000) (disch:=omega) [gw]
 refine aD hc ?_
 simp (maxSteps:=4000000) (disch:=omega) [gw]
 try (refine bU (by kernel_rfl) ?_)
 try simp (maxSteps:=4000000) (disch:=omega) [gw]
 refine bF [2] ?_
 exact cV
theorem BG{n d:Int}(hn:n.natAbs<65536)(hd:d.natAbs<65536)(h0:d≠0):∃C:List ZX,aZ env.P 41 [R2 n d] (AP [-n,d] C n d):=⟨_,xI hn hd h0 (x:=⟨[-n,d],fA h0 [-n]⟩) rfl⟩
def EU(n d:Int):Nat→ZX→Int
 | 0,_=>0
 | k+1,p=>if KJ p.l n d=0 then EU n d k (dD p)else KJ p.l n d
def aft(n d:Int)(p:ZX):Int:=EU n d (ZX.N p) p
theorem yX(n d:Int):∀k,EU n d k 0=0
 | 0=>rfl
 | k+1=>by
  have h1:dD 0=0:=rfl
  have h2:KJ (0:ZX).l n d=0:=by show KJ [] n d=0;rfl
  rw [EU,if_pos h2,h1,yX n d k]
theorem NK(c:Int):aft 0 1 (of [c])=c.sign:=by
 by_cases h:c=0
 ·subst h
  show EU 0 1 (ZX.N (of [0])) (of [0])=_
  rw [show(of [0]:ZX)=0 from ZX.ext fun t=>rfl,yX];rfl
 ·have hl:(of [c]:ZX).l = [c]:=fA h []
  have hN:ZX.N (of [c])=1:=by show(of [c]).l.length=1;rw [hl];rfl
  have hs:KJ (of [c]).l 0 1=c.sign:=by
   rw [hl]
   show(0*0+c*1:Int).sign=_
   rw [Int.mul_one,Int.zero_mul,Int.zero_add]
  unfold aft
  rw [hN,EU,hs,if_neg (fun h0=>h (Int.sign_eq_zero_iff_zero.1 h0))]
theorem UD{c:Int}(h:c.natAbs<2^60):BZ 60 1 (of [c]):=Bd.cut ⟨by simp,fun x hx=>by
 simp only [List.mem_cons,List.not_mem_nil,or_false]at hx
 subst hx;exact cX (by decide) h⟩
@[simp] theorem apS{rows:Pm.Rows}{l:List PV}:pz rows (.rd l) = .rd l:=rfl
@[simp] theorem ak7{l:List PV}:cW (.rd l) = []:=rfl
end Go.Proofs.YtiobceocpabjdaaGreat
namespace Go.Proofs.YtiobceocpabjdaaGreat
open Go Pm
structure PT where
 c:RC
 id:Int
instance:Inhabited PT:=⟨⟨⟨[],[],false,[]⟩,0⟩⟩
def NL(p:PT):List PV:=[Pg p.c.x,Pg p.c.y, .bool p.c.s,aX u32 p.c.l, .int .i64 p.id]
@[simp] theorem ZH{p:PT}:NL p = [Pg p.c.x,Pg p.c.y, .bool p.c.s,aX u32 p.c.l, .int .i64 p.id]:=rfl
@[simp] theorem ae7{l:List PT}:a8 5 (emap NL l)=True:=bQ fun _=>rfl
end Go.Proofs.YtiobceocpabjdaaGreat
namespace Pm
def qv(t:Rat):List Int→Rat
 | []=>0
 | a::l=>(a:Rat)+t*qv t l
namespace ZX
section
variable {t:Rat}
def e(t:Rat)(x:ZX):Rat:=qv t x.l
end
end ZX
def Ab(x M:Rat):Prop := -M≤x∧x≤M
theorem Ab.mono{x M N:Rat}(h:Ab x M)(hMN:M≤N):Ab x N:=by
 obtain⟨h1,h2⟩:=h
 exact⟨by grind,by grind⟩
def EV(x:Rat):Int:=if x<0 then -1 else if 0<x then 1 else 0
theorem ZI{x:Rat}(h:x<0):EV x = -1:=if_pos h
theorem ZJ{x:Rat}(h:0<x):EV x=1:=by
 rw [EV,if_neg (by grind),if_pos h]
theorem EW:EV 0=0:=by decide
theorem NM(x:Rat):(x<0∧EV x = -1)∨(x=0∧EV x=0)∨(0<x∧EV x=1):=by
 by_cases h:x<0
 ·exact .inl ⟨h,ZI h⟩
 ·by_cases h2:0<x
  ·exact .inr (.inr ⟨h2,ZJ h2⟩)
  ·have:x=0:=by grind
   subst this
   exact .inr (.inl ⟨rfl,EW⟩)
theorem EX{x:Rat}:EV x=0↔x=0:=by
 rcases NM x with ⟨h,e⟩ | ⟨h,e⟩ | ⟨h,e⟩<;>rw [e]<;>constructor<;>intro h2<;>first | omega | grind
end Pm
namespace Pm
def vrf(p:Int):List Int→Nat
 | []=>0
 | s::l=>if s=0 then vrf p l else(if p≠0∧s≠p then 1 else 0)+vrf s l
open ZX
def sgl(t:Rat)(l:List ZX):List Int:=l.map fun p=>EV (e t p)
def vt(l:List ZX)(t:Rat):Nat:=vrf 0 (sgl t l)
def ind(a:ZX)(s t:Rat):Nat:=if e s a≠0∧EV (e t a)≠EV (e s a)then 1 else 0
end Pm
namespace Pm
open ZX hiding N W
structure Lcl(L:List ZX)(f:ZX)(B δ:Rat):Prop where
 turns:∀s t,Ab s B→Ab t B→s<t→t-s≤δ→vt L s=vt L t+ind f s t
 simple:∀s t,Ab s B→Ab t B→s<t→t-s≤δ→e s f=0→e t f≠0
theorem apU{B δ:Rat}(hδ:0<δ){P:Rat→Rat→Prop}(ht:∀a b c,a<b→b<c→P a b→P b c→P a c)(hs:∀a b,Ab a B→Ab b B→a<b→b-a≤δ→P a b){a b:Rat}(ha:Ab a B)(hb:Ab b B)(l3:a<b):P a b:=by
 have key:∀(n:Nat) (a b:Rat),Ab a B→Ab b B→a<b→b-a≤(n:Rat)*δ→P a b:=by
  intro n
  induction n with
  | zero=>intro a b _ _ h1 h2;exfalso;rw [show((0:Nat):Rat)=0 from rfl]at h2;grind
  | succ n ih =>
   intro a b ha hb h1 h2
   by_cases h3:b-a≤δ
   ·exact hs a b ha hb h1 h3
   ·have h3:=Rat.not_le.1 h3
    obtain⟨a1,a2⟩:=ha
    obtain⟨b1,b2⟩:=hb
    have hm:Ab (a+δ) B:=⟨by grind,by grind⟩
    refine ht a (a+δ) b (by grind) (by grind) (hs _ _ ⟨a1,a2⟩ hm (by grind) (by grind)) (ih _ _ hm ⟨b1,b2⟩ (by grind) ?_)
    rw [show((n+1:Nat):Rat)=(n:Rat)+1 from by rw [Rat.natCast_add];rfl]at h2
    grind
 have h1:=Rat.lt_floor_add_one ((b-a)/δ)
 have h2:0≤((b-a)/δ).floor:=Rat.le_floor_iff.2 (by
  have:=(Rat.lt_div_iff (a:=0) (b:=b-a) hδ).2 (by grind)
  show((0:Int):Rat)≤_
  rw [Rat.intCast_zero];exact Rat.le_of_lt this)
 refine key ((((b-a)/δ).floor+1).toNat) a b ha hb l3 ?_
 have h3:(((((b-a)/δ).floor+1).toNat:Nat):Rat)=((((b-a)/δ).floor+1:Int):Rat):=by
  rw [←Rat.intCast_natCast,Int.toNat_of_nonneg (by omega)]
 rw [h3]
 have h4:=(Rat.div_lt_iff hδ).1 h1
 exact Rat.le_of_lt h4
structure ZK(L:List ZX)(f:ZX):Prop where
 loc:∀B:Rat,1≤B → ∃δ,0<δ∧Lcl L f B δ
theorem ae8(a b:Rat):∃B:Rat,1≤B∧Ab a B∧Ab b B:=by
 have h1:∀x:Rat,∃B:Rat,1≤B∧Ab x B:=fun x=>by
  by_cases h:0≤x
  ·exact⟨x+1,by grind,by grind,by grind⟩
  ·exact⟨-x+1,by grind,by grind,by grind⟩
 obtain⟨A,hA,ha⟩:=h1 a
 obtain⟨B,hB,hb⟩:=h1 b
 exact⟨A+B,by grind,ha.mono (by grind),hb.mono (by grind)⟩
namespace ZK
variable {L:List ZX} {f:ZX} (h:ZK L f)
include h
theorem ak8{P:Rat→Rat→Prop}(ht:∀a b c,a<b→b<c→P a b→P b c→P a c)(hs:∀B δ,Lcl L f B δ → ∀a b,Ab a B→Ab b B→a<b→b-a≤δ→P a b){a b:Rat}(l3:a<b):P a b:=by
 obtain⟨B,hB,ha,hb⟩:=ae8 a b
 obtain⟨δ,hδ,hl⟩:=h.loc B hB
 exact apU hδ ht (hs B δ hl) ha hb l3
theorem ae9{a b:Rat}(l3:a≤b):vt L b≤vt L a:=by
 rcases Rat.le_iff_lt_or_eq.1 l3 with h1 | rfl
 ·refine h.ak8 (P:=fun a b=>vt L b≤vt L a) (fun a b c _ _ h1 h2=>Nat.le_trans h2 h1) (fun B δ hl a b ha hb l3 hd=>?_) h1
  rw [hl.turns a b ha hb l3 hd];omega
 ·exact Nat.le_refl _
theorem flat{a b:Rat}(l3:a<b)(he:vt L a=vt L b):e b f≠0∧(e a f≠0→EV (e b f)=EV (e a f)):=by
 refine h.ak8 (P:=fun a b=>vt L a=vt L b→e b f≠0∧(e a f≠0→EV (e b f)=EV (e a f))) (fun a b c h1 h2 p1 p2 hac=>?_) (fun B δ hl a b ha hb l3 hd heq=>?_) l3 he
 ·have:=h.ae9 (Rat.le_of_lt h1)
  have:=h.ae9 (Rat.le_of_lt h2)
  obtain⟨q1,q2⟩:=p1 (by omega)
  obtain⟨q3,q4⟩:=p2 (by omega)
  exact⟨q3,fun ha=>by rw [q4 q1,q2 ha]⟩
 ·have h1:=hl.turns a b ha hb l3 hd
  have h2:ind f a b=0:=by omega
  unfold ind at h2
  by_cases h0:e a f=0
  ·exact⟨hl.simple a b ha hb l3 hd h0,fun h3=>absurd h0 h3⟩
  ·have h3:EV (e b f)=EV (e a f):=Classical.byContradiction fun h3=>by rw [if_pos ⟨h0,h3⟩]at h2;omega
   refine⟨fun h4=>h0 (EX.1 ?_),fun _=>h3⟩
   rw [←h3,h4,EW]
theorem root{s t:Rat}(FX:s<t)(h0:e t f=0):vt L t<vt L s:=by
 have h1:=h.ae9 (Rat.le_of_lt FX)
 refine Nat.lt_of_le_of_ne h1 fun h2=>?_
 exact(h.flat FX h2.symm).1 h0
end ZK
end Pm
