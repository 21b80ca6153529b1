import Derived.Test.YtiobceocpabjdaaGreatZae
import Derived.Test.YtiobceocpabjdaaGreatZal
set_option linter.unusedSimpArgs false
set_option linter.unusedVariables false
namespace Go.Proofs.YtiobceocpabjdaaGreat
open Go Pm
open ZX hiding N W
structure Nf(a:ZX):Prop where
 ne:a≠0
 g:bN a.l=1
 l:0<lead a.l
theorem uI{a:ZX}(h:a≠0):a.l ≠ []:=fun e=>by
 have:=aE.1 h
 have h2:ZX.N a=a.l.length:=rfl
 rw [h2,e]at this;simp at this
theorem anG(x:List Int):Cn (rQ x):=Cn.cut _
def nf(a:ZX):ZX:=⟨rQ a.l,anG _⟩
theorem kR:nf 0=0:=ZX.ext fun t=>rfl
theorem NP{a:ZX}(ha:a≠0):K (lL a.l)*nf a=a:=ZX.ext fun t=>by
 rw [eD,wB]
 conv=>rhs;rw [←Y6 a.c (uI ha)]
 rw [cV,Int.mul_comm];rfl
theorem pW{a:ZX}(ha:a≠0):lL a.l≠0:=R5 a.c (uI ha)
theorem ajY{a:ZX}(ha:a≠0):nf a≠0:=fun h=>ha (by rw [←NP ha,h];grind)
theorem jB{a:ZX}(ha:a≠0):Nf (nf a):=⟨ajY ha,ahb a.c (uI ha),ac2 a.c (uI ha)⟩
theorem Nf.nfe{a:ZX}(h:Nf a):nf a=a:=by
 have h1:lL a.l=1:=by
  unfold lL
  rw [if_neg (by have:=h.l;omega),h.g];rfl
 have:=NP h.ne
 rw [h1]at this
 rw [←this]
 conv=>lhs;rw [this]
 show _=(1:ZX)*_
 grind
theorem adm{c:Int}(hc:c≠0)(a:ZX):ZX.N (K c*a)=ZX.N a:=by
 by_cases ha:a=0
 ·rw [ha,show K c*(0:ZX)=0 by grind]
 ·rw [k9 (pB hc) ha,N_K hc];have:=aE.1 ha;omega
theorem xT(a:ZX):ZX.N (nf a)=ZX.N a:=by
 by_cases ha:a=0
 ·rw [ha,kR]
 ·have:=adm (pW ha) (nf a)
  rw [NP ha]at this
  exact this.symm
theorem K_l{c:Int}(hc:c≠0)(a:ZX):(K c*a).l=a.l.map (· * c):=by
 refine Cn.ext (K c*a).c (lJ a.c hc) fun t=>?_
 rw [eD,wB,eA,Int.mul_comm]
theorem adn{c:Int}(hc:c≠0){a:ZX}(ha:a≠0):lead (K c*a).l=c*lead a.l:=by
 have h:(K c*a).l=bQ (K c).l a.l:=rfl
 have hK:(K c).l = [c]:=by show aQ [c] = [c];exact jH hc []
 rw [h,xH (K c).c a.c (by rw [hK];simp) (aE.1 ha),hK]
 rfl
theorem Nf.I8{a b:ZX}(ha:Nf a)(hb:Nf b){c d:Int}(hc:c≠0)(hd:d≠0)(e:K c*a=K d*b):a=b:=by
 have h1:c.natAbs=d.natAbs:=by
  have h2:bN (K c*a).l=bN (K d*b).l:=by rw [e]
  rw [K_l hc,K_l hd,lK,lK,ha.g,hb.g]at h2
  omega
 have h3:c*lead a.l=d*lead b.l:=by rw [←adn hc ha.ne,←adn hd hb.ne,e]
 have h4:c=d:=by
  rcases Int.natAbs_eq_natAbs_iff.1 h1 with h5 | h5
  ·exact h5
  ·exfalso
   subst h5
   have hl:=ha.l
   have KH:=hb.l
   rcases Int.lt_or_gt_of_ne hd with h6 | h6
   ·have:=Int.mul_pos (show 0 < -d by omega) hl
    have:=Int.mul_neg_of_neg_of_pos h6 KH
    omega
   ·have:=Int.mul_neg_of_neg_of_pos (show -d<0 by omega) hl
    have:=Int.mul_pos h6 KH
    omega
 subst h4
 exact ZX.cancel (pB hc) e
theorem ahn{a b:ZX}{c d:Int}(ha:a≠0)(hc:c≠0)(hd:d≠0)(e:K c*a=K d*b):nf a=nf b:=by
 have hb:b≠0:=fun h=>by
  rw [h,show K d*(0:ZX)=0 by grind]at e
  exact oK (pB hc) ha e
 refine Nf.I8 (jB ha) (jB hb) (c:=c*lL a.l) (d:=d*lL b.l) (Int.mul_ne_zero hc (pW ha)) (Int.mul_ne_zero hd (pW hb)) ?_
 rw [←pC,←pC]
 have h1:=NP ha
 have h2:=NP hb
 grind
theorem NQ(a:ZX):nf (nf a)=nf a:=by
 by_cases ha:a=0
 ·rw [ha,kR,kR]
 ·exact(jB ha).nfe
theorem GM(a:ZX):dv a (nf a)∧dv (nf a) a:=by
 by_cases ha:a=0
 ·rw [ha,kR];exact⟨dv.refl 0,dv.refl 0⟩
 ·have h:=NP ha
  exact⟨⟨lL a.l,pW ha,1,by rw [h];grind⟩,⟨1,by decide,K (lL a.l),by rw [h];show(1:ZX)*a=a;grind⟩⟩
theorem rU{a b:ZX}(h1:dv a b)(h2:dv b a):nf a=nf b:=by
 by_cases ha:a=0
 ·subst ha;rw [AD h1]
 ·obtain⟨c,hc,q,e⟩:=h2
  have h3:=h1.nD (fun hb=>ha (by subst hb;exact AD ⟨c,hc,q,e⟩))
  have h4:=dv.nD ⟨c,hc,q,e⟩ ha
  obtain⟨hq,hb⟩:=mN hc ha e
  have h5:=adm hc a
  rw [e,k9 hq hb]at h5
  have:=aE.1 hq
  have:=aE.1 hb
  obtain⟨d,hd,rfl⟩:=lA (x:=q) (by omega)
  exact ahn ha hc hd e
theorem Nf.one:Nf 1:=⟨xP,by decide,by decide⟩
theorem Nf.mul{a b:ZX}(ha:Nf a)(hb:Nf b):Nf (a*b):=by
 refine⟨oK ha.ne hb.ne,?_,?_⟩
 ·show bN (bQ a.l b.l)=1
  rw [ac1 a.c b.c (uI ha.ne) (uI hb.ne),ha.g,hb.g]
 ·show 0<lead (bQ a.l b.l)
  rw [xH a.c b.c (aE.1 ha.ne) (aE.1 hb.ne)]
  exact Int.mul_pos ha.l hb.l
theorem VH{p a:ZX}(hp:oL p)(ha:a≠0):mu p (nf a)=mu p a:=by
 conv=>rhs;rw [←NP ha]
 rw [rT hp (pB (pW ha)) (ajY ha),ZF hp (pW ha)];omega
theorem Nf.rV{a b:ZX}(ha:Nf a)(hb:Nf b)(h:∀p,oL p→mu p a=mu p b):a=b:=by
 rw [←ha.nfe,←hb.nfe]
 exact rU ((j2 ha.ne hb.ne).2 fun p hp=>by have:=h p hp;omega) ((j2 hb.ne ha.ne).2 fun p hp=>by have:=h p hp;omega)
theorem Nf.quo{a b:ZX}(ha:Nf a)(hb:Nf b)(h:dv b a):∃w,Nf w∧a=w*b:=by
 obtain⟨c,hc,q,e⟩:=h
 obtain⟨hq,_⟩:=mN hc ha.ne e
 refine⟨nf q,jB hq,Nf.I8 ha ((jB hq).mul hb) hc (pW hq) ?_⟩
 have:=NP hq
 grind
theorem Nf.exact{a b w:ZX}(hb:Nf b)(e:a=w*b):exact a.l b.l=some w.l:=by
 subst e
 exact R7 w.c b.c (aE.1 hb.ne)
theorem Nf.N1{a:ZX}(ha:Nf a)(h:ZX.N a≤1):a=1:=by
 obtain⟨c,hc,rfl⟩:=lA (x:=a) (by have:=aE.1 ha.ne;omega)
 exact Nf.I8 ha Nf.one (show (1:Int)≠0 by decide) hc (by show(1:ZX)*_=K c*1;grind)
noncomputable def gz(a b:ZX):ZX:=nf (Classical.choose (jR _ a b (Nat.le_refl _)))
theorem sN(a b:ZX):∃g,qK g a b∧gz a b=nf g:=⟨_,Classical.choose_spec (jR _ a b (Nat.le_refl _)),rfl⟩
theorem VI{g a b:ZX}(h:qK g a b):gz a b=nf g:=by
 obtain⟨g',h',e⟩:=sN a b
 rw [e]
 obtain⟨h1,h2⟩:=h'.assoc h
 exact rU h1 h2
theorem qK.at5{g g' a b:ZX}(h:qK g a b)(h1:dv g g')(h2:dv g' g):qK g' a b:=by
 obtain⟨c,hc,u,v,e⟩:=h.uv
 obtain⟨d,hd,w,e2⟩:=h1
 exact⟨h2.trans h.l,h2.trans h.r,c*d,Int.mul_ne_zero hc hd,w*u,w*v,by rw [←pC];grind⟩
theorem fG(a b:ZX):qK (gz a b) a b:=by
 obtain⟨g,h,e⟩:=sN a b
 rw [e]
 obtain⟨h1,h2⟩:=GM g
 exact qK.at5 h h1 h2
theorem at6{a b:ZX}(h:a≠0∨b≠0):gz a b≠0:=(fG a b).ne h
theorem GN{a b:ZX}(h:a≠0∨b≠0):Nf (gz a b):=by
 have h0:=at6 h
 obtain⟨g,h,e⟩:=sN a b
 rw [e]at h0 ⊢
 exact jB (fun hg=>h0 (by rw [hg,kR]))
theorem I9(a b:ZX):gz a b=gz b a:=by
 have h:=fG a b
 rw [VI h.symm]
 obtain⟨g,_,e⟩:=sN a b
 rw [e,NQ]
theorem sO(a:ZX):gz a 0=nf a:=VI (qK.zero a)
theorem NR(a:ZX):gz 0 a=nf a:=by rw [I9,sO]
theorem DB{a b a' b':ZX}(h1:dv a a')(h2:dv a' a)(h3:dv b b')(h4:dv b' b):gz a b=gz a' b':=by
 obtain⟨g,hg,e⟩:=sN a b
 rw [e,VI (hg.congr h1 h2 h3 h4)]
theorem VJ(a b:ZX):gz (nf a) b=gz a b:=DB (GM a).2 (GM a).1 (dv.refl b) (dv.refl b)
theorem SA(a b:ZX):gz a (nf b)=gz a b:=DB (dv.refl a) (dv.refl a) (GM b).2 (GM b).1
theorem JA{a b q r:ZX}{c k:Int}(hc:c≠0)(hk:k≠0)(e:K c*a=q*b+K k*r):gz a b=gz b r:=by
 obtain⟨g,hg,e2⟩:=sN b r
 rw [e2,VI (hg.at4 hc hk e)]
end Go.Proofs.YtiobceocpabjdaaGreat
namespace Go.Proofs.YtiobceocpabjdaaGreat
open Go Pm
open ZX hiding N W
open Classical in
noncomputable def qz(a b:ZX):ZX:=if h:∃w,Nf w∧a=w*b then h.choose else 0
theorem n6{a b:ZX}(ha:Nf a)(hb:Nf b)(h:dv b a):Nf (qz a b)∧a=qz a b*b:=by
 have h:=ha.quo hb h
 unfold qz
 rw [dif_pos h]
 exact h.choose_spec
theorem aj0{a b w:ZX}(hb:Nf b)(hw:Nf w)(e:a=w*b):qz a b=w:=by
 have ha:Nf a:=by rw [e];exact hw.mul hb
 obtain⟨h1,h2⟩:=n6 ha hb ⟨1,by decide,w,by rw [e];show(1:ZX)*_=_;grind⟩
 refine ZX.cancel hb.ne ?_
 have:qz a b*b=w*b:=by rw [←h2,e]
 grind
theorem ado{a b:ZX}(ha:Nf a)(hb:Nf b)(h:dv b a):exact a.l b.l=some (qz a b).l:=Nf.exact hb (n6 ha hb h).2
theorem aj1{a b p:ZX}(ha:Nf a)(hb:Nf b)(h:dv b a)(hp:oL p):mu p (qz a b)=mu p a-mu p b:=by
 obtain⟨h1,h2⟩:=n6 ha hb h
 have h3:mu p a=mu p (qz a b)+mu p b:=by
  conv=>lhs;rw [h2]
  exact rT hp h1.ne hb.ne
 omega
theorem Nf.self{a:ZX}(ha:Nf a):qz a a=1:=aj0 ha Nf.one (by grind)
theorem Nf.ay7{a:ZX}(ha:Nf a):qz a 1=a:=aj0 Nf.one ha (by grind)
noncomputable def gd(a:ZX):ZX:=gz a (bT a)
theorem VK{a:ZX}(ha:a≠0):Nf (gd a):=GN (.inl ha)
theorem zA(a:ZX):dv (gd a) a:=(fG a (bT a)).l
theorem aj2{a p:ZX}(ha:a≠0)(hp:oL p):mu p (gd a)=mu p a-1:=(fG a (bT a)).xS ha hp
theorem ay8{a:ZX}(h:2≤ZX.N a):ZX.N (gd a)<ZX.N a:=by
 have h1:=(fG a (bT a)).r.nD (I5 h)
 have h2:=n5 a
 have:ZX.N (gd a)=ZX.N (gz a (bT a)):=rfl
 omega
theorem adp:gd 1=1:=by
 unfold gd
 rw [VF,sO,Nf.one.nfe]
noncomputable def gs(a:ZX):Nat→ZX
 | 0=>a
 | k+1=>gd (gs a k)
theorem nG{a:ZX}(ha:Nf a):∀k,Nf (gs a k)
 | 0=>ha
 | k+1=>VK (nG ha k).ne
theorem GO(a:ZX):∀k,dv (gs a k) a
 | 0=>dv.refl a
 | k+1=>(zA _).trans (GO a k)
theorem VL{a p:ZX}(ha:Nf a)(hp:oL p):∀k,mu p (gs a k)=mu p a-k
 | 0=>rfl
 | k+1=>by
  show mu p (gd (gs a k))=_
  rw [aj2 (nG ha k).ne hp,VL ha hp k];omega
theorem aho{a:ZX}:∀k,ZX.N (gs a k)≤1∨ZX.N (gs a k)+k≤ZX.N a
 | 0 => .inr (Nat.le_refl _)
 | k+1=>by
  rcases aho (a:=a) k with h | h
  ·left
   show ZX.N (gz (gs a k) (bT (gs a k)))≤1
   by_cases h0:gs a k=0
   ·rw [h0,show bT (0:ZX)=0 from ZX.ext fun t=>rfl,sO,kR];decide
   ·exact Nat.le_trans ((fG _ _).l.nD h0) h
  ·rcases Nat.lt_or_ge (ZX.N (gs a k)) 2 with h2 | h2
   ·left
    show ZX.N (gz (gs a k) (bT (gs a k)))≤1
    by_cases h0:gs a k=0
    ·rw [h0,show bT (0:ZX)=0 from ZX.ext fun t=>rfl,sO,kR];decide
    ·exact Nat.le_trans ((fG _ _).l.nD h0) (by omega)
   ·right
    have:=ay8 h2
    show ZX.N (gd (gs a k))+(k+1)≤_
    omega
open Classical in
noncomputable def nl(a:ZX):Nat:=if h:∃m,ZX.N (gs a m)≤1 ∧ ∀k,k<m→2≤ZX.N (gs a k)then h.choose else 0
theorem mO(a:ZX):ZX.N (gs a (nl a))≤1 ∧ ∀k,k<nl a→2≤ZX.N (gs a k):=by
 have h:∃m,ZX.N (gs a m)≤1 ∧ ∀k,k<m→2≤ZX.N (gs a k):=by
  have key:∀n,(∃m,m≤n∧ZX.N (gs a m)≤1 ∧ ∀k,k<m→2≤ZX.N (gs a k)) ∨ ∀k,k≤n→2≤ZX.N (gs a k):=by
   intro n
   induction n with
   | zero =>
    rcases Nat.lt_or_ge (ZX.N (gs a 0)) 2 with h | h
    ·exact .inl ⟨0,Nat.le_refl _,by omega,fun k hk=>by omega⟩
    ·exact .inr fun k hk=>by rw [show k=0 by omega];exact h
   | succ n ih =>
    rcases ih with ⟨m,h1,h2⟩ | ih
    ·exact .inl ⟨m,by omega,h2⟩
    ·rcases Nat.lt_or_ge (ZX.N (gs a (n+1))) 2 with h | h
     ·exact .inl ⟨n+1,Nat.le_refl _,by omega,fun k hk=>ih k (by omega)⟩
     ·refine .inr fun k hk=>?_
      rcases Nat.lt_or_ge k (n+1)with h3 | h3
      ·exact ih k (by omega)
      ·rw [show k=n+1 by omega];exact h
  rcases key (ZX.N a)with ⟨m,_,h⟩ | h
  ·exact⟨m,h⟩
  ·have h1:=h (ZX.N a) (Nat.le_refl _)
   rcases aho (a:=a) (ZX.N a)with h2 | h2<;>omega
 unfold nl
 rw [dif_pos h]
 exact h.choose_spec
theorem NS(a:ZX):nl a≤ZX.N a:=by
 rcases Nat.eq_zero_or_pos (nl a)with h | h
 ·omega
 ·have h1:=(mO a).2 (nl a-1) (by omega)
  rcases aho (a:=a) (nl a-1)with h2 | h2<;>omega
theorem NT{a:ZX}(ha:Nf a):∀j,gs a (nl a+j)=1
 | 0=>(nG ha _).N1 (mO a).1
 | j+1=>by
  show gd (gs a (nl a+j))=1
  rw [NT ha j,adp]
noncomputable def wz(a:ZX)(k:Nat):ZX:=qz (gs a k) (gs a (k+1))
theorem gH{a:ZX}(ha:Nf a)(k:Nat):Nf (wz a k)∧gs a k=wz a k*gs a (k+1):=n6 (nG ha k) (nG ha (k+1)) (zA _)
theorem NU{a p:ZX}(ha:Nf a)(hp:oL p)(k:Nat):mu p (wz a k)=if k<mu p a then 1 else 0:=by
 rw [wz,aj1 (nG ha k) (nG ha (k+1)) (zA _) hp,VL ha hp,VL ha hp]
 split<;>omega
theorem at7{a:ZX}(ha:Nf a)(j:Nat):wz a (nl a+j)=1:=by
 rw [wz,NT ha j,Nat.add_assoc,NT ha (j+1),Nf.one.self]
theorem NV{a:ZX}(ha:Nf a)(k:Nat):dv (wz a (k+1)) (wz a k):=(j2 (gH ha _).1.ne (gH ha _).1.ne).2 fun p hp=>by
 rw [NU ha hp,NU ha hp]
 split<;>split<;>omega
noncomputable def nP(a:ZX)(k:Nat):ZX:=qz (wz a k) (wz a (k+1))
theorem AE{a:ZX}(ha:Nf a)(k:Nat):Nf (nP a k)∧wz a k=nP a k*wz a (k+1):=n6 (gH ha k).1 (gH ha (k+1)).1 (NV ha k)
theorem at8{a p:ZX}(ha:Nf a)(hp:oL p)(k:Nat):mu p (nP a k)=if mu p a=k+1 then 1 else 0:=by
 rw [nP,aj1 (gH ha k).1 (gH ha (k+1)).1 (NV ha k) hp,NU ha hp,NU ha hp]
 split<;>split<;>split<;>omega
theorem ahp{a:ZX}(ha:Nf a){k:Nat}(h:k+1=nl a):nP a k=wz a k:=by
 rw [nP,h,show nl a=nl a+0 from rfl,at7 ha 0,(gH ha k).1.ay7]
noncomputable def fl(a:ZX):List ZX:=(List.range (nl a)).map (nP a)
theorem NW{a p:ZX}(ha:Nf a)(hp:oL p):mu p a≤nl a:=by
 have h:=VL ha hp (nl a)
 have h1:=NT ha 0
 rw [Nat.add_zero]at h1
 rw [h1,I6 hp]at h
 omega
noncomputable def pf(a:ZX)(c:Nat→Bool):Nat→ZX
 | 0=>1
 | k+1=>if c k then pf a c k*nP a k else pf a c k
theorem zB{a:ZX}(ha:Nf a)(c:Nat→Bool):∀k,Nf (pf a c k)
 | 0=>Nf.one
 | k+1=>by
  rw [pf]
  split
  ·exact(zB ha c k).mul (AE ha k).1
  ·exact zB ha c k
theorem VM{a p:ZX}(ha:Nf a)(hp:oL p)(c:Nat→Bool):∀k,mu p (pf a c k)=if 1≤mu p a∧mu p a≤k∧c (mu p a-1)=true then 1 else 0
 | 0=>by
  rw [pf,I6 hp,if_neg (by omega)]
 | k+1=>by
  have ih:=VM ha hp c k
  have hf:=at8 ha hp k
  rw [pf]
  by_cases hc:c k=true
  ·rw [if_pos hc,rT hp (zB ha c k).ne (AE ha k).1.ne,ih,hf]
   by_cases h1:mu p a=k+1
   ·rw [if_pos h1,h1,Nat.add_sub_cancel,if_neg (by omega),if_pos ⟨by omega,Nat.le_refl _,hc⟩]
   ·rw [if_neg h1]
    by_cases h2:1≤mu p a∧mu p a≤k∧c (mu p a-1)=true
    ·rw [if_pos h2,if_pos ⟨h2.1,by omega,h2.2.2⟩]
    ·rw [if_neg h2,if_neg (fun h3=>h2 ⟨h3.1,by omega,h3.2.2⟩)]
  ·rw [if_neg hc,ih]
   by_cases h1:mu p a=k+1
   ·rw [h1,Nat.add_sub_cancel,if_neg (by omega),if_neg (fun h3=>hc h3.2.2)]
   ·by_cases h2:1≤mu p a∧mu p a≤k∧c (mu p a-1)=true
    ·rw [if_pos h2,if_pos ⟨h2.1,by omega,h2.2.2⟩]
    ·rw [if_neg h2,if_neg (fun h3=>h2 ⟨h3.1,by omega,h3.2.2⟩)]
noncomputable def oz(a:ZX):ZX:=pf a (fun k=>k%2==0) (nl a)
noncomputable def sz'(a:ZX):ZX:=wz a 0
theorem adq{a:ZX}(ha:Nf a):Nf (oz a):=zB ha _ _
theorem adr{a:ZX}(ha:Nf a):Nf (sz' a):=(gH ha 0).1
theorem aj4{a p:ZX}(ha:Nf a)(hp:oL p):mu p (oz a)=mu p a%2:=by
 have h:=NW ha hp
 rw [oz,VM ha hp]
 by_cases h1:1≤mu p a∧mu p a≤nl a∧((mu p a-1)%2==0)=true
 ·rw [if_pos h1]
  have:=h1.2.2
  simp only [beq_iff_eq]at this
  omega
 ·rw [if_neg h1]
  simp only [beq_iff_eq]at h1
  omega
theorem ads{a p:ZX}(ha:Nf a)(hp:oL p):mu p (sz' a)=min (mu p a) 1:=by
 rw [sz',NU ha hp]
 split<;>omega
theorem anH{a:ZX}(ha:Nf a):pf a (fun _=>true) (nl a)=sz' a:=Nf.rV (zB ha _ _) (adr ha) fun p hp=>by
 have h:=NW ha hp
 rw [VM ha hp,ads ha hp]
 by_cases h1:1≤mu p a
 ·rw [if_pos ⟨h1,h,rfl⟩];omega
 ·rw [if_neg (fun h2=>h1 h2.1)];omega
theorem NX{a:ZX}(h:ZX.N a≤1):nl a=0:=by
 rcases Nat.eq_zero_or_pos (nl a)with h1 | h1
 ·exact h1
 ·have:=(mO a).2 0 h1
  have:ZX.N (gs a 0)=ZX.N a:=rfl
  omega
def qb(h n:Nat):Nat:=h+n*(2*h+5)+1
theorem at9{a b:ZX}(ha:Nf a)(hb:Nf b)(hd:dv b a){h n:Nat}(hx:Bd 2 h n a.l)(hn:n+1≤2^h):Bd 2 (qb h n) n b.l:=by
 obtain⟨w,_,e⟩:=ha.quo hb hd
 exact anF ha.ne e hx hn
theorem adt{a b:ZX}(ha:Nf a)(hb:Nf b)(h:dv b a):dv (qz a b) a:=by
 obtain⟨_,h2⟩:=n6 ha hb h
 exact⟨1,by decide,b,by rw [ZX.ZD b,←h2];show(1:ZX)*_=_;grind⟩
theorem AF{a:ZX}(ha:Nf a)(k:Nat):dv (wz a k) a:=(adt (nG ha k) (nG ha (k+1)) (zA _)).trans (GO a k)
theorem VN{a:ZX}(ha:Nf a)(k:Nat):dv (nP a k) a:=(adt (gH ha k).1 (gH ha (k+1)).1 (NV ha k)).trans (AF ha k)
theorem JB{a:ZX}(ha:Nf a)(c:Nat→Bool)(k:Nat):dv (pf a c k) a:=(j2 (zB ha c k).ne ha.ne).2 fun p hp=>by
 rw [VM ha hp]
 split<;>omega
end Go.Proofs.YtiobceocpabjdaaGreat
namespace Go.Proofs.YtiobceocpabjdaaGreat
open Go Pm
theorem DC(v:Int):sz LL v≤sz 2 v:=dW gF (Nat.lt_of_lt_of_le (iS (b:=2) (by decide) v) (Nat.pow_le_pow_left (by decide) _))
theorem NY{h n:Nat}{x:List Int}(hx:Bd 2 h n x):Bd LL h n x:=⟨hx.len,fun c hc=>Nat.le_trans (DC c) (hx.sz c hc)⟩
instance:Inhabited ZX:=⟨0⟩
abbrev BZ(h n:Nat)(a:ZX):Prop:=Bd 2 h n a.l
theorem BZ.pb{h n:Nat}{a:ZX}(b:BZ h n a)(hh:h<1099511627775)(hn:n<1099511627775):PB a.l:=PB.of (NY b) hh hn
theorem BZ.EV{h n:Nat}{a:ZX}(b:BZ h n a)(hh:h<1099511627775)(hn:n<1099511627775):s6 (a.l.map s5):=(b.pb hh hn).EV
theorem zD(a:ZX):mS (a.l.map s5)=a.l:=by rw [ag9];exact a.c
theorem BZ.mono{h h' n n':Nat}{a:ZX}(b:BZ h n a)(hh:h≤h')(hn:n≤n'):BZ h' n' a:=Bd.mono b hh hn
theorem BZ.nf{h n:Nat}{a:ZX}(b:BZ h n a):BZ h n (nf a):=adf b
theorem BZ.N{h n:Nat}{a:ZX}(b:BZ h n a):ZX.N a≤n:=Bd.len b
theorem adu{h n:Nat}{a:ZX}(b:BZ h n a)(hh:h<1099511627774)(hn:n<1099511627774)(k:Nat)(hk:k+1<a.l.length):aF env.P 164 [.int .i64 (k:Int), .rd [Po a.l]] (I (nth a.l (k+1)*((k+1:Nat):Int))):=by
 have hlen:=b.len
 have hz:=(NY b).nth (k+1)
 have o1:=xL ((k+1:Nat):Int) (by omega) (by omega)
 have hk1:Sz ((k+1:Nat):Int):=Nat.lt_of_le_of_lt (dW (k:=2) gF (by rw [Int.natAbs_natCast];show k+1<4294967296^2;omega)) (by decide)
 have m1:=vQ (x:=nth a.l (k+1)) (y:=((k+1:Nat):Int)) (by show Pm.sz LL _<_;omega) hk1
 have e:((k:Int)+1).toNat=k+1:=by omega
 rw [Int.natCast_add,Int.natCast_one]at o1 m1
 refine cD [(0, .int .i64 (k:Int)),(1, .rd [Po a.l])] Tryz.func164 ?_
 generalize a.l=x at *
 refine aA [0,1,3] ?_
 refine W.sd ?_
 simp (disch:=omega) [gw,e]
 refine cU o1 ?_
 refine cQ [3] m1 ?_
 exact cC
theorem pY{h n:Nat}{a:ZX}(b:BZ h n a)(hh:h<1099511627774)(hn:n<1099511627774):aF env.P 85 [Po a.l] (Po (ZX.bT a).l):=by
 have hlen:=b.len
 have hc:=fun k hk=>adu b hh hn k hk
 have hE:=rL 164 rfl [.rd [Po a.l]] rfl (a.l.length-1) (by omega) (fun k=>nth a.l (k+1)*((k+1:Nat):Int)) (fun k hk=>hc k (by omega))
 have e0:aQ ((List.range (a.l.length-1)).map fun k=>nth a.l (k+1)*((k+1:Nat):Int))=(ZX.bT a).l:=rfl
 rw [e0]at hE
 generalize (ZX.bT a).l=d at *
 generalize a.l=x at *
 have e1:(if (1:Int)<(x.length:Int)then(x.length:Int)-1 else 0)=((x.length-1:Nat):Int):=by split<;>omega
 refine cD [(0,Po x)] Tryz.func85 ?_
 refine aA [1] ?_
 refine W.sr ?_
 simp (disch:=omega) [gw,e1]
 refine cQ [2] hE ?_
 exact cC
theorem SB{α:Type}{g:α→List PV}{l:List α}{c:Int}{d:List Int}(h1:aF env.P 137 [aN g l] (.dU [I c,Po d])):aF env.P 140 [aN g l] (Po d):=by
 refine cD [(0,aN g l)] Tryz.func140 ?_
 refine aA [0] ?_
 refine aR [4] h1 ?_
 refine aA [2] ?_
 exact cC
theorem mU{h n:Nat}{a:ZX}(b:BZ h n a)(hh:h<1099511627774)(hn:n<1099511627774):aF env.P 140 [Po a.l] (Po (nf a).l):=by
 have h1:=tO (a.l.map s5) (b.EV (by omega) (by omega)) (s:=h) (n:=n) (by rw [cI];exact NY b) hh hn
 rw [zD,←i7]at h1
 exact SB h1
theorem VO{h h' n:Nat}{a c:ZX}(b:BZ h n a)(b':BZ h' n c)(ha:Nf a)(hc:Nf c)(hd:ZX.dv c a)(hB:h+n*(h'+n+1)+h'+n+n+10<1099511627774):aF env.P 141 [Po a.l,Po c.l] (Po (qz a c).l):=by
 have h0:¬c.l = []:=uI hc.ne
 have h1:=Y5 (a.l.map s5) (c.l.map s5) (b.EV (by omega) (by omega)) (b'.EV (by omega) (by omega)) (s:=h) (s':=h') (N:=n) (by rw [cI];exact NY b) (by rw [cI];exact NY b') hB
 rw [zD,zD,if_neg h0,ado ha hc hd,←i7,←i7,exR]at h1
 generalize (qz a c).l=d at *
 generalize a.l=x at *
 generalize c.l=y at *
 refine cD [(0,Po x),(1,Po y)] Tryz.func141 ?_
 refine aA [0,1] ?_
 refine aR [5] h1 ?_
 refine aA [4] ?_
 exact cC
def rs(a c:ZX):ZX:=⟨NB a.l c.l,anw _ _⟩
theorem DE{x:List Int}(cx:Cn x)(hx:x ≠ []):(j6 x).map (· * (bN x:Int))=x:=by
 have hg:=cO cx hx
 have h1:=AB (g:=(bN x:Int)) (fun c hc=>iI x c hc)
 have h2:Cn (x.map (pV (bN x))):=by
  have h3:x.map (pV (bN x))=aQ (x.map (pV (bN x))):=by
   refine(List.map_inj_right (f:=fun v:Int=>v*(bN x:Int)) (fun u v e=>Int.eq_of_mul_eq_mul_right (by omega) e)).1 ?_
   rw [h1]
   refine Cn.ext cx (lJ (Cn.cut _) (by omega)) fun t=>?_
   rw [eA,c8,←eA,h1]
  exact h3.symm
 rw [j6,show aQ (x.map (pV (bN x)))=_ from h2,h1]
theorem ahq{a c:ZX}(hc:c≠0):∃(m k:Int) (q:ZX),m≠0∧k≠0∧ZX.K m*a=q*c+ZX.K k*rs a c:=by
 have h0:=ZX.aE.1 hc
 obtain⟨c1,c2⟩:=CB (b:=c.l) a.c
 have hm:lead c.l^jP a.l c.l≠0:=Int.pow_ne_zero (dA c.c h0)
 have SC:=acX (lead c.l) (jP a.l c.l)
 have hr:=acY (b:=c.l) a.c
 have hV:=fun t=>ace t a.l c.l
 have hg:sg (lead c.l) (jP a.l c.l)≠0:=fun h=>by rw [h]at SC;simp at SC
 generalize sg (lead c.l) (jP a.l c.l)=g at *
 generalize lead c.l^jP a.l c.l=m at *
 have hl:(rs a c).l=j6 (bA (yS a.l c.l).2 g):=hr
 generalize rs a c=R at *
 generalize (yS a.l c.l).1=q at *
 generalize (yS a.l c.l).2=r at *
 have E7:Cn (bA r g):=Cn.bA _ _
 by_cases hz:bA r g = []
 ·refine⟨m,1,⟨q,c1⟩,hm,by decide,ZX.ext fun t=>?_⟩
  rw [hz]at hl
  have h1:V t R.l=0:=by rw [hl];rfl
  have h2:V t r=0:=by
   have h3:V t (bA r g)=0:=by rw [hz];rfl
   rw [cV]at h3
   rcases Int.mul_eq_zero.1 h3 with h4 | h4
   ·exact h4
   ·exact absurd h4 hg
  rw [ZX.eD,ZX.wB,ZX.mG,ZX.eD,ZX.eD,ZX.wB,h1]
  have:=hV t
  rw [h2]at this
  show m*V t a.l=V t q*V t c.l+1*0
  omega
 ·have hgp:=cO E7 hz
  refine⟨m,g*(bN (bA r g):Int),⟨q,c1⟩,hm,Int.mul_ne_zero hg (by omega),ZX.ext fun t=>?_⟩
  have h1:=DE E7 hz
  have h2:V t (bA r g)=V t R.l*(bN (bA r g):Int):=by
   rw [hl,←eA,h1]
  rw [cV]at h2
  rw [ZX.eD,ZX.wB,ZX.mG,ZX.eD,ZX.eD,ZX.wB]
  have:=hV t
  show m*V t a.l=V t q*V t c.l+g*(bN (bA r g):Int)*V t R.l
  rw [←this]
  have h3:V t r=g*(V t r*g):=by
   have:g*(V t r*g)=V t r*(g*g):=by grind
   rw [this,SC];omega
  rw [h3,h2];grind
theorem aua{a c:ZX}(hc:c≠0):ZX.N (rs a c)<ZX.N c:=aha (ZX.aE.1 hc)
theorem jC{s n:Nat}{x:List Int}(hx:Bd 2 s n x):Bd 2 s n (j6 x):=Bd.cut ⟨by simpa using hx.len,fun c hc=>by
 simp only [List.mem_map]at hc
 obtain⟨v,hv,rfl⟩:=hc
 refine Nat.le_trans (dJ (by decide) ?_) (hx.sz v hv)
 unfold pV
 split
 ·exact Int.natAbs_ediv_le_natAbs _ _
 ·simp⟩
theorem aub{s s' n:Nat}{a c:ZX}(ha:BZ s n a)(hb:BZ s' n c)(hc:c≠0):BZ (s+(ZX.N a+1-ZX.N c)*(s'+n+1)) n (rs a c):=by
 have h0:=ZX.aE.1 hc
 have hl:=aua (a:=a) hc
 have hk:jP a.l c.l≤n:=by
  have h1:=ha.N
  have h2:jP a.l c.l=ZX.N a+1-ZX.N c:=rfl
  omega
 obtain⟨_,h2⟩:=acd (B:=2) (by decide) hb (jP a.l c.l) s [] a.l hk ⟨by simp,fun c hc=>by cases hc⟩ (ha.mono (Nat.le_refl _) (by omega))
 have h3:Bd 2 (s+jP a.l c.l*(s'+n+1)) (n+n) (NB a.l c.l):=by
  unfold NB
  split
  ·exact jC (Bd.gW h2)
  ·exact jC h2
 have h4:=hb.N
 have h5:ZX.N (rs a c)=(NB a.l c.l).length:=rfl
 exact⟨by show(NB a.l c.l).length≤n;omega,fun d hd=>h3.sz d hd⟩
theorem adw{d:Nat}(h:1≤d):d+2≤4^d:=by
 obtain⟨k,rfl⟩:∃k,d=k+1:=⟨d-1,by omega⟩
 clear h
 induction k with
 | zero=>decide
 | succ k ih=>rw [Nat.pow_succ];omega
def zU(C n s:Nat)(a c:ZX):Prop:=if ZX.N c<ZX.N a then(s+n+1)*4^ZX.N a≤C else(s+n+1)*2*4^ZX.N c≤C
theorem zU.le{C n s:Nat}{a c:ZX}(h:zU C n s a c):s+n+1≤C:=by
 unfold zU at h
 split at h
 ·exact Nat.le_trans (Nat.le_mul_of_pos_right _ (Nat.pow_pos (by decide))) h
 ·refine Nat.le_trans ?_ h
  rw [Nat.mul_assoc]
  exact Nat.le_mul_of_pos_right _ (Nat.mul_pos (by decide) (Nat.pow_pos (by decide)))
theorem zU.step{C n s:Nat}{a c r:ZX}(h:zU C n s a c)(hr:ZX.N r<ZX.N c):zU C n (s+(ZX.N a+1-ZX.N c)*(s+n+1)) c r:=by
 unfold zU at h ⊢
 rw [if_pos hr]
 generalize hT:s+n+1=T at *
 have e:s+(ZX.N a+1-ZX.N c)*T+n+1=(ZX.N a+1-ZX.N c+1)*T:=by
  rw [Nat.add_mul,Nat.one_mul];omega
 rw [e]
 split at h
 ·rename_i h1
  obtain⟨d,hd⟩:∃d,ZX.N a=ZX.N c+d:=⟨ZX.N a-ZX.N c,by omega⟩
  have h2:=adw (d:=d) (by omega)
  rw [hd,Nat.pow_add]at h
  have h3:(ZX.N a+1-ZX.N c+1)*T≤4^d*T:=Nat.mul_le_mul_right _ (by omega)
  refine Nat.le_trans (Nat.mul_le_mul_right _ h3) ?_
  have:4^d*T*4^ZX.N c=T*(4^ZX.N c*4^d):=by grind
  omega
 ·rename_i h1
  refine Nat.le_trans (Nat.mul_le_mul_right _ (Nat.mul_le_mul_right T (show ZX.N a+1-ZX.N c+1≤2 by omega))) ?_
  rw [Nat.mul_comm 2 T];exact h
theorem adx{s n C:Nat}{a c:ZX}(b:BZ s n a)(b':BZ s n c)(hP:zU C n s (nf a) (nf c))(hB:(n+1)*C≤99000000000):aF env.P 142 [Po a.l,Po c.l] (Po (gz a c).l):=by
 have hC:C≤99000000000:=Nat.le_trans (Nat.le_mul_of_pos_left C (by omega)) hB
 rw [Nat.succ_mul]at hB
 have hs:=hP.le
 have p1:=mU b (by omega) (by omega)
 have p2:=mU b' (by omega) (by omega)
 have b1:=b.nf
 have b2:=b'.nf
 have hg:gz (nf a) (nf c)=gz a c:=by rw [VJ,SA]
 rw [←hg]
 generalize o7:nf a=x0 at *
 generalize RB:nf c=y0 at *
 generalize hG:gz x0 y0=G at *
 refine cD [(0,Po a.l),(1,Po c.l)] Tryz.func142 ?_
 generalize a.l=al at *
 generalize c.l=cl at *
 refine aA [0,1] ?_
 refine jG ?_
 refine cU p1 ?_
 refine cQ [0,1] p2 ?_
 refine W.seq ?_
 refine W.block ?_
 refine W.bE (fun k σ=>∃(x y:ZX) (s:Nat) (rows:Pm.Rows) (clk:Nat),σ=⟨fa [(0,Po x.l),(1,Po y.l)],rows,clk⟩∧BZ s n x∧BZ s n y∧zU C n s x y∧gz x y=G∧k=ZX.N y) (ZX.N y0) ?_ ?_
 ·exact⟨_, .refl,x0,y0,s,_,_,rfl,b1,b2,hP,hG,rfl⟩
 rintro k _ ⟨x,y,s,rows,clk,rfl,bx,sP,hp,hgz,rfl⟩
 have hs:=hp.le
 have hlx:=bx.len
 have hly:=sP.len
 refine aP [0,1,13] ?_
 refine bJ ?_ ?_<;>intro h
 ·have hy:y≠0:=ZX.aE.2 (by show 0<y.l.length;simp at h;omega)
  obtain⟨m,k,q,hm,hk,e⟩:=ahq (a:=x) hy
  have hR:=ND (x.l.map s5) (y.l.map s5) (bx.EV (by omega) (by omega)) (sP.EV (by omega) (by omega)) (s:=s) (s':=s) (N:=n) (by rw [cI];exact NY bx) (by rw [cI];exact NY sP) (by
   have:n*(s+n+1)≤n*C:=Nat.mul_le_mul_left n hs
   omega)
  rw [zD,zD,if_neg (uI hy),←i7,←i7,show NB x.l y.l=(rs x y).l from rfl]at hR
  have br:=aub bx sP hy
  have hN:=aua (a:=x) hy
  have D6:=hp.step hN
  have qT:=JA hm hk e
  refine W.skip ?_
  refine W.block ?_
  refine aR [1,5] hR ?_
  refine W.cA (fun K hK=>?_)
  simp (disch:=omega) [gw]
  refine hK _ ⟨ZX.N (rs x y),_,aB _ [0,1],hN,y,rs x y,_,_,_,rfl,sP.mono (by omega) (Nat.le_refl _),br,D6,by rw [←qT,hgz],rfl⟩
 ·have hy:y=0:=by
   refine Classical.byContradiction fun h0=>?_
   have h1:=ZX.aE.1 h0
   have h2:ZX.N y=y.l.length:=rfl
   simp at h;rw [h2,h]at h1;simp at h1
  subst hy
  rw [sO]at hgz
  have p3:=mU bx (by omega) (by omega)
  rw [hgz]at p3
  refine fH ?_
  refine aR [4] p3 ?_
  exact cC
theorem VP{s n C:Nat}{a c:ZX}(b:BZ s n a)(b':BZ s n c)(hP:zU C n s (nf a) (nf c))(hn:n≤20)(hC:C≤4500000000):aF env.P 142 [Po a.l,Po c.l] (Po (gz a c).l):=
 adx b b' hP (Nat.le_trans (Nat.mul_le_mul (show n+1≤21 by omega) hC) (by decide))
def zp(a:ZX):List PV:=[Po a.l]
@[simp] theorem ay9{a:ZX}:zp a = [Po a.l]:=rfl
@[simp] theorem aqg{l:List ZX}:bH 1 (emap zp l)=True:=cH fun _=>rfl
@[simp] theorem aza{l:List ZX}{a:ZX}:emap zp l ++ [[aN ie a.l]]=emap zp (l ++ [a]):=by simp [emap]
@[simp] theorem anJ{v e n:Nat}{l:List ZX}:cW (some ⟨v,e,n,emap zp l⟩)=True:=bU fun _=>rfl
theorem BZ.bT{h n:Nat}{a:ZX}(b:BZ h n a)(hn:n≤31):BZ (h+5) n (ZX.bT a):=Bd.cut ⟨by have:=b.len;simp [ZX.xR];omega,fun c hc=>by
 simp only [ZX.xR,List.mem_map,List.mem_range]at hc
 obtain⟨i,hi,rfl⟩:=hc
 have:=b.len
 exact cG (by decide) (b.nth _) (dW (k:=5) (by decide) (by rw [Int.natAbs_natCast];show i+1<32;omega))⟩
theorem ahr{h n:Nat}{a:ZX}(b:BZ h n a)(hn:n<1099511627776):aF env.P 83 [Po a.l] (.int .i64 ((ZX.N a:Int)-1)):=kQ a.l (by have:=b.len;omega)
structure qL(s n:Nat)(a:ZX):Prop where
 bz:BZ s n a
 hn:n≤20
 hs:n+1≤2^s
 hC:(qb s n+n+6)*4^n≤4500000000
theorem qL.rW{s n:Nat}{a:ZX}(h:qL s n a):qb s n+n+6≤4500000000:=Nat.le_trans (Nat.le_mul_of_pos_right _ (Nat.pow_pos (by decide))) h.hC
theorem qL.dv{s n:Nat}{a c:ZX}(h:qL s n a)(ha:Nf a)(hc:Nf c)(hd:ZX.dv c a):BZ (qb s n) n c:=at9 ha hc hd h.bz h.hs
theorem qL.nfz{s n:Nat}{a:ZX}(h:qL s n a):qL s n (nf a):=⟨h.bz.nf,h.hn,h.hs,h.hC⟩
theorem qL.gdz{s n:Nat}{a c:ZX}(h:qL s n a)(ha:Nf a)(hc:Nf c)(hd:ZX.dv c a):aF env.P 142 [Po c.l,Po (ZX.bT c).l] (Po (gd c).l)∧aF env.P 85 [Po c.l] (Po (ZX.bT c).l)∧aF env.P 141 [Po c.l,Po (gd c).l] (Po (qz c (gd c)).l):=by
 have b:=h.dv ha hc hd
 have b2:=b.bT (by have:=h.hn;omega)
 have hq:=h.rW
 have hn:=h.hn
 have bg:=h.dv ha (VK hc.ne) ((zA c).trans hd)
 refine⟨VP (s:=qb s n+5) (b.mono (by omega) (Nat.le_refl _)) b2 ?_ h.hn (C:=4500000000) (Nat.le_refl _),pY b (by omega) (by omega),VO b bg hc (VK hc.ne) (zA c) (by
  have:n*(qb s n+n+1)≤20*4500000000:=Nat.mul_le_mul hn (by omega)
  omega)⟩
 have hN:=ZX.n5 c
 have h1:ZX.N c≤n:=b.N
 have h2:=ZX.aE.1 hc.ne
 unfold zU
 rw [xT,xT,if_pos (by omega)]
 refine Nat.le_trans (Nat.mul_le_mul (show qb s n+5+n+1≤qb s n+n+6 by omega) (Nat.pow_le_pow_right (by decide) h1)) h.hC
theorem SD{s n:Nat}{a:ZX}(h:qL s n a):aF env.P 276 [Po a.l] (aN zp ((List.range (nl (nf a))).map (wz (nf a)))):=by
 have p1:=mU h.bz (by have:=h.rW;unfold qb at this;omega) (by have:=h.hn;omega)
 have hA:=h.nfz
 have hNf:2≤ZX.N (nf a)→Nf (nf a):=fun h2=>jB fun h0=>by rw [h0,kR]at h2;revert h2;decide
 have hle:=NS (nf a)
 have hbn:=hA.bz.N
 have hn:=h.hn
 generalize hAe:nf a=A at *
 refine cD [(0,Po a.l)] Tryz.func276 ?_
 refine aA [0] ?_
 refine aA [0,3] ?_
 refine W.seq ?_
 refine aR [3,4] p1 ?_
 refine W.nil 3 3 24 1 (by simp) (by decide) (fun K hK=>?_)
 refine W.lw [3,4] hK ?_;clear hK K;simp
 refine W.block ?_
 refine W.bE (fun k σ=>∃(i ver:Nat) (rows:Pm.Rows) (clk:Nat),σ=⟨fa [(3, .own 3 ver 0 i),(4,Po (gs A i).l)],rows,clk⟩∧rows 3=some ⟨ver,24,1,emap zp ((List.range i).map (wz A))⟩∧i+k=nl A) (nl A) ?_ ?_
 ·exact⟨_, .refl,0,_,_,_,rfl,by simp [emap],by omega⟩
 rintro k _ ⟨i,ver,rows,clk,rfl,hr,zT⟩
 have uC:(emap zp ((List.range i).map (wz A))).length=i:=by simp [emap]
 refine W.seq ?_
 have anK:aF env.P 83 [Po (gs A i).l] (.int .i64 ((ZX.N (gs A i):Int)-1)):=kQ (gs A i).l (by
  have h1:ZX.N (gs A i)=(gs A i).l.length:=rfl
  rcases aho (a:=A) i with h2 | h2<;>omega)
 refine aR [3,4,10] anK ?_
 refine W.cond ⟨_,rfl,fun h3=>?_,fun h3=>?_⟩
 ·have h2:2≤ZX.N (gs A i):=by simp at h3;omega
  have hi:i<nl A:=by
   rcases Nat.lt_or_ge i (nl A)with h4 | h4
   ·exact h4
   ·have h5:=(mO A).1
    rw [show nl A=i by omega]at h5;omega
  have hA0:2≤ZX.N A:=by
   have:=(mO A).2 0 (by omega)
   exact this
  have nA:=hNf hA0
  have ng:=nG nA i
  obtain⟨t1,t2,t3⟩:=hA.gdz nA ng (GO A i)
  have hw:qz (gs A i) (gd (gs A i))=wz A i:=rfl
  have hs:gd (gs A i)=gs A (i+1):=rfl
  rw [hw,hs]at t3
  rw [hs]at t1
  generalize hg:(gs A i).l=g at *
  generalize qT:(gs A (i+1)).l=g2 at *
  refine W.skip ?_
  refine W.block ?_
  refine jG ?_
  refine cU t2 ?_
  refine cQ [3,4,5] t1 ?_
  refine jG ?_
  refine aC t3 ?_
  simp (disch:=omega) [gw,hr,uC]
  refine bG [3,5] ?_
  refine W.cA (fun K hK=>?_);simp (disch:=omega) [gw]
  subst qT
  refine hK _ ⟨k-1,_,aB _ [3,4],by omega,i+1,_,_,_,rfl,?_,by omega⟩
  rw [List.range_succ,List.map_append]
  simp [emap,zp]
 ·have h2:ZX.N (gs A i)≤1:=by simp at h3;omega
  have hi:i=nl A:=by
   rcases Nat.lt_or_ge i (nl A)with h4 | h4
   ·have:=(mO A).2 i h4;omega
   ·omega
  rw [hi]at hr
  have wZ:List.take (nl A) (List.map (wz A) (List.range (nl A)))=List.map (wz A) (List.range (nl A)):=List.take_of_length_le (by simp)
  refine fH ?_
  refine W.sr ?_
  rw [hi]
  simp (disch:=omega) [gw,hr,wZ]
  refine bG [2] ?_
  refine W.ret ?_
  simp [go,hr,wZ]
theorem NZ{s n:Nat}{a:ZX}(hA:qL s n a)(na:Nf a)(k:Nat):BZ (qb s n) n (wz a k):=hA.dv na (gH na k).1 (AF na k)
theorem gB(f:Nat→ZX){m i:Nat}(h:i<m):nth ((List.range m).map f) i=f i:=by
 rw [cB (by simpa using h)];simp
theorem auc{a:ZX}(h:0<nl (nf a)):Nf (nf a):=by
 have h1:=(mO (nf a)).2 0 h
 exact jB fun h0=>by
  rw [h0,kR]at h1
  have h2:ZX.N (gs 0 0)=0:=by decide
  omega
theorem N4{s n:Nat}{a:ZX}(h:qL s n a):aF env.P 273 [Po a.l] (aN zp (fl (nf a))):=by
 have hL:=SD h
 have hA:=h.nfz
 have hNf:=auc (a:=a)
 have hle:=NS (nf a)
 have hbn:=hA.bz.N
 have hn:=h.hn
 have hqb:=h.rW
 generalize hAe:nf a=A at *
 have D3:((List.range (nl A)).map (wz A)).length=nl A:=by simp
 have hq:∀i,i+1<nl A→aF env.P 141 [Po (nth ((List.range (nl A)).map (wz A)) i).l,Po (nth ((List.range (nl A)).map (wz A)) (i+1)).l] (Po (nP A i).l):=fun i hi=>by
  have nA:=hNf (by omega)
  rw [gB _ (by omega),gB _ hi]
  exact VO (NZ hA nA i) (NZ hA nA (i+1)) (gH nA i).1 (gH nA (i+1)).1 (NV nA i) (by
   have:n*(qb s n+n+1)≤20*4500000000:=Nat.mul_le_mul hn (by omega)
   omega)
 have DF:∀i,i+1=nl A→nth ((List.range (nl A)).map (wz A)) i=nP A i:=fun i hi=>by
  rw [gB _ (by omega),ahp (hNf (by omega)) hi]
 generalize hM:(List.range (nl A)).map (wz A)=M at *
 obtain⟨m,hm⟩:∃m,m=nl A:=⟨_,rfl⟩
 have hfl:(fl A)=(List.range m).map (nP A):=by rw [hm];rfl
 rw [hfl]
 rw [←hm]at D3 hq DF hle
 refine cD [(0,Po a.l)] Tryz.func273 ?_
 refine aA [0] ?_
 refine aR [3] hL ?_
 refine W.sr ?_
 simp (disch:=omega) [gw,D3]
 refine bG [3,4] ?_
 refine W.seq ?_
 refine W.sr ?_
 simp (disch:=omega) [gw,D3]
 refine bG [3,4,12,13,14] ?_
 refine W.block ?_
 refine W.bE (fun k σ=>∃(i ver:Nat) (els:List (List PV)) (rows:Pm.Rows) (clk:Nat),σ=⟨fa [(3,aN zp M),(4, .own 11 ver 0 m),(12,aN zp M),(13, .int .i64 m),(14, .int .i64 i)],rows,clk⟩ ∧
  rows 11=some ⟨ver,24,1,els⟩∧els.length=m∧(∀e∈els,e.length=1)∧els.take i=emap zp ((List.range i).map (nP A))∧i+k=m) m ?_ ?_
 ·exact⟨_, .refl,0,_,List.replicate m [.nil],_,_,rfl,by simp,by simp,by simp,by simp [emap],by omega⟩
 rintro k _ ⟨i,ver,els,rows,clk,rfl,hr,mR,KV,qG,zT⟩
 refine bV [3,4,12,13,14,15] ?_
 refine W.cond ⟨_,rfl,fun h3=>?_,fun h3=>?_⟩
 ·have hi:i<m:=by simp at h3;omega
  clear h3
  have hiM:i<M.length:=by omega
  have uC:i<els.length:=by omega
  have hE:∀e:List (List PV),e.length=m→(∀x∈e,x.length=1)→tM e i 1=True:=fun e h1 h2=>by
   simp only [eq_iff_iff,iff_true]
   exact⟨e[i]'(by omega),List.getElem?_eq_getElem (by omega),by rw [h2 _ (List.getElem_mem _)];omega⟩
  have hS:∀(e:List (List PV)) (v:PV),e.length=m→(∀x∈e,x.length=1)→gZ e i 0 [v]=e.set i [v]:=fun e v h1 h2=>by
   have h4:=h2 _ (List.getElem_mem (show i<e.length by omega))
   rw [gZ,List.getElem?_eq_getElem (by omega)]
   simp [List.drop_of_length_le,h4]
  have h1E:=hE els mR KV
  have h1S:=hS els (Po (nth M i).l) mR KV
  have aaK:(els.set i [Po (nth M i).l]).length=m:=by simpa using mR
  have JC:∀e∈els.set i [Po (nth M i).l],e.length=1:=fun e he=>by
   rcases List.mem_or_eq_of_mem_set he with h4 | h4
   ·exact KV e h4
   ·rw [h4];rfl
  have aud:(els.set i [Po (nth M i).l]).take i=emap zp ((List.range i).map (nP A)):=by rw [gP (Nat.le_refl i)];exact qG
  have h2E:=hE _ aaK JC
  have h2S:=hS (els.set i [Po (nth M i).l]) (Po (nP A i).l) aaK JC
  have fin:∀(e:List (List PV)),e.length=m→(∀x∈e,x.length=1)→e.take i=emap zp ((List.range i).map (nP A))→(e.set i [Po (nP A i).l]).take (i+1)=emap zp ((List.range (i+1)).map (nP A)):=fun e h1 h2 h4=>by
   rw [l5 h4 (by omega),List.range_succ,List.map_append]
   simp [emap,zp]
  refine W.skip ?_
  refine W.eN (fun σ=>∃(els:List (List PV)) (rows:Pm.Rows) (clk:Nat),σ=⟨fa [(3,aN zp M),(4, .own 11 ver 0 m),(12,aN zp M),(13, .int .i64 m),(14, .int .i64 i)],rows,clk⟩ ∧
   rows 11=some ⟨ver,24,1,els⟩∧els.length=m∧(∀e∈els,e.length=1)∧els.take (i+1)=emap zp ((List.range (i+1)).map (nP A))) ?_ ?_
  ·refine aA [3,4,5,6,12,13,14] ?_
   refine W.sr ?_
   simp (disch:=omega) [gw,hr,h1E,h1S]
   refine bG [3,4,5,6,12,13,14] ?_
   refine W.sr ?_
   simp (disch:=omega) [gw,D3]
   refine bG [3,4,5,6,12,13,14,27] ?_
   refine W.cond ⟨_,rfl,fun h3=>?_,fun h3=>?_⟩
   ·have hi1:i+1<m:=by simp at h3;omega
    have azb:i+1<M.length:=by omega
    have e1:((i:Int)+1).toNat=i+1:=by omega
    refine W.cA (fun K hK=>?_)
    simp (disch:=omega) [gw,e1,azb]
    refine aC (hq i hi1) ?_
    simp (disch:=omega) [gw,h2E,h2S]
    exact hK _ ⟨_,aB _ [3,4,12,13,14],_,_,_,rfl,by simp,by simpa using mR,fun e he=>by
     rcases List.mem_or_eq_of_mem_set he with h4 | h4
     ·exact JC e h4
     ·rw [h4];rfl,fin _ aaK JC aud⟩
   ·have hi1:i+1=m:=by simp at h3;omega
    refine W.skip ?_
    refine⟨_,aB _ [3,4,12,13,14],_,_,_,rfl,by simp,aaK,JC,?_⟩
    have h4:=fin els mR KV qG
    rw [←DF i hi1]at h4
    rw [h4]
  rintro _ ⟨els,rows,clk,rfl,hr,mR,KV,qG⟩
  refine W.cA (fun K hK=>?_);simp (disch:=omega) [gw]
  refine hK _ ⟨k-1,_,aB _ [3,4,12,13,14],by omega,i+1,_,_,_,_,rfl,hr,mR,KV,qG,by omega⟩
 ·have hi:i=m:=by simp at h3;omega
  subst hi
  rw [bM mR]at qG
  subst qG
  have wZ:List.take i (List.map (nP A) (List.range i))=List.map (nP A) (List.range i):=List.take_of_length_le (by simp)
  refine fH ?_
  refine W.sr ?_
  simp (disch:=omega) [gw,hr,wZ]
  refine bG [2] ?_
  refine W.ret ?_
  simp [go,hr,wZ]
noncomputable def DG(L:List ZX):ZX:=L.foldl gz 0
theorem aht(L:List ZX)(hL:L.length<1099511627776)(h2:∀i,i<L.length→aF env.P 142 [Po (DG (L.take i)).l,Po (nth L i).l] (Po (DG (L.take (i+1))).l)):aF env.P 194 [aN zp L] (Po (DG L).l):=by
 refine cD [(0,aN zp L)] Tryz.func194 ?_
 refine aA [0] ?_
 refine aA [0,3] ?_
 refine W.L0 3 (Po (DG (L.take 0)).l) (by simp) rfl (fun K hK=>?_)
 refine W.lw [0,3] hK ?_;clear hK K;simp
 refine aP [3,6,7,8] ?_
 refine W.block ?_
 refine W.bE (fun k σ=>∃(i:Nat) (rows:Pm.Rows) (clk:Nat),σ=⟨fa [(3,Po (DG (L.take i)).l),(6,aN zp L),(7, .int .i64 L.length),(8, .int .i64 i)],rows,clk⟩∧i+k=L.length) L.length ?_ ?_
 ·exact⟨_, .refl,0,_,_,by simp;exact⟨rfl,rfl⟩,by omega⟩
 rintro k _ ⟨i,rows,clk,rfl,zT⟩
 refine bV [3,6,7,8,9] ?_
 refine bJ ?_ ?_<;>intro h
 ·have hi:i<L.length:=by simp at h;omega
  have ht:=h2 i hi
  generalize qT:DG (L.take (i+1))=g2 at *
  generalize DG (L.take i)=g at *
  refine kY ?_
  refine aA [3,5,6,7,8] ?_
  refine W.cA (fun K hK=>?_)
  simp (disch:=omega) [gw]
  refine cU ht ?_
  refine W.lw [3,6,7,8] hK ?_;clear hK K;simp
  refine W.cA (fun K hK=>?_);simp (disch:=omega) [gw]
  subst qT
  refine hK _ ⟨k-1,_,aB _ [3,6,7,8],by omega,i+1,_,_,rfl,by omega⟩
 ·have hi:i=L.length:=by simp at h;omega
  subst hi
  rw [List.take_length]
  refine fH ?_
  refine aA [2] ?_
  exact cC
theorem ady:aF env.P 11 [.sl [[.int .i64 1]]] (Po (1:ZX).l):=by
 have:=agz [1] (by decide) (by decide)
 exact this
noncomputable def sq(a:ZX):ZX:=if ZX.N a≤1 then nf a else sz' (nf a)
theorem N6{α:Type}{g:α→List PV}{l:List α}{s n:Nat}{a:ZX}(h:qL s n a)(p1:aF env.P 140 [aN g l] (Po (nf a).l)):aF env.P 70 [aN g l] (Po (sq a).l):=by
 have hqb:=h.rW
 have hn:=h.hn
 have hA:=h.nfz
 have anK:=ahr hA.bz (by omega)
 have hsq:sq a=if ZX.N (nf a)≤1 then nf a else sz' (nf a):=by rw [xT];rfl
 have nA:2≤ZX.N (nf a)→Nf (nf a):=fun h2=>jB fun h0=>by rw [h0,kR]at h2;revert h2;decide
 rw [hsq]
 generalize nf a=A at *
 refine cD [(0,aN g l)] Tryz.func70 ?_
 refine aA [0] ?_
 refine aR [0] p1 ?_
 refine W.seq ?_
 refine aR [0,7] anK ?_
 refine W.cond ⟨_,rfl,fun h3=>?_,fun h3=>?_⟩
 ·have h2:ZX.N A≤1:=by simp at h3;omega
  rw [if_pos h2]
  refine aA [2] ?_
  exact cC
 ·have h2:2≤ZX.N A:=by simp at h3;omega
  obtain⟨t1,t2,t3⟩:=hA.gdz (nA h2) (nA h2) (ZX.dv.refl A)
  rw [if_neg (by omega),show sz' A=qz A (gd A)from rfl]
  generalize (gd A).l=g1 at *
  refine W.skip ?_
  refine jG ?_
  refine cU t2 ?_
  refine cU t1 ?_
  refine cQ [2] t3 ?_
  exact cC
theorem uJ{s n:Nat}{a:ZX}(h:qL s n a):aF env.P 70 [Po a.l] (Po (sq a).l):=by
 have hqb:=h.rW
 have hn:=h.hn
 exact N6 h (mU h.bz (by unfold qb at hqb;omega) (by omega))
theorem ahu{s n:Nat}{a:ZX}(h:qL s n a)(h0:a≠0):aF env.P 265 [Po a.l] (Po (oz (nf a)).l):=by
 have hqb:=h.rW
 have hn:=h.hn
 have vO:s<1099511627774:=by unfold qb at hqb;omega
 have p1:=mU h.bz vO (by omega)
 have hA:=h.nfz
 have nA:=jB h0
 have hF:=N4 hA
 rw [NQ]at hF
 have hle:=NS (nf a)
 have hNA:ZX.N (nf a)≤n:=hA.bz.N
 have nJ:(nf a).l.length≠0:=fun h1=>by have h2:=ZX.aE.1 nA.ne;have h3:ZX.N (nf a)=(nf a).l.length:=rfl;omega
 generalize nf a=A at *
 have hmul:∀i,aF env.P 15 [Po (pf A (fun k=>k%2==0) i).l,Po (nP A i).l] (Po (pf A (fun k=>k%2==0) i*nP A i).l):=fun i=>by
  have b1:=hA.dv nA (zB nA (fun k=>k%2==0) i) (JB nA _ i)
  have b2:=hA.dv nA (AE nA i).1 (VN nA i)
  exact xN (NY b1) (NY b2) (by omega)
 obtain⟨m,hm⟩:∃m,m=nl A:=⟨_,rfl⟩
 have hoz:oz A=pf A (fun k=>k%2==0) m:=by rw [hm];rfl
 have hfl:fl A=(List.range m).map (nP A):=by rw [hm];rfl
 rw [hoz]
 rw [hfl]at hF
 have D3:((List.range m).map (nP A)).length=m:=by simp
 have xU:∀i,i<m→nth ((List.range m).map (nP A)) i=nP A i:=fun i hi=>gB _ hi
 generalize (List.range m).map (nP A)=L at *
 have h1:=ady
 rw [show(1:ZX)=pf A (fun k=>k%2==0) 0 from rfl]at h1
 generalize hg:pf A (fun k=>k%2==0) 0=g0 at *
 refine cD [(0,Po a.l)] Tryz.func265 ?_
 refine aA [0] ?_
 refine aR [0] p1 ?_
 refine aP [0,10] ?_
 refine W.cond ⟨_,rfl,fun h3=>?_,fun h3=>?_⟩
 ·simp at h3;exact absurd (by rw [h3];rfl) nJ
 clear h3
 refine W.skip ?_
 refine aR [0,3] h1 ?_
 refine W.seq ?_
 refine jG ?_
 refine aC hF ?_
 simp (disch:=omega) [gw,D3]
 refine bG [3,14,15,16] ?_
 subst hg
 refine W.block ?_
 refine W.bE (fun k σ=>∃(i:Nat) (rows:Pm.Rows) (clk:Nat),σ=⟨fa [(3,Po (pf A (fun k=>k%2==0) i).l),(14,aN zp L),(15, .int .i64 m),(16, .int .i64 i)],rows,clk⟩∧i+k=m) m ?_ ?_
 ·exact⟨_, .refl,0,_,_,rfl,by omega⟩
 rintro k _ ⟨i,rows,clk,rfl,zT⟩
 refine bV [3,14,15,16,17] ?_
 refine bJ ?_ ?_<;>intro h
 ·have hi:i<m:=by simp at h;omega
  have hiL:i<L.length:=by omega
  have ht:=hmul i
  have AG:=xU i hi
  have hpf:pf A (fun k=>k%2==0) (i+1)=if i%2==0 then pf A (fun k=>k%2==0) i*nP A i else pf A (fun k=>k%2==0) i:=rfl
  generalize qT:pf A (fun k=>k%2==0) (i+1)=g2 at *
  generalize pf A (fun k=>k%2==0) i=g at *
  have e2:((i:Int)%2==0)=(i%2==0):=by rw [Bool.eq_iff_iff,beq_iff_eq,beq_iff_eq];omega
  refine W.skip ?_
  refine W.eN (fun σ=>∃(rows:Pm.Rows) (clk:Nat),σ=⟨fa [(3,Po g2.l),(14,aN zp L),(15, .int .i64 m),(16, .int .i64 i)],rows,clk⟩) ?_ ?_
  ·refine W.sr ?_
   simp (disch:=omega) [gw,AG]
   refine bG [3,4,5,14,15,16] ?_
   refine W.sr ?_
   simp (disch:=omega) [gw,e2]
   refine bG [3,5,14,15,16,23] ?_
   refine bJ ?_ ?_<;>intro h
   ·rw [h,if_pos rfl]at hpf
    rw [hpf]
    refine W.cA (fun K hK=>?_)
    simp (disch:=omega) [gw]
    refine cU ht ?_
    exact hK _ ⟨_,aB _ [3,14,15,16],_,_,rfl⟩
   ·rw [h,if_neg (by decide)]at hpf
    rw [hpf]
    refine W.skip ?_
    exact⟨_,aB _ [3,14,15,16],_,_,rfl⟩
  rintro _ ⟨rows,clk,rfl⟩
  subst qT
  refine W.cA (fun K hK=>?_);simp (disch:=omega) [gw]
  refine hK _ ⟨k-1,_,aB _ [3,14,15,16],by omega,i+1,_,_,rfl,by omega⟩
 ·have hi:i=m:=by simp at h;omega
  subst hi
  refine fH ?_
  refine aA [2] ?_
  exact cC
@[simp] theorem ZH:([]:List Int).length=0:=rfl
theorem lM{h n:Nat}{a:ZX}(b:BZ h n a)(h1:1≤h)(hh:h≤YY)(hn:n<1099511627776):aF env.P 78 [PI a.l] (PI (nf a).l):=by
 have hP:=C6 a.l b a.c h1 hh hn
 have e:rQ a.l=(nf a).l:=rfl
 rw [e]at hP
 generalize lL a.l=c at *
 generalize (nf a).l=d at *
 generalize a.l=x at *
 refine cD [(0,PI x)] Tryz.func78 ?_
 refine aA [0] ?_
 refine aR [4] hP ?_
 refine aA [2] ?_
 exact cC
theorem wC{h n:Nat}{a:ZX}(b:BZ h n a)(hh:h≤YY)(hn:n≤1000):aF env.P 160 [PI a.l] (PI (ZX.bT a).l):=by
 have hlen:=b.len
 have e0:(ZX.bT a).l=aQ ((List.range (a.l.length-1)).map fun k=>nth a.l (k+1)*((k:Int)+1)):=rfl
 rw [e0]
 have hz:=fun k=>b.nth k
 generalize a.l=x at *
 generalize hm:x.length-1=m at *
 refine cZ (E:=env) (fun id=>if id=5 then 2 else 0) [(0,PI x)] Tryz.func160 rfl (by kernel_rfl) (by kernel_rfl) (show 1≤23 by decide) (by simp) ?_
 refine aA [0] ?_
 refine aA [0,3] ?_
 refine W.nil 3 3 31 4 (by simp) (by decide) (fun K hK=>?_)
 refine W.lw [0,3] hK ?_;clear hK K;simp
 refine aP [0,3,4] ?_
 refine W.block ?_
 refine W.bE (fun k σ=>∃(i ver:Nat) (rows:Pm.Rows) (clk:Nat),σ=⟨fa [(0,PI x),(3, .own 3 ver 0 i),(4, .int .i64 ((i:Int)+1))],rows,clk⟩ ∧
  rows 3=some ⟨ver,31,4,emap ri ((List.range i).map fun k=>nth x (k+1)*((k:Int)+1))⟩∧i+k=m) m ?_ ?_
 ·exact⟨_, .refl,0,_,_,_,rfl,by simp [emap],by omega⟩
 rintro k _ ⟨i,ver,rows,clk,rfl,hr,zT⟩
 have uC:(emap ri ((List.range i).map fun k=>nth x (k+1)*((k:Int)+1))).length=i:=by simp [emap]
 refine aP [0,3,4,8] ?_
 refine bJ ?_ ?_<;>intro h
 ·have hi:i+1<x.length:=by simp at h;omega
  have o1:=MS ((i:Int)+1) (by omega)
  have hzi:=hz (i+1)
  have m1:=F7 (nth x (i+1)) ((i:Int)+1) (Nat.le_trans hzi hh) (Nat.le_trans (dW (k:=10) (by decide) (by show((i:Int)+1).natAbs<1024;omega)) (by decide))
  have e1:((i:Int)+1).toNat=i+1:=by omega
  have er:(List.range (i+1)).map (fun k=>nth x (k+1)*((k:Int)+1))=(List.range i).map (fun k=>nth x (k+1)*((k:Int)+1)) ++ [nth x (i+1)*((i:Int)+1)]:=by
   rw [List.range_succ,List.map_append];simp
  have azc:((List.range i).map fun k=>nth x (k+1)*((k:Int)+1)).length=i:=by simp
  generalize (List.range i).map (fun k=>nth x (k+1)*((k:Int)+1))=acc at *
  generalize hq:nth x (i+1)*((i:Int)+1)=q at *
  refine kY ?_
  refine W.LY (fun K hK=>?_)
  rw [if_pos rfl,fR]
  simp (disch:=omega) [gw,e1]
  refine cU o1 ?_
  refine aC m1 ?_
  simp (disch:=omega) [gw,hr,azc]
  refine W.lw [0,3,4] hK ?_;clear hK K;simp
  refine W.cA (fun K hK=>?_);simp (disch:=omega) [gw]
  refine hK _ ⟨k-1,_,aB _ [0,3,4],by omega,i+1,_,_,_,by rw [Int.natCast_add];rfl,by rw [er];simp,by omega⟩
 ·have hi:i=m:=by simp at h;omega
  subst hi
  have gC:((List.range i).map fun k=>nth x (k+1)*((k:Int)+1)).length=i:=by simp
  generalize (List.range i).map (fun k=>nth x (k+1)*((k:Int)+1))=acc at *
  have ez:=bM gC
  refine fH ?_
  refine W.sr ?_
  simp (disch:=omega) [gw,hr,ez]
  refine aC (pA acc (by omega)) ?_
  simp (disch:=omega) [gw]
  refine bG [2] ?_
  exact cC
theorem N7:aF env.P 97 [.sl [[.int .i64 1]]] (PI (1:ZX).l):=US [1] (by decide) (by decide)
def w6(l:Int):Int:=if l<0 then -1 else 1
theorem ahw(l:Int):w6 l*l=l.natAbs:=by unfold w6;split<;>omega
def VQ(y x:List Int):List Int:=w5 y (lead y).natAbs (w6 (lead y)*lead x) (x.length-y.length) x
def VR(y x:List Int)(i:Nat):Int:=nth x i*((lead y).natAbs:Int)-if x.length-y.length≤i then w6 (lead y)*lead x*nth y (i-(x.length-y.length))else 0
theorem adz{y x:List Int}(h:y.length≤x.length):aQ ((List.range x.length).map (VR y x))=VQ y x:=by
 refine Cn.ext (Cn.cut _) (Cn.fM _ _) fun t=>?_
 unfold VQ
 rw [c8,w5,iZ,cV,dG,nY]
 obtain⟨k,hk⟩:∃k,x.length=k+y.length:=⟨x.length-y.length,by omega⟩
 have e1:(List.range x.length).map (VR y x)=(List.range x.length).map fun i=>nth x i*((lead y).natAbs:Int)+(-(if x.length-y.length≤i then w6 (lead y)*lead x*nth y (i-(x.length-y.length))else 0)):=List.map_congr_left fun i _=>by unfold VR;omega
 rw [e1,sF,gX,jZ (Nat.le_refl _)]
 generalize w6 (lead y)*lead x=T at *
 have e2:((List.range x.length).map fun i => -(if x.length-y.length≤i then T*nth y (i-(x.length-y.length))else 0))=List.replicate k 0++y.map fun v=>v*(-T):=by
  have hk2:x.length-y.length=k:=by omega
  rw [hk2,hk,List.range_add,List.map_append,List.map_map]
  congr 1
  ·rw [List.eq_replicate_iff]
   refine⟨by simp,fun v hv=>?_⟩
   simp only [List.mem_map,List.mem_range]at hv
   obtain⟨i,hi,rfl⟩:=hv
   rw [if_neg (by omega)];rfl
  ·have h2:=oZ (x:=y) (n:=y.length) (Nat.le_refl _)
   rw [Nat.sub_self,List.replicate_zero,List.append_nil]at h2
   conv=>rhs;rw [←h2]
   rw [List.map_map]
   refine List.map_congr_left fun i _=>?_
   simp only [Function.comp_apply]
   rw [if_pos (by omega),Nat.add_sub_cancel_left];grind
 rw [e2,dZ,qB]
 have h3:=gX (t:=t) (-T) id y
 simp only [id_eq,List.map_id_fun]at h3
 rw [h3,List.length_replicate,show x.length-y.length=k by omega]
 grind
theorem sR{y x:List Int}(hy:0<y.length)(h:y.length≤x.length):(VQ y x).length<x.length:=by
 have h1:=z9 (b:=y) (r:=x) (i:=x.length-y.length) hy (by omega)
 rw [show vJ y x (x.length-y.length)=lead x from by rw [vJ,if_pos (by omega)]]at h1
 have e:VQ y x=bA (w5 y (lead y) (lead x) (x.length-y.length) x) (w6 (lead y)):=Cn.ext (Cn.fM _ _) (Cn.bA _ _) fun t=>by
  unfold VQ
  rw [cV,w5,w5,iZ,iZ,cV,cV,dG,dG,nY,nY,←ahw]
  grind
 rw [e]
 have:=pR (w5 y (lead y) (lead x) (x.length-y.length) x) (w6 (lead y))
 omega
theorem adA(t:Int)(y x:List Int):((lead y).natAbs:Int)*V t x=t^(x.length-y.length)*(w6 (lead y)*lead x)*V t y+V t (VQ y x):=by
 unfold VQ
 rw [w5,iZ,cV,dG,nY];grind
def rq(y:List Int):Nat→List Int→List Int
 | 0,x=>x
 | n+1,x=>if x.length<y.length then x else rq y n (VQ y x)
theorem anL{y x:List Int}(h:x.length<y.length):∀n,rq y n x=x
 | 0=>rfl
 | n+1=>by rw [rq,if_pos h]
theorem VS{y:List Int}(cy:Cn y)(hy:0<y.length):∀(n:Nat) (x:List Int),Cn x→x.length<n→Cn (rq y n x)∧(rq y n x).length<y.length ∧ ∃(m:Int) (q:List Int),m≠0 ∧ ∀t,m*V t x=V t q*V t y+V t (rq y n x)
 | 0,x,_,h=>by omega
 | n+1,x,cx,h=>by
  rw [rq]
  split
  ·rename_i h1
   exact⟨cx,h1,1,[],by decide,fun t=>by simp [V]⟩
  ·rename_i h1
   have hl:=sR hy (show y.length≤x.length by omega)
   obtain⟨h2,h3,m,q,hm,h4⟩:=VS cy hy n (VQ y x) (Cn.fM _ _) (by omega)
   have KU:=dA cy hy
   refine⟨h2,h3,m*(lead y).natAbs,iG q (bA (qF (x.length-y.length) (w6 (lead y)*lead x)) m),Int.mul_ne_zero hm (by omega),fun t=>?_⟩
   have h5:=adA t y x
   have h6:=h4 t
   rw [rG,cV,nY]
   have:m*((lead y).natAbs:Int)*V t x=m*(((lead y).natAbs:Int)*V t x):=by grind
   rw [this,h5]
   grind
theorem SE{s s' N:Nat}{y x:List Int}(sP:Bd 2 s' N y)(bx:Bd 2 s N x)(hy:0<y.length)(h:y.length≤x.length):Bd 2 (s+(s'+N+1)) N (VQ y x):=by
 have hl:=sR hy h
 have hlx:=bx.len
 have hls:sz 2 ((lead y).natAbs:Int)≤s':=Nat.le_trans (dJ (by decide) (by rw [Int.natAbs_natCast];exact Nat.le_refl _)) (gU sP)
 have hlr:sz 2 (w6 (lead y)*lead x)≤s:=Nat.le_trans (dJ (by decide) (by
  rw [Int.natAbs_mul]
  have:(w6 (lead y)).natAbs=1:=by unfold w6;split<;>rfl
  rw [this,Nat.one_mul];exact Nat.le_refl _)) (gU bx)
 have b1:Bd 2 (s+s'+N) (max N (x.length-y.length+1+N)) (bA x ((lead y).natAbs:Int)):=(bx.bA (by decide) hls).mono (by omega) (by omega)
 have b2:Bd 2 (s+s'+N) (max N (x.length-y.length+1+N)) (bQ (qF (x.length-y.length) (w6 (lead y)*lead x)) y):=((Bd.qF hlr (x.length-y.length)).bQ (by decide) sP).mono (by omega) (by omega)
 exact⟨by omega,fun c hc=>by
  have h6:=(Bd.fM (by decide) b1 b2).sz c hc
  omega⟩
theorem aj7{s' N:Nat}{y:List Int}(sP:Bd 2 s' N y)(hy:0<y.length):∀(n j s:Nat) (x:List Int),Bd 2 s N x→x.length+1≤y.length+j→Bd 2 (s+j*(s'+N+1)) N (rq y n x)
 | 0,j,s,x,bx,_=>bx.mono (by simp) (Nat.le_refl _)
 | n+1,j,s,x,bx,hj=>by
  rw [rq]
  split
  ·exact bx.mono (by simp) (Nat.le_refl _)
  ·rename_i h1
   obtain⟨i,rfl⟩:∃i,j=i+1:=⟨j-1,by omega⟩
   have hl:=sR hy (show y.length≤x.length by omega)
   have:=aj7 sP hy n i (s+(s'+N+1)) (VQ y x) (SE sP bx hy (by omega)) (by omega)
   rw [Nat.add_mul,Nat.one_mul]
   exact this.mono (by omega) (Nat.le_refl _)
theorem anM(n:Nat):RI (n:Int) = .ag [aN aI (aU DD n), .bool false]:=by
 simp [show ¬((n:Int)<0)by omega]
set_option maxHeartbeats 2000000 in
theorem GP{s s' N:Nat}{x0 y:List Int}(bx0:Bd 2 s N x0)(sP:Bd 2 s' N y)(cx0:Cn x0)(cy:Cn y)(RB:0<y.length)(hN:N≤1000)(hB:s+(x0.length+1-y.length+1)*(s'+N+1)<YY) :
  aF env.P 162 [PI x0,PI y] (PI (rq y (x0.length+1) x0)):=by
 have hlN:=bx0.len
 have hNy:=sP.len
 obtain⟨R,hR⟩:∃R,R=rq y (x0.length+1) x0:=⟨_,rfl⟩
 rw [←hR]
 obtain⟨M,hM⟩:∃M,M=s+(x0.length+1-y.length+1)*(s'+N+1):=⟨_,rfl⟩
 rw [←hM]at hB
 have hB:M<137438953472:=hB
 have hls:sz 2 ((lead y).natAbs:Int)≤s':=Nat.le_trans (dJ (by decide) (by rw [Int.natAbs_natCast];exact Nat.le_refl _)) (gU sP)
 have e2:((y.length:Int)-1).toNat=y.length-1:=by omega
 have O4:nth y (y.length-1)=lead y:=rfl
 refine cZ (E:=env) (fun id=>if id=16 then 2 else 0) [(0,PI x0),(1,PI y)] Tryz.func162 rfl (by kernel_rfl) (by kernel_rfl) (show 2≤78 by decide) (by simp) ?_
 refine aA [0,1] ?_
 refine W.sr ?_
 simp (disch:=omega) [gw,e2,O4]
 refine bG [0,1,5] ?_
 refine aA [0,1,5,6] ?_
 refine bV [0,1,5,6] ?_
 refine W.block ?_
 refine W.bE (fun n σ=>∃(x:List Int) (j u:Nat) (rows:Pm.Rows) (clk:Nat),σ=⟨fa [(0,PI x),(1,PI y),(5, .ptr 5 0 0 0),(6, .ptr 6 1 0 0)],rows,clk⟩ ∧
  rows 5=some ⟨0,29,2,[[aN aI (aU DD (lead y).natAbs), .bool (decide (lead y<0))]]⟩∧rows 6=some ⟨1,29,2,[[aN aI (aU DD (lead y).natAbs), .bool false]]⟩ ∧
  Cn x∧x.length<n∧rq y n x=R∧Bd 2 u N x∧x.length+1≤y.length+j∧u+(j+1)*(s'+N+1)≤M) (x0.length+1) ?_ ?_
 ·exact⟨_, .refl,x0,x0.length+1-y.length,s,_,_,rfl,by simp,by simp,cx0,by omega,hR.symm,bx0,by omega,by omega⟩
 rintro n _ ⟨x,j,u,rows,clk,rfl,eB,pH,cx,hxn,hxR,bx,hj,hu⟩
 have hlx:=bx.len
 refine aP [0,1,5,6,25] ?_
 refine bJ ?_ ?_<;>intro h
 ·have h:y.length≤x.length:=by simp at h;omega
  obtain⟨n,rfl⟩:∃m,n=m+1:=⟨n-1,by omega⟩
  rw [rq,if_neg (by omega)]at hxR
  have KH:=sR RB h
  obtain⟨k,hk⟩:∃k,k=x.length-y.length:=⟨_,rfl⟩
  have hkI:(x.length:Int)-(y.length:Int)=k:=by omega
  have e1:((x.length:Int)-1).toNat=x.length-1:=by omega
  have hxl:nth x (x.length-1)=lead x:=rfl
  have aue:=adz h
  have b2:=SE sP bx RB h
  have hlX:sz 2 (lead x)≤u:=gU bx
  have hu1:u+(s'+N+1)≤M:=by
   have:=Nat.le_mul_of_pos_left (s'+N+1) (show 0<j+1 by omega)
   omega
  refine W.skip ?_
  refine W.block ?_
  refine W.sr ?_
  simp (disch:=omega) [gw,hkI]
  refine bG [0,1,5,6,7] ?_
  refine W.sr ?_
  simp (disch:=omega) [gw,e1,hxl]
  refine bG [0,1,5,6,7,8] ?_
  obtain⟨T,hT⟩:∃T,T=w6 (lead y)*lead x:=⟨_,rfl⟩
  have hTs:sz 2 T≤u:=Nat.le_trans (dJ (by decide) (by
   rw [hT,Int.natAbs_mul]
   have:(w6 (lead y)).natAbs=1:=by unfold w6;split<;>rfl
   rw [this,Nat.one_mul];exact Nat.le_refl _)) hlX
  have hTp:(lead y<0→T = -lead x)∧(¬lead y<0→T=lead x):=by
   rw [hT];unfold w6
   constructor
   ·intro h;rw [if_pos h];omega
   ·intro h;rw [if_neg h];omega
  refine W.iE (fun σ=>∃(v:Nat) (rows:Pm.Rows) (clk:Nat),σ=⟨fa [(0,PI x),(1,PI y),(5, .ptr 5 0 0 0),(6, .ptr 6 1 0 0),(7, .int .i64 k),(8, .ptr 8 v 0 0)],rows,clk⟩ ∧
   rows 5=some ⟨0,29,2,[[aN aI (aU DD (lead y).natAbs), .bool (decide (lead y<0))]]⟩∧rows 6=some ⟨1,29,2,[[aN aI (aU DD (lead y).natAbs), .bool false]]⟩ ∧
   rows 8=some ⟨v,29,2,[[aN aI (aU DD T.natAbs), .bool (decide (T<0))]]⟩) ?_ ?_
  ·refine W.sr ?_
   simp (disch:=omega) [gw,eB]
   refine bG [0,1,5,6,7,8,39] ?_
   refine bJ ?_ ?_<;>intro h
   ·have h:lead y<0:=by simpa using h
    have acM:=rN (lead x)
    rw [←hTp.1 h]at acM
    refine W.cA (fun K hK=>?_)
    simp (disch:=omega) [gw]
    refine cU acM ?_
    exact hK _ ⟨_,aB _ [0,1,5,6,7,8],_,_,_,rfl,by simp [eB],by simp [pH],by simp⟩
   ·have h:¬lead y<0:=by simpa using h
    rw [hTp.2 h]
    refine W.skip ?_
    exact⟨_,aB _ [0,1,5,6,7,8],_,_,_,rfl,by simp [eB],by simp [pH],by simp⟩
  clear eB pH rows clk
  rintro _ ⟨v8,rows,clk,rfl,eB,pH,qH⟩
  refine aA [0,1,5,6,7,8,9] ?_
  refine W.nil 9 9 31 4 (by simp) (by decide) (fun K hK=>?_)
  refine W.lw [0,1,5,6,7,8,9] hK ?_;clear hK K;simp
  refine aP [0,1,5,6,7,8,9,43,44] ?_
  refine W.block ?_
  refine W.bE (fun m σ=>∃(i v9:Nat) (rows:Pm.Rows) (clk:Nat),σ=⟨fa [(0,PI x),(1,PI y),(5, .ptr 5 0 0 0),(6, .ptr 6 1 0 0),(7, .int .i64 k),(8, .ptr 8 v8 0 0),(9, .own 9 v9 0 i),(43, .int .i64 x.length),(44, .int .i64 i)],rows,clk⟩ ∧
   rows 5=some ⟨0,29,2,[[aN aI (aU DD (lead y).natAbs), .bool (decide (lead y<0))]]⟩∧rows 6=some ⟨1,29,2,[[aN aI (aU DD (lead y).natAbs), .bool false]]⟩ ∧
   rows 8=some ⟨v8,29,2,[[aN aI (aU DD T.natAbs), .bool (decide (T<0))]]⟩∧rows 9=some ⟨v9,31,4,emap ri ((List.range i).map (VR y x))⟩∧i+m=x.length) x.length ?_ ?_
  ·exact⟨_,aB _ [0,1,5,6,7,8,9,43,44],0,_,_,_,rfl,by simp [eB],by simp [pH],by simp [qH],by simp [emap],by omega⟩
  clear eB pH qH rows clk
  rintro m _ ⟨i,v9,rows,clk,rfl,eB,pH,qH,hr9,him⟩
  have uC:((List.range i).map (VR y x)).length=i:=by simp
  refine bV [0,1,5,6,7,8,9,43,44,45] ?_
  refine bJ ?_ ?_<;>intro h
  ·have hi:i<x.length:=by simp at h;omega
   have hxi:=bx.nth i
   have m1:=eT (nth x i) ((lead y).natAbs:Int) (by show sz 2 _<1099511627776;omega) (by show sz 2 _<1099511627776;omega)
   rw [anM]at m1
   have s1:sz 2 (nth x i*((lead y).natAbs:Int))≤u+s':=cG (by decide) hxi hls
   have er:(List.range (i+1)).map (VR y x)=(List.range i).map (VR y x) ++ [VR y x i]:=by
    rw [List.range_succ,List.map_append];rfl
   have hF:VR y x i=nth x i*((lead y).natAbs:Int)-if k≤i then T*nth y (i-k)else 0:=by unfold VR;rw [hk,hT]
   generalize (List.range i).map (VR y x)=acc at *
   generalize hP:nth x i*((lead y).natAbs:Int)=P at *
   refine kY ?_
   refine aA [0,1,5,6,7,8,9,10,43,44] ?_
   refine W.sd ?_
   simp (disch:=omega) [gw,pH]
   refine cU m1 ?_
   rw [if_pos (by kernel_rfl)]
   simp (disch:=omega) [gw]
   refine bG [0,1,5,6,7,8,9,10,11,43,44] ?_
   generalize hQ:VR y x i=Q at *
   have sQ:sz 2 Q≤u+(s'+N+1):=by
    have W7:sz 2 (nth y (i-k))≤s':=sP.nth _
    rw [hF]
    split
    ·have:=cG (b:=2) (by decide) hTs W7
     have h1:=m7 (b:=2) (by decide) (x:=P) (y := -(T*nth y (i-k))) (k:=u+s') s1 (by rw [oI];exact this)
     rw [←Int.sub_eq_add_neg]at h1
     omega
    ·rw [Int.sub_zero];omega
   refine W.iE (fun σ=>∃(v11:Nat) (rows:Pm.Rows) (clk:Nat),σ=⟨fa [(0,PI x),(1,PI y),(5, .ptr 5 0 0 0),(6, .ptr 6 1 0 0),(7, .int .i64 k),(8, .ptr 8 v8 0 0),(9, .own 9 v9 0 i),(11, .ptr 11 v11 0 0),(43, .int .i64 x.length),(44, .int .i64 i)],rows,clk⟩ ∧
    rows 5=some ⟨0,29,2,[[aN aI (aU DD (lead y).natAbs), .bool (decide (lead y<0))]]⟩∧rows 6=some ⟨1,29,2,[[aN aI (aU DD (lead y).natAbs), .bool false]]⟩ ∧
    rows 8=some ⟨v8,29,2,[[aN aI (aU DD T.natAbs), .bool (decide (T<0))]]⟩∧rows 9=some ⟨v9,31,4,emap ri acc⟩ ∧
    rows 11=some ⟨v11,29,2,[[aN aI (aU DD Q.natAbs), .bool (decide (Q<0))]]⟩) ?_ ?_
   ·refine aA [0,1,5,6,7,8,9,10,11,43,44,56] ?_
    refine bJ ?_ ?_<;>intro h
    ·have hki:k≤i:=by simp at h;omega
     rw [if_pos hki]at hF
     have eik:(i:Int)-(k:Int)=((i-k:Nat):Int):=by omega
     have hyb:i-k<y.length:=by omega
     have m2:=eT T (nth y (i-k)) (by show sz 2 _<1099511627776;omega) (by have:=sP.nth (i-k);show sz 2 _<1099511627776;omega)
     have s2:=cG (b:=2) (by decide) hTs (sP.nth (i-k))
     have m3:=ML P (T*nth y (i-k)) (by show sz 2 _<1099511627776;omega) (by show sz 2 _<1099511627776;omega)
     rw [←hF]at m3
     generalize T*nth y (i-k)=P2 at *
     refine W.LY (fun K hK=>?_)
     simp (disch:=omega) [gw,qH,eik]
     refine cU m2 ?_
     refine cU m3 ?_
     refine bC (by kernel_rfl) ?_
     simp (disch:=omega) [gw]
     exact hK _ ⟨_,aB _ [0,1,5,6,7,8,9,11,43,44],_,_,_,rfl,by simp [eB],by simp [pH],by simp [qH],by simp [hr9],by simp⟩
    ·have hki:¬k≤i:=by simp at h;omega
     rw [if_neg hki,Int.sub_zero]at hF
     rw [hF]
     refine W.skip ?_
     exact⟨_,aB _ [0,1,5,6,7,8,9,11,43,44],_,_,_,rfl,by simp [eB],by simp [pH],by simp [qH],by simp [hr9],by simp⟩
   clear eB pH qH hr9 rows clk
   rintro _ ⟨v11,rows,clk,rfl,eB,pH,qH,hr9,anl⟩
   have o1:=nZ 1 (by decide) (by decide)
   have mk:=F6 Q (by show sz 2 Q<549755813888;omega)
   refine W.LY (fun K hK=>?_)
   rw [if_pos rfl,fR]
   simp (disch:=omega) [gw,anl]
   refine cU o1 ?_
   refine aC mk ?_
   simp (disch:=omega) [gw,hr9,uC]
   refine W.lw [0,1,5,6,7,8,9,43,44] hK ?_;clear hK K;simp
   refine W.cA (fun K hK=>?_);simp (disch:=omega) [gw]
   refine hK _ ⟨m-1,_,aB _ [0,1,5,6,7,8,9,43,44],by omega,i+1,_,_,_,rfl,by simp [eB],by simp [pH],by simp [qH],by rw [er];simp,by omega⟩
  ·have hi:i=x.length:=by simp at h;omega
   subst hi
   have gC:((List.range x.length).map (VR y x)).length=x.length:=by simp
   generalize (List.range x.length).map (VR y x)=acc at *
   have ez:=bM gC
   have pT:=pA acc (by omega)
   rw [aue]at pT
   refine fH ?_
   refine W.cA (fun K hK=>?_)
   simp (disch:=omega) [gw,hr9,ez]
   refine cU pT ?_
   obtain⟨j,rfl⟩:∃i,j=i+1:=⟨j-1,by omega⟩
   rw [Nat.add_mul,Nat.one_mul]at hu
   refine hK _ ⟨n,_,aB _ [0,1,5,6],by omega,VQ y x,j,u+(s'+N+1),_,_,rfl,by simp [eB],by simp [pH],Cn.fM _ _,by omega,hxR,b2,by omega,by omega⟩
 ·have h:x.length<y.length:=by simp at h;omega
  rw [anL h]at hxR
  subst hxR
  refine fH ?_
  refine aA [4] ?_
  exact cC
end Go.Proofs.YtiobceocpabjdaaGreat
namespace Pm
open Go Go.RowKit
section
variable {E:Env} {c:Cx} {w0:World} {S0:dX} {m:Nat} {G:Gs}
theorem ahx(hI:Inv w0 S0 c){t e:TypeId}{n bb len:Nat}{z:List PV}(hE:E.ty t = .slice e n bb z){parts:Array (Nat × Operand)}{ρ:Operand→PV}{vρ:Operand→Value}(hρ:∀x,aG c (ρ x) (vρ x))
  {els:List (List PV)} (A8:iA n 0 (parts.toList.map fun x=>(x.1,ρ x.2))=some els) (hlen:len=els.length) (hsm:len≤4096) (hn:n≤4096)
  (kA:∀e∈els,∀p∈e,iM c.rows p) :
  ∃cT,(Instr.buildSlice t len (parts.map fun(i,x)=>(i,vρ x))).run E.P c.w = .ok (.slice (some ⟨c.w.heap.size,0,none⟩) len len) (c.w.alloc (.cells cT e))∧cT.size=len*n∧bB (aJ c) els.flatten cT.toList∧(∀u∈cT.toList,u.oneCell'=true)∧(∀e∈els,e.length=n)∧0<n:=by
 obtain⟨hu,hnp,HL,i,zv,hi,hz,hs,_,PQ,_⟩:=fX hE
 obtain⟨g1,g2,g3⟩:=oG A8
 have TQ:parts.size=els.length:=by rw [g1];simp
 have awV:zv.cells.size=n:=by rw [←HL,←PQ];simp
 have FD:∀j (x:Nat × Value),((parts.map fun(i,x)=>(i,vρ x)).toList)[j]? = some x→x.1=0+j ∧ ∃e,els[j]? = some e∧bB (aJ c) e x.2.cells.toList ∧ ∀u∈x.2.cells.toList,u.oneCell'=true:=by
  intro j x hx
  simp at hx
  obtain⟨a,b,fK,rfl⟩:=hx
  obtain⟨q1,e,q2,q3⟩:=g3 j (a,ρ b) (by simp;exact⟨a,b,fK,rfl,rfl⟩)
  have q4:=mW (hρ b) q3 (fun q hq=>kA e (List.mem_of_getElem? q2) q hq)
  exact⟨q1,e,q2,q4.1,q4.2⟩
 obtain⟨cT,f1,f2⟩:=BG (n:=n) (parts.map fun(i,x)=>(i,vρ x)).toList 0 ((Array.range (len*n)).map (zv.cells[· % zv.cells.size]!)) (fun j x hx=>by
  obtain⟨q1,e,q2,q3,_⟩:=FD j x hx
  refine⟨q1,?_⟩
  have:=q3.length
  rw [g2 e (List.mem_of_getElem? q2)]at this
  simpa using this.symm) (by simp [TQ,hlen])
 simp only [Nat.zero_mul,List.take_zero,List.nil_append]at f2
 have iU:(Instr.buildSlice t len (parts.map fun(i,x)=>(i,vρ x))).run E.P c.w = .ok (.slice (some ⟨c.w.heap.size,0,none⟩) len len) (c.w.alloc (.cells cT e)):=by
  have hbound:¬(16777216<len*n):=by
   have:len*n≤4096*4096:=Nat.mul_le_mul hsm hn
   omega
  by_cases h0:len*n=0
  ·have KU:len=0:=by
    rcases Nat.mul_eq_zero.1 h0 with h | h
    ·exact h
    ·omega
   have hp0:parts = #[]:=Array.eq_empty_of_size_eq_zero (by omega)
   subst hp0
   subst KU
   simp [Instr.fill]at f1
   subst f1
   have FE:Array.range 0 = #[]:=rfl
   simp [Instr.buildSlice,run_underlying hu,dD hi,newRow,Instr.fill,FE]
  ·have f1':Instr.fill (fun i=>some (i*n,n)) ((Array.range (len*n)).map (zv.cells[· % zv.cells.size]!)) (parts.toList.map fun x=>(x.1,vρ x.2))=some cT:=by simpa using f1
   simp only [Instr.buildSlice,Sem.run_bind,run_underlying hu,Result.andThen_ok,dD hi,hs]
   simp [h0,hbound,newRow,zeroValue,typeInfo,hi,hz,f1']
 have e3:cT.toList=((parts.map fun(i,x)=>(i,vρ x)).toList.map fun x=>x.2.cells.toList).flatten:=by rw [f2,List.flatMap_def]
 have key:∀(vs:List (Nat × Value)) (es:List (List PV)),vs.length=es.length→(∀(j:Nat) (x:Nat × Value),vs[j]? = some x → ∃e,es[j]? = some e∧bB (aJ c) e x.2.cells.toList ∧ ∀u∈x.2.cells.toList,u.oneCell'=true) →
   bB (aJ c) es.flatten (vs.map fun x=>x.2.cells.toList).flatten ∧ ∀u∈(vs.map fun x=>x.2.cells.toList).flatten,u.oneCell'=true:=by
  intro vs
  induction vs with
  | nil =>
   intro es hl _
   have:es = []:=List.eq_nil_of_length_eq_zero hl.symm
   subst this
   exact⟨trivial,by simp⟩
  | cons v vs ih =>
   intro es hl h
   match es,hl with
   | e::es,hl =>
    obtain⟨h1,h2⟩:=ih es (by simpa using hl) fun j x hx=>by simpa using h (j+1) x (by simpa using hx)
    obtain⟨e',q1,q2,q3⟩:=h 0 v (by simp)
    simp at q1;subst q1
    simp only [List.flatten_cons,List.map_cons]
    refine⟨bB.append q2 h1,fun u hu=>?_⟩
    rcases List.mem_append.1 hu with hu | hu
    ·exact q3 u hu
    ·exact h2 u hu
 obtain⟨k1,k2⟩:=key (parts.map fun(i,x)=>(i,vρ x)).toList els (by simp [TQ]) fun j x hx=>(FD j x hx).2
 rw [←e3]at k1 k2
 refine⟨cT,iU,?_,k1,k2,g2,hnp⟩
 have h5:=k1.length
 have fl:∀ {l:List (List PV)},(∀e∈l,e.length=n)→l.flatten.length=l.length*n:=by
  intro l
  induction l with
  | nil=>intro _;simp
  | cons e l ih=>intro h;rw [List.flatten_cons,List.length_append,ih (fun e he=>h e (by simp [he])),h e (by simp),List.length_cons,Nat.add_mul];omega
 rw [fl g2,Array.length_toList]at h5
 rw [hlen];exact h5.symm
def EY(E:Env)(o:Oper)(K:PS→Prop)(σ:PS):Prop:=
 match o.op with
 | .buildSlice t len parts =>
  match E.ty t with
  | .slice e n _ _=>∃els,iA n 0 (parts.toList.map fun x=>(x.1,aO σ.f x.2))=some els∧len=els.length∧len≤4096∧n≤4096∧(∀x∈els,∀p∈x,iM σ.rows p) ∧
    HO K σ o.dst (.own (o.dst.getD 0) σ.clock 0 els.length) (o.dst.getD 0) e n els
  | _=>False
 | _=>False
theorem uK{o:Oper}{a:Act}{w:World}{σ:PS}{K:PS→Prop}(h:EY E o K σ)(hR:Rel w0 S0 m G σ a w)(hd:∀t,o.dst=some t→t<m)
  {K':Act→World→Prop} {Q:Exit→Act→World→Prop} (hK:∀σ' a' w',K σ'→Rel w0 S0 m G σ' a' w'→K' a' w'):o.wp E.P a w K' Q:=by
 obtain⟨⟨c,rfl,hr,gC,hI,hf,hG⟩,hn,fL⟩:=hR
 have hρ:=mH hf
 obtain⟨dst,op,type,pos,after,guard⟩:=o
 simp only at hd
 unfold EY at h
 simp only at h
 split at h
 ·rename_i t len parts
  split at h
  ·rename_i e n b z hE
   obtain⟨els,h1,h2,h3,h4,h5,h⟩:=h
   rw [←hr]at h5
   obtain⟨cT,g1,g2,g3,g4,g5,g6⟩:=ahx hI hE hρ h1 h2 h3 h4 h5
   obtain⟨pL,hA⟩:=xB hI (ver:=σ.clock) (fun hu=>Nat.lt_irrefl _ (gC _ hu)) (dst.getD 0) e n els.length els.length els cT rfl (Nat.le_refl _) (by simp only [maxLen];omega) (by rw [g2,h2]) (by
    rw [List.take_of_length_le (by rw [Array.length_toList,g2,h2];exact Nat.le_refl _)];exact g3) g4 g5 g6
   obtain⟨f',rows',wX,BK⟩:=qV (K:=fun f' r'=>K ⟨f',r',σ.clock+1⟩) hr gC hf hG hn fL h pL hA (lW (r:=⟨σ.clock,e,n,els⟩) (A:=some ⟨c.w.heap.size,0,none⟩) (cap:=els.length) (by simp [dR]) rfl (Or.inl rfl) (by simp [dR])) hd
   unfold Oper.wp
   have:(execOp a.eval { dst:=dst,op:=.buildSlice t len parts,type:=type,pos:=pos,after:=after,guard:=guard }).run E.P c.w = .ok (.value (.slice (some ⟨c.w.heap.size,0,none⟩) els.length els.length)) (c.w.alloc (.cells cT e)):=by
    rw [h2]at g1
    simp only [execOp,Sem.run_bind,h2,g1,Result.andThen_ok,Sem.run_pure]
   rw [this]
   refine hK _ _ _ wX (BK.mono fun v hv=>?_)
   show v<σ.clock+1
   rcases hv with rfl | hv
   ·omega
   ·have:v<σ.clock:=hv
    omega
  ·exact h.elim
 ·exact h.elim
theorem n7{ops:Array Oper}{K:PS→Prop}{Q:Exit→Act→World→Prop}{l2:List Oper}(hK:∀σ' a' w',K σ'→Rel w0 S0 m G σ' a' w'→wpList E.P ops Q l2 a' w') :
  ∀(l:List Oper) (σ:PS) (a:Act) (w:World),(∀o∈l,∀t,o.dst=some t→t<m)→aL E ops.toList l K σ→Rel w0 S0 m G σ a w→wpList E.P ops Q (l++l2) a w
 | [],σ,a,w,_,h,hR=>hK _ _ _ h hR
 | o::os,σ,a,w,hd,h,hR=>by
  have hdo:=hd o (by simp)
  have hds:∀o∈os,∀t,o.dst=some t→t<m:=fun o ho=>hd o (by simp [ho])
  have wanted:∀ {σ},eZ E o (aL E ops.toList os K) σ→Rel w0 S0 m G σ a w→o.wp E.P a w (wpList E.P ops Q (os++l2)) Q:=fun hp hR =>
   yK hp hR hdo fun σ' a' w' hk k8=>n7 hK os σ' a' w' hds hk k8
  show wpList E.P ops Q (o::(os++l2)) a w
  unfold wpList
  simp only [aL]at h
  split at h
  ·rename_i hg
   rw [if_pos (by simp [Region.wanted,hg])]
   exact .inl (wanted h hR)
  ·rename_i j want hg
   split at h
   ·exact h.elim
   ·rename_i d QB
    have hd3:(ops[j]?).bind (·.dst)=some d:=by simpa using QB
    have skip:yielded ops a.tmps j≠some want→aL E ops.toList os K (σ.put o.dst (.dU []))→(if Region.wanted o (yielded ops a.tmps)=true then o.wp E.P a w (wpList E.P ops Q (os++l2)) Q∨(o.asks E.P a w∧LetsOut Q)else wpList E.P ops Q (os++l2) (a.put o.dst undef) w):=by
     intro hy h2
     rw [if_neg (by simpa [Region.wanted,hg]using hy)]
     refine n7 hK os _ _ w hds h2 ?_
     obtain⟨⟨c,rfl,hr,gC,hI,hf,hG⟩,hn,fL⟩:=hR
     exact r7 hf hG hn fL (sX.refl c) hI P7 hdo rfl (by simp [PS.put,hr]) gC
    obtain⟨c,_,_,_,_,hf,_⟩:=hR.ex
    have hx:=hf d
    rcases h with ⟨h1,h2⟩ | ⟨h1 | h1,h2⟩
    ·rw [h1]at hx
     rw [if_pos (by simp [Region.wanted,hg,iN hd3 hx])]
     exact .inl (wanted h2 hR)
    ·rw [h1]at hx
     exact skip (by rw [iN hd3 hx];cases want<;>simp) h2
    ·rw [h1]at hx
     exact skip (by rw [tV hd3 hx];simp) h2
end
theorem W.aj8{E:Env}{n:Nat}{tl:Nat→Nat}{Q:PX→PS→Prop}{σ:PS}{id:Nat}{ops:List Oper}{y:Code}(i:Nat){o:Oper}(ho:ops=ops.take i++o::ops.drop (i+1))(hg:o.guard=none)
  (h:∀K:PS→Prop,(∀σ,W E n tl y Q σ→K σ)→go (aL E ops (ops.take i) (fun σ=>EY E o (aL E ops (ops.drop (i+1)) K) σ) σ)):W E n tl (.seq (.region id ops.toArray false) y) Q σ:=by
 refine W.seq ?_
 intro gO w0 S0 G a w Q' hR hQ
 simp only [eV,qW,Bool.and_eq_true]at gO
 have hd:∀o∈ops,∀t,o.dst=some t→t<n:=fun o ho t ht=>by
  have:=Array.all_eq_true_iff_forall_mem.1 gO.1 o (by simpa using ho)
  simpa [ht]using this
 refine wp_region_list ?_
 show wpList E.P ops.toArray Q' ops a w
 have h1:=h (fun σ=>W E n tl y Q σ) fun _ h=>h
 have oW:o∈ops:=by rw [ho];simp
 have:=n7 (E:=E) (w0:=w0) (S0:=S0) (m:=n) (G:=G) (ops:=ops.toArray) (Q:=Q') (l2:=o::ops.drop (i+1)) (K:=fun σ=>EY E o (aL E ops (ops.drop (i+1)) (fun σ=>W E n tl y Q σ)) σ) (fun σ' a' w' hl k8=>by
  unfold wpList
  rw [if_pos (by simp [Region.wanted,hg])]
  refine .inl (uK hl k8 (hd o oW) fun σ2 a2 w2 hk hR2=>?_)
  exact iC (E:=E) (ops:=ops.toArray) (fun σ3 a3 w3 hk3 hR3=>hQ .normal σ3 a3 w3 hk3 hR3) _ σ2 a2 w2 (fun o ho=>hd o (List.mem_of_mem_drop ho)) hk hR2) (ops.take i) σ a w (fun o ho=>hd o (List.mem_of_mem_take ho)) h1 hR
 rwa [←ho]at this
def DH(ti:TI)(rows:Rows)(len:Nat)(ps:List (Nat × PV))(K:TypeId→Nat→List (List PV)→Prop):Prop:=
 match ti with
 | .slice e n _ _=>jO n 0 ps fun els=>aH (len=els.length∧len≤4096∧n≤4096∧iD rows els.flatten) (K e n els)
 | _=>False
@[congr] theorem ahy{t t':TI}{rows rows':Rows}{len:Nat}{ps UB:List (Nat × PV)}{K:TypeId→Nat→List (List PV)→Prop}(h:t=t')(h2:ps=UB)(h3:rows=rows'):DH t rows len ps K=DH t' rows' len UB K:=by rw [h,h2,h3]
@[simp] theorem ahz{e n b:Nat}{z:List PV}{rows:Rows}{len:Nat}{ps:List (Nat × PV)}{K:TypeId→Nat→List (List PV)→Prop}:DH (.slice e n b z) rows len ps K=jO n 0 ps fun els=>aH (len=els.length∧len≤4096∧n≤4096∧iD rows els.flatten) (K e n els):=rfl
@[simp] theorem awm{E:Env}{K:PS→Prop}{f:Nat→PV}{rows:Rows}{clk:Nat}{d:Option Tmp}{ty:TypeId}{pos:String}{af:Array Edge}{t:TypeId}{len:Nat}{parts:Array (Nat × Operand)} :
  EY E ⟨d, .buildSlice t len parts,ty,pos,af,none⟩ K ⟨f,rows,clk⟩=DH (E.ty t) rows len (parts.toList.map fun x=>(x.1,aO f x.2)) fun e n els=>K ⟨put f d (.own (d.getD 0) clk 0 els.length),dR rows (d.getD 0) (some ⟨clk,e,n,els⟩),clk+1⟩:=by
 simp only [EY,DH]
 generalize E.ty t=T
 cases T with
 | slice e n b z =>
  simp only
  rw [←xD]
  simp only [aH,HO,iD]
  apply propext
  constructor
  ·rintro⟨els,h1,h2,h3,h4,h5,h6⟩
   exact⟨els,h1,⟨h2,h3,h4,fun q hq=>by obtain⟨x,hx,hq⟩:=List.mem_flatten.1 hq;exact h5 x hx q hq⟩,h6⟩
  ·rintro⟨els,h1,⟨h2,h3,h4,h5⟩,h6⟩
   exact⟨els,h1,h2,h3,h4,fun x hx q hq=>h5 q (List.mem_flatten.2 ⟨x,hx,hq⟩),h6⟩
 | _=>rfl
end Pm
