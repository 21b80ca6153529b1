import Derived.Test.YtiobceocpabjdaaGreatNak
import Derived.Test.YtiobceocpabjdaaGreatNal
set_option linter.unusedSimpArgs false
set_option linter.unusedVariables false
namespace Go.Proofs.YtiobceocpabjdaaGreat
open Go Pm
open ZX hiding N W
variable {a b f:ZX}{c d:Int}{s n β C k:Nat}{t q p:Rat}{L:List ZX}{x:List Int}
theorem rU(a b:Nat):(2:Rat)^(a+b)=2^a*2^b:=by
 induction b with
 | zero=>simp
 | succ b ih=>rw [<-Nat.add_assoc,Rat.pow_succ,Rat.pow_succ,ih];grind
theorem two_pow_pos(a:Nat):(0:Rat)<2^a:=Rat.pow_pos aF
theorem rV:∀a:Nat,(1:Rat)<=2^a
 | 0=>by simp
 | a+1=>by
  have:=rV a
  rw [Rat.pow_succ];grind
theorem oH{a b:Nat}(h:a<=b):(2:Rat)^a<=2^b:=by
 obtain⟨c,rfl⟩:=Nat.exists_eq_add_of_le h
 rw [rU]
 have h1:=rV c
 have h2:=Rat.mul_le_mul_of_nonneg_left h1 (Rat.le_of_lt (two_pow_pos a))
 grind
theorem VG(h:c.natAbs<2^s):Ab (c:Rat) (2^s):=by
 have h1:((2^s:Int):Rat)=2^s:=by rw [Rat.intCast_pow];rfl
 have h2:(2^s:Int)=((2^s:Nat):Int):=by rw [Int.natCast_pow];rfl
 constructor
 ·rw [<-h1,<-Rat.intCast_neg]
  exact Rat.intCast_le_intCast.2 aA
 ·rw [<-h1]
  exact Rat.intCast_le_intCast.2 aA
theorem aps(h:sz 2 c<=s):Ab (c:Rat) (2^s):=
 VG (Nat.lt_of_lt_of_le (kB (b:=2) aF c) (Nat.pow_le_pow_right aF h))
theorem BZ.ab(h:BZ s n a):∀c∈a.l,Ab (c:Rat) (2^s):=fun c hc=>aps (h.sz c hc)
theorem QK(s β:Nat):∀k,KA (2^s) (2^β) k=2^(s+k*(β+2))
 | 0=>by simp [KA]
 | k+1=>by
  rw [KA,QK s β k,show s+(k+1)*(β+2)=s+k*(β+2)+β+1+1 by rw [Nat.add_mul];omega,Rat.pow_succ,Rat.pow_succ,rU _ β]
  grind
theorem BZ.aEW(h:BZ s n a)(ht:Ab t (2^β)):Ab (e t a) (2^(s+n*(β+2))):=by
 have h1:=VB (S:=2^s) (B:=2^β) (Rat.le_of_lt (two_pow_pos s)) (rV β) ht a.l h.ab
 rw [QK]at h1
 exact h1.mono (oH (by have:=Nat.mul_le_mul_right (β+2) h.len;omega))
theorem ab9{s' N:Nat}{y:List Int}(xM:Bd 2 s' N y)(cy:Cn y)(hy:0<y.length):∀(n j s:Nat) (x:List Int),Cn x->x.length<n->Bd 2 s N x->x.length+1<=y.length+j ->
  ∃(m:Int) (q:List Int),0<m∧sz 2 m<=j*s'+1∧Bd 2 (s+j*(2*s'+N+2)) N q ∧ ∀t,m*V t x=V t q*V t y+V t (rq y n x)
 | 0,j,s,x,_,h,_,_=>by omega
 | n+1,j,s,x,cx,h,bx,hj=>by
  rw [rq]
  split
  ·exact⟨1,[],aF,Nat.le_trans (dZ (k:=1) aF aF) aA,⟨aG,fun c hc=>by cases hc⟩,fun t=>by simp [V]⟩
  ·rename_i h1
   obtain⟨j,rfl⟩:∃i,j=i+1:=⟨j-1,aA⟩
   have hl:=xN hy (show y.length<=x.length by omega)
   have hb:=ZH xM bx hy (show y.length<=x.length by omega)
   obtain⟨m,q,hm,hms,hq,h4⟩:=ab9 xM cy hy n j _ (rq1 y x) (Cn.iB _ _) aA hb aA
   have AF:=dO cy hy
   have e1:(j+1)*s'=j*s'+s':=by rw [Nat.add_mul];omega
   have e2:(j+1)*(2*s'+N+2)=j*(2*s'+N+2)+(2*s'+N+2):=by rw [Nat.add_mul];omega
   have e3:j*s'<=j*(2*s'+N+2):=Nat.mul_le_mul_left _ aA
   have sx:sz 2 (CU (lead y)*lead x)<=s:=by
    refine Nat.le_trans (dN (b:=2) aF ?_) (iX bx)
    rw [Int.natAbs_mul]
    have:(CU (lead y)).natAbs=1:=by unfold CU;split<;>rfl
    rw [this,Nat.one_mul];exact Nat.le_refl _
   have j2:=(Bd.bJ (b:=2) aF (Bd.uX (b:=2) sx (x.length-y.length)) hms)
   have hlen:=bx.len
   refine⟨m*(lead y).natAbs,kC q (bJ (uX (x.length-y.length) (CU (lead y)*lead x)) m),Int.mul_pos hm aA,?_,?_,fun t=>?_⟩
   ·have h8:sz 2 ((lead y).natAbs:Int)<=s':=Nat.le_trans (dN (b:=2) aF aG) (iX xM)
    have:=cW (b:=2) aF hms h8
    omega
   ·refine(Bd.kC (b:=2) (s:=s+(j+1)*(2*s'+N+2)-1) aF (hq.mono aA (Nat.le_refl _)) (j2.mono aA aA)).mono aA (Nat.le_refl _)
   ·have h5:=aiv t y x
    have h6:=h4 t
    rw [vS,dA,rM]
    have:m*((lead y).natAbs:Int)*V t x=m*(((lead y).natAbs:Int)*V t x):=aT
    rw [this,h5]
    grind
theorem as9(ha:BZ s n a)(hb:BZ s n b)(h0:b≠0):∃(m:Int) (q:ZX),0<m∧sz 2 m<=(n+1)*s+1∧BZ (s+(n+1)*(2*s+n+2)) n q∧((nx a b=0∧K m*a=q*b)∨(nx a b≠0 ∧ ∃k:Int,0<k∧K m*a=q*b-K k*nx a b)):=by
 obtain⟨hrl,hN,_⟩:=xO (a:=a) h0
 obtain⟨m,q,hm,hms,hq,e⟩:=ab9 hb b.c (ZX.aH.1 h0) (a.l.length+1) (n+1) s a.l a.c aA ha (by have:=ha.len;have:=ZX.aH.1 h0;show a.l.length+1<=b.l.length+(n+1);omega)
 rw [<-hrl]at e
 have e1:K m*a=ZX.of q*b+rz a b:=ZX.ext fun t=>by rw [fC,AH,pG,fC,ZB];exact e t
 refine⟨m,ZX.of q,hm,hms,Bd.cut hq,?_⟩
 by_cases hr:rz a b=0
 ·left
  refine⟨?_,by rw [e1,hr];grind⟩
  exact ZX.ext fun t=>by
   show V t (jP (mS (rz a b).l))=_
   rw [hr];rfl
 ·right
  have hrn:(rz a b).l ≠ []:=x7 hr
  have hp:=I6 (rz a b).c hrn
  have hg:=dB (rz a b).c hrn
  have hnx:K (bX (rz a b).l:Int)*nx a b = -(rz a b):=ZX.ext fun t=>by
   rw [fC,AH,MV]
   show _*V t (jP (mS (rz a b).l))=_
   rw [HV]
   have h2:V t (rz a b).l=V t (mS (rz a b).l)*(bX (rz a b).l:Int):=by rw [<-fB,hp]
   rw [h2];grind
  refine⟨fun h=>hr ?_,_,Int.natCast_pos.2 (Nat.pos_of_ne_zero hg),by rw [hnx,e1];grind⟩
  rw [h]at hnx
  have:(rz a b) = -(K (bX (rz a b).l:Int)*0):=by rw [hnx];grind
  rw [this];grind
theorem VH(hb:b≠0)(hg:gz a b=1)(hd:dv b a):∃c:Int,c≠0∧b=K c:=by
 have h1:=(fS a b).least hd (dv.refl b)
 rw [hg]at h1
 have h2:=h1.nP qM
 rw [ZX.wH]at h2
 have:=ZX.aH.1 hb
 exact ZX.nO aA
def RX(C n β:Nat):Nat:=C+(n+1)*(2*C+n+2)+n*(β+2)+2
theorem aca{C n β:Nat}(hn:n<=20):∀(k s:Nat) (a b:ZX),ZX.N b<=k->b≠0->BZ s n a->BZ s n b->E2 C n s a b->gz a b=1->StC (2^RX C n β) (2^β) (a::zS k a b) ∧ ∀p∈zS k a b,BZ C n p
 | 0,s,a,b,hk,h0,_,_,_,_=>absurd hk (by have:=ZX.aH.1 h0;omega)
 | k+1,s,a,b,hk,h0,ha,hb,hp,hg=>by
  have hs:=hp.le
  have hNb:=ZX.aH.1 h0
  obtain⟨m,q,hm,hms,hq,hr⟩:=as9 ha hb h0
  rw [zS,if_neg aA]
  have hbC:BZ C n b:=hb.mono aA (Nat.le_refl _)
  rcases hr with ⟨hz,e1⟩ | ⟨hz,kk,hkk,e1⟩
  ·rw [hz,nS]
   exact⟨VH h0 hg ⟨m,aA,q,e1⟩,fun p hp=>by
    simp only [List.mem_cons,List.not_mem_nil,or_false]at hp
    subst hp;exact hbC⟩
  ·have hN:=aek (a:=a) h0
   have r5:gz b (nx a b)=1:=by
    rw [<-hg]
    exact(P9 (c:=m) (k := -kk) (q:=q) aA aA (by rw [e1,show K (-kk) = -K kk from ZX.ext fun t=>by rw [AH,MV,AH]];grind)).symm
   obtain⟨ih,ih2⟩:=aca hn k _ b (nx a b) aA hz (hb.mono (Nat.le_add_right _ _) (Nat.le_refl _)) (ab0 ha hb h0) (hp.step hN) r5
   refine⟨?_,fun p hp=>?_⟩
   ·obtain⟨k2,rfl⟩:∃k2,k=k2+1:=⟨k-1,by have:=ZX.aH.1 hz;omega⟩
    rw [zS,if_neg (by have:=ZX.aH.1 hz;omega)]at ih |-
    have c1:(n+1)*s<=(n+1)*(2*C+n+2):=Nat.mul_le_mul_left _ aA
    have c2:(n+1)*(2*s+n+2)<=(n+1)*(2*C+n+2):=Nat.mul_le_mul_left _ aA
    refine⟨ih,m,kk,q,hm,hkk,e1,?_,fun t ht=>?_⟩
    ·have h1:=(aps hms).2
     have h2:=oH (show (n+1)*s+1+1<=RX C n β by unfold RX;omega)
     rw [Rat.pow_succ]at h2
     grind
    ·have h1:=(BZ.aEW hq ht)
     have h2:=(Ab.mul (x:=2) (M:=2) ⟨aF,aF⟩ h1)
     refine h2.mono ?_
     have h3:=oH (show s+(n+1)*(2*s+n+2)+n*(β+2)+1<=RX C n β by unfold RX;omega)
     rw [Rat.pow_succ]at h3
     grind
   ·rcases List.mem_cons.1 hp with rfl | hp
    ·exact hbC
    ·exact ih2 p hp
theorem VI:∀(k:Nat) (a b:ZX),(zS k a b).length<=ZX.N b
 | 0,a,b=>by simp [zS]
 | k+1,a,b=>by
  rw [zS]
  split
  ·simp
  ·rename_i h0
   have:=aek (a:=a) (ZX.aH.2 (Nat.pos_of_ne_zero h0))
   have:=VI k b (nx a b)
   simp only [List.length_cons];omega
theorem azy(ha:a≠0):∃c:Int,0<c∧a=K c*uS a:=by
 have hp:=I6 a.c (x7 ha)
 refine⟨(bX a.l:Int),Int.natCast_pos.2 (Nat.pos_of_ne_zero (dB a.c (x7 ha))),ZX.ext fun t=>?_⟩
 rw [fC,AH]
 show _=_*V t (mS a.l)
 have h2:V t a.l=V t (mS a.l)*(bX a.l:Int):=by rw [<-fB,hp]
 rw [h2];grind
theorem amO(hn:n<=20)(hf:f≠0)(hb:BZ (s+5) n f)(hp:E2 C n (s+5) f (uS (cD f)))(bd:BZ (s+5) n (uS (cD f)))(hg:gz f (cD f)=1):StC (2^RX C n β) (2^β) (aO f)∧(∀p∈aO f,BZ C n p)∧(aO f).length<=n+1 ∧ ∀g k,zS (ZX.N f) f (uS (cD f))=g::k -> ∃c:Int,0<c∧cD f=K c*g:=by
 have hs:=hp.le
 have hfC:BZ C n f:=hb.mono aA (Nat.le_refl _)
 have hNf:=hb.N
 have h1:=qO f
 have h2:ZX.N (uS (cD f))<=ZX.N (cD f):=oV _
 by_cases h0:cD f=0
 ·have ES:uS (cD f)=0:=by rw [h0];exact ZX.ext fun t=>rfl
  have hc:aO f = [f]:=by unfold aO;rw [ES,nS]
  rw [hc]
  have hN1:ZX.N f<=1:=Classical.byContradiction fun h=>P5 (a:=f) aA h0
  refine⟨ZX.nO (by have:=ZX.aH.1 hf;omega),fun p hp=>by
   simp only [List.mem_cons,List.not_mem_nil,or_false]at hp
   subst hp;exact hfC,aG,fun g k h=>?_⟩
  rw [ES,nS]at h;cases h
 ·obtain⟨c,hc,e⟩:=azy h0
  have ES:uS (cD f)≠0:=fun h=>h0 (by rw [e,h];grind)
  have r5:gz f (uS (cD f))=1:=by
   rw [<-hg]
   refine I4 (dv.refl f) (dv.refl f) ⟨1,aF,K c,by rw [e];show(1:ZX)*_=_;grind⟩ ⟨c,aA,1,aT⟩
  obtain⟨g1,g2⟩:=aca (β:=β) hn (ZX.N f) (s+5) f (uS (cD f)) aA ES hb bd hp r5
  refine⟨g1,fun p hp=>?_,?_,fun g k h=>?_⟩
  ·rcases List.mem_cons.1 hp with rfl | hp
   ·exact hfC
   ·exact g2 p hp
  ·have:=VI (ZX.N f) f (uS (cD f))
   show(f::zS (ZX.N f) f (uS (cD f))).length<=_
   simp only [List.length_cons]
   omega
  ·obtain⟨j,hj⟩:∃j,ZX.N f=j+1:=⟨ZX.N f-1,by have:=ZX.aH.1 hf;omega⟩
   rw [hj,zS,if_neg (by have:=ZX.aH.1 ES;omega)]at h
   cases h
   exact⟨c,hc,e⟩
theorem acb(μ:Nat):∀k,(2:Rat)^(μ*k)*FP (2^μ) k=1
 | 0=>by simp [FP]
 | k+1=>by
  have h1:=acb μ k
  have h2:FP (2^μ) (k+1)=FP (2^μ) k/2^μ:=rfl
  have h3:FP ((2:Rat)^μ) k/2^μ*2^μ=FP (2^μ) k:=Rat.div_mul_cancel (Rat.ne_of_gt (two_pow_pos μ))
  rw [h2,Nat.mul_add,Nat.mul_one,rU]
  grind
def jb(C n β:Nat):Nat:=(n+1)*RX C n β+C+n*(β+2)+1
theorem acd(hn:n<=20)(hf:f≠0)(hb:BZ (s+5) n f)(hp:E2 C n (s+5) f (uS (cD f)))(bd:BZ (s+5) n (uS (cD f)))(hg:gz f (cD f)=1){δ:Rat}(hδ:δ*2^jb C n β<=1):Lcl (aO f) f (2^β) δ:=by
 obtain⟨h1,h2,h3,h4⟩:=amO (β:=β) hn hf hb hp bd hg
 have hM:(2:Rat)<=2^RX C n β:=by
  have:=oH (show 1<=RX C n β by unfold RX;omega)
  rw [Rat.pow_one]at this
  exact this
 refine StC.loc (Q:=2^(C+n*(β+2))) hM (rV β) (Rat.le_of_lt (two_pow_pos C)) h1 (fun p hp=>⟨(h2 p hp).ab,?_⟩) h4 ?_
 ·rw [QK]
  exact oH (by have:=Nat.mul_le_mul_right (β+2) (h2 p hp).len;omega)
 ·have e1:=acb (RX C n β) (aO f).length
  have hε:=B3 hM (aO f).length
  have h5:RX C n β*(aO f).length+(C+n*(β+2))+1<=jb C n β:=by
   have:=Nat.mul_le_mul_left (RX C n β) h3
   rw [Nat.mul_comm (RX C n β) (n+1)]at this
   unfold jb;omega
  have h6:=oH h5
  rw [Rat.pow_succ,rU]at h6
  have hA:=two_pow_pos (RX C n β*(aO f).length)
  have hB:=two_pow_pos (C+n*(β+2))
  show δ*2^(C+n*(β+2))<FP (2^RX C n β) (aO f).length
  generalize (2:Rat)^(RX C n β*(aO f).length)=A at *
  generalize (2:Rat)^(C+n*(β+2))=Q at *
  generalize FP ((2:Rat)^RX C n β) (aO f).length=ε at *
  generalize (2:Rat)^jb C n β=J at *
  by_cases h0:0<δ
  ·have h7:=Rat.mul_le_mul_of_nonneg_left h6 (Rat.le_of_lt h0)
   have h8:δ*Q*A<=1/2:=aT
   refine Rat.lt_of_mul_lt_mul_right (c:=A) ?_ (Rat.le_of_lt hA)
   grind
  ·have h7:=Rat.mul_le_mul_of_nonneg_right (show δ<=0 by grind) (Rat.le_of_lt hB)
   grind
theorem QL:∀(l:List Int) (n:Nat) (p:Int),(l.foldl zW (n,p)).1=n+K9 p l
 | [],n,p=>rfl
 | s::l,n,p=>by
  have h:zW (n,p) s=if s=0 then(n,p)else(if p≠0∧s≠p then n+1 else n,s):=rfl
  rw [List.foldl_cons,h]
  simp only [K9]
  split
  ·exact QL l n p
  ·split<;>rw [QL l]<;>omega
theorem ZV(l:List Int):vr l=K9 0 l:=by
 rw [vr,QL];omega
theorem apt{n d:Int}{q:Rat}(h:(n:Rat)=q*d):∀x:List Int,((hm n d x).1:Rat)*d=qv q x*(d:Rat)^x.length∧((hm n d x).2:Rat)=(d:Rat)^x.length
 | []=>by
  refine⟨?_,?_⟩
  ·show((0:Int):Rat)*d=0*_
   rw [Rat.intCast_zero,Rat.zero_mul,Rat.zero_mul]
  ·show((1:Int):Rat)=(d:Rat)^0
   rw [Rat.intCast_one,Rat.pow_zero]
 | a::l=>by
  obtain⟨h1,h2⟩:=apt h l
  have e:hm n d (a::l)=((hm n d l).1*n+a*(hm n d l).2,(hm n d l).2*d):=rfl
  rw [e]
  simp only [qv,List.length_cons,Rat.pow_succ,Rat.intCast_add,Rat.intCast_mul]
  rw [h,h2]
  refine⟨?_,rfl⟩
  have:(((hm n d l).1:Rat)*(q*d)+a*(d:Rat)^l.length)*d=((hm n d l).1:Rat)*d*(q*d)+a*((d:Rat)^l.length*d):=aT
  rw [this,h1];grind
theorem aez(v:Int):v.sign=cP (v:Rat):=by
 rcases Int.lt_trichotomy v 0 with h | h | h
 ·rw [Int.sign_eq_neg_one_of_neg h,i0 (Rat.intCast_neg_iff.2 h)]
 ·subst h;decide
 ·rw [Int.sign_eq_one_of_pos h,fZ (Rat.intCast_pos.2 h)]
theorem B6(p:ZX)(q:Rat):QC p.l q.num q.den=cP (e q p):=by
 have hd:(0:Rat)<((q.den:Int):Rat):=Rat.intCast_pos.2 (by have:=q.den_pos;omega)
 have hq:((q.num:Int):Rat)=q*((q.den:Int):Rat):=by
  have h1:q=(q.num:Rat)/((q.den:Int):Rat):=by
   rw [<-Rat.divInt_eq_div,Rat.num_divInt_den]
  have h2:=Rat.div_mul_cancel (a:=(q.num:Rat)) (Rat.ne_of_gt hd)
  rw [<-h1]at h2
  exact h2.symm
 have h1:=(apt hq p.l).1
 show(hm q.num q.den p.l).1.sign=cP (qv q p.l)
 rw [aez]
 have h2:cP (((hm q.num q.den p.l).1:Rat)*((q.den:Int):Rat))=cP (qv q p.l*((q.den:Int):Rat)^p.l.length):=by rw [h1]
 rw [xQ,xQ,fZ hd,fZ (Rat.pow_pos hd)]at h2
 omega
theorem JD(c:List ZX)(q:Rat):vr (rT c q.num q.den)=vt c q:=by
 rw [ZV]
 unfold vt rT LA
 congr 1
 exact List.map_congr_left fun p _=>B6 p q
theorem ata(c:List ZX):∃S:Rat,0<=S ∧ ∀p∈c,∀x∈p.l,Ab (x:Rat) S:=by
 induction c with
 | nil=>exact⟨0,Rat.le_refl,fun p hp=>by cases hp⟩
 | cons a c ih =>
  obtain⟨S,hS,h⟩:=ih
  obtain⟨A,hA,ha⟩:=GB a.l
  refine⟨S+A,aT,fun p hp x hx=>?_⟩
  rcases List.mem_cons.1 hp with rfl | hp
  ·exact(ha x hx).mono aT
  ·exact(h p hp x hx).mono aT
theorem aiT(c:List ZX):∃X:Rat,1<=X∧(∀t,X<=t->vt c t=vr (sgR c)) ∧ ∀t,t <= -X->vt c t=vr (sgL c):=by
 obtain⟨S,hS,h⟩:=ata c
 refine⟨S+1,aT,fun t ht=>?_,fun t ht=>?_⟩
 ·rw [ZV]
  unfold vt sgR LA
  congr 1
  exact List.map_congr_left fun p hp=>(M6 hS p.c (h p hp)).1 ht
 ·rw [ZV]
  unfold vt sgL LA
  congr 1
  exact List.map_congr_left fun p hp=>(M6 hS p.c (h p hp)).2 ht
theorem nT(ha:a≠0):Nf (sq a) ∧ ∀p,ZX.sF p->ZX.mu p (sq a)=min (ZX.mu p a) 1:=by
 have hA:=kG ha
 unfold sq
 split
 ·rename_i h
  refine⟨hA,fun p hp=>?_⟩
  obtain⟨c,hc,rfl⟩:=ZX.nO (x:=a) (by have:=ZX.aH.1 ha;omega)
  rw [abO hp ha,ZX.aec hp hc];rfl
 ·exact⟨aim hA,fun p hp=>by rw [ain hA hp,abO hp ha]⟩
theorem ace(ha:a≠0):gz (sq a) (cD (sq a))=1:=by
 obtain⟨h1,h2⟩:=nT ha
 refine Nf.wK (abR h1.ne) Nf.one fun p hp=>?_
 have e1:mu p (1:ZX)=0:=aec hp aF
 have h3:=apg h1.ne hp
 rw [h2 p hp]at h3
 rw [e1]
 show mu p (gd (sq a))=0
 rw [h3]
 omega
theorem uE(ha:a≠0):dv (sq a) a:=(E7 ha).2.trans (MY a).2
theorem Lcl.mono{L:List ZX}{f:ZX}{B C δ:Rat}(h:Lcl L f B δ)(hc:C<=B):Lcl L f C δ:=
 ⟨fun s t hs ht=>h.turns s t (hs.mono hc) (ht.mono hc),fun s t hs ht=>h.simple s t (hs.mono hc) (ht.mono hc)⟩
theorem ZW(B:Rat):∃β:Nat,B<=2^β:=by
 have h1:=Rat.lt_floor_add_one B
 refine⟨(B.floor+1).toNat,Rat.le_trans (Rat.le_of_lt h1) ?_⟩
 have h2:((2^(B.floor+1).toNat:Int):Rat)=2^(B.floor+1).toNat:=by rw [Rat.intCast_pow];rfl
 rw [<-h2]
 refine Rat.intCast_le_intCast.2 ?_
 have h3:(B.floor+1).toNat<2^(B.floor+1).toNat:=Nat.lt_two_pow_self
 have h4:((2^(B.floor+1).toNat:Nat):Int)=2^(B.floor+1).toNat:=by rw [Int.natCast_pow];rfl
 omega
theorem Ch.QM(h:Ch s n f)(hf:f≠0)(hg:gz f (cD f)=1):zV (aO f) f:=⟨fun B hB=>by
 have hn:=h.hn
 obtain⟨β,hβ⟩:=ZW B
 have bd:BZ (s+5) n (cD f):=h.bz.cD aA
 have hJ:=two_pow_pos (jb 4500000000 n β)
 have hJ1:(1:Rat)/2^jb 4500000000 n β*2^jb 4500000000 n β=1:=Rat.div_mul_cancel (Rat.ne_of_gt hJ)
 refine⟨1/2^jb 4500000000 n β,(Rat.lt_div_iff hJ).2 aT,?_⟩
 exact Lcl.mono (acd hn hf (h.bz.mono aA (Nat.le_refl _)) h.pot (lR bd) hg (by rw [hJ1];exact Rat.le_refl)) hβ⟩
theorem tY.QM{s n:Nat}{a:ZX}(h:tY s n a)(h0:a≠0)(rB:1<=n):zV (aO (sq a)) (sq a):=(h.ch h0 rB).QM (nT h0).1.ne (ace h0)
def eG(t:Rat):ZX:=of [-t.num,(t.den:Int)]
theorem QN(s t:Rat):e s (eG t)=((t.den:Int):Rat)*(s-t):=by
 rw [eG,M7,Rat.intCast_neg]
 have hd:(0:Rat)<((t.den:Int):Rat):=Rat.intCast_pos.2 (by have:=t.den_pos;omega)
 have hq:((t.num:Int):Rat)=t*((t.den:Int):Rat):=by
  have h1:t=(t.num:Rat)/((t.den:Int):Rat):=by
   rw [<-Rat.divInt_eq_div,Rat.num_divInt_den]
  have h2:=Rat.div_mul_cancel (a:=(t.num:Rat)) (Rat.ne_of_gt hd)
  rw [<-h1]at h2
  exact h2.symm
 rw [hq];grind
theorem lA(t:Rat):ZX.N (eG t)=2:=by
 have:aZ [-t.num,(t.den:Int)] = [-t.num,(t.den:Int)]:=kS (x:=(t.den:Int)) (by have:=t.den_nz;omega) [-t.num]
 show(aZ [-t.num,(t.den:Int)]).length=2
 rw [this];rfl
theorem VJ(t:Rat):sF (eG t):=⟨by rw [lA];decide,fun d hd=>by
 have h0:eG t≠0:=ZX.aH.2 (by rw [lA];decide)
 have h1:=hd.nP h0
 have h2:=ZX.aH.1 (hd.ne h0)
 rw [lA]at h1 |-
 omega⟩
theorem azz(h:dv b a)(hb:e t b=0):e t a=0:=by
 obtain⟨c,hc,q,he⟩:=h
 have h1:(c:Rat)*e t a=e t q*e t b:=by rw [<-CV (t:=t) c,<-kH,he,kH]
 rw [hb,Rat.mul_zero]at h1
 exact(Rat.mul_eq_zero.1 h1).resolve_left fun h=>hc (Rat.intCast_eq_zero_iff.1 h)
theorem QO:e t a=0↔dv (eG t) a:=by
 have h0:eG t≠0:=ZX.aH.2 (by rw [lA];decide)
 have hz:e t (eG t)=0:=by rw [QN];grind
 refine⟨fun ha=>?_,fun h=>azz h hz⟩
 obtain⟨c,hc,q,r,he,hN⟩:=ZX.ah9 a h0
 have h1:e t (K c*a)=e t q*e t (eG t)+e t r:=by rw [he,apn,kH]
 rw [kH,ha,hz]at h1
 have hr:e t r=0:=aT
 have qW:r=0:=Classical.byContradiction fun qW=>by
  rw [lA]at hN
  obtain⟨k,hk,rfl⟩:=ZX.nO (x:=r) (by have:=ZX.aH.1 qW;omega)
  rw [CV]at hr
  exact hk (Rat.intCast_eq_zero_iff.1 hr)
 exact⟨c,hc,q,by rw [he,qW];grind⟩
theorem acf(ha:a≠0):e t (sq a)=0↔e t a=0:=by
 refine⟨azz (uE ha),fun h=>?_⟩
 have hp:=VJ t
 have h1:=QO.1 h
 obtain⟨g1,g2⟩:=nT ha
 have p1:(eG t)^1=eG t:=by rw [pow_succ',fH];grind
 have h2:1<=mu (eG t) a:=(lP hp ha).2 (by rw [p1];exact h1)
 have h3:1<=mu (eG t) (sq a):=by rw [g2 _ hp];omega
 have h4:=(lP hp g1.ne).1 h3
 rw [p1]at h4
 exact QO.2 h4
theorem aeA(h:zV L f){b:Rat}(hb:∀a,Bg a b f):vr (sgL L)=vt L b:=by
 obtain⟨X,hX,_,h2⟩:=aiT L
 by_cases C4:b <= -X
 ·exact(h2 b C4).symm
 ·rw [<-h2 (-X) Rat.le_refl]
  exact h.bg (hb (-X)) (Rat.not_le.1 C4)
theorem ZY(h:zV L f){a:Rat}(ha:∀b,Bg a b f):vr (sgR L)=vt L a:=by
 obtain⟨X,hX,h1,_⟩:=aiT L
 by_cases C4:X<=a
 ·exact(h1 a C4).symm
 ·rw [<-h1 X Rat.le_refl]
  exact(h.bg (ha X) (Rat.not_le.1 C4)).symm
theorem mO(p q:Rat):(eA (p.num*q.den) (q.num*p.den)<0)↔p<q:=by
 rw [qF,Rat.lt_iff]
theorem aiU(C:List ZX)(q:Rat):vt C q<=C.length:=by
 have:=JC (rT C q.num q.den)
 rw [JD]at this
 simpa [rT]using this
theorem JE{n:Int}(h:d≠0):eH n d=(n:Rat)/d:=by rw [eH,if_neg h,Rat.divInt_eq_div]
theorem QP{n:Int}(h:d≠0)(e:(n:Rat)=q*d):eH n d=q:=by
 have hd:(d:Rat)≠0:=fun h0=>h (Rat.intCast_eq_zero_iff.1 h0)
 rw [JE h,e,Rat.mul_div_cancel hd]
theorem B7(q:Rat):((q.num:Int):Rat)=q*((q.den:Int):Rat):=by
 have hd:(0:Rat)<((q.den:Int):Rat):=Rat.intCast_pos.2 (by have:=q.den_pos;omega)
 have h1:q=(q.num:Rat)/((q.den:Int):Rat):=by
  rw [<-Rat.divInt_eq_div,Rat.num_divInt_den]
 have h2:=Rat.div_mul_cancel (a:=(q.num:Rat)) (Rat.ne_of_gt hd)
 rw [<-h1]at h2
 exact h2.symm
theorem amP{n:Int}(hn:sz LL n<1099511627770)(hd:sz LL d<1099511627770)(h0:d≠0):aC 146 [I n,I d] (.dK [RT (eH n d),aB 0]):=by
 have n1:=O8 (x:=d) (by show _<_;omega)
 have n2:=O8 (x:=n) (by show _<_;omega)
 have z1:=M8 d
 have l1:=uC hn hd h0
 rw [show decide (d=0)=false from decide_eq_false h0]at z1
 show aC _ _ (.dK [T2 (eH n d).num (eH n d).den,_])
 replace l1:aC 169 [I n,I d] (T2 (eH n d).num (eH n d).den):=l1
 generalize (eH n d).num=rn at *
 generalize ((eH n d).den:Int)=rd at *
 apply cG [(0,I n),(1,I d)] Tryz.func146
 apply cN [2,3,4]
 apply cK n1 [2,3,4]
 apply cK z1 [2,3,4,9]
 refine W.cond ⟨_,rfl,fun h=>?_,fun h=>?_⟩
 ·simp at h
 apply (HT)
 simp (maxSteps:=4000000) (disch:=omega) [gw]
 apply j9 n2
 simp (maxSteps:=4000000) (disch:=omega) [gw]
 apply j9 l1
 simp (maxSteps:=4000000) (disch:=omega) [gw]
 (try (refine aY (of_decide_eq_true cT) ?_));(try simp (maxSteps:=4000000) (disch:=omega) [gw]);(repeat rw [if_pos cT]);(try simp (maxSteps:=4000000) (disch:=omega) [gw])
 exact pJ [4,5]
theorem atb(p q:Rat):eH (p.num*q.den+q.num*p.den) (p.den*q.den*2)=(p+q)/2:=by
 have h1:((p.den:Int)*q.den*2)≠0:=by
  have:=p.den_nz;have:=q.den_nz
  refine Int.mul_ne_zero (Int.mul_ne_zero ?_ ?_) aF<;>omega
 refine QP h1 ?_
 rw [Rat.intCast_add,Rat.intCast_mul,Rat.intCast_mul,Rat.intCast_mul,Rat.intCast_mul,B7 p,B7 q]
 have h2:(p+q)/2*2=p+q:=Rat.div_mul_cancel aF
 show _=(p+q)/2*(((p.den:Int):Rat)*((q.den:Int):Rat)*2)
 generalize (p+q)/2=m at *
 grind
theorem VK(hp:sz LL p.num<=k∧sz LL (p.den:Int)<=k)(hq:sz LL q.num<=k∧sz LL (q.den:Int)<=k)(hk:k<=300000000000):aC 91 [RT p,RT q] (RT ((p+q)/2)):=by
 have c1:=DO hp.1 hp.2 hq.1 hq.2 aA (bI p) (bI q) hp hq
 have g1:=cW (b:=LL) iT hp.1 hq.2
 have g2:=cW (b:=LL) iT hq.1 hp.2
 have g3:=cW (b:=LL) iT hp.2 hq.2
 have s2:sz LL 2<=1:=dZ (k:=1) iT aF
 have g4:=cW (b:=LL) iT g3 s2
 have g5:=qH (b:=LL) iT (Nat.le_trans g1 (show k+k<=k+k from Nat.le_refl _)) (Nat.le_trans g2 (show k+k<=k+k from Nat.le_refl _))
 have a1:=abl (x:=p.num*q.den) (y:=q.num*p.den) (by show _<_;omega) (by show _<_;omega)
 have o1:=H7 2 aF aF
 have m1:=BH (x:=(p.den:Int)*q.den) (y:=2) (by show _<_;omega) (by show _<_;omega)
 have h1:((p.den:Int)*q.den*2)≠0:=by
  have:=p.den_nz;have:=q.den_nz
  refine Int.mul_ne_zero (Int.mul_ne_zero ?_ ?_) aF<;>omega
 have l1:=uC (n:=p.num*q.den+q.num*p.den) (d:=p.den*q.den*2) aA aA h1
 rw [atb]at l1
 show aC _ [T2 p.num p.den,T2 q.num q.den] (T2 ((p+q)/2).num ((p+q)/2).den)
 replace l1:aC 169 [I (p.num*q.den+q.num*p.den),I (p.den*q.den*2)] (T2 ((p+q)/2).num ((p+q)/2).den):=l1
 clear g1 g2 g3 g4 g5 h1 hp hq
 generalize ((p+q)/2).num=rn at *
 generalize (((p+q)/2).den:Int)=rd at *
 generalize p.num*(q.den:Int)+q.num*p.den=x4 at *
 generalize (p.den:Int)*q.den*2=x5 at *
 generalize p.num*(q.den:Int)=x1 at *
 generalize q.num*(p.den:Int)=x2 at *
 generalize (p.den:Int)*(q.den:Int)=x3 at *
 generalize p.num=pn at *
 generalize (p.den:Int)=pd at *
 generalize q.num=qn at *
 generalize (q.den:Int)=qd at *
 apply cG [(0,T2 pn pd),(1,T2 qn qd)] Tryz.func91
 apply gJ [2,3,4] c1 [4,5,6,7]
 apply W.sd
 simp (maxSteps:=4000000) (disch:=omega) [gw]
 apply j9 a1
 simp (maxSteps:=4000000) (disch:=omega) [gw]
 apply j9 o1
 simp (maxSteps:=4000000) (disch:=omega) [gw]
 apply j9 m1
 simp (maxSteps:=4000000) (disch:=omega) [gw]
 apply j9 l1
 simp (maxSteps:=4000000) (disch:=omega) [gw]
 (try (refine aY (of_decide_eq_true cT) ?_));(try simp (maxSteps:=4000000) (disch:=omega) [gw]);(repeat rw [if_pos cT]);(try simp (maxSteps:=4000000) (disch:=omega) [gw])
 exact pJ [4]
theorem aeB(hp:sz LL p.num<1099511627770∧sz LL (p.den:Int)<1099511627770):aC 73 [RT p] (RT (-p)):=by
 have n1:=pZ hp.1 hp.2
 rw [bI]at n1
 have n2:=aoO (x:=p.num) (by show _<_;omega)
 replace n1:aC 147 [T2 p.num p.den] (T2 p.num p.den):=n1
 show aC _ [T2 p.num p.den] (T2 (-p).num (-p).den)
 rw [Rat.neg_num,Rat.neg_den]
 generalize -p.num=rn at *
 generalize p.num=pn at *
 generalize (p.den:Int)=pd at *
 apply cG [(0,T2 pn pd)] Tryz.func73
 apply gJ [1,2] n1 [1,2]
 apply cK n2 [1,2]
 exact eY [2]
theorem VL(hp:ZR YY p)(hq:ZR YY q)(hs:ZR YY (p+q)):aC 204 [RR p,RR q] (RR ((p+q)/2)):=by
 have a1:=BK p q hp hq
 have o1:=pN 1 2 aF aF
 have m1:=IH (p+q) (eH 1 2) hs ⟨aF,aF⟩
 have e:(p+q)*eH 1 2=(p+q)/2:=by
  rw [show eH 1 2=(1:Rat)/2 by rw [JE aF];rfl];grind
 rw [e]at m1
 rw [cU]at *
 rw [cU q,cU (p+q),cU (eH 1 2)]at *
 generalize (p+q)/2=m at *
 generalize p+q=s at *
 generalize eH 1 2=hf at *
 generalize p.num=pn at *
 generalize (p.den:Int)=pd at *
 generalize q.num=qn at *
 generalize (q.den:Int)=qd at *
 generalize s.num=sn at *
 generalize (s.den:Int)=sd at *
 generalize hf.num=fn at *
 generalize (hf.den:Int)=fd at *
 rw [cU]at *
 generalize m.num=mn at *
 generalize (m.den:Int)=md at *
 apply cG [(0,R2 pn pd),(1,R2 qn qd)] Tryz.func204
 apply aQ [2,3,4]
 apply nB a1
 apply fV o1 m1
 exact gI [4]
theorem aiV(h:sz LL d<4294967296):aC 156 [I d] (RI d):=by
 have h1:=MI (decide (d<0)) (aV LL d.natAbs) (by have:sz LL d=(aV LL d.natAbs).length:=rfl;omega) (gZ iT _)
 rw [show iv (decide (d<0)) (aV LL d.natAbs)=d from TS d]at h1
 exact h1
theorem aeC(hp:sz LL p.num<4294967296∧sz LL (p.den:Int)<4294967296)(hY:Y p.num∧Y (p.den:Int)):aC 82 [RT p] (RR p):=by
 have f1:=aiV hp.1
 have f2:=aiV hp.2
 have m1:=nJ p.num p.den hY.1 hY.2
 rw [bI,cU]at m1
 rw [cU]
 show aC _ [T2 p.num p.den] _
 replace f1:aC 156 [I p.num] (RI p.num):=f1
 replace f2:aC 156 [I (p.den:Int)] (RI (p.den:Int)):=f2
 generalize p.num=pn at *
 generalize (p.den:Int)=pd at *
 apply cG [(0,T2 pn pd)] Tryz.func82
 apply kR [1,2]
 simp (maxSteps:=4000000) (disch:=omega) [gw]
 apply j9 f1
 simp (maxSteps:=4000000) (disch:=omega) [gw]
 apply j9 f2
 simp (maxSteps:=4000000) (disch:=omega) [gw]
 apply j9 m1
 simp (maxSteps:=4000000) (disch:=omega) [gw]
 (try (refine aY (of_decide_eq_true cT) ?_));(try simp (maxSteps:=4000000) (disch:=omega) [gw]);(repeat rw [if_pos cT]);(try simp (maxSteps:=4000000) (disch:=omega) [gw])
 exact pJ [2]
theorem apu{x:Int}(hx:Sz x):aC 143 [I x] (I (x.natAbs:Int)):=by
 have h1:=ahL (decide (x<0)) (aV LL x.natAbs) hx.lok
 rw [show V 4294967296 (aV LL x.natAbs)=(x.natAbs:Int)from nD iT _]at h1
 exact h1
def oI(x:List Int):Nat->Int
 | 0=>0
 | i+1=>if oI x i<((nth x i).natAbs:Int)then((nth x i).natAbs:Int)else oI x i
theorem aiW(x:List Int):∀i,0<=oI x i
 | 0=>Int.le_refl _
 | i+1=>by
  have:=aiW x i
  rw [oI];split<;>omega
theorem aiX(x:List Int):∀i k,k<i->((nth x k).natAbs:Int)<=oI x i
 | 0,k,h=>by omega
 | i+1,k,h=>by
  rw [oI]
  by_cases hk:k=i
  ·subst hk;split<;>omega
  ·have:=aiX x i k aA
   split<;>omega
theorem zZ{b s n:Nat}{x:List Int}(h:Bd b s n x):∀i,Pm.sz b (oI x i)<=s
 | 0=>by show Pm.sz b 0<=s;rw [nG];omega
 | i+1=>by
  have ih:=zZ h i
  have h1:=h.nth i
  have h2:Pm.sz b ((nth x i).natAbs:Int)=Pm.sz b (nth x i):=by unfold Pm.sz;rw [Int.natAbs_natCast]
  rw [oI];split
  ·rw [h2];exact h1
  ·exact ih
def jE(x:List Int):Rat:=eH (((lead x).natAbs:Int)+oI x (x.length-1)) ((lead x).natAbs:Int)
theorem ZZ{α:Type}{g:α->List PV}{l:List α}(hN:aC 64 [aJ g l] (Po x))(cx:Cn x)(hx:x ≠ [])(b:Bd LL s n x)(hs:s<500000000000)(hn:n<500000000000):aC 71 [aJ g l] (.dK [RT (jE x),aB 0]):=by
 have sB:0<x.length:=List.length_pos_iff.2 hx
 have hlen:=b.len
 have AF:=dO cx sB
 have L1:=oB (PB.of b aA aA) cx
 have hld:=iX b
 have A1:=apu (x:=lead x) (Nat.lt_of_le_of_lt hld aA)
 have Z0:sz LL ((lead x).natAbs:Int)<=s:=Nat.le_trans (dN iT aG) hld
 have hm:=zZ b (x.length-1)
 have S1:=abl (x:=((lead x).natAbs:Int)) (y:=oI x (x.length-1)) (Nat.lt_of_le_of_lt Z0 aA) (Nat.lt_of_le_of_lt hm aA)
 have aEX:=qH (b:=LL) iT Z0 hm
 have M1:=amP (n:=((lead x).natAbs:Int)+oI x (x.length-1)) (d:=((lead x).natAbs:Int)) aA aA aA
 replace M1:aC 146 [I (((lead x).natAbs:Int)+oI x (x.length-1)),I ((lead x).natAbs:Int)] (.dK [T2 (jE x).num (jE x).den,aB 0]):=M1
 show aC _ _ (.dK [T2 (jE x).num (jE x).den,_])
 have C1:∀i,i<x.length->aC 143 [I (nth x i)] (I ((nth x i).natAbs:Int))∧aC 144 [I ((nth x i).natAbs:Int),I (oI x i)] (aB (eA ((nth x i).natAbs:Int) (oI x i))):=fun i hi=>by
  have h1:=b.nth i
  have h2:sz LL ((nth x i).natAbs:Int)<=s:=Nat.le_trans (dN iT aG) h1
  exact⟨apu (Nat.lt_of_le_of_lt h1 aA),aho (Nat.lt_of_le_of_lt h2 aA) (Nat.lt_of_le_of_lt (zZ b i) aA)⟩
 have hmx:∀i,oI x (i+1)=if 0<eA ((nth x i).natAbs:Int) (oI x i)then((nth x i).natAbs:Int)else oI x i:=fun i=>by
  rw [oI]
  by_cases h:oI x i<((nth x i).natAbs:Int)
  ·rw [if_pos h,if_pos (qG.2 h)]
  ·rw [if_neg h,if_neg (fun q=>h (qG.1 q))]
 have h0:oI x 0=0:=rfl
 clear hm aEX Z0 hld
 generalize (jE x).num=rn at *
 generalize ((jE x).den:Int)=rd at *
 generalize ((lead x).natAbs:Int)+oI x (x.length-1)=sm at *
 generalize ((lead x).natAbs:Int)=la at *
 generalize oI x=mf at *
 have e1:((x.length:Int)-1).toNat=x.length-1:=aA
 have e2:(x.length:Int)-1=((x.length-1:Nat):Int):=aA
 apply cG [(0,aJ g l)] Tryz.func71
 apply gJ [0,2] hN [0,2]
 apply cQ [0,2,13]
 refine W.cond ⟨_,rfl,fun h=>?_,fun h=>?_⟩
 ·simp at h;exact absurd h hx
 apply W.skip
 apply aQ [0,2,4]
 refine W.row (id:=4) (els:=[[.bool false, .nil]]) [[.bool (decide ((0:Int)<0)),us (aV LL (0:Int).natAbs)]] (by simp;first | exact⟨rfl,rfl,rfl⟩ | exact⟨rfl,rfl⟩ | rfl) ⟨⟨.inl rfl, .inr ⟨rfl,rfl⟩,trivial⟩,trivial⟩ ?_
 apply W.seq
 apply W.sr
 simp (disch:=omega) [gw,e1,e2]
 apply cO [0,2,4,19,20,21]
 apply W.block
 refine W.bB (fun k σ=>∃(v2 e2 v4 e4 i:Nat),bF σ [(0,Po x),(2, .ptr 2 v2 0 0),(4, .ptr 4 v4 0 0),(19,aJ ie (x.take (x.length-1))),(20,aB ((x.length-1:Nat):Int)),(21,aB i)] fun rows clk=>i+k=x.length-1 ∧
  rows 2=some ⟨v2,e2,4,[[.bool false, .nil, .bool false, .nil]]⟩∧rows 4=some ⟨v4,e4,2,[[.bool (decide (mf i<0)),us (aV LL (mf i).natAbs)]]⟩) (x.length-1) ?_ ?_
 ·exact⟨_, .refl,_,_,_,_,0,_,_,rfl,aA,by simp;(first | exact⟨rfl,rfl⟩ | rfl),by rw [h0];simp;(first | exact⟨rfl,rfl⟩ | rfl)⟩
 rintro k _ ⟨v2,e2,v4,e4,i,rows,clk,rfl,tM,bS,dW⟩
 apply cN [0,2,4,19,20,21,22]
 refine W.cond ⟨_,rfl,fun h=>?_,fun h=>?_⟩
 ·have hi:i<x.length-1:=by simp at h;omega
  have J0:i<x.length:=aA
  have CQ:nth (x.take (x.length-1)) i=nth x i:=by unfold nth;rw [List.getElem?_take_of_lt hi]
  obtain⟨c1,c2⟩:=C1 i J0
  have hm:=hmx i
  generalize eA ((nth x i).natAbs:Int) (mf i)=cv at *
  generalize ((nth x i).natAbs:Int)=ab at *
  generalize nth x i=xi at *
  apply W.skip
  refine W.dS (fun σ=>∃(v2 e2 v4 e4:Nat),bF σ [(0,Po x),(2, .ptr 2 v2 0 0),(4, .ptr 4 v4 0 0),(19,aJ ie (x.take (x.length-1))),(20,aB ((x.length-1:Nat):Int)),(21,aB i)] fun rows clk =>
   rows 2=some ⟨v2,e2,4,[[.bool false, .nil, .bool false, .nil]]⟩∧rows 4=some ⟨v4,e4,2,[[.bool (decide (mf (i+1)<0)),us (aV LL (mf (i+1)).natAbs)]]⟩) ?_ ?_
  ·apply qY hi CQ [0,2,4,6,19,20,21]
   apply cK c1 [0,2,4,7,19,20,21]
   apply oQ dW c2
   apply bT [0,2,4,7,19,20,21,30]
   refine W.cond ⟨_,rfl,fun h=>?_,fun h=>?_⟩
   ·have h:0<cv:=by simpa using h
    rw [if_pos h]at hm
    refine W.bY (fun K hK=>?_);simp (disch:=omega) [gw,dW]
    exact hK _ ⟨_,aD _ [0,2,4,19,20,21],_,_,_,_,_,_,rfl,by simp [bS];exact rfl,by simp [hm];exact rfl⟩
   ·have h:¬0<cv:=by simpa using h
    rw [if_neg h]at hm
    apply W.skip
    exact⟨_,aD _ [0,2,4,19,20,21],_,_,_,_,_,_,rfl,by simp [bS];exact rfl,by simp [hm,dW];exact rfl⟩
  rintro _ ⟨v2,e2,v4,e4,rows,clk,rfl,bS,dW⟩
  refine W.bY (fun K hK=>?_);simp (disch:=omega) [gw]
  refine hK _ ⟨k-1,_,aD _ [0,2,4,19,20,21],aA,_,_,_,_,i+1,_,_,rfl,aA,bS,dW⟩
 ·have hi:i=x.length-1:=by simp at h;omega
  subst hi
  apply (jV)
  apply fV L1 A1
  apply bT [2,4,8]
  apply W.sd
  apply j0 dW S1
  simp (maxSteps:=4000000) (disch:=omega) [gw]
  apply j9 M1
  apply eV bS
  (try (refine aY (of_decide_eq_true cT) ?_));(try simp (maxSteps:=4000000) (disch:=omega) [gw,bS]);(repeat rw [if_pos cT]);(try simp (maxSteps:=4000000) (disch:=omega) [gw,bS])
  exact pJ [2,3]
theorem DQ(cx:Cn x)(hx:x ≠ []):jE x=1+((oI x (x.length-1):Int):Rat)/(((lead x).natAbs:Int):Rat):=by
 have AF:=dO cx (List.length_pos_iff.2 hx)
 have h1:((lead x).natAbs:Int)≠0:=aA
 have h2:(((lead x).natAbs:Int):Rat)≠0:=fun h=>h1 (Rat.intCast_eq_zero_iff.1 h)
 refine QP h1 ?_
 rw [Rat.intCast_add]
 have h3:=Rat.div_mul_cancel (a:=((oI x (x.length-1):Int):Rat)) h2
 generalize ((oI x (x.length-1):Int):Rat)/(((lead x).natAbs:Int):Rat)=w at *
 grind
theorem atc{u v:Int}(hu:sz 2 u<=k)(hv:sz 2 v<=k)(h0:v≠0):ZR k ((u:Rat)/(v:Rat)):=by
 rw [<-JE h0]
 have e:∀w:Int,sz 2 (-w)=sz 2 w:=fun w=>by unfold sz;rw [Int.natAbs_neg]
 constructor
 ·rw [tN u v h0]
  refine Nat.le_trans (dN (b:=2) aF (Int.natAbs_ediv_le_natAbs _ _)) ?_
  split
  ·rw [e];exact hu
  ·exact hu
 ·rw [tP u v h0]
  refine Nat.le_trans (dN (b:=2) aF (Int.natAbs_ediv_le_natAbs _ _)) ?_
  split
  ·rw [e];exact hv
  ·exact hv
theorem Z2(cx:Cn x)(hx:x ≠ [])(b:Bd 2 s n x)(sX:1<=s)(hs:s<=1000000000)(hn:n<1099511627776):aC 183 [PI x] (RR (jE x)):=by
 have sB:0<x.length:=List.length_pos_iff.2 hx
 have hlen:=b.len
 have AF:=dO cx sB
 have hY:YY=137438953472:=rfl
 have hO:=pN 1 1 aF aF
 rw [show eH 1 1=1 from aF]at hO
 have OD:x.length<2->jE x=1:=fun h=>by
  rw [DQ cx hx,show x.length-1=0 by omega]
  show 1+((0:Int):Rat)/_=1
  rw [Rat.intCast_zero,Rat.div_def,Rat.zero_mul,Rat.add_zero]
 have hld:=iX b
 have Z0:sz 2 ((lead x).natAbs:Int)<=s:=Nat.le_trans (dN (b:=2) aF aG) hld
 have hm:=zZ b (x.length-1)
 have Z1:∀ {v:Int},sz 2 v<=s->ZR YY ((v:Int):Rat):=fun h=>sC aA aF
 have Q1:=II ((oI x (x.length-1):Int):Rat) (((lead x).natAbs:Int):Rat) (Z1 hm) (Z1 Z0) (fun h=>by have:=Rat.intCast_eq_zero_iff.1 h;omega)
 have hz:=atc (k:=YY) (Nat.le_trans hm aA) (Nat.le_trans Z0 aA) (by omega:((lead x).natAbs:Int)≠0)
 have A1:=BK 1 (((oI x (x.length-1):Int):Rat)/(((lead x).natAbs:Int):Rat)) ⟨aF,aF⟩ hz
 rw [<-DQ cx hx]at A1
 have C1:∀i,i<x.length->aC 14 [R2 ((nth x i).natAbs:Int) 1,R2 (oI x i) 1] (aB (eA ((nth x i).natAbs:Int) (oI x i))):=fun i hi=>by
  have h1:=b.nth i
  have h2:sz 2 ((nth x i).natAbs:Int)<=s:=Nat.le_trans (dN (b:=2) aF aG) h1
  have h3:=zZ b i
  have:=DM ((nth x i).natAbs:Int) 1 (oI x i) 1 aA aF aA aF
  rwa [Int.mul_one,Int.mul_one]at this
 have hmx:∀i,oI x (i+1)=if 0<eA ((nth x i).natAbs:Int) (oI x i)then((nth x i).natAbs:Int)else oI x i:=fun i=>by
  rw [oI]
  by_cases h:oI x i<((nth x i).natAbs:Int)
  ·rw [if_pos h,if_pos (qG.2 h)]
  ·rw [if_neg h,if_neg (fun q=>h (qG.1 q))]
 have h0:oI x 0=0:=rfl
 have oY:=s6
 have azA:nth x (x.length-1)=lead x:=rfl
 have hd:∀v:Int,decide (((v.natAbs:Int))<0)=false:=fun v=>decide_eq_false aA
 have hna:∀v:Int,((v.natAbs:Int)).natAbs=v.natAbs:=fun v=>Int.natAbs_natCast _
 clear hm hld Z0 hz Z1
 rw [show RR ((oI x (x.length-1):Int):Rat) = .ag (ri (oI x (x.length-1)))from congrArg PV.ag (iO _),show RR (((lead x).natAbs:Int):Rat) = .ag (ri ((lead x).natAbs:Int))from congrArg PV.ag (iO _)]at Q1
 rw [show RR (1:Rat) = .ag (ri 1)from congrArg PV.ag (iO 1)]at A1 hO
 generalize ((oI x (x.length-1):Int):Rat)/(((lead x).natAbs:Int):Rat)=qq at *
 generalize hbd:jE x=B at *
 simp only [cU]at Q1 A1 |-
 have C4:x.length<2->R2 B.num (B.den:Int) = .ag (ri 1):=fun h=>by rw [OD h];rfl
 generalize B.num=bn at *
 generalize (B.den:Int)=bd at *
 generalize qq.num=qn at *
 generalize (qq.den:Int)=qd at *
 generalize hmf:oI x=mf at *
 have e1:((x.length:Int)-1).toNat=x.length-1:=aA
 apply cG [(0,PI x)] Tryz.func183
 apply gJ [0,2] oY [0,2,3]
 apply eE [0,2,3,4]
 refine W.bB (fun k σ=>∃(v2 e2 v3 e3 i:Nat),bF σ [(0,PI x),(2, .ptr 2 v2 0 0),(3, .ptr 3 v3 0 0),(4,aB i)] fun rows clk=>i+k=x.length-1 ∧
  rows 2=some ⟨v2,e2,4,[[.nil, .bool false, .nil, .bool false]]⟩∧rows 3=some ⟨v3,e3,4,[[aJ aI (aV DD (mf i).natAbs), .bool (decide (mf i<0)),aJ aI (aV DD 1), .bool false]]⟩) (x.length-1) ?_ ?_
 ·exact⟨_, .refl,_,_,_,_,0,_,_,rfl,aA,by simp;(first | exact⟨rfl,rfl⟩ | rfl),by rw [h0];simp;(first | exact⟨rfl,rfl⟩ | rfl)⟩
 rintro k _ ⟨v2,e2,v3,e3,i,rows,clk,rfl,tM,bS,bK⟩
 apply cQ [0,2,3,4,12]
 refine W.cond ⟨_,rfl,fun h=>?_,fun h=>?_⟩
 ·have hi:i<x.length-1:=by simp at h;omega
  have J0:i<x.length:=aA
  have c1:=C1 i J0
  have hm:=hmx i
  have PA:=hd (nth x i)
  have rB:=hna (nth x i)
  simp only [PA,rB,QD,R2]at c1
  generalize eA ((nth x i).natAbs:Int) (mf i)=cv at *
  apply W.skip
  refine W.dS (fun σ=>∃(v2 e2 v3 e3:Nat),bF σ [(0,PI x),(2, .ptr 2 v2 0 0),(3, .ptr 3 v3 0 0),(4,aB i)] fun rows clk =>
   rows 2=some ⟨v2,e2,4,[[.nil, .bool false, .nil, .bool false]]⟩∧rows 3=some ⟨v3,e3,4,[[aJ aI (aV DD (mf (i+1)).natAbs), .bool (decide (mf (i+1)<0)),aJ aI (aV DD 1), .bool false]]⟩) ?_ ?_
  ·apply fJ J0 [0,2,3,4,5]
   apply aQ [0,2,3,4,5]
   apply oQ bK c1
   apply bT [0,2,3,4,5,24]
   refine W.cond ⟨_,rfl,fun h=>?_,fun h=>?_⟩
   ·have h:0<cv:=by simpa using h
    rw [if_pos h]at hm
    refine W.bY (fun K hK=>?_);simp (disch:=omega) [gw,bK]
    exact hK _ ⟨_,aD _ [0,2,3,4],_,_,_,_,_,_,rfl,by simp [bS];exact rfl,by simp [hm,PA,rB];exact rfl⟩
   ·have h:¬0<cv:=by simpa using h
    rw [if_neg h]at hm
    apply W.skip
    exact⟨_,aD _ [0,2,3,4],_,_,_,_,_,_,rfl,by simp [bS];exact rfl,by simp [hm,bK];exact rfl⟩
  rintro _ ⟨v2,e2,v3,e3,rows,clk,rfl,bS,bK⟩
  refine W.bY (fun K hK=>?_);simp (disch:=omega) [gw]
  refine hK _ ⟨k-1,_,aD _ [0,2,3,4],aA,_,_,_,_,i+1,_,_,rfl,aA,bS,bK⟩
 ·have hi:i=x.length-1:=by simp at h;omega
  subst hi
  apply (gK)
  apply cQ [0,2,3,28]
  refine W.cond ⟨_,rfl,fun h=>?_,fun h=>?_⟩
  ·have h:x.length<2:=by simp at h;omega
   rw [C4 h]
   apply nB hO
   exact FM bS [2]
  ·have h:¬x.length<2:=by simp at h;omega
   have J0:x.length-1<x.length:=aA
   have PA:=hd (lead x)
   have rB:=hna (lead x)
   simp only [R2,ahy,QD,PA,rB]at Q1 A1
   apply W.skip
   apply W.sr
   simp (disch:=omega) [gw,J0,e1,azA]
   apply cO [2,3,6]
   apply kR [2,3,6]
   apply kZ hO
   apply j0 bK Q1
   apply kZ A1
   apply eV bS
   (try (refine aY (of_decide_eq_true cT) ?_));(try simp (maxSteps:=4000000) (disch:=omega) [gw,bS]);(repeat rw [if_pos cT]);(try simp (maxSteps:=4000000) (disch:=omega) [gw,bS])
   exact pJ [2]
end Go.Proofs.YtiobceocpabjdaaGreat
namespace Pm
variable {a b:ZX}{n:Nat}
theorem aiY:∀(n:Nat) (f:Nat->Nat),(∀k,k<=n->f k<n) -> ∃i j,i<j∧j<=n∧f i=f j
 | 0,f,h=>absurd (h 0 (Nat.le_refl _)) aA
 | n+1,f,h=>by
  by_cases hx:∃i,i<=n∧f i=f (n+1)
  ·obtain⟨i,hi,e⟩:=hx
   exact⟨i,n+1,aA,Nat.le_refl _,e⟩
  ·have o7:∀i,i<=n->f i≠f (n+1):=fun i hi e=>hx ⟨i,hi,e⟩
   have hm:=h (n+1) (Nat.le_refl _)
   obtain⟨i,j,hij,hj,e⟩:=aiY n (fun k=>if f k=n then f (n+1)else f k) (fun k hk=>by
    have h1:=h k aA
    have h2:=o7 k hk
    show(if f k=n then f (n+1)else f k)<n
    split<;>omega)
   refine⟨i,j,hij,aA,?_⟩
   have h1:=o7 i aA
   have h2:=o7 j hj
   have e':(if f i=n then f (n+1)else f i)=(if f j=n then f (n+1)else f j):=e
   split at e'<;>split at e'<;>omega
def KB(b:Nat):Nat->Nat->List Int
 | 0,_=>[]
 | n+1,k=>((k%b:Nat):Int)::KB b n (k/b)
theorem B8(b:Nat):∀n k,(KB b n k).length=n
 | 0,_=>rfl
 | n+1,k=>by rw [KB,List.length_cons,B8 b n]
theorem QQ{b:Nat}(hb:0<b):∀n k,∀c∈KB b n k,0<=c∧c<b
 | 0,_,c,h=>by cases h
 | n+1,k,c,h=>by
  rcases List.mem_cons.1 h with rfl | h
  ·have:=Nat.mod_lt k hb;omega
  ·exact QQ hb n _ c h
theorem QR{b:Nat}(hb:0<b):∀n k m,k<b^n->m<b^n->KB b n k=KB b n m->k=m
 | 0,k,m,h1,h2,_=>by simp at h1 h2;omega
 | n+1,k,m,h1,h2,h=>by
  rw [KB,KB]at h
  injection h with h3 h4
  rw [Nat.pow_succ]at h1 h2
  have h5:=QR hb n (k/b) (m/b) ((Nat.div_lt_iff_lt_mul hb).2 h1) ((Nat.div_lt_iff_lt_mul hb).2 h2) h4
  have h6:=Nat.div_add_mod k b
  have h7:=Nat.div_add_mod m b
  rw [h5]at h6
  omega
def Z3(R:Nat):List Nat->Nat
 | []=>0
 | x::l=>x+R*Z3 R l
theorem aiZ{R:Nat}:∀l:List Nat,(∀x∈l,x<R)->Z3 R l<R^l.length
 | [],_=>by simp [Z3]
 | x::l,h=>by
  have h1:=aiZ l fun y hy=>h y (List.mem_cons_of_mem _ hy)
  have h2:=h x (List.mem_cons_self ..)
  rw [Z3,List.length_cons,Nat.pow_succ]
  have h3:R*(Z3 R l+1)<=R*R^l.length:=Nat.mul_le_mul_left _ h1
  rw [Nat.mul_add]at h3
  rw [Nat.mul_comm (R^_)]
  omega
theorem acg{R:Nat}:∀l m:List Nat,l.length=m.length->(∀x∈l,x<R)->(∀x∈m,x<R)->Z3 R l=Z3 R m->l=m
 | [],[],_,_,_,_=>rfl
 | [],_::_,h,_,_,_=>by simp at h
 | _::_,[],h,_,_,_=>by simp at h
 | x::l,y::m,hl,h1,h2,e=>by
  rw [Z3,Z3]at e
  have hx:=h1 x (List.mem_cons_self ..)
  have hy:=h2 y (List.mem_cons_self ..)
  have e1:(x+R*Z3 R l)%R=(y+R*Z3 R m)%R:=by rw [e]
  rw [Nat.add_mul_mod_self_left,Nat.add_mul_mod_self_left,Nat.mod_eq_of_lt hx,Nat.mod_eq_of_lt hy]at e1
  subst e1
  have e2:R*Z3 R l=R*Z3 R m:=aA
  have e3:=Nat.eq_of_mul_eq_mul_left aA e2
  rw [acg l m (by simpa using hl) (fun z hz=>h1 z (List.mem_cons_of_mem _ hz)) (fun z hz=>h2 z (List.mem_cons_of_mem _ hz)) e3]
theorem wN{X Y:Nat}:∀(x y:List Int),(∀c∈x,c.natAbs<=X)->(∀i,(nth y i).natAbs<=Y) -> ∀i,(nth (cB x y) i).natAbs<=x.length*(X*Y)
 | [],y,_,_,i=>by
  rw [show cB [] y = []from rfl,sW];simp
 | k::x,y,hx,hy,i=>by
  have hk:=hx k (List.mem_cons_self ..)
  have ih:=wN x y (fun c hc=>hx c (List.mem_cons_of_mem _ hc)) hy
  have h1:∀j,(nth y j*k).natAbs<=X*Y:=fun j=>by
   rw [Int.natAbs_mul,Nat.mul_comm]
   exact Nat.mul_le_mul hk (hy j)
  rw [List.length_cons,Nat.add_mul,Nat.one_mul]
  cases i with
  | zero =>
   rw [vU]
   have:=h1 0;omega
  | succ i =>
   rw [qJ]
   have h2:=h1 (i+1)
   have h3:=ih i
   have h4:=Int.natAbs_add_le (nth y (i+1)*k) (nth (cB x y) i)
   omega
theorem Z4{A:Nat}{y:List Int}(h:∀c∈y,c.natAbs<=A)(i:Nat):(nth y i).natAbs<=A:=by
 rcases Nat.lt_or_ge i y.length with h1 | h1
 ·exact h _ (bO h1)
 ·rw [kA h1];exact Nat.zero_le _
namespace ZX
theorem QS(x y:ZX)(i:Nat):nth (x-y).l i=nth x.l i-nth y.l i:=by
 have h:x=(x-y)+y:=aT
 have h2:nth x.l i=nth ((x-y)+y).l i:=by rw [<-h]
 rw [show((x-y)+y).l=kC (x-y).l y.l from rfl,BC]at h2
 omega
theorem amQ{v:ZX}(ha:a≠0)(hc:∀d,dv d a->dv d b->N d<=1)(h:dv a (v*b)):dv a v:=by
 obtain⟨g,hg⟩:=mD _ a b (Nat.le_refl _)
 have h0:=hg.ne (.inl ha)
 have h1:=hc g hg.l hg.r
 have h2:=ZX.aH.1 h0
 obtain⟨k,hk,rfl⟩:=nO (show N g=1 by omega)
 obtain⟨c,zF,u',v',e⟩:=hg.uv
 rw [s9]at e
 refine dv.K6 (Int.mul_ne_zero zF hk) ?_
 rw [e,show(u'*a+v'*b)*v=(u'*v)*a+v'*(v*b)by grind]
 exact((dv.refl a).mul_left _).add (h.mul_left _)
theorem ach{l:List Int}(h:l.length<=n):N (of l)<=n:=Nat.le_trans (cL l) h
theorem QT{x:ZX}(hN:N x<=n+1)(h:∀i,i<n->nth x.l (i+1)=0):∃c:Int,x=K c:=by
 rcases Nat.lt_or_ge (N x) 2 with h1 | h1
 ·rcases Nat.eq_zero_or_pos (N x)with h2 | h2
  ·refine⟨0,?_⟩
   have:x=0:=Classical.byContradiction fun h0=>by have:=ZX.aH.1 h0;omega
   rw [this];rfl
  ·obtain⟨c,_,e⟩:=nO (show N x=1 by omega)
   exact⟨c,e⟩
 ·exfalso
  have h2:lead x.l≠0:=dO x.c (show 0<N x by omega)
  refine h2 ?_
  have h3:=h (N x-2) aA
  rw [show N x-2+1=x.l.length-1 from by show N x-2+1=N x-1;omega]at h3
  exact h3
theorem QU(l:List Int)(i:Nat):nth (of l).l i=nth l i:=lL l i
theorem atd{s r l X:Nat}(ha:a≠0)(hb:b≠0)(hA:∀c∈a.l,c.natAbs<=2^s)(hB:∀c∈b.l,c.natAbs<=2^r)(hl:N a+N b<=2^l)(hc:∀d,dv d a->dv d b->N d<=1)(hX:(l+2)*(N a+N b)+s*N b+r*N a<=X) :
  ∃(u v:ZX) (c:Int),c≠0∧u*a+v*b=K c∧N u<=N b∧N v<=N a∧(∀c∈u.l,c.natAbs<=2^(X-s)) ∧ ∀c∈v.l,c.natAbs<=2^(X-r):=by
 have na:=ZX.aH.1 ha
 have nb:=ZX.aH.1 hb
 obtain⟨p,hp⟩:∃p,N a=p+1:=⟨N a-1,aA⟩
 obtain⟨q,hq⟩:∃q,N b=q+1:=⟨N b-1,aA⟩
 have hsX:s<=X:=by rw [hq,Nat.mul_add s]at hX;omega
 have hrX:r<=X:=by rw [hp,Nat.mul_add r]at hX;omega
 rcases Nat.lt_or_ge 2 (N a+N b)with hm | hm
 ·obtain⟨m,hmm⟩:∃m,p+q=m+1:=⟨p+q-1,aA⟩
  obtain⟨U,hU⟩:∃U,U=2^(X-s):=⟨_,rfl⟩
  obtain⟨V,hV⟩:∃V,V=2^(X-r):=⟨_,rfl⟩
  have hUA:U*2^s=2^X:=by rw [hU,<-Nat.pow_add];congr 1;omega
  have hVB:V*2^r=2^X:=by rw [hV,<-Nat.pow_add];congr 1;omega
  rw [<-hU,<-hV]
  let P:=(U+1)^q
  have hPp:0<P:=Nat.pow_pos (Nat.succ_pos _)
  have hQp:0<(V+1)^p:=Nat.pow_pos (Nat.succ_pos _)
  let W:=(m+1)*2^X
  let uu:=fun k:Nat=>of (KB (U+1) q (k%P))
  let vv:=fun k:Nat=>of (KB (V+1) p (k/P))
  let L:=fun k:Nat=>uu k*a+vv k*b
  have ama:∀B n k,∀c∈KB (B+1) n k,c.natAbs<=B:=fun B n k c hc=>by
   have:=QQ (Nat.succ_pos B) _ _ c hc
   omega
  have hu:∀k,∀c∈(uu k).l,c.natAbs<=U:=fun k c hc=>ama _ _ _ c (qI _ _ hc)
  have hv:∀k,∀c∈(vv k).l,c.natAbs<=V:=fun k c hc=>ama _ _ _ c (qI _ _ hc)
  have hNu:∀k,N (uu k)<=q:=fun k=>ach (by rw [B8];exact Nat.le_refl _)
  have hNv:∀k,N (vv k)<=p:=fun k=>ach (by rw [B8];exact Nat.le_refl _)
  have hW:∀k i,(nth (L k).l i).natAbs<=W:=fun k i=>by
   have e:(L k).l=kC (cB (uu k).l a.l) (cB (vv k).l b.l):=rfl
   rw [e,BC]
   have h1:=wN (uu k).l a.l (hu k) (Z4 hA) i
   have h2:=wN (vv k).l b.l (hv k) (Z4 hB) i
   rw [hUA]at h1
   rw [hVB]at h2
   have h4:=Int.natAbs_add_le (nth (cB (uu k).l a.l) i) (nth (cB (vv k).l b.l) i)
   have h5:(uu k).l.length*2^X+(vv k).l.length*2^X<=W:=by
    rw [<-Nat.add_mul]
    refine Nat.mul_le_mul_right _ ?_
    have h4:N (uu k)<=q:=hNu k
    have h5:N (vv k)<=p:=hNv k
    show N (uu k)+N (vv k)<=m+1
    omega
   omega
  let im:=fun k:Nat=>(List.range m).map fun i=>(nth (L k).l (i+1)+W).toNat
  have him:∀k,∀x∈im k,x<2*W+1:=fun k x hx=>by
   simp only [im,List.mem_map]at hx
   obtain⟨i,_,rfl⟩:=hx
   have:=hW k (i+1)
   omega
  have aEY:(2*W+1)^m<P*(V+1)^p:=by
   have h1:2*W+1<=2^(X+l+2):=by
    have h2:(m+1)*2^X<=2^l*2^X:=Nat.mul_le_mul_right _ aA
    have h3:2^(X+l+2)=2^l*2^X*4:=by rw [Nat.pow_add,Nat.pow_add,Nat.mul_comm (2^X)]
    have h4:1<=2^l*2^X:=Nat.mul_pos (Nat.two_pow_pos _) (Nat.two_pow_pos _)
    simp only [W]
    omega
   have h2:=Nat.pow_le_pow_left h1 m
   rw [<-Nat.pow_mul]at h2
   have h3:2^((X-s)*q+(X-r)*p)<=P*(V+1)^p:=by
    rw [Nat.pow_add,Nat.pow_mul,Nat.pow_mul,<-hU,<-hV]
    exact Nat.mul_le_mul (Nat.pow_le_pow_left (Nat.le_succ _) _) (Nat.pow_le_pow_left (Nat.le_succ _) _)
   refine Nat.lt_of_le_of_lt h2 (Nat.lt_of_lt_of_le (Nat.pow_lt_pow_right aF ?_) h3)
   rw [hp,hq]at hX
   rw [Nat.sub_mul,Nat.sub_mul]
   have e1:X*q+X*p=X*m+X:=by rw [<-Nat.mul_add,show q+p=m+1 by omega,Nat.mul_add,Nat.mul_one]
   have e2:s*q<=X*q:=Nat.mul_le_mul_right _ hsX
   have e3:r*p<=X*p:=Nat.mul_le_mul_right _ hrX
   have e4:(X+l+2)*m=X*m+(l+2)*m:=by rw [Nat.add_assoc,Nat.add_mul]
   have e5:(l+2)*(p+1+(q+1))=(l+2)*m+(l+2)*3:=by rw [<-Nat.mul_add];congr 1;omega
   have e6:s*(q+1)=s*q+s:=Nat.mul_succ _ _
   have e7:r*(p+1)=r*p+r:=Nat.mul_succ _ _
   omega
  obtain⟨n,hn⟩:∃n,P*(V+1)^p=n+1:=⟨P*(V+1)^p-1,by have:=Nat.mul_pos hPp hQp;omega⟩
  obtain⟨i,j,hij,hj,e⟩:=aiY n (fun k=>Z3 (2*W+1) (im k)) (fun k hk=>by
   have h1:=aiZ (im k) (him k)
   rw [show(im k).length=m by simp [im]]at h1
   show Z3 (2*W+1) (im k)<n
   omega)
  have e2:=acg (im i) (im j) (by simp [im]) (him i) (him j) e
  have e3:∀s,s<m->nth (L i).l (s+1)=nth (L j).l (s+1):=fun s hs=>by
   have h1:(im i)[s]? = (im j)[s]? := by rw [e2]
   simp only [im,List.getElem?_map,List.getElem?_range hs,Option.map_some]at h1
   injection h1 with h1
   have:=hW i (s+1)
   have:=hW j (s+1)
   omega
  have hNL:∀x y:ZX,N x<=q->N y<=p->N (x*a+y*b)<=m+1:=fun x y hx hy=>by
   have h1:N (x*a+y*b)<=max (N (x*a)) (N (y*b)):=HZ _ _
   have h2:N (x*a)<=N x+N a-1:=vT (x:=x.l) (y:=a.l) na
   have h3:N (y*b)<=N y+N b-1:=vT (x:=y.l) (y:=b.l) nb
   omega
  have hu':N (uu i-uu j)<=q:=by
   have h1:N (uu i-uu j)<=max (N (uu i)) (N (uu j)):=BA _ _
   have:=hNu i;have:=hNu j;omega
  have XC:N (vv i-vv j)<=p:=by
   have h1:N (vv i-vv j)<=max (N (vv i)) (N (vv j)):=BA _ _
   have:=hNv i;have:=hNv j;omega
  have eL:(uu i-uu j)*a+(vv i-vv j)*b=L i-L j:=by simp only [L];grind
  obtain⟨c,Y9⟩:=QT (x:=(uu i-uu j)*a+(vv i-vv j)*b) (n:=m) (hNL _ _ hu' XC) (fun s hs=>by
   rw [eL,QS,e3 s hs];omega)
  have rE:∀(B n k k':Nat),∀c∈(of (KB (B+1) n k)-of (KB (B+1) n k')).l,c.natAbs<=B:=fun B n k k' c hc=>by
   obtain⟨s,hs,rfl⟩:=List.getElem_of_mem hc
   rw [<-bZ hs,QS,QU,QU]
   have h3:∀k,0<=nth (KB (B+1) n k) s∧nth (KB (B+1) n k) s<((B+1:Nat):Int):=fun k=>by
    rcases Nat.lt_or_ge s (KB (B+1) n k).length with h4 | h4
    ·exact QQ (Nat.succ_pos B) _ _ _ (bO h4)
    ·rw [kA h4];exact⟨aF,by show(0:Int)<_;omega⟩
   have:=h3 k
   have:=h3 k'
   omega
  refine⟨uu i-uu j,vv i-vv j,c,fun h0=>?_,Y9,aA,aA,rE _ _ _ _,rE _ _ _ _⟩
  rw [h0,show K 0=(0:ZX)from rfl]at Y9
  have hvz:vv i-vv j=0:=Classical.byContradiction fun o7=>by
   have h1:dv a (vv i-vv j):=amQ ha hc (b:=b) ⟨1,aF, -(uu i-uu j),by
    show(1:ZX)*_=_
    have:(vv i-vv j)*b = -((uu i-uu j)*a):=aT
    rw [this];grind⟩
   have:=h1.nP o7
   omega
  have huz:uu i-uu j=0:=Classical.byContradiction fun o7=>by
   have h1:(uu i-uu j)*a=0:=by rw [hvz]at Y9;grind
   exact oF o7 ha h1
  have hd:∀(B n k k':Nat),of (KB (B+1) n k)-of (KB (B+1) n k')=0->KB (B+1) n k=KB (B+1) n k':=fun B n k k' h0=>by
   refine List.ext_getElem (by rw [B8,B8]) fun s hs CO=>?_
   have h3:=QS (of (KB (B+1) n k)) (of (KB (B+1) n k')) s
   rw [h0,show nth (0:ZX).l s=0 from sW s,QU,QU]at h3
   rw [<-bZ hs,<-bZ CO]
   omega
  have lt2:∀k,k<=n->k/P<(V+1)^p:=fun k hk=>(Nat.div_lt_iff_lt_mul hPp).2 (by rw [Nat.mul_comm];omega)
  have d1:i%P=j%P:=QR (Nat.succ_pos U) q _ _ (Nat.mod_lt i hPp) (Nat.mod_lt j hPp) (hd _ _ _ _ huz)
  have d2:i/P=j/P:=QR (Nat.succ_pos V) p _ _ (lt2 i aA) (lt2 j hj) (hd _ _ _ _ hvz)
  have h6:=Nat.div_add_mod i P
  have h7:=Nat.div_add_mod j P
  rw [d1,d2]at h6
  omega
 ·obtain⟨c,zF,rfl⟩:=nO (show N a=1 by omega)
  refine⟨1,0,c,zF,aT,by rw [wH];omega,by rw [ahI];omega,fun x hx=>?_,fun x hx=>by cases hx⟩
  have h1:(1:ZX).l = [1]:=rfl
  rw [h1]at hx
  simp at hx;subst hx;exact Nat.two_pow_pos _
end ZX
end Pm
namespace Pm
variable {a b f:ZX}{s n β l:Nat}{t ε x y:Rat}
theorem sH(a b:Nat):(2:Rat)^(a+b)=2^a*2^b:=by
 induction b with
 | zero=>rw [Nat.add_zero,Rat.pow_zero,Rat.mul_one]
 | succ b ih=>rw [<-Nat.add_assoc,Rat.pow_succ,Rat.pow_succ,ih];grind
theorem gD(a:Nat):(0:Rat)<2^a:=Rat.pow_pos aF
theorem uF:∀a:Nat,(1:Rat)<=2^a
 | 0=>by simp
 | a+1=>by
  have:=uF a
  rw [Rat.pow_succ];grind
theorem JF{a b:Nat}(h:a<=b):(2:Rat)^a<=2^b:=by
 obtain⟨c,rfl⟩:∃c,b=a+c:=⟨b-a,aA⟩
 rw [sH]
 have h1:=uF c
 have h2:=gD a
 have h3:=Rat.mul_le_mul_of_nonneg_left h1 (Rat.le_of_lt h2)
 grind
theorem QV:∀a:Nat,(((2^a:Nat):Int):Rat)=2^a
 | 0=>by simp
 | a+1=>by
  rw [Nat.pow_succ,Rat.pow_succ,<-QV a,Int.natCast_mul,Rat.intCast_mul];rfl
theorem NC{c:Int}(h:c.natAbs<=2^s):Ab (c:Rat) (2^s):=by
 have h1:=QV s
 have h2:c<=((2^s:Nat):Int):=aA
 have h3 : -((2^s:Nat):Int)<=c:=aA
 have h4:=Rat.intCast_le_intCast.2 h2
 have h5:=Rat.intCast_le_intCast.2 h3
 rw [Rat.intCast_neg]at h5
 rw [h1]at h4 h5
 exact⟨h5,h4⟩
theorem Z5(s β:Nat):∀k,KA (2^s) (2^β) k=2^(s+k*(β+2))
 | 0=>by simp [KA]
 | k+1=>by
  rw [KA,Z5 s β k,show s+(k+1)*(β+2)=s+k*(β+2)+β+1+1 by rw [Nat.add_mul];omega,Rat.pow_succ,Rat.pow_succ,sH _ β]
  grind
namespace ZX
theorem azD(h:∀c∈a.l,c.natAbs<=2^s)(hN:N a<=n)(ht:Ab t (2^β)):Ab (e t a) (2^(s+n*(β+2))):=by
 have h1:=VB (S:=2^s) (B:=2^β) (t:=t) (Rat.le_of_lt (gD s)) (uF β) ht a.l fun c hc=>NC (h c hc)
 rw [Z5]at h1
 refine h1.mono (JF ?_)
 have:a.l.length*(β+2)<=n*(β+2):=Nat.mul_le_mul_right _ hN
 omega
theorem ai0(h:∀c∈a.l,c.natAbs<=2^s)(hN:N a<=n){r:Rat}(hr:Ab r (2^β))(ht:Ab t (2^β)):Ab (dd r t a.l) (2^(s+n*(β+2)))∧Ab (cc r t a.l) (2^(s+n*(β+2))):=by
 have h1:=M4 (S:=2^s) (B:=2^β) (s:=r) (t:=t) (Rat.le_of_lt (gD s)) (uF β) hr ht a.l fun c hc=>NC (h c hc)
 have h2:=aiB (S:=2^s) (B:=2^β) (s:=r) (t:=t) (Rat.le_of_lt (gD s)) (uF β) hr ht a.l fun c hc=>NC (h c hc)
 rw [Z5]at h1 h2
 have h3:a.l.length*(β+2)<=n*(β+2):=Nat.mul_le_mul_right _ hN
 exact⟨h1.mono (JF aA),h2.mono (JF aA)⟩
def sk(s n l β:Nat):Nat:=n*(s+2+l)+n*(β+2)+1
def sx(a b:ZX)(s r l:Nat):Nat:=(l+2)*(N a+N b)+s*N b+r*N a
theorem azE{r:Nat}(ha:a≠0)(hb:b≠0)(hA:∀c∈a.l,c.natAbs<=2^s)(hB:∀c∈b.l,c.natAbs<=2^r)(hl:N a+N b<=2^l)(hc:∀d,dv d a->dv d b->N d<=1)
  {η:Rat} (ht:Ab t (2^β)) (hε:ε*2^(sx a b s r l-s+N b*(β+2)+1)<=1) (hη:η*2^(sx a b s r l-r+N a*(β+2)+1)<=1):mU ε (e t a)∨mU η (e t b):=by
 obtain⟨u,v,c,zF,he,hNu,hNv,hu,hv⟩:=atd ha hb hA hB hl hc (Nat.le_refl _)
 have h1:=azD (β:=β) hu hNu ht
 have h2:=azD (β:=β) hv hNv ht
 have h3:e t u*e t a+e t v*e t b=(c:Rat):=by rw [<-kH,<-kH,<-apn,he,CV]
 have h4:=xR zF
 rw [show(l+2)*(N a+N b)+s*N b+r*N a=sx a b s r l from rfl]at h1 h2
 rw [sH _ 1]at hε hη
 have hM:=gD (sx a b s r l-s+N b*(β+2))
 have hM2:=gD (sx a b s r l-r+N a*(β+2))
 generalize (2:Rat)^(sx a b s r l-s+N b*(β+2))=M at *
 generalize (2:Rat)^(sx a b s r l-r+N a*(β+2))=M2 at *
 refine Classical.byContradiction fun FQ=>?_
 have e1:(2:Rat)^1=2:=by rw [Rat.pow_succ,Rat.pow_zero];grind
 rw [e1]at hε hη
 have key:∀x y E M:Rat,0<M->Ab y M->E*(M*2)<=1->¬mU E x -> ∃δ:Rat,δ<1/2∧Ab (y*x) δ:=fun x y E M hM hy hE hx=>by
  have g1:=F7 hx
  obtain⟨m,g2,g3,g4⟩:∃m:Rat,m<E∧x<=m ∧ -x<=m:=by
   by_cases h:x <= -x
   ·exact⟨-x,aT,h,Rat.le_refl⟩
   ·exact⟨x,aT,Rat.le_refl,aT⟩
  have g5:=hy.mul (show Ab x m from⟨aT,g3⟩)
  refine⟨_,?_,g5⟩
  have g6:=Rat.mul_lt_mul_of_pos_left g2 hM
  grind
 obtain⟨d1,p1,p2,p3⟩:=key _ _ _ _ hM h1 hε fun h=>FQ (.inl h)
 obtain⟨d2,p4,p5,p6⟩:=key _ _ _ _ hM2 h2 hη fun h=>FQ (.inr h)
 rcases h4 with h4 | h4<;>grind
theorem ai1{m:Nat}(hn:N a+N b<=n)(hm:m<=n):sx a b s s l-s+m*(β+2)+1<=sk s n l β:=by
 unfold sx sk
 have h1:(l+2)*(N a+N b)+s*N b+s*N a=(s+2+l)*(N a+N b):=aT
 have h2:(s+2+l)*(N a+N b)<=(s+2+l)*n:=Nat.mul_le_mul_left _ hn
 have h3:m*(β+2)<=n*(β+2):=Nat.mul_le_mul_right _ hm
 rw [h1,Nat.mul_comm n]
 omega
theorem JG{i j:Nat}(h:ε*2^j<=1)(hij:i<=j):ε*2^i<=1:=by
 have h1:=JF hij
 have h2:=gD i
 by_cases h0:0<=ε
 ·have:=Rat.mul_le_mul_of_nonneg_left h1 h0;grind
 ·have:=Rat.mul_lt_mul_of_pos_right (show ε<0 by grind) h2;grind
theorem sep(ha:a≠0)(hb:b≠0)(hA:∀c∈a.l,c.natAbs<=2^s)(hB:∀c∈b.l,c.natAbs<=2^s)(hn:N a+N b<=n)(hl:n<=2^l)(hc:∀d,dv d a->dv d b->N d<=1)
 (ht:Ab t (2^β)) (hε:ε*2^sk s n l β<=1):mU ε (e t a)∨mU ε (e t b):=
 azE (l:=l) ha hb hA hB aA hc ht (JG hε (ai1 hn aA)) (JG hε (ai1 hn aA))
theorem ate(h:∀c∈f.l,c.natAbs<=2^s)(hN:N f<=n)(hl:n<=2^l):∀c∈(cD f).l,c.natAbs<=2^(s+l):=fun c hc=>by
 have h1:=qI _ _ hc
 simp only [DJ,List.mem_map,List.mem_range]at h1
 obtain⟨i,hi,rfl⟩:=h1
 rw [Int.natAbs_mul,Nat.pow_add]
 have h2:=Z4 h (i+1)
 have h3:N f=f.l.length:=rfl
 exact Nat.mul_le_mul h2 (by rw [Int.natAbs_natCast];omega)
theorem amR{z:Rat}(h:(x<y∧y<z)∨(y<x∧z<y)):(if x≠0∧cP z≠cP x then 1 else 0:Nat)=(if x≠0∧cP y≠cP x then 1 else 0)+(if y≠0∧cP z≠cP y then 1 else 0):=by
 rcases dC x with ⟨h1,h2⟩ | ⟨h1,h2⟩ | ⟨h1,h2⟩<;>rcases dC y with ⟨h3,h4⟩ | ⟨h3,h4⟩ | ⟨h3,h4⟩<;>rcases dC z with ⟨h5,h6⟩ | ⟨h5,h6⟩ | ⟨h5,h6⟩ <;>
  rw [h2,h4,h6]<;>first
   | (exfalso;rcases h with ⟨h7,h8⟩ | ⟨h7,h8⟩<;>grind)
   | (have n1:(x≠0)=True:=eq_true aT
      have n2:(y≠0)=True:=eq_true aT
      simp only [n1,n2];decide)
   | (have n1:(x≠0)=False:=eq_false aT
      have n2:(y≠0)=True:=eq_true aT
      simp only [n1,n2];decide)
   | (have n1:(x≠0)=True:=eq_true aT
      have n2:(y≠0)=False:=eq_false aT
      simp only [n1,n2];decide)
def JH(f:ZX)(t:Rat):Int:=if e t f=0 then cP (e t (cD f))else cP (e t f)
theorem ai2{σ:Int}(h:(σ=1∧x<y)∨(σ = -1∧y<x)):(if y=0 then σ else cP y)=(if (if x≠0∧cP y≠cP x then 1 else 0:Nat)=0 then 1 else -1)*(if x=0 then σ else cP x):=by
 rcases dC x with ⟨h1,h2⟩ | ⟨h1,h2⟩ | ⟨h1,h2⟩<;>rcases dC y with ⟨h3,h4⟩ | ⟨h3,h4⟩ | ⟨h3,h4⟩<;>rw [h2,h4]<;>first
   | (exfalso;rcases h with ⟨h7,h8⟩ | ⟨h7,h8⟩<;>grind)
   | (have n1:(x=0)=False:=eq_false aT
      have n2:(y=0)=False:=eq_false aT
      simp only [n1,n2,ne_eq,not_false_eq_true,true_and,if_false];decide)
   | (have n1:(x=0)=True:=eq_true aT
      have n2:(y=0)=False:=eq_false aT
      have:σ=1∨σ = -1:=aA
      rcases this with rfl | rfl<;>first
        | (simp only [n1,n2,ne_eq,not_true_eq_false,false_and,if_false,if_true];decide)
        | (exfalso;rcases h with ⟨h7,h8⟩ | ⟨h7,h8⟩<;>grind))
   | (have n1:(x=0)=False:=eq_false aT
      have n2:(y=0)=True:=eq_true aT
      have:σ=1∨σ = -1:=aA
      rcases this with rfl | rfl<;>first
        | (simp only [n1,n2,ne_eq,not_false_eq_true,true_and,if_false,if_true];decide)
        | (exfalso;rcases h with ⟨h7,h8⟩ | ⟨h7,h8⟩<;>grind))
structure aEZ(f:ZX)(B δ:Rat):Prop where
 par:∀s t,Ab s B->Ab t B->s<t->t-s<=δ->JH f t=(if ind f s t=0 then 1 else -1)*JH f s
def lk(s n l β:Nat):Nat:=sk (s+l) (n+n) (l+1) β+(s+l+n*(β+2))+2
theorem xS{L:List ZX}(G:zV L f)(hf:f≠0)(hA:∀c∈f.l,c.natAbs<=2^s)(hn:N f<=n)(hl:n<=2^l)(hc:∀d,dv d f->dv d (cD f)->N d<=1){δ:Rat}(hδ:δ*2^lk s n l β<=1):Lcl L f (2^β) δ∧aEZ f (2^β) δ:=by
 have hA':∀c∈f.l,c.natAbs<=2^(s+l):=fun c hc=>Nat.le_trans (hA c hc) (Nat.pow_le_pow_right aF aA)
 have hD:=ate hA hn hl
 have hND:=qO f
 have main:∀lo hi,Ab lo (2^β)->Ab hi (2^β)->lo<hi->hi-lo<=δ->vt L lo=vt L hi+ind f lo hi∧(e lo f=0->e hi f≠0)∧JH f hi=(if ind f lo hi=0 then 1 else -1)*JH f lo:=fun lo hi alo ahi hlh hw=>by
  have hδ0:0<δ:=aT
  rw [lk,sH,sH]at hδ
  have hQ:=gD (s+l+n*(β+2))
  have hK:=gD (sk (s+l) (n+n) (l+1) β)
  generalize hQe:(2:Rat)^(s+l+n*(β+2))=Q at *
  generalize hKe:(2:Rat)^sk (s+l) (n+n) (l+1) β=κ at *
  have h22:(2:Rat)^2=4:=by rw [Rat.pow_succ,Rat.pow_succ,Rat.pow_zero];grind
  rw [h22]at hδ
  have hε:(1/κ)*κ=1:=Rat.div_mul_cancel (Rat.ne_of_gt hK)
  have hε0:0<1/κ:=(Rat.lt_div_iff hK).2 aT
  generalize 1/κ=ε at *
  have hδQ:4*(δ*Q)<=ε:=by
   have h1:δ*(κ*Q*4)=(4*(δ*Q))*κ:=aT
   rw [h1,<-hε]at hδ
   exact Rat.le_of_mul_le_mul_right hδ hK
  have hin:∀x,lo<=x->x<=hi->Ab x (2^β):=fun x h1 h2=>cH alo ahi h1 h2
  by_cases hd0:cD f=0
  ·-- a constant
   have hN1:N f=1:=by
    have h0:=ZX.aH.1 hf
    rcases Nat.lt_or_ge (N f) 2 with h1 | h1
    ·omega
    ·exact absurd hd0 (P5 h1)
   obtain⟨c,zF,rfl⟩:=nO hN1
   have hcv:∀x,cP (e x (K c))=cP (c:Rat):=fun x=>by rw [CV]
   have h1:=G.const hlh (σ:=cP (c:Rat)) (.inr (hcv lo)) (fun x _ _=>hcv x)
   have h2:ind (K c) lo hi=0:=if_neg fun h=>h.2 (by rw [hcv,hcv])
   have azG:(c:Rat)≠0:=fun h=>zF (by exact_mod_cast h)
   have hz:∀x,e x (K c)≠0:=fun x=>by rw [CV];exact azG
   exact⟨by rw [h1,h2];omega,fun h=>by rw [CV]at h;exact absurd h azG,by rw [h2,if_pos rfl,Int.one_mul,JH,JH,if_neg (hz _),if_neg (hz _),hcv,hcv]⟩
  have hb:=sep hf hd0 hA' hD (show N f+N (cD f)<=n+n by omega) (show n+n<=2^(l+1)by rw [Nat.pow_succ];omega) hc alo (ε:=ε) (by rw [hKe,hε];exact Rat.le_refl)
  have dsz:∀x y,lo<=x->x<=hi->lo<=y->y<=hi->Ab (dd x y f.l) Q∧Ab (cc x y f.l) Q∧Ab (dd x y (cD f).l) Q:=fun x y h1 h2 h3 h4=>by
   have g1:=ai0 hA' hn (hin x h1 h2) (hin y h3 h4)
   have g2:=ai0 hD (show N (cD f)<=n by omega) (hin x h1 h2) (hin y h3 h4)
   rw [hQe]at g1 g2
   exact⟨g1.1,g1.2,g2.1⟩
  have aHZ:0<=δ*Q:=Rat.mul_nonneg (Rat.le_of_lt hδ0) (Rat.le_of_lt hQ)
  have small:∀h x,0<=h->h<=δ->Ab x Q->Ab (h*x) (δ*Q):=fun h x h1 h2 h3=>Ab.mul ⟨aT,h2⟩ h3
  rcases hb with hb | hb
  ·-- one sign
   have CU:∀x,lo<=x->x<=hi->cP (e x f)=cP (e lo f)∧cP (e lo f)≠0:=fun x h1 h2=>by
    refine iI hb hε0 fun h=>?_
    have h3:=qQ lo x f.l
    have h4:=small (x-lo) _ aT aT (dsz lo x Rat.le_refl aT h1 h2).1
    rw [<-h3]at h4
    obtain⟨p1,p2⟩:=h4
    have h5:e x f-e lo f=qv x f.l-qv lo f.l:=rfl
    rw [h5]at h
    rcases h with h | h<;>grind
   have h1:=G.const hlh (σ:=cP (e lo f)) (.inr rfl) (fun x h1 h2=>(CU x aT h2).1)
   have h2:ind f lo hi=0:=if_neg fun h=>h.2 (CU hi aT Rat.le_refl).1
   have hz:∀x,lo<=x->x<=hi->e x f≠0:=fun x h1 h2 h=>by
    obtain⟨g1,g2⟩:=CU x h1 h2
    rw [h,kI]at g1
    exact g2 g1.symm
   exact⟨by rw [h1,h2];omega,fun h=>absurd h (hz lo Rat.le_refl aT),by rw [h2,if_pos rfl,Int.one_mul,JH,JH,if_neg (hz _ aT Rat.le_refl),if_neg (hz _ Rat.le_refl aT),(CU hi aT Rat.le_refl).1]⟩
  ·-- rising or aBU
   have mono:∀x y,lo<=x->x<y->y<=hi->cP (e y f-e x f)=cP (e lo (cD f))∧cP (e lo (cD f))≠0:=fun x y h1 h2 h3=>by
    have g1:=qQ x y f.l
    have g2:=ZL x y f.l
    have g3:dd x x f.l=e x (cD f):=(apo x f).symm
    have g4:=qQ lo x (cD f).l
    have b1:=small (y-x) _ aT aT (dsz x y h1 aT aT h3).2.1
    have b2:=small (x-lo) _ aT aT (dsz lo x Rat.le_refl aT h1 aT).2.2
    rw [<-g2]at b1
    rw [<-g4]at b2
    have h5:e x (cD f)-e lo (cD f)=qv x (cD f).l-qv lo (cD f).l:=rfl
    have h6:=iI (y:=dd x y f.l) hb hε0 fun h=>by
     obtain⟨p1,p2⟩:=b1
     obtain⟨p3,p4⟩:=b2
     rcases h with h | h<;>grind
    have h7:e y f-e x f=qv y f.l-qv x f.l:=rfl
    rw [h7,g1,xQ,fZ (show 0<y-x by grind),Int.one_mul]
    exact h6
   have aci:∀x y,lo<=x->x<y->y<=hi->(cP (e lo (cD f))=1∧e x f<e y f)∨(cP (e lo (cD f)) = -1∧e y f<e x f):=fun x y h1 h2 h3=>by
    obtain⟨g1,g2⟩:=mono x y h1 h2 h3
    rcases dC (e y f-e x f)with ⟨g3,g4⟩ | ⟨g3,g4⟩ | ⟨g3,g4⟩
    ·exact .inr ⟨aA,aT⟩
    ·omega
    ·exact .inl ⟨aA,aT⟩
   have dsg:∀x,lo<=x->x<=hi->cP (e x (cD f))=cP (e lo (cD f)):=fun x h1 h2=>by
    have g4:=qQ lo x (cD f).l
    have b2:=small (x-lo) _ aT aT (dsz lo x Rat.le_refl aT h1 h2).2.2
    rw [<-g4]at b2
    have h5:e x (cD f)-e lo (cD f)=qv x (cD f).l-qv lo (cD f).l:=rfl
    exact(iI hb hε0 fun h=>by
     obtain⟨p3,p4⟩:=b2
     rcases h with h | h<;>grind).1
   refine⟨?_,fun h=>?_,?_⟩
   ·refine G.aiE (P:=fun x y=>lo<=x->y<=hi->vt L x=vt L y+ind f x y) (fun x y z w7 hyz p1 p2 hx hz=>?_) (fun B δ' hL x y hx hy w7 hd h1 h2=>hL.turns x y hx hy w7 hd) hlh Rat.le_refl Rat.le_refl
    rw [p1 hx aT,p2 aT hz]
    have h1:=aci x y hx w7 aT
    have h2:=aci y z aT hyz hz
    have h3:=amR (x:=e x f) (y:=e y f) (z:=e z f) (by
     rcases h1 with ⟨q1,q2⟩ | ⟨q1,q2⟩<;>rcases h2 with ⟨q3,q4⟩ | ⟨q3,q4⟩
     ·exact .inl ⟨q2,q4⟩
     ·omega
     ·omega
     ·exact .inr ⟨q2,q4⟩)
    have h4:ind f x z=ind f x y+ind f y z:=h3
    omega
   ·rcases aci lo hi Rat.le_refl hlh Rat.le_refl with ⟨q1,q2⟩ | ⟨q1,q2⟩<;>grind
   ·have h1:=ai2 (aci lo hi Rat.le_refl hlh Rat.le_refl)
    unfold JH ind
    rw [dsg hi aT Rat.le_refl]
    exact h1
 exact⟨⟨fun x y hx hy w7 hd=>(main x y hx hy w7 hd).1,fun x y hx hy w7 hd=>(main x y hx hy w7 hd).2.1⟩,⟨fun x y hx hy w7 hd=>(main x y hx hy w7 hd).2.2⟩⟩
end ZX
end Pm
namespace Pm
variable {a b t s x:Rat}{f:ZX}{v:Rat->Nat}{U:Rat->Prop}
namespace ZX
theorem JI:∀l:List Int,∃s:Nat,∀c∈l,c.natAbs<=2^s
 | []=>⟨0,fun c hc=>by cases hc⟩
 | a::l=>by
  obtain⟨s,h⟩:=JI l
  refine⟨s+a.natAbs,fun c hc=>?_⟩
  rcases List.mem_cons.1 hc with rfl | hc
  ·have h1:c.natAbs<2^c.natAbs:=Nat.lt_two_pow_self
   exact Nat.le_trans (Nat.le_of_lt h1) (Nat.pow_le_pow_right aF aA)
  ·exact Nat.le_trans (h c hc) (Nat.pow_le_pow_right aF aA)
theorem VM(B:Rat):∃β:Nat,B<=2^β:=by
 have h1:=Rat.lt_floor_add_one B
 refine⟨(B.floor+1).toNat,Rat.le_trans (Rat.le_of_lt h1) ?_⟩
 have h2:((2^(B.floor+1).toNat:Int):Rat)=2^(B.floor+1).toNat:=by rw [Rat.intCast_pow];rfl
 rw [<-h2]
 refine Rat.intCast_le_intCast.2 ?_
 have h3:(B.floor+1).toNat<2^(B.floor+1).toNat:=Nat.lt_two_pow_self
 have h4:((2^(B.floor+1).toNat:Nat):Int)=2^(B.floor+1).toNat:=by rw [Int.natCast_pow];rfl
 omega
theorem JK(k:Nat):∃δ:Rat,0<δ∧δ*2^k=1:=by
 have h:=gD k
 have h1:(1/2^k)*(2:Rat)^k=1:=Rat.div_mul_cancel (Rat.ne_of_gt h)
 exact⟨1/2^k,(Rat.lt_div_iff h).2 aT,h1⟩
theorem min2(ha:0<a)(hb:0<b):∃c:Rat,0<c∧c<=a∧c<=b:=by
 by_cases h:a<=b
 ·exact⟨a,ha,Rat.le_refl,h⟩
 ·exact⟨b,hb,aT,Rat.le_refl⟩
theorem apv{P:Rat->Rat->Prop}(ht:∀a b c,a<b->b<c->P a b->P b c->P a c)(hs:∀B:Rat,1<=B -> ∃δ:Rat,0<δ ∧ ∀a b,Ab a B->Ab b B->a<b->b-a<=δ->P a b)(gU:a<b):P a b:=by
 obtain⟨B,hB,ha,hb⟩:=k9 a b
 obtain⟨δ,hδ,h⟩:=hs B hB
 exact as1 hδ ht h ha hb gU
theorem lip(p:ZX)(B:Rat)(hB:1<=B):∃Q:Rat,0<Q ∧ ∀a b,Ab a B->Ab b B->a<=b->Ab (e b p-e a p) ((b-a)*Q):=by
 obtain⟨S,hS,hc⟩:=GB p.l
 obtain⟨h3,_⟩:=rS hS hB p.l.length
 refine⟨KA S B p.l.length+1,aT,fun a b ha hb gU=>?_⟩
 have h1:=(M4 hS hB ha hb p.l hc).mono (show KA S B p.l.length<=KA S B p.l.length+1 by grind)
 have h2:=qQ a b p.l
 have h4:e b p-e a p=qv b p.l-qv a p.l:=rfl
 rw [h4,h2]
 exact Ab.mul ⟨aT,Rat.le_refl⟩ h1
def wO(a b:ZX):Prop:=∀d,dv d a->dv d b->N d<=1
theorem wO.mono{a b c d:ZX}(h:wO a b)(h1:dv c a)(h2:dv d b):wO c d:=fun x h3 h4=>h x (h3.trans h1) (h4.trans h2)
theorem azH{a b:ZX}(ha:a≠0)(hb:b≠0)(hc:wO a b)(B:Rat):∃ε:Rat,0<ε ∧ ∀t,Ab t B->mU ε (e t a)∨mU ε (e t b):=by
 obtain⟨s1,h1⟩:=JI a.l
 obtain⟨s2,h2⟩:=JI b.l
 obtain⟨β,hβ⟩:=VM B
 obtain⟨ε,h3,h4⟩:=JK (sk (s1+s2) (N a+N b) (N a+N b) β)
 exact⟨ε,h3,fun t ht=>sep (s:=s1+s2) (l:=N a+N b) (β:=β) ha hb (fun c hc=>Nat.le_trans (h1 c hc) (Nat.pow_le_pow_right aF aA)) (fun c hc=>Nat.le_trans (h2 c hc) (Nat.pow_le_pow_right aF aA)) (Nat.le_refl _) (Nat.le_of_lt Nat.lt_two_pow_self) hc (ht.mono hβ) (by rw [h4];exact Rat.le_refl)⟩
structure uG(f:ZX)(v:Rat->Nat):Prop where
 ne:f≠0
 ND:wO f (cD f)
 g:∃L,zV L f∧v=vt L
structure aE0(f:ZX)(v:Rat->Nat)(B δ:Rat):Prop where
 turns:∀s t,Ab s B->Ab t B->s<t->t-s<=δ->v s=v t+ind f s t
 simple:∀s t,Ab s B->Ab t B->s<t->t-s<=δ->e s f=0->e t f≠0
 par:∀s t,Ab s B->Ab t B->s<t->t-s<=δ->JH f t=(if ind f s t=0 then 1 else -1)*JH f s
def sg1(n:Nat):Int:=if n%2=0 then 1 else -1
theorem amS(a b:Nat):sg1 (a+b)=sg1 a*sg1 b:=by
 unfold sg1
 split<;>split<;>split<;>omega
theorem QW(f:ZX)(s t:Rat):ind f s t=0∨ind f s t=1:=by unfold ind;split<;>simp
namespace uG
variable {f:ZX} {v:Rat->Nat} (S:uG f v)
include S
theorem tK(B:Rat):∃δ:Rat,0<δ∧aE0 f v B δ:=by
 obtain⟨L,G,rfl⟩:=S.g
 obtain⟨s,h1⟩:=JI f.l
 obtain⟨β,hβ⟩:=VM B
 obtain⟨δ,h3,h4⟩:=JK (lk s (N f) (N f) β)
 obtain⟨h5,h6⟩:=xS G S.ne h1 (Nat.le_refl _) (Nat.le_of_lt Nat.lt_two_pow_self) S.ND (δ:=δ) (by rw [h4];exact Rat.le_refl)
 exact⟨δ,h3,fun s t hs ht=>h5.turns s t (hs.mono hβ) (ht.mono hβ),fun s t hs ht=>h5.simple s t (hs.mono hβ) (ht.mono hβ),fun s t hs ht=>h6.par s t (hs.mono hβ) (ht.mono hβ)⟩
theorem bU{a b:Rat}(gU:a<=b):v b<=v a:=by
 obtain⟨L,G,rfl⟩:=S.g
 exact G.bU gU
theorem const{a b:Rat}(gU:a<b){σ:Int}(h0:e a f=0∨cP (e a f)=σ)(h1:∀x,a<x->x<=b->cP (e x f)=σ):v a=v b:=by
 obtain⟨L,G,rfl⟩:=S.g
 exact G.const gU h0 h1
theorem flat{a b:Rat}(gU:a<b)(he:v a=v b):e b f≠0∧(e a f≠0->cP (e b f)=cP (e a f)):=by
 obtain⟨L,G,rfl⟩:=S.g
 exact G.flat gU he
theorem root{s t:Rat}(j2:s<t)(h0:e t f=0):v t<v s:=by
 obtain⟨L,G,rfl⟩:=S.g
 exact G.root j2 h0
theorem bg{a b:Rat}(hb:Bg a b f)(gU:a<b):v a=v b:=by
 obtain⟨L,G,rfl⟩:=S.g
 exact G.bg hb gU
theorem par{s t:Rat}(h:s<=t):JH f t=sg1 (v s-v t)*JH f s:=by
 rcases Rat.le_iff_lt_or_eq.1 h with h1 | rfl
 ·refine apv (P:=fun a b=>JH f b=sg1 (v a-v b)*JH f a) (fun a b c h1 h2 p1 p2=>?_) (fun B hB=>?_) h1
  ·have:=S.bU (Rat.le_of_lt h1)
   have:=S.bU (Rat.le_of_lt h2)
   rw [p2,p1,show v a-v c=(v a-v b)+(v b-v c)by omega,amS];grind
  ·obtain⟨δ,hδ,hN⟩:=S.tK B
   refine⟨δ,hδ,fun a b ha hb gU hd=>?_⟩
   have h1:=hN.turns a b ha hb gU hd
   have h2:=hN.par a b ha hb gU hd
   rw [h2,show v a-v b=ind f a b by omega]
   rcases QW f a b with h3 | h3<;>rw [h3]<;>rfl
 ·rw [Nat.sub_self];show _=1*_;omega
end uG
theorem amT(h:e t f≠0):∃r:Rat,0<r ∧ ∀x,t-r<=x->x<=t+r->cP (e x f)=cP (e t f):=by
 obtain⟨B,hB,ha,hb⟩:=k9 (t-1) (t+1)
 obtain⟨Q,hQ,hl⟩:=lip f B hB
 have hε:∃ε:Rat,0<ε∧mU ε (e t f):=by
  by_cases h0:0<=e t f
  ·exact⟨e t f,aT, .inr Rat.le_refl⟩
  ·exact⟨-e t f,aT, .inl aT⟩
 obtain⟨ε,hε,R8⟩:=hε
 have h1:ε/(2*Q)*(2*Q)=ε:=Rat.div_mul_cancel aT
 have h2:0<ε/(2*Q):=(Rat.lt_div_iff aT).2 aT
 generalize ε/(2*Q)=η at *
 obtain⟨r,hr,yI,bS⟩:=min2 (show (0:Rat)<1 by decide) h2
 refine⟨r,hr,fun x hx hy=>?_⟩
 have LK:Ab x B:=cH ha hb aT aT
 have ht':Ab t B:=cH ha hb aT aT
 have hrQ:r*Q<=η*Q:=Rat.mul_le_mul_of_nonneg_right bS (Rat.le_of_lt hQ)
 refine(iI R8 hε fun hn=>?_).1
 by_cases hxt:t<=x
 ·have h3:=hl t x ht' LK hxt
  have h4:(x-t)*Q<=r*Q:=Rat.mul_le_mul_of_nonneg_right aT (Rat.le_of_lt hQ)
  obtain⟨p1,p2⟩:=h3
  rcases hn with hn | hn<;>grind
 ·have h3:=hl x t LK ht' aT
  have h4:(t-x)*Q<=r*Q:=Rat.mul_le_mul_of_nonneg_right aT (Rat.le_of_lt hQ)
  obtain⟨p1,p2⟩:=h3
  rcases hn with hn | hn<;>grind
namespace uG
variable {f:ZX} {v:Rat->Nat} (S:uG f v)
include S
theorem lft(h:e t f≠0)(hat:a<t):∃s,a<=s∧s<t∧v s=v t∧cP (e s f)=cP (e t f):=by
 obtain⟨B,hB,ha,hb⟩:=k9 a t
 obtain⟨δ,hδ,hN⟩:=S.tK B
 obtain⟨r1,yI,hc⟩:=amT h
 obtain⟨r2,bS,h1,h2⟩:=min2 hδ (show 0<t-a by grind)
 obtain⟨r,hr,h3,h4⟩:=min2 yI bS
 have hs:Ab (t-r) B:=cH ha hb aT aT
 have g1:=hN.turns (t-r) t hs hb aT aT
 have g5:=hc (t-r) aT aT
 have g4:ind f (t-r) t=0:=if_neg fun hh=>hh.2 g5.symm
 exact⟨t-r,aT,aT,aA,g5⟩
theorem small{Q:Rat}(j2:s<t)(hv:v s≠v t)(hQ:0<Q)(hl:∀a b,s<=a->a<=b->b<=t->Ab (e b f-e a f) ((b-a)*Q))(hx:s<=x)(hy:x<=t):Ab (e x f) ((t-s)*Q):=by
 refine Classical.byContradiction fun hn=>hv ?_
 have key:∀y,s<=y->y<=t->cP (e y f)=cP (e x f):=fun y h1 h2=>by
  have h3:Ab (e y f-e x f) ((t-s)*Q):=by
   by_cases w7:x<=y
   ·exact(hl x y hx w7 h2).mono (Rat.mul_le_mul_of_nonneg_right aT (Rat.le_of_lt hQ))
   ·have h4:=(hl y x h1 aT hy).mono (Rat.mul_le_mul_of_nonneg_right (show x-y<=t-s by grind) (Rat.le_of_lt hQ))
    obtain⟨p1,p2⟩:=h4
    exact⟨aT,aT⟩
  obtain⟨p1,p2⟩:=h3
  have h0:0<=(t-s)*Q:=Rat.mul_nonneg aT (Rat.le_of_lt hQ)
  generalize (t-s)*Q=M at *
  rcases dC (e x f)with ⟨h5,h6⟩ | ⟨h5,h6⟩ | ⟨h5,h6⟩
  ·rw [h6]
   refine i0 ?_
   have:e x f < -M:=Rat.not_le.1 fun h=>hn ⟨h,aT⟩
   grind
  ·exact absurd ⟨aT,aT⟩ hn
  ·rw [h6]
   refine fZ ?_
   have:M<e x f:=Rat.not_le.1 fun h=>hn ⟨aT,h⟩
   grind
 exact S.const j2 (σ:=cP (e x f)) (.inr (key s Rat.le_refl (Rat.le_of_lt j2))) fun y h1 h2=>key y (Rat.le_of_lt h1) h2
end uG
theorem NF{p q:Prop}[Decidable p][Decidable q](h:p↔q):(if p then 1 else 0:Nat)=if q then 1 else 0:=by
 by_cases hp:p
 ·rw [if_pos hp,if_pos (h.1 hp)]
 ·rw [if_neg hp,if_neg (fun hq=>hp (h.2 hq))]
theorem DR{c y z:Rat}(hc:c≠0)(h:c*x=y*z):cP x=cP c*(cP y*cP z):=by
 have h1:cP c*cP x=cP y*cP z:=by rw [<-xQ,<-xQ,h]
 rw [<-h1]
 rcases dC c with ⟨h2,h3⟩ | ⟨h2,h3⟩ | ⟨h2,h3⟩
 ·rw [h3];omega
 ·exact absurd h2 hc
 ·rw [h3];omega
theorem uG.mul{g h:ZX}{w u:Rat->Nat}(Sf:uG f v)(Sg:uG g w)(Sh:uG h u){c:Int}(hc:c≠0)(he:K c*f=g*h)(aE1:wO g h)(j2:s<=t):v s+w t+u t=v t+w s+u s:=by
 rcases Rat.le_iff_lt_or_eq.1 j2 with h1 | rfl
 ·refine apv (P:=fun s t=>v s+w t+u t=v t+w s+u s) (fun a b c h1 h2 p1 p2=>by omega) (fun B hB=>?_) h1
  obtain⟨δ1,hδ1,N1⟩:=Sf.tK B
  obtain⟨δ2,hδ2,N2⟩:=Sg.tK B
  obtain⟨δ3,hδ3,N3⟩:=Sh.tK B
  obtain⟨ε,hε,aE5⟩:=azH Sg.ne Sh.ne aE1 B
  obtain⟨Q1,hQ1,l1⟩:=lip g B hB
  obtain⟨Q2,hQ2,l2⟩:=lip h B hB
  have hQ:0<Q1+Q2:=aT
  have e1:ε/(2*(Q1+Q2))*(2*(Q1+Q2))=ε:=Rat.div_mul_cancel aT
  have e2:0<ε/(2*(Q1+Q2)):=(Rat.lt_div_iff aT).2 aT
  generalize ε/(2*(Q1+Q2))=δ4 at *
  obtain⟨m1,MG,a1,a2⟩:=min2 hδ1 hδ2
  obtain⟨m2,hm2,a3,a4⟩:=min2 hδ3 e2
  obtain⟨δ,hδ,a5,a6⟩:=min2 MG hm2
  refine⟨δ,hδ,fun s t hs ht c8 hd=>?_⟩
  have t1:=N1.turns s t hs ht c8 aT
  have t2:=N2.turns s t hs ht c8 aT
  have t3:=N3.turns s t hs ht c8 aT
  have hcq:(c:Rat)≠0:=fun h0=>hc (Rat.intCast_eq_zero_iff.1 h0)
  have sgm:∀x,cP (e x f)=cP (c:Rat)*(cP (e x g)*cP (e x h)):=fun x=>by
   refine DR hcq ?_
   rw [<-kH,<-he,kH,CV]
  have dl:∀Q,0<Q->Q<=Q1+Q2->(t-s)*Q<ε:=fun Q h0 h1=>by
   have h2:(t-s)*Q<=δ4*(Q1+Q2):=by
    have h3:=Rat.mul_le_mul_of_nonneg_right (show t-s<=δ4 by grind) (Rat.le_of_lt h0)
    have h4:=Rat.mul_le_mul_of_nonneg_left h1 (Rat.le_of_lt e2)
    grind
   have h5:δ4*(Q1+Q2)*2=ε:=by rw [<-e1];grind
   grind
  have sc:=dC (c:Rat)
  have GZ:cP (c:Rat)=1∨cP (c:Rat) = -1:=by
   rcases sc with ⟨_,h⟩ | ⟨h,_⟩ | ⟨_,h⟩
   ·exact .inr h
   ·exact absurd h hcq
   ·exact .inl h
  have ez:∀(p:ZX) x,(e x p≠0)=(cP (e x p)≠0):=fun p x=>propext ⟨fun h h0=>h (fT.1 h0),fun h h0=>h (by rw [h0];exact kI)⟩
  rcases aE5 s hs with hb | hb
  ·have hs2:=iI (y:=e t g) hb hε fun hn=>by
    obtain⟨p1,p2⟩:=l1 s t hs ht (Rat.le_of_lt c8)
    have:=dl Q1 hQ1 aT
    rcases hn with hn | hn<;>grind
   have i1:ind g s t=0:=if_neg fun hh=>hh.2 hs2.1
   have i2:ind f s t=ind h s t:=by
    refine NF ?_
    rw [ez f s,ez h s,sgm s,sgm t,hs2.1]
    have:=rR (e s g)
    have h7:cP (c:Rat)*cP (e s g)=1∨cP (c:Rat)*cP (e s g) = -1:=by
     rcases GZ with h | h<;>rw [h]<;>omega
    rw [<-Int.mul_assoc,<-Int.mul_assoc]
    rcases h7 with h | h<;>rw [h]
    ·simp only [Int.one_mul]
    ·simp only [Int.neg_mul,Int.one_mul,ne_eq,Int.neg_eq_zero,Int.neg_inj]
   omega
  ·have hs2:=iI (y:=e t h) hb hε fun hn=>by
    obtain⟨p1,p2⟩:=l2 s t hs ht (Rat.le_of_lt c8)
    have:=dl Q2 hQ2 aT
    rcases hn with hn | hn<;>grind
   have i1:ind h s t=0:=if_neg fun hh=>hh.2 hs2.1
   have i2:ind f s t=ind g s t:=by
    refine NF ?_
    rw [ez f s,ez g s,sgm s,sgm t,hs2.1]
    have:=rR (e s h)
    have h7:cP (c:Rat)*cP (e s h)=1∨cP (c:Rat)*cP (e s h) = -1:=by
     rcases GZ with h | h<;>rw [h]<;>omega
    have cm:∀y:Int,cP (c:Rat)*(y*cP (e s h))=cP (c:Rat)*cP (e s h)*y:=fun y=>by grind
    rw [cm,cm]
    rcases h7 with h | h<;>rw [h]
    ·simp only [Int.one_mul]
    ·simp only [Int.neg_mul,Int.one_mul,ne_eq,Int.neg_eq_zero,Int.neg_inj]
   omega
 ·omega
structure mV(f:ZX)(v:Rat->Nat)(lo hi:Rat):Prop where
 S:uG f v
 k:(lo=hi∧e lo f=0)∨(lo<hi∧v lo=v hi+1)
def iU(v:Rat->Nat)(lo hi t:Rat):Prop:=hi<=t∨(lo<t∧v t<v lo)
noncomputable def cr(U:Rat->Prop)(t:Rat):Int:=open Classical in if U t then(if ∃s,s<t∧U s then -1 else 0)else 1
theorem sI:cr U t=1↔¬U t:=by
 unfold cr
 split
 ·rename_i h
  split<;>simp [h]
 ·rename_i h
  simp [h]
theorem DT(hU:∀s t,U s->s<=t->U t):cr U t = -1 ↔ ∃s,s<t∧U s:=by
 unfold cr
 split
 ·split
  ·rename_i h;simp [h]
  ·rename_i h;simp [h]
 ·rename_i h
  refine⟨fun h1=>absurd h1 aF,fun⟨s,h1,h2⟩=>absurd (hU s t h2 (Rat.le_of_lt h1)) h⟩
theorem B9:cr U t=0↔U t ∧ ∀s,s<t->¬U s:=by
 unfold cr
 split
 ·rename_i h
  split
  ·rename_i h2
   refine⟨fun h1=>absurd h1 aF,fun⟨_,h3⟩=>?_⟩
   obtain⟨s,h4,h5⟩:=h2
   exact absurd h5 (h3 s h4)
  ·rename_i h2
   exact⟨fun _=>⟨h,fun s h3 h4=>h2 ⟨s,h3,h4⟩⟩,fun _=>rfl⟩
 ·rename_i h
  exact⟨fun h1=>absurd h1 aF,fun h1=>absurd h1.1 h⟩
noncomputable def cu(U V:Rat->Prop):Int:=open Classical in if ∃t,U t∧¬V t then -1 else if ∃t,V t∧¬U t then 1 else 0
theorem amU(U:Rat->Prop):cu U U=0:=by
 unfold cu
 rw [if_neg (fun ⟨t,h1,h2⟩=>h2 h1),if_neg (fun ⟨t,h1,h2⟩=>h2 h1)]
theorem acj{V:Rat->Prop}:cu U V=0 ↔ ∀t,U t↔V t:=by
 unfold cu
 split
 ·rename_i h
  refine⟨fun h1=>absurd h1 aF,fun h1=>?_⟩
  obtain⟨t,h2,h3⟩:=h
  exact absurd ((h1 t).1 h2) h3
 ·rename_i h
  split
  ·rename_i h'
   refine⟨fun h1=>absurd h1 aF,fun h1=>?_⟩
   obtain⟨t,h2,h3⟩:=h'
   exact absurd ((h1 t).2 h2) h3
  ·rename_i h'
   exact⟨fun _ t=>⟨fun h1=>Classical.byContradiction fun h2=>h ⟨t,h1,h2⟩,fun h1=>Classical.byContradiction fun h2=>h' ⟨t,h1,h2⟩⟩,fun _=>rfl⟩
theorem fM{lo hi:Rat}:iU v lo hi hi:=.inl Rat.le_refl
namespace mV
variable {f:ZX} {v:Rat->Nat} {lo hi:Rat} (A:mV f v lo hi)
include A
theorem le:lo<=hi:=by
 rcases A.k with ⟨h,_⟩ | ⟨h,_⟩
 ·rw [h];exact Rat.le_refl
 ·exact Rat.le_of_lt h
theorem up(h:iU v lo hi s)(j2:s<=t):iU v lo hi t:=by
 rcases h with h | ⟨h1,h2⟩
 ·exact .inl aT
 ·have:=A.S.bU j2
  exact .inr ⟨aT,aA⟩
theorem jB(h:t<lo∨(t=lo∧lo<hi)):¬iU v lo hi t:=by
 have:=A.le
 rintro(h1 | ⟨h1,_⟩)<;>grind
theorem azI(t:Rat):cr (iU v lo hi) t=if lo=hi then(if lo<t then -1 else if t<lo then 1 else 0)else if t<=lo then 1 else if hi<t then -1 else if v lo=v t then 1 else if e t f=0 then 0 else -1:=by
 have hup:=fun s t (h:iU v lo hi s) (h':s<=t)=>A.up h h'
 have hle:=A.le
 split
 ·rename_i h
  subst h
  have hU:∀t,iU v lo lo t↔lo<=t:=fun t=>⟨fun h=>by rcases h with h | h<;>grind,fun h => .inl h⟩
  split
  ·exact(DT hup).2 ⟨lo,by assumption, .inl Rat.le_refl⟩
  ·split
   ·exact sI.2 (fun h=>by have:=(hU t).1 h;grind)
   ·exact B9.2 ⟨.inl aT,fun s h1 h2=>by have:=(hU s).1 h2;grind⟩
 ·rename_i o7
  have c8:lo<hi:=aT
  have hk:v lo=v hi+1:=by
   rcases A.k with ⟨h,_⟩ | ⟨_,h⟩
   ·exact absurd h o7
   ·exact h
  split
  ·rename_i h
   exact sI.2 (A.jB aT)
  ·rename_i h1
   split
   ·rename_i h2
    exact(DT hup).2 ⟨hi,h2,fM⟩
   ·rename_i h2
    have b1:=A.S.bU (show lo<=t by grind)
    have b2:=A.S.bU (show t<=hi by grind)
    split
    ·rename_i h3
     refine sI.2 ?_
     rintro(h4 | ⟨_,h4⟩)
     ·have:t=hi:=by grind
      subst this;omega
     ·omega
    ·rename_i h3
     split
     ·rename_i h4
      refine B9.2 ⟨.inr ⟨aT,aA⟩,fun s h5 h6=>?_⟩
      have h7:=A.S.root h5 h4
      rcases h6 with h6 | ⟨h6,h8⟩
      ·grind
      ·omega
     ·rename_i h4
      obtain⟨s,h5,h6,h7,_⟩:=A.S.lft h4 (show lo<t by grind)
      refine(DT hup).2 ⟨s,h6, .inr ⟨?_,aA⟩⟩
      rcases Rat.le_iff_lt_or_eq.1 h5 with h8 | rfl
      ·exact h8
      ·omega
theorem half{m:Rat}(h1:lo<m)(h2:m<hi):(v m<v lo->mV f v lo m ∧ ∀t,iU v lo m t↔iU v lo hi t)∧(¬v m<v lo->mV f v m hi ∧ ∀t,iU v m hi t↔iU v lo hi t):=by
 have hk:v lo=v hi+1:=by
  rcases A.k with ⟨h,_⟩ | ⟨_,h⟩
  ·grind
  ·exact h
 have b1:=A.S.bU (Rat.le_of_lt h1)
 have b2:=A.S.bU (Rat.le_of_lt h2)
 refine⟨fun h=>⟨⟨A.S, .inr ⟨h1,aA⟩⟩,fun t=>⟨?_,?_⟩⟩,fun h=>⟨⟨A.S, .inr ⟨h2,aA⟩⟩,fun t=>⟨?_,?_⟩⟩⟩
 ·rintro(h3 | h3)
  ·have:=A.S.bU h3
   exact .inr ⟨aT,aA⟩
  ·exact .inr h3
 ·rintro(h3 | h3)
  ·exact .inl aT
  ·exact .inr h3
 ·rintro(h3 | ⟨h3,h4⟩)
  ·exact .inl h3
  ·exact .inr ⟨aT,aA⟩
 ·rintro(h3 | ⟨h3,h4⟩)
  ·exact .inl h3
  ·refine .inr ⟨?_,aA⟩
   refine Rat.not_le.1 fun h5=>?_
   have:=A.S.bU h5
   omega
theorem exact(h:e hi f=0):mV f v hi hi ∧ ∀t,iU v hi hi t↔iU v lo hi t:=by
 refine⟨⟨A.S, .inl ⟨rfl,h⟩⟩,fun t=>⟨?_,?_⟩⟩
 ·rintro(h3 | ⟨h3,_⟩)
  ·exact .inl h3
  ·exact .inl aT
 ·rintro(h3 | ⟨h3,h4⟩)
  ·exact .inl h3
  ·refine .inl (Rat.not_lt.1 fun h5=>?_)
   have h6:=A.S.root h5 h
   rcases A.k with ⟨h7,_⟩ | ⟨_,h7⟩
   ·grind
   ·omega
end mV
end ZX
end Pm
namespace Pm
open Go Go.RowKit
variable {f:Nat->PV}{rows:Rows}{clk id:Nat}
section
variable {E:Env} {m:Nat} {G:Gs} {w0:World} {S0:eU}
def mx3(p q r:PV)(K:PV->Prop):Prop:=∃k a b c,p = .int k a∧q = .int k b∧r = .int k c∧K (.int k (max (max a b) c))
@[simp] theorem aBW{k:IntKind}{a b c:Int}{K:PV->Prop}:mx3 (.int k a) (.int k b) (.int k c) K=K (.int k (max (max a b) c)):=by
 apply propext
 constructor
 ·rintro⟨k',a',b',c',h1,h2,h3,h⟩
  cases h1;cases h2;cases h3;exact h
 ·exact fun h=>⟨k,a,b,c,rfl,rfl,rfl,h⟩
def azJ(o:Oper)(K:PS->Prop)(σ:PS):Prop:=
 match o.op with
 | .call { callee:=.builtin .max,args:=⟨[x,y,z]⟩,argTypes:=_ }=>mx3 (aR σ.f x) (aR σ.f y) (aR σ.f z) fun v=>K (σ.put o.dst v)
 | _=>False
end
@[simp] theorem azK{K:PS->Prop}{d:Option Tmp}{ty:TypeId}{pos:String}{af:Array Edge}{ts:Array TypeId}{x y z:Operand} :
  azJ ⟨d, .call { callee:=.builtin .max,args:=⟨[x,y,z]⟩,argTypes:=ts },ty,pos,af,none⟩ K ⟨f,rows,clk⟩=mx3 (aR f x) (aR f y) (aR f z) fun v=>K ⟨put f d v,rows,clk⟩:=rfl
section
variable {E:Env} {w0:World} {S0:eU} {n:Nat} {G:Gs}
theorem LC{tl:Nat}{ops:Array Oper}{T:PS->Prop}{Q:Exit->Act->World->Prop}(iD:vJ E n tl ops true=true)(htl:tl≠0){σ:PS}{a:Act}{w:World}
  (h:aX E ops.toList σ.clock 0 (ops.toList.take (ops.size-tl)) T ⟨σ.f,σ.rows,fun _ _=>False,fun _ _=>False⟩) (hR:Rel w0 S0 n G σ a w)
  (hT:∀σ' a' w',T σ'->Rel w0 S0 n G σ' a' w'->wpList E.P ops Q (ops.toList.drop (ops.size-tl)) a' w'):(Code.region id ops true).wp E.P Q a w:=by
 simp only [vJ,Bool.and_eq_true,Bool.not_true,Bool.false_or]at iD
 obtain⟨aqp,yL,iD⟩:=iD
 have hd:∀o,o∈ops -> ∀t,o.dst=some t->t<n:=by
  intro o ho t ht
  have:=Array.all_eq_true_iff_forall_mem.1 aqp o ho
  simpa [ht]using this
 refine wp_region_any E.mixed ?_
 have KR:=hR.drew
 have hU0:∀k (l:Array Bool),sN w0 S0 n G (Ul E ops σ.clock k l) σ.f σ.rows a { w with drawn:=w.drawn+1 }:=fun k l=>KR.mono fun v hv => .inl hv
 have akT:∀(l:List Oper),y8 E l=true -> ∀(i:Nat) (oi:Oper),l[i]? = some oi->eM E oi.op=true->oi.dst.isSome=true:=fun l h i oi hi hn=>by
  have:=List.all_eq_true.1 h oi (List.mem_of_getElem? hi)
  rw [hn]at this;simp at this;exact Option.isSome_iff_exists.2 (by obtain⟨x,hx⟩:=Option.isSome_iff_exists.1 this.1;exact⟨x,hx⟩)
 rw [if_neg htl]at iD yL
 have tD:∀i oi,i<ops.size-tl->ops[i]? = some oi->eM E oi.op=true->oi.dst.isSome=true:=fun i oi h1 hi=>akT _ yL i oi (by rw [List.getElem?_take,if_pos h1];simpa using hi)
 simp only [Bool.and_eq_true,decide_eq_true_eq]at iD
 obtain⟨hle,hB⟩:=iD
 simp only [Region.lexTailB,Bool.and_eq_true,decide_eq_true_eq]at hB
 obtain⟨⟨⟨⟨aCR,FE⟩,hs⟩,hc⟩,aqq⟩:=hB
 have hl:=sR (c0:=σ.clock) (ops.toList.take (ops.size-tl)) 0 _ _ (fun j hj=>by
  have hj':j<ops.size-tl:=by simpa using hj
  simp [hj']) yL (by simp [rk]) h
 have af3:HeadInv .any ops (ops.size-tl) (Array.replicate ops.size false):=
  ⟨aG,fun j oj _ hl=>(by rw [getD_replicate_false]at hl;cases hl),fun t _ ht=>getD_in (by simpa using ht) (getD_replicate_false _ _)⟩
 have CQ:(ops.toList.take (ops.size-tl)).length=ops.size-tl:=aG
 have hdl:(ops.toList.drop (ops.size-tl)).length=ops.size-(ops.size-tl):=aG
 have H:=w8 (E:=E) (md:=.any) (n:=ops.size-tl) (g:=ops.size-(ops.size-tl)) tD (fun bL inv i hi hun t ht=>tail_waits hs hc FE inv _ i rfl hi hun t ht) (ops.toList.take (ops.size-tl)) 0 _ _ (fun j hj=>by
  rw [CQ]at hj
  simp [hj]) (by rw [CQ];simp) af3 (by rw [CQ];exact aqq) hl
 have:=oK (E:=E) (md:=.any) (g:=ops.size-(ops.size-tl)) (Q:=Q) (m:=n) hd (fun bL st a' w' hL lE=>by
  obtain⟨h1,h2⟩:=hL
  have h3:=hT _ a' w' h2 (lE.mono fun v hv=>by have:=XK hv;simpa using this)
  have h4:=wpAny_of_seq (md:=.any) (Q':=Q) (ops.toList.drop (ops.size-tl)) (ops.size-tl) bL a' w' (fun j=>by simp [List.getElem?_drop]) (by rw [hdl];exact h1) h3
  rwa [hdl]at h4) _ _ _ _ _ aG H (hU0 _ _)
 rw [CQ,show ops.size-tl+(ops.size-(ops.size-tl))=ops.size by omega]at this
 exact this
end
theorem W.azL{E:Env}{n:Nat}{tl:Nat->Nat}{Q:PX->PS->Prop}{ops:List Oper}{y:Code}(m:Nat){o:Oper}{r:List Oper}(hm:tl id=m+1)(ho:ops.drop (ops.length-(m+1))=o::r)(hg:o.guard=none)
  (h:∀K:PS->Prop,(∀σ,W E n tl y Q σ->K σ)->go (aX E ops clk 0 (ops.take (ops.length-(m+1))) (fun σ=>K7 E o (aP E ops r K) σ) ⟨f,rows,fun _ _=>False,fun _ _=>False⟩)):W E n tl (.seq (.region id ops.toArray true) y) Q ⟨f,rows,clk⟩:=by
 refine W.seq ?_
 intro iD w0 S0 G a w Q' hR hQ
 have atg:vJ E n (tl id) ops.toArray true=true:=by simpa [fQ]using iD
 have hd:∀o∈ops,∀t,o.dst=some t->t<n:=fun o ho t ht=>by
  simp only [vJ,Bool.and_eq_true]at atg
  have:=Array.all_eq_true_iff_forall_mem.1 atg.1 o (by simpa using ho)
  simpa [ht]using this
 have h1:=h (fun σ=>W E n tl y Q σ) fun _ h=>h
 have qB:∀x∈o::r,x∈ops:=fun x hx=>by rw [<-ho]at hx;exact List.mem_of_mem_drop hx
 refine LC (T:=fun σ=>K7 E o (aP E ops r (fun σ=>W E n tl y Q σ)) σ) atg aA (by rw [hm];exact h1) hR fun σ' a' w' hT lE=>?_
 rw [hm]
 have e:ops.toArray.toList.drop (ops.toArray.size-(m+1))=o::r:=by simpa using ho
 rw [e]
 unfold wpList
 rw [if_pos (by simp [Region.wanted,hg])]
 refine .inl (zP hT lE (hd o (qB o aG)) fun σ2 a2 w2 hk hR2=>?_)
 exact j5 (E:=E) (ops:=ops.toArray) (fun σ3 a3 w3 hk3 hR3=>hQ .normal σ3 a3 w3 hk3 hR3) _ σ2 a2 w2 (fun o ho=>hd o (qB o (by simp [ho]))) hk hR2
end Pm
namespace Go.Proofs.YtiobceocpabjdaaGreat
open Go Pm
open ZX hiding N W
variable {β k D j d u n s:Nat}{c:List ZX}{lo hi δ B q:Rat}{f:ZX}{l:List (Rat × Rat)}
theorem i3{α β:Type}{c:Prop}[Decidable c](f g:α->β)(x:α):(if c then f else g) x=if c then f x else g x:=by split<;>rfl
def KC(v:Rat->Nat):Nat->Rat->Rat->List (Rat × Rat)
 | 0,lo,hi=>if v lo=v hi then []else [(lo,hi)]
 | k+1,lo,hi=>if v lo=v hi then []else if v lo=v hi+1 then [(lo,hi)]else KC v k lo ((lo+hi)/2)++KC v k ((lo+hi)/2) hi
theorem sJ(h:lo<hi):lo<(lo+hi)/2∧(lo+hi)/2<hi:=by
 have h1:(lo+hi)/2*2=lo+hi:=Rat.div_mul_cancel aF
 exact⟨aT,aT⟩
theorem wP(h:hi-lo<=δ*2^(k+1)):(lo+hi)/2-lo<=δ*2^k∧hi-(lo+hi)/2<=δ*2^k:=by
 have h1:(lo+hi)/2*2=lo+hi:=Rat.div_mul_cancel aF
 rw [Rat.pow_succ]at h
 generalize (2:Rat)^k=p at *
 exact⟨aT,aT⟩
structure Gr(D:Nat)(B:Rat)(j:Nat)(q:Rat):Prop where
 z:∃z:Int,q*((D*2^j:Nat):Int)=(z:Rat)
 b:Ab q B
theorem Gr.mono{i:Nat}(h:Gr D B i q)(hij:i<=j):Gr D B j q:=by
 obtain⟨⟨z,hz⟩,hb⟩:=h
 obtain⟨k,rfl⟩:∃k,j=i+k:=⟨j-i,aA⟩
 refine⟨⟨z*(2^k:Nat),?_⟩,hb⟩
 rw [Rat.intCast_mul,<-hz,Nat.pow_add,<-Nat.mul_assoc,Int.natCast_mul (D*2^i),Rat.intCast_mul]
 grind
theorem Gr.IC{p:Rat}(hp:Gr D B j p)(hq:Gr D B j q):Gr D B (j+1) ((p+q)/2):=by
 obtain⟨⟨y,hy⟩,b1,b2⟩:=hp
 obtain⟨⟨z,hz⟩,b3,b4⟩:=hq
 have h1:(p+q)/2*2=p+q:=Rat.div_mul_cancel aF
 refine⟨⟨y+z,?_⟩,aT,aT⟩
 rw [Rat.intCast_add,<-hy,<-hz,Nat.pow_succ,<-Nat.mul_assoc,Int.natCast_mul (D*2^j),Rat.intCast_mul]
 have h2:(((2:Nat):Int):Rat)=2:=rfl
 rw [h2]
 generalize (((D*2^j:Nat):Int):Rat)=M at *
 grind
theorem Gr.sq(h:Gr D (2^β) j q)(h0:1<=D)(hD:D<=2^d):SQ (β+d+j+1) q:=by
 obtain⟨⟨z,hz⟩,hb⟩:=h
 have hM:1<=D*2^j:=Nat.mul_pos h0 (Nat.two_pow_pos _)
 have hM2:D*2^j<=2^(d+j):=by rw [Nat.pow_add];exact Nat.mul_le_mul_right _ hD
 have hMq:(0:Rat)<(((D*2^j:Nat):Int):Rat):=Rat.intCast_pos.2 aA
 have hzb:z.natAbs<=2^(β+d+j):=by
  have h1:Ab (z:Rat) (((2^β*(D*2^j):Nat):Int):Rat):=by
   rw [<-hz,Int.natCast_mul (2^β),Rat.intCast_mul,QV]
   exact hb.mul ⟨aT,Rat.le_refl⟩
  obtain⟨h2,h3⟩:=h1
  rw [<-Rat.intCast_neg]at h2
  have h4:=Rat.intCast_le_intCast.1 h2
  have h5:=Rat.intCast_le_intCast.1 h3
  have h6:2^β*(D*2^j)<=2^(β+d+j):=by
   rw [Nat.add_assoc,Nat.pow_add];exact Nat.mul_le_mul_left _ hM2
  omega
 have e:=QP (n:=z) (d:=((D*2^j:Nat):Int)) aA hz.symm
 have o7:((D*2^j:Nat):Int)≠0:=aA
 have hnn:=tN z ((D*2^j:Nat):Int) o7
 have SK:=tP z ((D*2^j:Nat):Int) o7
 rw [if_neg aA]at hnn SK
 rw [e]at hnn SK
 have b1:q.num.natAbs<=z.natAbs:=by rw [hnn];exact Int.natAbs_ediv_le_natAbs _ _
 have b2:((q.den:Int)).natAbs<=D*2^j:=by rw [SK];exact Nat.le_trans (Int.natAbs_ediv_le_natAbs _ _) aA
 have hp:∀i,2^i<2^(i+1):=fun i=>Nat.pow_lt_pow_right aF aA
 refine⟨dZ aF (Nat.lt_of_le_of_lt (Nat.le_trans b1 hzb) (hp _)),dZ aF (Nat.lt_of_le_of_lt (Nat.le_trans b2 hM2) ?_),aA⟩
 exact Nat.pow_lt_pow_right aF aA
structure Cut(v:Rat->Nat)(B δ:Rat):Prop where
 bU:∀a b,a<=b->v b<=v a
 tK:∀a b,Ab a B->Ab b B->a<b->b-a<=δ->v a<=v b+1
theorem Cut.leaf{v:Rat->Nat}(C:Cut v B δ)(GW:Ab lo B)(WG:Ab hi B)(h:lo<hi)(hd:hi-lo<=δ)(o7:v lo≠v hi):v lo=v hi+1:=by
 have:=C.tK lo hi GW WG h hd
 have:=C.bU lo hi (Rat.le_of_lt h)
 omega
theorem rW{v:Rat->Nat}{D:Nat}{B δ:Rat}(C:Cut v B δ):∀(k j:Nat) (lo hi:Rat),Gr D B j lo->Gr D B j hi->lo<hi->hi-lo<=δ*2^k ->
  (∀p∈KC v k lo hi,Gr D B (j+k) p.1∧Gr D B (j+k) p.2∧lo<=p.1∧p.1<p.2∧p.2<=hi∧v p.1=v p.2+1)∧(KC v k lo hi).length=v lo-v hi∧(KC v k lo hi).Pairwise fun p q=>p.2<=q.1
 | 0,j,lo,hi,g1,g2,h,hd=>by
  rw [KC]
  split
  ·rename_i he
   exact⟨fun p hp=>absurd hp List.not_mem_nil,by rw [he];simp,List.Pairwise.nil⟩
  ·rename_i he
   have:=C.leaf g1.b g2.b h (by rw [Rat.pow_zero,Rat.mul_one]at hd;exact hd) he
   refine⟨fun p hp=>?_,by simp;omega,List.pairwise_singleton _ _⟩
   rw [List.mem_singleton]at hp;subst hp
   exact⟨g1,g2,Rat.le_refl,h,Rat.le_refl,this⟩
 | k+1,j,lo,hi,g1,g2,h,hd=>by
  rw [KC]
  split
  ·rename_i he
   exact⟨fun p hp=>absurd hp List.not_mem_nil,by rw [he];simp,List.Pairwise.nil⟩
  ·rename_i he
   split
   ·rename_i I7
    refine⟨fun p hp=>?_,by simp;omega,List.pairwise_singleton _ _⟩
    rw [List.mem_singleton]at hp;subst hp
    exact⟨g1.mono aA,g2.mono aA,Rat.le_refl,h,Rat.le_refl,I7⟩
   ·obtain⟨m1,m2⟩:=sJ h
    obtain⟨d1,d2⟩:=wP hd
    have gm:=g1.IC g2
    obtain⟨a1,a2,a3⟩:=rW C k (j+1) lo ((lo+hi)/2) (g1.mono aA) gm m1 d1
    obtain⟨b1,b2,b3⟩:=rW C k (j+1) ((lo+hi)/2) hi gm (g2.mono aA) m2 d2
    have n1:=C.bU lo ((lo+hi)/2) (Rat.le_of_lt m1)
    have n2:=C.bU ((lo+hi)/2) hi (Rat.le_of_lt m2)
    rw [show j+1+k=j+(k+1)by omega]at a1 b1
    generalize (lo+hi)/2=m at *
    refine⟨fun p hp=>?_,by rw [List.length_append,a2,b2];omega,List.pairwise_append.2 ⟨a3,b3,fun p hp q hq=>?_⟩⟩
    ·rcases List.mem_append.1 hp with hp | hp
     ·obtain⟨c1,c2,c3,c4,c5,c6⟩:=a1 p hp
      exact⟨c1,c2,c3,c4,aT,c6⟩
     ·obtain⟨c1,c2,c3,c4,c5,c6⟩:=b1 p hp
      exact⟨c1,c2,aT,c4,c5,c6⟩
    ·obtain⟨c1,c2,c3,c4,c5,c6⟩:=a1 p hp
     obtain⟨d1,d2,d3,d4,d5,d6⟩:=b1 q hq
     grind
theorem SQ.mono{w:Nat}(h:SQ u q)(hu:u<=w):SQ w q:=⟨Nat.le_trans h.n2 hu,Nat.le_trans h.d2 hu,Nat.le_trans h.hu hu⟩
theorem SQ.LLs(h:SQ u q)(hu:u<=k):sz LL q.num<=k∧sz LL (q.den:Int)<=k:=⟨Nat.le_trans h.nL hu,Nat.le_trans h.dL hu⟩
theorem SQ.LLt(h:SQ u q)(hu:u<k):sz LL q.num<k∧sz LL (q.den:Int)<k:=⟨Nat.lt_of_le_of_lt h.nL hu,Nat.lt_of_le_of_lt h.dL hu⟩
structure nX(s n:Nat)(f:ZX):Prop where
 lay:tY s n f
 rB:1<=n
 nf:Nf f
 sq:Go.Proofs.YtiobceocpabjdaaGreat.sq f=f
 hs:s<=5000000
namespace nX
variable {s n:Nat} {f:ZX} (I:nX s n f)
include I
theorem ch:Ch s n f:=⟨I.lay.bz,I.lay.hn,I.rB,Nat.le_trans (Nat.mul_le_mul_right _ (by unfold qb;omega)) I.lay.hC⟩
theorem s1:1<=s:=by
 have h1:=I.lay.hs
 have h2:=I.rB
 rcases Nat.eq_zero_or_pos s with h | h
 ·rw [h]at h1;simp at h1;omega
 ·exact h
theorem hb:∀p∈aO f,BZ 4500000000 n p:=I.ch.all.1
theorem hl:(aO f).length<=21:=I.ch.all.2
theorem gz1:gz f (cD f)=1:=by
 have:=ace I.nf.ne
 rwa [I.sq]at this
theorem ND:wO f (cD f):=fun d h1 h2=>by
 have h3:=(fS f (cD f)).least h1 h2
 rw [I.gz1]at h3
 have:=h3.nP ZX.qM
 rwa [ZX.wH]at this
theorem QM:zV (aO f) f:=I.ch.QM I.nf.ne I.gz1
theorem S:uG f (vt (aO f)):=⟨I.nf.ne,I.ND,_,I.QM,rfl⟩
theorem szf:∀c∈f.l,c.natAbs<=2^s:=fun c hc=>by
 have h1:=kB (b:=2) aF c
 have h2:=Nat.pow_le_pow_right (show 0<2 by decide) (I.ch.bz.sz c hc)
 omega
theorem cut(β:Nat):∃δ:Rat,0<δ∧δ*2^lk s n 5 β=1∧Cut (vt (aO f)) (2^β) δ:=by
 obtain⟨δ,h1,h2⟩:=JK (lk s n 5 β)
 have hn:=I.ch.hn
 obtain⟨h3,_⟩:=xS I.QM (s:=s) (n:=n) (l:=5) (β:=β) I.nf.ne I.szf I.ch.bz.N aA I.ND (by rw [h2];exact Rat.le_refl)
 refine⟨δ,h1,h2,fun a b gU=>I.QM.bU gU,fun a b ha hb gU hd=>?_⟩
 have:=h3.turns a b ha hb gU hd
 rcases QW f a b with h4 | h4<;>omega
end nX
section
variable {c:List ZX} {n u:Nat} {p q:Rat} (hb:∀p∈c,BZ 4500000000 n p) (hn:n<=20) (hl:c.length<=21) (hp:SQ u p) (hq:SQ u q) (hu:u<=1000000000)
include hb hn hl hp hq hu
theorem ai3:aC 88 [CH c,RT p,RT q] (aB (if q<p then 0 else(vt c p:Int)-vt c q)):=by
 have z1:=dM hq.nL hq.dL hp.nL hp.dL aA (bI q) (bI p) ⟨hq.nL,hq.dL⟩ ⟨hp.nL,hp.dL⟩
 have b1:=QH aA z1 (aiS hb hn hl hp hu) (aiS hb hn hl hq hu)
 rw [JD,JD]at b1
 simp only [mO]at b1
 exact b1
theorem Z6:aC 76 [aJ zq c,RR p,RR q] (aB (if q<p then 0 else(vt c p:Int)-vt c q)):=by
 have yy:∀ {v:Int},sz 2 v<=u->sz 2 v<=YY:=fun h=>by simp only [YY];omega
 have b1:=VE (yy hp.n2) (yy hp.d2) (yy hq.n2) (yy hq.d2) aA (aiR hb hn hl hp hu) (aiR hb hn hl hq hu)
 have hcm:(q.num*(p.den:Int)<p.num*(q.den:Int))=(q<p):=propext (by rw [<-mO];exact qF.symm)
 rw [JD,JD]at b1
 simp only [hcm]at b1
 rw [cU,cU]
 exact b1
end
abbrev tc(q:Rat):List PV:=[.bool (decide (q.num<0)),us (aV LL q.num.natAbs), .bool (decide ((q.den:Int)<0)),us (aV LL (q.den:Int).natAbs)]
def ga(f:ZX)(p:Rat × Rat):List PV:=Po f.l::(tc p.1++tc p.2)
@[simp] theorem aFa{p:Rat × Rat}:ga f p=Po f.l::(tc p.1++tc p.2):=rfl
@[simp] theorem DU:bP 9 (emap (ga f) l)=True:=cS fun _=>rfl
@[simp] theorem ati{v e:Nat}:dG (some ⟨v,e,n,emap (ga f) l⟩)=True:=cM fun _=>rfl
theorem QX:∀x∈emap (ga f) l,∀p∈x,bE p=true:=fun x hx p hp=>by
 simp only [emap,List.mem_map]at hx
 obtain⟨r,_,rfl⟩:=hx
 simp at hp
 rcases hp with rfl | rfl | rfl | rfl | rfl | rfl | rfl | rfl | rfl<;>rfl
theorem ai4:jZ env.P 72 [Po f.l,CH c,RT lo,RT hi,aB 0] 54 9 []:=by
 show jZ env.P _ [Po f.l, .rd [aJ zp c],T2 lo.num lo.den,T2 hi.num hi.den,aB 0] _ _ _
 generalize lo.num=ln at *
 generalize (lo.den:Int)=ld at *
 generalize hi.num=hn at *
 generalize (hi.den:Int)=hd at *
 generalize aJ zp c=X at *
 refine kE (E:=env) (fun id=>if id=5 then 2 else if id=8 then 2 else 0) (t:=10) [(0,Po f.l),(1, .rd [X]),(2,T2 ln ld),(3,T2 hn hd),(4,aB 0)] Tryz.func72 rfl cT cT (show 5<=48 by decide) rfl aG ?_
 apply aQ [0,1,4,7,8]
 apply eE [0,1,4,7,8,13]
 apply aQ [0,1,4,7,8,13,14]
 refine W.cond ⟨_,rfl,fun h=>?_,fun h=>?_⟩
 ·apply aQ [10]
  refine W.nil 10 10 54 9 aG aF fun K hK=>?_
  simp
  refine hK _ ?_
  apply W.ret
  exact⟨10,_,by simp;exact rfl,aG,fun x hx=>by cases hx⟩
 ·simp at h
theorem amV(I:nX s n f)(q1:SQ u lo)(q2:SQ u hi)(hu:u<=1000000000):jZ env.P 72 [Po f.l,CH c,RT lo,RT hi,aB 1] 54 9 (emap (ga f) [(lo,hi)]):=by
 have N1:=fG (x:=f.l) (I.ch.bz.pb (by have:=I.hs;omega) (by have:=I.ch.hn;omega))
 rw [f.c]at N1
 obtain⟨l1,l2⟩:=q1.LLt (show u<1099511627770 by omega)
 obtain⟨l3,l4⟩:=q2.LLt (show u<1099511627770 by omega)
 have M1:=B4 l1 l2
 have M2:=B4 l3 l4
 rw [bI]at M1 M2
 rw [show emap (ga f) [(lo,hi)] = [Po f.l::(tc lo++tc hi)]from rfl]
 show jZ env.P _ [Po f.l, .rd [aJ zp c],T2 lo.num lo.den,T2 hi.num hi.den,aB 1] _ _ _
 replace M1:aC 90 [T2 lo.num lo.den, .sl []] (T2 lo.num lo.den):=M1
 replace M2:aC 90 [T2 hi.num hi.den, .sl []] (T2 hi.num hi.den):=M2
 clear l1 l2 l3 l4 q1 q2
 simp only [tc]
 generalize lo.num=ln at *
 generalize (lo.den:Int)=ld at *
 generalize hi.num=hn at *
 generalize (hi.den:Int)=hd at *
 generalize aJ zp c=X at *
 refine kE (E:=env) (fun id=>if id=5 then 2 else if id=8 then 2 else 0) (t:=10) [(0,Po f.l),(1, .rd [X]),(2,T2 ln ld),(3,T2 hn hd),(4,aB 1)] Tryz.func72 rfl cT cT (show 5<=48 by decide) rfl aG ?_
 apply aQ [0,1,4,7,8]
 apply eE [0,1,4,7,8,13]
 apply aQ [0,1,4,7,8,13,14]
 refine W.cond ⟨_,rfl,fun h=>?_,fun h=>?_⟩
 ·simp at h
 ·apply aQ [0,1,4,7,8,16]
  refine W.cond ⟨_,rfl,fun h=>?_,fun h=>?_⟩
  ·refine W.azL 1 rfl rfl rfl fun K hK=>?_
   apply fV N1 M1
   apply o9 M2
   refine W.lw [10] hK ?_;clear hK K;simp
   apply W.ret
   exact⟨25,_,by simp;exact rfl,aG,fun x hx p hp=>by
    simp at hx;subst hx
    simp at hp
    rcases hp with rfl | rfl | rfl | rfl | rfl | rfl | rfl | rfl | rfl<;>rfl⟩
  ·simp at h
theorem ai5{n k:Int}{la lb:List (Rat × Rat)}(hn:2<=n∧n<=21)(hk:0<=k∧k<=n)(YJ:la.length<=21)(hlb:lb.length<=21)
  (M:aC 91 [RT lo,RT hi] (RT ((lo+hi)/2))) (B:aC 88 [CH c,RT lo,RT ((lo+hi)/2)] (aB k))
  (h1:jZ env.P 72 [Po f.l,CH c,RT lo,RT ((lo+hi)/2),aB k] 54 9 (emap (ga f) la)) (h2:jZ env.P 72 [Po f.l,CH c,RT ((lo+hi)/2),RT hi,aB (n-k)] 54 9 (emap (ga f) lb)) :
  jZ env.P 72 [Po f.l,CH c,RT lo,RT hi,aB n] 54 9 (emap (ga f) (la++lb)):=by
 rw [<-EN]
 have el1:(emap (ga f) la).length<=21:=by simpa [emap]using YJ
 have el2:(emap (ga f) lb).length<=21:=by simpa [emap]using hlb
 have p1:=QX (f:=f) (l:=la)
 have p2:=QX (f:=f) (l:=lb)
 have a1:bP 9 (emap (ga f) la)=True:=DU
 have a2:bP 9 (emap (ga f) lb)=True:=DU
 show jZ env.P _ [Po f.l, .rd [aJ zp c],T2 lo.num lo.den,T2 hi.num hi.den,aB n] _ _ _
 replace M:aC 91 [T2 lo.num lo.den,T2 hi.num hi.den] (T2 ((lo+hi)/2).num ((lo+hi)/2).den):=M
 replace B:aC 88 [.rd [aJ zp c],T2 lo.num lo.den,T2 ((lo+hi)/2).num ((lo+hi)/2).den] (aB k):=B
 replace h1:jZ env.P 72 [Po f.l, .rd [aJ zp c],T2 lo.num lo.den,T2 ((lo+hi)/2).num ((lo+hi)/2).den,aB k] 54 9 (emap (ga f) la):=h1
 replace h2:jZ env.P 72 [Po f.l, .rd [aJ zp c],T2 ((lo+hi)/2).num ((lo+hi)/2).den,T2 hi.num hi.den,aB (n-k)] 54 9 (emap (ga f) lb):=h2
 generalize ((lo+hi)/2).num=mn at *
 generalize (((lo+hi)/2).den:Int)=md at *
 generalize lo.num=ln at *
 generalize (lo.den:Int)=ld at *
 generalize hi.num=FE at *
 generalize (hi.den:Int)=hd at *
 generalize aJ zp c=X at *
 generalize emap (ga f) la=ea at *
 generalize emap (ga f) lb=eb at *
 have w1:IntKind.wrap .i64 (n-k)=n-k:=wrap_i64 aA aA
 refine kE (E:=env) (fun id=>if id=5 then 2 else if id=8 then 2 else 0) (t:=10) [(0,Po f.l),(1, .rd [X]),(2,T2 ln ld),(3,T2 FE hd),(4,aB n)] Tryz.func72 rfl cT cT (show 5<=48 by decide) rfl aG ?_
 apply aQ [0,1,4,7,8]
 apply eE [0,1,4,7,8,13]
 apply aQ [0,1,4,7,8,13,14]
 refine W.cond ⟨_,rfl,fun h=>?_,fun h=>?_⟩
 ·simp at h;omega
 ·apply aQ [0,1,4,7,8,16]
  refine W.cond ⟨_,rfl,fun h=>?_,fun h=>?_⟩
  ·simp at h;omega
  ·apply W.skip
   apply cK M [0,1,4,7,8,11]
   apply cK B [0,1,4,7,8,11,12]
   apply W.sd
   rw [show(if 8=5 then 2 else if 8=8 then 2 else 0)=1+1 from rfl,gO]
   apply (cV)
   refine L7 h1 rfl trivial ?_
   simp (disch:=omega) [gw,w1,i3]
   refine L7 h2 rfl trivial ?_
   simp (disch:=omega) [gw,a1,a2,i3]
   apply cO [10]
   apply W.ret
   exact⟨38,5,aG,aG,fun x hx=>by
    rcases List.mem_append.1 hx with hx | hx
    ·exact p1 x hx
    ·exact p2 x hx⟩
theorem ai6(I:nX s n f){J:Nat}(CT:1<=D)(hD:D<=2^d)(C:Cut (vt (aO f)) (2^β) δ)(hu:β+d+J+1<=1000000000):∀(k j:Nat) (lo hi:Rat),j+k<=J->Gr D (2^β) j lo->Gr D (2^β) j hi->lo<hi->hi-lo<=δ*2^k ->
  jZ env.P 72 [Po f.l,CH (aO f),RT lo,RT hi,aB ((vt (aO f) lo:Int)-vt (aO f) hi)] 54 9 (emap (ga f) (KC (vt (aO f)) k lo hi)):=by
 have leaf:∀(j:Nat) (lo hi:Rat),j<=J->Gr D (2^β) j lo->Gr D (2^β) j hi->vt (aO f) lo=vt (aO f) hi+1->jZ env.P 72 [Po f.l,CH (aO f),RT lo,RT hi,aB ((vt (aO f) lo:Int)-vt (aO f) hi)] 54 9 (emap (ga f) [(lo,hi)]):=fun j lo hi hj g1 g2 he=>by
  rw [show(vt (aO f) lo:Int)-vt (aO f) hi=1 by omega]
  exact amV I ((g1.mono hj).sq CT hD) ((g2.mono hj).sq CT hD) hu
 have VN:∀(lo hi:Rat),vt (aO f) lo=vt (aO f) hi->jZ env.P 72 [Po f.l,CH (aO f),RT lo,RT hi,aB ((vt (aO f) lo:Int)-vt (aO f) hi)] 54 9 (emap (ga f) []):=fun lo hi he=>by
  rw [show(vt (aO f) lo:Int)-vt (aO f) hi=0 by omega]
  exact ai4
 intro k
 induction k with
 | zero =>
  intro j lo hi hj g1 g2 c8 hd
  rw [KC]
  by_cases he:vt (aO f) lo=vt (aO f) hi
  ·rw [if_pos he];exact VN lo hi he
  ·rw [if_neg he];exact leaf j lo hi aA g1 g2 (C.leaf g1.b g2.b c8 (by rw [Rat.pow_zero,Rat.mul_one]at hd;exact hd) he)
 | succ k ih =>
  intro j lo hi hj g1 g2 c8 hd
  rw [KC]
  by_cases he:vt (aO f) lo=vt (aO f) hi
  ·rw [if_pos he];exact VN lo hi he
  ·rw [if_neg he]
   by_cases I7:vt (aO f) lo=vt (aO f) hi+1
   ·rw [if_pos I7];exact leaf j lo hi aA g1 g2 I7
   ·rw [if_neg I7]
    obtain⟨m1,m2⟩:=sJ c8
    obtain⟨d1,d2⟩:=wP hd
    have gm:=g1.IC g2
    have n1:=C.bU lo ((lo+hi)/2) (Rat.le_of_lt m1)
    have n2:=C.bU ((lo+hi)/2) hi (Rat.le_of_lt m2)
    have hv1:=Nat.le_trans (aiU (aO f) lo) I.hl
    obtain⟨_,a2,_⟩:=rW C k (j+1) lo ((lo+hi)/2) (g1.mono aA) gm m1 d1
    obtain⟨_,b2,_⟩:=rW C k (j+1) ((lo+hi)/2) hi gm (g2.mono aA) m2 d2
    have r1:=ih (j+1) lo ((lo+hi)/2) aA (g1.mono aA) gm m1 d1
    have r2:=ih (j+1) ((lo+hi)/2) hi aA gm (g2.mono aA) m2 d2
    have q1:SQ (β+d+J+1) lo:=(g1.mono aA).sq CT hD
    have q2:SQ (β+d+J+1) hi:=(g2.mono aA).sq CT hD
    have q3:SQ (β+d+J+1) ((lo+hi)/2):=(gm.mono aA).sq CT hD
    have hM:=VK (q1.LLs (Nat.le_refl _)) (q2.LLs (Nat.le_refl _)) aA
    have hB:=ai3 I.hb I.ch.hn I.hl q1 q3 hu
    rw [if_neg (Rat.not_lt.2 (Rat.le_of_lt m1))]at hB
    refine ai5 (n:=(vt (aO f) lo:Int)-vt (aO f) hi) (k:=(vt (aO f) lo:Int)-vt (aO f) ((lo+hi)/2)) aA aA aA aA hM hB r1 ?_
    rw [show(vt (aO f) lo:Int)-vt (aO f) hi-((vt (aO f) lo:Int)-vt (aO f) ((lo+hi)/2))=(vt (aO f) ((lo+hi)/2):Int)-vt (aO f) hi by omega]
    exact r2
end Go.Proofs.YtiobceocpabjdaaGreat
namespace Go.Proofs.YtiobceocpabjdaaGreat
open Go Pm
open ZX hiding N W
theorem SQ.tor{u:Nat}{p:Rat}(hp:SQ u p)(hu:u<=YY):aC 23 [RR p] (RT p):=by
 rw [cU]
 have h1:=hp.n2;have h2:=hp.d2
 exact amJ (by simp only [Z,YY]at *;omega) (by simp only [Z,YY]at *;omega)
def l1(x:List Int):Nat:=(x.map Int.natAbs).sum
theorem lY(a:Int)(x:List Int):l1 (a::x)=a.natAbs+l1 x:=by simp [l1]
theorem QY:l1 []=0:=rfl
theorem QZ:∀x:List Int,l1 (aZ x)<=l1 x
 | []=>Nat.le_refl _
 | a::x=>by
  have:=QZ x
  rw [aZ]
  split
  ·rw [QY];omega
  ·rw [lY,lY];omega
theorem JL{α:Type}(f g:α->Int):∀l:List α,l1 (l.map fun k=>f k+g k)<=l1 (l.map f)+l1 (l.map g)
 | []=>Nat.le_refl _
 | x::l=>by
  have:=JL f g l
  simp only [List.map_cons,lY]
  omega
theorem z5:∀(x:List Int) (n:Nat),l1 (x++List.replicate n 0)=l1 x
 | [],n=>by simp [l1]
 | a::x,n=>by rw [List.cons_append,lY,lY,z5 x n]
theorem amW(x y:List Int):l1 (kC x y)<=l1 x+l1 y:=by
 have h1:=JL (nth x) (nth y) (List.range (max x.length y.length))
 rw [sV aA,sV aA,z5,z5]at h1
 exact Nat.le_trans (QZ _) h1
theorem ai7(a:Int):∀y:List Int,l1 (y.map fun c=>c*a)=a.natAbs*l1 y
 | []=>by simp [l1]
 | c::y=>by rw [List.map_cons,lY,lY,ai7 a y,Int.natAbs_mul,Nat.mul_add,Nat.mul_comm]
theorem VO:∀x y:List Int,l1 (jJ x y)<=l1 x*l1 y
 | [],y=>by rw [jJ,QY];omega
 | a::x,y=>by
  have h1:=VO x y
  have h2:=amW (y.map fun c=>c*a) (0::jJ x y)
  rw [ai7,lY]at h2
  rw [jJ,lY,Nat.add_mul]
  simp only [Int.natAbs_zero]at h2
  omega
def n1(a:ZX):Nat:=l1 a.l
theorem Q0(a b:ZX):n1 (a*b)<=n1 a*n1 b:=Nat.le_trans (QZ _) (VO _ _)
theorem azM(x:List Int):n1 (of x)<=l1 x:=QZ x
theorem atj(c:Int):n1 (K c)<=c.natAbs:=Nat.le_trans (azM _) (by simp [l1])
theorem ai8{a:ZX}{m:Nat}(h:n1 a<=m):∀k:Nat,n1 (a^k)<=m^k
 | 0=>atj 1
 | k+1=>by
  rw [pow_succ',Nat.pow_succ]
  exact Nat.le_trans (Q0 _ _) (Nat.mul_le_mul (ai8 h k) h)
theorem ai9:∀ {x:List Int} {c:Int},c∈x->c.natAbs<=l1 x
 | a::x,c,h=>by
  rw [lY]
  rcases List.mem_cons.1 h with rfl | h
  ·omega
  ·have:=ai9 h;omega
theorem BZ.apx{s n:Nat}{a:ZX}(h:n1 a<2^s)(hn:ZX.N a<=n):BZ s n a:=⟨hn,fun c hc=>dZ aF (Nat.lt_of_le_of_lt (ai9 hc) h)⟩
theorem amX(l:List Int)(i:Nat):n1 (of (jQ l i))<=9^(ZX.N (of (jQ l i))-1)∧2<=ZX.N (of (jQ l i)):=by
 obtain⟨_,hl,_⟩:=GF l i
 have h9:=Int.emod_nonneg (nth l i) (show (9:Int)≠0 by decide)
 have h9':=Int.emod_lt_of_pos (nth l i) (show (0:Int)<9 by decide)
 have h5:=Int.emod_nonneg (nth l (i+1)) (show (5:Int)≠0 by decide)
 have h5':=Int.emod_lt_of_pos (nth l (i+1)) (show (0:Int)<5 by decide)
 have h3:=Int.emod_nonneg (nth l (i+2)) (show (3:Int)≠0 by decide)
 have h3':=Int.emod_lt_of_pos (nth l (i+2)) (show (0:Int)<3 by decide)
 unfold n1 ZX.N
 rw [hl]
 unfold jQ
 split
 ·simp only [lY,QY,List.length_cons,List.length_nil]
  refine⟨?_,aA⟩
  show _<=81
  omega
 ·simp only [lY,QY,List.length_cons,List.length_nil]
  refine⟨?_,aA⟩
  show _<=9
  omega
theorem VP(l:List Int)(most:Nat):∀j,n1 (eX l most j)<=9^(ZX.N (eX l most j)-1)
 | 0=>Nat.le_trans (atj 1) (Nat.one_le_pow _ _ aF)
 | j+1=>by
  have ih:=VP l most j
  obtain⟨h0,_⟩:=qR l most j
  obtain⟨b1,b2,b3⟩:=GF l (3*j)
  obtain⟨e1,e2⟩:=QI l (3*j)
  obtain⟨f1,f2⟩:=amX l (3*j)
  obtain⟨p1,p2,p3⟩:=aiH b3 b1 _ e1
  show n1 (B5 l most (3*j) (eX l most j))<=9^(ZX.N (B5 l most (3*j) (eX l most j))-1)
  unfold B5
  split
  ·exact ih
  ·have h1:=Nat.mul_le_mul ih (ai8 f1 (wM l (3*j)))
   refine Nat.le_trans (Q0 _ _) (Nat.le_trans h1 ?_)
   rw [<-Nat.pow_mul,<-Nat.pow_add]
   refine Nat.pow_le_pow_right aF ?_
   rw [ZX.lN h0 p2,p3,Nat.mul_comm]
   have:=ZX.aH.1 h0
   omega
theorem amY(l:List Int)(most:Nat):n1 (made l most)<=3*9^most∧ZX.N (made l most)<=most+1:=by
 have hN:=(ab6 l most).2.N
 refine⟨?_,hN⟩
 have h1:=VP l most (min 6 (l.length/3))
 have h2:=(qR l most (min 6 (l.length/3))).2.N
 have h3:9^(ZX.N (eX l most (min 6 (l.length/3)))-1)<=9^most:=Nat.pow_le_pow_right aF aA
 unfold made
 split
 ·have h4:=Q0 (K (-3)) (eX l most (min 6 (l.length/3)))
  have h5:=atj (-3)
  exact Nat.le_trans h4 (Nat.mul_le_mul h5 (Nat.le_trans h1 h3))
 ·omega
theorem JM{S τ t:Rat}(hS:0<=S)(hτ:0<τ)(ht:mU τ t):∀ {x:List Int},Cn x->0<x.length->(∀c∈x.dropLast,Ab (c:Rat) S)->S+(((lead x).natAbs:Int):Rat)<=(((lead x).natAbs:Int):Rat)*τ->mU (((lead x).natAbs:Int):Rat) (qv t x)
 | [a],hc,_,_,_=>by
  have e1:qv t [a]=(a:Rat):=by simp only [qv];grind
  have e2:lead [a]=a:=rfl
  rw [e1,e2]
  by_cases h:0<=a
  ·right
   exact Rat.intCast_le_intCast.2 aA
  ·left
   rw [<-Rat.intCast_neg]
   exact Rat.intCast_le_intCast.2 aA
 | a::b::l,hc,_,hb,hL=>by
  have hl:=dO (F9 hc) aG
  rw [DN]at hL |-
  have ih:=JM hS hτ ht (F9 hc) aG (fun c hc=>hb c (by
   rw [List.dropLast_cons_of_ne_nil aG];exact List.mem_cons_of_mem _ hc)) hL
  obtain⟨h4,h5⟩:=hb a (by rw [List.dropLast_cons_of_ne_nil aG];simp)
  have e1:qv t (a::b::l)=a+t*qv t (b::l):=rfl
  have hp:(0:Rat)<(((lead (b::l)).natAbs:Int):Rat):=Rat.intCast_pos.2 aA
  have hm:=mU.mul hτ hp ht ih
  rw [e1]
  generalize (((lead (b::l)).natAbs:Int):Rat)=L at *
  rcases hm with h | h
  ·left;grind
  ·right;grind
theorem pR{x:List Int}(cx:Cn x)(hx:x ≠ []){t:Rat}(ht:mU (jE x) t):mU 1 (qv t x)∧1<=jE x:=by
 have sB:=List.length_pos_iff.2 hx
 have hl:=dO cx sB
 have hL:(1:Rat)<=(((lead x).natAbs:Int):Rat):=fU aA
 have hm:(0:Rat)<=((oI x (x.length-1):Int):Rat):=Rat.intCast_nonneg.2 (aiW _ _)
 have e:=DQ cx hx
 have h2:=Rat.div_mul_cancel (a:=((oI x (x.length-1):Int):Rat)) (b:=(((lead x).natAbs:Int):Rat)) aT
 have hw:(0:Rat)<=((oI x (x.length-1):Int):Rat)/(((lead x).natAbs:Int):Rat):=by
  refine Rat.not_lt.1 fun h=>?_
  have:=Rat.mul_le_mul_of_nonneg_left hL (show 0 <= -(((oI x (x.length-1):Int):Rat)/(((lead x).natAbs:Int):Rat))by grind)
  grind
 have h1:1<=jE x:=by rw [e];grind
 refine⟨(JM hm (show 0<jE x by grind) ht cx sB (fun c hc=>?_) ?_).mono hL,h1⟩
 ·obtain⟨k,hk,rfl⟩:=List.mem_iff_getElem.1 hc
  rw [List.length_dropLast]at hk
  have h3:=aiX x (x.length-1) k hk
  rw [bZ aA]at h3
  rw [List.getElem_dropLast]
  constructor
  ·rw [<-Rat.intCast_neg]
   exact Rat.intCast_le_intCast.2 aA
  ·exact Rat.intCast_le_intCast.2 aA
 ·rw [e]
  generalize ((oI x (x.length-1):Int):Rat)/(((lead x).natAbs:Int):Rat)=w at *
  grind
end Go.Proofs.YtiobceocpabjdaaGreat
