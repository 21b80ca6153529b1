import Derived.Test.YtelhfbikiccfkaaGreatCaq
set_option linter.unusedSimpArgs false
set_option linter.unusedVariables false
namespace Go.Proofs.YtelhfbikiccfkaaGreat
open Go Pm
open ZX hiding N W
abbrev rc(q:Rat):List PV:=[aI aG (aN DD q.num.natAbs), .bool (decide (q.num<0)),aI aG (aN DD (q.den:Int).natAbs), .bool (decide ((q.den:Int)<0))]
def qa(f:ZX)(c:List ZX)(p:Rat × Rat):List PV:=PI f.l::aI zq c::(rc p.1++rc p.2)
@[simp] theorem azu{f:ZX}{c:List ZX}{p:Rat × Rat}:qa f c p=PI f.l::aI zq c::(rc p.1++rc p.2):=rfl
@[simp] theorem HN{f:ZX}{c:List ZX}{l:List (Rat × Rat)}:bM 10 (emap (qa f c) l)=True:=dO fun _=>rfl
@[simp] theorem an7{v e n:Nat}{f:ZX}{c:List ZX}{l:List (Rat × Rat)}:dJ (some ⟨v,e,n,emap (qa f c) l⟩)=True:=dC fun _=>rfl
theorem W5{f:ZX}{c:List ZX}{l:List (Rat × Rat)}:∀x∈emap (qa f c) l,∀p∈x,cR p=true:=fun x hx p hp=>by
 simp only [emap,List.mem_map]at hx
 obtain⟨r,_,rfl⟩:=hx
 simp at hp
 rcases hp with rfl | rfl | rfl | rfl | rfl | rfl | rfl | rfl | rfl | rfl<;>rfl
abbrev QA(f:ZX)(c:List ZX)(p:Rat × Rat):PV:=.ag (qa f c p)
def ex(f:ZX)(p:Rat × Rat):Rat × Rat:=if e p.2 f=0 then(p.2,p.2)else p
theorem SQ.yy{u:Nat}{q:Rat}(h:SQ u q)(hu:u≤1000000000):ZR YY q:=⟨by have:=h.n2;simp only [YY];omega,by have:=h.d2;simp only [YY];omega⟩
theorem jB{p q:Rat}:dF (p.num*q.den) (q.num*p.den)=0↔p=q:=by
 have h1:=j3 p q
 have h2:=j3 q p
 rw [nC]at h1 h2
 refine⟨fun h=>?_,fun h=>?_⟩
 ·have h:=Pm.xZ.1 h
  by_cases h3:p<q
  ·have:=h1.2 h3;omega
  ·rcases Rat.le_iff_lt_or_eq.1 (Rat.not_lt.1 h3)with h4 | h4
   ·have:=h2.2 h4;omega
   ·exact h4.symm
 ·rw [h];exact AZ _
abbrev c4(n d:Int):List PV:=[aI aG (aN DD n.natAbs), .bool (decide (n<0)),aI aG (aN DD d.natAbs), .bool (decide (d<0))]
theorem TZ{x:List Int}{c:List ZX}{ln ld hn hd z σ:Int}(hz:(z != 0)=false)(c1:aD env.P 15 [R2 ln ld,R2 hn hd] (.int .i64 z))(s1:aD env.P 81 [PI x,R2 hn hd] (.int .i64 σ)) :
  aD env.P 84 [.ag (PI x::aI zq c::(c4 ln ld++c4 hn hd))] (.ag (PI x::aI zq c::(c4 ln ld++c4 hn hd))):=by
 simp only [c4]
 refine bY [(0, .ag (PI x::aI zq c :: [aI aG (aN DD ln.natAbs), .bool (decide (ln<0)),aI aG (aN DD ld.natAbs), .bool (decide (ld<0)),aI aG (aN DD hn.natAbs), .bool (decide (hn<0)),aI aG (aN DD hd.natAbs), .bool (decide (hd<0))]))] Tryz.func84 ?_
 refine aA [1,2] ?_
 refine W.seq ?_
 refine iB ?_
 refine aB c1 ?_
 simp (disch:=omega) [gw,hz]
 refine bL [1,2,16] ?_
 refine bC ?_ ?_<;>intro h
 ·simp at h
 ·refine W.skip ?_
  refine aA [2] ?_
  exact bV
theorem aev{x:List Int}{c:List ZX}{ln ld hn hd z σ:Int}(hz:(z != 0)=true)(hs:(σ==0)=false)(c1:aD env.P 15 [R2 ln ld,R2 hn hd] (.int .i64 z))(s1:aD env.P 81 [PI x,R2 hn hd] (.int .i64 σ)) :
  aD env.P 84 [.ag (PI x::aI zq c::(c4 ln ld++c4 hn hd))] (.ag (PI x::aI zq c::(c4 ln ld++c4 hn hd))):=by
 simp only [c4]
 refine bY [(0, .ag (PI x::aI zq c :: [aI aG (aN DD ln.natAbs), .bool (decide (ln<0)),aI aG (aN DD ld.natAbs), .bool (decide (ld<0)),aI aG (aN DD hn.natAbs), .bool (decide (hn<0)),aI aG (aN DD hd.natAbs), .bool (decide (hd<0))]))] Tryz.func84 ?_
 refine aA [1,2] ?_
 refine W.seq ?_
 refine iB ?_
 refine aB c1 ?_
 simp (disch:=omega) [gw,hz]
 refine aB s1 ?_
 simp (disch:=omega) [gw,hs]
 refine bL [1,2,16] ?_
 refine bC ?_ ?_<;>intro h
 ·simp at h
 ·refine W.skip ?_
  refine aA [2] ?_
  exact bV
theorem aah{x:List Int}{c:List ZX}{ln ld hn hd z σ:Int}(hz:(z != 0)=true)(hs:(σ==0)=true)(c1:aD env.P 15 [R2 ln ld,R2 hn hd] (.int .i64 z))(s1:aD env.P 81 [PI x,R2 hn hd] (.int .i64 σ)) :
  aD env.P 84 [.ag (PI x::aI zq c::(c4 ln ld++c4 hn hd))] (.ag (PI x::aI zq c::(c4 hn hd++c4 hn hd))):=by
 simp only [c4]
 refine bY [(0, .ag (PI x::aI zq c :: [aI aG (aN DD ln.natAbs), .bool (decide (ln<0)),aI aG (aN DD ld.natAbs), .bool (decide (ld<0)),aI aG (aN DD hn.natAbs), .bool (decide (hn<0)),aI aG (aN DD hd.natAbs), .bool (decide (hd<0))]))] Tryz.func84 ?_
 refine aA [1,2] ?_
 refine W.seq ?_
 refine iB ?_
 refine aB c1 ?_
 simp (disch:=omega) [gw,hz]
 refine aB s1 ?_
 simp (disch:=omega) [gw,hs]
 refine bL [1,2,16] ?_
 refine bC ?_ ?_<;>intro h
 ·refine W.cC (fun K hK=>?_);simp (disch:=omega) [gw]
  refine W.lw [1,2] hK ?_;clear hK K;simp
  refine aA [2] ?_
  exact bV
 ·simp at h
theorem nR{f:ZX}{c:List ZX}{p:Rat × Rat}:QA f c p = .ag (PI f.l::aI zq c::(c4 p.1.num p.1.den++c4 p.2.num p.2.den)):=rfl
theorem HO{f:ZX}{c:List ZX}{p:Rat × Rat}{n u:Nat}(hb:BZ 4500000000 n f)(hn:n≤20)(q1:SQ u p.1)(q2:SQ u p.2)(hu:u≤1000000000):aD env.P 84 [QA f c p] (QA f c (ex f p)):=by
 have c1:=mB p.1 p.2 (q1.yy hu) (q2.yy hu)
 have hmul:n*(u+1)≤20*(u+1):=Nat.mul_le_mul_right _ hn
 have s1:=yJ hb q2.n2 q2.d2 q2.hu (by omega) (by show _<137438953472;omega)
 rw [BI]at s1
 rw [cW,cW]at c1
 by_cases h:p.1=p.2
 ·have he:ex f p=p:=by
   unfold ex;split
   ·exact Prod.ext h.symm rfl
   ·rfl
  rw [he,nR]
  exact TZ (by rw [jB.2 h];rfl) c1 s1
 ·have hz:(dF (p.1.num*p.2.den) (p.2.num*p.1.den) != 0)=true:=bne_iff_ne.2 fun h0=>h (jB.1 h0)
  by_cases h2:e p.2 f=0
  ·rw [show ex f p=(p.2,p.2)from if_pos h2,nR,nR]
   exact aah hz (by rw [h2,iK];rfl) c1 s1
  ·rw [show ex f p=p from if_neg h2,nR]
   exact aev hz (by simp only [beq_eq_false_iff_ne];exact fun h0=>h2 (eX.1 h0)) c1 s1
theorem T0{f:ZX}{c:List ZX}{lo hi:Rat}(B:aD env.P 80 [aI zq c,RR lo,RR hi] (.int .i64 0)):iM env.P 181 [PI f.l,aI zq c,RR lo,RR hi] 49 10 []:=by
 rw [cW,cW]at B ⊢
 generalize lo.num=ln at *
 generalize (lo.den:Int)=ld at *
 generalize hi.num=hn at *
 generalize (hi.den:Int)=hd at *
 refine jL (E:=env) (fun id=>if id=7 then 2 else 0) (t:=8) [(0,PI f.l),(1,aI zq c),(2,R2 ln ld),(3,R2 hn hd)] Tryz.func181 rfl (by kernel_rfl) (by kernel_rfl) (show 4≤40 by decide) rfl (by simp) ?_
 refine aA [0,1,6,7] ?_
 refine aJ [0,1,6,7,9] B ?_
 refine aL [0,1,6,7,9,16] ?_
 refine bC ?_ ?_<;>intro h
 ·refine aA [8] ?_
  refine W.nil 8 8 49 10 (by simp) (by decide) (fun K hK=>?_)
  simp
  refine hK _ ?_
  refine W.ret ?_
  exact⟨8,_,by simp;exact rfl,by simp,fun x hx=>by cases hx⟩
 ·simp at h
theorem aai{f:ZX}{c:List ZX}{lo hi:Rat}(B:aD env.P 80 [aI zq c,RR lo,RR hi] (.int .i64 1))(X:aD env.P 84 [QA f c (lo,hi)] (QA f c (ex f (lo,hi)))):iM env.P 181 [PI f.l,aI zq c,RR lo,RR hi] 49 10 (emap (qa f c) [ex f (lo,hi)]):=by
 rw [show emap (qa f c) [ex f (lo,hi)] = [qa f c (ex f (lo,hi))]from rfl]
 rw [cW,cW]at *
 generalize hy:ex f (lo,hi)=y at *
 rw [nR,nR]at X
 rw [show qa f c y=PI f.l::aI zq c::(c4 y.1.num y.1.den++c4 y.2.num y.2.den)from rfl]
 simp only [c4,List.cons_append,List.nil_append]at X ⊢
 clear hy
 generalize y.1.num=an at *
 generalize (y.1.den:Int)=ad at *
 generalize y.2.num=bn at *
 generalize (y.2.den:Int)=bd at *
 generalize lo.num=ln at *
 generalize (lo.den:Int)=ld at *
 generalize hi.num=hn at *
 generalize (hi.den:Int)=hd at *
 refine jL (E:=env) (fun id=>if id=7 then 2 else 0) (t:=8) [(0,PI f.l),(1,aI zq c),(2,R2 ln ld),(3,R2 hn hd)] Tryz.func181 rfl (by kernel_rfl) (by kernel_rfl) (show 4≤40 by decide) rfl (by simp) ?_
 refine aA [0,1,6,7] ?_
 refine aJ [0,1,6,7,9] B ?_
 refine aL [0,1,6,7,9,16] ?_
 refine bC ?_ ?_<;>intro h
 ·simp at h
 refine W.skip ?_
 refine aL [0,1,6,7,18] ?_
 refine bC ?_ ?_<;>intro h
 ·refine W.adR 6 rfl rfl (fun K hK=>?_)
  simp (disch:=omega) [gw]
  refine cB X ?_
  refine W.lw [8] hK ?_;clear hK K;simp
  refine W.ret ?_
  exact⟨25,_,by simp;exact rfl,by simp,fun x hx p hp=>by
   simp at hx;subst hx
   simp at hp
   rcases hp with rfl | rfl | rfl | rfl | rfl | rfl | rfl | rfl | rfl | rfl<;>rfl⟩
 ·simp at h
theorem T3{f:ZX}{c:List ZX}{lo hi:Rat}{n:Int}{la lb:List (Rat × Rat)}(hn:2≤n∧n≤21)(R9:la.length≤21)(hlb:lb.length≤21)
  (M:aD env.P 209 [RR lo,RR hi] (RR ((lo+hi)/2))) (B:aD env.P 80 [aI zq c,RR lo,RR hi] (.int .i64 n))
  (h1:iM env.P 181 [PI f.l,aI zq c,RR lo,RR ((lo+hi)/2)] 49 10 (emap (qa f c) la)) (h2:iM env.P 181 [PI f.l,aI zq c,RR ((lo+hi)/2),RR hi] 49 10 (emap (qa f c) lb)) :
  iM env.P 181 [PI f.l,aI zq c,RR lo,RR hi] 49 10 (emap (qa f c) (la++lb)):=by
 rw [←zJ]
 have el1:(emap (qa f c) la).length≤21:=by simpa [emap]using R9
 have el2:(emap (qa f c) lb).length≤21:=by simpa [emap]using hlb
 have p1:=W5 (f:=f) (c:=c) (l:=la)
 have p2:=W5 (f:=f) (c:=c) (l:=lb)
 have a1:bM 10 (emap (qa f c) la)=True:=HN
 have a2:bM 10 (emap (qa f c) lb)=True:=HN
 simp only [cW]at *
 generalize ((lo+hi)/2).num=mn at *
 generalize (((lo+hi)/2).den:Int)=md at *
 generalize lo.num=ln at *
 generalize (lo.den:Int)=ld at *
 generalize hi.num=xW at *
 generalize (hi.den:Int)=hd at *
 generalize emap (qa f c) la=ea at *
 generalize emap (qa f c) lb=eb at *
 refine jL (E:=env) (fun id=>if id=7 then 2 else 0) (t:=8) [(0,PI f.l),(1,aI zq c),(2,R2 ln ld),(3,R2 xW hd)] Tryz.func181 rfl (by kernel_rfl) (by kernel_rfl) (show 4≤40 by decide) rfl (by simp) ?_
 refine aA [0,1,6,7] ?_
 refine aJ [0,1,6,7,9] B ?_
 refine aL [0,1,6,7,9,16] ?_
 refine bC ?_ ?_<;>intro h
 ·simp at h;omega
 refine W.skip ?_
 refine aL [0,1,6,7,18] ?_
 refine bC ?_ ?_<;>intro h
 ·simp at h;omega
 refine W.skip ?_
 refine aJ [0,1,6,7,10] M ?_
 refine W.sd ?_
 rw [if_pos rfl,eQ]
 simp (disch:=omega) [gw]
 refine GG h1 rfl trivial ?_
 simp (disch:=omega) [gw,gB]
 refine GG h2 rfl trivial ?_
 simp (disch:=omega) [gw,a1,a2,gB]
 refine bL [8] ?_
 refine W.ret ?_
 exact⟨33,_,by simp;exact rfl,by simp,fun x hx=>by
  rcases List.mem_append.1 hx with hx | hx
  ·exact p1 x hx
  ·exact p2 x hx⟩
theorem Gr.add{D β j:Nat}{p q:Rat}(hp:Gr D (2^β) j p)(hq:Gr D (2^β) j q):Gr D (2^(β+1)) j (p+q):=by
 obtain⟨⟨y,hy⟩,b1,b2⟩:=hp
 obtain⟨⟨z,hz⟩,b3,b4⟩:=hq
 refine⟨⟨y+z,?_⟩,?_⟩
 ·rw [Rat.intCast_add,←hy,←hz];grind
 ·rw [Rat.pow_succ];exact⟨by grind,by grind⟩
theorem aaj{s n:Nat}{f:ZX}(I:kR s n f){D d β J:Nat}{δ:Rat}(xO:1≤D)(hD:D≤2^d)(C:Cut (vt (aT f)) (2^β) δ)(hu:β+1+d+J+1≤1000000000):∀(k j:Nat) (lo hi:Rat),j+k≤J→Gr D (2^β) j lo→Gr D (2^β) j hi→lo<hi→hi-lo≤δ*2^k →
  iM env.P 181 [PI f.l,aI zq (aT f),RR lo,RR hi] 49 10 (emap (qa f (aT f)) ((P9 (vt (aT f)) k lo hi).map (ex f))):=by
 have hbt:∀(j:Nat) (lo hi:Rat),j≤J→Gr D (2^β) j lo→Gr D (2^β) j hi→lo<hi→aD env.P 80 [aI zq (aT f),RR lo,RR hi] (.int .i64 ((vt (aT f) lo:Int)-vt (aT f) hi)):=fun j lo hi hj g1 g2 dA=>by
  have:=aeo I.hb I.ch.hn I.hl ((g1.mono hj).sq xO hD) ((g2.mono hj).sq xO hD) (by omega)
  rwa [if_neg (Rat.not_lt.2 (Rat.le_of_lt dA))]at this
 have leaf:∀(j:Nat) (lo hi:Rat),j≤J→Gr D (2^β) j lo→Gr D (2^β) j hi→lo<hi→vt (aT f) lo=vt (aT f) hi+1→iM env.P 181 [PI f.l,aI zq (aT f),RR lo,RR hi] 49 10 (emap (qa f (aT f)) ([(lo,hi)].map (ex f))):=fun j lo hi hj g1 g2 dA he=>by
  have h1:=hbt j lo hi hj g1 g2 dA
  rw [show(vt (aT f) lo:Int)-vt (aT f) hi=1 by omega]at h1
  exact aai h1 (HO (I.ch.bz.mono (by have:=I.hs;omega) (Nat.le_refl _)) I.ch.hn ((g1.mono hj).sq xO hD) ((g2.mono hj).sq xO hD) (by omega))
 have O2:∀(j:Nat) (lo hi:Rat),j≤J→Gr D (2^β) j lo→Gr D (2^β) j hi→lo<hi→vt (aT f) lo=vt (aT f) hi→iM env.P 181 [PI f.l,aI zq (aT f),RR lo,RR hi] 49 10 (emap (qa f (aT f)) ([].map (ex f))):=fun j lo hi hj g1 g2 dA he=>by
  have h1:=hbt j lo hi hj g1 g2 dA
  rw [show(vt (aT f) lo:Int)-vt (aT f) hi=0 by omega]at h1
  exact T0 h1
 intro k
 induction k with
 | zero =>
  intro j lo hi hj g1 g2 dA hd
  rw [P9]
  by_cases he:vt (aT f) lo=vt (aT f) hi
  ·rw [if_pos he];exact O2 j lo hi (by omega) g1 g2 dA he
  ·rw [if_neg he];exact leaf j lo hi (by omega) g1 g2 dA (C.leaf g1.b g2.b dA (by rw [Rat.pow_zero,Rat.mul_one]at hd;exact hd) he)
 | succ k ih =>
  intro j lo hi hj g1 g2 dA hd
  rw [P9]
  by_cases he:vt (aT f) lo=vt (aT f) hi
  ·rw [if_pos he];exact O2 j lo hi (by omega) g1 g2 dA he
  ·rw [if_neg he]
   by_cases HC:vt (aT f) lo=vt (aT f) hi+1
   ·rw [if_pos HC];exact leaf j lo hi (by omega) g1 g2 dA HC
   ·rw [if_neg HC]
    obtain⟨m1,m2⟩:=sL dA
    obtain⟨d1,d2⟩:=xB hd
    have gm:=g1.FD g2
    have n1:=C.cA lo ((lo+hi)/2) (Rat.le_of_lt m1)
    have n2:=C.cA ((lo+hi)/2) hi (Rat.le_of_lt m2)
    have hv1:=Nat.le_trans (aee (aT f) lo) I.hl
    obtain⟨_,a2,_⟩:=qM C k (j+1) lo ((lo+hi)/2) (g1.mono (by omega)) gm m1 d1
    obtain⟨_,b2,_⟩:=qM C k (j+1) ((lo+hi)/2) hi gm (g2.mono (by omega)) m2 d2
    have r1:=ih (j+1) lo ((lo+hi)/2) (by omega) (g1.mono (by omega)) gm m1 d1
    have r2:=ih (j+1) ((lo+hi)/2) hi (by omega) gm (g2.mono (by omega)) m2 d2
    have q1:SQ (β+1+d+J+1) lo:=((g1.mono (show j≤J by omega)).sq xO hD).mono (by omega)
    have q2:SQ (β+1+d+J+1) hi:=((g2.mono (show j≤J by omega)).sq xO hD).mono (by omega)
    have q3:SQ (β+1+d+J+1) (lo+hi):=((g1.add g2).mono (show j≤J by omega)).sq xO hD
    have hM:=O0 (q1.yy hu) (q2.yy hu) (q3.yy hu)
    have hB:=hbt j lo hi (by omega) g1 g2 dA
    rw [List.map_append]
    exact T3 (n:=(vt (aT f) lo:Int)-vt (aT f) hi) (by omega) (by rw [List.length_map];omega) (by rw [List.length_map];omega) hM hB r1 r2
def lvl(s n:Nat):Nat:=lk s n 5 (s+1)+s+2
theorem T4{s n:Nat}(hn:n≤20):lvl s n≤102*s+720:=by
 have h1:(n+n)*(s+5+2+(5+1))≤40*(s+13):=Nat.mul_le_mul (by omega) (by omega)
 have h2:(n+n)*(s+1+2)≤40*(s+3):=Nat.mul_le_mul (by omega) (by omega)
 have h3:n*(s+1+2)≤20*(s+3):=Nat.mul_le_mul hn (by omega)
 unfold lvl lk sk
 omega
def uu(s:Nat):Nat:=105*s+800
namespace kR
variable {s n:Nat} {f:ZX} (I:kR s n f)
include I
theorem f0:f.l ≠ []:=sC I.nf.ne
theorem sM:1≤(lead f.l).natAbs∧(lead f.l).natAbs≤2^s:=by
 have h1:=cX f.c (List.length_pos_iff.2 I.f0)
 have h2:=iH (b:=2) (by decide) (lead f.l)
 have h3:=Nat.pow_le_pow_right (show 0<2 by decide) (fX I.ch.bz)
 omega
theorem aul:1≤iU f.l:=(qN f.c I.f0 (t:=iU f.l) (.inr Rat.le_refl)).2
theorem aew:Ab (iU f.l) (2^(s+1)):=by
 have h1:=yP f.c I.f0
 have hL:(1:Rat)≤(((lead f.l).natAbs:Int):Rat):=eY (by have:=I.sM.1;omega)
 have h2:=Rat.div_mul_cancel (a:=((lR f.l (f.l.length-1):Int):Rat)) (b:=(((lead f.l).natAbs:Int):Rat)) (by grind)
 have h3:=I.aul
 have h4:((lR f.l (f.l.length-1):Int):Rat)≤2^s:=by
  have h5:=iH (b:=2) (by decide) (lR f.l (f.l.length-1))
  have h6:=Nat.pow_le_pow_right (show 0<2 by decide) (vA I.ch.bz (f.l.length-1))
  exact(HL (s:=s) (by omega)).2
 have h7:=qK s
 rw [Rat.pow_succ]
 generalize (2:Rat)^s=T at *
 generalize ((lR f.l (f.l.length-1):Int):Rat)=m at *
 have hw:m/(((lead f.l).natAbs:Int):Rat)≤T:=by
  refine Rat.not_lt.1 fun h=>?_
  have h8:=Rat.mul_le_mul_of_nonneg_left hL (show 0≤m/(((lead f.l).natAbs:Int):Rat)by grind)
  grind
 exact⟨by grind,by grind⟩
theorem D7:Gr (lead f.l).natAbs (2^(s+1)) 0 (iU f.l):=by
 refine⟨⟨((lead f.l).natAbs:Int)+lR f.l (f.l.length-1),?_⟩,I.aew⟩
 have hL:(1:Rat)≤(((lead f.l).natAbs:Int):Rat):=eY (by have:=I.sM.1;omega)
 have h1:=yP f.c I.f0
 have h2:=Rat.div_mul_cancel (a:=((lR f.l (f.l.length-1):Int):Rat)) (b:=(((lead f.l).natAbs:Int):Rat)) (by grind)
 rw [Nat.pow_zero,Nat.mul_one,Rat.intCast_add,h1]
 grind
theorem KY:Gr (lead f.l).natAbs (2^(s+1)) 0 (-iU f.l):=by
 obtain⟨⟨z,hz⟩,h1,h2⟩:=I.D7
 exact⟨⟨-z,by rw [Rat.intCast_neg,←hz];grind⟩,by grind,by grind⟩
theorem count:(vr (WR (aT f)):Int)-vr (WS (aT f))=(vt (aT f) (-iU f.l):Int)-vt (aT f) (iU f.l):=by
 have hG:=I.aac
 have h1:vr (WS (aT f))=vt (aT f) (iU f.l):=TS hG fun b=>⟨1,by decide,fun x h2 _=>(qN f.c I.f0 (.inr h2)).1⟩
 have h2:vr (WR (aT f))=vt (aT f) (-iU f.l):=aad hG fun b=>⟨1,by decide,fun x _ h2=>(qN f.c I.f0 (.inl h2)).1⟩
 rw [h1,h2]
theorem W6 : -iU f.l<iU f.l:=by have:=I.aul;grind
end kR
def lS(s n:Nat)(f:ZX):List (Rat × Rat):=P9 (vt (aT f)) (lvl s n) (-iU f.l) (iU f.l)
structure Ivs(f:ZX)(u:Nat)(lo hi:Rat)(l:List (Rat × Rat)):Prop where
 mem:∀p∈l,SQ u p.1∧SQ u p.2∧lo≤p.1∧p.1<p.2∧p.2≤hi∧vt (aT f) p.1=vt (aT f) p.2+1
 len:l.length=vt (aT f) lo-vt (aT f) hi
 srt:l.Pairwise fun p q=>p.2≤q.1
theorem kR.width{s n:Nat}{f:ZX}(I:kR s n f){δ:Rat}(hδ:δ*2^lk s n 5 (s+1)=1):iU f.l - -iU f.l≤δ*2^lvl s n:=by
 have h1:=I.aew.2
 unfold lvl
 rw [show lk s n 5 (s+1)+s+2=lk s n 5 (s+1)+(s+1+1)by omega,oX,←Rat.mul_assoc,hδ,Rat.one_mul,Rat.pow_succ]
 grind
theorem kR.ivs{s n:Nat}{f:ZX}(I:kR s n f):Ivs f (uu s) (-iU f.l) (iU f.l) (lS s n f):=by
 obtain⟨δ,h1,h2,C⟩:=I.cut (s+1)
 have hl:=T4 (s:=s) I.ch.hn
 obtain⟨a1,a2,a3⟩:=qM C (lvl s n) 0 _ _ I.KY I.D7 I.W6 (I.width h2)
 refine⟨fun p hp=>?_,a2,a3⟩
 obtain⟨b1,b2,b3⟩:=a1 p hp
 obtain⟨l1,l2⟩:=I.sM
 exact⟨(b1.sq l1 l2).mono (by unfold uu;omega),(b2.sq l1 l2).mono (by unfold uu;omega),b3⟩
theorem tL{s n:Nat}{f:ZX}(I:kR s n f):(lS s n f).length≤21:=by
 have:=I.ivs.len
 have h1:=Nat.le_trans (aee (aT f) (-iU f.l)) I.hl
 omega
theorem T5{α:Type}{g:α→List PV}{l:List α}{s n:Nat}{f:ZX}(hS:aD env.P 74 [aI g l] (Po f.l))(I:kR s n f):aD env.P 19 [aI g l] (.eB [aI (ga f) (lS s n f), .int .i64 0]):=by
 have hs:=I.hs
 have hn:=I.ch.hn
 have N1:=KI hS I.ch I.nf
 have P1:=fU (x:=f.l) (I.ch.bz.pb (by omega) (by omega))
 rw [f.c]at P1
 have B1:=TT P1 f.c I.f0 (LD I.ch.bz) (by omega) (by omega)
 obtain⟨l1,l2⟩:=I.sM
 have qb:=(I.D7.sq l1 l2).mono (show s+1+s+0+1≤uu s by unfold uu;omega)
 have hu:uu s≤1000000000:=by unfold uu;omega
 have M1:=aae (qb.LLt (show uu s<1099511627770 by omega))
 have C1:=TM (c:=aT f) (by have:=I.hl;omega) (pbs I.hb hn)
 rw [I.count]at C1
 obtain⟨δ,h1,h2,C⟩:=I.cut (s+1)
 have hl:=T4 (s:=s) hn
 have R1:=aer I l1 l2 C (J:=lvl s n) (by omega) (lvl s n) 0 _ _ (by omega) I.KY I.D7 I.W6 (I.width h2)
 rw [show P9 (vt (aT f)) (lvl s n) (-iU f.l) (iU f.l)=lS s n f from rfl]at R1
 have hlen:=tL I
 have el:(emap (ga f) (lS s n f)).length≤21:=by simpa [emap]using hlen
 have pe:=KU (f:=f) (l:=lS s n f)
 have a1:bM 9 (emap (ga f) (lS s n f))=True:=yR
 replace B1:aD env.P 75 [Po f.l] (.eB [T2 (iU f.l).num (iU f.l).den, .int .i64 0]):=B1
 replace M1:aD env.P 77 [T2 (iU f.l).num (iU f.l).den] (T2 (-iU f.l).num (-iU f.l).den):=M1
 replace R1:iM env.P 76 [Po f.l,CH (aT f),T2 (-iU f.l).num (-iU f.l).den,T2 (iU f.l).num (iU f.l).den, .int .i64 ((vt (aT f) (-iU f.l):Int)-vt (aT f) (iU f.l))] 54 9 (emap (ga f) (lS s n f)):=R1
 generalize lS s n f=L at *
 generalize (vt (aT f) (-iU f.l):Int)-vt (aT f) (iU f.l)=cn at *
 generalize aT f=c at *
 generalize (-iU f.l).num=mn at *
 generalize ((-iU f.l).den:Int)=md at *
 generalize (iU f.l).num=bn at *
 generalize ((iU f.l).den:Int)=bd at *
 refine bY [(0,aI g l)] Tryz.func19 ?_
 refine aA [0] ?_
 refine aJ [0,4,5] N1 ?_
 refine aL [0,4,5,15] ?_
 refine bC ?_ ?_<;>intro h
 ·simp at h
 refine W.skip ?_
 refine aJ [4,6] hS ?_
 refine aJ [4,6,7] B1 ?_
 refine mP ?_
 refine cB M1 ?_
 refine cB C1 ?_
 refine GG R1 rfl trivial ?_
 simp (disch:=omega) [gw]
 refine bL [2,3] ?_
 refine W.I9 31 (by simp) (fun K hK=>?_)
 simp
 refine hK _ ?_
 exact bV
theorem vC{x:List Int}{s n:Nat}{f:ZX}(hS:aD env.P 170 [PI x] (PI f.l))(hC:aD env.P 85 [PI x] (aI zq (aT f)))(I:kR s n f)(pY:1≤s):aD env.P 97 [PI x] (aI (qa f (aT f)) ((lS s n f).map (ex f))):=by
 have hs:=I.hs
 have hn:=I.ch.hn
 have B1:=TV f.c I.f0 I.ch.bz pY (by omega) (by omega)
 obtain⟨l1,l2⟩:=I.sM
 have M1:=C9 (iU f.l)
 obtain⟨δ,h1,h2,C⟩:=I.cut (s+1)
 have hl:=T4 (s:=s) hn
 have R1:=aaj I l1 l2 C (J:=lvl s n) (by omega) (lvl s n) 0 _ _ (by omega) I.KY I.D7 I.W6 (I.width h2)
 rw [show P9 (vt (aT f)) (lvl s n) (-iU f.l) (iU f.l)=lS s n f from rfl]at R1
 have hlen:=tL I
 rw [cW]at B1 M1
 rw [cW]at M1
 simp only [cW]at R1
 generalize (lS s n f).map (ex f)=L at *
 generalize aT f=c at *
 generalize (-iU f.l).num=mn at *
 generalize ((-iU f.l).den:Int)=md at *
 generalize (iU f.l).num=bn at *
 generalize ((iU f.l).den:Int)=bd at *
 refine bY [(0,PI x)] Tryz.func97 ?_
 refine aA [0] ?_
 refine aJ [0,3] hS ?_
 refine aJ [3,4] hC ?_
 refine aJ [3,4,5] B1 ?_
 refine mP ?_
 refine cB M1 ?_
 refine GG R1 rfl trivial ?_
 simp (disch:=omega) [gw]
 refine bL [2] ?_
 refine W.I9 17 (by simp) (fun K hK=>?_)
 simp
 refine hK _ ?_
 exact bV
end Go.Proofs.YtelhfbikiccfkaaGreat
namespace Go.Proofs.YtelhfbikiccfkaaGreat
open Go Pm
open ZX hiding N W
theorem an9(f:ZX):nl f=1↔2≤ZX.N f∧ZX.N (gz f (bX f))≤1:=by
 obtain⟨h1,h2⟩:=kP f
 refine⟨fun h=>?_,fun⟨h3,h4⟩=>?_⟩
 ·rw [h]at h1 h2
  exact⟨h2 0 (by omega),h1⟩
 ·have h5:0<nl f:=atI fun j hj=>by rw [show j=0 by omega];exact h3
  rcases Nat.lt_or_ge 1 (nl f)with h6 | h6
  ·have h7:2≤ZX.N (gz f (bX f)):=h2 1 h6
   omega
  ·omega
abbrev GA(f:ZX)(p:Rat × Rat):PV:=.ag (ga f p)
namespace kR
variable {s n:Nat} {f:ZX} (I:kR s n f)
include I
theorem akx:aD env.P 83 [Po f.l] (PI f.l):=by
 have hs:=I.hs
 have hn:=I.ch.hn
 have b:=LD I.ch.bz
 have:=ZE (f.l.map tN) ⟨fun c hc=>by
  simp only [List.mem_map]at hc
  obtain⟨x,hx,rfl⟩:=hc
  exact⟨fD fV _,Nat.lt_of_le_of_lt (b.sz x hx) (by omega)⟩,by rw [List.length_map];exact Nat.lt_of_le_of_lt b.len (by omega)⟩
 rw [cG,←i9,show aP f.l=f.l from f.c]at this
 exact this
theorem aum:aD env.P 82 [PI f.l] (PI f.l):=by
 have:=lN I.ch.bz I.s1 (by have:=I.hs;show s≤137438953472;omega) (by have:=I.ch.hn;omega)
 rwa [I.nf.ZU]at this
theorem KZ:aD env.P 170 [PI f.l] (PI f.l):=by
 have:=qH I.lay I.s1
 rwa [I.sq]at this
theorem D8:aD env.P 85 [PI f.l] (aI zq (aT f)):=z5 I.KZ I.ch I.s1
theorem aio:aD env.P 74 [Po f.l] (Po f.l):=by
 have:=qE I.lay
 rwa [I.sq]at this
theorem aky{u:Nat}{t:Rat}(q:SQ u t)(hu:u≤1000000000):aD env.P 81 [PI f.l,RR t] (.int .i64 (b8 (e t f))):=by
 have hs:=I.hs
 have hn:=I.ch.hn
 have hmul:n*(u+1)≤20*(u+1):=Nat.mul_le_mul_right _ hn
 have s1:=yJ I.ch.bz q.n2 q.d2 q.hu (by omega) (by show _<137438953472;omega)
 rw [BI]at s1
 rw [cW]
 exact s1
theorem xC{u:Nat}{p q:Rat}(hp:SQ u p)(hq:SQ u q)(hu:u≤1000000000):aD env.P 80 [aI zq (aT f),RR p,RR q] (.int .i64 (if q<p then 0 else(vt (aT f) p:Int)-vt (aT f) q)):=aeo I.hb I.ch.hn I.hl hp hq hu
theorem aex{u:Nat}{p:Rat × Rat}(q1:SQ u p.1)(q2:SQ u p.2)(hu:u≤1000000000):aD env.P 84 [QA f (aT f) p] (QA f (aT f) (ex f p)):=HO (I.ch.bz.mono (by have:=I.hs;omega) (Nat.le_refl _)) I.ch.hn q1 q2 hu
end kR
theorem SQ.W7{u:Nat}{q:Rat}(h:SQ u q)(hu:u≤1000000000):aD env.P 86 [RT q] (RR q):=aaf (h.LLt (by omega)) ⟨by have:=h.n2;show _<549755813888;omega,by have:=h.d2;show _<549755813888;omega⟩
theorem kR.aey{s n:Nat}{f:ZX}(I:kR s n f){u:Nat}{p:Rat × Rat}(q1:SQ u p.1)(q2:SQ u p.2)(hu:u≤1000000000):aD env.P 21 [GA f p] (QA f (aT f) (ex f p)):=by
 have f1:=I.akx
 have f2:=I.aum
 have f3:=I.D8
 have f4:=q1.W7 hu
 have f5:=q2.W7 hu
 have f6:=I.aex q1 q2 hu
 generalize ex f p=y at *
 rw [cW]at f4 f5
 rw [nR,nR]at f6
 rw [nR]
 replace f4:aD env.P 86 [T2 p.1.num p.1.den] (R2 p.1.num p.1.den):=f4
 replace f5:aD env.P 86 [T2 p.2.num p.2.den] (R2 p.2.num p.2.den):=f5
 show aD env.P _ [.ag (Po f.l::(tc p.1++tc p.2))] _
 simp only [c4,tc,List.cons_append,List.nil_append]at f6 ⊢
 generalize aT f=c at *
 generalize p.1.num=an at *
 generalize (p.1.den:Int)=ad at *
 generalize p.2.num=bn at *
 generalize (p.2.den:Int)=bd at *
 generalize y.1.num=yn at *
 generalize (y.1.den:Int)=yd at *
 generalize y.2.num=zn at *
 generalize (y.2.den:Int)=zd at *
 refine bY [(0, .ag [Po f.l, .bool (decide (an<0)),us (aN LL an.natAbs), .bool (decide (ad<0)),us (aN LL ad.natAbs), .bool (decide (bn<0)),us (aN LL bn.natAbs), .bool (decide (bd<0)),us (aN LL bd.natAbs)])] Tryz.func21 ?_
 refine aA [1,2] ?_
 refine iB ?_
 refine cB f1 ?_
 refine bS [1,2,3] f2 ?_
 refine mP ?_
 refine cB f3 ?_
 refine cB f4 ?_
 refine cB f5 ?_
 refine cB f6 ?_
 (try (refine a9 (of_decide_eq_true (by kernel_rfl)) ?_));(try simp (maxSteps:=4000000) (disch:=omega) [gw]);(repeat rw [if_pos (by kernel_rfl)]);(try simp (maxSteps:=4000000) (disch:=omega) [gw])
 refine bL [2] ?_
 exact bV
theorem sN{f:ZX}{c:List ZX}{p:Rat × Rat}{u:Nat}(q1:SQ u p.1)(q2:SQ u p.2)(hu:u≤1000000000):aD env.P 79 [QA f c p] (.bool (decide (p.1=p.2))):=by
 have c1:=mB p.1 p.2 (q1.yy hu) (q2.yy hu)
 have e:decide (p.1=p.2)=(dF (p.1.num*p.2.den) (p.2.num*p.1.den)==0):=by
  rw [Bool.eq_iff_iff];simp only [decide_eq_true_eq,beq_iff_eq];exact jB.symm
 rw [e,nR]
 rw [cW,cW]at c1
 simp only [c4,List.cons_append,List.nil_append]
 generalize dF (p.1.num*p.2.den) (p.2.num*p.1.den)=z at *
 generalize p.1.num=an at *
 generalize (p.1.den:Int)=ad at *
 generalize p.2.num=bn at *
 generalize (p.2.den:Int)=bd at *
 refine bY [(0, .ag [PI f.l,aI zq c,aI aG (aN DD an.natAbs), .bool (decide (an<0)),aI aG (aN DD ad.natAbs), .bool (decide (ad<0)),aI aG (aN DD bn.natAbs), .bool (decide (bn<0)),aI aG (aN DD bd.natAbs), .bool (decide (bd<0))])] Tryz.func79 ?_
 refine aA [1] ?_
 refine aJ [2] c1 ?_
 exact bV
end Go.Proofs.YtelhfbikiccfkaaGreat
namespace Go.Proofs.YtelhfbikiccfkaaGreat
open Go Pm
open ZX hiding N W
theorem fI{p q:Rat}:0<dF (p.num*q.den) (q.num*p.den)↔q<p:=by
 rw [nD,←j3 q p,nC]
theorem gH{p q:Rat}:dF (p.num*q.den) (q.num*p.den)<0↔p<q:=j3 p q
theorem jC{p q:Rat}:dF (p.num*q.den) (q.num*p.den)≤0↔p≤q:=by
 rw [←Int.not_lt,fI,Rat.not_lt]
theorem O7{x:List Int}{c:List ZX}{an ad bn bd tn td zt z1 z2 b σ r:Int}{pt:Bool}(p1:aD env.P 79 [.ag (PI x::aI zq c::(c4 an ad++c4 bn bd))] (.bool pt))(k0:aD env.P 15 [R2 an ad,R2 tn td] (.int .i64 zt))
  (k1:aD env.P 15 [R2 tn td,R2 an ad] (.int .i64 z1)) (k2:aD env.P 15 [R2 tn td,R2 bn bd] (.int .i64 z2)) (k3:aD env.P 80 [aI zq c,R2 an ad,R2 tn td] (.int .i64 b)) (k4:aD env.P 81 [PI x,R2 tn td] (.int .i64 σ))
  (hr:r=if pt=true then zt else if z1≤0 then 1 else if 0<z2 then -1 else if b=0 then 1 else if σ=0 then 0 else -1):aD env.P 20 [.ag (PI x::aI zq c::(c4 an ad++c4 bn bd)),R2 tn td] (.int .i64 r):=by
 simp only [c4,List.cons_append,List.nil_append]at p1 ⊢
 refine bY [(0, .ag [PI x,aI zq c,aI aG (aN DD an.natAbs), .bool (decide (an<0)),aI aG (aN DD ad.natAbs), .bool (decide (ad<0)),aI aG (aN DD bn.natAbs), .bool (decide (bn<0)),aI aG (aN DD bd.natAbs), .bool (decide (bd<0))]),(1,R2 tn td)] Tryz.func20 ?_
 refine aA [2,3] ?_
 refine W.seq ?_
 refine aJ [2,3,6] p1 ?_
 refine bC ?_ ?_<;>intro h
 ·subst h
  rw [if_pos rfl]at hr
  subst hr
  refine aJ [4] k0 ?_
  exact bV
 ·subst h
  rw [if_neg (by decide)]at hr
  refine W.skip ?_
  refine W.seq ?_
  refine aJ [2,3,15] k1 ?_
  refine bC ?_ ?_<;>intro h
  ·simp at h
   rw [if_pos h]at hr
   subst hr
   refine aA [4] ?_
   exact bV
  ·simp at h
   rw [if_neg (by omega)]at hr
   refine W.skip ?_
   refine W.seq ?_
   refine aJ [2,3,20] k2 ?_
   refine bC ?_ ?_<;>intro h
   ·simp at h
    rw [if_pos h]at hr
    subst hr
    refine aA [4] ?_
    exact bV
   ·simp at h
    rw [if_neg (by omega)]at hr
    refine W.skip ?_
    refine W.seq ?_
    refine aJ [2,3,27] k3 ?_
    refine bC ?_ ?_<;>intro h
    ·simp at h
     rw [if_pos h]at hr
     subst hr
     refine aA [4] ?_
     exact bV
    ·simp at h
     rw [if_neg h]at hr
     refine W.skip ?_
     refine W.seq ?_
     refine aJ [32] k4 ?_
     refine bC ?_ ?_<;>intro h
     ·simp at h
      rw [if_pos h]at hr
      subst hr
      refine aA [4] ?_
      exact bV
     ·simp at h
      rw [if_neg h]at hr
      subst hr
      refine W.skip ?_
      refine aA [4] ?_
      exact bV
abbrev aY(f:ZX)(p:Rat × Rat):Rat→Prop:=gG (vt (aT f)) p.1 p.2
theorem kR.vD{s n:Nat}{f:ZX}(I:kR s n f){u:Nat}{p:Rat × Rat}{t:Rat}(A:j7 f (vt (aT f)) p.1 p.2)(q1:SQ u p.1)(q2:SQ u p.2)(qt:SQ u t)(hu:u≤1000000000):aD env.P 20 [QA f (aT f) p,RR t] (.int .i64 (cr (aY f p) t)):=by
 have p1:=sN (f:=f) (c:=aT f) q1 q2 hu
 have k0:=mB p.1 t (q1.yy hu) (qt.yy hu)
 have k1:=mB t p.1 (qt.yy hu) (q1.yy hu)
 have k2:=mB t p.2 (qt.yy hu) (q2.yy hu)
 have k3:=I.xC q1 qt hu
 have k4:=I.aky qt hu
 have hc:=A.aue t
 rw [cW,cW]at k0 k1 k2
 rw [cW,cW]at k3
 rw [cW]at k4 ⊢
 rw [nR]at p1 ⊢
 refine O7 p1 k0 k1 k2 k3 k4 ?_
 rw [hc]
 simp only [decide_eq_true_eq]
 by_cases h1:p.1=p.2
 ·rw [if_pos h1,if_pos h1]
  by_cases h2:p.1<t
  ·rw [if_pos h2,mQ (nC.1 (gH.2 h2))]
  ·rw [if_neg h2]
   by_cases h3:t<p.1
   ·rw [if_pos h3,mR (nD.1 (fI.2 h3))]
   ·rw [if_neg h3,jB.2 (by grind)]
 ·rw [if_neg h1,if_neg h1]
  simp only [jC,fI]
  by_cases h2:t≤p.1
  ·rw [if_pos h2,if_pos h2]
  ·rw [if_neg h2,if_neg h2]
   by_cases h3:p.2<t
   ·rw [if_pos h3,if_pos h3]
   ·rw [if_neg h3,if_neg h3,if_neg (show ¬t<p.1 by grind)]
    have e1:((vt (aT f) p.1:Int)-vt (aT f) t=0)↔vt (aT f) p.1=vt (aT f) t:=by omega
    simp only [e1,eX]
def hv(f:ZX)(p:Rat × Rat):Rat × Rat:=if p.1=p.2 then p else ex f (if vt (aT f) ((p.1+p.2)/2)<vt (aT f) p.1 then(p.1,(p.1+p.2)/2)else((p.1+p.2)/2,p.2))
theorem O8{x:List Int}{c:List ZX}{an ad bn bd:Int}(p1:aD env.P 79 [.ag (PI x::aI zq c::(c4 an ad++c4 bn bd))] (.bool true)):aD env.P 134 [.ag (PI x::aI zq c::(c4 an ad++c4 bn bd))] (.ag (PI x::aI zq c::(c4 an ad++c4 bn bd))):=by
 simp only [c4,List.cons_append,List.nil_append]at p1 ⊢
 refine bY [(0, .ag [PI x,aI zq c,aI aG (aN DD an.natAbs), .bool (decide (an<0)),aI aG (aN DD ad.natAbs), .bool (decide (ad<0)),aI aG (aN DD bn.natAbs), .bool (decide (bn<0)),aI aG (aN DD bd.natAbs), .bool (decide (bd<0))])] Tryz.func134 ?_
 refine aA [1,2] ?_
 refine W.seq ?_
 refine aJ [1,2,5] p1 ?_
 refine bC ?_ ?_<;>intro h
 ·refine aA [2] ?_
  exact bV
 ·simp at h
theorem O9{x:List Int}{c:List ZX}{an ad bn bd mn md yn yd zn zd b:Int}(p1:aD env.P 79 [.ag (PI x::aI zq c::(c4 an ad++c4 bn bd))] (.bool false))(k1:aD env.P 209 [R2 an ad,R2 bn bd] (R2 mn md))(k2:aD env.P 80 [aI zq c,R2 an ad,R2 mn md] (.int .i64 b))
  (k3:aD env.P 84 [.ag (PI x::aI zq c::(if 0<b then c4 an ad++c4 mn md else c4 mn md++c4 bn bd))] (.ag (PI x::aI zq c::(c4 yn yd++c4 zn zd)))):aD env.P 134 [.ag (PI x::aI zq c::(c4 an ad++c4 bn bd))] (.ag (PI x::aI zq c::(c4 yn yd++c4 zn zd))):=by
 simp only [c4,List.cons_append,List.nil_append]at p1 k3 ⊢
 refine bY [(0, .ag [PI x,aI zq c,aI aG (aN DD an.natAbs), .bool (decide (an<0)),aI aG (aN DD ad.natAbs), .bool (decide (ad<0)),aI aG (aN DD bn.natAbs), .bool (decide (bn<0)),aI aG (aN DD bd.natAbs), .bool (decide (bd<0))])] Tryz.func134 ?_
 refine aA [1,2] ?_
 refine W.seq ?_
 refine aJ [1,2,5] p1 ?_
 refine bC ?_ ?_<;>intro h
 ·simp at h
 refine W.skip ?_
 refine aJ [1,2,3] k1 ?_
 by_cases hb:0<b
 ·rw [if_pos hb]at k3
  refine W.gD (fun σ=>∃(v1 v2:Nat) (rows:Pm.Rows) (clk:Nat),σ=⟨fa [(1, .ptr 1 v1 0 0),(2, .ptr 2 v2 0 0)],rows,clk⟩∧rows 1=some ⟨v1,49,10,[[PI x,aI zq c,aI aG (aN DD an.natAbs), .bool (decide (an<0)),aI aG (aN DD ad.natAbs), .bool (decide (ad<0)),aI aG (aN DD mn.natAbs), .bool (decide (mn<0)),aI aG (aN DD md.natAbs), .bool (decide (md<0))]]⟩∧rows 2=some ⟨v2,49,10,[[PV.nil,PV.nil,PV.nil,PV.bool false,PV.nil,PV.bool false,PV.nil,PV.bool false,PV.nil,PV.bool false]]⟩) ?_ ?_
  ·refine aJ [1,2,3,18] k2 ?_
   refine bC ?_ ?_<;>intro h
   ·refine W.cC (fun K hK=>?_);simp (disch:=omega) [gw]
    exact hK _ ⟨_,aC _ [1,2],_,_,_,_,rfl,by simp,by simp⟩
   ·simp at h;omega
  rintro _ ⟨v1,v2,rows,clk,rfl,vX,bR⟩
  refine W.sr ?_
  simp (disch:=omega) [gw,vX,bR]
  refine aB k3 ?_
  simp (disch:=omega) [gw,vX,bR]
  refine bL [2] ?_
  exact bV
 ·rw [if_neg hb]at k3
  refine W.gD (fun σ=>∃(v1 v2:Nat) (rows:Pm.Rows) (clk:Nat),σ=⟨fa [(1, .ptr 1 v1 0 0),(2, .ptr 2 v2 0 0)],rows,clk⟩∧rows 1=some ⟨v1,49,10,[[PI x,aI zq c,aI aG (aN DD mn.natAbs), .bool (decide (mn<0)),aI aG (aN DD md.natAbs), .bool (decide (md<0)),aI aG (aN DD bn.natAbs), .bool (decide (bn<0)),aI aG (aN DD bd.natAbs), .bool (decide (bd<0))]]⟩∧rows 2=some ⟨v2,49,10,[[PV.nil,PV.nil,PV.nil,PV.bool false,PV.nil,PV.bool false,PV.nil,PV.bool false,PV.nil,PV.bool false]]⟩) ?_ ?_
  ·refine aJ [1,2,3,18] k2 ?_
   refine bC ?_ ?_<;>intro h
   ·simp at h;omega
   ·refine W.cC (fun K hK=>?_);simp (disch:=omega) [gw]
    exact hK _ ⟨_,aC _ [1,2],_,_,_,_,rfl,by simp,by simp⟩
  rintro _ ⟨v1,v2,rows,clk,rfl,vX,bR⟩
  refine W.sr ?_
  simp (disch:=omega) [gw,vX,bR]
  refine aB k3 ?_
  simp (disch:=omega) [gw,vX,bR]
  refine bL [2] ?_
  exact bV
theorem kR.akz{s n:Nat}{f:ZX}(I:kR s n f){u:Nat}{p:Rat × Rat}(hle:p.1≤p.2)(q1:SQ u p.1)(q2:SQ u p.2)(q3:SQ u ((p.1+p.2)/2))(q4:SQ u (p.1+p.2))(hu:u≤1000000000):aD env.P 134 [QA f (aT f) p] (QA f (aT f) (hv f p)):=by
 have p1:=sN (f:=f) (c:=aT f) q1 q2 hu
 by_cases h:p.1=p.2
 ·rw [decide_eq_true h]at p1
  rw [show hv f p=p from if_pos h,nR]
  rw [nR]at p1
  exact O8 p1
 ·rw [decide_eq_false h]at p1
  have dA:p.1<p.2:=by grind
  obtain⟨m1,m2⟩:=sL dA
  have k1:=O0 (q1.yy hu) (q2.yy hu) (q4.yy hu)
  have k2:=I.xC q1 q3 hu
  rw [if_neg (Rat.not_lt.2 (Rat.le_of_lt m1))]at k2
  have e:hv f p=ex f (if vt (aT f) ((p.1+p.2)/2)<vt (aT f) p.1 then(p.1,(p.1+p.2)/2)else((p.1+p.2)/2,p.2)):=if_neg h
  rw [e]
  have hb:(0<(vt (aT f) p.1:Int)-vt (aT f) ((p.1+p.2)/2))↔vt (aT f) ((p.1+p.2)/2)<vt (aT f) p.1:=by omega
  have k3:=I.aex (u:=u) (p:=if vt (aT f) ((p.1+p.2)/2)<vt (aT f) p.1 then(p.1,(p.1+p.2)/2)else((p.1+p.2)/2,p.2)) (by split<;>assumption) (by split<;>assumption) hu
  rw [cW,cW]at k1 k2
  rw [cW]at k1
  rw [nR]at p1 ⊢
  rw [nR]
  refine O9 p1 k1 k2 ?_
  by_cases h2:vt (aT f) ((p.1+p.2)/2)<vt (aT f) p.1
  ·rw [if_pos (hb.2 h2)]
   rw [if_pos h2]at k3 ⊢
   exact k3
  ·rw [if_neg (fun h3=>h2 (hb.1 h3))]
   rw [if_neg h2]at k3 ⊢
   exact k3
theorem W8{f:ZX}{p:Rat × Rat}(A:j7 f (vt (aT f)) p.1 p.2):j7 f (vt (aT f)) (hv f p).1 (hv f p).2 ∧ ∀t,aY f (hv f p) t↔aY f p t:=by
 unfold hv
 split
 ·exact⟨A,fun _=>Iff.rfl⟩
 ·rename_i h
  have dA:p.1<p.2:=by have:=A.le;grind
  obtain⟨m1,m2⟩:=sL dA
  obtain⟨h1,h2⟩:=A.half m1 m2
  have key:∀q:Rat × Rat,j7 f (vt (aT f)) q.1 q.2→(∀t,aY f q t↔aY f p t)→j7 f (vt (aT f)) (ex f q).1 (ex f q).2 ∧ ∀t,aY f (ex f q) t↔aY f p t:=fun q hq hc=>by
   unfold ex
   split
   ·rename_i h0
    obtain⟨g1,g2⟩:=hq.exact h0
    exact⟨g1,fun t=>(g2 t).trans (hc t)⟩
   ·exact⟨hq,hc⟩
  split
  ·rename_i h3
   obtain⟨g1,g2⟩:=h1 h3
   exact key (p.1,(p.1+p.2)/2) g1 g2
  ·rename_i h3
   obtain⟨g1,g2⟩:=h2 h3
   exact key ((p.1+p.2)/2,p.2) g1 g2
theorem qO{f:ZX}{p:Rat × Rat}(A:j7 f (vt (aT f)) p.1 p.2):j7 f (vt (aT f)) (ex f p).1 (ex f p).2 ∧ ∀t,aY f (ex f p) t↔aY f p t:=by
 unfold ex
 split
 ·rename_i h0
  exact A.exact h0
 ·exact⟨A,fun _=>Iff.rfl⟩
abbrev t4(n d:Int):List PV:=[.bool (decide (n<0)),us (aN LL n.natAbs), .bool (decide (d<0)),us (aN LL d.natAbs)]
section
variable {x:List Int} {c:List ZX} {fs:List ZX} {an ad bn bd z b σ:Int} (hx:x.length<1000000)  (f1:aD env.P 83 [Po x] (PI x)) (f2:aD env.P 189 [PI x] (aI zq fs)) (k1:aD env.P 86 [T2 an ad] (R2 an ad)) (k2:aD env.P 86 [T2 bn bd] (R2 bn bd))
  (k3:aD env.P 15 [R2 an ad,R2 bn bd] (.int .i64 z)) (k4:aD env.P 85 [PI x] (aI zq c)) (k5:aD env.P 80 [aI zq c,R2 an ad,R2 bn bd] (.int .i64 b)) (k6:aD env.P 81 [PI x,R2 an ad] (.int .i64 σ))
include hx f1
include f2 k1 k2 k3 k4 k5 k6
theorem aak(h2:2≤x.length)(hm:fs.length=1){r:Bool}(hr:r=if 0<z then false else if z=0 then σ==0 else b==1):aD env.P 131 [.ag (Po x::(t4 an ad++t4 bn bd))] (.bool r):=by
 simp only [t4,List.cons_append,List.nil_append]
 refine bY [(0, .ag [Po x, .bool (decide (an<0)),us (aN LL an.natAbs), .bool (decide (ad<0)),us (aN LL ad.natAbs), .bool (decide (bn<0)),us (aN LL bn.natAbs), .bool (decide (bd<0)),us (aN LL bd.natAbs)])] Tryz.func131 ?_
 refine aA [1] ?_
 refine aJ [1,3] f1 ?_
 refine W.seq ?_
 have e1:((x.length:Int)<2)=False:=eq_false (by omega)
 have e2:(((fs.length:Int)) != 1)=false:=by rw [hm];rfl
 refine W.sr ?_
 simp (disch:=omega) [gw,e1]
 refine aB f2 ?_
 simp (disch:=omega) [gw,e2]
 refine bL [1,3,26] ?_
 refine bC ?_ ?_<;>intro h
 ·simp at h
 refine W.skip ?_
 refine mP ?_
 refine cB k1 ?_
 refine aB k2 ?_
 (try (refine a9 (of_decide_eq_true (by kernel_rfl)) ?_));(try simp (maxSteps:=4000000) (disch:=omega) [gw,gB]);(repeat rw [if_pos (by kernel_rfl)]);(try simp (maxSteps:=4000000) (disch:=omega) [gw,gB])
 (try (refine a9 (of_decide_eq_true (by kernel_rfl)) ?_));(try simp (maxSteps:=4000000) (disch:=omega) [gw,gB]);(repeat rw [if_pos (by kernel_rfl)]);(try simp (maxSteps:=4000000) (disch:=omega) [gw,gB])
 (try (refine a9 (of_decide_eq_true (by kernel_rfl)) ?_));(try simp (maxSteps:=4000000) (disch:=omega) [gw,gB]);(repeat rw [if_pos (by kernel_rfl)]);(try simp (maxSteps:=4000000) (disch:=omega) [gw,gB])
 refine bL [3,4,5] ?_
 refine W.seq ?_
 refine aJ [3,4,5,6] k3 ?_
 refine W.block ?_
 refine aA [3,4,5,6,36] ?_
 refine bC ?_ ?_<;>intro h
 ·simp at h
  rw [if_pos h]at hr;subst hr
  refine aA [2] ?_
  exact bV
 ·simp at h
  rw [if_neg (by omega)]at hr
  refine aA [3,4,5,39] ?_
  refine bC ?_ ?_<;>intro h
  ·simp at h
   rw [if_pos h]at hr;subst hr
   refine aJ [2] k6 ?_
   exact bV
  ·simp at h
   rw [if_neg h]at hr;subst hr
   refine W.skip ?_
   refine mP ?_
   refine cB k4 ?_
   refine bS [2] k5 ?_
   exact bV
end
theorem kR.valid{s n:Nat}{f:ZX}(I:kR s n f){u:Nat}{p:Rat × Rat}(A:j7 f (vt (aT f)) p.1 p.2)(hN:2≤ZX.N f)(q1:SQ u p.1)(q2:SQ u p.2)(hu:u≤1000000000):aD env.P 131 [GA f p] (.bool true):=by
 have hN':=I.ch.bz.N
 have hn:=I.ch.hn
 have hx:f.l.length<1000000:=by show ZX.N f<_;omega
 have f2:=qG I.lay I.s1
 rw [I.nf.ZU]at f2
 have hnl:nl f=1:=(an9 f).2 ⟨hN,by rw [I.gz1,ZX.wS];omega⟩
 have VS:(fl f).length=1:=by rw [anC,hnl]
 have k1:=q1.W7 hu
 have k2:=q2.W7 hu
 have k3:=mB p.1 p.2 (q1.yy hu) (q2.yy hu)
 have k5:=I.xC q1 q2 hu
 have k6:=I.aky q1 hu
 rw [cW]at k1 k2 k6
 rw [cW,cW]at k3 k5
 refine aak hx I.akx f2 k1 k2 k3 I.D8 k5 k6 hN VS ?_
 rw [if_neg (by rw [fI];have:=A.le;grind)]
 rcases A.k with ⟨h1,h2⟩ | ⟨h1,h2⟩
 ·rw [if_pos (jB.2 h1),h2,iK];rfl
 ·rw [if_neg (fun h=>by rw [jB]at h;grind),if_neg (by grind)]
  have:(vt (aT f) p.1:Int)-vt (aT f) p.2=1:=by omega
  rw [this];rfl
theorem xQ{f:ZX}(h0:f≠0)(hc:tJ f (bX f))(hN:ZX.N f≤20):sK f (vt (aT f)):=by
 have hg:gz f (bX f)=1:=(DL (.inl h0)).N1 (hc _ (eT _ _).l (eT _ _).r)
 refine⟨h0,hc,_,⟨fun B hB=>?_⟩,rfl⟩
 obtain⟨s,hs⟩:=D1 f.l
 obtain⟨β,hβ⟩:=O1 B
 have hb:BZ (s+1+5) 20 f:=⟨hN,fun c hc=>dE (by decide) (by
  have h1:=hs c hc
  have h2:2^s<2^(s+1+5):=Nat.pow_lt_pow_right (by decide) (by omega)
  omega)⟩
 have hb0:BZ (s+1) 20 f:=⟨hN,fun c hc=>dE (by decide) (by
  have h1:=hs c hc
  have h2:2^s<2^(s+1):=Nat.pow_lt_pow_right (by decide) (by omega)
  omega)⟩
 have bd:BZ (s+1+5) 20 (bX f):=hb0.bX (by decide)
 have hND:=oD f
 have hP1:ZX.N (qX (bX f))≤ZX.N (bX f):=l9 _
 obtain⟨δ,h1,h2⟩:=D2 (jb ((s+1+5+20+1)*2*4^20) 20 β)
 refine⟨δ,h1,Lcl.mono (WY (s:=s+1) (n:=20) (by decide) h0 hb ?_ (jA bd) hg (by rw [h2];exact Rat.le_refl)) hβ⟩
 unfold yG
 split
 ·have:(4:Nat)^ZX.N f≤4^20:=Nat.pow_le_pow_right (by decide) hN
  exact Nat.mul_le_mul (by omega) this
 ·have:(4:Nat)^ZX.N (qX (bX f))≤4^20:=Nat.pow_le_pow_right (by decide) (by omega)
  exact Nat.mul_le_mul (Nat.le_refl _) this
structure nS(f h g w:ZX):Prop where
 eq:f=w*g
 ng:Nf g
 nw:Nf w
 wg:tJ w g
 wh:tJ w h
 gd:dv g h
 sg:tJ g (bX g)
 sw:tJ w (bX w)
theorem mI{f h:ZX}(nf:Nf f)(hc:tJ f (bX f)):∃w,nS f h (gz f h) w:=by
 have ng:Nf (gz f h):=DL (.inl nf.ne)
 obtain⟨w,nw,e⟩:=nf.quo ng (eT f h).l
 have hd:bX f=bX w*gz f h+w*bX (gz f h):=by
  have h1:=congrArg bX e
  rwa [tA]at h1
 have dwf:dv w f:=by rw [e];exact(dv.refl w).mul_right _
 have dgf:dv (gz f h) f:=(eT f h).l
 have wg:tJ w (gz f h):=fun d h1 h2=>hc d (h1.trans dwf) (by rw [hd];exact(h2.mul_left _).add (h1.mul_right _))
 exact⟨w,e,ng,nw,wg,fun d h1 h2=>wg d h1 ((eT f h).least (h1.trans dwf) h2),(eT f h).r,
  fun d h1 h2=>hc d (h1.trans dgf) (by rw [hd];exact(h1.mul_left _).add (h2.mul_left _)),fun d h1 h2=>hc d (h1.trans dwf) (by rw [hd];exact(h2.mul_right _).add (h1.mul_right _))⟩
theorem nS.N{f h g w:ZX}(S:nS f h g w):ZX.N w≤ZX.N f∧ZX.N g≤ZX.N f:=by
 have h1:=j1 S.nw.ne S.ng.ne
 rw [←S.eq]at h1
 have:=ZX.aH.1 S.nw.ne
 have:=ZX.aH.1 S.ng.ne
 omega
theorem nS.EM{f h g w:ZX}(S:nS f h g w){v γ φ:Rat→Nat}(hv:sK f v)(hg:sK g γ)(hw:sK w φ){s t:Rat}(jD:s≤t):v s+γ t+φ t=v t+γ s+φ s:=by
 have e:K 1*f=w*g:=by rw [←S.eq];show(1:ZX)*f=f;grind
 have:=hv.mul hw hg (by decide) e S.wg jD
 omega
theorem W9{f h:ZX}{v w:Rat→Nat}(hv:sK f v)(hw:sK h w)(hc:tJ f h){s r l β:Nat}(hA:∀c∈f.l,c.natAbs≤2^s)(hB:∀c∈h.l,c.natAbs≤2^r)(hl:ZX.N f+ZX.N h≤2^l)
  {a b:Rat} (ha:Ab a (2^β)) (hb:Ab b (2^β)) (gJ:a<b) (hd:(b-a)*2^(sx f h s r l+(ZX.N f+ZX.N h)*(β+2)+2)≤1):v a=v b∨w a=w b:=by
 refine Classical.byContradiction fun AU=>?_
 have akA:=not_or.1 AU
 have sm:∀ {p:ZX} {m:Nat} {u:Rat→Nat},sK p u→(∀c∈p.l,c.natAbs≤2^m)→¬u a=u b→Ab (e a p) ((b-a)*2^(m+ZX.N p*(β+2))):=fun {p m u} S hp hu =>
  S.small gJ hu (eK _) (fun x y h1 h2 h3=>by
   have g1:=(aek hp (Nat.le_refl _) (cH ha hb h1 (by grind)) (cH ha hb (show a≤y by grind) h3)).1
   have g2:=nO x y p.l
   have g3:e y p-e x p=qv y p.l-qv x p.l:=rfl
   rw [g3,g2]
   exact Ab.mul ⟨by grind,Rat.le_refl⟩ g1) Rat.le_refl (Rat.le_of_lt gJ)
 have b1:=sm hv hA akA.1
 have b2:=sm hw hB akA.2
 have n1:=ZX.aH.1 hv.ne
 have n2:=ZX.aH.1 hw.ne
 have s1:s≤s*ZX.N h:=Nat.le_mul_of_pos_right _ (by omega)
 have s2:r≤r*ZX.N f:=Nat.le_mul_of_pos_right _ (by omega)
 have fin:∀ {i j k:Nat},i+j+1=k→(b-a)*2^k≤1→(b-a)*2^i*2*2^j≤1:=fun {i j k} hk h=>by
  rw [←hk,Rat.pow_succ,oX]at h;grind
 have hX:sx f h s r l=(l+2)*(ZX.N f+ZX.N h)+s*ZX.N h+r*ZX.N f:=rfl
 rw [Nat.add_mul]at hd
 have h5:=aub hv.ne hw.ne hA hB hl hc ha (β:=β) (fin (i:=s+ZX.N f*(β+2)) (k:=sx f h s r l+(ZX.N f*(β+2)+ZX.N h*(β+2))+2) (by omega) hd) (fin (i:=r+ZX.N h*(β+2)) (k:=sx f h s r l+(ZX.N f*(β+2)+ZX.N h*(β+2))+2) (by omega) hd)
 have q1:0<(b-a)*2^(s+ZX.N f*(β+2)):=Rat.mul_pos (by grind) (eK _)
 have q2:0<(b-a)*2^(r+ZX.N h*(β+2)):=Rat.mul_pos (by grind) (eK _)
 obtain⟨p1,p2⟩:=b1
 obtain⟨p3,p4⟩:=b2
 rcases h5 with (h5 | h5) | (h5 | h5)<;>grind
theorem aez{f h:ZX}{v w:Rat→Nat}(hv:sK f v)(hw:sK h w)(hc:tJ f h){s n l β:Nat}(hA:∀c∈f.l,c.natAbs≤2^s)(hB:∀c∈h.l,c.natAbs≤2^s)(hn:ZX.N f+ZX.N h≤n)(hl:n≤2^l)
  {a b:Rat} (ha:Ab a (2^β)) (hb:Ab b (2^β)) (gJ:a<b) (hd:(b-a)*2^(sk s n l β+(s+n*(β+2))+1)≤1):v a=v b∨w a=w b:=
 W9 hv hw hc hA hB (Nat.le_trans hn hl) ha hb gJ (DZ hd (by
  have h1:=ael (a:=f) (b:=h) (s:=s) (l:=l) (β:=β) hn (Nat.le_refl _)
  have h2:(ZX.N f+ZX.N h)*(β+2)≤n*(β+2):=Nat.mul_le_mul_right _ hn
  omega))
theorem XA{f h:ZX}{v w:Rat→Nat}(hv:sK f v)(hw:sK h w)(hc:tJ f h)(B:Rat):∃δ:Rat,0<δ ∧ ∀a b,Ab a B→Ab b B→a<b→b-a≤δ→v a=v b∨w a=w b:=by
 obtain⟨s1,h1⟩:=D1 f.l
 obtain⟨s2,h2⟩:=D1 h.l
 obtain⟨β,hβ⟩:=O1 B
 obtain⟨δ,h3,h4⟩:=D2 (sk (s1+s2) (ZX.N f+ZX.N h) (ZX.N f+ZX.N h) β+(s1+s2+(ZX.N f+ZX.N h)*(β+2))+1)
 refine⟨δ,h3,fun a b ha hb gJ hd=>aez hv hw hc (s:=s1+s2) (l:=ZX.N f+ZX.N h) (β:=β) (fun c hc=>Nat.le_trans (h1 c hc) (Nat.pow_le_pow_right (by decide) (by omega))) (fun c hc=>Nat.le_trans (h2 c hc) (Nat.pow_le_pow_right (by decide) (by omega))) (Nat.le_refl _) (Nat.le_of_lt Nat.lt_two_pow_self) (ha.mono hβ) (hb.mono hβ) gJ ?_⟩
 rw [←h4]
 exact Rat.mul_le_mul_of_nonneg_right hd (Rat.le_of_lt (eK _))
section
variable {f:ZX} {v:Rat→Nat} {lo hi:Rat} (A:j7 f v lo hi)
include A
theorem jQ{s t:Rat}(h1:¬gG v lo hi s)(h2:gG v lo hi t)(jD:s<t):v t<v s:=by
 have g1:s<hi:=Rat.not_le.1 fun h=>h1 (.inl h)
 rcases A.k with ⟨rfl,h0⟩ | ⟨dA,hk⟩
 ·have h3:lo≤t:=by rcases h2 with h | h<;>grind
  have h4:=A.S.root g1 h0
  have h5:=A.S.cA h3
  omega
 ·have h3:v lo≤v s:=by
   by_cases h:s≤lo
   ·exact A.S.cA h
   ·exact Nat.not_lt.1 fun h4=>h1 (.inr ⟨by grind,h4⟩)
  rcases h2 with h | ⟨_,h⟩
  ·have:=A.S.cA h;omega
  ·omega
theorem XB{s t:Rat}(h1:¬gG v lo hi s)(h2:gG v lo hi t)(hv:v s=v t+1){x:Rat}(hx:s≤x)(hy:x≤t):gG v lo hi x↔v x<v s:=by
 refine⟨fun h=>?_,fun h=>?_⟩
 ·refine jQ A h1 h ?_
  rcases Rat.le_iff_lt_or_eq.1 hx with h3 | rfl
  ·exact h3
  ·exact absurd h h1
 ·refine Classical.byContradiction fun h3=>?_
  have h4:x<t:=by
   rcases Rat.le_iff_lt_or_eq.1 hy with h4 | rfl
   ·exact h4
   ·exact absurd h2 h3
  have:=jQ A h3 h2 h4
  omega
end
theorem T6{U:Rat→Prop}{δ:Rat}(hδ:0<δ):∀(n:Nat) (s t:Rat),s<t→¬U s→U t→t-s≤δ*2^n → ∃a b,s≤a∧a<b∧b≤t∧b-a≤δ∧¬U a∧U b
 | 0,s,t,h,h1,h2,hd=>⟨s,t,Rat.le_refl,h,Rat.le_refl,by rwa [Rat.pow_zero,Rat.mul_one]at hd,h1,h2⟩
 | n+1,s,t,h,h1,h2,hd=>by
  obtain⟨m1,m2⟩:=sL h
  obtain⟨d1,d2⟩:=xB hd
  generalize (s+t)/2=m at *
  by_cases hm:U m
  ·obtain⟨a,b,g1,g2,g3,g4⟩:=T6 hδ n s m m1 h1 hm d1
   exact⟨a,b,g1,g2,by grind,g4⟩
  ·obtain⟨a,b,g1,g2,g3,g4⟩:=T6 hδ n m t m2 hm h2 d2
   exact⟨a,b,by grind,g2,g3,g4⟩
theorem K1{U:Rat→Prop}{δ:Rat}(hδ:0<δ){s t:Rat}(h:s<t)(h1:¬U s)(h2:U t):∃a b,s≤a∧a<b∧b≤t∧b-a≤δ∧¬U a∧U b:=by
 obtain⟨n,hn⟩:=O1 ((t-s)/δ)
 refine T6 hδ n s t h h1 h2 ?_
 have h3:(t-s)/δ*δ=t-s:=Rat.div_mul_cancel (Rat.ne_of_gt hδ)
 have h4:=Rat.mul_le_mul_of_nonneg_right hn (Rat.le_of_lt hδ)
 grind
section
variable {f h:ZX} {v w:Rat→Nat} {lo hi P4 lT:Rat} (A:j7 f v lo hi) (B:j7 h w P4 lT)
include A B
theorem xD{g w1 w2:ZX}{γ φ η:Rat→Nat}(S1:nS f h g w1)(S2:nS h f g w2)(hg:sK g γ)(h1:sK w1 φ)(h2:sK w2 η){s t:Rat}(jD:s<t)(a1:¬gG v lo hi s)(a2:gG v lo hi t)(b1:¬gG w P4 lT s)(b2:gG w P4 lT t)(hv:v s≤v t+1)(hw:w s≤w t+1)(hγ:γ t<γ s) :
  ∀x,gG v lo hi x↔gG w P4 lT x:=fun x=>by
 have c1:=jQ A a1 a2 jD
 have c2:=jQ B b1 b2 jD
 have e1:v s=v t+1:=by omega
 have e2:w s=w t+1:=by omega
 have k1:=S1.EM A.S hg h1 (Rat.le_of_lt jD)
 have k2:=S2.EM B.S hg h2 (Rat.le_of_lt jD)
 by_cases hx:x<s
 ·exact⟨fun hh=>absurd (A.up hh (Rat.le_of_lt hx)) a1,fun hh=>absurd (B.up hh (Rat.le_of_lt hx)) b1⟩
 ·by_cases hy:t<x
  ·exact⟨fun _=>B.up b2 (Rat.le_of_lt hy),fun _=>A.up a2 (Rat.le_of_lt hy)⟩
  ·have FW:=Rat.not_lt.1 hx
   have EV:=Rat.not_lt.1 hy
   rw [XB A a1 a2 e1 FW EV,XB B b1 b2 e2 FW EV]
   have q1:=S1.EM A.S hg h1 FW
   have q2:=S2.EM B.S hg h2 FW
   have r1:=h1.cA FW
   have r2:=h2.cA FW
   have r3:=h1.cA EV
   have r4:=h2.cA EV
   have m1:=hg.cA (Rat.le_of_lt jD)
   have m2:=h1.cA (Rat.le_of_lt jD)
   have m3:=h2.cA (Rat.le_of_lt jD)
   omega
end
theorem PA{q:Rat}{V:Rat→Prop}(hV:∀s t,V s→s≤t→V t):cu (fun t=>q≤t) V = -cr V q:=by
 by_cases h:V q
 ·by_cases h2:∃s,s<q∧V s
  ·rw [(D3 hV).2 h2]
   unfold cu
   obtain⟨s,h3,h4⟩:=h2
   rw [if_neg (fun ⟨t,h5,h6⟩=>h6 (hV q t h h5)),if_pos ⟨s,h4,by grind⟩]
   rfl
  ·rw [BJ.2 ⟨h,fun s h3 h4=>h2 ⟨s,h3,h4⟩⟩]
   unfold cu
   rw [if_neg (fun ⟨t,h5,h6⟩=>h6 (hV q t h h5)),if_neg (fun ⟨t,h5,h6⟩=>h2 ⟨t,by grind,h5⟩)]
   rfl
 ·rw [qL.2 h]
  unfold cu
  rw [if_pos ⟨q,Rat.le_refl,h⟩]
theorem HP{q:Rat}{U:Rat→Prop}(hU:∀s t,U s→s≤t→U t):cu U (fun t=>q≤t)=cr U q:=by
 by_cases h:U q
 ·by_cases h2:∃s,s<q∧U s
  ·rw [(D3 hU).2 h2]
   unfold cu
   obtain⟨s,h3,h4⟩:=h2
   rw [if_pos ⟨s,h4,by grind⟩]
  ·rw [BJ.2 ⟨h,fun s h3 h4=>h2 ⟨s,h3,h4⟩⟩]
   unfold cu
   rw [if_neg (fun ⟨t,h5,h6⟩=>h2 ⟨t,by grind,h5⟩),if_neg (fun ⟨t,h5,h6⟩=>h6 (hU q t h h5))]
 ·rw [qL.2 h]
  unfold cu
  rw [if_neg (fun ⟨t,h5,h6⟩=>h (hU t q h5 (by grind))),if_pos ⟨q,Rat.le_refl,h⟩]
theorem gY{U U' V V':Rat→Prop}(h1:∀t,U t↔U' t)(h2:∀t,V t↔V' t):cu U V=cu U' V':=by
 have e1:U=U':=funext fun t=>propext (h1 t)
 have e2:V=V':=funext fun t=>propext (h2 t)
 rw [e1,e2]
theorem oK{f:ZX}{p:Rat × Rat}(h:p.1=p.2)(t:Rat):aY f p t↔p.1≤t:=by
 refine⟨fun h1=>?_,fun h1 => .inl (h▸h1)⟩
 rcases h1 with h1 | ⟨h1,_⟩
 ·rw [h];exact h1
 ·grind
theorem aun{h:ZX}{w:Rat→Nat}{lo hi P4 lT:Rat}{v:Rat→Nat}(B:j7 h w P4 lT)(h1:hi≤P4)(h2:P4<lT):cu (gG v lo hi) (gG w P4 lT) = -1:=by
 unfold cu
 rw [if_pos ⟨hi,eU,B.g9 (by grind)⟩]
theorem auo{f h:ZX}{v w:Rat→Nat}{lo hi P4 lT:Rat}(A:j7 f v lo hi)(B:j7 h w P4 lT)(h1:lT≤lo)(h2:lo<hi):cu (gG v lo hi) (gG w P4 lT)=1:=by
 have h3:¬gG v lo hi lT:=A.g9 (by grind)
 have h4:¬ ∃t,gG v lo hi t∧¬gG w P4 lT t:=fun⟨t,h4,h5⟩=>h5 (B.up eU (Rat.not_lt.1 fun h6=>h3 (A.up h4 (Rat.le_of_lt h6))))
 unfold cu
 rw [if_neg h4,if_pos ⟨lT,eU,h3⟩]
structure Two(s n:Nat)(f h:ZX):Prop where
 nf:Nf f
 nh:Nf h
 cf:tJ f (bX f)
 ch:tJ h (bX h)
 af:∀c∈f.l,c.natAbs≤2^s
 ah:∀c∈h.l,c.natAbs≤2^s
 Nf:ZX.N f≤n
 Nh:ZX.N h≤n
 hn:n≤20
 hs:n+1≤2^s
namespace Two
variable {s n:Nat} {f h:ZX} (T:Two s n f h)
include T
theorem Sf:sK f (vt (aT f)):=xQ T.nf.ne T.cf (Nat.le_trans T.Nf T.hn)
theorem Sh:sK h (vt (aT h)):=xQ T.nh.ne T.ch (Nat.le_trans T.Nh T.hn)
end Two
def kc(s n β:Nat):Nat:=lk s n 5 β+(sk (qb (s+1) n) (n+n) 6 β+(qb (s+1) n+(n+n)*(β+2))+1)
theorem aup{s n β:Nat}(hn:n≤20):kc s n β≤1722*s+140*β+9000:=by
 have h1:(n+n)*(s+5+2+(5+1))≤40*(s+13):=Nat.mul_le_mul (by omega) (by omega)
 have h2:(n+n)*(β+2)≤40*(β+2):=Nat.mul_le_mul (by omega) (by omega)
 have h3:n*(β+2)≤20*(β+2):=Nat.mul_le_mul hn (by omega)
 have h4:n*(2*(s+1)+5)≤20*(2*(s+1)+5):=Nat.mul_le_mul hn (by omega)
 have h5:qb (s+1) n≤41*s+150:=by unfold qb;omega
 have h6:(n+n)*(qb (s+1) n+2+6)≤40*(41*s+158):=Nat.mul_le_mul (by omega) (by omega)
 unfold kc lk sk
 omega
theorem azx{s n:Nat}{f h g w:ZX}(S:nS f h g w)(hf:f≠0)(hA:∀c∈f.l,c.natAbs≤2^s)(hN:ZX.N f≤n)(hs:n+1≤2^s):∀c∈w.l,c.natAbs≤2^qb (s+1) n:=fun c hc=>by
 have hb:Bd 2 (s+1) n f.l:=⟨hN,fun c hc=>dE (by decide) (by
  have h1:=hA c hc
  have h2:2^s<2^(s+1):=Nat.pow_lt_pow_right (by decide) (by omega)
  omega)⟩
 have h1:=adA (a:=f) (w:=g) (g:=w) hf (by rw [S.eq,ZX.G4]) hb (Nat.le_trans hs (Nat.pow_le_pow_right (by decide) (by omega)))
 have h2:=iH (b:=2) (by decide) c
 have h3:=Nat.pow_le_pow_right (show 0<2 by decide) (h1.sz c hc)
 unfold qb
 omega
theorem aal{s n β:Nat}{f h:ZX}{p q:Rat × Rat}(T:Two s n f h)(A:j7 f (vt (aT f)) p.1 p.2)(B:j7 h (vt (aT h)) q.1 q.2)(h1:p.1<p.2)(h2:q.1<q.2)(h3:p.1<q.2)(h4:q.1<p.2)
  (a1:Ab p.1 (2^β)) (a2:Ab p.2 (2^β)) (b1:Ab q.1 (2^β)) (b2:Ab q.2 (2^β)) {W:Rat} (w1:p.2-p.1≤W) (w2:q.2-q.1≤W) (hW:2*W*2^kc s n β≤1):∀x,aY f p x↔aY h q x:=by
 obtain⟨S,hS,hS1,hS2⟩:∃S,(S=p.1∨S=q.1)∧S≤p.1∧S≤q.1:=by
  by_cases hh:p.1≤q.1
  ·exact⟨p.1, .inl rfl,Rat.le_refl,hh⟩
  ·exact⟨q.1, .inr rfl,by grind,Rat.le_refl⟩
 obtain⟨E,hE,hE1,hE2⟩:∃E,(E=p.2∨E=q.2)∧p.2≤E∧q.2≤E:=by
  by_cases hh:p.2≤q.2
  ·exact⟨q.2, .inr rfl,hh,Rat.le_refl⟩
  ·exact⟨p.2, .inl rfl,Rat.le_refl,by grind⟩
 have aS:Ab S (2^β):=by rcases hS with rfl | rfl<;>assumption
 have aE:Ab E (2^β):=by rcases hE with rfl | rfl<;>assumption
 have AV:S<E:=by grind
 have hd:E-S≤2*W:=by rcases hS with rfl | rfl<;>rcases hE with rfl | rfl<;>grind
 have hd0:0≤E-S:=by grind
 have hdK:(E-S)*2^kc s n β≤1:=Rat.le_trans (Rat.mul_le_mul_of_nonneg_right hd (Rat.le_of_lt (eK _))) hW
 have lt1:∀k,k≤kc s n β→(E-S)*2^k≤1:=fun k hk=>Rat.le_trans (Rat.mul_le_mul_of_nonneg_left (DY hk) hd0) hdK
 obtain⟨Lf,_⟩:=(show ∃L,AS L f∧vt (aT f)=vt L from T.Sf.g)
 have pV:∀x:ZX,sK x (vt (aT x))→x≠0→(∀c∈x.l,c.natAbs≤2^s)→ZX.N x≤n→vt (aT x) S≤vt (aT x) E+1:=fun x hx h0 hA hN=>by
  obtain⟨L,G,e⟩:=hx.g
  obtain⟨g1,_⟩:=tI G (s:=s) (n:=n) (l:=5) (β:=β) h0 hA hN (by have:=T.hn;omega) hx.LG (δ:=E-S) (lt1 _ (by unfold kc;omega))
  have:=g1.turns S E aS aE AV Rat.le_refl
  rw [e]
  rcases KT x S E with h5 | h5<;>omega
 have nF:=pV f T.Sf T.nf.ne T.af T.Nf
 have nH:=pV h T.Sh T.nh.ne T.ah T.Nh
 obtain⟨w1',S1⟩:=mI (h:=h) T.nf T.cf
 obtain⟨w2',S2⟩:=mI (h:=f) T.nh T.ch
 rw [←qC]at S2
 have YZ:=T.hn
 have n1:=S1.N
 have n2:=S2.N
 have hTN:=T.Nf
 have azy:=T.Nh
 have hg:=xQ S1.ng.ne S1.sg (by omega)
 have xN:=xQ S1.nw.ne S1.sw (by omega)
 have VL:=xQ S2.nw.ne S2.sw (by omega)
 have c1:¬aY f p S:=A.g9 (by grind)
 have c2:aY f p E:=A.up eU hE1
 have c3:¬aY h q S:=B.g9 (by grind)
 have c4:aY h q E:=B.up eU hE2
 have o1:=jQ A c1 c2 AV
 have o2:=jQ B c3 c4 AV
 have k1:=S1.EM T.Sf hg xN (Rat.le_of_lt AV)
 have oN:=azx S1 T.nf.ne T.af T.Nf T.hs
 have Q3:=aez xN T.Sh S1.wh (s:=qb (s+1) n) (n:=n+n) (l:=6) (β:=β) oN (fun c hc=>Nat.le_trans (T.ah c hc) (Nat.pow_le_pow_right (by decide) (by unfold qb;omega))) (by omega) (by omega) aS aE AV (lt1 _ (by unfold kc;omega))
 have m0:=hg.cA (Rat.le_of_lt AV)
 refine xD A B S1 S2 hg xN VL AV c1 c2 c3 c4 nF nH ?_
 rcases Q3 with Q3 | Q3
 ·omega
 ·omega
theorem aam{s n:Nat}{f h:ZX}{p q:Rat × Rat}(T:Two s n f h)(A:j7 f (vt (aT f)) p.1 p.2)(B:j7 h (vt (aT h)) q.1 q.2)(h1:p.1<p.2)(h2:q.1<q.2)(h3:¬aY f p q.1)(h4:aY f p q.2)(hz:vt (aT (gz h f)) p.2<vt (aT (gz h f)) p.1):∀x,aY f p x↔aY h q x:=by
 rw [qC]at hz
 obtain⟨w1',S1⟩:=mI (h:=h) T.nf T.cf
 obtain⟨w2',S2⟩:=mI (h:=f) T.nh T.ch
 rw [←qC]at S2
 have YZ:=T.hn
 have n1:=S1.N
 have n2:=S2.N
 have hTN:=T.Nf
 have azy:=T.Nh
 have hg:=xQ S1.ng.ne S1.sg (by omega)
 have xN:=xQ S1.nw.ne S1.sw (by omega)
 have VL:=xQ S2.nw.ne S2.sw (by omega)
 have hv:vt (aT f) p.1=vt (aT f) p.2+1:=by
  rcases A.k with ⟨g,_⟩ | ⟨_,g⟩
  ·grind
  ·exact g
 have hw:vt (aT h) q.1=vt (aT h) q.2+1:=by
  rcases B.k with ⟨g,_⟩ | ⟨_,g⟩
  ·grind
  ·exact g
 have hq1:q.1<p.2:=Rat.not_le.1 fun hh=>h3 (.inl hh)
 have hq2:p.1<q.2:=Rat.not_le.1 fun hh=>(A.g9 (show q.2<p.1∨(q.2=p.1∧p.1<p.2)by grind)) h4
 obtain⟨S,hS,hS1,hS2⟩:∃S,(S=p.1∨S=q.1)∧p.1≤S∧q.1≤S:=by
  by_cases hh:p.1≤q.1
  ·exact⟨q.1, .inr rfl,hh,Rat.le_refl⟩
  ·exact⟨p.1, .inl rfl,Rat.le_refl,by grind⟩
 obtain⟨E,hE,hE1,hE2⟩:∃E,(E=p.2∨E=q.2)∧E≤p.2∧E≤q.2:=by
  by_cases hh:p.2≤q.2
  ·exact⟨p.2, .inl rfl,Rat.le_refl,hh⟩
  ·exact⟨q.2, .inr rfl,by grind,Rat.le_refl⟩
 have AV:S<E:=by rcases hS with rfl | rfl<;>rcases hE with rfl | rfl<;>assumption
 have c1:¬aY f p S:=by
  rcases hS with rfl | rfl
  ·exact A.g9 (.inr ⟨rfl,h1⟩)
  ·exact h3
 have c2:aY f p E:=by
  rcases hE with rfl | rfl
  ·exact eU
  ·exact h4
 have o1:=jQ A c1 c2 AV
 have v1:=T.Sf.cA hS1
 have v2:=T.Sf.cA hE1
 have k1:=S1.EM T.Sf hg xN hS1
 have k2:=S1.EM T.Sf hg xN hE1
 have k3:=S1.EM T.Sf hg xN (Rat.le_of_lt AV)
 have k4:=S2.EM T.Sh hg VL (Rat.le_of_lt AV)
 have a1:=hg.cA hS1
 have a2:=hg.cA hE1
 have a3:=xN.cA hS1
 have a4:=xN.cA hE1
 have a5:=VL.cA (Rat.le_of_lt AV)
 have a6:=xN.cA (Rat.le_of_lt AV)
 have u1:=T.Sh.cA hS2
 have u2:=T.Sh.cA hE2
 have c3:¬aY h q S:=fun hh=>by
  rcases hh with hh | ⟨_,hh⟩
  ·have:=T.Sh.cA hh;omega
  ·omega
 have c4:aY h q E:=.inr ⟨by grind,by omega⟩
 exact xD A B S1 S2 hg xN VL AV c1 c2 c3 c4 (by omega) (by omega) (by omega)
theorem aan{s n:Nat}{f h:ZX}{p q:Rat × Rat}(T:Two s n f h)(A:j7 f (vt (aT f)) p.1 p.2)(B:j7 h (vt (aT h)) q.1 q.2)(h1:p.1<p.2)(hx:∀x,aY f p x↔aY h q x):vt (aT (gz h f)) p.2<vt (aT (gz h f)) p.1:=by
 rw [qC]
 obtain⟨w1',S1⟩:=mI (h:=h) T.nf T.cf
 have YZ:=T.hn
 have n1:=S1.N
 have hTN:=T.Nf
 have hg:=xQ S1.ng.ne S1.sg (by omega)
 have xN:=xQ S1.nw.ne S1.sw (by omega)
 obtain⟨B0,hB0,ab1,ab2⟩:=lO p.1 p.2
 obtain⟨δ,hδ,Q3⟩:=XA xN T.Sh S1.wh B0
 obtain⟨a,b,g1,g2,g3,g4,g5,g6⟩:=K1 (U:=aY f p) hδ h1 (A.g9 (.inr ⟨rfl,h1⟩)) eU
 have o1:=jQ A g5 g6 g2
 have o2:=jQ B (fun hh=>g5 ((hx _).2 hh)) ((hx _).1 g6) g2
 have k1:=S1.EM T.Sf hg xN (Rat.le_of_lt g2)
 have a1:=hg.cA g1
 have a2:=hg.cA g3
 rcases Q3 a b (cH ab1 ab2 g1 (by grind)) (cH ab1 ab2 (by grind) g3) g2 g4 with hh | hh
 ·omega
 ·omega
end Go.Proofs.YtelhfbikiccfkaaGreat
namespace Go.Proofs.YtelhfbikiccfkaaGreat
open Go Pm
open ZX hiding N W
theorem K2{a:ZX}(na:Nf a)(hc:tJ a (bX a)):sq a=a:=by
 obtain⟨g,hg⟩:=jP _ a (bX a) (Nat.le_refl _)
 have h0:=hg.ne (.inl na.ne)
 have h1:=hc g hg.l hg.r
 have h2:=ZX.aH.1 h0
 obtain⟨k,hk,rfl⟩:=mA (show ZX.N g=1 by omega)
 obtain⟨c,x9,u,v,e⟩:=hg.uv
 rw [pI]at e
 exact ah8 na (Int.mul_ne_zero x9 hk) e.symm
abbrev gS(x:List Int)(c:List ZX)(an ad bn bd:Int):List PV:=[PI x,aI zq c,aI aG (aN DD an.natAbs), .bool (decide (an<0)),aI aG (aN DD ad.natAbs), .bool (decide (ad<0)),aI aG (aN DD bn.natAbs), .bool (decide (bn<0)),aI aG (aN DD bd.natAbs), .bool (decide (bd<0))]
theorem qZ{f:ZX}{c:List ZX}{p:Rat × Rat}:QA f c p = .ag (gS f.l c p.1.num p.1.den p.2.num p.2.den):=rfl
theorem HQ{y x g:List Int}{c cg:List ZX}{an ad bn bd σ b:Int}{pt z:Bool}(hl:y.length<1000000)(hg:g.length<1000000)(p1:aD env.P 79 [.ag (gS x c an ad bn bd)] (.bool pt))(k1:pt=true→aD env.P 81 [PI y,R2 an ad] (.int .i64 σ))(k2:aD env.P 208 [PI y,PI x] (PI g))
  (k3:2≤g.length→aD env.P 85 [PI g] (aI zq cg)) (k4:2≤g.length→aD env.P 80 [aI zq cg,R2 an ad,R2 bn bd] (.int .i64 b)) (hz:z=if y.length=0 then true else if pt=true then σ==0 else if g.length<2 then false else decide (0<b)) :
  aD env.P 133 [PI y, .ag (gS x c an ad bn bd)] (.bool z):=by
 simp only [gS]at p1 ⊢
 refine bY [(0,PI y),(1, .ag [PI x,aI zq c,aI aG (aN DD an.natAbs), .bool (decide (an<0)),aI aG (aN DD ad.natAbs), .bool (decide (ad<0)),aI aG (aN DD bn.natAbs), .bool (decide (bn<0)),aI aG (aN DD bd.natAbs), .bool (decide (bd<0))])] Tryz.func133 ?_
 refine aA [0,3] ?_
 refine aL [0,3,8] ?_
 refine bC ?_ ?_<;>intro h
 ·have hy:y.length=0:=by simp at h;simp [h]
  rw [if_pos hy]at hz;subst hz
  refine aA [4] ?_
  exact bV
 ·have hy:¬y.length=0:=by simp at h;simp [h]
  rw [if_neg hy]at hz
  refine W.skip ?_
  refine W.seq ?_
  refine aJ [0,3,10] p1 ?_
  refine bC ?_ ?_<;>intro h
  ·subst h
   rw [if_pos rfl]at hz;subst hz
   have k1':=k1 rfl
   refine aJ [4] k1' ?_
   exact bV
  ·subst h
   rw [if_neg (by decide)]at hz
   refine W.skip ?_
   refine aJ [3,5] k2 ?_
   refine aL [3,5,22] ?_
   refine bC ?_ ?_<;>intro h
   ·have oO:g.length<2:=by simp at h;omega
    rw [if_pos oO]at hz;subst hz
    refine aA [4] ?_
    exact bV
   ·have oO:¬g.length<2:=by simp at h;omega
    rw [if_neg oO]at hz
    have k3':=k3 (by omega)
    have k4':=k4 (by omega)
    refine W.skip ?_
    refine mP ?_
    refine cB k3' ?_
    refine bS [4] k4' ?_
    refine W.ret ?_
    simp [go,hz]
theorem xE(U:Rat→Prop)(t:Rat):cr U t = -1∨cr U t=0∨cr U t=1:=by
 unfold cr
 split
 ·split<;>simp
 ·simp
theorem aao{x y:List Int}{c d:List ZX}{an ad bn bd en ed gn gd r:Int}(hr:r = -1∨r=0∨r=1)(p1:aD env.P 79 [.ag (gS x c an ad bn bd)] (.bool true))(k1:aD env.P 20 [.ag (gS y d en ed gn gd),R2 an ad] (.int .i64 r)) :
  aD env.P 54 [.ag (gS x c an ad bn bd), .ag (gS y d en ed gn gd)] (.int .i64 (-r)):=by
 have hw:IntKind.wrap .i64 (-r) = -r:=wrap_i64 (by omega) (by omega)
 simp only [gS]at p1 k1 ⊢
 refine bY [(0, .ag [PI x,aI zq c,aI aG (aN DD an.natAbs), .bool (decide (an<0)),aI aG (aN DD ad.natAbs), .bool (decide (ad<0)),aI aG (aN DD bn.natAbs), .bool (decide (bn<0)),aI aG (aN DD bd.natAbs), .bool (decide (bd<0))]),(1, .ag [PI y,aI zq d,aI aG (aN DD en.natAbs), .bool (decide (en<0)),aI aG (aN DD ed.natAbs), .bool (decide (ed<0)),aI aG (aN DD gn.natAbs), .bool (decide (gn<0)),aI aG (aN DD gd.natAbs), .bool (decide (gd<0))])] Tryz.func54 ?_
 refine aA [2,3] ?_
 refine W.seq ?_
 refine aJ [2,3,6] p1 ?_
 refine bC ?_ ?_<;>intro h
 ·refine iB ?_
  refine aB k1 ?_
  simp (disch:=omega) [gw,hw]
  refine bL [4] ?_
  exact bV
 ·simp at h
theorem aap{x y:List Int}{c d:List ZX}{an ad bn bd en ed gn gd r:Int}(p1:aD env.P 79 [.ag (gS x c an ad bn bd)] (.bool false))(p2:aD env.P 79 [.ag (gS y d en ed gn gd)] (.bool true))(k1:aD env.P 20 [.ag (gS x c an ad bn bd),R2 en ed] (.int .i64 r)) :
  aD env.P 54 [.ag (gS x c an ad bn bd), .ag (gS y d en ed gn gd)] (.int .i64 r):=by
 simp only [gS]at p1 p2 k1 ⊢
 refine bY [(0, .ag [PI x,aI zq c,aI aG (aN DD an.natAbs), .bool (decide (an<0)),aI aG (aN DD ad.natAbs), .bool (decide (ad<0)),aI aG (aN DD bn.natAbs), .bool (decide (bn<0)),aI aG (aN DD bd.natAbs), .bool (decide (bd<0))]),(1, .ag [PI y,aI zq d,aI aG (aN DD en.natAbs), .bool (decide (en<0)),aI aG (aN DD ed.natAbs), .bool (decide (ed<0)),aI aG (aN DD gn.natAbs), .bool (decide (gn<0)),aI aG (aN DD gd.natAbs), .bool (decide (gd<0))])] Tryz.func54 ?_
 refine aA [2,3] ?_
 refine W.seq ?_
 refine aJ [2,3,6] p1 ?_
 refine bC ?_ ?_<;>intro h
 ·simp at h
 refine W.skip ?_
 refine W.seq ?_
 refine aJ [2,3,13] p2 ?_
 refine bC ?_ ?_<;>intro h
 ·refine aJ [4] k1 ?_
  exact bV
 ·simp at h
section
variable {s n s' n' u:Nat} {f h:ZX} {p q:Rat × Rat} (I:kR s n f) (I':kR s' n' h) (A:j7 f (vt (aT f)) p.1 p.2) (B:j7 h (vt (aT h)) q.1 q.2) (p1:SQ u p.1) (p2:SQ u p.2) (q1:SQ u q.1) (q2:SQ u q.2) (hu:u≤1000000000)
include I I' A B p1 p2 q1 q2 hu
theorem aeA(hp:p.1=p.2∨q.1=q.2):aD env.P 54 [QA f (aT f) p,QA h (aT h) q] (.int .i64 (cu (aY f p) (aY h q))):=by
 have e1:=sN (f:=f) (c:=aT f) p1 p2 hu
 have e2:=sN (f:=h) (c:=aT h) q1 q2 hu
 by_cases h1:p.1=p.2
 ·rw [decide_eq_true h1]at e1
  have k1:=I'.vD B q1 q2 p1 hu
  rw [gY (oK h1) (fun _=>Iff.rfl),PA fun s t=>B.up]
  rw [cW]at k1
  exact aao (xE _ _) e1 k1
 ·rw [decide_eq_false h1]at e1
  have h2:q.1=q.2:=hp.resolve_left h1
  rw [decide_eq_true h2]at e2
  have k1:=I.vD A p1 p2 q1 hu
  rw [gY (fun _=>Iff.rfl) (oK h2),HP fun s t=>A.up]
  rw [cW]at k1
  exact aap e1 e2 k1
end
theorem D9{u:Nat}{p q:Rat}(hp:SQ u p)(hq:SQ u q):∃D,1≤D∧D≤2^(2*u)∧Gr D (2^u) 0 p∧Gr D (2^u) 0 q:=by
 have key:∀r:Rat,SQ u r→1≤r.den∧r.den≤2^u∧Ab r (2^u)∧r*((r.den:Int):Rat)=(r.num:Rat):=fun r hr=>by
  have h1:=r.den_pos
  have h2:=iH (b:=2) (by decide) (r.den:Int)
  have h3:=Nat.pow_le_pow_right (show 0<2 by decide) hr.d2
  have h4:=iH (b:=2) (by decide) r.num
  have h5:=Nat.pow_le_pow_right (show 0<2 by decide) hr.n2
  have h6:=w9 r
  have h7:Ab (r.num:Rat) (2^u):=HL (by omega)
  have h8:(1:Rat)≤((r.den:Int):Rat):=eY (by omega)
  refine⟨h1,by omega,?_,h6.symm⟩
  rw [h6]at h7
  obtain⟨g1,g2⟩:=h7
  have hT:=eK u
  generalize (2:Rat)^u=T at *
  constructor
  ·refine Rat.not_lt.1 fun hh=>?_
   have:=Rat.mul_le_mul_of_nonneg_left h8 (show 0 ≤ -r by grind)
   grind
  ·refine Rat.not_lt.1 fun hh=>?_
   have:=Rat.mul_le_mul_of_nonneg_left h8 (show 0≤r by grind)
   grind
 obtain⟨a1,a2,a3,a4⟩:=key p hp
 obtain⟨b1,b2,b3,b4⟩:=key q hq
 refine⟨p.den*q.den,Nat.mul_pos a1 b1,?_,⟨⟨p.num*(q.den:Int),?_⟩,a3⟩,⟨⟨q.num*(p.den:Int),?_⟩,b3⟩⟩
 ·rw [Nat.two_mul,Nat.pow_add];exact Nat.mul_le_mul a2 b2
 ·rw [Nat.pow_zero,Nat.mul_one,Rat.intCast_mul,←a4,Int.natCast_mul p.den,Rat.intCast_mul];grind
 ·rw [Nat.pow_zero,Nat.mul_one,Rat.intCast_mul,←b4,Int.natCast_mul p.den,Rat.intCast_mul];grind
theorem akD{f:ZX}{p:Rat × Rat}{D j:Nat}{B:Rat}(h1:Gr D B j p.1)(h2:Gr D B j p.2)(hle:p.1≤p.2):Gr D B (j+1) (hv f p).1∧Gr D B (j+1) (hv f p).2∧((hv f p).2-(hv f p).1)*2≤p.2-p.1:=by
 have hm:=h1.FD h2
 have e:(p.1+p.2)/2*2=p.1+p.2:=Rat.div_mul_cancel (by decide)
 have key:∀q:Rat × Rat,Gr D B (j+1) q.1→Gr D B (j+1) q.2→q.1≤q.2→(q.2-q.1)*2≤p.2-p.1→Gr D B (j+1) (ex f q).1∧Gr D B (j+1) (ex f q).2∧((ex f q).2-(ex f q).1)*2≤p.2-p.1:=fun q a1 a2 a3 a4=>by
  unfold ex
  split
  ·exact⟨a2,a2,by show(q.2-q.2)*2≤_;grind⟩
  ·exact⟨a1,a2,a4⟩
 unfold hv
 split
 ·rename_i hh
  exact⟨h1.mono (by omega),h2.mono (by omega),by rw [hh];grind⟩
 ·split
  ·exact key (p.1,(p.1+p.2)/2) (h1.mono (by omega)) hm (by show p.1≤_;grind) (by show((p.1+p.2)/2-p.1)*2≤_;grind)
  ·exact key ((p.1+p.2)/2,p.2) hm (h2.mono (by omega)) (by show _≤p.2;grind) (by show(p.2-(p.1+p.2)/2)*2≤_;grind)
theorem PC{s n s' n' S N u:Nat}{f fb:ZX}{p q:Rat × Rat}(I:kR s n f)(I':kR s' n' fb)(T:Two S N f fb)(hS:S≤20000)(hG:aD env.P 208 [PI fb.l,PI f.l] (PI (gz fb f).l))(IG:2≤ZX.N (gz fb f) → ∃sg ng,kR sg ng (gz fb f))
  (A:j7 f (vt (aT f)) p.1 p.2) (B:j7 fb (vt (aT fb)) q.1 q.2) (p1:SQ u p.1) (p2:SQ u p.2) (q1:SQ u q.1) (q2:SQ u q.2) (hu:u≤2200000):aD env.P 54 [QA f (aT f) p,QA fb (aT fb) q] (.int .i64 (cu (aY f p) (aY fb q))):=by
 by_cases XC:p.1=p.2∨q.1=q.2
 ·exact aeA I I' A B p1 p2 q1 q2 (by omega) XC
 obtain⟨hp,hq⟩:=not_or.1 XC
 have ET:p.1<p.2:=by have:=A.le;grind
 have hql:q.1<q.2:=by have:=B.le;grind
 have hTn:=T.hn
 have hN1:=T.Nf
 have JO:=T.Nh
 have e1:=sN (f:=f) (c:=aT f) p1 p2 (by omega)
 have e2:=sN (f:=fb) (c:=aT fb) q1 q2 (by omega)
 rw [decide_eq_false hp]at e1
 rw [decide_eq_false hq]at e2
 have ⟨zv,hzv,Z⟩:∃z:Bool,(z=true↔vt (aT (gz fb f)) p.2<vt (aT (gz fb f)) p.1)∧aD env.P 133 [PI fb.l,QA f (aT f) p] (.bool z):=by
  have hg0:gz fb f≠0:=akh (.inr I.nf.ne)
  have hgN:ZX.N (gz fb f)≤ZX.N f:=(eT fb f).r.nW I.nf.ne
  have y7:¬fb.l.length=0:=by have:=ZX.aH.1 I'.nf.ne;have:ZX.N fb=fb.l.length:=rfl;omega
  by_cases h2:2≤ZX.N (gz fb f)
  ·obtain⟨sg,ng,IGG⟩:=IG h2
   have k4:=IGG.xC p1 p2 (by omega)
   rw [if_neg (Rat.not_lt.2 (Rat.le_of_lt ET)),cW,cW]at k4
   refine⟨_,?_,HQ (by show ZX.N fb<_;omega) (by show ZX.N (gz fb f)<_;omega) e1 (fun hh=>by cases hh) hG (fun _=>IGG.D8) (fun _=>k4) (σ:=0) rfl⟩
   rw [if_neg y7,if_neg (by decide),if_neg (by show ¬ZX.N (gz fb f)<2;omega),decide_eq_true_eq]
   omega
  ·refine⟨_,?_,HQ (by show ZX.N fb<_;omega) (by show ZX.N (gz fb f)<_;omega) e1 (fun hh=>by cases hh) hG (fun hh=>absurd hh h2) (fun hh=>absurd hh h2) (σ:=0) (b:=0) (cg:=[]) rfl⟩
   rw [if_neg y7,if_neg (by decide),if_pos (by show ZX.N (gz fb f)<2;omega)]
   refine⟨fun hh=>absurd hh (by decide),fun hh=>?_⟩
   exfalso
   have:gz fb f=1:=(DL (.inr I.nf.ne)).N1 (by omega)
   rw [this]at hh
   have hS1:=xQ ZX.qA (fun d h1 h2=>by have:=h1.nW ZX.qA;rwa [ZX.wS]at this) (by rw [ZX.wS];omega)
   have:=hS1.const ET (σ:=1) (.inr (by rw [WN];decide)) (fun x _ _=>by rw [WN];decide)
   omega
 have r1:=I.vD A p1 p2 q1 (by omega)
 have r2:=I.vD A p1 p2 q2 (by omega)
 obtain⟨D,hD1,AL,g1,g2⟩:=D9 p1 p2
 obtain⟨D',T7,T8,g1',g2'⟩:=D9 q1 q2
 have hK:=aup (s:=S) (β:=u) hTn
 have aus:∀r:Rat × Rat,Ab r.1 (2^u)→Ab r.2 (2^u)→r.2-r.1≤2^(u+1):=fun r ⟨a1,a2⟩ ⟨a3,a4⟩=>by rw [Rat.pow_succ];grind
 obtain⟨J,hJ⟩:∃J,J=kc S N u+u+2:=⟨_,rfl⟩
 have hJ2:u+1+2*u+J+1≤1000000000:=by omega
 have sqA:∀(D:Nat),1≤D→D≤2^(2*u) → ∀(j:Nat) (r:Rat),j≤J→Gr D (2^u) j r→SQ (u+1+2*u+J+1) r:=fun D h1 h2 j r hj hr=>((hr.mono hj).sq h1 h2).mono (by omega)
 have sqS:∀(D:Nat),1≤D→D≤2^(2*u) → ∀(j:Nat) (r r':Rat),j≤J→Gr D (2^u) j r→Gr D (2^u) j r'→SQ (u+1+2*u+J+1) (r+r'):=fun D h1 h2 j r r' hj hr k8=>(((hr.add k8).mono hj).sq h1 h2)
 by_cases pJ:∀x,aY f p x↔aY fb q x
 ·-- azA are one
  have hz:zv=true:=hzv.2 (aan T A B ET pJ)
  subst hz
  have c1:cr (aY f p) q.1=1:=qL.2 fun hh=>B.g9 (.inr ⟨rfl,hql⟩) ((pJ _).1 hh)
  have c2:cr (aY f p) q.2≤0:=by
   rcases xE (aY f p) q.2 with hh | hh | hh
   ·omega
   ·omega
   ·exact absurd ((pJ _).2 eU) (qL.1 hh)
  rw [c1]at r1
  rw [W3.2 pJ,qZ,qZ]
  rw [qZ]at Z e1 e2 r1 r2
  rw [cW]at r1 r2
  generalize cr (aY f p) q.2=r at *
  simp only [gS]at Z e1 e2 r1 r2 ⊢
  refine bY [(0, .ag (gS f.l (aT f) p.1.num p.1.den p.2.num p.2.den)),(1, .ag (gS fb.l (aT fb) q.1.num q.1.den q.2.num q.2.den))] Tryz.func54 ?_
  refine aA [2,3] ?_
  refine W.seq ?_
  refine aJ [2,3,6] e1 ?_
  refine bC ?_ ?_<;>intro h
  ·simp at h
  refine W.skip ?_
  refine W.seq ?_
  refine aJ [2,3,13] e2 ?_
  refine bC ?_ ?_<;>intro h
  ·simp at h
  refine W.skip ?_
  refine W.gD (fun σ=>False) ?_ (fun _ hh=>hh.elim)
  refine aJ [2,3,21] Z ?_
  refine bC ?_ ?_<;>intro h
  ·refine iB ?_
   refine cB r1 ?_
   refine aB r2 ?_
   simp (disch:=omega) [gw,c2]
   refine bL [2,3,33] ?_
   refine bC ?_ ?_<;>intro h
   ·refine aA [4] ?_
    exact bV
   ·simp at h
  ·simp at h
 ·-- azA are two
  have vO:zv=true→¬(0<cr (aY f p) q.1∧cr (aY f p) q.2≤0):=fun hz ⟨c1,c2⟩=>pJ (aam T A B ET hql (by
   rcases xE (aY f p) q.1 with hh | hh | hh
   ·omega
   ·omega
   ·exact qL.1 hh) (Classical.byContradiction fun hh=>by have:=qL.2 hh;omega) (hzv.1 hz))
  have hsw:¬ ∀x,gG (vt (aT f)) p.1 p.2 x↔gG (vt (aT fb)) q.1 q.2 x:=pJ
  rw [qZ,qZ]
  rw [qZ]at Z e1 e2 r1 r2
  rw [cW]at r1 r2
  generalize hv1:cr (aY f p) q.1=x1 at *
  generalize hv2:cr (aY f p) q.2=x2 at *
  clear hv1 hv2
  simp only [gS]at Z e1 e2 r1 r2 ⊢
  refine bY [(0, .ag (gS f.l (aT f) p.1.num p.1.den p.2.num p.2.den)),(1, .ag (gS fb.l (aT fb) q.1.num q.1.den q.2.num q.2.den))] Tryz.func54 ?_
  refine aA [2,3] ?_
  refine W.seq ?_
  refine aJ [2,3,6] e1 ?_
  refine bC ?_ ?_<;>intro h
  ·simp at h
  refine W.skip ?_
  refine W.seq ?_
  refine aJ [2,3,13] e2 ?_
  refine bC ?_ ?_<;>intro h
  ·simp at h
  refine W.skip ?_
  refine W.gD (fun σ=>∃(v2 v3:Nat) (rows:Pm.Rows) (clk:Nat),σ=⟨fa [(2, .ptr 2 v2 0 0),(3, .ptr 3 v3 0 0)],rows,clk⟩∧rows 2=some ⟨v2,49,10,[gS f.l (aT f) p.1.num p.1.den p.2.num p.2.den]⟩∧rows 3=some ⟨v3,49,10,[gS fb.l (aT fb) q.1.num q.1.den q.2.num q.2.den]⟩) ?_ ?_
  ·refine aJ [2,3,21] Z ?_
   refine bC ?_ ?_<;>intro h
   ·have hc:=vO h
    by_cases hx1:0<x1
    ·have hx2:¬x2≤0:=fun hh=>hc ⟨hx1,hh⟩
     refine iB ?_
     refine aB r1 ?_
     simp (disch:=omega) [gw,hx1]
     refine aB r2 ?_
     simp (disch:=omega) [gw,hx2]
     refine bL [2,3,33] ?_
     refine bC ?_ ?_<;>intro h
     ·simp at h
     ·refine W.skip ?_
      exact⟨_,aC _ [2,3],_,_,_,_,rfl,by simp,by simp⟩
    ·refine iB ?_
     refine aB r1 ?_
     simp (disch:=omega) [gw,hx1]
     refine bL [2,3,33] ?_
     refine bC ?_ ?_<;>intro h
     ·simp at h
     ·refine W.skip ?_
      exact⟨_,aC _ [2,3],_,_,_,_,rfl,by simp,by simp⟩
   ·refine W.skip ?_
    exact⟨_,aC _ [2,3],_,_,_,_,rfl,by simp,by simp⟩
  rintro _ ⟨v2,v3,rows,clk,rfl,bR,cO⟩
  clear Z e1 e2 r1 r2
  refine W.block ?_
  refine W.bG (fun k σ=>∃(a b:Rat × Rat) (j v2 v3:Nat) (rows:Pm.Rows) (clk:Nat),σ=⟨fa [(2, .ptr 2 v2 0 0),(3, .ptr 3 v3 0 0)],rows,clk⟩∧rows 2=some ⟨v2,49,10,[gS f.l (aT f) a.1.num a.1.den a.2.num a.2.den]⟩∧rows 3=some ⟨v3,49,10,[gS fb.l (aT fb) b.1.num b.1.den b.2.num b.2.den]⟩ ∧
   j7 f (vt (aT f)) a.1 a.2∧j7 fb (vt (aT fb)) b.1 b.2∧(∀x,aY f a x↔aY f p x)∧(∀x,aY fb b x↔aY fb q x)∧Gr D (2^u) j a.1∧Gr D (2^u) j a.2∧Gr D' (2^u) j b.1∧Gr D' (2^u) j b.2∧(a.2-a.1)*2^j≤2^(u+1)∧(b.2-b.1)*2^j≤2^(u+1)∧j+k=J) J ?_ ?_
  ·exact⟨_, .refl,p,q,0,_,_,_,_,rfl,bR,cO,A,B,fun _=>Iff.rfl,fun _=>Iff.rfl,g1,g2,g1',g2',by rw [Rat.pow_zero,Rat.mul_one];exact aus p g1.b g2.b,by rw [Rat.pow_zero,Rat.mul_one];exact aus q g1'.b g2'.b,by omega⟩
  rintro k _ ⟨a,b,j,v2,v3,rows,clk,rfl,bR,cO,HA,HB,ha,hb,ga1,ga2,gb1,gb2,wa,wb,hjk⟩
  have s1:=sqA D hD1 AL j a.1 (by omega) ga1
  have s2:=sqA D hD1 AL j a.2 (by omega) ga2
  have s3:=sqA D' T7 T8 j b.1 (by omega) gb1
  have s4:=sqA D' T7 T8 j b.2 (by omega) gb2
  have e1:=sN (f:=f) (c:=aT f) s1 s2 hJ2
  have e2:=sN (f:=fb) (c:=aT fb) s3 s4 hJ2
  rw [qZ]at e1 e2
  simp only [gS]at e1 e2 bR cO
  refine W.block ?_
  refine W.seq ?_
  by_cases XC:a.1=a.2∨b.1=b.2
  ·have C:=aeA I I' HA HB s1 s2 s3 s4 hJ2 XC
   rw [gY ha hb,qZ,qZ]at C
   simp only [gS]at C
   by_cases h1:a.1=a.2
   ·rw [decide_eq_true h1]at e1
    refine W.sr ?_
    simp (disch:=omega) [gw,bR]
    refine bS [2,3,39] e1 ?_
    refine bC ?_ ?_<;>intro h
    ·refine W.sr ?_
     simp (disch:=omega) [gw,bR,cO]
     refine bS [4] C ?_
     exact bV
    ·simp at h
   ·rw [decide_eq_false h1]at e1
    rw [decide_eq_true (XC.resolve_left h1)]at e2
    refine W.sr ?_
    simp (disch:=omega) [gw,bR,cO]
    refine aB e1 ?_
    simp (disch:=omega) [gw,bR,cO]
    refine bS [2,3,39] e2 ?_
    refine bC ?_ ?_<;>intro h
    ·refine W.sr ?_
     simp (disch:=omega) [gw,bR,cO]
     refine bS [4] C ?_
     exact bV
    ·simp at h
  ·obtain⟨h1,h2⟩:=not_or.1 XC
   rw [decide_eq_false h1]at e1
   rw [decide_eq_false h2]at e2
   have hal:a.1<a.2:=by have:=HA.le;grind
   have hbl:b.1<b.2:=by have:=HB.le;grind
   have m1:=mB a.2 b.1 (s2.yy hJ2) (s3.yy hJ2)
   have m2:=mB b.2 a.1 (s4.yy hJ2) (s1.yy hJ2)
   rw [cW,cW]at m1 m2
   refine W.sr ?_
   simp (disch:=omega) [gw,bR,cO]
   refine aB e1 ?_
   simp (disch:=omega) [gw,bR,cO]
   refine bS [2,3,39] e2 ?_
   refine bC ?_ ?_<;>intro h
   ·simp at h
   refine W.skip ?_
   refine W.seq ?_
   refine W.sr ?_
   simp (disch:=omega) [gw,bR,cO]
   refine bS [2,3,48] m1 ?_
   refine bC ?_ ?_<;>intro h
   ·simp at h
    rw [jC]at h
    have hcu:cu (aY f p) (aY fb q) = -1:=by rw [←gY ha hb];exact aun HB h hbl
    rw [hcu]
    refine aA [4] ?_
    exact bV
   ·simp at h
    rw [←Int.not_le,jC]at h
    have gJ:=Rat.not_le.1 h
    refine W.skip ?_
    refine W.seq ?_
    refine W.sr ?_
    simp (disch:=omega) [gw,bR,cO]
    refine bS [2,3,54] m2 ?_
    refine bC ?_ ?_<;>intro h
    ·simp at h
     rw [jC]at h
     have hcu:cu (aY f p) (aY fb q)=1:=by rw [←gY ha hb];exact auo HA HB h hal
     rw [hcu]
     refine aA [4] ?_
     exact bV
    ·simp at h
     rw [←Int.not_le,jC]at h
     have hba:=Rat.not_le.1 h
     have hk:k≠0:=fun zK=>by
      have hjJ:j=J:=by omega
      refine pJ fun x=>?_
      have hP:=eK j
      have hW:∀w:Rat,w*2^j≤2^(u+1)→w≤2^(u+1)/2^j:=fun w hw=>Rat.not_lt.1 fun dA=>by
       have e0:(2:Rat)^(u+1)/2^j*2^j=2^(u+1):=Rat.div_mul_cancel (Rat.ne_of_gt hP)
       have:=Rat.mul_lt_mul_of_pos_right dA hP
       grind
      have:=aal (W:=2^(u+1)/2^j) T HA HB hal hbl hba gJ ga1.b ga2.b gb1.b gb2.b (hW _ wa) (hW _ wb) (by
       have e0:(2:Rat)^(u+1)/2^j*2^j=2^(u+1):=Rat.div_mul_cancel (Rat.ne_of_gt hP)
       have e3:(2:Rat)^j=2^kc S N u*2^(u+2):=by rw [←oX,hjJ,hJ];congr 1
       have e4:(2:Rat)^(u+2)=2^(u+1)*2:=by rw [←Rat.pow_succ]
       have hQ:=eK (kc S N u)
       have hR:=eK (u+1)
       rw [e4]at e3
       generalize (2:Rat)^(u+1)/2^j=W at *
       rw [e3]at e0
       generalize (2:Rat)^kc S N u=κ at *
       generalize (2:Rat)^(u+1)=R at *
       have e5:R*(2*W*κ)=R*1:=by grind
       have e6:=Rat.le_of_mul_le_mul_left (show R*(2*W*κ)≤R*1 by rw [e5];exact Rat.le_refl) hR
       exact e6) x
      exact(ha x).symm.trans (this.trans (hb x))
     obtain⟨k',rfl⟩:∃k',k=k'+1:=⟨k-1,by omega⟩
     have ma:=ga1.FD ga2
     have mb:=gb1.FD gb2
     have H1:=I.akz (u:=u+1+2*u+J+1) (Rat.le_of_lt hal) s1 s2 (sqA D hD1 AL (j+1) _ (by omega) ma) (sqS D hD1 AL j _ _ (by omega) ga1 ga2) hJ2
     have H2:=I'.akz (u:=u+1+2*u+J+1) (Rat.le_of_lt hbl) s3 s4 (sqA D' T7 T8 (j+1) _ (by omega) mb) (sqS D' T7 T8 j _ _ (by omega) gb1 gb2) hJ2
     obtain⟨ha1,ha2⟩:=W8 HA
     obtain⟨IF,xV⟩:=W8 HB
     obtain⟨ga3,ga4,wa'⟩:=akD (f:=f) ga1 ga2 (Rat.le_of_lt hal)
     obtain⟨gb3,gb4,wb'⟩:=akD (f:=fb) gb1 gb2 (Rat.le_of_lt hbl)
     rw [qZ,qZ]at H1 H2
     simp only [gS]at H1 H2
     have hwd:∀w w':Rat,w*2^j≤2^(u+1)→w'*2≤w→w'*2^(j+1)≤2^(u+1):=fun w w' g1 g2=>by
      have hP:=eK j
      have g3:=Rat.mul_le_mul_of_nonneg_right g2 (Rat.le_of_lt hP)
      rw [Rat.pow_succ]
      grind
     have wa2:=hwd _ _ wa wa'
     have wb2:=hwd _ _ wb wb'
     have ha3:∀x,aY f (hv f a) x↔aY f p x:=fun x=>(ha2 x).trans (ha x)
     have hb3:∀x,aY fb (hv fb b) x↔aY fb q x:=fun x=>(xV x).trans (hb x)
     generalize hv f a=a' at *
     generalize hv fb b=b' at *
     refine W.skip ?_
     refine W.P5 (fun K hK=>?_)
     simp (disch:=omega) [gw,bR,cO]
     refine aB H1 ?_
     simp (disch:=omega) [gw,bR,cO]
     refine aB H2 ?_
     (try (refine a9 (of_decide_eq_true (by kernel_rfl)) ?_));(try simp (maxSteps:=4000000) (disch:=omega) [gw,bR,cO,gB]);(repeat rw [if_pos (by kernel_rfl)]);(try simp (maxSteps:=4000000) (disch:=omega) [gw,bR,cO,gB])
     (try (refine a9 (of_decide_eq_true (by kernel_rfl)) ?_));(try simp (maxSteps:=4000000) (disch:=omega) [gw,bR,cO,gB]);(repeat rw [if_pos (by kernel_rfl)]);(try simp (maxSteps:=4000000) (disch:=omega) [gw,bR,cO,gB])
     (try (refine a9 (of_decide_eq_true (by kernel_rfl)) ?_));(try simp (maxSteps:=4000000) (disch:=omega) [gw,bR,cO,gB]);(repeat rw [if_pos (by kernel_rfl)]);(try simp (maxSteps:=4000000) (disch:=omega) [gw,bR,cO,gB])
     refine hK _ ⟨k',_,aC _ [2,3],by omega,a',b',j+1,_,_,_,_,rfl,by simp,by simp,ha1,IF,ha3,hb3,ga3,ga4,gb3,gb4,wa2,wb2,by omega⟩
end Go.Proofs.YtelhfbikiccfkaaGreat
