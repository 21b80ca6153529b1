import Derived.Test.YtiobceocpabjdaaGreatNam
set_option linter.unusedSimpArgs false
set_option linter.unusedVariables false
namespace Go.Proofs.YtiobceocpabjdaaGreat
open Go Pm
open ZX hiding N W
variable {f:ZX}{c:List ZX}{p:Rat × Rat}{l:List (Rat × Rat)}{n u D β s:Nat}{q lo hi δ:Rat}{x:List Int}{ln ld hn hd z σ:Int}
abbrev rc(q:Rat):List PV:=[aJ aI (aV DD q.num.natAbs), .bool (decide (q.num<0)),aJ aI (aV DD (q.den:Int).natAbs), .bool (decide ((q.den:Int)<0))]
def qa(f:ZX)(c:List ZX)(p:Rat × Rat):List PV:=PI f.l::aJ zq c::(rc p.1++rc p.2)
@[simp] theorem aFb:qa f c p=PI f.l::aJ zq c::(rc p.1++rc p.2):=rfl
@[simp] theorem NG:bP 10 (emap (qa f c) l)=True:=cS fun _=>rfl
@[simp] theorem atk{v e:Nat}:dG (some ⟨v,e,n,emap (qa f c) l⟩)=True:=cM fun _=>rfl
theorem ack:∀x∈emap (qa f c) l,∀p∈x,bE p=true:=fun x hx p hp=>by
 simp only [emap,List.mem_map]at hx
 obtain⟨r,_,rfl⟩:=hx
 simp at hp
 rcases hp with rfl | rfl | rfl | rfl | rfl | rfl | rfl | rfl | rfl | rfl<;>rfl
abbrev QA(f:ZX)(c:List ZX)(p:Rat × Rat):PV:=.ag (qa f c p)
def ex(f:ZX)(p:Rat × Rat):Rat × Rat:=if e p.2 f=0 then(p.2,p.2)else p
theorem SQ.yy(h:SQ u q)(hu:u<=1000000000):ZR YY q:=⟨by have:=h.n2;simp only [YY];omega,by have:=h.d2;simp only [YY];omega⟩
theorem lS{p:Rat}:eA (p.num*q.den) (q.num*p.den)=0↔p=q:=by
 have h1:=mO p q
 have h2:=mO q p
 rw [qF]at h1 h2
 refine⟨fun h=>?_,fun h=>?_⟩
 ·have h:=Pm.C8.1 h
  by_cases h3:p<q
  ·have:=h1.2 h3;omega
  ·rcases Rat.le_iff_lt_or_eq.1 (Rat.not_lt.1 h3)with h4 | h4
   ·have:=h2.2 h4;omega
   ·exact h4.symm
 ·rw [h];exact FW _
abbrev c4(n d:Int):List PV:=[aJ aI (aV DD n.natAbs), .bool (decide (n<0)),aJ aI (aV DD d.natAbs), .bool (decide (d<0))]
theorem Z7(hz:(z != 0)=false)(c1:aC 14 [R2 ln ld,R2 hn hd] (aB z))(s1:aC 77 [PI x,R2 hn hd] (aB σ)) :
  aC 80 [.ag (PI x::aJ zq c::(c4 ln ld++c4 hn hd))] (.ag (PI x::aJ zq c::(c4 ln ld++c4 hn hd))):=by
 simp only [c4]
 apply cG [(0, .ag (PI x::aJ zq c :: [aJ aI (aV DD ln.natAbs), .bool (decide (ln<0)),aJ aI (aV DD ld.natAbs), .bool (decide (ld<0)),aJ aI (aV DD hn.natAbs), .bool (decide (hn<0)),aJ aI (aV DD hd.natAbs), .bool (decide (hd<0))]))] Tryz.func80
 apply cN [1,2]
 apply nB c1
 apply sS hz [1,2,16]
 refine W.cond ⟨_,rfl,fun h=>?_,fun h=>?_⟩
 ·simp at h
 ·apply W.skip
  exact eY [2]
theorem aja(hz:(z != 0)=true)(hs:(σ==0)=false)(c1:aC 14 [R2 ln ld,R2 hn hd] (aB z))(s1:aC 77 [PI x,R2 hn hd] (aB σ)) :
  aC 80 [.ag (PI x::aJ zq c::(c4 ln ld++c4 hn hd))] (.ag (PI x::aJ zq c::(c4 ln ld++c4 hn hd))):=by
 simp only [c4]
 apply cG [(0, .ag (PI x::aJ zq c :: [aJ aI (aV DD ln.natAbs), .bool (decide (ln<0)),aJ aI (aV DD ld.natAbs), .bool (decide (ld<0)),aJ aI (aV DD hn.natAbs), .bool (decide (hn<0)),aJ aI (aV DD hd.natAbs), .bool (decide (hd<0))]))] Tryz.func80
 apply cN [1,2]
 apply nB c1
 apply j0 hz s1
 apply sS hs [1,2,16]
 refine W.cond ⟨_,rfl,fun h=>?_,fun h=>?_⟩
 ·simp at h
 ·apply W.skip
  exact eY [2]
theorem aeD(hz:(z != 0)=true)(hs:(σ==0)=true)(c1:aC 14 [R2 ln ld,R2 hn hd] (aB z))(s1:aC 77 [PI x,R2 hn hd] (aB σ)) :
  aC 80 [.ag (PI x::aJ zq c::(c4 ln ld++c4 hn hd))] (.ag (PI x::aJ zq c::(c4 hn hd++c4 hn hd))):=by
 simp only [c4]
 apply cG [(0, .ag (PI x::aJ zq c :: [aJ aI (aV DD ln.natAbs), .bool (decide (ln<0)),aJ aI (aV DD ld.natAbs), .bool (decide (ld<0)),aJ aI (aV DD hn.natAbs), .bool (decide (hn<0)),aJ aI (aV DD hd.natAbs), .bool (decide (hd<0))]))] Tryz.func80
 apply cN [1,2]
 apply nB c1
 apply j0 hz s1
 apply sS hs [1,2,16]
 refine W.cond ⟨_,rfl,fun h=>?_,fun h=>?_⟩
 ·refine W.bY (fun K hK=>?_);simp (disch:=omega) [gw]
  refine W.lw [1,2] hK ?_;clear hK K;simp
  exact eY [2]
 ·simp at h
theorem qS:QA f c p = .ag (PI f.l::aJ zq c::(c4 p.1.num p.1.den++c4 p.2.num p.2.den)):=rfl
theorem NH(hb:BZ 4500000000 n f)(hn:n<=20)(q1:SQ u p.1)(q2:SQ u p.2)(hu:u<=1000000000):aC 80 [QA f c p] (QA f c (ex f p)):=by
 have c1:=oW p.1 p.2 (q1.yy hu) (q2.yy hu)
 have hmul:n*(u+1)<=20*(u+1):=Nat.mul_le_mul_right _ hn
 have s1:=xP hb q2.n2 q2.d2 q2.hu aA (by show _<137438953472;omega)
 rw [B6]at s1
 rw [cU,cU]at c1
 by_cases h:p.1=p.2
 ·have he:ex f p=p:=by
   unfold ex;split
   ·exact Prod.ext h.symm rfl
   ·rfl
  rw [he,qS]
  exact Z7 (by rw [lS.2 h];rfl) c1 s1
 ·have hz:(eA (p.1.num*p.2.den) (p.2.num*p.1.den) != 0)=true:=bne_iff_ne.2 fun h0=>h (lS.1 h0)
  by_cases h2:e p.2 f=0
  ·rw [show ex f p=(p.2,p.2)from if_pos h2,qS,qS]
   exact aeD hz (by rw [h2,kI];rfl) c1 s1
  ·rw [show ex f p=p from if_neg h2,qS]
   exact aja hz (by simp only [beq_eq_false_iff_ne];exact fun h0=>h2 (fT.1 h0)) c1 s1
theorem Z8(B:aC 76 [aJ zq c,RR lo,RR hi] (aB 0)):jZ env.P 184 [PI f.l,aJ zq c,RR lo,RR hi] 49 10 []:=by
 rw [cU,cU]at B |-
 generalize lo.num=ln at *
 generalize (lo.den:Int)=ld at *
 generalize hi.num=hn at *
 generalize (hi.den:Int)=hd at *
 refine kE (E:=env) (fun id=>if id=7 then 2 else 0) (t:=8) [(0,PI f.l),(1,aJ zq c),(2,R2 ln ld),(3,R2 hn hd)] Tryz.func184 rfl cT cT (show 4<=40 by decide) rfl aG ?_
 apply gJ [0,1,6,7] B [0,1,6,7,9]
 apply cQ [0,1,6,7,9,16]
 refine W.cond ⟨_,rfl,fun h=>?_,fun h=>?_⟩
 ·apply aQ [8]
  refine W.nil 8 8 49 10 aG aF fun K hK=>?_
  simp
  refine hK _ ?_
  apply W.ret
  exact⟨8,_,by simp;exact rfl,aG,fun x hx=>by cases hx⟩
 ·simp at h
theorem aeE(B:aC 76 [aJ zq c,RR lo,RR hi] (aB 1))(X:aC 80 [QA f c (lo,hi)] (QA f c (ex f (lo,hi)))):jZ env.P 184 [PI f.l,aJ zq c,RR lo,RR hi] 49 10 (emap (qa f c) [ex f (lo,hi)]):=by
 rw [show emap (qa f c) [ex f (lo,hi)] = [qa f c (ex f (lo,hi))]from rfl]
 rw [cU,cU]at *
 generalize hy:ex f (lo,hi)=y at *
 rw [qS,qS]at X
 rw [show qa f c y=PI f.l::aJ zq c::(c4 y.1.num y.1.den++c4 y.2.num y.2.den)from rfl]
 simp only [c4,List.cons_append,List.nil_append]at X |-
 clear hy
 generalize y.1.num=an at *
 generalize (y.1.den:Int)=ad at *
 generalize y.2.num=bn at *
 generalize (y.2.den:Int)=bd at *
 generalize lo.num=ln at *
 generalize (lo.den:Int)=ld at *
 generalize hi.num=hn at *
 generalize (hi.den:Int)=hd at *
 refine kE (E:=env) (fun id=>if id=7 then 2 else 0) (t:=8) [(0,PI f.l),(1,aJ zq c),(2,R2 ln ld),(3,R2 hn hd)] Tryz.func184 rfl cT cT (show 4<=40 by decide) rfl aG ?_
 apply gJ [0,1,6,7] B [0,1,6,7,9]
 apply cQ [0,1,6,7,9,16]
 refine W.cond ⟨_,rfl,fun h=>?_,fun h=>?_⟩
 ·simp at h
 apply (pK)
 apply aQ [0,1,6,7,18]
 refine W.cond ⟨_,rfl,fun h=>?_,fun h=>?_⟩
 ·refine W.aiw 6 rfl rfl fun K hK=>?_
  apply o9 X
  refine W.lw [8] hK ?_;clear hK K;simp
  apply W.ret
  exact⟨25,_,by simp;exact rfl,aG,fun x hx p hp=>by
   simp at hx;subst hx
   simp at hp
   rcases hp with rfl | rfl | rfl | rfl | rfl | rfl | rfl | rfl | rfl | rfl<;>rfl⟩
 ·simp at h
theorem Z9{n:Int}{la lb:List (Rat × Rat)}(hn:2<=n∧n<=21)(YJ:la.length<=21)(hlb:lb.length<=21)
  (M:aC 204 [RR lo,RR hi] (RR ((lo+hi)/2))) (B:aC 76 [aJ zq c,RR lo,RR hi] (aB n))
  (h1:jZ env.P 184 [PI f.l,aJ zq c,RR lo,RR ((lo+hi)/2)] 49 10 (emap (qa f c) la)) (h2:jZ env.P 184 [PI f.l,aJ zq c,RR ((lo+hi)/2),RR hi] 49 10 (emap (qa f c) lb)) :
  jZ env.P 184 [PI f.l,aJ zq c,RR lo,RR hi] 49 10 (emap (qa f c) (la++lb)):=by
 rw [<-EN]
 have el1:(emap (qa f c) la).length<=21:=by simpa [emap]using YJ
 have el2:(emap (qa f c) lb).length<=21:=by simpa [emap]using hlb
 have p1:=ack (f:=f) (c:=c) (l:=la)
 have p2:=ack (f:=f) (c:=c) (l:=lb)
 have a1:bP 10 (emap (qa f c) la)=True:=NG
 have a2:bP 10 (emap (qa f c) lb)=True:=NG
 simp only [cU]at *
 generalize ((lo+hi)/2).num=mn at *
 generalize (((lo+hi)/2).den:Int)=md at *
 generalize lo.num=ln at *
 generalize (lo.den:Int)=ld at *
 generalize hi.num=FE at *
 generalize (hi.den:Int)=hd at *
 generalize emap (qa f c) la=ea at *
 generalize emap (qa f c) lb=eb at *
 refine kE (E:=env) (fun id=>if id=7 then 2 else 0) (t:=8) [(0,PI f.l),(1,aJ zq c),(2,R2 ln ld),(3,R2 FE hd)] Tryz.func184 rfl cT cT (show 4<=40 by decide) rfl aG ?_
 apply gJ [0,1,6,7] B [0,1,6,7,9]
 apply cQ [0,1,6,7,9,16]
 refine W.cond ⟨_,rfl,fun h=>?_,fun h=>?_⟩
 ·simp at h;omega
 apply (pK)
 apply aQ [0,1,6,7,18]
 refine W.cond ⟨_,rfl,fun h=>?_,fun h=>?_⟩
 ·simp at h;omega
 apply W.skip
 apply cK M [0,1,6,7,10]
 apply W.sd
 rw [if_pos rfl,gO]
 apply (cV)
 refine L7 h1 rfl trivial ?_
 simp (disch:=omega) [gw,i3]
 refine L7 h2 rfl trivial ?_
 simp (disch:=omega) [gw,a1,a2,i3]
 apply cO [8]
 apply W.ret
 exact⟨33,_,by simp;exact rfl,aG,fun x hx=>by
  rcases List.mem_append.1 hx with hx | hx
  ·exact p1 x hx
  ·exact p2 x hx⟩
theorem Gr.add{j:Nat}{p:Rat}(hp:Gr D (2^β) j p)(hq:Gr D (2^β) j q):Gr D (2^(β+1)) j (p+q):=by
 obtain⟨⟨y,hy⟩,b1,b2⟩:=hp
 obtain⟨⟨z,hz⟩,b3,b4⟩:=hq
 refine⟨⟨y+z,?_⟩,?_⟩
 ·rw [Rat.intCast_add,<-hy,<-hz];grind
 ·rw [Rat.pow_succ];exact⟨aT,aT⟩
theorem aeF(I:nX s n f){d J:Nat}(CT:1<=D)(hD:D<=2^d)(C:Cut (vt (aO f)) (2^β) δ)(hu:β+1+d+J+1<=1000000000):∀(k j:Nat) (lo hi:Rat),j+k<=J->Gr D (2^β) j lo->Gr D (2^β) j hi->lo<hi->hi-lo<=δ*2^k ->
  jZ env.P 184 [PI f.l,aJ zq (aO f),RR lo,RR hi] 49 10 (emap (qa f (aO f)) ((KC (vt (aO f)) k lo hi).map (ex f))):=by
 have hbt:∀(j:Nat) (lo hi:Rat),j<=J->Gr D (2^β) j lo->Gr D (2^β) j hi->lo<hi->aC 76 [aJ zq (aO f),RR lo,RR hi] (aB ((vt (aO f) lo:Int)-vt (aO f) hi)):=fun j lo hi hj g1 g2 c8=>by
  have:=Z6 I.hb I.ch.hn I.hl ((g1.mono hj).sq CT hD) ((g2.mono hj).sq CT hD) aA
  rwa [if_neg (Rat.not_lt.2 (Rat.le_of_lt c8))]at this
 have leaf:∀(j:Nat) (lo hi:Rat),j<=J->Gr D (2^β) j lo->Gr D (2^β) j hi->lo<hi->vt (aO f) lo=vt (aO f) hi+1->jZ env.P 184 [PI f.l,aJ zq (aO f),RR lo,RR hi] 49 10 (emap (qa f (aO f)) ([(lo,hi)].map (ex f))):=fun j lo hi hj g1 g2 c8 he=>by
  have h1:=hbt j lo hi hj g1 g2 c8
  rw [show(vt (aO f) lo:Int)-vt (aO f) hi=1 by omega]at h1
  exact aeE h1 (NH (I.ch.bz.mono (by have:=I.hs;omega) (Nat.le_refl _)) I.ch.hn ((g1.mono hj).sq CT hD) ((g2.mono hj).sq CT hD) aA)
 have VN:∀(j:Nat) (lo hi:Rat),j<=J->Gr D (2^β) j lo->Gr D (2^β) j hi->lo<hi->vt (aO f) lo=vt (aO f) hi->jZ env.P 184 [PI f.l,aJ zq (aO f),RR lo,RR hi] 49 10 (emap (qa f (aO f)) ([].map (ex f))):=fun j lo hi hj g1 g2 c8 he=>by
  have h1:=hbt j lo hi hj g1 g2 c8
  rw [show(vt (aO f) lo:Int)-vt (aO f) hi=0 by omega]at h1
  exact Z8 h1
 intro k
 induction k with
 | zero =>
  intro j lo hi hj g1 g2 c8 hd
  rw [KC]
  by_cases he:vt (aO f) lo=vt (aO f) hi
  ·rw [if_pos he];exact VN j lo hi aA g1 g2 c8 he
  ·rw [if_neg he];exact leaf j lo hi aA g1 g2 c8 (C.leaf g1.b g2.b c8 (by rw [Rat.pow_zero,Rat.mul_one]at hd;exact hd) he)
 | succ k ih =>
  intro j lo hi hj g1 g2 c8 hd
  rw [KC]
  by_cases he:vt (aO f) lo=vt (aO f) hi
  ·rw [if_pos he];exact VN j lo hi aA g1 g2 c8 he
  ·rw [if_neg he]
   by_cases I7:vt (aO f) lo=vt (aO f) hi+1
   ·rw [if_pos I7];exact leaf j lo hi aA g1 g2 c8 I7
   ·rw [if_neg I7]
    obtain⟨m1,m2⟩:=sJ c8
    obtain⟨d1,d2⟩:=wP hd
    have gm:=g1.IC g2
    have n1:=C.bU lo ((lo+hi)/2) (Rat.le_of_lt m1)
    have n2:=C.bU ((lo+hi)/2) hi (Rat.le_of_lt m2)
    have hv1:=Nat.le_trans (aiU (aO f) lo) I.hl
    obtain⟨_,a2,_⟩:=rW C k (j+1) lo ((lo+hi)/2) (g1.mono aA) gm m1 d1
    obtain⟨_,b2,_⟩:=rW C k (j+1) ((lo+hi)/2) hi gm (g2.mono aA) m2 d2
    have r1:=ih (j+1) lo ((lo+hi)/2) aA (g1.mono aA) gm m1 d1
    have r2:=ih (j+1) ((lo+hi)/2) hi aA gm (g2.mono aA) m2 d2
    have q1:SQ (β+1+d+J+1) lo:=((g1.mono (show j<=J by omega)).sq CT hD).mono aA
    have q2:SQ (β+1+d+J+1) hi:=((g2.mono (show j<=J by omega)).sq CT hD).mono aA
    have q3:SQ (β+1+d+J+1) (lo+hi):=((g1.add g2).mono (show j<=J by omega)).sq CT hD
    have hM:=VL (q1.yy hu) (q2.yy hu) (q3.yy hu)
    have hB:=hbt j lo hi aA g1 g2 c8
    rw [List.map_append]
    exact Z9 (n:=(vt (aO f) lo:Int)-vt (aO f) hi) aA (by rw [List.length_map];omega) (by rw [List.length_map];omega) hM hB r1 r2
def lvl(s n:Nat):Nat:=lk s n 5 (s+1)+s+2
theorem aaa(hn:n<=20):lvl s n<=102*s+720:=by
 have h1:(n+n)*(s+5+2+(5+1))<=40*(s+13):=Nat.mul_le_mul aA aA
 have h2:(n+n)*(s+1+2)<=40*(s+3):=Nat.mul_le_mul aA aA
 have h3:n*(s+1+2)<=20*(s+3):=Nat.mul_le_mul hn aA
 unfold lvl lk sk
 omega
def uu(s:Nat):Nat:=105*s+800
namespace nX
variable {s n:Nat} {f:ZX} (I:nX s n f)
include I
theorem f0:f.l ≠ []:=x7 I.nf.ne
theorem wQ:1<=(lead f.l).natAbs∧(lead f.l).natAbs<=2^s:=by
 have h1:=dO f.c (List.length_pos_iff.2 I.f0)
 have h2:=kB (b:=2) aF (lead f.l)
 have h3:=Nat.pow_le_pow_right (show 0<2 by decide) (iX I.ch.bz)
 omega
theorem azN:1<=jE f.l:=(pR f.c I.f0 (t:=jE f.l) (.inr Rat.le_refl)).2
theorem ajb:Ab (jE f.l) (2^(s+1)):=by
 have h1:=DQ f.c I.f0
 have hL:(1:Rat)<=(((lead f.l).natAbs:Int):Rat):=fU (by have:=I.wQ.1;omega)
 have h2:=Rat.div_mul_cancel (a:=((oI f.l (f.l.length-1):Int):Rat)) (b:=(((lead f.l).natAbs:Int):Rat)) aT
 have h3:=I.azN
 have h4:((oI f.l (f.l.length-1):Int):Rat)<=2^s:=by
  have h5:=kB (b:=2) aF (oI f.l (f.l.length-1))
  have h6:=Nat.pow_le_pow_right (show 0<2 by decide) (zZ I.ch.bz (f.l.length-1))
  exact(NC (s:=s) aA).2
 have h7:=uF s
 rw [Rat.pow_succ]
 generalize (2:Rat)^s=T at *
 generalize ((oI f.l (f.l.length-1):Int):Rat)=m at *
 have hw:m/(((lead f.l).natAbs:Int):Rat)<=T:=by
  refine Rat.not_lt.1 fun h=>?_
  have h8:=Rat.mul_le_mul_of_nonneg_left hL (show 0<=m/(((lead f.l).natAbs:Int):Rat)by grind)
  grind
 exact⟨aT,aT⟩
theorem DV:Gr (lead f.l).natAbs (2^(s+1)) 0 (jE f.l):=by
 refine⟨⟨((lead f.l).natAbs:Int)+oI f.l (f.l.length-1),?_⟩,I.ajb⟩
 have hL:(1:Rat)<=(((lead f.l).natAbs:Int):Rat):=fU (by have:=I.wQ.1;omega)
 have h1:=DQ f.c I.f0
 have h2:=Rat.div_mul_cancel (a:=((oI f.l (f.l.length-1):Int):Rat)) (b:=(((lead f.l).natAbs:Int):Rat)) aT
 rw [Nat.pow_zero,Nat.mul_one,Rat.intCast_add,h1]
 grind
theorem GH:Gr (lead f.l).natAbs (2^(s+1)) 0 (-jE f.l):=by
 obtain⟨⟨z,hz⟩,h1,h2⟩:=I.DV
 exact⟨⟨-z,by rw [Rat.intCast_neg,<-hz];grind⟩,aT,aT⟩
theorem count:(vr (sgL (aO f)):Int)-vr (sgR (aO f))=(vt (aO f) (-jE f.l):Int)-vt (aO f) (jE f.l):=by
 have hG:=I.QM
 have h1:vr (sgR (aO f))=vt (aO f) (jE f.l):=ZY hG fun b=>⟨1,aF,fun x h2 _=>(pR f.c I.f0 (.inr h2)).1⟩
 have h2:vr (sgL (aO f))=vt (aO f) (-jE f.l):=aeA hG fun b=>⟨1,aF,fun x _ h2=>(pR f.c I.f0 (.inl h2)).1⟩
 rw [h1,h2]
theorem VQ : -jE f.l<jE f.l:=by have:=I.azN;grind
end nX
def GI(s n:Nat)(f:ZX):List (Rat × Rat):=KC (vt (aO f)) (lvl s n) (-jE f.l) (jE f.l)
structure Ivs(f:ZX)(u:Nat)(lo hi:Rat)(l:List (Rat × Rat)):Prop where
 mem:∀p∈l,SQ u p.1∧SQ u p.2∧lo<=p.1∧p.1<p.2∧p.2<=hi∧vt (aO f) p.1=vt (aO f) p.2+1
 len:l.length=vt (aO f) lo-vt (aO f) hi
 FN:l.Pairwise fun p q=>p.2<=q.1
theorem nX.width(I:nX s n f)(hδ:δ*2^lk s n 5 (s+1)=1):jE f.l - -jE f.l<=δ*2^lvl s n:=by
 have h1:=I.ajb.2
 unfold lvl
 rw [show lk s n 5 (s+1)+s+2=lk s n 5 (s+1)+(s+1+1)by omega,sH,<-Rat.mul_assoc,hδ,Rat.one_mul,Rat.pow_succ]
 grind
theorem nX.ivs(I:nX s n f):Ivs f (uu s) (-jE f.l) (jE f.l) (GI s n f):=by
 obtain⟨δ,h1,h2,C⟩:=I.cut (s+1)
 have hl:=aaa (s:=s) I.ch.hn
 obtain⟨a1,a2,a3⟩:=rW C (lvl s n) 0 _ _ I.GH I.DV I.VQ (I.width h2)
 refine⟨fun p hp=>?_,a2,a3⟩
 obtain⟨b1,b2,b3⟩:=a1 p hp
 obtain⟨l1,l2⟩:=I.wQ
 exact⟨(b1.sq l1 l2).mono (by unfold uu;omega),(b2.sq l1 l2).mono (by unfold uu;omega),b3⟩
theorem xT(I:nX s n f):(GI s n f).length<=21:=by
 have:=I.ivs.len
 have h1:=Nat.le_trans (aiU (aO f) (-jE f.l)) I.hl
 omega
theorem aab{α:Type}{g:α->List PV}{l:List α}(hS:aC 70 [aJ g l] (Po f.l))(I:nX s n f):aC 18 [aJ g l] (.dK [aJ (ga f) (GI s n f),aB 0]):=by
 have hs:=I.hs
 have hn:=I.ch.hn
 have N1:=QJ hS I.ch I.nf
 have P1:=fG (x:=f.l) (I.ch.bz.pb aA aA)
 rw [f.c]at P1
 have B1:=ZZ P1 f.c I.f0 (RW I.ch.bz) aA aA
 obtain⟨l1,l2⟩:=I.wQ
 have qb:=(I.DV.sq l1 l2).mono (show s+1+s+0+1<=uu s by unfold uu;omega)
 have hu:uu s<=1000000000:=by unfold uu;omega
 have M1:=aeB (qb.LLt (show uu s<1099511627770 by omega))
 have C1:=ZS (c:=aO f) (by have:=I.hl;omega) (pbs I.hb hn)
 rw [I.count]at C1
 obtain⟨δ,h1,h2,C⟩:=I.cut (s+1)
 have hl:=aaa (s:=s) hn
 have R1:=ai6 I l1 l2 C (J:=lvl s n) aA (lvl s n) 0 _ _ aA I.GH I.DV I.VQ (I.width h2)
 rw [show KC (vt (aO f)) (lvl s n) (-jE f.l) (jE f.l)=GI s n f from rfl]at R1
 have hlen:=xT I
 have el:(emap (ga f) (GI s n f)).length<=21:=by simpa [emap]using hlen
 have pe:=QX (f:=f) (l:=GI s n f)
 have a1:bP 9 (emap (ga f) (GI s n f))=True:=DU
 replace B1:aC 71 [Po f.l] (.dK [T2 (jE f.l).num (jE f.l).den,aB 0]):=B1
 replace M1:aC 73 [T2 (jE f.l).num (jE f.l).den] (T2 (-jE f.l).num (-jE f.l).den):=M1
 replace R1:jZ env.P 72 [Po f.l,CH (aO f),T2 (-jE f.l).num (-jE f.l).den,T2 (jE f.l).num (jE f.l).den,aB ((vt (aO f) (-jE f.l):Int)-vt (aO f) (jE f.l))] 54 9 (emap (ga f) (GI s n f)):=R1
 generalize GI s n f=L at *
 generalize (vt (aO f) (-jE f.l):Int)-vt (aO f) (jE f.l)=cn at *
 generalize aO f=c at *
 generalize (-jE f.l).num=mn at *
 generalize ((-jE f.l).den:Int)=md at *
 generalize (jE f.l).num=bn at *
 generalize ((jE f.l).den:Int)=bd at *
 apply cG [(0,aJ g l)] Tryz.func18
 apply gJ [0] N1 [0,4,5]
 apply cQ [0,4,5,15]
 refine W.cond ⟨_,rfl,fun h=>?_,fun h=>?_⟩
 ·simp at h
 apply W.skip
 apply cK hS [4,6]
 apply cK B1 [4,6,7]
 apply W.sd
 apply fV M1 C1
 apply (cV)
 refine L7 R1 rfl trivial ?_
 apply bT [2,3]
 refine W.O0 31 aG fun K hK=>?_
 simp
 refine hK _ ?_
 exact j8
theorem JN(hS:aC 158 [PI x] (PI f.l))(hC:aC 81 [PI x] (aJ zq (aO f)))(I:nX s n f)(sX:1<=s):aC 101 [PI x] (aJ (qa f (aO f)) ((GI s n f).map (ex f))):=by
 have hs:=I.hs
 have hn:=I.ch.hn
 have B1:=Z2 f.c I.f0 I.ch.bz sX aA aA
 obtain⟨l1,l2⟩:=I.wQ
 have M1:=IF (jE f.l)
 obtain⟨δ,h1,h2,C⟩:=I.cut (s+1)
 have hl:=aaa (s:=s) hn
 have R1:=aeF I l1 l2 C (J:=lvl s n) aA (lvl s n) 0 _ _ aA I.GH I.DV I.VQ (I.width h2)
 rw [show KC (vt (aO f)) (lvl s n) (-jE f.l) (jE f.l)=GI s n f from rfl]at R1
 have hlen:=xT I
 rw [cU]at B1 M1
 rw [cU]at M1
 simp only [cU]at R1
 generalize (GI s n f).map (ex f)=L at *
 generalize aO f=c at *
 generalize (-jE f.l).num=mn at *
 generalize ((-jE f.l).den:Int)=md at *
 generalize (jE f.l).num=bn at *
 generalize ((jE f.l).den:Int)=bd at *
 apply cG [(0,PI x)] Tryz.func101
 apply gJ [0] hS [0,3]
 apply cK hC [3,4]
 apply cK B1 [3,4,5]
 apply W.sd
 apply o9 M1
 refine L7 R1 rfl trivial ?_
 apply bT [2]
 refine W.O0 17 aG fun K hK=>?_
 simp
 refine hK _ ?_
 exact j8
end Go.Proofs.YtiobceocpabjdaaGreat
namespace Go.Proofs.YtiobceocpabjdaaGreat
open Go Pm
open ZX hiding N W
variable {u:Nat}{p:Rat × Rat}{q:Rat}{f:ZX}
theorem atl(f:ZX):nl f=1↔2<=ZX.N f∧ZX.N (gz f (cD f))<=1:=by
 obtain⟨h1,h2⟩:=nR f
 refine⟨fun h=>?_,fun⟨h3,h4⟩=>?_⟩
 ·rw [h]at h1 h2
  exact⟨h2 0 aA,h1⟩
 ·have h5:0<nl f:=azc fun j hj=>by rw [show j=0 by omega];exact h3
  rcases Nat.lt_or_ge 1 (nl f)with h6 | h6
  ·have h7:2<=ZX.N (gz f (cD f)):=h2 1 h6
   omega
  ·omega
abbrev GA(f:ZX)(p:Rat × Rat):PV:=.ag (ga f p)
namespace nX
variable {s n:Nat} {f:ZX} (I:nX s n f)
include I
theorem apy:aC 79 [Po f.l] (PI f.l):=by
 have hs:=I.hs
 have hn:=I.ch.hn
 have b:=RW I.ch.bz
 have:=adO (f.l.map xZ) ⟨fun c hc=>by
  simp only [List.mem_map]at hc
  obtain⟨x,hx,rfl⟩:=hc
  exact⟨gZ iT _,Nat.lt_of_le_of_lt (b.sz x hx) aA⟩,by rw [List.length_map];exact Nat.lt_of_le_of_lt b.len aA⟩
 rw [cZ,<-lM,show aZ f.l=f.l from f.c]at this
 exact this
theorem azP:aC 78 [PI f.l] (PI f.l):=by
 have:=oG I.ch.bz I.s1 (by have:=I.hs;show s<=137438953472;omega) (by have:=I.ch.hn;omega)
 rwa [I.nf.nfe]at this
theorem acm:aC 158 [PI f.l] (PI f.l):=by
 have:=uB I.lay I.s1
 rwa [I.sq]at this
theorem z6:aC 81 [PI f.l] (aJ zq (aO f)):=E4 I.acm I.ch I.s1
theorem amZ:aC 70 [Po f.l] (Po f.l):=by
 have:=zN I.lay
 rwa [I.sq]at this
theorem apz{t:Rat}(q:SQ u t)(hu:u<=1000000000):aC 77 [PI f.l,RR t] (aB (cP (e t f))):=by
 have hs:=I.hs
 have hn:=I.ch.hn
 have hmul:n*(u+1)<=20*(u+1):=Nat.mul_le_mul_right _ hn
 have s1:=xP I.ch.bz q.n2 q.d2 q.hu aA (by show _<137438953472;omega)
 rw [B6]at s1
 rw [cU]
 exact s1
theorem qT{p:Rat}(hp:SQ u p)(hq:SQ u q)(hu:u<=1000000000):aC 76 [aJ zq (aO f),RR p,RR q] (aB (if q<p then 0 else(vt (aO f) p:Int)-vt (aO f) q)):=Z6 I.hb I.ch.hn I.hl hp hq hu
theorem ajc(q1:SQ u p.1)(q2:SQ u p.2)(hu:u<=1000000000):aC 80 [QA f (aO f) p] (QA f (aO f) (ex f p)):=NH (I.ch.bz.mono (by have:=I.hs;omega) (Nat.le_refl _)) I.ch.hn q1 q2 hu
end nX
theorem SQ.acn(h:SQ u q)(hu:u<=1000000000):aC 82 [RT q] (RR q):=aeC (h.LLt aA) ⟨by have:=h.n2;show _<549755813888;omega,by have:=h.d2;show _<549755813888;omega⟩
theorem nX.ajd{s n:Nat}(I:nX s n f)(q1:SQ u p.1)(q2:SQ u p.2)(hu:u<=1000000000):aC 20 [GA f p] (QA f (aO f) (ex f p)):=by
 have f1:=I.apy
 have f2:=I.azP
 have f3:=I.z6
 have f4:=q1.acn hu
 have f5:=q2.acn hu
 have f6:=I.ajc q1 q2 hu
 generalize ex f p=y at *
 rw [cU]at f4 f5
 rw [qS,qS]at f6
 rw [qS]
 replace f4:aC 82 [T2 p.1.num p.1.den] (R2 p.1.num p.1.den):=f4
 replace f5:aC 82 [T2 p.2.num p.2.den] (R2 p.2.num p.2.den):=f5
 show aC _ [.ag (Po f.l::(tc p.1++tc p.2))] _
 simp only [c4,tc,List.cons_append,List.nil_append]at f6 |-
 generalize aO f=c at *
 generalize p.1.num=an at *
 generalize (p.1.den:Int)=ad at *
 generalize p.2.num=bn at *
 generalize (p.2.den:Int)=bd at *
 generalize y.1.num=yn at *
 generalize (y.1.den:Int)=yd at *
 generalize y.2.num=zn at *
 generalize (y.2.den:Int)=zd at *
 apply cG [(0, .ag [Po f.l, .bool (decide (an<0)),us (aV LL an.natAbs), .bool (decide (ad<0)),us (aV LL ad.natAbs), .bool (decide (bn<0)),us (aV LL bn.natAbs), .bool (decide (bd<0)),us (aV LL bd.natAbs)])] Tryz.func20
 apply aQ [1,2]
 apply n7 f1 f2
 apply bT [1,2,3]
 apply W.sd
 apply fV f3 f4
 apply fV f5 f6
 apply (cV)
 (try (refine aY (of_decide_eq_true cT) ?_));(try simp (maxSteps:=4000000) (disch:=omega) [gw]);(repeat rw [if_pos cT]);(try simp (maxSteps:=4000000) (disch:=omega) [gw])
 exact pJ [2]
theorem pC{c:List ZX}(q1:SQ u p.1)(q2:SQ u p.2)(hu:u<=1000000000):aC 75 [QA f c p] (.bool (decide (p.1=p.2))):=by
 have c1:=oW p.1 p.2 (q1.yy hu) (q2.yy hu)
 have e:decide (p.1=p.2)=(eA (p.1.num*p.2.den) (p.2.num*p.1.den)==0):=by
  rw [Bool.eq_iff_iff];simp only [decide_eq_true_eq,beq_iff_eq];exact lS.symm
 rw [e,qS]
 rw [cU,cU]at c1
 simp only [c4,List.cons_append,List.nil_append]
 generalize eA (p.1.num*p.2.den) (p.2.num*p.1.den)=z at *
 generalize p.1.num=an at *
 generalize (p.1.den:Int)=ad at *
 generalize p.2.num=bn at *
 generalize (p.2.den:Int)=bd at *
 apply cG [(0, .ag [PI f.l,aJ zq c,aJ aI (aV DD an.natAbs), .bool (decide (an<0)),aJ aI (aV DD ad.natAbs), .bool (decide (ad<0)),aJ aI (aV DD bn.natAbs), .bool (decide (bn<0)),aJ aI (aV DD bd.natAbs), .bool (decide (bd<0))])] Tryz.func75
 apply gJ [1] c1 [2]
 exact j8
end Go.Proofs.YtiobceocpabjdaaGreat
namespace Go.Proofs.YtiobceocpabjdaaGreat
open Go Pm
open ZX hiding N W
variable {p:Rat × Rat}{q t a lo hi WJ jF:Rat}{s n u l β:Nat}{f h g:ZX}{w v γ φ:Rat->Nat}{U:Rat->Prop}
theorem iF{p:Rat}:0<eA (p.num*q.den) (q.num*p.den)↔q<p:=by
 rw [qG,<-mO q p,qF]
theorem jC{p:Rat}:eA (p.num*q.den) (q.num*p.den)<0↔p<q:=mO p q
theorem lT{p:Rat}:eA (p.num*q.den) (q.num*p.den)<=0↔p<=q:=by
 rw [<-Int.not_lt,iF,Rat.not_lt]
theorem VR{x:List Int}{c:List ZX}{an ad bn bd tn td zt z1 z2 b σ r:Int}{pt:Bool}(p1:aC 75 [.ag (PI x::aJ zq c::(c4 an ad++c4 bn bd))] (.bool pt))(k0:aC 14 [R2 an ad,R2 tn td] (aB zt))
  (k1:aC 14 [R2 tn td,R2 an ad] (aB z1)) (k2:aC 14 [R2 tn td,R2 bn bd] (aB z2)) (k3:aC 76 [aJ zq c,R2 an ad,R2 tn td] (aB b)) (k4:aC 77 [PI x,R2 tn td] (aB σ))
  (hr:r=if pt=true then zt else if z1<=0 then 1 else if 0<z2 then -1 else if b=0 then 1 else if σ=0 then 0 else -1):aC 19 [.ag (PI x::aJ zq c::(c4 an ad++c4 bn bd)),R2 tn td] (aB r):=by
 simp only [c4,List.cons_append,List.nil_append]at p1 |-
 apply cG [(0, .ag [PI x,aJ zq c,aJ aI (aV DD an.natAbs), .bool (decide (an<0)),aJ aI (aV DD ad.natAbs), .bool (decide (ad<0)),aJ aI (aV DD bn.natAbs), .bool (decide (bn<0)),aJ aI (aV DD bd.natAbs), .bool (decide (bd<0))]),(1,R2 tn td)] Tryz.func19
 apply cN [2,3]
 apply cK p1 [2,3,6]
 refine W.cond ⟨_,rfl,fun h=>?_,fun h=>?_⟩
 ·subst h
  rw [if_pos rfl]at hr
  subst hr
  exact C7 k0 [4]
 ·subst h
  rw [if_neg aF]at hr
  apply (pK)
  apply cK k1 [2,3,15]
  refine W.cond ⟨_,rfl,fun h=>?_,fun h=>?_⟩
  ·simp at h
   rw [if_pos h]at hr
   subst hr
   exact eY [4]
  ·simp at h
   rw [if_neg aA]at hr
   apply (pK)
   apply cK k2 [2,3,20]
   refine W.cond ⟨_,rfl,fun h=>?_,fun h=>?_⟩
   ·simp at h
    rw [if_pos h]at hr
    subst hr
    exact eY [4]
   ·simp at h
    rw [if_neg aA]at hr
    apply (pK)
    apply cK k3 [2,3,27]
    refine W.cond ⟨_,rfl,fun h=>?_,fun h=>?_⟩
    ·simp at h
     rw [if_pos h]at hr
     subst hr
     exact eY [4]
    ·simp at h
     rw [if_neg h]at hr
     apply (pK)
     apply cK k4 [32]
     refine W.cond ⟨_,rfl,fun h=>?_,fun h=>?_⟩
     ·simp at h
      rw [if_pos h]at hr
      subst hr
      exact eY [4]
     ·simp at h
      rw [if_neg h]at hr
      subst hr
      apply W.skip
      exact eY [4]
abbrev bN(f:ZX)(p:Rat × Rat):Rat->Prop:=iU (vt (aO f)) p.1 p.2
theorem nX.wR(I:nX s n f)(A:mV f (vt (aO f)) p.1 p.2)(q1:SQ u p.1)(q2:SQ u p.2)(qt:SQ u t)(hu:u<=1000000000):aC 19 [QA f (aO f) p,RR t] (aB (cr (bN f p) t)):=by
 have p1:=pC (f:=f) (c:=aO f) q1 q2 hu
 have k0:=oW p.1 t (q1.yy hu) (qt.yy hu)
 have k1:=oW t p.1 (qt.yy hu) (q1.yy hu)
 have k2:=oW t p.2 (qt.yy hu) (q2.yy hu)
 have k3:=I.qT q1 qt hu
 have k4:=I.apz qt hu
 have hc:=A.azI t
 rw [cU,cU]at k0 k1 k2
 rw [cU,cU]at k3
 rw [cU]at k4 |-
 rw [qS]at p1 |-
 refine VR p1 k0 k1 k2 k3 k4 ?_
 rw [hc]
 simp only [decide_eq_true_eq]
 by_cases h1:p.1=p.2
 ·rw [if_pos h1,if_pos h1]
  by_cases h2:p.1<t
  ·rw [if_pos h2,pL (qF.1 (jC.2 h2))]
  ·rw [if_neg h2]
   by_cases h3:t<p.1
   ·rw [if_pos h3,pM (qG.1 (iF.2 h3))]
   ·rw [if_neg h3,lS.2 aT]
 ·rw [if_neg h1,if_neg h1]
  simp only [lT,iF]
  by_cases h2:t<=p.1
  ·rw [if_pos h2,if_pos h2]
  ·rw [if_neg h2,if_neg h2]
   by_cases h3:p.2<t
   ·rw [if_pos h3,if_pos h3]
   ·rw [if_neg h3,if_neg h3,if_neg (show ¬t<p.1 by grind)]
    have e1:((vt (aO f) p.1:Int)-vt (aO f) t=0)↔vt (aO f) p.1=vt (aO f) t:=aA
    simp only [e1,fT]
def hv(f:ZX)(p:Rat × Rat):Rat × Rat:=if p.1=p.2 then p else ex f (if vt (aO f) ((p.1+p.2)/2)<vt (aO f) p.1 then(p.1,(p.1+p.2)/2)else((p.1+p.2)/2,p.2))
theorem VS{x:List Int}{c:List ZX}{an ad bn bd:Int}(p1:aC 75 [.ag (PI x::aJ zq c::(c4 an ad++c4 bn bd))] (.bool true)):aC 117 [.ag (PI x::aJ zq c::(c4 an ad++c4 bn bd))] (.ag (PI x::aJ zq c::(c4 an ad++c4 bn bd))):=by
 simp only [c4,List.cons_append,List.nil_append]at p1 |-
 apply cG [(0, .ag [PI x,aJ zq c,aJ aI (aV DD an.natAbs), .bool (decide (an<0)),aJ aI (aV DD ad.natAbs), .bool (decide (ad<0)),aJ aI (aV DD bn.natAbs), .bool (decide (bn<0)),aJ aI (aV DD bd.natAbs), .bool (decide (bd<0))])] Tryz.func117
 apply cN [1,2]
 apply cK p1 [1,2,5]
 refine W.cond ⟨_,rfl,fun h=>?_,fun h=>?_⟩
 ·exact eY [2]
 ·simp at h
theorem VT{x:List Int}{c:List ZX}{an ad bn bd mn md yn yd zn zd b:Int}(p1:aC 75 [.ag (PI x::aJ zq c::(c4 an ad++c4 bn bd))] (.bool false))(k1:aC 204 [R2 an ad,R2 bn bd] (R2 mn md))(k2:aC 76 [aJ zq c,R2 an ad,R2 mn md] (aB b))
  (k3:aC 80 [.ag (PI x::aJ zq c::(if 0<b then c4 an ad++c4 mn md else c4 mn md++c4 bn bd))] (.ag (PI x::aJ zq c::(c4 yn yd++c4 zn zd)))):aC 117 [.ag (PI x::aJ zq c::(c4 an ad++c4 bn bd))] (.ag (PI x::aJ zq c::(c4 yn yd++c4 zn zd))):=by
 simp only [c4,List.cons_append,List.nil_append]at p1 k3 |-
 apply cG [(0, .ag [PI x,aJ zq c,aJ aI (aV DD an.natAbs), .bool (decide (an<0)),aJ aI (aV DD ad.natAbs), .bool (decide (ad<0)),aJ aI (aV DD bn.natAbs), .bool (decide (bn<0)),aJ aI (aV DD bd.natAbs), .bool (decide (bd<0))])] Tryz.func117
 apply cN [1,2]
 apply cK p1 [1,2,5]
 refine W.cond ⟨_,rfl,fun h=>?_,fun h=>?_⟩
 ·simp at h
 apply W.skip
 apply cK k1 [1,2,3]
 by_cases hb:0<b
 ·rw [if_pos hb]at k3
  refine W.iS (fun σ=>∃(v1 v2:Nat),bF σ [(1, .ptr 1 v1 0 0),(2, .ptr 2 v2 0 0)] fun rows clk=>rows 1=some ⟨v1,49,10,[[PI x,aJ zq c,aJ aI (aV DD an.natAbs), .bool (decide (an<0)),aJ aI (aV DD ad.natAbs), .bool (decide (ad<0)),aJ aI (aV DD mn.natAbs), .bool (decide (mn<0)),aJ aI (aV DD md.natAbs), .bool (decide (md<0))]]⟩∧rows 2=some ⟨v2,49,10,[[PV.nil,PV.nil,PV.nil,PV.bool false,PV.nil,PV.bool false,PV.nil,PV.bool false,PV.nil,PV.bool false]]⟩) ?_ ?_
  ·apply cK k2 [1,2,3,18]
   refine W.cond ⟨_,rfl,fun h=>?_,fun h=>?_⟩
   ·refine W.bY (fun K hK=>?_);simp (disch:=omega) [gw]
    exact hK _ ⟨_,aD _ [1,2],_,_,_,_,rfl,aG,aG⟩
   ·simp at h;omega
  rintro _ ⟨v1,v2,rows,clk,rfl,yI,bS⟩
  apply qE yI bS k3
  exact FL yI bS [2]
 ·rw [if_neg hb]at k3
  refine W.iS (fun σ=>∃(v1 v2:Nat),bF σ [(1, .ptr 1 v1 0 0),(2, .ptr 2 v2 0 0)] fun rows clk=>rows 1=some ⟨v1,49,10,[[PI x,aJ zq c,aJ aI (aV DD mn.natAbs), .bool (decide (mn<0)),aJ aI (aV DD md.natAbs), .bool (decide (md<0)),aJ aI (aV DD bn.natAbs), .bool (decide (bn<0)),aJ aI (aV DD bd.natAbs), .bool (decide (bd<0))]]⟩∧rows 2=some ⟨v2,49,10,[[PV.nil,PV.nil,PV.nil,PV.bool false,PV.nil,PV.bool false,PV.nil,PV.bool false,PV.nil,PV.bool false]]⟩) ?_ ?_
  ·apply cK k2 [1,2,3,18]
   refine W.cond ⟨_,rfl,fun h=>?_,fun h=>?_⟩
   ·simp at h;omega
   ·refine W.bY (fun K hK=>?_);simp (disch:=omega) [gw]
    exact hK _ ⟨_,aD _ [1,2],_,_,_,_,rfl,aG,aG⟩
  rintro _ ⟨v1,v2,rows,clk,rfl,yI,bS⟩
  apply qE yI bS k3
  exact FL yI bS [2]
theorem nX.aje(I:nX s n f)(hle:p.1<=p.2)(q1:SQ u p.1)(q2:SQ u p.2)(q3:SQ u ((p.1+p.2)/2))(q4:SQ u (p.1+p.2))(hu:u<=1000000000):aC 117 [QA f (aO f) p] (QA f (aO f) (hv f p)):=by
 have p1:=pC (f:=f) (c:=aO f) q1 q2 hu
 by_cases h:p.1=p.2
 ·rw [decide_eq_true h]at p1
  rw [show hv f p=p from if_pos h,qS]
  rw [qS]at p1
  exact VS p1
 ·rw [decide_eq_false h]at p1
  have c8:p.1<p.2:=aT
  obtain⟨m1,m2⟩:=sJ c8
  have k1:=VL (q1.yy hu) (q2.yy hu) (q4.yy hu)
  have k2:=I.qT q1 q3 hu
  rw [if_neg (Rat.not_lt.2 (Rat.le_of_lt m1))]at k2
  have e:hv f p=ex f (if vt (aO f) ((p.1+p.2)/2)<vt (aO f) p.1 then(p.1,(p.1+p.2)/2)else((p.1+p.2)/2,p.2)):=if_neg h
  rw [e]
  have hb:(0<(vt (aO f) p.1:Int)-vt (aO f) ((p.1+p.2)/2))↔vt (aO f) ((p.1+p.2)/2)<vt (aO f) p.1:=aA
  have k3:=I.ajc (u:=u) (p:=if vt (aO f) ((p.1+p.2)/2)<vt (aO f) p.1 then(p.1,(p.1+p.2)/2)else((p.1+p.2)/2,p.2)) (by split<;>assumption) (by split<;>assumption) hu
  rw [cU,cU]at k1 k2
  rw [cU]at k1
  rw [qS]at p1 |-
  rw [qS]
  refine VT p1 k1 k2 ?_
  by_cases h2:vt (aO f) ((p.1+p.2)/2)<vt (aO f) p.1
  ·rw [if_pos (hb.2 h2)]
   rw [if_pos h2]at k3 |-
   exact k3
  ·rw [if_neg (fun h3=>h2 (hb.1 h3))]
   rw [if_neg h2]at k3 |-
   exact k3
theorem aco(A:mV f (vt (aO f)) p.1 p.2):mV f (vt (aO f)) (hv f p).1 (hv f p).2 ∧ ∀t,bN f (hv f p) t↔bN f p t:=by
 unfold hv
 split
 ·exact⟨A,fun _=>Iff.rfl⟩
 ·rename_i h
  have c8:p.1<p.2:=by have:=A.le;grind
  obtain⟨m1,m2⟩:=sJ c8
  obtain⟨h1,h2⟩:=A.half m1 m2
  have key:∀q:Rat × Rat,mV f (vt (aO f)) q.1 q.2->(∀t,bN f q t↔bN f p t)->mV f (vt (aO f)) (ex f q).1 (ex f q).2 ∧ ∀t,bN f (ex f q) t↔bN f p t:=fun q hq hc=>by
   unfold ex
   split
   ·rename_i h0
    obtain⟨g1,g2⟩:=hq.exact h0
    exact⟨g1,fun t=>(g2 t).trans (hc t)⟩
   ·exact⟨hq,hc⟩
  split
  ·rename_i h3
   obtain⟨g1,g2⟩:=h1 h3
   exact key (p.1,(p.1+p.2)/2) g1 g2
  ·rename_i h3
   obtain⟨g1,g2⟩:=h2 h3
   exact key ((p.1+p.2)/2,p.2) g1 g2
theorem xU(A:mV f (vt (aO f)) p.1 p.2):mV f (vt (aO f)) (ex f p).1 (ex f p).2 ∧ ∀t,bN f (ex f p) t↔bN f p t:=by
 unfold ex
 split
 ·rename_i h0
  exact A.exact h0
 ·exact⟨A,fun _=>Iff.rfl⟩
abbrev t4(n d:Int):List PV:=[.bool (decide (n<0)),us (aV LL n.natAbs), .bool (decide (d<0)),us (aV LL d.natAbs)]
section
variable {x:List Int} {c:List ZX} {fs:List ZX} {an ad bn bd z b σ:Int} (hx:x.length<1000000)  (f1:aC 79 [Po x] (PI x)) (f2:aC 207 [PI x] (aJ zq fs)) (k1:aC 82 [T2 an ad] (R2 an ad)) (k2:aC 82 [T2 bn bd] (R2 bn bd))
  (k3:aC 14 [R2 an ad,R2 bn bd] (aB z)) (k4:aC 81 [PI x] (aJ zq c)) (k5:aC 76 [aJ zq c,R2 an ad,R2 bn bd] (aB b)) (k6:aC 77 [PI x,R2 an ad] (aB σ))
include hx f1
include f2 k1 k2 k3 k4 k5 k6
theorem aeG(h2:2<=x.length)(hm:fs.length=1){r:Bool}(hr:r=if 0<z then false else if z=0 then σ==0 else b==1):aC 121 [.ag (Po x::(t4 an ad++t4 bn bd))] (.bool r):=by
 simp only [t4,List.cons_append,List.nil_append]
 apply cG [(0, .ag [Po x, .bool (decide (an<0)),us (aV LL an.natAbs), .bool (decide (ad<0)),us (aV LL ad.natAbs), .bool (decide (bn<0)),us (aV LL bn.natAbs), .bool (decide (bd<0)),us (aV LL bd.natAbs)])] Tryz.func121
 apply gJ [1] f1 [1,3]
 apply W.seq
 have e1:((x.length:Int)<2)=False:=eq_false aA
 have e2:(((fs.length:Int)) != 1)=false:=by rw [hm];rfl
 apply W.sr
 simp (disch:=omega) [gw,e1]
 apply j9 f2
 simp (disch:=omega) [gw,e2]
 apply cO [1,3,26]
 refine W.cond ⟨_,rfl,fun h=>?_,fun h=>?_⟩
 ·simp at h
 apply (HT)
 apply fV k1 k2
 (try (refine aY (of_decide_eq_true cT) ?_));(try simp (maxSteps:=4000000) (disch:=omega) [gw,i3]);(repeat rw [if_pos cT]);(try simp (maxSteps:=4000000) (disch:=omega) [gw,i3])
 (try (refine aY (of_decide_eq_true cT) ?_));(try simp (maxSteps:=4000000) (disch:=omega) [gw,i3]);(repeat rw [if_pos cT]);(try simp (maxSteps:=4000000) (disch:=omega) [gw,i3])
 (try (refine aY (of_decide_eq_true cT) ?_));(try simp (maxSteps:=4000000) (disch:=omega) [gw,i3]);(repeat rw [if_pos cT]);(try simp (maxSteps:=4000000) (disch:=omega) [gw,i3])
 apply cO [3,4,5]
 apply W.seq
 apply cK k3 [3,4,5,6]
 apply W.block
 apply aQ [3,4,5,6,36]
 refine W.cond ⟨_,rfl,fun h=>?_,fun h=>?_⟩
 ·simp at h
  rw [if_pos h]at hr;subst hr
  exact eY [2]
 ·simp at h
  rw [if_neg aA]at hr
  apply aQ [3,4,5,39]
  refine W.cond ⟨_,rfl,fun h=>?_,fun h=>?_⟩
  ·simp at h
   rw [if_pos h]at hr;subst hr
   exact C7 k6 [2]
  ·simp at h
   rw [if_neg h]at hr;subst hr
   apply (HT)
   apply fV k4 k5
   exact gI [2]
end
theorem nX.valid(I:nX s n f)(A:mV f (vt (aO f)) p.1 p.2)(hN:2<=ZX.N f)(q1:SQ u p.1)(q2:SQ u p.2)(hu:u<=1000000000):aC 121 [GA f p] (.bool true):=by
 have hN':=I.ch.bz.N
 have hn:=I.ch.hn
 have hx:f.l.length<1000000:=by show ZX.N f<_;omega
 have f2:=uA I.lay I.s1
 rw [I.nf.nfe]at f2
 have hnl:nl f=1:=(atl f).2 ⟨hN,by rw [I.gz1,ZX.wH];omega⟩
 have LR:(fl f).length=1:=by rw [asP,hnl]
 have k1:=q1.acn hu
 have k2:=q2.acn hu
 have k3:=oW p.1 p.2 (q1.yy hu) (q2.yy hu)
 have k5:=I.qT q1 q2 hu
 have k6:=I.apz q1 hu
 rw [cU]at k1 k2 k6
 rw [cU,cU]at k3 k5
 refine aeG hx I.apy f2 k1 k2 k3 I.z6 k5 k6 hN LR ?_
 rw [if_neg (by rw [iF];have:=A.le;grind)]
 rcases A.k with ⟨h1,h2⟩ | ⟨h1,h2⟩
 ·rw [if_pos (lS.2 h1),h2,kI];rfl
 ·rw [if_neg (fun h=>by rw [lS]at h;grind),if_neg aT]
  have:(vt (aO f) p.1:Int)-vt (aO f) p.2=1:=aA
  rw [this];rfl
theorem wT(h0:f≠0)(hc:wO f (cD f))(hN:ZX.N f<=20):uG f (vt (aO f)):=by
 have hg:gz f (cD f)=1:=(EZ (.inl h0)).N1 (hc _ (fS _ _).l (fS _ _).r)
 refine⟨h0,hc,_,⟨fun B hB=>?_⟩,rfl⟩
 obtain⟨s,hs⟩:=JI f.l
 obtain⟨β,hβ⟩:=VM B
 have hb:BZ (s+1+5) 20 f:=⟨hN,fun c hc=>dZ aF (by
  have h1:=hs c hc
  have h2:2^s<2^(s+1+5):=Nat.pow_lt_pow_right aF aA
  omega)⟩
 have hb0:BZ (s+1) 20 f:=⟨hN,fun c hc=>dZ aF (by
  have h1:=hs c hc
  have h2:2^s<2^(s+1):=Nat.pow_lt_pow_right aF aA
  omega)⟩
 have bd:BZ (s+1+5) 20 (cD f):=hb0.cD aF
 have hND:=qO f
 have hP1:ZX.N (uS (cD f))<=ZX.N (cD f):=oV _
 obtain⟨δ,h1,h2⟩:=JK (jb ((s+1+5+20+1)*2*4^20) 20 β)
 refine⟨δ,h1,Lcl.mono (acd (s:=s+1) (n:=20) aF h0 hb ?_ (lR bd) hg (by rw [h2];exact Rat.le_refl)) hβ⟩
 unfold E2
 split
 ·have:(4:Nat)^ZX.N f<=4^20:=Nat.pow_le_pow_right aF hN
  exact Nat.mul_le_mul aA this
 ·have:(4:Nat)^ZX.N (uS (cD f))<=4^20:=Nat.pow_le_pow_right aF aA
  exact Nat.mul_le_mul (Nat.le_refl _) this
structure pD(f h g w:ZX):Prop where
 eq:f=w*g
 ng:Nf g
 nw:Nf w
 wg:wO w g
 wh:wO w h
 gd:dv g h
 sg:wO g (cD g)
 sw:wO w (cD w)
theorem nU(nf:Nf f)(hc:wO f (cD f)):∃w,pD f h (gz f h) w:=by
 have ng:Nf (gz f h):=EZ (.inl nf.ne)
 obtain⟨w,nw,e⟩:=nf.quo ng (fS f h).l
 have hd:cD f=cD w*gz f h+w*cD (gz f h):=by
  have h1:=congrArg cD e
  rwa [xJ]at h1
 have dwf:dv w f:=by rw [e];exact(dv.refl w).mul_right _
 have dgf:dv (gz f h) f:=(fS f h).l
 have wg:wO w (gz f h):=fun d h1 h2=>hc d (h1.trans dwf) (by rw [hd];exact(h2.mul_left _).add (h1.mul_right _))
 exact⟨w,e,ng,nw,wg,fun d h1 h2=>wg d h1 ((fS f h).least (h1.trans dwf) h2),(fS f h).r,
  fun d h1 h2=>hc d (h1.trans dgf) (by rw [hd];exact(h1.mul_left _).add (h2.mul_left _)),fun d h1 h2=>hc d (h1.trans dwf) (by rw [hd];exact(h2.mul_right _).add (h1.mul_right _))⟩
theorem pD.N{w:ZX}(S:pD f h g w):ZX.N w<=ZX.N f∧ZX.N g<=ZX.N f:=by
 have h1:=lN S.nw.ne S.ng.ne
 rw [<-S.eq]at h1
 have:=ZX.aH.1 S.nw.ne
 have:=ZX.aH.1 S.ng.ne
 omega
theorem pD.JO{w:ZX}(S:pD f h g w)(hv:uG f v)(hg:uG g γ)(hw:uG w φ){s:Rat}(j2:s<=t):v s+γ t+φ t=v t+γ s+φ s:=by
 have e:K 1*f=w*g:=by rw [<-S.eq];show(1:ZX)*f=f;grind
 have:=hv.mul hw hg aF e S.wg j2
 omega
theorem acp(hv:uG f v)(hw:uG h w)(hc:wO f h){r:Nat}(hA:∀c∈f.l,c.natAbs<=2^s)(hB:∀c∈h.l,c.natAbs<=2^r)(hl:ZX.N f+ZX.N h<=2^l)
  {b:Rat} (ha:Ab a (2^β)) (hb:Ab b (2^β)) (gU:a<b) (hd:(b-a)*2^(sx f h s r l+(ZX.N f+ZX.N h)*(β+2)+2)<=1):v a=v b∨w a=w b:=by
 refine Classical.byContradiction fun FQ=>?_
 have apA:=not_or.1 FQ
 have sm:∀ {p:ZX} {m:Nat} {u:Rat->Nat},uG p u->(∀c∈p.l,c.natAbs<=2^m)->¬u a=u b->Ab (e a p) ((b-a)*2^(m+ZX.N p*(β+2))):=fun {p m u} S hp hu =>
  S.small gU hu (gD _) (fun x y h1 h2 h3=>by
   have g1:=(ai0 hp (Nat.le_refl _) (cH ha hb h1 aT) (cH ha hb (show a<=y by grind) h3)).1
   have g2:=qQ x y p.l
   have g3:e y p-e x p=qv y p.l-qv x p.l:=rfl
   rw [g3,g2]
   exact Ab.mul ⟨aT,Rat.le_refl⟩ g1) Rat.le_refl (Rat.le_of_lt gU)
 have b1:=sm hv hA apA.1
 have b2:=sm hw hB apA.2
 have n1:=ZX.aH.1 hv.ne
 have n2:=ZX.aH.1 hw.ne
 have s1:s<=s*ZX.N h:=Nat.le_mul_of_pos_right _ aA
 have s2:r<=r*ZX.N f:=Nat.le_mul_of_pos_right _ aA
 have fin:∀ {i j k:Nat},i+j+1=k->(b-a)*2^k<=1->(b-a)*2^i*2*2^j<=1:=fun {i j k} hk h=>by
  rw [<-hk,Rat.pow_succ,sH]at h;grind
 have hX:sx f h s r l=(l+2)*(ZX.N f+ZX.N h)+s*ZX.N h+r*ZX.N f:=rfl
 rw [Nat.add_mul]at hd
 have h5:=azE hv.ne hw.ne hA hB hl hc ha (β:=β) (fin (i:=s+ZX.N f*(β+2)) (k:=sx f h s r l+(ZX.N f*(β+2)+ZX.N h*(β+2))+2) aA hd) (fin (i:=r+ZX.N h*(β+2)) (k:=sx f h s r l+(ZX.N f*(β+2)+ZX.N h*(β+2))+2) aA hd)
 have q1:0<(b-a)*2^(s+ZX.N f*(β+2)):=Rat.mul_pos aT (gD _)
 have q2:0<(b-a)*2^(r+ZX.N h*(β+2)):=Rat.mul_pos aT (gD _)
 obtain⟨p1,p2⟩:=b1
 obtain⟨p3,p4⟩:=b2
 rcases h5 with (h5 | h5) | (h5 | h5)<;>grind
theorem ajf(hv:uG f v)(hw:uG h w)(hc:wO f h)(hA:∀c∈f.l,c.natAbs<=2^s)(hB:∀c∈h.l,c.natAbs<=2^s)(hn:ZX.N f+ZX.N h<=n)(hl:n<=2^l)
  {b:Rat} (ha:Ab a (2^β)) (hb:Ab b (2^β)) (gU:a<b) (hd:(b-a)*2^(sk s n l β+(s+n*(β+2))+1)<=1):v a=v b∨w a=w b:=
 acp hv hw hc hA hB (Nat.le_trans hn hl) ha hb gU (JG hd (by
  have h1:=ai1 (a:=f) (b:=h) (s:=s) (l:=l) (β:=β) hn (Nat.le_refl _)
  have h2:(ZX.N f+ZX.N h)*(β+2)<=n*(β+2):=Nat.mul_le_mul_right _ hn
  omega))
theorem Q3(hv:uG f v)(hw:uG h w)(hc:wO f h)(B:Rat):∃δ:Rat,0<δ ∧ ∀a b,Ab a B->Ab b B->a<b->b-a<=δ->v a=v b∨w a=w b:=by
 obtain⟨s1,h1⟩:=JI f.l
 obtain⟨s2,h2⟩:=JI h.l
 obtain⟨β,hβ⟩:=VM B
 obtain⟨δ,h3,h4⟩:=JK (sk (s1+s2) (ZX.N f+ZX.N h) (ZX.N f+ZX.N h) β+(s1+s2+(ZX.N f+ZX.N h)*(β+2))+1)
 refine⟨δ,h3,fun a b ha hb gU hd=>ajf hv hw hc (s:=s1+s2) (l:=ZX.N f+ZX.N h) (β:=β) (fun c hc=>Nat.le_trans (h1 c hc) (Nat.pow_le_pow_right aF aA)) (fun c hc=>Nat.le_trans (h2 c hc) (Nat.pow_le_pow_right aF aA)) (Nat.le_refl _) (Nat.le_of_lt Nat.lt_two_pow_self) (ha.mono hβ) (hb.mono hβ) gU ?_⟩
 rw [<-h4]
 exact Rat.mul_le_mul_of_nonneg_right hd (Rat.le_of_lt (gD _))
section
variable {f:ZX} {v:Rat->Nat} {lo hi:Rat} (A:mV f v lo hi)
include A
theorem lB{s:Rat}(h1:¬iU v lo hi s)(h2:iU v lo hi t)(j2:s<t):v t<v s:=by
 have g1:s<hi:=Rat.not_le.1 fun h=>h1 (.inl h)
 rcases A.k with ⟨rfl,h0⟩ | ⟨c8,hk⟩
 ·have h3:lo<=t:=by rcases h2 with h | h<;>grind
  have h4:=A.S.root g1 h0
  have h5:=A.S.bU h3
  omega
 ·have h3:v lo<=v s:=by
   by_cases h:s<=lo
   ·exact A.S.bU h
   ·exact Nat.not_lt.1 fun h4=>h1 (.inr ⟨aT,h4⟩)
  rcases h2 with h | ⟨_,h⟩
  ·have:=A.S.bU h;omega
  ·omega
theorem acq{s:Rat}(h1:¬iU v lo hi s)(h2:iU v lo hi t)(hv:v s=v t+1){x:Rat}(hx:s<=x)(hy:x<=t):iU v lo hi x↔v x<v s:=by
 refine⟨fun h=>?_,fun h=>?_⟩
 ·refine lB A h1 h ?_
  rcases Rat.le_iff_lt_or_eq.1 hx with h3 | rfl
  ·exact h3
  ·exact absurd h h1
 ·refine Classical.byContradiction fun h3=>?_
  have h4:x<t:=by
   rcases Rat.le_iff_lt_or_eq.1 hy with h4 | rfl
   ·exact h4
   ·exact absurd h2 h3
  have:=lB A h3 h2 h4
  omega
end
theorem aac{U:Rat->Prop}{δ:Rat}(hδ:0<δ):∀(n:Nat) (s t:Rat),s<t->¬U s->U t->t-s<=δ*2^n -> ∃a b,s<=a∧a<b∧b<=t∧b-a<=δ∧¬U a∧U b
 | 0,s,t,h,h1,h2,hd=>⟨s,t,Rat.le_refl,h,Rat.le_refl,by rwa [Rat.pow_zero,Rat.mul_one]at hd,h1,h2⟩
 | n+1,s,t,h,h1,h2,hd=>by
  obtain⟨m1,m2⟩:=sJ h
  obtain⟨d1,d2⟩:=wP hd
  generalize (s+t)/2=m at *
  by_cases hm:U m
  ·obtain⟨a,b,g1,g2,g3,g4⟩:=aac hδ n s m m1 h1 hm d1
   exact⟨a,b,g1,g2,aT,g4⟩
  ·obtain⟨a,b,g1,g2,g3,g4⟩:=aac hδ n m t m2 hm h2 d2
   exact⟨a,b,aT,g2,g3,g4⟩
theorem GJ{δ:Rat}(hδ:0<δ){s:Rat}(h:s<t)(h1:¬U s)(h2:U t):∃a b,s<=a∧a<b∧b<=t∧b-a<=δ∧¬U a∧U b:=by
 obtain⟨n,hn⟩:=VM ((t-s)/δ)
 refine aac hδ n s t h h1 h2 ?_
 have h3:(t-s)/δ*δ=t-s:=Rat.div_mul_cancel (Rat.ne_of_gt hδ)
 have h4:=Rat.mul_le_mul_of_nonneg_right hn (Rat.le_of_lt hδ)
 grind
section
variable {f h:ZX} {v w:Rat->Nat} {lo hi WJ jF:Rat} (A:mV f v lo hi) (B:mV h w WJ jF)
include A B
theorem CA{w1 w2:ZX}{η:Rat->Nat}(S1:pD f h g w1)(S2:pD h f g w2)(hg:uG g γ)(h1:uG w1 φ)(h2:uG w2 η){s:Rat}(j2:s<t)(a1:¬iU v lo hi s)(a2:iU v lo hi t)(b1:¬iU w WJ jF s)(b2:iU w WJ jF t)(hv:v s<=v t+1)(hw:w s<=w t+1)(hγ:γ t<γ s) :
  ∀x,iU v lo hi x↔iU w WJ jF x:=fun x=>by
 have c1:=lB A a1 a2 j2
 have c2:=lB B b1 b2 j2
 have e1:v s=v t+1:=aA
 have e2:w s=w t+1:=aA
 have k1:=S1.JO A.S hg h1 (Rat.le_of_lt j2)
 have k2:=S2.JO B.S hg h2 (Rat.le_of_lt j2)
 by_cases hx:x<s
 ·exact⟨fun hh=>absurd (A.up hh (Rat.le_of_lt hx)) a1,fun hh=>absurd (B.up hh (Rat.le_of_lt hx)) b1⟩
 ·by_cases hy:t<x
  ·exact⟨fun _=>B.up b2 (Rat.le_of_lt hy),fun _=>A.up a2 (Rat.le_of_lt hy)⟩
  ·have LK:=Rat.not_lt.1 hx
   have C0:=Rat.not_lt.1 hy
   rw [acq A a1 a2 e1 LK C0,acq B b1 b2 e2 LK C0]
   have q1:=S1.JO A.S hg h1 LK
   have q2:=S2.JO B.S hg h2 LK
   have r1:=h1.bU LK
   have r2:=h2.bU LK
   have r3:=h1.bU C0
   have r4:=h2.bU C0
   have m1:=hg.bU (Rat.le_of_lt j2)
   have m2:=h1.bU (Rat.le_of_lt j2)
   have m3:=h2.bU (Rat.le_of_lt j2)
   omega
end
theorem VU{V:Rat->Prop}(hV:∀s t,V s->s<=t->V t):cu (fun t=>q<=t) V = -cr V q:=by
 by_cases h:V q
 ·by_cases h2:∃s,s<q∧V s
  ·rw [(DT hV).2 h2]
   unfold cu
   obtain⟨s,h3,h4⟩:=h2
   rw [if_neg (fun ⟨t,h5,h6⟩=>h6 (hV q t h h5)),if_pos ⟨s,h4,aT⟩]
   rfl
  ·rw [B9.2 ⟨h,fun s h3 h4=>h2 ⟨s,h3,h4⟩⟩]
   unfold cu
   rw [if_neg (fun ⟨t,h5,h6⟩=>h6 (hV q t h h5)),if_neg (fun ⟨t,h5,h6⟩=>h2 ⟨t,aT,h5⟩)]
   rfl
 ·rw [sI.2 h]
  unfold cu
  rw [if_pos ⟨q,Rat.le_refl,h⟩]
theorem NI(hU:∀s t,U s->s<=t->U t):cu U (fun t=>q<=t)=cr U q:=by
 by_cases h:U q
 ·by_cases h2:∃s,s<q∧U s
  ·rw [(DT hU).2 h2]
   unfold cu
   obtain⟨s,h3,h4⟩:=h2
   rw [if_pos ⟨s,h4,aT⟩]
  ·rw [B9.2 ⟨h,fun s h3 h4=>h2 ⟨s,h3,h4⟩⟩]
   unfold cu
   rw [if_neg (fun ⟨t,h5,h6⟩=>h2 ⟨t,aT,h5⟩),if_neg (fun ⟨t,h5,h6⟩=>h6 (hU q t h h5))]
 ·rw [sI.2 h]
  unfold cu
  rw [if_neg (fun ⟨t,h5,h6⟩=>h (hU t q h5 aT)),if_pos ⟨q,Rat.le_refl,h⟩]
theorem lU{U' V V':Rat->Prop}(h1:∀t,U t↔U' t)(h2:∀t,V t↔V' t):cu U V=cu U' V':=by
 have e1:U=U':=funext fun t=>propext (h1 t)
 have e2:V=V':=funext fun t=>propext (h2 t)
 rw [e1,e2]
theorem lZ(h:p.1=p.2)(t:Rat):bN f p t↔p.1<=t:=by
 refine⟨fun h1=>?_,fun h1 => .inl (h▸h1)⟩
 rcases h1 with h1 | ⟨h1,_⟩
 ·rw [h];exact h1
 ·grind
theorem azQ(B:mV h w WJ jF)(h1:hi<=WJ)(h2:WJ<jF):cu (iU v lo hi) (iU w WJ jF) = -1:=by
 unfold cu
 rw [if_pos ⟨hi,fM,B.jB aT⟩]
theorem azR(A:mV f v lo hi)(B:mV h w WJ jF)(h1:jF<=lo)(h2:lo<hi):cu (iU v lo hi) (iU w WJ jF)=1:=by
 have h3:¬iU v lo hi jF:=A.jB aT
 have h4:¬ ∃t,iU v lo hi t∧¬iU w WJ jF t:=fun⟨t,h4,h5⟩=>h5 (B.up fM (Rat.not_lt.1 fun h6=>h3 (A.up h4 (Rat.le_of_lt h6))))
 unfold cu
 rw [if_neg h4,if_pos ⟨jF,fM,h3⟩]
structure Two(s n:Nat)(f h:ZX):Prop where
 nf:Nf f
 nh:Nf h
 cf:wO f (cD f)
 ch:wO h (cD h)
 af:∀c∈f.l,c.natAbs<=2^s
 ah:∀c∈h.l,c.natAbs<=2^s
 Nf:ZX.N f<=n
 Nh:ZX.N h<=n
 hn:n<=20
 hs:n+1<=2^s
namespace Two
variable {s n:Nat} {f h:ZX} (T:Two s n f h)
include T
theorem Sf:uG f (vt (aO f)):=wT T.nf.ne T.cf (Nat.le_trans T.Nf T.hn)
theorem Sh:uG h (vt (aO h)):=wT T.nh.ne T.ch (Nat.le_trans T.Nh T.hn)
end Two
def kc(s n β:Nat):Nat:=lk s n 5 β+(sk (qb (s+1) n) (n+n) 6 β+(qb (s+1) n+(n+n)*(β+2))+1)
theorem azS(hn:n<=20):kc s n β<=1722*s+140*β+9000:=by
 have h1:(n+n)*(s+5+2+(5+1))<=40*(s+13):=Nat.mul_le_mul aA aA
 have h2:(n+n)*(β+2)<=40*(β+2):=Nat.mul_le_mul aA aA
 have h3:n*(β+2)<=20*(β+2):=Nat.mul_le_mul hn aA
 have h4:n*(2*(s+1)+5)<=20*(2*(s+1)+5):=Nat.mul_le_mul hn aA
 have h5:qb (s+1) n<=41*s+150:=by unfold qb;omega
 have h6:(n+n)*(qb (s+1) n+2+6)<=40*(41*s+158):=Nat.mul_le_mul aA aA
 unfold kc lk sk
 omega
theorem aFe{w:ZX}(S:pD f h g w)(hf:f≠0)(hA:∀c∈f.l,c.natAbs<=2^s)(hN:ZX.N f<=n)(hs:n+1<=2^s):∀c∈w.l,c.natAbs<=2^qb (s+1) n:=fun c hc=>by
 have hb:Bd 2 (s+1) n f.l:=⟨hN,fun c hc=>dZ aF (by
  have h1:=hA c hc
  have h2:2^s<2^(s+1):=Nat.pow_lt_pow_right aF aA
  omega)⟩
 have h1:=aie (a:=f) (w:=g) (g:=w) hf (by rw [S.eq,ZX.MW]) hb (Nat.le_trans hs (Nat.pow_le_pow_right aF aA))
 have h2:=kB (b:=2) aF c
 have h3:=Nat.pow_le_pow_right (show 0<2 by decide) (h1.sz c hc)
 unfold qb
 omega
theorem aeH{q:Rat × Rat}(T:Two s n f h)(A:mV f (vt (aO f)) p.1 p.2)(B:mV h (vt (aO h)) q.1 q.2)(h1:p.1<p.2)(h2:q.1<q.2)(h3:p.1<q.2)(h4:q.1<p.2)
  (a1:Ab p.1 (2^β)) (a2:Ab p.2 (2^β)) (b1:Ab q.1 (2^β)) (b2:Ab q.2 (2^β)) {W:Rat} (w1:p.2-p.1<=W) (w2:q.2-q.1<=W) (hW:2*W*2^kc s n β<=1):∀x,bN f p x↔bN h q x:=by
 obtain⟨S,hS,hS1,hS2⟩:∃S,(S=p.1∨S=q.1)∧S<=p.1∧S<=q.1:=by
  by_cases hh:p.1<=q.1
  ·exact⟨p.1, .inl rfl,Rat.le_refl,hh⟩
  ·exact⟨q.1, .inr rfl,aT,Rat.le_refl⟩
 obtain⟨E,hE,hE1,hE2⟩:∃E,(E=p.2∨E=q.2)∧p.2<=E∧q.2<=E:=by
  by_cases hh:p.2<=q.2
  ·exact⟨q.2, .inr rfl,hh,Rat.le_refl⟩
  ·exact⟨p.2, .inl rfl,Rat.le_refl,aT⟩
 have aS:Ab S (2^β):=by rcases hS with rfl | rfl<;>assumption
 have aE:Ab E (2^β):=by rcases hE with rfl | rfl<;>assumption
 have FR:S<E:=aT
 have hd:E-S<=2*W:=by rcases hS with rfl | rfl<;>rcases hE with rfl | rfl<;>grind
 have hd0:0<=E-S:=aT
 have hdK:(E-S)*2^kc s n β<=1:=Rat.le_trans (Rat.mul_le_mul_of_nonneg_right hd (Rat.le_of_lt (gD _))) hW
 have lt1:∀k,k<=kc s n β->(E-S)*2^k<=1:=fun k hk=>Rat.le_trans (Rat.mul_le_mul_of_nonneg_left (JF hk) hd0) hdK
 obtain⟨Lf,_⟩:=(show ∃L,zV L f∧vt (aO f)=vt L from T.Sf.g)
 have tK:∀x:ZX,uG x (vt (aO x))->x≠0->(∀c∈x.l,c.natAbs<=2^s)->ZX.N x<=n->vt (aO x) S<=vt (aO x) E+1:=fun x hx h0 hA hN=>by
  obtain⟨L,G,e⟩:=hx.g
  obtain⟨g1,_⟩:=xS G (s:=s) (n:=n) (l:=5) (β:=β) h0 hA hN (by have:=T.hn;omega) hx.ND (δ:=E-S) (lt1 _ (by unfold kc;omega))
  have:=g1.turns S E aS aE FR Rat.le_refl
  rw [e]
  rcases QW x S E with h5 | h5<;>omega
 have nF:=tK f T.Sf T.nf.ne T.af T.Nf
 have nH:=tK h T.Sh T.nh.ne T.ah T.Nh
 obtain⟨w1',S1⟩:=nU (h:=h) T.nf T.cf
 obtain⟨w2',S2⟩:=nU (h:=f) T.nh T.ch
 rw [<-tW]at S2
 have hnn:=T.hn
 have n1:=S1.N
 have n2:=S2.N
 have hTN:=T.Nf
 have aFf:=T.Nh
 have hg:=wT S1.ng.ne S1.sg aA
 have CS:=wT S1.nw.ne S1.sw aA
 have hw2:=wT S2.nw.ne S2.sw aA
 have c1:¬bN f p S:=A.jB aT
 have c2:bN f p E:=A.up fM hE1
 have c3:¬bN h q S:=B.jB aT
 have c4:bN h q E:=B.up fM hE2
 have o1:=lB A c1 c2 FR
 have o2:=lB B c3 c4 FR
 have k1:=S1.JO T.Sf hg CS (Rat.le_of_lt FR)
 have rE:=aFe S1 T.nf.ne T.af T.Nf T.hs
 have LS:=ajf CS T.Sh S1.wh (s:=qb (s+1) n) (n:=n+n) (l:=6) (β:=β) rE (fun c hc=>Nat.le_trans (T.ah c hc) (Nat.pow_le_pow_right aF (by unfold qb;omega))) aA aA aS aE FR (lt1 _ (by unfold kc;omega))
 have m0:=hg.bU (Rat.le_of_lt FR)
 refine CA A B S1 S2 hg CS hw2 FR c1 c2 c3 c4 nF nH ?_
 rcases LS with LS | LS
 ·omega
 ·omega
theorem aeI{q:Rat × Rat}(T:Two s n f h)(A:mV f (vt (aO f)) p.1 p.2)(B:mV h (vt (aO h)) q.1 q.2)(h1:p.1<p.2)(h2:q.1<q.2)(h3:¬bN f p q.1)(h4:bN f p q.2)(hz:vt (aO (gz h f)) p.2<vt (aO (gz h f)) p.1):∀x,bN f p x↔bN h q x:=by
 rw [tW]at hz
 obtain⟨w1',S1⟩:=nU (h:=h) T.nf T.cf
 obtain⟨w2',S2⟩:=nU (h:=f) T.nh T.ch
 rw [<-tW]at S2
 have hnn:=T.hn
 have n1:=S1.N
 have n2:=S2.N
 have hTN:=T.Nf
 have aFf:=T.Nh
 have hg:=wT S1.ng.ne S1.sg aA
 have CS:=wT S1.nw.ne S1.sw aA
 have hw2:=wT S2.nw.ne S2.sw aA
 have hv:vt (aO f) p.1=vt (aO f) p.2+1:=by
  rcases A.k with ⟨g,_⟩ | ⟨_,g⟩
  ·grind
  ·exact g
 have hw:vt (aO h) q.1=vt (aO h) q.2+1:=by
  rcases B.k with ⟨g,_⟩ | ⟨_,g⟩
  ·grind
  ·exact g
 have hq1:q.1<p.2:=Rat.not_le.1 fun hh=>h3 (.inl hh)
 have hq2:p.1<q.2:=Rat.not_le.1 fun hh=>(A.jB (show q.2<p.1∨(q.2=p.1∧p.1<p.2)by grind)) h4
 obtain⟨S,hS,hS1,hS2⟩:∃S,(S=p.1∨S=q.1)∧p.1<=S∧q.1<=S:=by
  by_cases hh:p.1<=q.1
  ·exact⟨q.1, .inr rfl,hh,Rat.le_refl⟩
  ·exact⟨p.1, .inl rfl,Rat.le_refl,aT⟩
 obtain⟨E,hE,hE1,hE2⟩:∃E,(E=p.2∨E=q.2)∧E<=p.2∧E<=q.2:=by
  by_cases hh:p.2<=q.2
  ·exact⟨p.2, .inl rfl,Rat.le_refl,hh⟩
  ·exact⟨q.2, .inr rfl,aT,Rat.le_refl⟩
 have FR:S<E:=by rcases hS with rfl | rfl<;>rcases hE with rfl | rfl<;>assumption
 have c1:¬bN f p S:=by
  rcases hS with rfl | rfl
  ·exact A.jB (.inr ⟨rfl,h1⟩)
  ·exact h3
 have c2:bN f p E:=by
  rcases hE with rfl | rfl
  ·exact fM
  ·exact h4
 have o1:=lB A c1 c2 FR
 have v1:=T.Sf.bU hS1
 have v2:=T.Sf.bU hE1
 have k1:=S1.JO T.Sf hg CS hS1
 have k2:=S1.JO T.Sf hg CS hE1
 have k3:=S1.JO T.Sf hg CS (Rat.le_of_lt FR)
 have k4:=S2.JO T.Sh hg hw2 (Rat.le_of_lt FR)
 have a1:=hg.bU hS1
 have a2:=hg.bU hE1
 have a3:=CS.bU hS1
 have a4:=CS.bU hE1
 have a5:=hw2.bU (Rat.le_of_lt FR)
 have a6:=CS.bU (Rat.le_of_lt FR)
 have u1:=T.Sh.bU hS2
 have u2:=T.Sh.bU hE2
 have c3:¬bN h q S:=fun hh=>by
  rcases hh with hh | ⟨_,hh⟩
  ·have:=T.Sh.bU hh;omega
  ·omega
 have c4:bN h q E:=.inr ⟨aT,aA⟩
 exact CA A B S1 S2 hg CS hw2 FR c1 c2 c3 c4 aA aA aA
theorem aeJ{q:Rat × Rat}(T:Two s n f h)(A:mV f (vt (aO f)) p.1 p.2)(B:mV h (vt (aO h)) q.1 q.2)(h1:p.1<p.2)(hx:∀x,bN f p x↔bN h q x):vt (aO (gz h f)) p.2<vt (aO (gz h f)) p.1:=by
 rw [tW]
 obtain⟨w1',S1⟩:=nU (h:=h) T.nf T.cf
 have hnn:=T.hn
 have n1:=S1.N
 have hTN:=T.Nf
 have hg:=wT S1.ng.ne S1.sg aA
 have CS:=wT S1.nw.ne S1.sw aA
 obtain⟨B0,hB0,ab1,ab2⟩:=k9 p.1 p.2
 obtain⟨δ,hδ,LS⟩:=Q3 CS T.Sh S1.wh B0
 obtain⟨a,b,g1,g2,g3,g4,g5,g6⟩:=GJ (U:=bN f p) hδ h1 (A.jB (.inr ⟨rfl,h1⟩)) fM
 have o1:=lB A g5 g6 g2
 have o2:=lB B (fun hh=>g5 ((hx _).2 hh)) ((hx _).1 g6) g2
 have k1:=S1.JO T.Sf hg CS (Rat.le_of_lt g2)
 have a1:=hg.bU g1
 have a2:=hg.bU g3
 rcases LS a b (cH ab1 ab2 g1 aT) (cH ab1 ab2 aT g3) g2 g4 with hh | hh
 ·omega
 ·omega
end Go.Proofs.YtiobceocpabjdaaGreat
namespace Go.Proofs.YtiobceocpabjdaaGreat
open Go Pm
open ZX hiding N W
variable {a:ZX}{c:List ZX}{p:Rat × Rat}{y x g q:List Int}{an ad bn bd σ d en ed gn r w tn td dg:Int}{u D j s n s' k:Nat}{α:Type}{L:List (Rat × Rat)}{t:Rat}{U:Rat->Prop}
theorem Q4(na:Nf a)(hc:wO a (cD a)):sq a=a:=by
 obtain⟨g,hg⟩:=mD _ a (cD a) (Nat.le_refl _)
 have h0:=hg.ne (.inl na.ne)
 have h1:=hc g hg.l hg.r
 have h2:=ZX.aH.1 h0
 obtain⟨k,hk,rfl⟩:=nO (show ZX.N g=1 by omega)
 obtain⟨c,zF,u,v,e⟩:=hg.uv
 rw [s9]at e
 exact amN na (Int.mul_ne_zero zF hk) e.symm
abbrev eT(x:List Int)(c:List ZX)(an ad bn bd:Int):List PV:=[PI x,aJ zq c,aJ aI (aV DD an.natAbs), .bool (decide (an<0)),aJ aI (aV DD ad.natAbs), .bool (decide (ad<0)),aJ aI (aV DD bn.natAbs), .bool (decide (bn<0)),aJ aI (aV DD bd.natAbs), .bool (decide (bd<0))]
theorem wU{f:ZX}:QA f c p = .ag (eT f.l c p.1.num p.1.den p.2.num p.2.den):=rfl
theorem mQ{cg:List ZX}{b:Int}{pt z:Bool}(hl:y.length<1000000)(hg:g.length<1000000)(p1:aC 75 [.ag (eT x c an ad bn bd)] (.bool pt))(k1:pt=true->aC 77 [PI y,R2 an ad] (aB σ))(k2:aC 203 [PI y,PI x] (PI g))
  (k3:2<=g.length->aC 81 [PI g] (aJ zq cg)) (k4:2<=g.length->aC 76 [aJ zq cg,R2 an ad,R2 bn bd] (aB b)) (hz:z=if y.length=0 then true else if pt=true then σ==0 else if g.length<2 then false else decide (0<b)) :
  aC 116 [PI y, .ag (eT x c an ad bn bd)] (.bool z):=by
 simp only [eT]at p1 |-
 apply cG [(0,PI y),(1, .ag [PI x,aJ zq c,aJ aI (aV DD an.natAbs), .bool (decide (an<0)),aJ aI (aV DD ad.natAbs), .bool (decide (ad<0)),aJ aI (aV DD bn.natAbs), .bool (decide (bn<0)),aJ aI (aV DD bd.natAbs), .bool (decide (bd<0))])] Tryz.func116
 apply aQ [0,3]
 apply cQ [0,3,8]
 refine W.cond ⟨_,rfl,fun h=>?_,fun h=>?_⟩
 ·have hy:y.length=0:=by simp at h;simp [h]
  rw [if_pos hy]at hz;subst hz
  exact eY [4]
 ·have hy:¬y.length=0:=by simp at h;simp [h]
  rw [if_neg hy]at hz
  apply (pK)
  apply cK p1 [0,3,10]
  refine W.cond ⟨_,rfl,fun h=>?_,fun h=>?_⟩
  ·subst h
   rw [if_pos rfl]at hz;subst hz
   have k1':=k1 rfl
   exact C7 k1' [4]
  ·subst h
   rw [if_neg aF]at hz
   apply W.skip
   apply cK k2 [3,5]
   apply cQ [3,5,22]
   refine W.cond ⟨_,rfl,fun h=>?_,fun h=>?_⟩
   ·have r5:g.length<2:=by simp at h;omega
    rw [if_pos r5]at hz;subst hz
    exact eY [4]
   ·have r5:¬g.length<2:=by simp at h;omega
    rw [if_neg r5]at hz
    have k3':=k3 aA
    have k4':=k4 aA
    apply (HT)
    apply fV k3' k4'
    apply bT [4]
    apply W.ret
    simp [go,hz]
theorem CB(U:Rat->Prop)(t:Rat):cr U t = -1∨cr U t=0∨cr U t=1:=by
 unfold cr
 split
 ·split<;>simp
 ·simp
theorem aeK{d:List ZX}{gd:Int}(hr:r = -1∨r=0∨r=1)(p1:aC 75 [.ag (eT x c an ad bn bd)] (.bool true))(k1:aC 19 [.ag (eT y d en ed gn gd),R2 an ad] (aB r)) :
  aC 48 [.ag (eT x c an ad bn bd), .ag (eT y d en ed gn gd)] (aB (-r)):=by
 have hw:IntKind.wrap .i64 (-r) = -r:=wrap_i64 aA aA
 simp only [eT]at p1 k1 |-
 apply cG [(0, .ag [PI x,aJ zq c,aJ aI (aV DD an.natAbs), .bool (decide (an<0)),aJ aI (aV DD ad.natAbs), .bool (decide (ad<0)),aJ aI (aV DD bn.natAbs), .bool (decide (bn<0)),aJ aI (aV DD bd.natAbs), .bool (decide (bd<0))]),(1, .ag [PI y,aJ zq d,aJ aI (aV DD en.natAbs), .bool (decide (en<0)),aJ aI (aV DD ed.natAbs), .bool (decide (ed<0)),aJ aI (aV DD gn.natAbs), .bool (decide (gn<0)),aJ aI (aV DD gd.natAbs), .bool (decide (gd<0))])] Tryz.func48
 apply cN [2,3]
 apply cK p1 [2,3,6]
 refine W.cond ⟨_,rfl,fun h=>?_,fun h=>?_⟩
 ·apply nB k1
  exact FM hw [4]
 ·simp at h
theorem aeL{d:List ZX}{gd:Int}(p1:aC 75 [.ag (eT x c an ad bn bd)] (.bool false))(p2:aC 75 [.ag (eT y d en ed gn gd)] (.bool true))(k1:aC 19 [.ag (eT x c an ad bn bd),R2 en ed] (aB r)) :
  aC 48 [.ag (eT x c an ad bn bd), .ag (eT y d en ed gn gd)] (aB r):=by
 simp only [eT]at p1 p2 k1 |-
 apply cG [(0, .ag [PI x,aJ zq c,aJ aI (aV DD an.natAbs), .bool (decide (an<0)),aJ aI (aV DD ad.natAbs), .bool (decide (ad<0)),aJ aI (aV DD bn.natAbs), .bool (decide (bn<0)),aJ aI (aV DD bd.natAbs), .bool (decide (bd<0))]),(1, .ag [PI y,aJ zq d,aJ aI (aV DD en.natAbs), .bool (decide (en<0)),aJ aI (aV DD ed.natAbs), .bool (decide (ed<0)),aJ aI (aV DD gn.natAbs), .bool (decide (gn<0)),aJ aI (aV DD gd.natAbs), .bool (decide (gd<0))])] Tryz.func48
 apply cN [2,3]
 apply cK p1 [2,3,6]
 refine W.cond ⟨_,rfl,fun h=>?_,fun h=>?_⟩
 ·simp at h
 apply (pK)
 apply cK p2 [2,3,13]
 refine W.cond ⟨_,rfl,fun h=>?_,fun h=>?_⟩
 ·exact C7 k1 [4]
 ·simp at h
section
variable {s n s' n' u:Nat} {f h:ZX} {p q:Rat × Rat} (I:nX s n f) (I':nX s' n' h) (A:mV f (vt (aO f)) p.1 p.2) (B:mV h (vt (aO h)) q.1 q.2) (p1:SQ u p.1) (p2:SQ u p.2) (q1:SQ u q.1) (q2:SQ u q.2) (hu:u<=1000000000)
include I I' A B p1 p2 q1 q2 hu
theorem ajg(hp:p.1=p.2∨q.1=q.2):aC 48 [QA f (aO f) p,QA h (aO h) q] (aB (cu (bN f p) (bN h q))):=by
 have e1:=pC (f:=f) (c:=aO f) p1 p2 hu
 have e2:=pC (f:=h) (c:=aO h) q1 q2 hu
 by_cases h1:p.1=p.2
 ·rw [decide_eq_true h1]at e1
  have k1:=I'.wR B q1 q2 p1 hu
  rw [lU (lZ h1) (fun _=>Iff.rfl),VU fun s t=>B.up]
  rw [cU]at k1
  exact aeK (CB _ _) e1 k1
 ·rw [decide_eq_false h1]at e1
  have h2:q.1=q.2:=hp.resolve_left h1
  rw [decide_eq_true h2]at e2
  have k1:=I.wR A p1 p2 q1 hu
  rw [lU (fun _=>Iff.rfl) (lZ h2),NI fun s t=>A.up]
  rw [cU]at k1
  exact aeL e1 e2 k1
end
theorem E8{p q:Rat}(hp:SQ u p)(hq:SQ u q):∃D,1<=D∧D<=2^(2*u)∧Gr D (2^u) 0 p∧Gr D (2^u) 0 q:=by
 have key:∀r:Rat,SQ u r->1<=r.den∧r.den<=2^u∧Ab r (2^u)∧r*((r.den:Int):Rat)=(r.num:Rat):=fun r hr=>by
  have h1:=r.den_pos
  have h2:=kB (b:=2) aF (r.den:Int)
  have h3:=Nat.pow_le_pow_right (show 0<2 by decide) hr.d2
  have h4:=kB (b:=2) aF r.num
  have h5:=Nat.pow_le_pow_right (show 0<2 by decide) hr.n2
  have h6:=B7 r
  have h7:Ab (r.num:Rat) (2^u):=NC aA
  have h8:(1:Rat)<=((r.den:Int):Rat):=fU aA
  refine⟨h1,aA,?_,h6.symm⟩
  rw [h6]at h7
  obtain⟨g1,g2⟩:=h7
  have hT:=gD u
  generalize (2:Rat)^u=T at *
  constructor
  ·refine Rat.not_lt.1 fun hh=>?_
   have:=Rat.mul_le_mul_of_nonneg_left h8 (show 0 <= -r by grind)
   grind
  ·refine Rat.not_lt.1 fun hh=>?_
   have:=Rat.mul_le_mul_of_nonneg_left h8 (show 0<=r by grind)
   grind
 obtain⟨a1,a2,a3,a4⟩:=key p hp
 obtain⟨b1,b2,b3,b4⟩:=key q hq
 refine⟨p.den*q.den,Nat.mul_pos a1 b1,?_,⟨⟨p.num*(q.den:Int),?_⟩,a3⟩,⟨⟨q.num*(p.den:Int),?_⟩,b3⟩⟩
 ·rw [Nat.two_mul,Nat.pow_add];exact Nat.mul_le_mul a2 b2
 ·rw [Nat.pow_zero,Nat.mul_one,Rat.intCast_mul,<-a4,Int.natCast_mul p.den,Rat.intCast_mul];grind
 ·rw [Nat.pow_zero,Nat.mul_one,Rat.intCast_mul,<-b4,Int.natCast_mul p.den,Rat.intCast_mul];grind
theorem apE{f:ZX}{B:Rat}(h1:Gr D B j p.1)(h2:Gr D B j p.2)(hle:p.1<=p.2):Gr D B (j+1) (hv f p).1∧Gr D B (j+1) (hv f p).2∧((hv f p).2-(hv f p).1)*2<=p.2-p.1:=by
 have hm:=h1.IC h2
 have e:(p.1+p.2)/2*2=p.1+p.2:=Rat.div_mul_cancel aF
 have key:∀q:Rat × Rat,Gr D B (j+1) q.1->Gr D B (j+1) q.2->q.1<=q.2->(q.2-q.1)*2<=p.2-p.1->Gr D B (j+1) (ex f q).1∧Gr D B (j+1) (ex f q).2∧((ex f q).2-(ex f q).1)*2<=p.2-p.1:=fun q a1 a2 a3 a4=>by
  unfold ex
  split
  ·exact⟨a2,a2,by show(q.2-q.2)*2<=_;grind⟩
  ·exact⟨a1,a2,a4⟩
 unfold hv
 split
 ·rename_i hh
  exact⟨h1.mono aA,h2.mono aA,by rw [hh];grind⟩
 ·split
  ·exact key (p.1,(p.1+p.2)/2) (h1.mono aA) hm (by show p.1<=_;grind) (by show((p.1+p.2)/2-p.1)*2<=_;grind)
  ·exact key ((p.1+p.2)/2,p.2) hm (h2.mono aA) (by show _<=p.2;grind) (by show(p.2-(p.1+p.2)/2)*2<=_;grind)
theorem ajh{n' S N:Nat}{f fb:ZX}{q:Rat × Rat}(I:nX s n f)(I':nX s' n' fb)(T:Two S N f fb)(hS:S<=20000)(hG:aC 203 [PI fb.l,PI f.l] (PI (gz fb f).l))(IG:2<=ZX.N (gz fb f) -> ∃sg ng,nX sg ng (gz fb f))
  (A:mV f (vt (aO f)) p.1 p.2) (B:mV fb (vt (aO fb)) q.1 q.2) (p1:SQ u p.1) (p2:SQ u p.2) (q1:SQ u q.1) (q2:SQ u q.2) (hu:u<=2200000):aC 48 [QA f (aO f) p,QA fb (aO fb) q] (aB (cu (bN f p) (bN fb q))):=by
 by_cases KE:p.1=p.2∨q.1=q.2
 ·exact ajg I I' A B p1 p2 q1 q2 aA KE
 obtain⟨hp,hq⟩:=not_or.1 KE
 have R4:p.1<p.2:=by have:=A.le;grind
 have hql:q.1<q.2:=by have:=B.le;grind
 have hTn:=T.hn
 have hN1:=T.Nf
 have K5:=T.Nh
 have e1:=pC (f:=f) (c:=aO f) p1 p2 aA
 have e2:=pC (f:=fb) (c:=aO fb) q1 q2 aA
 rw [decide_eq_false hp]at e1
 rw [decide_eq_false hq]at e2
 have ⟨zv,hzv,Z⟩:∃z:Bool,(z=true↔vt (aO (gz fb f)) p.2<vt (aO (gz fb f)) p.1)∧aC 116 [PI fb.l,QA f (aO f) p] (.bool z):=by
  have hg0:gz fb f≠0:=apd (.inr I.nf.ne)
  have hgN:ZX.N (gz fb f)<=ZX.N f:=(fS fb f).r.nP I.nf.ne
  have AF:¬fb.l.length=0:=by have:=ZX.aH.1 I'.nf.ne;have:ZX.N fb=fb.l.length:=rfl;omega
  by_cases h2:2<=ZX.N (gz fb f)
  ·obtain⟨sg,ng,IGG⟩:=IG h2
   have k4:=IGG.qT p1 p2 aA
   rw [if_neg (Rat.not_lt.2 (Rat.le_of_lt R4)),cU,cU]at k4
   refine⟨_,?_,mQ (by show ZX.N fb<_;omega) (by show ZX.N (gz fb f)<_;omega) e1 (fun hh=>by cases hh) hG (fun _=>IGG.z6) (fun _=>k4) (σ:=0) rfl⟩
   rw [if_neg AF,if_neg aF,if_neg (by show ¬ZX.N (gz fb f)<2;omega),decide_eq_true_eq]
   omega
  ·refine⟨_,?_,mQ (by show ZX.N fb<_;omega) (by show ZX.N (gz fb f)<_;omega) e1 (fun hh=>by cases hh) hG (fun hh=>absurd hh h2) (fun hh=>absurd hh h2) (σ:=0) (b:=0) (cg:=[]) rfl⟩
   rw [if_neg AF,if_neg aF,if_pos (by show ZX.N (gz fb f)<2;omega)]
   refine⟨fun hh=>absurd hh aF,fun hh=>?_⟩
   exfalso
   have:gz fb f=1:=(EZ (.inr I.nf.ne)).N1 aA
   rw [this]at hh
   have hS1:=wT ZX.qM (fun d h1 h2=>by have:=h1.nP ZX.qM;rwa [ZX.wH]at this) (by rw [ZX.wH];omega)
   have:=hS1.const R4 (σ:=1) (.inr (by rw [ab4];decide)) (fun x _ _=>by rw [ab4];decide)
   omega
 have r1:=I.wR A p1 p2 q1 aA
 have r2:=I.wR A p1 p2 q2 aA
 obtain⟨D,WQ,AG,g1,g2⟩:=E8 p1 p2
 obtain⟨D',aad,aae,g1',g2'⟩:=E8 q1 q2
 have hK:=azS (s:=S) (β:=u) hTn
 have azV:∀r:Rat × Rat,Ab r.1 (2^u)->Ab r.2 (2^u)->r.2-r.1<=2^(u+1):=fun r ⟨a1,a2⟩ ⟨a3,a4⟩=>by rw [Rat.pow_succ];grind
 obtain⟨J,hJ⟩:∃J,J=kc S N u+u+2:=⟨_,rfl⟩
 have hJ2:u+1+2*u+J+1<=1000000000:=aA
 have sqA:∀(D:Nat),1<=D->D<=2^(2*u) -> ∀(j:Nat) (r:Rat),j<=J->Gr D (2^u) j r->SQ (u+1+2*u+J+1) r:=fun D h1 h2 j r hj hr=>((hr.mono hj).sq h1 h2).mono aA
 have sqS:∀(D:Nat),1<=D->D<=2^(2*u) -> ∀(j:Nat) (r r':Rat),j<=J->Gr D (2^u) j r->Gr D (2^u) j r'->SQ (u+1+2*u+J+1) (r+r'):=fun D h1 h2 j r r' hj hr jO=>(((hr.add jO).mono hj).sq h1 h2)
 by_cases pH:∀x,bN f p x↔bN fb q x
 ·-- aFg are one
  have hz:zv=true:=hzv.2 (aeJ T A B R4 pH)
  subst hz
  have c1:cr (bN f p) q.1=1:=sI.2 fun hh=>B.jB (.inr ⟨rfl,hql⟩) ((pH _).1 hh)
  have c2:cr (bN f p) q.2<=0:=by
   rcases CB (bN f p) q.2 with hh | hh | hh
   ·omega
   ·omega
   ·exact absurd ((pH _).2 fM) (sI.1 hh)
  rw [c1]at r1
  rw [acj.2 pH,wU,wU]
  rw [wU]at Z e1 e2 r1 r2
  rw [cU]at r1 r2
  generalize cr (bN f p) q.2=r at *
  simp only [eT]at Z e1 e2 r1 r2 |-
  apply cG [(0, .ag (eT f.l (aO f) p.1.num p.1.den p.2.num p.2.den)),(1, .ag (eT fb.l (aO fb) q.1.num q.1.den q.2.num q.2.den))] Tryz.func48
  apply cN [2,3]
  apply cK e1 [2,3,6]
  refine W.cond ⟨_,rfl,fun h=>?_,fun h=>?_⟩
  ·simp at h
  apply (pK)
  apply cK e2 [2,3,13]
  refine W.cond ⟨_,rfl,fun h=>?_,fun h=>?_⟩
  ·simp at h
  apply W.skip
  refine W.iS (fun σ=>False) ?_ (fun _ hh=>hh.elim)
  apply cK Z [2,3,21]
  refine W.cond ⟨_,rfl,fun h=>?_,fun h=>?_⟩
  ·apply n7 r1 r2
   simp (disch:=omega) [gw,c2]
   apply cO [2,3,33]
   refine W.cond ⟨_,rfl,fun h=>?_,fun h=>?_⟩
   ·exact eY [4]
   ·simp at h
  ·simp at h
 ·-- aFg are two
  have uK:zv=true->¬(0<cr (bN f p) q.1∧cr (bN f p) q.2<=0):=fun hz ⟨c1,c2⟩=>pH (aeI T A B R4 hql (by
   rcases CB (bN f p) q.1 with hh | hh | hh
   ·omega
   ·omega
   ·exact sI.1 hh) (Classical.byContradiction fun hh=>by have:=sI.2 hh;omega) (hzv.1 hz))
  have hsw:¬ ∀x,iU (vt (aO f)) p.1 p.2 x↔iU (vt (aO fb)) q.1 q.2 x:=pH
  rw [wU,wU]
  rw [wU]at Z e1 e2 r1 r2
  rw [cU]at r1 r2
  generalize hv1:cr (bN f p) q.1=x1 at *
  generalize hv2:cr (bN f p) q.2=x2 at *
  clear hv1 hv2
  simp only [eT]at Z e1 e2 r1 r2 |-
  apply cG [(0, .ag (eT f.l (aO f) p.1.num p.1.den p.2.num p.2.den)),(1, .ag (eT fb.l (aO fb) q.1.num q.1.den q.2.num q.2.den))] Tryz.func48
  apply cN [2,3]
  apply cK e1 [2,3,6]
  refine W.cond ⟨_,rfl,fun h=>?_,fun h=>?_⟩
  ·simp at h
  apply (pK)
  apply cK e2 [2,3,13]
  refine W.cond ⟨_,rfl,fun h=>?_,fun h=>?_⟩
  ·simp at h
  apply W.skip
  refine W.iS (fun σ=>∃(v2 v3:Nat),bF σ [(2, .ptr 2 v2 0 0),(3, .ptr 3 v3 0 0)] fun rows clk=>rows 2=some ⟨v2,49,10,[eT f.l (aO f) p.1.num p.1.den p.2.num p.2.den]⟩∧rows 3=some ⟨v3,49,10,[eT fb.l (aO fb) q.1.num q.1.den q.2.num q.2.den]⟩) ?_ ?_
  ·apply cK Z [2,3,21]
   refine W.cond ⟨_,rfl,fun h=>?_,fun h=>?_⟩
   ·have hc:=uK h
    by_cases hx1:0<x1
    ·have hx2:¬x2<=0:=fun hh=>hc ⟨hx1,hh⟩
     apply nB r1
     apply j0 hx1 r2
     apply sS hx2 [2,3,33]
     refine W.cond ⟨_,rfl,fun h=>?_,fun h=>?_⟩
     ·simp at h
     ·apply W.skip
      exact⟨_,aD _ [2,3],_,_,_,_,rfl,aG,aG⟩
    ·apply nB r1
     apply sS hx1 [2,3,33]
     refine W.cond ⟨_,rfl,fun h=>?_,fun h=>?_⟩
     ·simp at h
     ·apply W.skip
      exact⟨_,aD _ [2,3],_,_,_,_,rfl,aG,aG⟩
   ·apply W.skip
    exact⟨_,aD _ [2,3],_,_,_,_,rfl,aG,aG⟩
  rintro _ ⟨v2,v3,rows,clk,rfl,bS,bK⟩
  clear Z e1 e2 r1 r2
  apply W.block
  refine W.bB (fun k σ=>∃(a b:Rat × Rat) (j v2 v3:Nat),bF σ [(2, .ptr 2 v2 0 0),(3, .ptr 3 v3 0 0)] fun rows clk=>rows 2=some ⟨v2,49,10,[eT f.l (aO f) a.1.num a.1.den a.2.num a.2.den]⟩∧rows 3=some ⟨v3,49,10,[eT fb.l (aO fb) b.1.num b.1.den b.2.num b.2.den]⟩ ∧
   mV f (vt (aO f)) a.1 a.2∧mV fb (vt (aO fb)) b.1 b.2∧(∀x,bN f a x↔bN f p x)∧(∀x,bN fb b x↔bN fb q x)∧Gr D (2^u) j a.1∧Gr D (2^u) j a.2∧Gr D' (2^u) j b.1∧Gr D' (2^u) j b.2∧(a.2-a.1)*2^j<=2^(u+1)∧(b.2-b.1)*2^j<=2^(u+1)∧j+k=J) J ?_ ?_
  ·exact⟨_, .refl,p,q,0,_,_,_,_,rfl,bS,bK,A,B,fun _=>Iff.rfl,fun _=>Iff.rfl,g1,g2,g1',g2',by rw [Rat.pow_zero,Rat.mul_one];exact azV p g1.b g2.b,by rw [Rat.pow_zero,Rat.mul_one];exact azV q g1'.b g2'.b,aA⟩
  rintro k _ ⟨a,b,j,v2,v3,rows,clk,rfl,bS,bK,HA,HB,ha,hb,ga1,ga2,gb1,gb2,wa,wb,hjk⟩
  have s1:=sqA D WQ AG j a.1 aA ga1
  have s2:=sqA D WQ AG j a.2 aA ga2
  have s3:=sqA D' aad aae j b.1 aA gb1
  have s4:=sqA D' aad aae j b.2 aA gb2
  have e1:=pC (f:=f) (c:=aO f) s1 s2 hJ2
  have e2:=pC (f:=fb) (c:=aO fb) s3 s4 hJ2
  rw [wU]at e1 e2
  simp only [eT]at e1 e2 bS bK
  apply W.block
  apply W.seq
  by_cases KE:a.1=a.2∨b.1=b.2
  ·have C:=ajg I I' HA HB s1 s2 s3 s4 hJ2 KE
   rw [lU ha hb,wU,wU]at C
   simp only [eT]at C
   by_cases h1:a.1=a.2
   ·rw [decide_eq_true h1]at e1
    apply oQ bS e1
    apply bT [2,3,39]
    refine W.cond ⟨_,rfl,fun h=>?_,fun h=>?_⟩
    ·apply qE bS bK C
     exact gI [4]
    ·simp at h
   ·rw [decide_eq_false h1]at e1
    rw [decide_eq_true (KE.resolve_left h1)]at e2
    apply qE bS bK e1
    apply j7 bS bK e2
    apply bT [2,3,39]
    refine W.cond ⟨_,rfl,fun h=>?_,fun h=>?_⟩
    ·apply qE bS bK C
     exact gI [4]
    ·simp at h
  ·obtain⟨h1,h2⟩:=not_or.1 KE
   rw [decide_eq_false h1]at e1
   rw [decide_eq_false h2]at e2
   have hal:a.1<a.2:=by have:=HA.le;grind
   have hbl:b.1<b.2:=by have:=HB.le;grind
   have m1:=oW a.2 b.1 (s2.yy hJ2) (s3.yy hJ2)
   have m2:=oW b.2 a.1 (s4.yy hJ2) (s1.yy hJ2)
   rw [cU,cU]at m1 m2
   apply qE bS bK e1
   apply j7 bS bK e2
   apply bT [2,3,39]
   refine W.cond ⟨_,rfl,fun h=>?_,fun h=>?_⟩
   ·simp at h
   apply (pK)
   apply qE bS bK m1
   apply bT [2,3,48]
   refine W.cond ⟨_,rfl,fun h=>?_,fun h=>?_⟩
   ·simp at h
    rw [lT]at h
    have hcu:cu (bN f p) (bN fb q) = -1:=by rw [<-lU ha hb];exact azQ HB h hbl
    rw [hcu]
    exact eY [4]
   ·simp at h
    rw [<-Int.not_le,lT]at h
    have gU:=Rat.not_le.1 h
    apply (pK)
    apply qE bS bK m2
    apply bT [2,3,54]
    refine W.cond ⟨_,rfl,fun h=>?_,fun h=>?_⟩
    ·simp at h
     rw [lT]at h
     have hcu:cu (bN f p) (bN fb q)=1:=by rw [<-lU ha hb];exact azR HA HB h hal
     rw [hcu]
     exact eY [4]
    ·simp at h
     rw [<-Int.not_le,lT]at h
     have hba:=Rat.not_le.1 h
     have hk:k≠0:=fun CP=>by
      have hjJ:j=J:=aA
      refine pH fun x=>?_
      have hP:=gD j
      have hW:∀w:Rat,w*2^j<=2^(u+1)->w<=2^(u+1)/2^j:=fun w hw=>Rat.not_lt.1 fun c8=>by
       have e0:(2:Rat)^(u+1)/2^j*2^j=2^(u+1):=Rat.div_mul_cancel (Rat.ne_of_gt hP)
       have:=Rat.mul_lt_mul_of_pos_right c8 hP
       grind
      have:=aeH (W:=2^(u+1)/2^j) T HA HB hal hbl hba gU ga1.b ga2.b gb1.b gb2.b (hW _ wa) (hW _ wb) (by
       have e0:(2:Rat)^(u+1)/2^j*2^j=2^(u+1):=Rat.div_mul_cancel (Rat.ne_of_gt hP)
       have e3:(2:Rat)^j=2^kc S N u*2^(u+2):=by rw [<-sH,hjJ,hJ];congr 1
       have e4:(2:Rat)^(u+2)=2^(u+1)*2:=by rw [<-Rat.pow_succ]
       have hQ:=gD (kc S N u)
       have hR:=gD (u+1)
       rw [e4]at e3
       generalize (2:Rat)^(u+1)/2^j=W at *
       rw [e3]at e0
       generalize (2:Rat)^kc S N u=κ at *
       generalize (2:Rat)^(u+1)=R at *
       have e5:R*(2*W*κ)=R*1:=aT
       have e6:=Rat.le_of_mul_le_mul_left (show R*(2*W*κ)<=R*1 by rw [e5];exact Rat.le_refl) hR
       exact e6) x
      exact(ha x).symm.trans (this.trans (hb x))
     obtain⟨k',rfl⟩:∃k',k=k'+1:=⟨k-1,aA⟩
     have ma:=ga1.IC ga2
     have mb:=gb1.IC gb2
     have H1:=I.aje (u:=u+1+2*u+J+1) (Rat.le_of_lt hal) s1 s2 (sqA D WQ AG (j+1) _ aA ma) (sqS D WQ AG j _ _ aA ga1 ga2) hJ2
     have H2:=I'.aje (u:=u+1+2*u+J+1) (Rat.le_of_lt hbl) s3 s4 (sqA D' aad aae (j+1) _ aA mb) (sqS D' aad aae j _ _ aA gb1 gb2) hJ2
     obtain⟨ha1,ha2⟩:=aco HA
     obtain⟨OD,C4⟩:=aco HB
     obtain⟨ga3,ga4,wa'⟩:=apE (f:=f) ga1 ga2 (Rat.le_of_lt hal)
     obtain⟨gb3,gb4,wb'⟩:=apE (f:=fb) gb1 gb2 (Rat.le_of_lt hbl)
     rw [wU,wU]at H1 H2
     simp only [eT]at H1 H2
     have hwd:∀w w':Rat,w*2^j<=2^(u+1)->w'*2<=w->w'*2^(j+1)<=2^(u+1):=fun w w' g1 g2=>by
      have hP:=gD j
      have g3:=Rat.mul_le_mul_of_nonneg_right g2 (Rat.le_of_lt hP)
      rw [Rat.pow_succ]
      grind
     have wa2:=hwd _ _ wa wa'
     have wb2:=hwd _ _ wb wb'
     have ha3:∀x,bN f (hv f a) x↔bN f p x:=fun x=>(ha2 x).trans (ha x)
     have hb3:∀x,bN fb (hv fb b) x↔bN fb q x:=fun x=>(C4 x).trans (hb x)
     generalize hv f a=a' at *
     generalize hv fb b=b' at *
     apply W.skip
     refine W.K1 fun K hK=>?_
     apply j7 bS bK H1
     apply j7 bS bK H2
     (try (refine aY (of_decide_eq_true cT) ?_));(try simp (maxSteps:=4000000) (disch:=omega) [gw,bS,bK,i3]);(repeat rw [if_pos cT]);(try simp (maxSteps:=4000000) (disch:=omega) [gw,bS,bK,i3])
     (try (refine aY (of_decide_eq_true cT) ?_));(try simp (maxSteps:=4000000) (disch:=omega) [gw,bS,bK,i3]);(repeat rw [if_pos cT]);(try simp (maxSteps:=4000000) (disch:=omega) [gw,bS,bK,i3])
     (try (refine aY (of_decide_eq_true cT) ?_));(try simp (maxSteps:=4000000) (disch:=omega) [gw,bS,bK,i3]);(repeat rw [if_pos cT]);(try simp (maxSteps:=4000000) (disch:=omega) [gw,bS,bK,i3])
     refine hK _ ⟨k',_,aD _ [2,3],aA,a',b',j+1,_,_,_,_,rfl,aG,aG,ha1,OD,ha3,hb3,ga3,ga4,gb3,gb4,wa2,wb2,aA⟩
theorem ajj(h:tY s n a)(h0:a≠0)(rB:1<=n)(hC:(qb (qb s n) n+n+6)*4^n<=4500000000)(hs:qb s n<=5000000):nX (qb s n) n (sq a):=by
 have h1:=(E7 h0).1
 refine⟨⟨h.sqb h0,h.hn,?_,hC⟩,rB,h1,Q4 h1 fun d d1 d2=>?_,hs⟩
 ·exact Nat.le_trans h.hs (Nat.pow_le_pow_right aF (by unfold qb;omega))
 ·have h3:=(fS (sq a) (cD (sq a))).least d1 d2
  rw [ace h0]at h3
  have:=h3.nP ZX.qM
  rwa [ZX.wH]at this
theorem qU{β:Type}[Inhabited α][Inhabited β]{g:α->β}{l:List α}{i:Nat}(h:i<l.length):nth (l.map g) i=g (nth l i):=by
 rw [bZ (by simpa using h),bZ h,List.getElem_map]
abbrev G9(x:List Int)(an ad bn bd:Int):List PV:=[Po x, .bool (decide (an<0)),us (aV LL an.natAbs), .bool (decide (ad<0)),us (aV LL ad.natAbs), .bool (decide (bn<0)),us (aV LL bn.natAbs), .bool (decide (bd<0)),us (aV LL bd.natAbs)]
def RY(sg:ZX->Int):Nat->ZX->Int
 | 0,_=>0
 | k+1,p=>if sg p=0 then RY sg k (cD p)else sg p
theorem tA{sg:ZX->Int}(h0:sg 0=0):∀k,RY sg k 0=0
 | 0=>rfl
 | k+1=>by
  have h1:cD 0=0:=rfl
  rw [RY,if_pos h0,h1,tA h0 k]
theorem aaf{sg:ZX->Int}(h0:sg 0=0):∀ {k j:Nat} {p:ZX},ZX.N p<=k->ZX.N p<=j->RY sg k p=RY sg j p
 | 0,j,p,h,_=>by
  have:p=0:=Classical.byContradiction fun h0=>by have:=ZX.aH.1 h0;omega
  rw [this,tA h0,tA h0]
 | k+1,0,p,_,h=>by
  have:p=0:=Classical.byContradiction fun h0=>by have:=ZX.aH.1 h0;omega
  rw [this,tA h0,tA h0]
 | k+1,j+1,p,h1,h2=>by
  rw [RY,RY]
  have:=qO p
  rw [aaf h0 (k:=k) (j:=j) (p:=cD p) aA aA]
theorem aag(g:FuncId)(hw:K3 g=false)(bR:List PV)(hc:bR.all cY=true)(sg:ZX->Int)(h0:sg 0=0){p:ZX}(hp:BZ s k p)(hk:k<=31)(hs:s<=1000000)(hg:∀(q:ZX) (s':Nat),s'<=s+5*k->BZ s' k q->aC g (Po q.l::bR) (aB (sg q)))(hm:vX g=false:=by rfl) :
  aC 244 [Po p.l, .fn g bR] (aB (RY sg (ZX.N p) p)):=by
 have hN:=hp.N
 have N1:=fG (x:=p.l) (hp.pb aA aA)
 rw [p.c]at N1
 obtain⟨r,hr⟩:∃r,r=RY sg (ZX.N p) p:=⟨_,rfl⟩
 rw [<-hr]
 apply cG [(0,Po p.l),(1, .fn g bR)] Tryz.func244
 apply cN [0,1]
 apply cK N1 [0,1]
 apply W.block
 refine W.bB (fun m σ=>∃(q:ZX) (s':Nat),bF σ [(0,Po q.l),(1, .fn g bR)] fun rows clk=>m=ZX.N q∧BZ s' k q∧s'+5*ZX.N q<=s+5*k∧RY sg (ZX.N q) q=r) (ZX.N p) ?_ ?_
 ·exact⟨_, .refl,p,s,_,_,rfl,rfl,hp,aA,hr.symm⟩
 rintro m _ ⟨q,s',rows,clk,rfl,rfl,bq,hsq,hq⟩
 have hNq:=bq.N
 have hNl:ZX.N q=q.l.length:=rfl
 apply cQ [0,1,10]
 refine W.cond ⟨_,rfl,fun h=>?_,fun h=>?_⟩
 ·have WL:q≠0:=ZX.aH.2 (by show 0<q.l.length;simp at h;omega)
  have hgq:=hg q s' aA bq
  have hD:=tX bq aA aA
  have aFi:ZX.N (cD q)<ZX.N q:=by have:=qO q;have:=ZX.aH.1 WL;omega
  have bd:=bq.cD hk
  obtain⟨j,hj⟩:∃j,ZX.N q=j+1:=⟨ZX.N q-1,by have:=ZX.aH.1 WL;omega⟩
  rw [hj,RY]at hq
  generalize hv:sg q=w at *
  apply (iE)
  apply W.sr
  simp (disch:=omega) [gw, -K3,hw, -vX,hm,hc]
  apply jW hgq
  apply cO [0,1,5]
  apply aQ [0,1,5,17]
  refine W.cond ⟨_,rfl,fun h=>?_,fun h=>?_⟩
  ·have hw:w≠0:=by simpa using h
   rw [if_neg hw]at hq
   subst hq
   exact eY [4]
  ·have hw:w=0:=by simpa using h
   rw [if_pos hw]at hq
   apply W.skip
   refine W.bY fun K hK=>?_
   apply o9 hD
   refine hK _ ⟨ZX.N (cD q),_,aD _ [0,1],aFi,cD q,s'+5,_,_,rfl,rfl,bd,aA,?_⟩
   rw [<-hq]
   exact aaf h0 (Nat.le_refl _) aA
 ·have WL:q=0:=by
   refine Classical.byContradiction fun h0=>?_
   have h1:=ZX.aH.1 h0
   simp at h;rw [hNl,h]at h1;simp at h1
  subst WL
  rw [tA h0]at hq
  subst hq
  exact uW [4]
theorem aah{g:α->List PV}{l:List α}{m:Nat}{f:ZX}(hO:aC 265 [aJ g l] (Po f.l))(hR:aC 18 [Po f.l] (.dK [aJ (ga f) L,aB 0]))(hm:m=0):aC 255 [aJ g l] (aJ (ga f) L):=by
 apply cG [(0,aJ g l)] Tryz.func255
 apply aQ [0]
 apply n7 hO hR
 apply bT [3,4]
 apply cQ [3,12]
 refine W.cond ⟨_,rfl,fun h=>?_,fun h=>?_⟩
 ·simp at h
 apply W.skip
 exact eY [2]
theorem aai{m:List Int}{f:ZX}(hx:x ≠ [])(hO:aC 205 [PI x] (PI f.l))(hR:aC 101 [PI f.l] (aJ (qa f c) L)):aC 119 [PI x] (aJ (qa f c) L):=by
 apply cG [(0,PI x)] Tryz.func119
 apply aQ [0]
 apply cQ [0,5]
 refine W.cond ⟨_,rfl,fun h=>?_,fun h=>?_⟩
 ·simp at h;exact absurd h hx
 apply W.skip
 apply n7 hO hR
 exact gI [2]
theorem atm(na:Nf a):wO (oz a) (cD (oz a)):=fun d h1 h2=>by
 refine Classical.byContradiction fun h3=>?_
 have ho:=ail na
 have hd0:=h1.ne ho.ne
 obtain⟨p,hp,hpd⟩:=qN _ d (Nat.le_refl _) aA
 have hmu:=api na hp
 have hpo:dv p (oz a):=hpd.trans h1
 have h4:1<=mu p (oz a):=(lP hp ho.ne).2 (by rw [show p^1=p by rw [pow_succ',fH];grind];exact hpo)
 have h5:mu p (oz a)=0+1:=by
  rw [hmu]at h4 |-
  omega
 obtain⟨h6,h7⟩:=DK hp ho.ne h5
 have h8:1<=mu p (cD (oz a)):=(lP hp h6).2 (by rw [show p^1=p by rw [pow_succ',fH];grind];exact hpd.trans h2)
 omega
theorem ajk(h:tY s n a)(h0:a≠0)(rB:1<=n)(hC:(qb (qb s n) n+n+6)*4^n<=4500000000)(hs:qb s n<=5000000):nX (qb s n) n (oz (nf a)):=by
 have na:=kG h0
 have no:=ail na
 have hb:BZ (qb s n) n (oz (nf a)):=h.nfz.dv na no (F6 na _ _)
 exact⟨⟨hb,h.hn,Nat.le_trans h.hs (Nat.pow_le_pow_right aF (by unfold qb;omega)),hC⟩,rB,no,Q4 no (atm na),hs⟩
theorem VV(h:tY s n a)(h0:a≠0)(rB:1<=n)(hC:(qb (qb s n) n+n+6)*4^n<=4500000000)(hs:qb s n<=20000):aC 255 [Po a.l] (aJ (ga (oz (nf a))) (GI (qb s n) n (oz (nf a)))):=
 have I:=ajk h h0 rB hC aA
 aah (amy h h0) (aab I.amZ I) rfl
theorem ajl{b:ZX}(na:Nf a)(nb:Nf b)(h:∀p,sF p->mu p a=mu p b):a=b:=by
 have h1:=(mN na.ne nb.ne).2 fun p hp=>Nat.le_of_eq (h p hp)
 have h2:=(mN nb.ne na.ne).2 fun p hp=>Nat.le_of_eq (h p hp).symm
 have:=wJ h1 h2
 rwa [na.nfe,nb.nfe]at this
theorem ajm(q:Rat):cD (eG q)=K (q.den:Int):=ext fun t=>by
 rw [UU,AH]
 refine ZC fun h=>⟨0,?_⟩
 rw [eG,ZB,ZB]
 simp only [V]
 grind
theorem Q5{F:ZX}{v:Rat->Nat}(nF:Nf F)(cF:wO F (cD F))(SF:uG F v)(hF:ZX.N F<=20){t hi:Rat}(h:t<hi)(hv:v t=v hi):∀(m:Nat) (p:ZX),ZX.N p<=m->p≠0->(∀q,sF q->min (mu q p) 1<=mu q F) -> ∀s,t<s->s<=hi->e s p≠0∧cP (e s p)=cP (e hi p)
 | 0,p,hm,h0,_,_,_,_=>absurd hm (by have:=ZX.aH.1 h0;omega)
 | m+1,p,hm,h0,hmu,s,h1,h2=>by
  have hN:=ZX.aH.1 h0
  by_cases hN1:ZX.N p<=1
  ·obtain⟨c,hc,rfl⟩:=ZX.nO (x:=p) aA
   rw [CV,CV]
   exact⟨fun h=>hc (Rat.intCast_eq_zero_iff.1 h),rfl⟩
  obtain⟨nf,hf⟩:=nT h0
  have hd:dv (sq p) F:=(mN nf.ne nF.ne).2 fun q hq=>by rw [hf q hq];exact hmu q hq
  obtain⟨w,S⟩:=nU (h:=sq p) nF cF
  have hg:gz F (sq p)=sq p:=Nf.wK S.ng nf fun q hq=>by
   rw [(fS F (sq p)).mu nF.ne nf.ne hq]
   have:=(mN nf.ne nF.ne).1 hd q hq
   omega
  rw [hg]at S
  have hSN:=S.N
  have Sw:=wT S.nw.ne S.sw aA
  have Sf:=wT S.ng.ne S.sg aA
  have c1:=S.JO SF Sf Sw (Rat.le_of_lt h)
  have m1:=Sf.bU (Rat.le_of_lt h)
  have m2:=Sw.bU (Rat.le_of_lt h)
  have m3:=Sf.bU (Rat.le_of_lt h1)
  have m4:=Sf.bU h2
  obtain⟨f1,f2⟩:=Sf.flat h1 aA
  have f3:cP (e hi (sq p))=cP (e s (sq p)):=by
   rcases Rat.le_iff_lt_or_eq.1 h2 with h3 | h3
   ·exact(Sf.flat h3 aA).2 f1
   ·rw [h3]
  obtain⟨c,hc,q,hq⟩:=uE h0
  have WL:q≠0:=fun h=>by
   rw [h]at hq
   exact ZX.oF (ZX.sE hc) h0 (by rw [hq];grind)
  have K5:=congrArg ZX.N hq
  rw [ZX.lN (ZX.sE hc) h0,ZX.N_K hc,ZX.lN WL nf.ne]at K5
  have hfN:2<=ZX.N (sq p):=Nat.not_lt.1 fun h3=>by
   obtain⟨d,PA,XL⟩:=qN _ p (Nat.le_refl _) aA
   have h5:=hf d PA
   have h6:=(lP PA h0 (k:=1)).2 (by rw [pow_succ',fH,show(1:ZX)*d=d by grind];exact XL)
   rw [nf.N1 aA,P6 PA]at h5
   omega
  have hqm:∀r,sF r->min (mu r q) 1<=mu r F:=fun r hr=>by
   have h3:=hmu r hr
   have h4:=congrArg (mu r) hq
   rw [wI hr (ZX.sE hc) h0,wI hr WL nf.ne,aec hr hc]at h4
   omega
  obtain⟨q1,q2⟩:=Q5 nF cF SF hF h hv m q aA WL hqm s h1 h2
  have hcr:(c:Rat)≠0:=fun h=>hc (Rat.intCast_eq_zero_iff.1 h)
  have g:∀x,(c:Rat)*e x p=e x q*e x (sq p):=fun x=>by rw [<-CV (t:=x) c,<-kH,hq,kH]
  refine⟨fun h3=>?_,?_⟩
  ·have h4:=g s
   rw [h3,Rat.mul_zero]at h4
   rcases Rat.mul_eq_zero.1 h4.symm with h5 | h5
   ·exact q1 h5
   ·exact f1 h5
  ·rw [DR hcr (g s),DR hcr (g hi),q2,f3]
theorem uH(t:Rat):(eG t).l = [-t.num,(t.den:Int)]:=kS (x:=(t.den:Int)) (by have:=t.den_nz;omega) [-t.num]
theorem am0{n:Int}(hN:aC 64 [Po x] (Po x))(hM:aC 90 [T2 n d, .sl []] (T2 n d)):aC 192 [.ag (G9 x n d n d)] (.ag (G9 x n d n d)):=by
 simp only [G9]
 apply cG [(0, .ag (G9 x n d n d))] Tryz.func192
 apply kR [1,2]
 apply kZ hN
 apply fV hM hM
 (try (refine aY (of_decide_eq_true cT) ?_));(try simp (maxSteps:=4000000) (disch:=omega) [gw]);(repeat rw [if_pos cT]);(try simp (maxSteps:=4000000) (disch:=omega) [gw])
 exact pJ [2]
theorem aeN{n:Int}(hc:aC 86 [T2 n d,T2 n d] (aB 0)):aC 193 [.ag (G9 x n d n d)] (.bool true):=by
 simp only [G9]
 apply cG [(0, .ag (G9 x n d n d))] Tryz.func193
 apply gJ [1] hc [2]
 exact j8
theorem ajn{n:Int}(hl:q.length<1000000)(hr:q.length=0->r=0)(hq:aC 64 [Po q] (Po q))(hN:aC 64 [Po x] (Po x))(hM:aC 90 [T2 n d, .sl []] (T2 n d))(hc:aC 86 [T2 n d,T2 n d] (aB 0))(hs:aC 87 [Po q,T2 n d] (aB r)) :
  aC 246 [Po q, .ag (G9 x n d n d)] (aB r):=by
 have k1:=am0 hN hM
 have k2:=aeN (x:=x) hc
 simp only [G9]at k1 k2 |-
 apply cG [(0,Po q),(1, .ag (G9 x n d n d))] Tryz.func246
 apply kR [0,3]
 apply fV hq k1
 (try (refine aY (of_decide_eq_true cT) ?_));(try simp (maxSteps:=4000000) (disch:=omega) [gw]);(repeat rw [if_pos cT]);(try simp (maxSteps:=4000000) (disch:=omega) [gw])
 (try (refine aY (of_decide_eq_true cT) ?_));(try simp (maxSteps:=4000000) (disch:=omega) [gw]);(repeat rw [if_pos cT]);(try simp (maxSteps:=4000000) (disch:=omega) [gw])
 apply cO [0,3]
 apply W.seq
 by_cases h0:q.length=0
 ·rw [hr h0]
  apply aQ [0,3,14]
  refine W.cond ⟨_,rfl,fun h=>?_,fun h=>?_⟩
  ·exact eY [4]
  ·simp at h;exact absurd (List.eq_nil_of_length_eq_zero h0) h
 ·apply aQ [0,3,14]
  refine W.cond ⟨_,rfl,fun h=>?_,fun h=>?_⟩
  ·simp at h;rw [h]at h0;exact absurd rfl h0
  apply (pK)
  apply cK k2 [0,3,16]
  refine W.cond ⟨_,rfl,fun h=>?_,fun h=>?_⟩
  ·exact C7 hs [4]
  ·simp at h
theorem aeO(hN:aC 64 [Po x] (Po x))(h1:aC 90 [T2 an ad, .sl []] (T2 an ad))(h2:aC 90 [T2 bn bd, .sl []] (T2 bn bd)):aC 192 [.ag (G9 x an ad bn bd)] (.ag (G9 x an ad bn bd)):=by
 simp only [G9]
 apply cG [(0, .ag (G9 x an ad bn bd))] Tryz.func192
 apply kR [1,2]
 apply kZ hN
 apply fV h1 h2
 (try (refine aY (of_decide_eq_true cT) ?_));(try simp (maxSteps:=4000000) (disch:=omega) [gw]);(repeat rw [if_pos cT]);(try simp (maxSteps:=4000000) (disch:=omega) [gw])
 exact pJ [2]
theorem z7{z:Int}(hc:aC 86 [T2 an ad,T2 bn bd] (aB z)):aC 193 [.ag (G9 x an ad bn bd)] (.bool (decide (0<=z))):=by
 simp only [G9]
 apply cG [(0, .ag (G9 x an ad bn bd))] Tryz.func193
 apply gJ [1] hc [2]
 exact j8
theorem ajo{q':List Int}{n s s':Int}(h1:aC 87 [Po q,T2 n d] (aB s))(h2:aC 85 [Po q] (Po q'))(h3:aC 87 [Po q',T2 n d] (aB s')):aC 197 [Po q,T2 n d] (aB (if s=0 then s' else s)):=by
 apply cG [(0,Po q),(1,T2 n d)] Tryz.func197
 apply cN [0,3]
 apply cK h1 [0,3,5]
 by_cases h0:s=0
 ·rw [if_pos h0]
  apply aQ [0,3,5,10]
  refine W.cond ⟨_,rfl,fun h=>?_,fun h=>?_⟩
  ·simp at h;exact absurd h0 h
  apply (HT)
  apply fV h2 h3
  exact gI [4]
 ·rw [if_neg h0]
  apply aQ [0,3,5,10]
  refine W.cond ⟨_,rfl,fun h=>?_,fun h=>?_⟩
  ·exact eY [4]
  ·simp at h;exact absurd h h0
theorem ajp{s:Int}(h1:aC 87 [Po q,T2 bn bd] (aB s))(h2:aC 197 [Po q,T2 an ad] (aB w)):aC 195 [Po q,T2 an ad,T2 bn bd] (.bool (decide (s=0∨s≠w))):=by
 apply cG [(0,Po q),(1,T2 an ad),(2,T2 bn bd)] Tryz.func195
 apply gJ [0,4,5] h1 [0,4,7]
 by_cases h0:s=0
 ·subst h0
  exact eY [6]
 ·have hb:(s==0)=false:=by simpa using h0
  apply oQ hb h2
  apply sS hb [6]
  apply W.ret
  simp [go,h0]
  by_cases hsw:s=w<;>simp [hsw]
theorem aaj(hp:aC 193 [.ag (G9 x an ad bn bd)] (.bool true))(hc:aC 86 [T2 an ad,T2 tn td] (aB r)):aC 111 [.ag (G9 x an ad bn bd),T2 tn td] (aB r):=by
 simp only [G9]at *
 apply cG [(0, .ag (G9 x an ad bn bd)),(1,T2 tn td)] Tryz.func111
 apply aQ [2,3]
 apply (nC)
 apply cK hp [2,3,6]
 refine W.cond ⟨_,rfl,fun h=>?_,fun h=>?_⟩
 ·exact C7 hc [4]
 ·simp at h
theorem wV{z1 z2 s:Int}(hp:aC 193 [.ag (G9 x an ad bn bd)] (.bool false))(h1:aC 86 [T2 tn td,T2 an ad] (aB z1))(h2:aC 86 [T2 tn td,T2 bn bd] (aB z2))(h3:aC 87 [Po x,T2 tn td] (aB s))(h4:aC 197 [Po x,T2 an ad] (aB w))
  (hr:r=if z1<=0 then 1 else if 0<z2 then -1 else if s=0 then 0 else if s=w then 1 else -1):aC 111 [.ag (G9 x an ad bn bd),T2 tn td] (aB r):=by
 simp only [G9]at *
 apply cG [(0, .ag (G9 x an ad bn bd)),(1,T2 tn td)] Tryz.func111
 apply aQ [2,3]
 apply (nC)
 apply cK hp [2,3,6]
 refine W.cond ⟨_,rfl,fun h=>?_,fun h=>?_⟩
 ·simp at h
 apply cK h1 [2,3,13]
 refine W.cond ⟨_,rfl,fun h=>?_,fun h=>?_⟩
 ·have h0:z1<=0:=by simpa using h
  rw [if_pos h0]at hr;subst hr
  exact eY [4]
 have h0:¬z1<=0:=by simpa using h
 rw [if_neg h0]at hr
 apply cK h2 [2,3,19]
 refine W.cond ⟨_,rfl,fun h=>?_,fun h=>?_⟩
 ·have h0:0<z2:=by simpa using h
  rw [if_pos h0]at hr;subst hr
  exact eY [4]
 have h0:¬0<z2:=by simpa using h
 rw [if_neg h0]at hr
 apply W.skip
 apply cK h3 [2,5]
 apply (nC)
 apply aQ [2,5,29]
 refine W.cond ⟨_,rfl,fun h=>?_,fun h=>?_⟩
 ·have h0:s=0:=by simpa using h
  rw [if_pos h0]at hr;subst hr
  exact eY [4]
 have h0:¬s=0:=by simpa using h
 rw [if_neg h0]at hr
 apply cK h4 [32]
 refine W.cond ⟨_,rfl,fun h=>?_,fun h=>?_⟩
 ·have h0:s=w:=by simpa using h
  rw [if_pos h0]at hr;subst hr
  exact eY [4]
 ·have h0:¬s=w:=by simpa using h
  rw [if_neg h0]at hr;subst hr
  apply W.skip
  exact eY [4]
theorem ajq(hp:aC 193 [.ag (G9 x an ad bn bd)] (.bool true)):aC 254 [.ag (G9 x an ad bn bd)] (.ag (G9 x an ad bn bd)):=by
 simp only [G9]at *
 apply cG [(0, .ag (G9 x an ad bn bd))] Tryz.func254
 apply cN [1,2]
 apply cK hp [1,2,5]
 refine W.cond ⟨_,rfl,fun h=>?_,fun h=>?_⟩
 ·exact eY [2]
 ·simp at h
theorem aeP{mn md c:Int}(hp:aC 193 [.ag (G9 x an ad bn bd)] (.bool false))(hm:aC 91 [T2 an ad,T2 bn bd] (T2 mn md))(hc:aC 111 [.ag (G9 x an ad bn bd),T2 mn md] (aB c)) :
  aC 254 [.ag (G9 x an ad bn bd)] (.ag (if c=0 then G9 x mn md mn md else if c = -1 then G9 x an ad mn md else G9 x mn md bn bd)):=by
 simp only [G9]at *
 apply cG [(0, .ag (G9 x an ad bn bd))] Tryz.func254
 apply cN [1,2]
 apply cK hp [1,2,5]
 refine W.cond ⟨_,rfl,fun h=>?_,fun h=>?_⟩
 ·simp at h
 apply W.skip
 apply cK hm [1,2,3]
 refine W.iS (fun σ=>∃(v1 v2:Nat),bF σ [(1, .ptr 1 v1 0 0),(2, .ptr 2 v2 0 0)] fun rows clk=>rows 1=some ⟨v1,54,9,[if c=0 then G9 x mn md mn md else if c = -1 then G9 x an ad mn md else G9 x mn md bn bd]⟩∧rows 2=some ⟨v2,54,9,[[.nil, .bool false, .nil, .bool false, .nil, .bool false, .nil, .bool false, .nil]]⟩) ?_ ?_
 ·apply cK hc [1,2,3,14]
  apply W.block
  apply aQ [1,2,3,14,17]
  refine W.cond ⟨_,rfl,fun h=>?_,fun h=>?_⟩
  ·have h0:c=0:=by simpa using h
   rw [if_pos h0]
   refine W.K1 fun K hK=>?_
   apply (cV)
   (try (refine aY (of_decide_eq_true cT) ?_));(try simp (maxSteps:=4000000) (disch:=omega) [gw]);(repeat rw [if_pos cT]);(try simp (maxSteps:=4000000) (disch:=omega) [gw])
   (try (refine aY (of_decide_eq_true cT) ?_));(try simp (maxSteps:=4000000) (disch:=omega) [gw]);(repeat rw [if_pos cT]);(try simp (maxSteps:=4000000) (disch:=omega) [gw])
   (try (refine aY (of_decide_eq_true cT) ?_));(try simp (maxSteps:=4000000) (disch:=omega) [gw]);(repeat rw [if_pos cT]);(try simp (maxSteps:=4000000) (disch:=omega) [gw])
   exact hK _ ⟨_,aD _ [1,2],_,_,_,_,rfl,aG,aG⟩
  have h0:¬c=0:=by simpa using h
  rw [if_neg h0]
  apply aQ [1,2,3,23]
  refine W.cond ⟨_,rfl,fun h=>?_,fun h=>?_⟩
  ·have h0:c = -1:=by simpa using h
   rw [if_pos h0]
   refine W.bY (fun K hK=>?_);simp (disch:=omega) [gw]
   exact hK _ ⟨_,aD _ [1,2],_,_,_,_,rfl,aG,aG⟩
  ·have h0:¬c = -1:=by simpa using h
   rw [if_neg h0]
   refine W.bY (fun K hK=>?_);simp (disch:=omega) [gw]
   exact hK _ ⟨_,aD _ [1,2],_,_,_,_,rfl,aG,aG⟩
 rintro _ ⟨v1,v2,rows,clk,rfl,yI,bS⟩
 by_cases h0:c=0
 ·rw [if_pos h0]at yI |-
  apply qY yI bS [2]
  exact j8
 ·rw [if_neg h0]at yI |-
  by_cases h1:c = -1
  ·rw [if_pos h1]at yI |-
   apply qY yI bS [2]
   exact j8
  ·rw [if_neg h1]at yI |-
   apply qY yI bS [2]
   exact j8
def RZ(x:List Int):Nat->Int
 | 0=>0
 | i+1=>if RZ x i<bl (aV LL (nth x i).natAbs)then bl (aV LL (nth x i).natAbs)else RZ x i
theorem aeQ(hl:x.length<1000000)(hB:∀i,i<x.length->aC 257 [us (aV LL (nth x i).natAbs)] (aB (bl (aV LL (nth x i).natAbs)))∧0<=bl (aV LL (nth x i).natAbs)∧bl (aV LL (nth x i).natAbs)<1000000000000):aC 264 [Po x] (aB (RZ x x.length)):=by
 apply cG [(0,Po x)] Tryz.func264
 apply fK [0] [0,3]
 apply eE [3,6,7,8]
 refine W.bB (fun k σ=>∃(i:Nat),bF σ [(3,aB (RZ x i)),(6,Po x),(7,aB x.length),(8,aB i)] fun rows clk=>(0<=RZ x i∧RZ x i<1000000000000)∧i+k=x.length) x.length ?_ ?_
 ·exact⟨_, .refl,0,_,_,rfl,⟨by show(0:Int)<=0;decide,by show(0:Int)<_;decide⟩,aA⟩
 rintro k _ ⟨i,rows,clk,rfl,hb,tM⟩
 apply cN [3,6,7,8,9]
 refine W.cond ⟨_,rfl,fun h=>?_,fun h=>?_⟩
 ·have hi:i<x.length:=by simp at h;omega
  obtain⟨h1,h0,h2⟩:=hB i hi
  apply (iE)
  apply fJ hi [3,5,6,7,8]
  refine W.bY fun K hK=>?_
  apply o9 h1
  rw [show(if RZ x i<bl (aV LL (nth x i).natAbs)then bl (aV LL (nth x i).natAbs)else RZ x i)=RZ x (i+1)from rfl]
  have C4:0<=RZ x (i+1)∧RZ x (i+1)<1000000000000:=by rw [RZ];split<;>omega
  refine W.lw [3,6,7,8] hK ?_;clear hK K;simp
  refine W.bY (fun K hK=>?_);simp (disch:=omega) [gw]
  refine hK _ ⟨k-1,_,aD _ [3,6,7,8],aA,i+1,_,_,rfl,C4,aA⟩
 ·have hi:i=x.length:=by simp at h;omega
  subst hi
  exact uW [2]
theorem aak{cn cd dn dd b1 b2 b3 b4 zx zy:Int}(hx:x.length<=50)(hy:y.length<=50)(k1:aC 257 [us (aV LL an.natAbs)] (aB b1))(k2:aC 257 [us (aV LL bn.natAbs)] (aB b2))(k3:aC 257 [us (aV LL cn.natAbs)] (aB b3))(k4:aC 257 [us (aV LL dn.natAbs)] (aB b4))
  (l1:0<=b1∧b1<1000000000000) (l2:0<=b2∧b2<1000000000000) (l3:0<=b3∧b3<1000000000000) (l4:0<=b4∧b4<1000000000000) (sx:aC 264 [Po x] (aB zx)) (sy:aC 264 [Po y] (aB zy)) (m1:0<=zx∧zx<1000000000000) (m2:0<=zy∧zy<1000000000000) :
  aC 252 [.ag (G9 x an ad bn bd), .ag (G9 y cn cd dn dd)] (aB (64+2*(b1+b2+b3+b4)+4*((x.length:Int)+y.length)*(zx+zy+((x.length:Int)+y.length)+8))):=by
 have p1:0<=4*((x.length:Int)+y.length)*(zx+zy+((x.length:Int)+y.length)+8):=Int.mul_nonneg aA aA
 have p2:4*((x.length:Int)+y.length)*(zx+zy+((x.length:Int)+y.length)+8)<=400*3000000000000:=Int.mul_le_mul aA aA aA aF
 simp only [G9]at *
 apply cG [(0, .ag (G9 x an ad bn bd)),(1, .ag (G9 y cn cd dn dd))] Tryz.func252
 apply aQ [2,3]
 apply kR [2,3,5]
 apply fV k1 k2
 apply fV k3 k4
 apply bT [2,3,5,6]
 apply W.sd
 apply fV sx sy
 exact gI [4]
theorem aal(hl:0<q.length)(J9:q.length<1000000)(hq:aC 64 [Po q] (Po q))(hN:aC 192 [.ag (G9 x an ad bn bd)] (.ag (G9 x an ad bn bd)))(hp:aC 193 [.ag (G9 x an ad bn bd)] (.bool false))(hG:aC 194 [.sl [[Po q],[Po x]]] (Po g))(hD:aC 83 [Po g] (aB dg))(h0:0<dg)
  (hh:aC 195 [Po g,T2 an ad,T2 bn bd] (.bool true)):aC 246 [Po q, .ag (G9 x an ad bn bd)] (aB 0):=by
 have o7:q ≠ []:=fun h=>by rw [h]at hl;simp at hl
 simp only [G9]at *
 apply cG [(0,Po q),(1, .ag (G9 x an ad bn bd))] Tryz.func246
 apply kR [0,3]
 apply fV hq hN
 (try (refine aY (of_decide_eq_true cT) ?_));(try simp (maxSteps:=4000000) (disch:=omega) [gw]);(repeat rw [if_pos cT]);(try simp (maxSteps:=4000000) (disch:=omega) [gw])
 (try (refine aY (of_decide_eq_true cT) ?_));(try simp (maxSteps:=4000000) (disch:=omega) [gw]);(repeat rw [if_pos cT]);(try simp (maxSteps:=4000000) (disch:=omega) [gw])
 apply cO [0,3]
 apply cQ [0,3,14]
 refine W.cond ⟨_,rfl,fun h=>?_,fun h=>?_⟩
 ·simp at h;exact absurd h o7
 apply (pK)
 apply cK hp [0,3,16]
 refine W.cond ⟨_,rfl,fun h=>?_,fun h=>?_⟩
 ·simp at h
 apply (pK)
 apply cK hG [0,3,5]
 apply nB hD
 apply j0 h0 hh
 apply bT [0,3,36]
 refine W.cond ⟨_,rfl,fun h=>?_,fun h=>?_⟩
 ·exact eY [4]
 ·simp at h
theorem ajr{gc:α->List PV}{C:List α}{an ad bn bd:Nat->Int}{N J:Nat}(hl:0<q.length)(J9:q.length<1000000)(hq:aC 64 [Po q] (Po q))(hN:aC 192 [.ag (G9 x (an 0) (ad 0) (bn 0) (bd 0))] (.ag (G9 x (an 0) (ad 0) (bn 0) (bd 0))))(hp:aC 193 [.ag (G9 x (an 0) (ad 0) (bn 0) (bd 0))] (.bool false))(hG:aC 194 [.sl [[Po q],[Po x]]] (Po g))
  (hD:aC 83 [Po g] (aB dg)) (hh:0<dg->aC 195 [Po g,T2 (an 0) (ad 0),T2 (bn 0) (bd 0)] (.bool false)) (hC:aC 69 [Po q] (.dK [.rd [aJ gc C],aB 0])) (hs:aC 252 [.ag (G9 x (an 0) (ad 0) (bn 0) (bd 0)), .ag (G9 q 0 0 0 0)] (aB N)) (K5:N<1000000000000000)
  (hb:∀j,j<J->aC 193 [.ag (G9 x (an j) (ad j) (bn j) (bd j))] (.bool false)∧(∃z:Int,aC 88 [.rd [aJ gc C],T2 (an j) (ad j),T2 (bn j) (bd j)] (aB z)∧(z==0)=false)∧aC 254 [.ag (G9 x (an j) (ad j) (bn j) (bd j))] (.ag (G9 x (an (j+1)) (ad (j+1)) (bn (j+1)) (bd (j+1)))))
  (hJ:J<=N) (j2:J<N->aC 193 [.ag (G9 x (an J) (ad J) (bn J) (bd J))] (.bool true)∨aC 193 [.ag (G9 x (an J) (ad J) (bn J) (bd J))] (.bool false)∧aC 88 [.rd [aJ gc C],T2 (an J) (ad J),T2 (bn J) (bd J)] (aB 0)) (hr:aC 87 [Po q,T2 (bn J) (bd J)] (aB r)) :
  aC 246 [Po q, .ag (G9 x (an 0) (ad 0) (bn 0) (bd 0))] (aB r):=by
 have o7:q ≠ []:=fun h=>by rw [h]at hl;simp at hl
 replace hs:aC 252 [.ag (G9 x (an 0) (ad 0) (bn 0) (bd 0)), .ag [Po q, .bool false, .sl [], .bool false, .sl [], .bool false, .sl [], .bool false, .sl []]] (aB N):=hs
 simp only [G9]at *
 apply cG [(0,Po q),(1, .ag (G9 x (an 0) (ad 0) (bn 0) (bd 0)))] Tryz.func246
 apply kR [0,3]
 apply fV hq hN
 (try (refine aY (of_decide_eq_true cT) ?_));(try simp (maxSteps:=4000000) (disch:=omega) [gw]);(repeat rw [if_pos cT]);(try simp (maxSteps:=4000000) (disch:=omega) [gw])
 (try (refine aY (of_decide_eq_true cT) ?_));(try simp (maxSteps:=4000000) (disch:=omega) [gw]);(repeat rw [if_pos cT]);(try simp (maxSteps:=4000000) (disch:=omega) [gw])
 apply cO [0,3]
 apply cQ [0,3,14]
 refine W.cond ⟨_,rfl,fun h=>?_,fun h=>?_⟩
 ·simp at h;exact absurd h o7
 apply (pK)
 apply cK hp [0,3,16]
 refine W.cond ⟨_,rfl,fun h=>?_,fun h=>?_⟩
 ·simp at h
 apply (pK)
 apply cK hG [0,3,5]
 refine W.fI (fun σ=>∃(v3:Nat),bF σ [(0,Po q),(3, .ptr 3 v3 0 0),(36, .bool false)] fun rows clk=>rows 3=some ⟨v3,54,9,[G9 x (an 0) (ad 0) (bn 0) (bd 0)]⟩) (fun K hK=>?_) ?_
 ·by_cases h0:0<dg
  ·have hh':=hh h0
   apply kZ hD
   apply O1 h0 hh'
   refine hK _ _ (aD _ [0,3,36]) ⟨_,_,_,rfl,aG⟩
  ·apply kZ hD
   apply eV h0
   refine hK _ _ (aD _ [0,3,36]) ⟨_,_,_,rfl,aG⟩
 rintro _ ⟨v3,rows,clk,rfl,bK⟩
 simp only [G9]at bK
 refine W.cond ⟨_,rfl,fun h=>?_,fun h=>?_⟩
 ·simp at h
 apply W.skip
 apply cK hC [0,3,6]
 refine W.iS (fun σ=>∃(v3:Nat),bF σ [(0,Po q),(3, .ptr 3 v3 0 0)] fun rows clk=>rows 3=some ⟨v3,54,9,[G9 x (an J) (ad J) (bn J) (bd J)]⟩) ?_ ?_
 ·apply oQ bK hs
  apply bT [0,3,6,45,46]
  apply W.block
  refine W.bB (fun k σ=>∃(j v3:Nat),bF σ [(0,Po q),(3, .ptr 3 v3 0 0),(6, .rd [aJ gc C]),(45,aB N),(46,aB j)] fun rows clk=>rows 3=some ⟨v3,54,9,[G9 x (an j) (ad j) (bn j) (bd j)]⟩∧j+k=J) J ?_ ?_
  ·exact⟨_, .refl,0,_,_,_,rfl,by simp [bK],aA⟩
  rintro k _ ⟨j,v3,rows,clk,rfl,bK,hjk⟩
  simp only [G9]at bK
  apply cN [0,3,6,45,46,47]
  refine W.cond ⟨_,rfl,fun h=>?_,fun h=>?_⟩
  ·have hjN:j<N:=by simp at h;omega
   apply (iE)
   apply W.seq
   by_cases hjJ:j<J
   ·obtain⟨g1,⟨z,g2,g3⟩,g4⟩:=hb j hjJ
    apply oQ bK g1
    apply j0 bK g2
    simp (disch:=omega) [gw,g3]
    apply cO [0,3,6,45,46,58]
    refine W.cond ⟨_,rfl,fun h=>?_,fun h=>?_⟩
    ·simp at h
    apply W.skip
    refine W.bY fun K hK=>?_
    apply j0 bK g4
    apply eV bK
    refine W.lw [0,3,6,45,46] hK ?_;clear hK K;simp
    refine W.bY (fun K hK=>?_);simp (disch:=omega) [gw]
    refine hK _ ⟨k-1,_,aD _ [0,3,6,45,46],aA,j+1,v3,_,_,rfl,aG,aA⟩
   ·have hjE:j=J:=by omega
    subst hjE
    rcases j2 hjN with g1 | ⟨g1,g2⟩
    ·apply oQ bK g1
     apply bT [0,3,6,45,46,58]
     refine W.cond ⟨_,rfl,fun h=>?_,fun h=>?_⟩
     ·apply (gK)
      exact⟨_,aD _ [0,3],_,_,_,rfl,bK⟩
     ·simp at h
    ·apply oQ bK g1
     apply j0 bK g2
     apply bT [0,3,6,45,46,58]
     refine W.cond ⟨_,rfl,fun h=>?_,fun h=>?_⟩
     ·apply (gK)
      exact⟨_,aD _ [0,3],_,_,_,rfl,bK⟩
     ·simp at h
  ·have hjE:j=J:=by simp at h;omega
   subst hjE
   apply (gK)
   exact⟨_,aD _ [0,3],_,_,_,rfl,bK⟩
 rintro _ ⟨v3,rows,clk,rfl,bK⟩
 simp only [G9]at bK
 apply oQ bK hr
 exact gI [4]
theorem am1{p:ZX}(sg:ZX->Int)(h0:sg 0=0)(hp:BZ s k p)(hk:k<=31)(hs:s<=1000000)(U6:∀(q:ZX) (s':Nat),s'<=s+5*k->BZ s' k q->aC 246 [Po q.l, .ag (G9 x an ad bn bd)] (aB (sg q))) :
  aC 185 [Po p.l, .ag (G9 x an ad bn bd)] (aB (RY sg (ZX.N p) p)):=by
 have h1:∀(q:ZX) (s':Nat),s'<=s+5*k->BZ s' k q->aC 245 [Po q.l, .rd (G9 x an ad bn bd)] (aB (sg q)):=fun q s' CO bq=>by
  have k6:=U6 q s' CO bq
  simp only [G9]at k6 |-
  generalize sg q=r at *
  apply cG [(0,Po q.l),(1, .rd (G9 x an ad bn bd))] Tryz.func245
  apply gJ [0,1] k6 [3]
  exact j8
 have F1:=aag 245 rfl [.rd (G9 x an ad bn bd)] rfl sg h0 hp hk hs h1
 simp only [G9]at F1 |-
 generalize RY sg (ZX.N p) p=r at *
 apply cG [(0,Po p.l),(1, .ag (G9 x an ad bn bd))] Tryz.func185
 apply gJ [0,3] F1 [4]
 exact j8
theorem wW(q:ZX)(bq:BZ s' k q)(hs:s'<=1000000000)(hk:k<=100)(qt:SQ u t)(hu:u<=1000000000):aC 87 [Po q.l,RT t] (aB (cP (e t q))):=by
 have hm:k*(u+1)<=100*(u+1):=Nat.mul_le_mul_right _ hk
 have k2:=M9 (RW bq) q.c qt.nL qt.dL qt.hu aA aA aA (bI t) ⟨qt.nL,qt.dL⟩
 rwa [B6]at k2
section
variable {s n u:Nat} {f:ZX} (I:nX s n f)
include I
theorem GK(hs:s<=1000000)(qt:SQ u t)(hu:u<=1000000000):aC 197 [Po f.l,RT t] (aB (JH f t)):=by
 have hn:=I.ch.hn
 have h1:=wW f I.ch.bz aA aA qt hu
 have h2:=tX I.ch.bz aA aA
 have h3:=wW (cD f) (I.ch.bz.cD aA) aA aA qt hu
 have:=ajo (n:=t.num) (d:=t.den) h1 h2 h3
 have e1:(if cP (e t f)=0 then cP (e t (cD f))else cP (e t f))=JH f t:=by
  unfold JH
  by_cases h:e t f=0
  ·rw [if_pos h,if_pos (by rw [h,kI])]
  ·rw [if_neg h,if_neg (fun h0=>h (fT.1 h0))]
 rw [e1]at this
 exact this
theorem ajs(hs:s<=1000000)(A:mV f (vt (aO f)) p.1 p.2){m:Rat}(h1:p.1<m)(h2:m<=p.2)(q1:SQ u p.1)(q2:SQ u p.2)(qm:SQ u m)(hu:u<=1000000000) :
  aC 111 [GA f p,RT m] (aB (if e m f=0 then 0 else if vt (aO f) m<vt (aO f) p.1 then -1 else 1)):=by
 have c8:p.1<p.2:=aT
 have z0:=dM q1.nL q1.dL q2.nL q2.dL aA (bI p.1) (bI p.2) ⟨q1.nL,q1.dL⟩ ⟨q2.nL,q2.dL⟩
 have z1:=dM qm.nL qm.dL q1.nL q1.dL aA (bI m) (bI p.1) ⟨qm.nL,qm.dL⟩ ⟨q1.nL,q1.dL⟩
 have z2:=dM qm.nL qm.dL q2.nL q2.dL aA (bI m) (bI p.2) ⟨qm.nL,qm.dL⟩ ⟨q2.nL,q2.dL⟩
 have hp:=z7 (x:=f.l) z0
 have oY:¬0<=eA (p.1.num*(p.2.den:Int)) (p.2.num*(p.1.den:Int)):=by have:=(jC (p:=p.1) (q:=p.2)).2 c8;omega
 rw [decide_eq_false oY]at hp
 have U6:=wW f I.ch.bz aA (by have:=I.ch.hn;omega) qm hu
 have hlw:=GK I hs q1 hu
 refine wV hp z1 z2 U6 hlw ?_
 have g1:¬eA (m.num*(p.1.den:Int)) (p.1.num*(m.den:Int))<=0:=fun h=>absurd (lT.1 h) (Rat.not_le.2 h1)
 have g2:¬0<eA (m.num*(p.2.den:Int)) (p.2.num*(m.den:Int)):=fun h=>absurd (iF.1 h) (Rat.not_lt.2 h2)
 have Q6:=I.S.par (Rat.le_of_lt h1)
 have hv:vt (aO f) p.1=vt (aO f) p.2+1:=by
  rcases A.k with ⟨h,_⟩ | ⟨_,h⟩
  ·rw [h]at c8;exact absurd c8 Rat.lt_irrefl
  ·exact h
 have m1:=I.S.bU (Rat.le_of_lt h1)
 have m2:=I.S.bU h2
 rw [if_neg g1,if_neg g2]
 by_cases h0:e m f=0
 ·rw [if_pos h0,if_pos (by rw [h0,kI])]
 ·have h3:¬cP (e m f)=0:=fun h=>h0 (fT.1 h)
  rw [if_neg h0,if_neg h3]
  have h4:JH f m=cP (e m f):=by unfold JH;rw [if_neg h0]
  rw [h4]at Q6
  by_cases h5:vt (aO f) m<vt (aO f) p.1
  ·rw [if_pos h5,if_neg]
   intro h6
   rw [show vt (aO f) p.1-vt (aO f) m=1 by omega,show sg1 1 = -1 from rfl]at Q6
   omega
  ·rw [if_neg h5,if_pos]
   rw [show vt (aO f) p.1-vt (aO f) m=0 by omega,show sg1 0=1 from rfl,Int.one_mul]at Q6
   exact Q6
end
def x8(f:ZX)(p:Rat × Rat):Rat × Rat:=if p.1<p.2 then(if e ((p.1+p.2)/2) f=0 then((p.1+p.2)/2,(p.1+p.2)/2)else if vt (aO f) ((p.1+p.2)/2)<vt (aO f) p.1 then(p.1,(p.1+p.2)/2)else((p.1+p.2)/2,p.2))else p
theorem JP{f:ZX}(I:nX s n f)(hs:s<=1000000)(A:mV f (vt (aO f)) p.1 p.2)(q1:SQ u p.1)(q2:SQ u p.2)(qm:SQ u ((p.1+p.2)/2))(hu:u<=1000000000):aC 254 [GA f p] (GA f (x8 f p)):=by
 have z0:=dM q1.nL q1.dL q2.nL q2.dL aA (bI p.1) (bI p.2) ⟨q1.nL,q1.dL⟩ ⟨q2.nL,q2.dL⟩
 have hp:=z7 (x:=f.l) z0
 unfold x8
 by_cases c8:p.1<p.2
 ·rw [if_pos c8]
  have oY:¬0<=eA (p.1.num*(p.2.den:Int)) (p.2.num*(p.1.den:Int)):=by have:=(jC (p:=p.1) (q:=p.2)).2 c8;omega
  rw [decide_eq_false oY]at hp
  obtain⟨m1,m2⟩:=sJ c8
  have hm:=VK (q1.LLs (Nat.le_refl _)) (q2.LLs (Nat.le_refl _)) aA
  have hc:=ajs I hs A m1 (Rat.le_of_lt m2) q1 q2 qm hu
  generalize (p.1+p.2)/2=m at *
  have k:=aeP hp hm hc
  by_cases h0:e m f=0
  ·rw [if_pos h0,if_pos rfl]at k
   rw [if_pos h0];exact k
  ·rw [if_neg h0]at k
   rw [if_neg h0]
   by_cases h5:vt (aO f) m<vt (aO f) p.1
   ·rw [if_pos h5,if_neg aF,if_pos rfl]at k
    rw [if_pos h5];exact k
   ·rw [if_neg h5,if_neg aF,if_neg aF]at k
    rw [if_neg h5];exact k
 ·rw [if_neg c8]
  have oY:0<=eA (p.1.num*(p.2.den:Int)) (p.2.num*(p.1.den:Int)):=by
   have:=mt (jC (p:=p.1) (q:=p.2)).1 c8;omega
  rw [decide_eq_true oY]at hp
  exact ajq hp
theorem nV{f:ZX}(A:mV f (vt (aO f)) p.1 p.2):mV f (vt (aO f)) (x8 f p).1 (x8 f p).2∧(∀t,bN f (x8 f p) t↔bN f p t)∧p.1<=(x8 f p).1∧(x8 f p).2<=p.2∧((x8 f p).2-(x8 f p).1)*2<=p.2-p.1:=by
 unfold x8
 by_cases c8:p.1<p.2
 ·rw [if_pos c8]
  obtain⟨m1,m2⟩:=sJ c8
  obtain⟨d1,d2⟩:=A.half m1 m2
  have e2:(p.1+p.2)/2*2=p.1+p.2:=Rat.div_mul_cancel aF
  have hr:=fun h0=>A.S.root m2 (t:=p.2) (s:=(p.1+p.2)/2) h0
  generalize (p.1+p.2)/2=m at *
  by_cases h0:e m f=0
  ·rw [if_pos h0]
   have h5:vt (aO f) m<vt (aO f) p.1:=by
    have hv:vt (aO f) p.1=vt (aO f) p.2+1:=by
     rcases A.k with ⟨h,_⟩ | ⟨_,h⟩
     ·rw [h]at c8;exact absurd c8 Rat.lt_irrefl
     ·exact h
    refine Nat.not_le.1 fun h6=>?_
    have h7:=A.S.bU (Rat.le_of_lt m1)
    exact(A.S.flat m1 aA).1 h0
   obtain⟨a1,a2⟩:=d1 h5
   obtain⟨b1,b2⟩:=a1.exact h0
   exact⟨b1,fun t=>(b2 t).trans (a2 t),Rat.le_of_lt m1,Rat.le_of_lt m2,by show(m-m)*2<=_;grind⟩
  ·rw [if_neg h0]
   by_cases h5:vt (aO f) m<vt (aO f) p.1
   ·rw [if_pos h5]
    obtain⟨a1,a2⟩:=d1 h5
    exact⟨a1,a2,Rat.le_refl,Rat.le_of_lt m2,by show(m-p.1)*2<=_;grind⟩
   ·rw [if_neg h5]
    obtain⟨a1,a2⟩:=d2 h5
    exact⟨a1,a2,Rat.le_of_lt m1,Rat.le_refl,by show(p.2-m)*2<=_;grind⟩
 ·rw [if_neg c8]
  have:=A.le
  exact⟨A,fun t=>Iff.rfl,Rat.le_refl,Rat.le_refl,aT⟩
theorem acr{g:ZX}(I:nX s n g)(hs:s<=1000000){lo hi:Rat}(h:lo<hi)(hv:vt (aO g) lo<=vt (aO g) hi+1)(q1:SQ u lo)(q2:SQ u hi)(hu:u<=1000000000):aC 195 [Po g.l,RT lo,RT hi] (.bool (decide (vt (aO g) hi<vt (aO g) lo))):=by
 have h1:=wW g I.ch.bz aA (by have:=I.ch.hn;omega) q2 hu
 have h2:=GK I hs q1 hu
 have k:=ajp (an:=lo.num) (ad:=lo.den) (bn:=hi.num) (bd:=hi.den) h1 h2
 have m1:=I.S.bU (Rat.le_of_lt h)
 have e1:decide (cP (e hi g)=0∨cP (e hi g)≠JH g lo)=decide (vt (aO g) hi<vt (aO g) lo):=by
  refine decide_eq_decide.2 ?_
  by_cases h0:e hi g=0
  ·refine⟨fun _=>Nat.not_le.1 fun h5=>(I.S.flat h aA).1 h0,fun _ => .inl (by rw [h0,kI])⟩
  ·have h3:cP (e hi g)≠0:=fun h=>h0 (fT.1 h)
   have Q6:=I.S.par (Rat.le_of_lt h)
   have h4:JH g hi=cP (e hi g):=by unfold JH;rw [if_neg h0]
   rw [h4]at Q6
   by_cases h5:vt (aO g) hi<vt (aO g) lo
   ·rw [show vt (aO g) lo-vt (aO g) hi=1 by omega,show sg1 1 = -1 from rfl]at Q6
    exact⟨fun _=>h5,fun _ => .inr fun h6=>by omega⟩
   ·rw [show vt (aO g) lo-vt (aO g) hi=0 by omega,show sg1 0=1 from rfl,Int.one_mul]at Q6
    exact⟨fun h6=>(h6.elim (fun h7=>h3 h7) (fun h7=>h7 Q6)).elim,fun h6=>absurd h6 h5⟩
 rw [e1]at k
 exact k
def jG(f:ZX)(p:Rat × Rat):Nat->Rat × Rat
 | 0=>p
 | j+1=>x8 f (jG f p j)
theorem aam{f:ZX}{B:Rat}(h1:Gr D B j p.1)(h2:Gr D B j p.2):Gr D B (j+1) (x8 f p).1∧Gr D B (j+1) (x8 f p).2:=by
 have hm:=h1.IC h2
 unfold x8
 split
 ·split
  ·exact⟨hm,hm⟩
  ·split
   ·exact⟨h1.mono aA,hm⟩
   ·exact⟨hm,h2.mono aA⟩
 ·exact⟨h1.mono aA,h2.mono aA⟩
theorem JQ{f:ZX}{p:Rat × Rat}(A:mV f (vt (aO f)) p.1 p.2){D:Nat}{B:Rat}(h1:Gr D B 0 p.1)(h2:Gr D B 0 p.2):∀j,mV f (vt (aO f)) (jG f p j).1 (jG f p j).2∧(∀t,bN f (jG f p j) t↔bN f p t)∧p.1<=(jG f p j).1∧(jG f p j).2<=p.2∧((jG f p j).2-(jG f p j).1)*2^j<=p.2-p.1∧Gr D B j (jG f p j).1∧Gr D B j (jG f p j).2
 | 0=>⟨A,fun _=>Iff.rfl,Rat.le_refl,Rat.le_refl,by rw [Rat.pow_zero,Rat.mul_one];exact Rat.le_refl,h1,h2⟩
 | j+1=>by
  obtain⟨a1,a2,a3,a4,a5,a6,a7⟩:=JQ A h1 h2 j
  obtain⟨b1,b2,b3,b4,b5⟩:=nV a1
  obtain⟨c1,c2⟩:=aam (f:=f) a6 a7
  refine⟨b1,fun t=>(b2 t).trans (a2 t),by show _<=(x8 f (jG f p j)).1;grind,by show(x8 f (jG f p j)).2<=_;grind,?_,c1,c2⟩
  show((x8 f (jG f p j)).2-(x8 f (jG f p j)).1)*2^(j+1)<=_
  have hP:=gD j
  have g3:=Rat.mul_le_mul_of_nonneg_right b5 (Rat.le_of_lt hP)
  rw [Rat.pow_succ]
  grind
structure Num(U:Rat->Prop):Prop where
 up:∀s t,U s->s<=t->U t
 lo:∃s,¬U s
 hi:∃t,U t
namespace Num
variable {U:Rat->Prop} (H:Num U)
include H
theorem lt{s:Rat}(h1:¬U s)(h2:U t):s<t:=Rat.not_le.1 fun h=>h1 (H.up t s h2 h)
theorem inter{s s' t':Rat}(h1:¬U s)(h2:U t)(h3:¬U s')(h4:U t'):∃a b,¬U a∧U b∧s<=a∧s'<=a∧b<=t∧b<=t'∧a<b:=by
 obtain⟨a,a1,a2,a3⟩:∃a,¬U a∧s<=a∧s'<=a:=by
  by_cases h:s<=s'
  ·exact⟨s',h3,h,Rat.le_refl⟩
  ·exact⟨s,h1,Rat.le_refl,aT⟩
 obtain⟨b,b1,b2,b3⟩:∃b,U b∧b<=t∧b<=t':=by
  by_cases h:t<=t'
  ·exact⟨t,h2,Rat.le_refl,h⟩
  ·exact⟨t',h4,aT,Rat.le_refl⟩
 exact⟨a,b,a1,b1,a2,a3,b2,b3,H.lt a1 b1⟩
end Num
def Up(U:Rat->Prop)(x:Rat):Prop:=∃s,s<x∧U s
def Sn(U:Rat->Prop)(q:ZX)(σ:Int):Prop:=∃ε s t:Rat,0<ε∧¬U s∧U t ∧ ∀x,s<x->x<=t->cP (e x q)=σ∧mU ε (e x q)
def Sml(U:Rat->Prop)(q:ZX):Prop:=∀ε:Rat,0<ε -> ∃s t,¬U s∧U t ∧ ∀x,s<=x->x<=t->Ab (e x q) ε
def WR(U:Rat->Prop)(q:ZX)(σ:Int):Prop:=(σ=0∧Sml U q)∨((σ=1∨σ = -1)∧Sn U q σ)
theorem Sn.acs(H:Num U){q:ZX}(h:Sn U q σ):¬Sml U q:=fun h2=>by
 obtain⟨ε,s,t,h0,h1,h2',h3⟩:=h
 obtain⟨s',t',h4,h5,h6⟩:=h2 (ε/2) aT
 obtain⟨a,b,g1,g2,g3,g4,g5,g6,g7⟩:=H.inter h1 h2' h4 h5
 have k1:=(h3 b aT g5).2
 obtain⟨k2,k3⟩:=h6 b aT g6
 rcases k1 with k1 | k1<;>grind
theorem WR.uniq(H:Num U){q:ZX}{τ:Int}(h:WR U q σ)(h':WR U q τ):σ=τ:=by
 rcases h with ⟨rfl,h⟩ | ⟨h1,h⟩
 ·rcases h' with ⟨rfl,h'⟩ | ⟨_,h'⟩
  ·rfl
  ·exact absurd h (h'.acs H)
 ·rcases h' with ⟨_,h'⟩ | ⟨_,h'⟩
  ·exact absurd h' (h.acs H)
  ·obtain⟨ε,s,t,_,h2,h3,h4⟩:=h
   obtain⟨ε',s',t',_,h5,h6,h7⟩:=h'
   obtain⟨a,b,g1,g2,g3,g4,g5,g6,g7⟩:=H.inter h2 h3 h5 h6
   rw [<-(h4 b aT g5).1,<-(h7 b aT g6).1]
noncomputable def sgU(U:Rat->Prop)(q:ZX):Int:=open Classical in if h:∃σ,WR U q σ then h.choose else 0
theorem WR.eq(H:Num U){q:ZX}(h:WR U q σ):sgU U q=σ:=by
 have h1:∃σ,WR U q σ:=⟨σ,h⟩
 unfold sgU
 rw [dif_pos h1]
 exact h1.choose_spec.uniq H h
theorem CC(H:Num U):Sml U 0:=fun ε hε=>by
 obtain⟨s,hs⟩:=H.lo
 obtain⟨t,ht⟩:=H.hi
 refine⟨s,t,hs,ht,fun x _ _=>?_⟩
 have:e x 0=0:=rfl
 rw [this]
 exact⟨aT,aT⟩
theorem Sml.mul{U:Rat->Prop}(H:Num U){g:ZX}(h:Sml U g)(k:ZX):Sml U (k*g):=fun ε hε=>by
 obtain⟨s0,hs⟩:=H.lo
 obtain⟨t0,ht⟩:=H.hi
 obtain⟨B,hB,ha,hb⟩:=k9 s0 t0
 obtain⟨Q,hQ,hl⟩:=lip k B hB
 obtain⟨M,hM,hm,_⟩:=k9 (e s0 k) 0
 have j2:=H.lt hs ht
 have hC:0<M+(t0-s0)*Q:=by
  have:=Rat.mul_pos (show 0<t0-s0 by grind) hQ;grind
 have hk:∀x,s0<=x->x<=t0->Ab (e x k) (M+(t0-s0)*Q):=fun x h1 h2=>by
  have h3:=hl s0 x ha (cH ha hb h1 h2) h1
  have h4:(x-s0)*Q<=(t0-s0)*Q:=Rat.mul_le_mul_of_nonneg_right aT (Rat.le_of_lt hQ)
  obtain⟨p1,p2⟩:=h3
  obtain⟨p3,p4⟩:=hm
  exact⟨aT,aT⟩
 generalize M+(t0-s0)*Q=C at *
 have e1:ε/C*C=ε:=Rat.div_mul_cancel (Rat.ne_of_gt hC)
 obtain⟨s,t,g1,g2,g3⟩:=h (ε/C) ((Rat.lt_div_iff hC).2 aT)
 obtain⟨a,b,k1,k2,k3,k4,k5,k6,k7⟩:=H.inter hs ht g1 g2
 refine⟨a,b,k1,k2,fun x h1 h2=>?_⟩
 have h3:=(hk x aT aT).mul (g3 x aT aT)
 rw [kH]
 refine h3.mono ?_
 grind
theorem Sml.K6{c:Int}(hc:c≠0){q:ZX}(h:Sml U (K c*q)):Sml U q:=fun ε hε=>by
 obtain⟨s,t,h1,h2,h3⟩:=h ε hε
 refine⟨s,t,h1,h2,fun x h4 h5=>?_⟩
 have h6:=h3 x h4 h5
 rw [kH,CV]at h6
 have h7:=xR hc
 obtain⟨p1,p2⟩:=h6
 generalize (c:Rat)=C at *
 generalize e x q=y at *
 have key:∀C y:Rat,1<=C->C*y<=ε -> -ε<=C*y->Ab y ε:=fun C y h1 h2 h3=>by
  refine⟨Rat.not_lt.1 fun h=>?_,Rat.not_lt.1 fun h=>?_⟩
  ·have:=Rat.mul_le_mul_of_nonneg_right h1 (show 0 <= -y by grind);grind
  ·have:=Rat.mul_le_mul_of_nonneg_right h1 (show 0<=y by grind);grind
 rcases h7 with h7 | h7
 ·have:=key (-C) (-y) aT aT aT
  obtain⟨q1,q2⟩:=this
  exact⟨aT,aT⟩
 ·exact key C y h7 p2 p1
theorem Sml.dv(H:Num U){g q:ZX}(h:Sml U g)(hd:dv g q):Sml U q:=by
 obtain⟨c,hc,k,hk⟩:=hd
 have h1:=h.mul H k
 rw [<-hk]at h1
 exact h1.K6 hc
theorem VW(H:Num U){w:ZX}{φ:Rat->Nat}(S:uG w φ){s0 t0:Rat}(h1:¬U s0)(h2:U t0)(ht:∀s t,s0<=s->t<=t0->¬U s->U t->φ s≠φ t):Sml U w:=fun ε hε=>by
 obtain⟨B,hB,ha,hb⟩:=k9 s0 t0
 obtain⟨Q,hQ,hl⟩:=lip w B hB
 have e1:ε/Q*Q=ε:=Rat.div_mul_cancel (Rat.ne_of_gt hQ)
 have e2:0<ε/Q:=(Rat.lt_div_iff hQ).2 aT
 obtain⟨s,t,g1,g2,g3,g4,g5,g6⟩:=GJ (U:=U) e2 (H.lt h1 h2) h1 h2
 refine⟨s,t,g5,g6,fun x hx hy=>?_⟩
 have h3:=S.small g2 (ht s t g1 g3 g5 g6) hQ (fun a b q1 q2 q3=>hl a b (cH ha hb aT aT) (cH ha hb aT aT) q2) hx hy
 refine h3.mono ?_
 have h4:=Rat.mul_le_mul_of_nonneg_right g4 (Rat.le_of_lt hQ)
 grind
theorem Up.min{s:Rat}(hs:Up U s)(ht:Up U t):∃x,Up U x∧x<=s∧x<=t:=by
 by_cases h:s<=t
 ·exact⟨s,hs,Rat.le_refl,h⟩
 ·exact⟨t,ht,aT,Rat.le_refl⟩
end Go.Proofs.YtiobceocpabjdaaGreat
