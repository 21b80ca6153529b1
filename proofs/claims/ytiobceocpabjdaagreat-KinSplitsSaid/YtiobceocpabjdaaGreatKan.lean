import Derived.Test.YtiobceocpabjdaaGreatKam
set_option linter.unusedSimpArgs false
set_option linter.unusedVariables false
namespace Go.Proofs.YtiobceocpabjdaaGreat
open Go Pm
open ZX hiding N W
theorem FR{S τ t:Rat}(hS:0≤S)(hτ:0<τ)(ht:kX τ t):∀ {x:List Int},Cn x→0<x.length→(∀c∈x.dropLast,Ab (c:Rat) S)→S+(((lead x).natAbs:Int):Rat)≤(((lead x).natAbs:Int):Rat)*τ→kX (((lead x).natAbs:Int):Rat) (qv t x)
 | [a],hc,_,_,_=>by
  have e1:qv t [a]=(a:Rat):=by simp only [qv];grind
  have e2:lead [a]=a:=rfl
  rw [e1,e2]
  by_cases h:0≤a
  ·right
   exact Rat.intCast_le_intCast.2 (by omega)
  ·left
   rw [←Rat.intCast_neg]
   exact Rat.intCast_le_intCast.2 (by omega)
 | a::b::l,hc,_,hb,hL=>by
  have hl:=dH (CL hc) (by simp)
  rw [zU]at hL ⊢
  have ih:=FR hS hτ ht (CL hc) (by simp) (fun c hc=>hb c (by
   rw [List.dropLast_cons_of_ne_nil (by simp)];exact List.mem_cons_of_mem _ hc)) hL
  obtain⟨h4,h5⟩:=hb a (by rw [List.dropLast_cons_of_ne_nil (by simp)];simp)
  have e1:qv t (a::b::l)=a+t*qv t (b::l):=rfl
  have hp:(0:Rat)<(((lead (b::l)).natAbs:Int):Rat):=Rat.intCast_pos.2 (by omega)
  have hm:=kX.mul hτ hp ht ih
  rw [e1]
  generalize (((lead (b::l)).natAbs:Int):Rat)=L at *
  rcases hm with h | h
  ·left;grind
  ·right;grind
theorem nR{x:List Int}(cx:Cn x)(hx:x ≠ []){t:Rat}(ht:kX (iS x) t):kX 1 (qv t x)∧1≤iS x:=by
 have qB:=List.length_pos_iff.2 hx
 have hl:=dH cx qB
 have hL:(1:Rat)≤(((lead x).natAbs:Int):Rat):=eV (by omega)
 have hm:(0:Rat)≤((qK x (x.length-1):Int):Rat):=Rat.intCast_nonneg.2 (af2 _ _)
 have e:=MD cx hx
 have h2:=Rat.div_mul_cancel (a:=((qK x (x.length-1):Int):Rat)) (b:=(((lead x).natAbs:Int):Rat)) (by grind)
 have hw:(0:Rat)≤((qK x (x.length-1):Int):Rat)/(((lead x).natAbs:Int):Rat):=by
  refine Rat.not_lt.1 fun h=>?_
  have:=Rat.mul_le_mul_of_nonneg_left hL (show 0 ≤ -(((qK x (x.length-1):Int):Rat)/(((lead x).natAbs:Int):Rat))by grind)
  grind
 have h1:1≤iS x:=by rw [e];grind
 refine⟨(FR hm (show 0<iS x by grind) ht cx qB (fun c hc=>?_) ?_).mono hL,h1⟩
 ·obtain⟨k,hk,rfl⟩:=List.mem_iff_getElem.1 hc
  rw [List.length_dropLast]at hk
  have h3:=af3 x (x.length-1) k hk
  rw [cE (by omega)]at h3
  rw [List.getElem_dropLast]
  constructor
  ·rw [←Rat.intCast_neg]
   exact Rat.intCast_le_intCast.2 (by omega)
  ·exact Rat.intCast_le_intCast.2 (by omega)
 ·rw [e]
  generalize ((qK x (x.length-1):Int):Rat)/(((lead x).natAbs:Int):Rat)=w at *
  grind
abbrev rc(q:Rat):List PV:=[aH aG (aR DD q.num.natAbs), .bool (decide (q.num<0)),aH aG (aR DD (q.den:Int).natAbs), .bool (decide ((q.den:Int)<0))]
def qa(f:ZX)(c:List ZX)(p:Rat × Rat):List PV:=PI f.l::aH zq c::(rc p.1++rc p.2)
@[simp] theorem aC0{f:ZX}{c:List ZX}{p:Rat × Rat}:qa f c p=PI f.l::aH zq c::(rc p.1++rc p.2):=rfl
@[simp] theorem atv{f:ZX}{c:List ZX}{l:List (Rat × Rat)}:bK 10 (emap (qa f c) l)=True:=cL fun _=>rfl
@[simp] theorem aq2{v e n:Nat}{f:ZX}{c:List ZX}{l:List (Rat × Rat)}:c9 (some ⟨v,e,n,emap (qa f c) l⟩)=True:=b8 fun _=>rfl
abbrev QA(f:ZX)(c:List ZX)(p:Rat × Rat):PV:=.ag (qa f c p)
def ex(f:ZX)(p:Rat × Rat):Rat × Rat:=if e p.2 f=0 then(p.2,p.2)else p
theorem SQ.yy{u:Nat}{q:Rat}(h:SQ u q)(hu:u≤1000000000):ZR YY q:=⟨by have:=h.n2;simp only [YY];omega,by have:=h.d2;simp only [YY];omega⟩
theorem lS{p q:Rat}:dP (p.num*q.den) (q.num*p.den)=0↔p=q:=by
 have h1:=kS p q
 have h2:=kS q p
 rw [mV]at h1 h2
 refine⟨fun h=>?_,fun h=>?_⟩
 ·have h:=Pm.tX.1 h
  by_cases h3:p<q
  ·have:=h1.2 h3;omega
  ·rcases Rat.le_iff_lt_or_eq.1 (Rat.not_lt.1 h3)with h4 | h4
   ·have:=h2.2 h4;omega
   ·exact h4.symm
 ·rw [h];exact xF _
abbrev c4(n d:Int):List PV:=[aH aG (aR DD n.natAbs), .bool (decide (n<0)),aH aG (aR DD d.natAbs), .bool (decide (d<0))]
theorem V5{x:List Int}{c:List ZX}{ln ld hn hd z σ:Int}(hz:(z != 0)=false)(c1:aE env.P 14 [R2 ln ld,R2 hn hd] (.int .i64 z))(s1:aE env.P 77 [PI x,R2 hn hd] (.int .i64 σ)) :
  aE env.P 80 [.ag (PI x::aH zq c::(c4 ln ld++c4 hn hd))] (.ag (PI x::aH zq c::(c4 ln ld++c4 hn hd))):=by
 simp only [c4]
 refine cB [(0, .ag (PI x::aH zq c :: [aH aG (aR DD ln.natAbs), .bool (decide (ln<0)),aH aG (aR DD ld.natAbs), .bool (decide (ld<0)),aH aG (aR DD hn.natAbs), .bool (decide (hn<0)),aH aG (aR DD hd.natAbs), .bool (decide (hd<0))]))] Tryz.func80 ?_
 refine aA [1,2] ?_
 refine W.seq ?_
 refine jG ?_
 refine aC c1 ?_
 simp (disch:=omega) [gw,hz]
 refine bI [1,2,16] ?_
 refine bH ?_ ?_<;>intro h
 ·simp at h
 ·refine W.skip ?_
  refine aA [2] ?_
  exact bZ
theorem agi{x:List Int}{c:List ZX}{ln ld hn hd z σ:Int}(hz:(z != 0)=true)(hs:(σ==0)=false)(c1:aE env.P 14 [R2 ln ld,R2 hn hd] (.int .i64 z))(s1:aE env.P 77 [PI x,R2 hn hd] (.int .i64 σ)) :
  aE env.P 80 [.ag (PI x::aH zq c::(c4 ln ld++c4 hn hd))] (.ag (PI x::aH zq c::(c4 ln ld++c4 hn hd))):=by
 simp only [c4]
 refine cB [(0, .ag (PI x::aH zq c :: [aH aG (aR DD ln.natAbs), .bool (decide (ln<0)),aH aG (aR DD ld.natAbs), .bool (decide (ld<0)),aH aG (aR DD hn.natAbs), .bool (decide (hn<0)),aH aG (aR DD hd.natAbs), .bool (decide (hd<0))]))] Tryz.func80 ?_
 refine aA [1,2] ?_
 refine W.seq ?_
 refine jG ?_
 refine aC c1 ?_
 simp (disch:=omega) [gw,hz]
 refine aC s1 ?_
 simp (disch:=omega) [gw,hs]
 refine bI [1,2,16] ?_
 refine bH ?_ ?_<;>intro h
 ·simp at h
 ·refine W.skip ?_
  refine aA [2] ?_
  exact bZ
theorem ab0{x:List Int}{c:List ZX}{ln ld hn hd z σ:Int}(hz:(z != 0)=true)(hs:(σ==0)=true)(c1:aE env.P 14 [R2 ln ld,R2 hn hd] (.int .i64 z))(s1:aE env.P 77 [PI x,R2 hn hd] (.int .i64 σ)) :
  aE env.P 80 [.ag (PI x::aH zq c::(c4 ln ld++c4 hn hd))] (.ag (PI x::aH zq c::(c4 hn hd++c4 hn hd))):=by
 simp only [c4]
 refine cB [(0, .ag (PI x::aH zq c :: [aH aG (aR DD ln.natAbs), .bool (decide (ln<0)),aH aG (aR DD ld.natAbs), .bool (decide (ld<0)),aH aG (aR DD hn.natAbs), .bool (decide (hn<0)),aH aG (aR DD hd.natAbs), .bool (decide (hd<0))]))] Tryz.func80 ?_
 refine aA [1,2] ?_
 refine W.seq ?_
 refine jG ?_
 refine aC c1 ?_
 simp (disch:=omega) [gw,hz]
 refine aC s1 ?_
 simp (disch:=omega) [gw,hs]
 refine bI [1,2,16] ?_
 refine bH ?_ ?_<;>intro h
 ·refine W.bY (fun K hK=>?_);simp (disch:=omega) [gw]
  refine W.lw [1,2] hK ?_;clear hK K;simp
  refine aA [2] ?_
  exact bZ
 ·simp at h
theorem qH{f:ZX}{c:List ZX}{p:Rat × Rat}:QA f c p = .ag (PI f.l::aH zq c::(c4 p.1.num p.1.den++c4 p.2.num p.2.den)):=rfl
theorem ab3{f:ZX}{c:List ZX}{p:Rat × Rat}{n u:Nat}(hb:BZ 4500000000 n f)(hn:n≤20)(q1:SQ u p.1)(q2:SQ u p.2)(hu:u≤1000000000):aE env.P 80 [QA f c p] (QA f c (ex f p)):=by
 have c1:=qG p.1 p.2 (q1.yy hu) (q2.yy hu)
 have hmul:n*(u+1)≤20*(u+1):=Nat.mul_le_mul_right _ hn
 have s1:=uM hb q2.n2 q2.d2 q2.hu (by omega) (by show _<137438953472;omega)
 rw [yF]at s1
 rw [dJ,dJ]at c1
 by_cases h:p.1=p.2
 ·have he:ex f p=p:=by
   unfold ex;split
   ·exact Prod.ext h.symm rfl
   ·rfl
  rw [he,qH]
  exact V5 (by rw [lS.2 h];rfl) c1 s1
 ·have hz:(dP (p.1.num*p.2.den) (p.2.num*p.1.den) != 0)=true:=bne_iff_ne.2 fun h0=>h (lS.1 h0)
  by_cases h2:e p.2 f=0
  ·rw [show ex f p=(p.2,p.2)from if_pos h2,qH,qH]
   exact ab0 hz (by rw [h2,jX];rfl) c1 s1
  ·rw [show ex f p=p from if_neg h2,qH]
   exact agi hz (by simp only [beq_eq_false_iff_ne];exact fun h0=>h2 (eU.1 h0)) c1 s1
theorem Gr.add{D β j:Nat}{p q:Rat}(hp:Gr D (2^β) j p)(hq:Gr D (2^β) j q):Gr D (2^(β+1)) j (p+q):=by
 obtain⟨⟨y,hy⟩,b1,b2⟩:=hp
 obtain⟨⟨z,hz⟩,b3,b4⟩:=hq
 refine⟨⟨y+z,?_⟩,?_⟩
 ·rw [Rat.intCast_add,←hy,←hz];grind
 ·rw [Rat.pow_succ];exact⟨by grind,by grind⟩
def lvl(s n:Nat):Nat:=lk s n 5 (s+1)+s+2
theorem agj{s n:Nat}(hn:n≤20):lvl s n≤102*s+720:=by
 have h1:(n+n)*(s+5+2+(5+1))≤40*(s+13):=Nat.mul_le_mul (by omega) (by omega)
 have h2:(n+n)*(s+1+2)≤40*(s+3):=Nat.mul_le_mul (by omega) (by omega)
 have h3:n*(s+1+2)≤20*(s+3):=Nat.mul_le_mul hn (by omega)
 unfold lvl lk sk
 omega
def uu(s:Nat):Nat:=105*s+800
namespace oQ
variable {s n:Nat} {f:ZX} (I:oQ s n f)
include I
theorem f0:f.l ≠ []:=wD I.nf.ne
theorem yK:1≤(lead f.l).natAbs∧(lead f.l).natAbs≤2^s:=by
 have h1:=dH f.c (List.length_pos_iff.2 I.f0)
 have h2:=jH (b:=2) (by decide) (lead f.l)
 have h3:=Nat.pow_le_pow_right (show 0<2 by decide) (iD I.ch.bz)
 omega
theorem axF:1≤iS f.l:=(nR f.c I.f0 (t:=iS f.l) (.inr Rat.le_refl)).2
theorem agk:Ab (iS f.l) (2^(s+1)):=by
 have h1:=MD f.c I.f0
 have hL:(1:Rat)≤(((lead f.l).natAbs:Int):Rat):=eV (by have:=I.yK.1;omega)
 have h2:=Rat.div_mul_cancel (a:=((qK f.l (f.l.length-1):Int):Rat)) (b:=(((lead f.l).natAbs:Int):Rat)) (by grind)
 have h3:=I.axF
 have h4:((qK f.l (f.l.length-1):Int):Rat)≤2^s:=by
  have h5:=jH (b:=2) (by decide) (qK f.l (f.l.length-1))
  have h6:=Nat.pow_le_pow_right (show 0<2 by decide) (FL I.ch.bz (f.l.length-1))
  exact(JD (s:=s) (by omega)).2
 have h7:=rH s
 rw [Rat.pow_succ]
 generalize (2:Rat)^s=T at *
 generalize ((qK f.l (f.l.length-1):Int):Rat)=m at *
 have hw:m/(((lead f.l).natAbs:Int):Rat)≤T:=by
  refine Rat.not_lt.1 fun h=>?_
  have h8:=Rat.mul_le_mul_of_nonneg_left hL (show 0≤m/(((lead f.l).natAbs:Int):Rat)by grind)
  grind
 exact⟨by grind,by grind⟩
theorem FT:Gr (lead f.l).natAbs (2^(s+1)) 0 (iS f.l):=by
 refine⟨⟨((lead f.l).natAbs:Int)+qK f.l (f.l.length-1),?_⟩,I.agk⟩
 have hL:(1:Rat)≤(((lead f.l).natAbs:Int):Rat):=eV (by have:=I.yK.1;omega)
 have h1:=MD f.c I.f0
 have h2:=Rat.div_mul_cancel (a:=((qK f.l (f.l.length-1):Int):Rat)) (b:=(((lead f.l).natAbs:Int):Rat)) (by grind)
 rw [Nat.pow_zero,Nat.mul_one,Rat.intCast_add,h1]
 grind
theorem MP:Gr (lead f.l).natAbs (2^(s+1)) 0 (-iS f.l):=by
 obtain⟨⟨z,hz⟩,h1,h2⟩:=I.FT
 exact⟨⟨-z,by rw [Rat.intCast_neg,←hz];grind⟩,by grind,by grind⟩
theorem count:(vr (sgL (bA f)):Int)-vr (sgR (bA f))=(vt (bA f) (-iS f.l):Int)-vt (bA f) (iS f.l):=by
 have hG:=I.L9
 have h1:vr (sgR (bA f))=vt (bA f) (iS f.l):=VZ hG fun b=>⟨1,by decide,fun x h2 _=>(nR f.c I.f0 (.inr h2)).1⟩
 have h2:vr (sgL (bA f))=vt (bA f) (-iS f.l):=abX hG fun b=>⟨1,by decide,fun x _ h2=>(nR f.c I.f0 (.inl h2)).1⟩
 rw [h1,h2]
theorem ZP : -iS f.l<iS f.l:=by have:=I.axF;grind
end oQ
def JF(s n:Nat)(f:ZX):List (Rat × Rat):=NK (vt (bA f)) (lvl s n) (-iS f.l) (iS f.l)
structure Ivs(f:ZX)(u:Nat)(lo hi:Rat)(l:List (Rat × Rat)):Prop where
 mem:∀p∈l,SQ u p.1∧SQ u p.2∧lo≤p.1∧p.1<p.2∧p.2≤hi∧vt (bA f) p.1=vt (bA f) p.2+1
 len:l.length=vt (bA f) lo-vt (bA f) hi
 NG:l.Pairwise fun p q=>p.2≤q.1
theorem oQ.width{s n:Nat}{f:ZX}(I:oQ s n f){δ:Rat}(hδ:δ*2^lk s n 5 (s+1)=1):iS f.l - -iS f.l≤δ*2^lvl s n:=by
 have h1:=I.agk.2
 unfold lvl
 rw [show lk s n 5 (s+1)+s+2=lk s n 5 (s+1)+(s+1+1)by omega,rG,←Rat.mul_assoc,hδ,Rat.one_mul,Rat.pow_succ]
 grind
theorem oQ.ivs{s n:Nat}{f:ZX}(I:oQ s n f):Ivs f (uu s) (-iS f.l) (iS f.l) (JF s n f):=by
 obtain⟨δ,h1,h2,C⟩:=I.cut (s+1)
 have hl:=agj (s:=s) I.ch.hn
 obtain⟨a1,a2,a3⟩:=uP C (lvl s n) 0 _ _ I.MP I.FT I.ZP (I.width h2)
 refine⟨fun p hp=>?_,a2,a3⟩
 obtain⟨b1,b2,b3⟩:=a1 p hp
 obtain⟨l1,l2⟩:=I.yK
 exact⟨(b1.sq l1 l2).mono (by unfold uu;omega),(b2.sq l1 l2).mono (by unfold uu;omega),b3⟩
theorem MQ{s n:Nat}{f:ZX}(I:oQ s n f):(JF s n f).length≤21:=by
 have:=I.ivs.len
 have h1:=Nat.le_trans (amY (bA f) (-iS f.l)) I.hl
 omega
theorem V6{α:Type}{g:α→List PV}{l:List α}{s n:Nat}{f:ZX}(hS:aE env.P 70 [aH g l] (Po f.l))(I:oQ s n f):aE env.P 18 [aH g l] (.dX [aH (ga f) (JF s n f), .int .i64 0]):=by
 have hs:=I.hs
 have hn:=I.ch.hn
 have N1:=L5 hS I.ch I.nf
 have P1:=eO (x:=f.l) (I.ch.bz.pb (by omega) (by omega))
 rw [f.c]at P1
 have B1:=V0 P1 f.c I.f0 (NI I.ch.bz) (by omega) (by omega)
 obtain⟨l1,l2⟩:=I.yK
 have qb:=(I.FT.sq l1 l2).mono (show s+1+s+0+1≤uu s by unfold uu;omega)
 have hu:uu s≤1000000000:=by unfold uu;omega
 have M1:=abY (qb.LLt (show uu s<1099511627770 by omega))
 have C1:=VU (c:=bA f) (by have:=I.hl;omega) (pbs I.hb hn)
 rw [I.count]at C1
 obtain⟨δ,h1,h2,C⟩:=I.cut (s+1)
 have hl:=agj (s:=s) hn
 have R1:=agd I l1 l2 C (J:=lvl s n) (by omega) (lvl s n) 0 _ _ (by omega) I.MP I.FT I.ZP (I.width h2)
 rw [show NK (vt (bA f)) (lvl s n) (-iS f.l) (iS f.l)=JF s n f from rfl]at R1
 have hlen:=MQ I
 have el:(emap (ga f) (JF s n f)).length≤21:=by simpa [emap]using hlen
 have pe:=ML (f:=f) (l:=JF s n f)
 have a1:bK 9 (emap (ga f) (JF s n f))=True:=z6
 replace B1:aE env.P 71 [Po f.l] (.dX [T2 (iS f.l).num (iS f.l).den, .int .i64 0]):=B1
 replace M1:aE env.P 73 [T2 (iS f.l).num (iS f.l).den] (T2 (-iS f.l).num (-iS f.l).den):=M1
 replace R1:mT env.P 72 [Po f.l,CH (bA f),T2 (-iS f.l).num (-iS f.l).den,T2 (iS f.l).num (iS f.l).den, .int .i64 ((vt (bA f) (-iS f.l):Int)-vt (bA f) (iS f.l))] 54 9 (emap (ga f) (JF s n f)):=R1
 generalize JF s n f=L at *
 generalize (vt (bA f) (-iS f.l):Int)-vt (bA f) (iS f.l)=cn at *
 generalize bA f=c at *
 generalize (-iS f.l).num=mn at *
 generalize ((-iS f.l).den:Int)=md at *
 generalize (iS f.l).num=bn at *
 generalize ((iS f.l).den:Int)=bd at *
 refine cB [(0,aH g l)] Tryz.func18 ?_
 refine aA [0] ?_
 refine aL [0,4,5] N1 ?_
 refine aK [0,4,5,15] ?_
 refine bH ?_ ?_<;>intro h
 ·simp at h
 refine W.skip ?_
 refine aL [4,6] hS ?_
 refine aL [4,6,7] B1 ?_
 refine nH ?_
 refine cM M1 ?_
 refine cM C1 ?_
 refine ad3 R1 rfl trivial ?_
 simp (disch:=omega) [gw]
 refine bI [2,3] ?_
 refine W.XT 31 (by simp) (fun K hK=>?_)
 simp
 refine hK _ ?_
 exact bZ
end Go.Proofs.YtiobceocpabjdaaGreat
namespace Go.Proofs.YtiobceocpabjdaaGreat
open Go Pm
open ZX hiding N W
abbrev GA(f:ZX)(p:Rat × Rat):PV:=.ag (ga f p)
namespace oQ
variable {s n:Nat} {f:ZX} (I:oQ s n f)
include I
theorem axH:aE env.P 79 [Po f.l] (PI f.l):=by
 have hs:=I.hs
 have hn:=I.ch.hn
 have b:=NI I.ch.bz
 have:=abf (f.l.map uW) ⟨fun c hc=>by
  simp only [List.mem_map]at hc
  obtain⟨x,hx,rfl⟩:=hc
  exact⟨fN gO _,Nat.lt_of_le_of_lt (b.sz x hx) (by omega)⟩,by rw [List.length_map];exact Nat.lt_of_le_of_lt b.len (by omega)⟩
 rw [cI,←i5,show aP f.l=f.l from f.c]at this
 exact this
theorem axI:aE env.P 78 [PI f.l] (PI f.l):=by
 have:=mG I.ch.bz I.s1 (by have:=I.hs;show s≤137438953472;omega) (by have:=I.ch.hn;omega)
 rwa [I.nf.nfe]at this
theorem akm:aE env.P 158 [PI f.l] (PI f.l):=by
 have:=x8 I.lay I.s1
 rwa [I.sq]at this
theorem MR:aE env.P 81 [PI f.l] (aH zq (bA f)):=BH I.akm I.ch I.s1
theorem akn:aE env.P 70 [Po f.l] (Po f.l):=by
 have:=wE I.lay
 rwa [I.sq]at this
theorem axJ{u:Nat}{t:Rat}(q:SQ u t)(hu:u≤1000000000):aE env.P 77 [PI f.l,RR t] (.int .i64 (cD (e t f))):=by
 have hs:=I.hs
 have hn:=I.ch.hn
 have hmul:n*(u+1)≤20*(u+1):=Nat.mul_le_mul_right _ hn
 have s1:=uM I.ch.bz q.n2 q.d2 q.hu (by omega) (by show _<137438953472;omega)
 rw [yF]at s1
 rw [dJ]
 exact s1
theorem tK{u:Nat}{p q:Rat}(hp:SQ u p)(hq:SQ u q)(hu:u≤1000000000):aE env.P 76 [aH zq (bA f),RR p,RR q] (.int .i64 (if q<p then 0 else(vt (bA f) p:Int)-vt (bA f) q)):=aga I.hb I.ch.hn I.hl hp hq hu
theorem agl{u:Nat}{p:Rat × Rat}(q1:SQ u p.1)(q2:SQ u p.2)(hu:u≤1000000000):aE env.P 80 [QA f (bA f) p] (QA f (bA f) (ex f p)):=ab3 (I.ch.bz.mono (by have:=I.hs;omega) (Nat.le_refl _)) I.ch.hn q1 q2 hu
end oQ
theorem SQ.am4{u:Nat}{q:Rat}(h:SQ u q)(hu:u≤1000000000):aE env.P 82 [RT q] (RR q):=abZ (h.LLt (by omega)) ⟨by have:=h.n2;show _<549755813888;omega,by have:=h.d2;show _<549755813888;omega⟩
theorem oQ.am5{s n:Nat}{f:ZX}(I:oQ s n f){u:Nat}{p:Rat × Rat}(q1:SQ u p.1)(q2:SQ u p.2)(hu:u≤1000000000):aE env.P 20 [GA f p] (QA f (bA f) (ex f p)):=by
 have f1:=I.axH
 have f2:=I.axI
 have f3:=I.MR
 have f4:=q1.am4 hu
 have f5:=q2.am4 hu
 have f6:=I.agl q1 q2 hu
 generalize ex f p=y at *
 rw [dJ]at f4 f5
 rw [qH,qH]at f6
 rw [qH]
 replace f4:aE env.P 82 [T2 p.1.num p.1.den] (R2 p.1.num p.1.den):=f4
 replace f5:aE env.P 82 [T2 p.2.num p.2.den] (R2 p.2.num p.2.den):=f5
 show aE env.P _ [.ag (Po f.l::(tc p.1++tc p.2))] _
 simp only [c4,tc,List.cons_append,List.nil_append]at f6 ⊢
 generalize bA f=c at *
 generalize p.1.num=an at *
 generalize (p.1.den:Int)=ad at *
 generalize p.2.num=bn at *
 generalize (p.2.den:Int)=bd at *
 generalize y.1.num=yn at *
 generalize (y.1.den:Int)=yd at *
 generalize y.2.num=zn at *
 generalize (y.2.den:Int)=zd at *
 refine cB [(0, .ag [Po f.l, .bool (decide (an<0)),us (aR LL an.natAbs), .bool (decide (ad<0)),us (aR LL ad.natAbs), .bool (decide (bn<0)),us (aR LL bn.natAbs), .bool (decide (bd<0)),us (aR LL bd.natAbs)])] Tryz.func20 ?_
 refine aA [1,2] ?_
 refine jG ?_
 refine cM f1 ?_
 refine cN [1,2,3] f2 ?_
 refine nH ?_
 refine cM f3 ?_
 refine cM f4 ?_
 refine cM f5 ?_
 refine cM f6 ?_
 (try (refine bE (of_decide_eq_true (by kernel_rfl)) ?_));(try simp (maxSteps:=4000000) (disch:=omega) [gw]);(repeat rw [if_pos (by kernel_rfl)]);(try simp (maxSteps:=4000000) (disch:=omega) [gw])
 refine bI [2] ?_
 exact bZ
theorem z7{f:ZX}{c:List ZX}{p:Rat × Rat}{u:Nat}(q1:SQ u p.1)(q2:SQ u p.2)(hu:u≤1000000000):aE env.P 75 [QA f c p] (.bool (decide (p.1=p.2))):=by
 have c1:=qG p.1 p.2 (q1.yy hu) (q2.yy hu)
 have e:decide (p.1=p.2)=(dP (p.1.num*p.2.den) (p.2.num*p.1.den)==0):=by
  rw [Bool.eq_iff_iff];simp only [decide_eq_true_eq,beq_iff_eq];exact lS.symm
 rw [e,qH]
 rw [dJ,dJ]at c1
 simp only [c4,List.cons_append,List.nil_append]
 generalize dP (p.1.num*p.2.den) (p.2.num*p.1.den)=z at *
 generalize p.1.num=an at *
 generalize (p.1.den:Int)=ad at *
 generalize p.2.num=bn at *
 generalize (p.2.den:Int)=bd at *
 refine cB [(0, .ag [PI f.l,aH zq c,aH aG (aR DD an.natAbs), .bool (decide (an<0)),aH aG (aR DD ad.natAbs), .bool (decide (ad<0)),aH aG (aR DD bn.natAbs), .bool (decide (bn<0)),aH aG (aR DD bd.natAbs), .bool (decide (bd<0))])] Tryz.func75 ?_
 refine aA [1] ?_
 refine aL [2] c1 ?_
 exact bZ
end Go.Proofs.YtiobceocpabjdaaGreat
namespace Go.Proofs.YtiobceocpabjdaaGreat
open Go Pm
open ZX hiding N W
theorem fV{p q:Rat}:0<dP (p.num*q.den) (q.num*p.den)↔q<p:=by
 rw [p7,←kS q p,mV]
theorem fW{p q:Rat}:dP (p.num*q.den) (q.num*p.den)<0↔p<q:=kS p q
theorem qI{p q:Rat}:dP (p.num*q.den) (q.num*p.den)≤0↔p≤q:=by
 rw [←Int.not_lt,fV,Rat.not_lt]
theorem RU{x:List Int}{c:List ZX}{an ad bn bd tn td zt z1 z2 b σ r:Int}{pt:Bool}(p1:aE env.P 75 [.ag (PI x::aH zq c::(c4 an ad++c4 bn bd))] (.bool pt))(k0:aE env.P 14 [R2 an ad,R2 tn td] (.int .i64 zt))
  (k1:aE env.P 14 [R2 tn td,R2 an ad] (.int .i64 z1)) (k2:aE env.P 14 [R2 tn td,R2 bn bd] (.int .i64 z2)) (k3:aE env.P 76 [aH zq c,R2 an ad,R2 tn td] (.int .i64 b)) (k4:aE env.P 77 [PI x,R2 tn td] (.int .i64 σ))
  (hr:r=if pt=true then zt else if z1≤0 then 1 else if 0<z2 then -1 else if b=0 then 1 else if σ=0 then 0 else -1):aE env.P 19 [.ag (PI x::aH zq c::(c4 an ad++c4 bn bd)),R2 tn td] (.int .i64 r):=by
 simp only [c4,List.cons_append,List.nil_append]at p1 ⊢
 refine cB [(0, .ag [PI x,aH zq c,aH aG (aR DD an.natAbs), .bool (decide (an<0)),aH aG (aR DD ad.natAbs), .bool (decide (ad<0)),aH aG (aR DD bn.natAbs), .bool (decide (bn<0)),aH aG (aR DD bd.natAbs), .bool (decide (bd<0))]),(1,R2 tn td)] Tryz.func19 ?_
 refine aA [2,3] ?_
 refine W.seq ?_
 refine aL [2,3,6] p1 ?_
 refine bH ?_ ?_<;>intro h
 ·subst h
  rw [if_pos rfl]at hr
  subst hr
  refine aL [4] k0 ?_
  exact bZ
 ·subst h
  rw [if_neg (by decide)]at hr
  refine W.skip ?_
  refine W.seq ?_
  refine aL [2,3,15] k1 ?_
  refine bH ?_ ?_<;>intro h
  ·simp at h
   rw [if_pos h]at hr
   subst hr
   refine aA [4] ?_
   exact bZ
  ·simp at h
   rw [if_neg (by omega)]at hr
   refine W.skip ?_
   refine W.seq ?_
   refine aL [2,3,20] k2 ?_
   refine bH ?_ ?_<;>intro h
   ·simp at h
    rw [if_pos h]at hr
    subst hr
    refine aA [4] ?_
    exact bZ
   ·simp at h
    rw [if_neg (by omega)]at hr
    refine W.skip ?_
    refine W.seq ?_
    refine aL [2,3,27] k3 ?_
    refine bH ?_ ?_<;>intro h
    ·simp at h
     rw [if_pos h]at hr
     subst hr
     refine aA [4] ?_
     exact bZ
    ·simp at h
     rw [if_neg h]at hr
     refine W.skip ?_
     refine W.seq ?_
     refine aL [32] k4 ?_
     refine bH ?_ ?_<;>intro h
     ·simp at h
      rw [if_pos h]at hr
      subst hr
      refine aA [4] ?_
      exact bZ
     ·simp at h
      rw [if_neg h]at hr
      subst hr
      refine W.skip ?_
      refine aA [4] ?_
      exact bZ
abbrev cO(f:ZX)(p:Rat × Rat):Rat→Prop:=jN (vt (bA f)) p.1 p.2
theorem oQ.FU{s n:Nat}{f:ZX}(I:oQ s n f){u:Nat}{p:Rat × Rat}{t:Rat}(A:rT f (vt (bA f)) p.1 p.2)(q1:SQ u p.1)(q2:SQ u p.2)(qt:SQ u t)(hu:u≤1000000000):aE env.P 19 [QA f (bA f) p,RR t] (.int .i64 (cr (cO f p) t)):=by
 have p1:=z7 (f:=f) (c:=bA f) q1 q2 hu
 have k0:=qG p.1 t (q1.yy hu) (qt.yy hu)
 have k1:=qG t p.1 (qt.yy hu) (q1.yy hu)
 have k2:=qG t p.2 (qt.yy hu) (q2.yy hu)
 have k3:=I.tK q1 qt hu
 have k4:=I.axJ qt hu
 have hc:=A.axA t
 rw [dJ,dJ]at k0 k1 k2
 rw [dJ,dJ]at k3
 rw [dJ]at k4 ⊢
 rw [qH]at p1 ⊢
 refine RU p1 k0 k1 k2 k3 k4 ?_
 rw [hc]
 simp only [decide_eq_true_eq]
 by_cases h1:p.1=p.2
 ·rw [if_pos h1,if_pos h1]
  by_cases h2:p.1<t
  ·rw [if_pos h2,mK (mV.1 (fW.2 h2))]
  ·rw [if_neg h2]
   by_cases h3:t<p.1
   ·rw [if_pos h3,mL (p7.1 (fV.2 h3))]
   ·rw [if_neg h3,lS.2 (by grind)]
 ·rw [if_neg h1,if_neg h1]
  simp only [qI,fV]
  by_cases h2:t≤p.1
  ·rw [if_pos h2,if_pos h2]
  ·rw [if_neg h2,if_neg h2]
   by_cases h3:p.2<t
   ·rw [if_pos h3,if_pos h3]
   ·rw [if_neg h3,if_neg h3,if_neg (show ¬t<p.1 by grind)]
    have e1:((vt (bA f) p.1:Int)-vt (bA f) t=0)↔vt (bA f) p.1=vt (bA f) t:=by omega
    simp only [e1,eU]
def hv(f:ZX)(p:Rat × Rat):Rat × Rat:=if p.1=p.2 then p else ex f (if vt (bA f) ((p.1+p.2)/2)<vt (bA f) p.1 then(p.1,(p.1+p.2)/2)else((p.1+p.2)/2,p.2))
theorem RV{x:List Int}{c:List ZX}{an ad bn bd:Int}(p1:aE env.P 75 [.ag (PI x::aH zq c::(c4 an ad++c4 bn bd))] (.bool true)):aE env.P 117 [.ag (PI x::aH zq c::(c4 an ad++c4 bn bd))] (.ag (PI x::aH zq c::(c4 an ad++c4 bn bd))):=by
 simp only [c4,List.cons_append,List.nil_append]at p1 ⊢
 refine cB [(0, .ag [PI x,aH zq c,aH aG (aR DD an.natAbs), .bool (decide (an<0)),aH aG (aR DD ad.natAbs), .bool (decide (ad<0)),aH aG (aR DD bn.natAbs), .bool (decide (bn<0)),aH aG (aR DD bd.natAbs), .bool (decide (bd<0))])] Tryz.func117 ?_
 refine aA [1,2] ?_
 refine W.seq ?_
 refine aL [1,2,5] p1 ?_
 refine bH ?_ ?_<;>intro h
 ·refine aA [2] ?_
  exact bZ
 ·simp at h
theorem RW{x:List Int}{c:List ZX}{an ad bn bd mn md yn yd zn zd b:Int}(p1:aE env.P 75 [.ag (PI x::aH zq c::(c4 an ad++c4 bn bd))] (.bool false))(k1:aE env.P 204 [R2 an ad,R2 bn bd] (R2 mn md))(k2:aE env.P 76 [aH zq c,R2 an ad,R2 mn md] (.int .i64 b))
  (k3:aE env.P 80 [.ag (PI x::aH zq c::(if 0<b then c4 an ad++c4 mn md else c4 mn md++c4 bn bd))] (.ag (PI x::aH zq c::(c4 yn yd++c4 zn zd)))):aE env.P 117 [.ag (PI x::aH zq c::(c4 an ad++c4 bn bd))] (.ag (PI x::aH zq c::(c4 yn yd++c4 zn zd))):=by
 simp only [c4,List.cons_append,List.nil_append]at p1 k3 ⊢
 refine cB [(0, .ag [PI x,aH zq c,aH aG (aR DD an.natAbs), .bool (decide (an<0)),aH aG (aR DD ad.natAbs), .bool (decide (ad<0)),aH aG (aR DD bn.natAbs), .bool (decide (bn<0)),aH aG (aR DD bd.natAbs), .bool (decide (bd<0))])] Tryz.func117 ?_
 refine aA [1,2] ?_
 refine W.seq ?_
 refine aL [1,2,5] p1 ?_
 refine bH ?_ ?_<;>intro h
 ·simp at h
 refine W.skip ?_
 refine aL [1,2,3] k1 ?_
 by_cases hb:0<b
 ·rw [if_pos hb]at k3
  refine W.iB (fun σ=>∃(v1 v2:Nat) (rows:Pm.Rows) (clk:Nat),σ=⟨fa [(1, .ptr 1 v1 0 0),(2, .ptr 2 v2 0 0)],rows,clk⟩∧rows 1=some ⟨v1,49,10,[[PI x,aH zq c,aH aG (aR DD an.natAbs), .bool (decide (an<0)),aH aG (aR DD ad.natAbs), .bool (decide (ad<0)),aH aG (aR DD mn.natAbs), .bool (decide (mn<0)),aH aG (aR DD md.natAbs), .bool (decide (md<0))]]⟩∧rows 2=some ⟨v2,49,10,[[PV.nil,PV.nil,PV.nil,PV.bool false,PV.nil,PV.bool false,PV.nil,PV.bool false,PV.nil,PV.bool false]]⟩) ?_ ?_
  ·refine aL [1,2,3,18] k2 ?_
   refine bH ?_ ?_<;>intro h
   ·refine W.bY (fun K hK=>?_);simp (disch:=omega) [gw]
    exact hK _ ⟨_,aB _ [1,2],_,_,_,_,rfl,by simp,by simp⟩
   ·simp at h;omega
  rintro _ ⟨v1,v2,rows,clk,rfl,xE,bU⟩
  refine W.sr ?_
  simp (disch:=omega) [gw,xE,bU]
  refine aC k3 ?_
  simp (disch:=omega) [gw,xE,bU]
  refine bI [2] ?_
  exact bZ
 ·rw [if_neg hb]at k3
  refine W.iB (fun σ=>∃(v1 v2:Nat) (rows:Pm.Rows) (clk:Nat),σ=⟨fa [(1, .ptr 1 v1 0 0),(2, .ptr 2 v2 0 0)],rows,clk⟩∧rows 1=some ⟨v1,49,10,[[PI x,aH zq c,aH aG (aR DD mn.natAbs), .bool (decide (mn<0)),aH aG (aR DD md.natAbs), .bool (decide (md<0)),aH aG (aR DD bn.natAbs), .bool (decide (bn<0)),aH aG (aR DD bd.natAbs), .bool (decide (bd<0))]]⟩∧rows 2=some ⟨v2,49,10,[[PV.nil,PV.nil,PV.nil,PV.bool false,PV.nil,PV.bool false,PV.nil,PV.bool false,PV.nil,PV.bool false]]⟩) ?_ ?_
  ·refine aL [1,2,3,18] k2 ?_
   refine bH ?_ ?_<;>intro h
   ·simp at h;omega
   ·refine W.bY (fun K hK=>?_);simp (disch:=omega) [gw]
    exact hK _ ⟨_,aB _ [1,2],_,_,_,_,rfl,by simp,by simp⟩
  rintro _ ⟨v1,v2,rows,clk,rfl,xE,bU⟩
  refine W.sr ?_
  simp (disch:=omega) [gw,xE,bU]
  refine aC k3 ?_
  simp (disch:=omega) [gw,xE,bU]
  refine bI [2] ?_
  exact bZ
theorem oQ.axK{s n:Nat}{f:ZX}(I:oQ s n f){u:Nat}{p:Rat × Rat}(hle:p.1≤p.2)(q1:SQ u p.1)(q2:SQ u p.2)(q3:SQ u ((p.1+p.2)/2))(q4:SQ u (p.1+p.2))(hu:u≤1000000000):aE env.P 117 [QA f (bA f) p] (QA f (bA f) (hv f p)):=by
 have p1:=z7 (f:=f) (c:=bA f) q1 q2 hu
 by_cases h:p.1=p.2
 ·rw [decide_eq_true h]at p1
  rw [show hv f p=p from if_pos h,qH]
  rw [qH]at p1
  exact RV p1
 ·rw [decide_eq_false h]at p1
  have dC:p.1<p.2:=by grind
  obtain⟨m1,m2⟩:=tJ dC
  have k1:=af0 (q1.yy hu) (q2.yy hu) (q4.yy hu)
  have k2:=I.tK q1 q3 hu
  rw [if_neg (Rat.not_lt.2 (Rat.le_of_lt m1))]at k2
  have e:hv f p=ex f (if vt (bA f) ((p.1+p.2)/2)<vt (bA f) p.1 then(p.1,(p.1+p.2)/2)else((p.1+p.2)/2,p.2)):=if_neg h
  rw [e]
  have hb:(0<(vt (bA f) p.1:Int)-vt (bA f) ((p.1+p.2)/2))↔vt (bA f) ((p.1+p.2)/2)<vt (bA f) p.1:=by omega
  have k3:=I.agl (u:=u) (p:=if vt (bA f) ((p.1+p.2)/2)<vt (bA f) p.1 then(p.1,(p.1+p.2)/2)else((p.1+p.2)/2,p.2)) (by split<;>assumption) (by split<;>assumption) hu
  rw [dJ,dJ]at k1 k2
  rw [dJ]at k1
  rw [qH]at p1 ⊢
  rw [qH]
  refine RW p1 k1 k2 ?_
  by_cases h2:vt (bA f) ((p.1+p.2)/2)<vt (bA f) p.1
  ·rw [if_pos (hb.2 h2)]
   rw [if_pos h2]at k3 ⊢
   exact k3
  ·rw [if_neg (fun h3=>h2 (hb.1 h3))]
   rw [if_neg h2]at k3 ⊢
   exact k3
theorem CQ{f:ZX}{p:Rat × Rat}(A:rT f (vt (bA f)) p.1 p.2):rT f (vt (bA f)) (ex f p).1 (ex f p).2 ∧ ∀t,cO f (ex f p) t↔cO f p t:=by
 unfold ex
 split
 ·rename_i h0
  exact A.exact h0
 ·exact⟨A,fun _=>Iff.rfl⟩
theorem CR{f:ZX}(h0:f≠0)(hc:uX f (bX f))(hN:ZX.N f≤20):r7 f (vt (bA f)):=by
 have hg:gz f (bX f)=1:=(FA (.inl h0)).N1 (hc _ (fA _ _).l (fA _ _).r)
 refine⟨h0,hc,_,⟨fun B hB=>?_⟩,rfl⟩
 obtain⟨s,hs⟩:=FO f.l
 obtain⟨β,hβ⟩:=RN B
 have hb:BZ (s+1+5) 20 f:=⟨hN,fun c hc=>dV (by decide) (by
  have h1:=hs c hc
  have h2:2^s<2^(s+1+5):=Nat.pow_lt_pow_right (by decide) (by omega)
  omega)⟩
 have hb0:BZ (s+1) 20 f:=⟨hN,fun c hc=>dV (by decide) (by
  have h1:=hs c hc
  have h2:2^s<2^(s+1):=Nat.pow_lt_pow_right (by decide) (by omega)
  omega)⟩
 have bd:BZ (s+1+5) 20 (bX f):=hb0.bX (by decide)
 have hND:=oE f
 have hP1:ZX.N (rS (bX f))≤ZX.N (bX f):=mY _
 obtain⟨δ,h1,h2⟩:=FP (jb ((s+1+5+20+1)*2*4^20) 20 β)
 refine⟨δ,h1,Lcl.mono (ZI (s:=s+1) (n:=20) (by decide) h0 hb ?_ (jW bd) hg (by rw [h2];exact Rat.le_refl)) hβ⟩
 unfold B3
 split
 ·have:(4:Nat)^ZX.N f≤4^20:=Nat.pow_le_pow_right (by decide) hN
  exact Nat.mul_le_mul (by omega) this
 ·have:(4:Nat)^ZX.N (rS (bX f))≤4^20:=Nat.pow_le_pow_right (by decide) (by omega)
  exact Nat.mul_le_mul (Nat.le_refl _) this
structure oJ(f h g w:ZX):Prop where
 eq:f=w*g
 ng:Nf g
 nw:Nf w
 wg:uX w g
 wh:uX w h
 gd:dv g h
 sg:uX g (bX g)
 sw:uX w (bX w)
theorem rI{f h:ZX}(nf:Nf f)(hc:uX f (bX f)):∃w,oJ f h (gz f h) w:=by
 have ng:Nf (gz f h):=FA (.inl nf.ne)
 obtain⟨w,nw,e⟩:=nf.quo ng (fA f h).l
 have hd:bX f=bX w*gz f h+w*bX (gz f h):=by
  have h1:=congrArg bX e
  rwa [uG]at h1
 have dwf:dv w f:=by rw [e];exact(dv.refl w).mul_right _
 have dgf:dv (gz f h) f:=(fA f h).l
 have wg:uX w (gz f h):=fun d h1 h2=>hc d (h1.trans dwf) (by rw [hd];exact(h2.mul_left _).add (h1.mul_right _))
 exact⟨w,e,ng,nw,wg,fun d h1 h2=>wg d h1 ((fA f h).least (h1.trans dwf) h2),(fA f h).r,
  fun d h1 h2=>hc d (h1.trans dgf) (by rw [hd];exact(h1.mul_left _).add (h2.mul_left _)),fun d h1 h2=>hc d (h1.trans dwf) (by rw [hd];exact(h2.mul_right _).add (h1.mul_right _))⟩
theorem oJ.N{f h g w:ZX}(S:oJ f h g w):ZX.N w≤ZX.N f∧ZX.N g≤ZX.N f:=by
 have h1:=jT S.nw.ne S.ng.ne
 rw [←S.eq]at h1
 have:=ZX.aF.1 S.nw.ne
 have:=ZX.aF.1 S.ng.ne
 omega
theorem oJ.RX{f h g w:ZX}(S:oJ f h g w){v γ φ:Rat→Nat}(hv:r7 f v)(hg:r7 g γ)(hw:r7 w φ){s t:Rat}(iR:s≤t):v s+γ t+φ t=v t+γ s+φ s:=by
 have e:K 1*f=w*g:=by rw [←S.eq];show(1:ZX)*f=f;grind
 have:=hv.mul hw hg (by decide) e S.wg iR
 omega
theorem ZQ{f h:ZX}{v w:Rat→Nat}(hv:r7 f v)(hw:r7 h w)(hc:uX f h){s r l β:Nat}(hA:∀c∈f.l,c.natAbs≤2^s)(hB:∀c∈h.l,c.natAbs≤2^r)(hl:ZX.N f+ZX.N h≤2^l)
  {a b:Rat} (ha:Ab a (2^β)) (hb:Ab b (2^β)) (fQ:a<b) (hd:(b-a)*2^(sx f h s r l+(ZX.N f+ZX.N h)*(β+2)+2)≤1):v a=v b∨w a=w b:=by
 refine Classical.byContradiction fun B5=>?_
 have am6:=not_or.1 B5
 have sm:∀ {p:ZX} {m:Nat} {u:Rat→Nat},r7 p u→(∀c∈p.l,c.natAbs≤2^m)→¬u a=u b→Ab (e a p) ((b-a)*2^(m+ZX.N p*(β+2))):=fun {p m u} S hp hu =>
  S.small fQ hu (gW _) (fun x y h1 h2 h3=>by
   have g1:=(af6 hp (Nat.le_refl _) (cH ha hb h1 (by grind)) (cH ha hb (show a≤y by grind) h3)).1
   have g2:=oG x y p.l
   have g3:e y p-e x p=qv y p.l-qv x p.l:=rfl
   rw [g3,g2]
   exact Ab.mul ⟨by grind,Rat.le_refl⟩ g1) Rat.le_refl (Rat.le_of_lt fQ)
 have b1:=sm hv hA am6.1
 have b2:=sm hw hB am6.2
 have n1:=ZX.aF.1 hv.ne
 have n2:=ZX.aF.1 hw.ne
 have s1:s≤s*ZX.N h:=Nat.le_mul_of_pos_right _ (by omega)
 have s2:r≤r*ZX.N f:=Nat.le_mul_of_pos_right _ (by omega)
 have fin:∀ {i j k:Nat},i+j+1=k→(b-a)*2^k≤1→(b-a)*2^i*2*2^j≤1:=fun {i j k} hk h=>by
  rw [←hk,Rat.pow_succ,rG]at h;grind
 have hX:sx f h s r l=(l+2)*(ZX.N f+ZX.N h)+s*ZX.N h+r*ZX.N f:=rfl
 rw [Nat.add_mul]at hd
 have h5:=axw hv.ne hw.ne hA hB hl hc ha (β:=β) (fin (i:=s+ZX.N f*(β+2)) (k:=sx f h s r l+(ZX.N f*(β+2)+ZX.N h*(β+2))+2) (by omega) hd) (fin (i:=r+ZX.N h*(β+2)) (k:=sx f h s r l+(ZX.N f*(β+2)+ZX.N h*(β+2))+2) (by omega) hd)
 have q1:0<(b-a)*2^(s+ZX.N f*(β+2)):=Rat.mul_pos (by grind) (gW _)
 have q2:0<(b-a)*2^(r+ZX.N h*(β+2)):=Rat.mul_pos (by grind) (gW _)
 obtain⟨p1,p2⟩:=b1
 obtain⟨p3,p4⟩:=b2
 rcases h5 with (h5 | h5) | (h5 | h5)<;>grind
theorem aq3{f h:ZX}{v w:Rat→Nat}(hv:r7 f v)(hw:r7 h w)(hc:uX f h){s n l β:Nat}(hA:∀c∈f.l,c.natAbs≤2^s)(hB:∀c∈h.l,c.natAbs≤2^s)(hn:ZX.N f+ZX.N h≤n)(hl:n≤2^l)
  {a b:Rat} (ha:Ab a (2^β)) (hb:Ab b (2^β)) (fQ:a<b) (hd:(b-a)*2^(sk s n l β+(s+n*(β+2))+1)≤1):v a=v b∨w a=w b:=
 ZQ hv hw hc hA hB (Nat.le_trans hn hl) ha hb fQ (FM hd (by
  have h1:=af7 (a:=f) (b:=h) (s:=s) (l:=l) (β:=β) hn (Nat.le_refl _)
  have h2:(ZX.N f+ZX.N h)*(β+2)≤n*(β+2):=Nat.mul_le_mul_right _ hn
  omega))
theorem ZS{f h:ZX}{v w:Rat→Nat}(hv:r7 f v)(hw:r7 h w)(hc:uX f h)(B:Rat):∃δ:Rat,0<δ ∧ ∀a b,Ab a B→Ab b B→a<b→b-a≤δ→v a=v b∨w a=w b:=by
 obtain⟨s1,h1⟩:=FO f.l
 obtain⟨s2,h2⟩:=FO h.l
 obtain⟨β,hβ⟩:=RN B
 obtain⟨δ,h3,h4⟩:=FP (sk (s1+s2) (ZX.N f+ZX.N h) (ZX.N f+ZX.N h) β+(s1+s2+(ZX.N f+ZX.N h)*(β+2))+1)
 refine⟨δ,h3,fun a b ha hb fQ hd=>aq3 hv hw hc (s:=s1+s2) (l:=ZX.N f+ZX.N h) (β:=β) (fun c hc=>Nat.le_trans (h1 c hc) (Nat.pow_le_pow_right (by decide) (by omega))) (fun c hc=>Nat.le_trans (h2 c hc) (Nat.pow_le_pow_right (by decide) (by omega))) (Nat.le_refl _) (Nat.le_of_lt Nat.lt_two_pow_self) (ha.mono hβ) (hb.mono hβ) fQ ?_⟩
 rw [←h4]
 exact Rat.mul_le_mul_of_nonneg_right hd (Rat.le_of_lt (gW _))
section
variable {f:ZX} {v:Rat→Nat} {lo hi:Rat} (A:rT f v lo hi)
include A
theorem oK{s t:Rat}(h1:¬jN v lo hi s)(h2:jN v lo hi t)(iR:s<t):v t<v s:=by
 have g1:s<hi:=Rat.not_le.1 fun h=>h1 (.inl h)
 rcases A.k with ⟨rfl,h0⟩ | ⟨dC,hk⟩
 ·have h3:lo≤t:=by rcases h2 with h | h<;>grind
  have h4:=A.S.root g1 h0
  have h5:=A.S.b6 h3
  omega
 ·have h3:v lo≤v s:=by
   by_cases h:s≤lo
   ·exact A.S.b6 h
   ·exact Nat.not_lt.1 fun h4=>h1 (.inr ⟨by grind,h4⟩)
  rcases h2 with h | ⟨_,h⟩
  ·have:=A.S.b6 h;omega
  ·omega
theorem ZT{s t:Rat}(h1:¬jN v lo hi s)(h2:jN v lo hi t)(hv:v s=v t+1){x:Rat}(hx:s≤x)(hy:x≤t):jN v lo hi x↔v x<v s:=by
 refine⟨fun h=>?_,fun h=>?_⟩
 ·refine oK A h1 h ?_
  rcases Rat.le_iff_lt_or_eq.1 hx with h3 | rfl
  ·exact h3
  ·exact absurd h h1
 ·refine Classical.byContradiction fun h3=>?_
  have h4:x<t:=by
   rcases Rat.le_iff_lt_or_eq.1 hy with h4 | rfl
   ·exact h4
   ·exact absurd h2 h3
  have:=oK A h3 h2 h4
  omega
end
theorem V7{U:Rat→Prop}{δ:Rat}(hδ:0<δ):∀(n:Nat) (s t:Rat),s<t→¬U s→U t→t-s≤δ*2^n → ∃a b,s≤a∧a<b∧b≤t∧b-a≤δ∧¬U a∧U b
 | 0,s,t,h,h1,h2,hd=>⟨s,t,Rat.le_refl,h,Rat.le_refl,by rwa [Rat.pow_zero,Rat.mul_one]at hd,h1,h2⟩
 | n+1,s,t,h,h1,h2,hd=>by
  obtain⟨m1,m2⟩:=tJ h
  obtain⟨d1,d2⟩:=yJ hd
  generalize (s+t)/2=m at *
  by_cases hm:U m
  ·obtain⟨a,b,g1,g2,g3,g4⟩:=V7 hδ n s m m1 h1 hm d1
   exact⟨a,b,g1,g2,by grind,g4⟩
  ·obtain⟨a,b,g1,g2,g3,g4⟩:=V7 hδ n m t m2 hm h2 d2
   exact⟨a,b,by grind,g2,g3,g4⟩
theorem MS{U:Rat→Prop}{δ:Rat}(hδ:0<δ){s t:Rat}(h:s<t)(h1:¬U s)(h2:U t):∃a b,s≤a∧a<b∧b≤t∧b-a≤δ∧¬U a∧U b:=by
 obtain⟨n,hn⟩:=RN ((t-s)/δ)
 refine V7 hδ n s t h h1 h2 ?_
 have h3:(t-s)/δ*δ=t-s:=Rat.div_mul_cancel (Rat.ne_of_gt hδ)
 have h4:=Rat.mul_le_mul_of_nonneg_right hn (Rat.le_of_lt hδ)
 grind
section
variable {f h:ZX} {v w:Rat→Nat} {lo hi F9 lW:Rat} (A:rT f v lo hi) (B:rT h w F9 lW)
include A B
theorem RY{g w1 w2:ZX}{γ φ η:Rat→Nat}(S1:oJ f h g w1)(S2:oJ h f g w2)(hg:r7 g γ)(h1:r7 w1 φ)(h2:r7 w2 η){s t:Rat}(iR:s<t)(a1:¬jN v lo hi s)(a2:jN v lo hi t)(b1:¬jN w F9 lW s)(b2:jN w F9 lW t)(hv:v s≤v t+1)(hw:w s≤w t+1)(hγ:γ t<γ s) :
  ∀x,jN v lo hi x↔jN w F9 lW x:=fun x=>by
 have c1:=oK A a1 a2 iR
 have c2:=oK B b1 b2 iR
 have e1:v s=v t+1:=by omega
 have e2:w s=w t+1:=by omega
 have k1:=S1.RX A.S hg h1 (Rat.le_of_lt iR)
 have k2:=S2.RX B.S hg h2 (Rat.le_of_lt iR)
 by_cases hx:x<s
 ·exact⟨fun hh=>absurd (A.up hh (Rat.le_of_lt hx)) a1,fun hh=>absurd (B.up hh (Rat.le_of_lt hx)) b1⟩
 ·by_cases hy:t<x
  ·exact⟨fun _=>B.up b2 (Rat.le_of_lt hy),fun _=>A.up a2 (Rat.le_of_lt hy)⟩
  ·have HJ:=Rat.not_lt.1 hx
   have y8:=Rat.not_lt.1 hy
   rw [ZT A a1 a2 e1 HJ y8,ZT B b1 b2 e2 HJ y8]
   have q1:=S1.RX A.S hg h1 HJ
   have q2:=S2.RX B.S hg h2 HJ
   have r1:=h1.b6 HJ
   have r2:=h2.b6 HJ
   have r3:=h1.b6 y8
   have r4:=h2.b6 y8
   have m1:=hg.b6 (Rat.le_of_lt iR)
   have m2:=h1.b6 (Rat.le_of_lt iR)
   have m3:=h2.b6 (Rat.le_of_lt iR)
   omega
end
theorem agm{q:Rat}{V:Rat→Prop}(hV:∀s t,V s→s≤t→V t):cu (fun t=>q≤t) V = -cr V q:=by
 by_cases h:V q
 ·by_cases h2:∃s,s<q∧V s
  ·rw [(z5 hV).2 h2]
   unfold cu
   obtain⟨s,h3,h4⟩:=h2
   rw [if_neg (fun ⟨t,h5,h6⟩=>h6 (hV q t h h5)),if_pos ⟨s,h4,by grind⟩]
   rfl
  ·rw [yI.2 ⟨h,fun s h3 h4=>h2 ⟨s,h3,h4⟩⟩]
   unfold cu
   rw [if_neg (fun ⟨t,h5,h6⟩=>h6 (hV q t h h5)),if_neg (fun ⟨t,h5,h6⟩=>h2 ⟨t,by grind,h5⟩)]
   rfl
 ·rw [tI.2 h]
  unfold cu
  rw [if_pos ⟨q,Rat.le_refl,h⟩]
theorem ab4{q:Rat}{U:Rat→Prop}(hU:∀s t,U s→s≤t→U t):cu U (fun t=>q≤t)=cr U q:=by
 by_cases h:U q
 ·by_cases h2:∃s,s<q∧U s
  ·rw [(z5 hU).2 h2]
   unfold cu
   obtain⟨s,h3,h4⟩:=h2
   rw [if_pos ⟨s,h4,by grind⟩]
  ·rw [yI.2 ⟨h,fun s h3 h4=>h2 ⟨s,h3,h4⟩⟩]
   unfold cu
   rw [if_neg (fun ⟨t,h5,h6⟩=>h2 ⟨t,by grind,h5⟩),if_neg (fun ⟨t,h5,h6⟩=>h6 (hU q t h h5))]
 ·rw [tI.2 h]
  unfold cu
  rw [if_neg (fun ⟨t,h5,h6⟩=>h (hU t q h5 (by grind))),if_pos ⟨q,Rat.le_refl,h⟩]
theorem FV{U U' V V':Rat→Prop}(h1:∀t,U t↔U' t)(h2:∀t,V t↔V' t):cu U V=cu U' V':=by
 have e1:U=U':=funext fun t=>propext (h1 t)
 have e2:V=V':=funext fun t=>propext (h2 t)
 rw [e1,e2]
theorem lT{f:ZX}{p:Rat × Rat}(h:p.1=p.2)(t:Rat):cO f p t↔p.1≤t:=by
 refine⟨fun h1=>?_,fun h1 => .inl (h▸h1)⟩
 rcases h1 with h1 | ⟨h1,_⟩
 ·rw [h];exact h1
 ·grind
theorem MT{a:ZX}(na:Nf a)(hc:uX a (bX a)):sq a=a:=by
 obtain⟨g,hg⟩:=kA _ a (bX a) (Nat.le_refl _)
 have h0:=hg.ne (.inl na.ne)
 have h1:=hc g hg.l hg.r
 have h2:=ZX.aF.1 h0
 obtain⟨k,hk,rfl⟩:=lL (show ZX.N g=1 by omega)
 obtain⟨c,zG,u,v,e⟩:=hg.uv
 rw [qF]at e
 exact aj9 na (Int.mul_ne_zero zG hk) e.symm
abbrev nD(x:List Int)(c:List ZX)(an ad bn bd:Int):List PV:=[PI x,aH zq c,aH aG (aR DD an.natAbs), .bool (decide (an<0)),aH aG (aR DD ad.natAbs), .bool (decide (ad<0)),aH aG (aR DD bn.natAbs), .bool (decide (bn<0)),aH aG (aR DD bd.natAbs), .bool (decide (bd<0))]
theorem nX{y x g:List Int}{c cg:List ZX}{an ad bn bd σ b:Int}{pt z:Bool}(hl:y.length<1000000)(hg:g.length<1000000)(p1:aE env.P 75 [.ag (nD x c an ad bn bd)] (.bool pt))(k1:pt=true→aE env.P 77 [PI y,R2 an ad] (.int .i64 σ))(k2:aE env.P 203 [PI y,PI x] (PI g))
  (k3:2≤g.length→aE env.P 81 [PI g] (aH zq cg)) (k4:2≤g.length→aE env.P 76 [aH zq cg,R2 an ad,R2 bn bd] (.int .i64 b)) (hz:z=if y.length=0 then true else if pt=true then σ==0 else if g.length<2 then false else decide (0<b)) :
  aE env.P 116 [PI y, .ag (nD x c an ad bn bd)] (.bool z):=by
 simp only [nD]at p1 ⊢
 refine cB [(0,PI y),(1, .ag [PI x,aH zq c,aH aG (aR DD an.natAbs), .bool (decide (an<0)),aH aG (aR DD ad.natAbs), .bool (decide (ad<0)),aH aG (aR DD bn.natAbs), .bool (decide (bn<0)),aH aG (aR DD bd.natAbs), .bool (decide (bd<0))])] Tryz.func116 ?_
 refine aA [0,3] ?_
 refine aK [0,3,8] ?_
 refine bH ?_ ?_<;>intro h
 ·have hy:y.length=0:=by simp at h;simp [h]
  rw [if_pos hy]at hz;subst hz
  refine aA [4] ?_
  exact bZ
 ·have hy:¬y.length=0:=by simp at h;simp [h]
  rw [if_neg hy]at hz
  refine W.skip ?_
  refine W.seq ?_
  refine aL [0,3,10] p1 ?_
  refine bH ?_ ?_<;>intro h
  ·subst h
   rw [if_pos rfl]at hz;subst hz
   have k1':=k1 rfl
   refine aL [4] k1' ?_
   exact bZ
  ·subst h
   rw [if_neg (by decide)]at hz
   refine W.skip ?_
   refine aL [3,5] k2 ?_
   refine aK [3,5,22] ?_
   refine bH ?_ ?_<;>intro h
   ·have pT:g.length<2:=by simp at h;omega
    rw [if_pos pT]at hz;subst hz
    refine aA [4] ?_
    exact bZ
   ·have pT:¬g.length<2:=by simp at h;omega
    rw [if_neg pT]at hz
    have k3':=k3 (by omega)
    have k4':=k4 (by omega)
    refine W.skip ?_
    refine nH ?_
    refine cM k3' ?_
    refine cN [4] k4' ?_
    refine W.ret ?_
    simp [go,hz]
theorem RZ(U:Rat→Prop)(t:Rat):cr U t = -1∨cr U t=0∨cr U t=1:=by
 unfold cr
 split
 ·split<;>simp
 ·simp
theorem JG{u:Nat}{p q:Rat}(hp:SQ u p)(hq:SQ u q):∃D,1≤D∧D≤2^(2*u)∧Gr D (2^u) 0 p∧Gr D (2^u) 0 q:=by
 have key:∀r:Rat,SQ u r→1≤r.den∧r.den≤2^u∧Ab r (2^u)∧r*((r.den:Int):Rat)=(r.num:Rat):=fun r hr=>by
  have h1:=r.den_pos
  have h2:=jH (b:=2) (by decide) (r.den:Int)
  have h3:=Nat.pow_le_pow_right (show 0<2 by decide) hr.d2
  have h4:=jH (b:=2) (by decide) r.num
  have h5:=Nat.pow_le_pow_right (show 0<2 by decide) hr.n2
  have h6:=yG r
  have h7:Ab (r.num:Rat) (2^u):=JD (by omega)
  have h8:(1:Rat)≤((r.den:Int):Rat):=eV (by omega)
  refine⟨h1,by omega,?_,h6.symm⟩
  rw [h6]at h7
  obtain⟨g1,g2⟩:=h7
  have hT:=gW u
  generalize (2:Rat)^u=T at *
  constructor
  ·refine Rat.not_lt.1 fun hh=>?_
   have:=Rat.mul_le_mul_of_nonneg_left h8 (show 0 ≤ -r by grind)
   grind
  ·refine Rat.not_lt.1 fun hh=>?_
   have:=Rat.mul_le_mul_of_nonneg_left h8 (show 0≤r by grind)
   grind
 obtain⟨a1,a2,a3,a4⟩:=key p hp
 obtain⟨b1,b2,b3,b4⟩:=key q hq
 refine⟨p.den*q.den,Nat.mul_pos a1 b1,?_,⟨⟨p.num*(q.den:Int),?_⟩,a3⟩,⟨⟨q.num*(p.den:Int),?_⟩,b3⟩⟩
 ·rw [Nat.two_mul,Nat.pow_add];exact Nat.mul_le_mul a2 b2
 ·rw [Nat.pow_zero,Nat.mul_one,Rat.intCast_mul,←a4,Int.natCast_mul p.den,Rat.intCast_mul];grind
 ·rw [Nat.pow_zero,Nat.mul_one,Rat.intCast_mul,←b4,Int.natCast_mul p.den,Rat.intCast_mul];grind
theorem aq4{s n:Nat}{a:ZX}(h:rZ s n a)(h0:a≠0)(CI:1≤n)(hC:(qb (qb s n) n+n+6)*4^n≤4500000000)(hs:qb s n≤5000000):oQ (qb s n) n (sq a):=by
 have h1:=(FJ h0).1
 refine⟨⟨h.sqb h0,h.hn,?_,hC⟩,CI,h1,MT h1 fun d d1 d2=>?_,hs⟩
 ·exact Nat.le_trans h.hs (Nat.pow_le_pow_right (by decide) (by unfold qb;omega))
 ·have h3:=(fA (sq a) (bX (sq a))).least d1 d2
  rw [ZJ h0]at h3
  have:=h3.mF ZX.q9
  rwa [ZX.BB]at this
theorem FW{α β:Type}[Inhabited α][Inhabited β]{g:α→β}{l:List α}{i:Nat}(h:i<l.length):nth (l.map g) i=g (nth l i):=by
 rw [cE (by simpa using h),cE h,List.getElem_map]
abbrev G9(x:List Int)(an ad bn bd:Int):List PV:=[Po x, .bool (decide (an<0)),us (aR LL an.natAbs), .bool (decide (ad<0)),us (aR LL ad.natAbs), .bool (decide (bn<0)),us (aR LL bn.natAbs), .bool (decide (bd<0)),us (aR LL bd.natAbs)]
def NL(sg:ZX→Int):Nat→ZX→Int
 | 0,_=>0
 | k+1,p=>if sg p=0 then NL sg k (bX p)else sg p
theorem qJ{sg:ZX→Int}(h0:sg 0=0):∀k,NL sg k 0=0
 | 0=>rfl
 | k+1=>by
  have h1:bX 0=0:=rfl
  rw [NL,if_pos h0,h1,qJ h0 k]
theorem V8{sg:ZX→Int}(h0:sg 0=0):∀ {k j:Nat} {p:ZX},ZX.N p≤k→ZX.N p≤j→NL sg k p=NL sg j p
 | 0,j,p,h,_=>by
  have:p=0:=Classical.byContradiction fun h0=>by have:=ZX.aF.1 h0;omega
  rw [this,qJ h0,qJ h0]
 | k+1,0,p,_,h=>by
  have:p=0:=Classical.byContradiction fun h0=>by have:=ZX.aF.1 h0;omega
  rw [this,qJ h0,qJ h0]
 | k+1,j+1,p,h1,h2=>by
  rw [NL,NL]
  have:=oE p
  rw [V8 h0 (k:=k) (j:=j) (p:=bX p) (by omega) (by omega)]
theorem V9(g:FuncId)(hw:KW g=false)(caps:List PV)(hc:caps.all dI=true)(sg:ZX→Int)(h0:sg 0=0){s k:Nat}{p:ZX}(hp:BZ s k p)(hk:k≤31)(hs:s≤1000000)(hg:∀(q:ZX) (s':Nat),s'≤s+5*k→BZ s' k q→aE env.P g (Po q.l::caps) (.int .i64 (sg q)))(hm:xL g=false:=by rfl) :
  aE env.P 244 [Po p.l, .fn g caps] (.int .i64 (NL sg (ZX.N p) p)):=by
 have hN:=hp.N
 have N1:=eO (x:=p.l) (hp.pb (by omega) (by omega))
 rw [p.c]at N1
 obtain⟨r,hr⟩:∃r,r=NL sg (ZX.N p) p:=⟨_,rfl⟩
 rw [←hr]
 refine cB [(0,Po p.l),(1, .fn g caps)] Tryz.func244 ?_
 refine aA [0,1] ?_
 refine W.seq ?_
 refine aL [0,1] N1 ?_
 refine W.block ?_
 refine W.aY (fun m σ=>∃(q:ZX) (s':Nat) (rows:Pm.Rows) (clk:Nat),σ=⟨fa [(0,Po q.l),(1, .fn g caps)],rows,clk⟩∧m=ZX.N q∧BZ s' k q∧s'+5*ZX.N q≤s+5*k∧NL sg (ZX.N q) q=r) (ZX.N p) ?_ ?_
 ·exact⟨_, .refl,p,s,_,_,rfl,rfl,hp,by omega,hr.symm⟩
 rintro m _ ⟨q,s',rows,clk,rfl,rfl,bq,hsq,hq⟩
 have hNq:=bq.N
 have hNl:ZX.N q=q.l.length:=rfl
 refine aK [0,1,10] ?_
 refine bH ?_ ?_<;>intro h
 ·have SN:q≠0:=ZX.aF.2 (by show 0<q.l.length;simp at h;omega)
  have hgq:=hg q s' (by omega) bq
  have hD:=rC bq (by omega) (by omega)
  have aC2:ZX.N (bX q)<ZX.N q:=by have:=oE q;have:=ZX.aF.1 SN;omega
  have bd:=bq.bX hk
  obtain⟨j,hj⟩:∃j,ZX.N q=j+1:=⟨ZX.N q-1,by have:=ZX.aF.1 SN;omega⟩
  rw [hj,NL]at hq
  generalize hv:sg q=w at *
  refine j7 ?_
  refine W.sr ?_
  simp (disch:=omega) [gw, -KW,hw, -xL,hm,hc]
  refine cN [0,1,5] hgq ?_
  refine aA [0,1,5,17] ?_
  refine bH ?_ ?_<;>intro h
  ·have hw:w≠0:=by simpa using h
   rw [if_neg hw]at hq
   subst hq
   refine aA [4] ?_
   exact bZ
  ·have hw:w=0:=by simpa using h
   rw [if_pos hw]at hq
   refine W.skip ?_
   refine W.bY (fun K hK=>?_)
   simp (disch:=omega) [gw]
   refine cM hD ?_
   refine hK _ ⟨ZX.N (bX q),_,aB _ [0,1],aC2,bX q,s'+5,_,_,rfl,rfl,bd,by omega,?_⟩
   rw [←hq]
   exact V8 h0 (Nat.le_refl _) (by omega)
 ·have SN:q=0:=by
   refine Classical.byContradiction fun h0=>?_
   have h1:=ZX.aF.1 h0
   simp at h;rw [hNl,h]at h1;simp at h1
  subst SN
  rw [qJ h0]at hq
  subst hq
  refine eW ?_
  refine aA [4] ?_
  exact bZ
theorem WA{α:Type}{g:α→List PV}{l:List α}{m:Nat}{f:ZX}{L:List (Rat × Rat)}(hO:aE env.P 265 [aH g l] (Po f.l))(hR:aE env.P 18 [Po f.l] (.dX [aH (ga f) L, .int .i64 0]))(hm:m=0):aE env.P 255 [aH g l] (aH (ga f) L):=by
 refine cB [(0,aH g l)] Tryz.func255 ?_
 refine aA [0] ?_
 refine jG ?_
 refine cM hO ?_
 refine cN [3,4] hR ?_
 refine aK [3,12] ?_
 refine bH ?_ ?_<;>intro h
 ·simp at h
 refine W.skip ?_
 refine aA [2] ?_
 exact bZ
theorem aq5{a:ZX}(na:Nf a):uX (oz a) (bX (oz a)):=fun d h1 h2=>by
 refine Classical.byContradiction fun h3=>?_
 have ho:=afu na
 have hd0:=h1.ne ho.ne
 obtain⟨p,hp,hpd⟩:=oD _ d (Nat.le_refl _) (by omega)
 have hmu:=amL na hp
 have hpo:dv p (oz a):=hpd.trans h1
 have h4:1≤mu p (oz a):=(jU hp ho.ne).2 (by rw [show p^1=p by rw [pow_succ',eQ];grind];exact hpo)
 have h5:mu p (oz a)=0+1:=by
  rw [hmu]at h4 ⊢
  omega
 obtain⟨h6,h7⟩:=zP hp ho.ne h5
 have h8:1≤mu p (bX (oz a)):=(jU hp h6).2 (by rw [show p^1=p by rw [pow_succ',eQ];grind];exact hpd.trans h2)
 omega
theorem agn{s n:Nat}{a:ZX}(h:rZ s n a)(h0:a≠0)(CI:1≤n)(hC:(qb (qb s n) n+n+6)*4^n≤4500000000)(hs:qb s n≤5000000):oQ (qb s n) n (oz (nf a)):=by
 have na:=jV h0
 have no:=afu na
 have hb:BZ (qb s n) n (oz (nf a)):=h.nfz.dv na no (LU na _ _)
 exact⟨⟨hb,h.hn,Nat.le_trans h.hs (Nat.pow_le_pow_right (by decide) (by unfold qb;omega)),hC⟩,CI,no,MT no (aq5 na),hs⟩
theorem R3{s n:Nat}{a:ZX}(h:rZ s n a)(h0:a≠0)(CI:1≤n)(hC:(qb (qb s n) n+n+6)*4^n≤4500000000)(hs:qb s n≤20000):aE env.P 255 [Po a.l] (aH (ga (oz (nf a))) (JF (qb s n) n (oz (nf a)))):=
 have I:=agn h h0 CI hC (by omega)
 WA (ajR h h0) (V6 I.akn I) rfl
theorem ago{a b:ZX}(na:Nf a)(nb:Nf b)(h:∀p,pN p→mu p a=mu p b):a=b:=by
 have h1:=(kR na.ne nb.ne).2 fun p hp=>Nat.le_of_eq (h p hp)
 have h2:=(kR nb.ne na.ne).2 fun p hp=>Nat.le_of_eq (h p hp).symm
 have:=tD h1 h2
 rwa [na.nfe,nb.nfe]at this
theorem agp(q:Rat):bX (dR q)=K (q.den:Int):=ext fun t=>by
 rw [QR,wR]
 refine VG fun h=>⟨0,?_⟩
 rw [dR,VF,VF]
 simp only [V]
 grind
theorem MU{F:ZX}{v:Rat→Nat}(nF:Nf F)(cF:uX F (bX F))(SF:r7 F v)(hF:ZX.N F≤20){t hi:Rat}(h:t<hi)(hv:v t=v hi):∀(m:Nat) (p:ZX),ZX.N p≤m→p≠0→(∀q,pN q→min (mu q p) 1≤mu q F) → ∀s,t<s→s≤hi→e s p≠0∧cD (e s p)=cD (e hi p)
 | 0,p,hm,h0,_,_,_,_=>absurd hm (by have:=ZX.aF.1 h0;omega)
 | m+1,p,hm,h0,hmu,s,h1,h2=>by
  have hN:=ZX.aF.1 h0
  by_cases hN1:ZX.N p≤1
  ·obtain⟨c,hc,rfl⟩:=ZX.lL (x:=p) (by omega)
   rw [yY,yY]
   exact⟨fun h=>hc (Rat.intCast_eq_zero_iff.1 h),rfl⟩
  obtain⟨nf,hf⟩:=lP h0
  have hd:dv (sq p) F:=(kR nf.ne nF.ne).2 fun q hq=>by rw [hf q hq];exact hmu q hq
  obtain⟨w,S⟩:=rI (h:=sq p) nF cF
  have hg:gz F (sq p)=sq p:=Nf.tE S.ng nf fun q hq=>by
   rw [(fA F (sq p)).mu nF.ne nf.ne hq]
   have:=(kR nf.ne nF.ne).1 hd q hq
   omega
  rw [hg]at S
  have hSN:=S.N
  have Sw:=CR S.nw.ne S.sw (by omega)
  have Sf:=CR S.ng.ne S.sg (by omega)
  have c1:=S.RX SF Sf Sw (Rat.le_of_lt h)
  have m1:=Sf.b6 (Rat.le_of_lt h)
  have m2:=Sw.b6 (Rat.le_of_lt h)
  have m3:=Sf.b6 (Rat.le_of_lt h1)
  have m4:=Sf.b6 h2
  obtain⟨f1,f2⟩:=Sf.flat h1 (by omega)
  have f3:cD (e hi (sq p))=cD (e s (sq p)):=by
   rcases Rat.le_iff_lt_or_eq.1 h2 with h3 | h3
   ·exact(Sf.flat h3 (by omega)).2 f1
   ·rw [h3]
  obtain⟨c,hc,q,hq⟩:=rF h0
  have SN:q≠0:=fun h=>by
   rw [h]at hq
   exact ZX.mE (ZX.pM hc) h0 (by rw [hq];grind)
  have IP:=congrArg ZX.N hq
  rw [ZX.jT (ZX.pM hc) h0,ZX.N_K hc,ZX.jT SN nf.ne]at IP
  have hfN:2≤ZX.N (sq p):=Nat.not_lt.1 fun h3=>by
   obtain⟨d,X5,TQ⟩:=oD _ p (Nat.le_refl _) (by omega)
   have h5:=hf d X5
   have h6:=(jU X5 h0 (k:=1)).2 (by rw [pow_succ',eQ,show(1:ZX)*d=d by grind];exact TQ)
   rw [nf.N1 (by omega),LO X5]at h5
   omega
  have hqm:∀r,pN r→min (mu r q) 1≤mu r F:=fun r hr=>by
   have h3:=hmu r hr
   have h4:=congrArg (mu r) hq
   rw [tC hr (ZX.pM hc) h0,tC hr SN nf.ne,abD hr hc]at h4
   omega
  obtain⟨q1,q2⟩:=MU nF cF SF hF h hv m q (by omega) SN hqm s h1 h2
  have hcr:(c:Rat)≠0:=fun h=>hc (Rat.intCast_eq_zero_iff.1 h)
  have g:∀x,(c:Rat)*e x p=e x q*e x (sq p):=fun x=>by rw [←yY (t:=x) c,←i7,hq,i7]
  refine⟨fun h3=>?_,?_⟩
  ·have h4:=g s
   rw [h3,Rat.mul_zero]at h4
   rcases Rat.mul_eq_zero.1 h4.symm with h5 | h5
   ·exact q1 h5
   ·exact f1 h5
  ·rw [zZ hcr (g s),zZ hcr (g hi),q2,f3]
theorem wN(t:Rat):(dR t).l = [-t.num,(t.den:Int)]:=jD (x:=(t.den:Int)) (by have:=t.den_nz;omega) [-t.num]
theorem ako{x:List Int}{n d:Int}(hN:aE env.P 64 [Po x] (Po x))(hM:aE env.P 90 [T2 n d, .sl []] (T2 n d)):aE env.P 192 [.ag (G9 x n d n d)] (.ag (G9 x n d n d)):=by
 simp only [G9]
 refine cB [(0, .ag (G9 x n d n d))] Tryz.func192 ?_
 refine aA [1,2] ?_
 refine nH ?_
 refine cM hN ?_
 refine cM hM ?_
 refine aC hM ?_
 (try (refine bE (of_decide_eq_true (by kernel_rfl)) ?_));(try simp (maxSteps:=4000000) (disch:=omega) [gw]);(repeat rw [if_pos (by kernel_rfl)]);(try simp (maxSteps:=4000000) (disch:=omega) [gw])
 refine bI [2] ?_
 exact bZ
theorem ab5{x:List Int}{n d:Int}(hc:aE env.P 86 [T2 n d,T2 n d] (.int .i64 0)):aE env.P 193 [.ag (G9 x n d n d)] (.bool true):=by
 simp only [G9]
 refine cB [(0, .ag (G9 x n d n d))] Tryz.func193 ?_
 refine aA [1] ?_
 refine aL [2] hc ?_
 exact bZ
theorem agq{q x:List Int}{n d r:Int}(hl:q.length<1000000)(hr:q.length=0→r=0)(hq:aE env.P 64 [Po q] (Po q))(hN:aE env.P 64 [Po x] (Po x))(hM:aE env.P 90 [T2 n d, .sl []] (T2 n d))(hc:aE env.P 86 [T2 n d,T2 n d] (.int .i64 0))(hs:aE env.P 87 [Po q,T2 n d] (.int .i64 r)) :
  aE env.P 246 [Po q, .ag (G9 x n d n d)] (.int .i64 r):=by
 have k1:=ako hN hM
 have k2:=ab5 (x:=x) hc
 simp only [G9]at k1 k2 ⊢
 refine cB [(0,Po q),(1, .ag (G9 x n d n d))] Tryz.func246 ?_
 refine aA [0,3] ?_
 refine nH ?_
 refine cM hq ?_
 refine aC k1 ?_
 (try (refine bE (of_decide_eq_true (by kernel_rfl)) ?_));(try simp (maxSteps:=4000000) (disch:=omega) [gw]);(repeat rw [if_pos (by kernel_rfl)]);(try simp (maxSteps:=4000000) (disch:=omega) [gw])
 (try (refine bE (of_decide_eq_true (by kernel_rfl)) ?_));(try simp (maxSteps:=4000000) (disch:=omega) [gw]);(repeat rw [if_pos (by kernel_rfl)]);(try simp (maxSteps:=4000000) (disch:=omega) [gw])
 refine bI [0,3] ?_
 refine W.seq ?_
 by_cases h0:q.length=0
 ·rw [hr h0]
  refine aA [0,3,14] ?_
  refine bH ?_ ?_<;>intro h
  ·refine aA [4] ?_
   exact bZ
  ·simp at h;exact absurd (List.eq_nil_of_length_eq_zero h0) h
 ·refine aA [0,3,14] ?_
  refine bH ?_ ?_<;>intro h
  ·simp at h;rw [h]at h0;exact absurd rfl h0
  refine W.skip ?_
  refine W.seq ?_
  refine aL [0,3,16] k2 ?_
  refine bH ?_ ?_<;>intro h
  ·refine aL [4] hs ?_
   exact bZ
  ·simp at h
theorem ab6{x:List Int}{an ad bn bd:Int}(hN:aE env.P 64 [Po x] (Po x))(h1:aE env.P 90 [T2 an ad, .sl []] (T2 an ad))(h2:aE env.P 90 [T2 bn bd, .sl []] (T2 bn bd)):aE env.P 192 [.ag (G9 x an ad bn bd)] (.ag (G9 x an ad bn bd)):=by
 simp only [G9]
 refine cB [(0, .ag (G9 x an ad bn bd))] Tryz.func192 ?_
 refine aA [1,2] ?_
 refine nH ?_
 refine cM hN ?_
 refine cM h1 ?_
 refine aC h2 ?_
 (try (refine bE (of_decide_eq_true (by kernel_rfl)) ?_));(try simp (maxSteps:=4000000) (disch:=omega) [gw]);(repeat rw [if_pos (by kernel_rfl)]);(try simp (maxSteps:=4000000) (disch:=omega) [gw])
 refine bI [2] ?_
 exact bZ
theorem wO{x:List Int}{an ad bn bd z:Int}(hc:aE env.P 86 [T2 an ad,T2 bn bd] (.int .i64 z)):aE env.P 193 [.ag (G9 x an ad bn bd)] (.bool (decide (0≤z))):=by
 simp only [G9]
 refine cB [(0, .ag (G9 x an ad bn bd))] Tryz.func193 ?_
 refine aA [1] ?_
 refine aL [2] hc ?_
 exact bZ
theorem agr{q q':List Int}{n d s s':Int}(h1:aE env.P 87 [Po q,T2 n d] (.int .i64 s))(h2:aE env.P 85 [Po q] (Po q'))(h3:aE env.P 87 [Po q',T2 n d] (.int .i64 s')):aE env.P 197 [Po q,T2 n d] (.int .i64 (if s=0 then s' else s)):=by
 refine cB [(0,Po q),(1,T2 n d)] Tryz.func197 ?_
 refine aA [0,3] ?_
 refine W.seq ?_
 refine aL [0,3,5] h1 ?_
 by_cases h0:s=0
 ·rw [if_pos h0]
  refine aA [0,3,5,10] ?_
  refine bH ?_ ?_<;>intro h
  ·simp at h;exact absurd h0 h
  refine W.skip ?_
  refine nH ?_
  refine cM h2 ?_
  refine cN [4] h3 ?_
  exact bZ
 ·rw [if_neg h0]
  refine aA [0,3,5,10] ?_
  refine bH ?_ ?_<;>intro h
  ·refine aA [4] ?_
   exact bZ
  ·simp at h;exact absurd h h0
theorem ags{q:List Int}{an ad bn bd s w:Int}(h1:aE env.P 87 [Po q,T2 bn bd] (.int .i64 s))(h2:aE env.P 197 [Po q,T2 an ad] (.int .i64 w)):aE env.P 195 [Po q,T2 an ad,T2 bn bd] (.bool (decide (s=0∨s≠w))):=by
 refine cB [(0,Po q),(1,T2 an ad),(2,T2 bn bd)] Tryz.func195 ?_
 refine aA [0,4,5] ?_
 refine aL [0,4,7] h1 ?_
 by_cases h0:s=0
 ·subst h0
  refine aA [6] ?_
  exact bZ
 ·have hb:(s==0)=false:=by simpa using h0
  refine W.sr ?_
  simp (disch:=omega) [gw,hb]
  refine aC h2 ?_
  simp (disch:=omega) [gw,hb]
  refine bI [6] ?_
  refine W.ret ?_
  simp [go,h0]
  by_cases hsw:s=w<;>simp [hsw]
theorem WB{x:List Int}{an ad bn bd tn td r:Int}(hp:aE env.P 193 [.ag (G9 x an ad bn bd)] (.bool true))(hc:aE env.P 86 [T2 an ad,T2 tn td] (.int .i64 r)):aE env.P 111 [.ag (G9 x an ad bn bd),T2 tn td] (.int .i64 r):=by
 simp only [G9]at *
 refine cB [(0, .ag (G9 x an ad bn bd)),(1,T2 tn td)] Tryz.func111 ?_
 refine bT [2,3] ?_
 refine W.block ?_
 refine aL [2,3,6] hp ?_
 refine bH ?_ ?_<;>intro h
 ·refine aL [4] hc ?_
  exact bZ
 ·simp at h
theorem tL{x:List Int}{an ad bn bd tn td z1 z2 s w r:Int}(hp:aE env.P 193 [.ag (G9 x an ad bn bd)] (.bool false))(h1:aE env.P 86 [T2 tn td,T2 an ad] (.int .i64 z1))(h2:aE env.P 86 [T2 tn td,T2 bn bd] (.int .i64 z2))(h3:aE env.P 87 [Po x,T2 tn td] (.int .i64 s))(h4:aE env.P 197 [Po x,T2 an ad] (.int .i64 w))
  (hr:r=if z1≤0 then 1 else if 0<z2 then -1 else if s=0 then 0 else if s=w then 1 else -1):aE env.P 111 [.ag (G9 x an ad bn bd),T2 tn td] (.int .i64 r):=by
 simp only [G9]at *
 refine cB [(0, .ag (G9 x an ad bn bd)),(1,T2 tn td)] Tryz.func111 ?_
 refine bT [2,3] ?_
 refine W.block ?_
 refine aL [2,3,6] hp ?_
 refine bH ?_ ?_<;>intro h
 ·simp at h
 refine aL [2,3,13] h1 ?_
 refine bH ?_ ?_<;>intro h
 ·have h0:z1≤0:=by simpa using h
  rw [if_pos h0]at hr;subst hr
  refine aA [4] ?_
  exact bZ
 have h0:¬z1≤0:=by simpa using h
 rw [if_neg h0]at hr
 refine aL [2,3,19] h2 ?_
 refine bH ?_ ?_<;>intro h
 ·have h0:0<z2:=by simpa using h
  rw [if_pos h0]at hr;subst hr
  refine aA [4] ?_
  exact bZ
 have h0:¬0<z2:=by simpa using h
 rw [if_neg h0]at hr
 refine W.skip ?_
 refine aL [2,5] h3 ?_
 refine W.seq ?_
 refine W.block ?_
 refine aA [2,5,29] ?_
 refine bH ?_ ?_<;>intro h
 ·have h0:s=0:=by simpa using h
  rw [if_pos h0]at hr;subst hr
  refine aA [4] ?_
  exact bZ
 have h0:¬s=0:=by simpa using h
 rw [if_neg h0]at hr
 refine aL [32] h4 ?_
 refine bH ?_ ?_<;>intro h
 ·have h0:s=w:=by simpa using h
  rw [if_pos h0]at hr;subst hr
  refine aA [4] ?_
  exact bZ
 ·have h0:¬s=w:=by simpa using h
  rw [if_neg h0]at hr;subst hr
  refine W.skip ?_
  refine aA [4] ?_
  exact bZ
theorem agt{x:List Int}{an ad bn bd:Int}(hp:aE env.P 193 [.ag (G9 x an ad bn bd)] (.bool true)):aE env.P 254 [.ag (G9 x an ad bn bd)] (.ag (G9 x an ad bn bd)):=by
 simp only [G9]at *
 refine cB [(0, .ag (G9 x an ad bn bd))] Tryz.func254 ?_
 refine aA [1,2] ?_
 refine W.seq ?_
 refine aL [1,2,5] hp ?_
 refine bH ?_ ?_<;>intro h
 ·refine aA [2] ?_
  exact bZ
 ·simp at h
theorem ab7{x:List Int}{an ad bn bd mn md c:Int}(hp:aE env.P 193 [.ag (G9 x an ad bn bd)] (.bool false))(hm:aE env.P 91 [T2 an ad,T2 bn bd] (T2 mn md))(hc:aE env.P 111 [.ag (G9 x an ad bn bd),T2 mn md] (.int .i64 c)) :
  aE env.P 254 [.ag (G9 x an ad bn bd)] (.ag (if c=0 then G9 x mn md mn md else if c = -1 then G9 x an ad mn md else G9 x mn md bn bd)):=by
 simp only [G9]at *
 refine cB [(0, .ag (G9 x an ad bn bd))] Tryz.func254 ?_
 refine aA [1,2] ?_
 refine W.seq ?_
 refine aL [1,2,5] hp ?_
 refine bH ?_ ?_<;>intro h
 ·simp at h
 refine W.skip ?_
 refine aL [1,2,3] hm ?_
 refine W.iB (fun σ=>∃(v1 v2:Nat) (rows:Pm.Rows) (clk:Nat),σ=⟨fa [(1, .ptr 1 v1 0 0),(2, .ptr 2 v2 0 0)],rows,clk⟩∧rows 1=some ⟨v1,54,9,[if c=0 then G9 x mn md mn md else if c = -1 then G9 x an ad mn md else G9 x mn md bn bd]⟩∧rows 2=some ⟨v2,54,9,[[.nil, .bool false, .nil, .bool false, .nil, .bool false, .nil, .bool false, .nil]]⟩) ?_ ?_
 ·refine aL [1,2,3,14] hc ?_
  refine W.block ?_
  refine aA [1,2,3,14,17] ?_
  refine bH ?_ ?_<;>intro h
  ·have h0:c=0:=by simpa using h
   rw [if_pos h0]
   refine W.NB (fun K hK=>?_)
   simp (disch:=omega) [gw]
   (try (refine bE (of_decide_eq_true (by kernel_rfl)) ?_));(try simp (maxSteps:=4000000) (disch:=omega) [gw]);(repeat rw [if_pos (by kernel_rfl)]);(try simp (maxSteps:=4000000) (disch:=omega) [gw])
   (try (refine bE (of_decide_eq_true (by kernel_rfl)) ?_));(try simp (maxSteps:=4000000) (disch:=omega) [gw]);(repeat rw [if_pos (by kernel_rfl)]);(try simp (maxSteps:=4000000) (disch:=omega) [gw])
   (try (refine bE (of_decide_eq_true (by kernel_rfl)) ?_));(try simp (maxSteps:=4000000) (disch:=omega) [gw]);(repeat rw [if_pos (by kernel_rfl)]);(try simp (maxSteps:=4000000) (disch:=omega) [gw])
   exact hK _ ⟨_,aB _ [1,2],_,_,_,_,rfl,by simp,by simp⟩
  have h0:¬c=0:=by simpa using h
  rw [if_neg h0]
  refine aA [1,2,3,23] ?_
  refine bH ?_ ?_<;>intro h
  ·have h0:c = -1:=by simpa using h
   rw [if_pos h0]
   refine W.bY (fun K hK=>?_);simp (disch:=omega) [gw]
   exact hK _ ⟨_,aB _ [1,2],_,_,_,_,rfl,by simp,by simp⟩
  ·have h0:¬c = -1:=by simpa using h
   rw [if_neg h0]
   refine W.bY (fun K hK=>?_);simp (disch:=omega) [gw]
   exact hK _ ⟨_,aB _ [1,2],_,_,_,_,rfl,by simp,by simp⟩
 rintro _ ⟨v1,v2,rows,clk,rfl,xE,bU⟩
 by_cases h0:c=0
 ·rw [if_pos h0]at xE ⊢
  refine W.sr ?_
  simp (disch:=omega) [gw,xE,bU]
  refine bI [2] ?_
  exact bZ
 ·rw [if_neg h0]at xE ⊢
  by_cases h1:c = -1
  ·rw [if_pos h1]at xE ⊢
   refine W.sr ?_
   simp (disch:=omega) [gw,xE,bU]
   refine bI [2] ?_
   exact bZ
  ·rw [if_neg h1]at xE ⊢
   refine W.sr ?_
   simp (disch:=omega) [gw,xE,bU]
   refine bI [2] ?_
   exact bZ
def NM(x:List Int):Nat→Int
 | 0=>0
 | i+1=>if NM x i<bl (aR LL (nth x i).natAbs)then bl (aR LL (nth x i).natAbs)else NM x i
theorem ab8{x:List Int}(hl:x.length<1000000)(hB:∀i,i<x.length→aE env.P 257 [us (aR LL (nth x i).natAbs)] (.int .i64 (bl (aR LL (nth x i).natAbs)))∧0≤bl (aR LL (nth x i).natAbs)∧bl (aR LL (nth x i).natAbs)<1000000000000):aE env.P 264 [Po x] (.int .i64 (NM x x.length)):=by
 refine cB [(0,Po x)] Tryz.func264 ?_
 refine aA [0] ?_
 refine aA [0,3] ?_
 refine aK [3,6,7,8] ?_
 refine W.block ?_
 refine W.aY (fun k σ=>∃(i:Nat) (rows:Pm.Rows) (clk:Nat),σ=⟨fa [(3, .int .i64 (NM x i)),(6,Po x),(7, .int .i64 x.length),(8, .int .i64 i)],rows,clk⟩∧(0≤NM x i∧NM x i<1000000000000)∧i+k=x.length) x.length ?_ ?_
 ·exact⟨_, .refl,0,_,_,rfl,⟨by show(0:Int)≤0;decide,by show(0:Int)<_;decide⟩,by omega⟩
 rintro k _ ⟨i,rows,clk,rfl,hb,uA⟩
 refine bT [3,6,7,8,9] ?_
 refine bH ?_ ?_<;>intro h
 ·have hi:i<x.length:=by simp at h;omega
  obtain⟨h1,h0,h2⟩:=hB i hi
  refine j7 ?_
  refine W.sr ?_
  simp (disch:=omega) [gw,hi]
  refine bI [3,5,6,7,8] ?_
  refine W.bY (fun K hK=>?_)
  simp (disch:=omega) [gw]
  refine cM h1 ?_
  rw [show(if NM x i<bl (aR LL (nth x i).natAbs)then bl (aR LL (nth x i).natAbs)else NM x i)=NM x (i+1)from rfl]
  have DK:0≤NM x (i+1)∧NM x (i+1)<1000000000000:=by rw [NM];split<;>omega
  refine W.lw [3,6,7,8] hK ?_;clear hK K;simp
  refine W.bY (fun K hK=>?_);simp (disch:=omega) [gw]
  refine hK _ ⟨k-1,_,aB _ [3,6,7,8],by omega,i+1,_,_,rfl,DK,by omega⟩
 ·have hi:i=x.length:=by simp at h;omega
  subst hi
  refine eW ?_
  refine aA [2] ?_
  exact bZ
theorem WC{x y:List Int}{an ad bn bd cn cd dn dd b1 b2 b3 b4 zx zy:Int}(hx:x.length≤50)(hy:y.length≤50)(k1:aE env.P 257 [us (aR LL an.natAbs)] (.int .i64 b1))(k2:aE env.P 257 [us (aR LL bn.natAbs)] (.int .i64 b2))(k3:aE env.P 257 [us (aR LL cn.natAbs)] (.int .i64 b3))(k4:aE env.P 257 [us (aR LL dn.natAbs)] (.int .i64 b4))
  (l1:0≤b1∧b1<1000000000000) (l2:0≤b2∧b2<1000000000000) (l3:0≤b3∧b3<1000000000000) (l4:0≤b4∧b4<1000000000000) (sx:aE env.P 264 [Po x] (.int .i64 zx)) (sy:aE env.P 264 [Po y] (.int .i64 zy)) (m1:0≤zx∧zx<1000000000000) (m2:0≤zy∧zy<1000000000000) :
  aE env.P 252 [.ag (G9 x an ad bn bd), .ag (G9 y cn cd dn dd)] (.int .i64 (64+2*(b1+b2+b3+b4)+4*((x.length:Int)+y.length)*(zx+zy+((x.length:Int)+y.length)+8))):=by
 have p1:0≤4*((x.length:Int)+y.length)*(zx+zy+((x.length:Int)+y.length)+8):=Int.mul_nonneg (by omega) (by omega)
 have p2:4*((x.length:Int)+y.length)*(zx+zy+((x.length:Int)+y.length)+8)≤400*3000000000000:=Int.mul_le_mul (by omega) (by omega) (by omega) (by decide)
 simp only [G9]at *
 refine cB [(0, .ag (G9 x an ad bn bd)),(1, .ag (G9 y cn cd dn dd))] Tryz.func252 ?_
 refine aA [2,3] ?_
 refine aA [2,3,5] ?_
 refine nH ?_
 refine cM k1 ?_
 refine cM k2 ?_
 refine cM k3 ?_
 refine cN [2,3,5,6] k4 ?_
 refine nH ?_
 refine cM sx ?_
 refine cN [4] sy ?_
 exact bZ
theorem WD{q x g:List Int}{an ad bn bd dg:Int}(hl:0<q.length)(G2:q.length<1000000)(hq:aE env.P 64 [Po q] (Po q))(hN:aE env.P 192 [.ag (G9 x an ad bn bd)] (.ag (G9 x an ad bn bd)))(hp:aE env.P 193 [.ag (G9 x an ad bn bd)] (.bool false))(hG:aE env.P 194 [.sl [[Po q],[Po x]]] (Po g))(hD:aE env.P 83 [Po g] (.int .i64 dg))(h0:0<dg)
  (hh:aE env.P 195 [Po g,T2 an ad,T2 bn bd] (.bool true)):aE env.P 246 [Po q, .ag (G9 x an ad bn bd)] (.int .i64 0):=by
 have m7:q ≠ []:=fun h=>by rw [h]at hl;simp at hl
 simp only [G9]at *
 refine cB [(0,Po q),(1, .ag (G9 x an ad bn bd))] Tryz.func246 ?_
 refine aA [0,3] ?_
 refine nH ?_
 refine cM hq ?_
 refine aC hN ?_
 (try (refine bE (of_decide_eq_true (by kernel_rfl)) ?_));(try simp (maxSteps:=4000000) (disch:=omega) [gw]);(repeat rw [if_pos (by kernel_rfl)]);(try simp (maxSteps:=4000000) (disch:=omega) [gw])
 (try (refine bE (of_decide_eq_true (by kernel_rfl)) ?_));(try simp (maxSteps:=4000000) (disch:=omega) [gw]);(repeat rw [if_pos (by kernel_rfl)]);(try simp (maxSteps:=4000000) (disch:=omega) [gw])
 refine bI [0,3] ?_
 refine aK [0,3,14] ?_
 refine bH ?_ ?_<;>intro h
 ·simp at h;exact absurd h m7
 refine W.skip ?_
 refine W.seq ?_
 refine aL [0,3,16] hp ?_
 refine bH ?_ ?_<;>intro h
 ·simp at h
 refine W.skip ?_
 refine W.seq ?_
 refine aL [0,3,5] hG ?_
 refine jG ?_
 refine aC hD ?_
 simp (disch:=omega) [gw,h0]
 refine cN [0,3,36] hh ?_
 refine bH ?_ ?_<;>intro h
 ·refine aA [4] ?_
  exact bZ
 ·simp at h
theorem agu{α:Type}{gc:α→List PV}{q x g:List Int}{C:List α}{an ad bn bd:Nat→Int}{dg r:Int}{N J:Nat}(hl:0<q.length)(G2:q.length<1000000)(hq:aE env.P 64 [Po q] (Po q))(hN:aE env.P 192 [.ag (G9 x (an 0) (ad 0) (bn 0) (bd 0))] (.ag (G9 x (an 0) (ad 0) (bn 0) (bd 0))))(hp:aE env.P 193 [.ag (G9 x (an 0) (ad 0) (bn 0) (bd 0))] (.bool false))(hG:aE env.P 194 [.sl [[Po q],[Po x]]] (Po g))
  (hD:aE env.P 83 [Po g] (.int .i64 dg)) (hh:0<dg→aE env.P 195 [Po g,T2 (an 0) (ad 0),T2 (bn 0) (bd 0)] (.bool false)) (hC:aE env.P 69 [Po q] (.dX [.rd [aH gc C], .int .i64 0])) (hs:aE env.P 252 [.ag (G9 x (an 0) (ad 0) (bn 0) (bd 0)), .ag (G9 q 0 0 0 0)] (.int .i64 N)) (IP:N<1000000000000000)
  (hb:∀j,j<J→aE env.P 193 [.ag (G9 x (an j) (ad j) (bn j) (bd j))] (.bool false)∧(∃z:Int,aE env.P 88 [.rd [aH gc C],T2 (an j) (ad j),T2 (bn j) (bd j)] (.int .i64 z)∧(z==0)=false)∧aE env.P 254 [.ag (G9 x (an j) (ad j) (bn j) (bd j))] (.ag (G9 x (an (j+1)) (ad (j+1)) (bn (j+1)) (bd (j+1)))))
  (hJ:J≤N) (iR:J<N→aE env.P 193 [.ag (G9 x (an J) (ad J) (bn J) (bd J))] (.bool true)∨aE env.P 193 [.ag (G9 x (an J) (ad J) (bn J) (bd J))] (.bool false)∧aE env.P 88 [.rd [aH gc C],T2 (an J) (ad J),T2 (bn J) (bd J)] (.int .i64 0)) (hr:aE env.P 87 [Po q,T2 (bn J) (bd J)] (.int .i64 r)) :
  aE env.P 246 [Po q, .ag (G9 x (an 0) (ad 0) (bn 0) (bd 0))] (.int .i64 r):=by
 have m7:q ≠ []:=fun h=>by rw [h]at hl;simp at hl
 replace hs:aE env.P 252 [.ag (G9 x (an 0) (ad 0) (bn 0) (bd 0)), .ag [Po q, .bool false, .sl [], .bool false, .sl [], .bool false, .sl [], .bool false, .sl []]] (.int .i64 N):=hs
 simp only [G9]at *
 refine cB [(0,Po q),(1, .ag (G9 x (an 0) (ad 0) (bn 0) (bd 0)))] Tryz.func246 ?_
 refine aA [0,3] ?_
 refine nH ?_
 refine cM hq ?_
 refine aC hN ?_
 (try (refine bE (of_decide_eq_true (by kernel_rfl)) ?_));(try simp (maxSteps:=4000000) (disch:=omega) [gw]);(repeat rw [if_pos (by kernel_rfl)]);(try simp (maxSteps:=4000000) (disch:=omega) [gw])
 (try (refine bE (of_decide_eq_true (by kernel_rfl)) ?_));(try simp (maxSteps:=4000000) (disch:=omega) [gw]);(repeat rw [if_pos (by kernel_rfl)]);(try simp (maxSteps:=4000000) (disch:=omega) [gw])
 refine bI [0,3] ?_
 refine aK [0,3,14] ?_
 refine bH ?_ ?_<;>intro h
 ·simp at h;exact absurd h m7
 refine W.skip ?_
 refine W.seq ?_
 refine aL [0,3,16] hp ?_
 refine bH ?_ ?_<;>intro h
 ·simp at h
 refine W.skip ?_
 refine W.seq ?_
 refine aL [0,3,5] hG ?_
 refine W.eD (fun σ=>∃(v3:Nat) (rows:Pm.Rows) (clk:Nat),σ=⟨fa [(0,Po q),(3, .ptr 3 v3 0 0),(36, .bool false)],rows,clk⟩∧rows 3=some ⟨v3,54,9,[G9 x (an 0) (ad 0) (bn 0) (bd 0)]⟩) (fun K hK=>?_) ?_
 ·by_cases h0:0<dg
  ·have hh':=hh h0
   simp (disch:=omega) [gw]
   refine aC hD ?_
   simp (disch:=omega) [gw,h0]
   refine cM hh' ?_
   refine hK _ _ (aB _ [0,3,36]) ⟨_,_,_,rfl,by simp⟩
  ·simp (disch:=omega) [gw]
   refine aC hD ?_
   simp (disch:=omega) [gw,h0]
   refine hK _ _ (aB _ [0,3,36]) ⟨_,_,_,rfl,by simp⟩
 rintro _ ⟨v3,rows,clk,rfl,bQ⟩
 simp only [G9]at bQ
 refine bH ?_ ?_<;>intro h
 ·simp at h
 refine W.skip ?_
 refine aL [0,3,6] hC ?_
 refine W.iB (fun σ=>∃(v3:Nat) (rows:Pm.Rows) (clk:Nat),σ=⟨fa [(0,Po q),(3, .ptr 3 v3 0 0)],rows,clk⟩∧rows 3=some ⟨v3,54,9,[G9 x (an J) (ad J) (bn J) (bd J)]⟩) ?_ ?_
 ·refine W.sr ?_
  simp (disch:=omega) [gw,bQ]
  refine cN [0,3,6,45,46] hs ?_
  refine W.block ?_
  refine W.aY (fun k σ=>∃(j v3:Nat) (rows:Pm.Rows) (clk:Nat),σ=⟨fa [(0,Po q),(3, .ptr 3 v3 0 0),(6, .rd [aH gc C]),(45, .int .i64 N),(46, .int .i64 j)],rows,clk⟩∧rows 3=some ⟨v3,54,9,[G9 x (an j) (ad j) (bn j) (bd j)]⟩∧j+k=J) J ?_ ?_
  ·exact⟨_, .refl,0,_,_,_,rfl,by simp [bQ],by omega⟩
  rintro k _ ⟨j,v3,rows,clk,rfl,bQ,hjk⟩
  simp only [G9]at bQ
  refine bT [0,3,6,45,46,47] ?_
  refine bH ?_ ?_<;>intro h
  ·have hjN:j<N:=by simp at h;omega
   refine j7 ?_
   refine W.seq ?_
   by_cases hjJ:j<J
   ·obtain⟨g1,⟨z,g2,g3⟩,g4⟩:=hb j hjJ
    refine W.sr ?_
    simp (disch:=omega) [gw,bQ]
    refine aC g1 ?_
    simp (disch:=omega) [gw,bQ]
    refine aC g2 ?_
    simp (disch:=omega) [gw,g3]
    refine bI [0,3,6,45,46,58] ?_
    refine bH ?_ ?_<;>intro h
    ·simp at h
    refine W.skip ?_
    refine W.bY (fun K hK=>?_)
    simp (disch:=omega) [gw,bQ]
    refine aC g4 ?_
    simp (disch:=omega) [gw,bQ]
    refine W.lw [0,3,6,45,46] hK ?_;clear hK K;simp
    refine W.bY (fun K hK=>?_);simp (disch:=omega) [gw]
    refine hK _ ⟨k-1,_,aB _ [0,3,6,45,46],by omega,j+1,v3,_,_,rfl,by simp,by omega⟩
   ·have hjE:j=J:=by omega
    subst hjE
    rcases iR hjN with g1 | ⟨g1,g2⟩
    ·refine W.sr ?_
     simp (disch:=omega) [gw,bQ]
     refine cN [0,3,6,45,46,58] g1 ?_
     refine bH ?_ ?_<;>intro h
     ·refine eW ?_
      exact⟨_,aB _ [0,3],_,_,_,rfl,bQ⟩
     ·simp at h
    ·refine W.sr ?_
     simp (disch:=omega) [gw,bQ]
     refine aC g1 ?_
     simp (disch:=omega) [gw,bQ]
     refine cN [0,3,6,45,46,58] g2 ?_
     refine bH ?_ ?_<;>intro h
     ·refine eW ?_
      exact⟨_,aB _ [0,3],_,_,_,rfl,bQ⟩
     ·simp at h
  ·have hjE:j=J:=by simp at h;omega
   subst hjE
   refine eW ?_
   exact⟨_,aB _ [0,3],_,_,_,rfl,bQ⟩
 rintro _ ⟨v3,rows,clk,rfl,bQ⟩
 simp only [G9]at bQ
 refine W.sr ?_
 simp (disch:=omega) [gw,bQ]
 refine cN [4] hr ?_
 exact bZ
theorem akp{s k:Nat}{p:ZX}{x:List Int}{an ad bn bd:Int}(sg:ZX→Int)(h0:sg 0=0)(hp:BZ s k p)(hk:k≤31)(hs:s≤1000000)(Q5:∀(q:ZX) (s':Nat),s'≤s+5*k→BZ s' k q→aE env.P 246 [Po q.l, .ag (G9 x an ad bn bd)] (.int .i64 (sg q))) :
  aE env.P 185 [Po p.l, .ag (G9 x an ad bn bd)] (.int .i64 (NL sg (ZX.N p) p)):=by
 have h1:∀(q:ZX) (s':Nat),s'≤s+5*k→BZ s' k q→aE env.P 245 [Po q.l, .rd (G9 x an ad bn bd)] (.int .i64 (sg q)):=fun q s' yU bq=>by
  have k6:=Q5 q s' yU bq
  simp only [G9]at k6 ⊢
  generalize sg q=r at *
  refine cB [(0,Po q.l),(1, .rd (G9 x an ad bn bd))] Tryz.func245 ?_
  refine aA [0,1] ?_
  refine aL [3] k6 ?_
  exact bZ
 have F1:=V9 245 rfl [.rd (G9 x an ad bn bd)] rfl sg h0 hp hk hs h1
 simp only [G9]at F1 ⊢
 generalize NL sg (ZX.N p) p=r at *
 refine cB [(0,Po p.l),(1, .ag (G9 x an ad bn bd))] Tryz.func185 ?_
 refine aA [0,3] ?_
 refine aL [4] F1 ?_
 exact bZ
theorem tM{u:Nat}(q:ZX){s' k:Nat}(bq:BZ s' k q)(hs:s'≤1000000000)(hk:k≤100){t:Rat}(qt:SQ u t)(hu:u≤1000000000):aE env.P 87 [Po q.l,RT t] (.int .i64 (cD (e t q))):=by
 have hm:k*(u+1)≤100*(u+1):=Nat.mul_le_mul_right _ hk
 have k2:=JA (NI bq) q.c qt.nL qt.dL qt.hu (by omega) (by omega) (by omega) (aZ t) ⟨qt.nL,qt.dL⟩
 rwa [yF]at k2
section
variable {s n u:Nat} {f:ZX} (I:oQ s n f)
include I
theorem CT(hs:s≤1000000){t:Rat}(qt:SQ u t)(hu:u≤1000000000):aE env.P 197 [Po f.l,RT t] (.int .i64 (FN f t)):=by
 have hn:=I.ch.hn
 have h1:=tM f I.ch.bz (by omega) (by omega) qt hu
 have h2:=rC I.ch.bz (by omega) (by omega)
 have h3:=tM (bX f) (I.ch.bz.bX (by omega)) (by omega) (by omega) qt hu
 have:=agr (n:=t.num) (d:=t.den) h1 h2 h3
 have e1:(if cD (e t f)=0 then cD (e t (bX f))else cD (e t f))=FN f t:=by
  unfold FN
  by_cases h:e t f=0
  ·rw [if_pos h,if_pos (by rw [h,jX])]
  ·rw [if_neg h,if_neg (fun h0=>h (eU.1 h0))]
 rw [e1]at this
 exact this
theorem agv(hs:s≤1000000){p:Rat × Rat}(A:rT f (vt (bA f)) p.1 p.2){m:Rat}(h1:p.1<m)(h2:m≤p.2)(q1:SQ u p.1)(q2:SQ u p.2)(qm:SQ u m)(hu:u≤1000000000) :
  aE env.P 111 [GA f p,RT m] (.int .i64 (if e m f=0 then 0 else if vt (bA f) m<vt (bA f) p.1 then -1 else 1)):=by
 have dC:p.1<p.2:=by grind
 have z0:=dB q1.nL q1.dL q2.nL q2.dL (by omega) (aZ p.1) (aZ p.2) ⟨q1.nL,q1.dL⟩ ⟨q2.nL,q2.dL⟩
 have z1:=dB qm.nL qm.dL q1.nL q1.dL (by omega) (aZ m) (aZ p.1) ⟨qm.nL,qm.dL⟩ ⟨q1.nL,q1.dL⟩
 have z2:=dB qm.nL qm.dL q2.nL q2.dL (by omega) (aZ m) (aZ p.2) ⟨qm.nL,qm.dL⟩ ⟨q2.nL,q2.dL⟩
 have hp:=wO (x:=f.l) z0
 have oT:¬0≤dP (p.1.num*(p.2.den:Int)) (p.2.num*(p.1.den:Int)):=by have:=(fW (p:=p.1) (q:=p.2)).2 dC;omega
 rw [decide_eq_false oT]at hp
 have Q5:=tM f I.ch.bz (by omega) (by have:=I.ch.hn;omega) qm hu
 have hlw:=CT I hs q1 hu
 refine tL hp z1 z2 Q5 hlw ?_
 have g1:¬dP (m.num*(p.1.den:Int)) (p.1.num*(m.den:Int))≤0:=fun h=>absurd (qI.1 h) (Rat.not_le.2 h1)
 have g2:¬0<dP (m.num*(p.2.den:Int)) (p.2.num*(m.den:Int)):=fun h=>absurd (fV.1 h) (Rat.not_lt.2 h2)
 have MV:=I.S.par (Rat.le_of_lt h1)
 have hv:vt (bA f) p.1=vt (bA f) p.2+1:=by
  rcases A.k with ⟨h,_⟩ | ⟨_,h⟩
  ·rw [h]at dC;exact absurd dC Rat.lt_irrefl
  ·exact h
 have m1:=I.S.b6 (Rat.le_of_lt h1)
 have m2:=I.S.b6 h2
 rw [if_neg g1,if_neg g2]
 by_cases h0:e m f=0
 ·rw [if_pos h0,if_pos (by rw [h0,jX])]
 ·have h3:¬cD (e m f)=0:=fun h=>h0 (eU.1 h)
  rw [if_neg h0,if_neg h3]
  have h4:FN f m=cD (e m f):=by unfold FN;rw [if_neg h0]
  rw [h4]at MV
  by_cases h5:vt (bA f) m<vt (bA f) p.1
  ·rw [if_pos h5,if_neg]
   intro h6
   rw [show vt (bA f) p.1-vt (bA f) m=1 by omega,show sg1 1 = -1 from rfl]at MV
   omega
  ·rw [if_neg h5,if_pos]
   rw [show vt (bA f) p.1-vt (bA f) m=0 by omega,show sg1 0=1 from rfl,Int.one_mul]at MV
   exact MV
end
def uY(f:ZX)(p:Rat × Rat):Rat × Rat:=if p.1<p.2 then(if e ((p.1+p.2)/2) f=0 then((p.1+p.2)/2,(p.1+p.2)/2)else if vt (bA f) ((p.1+p.2)/2)<vt (bA f) p.1 then(p.1,(p.1+p.2)/2)else((p.1+p.2)/2,p.2))else p
theorem FX{s n u:Nat}{f:ZX}(I:oQ s n f)(hs:s≤1000000){p:Rat × Rat}(A:rT f (vt (bA f)) p.1 p.2)(q1:SQ u p.1)(q2:SQ u p.2)(qm:SQ u ((p.1+p.2)/2))(hu:u≤1000000000):aE env.P 254 [GA f p] (GA f (uY f p)):=by
 have z0:=dB q1.nL q1.dL q2.nL q2.dL (by omega) (aZ p.1) (aZ p.2) ⟨q1.nL,q1.dL⟩ ⟨q2.nL,q2.dL⟩
 have hp:=wO (x:=f.l) z0
 unfold uY
 by_cases dC:p.1<p.2
 ·rw [if_pos dC]
  have oT:¬0≤dP (p.1.num*(p.2.den:Int)) (p.2.num*(p.1.den:Int)):=by have:=(fW (p:=p.1) (q:=p.2)).2 dC;omega
  rw [decide_eq_false oT]at hp
  obtain⟨m1,m2⟩:=tJ dC
  have hm:=RM (q1.LLs (Nat.le_refl _)) (q2.LLs (Nat.le_refl _)) (by omega)
  have hc:=agv I hs A m1 (Rat.le_of_lt m2) q1 q2 qm hu
  generalize (p.1+p.2)/2=m at *
  have k:=ab7 hp hm hc
  by_cases h0:e m f=0
  ·rw [if_pos h0,if_pos rfl]at k
   rw [if_pos h0];exact k
  ·rw [if_neg h0]at k
   rw [if_neg h0]
   by_cases h5:vt (bA f) m<vt (bA f) p.1
   ·rw [if_pos h5,if_neg (by decide),if_pos rfl]at k
    rw [if_pos h5];exact k
   ·rw [if_neg h5,if_neg (by decide),if_neg (by decide)]at k
    rw [if_neg h5];exact k
 ·rw [if_neg dC]
  have oT:0≤dP (p.1.num*(p.2.den:Int)) (p.2.num*(p.1.den:Int)):=by
   have:=mt (fW (p:=p.1) (q:=p.2)).1 dC;omega
  rw [decide_eq_true oT]at hp
  exact agt hp
theorem lU{f:ZX}{p:Rat × Rat}(A:rT f (vt (bA f)) p.1 p.2):rT f (vt (bA f)) (uY f p).1 (uY f p).2∧(∀t,cO f (uY f p) t↔cO f p t)∧p.1≤(uY f p).1∧(uY f p).2≤p.2∧((uY f p).2-(uY f p).1)*2≤p.2-p.1:=by
 unfold uY
 by_cases dC:p.1<p.2
 ·rw [if_pos dC]
  obtain⟨m1,m2⟩:=tJ dC
  obtain⟨d1,d2⟩:=A.half m1 m2
  have e2:(p.1+p.2)/2*2=p.1+p.2:=Rat.div_mul_cancel (by decide)
  have hr:=fun h0=>A.S.root m2 (t:=p.2) (s:=(p.1+p.2)/2) h0
  generalize (p.1+p.2)/2=m at *
  by_cases h0:e m f=0
  ·rw [if_pos h0]
   have h5:vt (bA f) m<vt (bA f) p.1:=by
    have hv:vt (bA f) p.1=vt (bA f) p.2+1:=by
     rcases A.k with ⟨h,_⟩ | ⟨_,h⟩
     ·rw [h]at dC;exact absurd dC Rat.lt_irrefl
     ·exact h
    refine Nat.not_le.1 fun h6=>?_
    have h7:=A.S.b6 (Rat.le_of_lt m1)
    exact(A.S.flat m1 (by omega)).1 h0
   obtain⟨a1,a2⟩:=d1 h5
   obtain⟨b1,b2⟩:=a1.exact h0
   exact⟨b1,fun t=>(b2 t).trans (a2 t),Rat.le_of_lt m1,Rat.le_of_lt m2,by show(m-m)*2≤_;grind⟩
  ·rw [if_neg h0]
   by_cases h5:vt (bA f) m<vt (bA f) p.1
   ·rw [if_pos h5]
    obtain⟨a1,a2⟩:=d1 h5
    exact⟨a1,a2,Rat.le_refl,Rat.le_of_lt m2,by show(m-p.1)*2≤_;grind⟩
   ·rw [if_neg h5]
    obtain⟨a1,a2⟩:=d2 h5
    exact⟨a1,a2,Rat.le_of_lt m1,Rat.le_refl,by show(p.2-m)*2≤_;grind⟩
 ·rw [if_neg dC]
  have:=A.le
  exact⟨A,fun t=>Iff.rfl,Rat.le_refl,Rat.le_refl,by grind⟩
theorem ZU{s n u:Nat}{g:ZX}(I:oQ s n g)(hs:s≤1000000){lo hi:Rat}(h:lo<hi)(hv:vt (bA g) lo≤vt (bA g) hi+1)(q1:SQ u lo)(q2:SQ u hi)(hu:u≤1000000000):aE env.P 195 [Po g.l,RT lo,RT hi] (.bool (decide (vt (bA g) hi<vt (bA g) lo))):=by
 have h1:=tM g I.ch.bz (by omega) (by have:=I.ch.hn;omega) q2 hu
 have h2:=CT I hs q1 hu
 have k:=ags (an:=lo.num) (ad:=lo.den) (bn:=hi.num) (bd:=hi.den) h1 h2
 have m1:=I.S.b6 (Rat.le_of_lt h)
 have e1:decide (cD (e hi g)=0∨cD (e hi g)≠FN g lo)=decide (vt (bA g) hi<vt (bA g) lo):=by
  refine decide_eq_decide.2 ?_
  by_cases h0:e hi g=0
  ·refine⟨fun _=>Nat.not_le.1 fun h5=>(I.S.flat h (by omega)).1 h0,fun _ => .inl (by rw [h0,jX])⟩
  ·have h3:cD (e hi g)≠0:=fun h=>h0 (eU.1 h)
   have MV:=I.S.par (Rat.le_of_lt h)
   have h4:FN g hi=cD (e hi g):=by unfold FN;rw [if_neg h0]
   rw [h4]at MV
   by_cases h5:vt (bA g) hi<vt (bA g) lo
   ·rw [show vt (bA g) lo-vt (bA g) hi=1 by omega,show sg1 1 = -1 from rfl]at MV
    exact⟨fun _=>h5,fun _ => .inr fun h6=>by omega⟩
   ·rw [show vt (bA g) lo-vt (bA g) hi=0 by omega,show sg1 0=1 from rfl,Int.one_mul]at MV
    exact⟨fun h6=>(h6.elim (fun h7=>h3 h7) (fun h7=>h7 MV)).elim,fun h6=>absurd h6 h5⟩
 rw [e1]at k
 exact k
def gY(f:ZX)(p:Rat × Rat):Nat→Rat × Rat
 | 0=>p
 | j+1=>uY f (gY f p j)
theorem WG{f:ZX}{p:Rat × Rat}{D j:Nat}{B:Rat}(h1:Gr D B j p.1)(h2:Gr D B j p.2):Gr D B (j+1) (uY f p).1∧Gr D B (j+1) (uY f p).2:=by
 have hm:=h1.K4 h2
 unfold uY
 split
 ·split
  ·exact⟨hm,hm⟩
  ·split
   ·exact⟨h1.mono (by omega),hm⟩
   ·exact⟨hm,h2.mono (by omega)⟩
 ·exact⟨h1.mono (by omega),h2.mono (by omega)⟩
theorem FY{f:ZX}{p:Rat × Rat}(A:rT f (vt (bA f)) p.1 p.2){D:Nat}{B:Rat}(h1:Gr D B 0 p.1)(h2:Gr D B 0 p.2):∀j,rT f (vt (bA f)) (gY f p j).1 (gY f p j).2∧(∀t,cO f (gY f p j) t↔cO f p t)∧p.1≤(gY f p j).1∧(gY f p j).2≤p.2∧((gY f p j).2-(gY f p j).1)*2^j≤p.2-p.1∧Gr D B j (gY f p j).1∧Gr D B j (gY f p j).2
 | 0=>⟨A,fun _=>Iff.rfl,Rat.le_refl,Rat.le_refl,by rw [Rat.pow_zero,Rat.mul_one];exact Rat.le_refl,h1,h2⟩
 | j+1=>by
  obtain⟨a1,a2,a3,a4,a5,a6,a7⟩:=FY A h1 h2 j
  obtain⟨b1,b2,b3,b4,b5⟩:=lU a1
  obtain⟨c1,c2⟩:=WG (f:=f) a6 a7
  refine⟨b1,fun t=>(b2 t).trans (a2 t),by show _≤(uY f (gY f p j)).1;grind,by show(uY f (gY f p j)).2≤_;grind,?_,c1,c2⟩
  show((uY f (gY f p j)).2-(uY f (gY f p j)).1)*2^(j+1)≤_
  have hP:=gW j
  have g3:=Rat.mul_le_mul_of_nonneg_right b5 (Rat.le_of_lt hP)
  rw [Rat.pow_succ]
  grind
structure Num(U:Rat→Prop):Prop where
 up:∀s t,U s→s≤t→U t
 lo:∃s,¬U s
 hi:∃t,U t
namespace Num
variable {U:Rat→Prop} (H:Num U)
include H
theorem lt{s t:Rat}(h1:¬U s)(h2:U t):s<t:=Rat.not_le.1 fun h=>h1 (H.up t s h2 h)
theorem inter{s t s' t':Rat}(h1:¬U s)(h2:U t)(h3:¬U s')(h4:U t'):∃a b,¬U a∧U b∧s≤a∧s'≤a∧b≤t∧b≤t'∧a<b:=by
 obtain⟨a,a1,a2,a3⟩:∃a,¬U a∧s≤a∧s'≤a:=by
  by_cases h:s≤s'
  ·exact⟨s',h3,h,Rat.le_refl⟩
  ·exact⟨s,h1,Rat.le_refl,by grind⟩
 obtain⟨b,b1,b2,b3⟩:∃b,U b∧b≤t∧b≤t':=by
  by_cases h:t≤t'
  ·exact⟨t,h2,Rat.le_refl,h⟩
  ·exact⟨t',h4,by grind,Rat.le_refl⟩
 exact⟨a,b,a1,b1,a2,a3,b2,b3,H.lt a1 b1⟩
end Num
def Up(U:Rat→Prop)(x:Rat):Prop:=∃s,s<x∧U s
def Sn(U:Rat→Prop)(q:ZX)(σ:Int):Prop:=∃ε s t:Rat,0<ε∧¬U s∧U t ∧ ∀x,s<x→x≤t→cD (e x q)=σ∧kX ε (e x q)
def WH(U:Rat→Prop)(q:ZX):Prop:=∀ε:Rat,0<ε → ∃s t,¬U s∧U t ∧ ∀x,s≤x→x≤t→Ab (e x q) ε
def SR(U:Rat→Prop)(q:ZX)(σ:Int):Prop:=(σ=0∧WH U q)∨((σ=1∨σ = -1)∧Sn U q σ)
theorem Sn.ZV{U:Rat→Prop}(H:Num U){q:ZX}{σ:Int}(h:Sn U q σ):¬WH U q:=fun h2=>by
 obtain⟨ε,s,t,h0,h1,h2',h3⟩:=h
 obtain⟨s',t',h4,h5,h6⟩:=h2 (ε/2) (by grind)
 obtain⟨a,b,g1,g2,g3,g4,g5,g6,g7⟩:=H.inter h1 h2' h4 h5
 have k1:=(h3 b (by grind) g5).2
 obtain⟨k2,k3⟩:=h6 b (by grind) g6
 rcases k1 with k1 | k1<;>grind
theorem SR.uniq{U:Rat→Prop}(H:Num U){q:ZX}{σ τ:Int}(h:SR U q σ)(h':SR U q τ):σ=τ:=by
 rcases h with ⟨rfl,h⟩ | ⟨h1,h⟩
 ·rcases h' with ⟨rfl,h'⟩ | ⟨_,h'⟩
  ·rfl
  ·exact absurd h (h'.ZV H)
 ·rcases h' with ⟨_,h'⟩ | ⟨_,h'⟩
  ·exact absurd h' (h.ZV H)
  ·obtain⟨ε,s,t,_,h2,h3,h4⟩:=h
   obtain⟨ε',s',t',_,h5,h6,h7⟩:=h'
   obtain⟨a,b,g1,g2,g3,g4,g5,g6,g7⟩:=H.inter h2 h3 h5 h6
   rw [←(h4 b (by grind) g5).1,←(h7 b (by grind) g6).1]
noncomputable def ZW(U:Rat→Prop)(q:ZX):Int:=open Classical in if h:∃σ,SR U q σ then h.choose else 0
theorem SR.eq{U:Rat→Prop}(H:Num U){q:ZX}{σ:Int}(h:SR U q σ):ZW U q=σ:=by
 have h1:∃σ,SR U q σ:=⟨σ,h⟩
 unfold ZW
 rw [dif_pos h1]
 exact h1.choose_spec.uniq H h
theorem yL{U:Rat→Prop}(H:Num U):WH U 0:=fun ε hε=>by
 obtain⟨s,hs⟩:=H.lo
 obtain⟨t,ht⟩:=H.hi
 refine⟨s,t,hs,ht,fun x _ _=>?_⟩
 have:e x 0=0:=rfl
 rw [this]
 exact⟨by grind,by grind⟩
theorem WH.mul{U:Rat→Prop}(H:Num U){g:ZX}(h:WH U g)(k:ZX):WH U (k*g):=fun ε hε=>by
 obtain⟨s0,hs⟩:=H.lo
 obtain⟨t0,ht⟩:=H.hi
 obtain⟨B,hB,ha,hb⟩:=kB s0 t0
 obtain⟨Q,hQ,hl⟩:=lip k B hB
 obtain⟨M,hM,hm,_⟩:=kB (e s0 k) 0
 have iR:=H.lt hs ht
 have hC:0<M+(t0-s0)*Q:=by
  have:=Rat.mul_pos (show 0<t0-s0 by grind) hQ;grind
 have hk:∀x,s0≤x→x≤t0→Ab (e x k) (M+(t0-s0)*Q):=fun x h1 h2=>by
  have h3:=hl s0 x ha (cH ha hb h1 h2) h1
  have h4:(x-s0)*Q≤(t0-s0)*Q:=Rat.mul_le_mul_of_nonneg_right (by grind) (Rat.le_of_lt hQ)
  obtain⟨p1,p2⟩:=h3
  obtain⟨p3,p4⟩:=hm
  exact⟨by grind,by grind⟩
 generalize M+(t0-s0)*Q=C at *
 have e1:ε/C*C=ε:=Rat.div_mul_cancel (Rat.ne_of_gt hC)
 obtain⟨s,t,g1,g2,g3⟩:=h (ε/C) ((Rat.lt_div_iff hC).2 (by grind))
 obtain⟨a,b,k1,k2,k3,k4,k5,k6,k7⟩:=H.inter hs ht g1 g2
 refine⟨a,b,k1,k2,fun x h1 h2=>?_⟩
 have h3:=(hk x (by grind) (by grind)).mul (g3 x (by grind) (by grind))
 rw [i7]
 refine h3.mono ?_
 grind
theorem WH.G3{U:Rat→Prop}{c:Int}(hc:c≠0){q:ZX}(h:WH U (K c*q)):WH U q:=fun ε hε=>by
 obtain⟨s,t,h1,h2,h3⟩:=h ε hε
 refine⟨s,t,h1,h2,fun x h4 h5=>?_⟩
 have h6:=h3 x h4 h5
 rw [i7,yY]at h6
 have h7:=uO hc
 obtain⟨p1,p2⟩:=h6
 generalize (c:Rat)=C at *
 generalize e x q=y at *
 have key:∀C y:Rat,1≤C→C*y≤ε → -ε≤C*y→Ab y ε:=fun C y h1 h2 h3=>by
  refine⟨Rat.not_lt.1 fun h=>?_,Rat.not_lt.1 fun h=>?_⟩
  ·have:=Rat.mul_le_mul_of_nonneg_right h1 (show 0 ≤ -y by grind);grind
  ·have:=Rat.mul_le_mul_of_nonneg_right h1 (show 0≤y by grind);grind
 rcases h7 with h7 | h7
 ·have:=key (-C) (-y) (by grind) (by grind) (by grind)
  obtain⟨q1,q2⟩:=this
  exact⟨by grind,by grind⟩
 ·exact key C y h7 p2 p1
theorem WH.dv{U:Rat→Prop}(H:Num U){g q:ZX}(h:WH U g)(hd:dv g q):WH U q:=by
 obtain⟨c,hc,k,hk⟩:=hd
 have h1:=h.mul H k
 rw [←hk]at h1
 exact h1.G3 hc
theorem R4{U:Rat→Prop}(H:Num U){w:ZX}{φ:Rat→Nat}(S:r7 w φ){s0 t0:Rat}(h1:¬U s0)(h2:U t0)(ht:∀s t,s0≤s→t≤t0→¬U s→U t→φ s≠φ t):WH U w:=fun ε hε=>by
 obtain⟨B,hB,ha,hb⟩:=kB s0 t0
 obtain⟨Q,hQ,hl⟩:=lip w B hB
 have e1:ε/Q*Q=ε:=Rat.div_mul_cancel (Rat.ne_of_gt hQ)
 have e2:0<ε/Q:=(Rat.lt_div_iff hQ).2 (by grind)
 obtain⟨s,t,g1,g2,g3,g4,g5,g6⟩:=MS (U:=U) e2 (H.lt h1 h2) h1 h2
 refine⟨s,t,g5,g6,fun x hx hy=>?_⟩
 have h3:=S.small g2 (ht s t g1 g3 g5 g6) hQ (fun a b q1 q2 q3=>hl a b (cH ha hb (by grind) (by grind)) (cH ha hb (by grind) (by grind)) q2) hx hy
 refine h3.mono ?_
 have h4:=Rat.mul_le_mul_of_nonneg_right g4 (Rat.le_of_lt hQ)
 grind
theorem Up.min{U:Rat→Prop}{s t:Rat}(hs:Up U s)(ht:Up U t):∃x,Up U x∧x≤s∧x≤t:=by
 by_cases h:s≤t
 ·exact⟨s,hs,Rat.le_refl,h⟩
 ·exact⟨t,ht,by grind,Rat.le_refl⟩
end Go.Proofs.YtiobceocpabjdaaGreat
namespace Go.Proofs.YtiobceocpabjdaaGreat
open Go Pm
open ZX hiding N W
theorem am9{a b:ZX}(na:Nf a)(nb:Nf b)(hd:dv b a){h n l:Nat}(hH:∀d∈a.l,d.natAbs≤2^h)(hN:ZX.N a≤n)(hn:n≤2^l):∀c∈b.l,c.natAbs≤2^(h+n*(2*l+3)):=by
 obtain⟨w,_,e⟩:=na.quo nb hd
 exact afp na.ne e hH hN hn
theorem MW{z n:Nat}{f:ZX}(nf:Nf f)(bz:BZ z n f):Ab (iS f.l) (2^(z+1)):=by
 have f0:=wD nf.ne
 have h1:=MD f.c f0
 have hl:=dH f.c (List.length_pos_iff.2 f0)
 have hL:(1:Rat)≤(((lead f.l).natAbs:Int):Rat):=eV (by omega)
 have h2:=Rat.div_mul_cancel (a:=((qK f.l (f.l.length-1):Int):Rat)) (b:=(((lead f.l).natAbs:Int):Rat)) (by grind)
 have h3:(1:Rat)≤iS f.l:=(nR f.c f0 (t:=iS f.l) (.inr Rat.le_refl)).2
 have h4:((qK f.l (f.l.length-1):Int):Rat)≤2^z:=by
  have h5:=jH (b:=2) (by decide) (qK f.l (f.l.length-1))
  have h6:=Nat.pow_le_pow_right (show 0<2 by decide) (FL bz (f.l.length-1))
  exact(JD (s:=z) (by omega)).2
 have h7:=rH z
 rw [Rat.pow_succ]
 generalize (2:Rat)^z=T at *
 generalize ((qK f.l (f.l.length-1):Int):Rat)=m at *
 have hw:m/(((lead f.l).natAbs:Int):Rat)≤T:=by
  refine Rat.not_lt.1 fun h=>?_
  have h8:=Rat.mul_le_mul_of_nonneg_left hL (show 0≤m/(((lead f.l).natAbs:Int):Rat)by grind)
  grind
 exact⟨by grind,by grind⟩
section
variable {f:ZX} {v:Rat→Nat} {lo hi:Rat} (nf:Nf f) (A:rT f v lo hi)
include nf A
theorem MX{t:Rat}:(jN v lo hi t → -iS f.l<t)∧(¬jN v lo hi t→t<iS f.l):=by
 have f0:=wD nf.ne
 have ana:∀ {a b:Rat},a<b→b ≤ -iS f.l→v a=v b:=fun fQ hb=>A.S.bg ⟨1,by decide,fun x _ h2=>(nR f.c f0 (.inl (by grind))).1⟩ fQ
 have anb:∀ {a b:Rat},a<b→iS f.l≤a→v a=v b:=fun fQ hb=>A.S.bg ⟨1,by decide,fun x h1 _=>(nR f.c f0 (.inr (by grind))).1⟩ fQ
 have pt:e lo f=0→¬kX (iS f.l) lo:=fun h0 hb=>by
  have h1:=(nR f.c f0 hb).1
  rw [show qv lo f.l=e lo f from rfl,h0]at h1
  rcases h1 with h1 | h1<;>exact absurd h1 (by decide)
 constructor
 ·refine fun h=>Rat.not_le.1 fun ht=>?_
  rcases A.k with ⟨h1,h2⟩ | ⟨h1,h2⟩
  ·refine pt h2 (.inl ?_)
   rcases h with h | ⟨h,h3⟩
   ·grind
   ·grind
  ·rcases h with h | ⟨h,h3⟩
   ·have:=ana h1 (by grind);omega
   ·have:=ana h ht;omega
 ·refine fun h=>Rat.not_le.1 fun ht=>?_
  have h0:t<hi:=Rat.not_le.1 fun h1=>h (.inl h1)
  rcases A.k with ⟨h1,h2⟩ | ⟨h1,h2⟩
  ·exact pt h2 (.inr (by grind))
  ·by_cases h3:t≤lo
   ·have:=anb h1 (by grind);omega
   ·have h4:v lo≤v t:=Nat.not_lt.1 fun h4=>h (.inr ⟨by grind,h4⟩)
    have:=anb h0 ht
    omega
theorem agx:2≤ZX.N f:=Nat.not_lt.1 fun h=>by
 have:=ZX.aF.1 nf.ne
 obtain⟨c,hc,rfl⟩:=ZX.lL (x:=f) (by omega)
 have hcq:(c:Rat)≠0:=fun h0=>hc (Rat.intCast_eq_zero_iff.1 h0)
 rcases A.k with ⟨_,h2⟩ | ⟨h1,h2⟩
 ·rw [yY]at h2;exact hcq h2
 ·have:=A.S.const h1 (σ:=cD (c:Rat)) (.inr (by rw [yY])) (fun x _ _=>by rw [yY])
  omega
end
theorem cY{f:ZX}{v:Rat→Nat}{lo hi:Rat}(A:rT f v lo hi):Num (jN v lo hi):=⟨fun _ _ h h'=>A.up h h',⟨lo-1,A.nC (.inl (by grind))⟩,⟨hi,jE⟩⟩
def se(s r n m β:Nat):Nat:=6*(n+m)+(s+n*9)*m+r*n+(n+m)*(β+2)+2
theorem WI{f h g w:ZX}(S:oJ f h g w)(nf:Nf f)(nh:Nf h)(ch:uX h (bX h)){s r n m β:Nat}(hA:∀c∈f.l,c.natAbs≤2^s)(hB:∀c∈h.l,c.natAbs≤2^r)(hn:ZX.N f≤n)(hm:ZX.N h≤m)(n8:n≤8)(m8:m≤8)
  {a b:Rat} (ha:Ab a (2^β)) (hb:Ab b (2^β)) (fQ:a<b) (hd:(b-a)*2^se s r n m β≤1):vt (bA w) a=vt (bA w) b∨vt (bA h) a=vt (bA h) b:=by
 have n1:=S.N
 have Sw:=CR S.nw.ne S.sw (by omega)
 have Sh:=CR nh.ne ch (by omega)
 refine ZQ Sw Sh S.wh (s:=s+n*9) (r:=r) (l:=4) (β:=β) (am9 nf S.nw (by rw [S.eq];exact(dv.refl w).mul_right _) hA hn (show n≤2^3 by omega)) hB (by omega) ha hb fQ (FM hd ?_)
 unfold se sx
 have h1:(s+n*9)*ZX.N h≤(s+n*9)*m:=Nat.mul_le_mul_left _ hm
 have h2:r*ZX.N w≤r*n:=Nat.mul_le_mul_left _ (by omega)
 have h3:(ZX.N w+ZX.N h)*(β+2)≤(n+m)*(β+2):=Nat.mul_le_mul_right _ (by omega)
 omega
theorem akq{f h:ZX}{p q:Rat × Rat}(nf:Nf f)(nh:Nf h)(cf:uX f (bX f))(ch:uX h (bX h))(A:rT f (vt (bA f)) p.1 p.2)(B:rT h (vt (bA h)) q.1 q.2){s r n m β K:Nat}(hA:∀c∈f.l,c.natAbs≤2^s)(hB:∀c∈h.l,c.natAbs≤2^r)(hn:ZX.N f≤n)(hm:ZX.N h≤m)(n8:n≤8)(m8:m≤8)
  (k1:se s r n m β≤K) (k2:se r s m n β≤K) (k3:lk s n 3 β≤K∨lk r m 3 β≤K) {S E:Rat} (hS:Ab S (2^β)) (hE:Ab E (2^β)) (a1:¬cO f p S) (a2:cO f p E) (b1:¬cO h q S) (b2:cO h q E) (hd:(E-S)*2^K≤1):∀x,cO f p x↔cO h q x:=by
 have hSE:=(cY A).lt a1 a2
 obtain⟨w1,S1⟩:=rI (h:=h) nf cf
 obtain⟨w2,S2⟩:=rI (h:=f) nh ch
 rw [←LR]at S2
 have n1:=S1.N
 have n2:=S2.N
 have hg:=CR S1.ng.ne S1.sg (by omega)
 have hw1:=CR S1.nw.ne S1.sw (by omega)
 have hw2:=CR S2.nw.ne S2.sw (by omega)
 have o1:=oK A a1 a2 hSE
 have o2:=oK B b1 b2 hSE
 have c1:=S1.RX A.S hg hw1 (Rat.le_of_lt hSE)
 have c2:=S2.RX B.S hg hw2 (Rat.le_of_lt hSE)
 have e1:=(WI S1 nf nh ch hA hB hn hm n8 m8 hS hE hSE (FM hd k1)).resolve_right (by omega)
 have e2:=(WI S2 nh nf cf hB hA hm hn m8 n8 hS hE hSE (FM hd k2)).resolve_right (by omega)
 have uV:∀ {x:ZX} {s n:Nat},r7 x (vt (bA x))→(∀c∈x.l,c.natAbs≤2^s)→ZX.N x≤n→n≤8→lk s n 3 β≤K→vt (bA x) S≤vt (bA x) E+1:=fun {x s n} hx hA hN h8 hk=>by
  obtain⟨L,G,e⟩:=hx.g
  obtain⟨g1,_⟩:=zY G (s:=s) (n:=n) (l:=3) (β:=β) hx.ne hA hN (by omega) hx.RO (δ:=E-S) (FM hd hk)
  have:=g1.turns S E hS hE hSE Rat.le_refl
  rw [e]
  rcases V4 x S E with h5 | h5<;>omega
 have m0:=hg.b6 (Rat.le_of_lt hSE)
 have hv:vt (bA f) S≤vt (bA f) E+1∧vt (bA h) S≤vt (bA h) E+1:=by
  rcases k3 with k3 | k3
  ·have:=uV A.S hA hn n8 k3;omega
  ·have:=uV B.S hB hm m8 k3;omega
 exact RY A B S1 S2 hg hw1 hw2 hSE a1 a2 b1 b2 hv.1 hv.2 (by omega)
theorem JH{s r n m z:Nat}(n2:2≤n)(m2:2≤m)(n8:n≤8)(m8:m≤8)(hs:z≤s)(hr:z≤r):2*se s r n m (z+2)+2*(s+r)+9≤64+4*(n+m)*(s+r+(n+m)+8):=by
 have e1:4*(n+m)*(s+r+(n+m)+8)=4*(n*s)+4*(n*r)+4*(m*s)+4*(m*r)+4*(n*n)+8*(n*m)+4*(m*m)+32*n+32*m:=by grind
 have e2:se s r n m (z+2)=6*(n+m)+m*s+9*(n*m)+n*r+n*z+m*z+4*n+4*m+2:=by unfold se;grind
 have h1:n*z≤n*s:=Nat.mul_le_mul_left _ hs
 have h2:m*z≤m*r:=Nat.mul_le_mul_left _ hr
 have h3:n*m≤8*m:=Nat.mul_le_mul_right _ n8
 have h4:2*(n*m)≤n*n+m*m:=by
  rcases Nat.le_total n m with h | h
  ·obtain⟨d,rfl⟩:=Nat.exists_eq_add_of_le h;grind
  ·obtain⟨d,rfl⟩:=Nat.exists_eq_add_of_le h;grind
 have h5:2*s≤n*s:=Nat.mul_le_mul_right _ n2
 have h6:2*r≤m*r:=Nat.mul_le_mul_right _ m2
 omega
theorem lk3(s n:Nat):lk s n 3 (s+2)=5*(n*s)+30*n+s+6:=by unfold lk sk;grind
theorem JI{s r n m:Nat}(n2:2≤n)(m2:2≤m)(n8:n≤8)(hsr:s≤r)(hm:3≤m∨n≤2):2*lk s n 3 (s+2)+2*(s+r)+9≤64+4*(n+m)*(s+r+(n+m)+8):=by
 have e1:4*(n+m)*(s+r+(n+m)+8)=4*(n*s)+4*(n*r)+4*(m*s)+4*(m*r)+4*(n*n)+8*(n*m)+4*(m*m)+32*n+32*m:=by grind
 obtain⟨d,rfl⟩:=Nat.exists_eq_add_of_le hsr
 rw [e1,lk3,Nat.mul_add n,Nat.mul_add m]
 have h1:n*s≤8*s:=Nat.mul_le_mul_right _ n8
 have h5:2*s≤m*s:=Nat.mul_le_mul_right _ m2
 have h6:2*d≤m*d:=Nat.mul_le_mul_right _ m2
 have h7:2*n≤n*n:=Nat.mul_le_mul_right _ n2
 have h8:2*n≤n*m:=by rw [Nat.mul_comm n];exact Nat.mul_le_mul_right _ m2
 rcases hm with hm | hm
 ·have h9:3*s≤m*s:=Nat.mul_le_mul_right _ hm
  have h10:3*n≤n*m:=by rw [Nat.mul_comm n];exact Nat.mul_le_mul_right _ hm
  omega
 ·have h9:n*s≤2*s:=Nat.mul_le_mul_right _ hm
  omega
theorem JJ{s r n m:Nat}(n2:2≤n)(n8:n≤8)(hsr:s≤r)(hm:m=2):2*lk r m 3 (s+2)+2*(s+r)+9≤64+4*(n+m)*(s+r+(n+m)+8):=by
 subst hm
 have e1:4*(n+2)*(s+r+(n+2)+8)=4*(n*s)+4*(n*r)+8*s+8*r+4*(n*n)+48*n+80:=by grind
 have e2:lk r 2 3 (s+2)=5*r+6*s+66:=by unfold lk sk;omega
 have h5:2*s≤n*s:=Nat.mul_le_mul_right _ n2
 have h6:2*r≤n*r:=Nat.mul_le_mul_right _ n2
 have h7:2*n≤n*n:=Nat.mul_le_mul_right _ n2
 omega
theorem agy{s r n m:Nat}(n2:2≤n)(m1:1≤m)(n8:n≤8)(m8:m≤8):se s (r+m*9) n m (s+1)+s+2≤64+4*(n+m)*(s+r+(n+m)+8):=by
 have e1:4*(n+m)*(s+r+(n+m)+8)=4*(n*s)+4*(n*r)+4*(m*s)+4*(m*r)+4*(n*n)+8*(n*m)+4*(m*m)+32*n+32*m:=by grind
 have e2:se s (r+m*9) n m (s+1)=6*(n+m)+m*s+18*(n*m)+n*r+n*s+m*s+3*n+3*m+2:=by unfold se;grind
 have h3:n*m≤8*m:=Nat.mul_le_mul_right _ n8
 have h4:2*(n*m)≤n*n+m*m:=by
  rcases Nat.le_total n m with h | h
  ·obtain⟨d,rfl⟩:=Nat.exists_eq_add_of_le h;grind
  ·obtain⟨d,rfl⟩:=Nat.exists_eq_add_of_le h;grind
 have h5:2*s≤n*s:=Nat.mul_le_mul_right _ n2
 omega
theorem ZY(q:ZX)(x0:Rat){ε:Rat}(hε:0<ε):∃r:Rat,0<r ∧ ∀x,x0-r≤x→x≤x0+r→Ab (e x q-e x0 q) ε:=by
 obtain⟨B,hB,ha,hb⟩:=kB (x0-1) (x0+1)
 obtain⟨Q,hQ,hl⟩:=lip q B hB
 have e1:ε/Q*Q=ε:=Rat.div_mul_cancel (Rat.ne_of_gt hQ)
 obtain⟨r,hr,h1,h2⟩:=min2 (show (0:Rat)<1 by decide) ((Rat.lt_div_iff hQ).2 (show 0*Q<ε by grind))
 have hrQ:r*Q≤ε:=by have:=Rat.mul_le_mul_of_nonneg_right h2 (Rat.le_of_lt hQ);grind
 have qB:Ab x0 B:=cH ha hb (by grind) (by grind)
 refine⟨r,hr,fun x h3 h4=>?_⟩
 have hx:Ab x B:=cH ha hb (by grind) (by grind)
 by_cases h:x0≤x
 ·have h5:=hl x0 x qB hx h
  refine h5.mono ?_
  have:=Rat.mul_le_mul_of_nonneg_right (show x-x0≤r by grind) (Rat.le_of_lt hQ)
  grind
 ·have h5:=(hl x x0 hx qB (by grind)).mono (show (x0-x)*Q≤ε by
   have:=Rat.mul_le_mul_of_nonneg_right (show x0-x≤r by grind) (Rat.le_of_lt hQ)
   grind)
  obtain⟨p1,p2⟩:=h5
  exact⟨by grind,by grind⟩
theorem aq7{x y ε:Rat}(hε:0<ε)(h:kX (ε+ε) x)(rL:Ab (y-x) ε):cD y=cD x∧kX ε y:=by
 obtain⟨p1,p2⟩:=rL
 rcases h with h | h
 ·exact⟨by rw [gS (show x<0 by grind),gS (by grind)], .inl (by grind)⟩
 ·exact⟨by rw [eY (show 0<x by grind),eY (by grind)], .inr (by grind)⟩
theorem FZ{U:Rat→Prop}{x0:Rat}(hU:∀t,U t↔x0≤t)(q:ZX):SR U q (cD (e x0 q)):=by
 have lo:∀ {r:Rat},0<r→¬U (x0-r):=fun hr h=>by have:=(hU _).1 h;grind
 have hi:∀ {r:Rat},0<r→U (x0+r):=fun hr=>(hU _).2 (by grind)
 by_cases h0:e x0 q=0
 ·refine .inl ⟨by rw [h0,jX],fun ε hε=>?_⟩
  obtain⟨r,hr,h⟩:=ZY q x0 hε
  refine⟨x0-r,x0+r,lo hr,hi hr,fun x h1 h2=>?_⟩
  have:=h x h1 h2
  rwa [h0,show e x q-0=e x q by grind]at this
 ·have hs:cD (e x0 q)=1∨cD (e x0 q) = -1:=by
   rcases cW (e x0 q)with ⟨_,h⟩ | ⟨h,_⟩ | ⟨_,h⟩
   ·exact .inr h
   ·exact absurd h h0
   ·exact .inl h
  obtain⟨ε,hε,hb⟩:∃ε:Rat,0<ε∧kX (ε+ε) (e x0 q):=by
   by_cases h:0≤e x0 q
   ·exact⟨e x0 q/2,by grind, .inr (by grind)⟩
   ·exact⟨-(e x0 q)/2,by grind, .inl (by grind)⟩
  obtain⟨r,hr,h⟩:=ZY q x0 hε
  exact .inr ⟨hs,ε,x0-r,x0+r,hε,lo hr,hi hr,fun x h1 h2=>aq7 hε hb (h x (Rat.le_of_lt h1) h2)⟩
theorem axL{r q:ZX}(hr:pN r)(q0:q≠0)(h:dv r q):dv r (sq q):=by
 obtain⟨nf,hf⟩:=lP q0
 have p1:r^1=r:=by rw [pow_succ',eQ];grind
 have h1:=(jU hr q0 (k:=1)).2 (by rw [p1];exact h)
 have h2:=(jU hr nf.ne (k:=1)).1 (by rw [hf r hr];omega)
 rwa [p1]at h2
theorem uX.axM{w q:ZX}(q0:q≠0)(h:uX w (sq q)):uX w q:=fun d h1 h2=>Nat.not_lt.1 fun hd=>by
 obtain⟨r,hr,hrd⟩:=oD _ d (Nat.le_refl _) (by omega)
 have:=h r (hrd.trans h1) (axL hr q0 (hrd.trans h2))
 have:=hr.deg
 omega
theorem agz{f q:ZX}(nf:Nf f)(hf:sq f=f)(q0:q≠0):gz f (sq q)=gz q f:=by
 obtain⟨nq,hq⟩:=lP q0
 refine Nf.tE (FA (.inl nf.ne)) (FA (.inl q0)) fun p hp=>?_
 rw [(fA f (sq q)).mu nf.ne nq.ne hp,(fA q f).mu q0 nf.ne hp,hq p hp]
 have:=(lP nf.ne).2 p hp
 rw [hf]at this
 omega
section
variable {f h g w:ZX} {v γ φ:Rat→Nat} {lo hi:Rat} (A:rT f v lo hi) (S:oJ f h g w) (Sg:r7 g γ) (Sw:r7 w φ)
include A S Sg Sw
theorem axN(dC:lo<hi)(hγ:γ hi<γ lo):WH (jN v lo hi) g:=by
 have hv:v lo=v hi+1:=by
  rcases A.k with ⟨h,_⟩ | ⟨_,h⟩
  ·rw [h]at dC;exact absurd dC Rat.lt_irrefl
  ·exact h
 refine R4 (cY A) Sg (A.nC (.inr ⟨rfl,dC⟩)) jE fun s t h1 h2 h3 h4=>?_
 have iR:=(cY A).lt h3 h4
 have c0:=S.RX A.S Sg Sw (Rat.le_of_lt dC)
 have c1:=S.RX A.S Sg Sw (Rat.le_of_lt iR)
 have o:=oK A h3 h4 iR
 have m1:=Sw.b6 h1
 have m2:=Sw.b6 (Rat.le_of_lt iR)
 have m3:=Sw.b6 h2
 have m4:=Sg.b6 h1
 have m5:=Sg.b6 (Rat.le_of_lt iR)
 have m6:=Sg.b6 h2
 omega
theorem aC3(dC:lo<hi)(hγ:γ lo=γ hi):WH (jN v lo hi) w:=by
 refine R4 (cY A) Sw (A.nC (.inr ⟨rfl,dC⟩)) jE fun s t h1 h2 h3 h4=>?_
 have iR:=(cY A).lt h3 h4
 have c1:=S.RX A.S Sg Sw (Rat.le_of_lt iR)
 have o:=oK A h3 h4 iR
 have m4:=Sg.b6 h1
 have m5:=Sg.b6 (Rat.le_of_lt iR)
 have m6:=Sg.b6 h2
 omega
theorem WJ{q:ZX}(dC:lo<hi)(hγ:γ lo=γ hi)(q0:q≠0)(hh:h=sq q)(hN:ZX.N (sq q)≤20)(Sq:r7 (sq q) (vt (bA (sq q))))(hη:vt (bA (sq q)) lo=vt (bA (sq q)) hi):SR (jN v lo hi) q (cD (e hi q)):=by
 obtain⟨nf,hf⟩:=lP q0
 have hw:uX w q:=uX.axM q0 (hh▸S.wh)
 have k:=MU nf Sq.RO Sq hN dC hη _ q (Nat.le_refl _) q0 (fun r hr=>by rw [hf r hr];exact Nat.le_refl _)
 obtain⟨B,hB,ha,hb⟩:=kB lo hi
 obtain⟨ε,hε,hs⟩:=axz S.nw.ne q0 hw B
 obtain⟨s,t,h1,h2,h3⟩:=aC3 A S Sg Sw dC hγ (ε/2) (by grind)
 obtain⟨a,b,k1,k2,k3,k4,k5,k6,k7⟩:=(cY A).inter h1 h2 (A.nC (.inr ⟨rfl,dC⟩)) (jE (v:=v) (lo:=lo) (hi:=hi))
 have hs3:cD (e hi q)=1∨cD (e hi q) = -1:=by
  have h4:=(k hi dC Rat.le_refl).1
  rcases cW (e hi q)with ⟨_,h⟩ | ⟨h,_⟩ | ⟨_,h⟩
  ·exact .inr h
  ·exact absurd h h4
  ·exact .inl h
 refine .inr ⟨hs3,ε,a,b,hε,k1,k2,fun x hx hy=>⟨(k x (by grind) (by grind)).2,?_⟩⟩
 refine(hs x (cH ha hb (by grind) (by grind))).resolve_left fun h4=>?_
 obtain⟨p1,p2⟩:=h3 x (by grind) (by grind)
 rcases h4 with h4 | h4<;>grind
end
theorem akr{f g w q:ZX}{γ φ:Rat→Nat}{p:Rat × Rat}(A:rT f (vt (bA f)) p.1 p.2)(S:oJ f (sq q) g w)(Sg:r7 g γ)(Sw:r7 w φ)(Sq:r7 (sq q) (vt (bA (sq q))))(dC:p.1<p.2)(hγ:γ p.1=γ p.2):∃a b,p.1≤a∧a<b∧b≤p.2∧rT f (vt (bA f)) a b∧jN (vt (bA f)) a b=cO f p∧vt (bA (sq q)) a=vt (bA (sq q)) b:=by
 obtain⟨B,hB,ha,hb⟩:=kB p.1 p.2
 obtain⟨δ,hδ,XG⟩:=ZS Sw Sq S.wh B
 obtain⟨a,b,g1,g2,g3,g4,g5,g6⟩:=MS (U:=cO f p) hδ dC (A.nC (.inr ⟨rfl,dC⟩)) jE
 have o:=oK A g5 g6 g2
 have c1:=S.RX A.S Sg Sw (Rat.le_of_lt g2)
 have m1:=Sg.b6 g1
 have m2:=Sg.b6 g3
 have m3:=Sg.b6 (Rat.le_of_lt g2)
 have hη:=(XG a b (cH ha hb g1 (by grind)) (cH ha hb (by grind) g3) g2 g4).resolve_left (by omega)
 have v1:=A.S.b6 g1
 have v2:=A.S.b6 g3
 have hv:vt (bA f) p.1=vt (bA f) p.2+1:=by
  rcases A.k with ⟨h,_⟩ | ⟨_,h⟩
  ·grind
  ·exact h
 refine⟨a,b,g1,g2,g3,⟨A.S, .inr ⟨g2,by omega⟩⟩,funext fun t=>propext ⟨fun h=>?_,fun h=>?_⟩,hη⟩
 ·rcases h with h | ⟨h,h3⟩
  ·exact A.up g6 h
  ·by_cases h4:p.1<t
   ·exact .inr ⟨h4,by omega⟩
   ·exact absurd (A.S.b6 (show t≤p.1 by grind)) (by omega)
 ·by_cases h4:b≤t
  ·exact .inl h4
  ·refine .inr ⟨(cY A).lt g5 h,?_⟩
   rcases h with h | ⟨h,h3⟩
   ·have:=A.S.b6 h;omega
   ·omega
theorem ZZ{q:ZX}(q0:q≠0):uX (sq q) (bX (sq q)):=fun d h1 h2=>by
 have h3:=(fA (sq q) (bX (sq q))).least h1 h2
 rw [ZJ q0]at h3
 have:=h3.mF ZX.q9
 rwa [ZX.BB]at this
theorem Z0{f:ZX}{p:Rat × Rat}(nf:Nf f)(hf:sq f=f)(cf:uX f (bX f))(hN:ZX.N f≤20)(A:rT f (vt (bA f)) p.1 p.2){q:ZX}(hq:ZX.N q≤20)(q0:q≠0)(dC:p.1<p.2):∃σ,SR (cO f p) q σ∧(σ=0↔vt (bA (gz q f)) p.2<vt (bA (gz q f)) p.1):=by
 obtain⟨nq,hmu⟩:=lP q0
 have hNq:ZX.N (sq q)≤20:=Nat.le_trans ((rF q0).mF q0) hq
 have Sq:=CR nq.ne (ZZ q0) hNq
 obtain⟨w,S⟩:=rI (h:=sq q) nf cf
 rw [agz nf hf q0]at S
 have n1:=S.N
 have Sg:=CR S.ng.ne S.sg (by omega)
 have Sw:=CR S.nw.ne S.sw (by omega)
 have m:=Sg.b6 (Rat.le_of_lt dC)
 by_cases hγ:vt (bA (gz q f)) p.2<vt (bA (gz q f)) p.1
 ·exact⟨0, .inl ⟨rfl,(axN A S Sg Sw dC hγ).dv (cY A) (fA q f).l⟩,⟨fun _=>hγ,fun _=>rfl⟩⟩
 ·obtain⟨a,b,g1,g2,g3,A2,e1,hη⟩:=akr A S Sg Sw Sq dC (by omega)
  have m1:=Sg.b6 g1
  have m2:=Sg.b6 g3
  have m3:=Sg.b6 (Rat.le_of_lt g2)
  have k:=WJ A2 S Sg Sw g2 (by omega) q0 rfl hNq Sq hη
  rw [e1]at k
  refine⟨_,k,⟨fun h=>?_,fun h=>absurd h hγ⟩⟩
  exact absurd (eU.1 h) (MU nq Sq.RO Sq hNq g2 hη _ q (Nat.le_refl _) q0 (fun r hr=>by rw [hmu r hr];exact Nat.le_refl _) b g2 Rat.le_refl).1
end Go.Proofs.YtiobceocpabjdaaGreat
