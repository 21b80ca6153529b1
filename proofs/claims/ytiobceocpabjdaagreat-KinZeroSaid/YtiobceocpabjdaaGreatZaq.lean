import Derived.Test.YtiobceocpabjdaaGreatZao
import Derived.Test.YtiobceocpabjdaaGreatZap
set_option linter.unusedSimpArgs false
set_option linter.unusedVariables false
namespace Go.Proofs.YtiobceocpabjdaaGreat
open Go Pm
open ZX hiding N W
theorem SQ.tor{u:Nat}{p:Rat}(hp:SQ u p)(hu:u≤YY):aF env.P 23 [RR p] (RT p):=by
 rw [gR]
 have h1:=hp.n2;have h2:=hp.d2
 exact ahI (by simp only [Z,YY]at *;omega) (by simp only [Z,YY]at *;omega)
def l1(x:List Int):Nat:=(x.map Int.natAbs).sum
theorem lT(a:Int)(x:List Int):l1 (a::x)=a.natAbs+l1 x:=by simp [l1]
theorem ad8:l1 []=0:=rfl
theorem S3:∀x:List Int,l1 (aQ x)≤l1 x
 | []=>Nat.le_refl _
 | a::x=>by
  have:=S3 x
  rw [aQ]
  split
  ·rw [ad8];omega
  ·rw [lT,lT];omega
theorem DU{α:Type}(f g:α→Int):∀l:List α,l1 (l.map fun k=>f k+g k)≤l1 (l.map f)+l1 (l.map g)
 | []=>Nat.le_refl _
 | x::l=>by
  have:=DU f g l
  simp only [List.map_cons,lT]
  omega
theorem uQ:∀(x:List Int) (n:Nat),l1 (x++List.replicate n 0)=l1 x
 | [],n=>by simp [l1]
 | a::x,n=>by rw [List.cons_append,lT,lT,uQ x n]
theorem ahT(x y:List Int):l1 (iG x y)≤l1 x+l1 y:=by
 have h1:=DU (nth x) (nth y) (List.range (max x.length y.length))
 rw [oZ (by omega),oZ (by omega),uQ,uQ]at h1
 exact Nat.le_trans (S3 _) h1
theorem ad9(a:Int):∀y:List Int,l1 (y.map fun c=>c*a)=a.natAbs*l1 y
 | []=>by simp [l1]
 | c::y=>by rw [List.map_cons,lT,lT,ad9 a y,Int.natAbs_mul,Nat.mul_add,Nat.mul_comm]
theorem OL:∀x y:List Int,l1 (gQ x y)≤l1 x*l1 y
 | [],y=>by rw [gQ,ad8];omega
 | a::x,y=>by
  have h1:=OL x y
  have h2:=ahT (y.map fun c=>c*a) (0::gQ x y)
  rw [ad9,lT]at h2
  rw [gQ,lT,Nat.add_mul]
  simp only [Int.natAbs_zero]at h2
  omega
def n1(a:ZX):Nat:=l1 a.l
theorem aoa(a b:ZX):n1 (a*b)≤n1 a*n1 b:=Nat.le_trans (S3 _) (OL _ _)
theorem aea:∀ {x:List Int} {c:Int},c∈x→c.natAbs≤l1 x
 | a::x,c,h=>by
  rw [lT]
  rcases List.mem_cons.1 h with rfl | h
  ·omega
  ·have:=aea h;omega
theorem BZ.auG{s n:Nat}{a:ZX}(h:n1 a<2^s)(hn:ZX.N a≤n):BZ s n a:=⟨hn,fun c hc=>dW (by decide) (Nat.lt_of_le_of_lt (aea hc) h)⟩
theorem DV{S τ t:Rat}(hS:0≤S)(hτ:0<τ)(ht:j7 τ t):∀ {x:List Int},Cn x→0<x.length→(∀c∈x.dropLast,Ab (c:Rat) S)→S+(((lead x).natAbs:Int):Rat)≤(((lead x).natAbs:Int):Rat)*τ→j7 (((lead x).natAbs:Int):Rat) (qv t x)
 | [a],hc,_,_,_=>by
  have e1:qv t [a]=(a:Rat):=by simp only [qv];grind
  have e2:lead [a]=a:=rfl
  rw [e1,e2]
  by_cases h:0≤a
  ·right
   exact Rat.intCast_le_intCast.2 (by omega)
  ·left
   rw [←Rat.intCast_neg]
   exact Rat.intCast_le_intCast.2 (by omega)
 | a::b::l,hc,_,hb,hL=>by
  have hl:=dA (AK hc) (by simp)
  rw [xW]at hL ⊢
  have ih:=DV hS hτ ht (AK hc) (by simp) (fun c hc=>hb c (by
   rw [List.dropLast_cons_of_ne_nil (by simp)];exact List.mem_cons_of_mem _ hc)) hL
  obtain⟨h4,h5⟩:=hb a (by rw [List.dropLast_cons_of_ne_nil (by simp)];simp)
  have e1:qv t (a::b::l)=a+t*qv t (b::l):=rfl
  have hp:(0:Rat)<(((lead (b::l)).natAbs:Int):Rat):=Rat.intCast_pos.2 (by omega)
  have hm:=j7.mul hτ hp ht ih
  rw [e1]
  generalize (((lead (b::l)).natAbs:Int):Rat)=L at *
  rcases hm with h | h
  ·left;grind
  ·right;grind
theorem mQ{x:List Int}(cx:Cn x)(hx:x ≠ []){t:Rat}(ht:j7 (g9 x) t):j7 1 (qv t x)∧1≤g9 x:=by
 have o7:=List.length_pos_iff.2 hx
 have hl:=dA cx o7
 have hL:(1:Rat)≤(((lead x).natAbs:Int):Rat):=eH (by omega)
 have hm:(0:Rat)≤((pI x (x.length-1):Int):Rat):=Rat.intCast_nonneg.2 (adW _ _)
 have e:=JQ cx hx
 have h2:=Rat.div_mul_cancel (a:=((pI x (x.length-1):Int):Rat)) (b:=(((lead x).natAbs:Int):Rat)) (by grind)
 have hw:(0:Rat)≤((pI x (x.length-1):Int):Rat)/(((lead x).natAbs:Int):Rat):=by
  refine Rat.not_lt.1 fun h=>?_
  have:=Rat.mul_le_mul_of_nonneg_left hL (show 0 ≤ -(((pI x (x.length-1):Int):Rat)/(((lead x).natAbs:Int):Rat))by grind)
  grind
 have h1:1≤g9 x:=by rw [e];grind
 refine⟨(DV hm (show 0<g9 x by grind) ht cx o7 (fun c hc=>?_) ?_).mono hL,h1⟩
 ·obtain⟨k,hk,rfl⟩:=List.mem_iff_getElem.1 hc
  rw [List.length_dropLast]at hk
  have h3:=adX x (x.length-1) k hk
  rw [cB (by omega)]at h3
  rw [List.getElem_dropLast]
  constructor
  ·rw [←Rat.intCast_neg]
   exact Rat.intCast_le_intCast.2 (by omega)
  ·exact Rat.intCast_le_intCast.2 (by omega)
 ·rw [e]
  generalize ((pI x (x.length-1):Int):Rat)/(((lead x).natAbs:Int):Rat)=w at *
  grind
abbrev rc(q:Rat):List PV:=[aN aI (aU DD q.num.natAbs), .bool (decide (q.num<0)),aN aI (aU DD (q.den:Int).natAbs), .bool (decide ((q.den:Int)<0))]
def qa(f:ZX)(c:List ZX)(p:Rat × Rat):List PV:=PI f.l::aN zq c::(rc p.1++rc p.2)
@[simp] theorem azA{f:ZX}{c:List ZX}{p:Rat × Rat}:qa f c p=PI f.l::aN zq c::(rc p.1++rc p.2):=rfl
@[simp] theorem aqn{f:ZX}{c:List ZX}{l:List (Rat × Rat)}:bH 10 (emap (qa f c) l)=True:=cH fun _=>rfl
@[simp] theorem aob{v e n:Nat}{f:ZX}{c:List ZX}{l:List (Rat × Rat)}:cW (some ⟨v,e,n,emap (qa f c) l⟩)=True:=bU fun _=>rfl
abbrev QA(f:ZX)(c:List ZX)(p:Rat × Rat):PV:=.ag (qa f c p)
def ex(f:ZX)(p:Rat × Rat):Rat × Rat:=if e p.2 f=0 then(p.2,p.2)else p
theorem SQ.yy{u:Nat}{q:Rat}(h:SQ u q)(hu:u≤1000000000):ZR YY q:=⟨by have:=h.n2;simp only [YY];omega,by have:=h.d2;simp only [YY];omega⟩
theorem l8{p q:Rat}:dH (p.num*q.den) (q.num*p.den)=0↔p=q:=by
 have h1:=j3 p q
 have h2:=j3 q p
 rw [mZ]at h1 h2
 refine⟨fun h=>?_,fun h=>?_⟩
 ·have h:=Pm.xF.1 h
  by_cases h3:p<q
  ·have:=h1.2 h3;omega
  ·rcases Rat.le_iff_lt_or_eq.1 (Rat.not_lt.1 h3)with h4 | h4
   ·have:=h2.2 h4;omega
   ·exact h4.symm
 ·rw [h];exact z6 _
abbrev c4(n d:Int):List PV:=[aN aI (aU DD n.natAbs), .bool (decide (n<0)),aN aI (aU DD d.natAbs), .bool (decide (d<0))]
theorem S4{x:List Int}{c:List ZX}{ln ld hn hd z σ:Int}(hz:(z != 0)=false)(c1:aF env.P 14 [R2 ln ld,R2 hn hd] (.int .i64 z))(s1:aF env.P 77 [PI x,R2 hn hd] (.int .i64 σ)) :
  aF env.P 80 [.ag (PI x::aN zq c::(c4 ln ld++c4 hn hd))] (.ag (PI x::aN zq c::(c4 ln ld++c4 hn hd))):=by
 simp only [c4]
 refine cD [(0, .ag (PI x::aN zq c :: [aN aI (aU DD ln.natAbs), .bool (decide (ln<0)),aN aI (aU DD ld.natAbs), .bool (decide (ld<0)),aN aI (aU DD hn.natAbs), .bool (decide (hn<0)),aN aI (aU DD hd.natAbs), .bool (decide (hd<0))]))] Tryz.func80 ?_
 refine aA [1,2] ?_
 refine W.seq ?_
 refine jG ?_
 refine aC c1 ?_
 simp (disch:=omega) [gw,hz]
 refine bG [1,2,16] ?_
 refine bJ ?_ ?_<;>intro h
 ·simp at h
 ·refine W.skip ?_
  refine aA [2] ?_
  exact cC
theorem aeb{x:List Int}{c:List ZX}{ln ld hn hd z σ:Int}(hz:(z != 0)=true)(hs:(σ==0)=false)(c1:aF env.P 14 [R2 ln ld,R2 hn hd] (.int .i64 z))(s1:aF env.P 77 [PI x,R2 hn hd] (.int .i64 σ)) :
  aF env.P 80 [.ag (PI x::aN zq c::(c4 ln ld++c4 hn hd))] (.ag (PI x::aN zq c::(c4 ln ld++c4 hn hd))):=by
 simp only [c4]
 refine cD [(0, .ag (PI x::aN zq c :: [aN aI (aU DD ln.natAbs), .bool (decide (ln<0)),aN aI (aU DD ld.natAbs), .bool (decide (ld<0)),aN aI (aU DD hn.natAbs), .bool (decide (hn<0)),aN aI (aU DD hd.natAbs), .bool (decide (hd<0))]))] Tryz.func80 ?_
 refine aA [1,2] ?_
 refine W.seq ?_
 refine jG ?_
 refine aC c1 ?_
 simp (disch:=omega) [gw,hz]
 refine aC s1 ?_
 simp (disch:=omega) [gw,hs]
 refine bG [1,2,16] ?_
 refine bJ ?_ ?_<;>intro h
 ·simp at h
 ·refine W.skip ?_
  refine aA [2] ?_
  exact cC
theorem Z5{x:List Int}{c:List ZX}{ln ld hn hd z σ:Int}(hz:(z != 0)=true)(hs:(σ==0)=true)(c1:aF env.P 14 [R2 ln ld,R2 hn hd] (.int .i64 z))(s1:aF env.P 77 [PI x,R2 hn hd] (.int .i64 σ)) :
  aF env.P 80 [.ag (PI x::aN zq c::(c4 ln ld++c4 hn hd))] (.ag (PI x::aN zq c::(c4 hn hd++c4 hn hd))):=by
 simp only [c4]
 refine cD [(0, .ag (PI x::aN zq c :: [aN aI (aU DD ln.natAbs), .bool (decide (ln<0)),aN aI (aU DD ld.natAbs), .bool (decide (ld<0)),aN aI (aU DD hn.natAbs), .bool (decide (hn<0)),aN aI (aU DD hd.natAbs), .bool (decide (hd<0))]))] Tryz.func80 ?_
 refine aA [1,2] ?_
 refine W.seq ?_
 refine jG ?_
 refine aC c1 ?_
 simp (disch:=omega) [gw,hz]
 refine aC s1 ?_
 simp (disch:=omega) [gw,hs]
 refine bG [1,2,16] ?_
 refine bJ ?_ ?_<;>intro h
 ·refine W.cA (fun K hK=>?_);simp (disch:=omega) [gw]
  refine W.lw [1,2] hK ?_;clear hK K;simp
  refine aA [2] ?_
  exact cC
 ·simp at h
theorem wQ{f:ZX}{c:List ZX}{p:Rat × Rat}:QA f c p = .ag (PI f.l::aN zq c::(c4 p.1.num p.1.den++c4 p.2.num p.2.den)):=rfl
theorem Z6{f:ZX}{c:List ZX}{p:Rat × Rat}{n u:Nat}(hb:BZ 4500000000 n f)(hn:n≤20)(q1:SQ u p.1)(q2:SQ u p.2)(hu:u≤1000000000):aF env.P 80 [QA f c p] (QA f c (ex f p)):=by
 have c1:=rX p.1 p.2 (q1.yy hu) (q2.yy hu)
 have hmul:n*(u+1)≤20*(u+1):=Nat.mul_le_mul_right _ hn
 have s1:=xV hb q2.n2 q2.d2 q2.hu (by omega) (by show _<137438953472;omega)
 rw [AQ]at s1
 rw [gR,gR]at c1
 by_cases h:p.1=p.2
 ·have he:ex f p=p:=by
   unfold ex;split
   ·exact Prod.ext h.symm rfl
   ·rfl
  rw [he,wQ]
  exact S4 (by rw [l8.2 h];rfl) c1 s1
 ·have hz:(dH (p.1.num*p.2.den) (p.2.num*p.1.den) != 0)=true:=bne_iff_ne.2 fun h0=>h (l8.1 h0)
  by_cases h2:e p.2 f=0
  ·rw [show ex f p=(p.2,p.2)from if_pos h2,wQ,wQ]
   exact Z5 hz (by rw [h2,jD];rfl) c1 s1
  ·rw [show ex f p=p from if_neg h2,wQ]
   exact aeb hz (by simp only [beq_eq_false_iff_ne];exact fun h0=>h2 (eX.1 h0)) c1 s1
def lvl(s n:Nat):Nat:=lk s n 5 (s+1)+s+2
theorem aec{s n:Nat}(hn:n≤20):lvl s n≤102*s+720:=by
 have h1:(n+n)*(s+5+2+(5+1))≤40*(s+13):=Nat.mul_le_mul (by omega) (by omega)
 have h2:(n+n)*(s+1+2)≤40*(s+3):=Nat.mul_le_mul (by omega) (by omega)
 have h3:n*(s+1+2)≤20*(s+3):=Nat.mul_le_mul hn (by omega)
 unfold lvl lk sk
 omega
def uu(s:Nat):Nat:=105*s+800
namespace pD
variable {s n:Nat} {f:ZX} (I:pD s n f)
include I
theorem f0:f.l ≠ []:=uI I.nf.ne
theorem wR:1≤(lead f.l).natAbs∧(lead f.l).natAbs≤2^s:=by
 have h1:=dA f.c (List.length_pos_iff.2 I.f0)
 have h2:=iS (b:=2) (by decide) (lead f.l)
 have h3:=Nat.pow_le_pow_right (show 0<2 by decide) (gU I.ch.bz)
 omega
theorem auH:1≤g9 f.l:=(mQ f.c I.f0 (t:=g9 f.l) (.inr Rat.le_refl)).2
theorem aed:Ab (g9 f.l) (2^(s+1)):=by
 have h1:=JQ f.c I.f0
 have hL:(1:Rat)≤(((lead f.l).natAbs:Int):Rat):=eH (by have:=I.wR.1;omega)
 have h2:=Rat.div_mul_cancel (a:=((pI f.l (f.l.length-1):Int):Rat)) (b:=(((lead f.l).natAbs:Int):Rat)) (by grind)
 have h3:=I.auH
 have h4:((pI f.l (f.l.length-1):Int):Rat)≤2^s:=by
  have h5:=iS (b:=2) (by decide) (pI f.l (f.l.length-1))
  have h6:=Nat.pow_le_pow_right (show 0<2 by decide) (DO I.ch.bz (f.l.length-1))
  exact(G0 (s:=s) (by omega)).2
 have h7:=p7 s
 rw [Rat.pow_succ]
 generalize (2:Rat)^s=T at *
 generalize ((pI f.l (f.l.length-1):Int):Rat)=m at *
 have hw:m/(((lead f.l).natAbs:Int):Rat)≤T:=by
  refine Rat.not_lt.1 fun h=>?_
  have h8:=Rat.mul_le_mul_of_nonneg_left hL (show 0≤m/(((lead f.l).natAbs:Int):Rat)by grind)
  grind
 exact⟨by grind,by grind⟩
theorem DW:Gr (lead f.l).natAbs (2^(s+1)) 0 (g9 f.l):=by
 refine⟨⟨((lead f.l).natAbs:Int)+pI f.l (f.l.length-1),?_⟩,I.aed⟩
 have hL:(1:Rat)≤(((lead f.l).natAbs:Int):Rat):=eH (by have:=I.wR.1;omega)
 have h1:=JQ f.c I.f0
 have h2:=Rat.div_mul_cancel (a:=((pI f.l (f.l.length-1):Int):Rat)) (b:=(((lead f.l).natAbs:Int):Rat)) (by grind)
 rw [Nat.pow_zero,Nat.mul_one,Rat.intCast_add,h1]
 grind
theorem JY:Gr (lead f.l).natAbs (2^(s+1)) 0 (-g9 f.l):=by
 obtain⟨⟨z,hz⟩,h1,h2⟩:=I.DW
 exact⟨⟨-z,by rw [Rat.intCast_neg,←hz];grind⟩,by grind,by grind⟩
theorem count:(vr (ZP (bK f)):Int)-vr (ZQ (bK f))=(vt (bK f) (-g9 f.l):Int)-vt (bK f) (g9 f.l):=by
 have hG:=I.JM
 have h1:vr (ZQ (bK f))=vt (bK f) (g9 f.l):=SU hG fun b=>⟨1,by decide,fun x h2 _=>(mQ f.c I.f0 (.inr h2)).1⟩
 have h2:vr (ZP (bK f))=vt (bK f) (-g9 f.l):=Z1 hG fun b=>⟨1,by decide,fun x _ h2=>(mQ f.c I.f0 (.inl h2)).1⟩
 rw [h1,h2]
theorem WA : -g9 f.l<g9 f.l:=by have:=I.auH;grind
end pD
def JZ(s n:Nat)(f:ZX):List (Rat × Rat):=KL (vt (bK f)) (lvl s n) (-g9 f.l) (g9 f.l)
structure Ivs(f:ZX)(u:Nat)(lo hi:Rat)(l:List (Rat × Rat)):Prop where
 mem:∀p∈l,SQ u p.1∧SQ u p.2∧lo≤p.1∧p.1<p.2∧p.2≤hi∧vt (bK f) p.1=vt (bK f) p.2+1
 len:l.length=vt (bK f) lo-vt (bK f) hi
 RK:l.Pairwise fun p q=>p.2≤q.1
theorem pD.width{s n:Nat}{f:ZX}(I:pD s n f){δ:Rat}(hδ:δ*2^lk s n 5 (s+1)=1):g9 f.l - -g9 f.l≤δ*2^lvl s n:=by
 have h1:=I.aed.2
 unfold lvl
 rw [show lk s n 5 (s+1)+s+2=lk s n 5 (s+1)+(s+1+1)by omega,p0,←Rat.mul_assoc,hδ,Rat.one_mul,Rat.pow_succ]
 grind
theorem pD.ivs{s n:Nat}{f:ZX}(I:pD s n f):Ivs f (uu s) (-g9 f.l) (g9 f.l) (JZ s n f):=by
 obtain⟨δ,h1,h2,C⟩:=I.cut (s+1)
 have hl:=aec (s:=s) I.ch.hn
 obtain⟨a1,a2,a3⟩:=sV C (lvl s n) 0 _ _ I.JY I.DW I.WA (I.width h2)
 refine⟨fun p hp=>?_,a2,a3⟩
 obtain⟨b1,b2,b3⟩:=a1 p hp
 obtain⟨l1,l2⟩:=I.wR
 exact⟨(b1.sq l1 l2).mono (by unfold uu;omega),(b2.sq l1 l2).mono (by unfold uu;omega),b3⟩
theorem ahU{s n:Nat}{f:ZX}(I:pD s n f):(JZ s n f).length≤21:=by
 have:=I.ivs.len
 have h1:=Nat.le_trans (akh (bK f) (-g9 f.l)) I.hl
 omega
theorem S5{α:Type}{g:α→List PV}{l:List α}{s n:Nat}{f:ZX}(hS:aF env.P 70 [aN g l] (Po f.l))(I:pD s n f):aF env.P 18 [aN g l] (.dU [aN (ga f) (JZ s n f), .int .i64 0]):=by
 have hs:=I.hs
 have hn:=I.ch.hn
 have N1:=JJ hS I.ch I.nf
 have P1:=fE (x:=f.l) (I.ch.bz.pb (by omega) (by omega))
 rw [f.c]at P1
 have B1:=SV P1 f.c I.f0 (NY I.ch.bz) (by omega) (by omega)
 obtain⟨l1,l2⟩:=I.wR
 have qb:=(I.DW.sq l1 l2).mono (show s+1+s+0+1≤uu s by unfold uu;omega)
 have hu:uu s≤1000000000:=by unfold uu;omega
 have M1:=Z2 (qb.LLt (show uu s<1099511627770 by omega))
 have C1:=SO (c:=bK f) (by have:=I.hl;omega) (pbs I.hb hn)
 rw [I.count]at C1
 obtain⟨δ,h1,h2,C⟩:=I.cut (s+1)
 have hl:=aec (s:=s) hn
 have R1:=ad7 I l1 l2 C (J:=lvl s n) (by omega) (lvl s n) 0 _ _ (by omega) I.JY I.DW I.WA (I.width h2)
 rw [show KL (vt (bK f)) (lvl s n) (-g9 f.l) (g9 f.l)=JZ s n f from rfl]at R1
 have hlen:=ahU I
 have el:(emap (ga f) (JZ s n f)).length≤21:=by simpa [emap]using hlen
 have pe:=JX (f:=f) (l:=JZ s n f)
 have a1:bH 9 (emap (ga f) (JZ s n f))=True:=yA
 replace B1:aF env.P 71 [Po f.l] (.dU [T2 (g9 f.l).num (g9 f.l).den, .int .i64 0]):=B1
 replace M1:aF env.P 73 [T2 (g9 f.l).num (g9 f.l).den] (T2 (-g9 f.l).num (-g9 f.l).den):=M1
 replace R1:lY env.P 72 [Po f.l,CH (bK f),T2 (-g9 f.l).num (-g9 f.l).den,T2 (g9 f.l).num (g9 f.l).den, .int .i64 ((vt (bK f) (-g9 f.l):Int)-vt (bK f) (g9 f.l))] 54 9 (emap (ga f) (JZ s n f)):=R1
 generalize JZ s n f=L at *
 generalize (vt (bK f) (-g9 f.l):Int)-vt (bK f) (g9 f.l)=cn at *
 generalize bK f=c at *
 generalize (-g9 f.l).num=mn at *
 generalize ((-g9 f.l).den:Int)=md at *
 generalize (g9 f.l).num=bn at *
 generalize ((g9 f.l).den:Int)=bd at *
 refine cD [(0,aN g l)] Tryz.func18 ?_
 refine aA [0] ?_
 refine aR [0,4,5] N1 ?_
 refine aP [0,4,5,15] ?_
 refine bJ ?_ ?_<;>intro h
 ·simp at h
 refine W.skip ?_
 refine aR [4,6] hS ?_
 refine aR [4,6,7] B1 ?_
 refine nK ?_
 refine cU M1 ?_
 refine cU C1 ?_
 refine abS R1 rfl trivial ?_
 simp (disch:=omega) [gw]
 refine bG [2,3] ?_
 refine W.UG 31 (by simp) (fun K hK=>?_)
 simp
 refine hK _ ?_
 exact cC
end Go.Proofs.YtiobceocpabjdaaGreat
namespace Go.Proofs.YtiobceocpabjdaaGreat
open Go Pm
open ZX hiding N W
abbrev GA(f:ZX)(p:Rat × Rat):PV:=.ag (ga f p)
namespace pD
variable {s n:Nat} {f:ZX} (I:pD s n f)
include I
theorem auJ:aF env.P 79 [Po f.l] (PI f.l):=by
 have hs:=I.hs
 have hn:=I.ch.hn
 have b:=NY I.ch.bz
 have:=YJ (f.l.map s5) ⟨fun c hc=>by
  simp only [List.mem_map]at hc
  obtain⟨x,hx,rfl⟩:=hc
  exact⟨fI gF _,Nat.lt_of_le_of_lt (b.sz x hx) (by omega)⟩,by rw [List.length_map];exact Nat.lt_of_le_of_lt b.len (by omega)⟩
 rw [cI,←i7,show aQ f.l=f.l from f.c]at this
 exact this
theorem auK:aF env.P 78 [PI f.l] (PI f.l):=by
 have:=lM I.ch.bz I.s1 (by have:=I.hs;show s≤137438953472;omega) (by have:=I.ch.hn;omega)
 rwa [I.nf.nfe]at this
theorem ahV:aF env.P 158 [PI f.l] (PI f.l):=by
 have:=wD I.lay I.s1
 rwa [I.sq]at this
theorem aoc:aF env.P 81 [PI f.l] (aN zq (bK f)):=zF I.ahV I.ch I.s1
theorem ahW:aF env.P 70 [Po f.l] (Po f.l):=by
 have:=uJ I.lay
 rwa [I.sq]at this
theorem auL{u:Nat}{t:Rat}(q:SQ u t)(hu:u≤1000000000):aF env.P 77 [PI f.l,RR t] (.int .i64 (bZ (e t f))):=by
 have hs:=I.hs
 have hn:=I.ch.hn
 have hmul:n*(u+1)≤20*(u+1):=Nat.mul_le_mul_right _ hn
 have s1:=xV I.ch.bz q.n2 q.d2 q.hu (by omega) (by show _<137438953472;omega)
 rw [AQ]at s1
 rw [gR]
 exact s1
theorem aee{u:Nat}{p q:Rat}(hp:SQ u p)(hq:SQ u q)(hu:u≤1000000000):aF env.P 76 [aN zq (bK f),RR p,RR q] (.int .i64 (if q<p then 0 else(vt (bK f) p:Int)-vt (bK f) q)):=an8 I.hb I.ch.hn I.hl hp hq hu
theorem aod{u:Nat}{p:Rat × Rat}(q1:SQ u p.1)(q2:SQ u p.2)(hu:u≤1000000000):aF env.P 80 [QA f (bK f) p] (QA f (bK f) (ex f p)):=Z6 (I.ch.bz.mono (by have:=I.hs;omega) (Nat.le_refl _)) I.ch.hn q1 q2 hu
end pD
theorem SQ.akm{u:Nat}{q:Rat}(h:SQ u q)(hu:u≤1000000000):aF env.P 82 [RT q] (RR q):=Z3 (h.LLt (by omega)) ⟨by have:=h.n2;show _<549755813888;omega,by have:=h.d2;show _<549755813888;omega⟩
theorem pD.auM{s n:Nat}{f:ZX}(I:pD s n f){u:Nat}{p:Rat × Rat}(q1:SQ u p.1)(q2:SQ u p.2)(hu:u≤1000000000):aF env.P 20 [GA f p] (QA f (bK f) (ex f p)):=by
 have f1:=I.auJ
 have f2:=I.auK
 have f3:=I.aoc
 have f4:=q1.akm hu
 have f5:=q2.akm hu
 have f6:=I.aod q1 q2 hu
 generalize ex f p=y at *
 rw [gR]at f4 f5
 rw [wQ,wQ]at f6
 rw [wQ]
 replace f4:aF env.P 82 [T2 p.1.num p.1.den] (R2 p.1.num p.1.den):=f4
 replace f5:aF env.P 82 [T2 p.2.num p.2.den] (R2 p.2.num p.2.den):=f5
 show aF env.P _ [.ag (Po f.l::(tc p.1++tc p.2))] _
 simp only [c4,tc,List.cons_append,List.nil_append]at f6 ⊢
 generalize bK f=c at *
 generalize p.1.num=an at *
 generalize (p.1.den:Int)=ad at *
 generalize p.2.num=bn at *
 generalize (p.2.den:Int)=bd at *
 generalize y.1.num=yn at *
 generalize (y.1.den:Int)=yd at *
 generalize y.2.num=zn at *
 generalize (y.2.den:Int)=zd at *
 refine cD [(0, .ag [Po f.l, .bool (decide (an<0)),us (aU LL an.natAbs), .bool (decide (ad<0)),us (aU LL ad.natAbs), .bool (decide (bn<0)),us (aU LL bn.natAbs), .bool (decide (bd<0)),us (aU LL bd.natAbs)])] Tryz.func20 ?_
 refine aA [1,2] ?_
 refine jG ?_
 refine cU f1 ?_
 refine cQ [1,2,3] f2 ?_
 refine nK ?_
 refine cU f3 ?_
 refine cU f4 ?_
 refine cU f5 ?_
 refine cU f6 ?_
 (try (refine bC (of_decide_eq_true (by kernel_rfl)) ?_));(try simp (maxSteps:=4000000) (disch:=omega) [gw]);(repeat rw [if_pos (by kernel_rfl)]);(try simp (maxSteps:=4000000) (disch:=omega) [gw])
 refine bG [2] ?_
 exact cC
theorem aoe{f:ZX}{c:List ZX}{p:Rat × Rat}{u:Nat}(q1:SQ u p.1)(q2:SQ u p.2)(hu:u≤1000000000):aF env.P 75 [QA f c p] (.bool (decide (p.1=p.2))):=by
 have c1:=rX p.1 p.2 (q1.yy hu) (q2.yy hu)
 have e:decide (p.1=p.2)=(dH (p.1.num*p.2.den) (p.2.num*p.1.den)==0):=by
  rw [Bool.eq_iff_iff];simp only [decide_eq_true_eq,beq_iff_eq];exact l8.symm
 rw [e,wQ]
 rw [gR,gR]at c1
 simp only [c4,List.cons_append,List.nil_append]
 generalize dH (p.1.num*p.2.den) (p.2.num*p.1.den)=z at *
 generalize p.1.num=an at *
 generalize (p.1.den:Int)=ad at *
 generalize p.2.num=bn at *
 generalize (p.2.den:Int)=bd at *
 refine cD [(0, .ag [PI f.l,aN zq c,aN aI (aU DD an.natAbs), .bool (decide (an<0)),aN aI (aU DD ad.natAbs), .bool (decide (ad<0)),aN aI (aU DD bn.natAbs), .bool (decide (bn<0)),aN aI (aU DD bd.natAbs), .bool (decide (bd<0))])] Tryz.func75 ?_
 refine aA [1] ?_
 refine aR [2] c1 ?_
 exact cC
end Go.Proofs.YtiobceocpabjdaaGreat
namespace Go.Proofs.YtiobceocpabjdaaGreat
open Go Pm
open ZX hiding N W
theorem gM{p q:Rat}:0<dH (p.num*q.den) (q.num*p.den)↔q<p:=by
 rw [rF,←j3 q p,mZ]
theorem gN{p q:Rat}:dH (p.num*q.den) (q.num*p.den)<0↔p<q:=j3 p q
theorem pE{p q:Rat}:dH (p.num*q.den) (q.num*p.den)≤0↔p≤q:=by
 rw [←Int.not_lt,gM,Rat.not_lt]
theorem OM{x:List Int}{c:List ZX}{an ad bn bd tn td zt z1 z2 b σ r:Int}{pt:Bool}(p1:aF env.P 75 [.ag (PI x::aN zq c::(c4 an ad++c4 bn bd))] (.bool pt))(k0:aF env.P 14 [R2 an ad,R2 tn td] (.int .i64 zt))
  (k1:aF env.P 14 [R2 tn td,R2 an ad] (.int .i64 z1)) (k2:aF env.P 14 [R2 tn td,R2 bn bd] (.int .i64 z2)) (k3:aF env.P 76 [aN zq c,R2 an ad,R2 tn td] (.int .i64 b)) (k4:aF env.P 77 [PI x,R2 tn td] (.int .i64 σ))
  (hr:r=if pt=true then zt else if z1≤0 then 1 else if 0<z2 then -1 else if b=0 then 1 else if σ=0 then 0 else -1):aF env.P 19 [.ag (PI x::aN zq c::(c4 an ad++c4 bn bd)),R2 tn td] (.int .i64 r):=by
 simp only [c4,List.cons_append,List.nil_append]at p1 ⊢
 refine cD [(0, .ag [PI x,aN zq c,aN aI (aU DD an.natAbs), .bool (decide (an<0)),aN aI (aU DD ad.natAbs), .bool (decide (ad<0)),aN aI (aU DD bn.natAbs), .bool (decide (bn<0)),aN aI (aU DD bd.natAbs), .bool (decide (bd<0))]),(1,R2 tn td)] Tryz.func19 ?_
 refine aA [2,3] ?_
 refine W.seq ?_
 refine aR [2,3,6] p1 ?_
 refine bJ ?_ ?_<;>intro h
 ·subst h
  rw [if_pos rfl]at hr
  subst hr
  refine aR [4] k0 ?_
  exact cC
 ·subst h
  rw [if_neg (by decide)]at hr
  refine W.skip ?_
  refine W.seq ?_
  refine aR [2,3,15] k1 ?_
  refine bJ ?_ ?_<;>intro h
  ·simp at h
   rw [if_pos h]at hr
   subst hr
   refine aA [4] ?_
   exact cC
  ·simp at h
   rw [if_neg (by omega)]at hr
   refine W.skip ?_
   refine W.seq ?_
   refine aR [2,3,20] k2 ?_
   refine bJ ?_ ?_<;>intro h
   ·simp at h
    rw [if_pos h]at hr
    subst hr
    refine aA [4] ?_
    exact cC
   ·simp at h
    rw [if_neg (by omega)]at hr
    refine W.skip ?_
    refine W.seq ?_
    refine aR [2,3,27] k3 ?_
    refine bJ ?_ ?_<;>intro h
    ·simp at h
     rw [if_pos h]at hr
     subst hr
     refine aA [4] ?_
     exact cC
    ·simp at h
     rw [if_neg h]at hr
     refine W.skip ?_
     refine W.seq ?_
     refine aR [32] k4 ?_
     refine bJ ?_ ?_<;>intro h
     ·simp at h
      rw [if_pos h]at hr
      subst hr
      refine aA [4] ?_
      exact cC
     ·simp at h
      rw [if_neg h]at hr
      subst hr
      refine W.skip ?_
      refine aA [4] ?_
      exact cC
abbrev dI(f:ZX)(p:Rat × Rat):Rat→Prop:=jE (vt (bK f)) p.1 p.2
theorem pD.DX{s n:Nat}{f:ZX}(I:pD s n f){u:Nat}{p:Rat × Rat}{t:Rat}(A:s8 f (vt (bK f)) p.1 p.2)(q1:SQ u p.1)(q2:SQ u p.2)(qt:SQ u t)(hu:u≤1000000000):aF env.P 19 [QA f (bK f) p,RR t] (.int .i64 (cr (dI f p) t)):=by
 have p1:=aoe (f:=f) (c:=bK f) q1 q2 hu
 have k0:=rX p.1 t (q1.yy hu) (qt.yy hu)
 have k1:=rX t p.1 (qt.yy hu) (q1.yy hu)
 have k2:=rX t p.2 (qt.yy hu) (q2.yy hu)
 have k3:=I.aee q1 qt hu
 have k4:=I.auL qt hu
 have hc:=A.auC t
 rw [gR,gR]at k0 k1 k2
 rw [gR,gR]at k3
 rw [gR]at k4 ⊢
 rw [wQ]at p1 ⊢
 refine OM p1 k0 k1 k2 k3 k4 ?_
 rw [hc]
 simp only [decide_eq_true_eq]
 by_cases h1:p.1=p.2
 ·rw [if_pos h1,if_pos h1]
  by_cases h2:p.1<t
  ·rw [if_pos h2,mJ (mZ.1 (gN.2 h2))]
  ·rw [if_neg h2]
   by_cases h3:t<p.1
   ·rw [if_pos h3,mK (rF.1 (gM.2 h3))]
   ·rw [if_neg h3,l8.2 (by grind)]
 ·rw [if_neg h1,if_neg h1]
  simp only [pE,gM]
  by_cases h2:t≤p.1
  ·rw [if_pos h2,if_pos h2]
  ·rw [if_neg h2,if_neg h2]
   by_cases h3:p.2<t
   ·rw [if_pos h3,if_pos h3]
   ·rw [if_neg h3,if_neg h3,if_neg (show ¬t<p.1 by grind)]
    have e1:((vt (bK f) p.1:Int)-vt (bK f) t=0)↔vt (bK f) p.1=vt (bK f) t:=by omega
    simp only [e1,eX]
theorem AR{f:ZX}{p:Rat × Rat}(A:s8 f (vt (bK f)) p.1 p.2):s8 f (vt (bK f)) (ex f p).1 (ex f p).2 ∧ ∀t,dI f (ex f p) t↔dI f p t:=by
 unfold ex
 split
 ·rename_i h0
  exact A.exact h0
 ·exact⟨A,fun _=>Iff.rfl⟩
theorem ON{f:ZX}(h0:f≠0)(hc:wN f (bT f))(hN:ZX.N f≤20):s7 f (vt (bK f)):=by
 have hg:gz f (bT f)=1:=(GN (.inl h0)).N1 (hc _ (fG _ _).l (fG _ _).r)
 refine⟨h0,hc,_,⟨fun B hB=>?_⟩,rfl⟩
 obtain⟨s,hs⟩:=DR f.l
 obtain⟨β,hβ⟩:=OK B
 have hb:BZ (s+1+5) 20 f:=⟨hN,fun c hc=>dW (by decide) (by
  have h1:=hs c hc
  have h2:2^s<2^(s+1+5):=Nat.pow_lt_pow_right (by decide) (by omega)
  omega)⟩
 have hb0:BZ (s+1) 20 f:=⟨hN,fun c hc=>dW (by decide) (by
  have h1:=hs c hc
  have h2:2^s<2^(s+1):=Nat.pow_lt_pow_right (by decide) (by omega)
  omega)⟩
 have bd:BZ (s+1+5) 20 (bT f):=hb0.bT (by decide)
 have hND:=n5 f
 have hP1:ZX.N (qD (bT f))≤ZX.N (bT f):=l7 _
 obtain⟨δ,h1,h2⟩:=DT (jb ((s+1+5+20+1)*2*4^20) 20 β)
 refine⟨δ,h1,Lcl.mono (V3 (s:=s+1) (n:=20) (by decide) h0 hb ?_ (jC bd) hg (by rw [h2];exact Rat.le_refl)) hβ⟩
 unfold zU
 split
 ·have:(4:Nat)^ZX.N f≤4^20:=Nat.pow_le_pow_right (by decide) hN
  exact Nat.mul_le_mul (by omega) this
 ·have:(4:Nat)^ZX.N (qD (bT f))≤4^20:=Nat.pow_le_pow_right (by decide) (by omega)
  exact Nat.mul_le_mul (Nat.le_refl _) this
structure oO(f h g w:ZX):Prop where
 eq:f=w*g
 ng:Nf g
 nw:Nf w
 wg:wN w g
 wh:wN w h
 gd:dv g h
 sg:wN g (bT g)
 sw:wN w (bT w)
theorem uR{f h:ZX}(nf:Nf f)(hc:wN f (bT f)):∃w,oO f h (gz f h) w:=by
 have ng:Nf (gz f h):=GN (.inl nf.ne)
 obtain⟨w,nw,e⟩:=nf.quo ng (fG f h).l
 have hd:bT f=bT w*gz f h+w*bT (gz f h):=by
  have h1:=congrArg bT e
  rwa [sM]at h1
 have dwf:dv w f:=by rw [e];exact(dv.refl w).mul_right _
 have dgf:dv (gz f h) f:=(fG f h).l
 have wg:wN w (gz f h):=fun d h1 h2=>hc d (h1.trans dwf) (by rw [hd];exact(h2.mul_left _).add (h1.mul_right _))
 exact⟨w,e,ng,nw,wg,fun d h1 h2=>wg d h1 ((fG f h).least (h1.trans dwf) h2),(fG f h).r,
  fun d h1 h2=>hc d (h1.trans dgf) (by rw [hd];exact(h1.mul_left _).add (h2.mul_left _)),fun d h1 h2=>hc d (h1.trans dwf) (by rw [hd];exact(h2.mul_right _).add (h1.mul_right _))⟩
theorem oO.N{f h g w:ZX}(S:oO f h g w):ZX.N w≤ZX.N f∧ZX.N g≤ZX.N f:=by
 have h1:=k9 S.nw.ne S.ng.ne
 rw [←S.eq]at h1
 have:=ZX.aE.1 S.nw.ne
 have:=ZX.aE.1 S.ng.ne
 omega
theorem oO.O5{f h g w:ZX}(S:oO f h g w){v γ φ:Rat→Nat}(hv:s7 f v)(hg:s7 g γ)(hw:s7 w φ){s t:Rat}(iQ:s≤t):v s+γ t+φ t=v t+γ s+φ s:=by
 have e:K 1*f=w*g:=by rw [←S.eq];show(1:ZX)*f=f;grind
 have:=hv.mul hw hg (by decide) e S.wg iQ
 omega
theorem WB{f h:ZX}{v w:Rat→Nat}(hv:s7 f v)(hw:s7 h w)(hc:wN f h){s r l β:Nat}(hA:∀c∈f.l,c.natAbs≤2^s)(hB:∀c∈h.l,c.natAbs≤2^r)(hl:ZX.N f+ZX.N h≤2^l)
  {a b:Rat} (ha:Ab a (2^β)) (hb:Ab b (2^β)) (fK:a<b) (hd:(b-a)*2^(sx f h s r l+(ZX.N f+ZX.N h)*(β+2)+2)≤1):v a=v b∨w a=w b:=by
 refine Classical.byContradiction fun zY=>?_
 have akn:=not_or.1 zY
 have sm:∀ {p:ZX} {m:Nat} {u:Rat→Nat},s7 p u→(∀c∈p.l,c.natAbs≤2^m)→¬u a=u b→Ab (e a p) ((b-a)*2^(m+ZX.N p*(β+2))):=fun {p m u} S hp hu =>
  S.small fK hu (gL _) (fun x y h1 h2 h3=>by
   have g1:=(ad1 hp (Nat.le_refl _) (cK ha hb h1 (by grind)) (cK ha hb (show a≤y by grind) h3)).1
   have g2:=nH x y p.l
   have g3:e y p-e x p=qv y p.l-qv x p.l:=rfl
   rw [g3,g2]
   exact Ab.mul ⟨by grind,Rat.le_refl⟩ g1) Rat.le_refl (Rat.le_of_lt fK)
 have b1:=sm hv hA akn.1
 have b2:=sm hw hB akn.2
 have n1:=ZX.aE.1 hv.ne
 have n2:=ZX.aE.1 hw.ne
 have s1:s≤s*ZX.N h:=Nat.le_mul_of_pos_right _ (by omega)
 have s2:r≤r*ZX.N f:=Nat.le_mul_of_pos_right _ (by omega)
 have fin:∀ {i j k:Nat},i+j+1=k→(b-a)*2^k≤1→(b-a)*2^i*2*2^j≤1:=fun {i j k} hk h=>by
  rw [←hk,Rat.pow_succ,p0]at h;grind
 have hX:sx f h s r l=(l+2)*(ZX.N f+ZX.N h)+s*ZX.N h+r*ZX.N f:=rfl
 rw [Nat.add_mul]at hd
 have h5:=auy hv.ne hw.ne hA hB hl hc ha (β:=β) (fin (i:=s+ZX.N f*(β+2)) (k:=sx f h s r l+(ZX.N f*(β+2)+ZX.N h*(β+2))+2) (by omega) hd) (fin (i:=r+ZX.N h*(β+2)) (k:=sx f h s r l+(ZX.N f*(β+2)+ZX.N h*(β+2))+2) (by omega) hd)
 have q1:0<(b-a)*2^(s+ZX.N f*(β+2)):=Rat.mul_pos (by grind) (gL _)
 have q2:0<(b-a)*2^(r+ZX.N h*(β+2)):=Rat.mul_pos (by grind) (gL _)
 obtain⟨p1,p2⟩:=b1
 obtain⟨p3,p4⟩:=b2
 rcases h5 with (h5 | h5) | (h5 | h5)<;>grind
theorem aof{f h:ZX}{v w:Rat→Nat}(hv:s7 f v)(hw:s7 h w)(hc:wN f h){s n l β:Nat}(hA:∀c∈f.l,c.natAbs≤2^s)(hB:∀c∈h.l,c.natAbs≤2^s)(hn:ZX.N f+ZX.N h≤n)(hl:n≤2^l)
  {a b:Rat} (ha:Ab a (2^β)) (hb:Ab b (2^β)) (fK:a<b) (hd:(b-a)*2^(sk s n l β+(s+n*(β+2))+1)≤1):v a=v b∨w a=w b:=
 WB hv hw hc hA hB (Nat.le_trans hn hl) ha hb fK (DP hd (by
  have h1:=ad2 (a:=f) (b:=h) (s:=s) (l:=l) (β:=β) hn (Nat.le_refl _)
  have h2:(ZX.N f+ZX.N h)*(β+2)≤n*(β+2):=Nat.mul_le_mul_right _ hn
  omega))
theorem ahX{f h:ZX}{v w:Rat→Nat}(hv:s7 f v)(hw:s7 h w)(hc:wN f h)(B:Rat):∃δ:Rat,0<δ ∧ ∀a b,Ab a B→Ab b B→a<b→b-a≤δ→v a=v b∨w a=w b:=by
 obtain⟨s1,h1⟩:=DR f.l
 obtain⟨s2,h2⟩:=DR h.l
 obtain⟨β,hβ⟩:=OK B
 obtain⟨δ,h3,h4⟩:=DT (sk (s1+s2) (ZX.N f+ZX.N h) (ZX.N f+ZX.N h) β+(s1+s2+(ZX.N f+ZX.N h)*(β+2))+1)
 refine⟨δ,h3,fun a b ha hb fK hd=>aof hv hw hc (s:=s1+s2) (l:=ZX.N f+ZX.N h) (β:=β) (fun c hc=>Nat.le_trans (h1 c hc) (Nat.pow_le_pow_right (by decide) (by omega))) (fun c hc=>Nat.le_trans (h2 c hc) (Nat.pow_le_pow_right (by decide) (by omega))) (Nat.le_refl _) (Nat.le_of_lt Nat.lt_two_pow_self) (ha.mono hβ) (hb.mono hβ) fK ?_⟩
 rw [←h4]
 exact Rat.mul_le_mul_of_nonneg_right hd (Rat.le_of_lt (gL _))
section
variable {f:ZX} {v:Rat→Nat} {lo hi:Rat} (A:s8 f v lo hi)
include A
theorem oP{s t:Rat}(h1:¬jE v lo hi s)(h2:jE v lo hi t)(iQ:s<t):v t<v s:=by
 have g1:s<hi:=Rat.not_le.1 fun h=>h1 (.inl h)
 rcases A.k with ⟨rfl,h0⟩ | ⟨dN,hk⟩
 ·have h3:lo≤t:=by rcases h2 with h | h<;>grind
  have h4:=A.S.root g1 h0
  have h5:=A.S.cR h3
  omega
 ·have h3:v lo≤v s:=by
   by_cases h:s≤lo
   ·exact A.S.cR h
   ·exact Nat.not_lt.1 fun h4=>h1 (.inr ⟨by grind,h4⟩)
  rcases h2 with h | ⟨_,h⟩
  ·have:=A.S.cR h;omega
  ·omega
theorem WC{s t:Rat}(h1:¬jE v lo hi s)(h2:jE v lo hi t)(hv:v s=v t+1){x:Rat}(hx:s≤x)(hy:x≤t):jE v lo hi x↔v x<v s:=by
 refine⟨fun h=>?_,fun h=>?_⟩
 ·refine oP A h1 h ?_
  rcases Rat.le_iff_lt_or_eq.1 hx with h3 | rfl
  ·exact h3
  ·exact absurd h h1
 ·refine Classical.byContradiction fun h3=>?_
  have h4:x<t:=by
   rcases Rat.le_iff_lt_or_eq.1 hy with h4 | rfl
   ·exact h4
   ·exact absurd h2 h3
  have:=oP A h3 h2 h4
  omega
end
theorem S6{U:Rat→Prop}{δ:Rat}(hδ:0<δ):∀(n:Nat) (s t:Rat),s<t→¬U s→U t→t-s≤δ*2^n → ∃a b,s≤a∧a<b∧b≤t∧b-a≤δ∧¬U a∧U b
 | 0,s,t,h,h1,h2,hd=>⟨s,t,Rat.le_refl,h,Rat.le_refl,by rwa [Rat.pow_zero,Rat.mul_one]at hd,h1,h2⟩
 | n+1,s,t,h,h1,h2,hd=>by
  obtain⟨m1,m2⟩:=x9 h
  obtain⟨d1,d2⟩:=wP hd
  generalize (s+t)/2=m at *
  by_cases hm:U m
  ·obtain⟨a,b,g1,g2,g3,g4⟩:=S6 hδ n s m m1 h1 hm d1
   exact⟨a,b,g1,g2,by grind,g4⟩
  ·obtain⟨a,b,g1,g2,g3,g4⟩:=S6 hδ n m t m2 hm h2 d2
   exact⟨a,b,by grind,g2,g3,g4⟩
theorem WD{U:Rat→Prop}{δ:Rat}(hδ:0<δ){s t:Rat}(h:s<t)(h1:¬U s)(h2:U t):∃a b,s≤a∧a<b∧b≤t∧b-a≤δ∧¬U a∧U b:=by
 obtain⟨n,hn⟩:=OK ((t-s)/δ)
 refine S6 hδ n s t h h1 h2 ?_
 have h3:(t-s)/δ*δ=t-s:=Rat.div_mul_cancel (Rat.ne_of_gt hδ)
 have h4:=Rat.mul_le_mul_of_nonneg_right hn (Rat.le_of_lt hδ)
 grind
section
variable {f h:ZX} {v w:Rat→Nat} {lo hi lo' lV:Rat} (A:s8 f v lo hi) (B:s8 h w lo' lV)
include A B
theorem OO{g w1 w2:ZX}{γ φ η:Rat→Nat}(S1:oO f h g w1)(S2:oO h f g w2)(hg:s7 g γ)(h1:s7 w1 φ)(h2:s7 w2 η){s t:Rat}(iQ:s<t)(a1:¬jE v lo hi s)(a2:jE v lo hi t)(b1:¬jE w lo' lV s)(b2:jE w lo' lV t)(hv:v s≤v t+1)(hw:w s≤w t+1)(hγ:γ t<γ s) :
  ∀x,jE v lo hi x↔jE w lo' lV x:=fun x=>by
 have c1:=oP A a1 a2 iQ
 have c2:=oP B b1 b2 iQ
 have e1:v s=v t+1:=by omega
 have e2:w s=w t+1:=by omega
 have k1:=S1.O5 A.S hg h1 (Rat.le_of_lt iQ)
 have k2:=S2.O5 B.S hg h2 (Rat.le_of_lt iQ)
 by_cases hx:x<s
 ·exact⟨fun hh=>absurd (A.up hh (Rat.le_of_lt hx)) a1,fun hh=>absurd (B.up hh (Rat.le_of_lt hx)) b1⟩
 ·by_cases hy:t<x
  ·exact⟨fun _=>B.up b2 (Rat.le_of_lt hy),fun _=>A.up a2 (Rat.le_of_lt hy)⟩
  ·have FA:=Rat.not_lt.1 hx
   have xA:=Rat.not_lt.1 hy
   rw [WC A a1 a2 e1 FA xA,WC B b1 b2 e2 FA xA]
   have q1:=S1.O5 A.S hg h1 FA
   have q2:=S2.O5 B.S hg h2 FA
   have r1:=h1.cR FA
   have r2:=h2.cR FA
   have r3:=h1.cR xA
   have r4:=h2.cR xA
   have m1:=hg.cR (Rat.le_of_lt iQ)
   have m2:=h1.cR (Rat.le_of_lt iQ)
   have m3:=h2.cR (Rat.le_of_lt iQ)
   omega
end
theorem aef{q:Rat}{V:Rat→Prop}(hV:∀s t,V s→s≤t→V t):cu (fun t=>q≤t) V = -cr V q:=by
 by_cases h:V q
 ·by_cases h2:∃s,s<q∧V s
  ·rw [(x8 hV).2 h2]
   unfold cu
   obtain⟨s,h3,h4⟩:=h2
   rw [if_neg (fun ⟨t,h5,h6⟩=>h6 (hV q t h h5)),if_pos ⟨s,h4,by grind⟩]
   rfl
  ·rw [wO.2 ⟨h,fun s h3 h4=>h2 ⟨s,h3,h4⟩⟩]
   unfold cu
   rw [if_neg (fun ⟨t,h5,h6⟩=>h6 (hV q t h h5)),if_neg (fun ⟨t,h5,h6⟩=>h2 ⟨t,by grind,h5⟩)]
   rfl
 ·rw [x7.2 h]
  unfold cu
  rw [if_pos ⟨q,Rat.le_refl,h⟩]
theorem Z7{q:Rat}{U:Rat→Prop}(hU:∀s t,U s→s≤t→U t):cu U (fun t=>q≤t)=cr U q:=by
 by_cases h:U q
 ·by_cases h2:∃s,s<q∧U s
  ·rw [(x8 hU).2 h2]
   unfold cu
   obtain⟨s,h3,h4⟩:=h2
   rw [if_pos ⟨s,h4,by grind⟩]
  ·rw [wO.2 ⟨h,fun s h3 h4=>h2 ⟨s,h3,h4⟩⟩]
   unfold cu
   rw [if_neg (fun ⟨t,h5,h6⟩=>h2 ⟨t,by grind,h5⟩),if_neg (fun ⟨t,h5,h6⟩=>h6 (hU q t h h5))]
 ·rw [x7.2 h]
  unfold cu
  rw [if_neg (fun ⟨t,h5,h6⟩=>h (hU t q h5 (by grind))),if_pos ⟨q,Rat.le_refl,h⟩]
theorem DY{U U' V V':Rat→Prop}(h1:∀t,U t↔U' t)(h2:∀t,V t↔V' t):cu U V=cu U' V':=by
 have e1:U=U':=funext fun t=>propext (h1 t)
 have e2:V=V':=funext fun t=>propext (h2 t)
 rw [e1,e2]
theorem p8{f:ZX}{p:Rat × Rat}(h:p.1=p.2)(t:Rat):dI f p t↔p.1≤t:=by
 refine⟨fun h1=>?_,fun h1 => .inl (h▸h1)⟩
 rcases h1 with h1 | ⟨h1,_⟩
 ·rw [h];exact h1
 ·grind
theorem J0{a:ZX}(na:Nf a)(hc:wN a (bT a)):sq a=a:=by
 obtain⟨g,hg⟩:=jR _ a (bT a) (Nat.le_refl _)
 have h0:=hg.ne (.inl na.ne)
 have h1:=hc g hg.l hg.r
 have h2:=ZX.aE.1 h0
 obtain⟨k,hk,rfl⟩:=lA (show ZX.N g=1 by omega)
 obtain⟨c,xI,u,v,e⟩:=hg.uv
 rw [pC]at e
 exact ahK na (Int.mul_ne_zero xI hk) e.symm
abbrev A10(x:List Int)(c:List ZX)(an ad bn bd:Int):List PV:=[PI x,aN zq c,aN aI (aU DD an.natAbs), .bool (decide (an<0)),aN aI (aU DD ad.natAbs), .bool (decide (ad<0)),aN aI (aU DD bn.natAbs), .bool (decide (bn<0)),aN aI (aU DD bd.natAbs), .bool (decide (bd<0))]
theorem aeh(U:Rat→Prop)(t:Rat):cr U t = -1∨cr U t=0∨cr U t=1:=by
 unfold cr
 split
 ·split<;>simp
 ·simp
theorem OP{u:Nat}{p q:Rat}(hp:SQ u p)(hq:SQ u q):∃D,1≤D∧D≤2^(2*u)∧Gr D (2^u) 0 p∧Gr D (2^u) 0 q:=by
 have key:∀r:Rat,SQ u r→1≤r.den∧r.den≤2^u∧Ab r (2^u)∧r*((r.den:Int):Rat)=(r.num:Rat):=fun r hr=>by
  have h1:=r.den_pos
  have h2:=iS (b:=2) (by decide) (r.den:Int)
  have h3:=Nat.pow_le_pow_right (show 0<2 by decide) hr.d2
  have h4:=iS (b:=2) (by decide) r.num
  have h5:=Nat.pow_le_pow_right (show 0<2 by decide) hr.n2
  have h6:=wL r
  have h7:Ab (r.num:Rat) (2^u):=G0 (by omega)
  have h8:(1:Rat)≤((r.den:Int):Rat):=eH (by omega)
  refine⟨h1,by omega,?_,h6.symm⟩
  rw [h6]at h7
  obtain⟨g1,g2⟩:=h7
  have hT:=gL u
  generalize (2:Rat)^u=T at *
  constructor
  ·refine Rat.not_lt.1 fun hh=>?_
   have:=Rat.mul_le_mul_of_nonneg_left h8 (show 0 ≤ -r by grind)
   grind
  ·refine Rat.not_lt.1 fun hh=>?_
   have:=Rat.mul_le_mul_of_nonneg_left h8 (show 0≤r by grind)
   grind
 obtain⟨a1,a2,a3,a4⟩:=key p hp
 obtain⟨b1,b2,b3,b4⟩:=key q hq
 refine⟨p.den*q.den,Nat.mul_pos a1 b1,?_,⟨⟨p.num*(q.den:Int),?_⟩,a3⟩,⟨⟨q.num*(p.den:Int),?_⟩,b3⟩⟩
 ·rw [Nat.two_mul,Nat.pow_add];exact Nat.mul_le_mul a2 b2
 ·rw [Nat.pow_zero,Nat.mul_one,Rat.intCast_mul,←a4,Int.natCast_mul p.den,Rat.intCast_mul];grind
 ·rw [Nat.pow_zero,Nat.mul_one,Rat.intCast_mul,←b4,Int.natCast_mul p.den,Rat.intCast_mul];grind
theorem aog{s n:Nat}{a:ZX}(h:qL s n a)(h0:a≠0)(AG:1≤n)(hC:(qb (qb s n) n+n+6)*4^n≤4500000000)(hs:qb s n≤5000000):pD (qb s n) n (sq a):=by
 have h1:=(DL h0).1
 refine⟨⟨h.sqb h0,h.hn,?_,hC⟩,AG,h1,J0 h1 fun d d1 d2=>?_,hs⟩
 ·exact Nat.le_trans h.hs (Nat.pow_le_pow_right (by decide) (by unfold qb;omega))
 ·have h3:=(fG (sq a) (bT (sq a))).least d1 d2
  rw [V4 h0]at h3
  have:=h3.nD ZX.xP
  rwa [ZX.GK]at this
theorem DZ{α β:Type}[Inhabited α][Inhabited β]{g:α→β}{l:List α}{i:Nat}(h:i<l.length):nth (l.map g) i=g (nth l i):=by
 rw [cB (by simpa using h),cB h,List.getElem_map]
abbrev G9(x:List Int)(an ad bn bd:Int):List PV:=[Po x, .bool (decide (an<0)),us (aU LL an.natAbs), .bool (decide (ad<0)),us (aU LL ad.natAbs), .bool (decide (bn<0)),us (aU LL bn.natAbs), .bool (decide (bd<0)),us (aU LL bd.natAbs)]
def WG(sg:ZX→Int):Nat→ZX→Int
 | 0,_=>0
 | k+1,p=>if sg p=0 then WG sg k (bT p)else sg p
theorem pF{sg:ZX→Int}(h0:sg 0=0):∀k,WG sg k 0=0
 | 0=>rfl
 | k+1=>by
  have h1:bT 0=0:=rfl
  rw [WG,if_pos h0,h1,pF h0 k]
theorem aei{sg:ZX→Int}(h0:sg 0=0):∀ {k j:Nat} {p:ZX},ZX.N p≤k→ZX.N p≤j→WG sg k p=WG sg j p
 | 0,j,p,h,_=>by
  have:p=0:=Classical.byContradiction fun h0=>by have:=ZX.aE.1 h0;omega
  rw [this,pF h0,pF h0]
 | k+1,0,p,_,h=>by
  have:p=0:=Classical.byContradiction fun h0=>by have:=ZX.aE.1 h0;omega
  rw [this,pF h0,pF h0]
 | k+1,j+1,p,h1,h2=>by
  rw [WG,WG]
  have:=n5 p
  rw [aei h0 (k:=k) (j:=j) (p:=bT p) (by omega) (by omega)]
theorem S7(g:FuncId)(hw:IF g=false)(bW:List PV)(hc:bW.all dB=true)(sg:ZX→Int)(h0:sg 0=0){s k:Nat}{p:ZX}(hp:BZ s k p)(hk:k≤31)(hs:s≤1000000)(hg:∀(q:ZX) (s':Nat),s'≤s+5*k→BZ s' k q→aF env.P g (Po q.l::bW) (.int .i64 (sg q)))(hm:vM g=false:=by rfl) :
  aF env.P 244 [Po p.l, .fn g bW] (.int .i64 (WG sg (ZX.N p) p)):=by
 have hN:=hp.N
 have N1:=fE (x:=p.l) (hp.pb (by omega) (by omega))
 rw [p.c]at N1
 obtain⟨r,hr⟩:∃r,r=WG sg (ZX.N p) p:=⟨_,rfl⟩
 rw [←hr]
 refine cD [(0,Po p.l),(1, .fn g bW)] Tryz.func244 ?_
 refine aA [0,1] ?_
 refine W.seq ?_
 refine aR [0,1] N1 ?_
 refine W.block ?_
 refine W.bE (fun m σ=>∃(q:ZX) (s':Nat) (rows:Pm.Rows) (clk:Nat),σ=⟨fa [(0,Po q.l),(1, .fn g bW)],rows,clk⟩∧m=ZX.N q∧BZ s' k q∧s'+5*ZX.N q≤s+5*k∧WG sg (ZX.N q) q=r) (ZX.N p) ?_ ?_
 ·exact⟨_, .refl,p,s,_,_,rfl,rfl,hp,by omega,hr.symm⟩
 rintro m _ ⟨q,s',rows,clk,rfl,rfl,bq,hsq,hq⟩
 have hNq:=bq.N
 have hNl:ZX.N q=q.l.length:=rfl
 refine aP [0,1,10] ?_
 refine bJ ?_ ?_<;>intro h
 ·have O3:q≠0:=ZX.aE.2 (by show 0<q.l.length;simp at h;omega)
  have hgq:=hg q s' (by omega) bq
  have hD:=pY bq (by omega) (by omega)
  have azD:ZX.N (bT q)<ZX.N q:=by have:=n5 q;have:=ZX.aE.1 O3;omega
  have bd:=bq.bT hk
  obtain⟨j,hj⟩:∃j,ZX.N q=j+1:=⟨ZX.N q-1,by have:=ZX.aE.1 O3;omega⟩
  rw [hj,WG]at hq
  generalize hv:sg q=w at *
  refine kY ?_
  refine W.sr ?_
  simp (disch:=omega) [gw, -IF,hw, -vM,hm,hc]
  refine cQ [0,1,5] hgq ?_
  refine aA [0,1,5,17] ?_
  refine bJ ?_ ?_<;>intro h
  ·have hw:w≠0:=by simpa using h
   rw [if_neg hw]at hq
   subst hq
   refine aA [4] ?_
   exact cC
  ·have hw:w=0:=by simpa using h
   rw [if_pos hw]at hq
   refine W.skip ?_
   refine W.cA (fun K hK=>?_)
   simp (disch:=omega) [gw]
   refine cU hD ?_
   refine hK _ ⟨ZX.N (bT q),_,aB _ [0,1],azD,bT q,s'+5,_,_,rfl,rfl,bd,by omega,?_⟩
   rw [←hq]
   exact aei h0 (Nat.le_refl _) (by omega)
 ·have O3:q=0:=by
   refine Classical.byContradiction fun h0=>?_
   have h1:=ZX.aE.1 h0
   simp at h;rw [hNl,h]at h1;simp at h1
  subst O3
  rw [pF h0]at hq
  subst hq
  refine fH ?_
  refine aA [4] ?_
  exact cC
theorem S8{α:Type}{g:α→List PV}{l:List α}{m:Nat}{f:ZX}{L:List (Rat × Rat)}(hO:aF env.P 265 [aN g l] (Po f.l))(hR:aF env.P 18 [Po f.l] (.dU [aN (ga f) L, .int .i64 0]))(hm:m=0):aF env.P 255 [aN g l] (aN (ga f) L):=by
 refine cD [(0,aN g l)] Tryz.func255 ?_
 refine aA [0] ?_
 refine jG ?_
 refine cU hO ?_
 refine cQ [3,4] hR ?_
 refine aP [3,12] ?_
 refine bJ ?_ ?_<;>intro h
 ·simp at h
 refine W.skip ?_
 refine aA [2] ?_
 exact cC
theorem aoh{a:ZX}(na:Nf a):wN (oz a) (bT (oz a)):=fun d h1 h2=>by
 refine Classical.byContradiction fun h3=>?_
 have ho:=adq na
 have hd0:=h1.ne ho.ne
 obtain⟨p,hp,hpd⟩:=nE _ d (Nat.le_refl _) (by omega)
 have hmu:=aj4 na hp
 have hpo:dv p (oz a):=hpd.trans h1
 have h4:1≤mu p (oz a):=(jA hp ho.ne).2 (by rw [show p^1=p by rw [pow_succ',eK];grind];exact hpo)
 have h5:mu p (oz a)=0+1:=by
  rw [hmu]at h4 ⊢
  omega
 obtain⟨h6,h7⟩:=xS hp ho.ne h5
 have h8:1≤mu p (bT (oz a)):=(jA hp h6).2 (by rw [show p^1=p by rw [pow_succ',eK];grind];exact hpd.trans h2)
 omega
theorem aoi{s n:Nat}{a:ZX}(h:qL s n a)(h0:a≠0)(AG:1≤n)(hC:(qb (qb s n) n+n+6)*4^n≤4500000000)(hs:qb s n≤5000000):pD (qb s n) n (oz (nf a)):=by
 have na:=jB h0
 have no:=adq na
 have hb:BZ (qb s n) n (oz (nf a)):=h.nfz.dv na no (JB na _ _)
 exact⟨⟨hb,h.hn,Nat.le_trans h.hs (Nat.pow_le_pow_right (by decide) (by unfold qb;omega)),hC⟩,AG,no,J0 no (aoh na),hs⟩
theorem aej{s n:Nat}{a:ZX}(h:qL s n a)(h0:a≠0)(AG:1≤n)(hC:(qb (qb s n) n+n+6)*4^n≤4500000000)(hs:qb s n≤20000):aF env.P 255 [Po a.l] (aN (ga (oz (nf a))) (JZ (qb s n) n (oz (nf a)))):=
 have I:=aoi h h0 AG hC (by omega)
 S8 (ahu h h0) (S5 I.ahW I) rfl
theorem aek{a b:ZX}(na:Nf a)(nb:Nf b)(h:∀p,oL p→mu p a=mu p b):a=b:=by
 have h1:=(j2 na.ne nb.ne).2 fun p hp=>Nat.le_of_eq (h p hp)
 have h2:=(j2 nb.ne na.ne).2 fun p hp=>Nat.le_of_eq (h p hp).symm
 have:=rU h1 h2
 rwa [na.nfe,nb.nfe]at this
theorem ael(q:Rat):bT (dP q)=K (q.den:Int):=ext fun t=>by
 rw [NM,wB]
 refine R8 fun h=>⟨0,?_⟩
 rw [dP,ZC,ZC]
 simp only [V]
 grind
theorem WH{F:ZX}{v:Rat→Nat}(nF:Nf F)(cF:wN F (bT F))(SF:s7 F v)(hF:ZX.N F≤20){t hi:Rat}(h:t<hi)(hv:v t=v hi):∀(m:Nat) (p:ZX),ZX.N p≤m→p≠0→(∀q,oL q→min (mu q p) 1≤mu q F) → ∀s,t<s→s≤hi→e s p≠0∧bZ (e s p)=bZ (e hi p)
 | 0,p,hm,h0,_,_,_,_=>absurd hm (by have:=ZX.aE.1 h0;omega)
 | m+1,p,hm,h0,hmu,s,h1,h2=>by
  have hN:=ZX.aE.1 h0
  by_cases RV:ZX.N p≤1
  ·obtain⟨c,hc,rfl⟩:=ZX.lA (x:=p) (by omega)
   rw [zV,zV]
   exact⟨fun h=>hc (Rat.intCast_eq_zero_iff.1 h),rfl⟩
  obtain⟨nf,hf⟩:=mC h0
  have hd:dv (sq p) F:=(j2 nf.ne nF.ne).2 fun q hq=>by rw [hf q hq];exact hmu q hq
  obtain⟨w,S⟩:=uR (h:=sq p) nF cF
  have hg:gz F (sq p)=sq p:=Nf.rV S.ng nf fun q hq=>by
   rw [(fG F (sq p)).mu nF.ne nf.ne hq]
   have:=(j2 nf.ne nF.ne).1 hd q hq
   omega
  rw [hg]at S
  have hSN:=S.N
  have Sw:=ON S.nw.ne S.sw (by omega)
  have Sf:=ON S.ng.ne S.sg (by omega)
  have c1:=S.O5 SF Sf Sw (Rat.le_of_lt h)
  have m1:=Sf.cR (Rat.le_of_lt h)
  have m2:=Sw.cR (Rat.le_of_lt h)
  have m3:=Sf.cR (Rat.le_of_lt h1)
  have m4:=Sf.cR h2
  obtain⟨f1,f2⟩:=Sf.flat h1 (by omega)
  have f3:bZ (e hi (sq p))=bZ (e s (sq p)):=by
   rcases Rat.le_iff_lt_or_eq.1 h2 with h3 | h3
   ·exact(Sf.flat h3 (by omega)).2 f1
   ·rw [h3]
  obtain⟨c,hc,q,hq⟩:=wK h0
  have O3:q≠0:=fun h=>by
   rw [h]at hq
   exact ZX.oK (ZX.pB hc) h0 (by rw [hq];grind)
  have D5:=congrArg ZX.N hq
  rw [ZX.k9 (ZX.pB hc) h0,ZX.N_K hc,ZX.k9 O3 nf.ne]at D5
  have hfN:2≤ZX.N (sq p):=Nat.not_lt.1 fun h3=>by
   obtain⟨d,UQ,QB⟩:=nE _ p (Nat.le_refl _) (by omega)
   have h5:=hf d UQ
   have h6:=(jA UQ h0 (k:=1)).2 (by rw [pow_succ',eK,show(1:ZX)*d=d by grind];exact QB)
   rw [nf.N1 (by omega),I6 UQ]at h5
   omega
  have hqm:∀r,oL r→min (mu r q) 1≤mu r F:=fun r hr=>by
   have h3:=hmu r hr
   have h4:=congrArg (mu r) hq
   rw [rT hr (ZX.pB hc) h0,rT hr O3 nf.ne,ZF hr hc]at h4
   omega
  obtain⟨q1,q2⟩:=WH nF cF SF hF h hv m q (by omega) O3 hqm s h1 h2
  have hcr:(c:Rat)≠0:=fun h=>hc (Rat.intCast_eq_zero_iff.1 h)
  have g:∀x,(c:Rat)*e x p=e x q*e x (sq p):=fun x=>by rw [←zV (t:=x) c,←iJ,hq,iJ]
  refine⟨fun h3=>?_,?_⟩
  ·have h4:=g s
   rw [h3,Rat.mul_zero]at h4
   rcases Rat.mul_eq_zero.1 h4.symm with h5 | h5
   ·exact q1 h5
   ·exact f1 h5
  ·rw [x6 hcr (g s),x6 hcr (g hi),q2,f3]
theorem uS(t:Rat):(dP t).l = [-t.num,(t.den:Int)]:=jH (x:=(t.den:Int)) (by have:=t.den_nz;omega) [-t.num]
theorem ahY{x:List Int}{n d:Int}(hN:aF env.P 64 [Po x] (Po x))(hM:aF env.P 90 [T2 n d, .sl []] (T2 n d)):aF env.P 192 [.ag (G9 x n d n d)] (.ag (G9 x n d n d)):=by
 simp only [G9]
 refine cD [(0, .ag (G9 x n d n d))] Tryz.func192 ?_
 refine aA [1,2] ?_
 refine nK ?_
 refine cU hN ?_
 refine cU hM ?_
 refine aC hM ?_
 (try (refine bC (of_decide_eq_true (by kernel_rfl)) ?_));(try simp (maxSteps:=4000000) (disch:=omega) [gw]);(repeat rw [if_pos (by kernel_rfl)]);(try simp (maxSteps:=4000000) (disch:=omega) [gw])
 refine bG [2] ?_
 exact cC
theorem Z8{x:List Int}{n d:Int}(hc:aF env.P 86 [T2 n d,T2 n d] (.int .i64 0)):aF env.P 193 [.ag (G9 x n d n d)] (.bool true):=by
 simp only [G9]
 refine cD [(0, .ag (G9 x n d n d))] Tryz.func193 ?_
 refine aA [1] ?_
 refine aR [2] hc ?_
 exact cC
theorem aem{q x:List Int}{n d r:Int}(hl:q.length<1000000)(hr:q.length=0→r=0)(hq:aF env.P 64 [Po q] (Po q))(hN:aF env.P 64 [Po x] (Po x))(hM:aF env.P 90 [T2 n d, .sl []] (T2 n d))(hc:aF env.P 86 [T2 n d,T2 n d] (.int .i64 0))(hs:aF env.P 87 [Po q,T2 n d] (.int .i64 r)) :
  aF env.P 246 [Po q, .ag (G9 x n d n d)] (.int .i64 r):=by
 have k1:=ahY hN hM
 have k2:=Z8 (x:=x) hc
 simp only [G9]at k1 k2 ⊢
 refine cD [(0,Po q),(1, .ag (G9 x n d n d))] Tryz.func246 ?_
 refine aA [0,3] ?_
 refine nK ?_
 refine cU hq ?_
 refine aC k1 ?_
 (try (refine bC (of_decide_eq_true (by kernel_rfl)) ?_));(try simp (maxSteps:=4000000) (disch:=omega) [gw]);(repeat rw [if_pos (by kernel_rfl)]);(try simp (maxSteps:=4000000) (disch:=omega) [gw])
 (try (refine bC (of_decide_eq_true (by kernel_rfl)) ?_));(try simp (maxSteps:=4000000) (disch:=omega) [gw]);(repeat rw [if_pos (by kernel_rfl)]);(try simp (maxSteps:=4000000) (disch:=omega) [gw])
 refine bG [0,3] ?_
 refine W.seq ?_
 by_cases h0:q.length=0
 ·rw [hr h0]
  refine aA [0,3,14] ?_
  refine bJ ?_ ?_<;>intro h
  ·refine aA [4] ?_
   exact cC
  ·simp at h;exact absurd (List.eq_nil_of_length_eq_zero h0) h
 ·refine aA [0,3,14] ?_
  refine bJ ?_ ?_<;>intro h
  ·simp at h;rw [h]at h0;exact absurd rfl h0
  refine W.skip ?_
  refine W.seq ?_
  refine aR [0,3,16] k2 ?_
  refine bJ ?_ ?_<;>intro h
  ·refine aR [4] hs ?_
   exact cC
  ·simp at h
theorem Z9{x:List Int}{an ad bn bd:Int}(hN:aF env.P 64 [Po x] (Po x))(h1:aF env.P 90 [T2 an ad, .sl []] (T2 an ad))(h2:aF env.P 90 [T2 bn bd, .sl []] (T2 bn bd)):aF env.P 192 [.ag (G9 x an ad bn bd)] (.ag (G9 x an ad bn bd)):=by
 simp only [G9]
 refine cD [(0, .ag (G9 x an ad bn bd))] Tryz.func192 ?_
 refine aA [1,2] ?_
 refine nK ?_
 refine cU hN ?_
 refine cU h1 ?_
 refine aC h2 ?_
 (try (refine bC (of_decide_eq_true (by kernel_rfl)) ?_));(try simp (maxSteps:=4000000) (disch:=omega) [gw]);(repeat rw [if_pos (by kernel_rfl)]);(try simp (maxSteps:=4000000) (disch:=omega) [gw])
 refine bG [2] ?_
 exact cC
theorem uT{x:List Int}{an ad bn bd z:Int}(hc:aF env.P 86 [T2 an ad,T2 bn bd] (.int .i64 z)):aF env.P 193 [.ag (G9 x an ad bn bd)] (.bool (decide (0≤z))):=by
 simp only [G9]
 refine cD [(0, .ag (G9 x an ad bn bd))] Tryz.func193 ?_
 refine aA [1] ?_
 refine aR [2] hc ?_
 exact cC
theorem aen{q q':List Int}{n d s s':Int}(h1:aF env.P 87 [Po q,T2 n d] (.int .i64 s))(h2:aF env.P 85 [Po q] (Po q'))(h3:aF env.P 87 [Po q',T2 n d] (.int .i64 s')):aF env.P 197 [Po q,T2 n d] (.int .i64 (if s=0 then s' else s)):=by
 refine cD [(0,Po q),(1,T2 n d)] Tryz.func197 ?_
 refine aA [0,3] ?_
 refine W.seq ?_
 refine aR [0,3,5] h1 ?_
 by_cases h0:s=0
 ·rw [if_pos h0]
  refine aA [0,3,5,10] ?_
  refine bJ ?_ ?_<;>intro h
  ·simp at h;exact absurd h0 h
  refine W.skip ?_
  refine nK ?_
  refine cU h2 ?_
  refine cQ [4] h3 ?_
  exact cC
 ·rw [if_neg h0]
  refine aA [0,3,5,10] ?_
  refine bJ ?_ ?_<;>intro h
  ·refine aA [4] ?_
   exact cC
  ·simp at h;exact absurd h h0
theorem aeo{q:List Int}{an ad bn bd s w:Int}(h1:aF env.P 87 [Po q,T2 bn bd] (.int .i64 s))(h2:aF env.P 197 [Po q,T2 an ad] (.int .i64 w)):aF env.P 195 [Po q,T2 an ad,T2 bn bd] (.bool (decide (s=0∨s≠w))):=by
 refine cD [(0,Po q),(1,T2 an ad),(2,T2 bn bd)] Tryz.func195 ?_
 refine aA [0,4,5] ?_
 refine aR [0,4,7] h1 ?_
 by_cases h0:s=0
 ·subst h0
  refine aA [6] ?_
  exact cC
 ·have hb:(s==0)=false:=by simpa using h0
  refine W.sr ?_
  simp (disch:=omega) [gw,hb]
  refine aC h2 ?_
  simp (disch:=omega) [gw,hb]
  refine bG [6] ?_
  refine W.ret ?_
  simp [go,h0]
  by_cases hsw:s=w<;>simp [hsw]
theorem S9{x:List Int}{an ad bn bd tn td r:Int}(hp:aF env.P 193 [.ag (G9 x an ad bn bd)] (.bool true))(hc:aF env.P 86 [T2 an ad,T2 tn td] (.int .i64 r)):aF env.P 111 [.ag (G9 x an ad bn bd),T2 tn td] (.int .i64 r):=by
 simp only [G9]at *
 refine cD [(0, .ag (G9 x an ad bn bd)),(1,T2 tn td)] Tryz.func111 ?_
 refine bV [2,3] ?_
 refine W.block ?_
 refine aR [2,3,6] hp ?_
 refine bJ ?_ ?_<;>intro h
 ·refine aR [4] hc ?_
  exact cC
 ·simp at h
theorem rZ{x:List Int}{an ad bn bd tn td z1 z2 s w r:Int}(hp:aF env.P 193 [.ag (G9 x an ad bn bd)] (.bool false))(h1:aF env.P 86 [T2 tn td,T2 an ad] (.int .i64 z1))(h2:aF env.P 86 [T2 tn td,T2 bn bd] (.int .i64 z2))(h3:aF env.P 87 [Po x,T2 tn td] (.int .i64 s))(h4:aF env.P 197 [Po x,T2 an ad] (.int .i64 w))
  (hr:r=if z1≤0 then 1 else if 0<z2 then -1 else if s=0 then 0 else if s=w then 1 else -1):aF env.P 111 [.ag (G9 x an ad bn bd),T2 tn td] (.int .i64 r):=by
 simp only [G9]at *
 refine cD [(0, .ag (G9 x an ad bn bd)),(1,T2 tn td)] Tryz.func111 ?_
 refine bV [2,3] ?_
 refine W.block ?_
 refine aR [2,3,6] hp ?_
 refine bJ ?_ ?_<;>intro h
 ·simp at h
 refine aR [2,3,13] h1 ?_
 refine bJ ?_ ?_<;>intro h
 ·have h0:z1≤0:=by simpa using h
  rw [if_pos h0]at hr;subst hr
  refine aA [4] ?_
  exact cC
 have h0:¬z1≤0:=by simpa using h
 rw [if_neg h0]at hr
 refine aR [2,3,19] h2 ?_
 refine bJ ?_ ?_<;>intro h
 ·have h0:0<z2:=by simpa using h
  rw [if_pos h0]at hr;subst hr
  refine aA [4] ?_
  exact cC
 have h0:¬0<z2:=by simpa using h
 rw [if_neg h0]at hr
 refine W.skip ?_
 refine aR [2,5] h3 ?_
 refine W.seq ?_
 refine W.block ?_
 refine aA [2,5,29] ?_
 refine bJ ?_ ?_<;>intro h
 ·have h0:s=0:=by simpa using h
  rw [if_pos h0]at hr;subst hr
  refine aA [4] ?_
  exact cC
 have h0:¬s=0:=by simpa using h
 rw [if_neg h0]at hr
 refine aR [32] h4 ?_
 refine bJ ?_ ?_<;>intro h
 ·have h0:s=w:=by simpa using h
  rw [if_pos h0]at hr;subst hr
  refine aA [4] ?_
  exact cC
 ·have h0:¬s=w:=by simpa using h
  rw [if_neg h0]at hr;subst hr
  refine W.skip ?_
  refine aA [4] ?_
  exact cC
theorem aep{x:List Int}{an ad bn bd:Int}(hp:aF env.P 193 [.ag (G9 x an ad bn bd)] (.bool true)):aF env.P 254 [.ag (G9 x an ad bn bd)] (.ag (G9 x an ad bn bd)):=by
 simp only [G9]at *
 refine cD [(0, .ag (G9 x an ad bn bd))] Tryz.func254 ?_
 refine aA [1,2] ?_
 refine W.seq ?_
 refine aR [1,2,5] hp ?_
 refine bJ ?_ ?_<;>intro h
 ·refine aA [2] ?_
  exact cC
 ·simp at h
theorem aaa{x:List Int}{an ad bn bd mn md c:Int}(hp:aF env.P 193 [.ag (G9 x an ad bn bd)] (.bool false))(hm:aF env.P 91 [T2 an ad,T2 bn bd] (T2 mn md))(hc:aF env.P 111 [.ag (G9 x an ad bn bd),T2 mn md] (.int .i64 c)) :
  aF env.P 254 [.ag (G9 x an ad bn bd)] (.ag (if c=0 then G9 x mn md mn md else if c = -1 then G9 x an ad mn md else G9 x mn md bn bd)):=by
 simp only [G9]at *
 refine cD [(0, .ag (G9 x an ad bn bd))] Tryz.func254 ?_
 refine aA [1,2] ?_
 refine W.seq ?_
 refine aR [1,2,5] hp ?_
 refine bJ ?_ ?_<;>intro h
 ·simp at h
 refine W.skip ?_
 refine aR [1,2,3] hm ?_
 refine W.iE (fun σ=>∃(v1 v2:Nat) (rows:Pm.Rows) (clk:Nat),σ=⟨fa [(1, .ptr 1 v1 0 0),(2, .ptr 2 v2 0 0)],rows,clk⟩∧rows 1=some ⟨v1,54,9,[if c=0 then G9 x mn md mn md else if c = -1 then G9 x an ad mn md else G9 x mn md bn bd]⟩∧rows 2=some ⟨v2,54,9,[[.nil, .bool false, .nil, .bool false, .nil, .bool false, .nil, .bool false, .nil]]⟩) ?_ ?_
 ·refine aR [1,2,3,14] hc ?_
  refine W.block ?_
  refine aA [1,2,3,14,17] ?_
  refine bJ ?_ ?_<;>intro h
  ·have h0:c=0:=by simpa using h
   rw [if_pos h0]
   refine W.LY (fun K hK=>?_)
   simp (disch:=omega) [gw]
   (try (refine bC (of_decide_eq_true (by kernel_rfl)) ?_));(try simp (maxSteps:=4000000) (disch:=omega) [gw]);(repeat rw [if_pos (by kernel_rfl)]);(try simp (maxSteps:=4000000) (disch:=omega) [gw])
   (try (refine bC (of_decide_eq_true (by kernel_rfl)) ?_));(try simp (maxSteps:=4000000) (disch:=omega) [gw]);(repeat rw [if_pos (by kernel_rfl)]);(try simp (maxSteps:=4000000) (disch:=omega) [gw])
   (try (refine bC (of_decide_eq_true (by kernel_rfl)) ?_));(try simp (maxSteps:=4000000) (disch:=omega) [gw]);(repeat rw [if_pos (by kernel_rfl)]);(try simp (maxSteps:=4000000) (disch:=omega) [gw])
   exact hK _ ⟨_,aB _ [1,2],_,_,_,_,rfl,by simp,by simp⟩
  have h0:¬c=0:=by simpa using h
  rw [if_neg h0]
  refine aA [1,2,3,23] ?_
  refine bJ ?_ ?_<;>intro h
  ·have h0:c = -1:=by simpa using h
   rw [if_pos h0]
   refine W.cA (fun K hK=>?_);simp (disch:=omega) [gw]
   exact hK _ ⟨_,aB _ [1,2],_,_,_,_,rfl,by simp,by simp⟩
  ·have h0:¬c = -1:=by simpa using h
   rw [if_neg h0]
   refine W.cA (fun K hK=>?_);simp (disch:=omega) [gw]
   exact hK _ ⟨_,aB _ [1,2],_,_,_,_,rfl,by simp,by simp⟩
 rintro _ ⟨v1,v2,rows,clk,rfl,B6,bS⟩
 by_cases h0:c=0
 ·rw [if_pos h0]at B6 ⊢
  refine W.sr ?_
  simp (disch:=omega) [gw,B6,bS]
  refine bG [2] ?_
  exact cC
 ·rw [if_neg h0]at B6 ⊢
  by_cases h1:c = -1
  ·rw [if_pos h1]at B6 ⊢
   refine W.sr ?_
   simp (disch:=omega) [gw,B6,bS]
   refine bG [2] ?_
   exact cC
  ·rw [if_neg h1]at B6 ⊢
   refine W.sr ?_
   simp (disch:=omega) [gw,B6,bS]
   refine bG [2] ?_
   exact cC
def KM(x:List Int):Nat→Int
 | 0=>0
 | i+1=>if KM x i<bl (aU LL (nth x i).natAbs)then bl (aU LL (nth x i).natAbs)else KM x i
theorem aab{x:List Int}(hl:x.length<1000000)(hB:∀i,i<x.length→aF env.P 257 [us (aU LL (nth x i).natAbs)] (.int .i64 (bl (aU LL (nth x i).natAbs)))∧0≤bl (aU LL (nth x i).natAbs)∧bl (aU LL (nth x i).natAbs)<1000000000000):aF env.P 264 [Po x] (.int .i64 (KM x x.length)):=by
 refine cD [(0,Po x)] Tryz.func264 ?_
 refine aA [0] ?_
 refine aA [0,3] ?_
 refine aP [3,6,7,8] ?_
 refine W.block ?_
 refine W.bE (fun k σ=>∃(i:Nat) (rows:Pm.Rows) (clk:Nat),σ=⟨fa [(3, .int .i64 (KM x i)),(6,Po x),(7, .int .i64 x.length),(8, .int .i64 i)],rows,clk⟩∧(0≤KM x i∧KM x i<1000000000000)∧i+k=x.length) x.length ?_ ?_
 ·exact⟨_, .refl,0,_,_,rfl,⟨by show(0:Int)≤0;decide,by show(0:Int)<_;decide⟩,by omega⟩
 rintro k _ ⟨i,rows,clk,rfl,hb,zT⟩
 refine bV [3,6,7,8,9] ?_
 refine bJ ?_ ?_<;>intro h
 ·have hi:i<x.length:=by simp at h;omega
  obtain⟨h1,h0,h2⟩:=hB i hi
  refine kY ?_
  refine W.sr ?_
  simp (disch:=omega) [gw,hi]
  refine bG [3,5,6,7,8] ?_
  refine W.cA (fun K hK=>?_)
  simp (disch:=omega) [gw]
  refine cU h1 ?_
  rw [show(if KM x i<bl (aU LL (nth x i).natAbs)then bl (aU LL (nth x i).natAbs)else KM x i)=KM x (i+1)from rfl]
  have BJ:0≤KM x (i+1)∧KM x (i+1)<1000000000000:=by rw [KM];split<;>omega
  refine W.lw [3,6,7,8] hK ?_;clear hK K;simp
  refine W.cA (fun K hK=>?_);simp (disch:=omega) [gw]
  refine hK _ ⟨k-1,_,aB _ [3,6,7,8],by omega,i+1,_,_,rfl,BJ,by omega⟩
 ·have hi:i=x.length:=by simp at h;omega
  subst hi
  refine fH ?_
  refine aA [2] ?_
  exact cC
theorem TA{x y:List Int}{an ad bn bd cn cd dn dd b1 b2 b3 b4 zx zy:Int}(hx:x.length≤50)(hy:y.length≤50)(k1:aF env.P 257 [us (aU LL an.natAbs)] (.int .i64 b1))(k2:aF env.P 257 [us (aU LL bn.natAbs)] (.int .i64 b2))(k3:aF env.P 257 [us (aU LL cn.natAbs)] (.int .i64 b3))(k4:aF env.P 257 [us (aU LL dn.natAbs)] (.int .i64 b4))
  (l1:0≤b1∧b1<1000000000000) (l2:0≤b2∧b2<1000000000000) (l3:0≤b3∧b3<1000000000000) (l4:0≤b4∧b4<1000000000000) (sx:aF env.P 264 [Po x] (.int .i64 zx)) (sy:aF env.P 264 [Po y] (.int .i64 zy)) (m1:0≤zx∧zx<1000000000000) (m2:0≤zy∧zy<1000000000000) :
  aF env.P 252 [.ag (G9 x an ad bn bd), .ag (G9 y cn cd dn dd)] (.int .i64 (64+2*(b1+b2+b3+b4)+4*((x.length:Int)+y.length)*(zx+zy+((x.length:Int)+y.length)+8))):=by
 have p1:0≤4*((x.length:Int)+y.length)*(zx+zy+((x.length:Int)+y.length)+8):=Int.mul_nonneg (by omega) (by omega)
 have p2:4*((x.length:Int)+y.length)*(zx+zy+((x.length:Int)+y.length)+8)≤400*3000000000000:=Int.mul_le_mul (by omega) (by omega) (by omega) (by decide)
 simp only [G9]at *
 refine cD [(0, .ag (G9 x an ad bn bd)),(1, .ag (G9 y cn cd dn dd))] Tryz.func252 ?_
 refine aA [2,3] ?_
 refine aA [2,3,5] ?_
 refine nK ?_
 refine cU k1 ?_
 refine cU k2 ?_
 refine cU k3 ?_
 refine cQ [2,3,5,6] k4 ?_
 refine nK ?_
 refine cU sx ?_
 refine cQ [4] sy ?_
 exact cC
theorem TB{q x g:List Int}{an ad bn bd dg:Int}(hl:0<q.length)(KH:q.length<1000000)(hq:aF env.P 64 [Po q] (Po q))(hN:aF env.P 192 [.ag (G9 x an ad bn bd)] (.ag (G9 x an ad bn bd)))(hp:aF env.P 193 [.ag (G9 x an ad bn bd)] (.bool false))(hG:aF env.P 194 [.sl [[Po q],[Po x]]] (Po g))(hD:aF env.P 83 [Po g] (.int .i64 dg))(h0:0<dg)
  (hh:aF env.P 195 [Po g,T2 an ad,T2 bn bd] (.bool true)):aF env.P 246 [Po q, .ag (G9 x an ad bn bd)] (.int .i64 0):=by
 have nJ:q ≠ []:=fun h=>by rw [h]at hl;simp at hl
 simp only [G9]at *
 refine cD [(0,Po q),(1, .ag (G9 x an ad bn bd))] Tryz.func246 ?_
 refine aA [0,3] ?_
 refine nK ?_
 refine cU hq ?_
 refine aC hN ?_
 (try (refine bC (of_decide_eq_true (by kernel_rfl)) ?_));(try simp (maxSteps:=4000000) (disch:=omega) [gw]);(repeat rw [if_pos (by kernel_rfl)]);(try simp (maxSteps:=4000000) (disch:=omega) [gw])
 (try (refine bC (of_decide_eq_true (by kernel_rfl)) ?_));(try simp (maxSteps:=4000000) (disch:=omega) [gw]);(repeat rw [if_pos (by kernel_rfl)]);(try simp (maxSteps:=4000000) (disch:=omega) [gw])
 refine bG [0,3] ?_
 refine aP [0,3,14] ?_
 refine bJ ?_ ?_<;>intro h
 ·simp at h;exact absurd h nJ
 refine W.skip ?_
 refine W.seq ?_
 refine aR [0,3,16] hp ?_
 refine bJ ?_ ?_<;>intro h
 ·simp at h
 refine W.skip ?_
 refine W.seq ?_
 refine aR [0,3,5] hG ?_
 refine jG ?_
 refine aC hD ?_
 simp (disch:=omega) [gw,h0]
 refine cQ [0,3,36] hh ?_
 refine bJ ?_ ?_<;>intro h
 ·refine aA [4] ?_
  exact cC
 ·simp at h
theorem aeq{α:Type}{gc:α→List PV}{q x g:List Int}{C:List α}{an ad bn bd:Nat→Int}{dg r:Int}{N J:Nat}(hl:0<q.length)(KH:q.length<1000000)(hq:aF env.P 64 [Po q] (Po q))(hN:aF env.P 192 [.ag (G9 x (an 0) (ad 0) (bn 0) (bd 0))] (.ag (G9 x (an 0) (ad 0) (bn 0) (bd 0))))(hp:aF env.P 193 [.ag (G9 x (an 0) (ad 0) (bn 0) (bd 0))] (.bool false))(hG:aF env.P 194 [.sl [[Po q],[Po x]]] (Po g))
  (hD:aF env.P 83 [Po g] (.int .i64 dg)) (hh:0<dg→aF env.P 195 [Po g,T2 (an 0) (ad 0),T2 (bn 0) (bd 0)] (.bool false)) (hC:aF env.P 69 [Po q] (.dU [.rd [aN gc C], .int .i64 0])) (hs:aF env.P 252 [.ag (G9 x (an 0) (ad 0) (bn 0) (bd 0)), .ag (G9 q 0 0 0 0)] (.int .i64 N)) (D5:N<1000000000000000)
  (hb:∀j,j<J→aF env.P 193 [.ag (G9 x (an j) (ad j) (bn j) (bd j))] (.bool false)∧(∃z:Int,aF env.P 88 [.rd [aN gc C],T2 (an j) (ad j),T2 (bn j) (bd j)] (.int .i64 z)∧(z==0)=false)∧aF env.P 254 [.ag (G9 x (an j) (ad j) (bn j) (bd j))] (.ag (G9 x (an (j+1)) (ad (j+1)) (bn (j+1)) (bd (j+1)))))
  (hJ:J≤N) (iQ:J<N→aF env.P 193 [.ag (G9 x (an J) (ad J) (bn J) (bd J))] (.bool true)∨aF env.P 193 [.ag (G9 x (an J) (ad J) (bn J) (bd J))] (.bool false)∧aF env.P 88 [.rd [aN gc C],T2 (an J) (ad J),T2 (bn J) (bd J)] (.int .i64 0)) (hr:aF env.P 87 [Po q,T2 (bn J) (bd J)] (.int .i64 r)) :
  aF env.P 246 [Po q, .ag (G9 x (an 0) (ad 0) (bn 0) (bd 0))] (.int .i64 r):=by
 have nJ:q ≠ []:=fun h=>by rw [h]at hl;simp at hl
 replace hs:aF env.P 252 [.ag (G9 x (an 0) (ad 0) (bn 0) (bd 0)), .ag [Po q, .bool false, .sl [], .bool false, .sl [], .bool false, .sl [], .bool false, .sl []]] (.int .i64 N):=hs
 simp only [G9]at *
 refine cD [(0,Po q),(1, .ag (G9 x (an 0) (ad 0) (bn 0) (bd 0)))] Tryz.func246 ?_
 refine aA [0,3] ?_
 refine nK ?_
 refine cU hq ?_
 refine aC hN ?_
 (try (refine bC (of_decide_eq_true (by kernel_rfl)) ?_));(try simp (maxSteps:=4000000) (disch:=omega) [gw]);(repeat rw [if_pos (by kernel_rfl)]);(try simp (maxSteps:=4000000) (disch:=omega) [gw])
 (try (refine bC (of_decide_eq_true (by kernel_rfl)) ?_));(try simp (maxSteps:=4000000) (disch:=omega) [gw]);(repeat rw [if_pos (by kernel_rfl)]);(try simp (maxSteps:=4000000) (disch:=omega) [gw])
 refine bG [0,3] ?_
 refine aP [0,3,14] ?_
 refine bJ ?_ ?_<;>intro h
 ·simp at h;exact absurd h nJ
 refine W.skip ?_
 refine W.seq ?_
 refine aR [0,3,16] hp ?_
 refine bJ ?_ ?_<;>intro h
 ·simp at h
 refine W.skip ?_
 refine W.seq ?_
 refine aR [0,3,5] hG ?_
 refine W.fA (fun σ=>∃(v3:Nat) (rows:Pm.Rows) (clk:Nat),σ=⟨fa [(0,Po q),(3, .ptr 3 v3 0 0),(36, .bool false)],rows,clk⟩∧rows 3=some ⟨v3,54,9,[G9 x (an 0) (ad 0) (bn 0) (bd 0)]⟩) (fun K hK=>?_) ?_
 ·by_cases h0:0<dg
  ·have hh':=hh h0
   simp (disch:=omega) [gw]
   refine aC hD ?_
   simp (disch:=omega) [gw,h0]
   refine cU hh' ?_
   refine hK _ _ (aB _ [0,3,36]) ⟨_,_,_,rfl,by simp⟩
  ·simp (disch:=omega) [gw]
   refine aC hD ?_
   simp (disch:=omega) [gw,h0]
   refine hK _ _ (aB _ [0,3,36]) ⟨_,_,_,rfl,by simp⟩
 rintro _ ⟨v3,rows,clk,rfl,b8⟩
 simp only [G9]at b8
 refine bJ ?_ ?_<;>intro h
 ·simp at h
 refine W.skip ?_
 refine aR [0,3,6] hC ?_
 refine W.iE (fun σ=>∃(v3:Nat) (rows:Pm.Rows) (clk:Nat),σ=⟨fa [(0,Po q),(3, .ptr 3 v3 0 0)],rows,clk⟩∧rows 3=some ⟨v3,54,9,[G9 x (an J) (ad J) (bn J) (bd J)]⟩) ?_ ?_
 ·refine W.sr ?_
  simp (disch:=omega) [gw,b8]
  refine cQ [0,3,6,45,46] hs ?_
  refine W.block ?_
  refine W.bE (fun k σ=>∃(j v3:Nat) (rows:Pm.Rows) (clk:Nat),σ=⟨fa [(0,Po q),(3, .ptr 3 v3 0 0),(6, .rd [aN gc C]),(45, .int .i64 N),(46, .int .i64 j)],rows,clk⟩∧rows 3=some ⟨v3,54,9,[G9 x (an j) (ad j) (bn j) (bd j)]⟩∧j+k=J) J ?_ ?_
  ·exact⟨_, .refl,0,_,_,_,rfl,by simp [b8],by omega⟩
  rintro k _ ⟨j,v3,rows,clk,rfl,b8,hjk⟩
  simp only [G9]at b8
  refine bV [0,3,6,45,46,47] ?_
  refine bJ ?_ ?_<;>intro h
  ·have hjN:j<N:=by simp at h;omega
   refine kY ?_
   refine W.seq ?_
   by_cases hjJ:j<J
   ·obtain⟨g1,⟨z,g2,g3⟩,g4⟩:=hb j hjJ
    refine W.sr ?_
    simp (disch:=omega) [gw,b8]
    refine aC g1 ?_
    simp (disch:=omega) [gw,b8]
    refine aC g2 ?_
    simp (disch:=omega) [gw,g3]
    refine bG [0,3,6,45,46,58] ?_
    refine bJ ?_ ?_<;>intro h
    ·simp at h
    refine W.skip ?_
    refine W.cA (fun K hK=>?_)
    simp (disch:=omega) [gw,b8]
    refine aC g4 ?_
    simp (disch:=omega) [gw,b8]
    refine W.lw [0,3,6,45,46] hK ?_;clear hK K;simp
    refine W.cA (fun K hK=>?_);simp (disch:=omega) [gw]
    refine hK _ ⟨k-1,_,aB _ [0,3,6,45,46],by omega,j+1,v3,_,_,rfl,by simp,by omega⟩
   ·have hjE:j=J:=by omega
    subst hjE
    rcases iQ hjN with g1 | ⟨g1,g2⟩
    ·refine W.sr ?_
     simp (disch:=omega) [gw,b8]
     refine cQ [0,3,6,45,46,58] g1 ?_
     refine bJ ?_ ?_<;>intro h
     ·refine fH ?_
      exact⟨_,aB _ [0,3],_,_,_,rfl,b8⟩
     ·simp at h
    ·refine W.sr ?_
     simp (disch:=omega) [gw,b8]
     refine aC g1 ?_
     simp (disch:=omega) [gw,b8]
     refine cQ [0,3,6,45,46,58] g2 ?_
     refine bJ ?_ ?_<;>intro h
     ·refine fH ?_
      exact⟨_,aB _ [0,3],_,_,_,rfl,b8⟩
     ·simp at h
  ·have hjE:j=J:=by simp at h;omega
   subst hjE
   refine fH ?_
   exact⟨_,aB _ [0,3],_,_,_,rfl,b8⟩
 rintro _ ⟨v3,rows,clk,rfl,b8⟩
 simp only [G9]at b8
 refine W.sr ?_
 simp (disch:=omega) [gw,b8]
 refine cQ [4] hr ?_
 exact cC
theorem ahZ{s k:Nat}{p:ZX}{x:List Int}{an ad bn bd:Int}(sg:ZX→Int)(h0:sg 0=0)(hp:BZ s k p)(hk:k≤31)(hs:s≤1000000)(SC:∀(q:ZX) (s':Nat),s'≤s+5*k→BZ s' k q→aF env.P 246 [Po q.l, .ag (G9 x an ad bn bd)] (.int .i64 (sg q))) :
  aF env.P 185 [Po p.l, .ag (G9 x an ad bn bd)] (.int .i64 (WG sg (ZX.N p) p)):=by
 have h1:∀(q:ZX) (s':Nat),s'≤s+5*k→BZ s' k q→aF env.P 245 [Po q.l, .rd (G9 x an ad bn bd)] (.int .i64 (sg q)):=fun q s' zZ bq=>by
  have k6:=SC q s' zZ bq
  simp only [G9]at k6 ⊢
  generalize sg q=r at *
  refine cD [(0,Po q.l),(1, .rd (G9 x an ad bn bd))] Tryz.func245 ?_
  refine aA [0,1] ?_
  refine aR [3] k6 ?_
  exact cC
 have F1:=S7 245 rfl [.rd (G9 x an ad bn bd)] rfl sg h0 hp hk hs h1
 simp only [G9]at F1 ⊢
 generalize WG sg (ZX.N p) p=r at *
 refine cD [(0,Po p.l),(1, .ag (G9 x an ad bn bd))] Tryz.func185 ?_
 refine aA [0,3] ?_
 refine aR [4] F1 ?_
 exact cC
theorem r5{u:Nat}(q:ZX){s' k:Nat}(bq:BZ s' k q)(hs:s'≤1000000000)(hk:k≤100){t:Rat}(qt:SQ u t)(hu:u≤1000000000):aF env.P 87 [Po q.l,RT t] (.int .i64 (bZ (e t q))):=by
 have hm:k*(u+1)≤100*(u+1):=Nat.mul_le_mul_right _ hk
 have k2:=GX (NY bq) q.c qt.nL qt.dL qt.hu (by omega) (by omega) (by omega) (aY t) ⟨qt.nL,qt.dL⟩
 rwa [AQ]at k2
section
variable {s n u:Nat} {f:ZX} (I:pD s n f)
include I
theorem AS(hs:s≤1000000){t:Rat}(qt:SQ u t)(hu:u≤1000000000):aF env.P 197 [Po f.l,RT t] (.int .i64 (DQ f t)):=by
 have hn:=I.ch.hn
 have h1:=r5 f I.ch.bz (by omega) (by omega) qt hu
 have h2:=pY I.ch.bz (by omega) (by omega)
 have h3:=r5 (bT f) (I.ch.bz.bT (by omega)) (by omega) (by omega) qt hu
 have:=aen (n:=t.num) (d:=t.den) h1 h2 h3
 have e1:(if bZ (e t f)=0 then bZ (e t (bT f))else bZ (e t f))=DQ f t:=by
  unfold DQ
  by_cases h:e t f=0
  ·rw [if_pos h,if_pos (by rw [h,jD])]
  ·rw [if_neg h,if_neg (fun h0=>h (eX.1 h0))]
 rw [e1]at this
 exact this
theorem aer(hs:s≤1000000){p:Rat × Rat}(A:s8 f (vt (bK f)) p.1 p.2){m:Rat}(h1:p.1<m)(h2:m≤p.2)(q1:SQ u p.1)(q2:SQ u p.2)(qm:SQ u m)(hu:u≤1000000000) :
  aF env.P 111 [GA f p,RT m] (.int .i64 (if e m f=0 then 0 else if vt (bK f) m<vt (bK f) p.1 then -1 else 1)):=by
 have dN:p.1<p.2:=by grind
 have z0:=c7 q1.nL q1.dL q2.nL q2.dL (by omega) (aY p.1) (aY p.2) ⟨q1.nL,q1.dL⟩ ⟨q2.nL,q2.dL⟩
 have z1:=c7 qm.nL qm.dL q1.nL q1.dL (by omega) (aY m) (aY p.1) ⟨qm.nL,qm.dL⟩ ⟨q1.nL,q1.dL⟩
 have z2:=c7 qm.nL qm.dL q2.nL q2.dL (by omega) (aY m) (aY p.2) ⟨qm.nL,qm.dL⟩ ⟨q2.nL,q2.dL⟩
 have hp:=uT (x:=f.l) z0
 have nT:¬0≤dH (p.1.num*(p.2.den:Int)) (p.2.num*(p.1.den:Int)):=by have:=(gN (p:=p.1) (q:=p.2)).2 dN;omega
 rw [decide_eq_false nT]at hp
 have SC:=r5 f I.ch.bz (by omega) (by have:=I.ch.hn;omega) qm hu
 have hlw:=AS I hs q1 hu
 refine rZ hp z1 z2 SC hlw ?_
 have g1:¬dH (m.num*(p.1.den:Int)) (p.1.num*(m.den:Int))≤0:=fun h=>absurd (pE.1 h) (Rat.not_le.2 h1)
 have g2:¬0<dH (m.num*(p.2.den:Int)) (p.2.num*(m.den:Int)):=fun h=>absurd (gM.1 h) (Rat.not_lt.2 h2)
 have J5:=I.S.par (Rat.le_of_lt h1)
 have hv:vt (bK f) p.1=vt (bK f) p.2+1:=by
  rcases A.k with ⟨h,_⟩ | ⟨_,h⟩
  ·rw [h]at dN;exact absurd dN Rat.lt_irrefl
  ·exact h
 have m1:=I.S.cR (Rat.le_of_lt h1)
 have m2:=I.S.cR h2
 rw [if_neg g1,if_neg g2]
 by_cases h0:e m f=0
 ·rw [if_pos h0,if_pos (by rw [h0,jD])]
 ·have h3:¬bZ (e m f)=0:=fun h=>h0 (eX.1 h)
  rw [if_neg h0,if_neg h3]
  have h4:DQ f m=bZ (e m f):=by unfold DQ;rw [if_neg h0]
  rw [h4]at J5
  by_cases h5:vt (bK f) m<vt (bK f) p.1
  ·rw [if_pos h5,if_neg]
   intro h6
   rw [show vt (bK f) p.1-vt (bK f) m=1 by omega,show sg1 1 = -1 from rfl]at J5
   omega
  ·rw [if_neg h5,if_pos]
   rw [show vt (bK f) p.1-vt (bK f) m=0 by omega,show sg1 0=1 from rfl,Int.one_mul]at J5
   exact J5
end
def uX(f:ZX)(p:Rat × Rat):Rat × Rat:=if p.1<p.2 then(if e ((p.1+p.2)/2) f=0 then((p.1+p.2)/2,(p.1+p.2)/2)else if vt (bK f) ((p.1+p.2)/2)<vt (bK f) p.1 then(p.1,(p.1+p.2)/2)else((p.1+p.2)/2,p.2))else p
theorem D0{s n u:Nat}{f:ZX}(I:pD s n f)(hs:s≤1000000){p:Rat × Rat}(A:s8 f (vt (bK f)) p.1 p.2)(q1:SQ u p.1)(q2:SQ u p.2)(qm:SQ u ((p.1+p.2)/2))(hu:u≤1000000000):aF env.P 254 [GA f p] (GA f (uX f p)):=by
 have z0:=c7 q1.nL q1.dL q2.nL q2.dL (by omega) (aY p.1) (aY p.2) ⟨q1.nL,q1.dL⟩ ⟨q2.nL,q2.dL⟩
 have hp:=uT (x:=f.l) z0
 unfold uX
 by_cases dN:p.1<p.2
 ·rw [if_pos dN]
  have nT:¬0≤dH (p.1.num*(p.2.den:Int)) (p.2.num*(p.1.den:Int)):=by have:=(gN (p:=p.1) (q:=p.2)).2 dN;omega
  rw [decide_eq_false nT]at hp
  obtain⟨m1,m2⟩:=x9 dN
  have hm:=OJ (q1.LLs (Nat.le_refl _)) (q2.LLs (Nat.le_refl _)) (by omega)
  have hc:=aer I hs A m1 (Rat.le_of_lt m2) q1 q2 qm hu
  generalize (p.1+p.2)/2=m at *
  have k:=aaa hp hm hc
  by_cases h0:e m f=0
  ·rw [if_pos h0,if_pos rfl]at k
   rw [if_pos h0];exact k
  ·rw [if_neg h0]at k
   rw [if_neg h0]
   by_cases h5:vt (bK f) m<vt (bK f) p.1
   ·rw [if_pos h5,if_neg (by decide),if_pos rfl]at k
    rw [if_pos h5];exact k
   ·rw [if_neg h5,if_neg (by decide),if_neg (by decide)]at k
    rw [if_neg h5];exact k
 ·rw [if_neg dN]
  have nT:0≤dH (p.1.num*(p.2.den:Int)) (p.2.num*(p.1.den:Int)):=by
   have:=mt (gN (p:=p.1) (q:=p.2)).1 dN;omega
  rw [decide_eq_true nT]at hp
  exact aep hp
theorem kV{f:ZX}{p:Rat × Rat}(A:s8 f (vt (bK f)) p.1 p.2):s8 f (vt (bK f)) (uX f p).1 (uX f p).2∧(∀t,dI f (uX f p) t↔dI f p t)∧p.1≤(uX f p).1∧(uX f p).2≤p.2∧((uX f p).2-(uX f p).1)*2≤p.2-p.1:=by
 unfold uX
 by_cases dN:p.1<p.2
 ·rw [if_pos dN]
  obtain⟨m1,m2⟩:=x9 dN
  obtain⟨d1,d2⟩:=A.half m1 m2
  have e2:(p.1+p.2)/2*2=p.1+p.2:=Rat.div_mul_cancel (by decide)
  have hr:=fun h0=>A.S.root m2 (t:=p.2) (s:=(p.1+p.2)/2) h0
  generalize (p.1+p.2)/2=m at *
  by_cases h0:e m f=0
  ·rw [if_pos h0]
   have h5:vt (bK f) m<vt (bK f) p.1:=by
    have hv:vt (bK f) p.1=vt (bK f) p.2+1:=by
     rcases A.k with ⟨h,_⟩ | ⟨_,h⟩
     ·rw [h]at dN;exact absurd dN Rat.lt_irrefl
     ·exact h
    refine Nat.not_le.1 fun h6=>?_
    have h7:=A.S.cR (Rat.le_of_lt m1)
    exact(A.S.flat m1 (by omega)).1 h0
   obtain⟨a1,a2⟩:=d1 h5
   obtain⟨b1,b2⟩:=a1.exact h0
   exact⟨b1,fun t=>(b2 t).trans (a2 t),Rat.le_of_lt m1,Rat.le_of_lt m2,by show(m-m)*2≤_;grind⟩
  ·rw [if_neg h0]
   by_cases h5:vt (bK f) m<vt (bK f) p.1
   ·rw [if_pos h5]
    obtain⟨a1,a2⟩:=d1 h5
    exact⟨a1,a2,Rat.le_refl,Rat.le_of_lt m2,by show(m-p.1)*2≤_;grind⟩
   ·rw [if_neg h5]
    obtain⟨a1,a2⟩:=d2 h5
    exact⟨a1,a2,Rat.le_of_lt m1,Rat.le_refl,by show(p.2-m)*2≤_;grind⟩
 ·rw [if_neg dN]
  have:=A.le
  exact⟨A,fun t=>Iff.rfl,Rat.le_refl,Rat.le_refl,by grind⟩
theorem WI{s n u:Nat}{g:ZX}(I:pD s n g)(hs:s≤1000000){lo hi:Rat}(h:lo<hi)(hv:vt (bK g) lo≤vt (bK g) hi+1)(q1:SQ u lo)(q2:SQ u hi)(hu:u≤1000000000):aF env.P 195 [Po g.l,RT lo,RT hi] (.bool (decide (vt (bK g) hi<vt (bK g) lo))):=by
 have h1:=r5 g I.ch.bz (by omega) (by have:=I.ch.hn;omega) q2 hu
 have h2:=AS I hs q1 hu
 have k:=aeo (an:=lo.num) (ad:=lo.den) (bn:=hi.num) (bd:=hi.den) h1 h2
 have m1:=I.S.cR (Rat.le_of_lt h)
 have e1:decide (bZ (e hi g)=0∨bZ (e hi g)≠DQ g lo)=decide (vt (bK g) hi<vt (bK g) lo):=by
  refine decide_eq_decide.2 ?_
  by_cases h0:e hi g=0
  ·refine⟨fun _=>Nat.not_le.1 fun h5=>(I.S.flat h (by omega)).1 h0,fun _ => .inl (by rw [h0,jD])⟩
  ·have h3:bZ (e hi g)≠0:=fun h=>h0 (eX.1 h)
   have J5:=I.S.par (Rat.le_of_lt h)
   have h4:DQ g hi=bZ (e hi g):=by unfold DQ;rw [if_neg h0]
   rw [h4]at J5
   by_cases h5:vt (bK g) hi<vt (bK g) lo
   ·rw [show vt (bK g) lo-vt (bK g) hi=1 by omega,show sg1 1 = -1 from rfl]at J5
    exact⟨fun _=>h5,fun _ => .inr fun h6=>by omega⟩
   ·rw [show vt (bK g) lo-vt (bK g) hi=0 by omega,show sg1 0=1 from rfl,Int.one_mul]at J5
    exact⟨fun h6=>(h6.elim (fun h7=>h3 h7) (fun h7=>h7 J5)).elim,fun h6=>absurd h6 h5⟩
 rw [e1]at k
 exact k
def nQ(f:ZX)(p:Rat × Rat):Nat→Rat × Rat
 | 0=>p
 | j+1=>uX f (nQ f p j)
theorem TC{f:ZX}{p:Rat × Rat}{D j:Nat}{B:Rat}(h1:Gr D B j p.1)(h2:Gr D B j p.2):Gr D B (j+1) (uX f p).1∧Gr D B (j+1) (uX f p).2:=by
 have hm:=h1.KI h2
 unfold uX
 split
 ·split
  ·exact⟨hm,hm⟩
  ·split
   ·exact⟨h1.mono (by omega),hm⟩
   ·exact⟨hm,h2.mono (by omega)⟩
 ·exact⟨h1.mono (by omega),h2.mono (by omega)⟩
theorem OQ{f:ZX}{p:Rat × Rat}(A:s8 f (vt (bK f)) p.1 p.2){D:Nat}{B:Rat}(h1:Gr D B 0 p.1)(h2:Gr D B 0 p.2):∀j,s8 f (vt (bK f)) (nQ f p j).1 (nQ f p j).2∧(∀t,dI f (nQ f p j) t↔dI f p t)∧p.1≤(nQ f p j).1∧(nQ f p j).2≤p.2∧((nQ f p j).2-(nQ f p j).1)*2^j≤p.2-p.1∧Gr D B j (nQ f p j).1∧Gr D B j (nQ f p j).2
 | 0=>⟨A,fun _=>Iff.rfl,Rat.le_refl,Rat.le_refl,by rw [Rat.pow_zero,Rat.mul_one];exact Rat.le_refl,h1,h2⟩
 | j+1=>by
  obtain⟨a1,a2,a3,a4,a5,a6,a7⟩:=OQ A h1 h2 j
  obtain⟨b1,b2,b3,b4,b5⟩:=kV a1
  obtain⟨c1,c2⟩:=TC (f:=f) a6 a7
  refine⟨b1,fun t=>(b2 t).trans (a2 t),by show _≤(uX f (nQ f p j)).1;grind,by show(uX f (nQ f p j)).2≤_;grind,?_,c1,c2⟩
  show((uX f (nQ f p j)).2-(uX f (nQ f p j)).1)*2^(j+1)≤_
  have hP:=gL j
  have g3:=Rat.mul_le_mul_of_nonneg_right b5 (Rat.le_of_lt hP)
  rw [Rat.pow_succ]
  grind
structure Num(U:Rat→Prop):Prop where
 up:∀s t,U s→s≤t→U t
 lo:∃s,¬U s
 hi:∃t,U t
namespace Num
variable {U:Rat→Prop} (H:Num U)
include H
theorem lt{s t:Rat}(h1:¬U s)(h2:U t):s<t:=Rat.not_le.1 fun h=>h1 (H.up t s h2 h)
theorem inter{s t s' t':Rat}(h1:¬U s)(h2:U t)(h3:¬U s')(h4:U t'):∃a b,¬U a∧U b∧s≤a∧s'≤a∧b≤t∧b≤t'∧a<b:=by
 obtain⟨a,a1,a2,a3⟩:∃a,¬U a∧s≤a∧s'≤a:=by
  by_cases h:s≤s'
  ·exact⟨s',h3,h,Rat.le_refl⟩
  ·exact⟨s,h1,Rat.le_refl,by grind⟩
 obtain⟨b,b1,b2,b3⟩:∃b,U b∧b≤t∧b≤t':=by
  by_cases h:t≤t'
  ·exact⟨t,h2,Rat.le_refl,h⟩
  ·exact⟨t',h4,by grind,Rat.le_refl⟩
 exact⟨a,b,a1,b1,a2,a3,b2,b3,H.lt a1 b1⟩
end Num
def Sn(U:Rat→Prop)(q:ZX)(σ:Int):Prop:=∃ε s t:Rat,0<ε∧¬U s∧U t ∧ ∀x,s<x→x≤t→bZ (e x q)=σ∧j7 ε (e x q)
def TD(U:Rat→Prop)(q:ZX):Prop:=∀ε:Rat,0<ε → ∃s t,¬U s∧U t ∧ ∀x,s≤x→x≤t→Ab (e x q) ε
def SgU(U:Rat→Prop)(q:ZX)(σ:Int):Prop:=(σ=0∧TD U q)∨((σ=1∨σ = -1)∧Sn U q σ)
theorem Sn.WJ{U:Rat→Prop}(H:Num U){q:ZX}{σ:Int}(h:Sn U q σ):¬TD U q:=fun h2=>by
 obtain⟨ε,s,t,h0,h1,h2',h3⟩:=h
 obtain⟨s',t',h4,h5,h6⟩:=h2 (ε/2) (by grind)
 obtain⟨a,b,g1,g2,g3,g4,g5,g6,g7⟩:=H.inter h1 h2' h4 h5
 have k1:=(h3 b (by grind) g5).2
 obtain⟨k2,k3⟩:=h6 b (by grind) g6
 rcases k1 with k1 | k1<;>grind
theorem SgU.uniq{U:Rat→Prop}(H:Num U){q:ZX}{σ τ:Int}(h:SgU U q σ)(h':SgU U q τ):σ=τ:=by
 rcases h with ⟨rfl,h⟩ | ⟨h1,h⟩
 ·rcases h' with ⟨rfl,h'⟩ | ⟨_,h'⟩
  ·rfl
  ·exact absurd h (h'.WJ H)
 ·rcases h' with ⟨_,h'⟩ | ⟨_,h'⟩
  ·exact absurd h' (h.WJ H)
  ·obtain⟨ε,s,t,_,h2,h3,h4⟩:=h
   obtain⟨ε',s',t',_,h5,h6,h7⟩:=h'
   obtain⟨a,b,g1,g2,g3,g4,g5,g6,g7⟩:=H.inter h2 h3 h5 h6
   rw [←(h4 b (by grind) g5).1,←(h7 b (by grind) g6).1]
noncomputable def sgU(U:Rat→Prop)(q:ZX):Int:=open Classical in if h:∃σ,SgU U q σ then h.choose else 0
theorem SgU.eq{U:Rat→Prop}(H:Num U){q:ZX}{σ:Int}(h:SgU U q σ):sgU U q=σ:=by
 have h1:∃σ,SgU U q σ:=⟨σ,h⟩
 unfold sgU
 rw [dif_pos h1]
 exact h1.choose_spec.uniq H h
theorem OR{U:Rat→Prop}(H:Num U):TD U 0:=fun ε hε=>by
 obtain⟨s,hs⟩:=H.lo
 obtain⟨t,ht⟩:=H.hi
 refine⟨s,t,hs,ht,fun x _ _=>?_⟩
 have:e x 0=0:=rfl
 rw [this]
 exact⟨by grind,by grind⟩
theorem TD.mul{U:Rat→Prop}(H:Num U){g:ZX}(h:TD U g)(k:ZX):TD U (k*g):=fun ε hε=>by
 obtain⟨s0,hs⟩:=H.lo
 obtain⟨t0,ht⟩:=H.hi
 obtain⟨B,hB,ha,hb⟩:=kT s0 t0
 obtain⟨Q,hQ,hl⟩:=lip k B hB
 obtain⟨M,hM,hm,_⟩:=kT (e s0 k) 0
 have iQ:=H.lt hs ht
 have hC:0<M+(t0-s0)*Q:=by
  have:=Rat.mul_pos (show 0<t0-s0 by grind) hQ;grind
 have hk:∀x,s0≤x→x≤t0→Ab (e x k) (M+(t0-s0)*Q):=fun x h1 h2=>by
  have h3:=hl s0 x ha (cK ha hb h1 h2) h1
  have h4:(x-s0)*Q≤(t0-s0)*Q:=Rat.mul_le_mul_of_nonneg_right (by grind) (Rat.le_of_lt hQ)
  obtain⟨p1,p2⟩:=h3
  obtain⟨p3,p4⟩:=hm
  exact⟨by grind,by grind⟩
 generalize M+(t0-s0)*Q=C at *
 have e1:ε/C*C=ε:=Rat.div_mul_cancel (Rat.ne_of_gt hC)
 obtain⟨s,t,g1,g2,g3⟩:=h (ε/C) ((Rat.lt_div_iff hC).2 (by grind))
 obtain⟨a,b,k1,k2,k3,k4,k5,k6,k7⟩:=H.inter hs ht g1 g2
 refine⟨a,b,k1,k2,fun x h1 h2=>?_⟩
 have h3:=(hk x (by grind) (by grind)).mul (g3 x (by grind) (by grind))
 rw [iJ]
 refine h3.mono ?_
 grind
theorem TD.EX{U:Rat→Prop}{c:Int}(hc:c≠0){q:ZX}(h:TD U (K c*q)):TD U q:=fun ε hε=>by
 obtain⟨s,t,h1,h2,h3⟩:=h ε hε
 refine⟨s,t,h1,h2,fun x h4 h5=>?_⟩
 have h6:=h3 x h4 h5
 rw [iJ,zV]at h6
 have h7:=wH hc
 obtain⟨p1,p2⟩:=h6
 generalize (c:Rat)=C at *
 generalize e x q=y at *
 have key:∀C y:Rat,1≤C→C*y≤ε → -ε≤C*y→Ab y ε:=fun C y h1 h2 h3=>by
  refine⟨Rat.not_lt.1 fun h=>?_,Rat.not_lt.1 fun h=>?_⟩
  ·have:=Rat.mul_le_mul_of_nonneg_right h1 (show 0 ≤ -y by grind);grind
  ·have:=Rat.mul_le_mul_of_nonneg_right h1 (show 0≤y by grind);grind
 rcases h7 with h7 | h7
 ·have:=key (-C) (-y) (by grind) (by grind) (by grind)
  obtain⟨q1,q2⟩:=this
  exact⟨by grind,by grind⟩
 ·exact key C y h7 p2 p1
theorem TD.dv{U:Rat→Prop}(H:Num U){g q:ZX}(h:TD U g)(hd:dv g q):TD U q:=by
 obtain⟨c,hc,k,hk⟩:=hd
 have h1:=h.mul H k
 rw [←hk]at h1
 exact h1.EX hc
theorem OS{U:Rat→Prop}(H:Num U){w:ZX}{φ:Rat→Nat}(S:s7 w φ){s0 t0:Rat}(h1:¬U s0)(h2:U t0)(ht:∀s t,s0≤s→t≤t0→¬U s→U t→φ s≠φ t):TD U w:=fun ε hε=>by
 obtain⟨B,hB,ha,hb⟩:=kT s0 t0
 obtain⟨Q,hQ,hl⟩:=lip w B hB
 have e1:ε/Q*Q=ε:=Rat.div_mul_cancel (Rat.ne_of_gt hQ)
 have e2:0<ε/Q:=(Rat.lt_div_iff hQ).2 (by grind)
 obtain⟨s,t,g1,g2,g3,g4,g5,g6⟩:=WD (U:=U) e2 (H.lt h1 h2) h1 h2
 refine⟨s,t,g5,g6,fun x hx hy=>?_⟩
 have h3:=S.small g2 (ht s t g1 g3 g5 g6) hQ (fun a b q1 q2 q3=>hl a b (cK ha hb (by grind) (by grind)) (cK ha hb (by grind) (by grind)) q2) hx hy
 refine h3.mono ?_
 have h4:=Rat.mul_le_mul_of_nonneg_right g4 (Rat.le_of_lt hQ)
 grind
end Go.Proofs.YtiobceocpabjdaaGreat
