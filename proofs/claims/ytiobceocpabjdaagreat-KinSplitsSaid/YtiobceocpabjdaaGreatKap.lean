import Derived.DeepKeys
import Derived.Test.YtiobceocpabjdaaGreatKai
import Derived.Test.YtiobceocpabjdaaGreatKao
set_option linter.unusedSimpArgs false
set_option linter.unusedVariables false
namespace Go.Proofs.YtiobceocpabjdaaGreat
open Go Pm
def NO(c:A9→A9→Int)(x:A9)(l:List A9):A9:=l.foldl (fun b y=>if c y b<0 then y else b) x
theorem CX{c:A9→A9→Int}:∀ {l:List A9} {x:A9},NO c x l∈x::l
 | [],x=>by simp [NO]
 | y::l,x=>by
  have h:=CX (c:=c) (l:=l) (x:=if c y x<0 then y else x)
  have e:NO c x (y::l)=NO c (if c y x<0 then y else x) l:=rfl
  rw [e]
  rcases List.mem_cons.1 h with h | h
  ·rw [h]
   split<;>simp
  ·exact List.mem_cons_of_mem _ (List.mem_cons_of_mem _ h)
theorem agL{c:A9→A9→Int}{x:A9}{l:List A9}{i:Nat}(h:i<l.length):NO c x (l.take (i+1))=if c (nth l i) (NO c x (l.take i))<0 then nth l i else NO c x (l.take i):=by
 unfold NO
 rw [cE h,List.take_succ_eq_append_getElem h,List.foldl_append]
 rfl
theorem wP{c:A9→A9→Int}{x:A9}{l:List A9}(hl:l.length<1000000)
  (hc:∀y∈l,∀b∈x::l,aE env.P 110 [.ag (b9 y), .ag (b9 b)] (.int .i64 (c y b))) (hf:aE env.P 198 [.ag (b9 (NO c x l))] (.ag (b9 (NO c x l)))) :
  aE env.P 112 [aH b9 (x::l)] (.dX [.ag (b9 (NO c x l)), .bool true]):=by
 simp only [fM]at hc hf ⊢
 refine cB [(0,aH b9 (x::l))] Tryz.func112 ?_
 refine aA [0,2] ?_
 refine aK [0,2,9] ?_
 refine bH ?_ ?_<;>intro h
 ·simp at h;omega
 refine W.skip ?_
 refine W.sr ?_
 simp (disch:=omega) [gw,fM]
 refine bI [0,2,4] ?_
 refine aK [2,4,15,16,17] ?_
 refine W.block ?_
 refine W.aY (fun k σ=>∃(i v2 v4:Nat) (rows:Pm.Rows) (clk:Nat),σ=⟨fa [(2, .ptr 2 v2 0 0),(4, .ptr 4 v4 0 0),(15,aH b9 l),(16, .int .i64 l.length),(17, .int .i64 i)],rows,clk⟩∧rows 2=some ⟨v2,54,9,[[.nil, .bool false, .nil, .bool false, .nil, .bool false, .nil, .bool false, .nil]]⟩∧rows 4=some ⟨v4,54,9,[b9 (NO c x (l.take i))]⟩∧i+k=l.length) l.length ?_ ?_
 ·exact⟨_,aB _ [2,4,15,16,17],0,_,_,_,_,rfl,by simp,by simp [NO,fM,show nth (x::l) 0=x from rfl],by omega⟩
 rintro k _ ⟨i,v2,v4,rows,clk,rfl,bU,dF,uA⟩
 refine bT [2,4,15,16,17,18] ?_
 refine bH ?_ ?_<;>intro h
 ·have hi:i<l.length:=by simp at h;omega
  have hm:NO c x (l.take i)∈x::l:=by
   rcases List.mem_cons.1 (CX (c:=c) (x:=x) (l:=l.take i))with h | h
   ·rw [h];simp
   ·exact List.mem_cons_of_mem _ (List.mem_of_mem_take h)
  have hC:=hc _ (bJ hi) _ hm
  have iI:=agL (c:=c) (x:=x) hi
  generalize hw':NO c x (l.take (i+1))=w' at *
  generalize NO c x (l.take i)=w at *
  generalize hy:nth l i=y at *
  generalize c y w=z at *
  rw [fM]at dF
  refine W.skip ?_
  refine W.dW (fun σ=>∃(v2 v4:Nat) (rows:Pm.Rows) (clk:Nat),σ=⟨fa [(2, .ptr 2 v2 0 0),(4, .ptr 4 v4 0 0),(15,aH b9 l),(16, .int .i64 l.length),(17, .int .i64 i)],rows,clk⟩∧rows 2=some ⟨v2,54,9,[[.nil, .bool false, .nil, .bool false, .nil, .bool false, .nil, .bool false, .nil]]⟩∧rows 4=some ⟨v4,54,9,[b9 w']⟩) ?_ ?_
  ·refine W.sr ?_
   simp (disch:=omega) [gw,hi,hy,fM]
   refine bI [2,4,6,15,16,17] ?_
   refine W.sr ?_
   simp (disch:=omega) [gw,dF]
   refine cN [2,4,6,15,16,17,24] hC ?_
   refine bH ?_ ?_<;>intro h
   ·have hz:z<0:=by simpa using h
    rw [if_pos hz]at iI
    subst iI
    refine W.bY (fun K hK=>?_);simp (disch:=omega) [gw,dF]
    exact hK _ ⟨_,aB _ [2,4,15,16,17],_,_,_,_,rfl,by simp [bU],by simp [fM]⟩
   ·have hz:¬z<0:=by simpa using h
    rw [if_neg hz]at iI
    subst iI
    refine W.skip ?_
    exact⟨_,aB _ [2,4,15,16,17],_,_,_,_,rfl,by simp [bU],by simp [dF,fM]⟩
  rintro _ ⟨v2,v4,rows,clk,rfl,bU,dF⟩
  refine W.bY (fun K hK=>?_);simp (disch:=omega) [gw]
  refine hK _ ⟨k-1,_,aB _ [2,4,15,16,17],by omega,i+1,_,_,_,_,rfl,bU,by rw [hw'];exact dF,by omega⟩
 ·have hi:i=l.length:=by simp at h;omega
  subst hi
  rw [List.take_length,fM]at dF
  refine eW ?_
  refine W.sr ?_
  simp (disch:=omega) [gw,dF]
  refine aC hf ?_
  simp (disch:=omega) [gw,bU]
  refine bI [2,3] ?_
  exact bZ
end Go.Proofs.YtiobceocpabjdaaGreat
namespace Go.Proofs.YtiobceocpabjdaaGreat
open Go Pm
open ZX hiding N W
def gX(f:ZX)(p:Rat × Rat):A9:=⟨emap ie f.l,decide (p.1.num<0),emap u32 (aR LL p.1.num.natAbs),decide ((p.1.den:Int)<0),emap u32 (aR LL (p.1.den:Int).natAbs),decide (p.2.num<0),emap u32 (aR LL p.2.num.natAbs),decide ((p.2.den:Int)<0),emap u32 (aR LL (p.2.den:Int).natAbs)⟩
def JO(x t:Rat):Int:=if x<t then -1 else if t<x then 1 else 0
theorem yO{x t:Rat}:0<JO x t↔t<x:=by
 unfold JO
 split
 ·exact⟨fun h=>absurd h (by decide),fun h=>by grind⟩
 ·split
  ·rename_i h;exact⟨fun _=>h,fun _=>by decide⟩
  ·rename_i h;exact⟨fun h1=>absurd h1 (by decide),fun h1=>absurd h1 h⟩
theorem akA{x t:Rat}:JO x t<0↔x<t:=by
 unfold JO
 split
 ·rename_i h;exact⟨fun _=>h,fun _=>by decide⟩
 ·rename_i h
  split
  ·exact⟨fun h1=>absurd h1 (by decide),fun h1=>absurd h1 h⟩
  ·exact⟨fun h1=>absurd h1 (by decide),fun h1=>absurd h1 h⟩
theorem agM{x t:Rat}:JO x t=0↔x=t:=by
 unfold JO
 split
 ·exact⟨fun h=>absurd h (by decide),fun h=>by grind⟩
 ·split
  ·exact⟨fun h=>absurd h (by decide),fun h=>by grind⟩
  ·exact⟨fun _=>by grind,fun _=>rfl⟩
theorem agN(x:Rat):JO x x=0:=agM.2 rfl
theorem agO{U:Rat→Prop}{x:Rat}(h:∀t,U t↔x≤t)(t:Rat):cr U t=JO x t:=by
 unfold JO
 split
 ·rename_i h1
  exact(z5 (fun s t hs iR=>(h t).2 (Rat.le_trans ((h s).1 hs) iR))).2 ⟨x,h1,(h x).2 Rat.le_refl⟩
 ·split
  ·rename_i h1
   exact tI.2 fun h2=>by have:=(h t).1 h2;grind
  ·have:x=t:=by grind
   subst this
   exact yI.2 ⟨(h x).2 Rat.le_refl,fun s hs hu=>by have:=(h s).1 hu;grind⟩
theorem ari{U V:Rat→Prop}{x y:Rat}(h:∀t,U t↔x≤t)(h':∀t,V t↔y≤t):cu U V=JO x y:=by
 unfold cu JO
 have e1:(∃t,U t∧¬V t)↔x<y:=⟨fun⟨t,h1,h2⟩=>by rw [h]at h1;rw [h']at h2;grind,fun rL=>⟨x,(h x).2 Rat.le_refl,fun h2=>by have:=(h' x).1 h2;grind⟩⟩
 have e2:(∃t,V t∧¬U t)↔y<x:=⟨fun⟨t,h1,h2⟩=>by rw [h']at h1;rw [h]at h2;grind,fun rL=>⟨y,(h' y).2 Rat.le_refl,fun h2=>by have:=(h y).1 h2;grind⟩⟩
 by_cases h1:x<y
 ·rw [if_pos h1,if_pos (e1.2 h1)]
 ·rw [if_neg h1,if_neg (fun hh=>h1 (e1.1 hh))]
  by_cases h2:y<x
  ·rw [if_pos h2,if_pos (e2.2 h2)]
  ·rw [if_neg h2,if_neg (fun hh=>h2 (e2.1 hh))]
structure yP(s n u:Nat)(f:ZX)(p:Rat × Rat)(x:Rat):Prop where
 a:AN s n u f p
 v:∀t,cO f p t↔x≤t
namespace yP
section
variable {s n u:Nat} {f:ZX} {p:Rat × Rat} {x:Rat} (A:yP s n u f p x)
include A
theorem fr:aE env.P 198 [.ag (b9 (gX f p))] (.ag (b9 (gX f p))):=JN (tP A.a.I.ch.bz (by have:=A.a.hs;omega) (by have:=A.a.I.lay.hn;omega) A.a.q1 A.a.q2 (by have:=A.a.hu;omega))
theorem least:aE env.P 112 [.sl [b9 (gX f p)]] (.dX [.ag (b9 (gX f p)), .bool true]):=wP (c:=fun _ _=>0) (l:=[]) (by decide) (fun y h=>by cases h) A.fr
theorem fa:aE env.P 20 [.ag (b9 (gX f p))] (QA f (bA f) (ex f p)):=A.a.I.am5 A.a.q1 A.a.q2 (by have:=A.a.hu;omega)
theorem qY:SQ u (ex f p).1∧SQ u (ex f p).2:=by
 unfold ex
 split
 ·exact⟨A.a.q2,A.a.q2⟩
 ·exact⟨A.a.q1,A.a.q2⟩
theorem qcr{t:Rat}{v:Nat}(qt:SQ v t)(huv:u≤v)(hv:v≤1000000000):aE env.P 19 [QA f (bA f) (ex f p),RR t] (.int .i64 (JO x t)):=by
 have h:=CQ A.a.A
 have:=A.a.I.FU h.1 (A.qY.1.mono huv) (A.qY.2.mono huv) qt hv
 rwa [agO (fun t=>(h.2 t).trans (A.v t))]at this
theorem cmp{s' n' u':Nat}{g:ZX}{q:Rat × Rat}{y:Rat}(B:yP s' n' u' g q y)(c:CpC s n s' n'):aE env.P 110 [.ag (b9 (gX f p)), .ag (b9 (gX g q))] (.int .i64 (JO x y)):=by
 have:=A.a.arf B.a c
 rwa [ari A.v B.v]at this
end
theorem pt{s n:Nat}{t:Rat}(q:SQ 5 t)(sb:t.num.natAbs≤30∧((t.den:Int)).natAbs≤6)(hs:5≤s)(hn:2≤n)(h1:n≤20)(h2:n+1≤2^s)(h3:(qb s n+n+6)*4^n≤4500000000)(h4:s≤100000):yP s n 7000 (dR t) (t,t) t:=
 ⟨(ang (F0 sb hs hn h1 h2 h3 (by omega)) h4 (by rw [lR];decide) (tQ t) (q.mono (by decide)) (by decide)).1,fun _=>lT rfl _⟩
end yP
theorem arj{t:Rat}{u:Nat}(q:SQ u t)(hu:u≤1000000000):aE env.P 113 [RT t] (.ag (b9 (gX (dR t) (t,t)))):=by
 have h:=akx (n:=t.num) (d:=t.den) (uQ q hu) (aep (Nat.lt_of_le_of_lt q.nL (by omega)))
 rw [←wN]at h
 exact h
def nA(f:ZX)(L:List (Rat × Rat))(k:Nat):A9:=if k<L.length then gX f (nth L k)else A9.no
theorem ark(f:ZX)(L:List (Rat × Rat))(k:Nat):nxo (nxt f L k) = .dX [.ag (b9 (nA f L k)), .bool (decide (k<L.length))]:=by
 unfold nxt nA
 by_cases h:k<L.length
 ·rw [if_pos h,if_pos h,decide_eq_true h];rfl
 ·rw [if_neg h,if_neg h,decide_eq_false h];rfl
end Go.Proofs.YtiobceocpabjdaaGreat
namespace Go.Proofs.YtiobceocpabjdaaGreat
open Go Pm
open ZX hiding N W
def S19:Nat:=qb 19 5
theorem arl:S19=235:=by decide
noncomputable abbrev yQ(p:ZX):List (Rat × Rat):=JF S19 5 (sq p)
theorem Kz.root{T:List Rat}{p:ZX}(K:Kz T p)(h:T.length≤4){i:Nat}(hi:i<T.length):yP S19 5 (uu S19) (sq p) (nth (yQ p) i) (nth T i):=by
 have I:=K.iso h
 have hl:=K.len h
 have hc:=fun t=>K.agK h hi t
 change oQ S19 5 (sq p)at I
 change (yQ p).length=_ at hl
 change ∀t,cO (sq p) (nth ((yQ p).map (ex (sq p))) i) t↔_ at hc
 have hm:nth (yQ p) i∈yQ p:=bJ (by omega)
 have e:=arl
 have N5:=I.ch.bz.N
 refine⟨(CU I (by omega) (by have:ZX.N (sq p)≤5:=N5;omega) hm).1,fun t=>?_⟩
 have hx:=(CQ (CU I (by omega) (by have:ZX.N (sq p)≤5:=N5;omega) hm).1.A).2 t
 rw [←hc t,FW (by omega)]
 exact hx.symm
theorem Kz.turns{T:List Rat}{p:ZX}(K:Kz T p)(h:T.length≤4):aE env.P 255 [Po p.l] (aH (ga (sq p)) (yQ p)):=by
 have:=R3 (K.lay h) K.ne (by decide) (by decide) (by decide)
 rw [K.oz]at this
 exact this
theorem Kz.next{T:List Rat}{p:ZX}(K:Kz T p)(h:T.length≤4){s' n' u':Nat}{g:ZX}{q:Rat × Rat}{x:Rat}(B:yP s' n' u' g q x)(c:CpC S19 5 s' n') :
  aE env.P 206 [Po p.l, .ag (b9 (gX g q))] (.dX [.ag (b9 (nA (sq p) (yQ p) (M0 T x))), .bool (decide (M0 T x<T.length))]):=by
 have hl:(yQ p).length=T.length:=K.len h
 have hle:=arh (T:=T) (t:=x)
 have hT:=K.turns h
 have:=F2 (y:=g.l) (an:=q.1.num) (ad:=q.1.den) (bn:=q.2.num) (bd:=q.2.den) (k:=M0 T x) hT (by omega) (by omega) (fun i hi=>⟨JO (nth T i) x,(K.root h (i:=i) (by omega)).cmp B c,fun hh=>by
  have h2:=(CW K.NG (show i<T.length by omega)).1 (show i+1≤M0 T x by omega)
  have:=yO.1 hh
  grind⟩) (fun hk=>⟨JO (nth T (M0 T x)) x,(K.root h (i:=M0 T x) (by omega)).cmp B c,yO.2 (by
  refine Rat.not_le.1 fun h2=>?_
  have:=(CW K.NG (show M0 T x<T.length by omega)).2 h2
  omega)⟩)
 rw [←hl,←ark]
 unfold nxt
 by_cases hk:M0 T x<(yQ p).length
 ·rw [if_pos hk,decide_eq_true hk]at this
  rw [if_pos hk];exact this
 ·rw [if_neg hk,decide_eq_false hk]at this
  rw [if_neg hk];exact this
theorem Z3{t:Rat}(sb:t.num.natAbs≤30∧((t.den:Int)).natAbs≤6):aE env.P 41 [R2 t.num t.den] (AP (dR t).l (bA (dR t)) t.num t.den):=by
 have It:=F0 (s:=59) (n:=5) sb (by decide) (by decide) (by decide) (by decide) (by decide) (by decide)
 have hR:=HA (n:=t.num) (d:=t.den) (by omega) (by omega) (by have:=t.den_pos;omega) (wN t)
 rw [It.sq]at hR
 rw [wN];exact hR
theorem ptA{t:Rat}(q:SQ 5 t)(sb:t.num.natAbs≤30∧((t.den:Int)).natAbs≤6):yP 59 5 7000 (dR t) (t,t) t:=yP.pt q sb (by decide) (by decide) (by decide) (by decide) (by decide) (by decide)
theorem ani{t:Rat}(q:SQ 5 t)(sb:t.num.natAbs≤30∧((t.den:Int)).natAbs≤6):aE env.P 29 [AP (dR t).l (bA (dR t)) t.num t.den] (.ag (b9 (gX (dR t) (t,t)))):=(ptA q sb).a.toA
theorem aDk:CpC S19 5 59 5:=⟨by decide,by decide,by decide,by decide,by decide,by decide,by decide⟩
theorem k1:Kz [1] (dR 1):=by
 have h:=Kz.nil.ins (r:=1) (by decide) (k:=0) (fun _ h=>by cases h) (fun _ h=>by cases h)
 have e1:of [1]*dR 1=dR 1:=by
  show(1:ZX)*dR 1=dR 1
  grind
 rw [e1]at h
 exact h
theorem ax4:SQ 5 (0:Rat):=⟨by decide,by decide,by decide⟩
theorem aDl:SQ 5 (1:Rat):=⟨by decide,by decide,by decide⟩
def cw:CE:=⟨⟨0,0,0,0,0⟩,false,[-1,1], -1⟩
theorem R9:aE env.P 45 [] (.bool true):=by
 have o0:=mN 0 1 (by decide) (by decide)
 have o1:=mN 1 1 (by decide) (by decide)
 rw [show dU 0 1=0 by decide,dJ]at o0
 rw [show dU 1 1=1 by decide,dJ]at o1
 have r0:=Z3 (t:=0) (by decide)
 have B:=ptA ax4 (by decide)
 have ta:=ani ax4 (by decide)
 have q4:aE env.P 97 [.sl [[.int .i64 (-1)],[.int .i64 1]]] (PI [-1,1]):=xT [-1,1] (by decide) (by decide)
 have q5:aE env.P 100 [PI [-1,1]] (Po [-1,1]):=YI [-1,1] (fun c hc=>by
  simp only [List.mem_cons,List.not_mem_nil,or_false]at hc
  exact Nat.lt_of_le_of_lt (oH (k:=1) (by rcases hc with rfl | rfl<;>decide)) (by decide)) (by decide)
 have K:=k1
 have bz:=(K.lay (by decide)).bz
 have nN:=eO (x:=(dR 1).l) (bz.pb (by decide) (by decide))
 rw [(dR 1).c]at nN
 have hS:aE env.P 35 [aH gP [cw]] (aH gP [cw]):=zL (l:=[cw]) (by decide) (fun x hx=>by
  simp only [List.mem_cons,List.not_mem_nil,or_false]at hx
  subst hx
  exact nN)
 have hY:=K7 (b:=false) (n:=A9.no) (z:=true) (L:=[]) (e:=0) (later:=false) (C:=[cw]) (S:=[cw]) (G:=WE.new) (by decide) (fun s hs=>by
  simp only [List.mem_cons,List.not_mem_nil,or_false]at hs
  subst hs;rfl) hS B.least (fun _ _ _=>rfl) (fun h=>by cases h)
 have hBe:=IQ hY
 have hN:=xV (z:=false) (L:=[WE.new cw]) (e:=0) B.least
 have hG:=K.next (by decide) B aDk
 have e0:M0 [1] 0=0:=by decide
 rw [e0]at hG
 have hr:=K.root (by decide) (i:=0) (by decide)
 have hl:(yQ (dR 1)).length=1:=K.len (by decide)
 have en:nA (sq (dR 1)) (yQ (dR 1)) 0=gX (sq (dR 1)) (nth (yQ (dR 1)) 0):=if_pos (by omega)
 rw [en]at hG
 have hK:=EY (R:=fun _=>(true,gX (sq (dR 1)) (nth (yQ (dR 1)) 0))) (by decide) (fun h=>by cases h) hN (fun w hw _=>by
  simp only [List.mem_cons,List.not_mem_nil,or_false]at hw
  subst hw
  exact hG)
 have hX:=EZ (r:=gX (sq (dR 1)) (nth (yQ (dR 1)) 0)) (ok:=true) (by decide) hK hr.least
 have hc:=hr.qcr (aDl.mono (show 5≤uu S19 by decide)) (Nat.le_refl _) (by decide)
 rw [show nth [(1:Rat)] 0=1 from rfl,agN,dJ]at hc
 exact MZ o0 r0 ta q4 q5 hBe hX hr.fa o1 hc
end Go.Proofs.YtiobceocpabjdaaGreat
namespace Go.Proofs.YtiobceocpabjdaaGreat
open Go Pm
@[simp] theorem azO{x:RE}:(vY x).length=9:=rfl
theorem SA{a:List Int}(ha:a.length<1099511627776):aE env.P 250 [us a,us a] (.bool true):=by
 refine cB [(0,us a),(1,us a)] Tryz.func250 ?_
 refine aA [0,1] ?_
 refine aK [0,1,10] ?_
 refine bH ?_ ?_<;>intro h
 ·simp at h
 ·refine W.skip ?_
  refine aK [0,1,5] ?_
  refine W.block ?_
  refine W.aY (fun k σ=>∃(i:Nat) (rows:Pm.Rows) (clk:Nat),σ=⟨fa [(0,us a),(1,us a),(5, .int .i64 i)],rows,clk⟩∧i+k=a.length) a.length ?_ ?_
  ·exact⟨_, .refl,0,_,_,rfl,by omega⟩
  rintro k _ ⟨i,rows,clk,rfl,uA⟩
  refine aK [0,1,5,14] ?_
  refine bH ?_ ?_<;>intro h
  ·have hi:i<a.length:=by simp at h;omega
   refine j7 ?_
   refine W.sd ?_
   simp (disch:=omega) [gw,hi,u32]
   refine bI [0,1,5,25] ?_
   refine bH ?_ ?_<;>intro h
   ·simp at h
   ·refine W.skip ?_
    refine W.bY (fun K hK=>?_);simp (disch:=omega) [gw]
    exact hK _ ⟨k-1,_,aB _ [0,1,5],by omega,i+1,_,_,rfl,by omega⟩
  ·refine eW ?_
   refine aA [4] ?_
   exact bZ
theorem M3{x:Int}(hx:(aR LL x.natAbs).length<1099511627776):aE env.P 190 [.ag (ie x), .ag (ie x)] (.bool true):=by
 have k1:=SA hx
 unfold ie
 generalize decide (x<0)=b
 generalize aR LL x.natAbs=d at *
 refine cB [(0, .ag [.bool b,us d]),(1, .ag [.bool b,us d])] Tryz.func190 ?_
 refine aA [2,3] ?_
 refine aL [4] k1 ?_
 exact bZ
theorem HC{p:List Int}(hp:p.length<1099511627776)(hz:∀c∈p,(aR LL c.natAbs).length<1099511627776):aE env.P 107 [Po p,Po p] (.bool true):=by
 refine cB [(0,Po p),(1,Po p)] Tryz.func107 ?_
 refine aA [0,1] ?_
 refine aK [0,1,10] ?_
 refine bH ?_ ?_<;>intro h
 ·simp at h
 ·refine W.skip ?_
  refine aK [0,1,12,13] ?_
  refine W.block ?_
  refine W.aY (fun k σ=>∃(i:Nat) (rows:Pm.Rows) (clk:Nat),σ=⟨fa [(0,Po p),(1,Po p),(12, .int .i64 p.length),(13, .int .i64 i)],rows,clk⟩∧i+k=p.length) p.length ?_ ?_
  ·exact⟨_, .refl,0,_,_,rfl,by omega⟩
  rintro k _ ⟨i,rows,clk,rfl,uA⟩
  refine bT [0,1,12,13,14] ?_
  refine bH ?_ ?_<;>intro h
  ·have hi:i<p.length:=by simp at h;omega
   have k1:=M3 (hz _ (bJ hi))
   unfold ie at k1
   refine j7 ?_
   refine aA [0,1,5,12,13] ?_
   refine W.sd ?_
   simp (disch:=omega) [gw,hi,ie]
   refine cN [0,1,12,13,25] k1 ?_
   refine bH ?_ ?_<;>intro h
   ·simp at h
   ·refine W.skip ?_
    refine W.bY (fun K hK=>?_);simp (disch:=omega) [gw]
    exact hK _ ⟨k-1,_,aB _ [0,1,12,13],by omega,i+1,_,_,rfl,by omega⟩
  ·refine eW ?_
   refine aA [4] ?_
   exact bZ
theorem WS:env.P.underlying 3=some (.int .i64):=by kernel_rfl
theorem eqI{P:Program}{t:TypeId}(hu:P.underlying t=some (.int .i64))(d:Nat)(w:World)(a b:Int):(Op.equalIn (d+1) t (iV a) (iV b)).run P w = .ok (a==b) w:=by simp [Op.equalIn,run_underlying hu,iV]
theorem Z4{P:Program}{t:TypeId}(hu:P.underlying t=some (.int .i64))(w:World){xs:Array Value}{i:Nat}{v:Value}(h:xs[i]? = some v):(part t xs i).run P w = .ok v w:=by
 simp [part,nY hu,r8,hu,WV,h]
theorem rJ{P:Program}{t:TypeId}(hu:P.underlying t=some (.int .i64)){d:Nat}{w:World}{xs ys:Array Value}{i:Nat}{is:List Nat}{a b:Int}(hx:xs[i]? = some (iV a))(hy:ys[i]? = some (iV b)) :
  (Op.eqItems (d+1) t 1 xs ys (i::is)).run P w=if a=b then(Op.eqItems (d+1) t 1 xs ys is).run P w else .ok false w:=by
 simp only [Op.eqItems,Sem.run_bind,Nat.mul_one,Z4 hu w hx,Z4 hu w hy,Result.andThen_ok,eqI hu]
 by_cases h:a=b<;>simp [h]
theorem BL{P:Program}{d:Nat}{w:World}{xs ys:Array Value}{f:Field}{fs:List Field}{u v:Value}{b:Bool} (hn:f.name ≠ "_") (hx:(part f.type xs f.offset).run P w = .ok u w) (hy:(part f.type ys f.offset).run P w = .ok v w) (he:(Op.equalIn d f.type u v).run P w = .ok b w) :
  (Op.eqFields d xs ys (f::fs)).run P w=if b=true then(Op.eqFields d xs ys fs).run P w else .ok false w:=by
 simp only [Op.eqFields,if_pos hn,Sem.run_bind,hx,hy,Result.andThen_ok,he]
 cases b<;>simp
theorem arn(d:Nat)(w:World)(a b c e a' b' c' e':Int):(Op.equalIn (d+2) 76 (.agg #[iV a,iV b,iV c,iV e]) (.agg #[iV a',iV b',iV c',iV e'])).run env.P w = .ok (decide ([a,b,c,e] = [a',b',c',e'])) w:=by
 have hu:env.P.underlying 76=some (.array 4 3):=by kernel_rfl
 obtain⟨i,hi⟩:∃i,env.P.info? 3=some i:=Option.isSome_iff_exists.1 (by kernel_rfl)
 rw [show d+2=(d+1)+1 from rfl,run_equalIn_array w (d+1) _ _ hu hi,show env.P.cellsOf 3=1 by kernel_rfl,show List.range 4 = [0,1,2,3]from rfl,
  rJ WS (a:=a) (b:=a') rfl rfl,rJ WS (a:=b) (b:=b') rfl rfl,rJ WS (a:=c) (b:=c') rfl rfl,rJ WS (a:=e) (b:=e') rfl rfl]
 by_cases h1:a=a'<;>by_cases h2:b=b'<;>by_cases h3:c=c'<;>by_cases h4:e=e'<;>simp [h1,h2,h3,h4,Op.eqItems]
theorem anj:ahD env.P 78 5:=by
 refine⟨fun w xs ys hx hy=>?_,by kernel_rfl⟩
 match xs,hx with
 | [k,a,b,c,d],_ =>
  match ys,hy with
  | [k',a',b',c',d'],_ =>
   obtain⟨f1,f2,hS,n1,t1,o1,n2,t2,o2⟩:∃f1 f2:Field,env.P.fieldsOf 78 = [f1,f2].toArray∧f1.name ≠ "_" ∧ f1.type=3∧f1.offset=0∧f2.name ≠ "_" ∧ f2.type=76∧f2.offset=1:=by
    have h:env.P.fieldsOf 78=([⟨ "Kind",3,0,false, "", "",0⟩,⟨ "Ids",76,1,false, "", "",8⟩]:List Field).toArray:=by kernel_rfl
    exact⟨_,_,h,by decide,rfl,rfl,by decide,rfl,rfl⟩
   have hu:env.P.underlying 78=some (.struct (env.P.fieldsOf 78)):=by kernel_rfl
   have hui:env.P.underlying 76=some (.array 4 3):=by kernel_rfl
   obtain⟨i,hi⟩:∃i,env.P.info? 76=some i:=Option.isSome_iff_exists.1 (by kernel_rfl)
   have pP:i.size=4:=by
    have h:(env.P.info? 76).map (fun i=>i.size)=some 4:=by kernel_rfl
    rw [hi]at h
    simpa using h
   have pA:∀x0 x1 x2 x3 x4:Int,(part 76 #[iV x0,iV x1,iV x2,iV x3,iV x4] 1).run env.P w = .ok (.agg #[iV x1,iV x2,iV x3,iV x4]) w:=by
    intro x0 x1 x2 x3 x4
    simp only [part,Sem.run_bind,nY hui,Result.andThen_ok,show r8 env.P 76=true by kernel_rfl,if_true,dD hi,pP,Sem.run_pure]
    rfl
   show(Op.equalIn 10000 78 (.agg #[iV k,iV a,iV b,iV c,iV d]) (.agg #[iV k',iV a',iV b',iV c',iV d'])).run env.P w=_
   rw [show(10000:Nat)=9999+1 from rfl,run_equalIn_struct w 9999 78 _ _ hu (by kernel_rfl),hS]
   show(Op.eqFields 9999 _ _ [f1,f2]).run env.P w=_
   rw [BL (u:=iV k) (v:=iV k') (b:=k==k') n1 (by rw [t1,o1];exact Z4 WS w rfl) (by rw [t1,o1];exact Z4 WS w rfl) (by rw [t1];exact eqI WS 9998 w k k'),
    BL n2 (by rw [t2,o2];exact pA k a b c d) (by rw [t2,o2];exact pA k' a' b' c' d') (by rw [t2];exact arn 9997 w a b c d a' b' c' d')]
   by_cases h1:k=k'<;>by_cases h2:[a,b,c,d] = [a',b',c',d']<;>simp [h1,h2,Op.eqFields]
theorem aro:∀ {s t:Tg},s.k=t.k→s.a=t.a→s.b=t.b→s.c=t.c→s.d=t.d→s=t
 | ⟨_,_,_,_,_⟩,⟨_,_,_,_,_⟩,rfl,rfl,rfl,rfl,rfl=>rfl
theorem ax5{s t:Tg}(h:s≠t):(!decide (s.k=t.k) || (!decide (s.a=t.a) || (!decide (s.b=t.b) || (!decide (s.c=t.c) || !decide (s.d=t.d)))))=true:=by
 refine Classical.byContradiction fun g=>h ?_
 simp only [Bool.or_eq_true,Bool.not_eq_true',decide_eq_false_iff_not,not_or,Decidable.not_not]at g
 exact aro g.1 g.2.1 g.2.2.1 g.2.2.2.1 g.2.2.2.2
def kpt(x:CE)(sm:WE→Bool)(c:WE→Int):List WE→WE
 | []=>WE.new x
 | w::l=>if (decide (w.t=x.t)&&w.k&&sm w&&(!w.o || decide (0<c w)))=true then⟨x.t,x.p,x.w,true,w.o,w.f⟩else kpt x sm c l
def kfl(x:CE)(sm:WE→Bool)(c:WE→Int):List WE→Bool
 | []=>true
 | w::l=>if (decide (w.t=x.t)&&w.k&&sm w&&(!w.o || decide (0<c w)))=true then false else kfl x sm c l
theorem agP{x:CE}{sm:WE→Bool}{c:WE→Int}:∀ {l:List WE},kfl x sm c l=true→(kpt x sm c l).f=A9.no
 | [],_=>rfl
 | w::l,h=>by
  rw [kfl]at h
  rw [kpt]
  split at h
  ·cases h
  ·rename_i hn
   rw [if_neg hn]
   exact agP h
set_option maxHeartbeats 4000000 in
theorem agQ{b:Bool}{n t:A9}{z:Bool}{L:List WE}{e:Int}{x:CE}{sm:WE→Bool}{c:WE→Int}(hl:L.length<1000000)(hz:z=true→L = [])(hx:x.z=false)
  (hS:∀w∈L,w.t=x.t→w.k=true→aE env.P 251 [Po w.p,Po x.p] (.bool (sm w)))
  (hC:∀w∈L,w.t=x.t→w.k=true→sm w=true→w.o=true→aE env.P 110 [.ag (b9 w.f), .ag (b9 t)] (.int .i64 (c w))) :
  fY env.P 191 [.ag (gP x), .ag (b9 t)] 95 12 (co b n z L e) (co b n z L e) (.ag (wek (kfl x sm c L) (kpt x sm c L))):=by
 obtain⟨y,hy⟩:∃y,kfl x sm c L=y:=⟨_,rfl⟩
 rw [hy]
 obtain⟨r,hr⟩:∃r,kpt x sm c L=r:=⟨_,rfl⟩
 rw [hr]
 simp only [fM,gQ,hx,aeI]at hC ⊢
 rw [K6 y r]
 refine iE (E:=env) (fun _=>0) [(1, .ag [.int .i64 x.t.k, .int .i64 x.t.a, .int .i64 x.t.b, .int .i64 x.t.c, .int .i64 x.t.d, .sl (emap ie x.p), .int .i64 x.w]),(2, .ag [.sl t.y, .bool t.s, .sl t.d, .bool t.s', .sl t.d', .bool t.u, .sl t.e, .bool t.u', .sl t.e'])] Tryz.func191 rfl (by kernel_rfl) (by kernel_rfl) (show 3≤57 by decide) (by intro q;simp) ?_
 intro id ver iQ abm eH
 refine bT [0,4,5,6] ?_
 refine W.eD (fun σ=>∃(s:PV) (v4 v5 v6:Nat) (rows:Pm.Rows) (clk:Nat),σ=⟨fa [(4, .ptr 4 v4 0 0),(5, .ptr 5 v5 0 0),(6, .ptr 6 v6 0 0),(12,s),(13, .int .i64 L.length),(14, .int .i64 0)],rows,clk⟩∧(0<L.length→s=aH EV L)∧rows 4=some ⟨v4,82,7,[[.int .i64 x.t.k, .int .i64 x.t.a, .int .i64 x.t.b, .int .i64 x.t.c, .int .i64 x.t.d, .sl (emap ie x.p), .int .i64 x.w]]⟩∧rows 5=some ⟨v5,54,9,[[.sl t.y, .bool t.s, .sl t.d, .bool t.s', .sl t.d', .bool t.u, .sl t.e, .bool t.u', .sl t.e']]⟩∧rows 6=some ⟨v6,179,18,[[.int .i64 0, .int .i64 0, .int .i64 0, .int .i64 0, .int .i64 0, .nil, .int .i64 0, .bool false, .bool false, .nil, .bool false, .nil, .bool false, .nil, .bool false, .nil, .bool false, .nil]]⟩∧rows (id+1000000)=some ⟨ver,95,12,[co b n z L e]⟩∧(∀j,j≠id→rows (j+1000000)=iQ (j+1000000))) (fun K hK=>?_) ?_
 ·cases z
  ·simp (disch:=omega) [gw,eH,fH]
   exact hK _ _ (aB _ [4,5,6,12,13,14]) ⟨_,_,_,_,_,_,rfl,fun _=>rfl,by simp,by simp,by simp,by simp [eH,fH],by intro j hj;simp [hj]⟩
  ·obtain rfl:=hz rfl
   simp (disch:=omega) [gw,eH,fH]
   exact hK _ _ (aB _ [4,5,6,12,13,14]) ⟨_,_,_,_,_,_,rfl,by simp,by simp,by simp,by simp,by simp [eH,fH],by intro j hj;simp [hj]⟩
 clear eH
 rintro _ ⟨s,v4,v5,v6,rows,clk,rfl,hs,dF,dM,i9,eH,iG⟩
 refine W.block ?_
 refine W.aY (fun k σ=>∃(i v4 v5 v6:Nat) (rows:Pm.Rows) (clk:Nat),σ=⟨fa [(4, .ptr 4 v4 0 0),(5, .ptr 5 v5 0 0),(6, .ptr 6 v6 0 0),(12,s),(13, .int .i64 L.length),(14, .int .i64 i)],rows,clk⟩∧i+k=L.length∧kpt x sm c (L.drop i)=r∧kfl x sm c (L.drop i)=y∧rows 4=some ⟨v4,82,7,[[.int .i64 x.t.k, .int .i64 x.t.a, .int .i64 x.t.b, .int .i64 x.t.c, .int .i64 x.t.d, .sl (emap ie x.p), .int .i64 x.w]]⟩∧rows 5=some ⟨v5,54,9,[[.sl t.y, .bool t.s, .sl t.d, .bool t.s', .sl t.d', .bool t.u, .sl t.e, .bool t.u', .sl t.e']]⟩∧rows 6=some ⟨v6,179,18,[[.int .i64 0, .int .i64 0, .int .i64 0, .int .i64 0, .int .i64 0, .nil, .int .i64 0, .bool false, .bool false, .nil, .bool false, .nil, .bool false, .nil, .bool false, .nil, .bool false, .nil]]⟩∧rows (id+1000000)=some ⟨ver,95,12,[co b n z L e]⟩∧(∀j,j≠id→rows (j+1000000)=iQ (j+1000000))) L.length ?_ ?_
 ·exact⟨_,aB _ [4,5,6,12,13,14],0,v4,v5,v6,rows,clk,rfl,by omega,by rw [List.drop_zero];exact hr,by rw [List.drop_zero];exact hy,dF,dM,i9,eH,iG⟩
 clear dF dM i9 eH iG rows clk v4 v5 v6
 rintro k _ ⟨i,v4,v5,v6,rows,clk,rfl,uA,hkp,hkf,dF,dM,i9,eH,iG⟩
 refine bT [4,5,6,12,13,14,15] ?_
 refine bH ?_ ?_<;>intro h
 ·have hi:i<L.length:=by simp at h;omega
  obtain rfl:=hs (by omega)
  have hS':=hS _ (bJ hi)
  have hC':=hC _ (bJ hi)
  rw [List.drop_eq_getElem_cons hi,←cE hi,kpt]at hkp
  rw [List.drop_eq_getElem_cons hi,←cE hi,kfl]at hkf
  generalize hw:nth L i=w at *
  generalize sm w=q at *
  generalize c w=u at *
  have q1:=anj
  refine W.skip ?_
  refine W.dW (fun σ=>∃(v4 v5 v6:Nat) (rows:Pm.Rows) (clk:Nat),σ=⟨fa [(4, .ptr 4 v4 0 0),(5, .ptr 5 v5 0 0),(6, .ptr 6 v6 0 0),(12,aH EV L),(13, .int .i64 L.length),(14, .int .i64 i)],rows,clk⟩∧kpt x sm c (L.drop (i+1))=r∧kfl x sm c (L.drop (i+1))=y∧rows 4=some ⟨v4,82,7,[[.int .i64 x.t.k, .int .i64 x.t.a, .int .i64 x.t.b, .int .i64 x.t.c, .int .i64 x.t.d, .sl (emap ie x.p), .int .i64 x.w]]⟩∧rows 5=some ⟨v5,54,9,[[.sl t.y, .bool t.s, .sl t.d, .bool t.s', .sl t.d', .bool t.u, .sl t.e, .bool t.u', .sl t.e']]⟩∧rows 6=some ⟨v6,179,18,[[.int .i64 0, .int .i64 0, .int .i64 0, .int .i64 0, .int .i64 0, .nil, .int .i64 0, .bool false, .bool false, .nil, .bool false, .nil, .bool false, .nil, .bool false, .nil, .bool false, .nil]]⟩∧rows (id+1000000)=some ⟨ver,95,12,[co b n z L e]⟩∧(∀j,j≠id→rows (j+1000000)=iQ (j+1000000))) ?_ ?_
  ·refine W.sr ?_
   simp (disch:=omega) [gw,hi,hw,gC]
   refine bI [4,5,6,8,12,13,14] ?_
   refine W.seq ?_
   refine W.eD (fun σ=>∃(v8:Nat) (rows:Pm.Rows) (clk:Nat),σ=⟨fa [(4, .ptr 4 v4 0 0),(5, .ptr 5 v5 0 0),(6, .ptr 6 v6 0 0),(8, .ptr 8 v8 0 0),(12,aH EV L),(13, .int .i64 L.length),(14, .int .i64 i),(37, .bool (!(decide (w.t=x.t)&&w.k&&q)))],rows,clk⟩∧rows 8=some ⟨v8,179,18,[EV w]⟩∧rows 4=some ⟨v4,82,7,[[.int .i64 x.t.k, .int .i64 x.t.a, .int .i64 x.t.b, .int .i64 x.t.c, .int .i64 x.t.d, .sl (emap ie x.p), .int .i64 x.w]]⟩∧rows 5=some ⟨v5,54,9,[[.sl t.y, .bool t.s, .sl t.d, .bool t.s', .sl t.d', .bool t.u, .sl t.e, .bool t.u', .sl t.e']]⟩∧rows 6=some ⟨v6,179,18,[[.int .i64 0, .int .i64 0, .int .i64 0, .int .i64 0, .int .i64 0, .nil, .int .i64 0, .bool false, .bool false, .nil, .bool false, .nil, .bool false, .nil, .bool false, .nil, .bool false, .nil]]⟩∧rows (id+1000000)=some ⟨ver,95,12,[co b n z L e]⟩∧(∀j,j≠id→rows (j+1000000)=iQ (j+1000000))) (fun K hK=>?_) ?_
   ·by_cases ht:w.t=x.t
    ·cases hk:w.k
     ·simp (disch:=omega) [gw,dF,q1,allI,kE,ht,hk]
      exact hK _ _ (aB _ [4,5,6,8,12,13,14,37]) ⟨_,_,_,by rw [hk,Bool.and_false,Bool.false_and];rfl,by simp [gC,ht,hk],by simp [dF],by simp [dM],by simp [i9],by simp [eH],by intro j hj;simp [hj,iG]⟩
     ·simp (disch:=omega) [gw,dF,q1,allI,kE,ht,hk]
      refine cM (hS' ht hk) ?_
      exact hK _ _ (aB _ [4,5,6,8,12,13,14,37]) ⟨_,_,_,by rw [hk,Bool.and_true,decide_eq_true ht,Bool.true_and];rfl,by simp [gC,ht,hk],by simp [dF],by simp [dM],by simp [i9],by simp [eH],by intro j hj;simp [hj,iG]⟩
    ·have m7:=ax5 ht
     simp (disch:=omega) [gw,dF,q1,allI,kE,m7]
     exact hK _ _ (aB _ [4,5,6,8,12,13,14,37]) ⟨_,_,_,by rw [decide_eq_false ht,Bool.false_and,Bool.false_and];rfl,by simp [gC],by simp [dF],by simp [dM],by simp [i9],by simp [eH],by intro j hj;simp [hj,iG]⟩
   clear dF dM i9 eH iG rows clk
   rintro _ ⟨v8,rows,clk,rfl,oC,dF,dM,i9,eH,iG⟩
   refine bH ?_ ?_<;>intro h
   ·have hn:(decide (w.t=x.t)&&w.k&&q)=false:=by rw [Bool.not_eq_true']at h;exact h
    rw [hn,Bool.false_and,if_neg (by decide)]at hkp hkf
    refine eW ?_
    exact⟨_,aB _ [4,5,6,12,13,14],_,_,_,_,_,rfl,hkp,hkf,dF,dM,i9,eH,iG⟩
   have hn:(decide (w.t=x.t)&&w.k&&q)=true:=by rw [Bool.not_eq_false']at h;exact h
   have BR:w.t=x.t∧w.k=true∧q=true:=by simpa [and_assoc]using hn
   obtain⟨n1,n2,n3⟩:=BR
   rw [hn,Bool.true_and]at hkp hkf
   have hC2:=hC' n1 n2 n3
   rw [gC]at oC
   refine W.skip ?_
   refine W.eD (fun σ=>∃(rows:Pm.Rows) (clk:Nat),σ=⟨fa [(4, .ptr 4 v4 0 0),(5, .ptr 5 v5 0 0),(6, .ptr 6 v6 0 0),(8, .ptr 8 v8 0 0),(12,aH EV L),(13, .int .i64 L.length),(14, .int .i64 i),(47, .bool (!w.o || decide (0<u)))],rows,clk⟩∧rows 8=some ⟨v8,179,18,[EV w]⟩∧rows 4=some ⟨v4,82,7,[[.int .i64 x.t.k, .int .i64 x.t.a, .int .i64 x.t.b, .int .i64 x.t.c, .int .i64 x.t.d, .sl (emap ie x.p), .int .i64 x.w]]⟩∧rows 5=some ⟨v5,54,9,[[.sl t.y, .bool t.s, .sl t.d, .bool t.s', .sl t.d', .bool t.u, .sl t.e, .bool t.u', .sl t.e']]⟩∧rows 6=some ⟨v6,179,18,[[.int .i64 0, .int .i64 0, .int .i64 0, .int .i64 0, .int .i64 0, .nil, .int .i64 0, .bool false, .bool false, .nil, .bool false, .nil, .bool false, .nil, .bool false, .nil, .bool false, .nil]]⟩∧rows (id+1000000)=some ⟨ver,95,12,[co b n z L e]⟩∧(∀j,j≠id→rows (j+1000000)=iQ (j+1000000))) (fun K hK=>?_) ?_
   ·cases ho:w.o
    ·simp (disch:=omega) [gw,oC,ho]
     exact hK _ _ (aB _ [4,5,6,8,12,13,14,47]) ⟨_,_,by rw [ho,Bool.not_false,Bool.true_or];rfl,by simp [oC,gC],by simp [dF],by simp [dM],by simp [i9],by simp [eH],by intro j hj;simp [hj,iG]⟩
    ·simp (disch:=omega) [gw,oC,dM,ho]
     refine cM (hC2 ho) ?_
     exact hK _ _ (aB _ [4,5,6,8,12,13,14,47]) ⟨_,_,by rw [ho,Bool.not_true,Bool.false_or];rfl,by simp [oC,gC],by simp [dF],by simp [dM],by simp [i9],by simp [eH],by intro j hj;simp [hj,iG]⟩
   clear dF dM i9 oC eH iG rows clk
   rintro _ ⟨rows,clk,rfl,oC,dF,dM,i9,eH,iG⟩
   rw [gC]at oC
   refine bH ?_ ?_<;>intro h
   ·rw [if_pos h]at hkp hkf
    subst hkp hkf
    refine W.sr ?_
    simp (disch:=omega) [gw,oC,dF,i9]
    refine bI [6] ?_
    refine W.ret ?_
    simp [go,eH]
    exact⟨rfl,fun j hj=>by simp [hj,iG]⟩
   ·rw [if_neg (by rw [h];decide)]at hkp hkf
    refine W.skip ?_
    exact⟨_,aB _ [4,5,6,12,13,14],_,_,_,_,_,rfl,hkp,hkf,dF,dM,i9,eH,iG⟩
  clear dF dM i9 eH iG rows clk v4 v5 v6
  rintro _ ⟨v4,v5,v6,rows,clk,rfl,hkp,hkf,dF,dM,i9,eH,iG⟩
  refine W.bY (fun K hK=>?_);simp (disch:=omega) [gw]
  refine hK _ ⟨k-1,_,aB _ [4,5,6,12,13,14],by omega,i+1,_,_,_,_,_,rfl,by omega,hkp,hkf,dF,dM,i9,eH,iG⟩
 ·have hi:i=L.length:=by simp at h;omega
  subst hi
  rw [List.drop_length,kpt]at hkp
  rw [List.drop_length,kfl]at hkf
  subst hkp hkf
  refine eW ?_
  refine W.sr ?_
  simp (disch:=omega) [gw,dF,i9]
  refine bI [6] ?_
  refine W.ret ?_
  simp only [WE.new,A9.no,aBA]
  simp [go,eH]
  exact⟨rfl,fun j hj=>by simp [hj,iG]⟩
end Go.Proofs.YtiobceocpabjdaaGreat
namespace Go.Proofs.YtiobceocpabjdaaGreat
open Go Pm
open ZX hiding N W
theorem SB{α:Type}{g:α→List PV}(hg:∀x y,g x=g y→x=y){a b:List α}(h:emap g a=emap g b):a=b:=(List.map_inj_right hg).1 h
theorem akC{a b:List Int}(h:emap u32 a=emap u32 b):a=b:=SB (fun x y h=>by simpa [u32]using h) h
theorem SC{x y:Int}(h:emap u32 (aR LL x.natAbs)=emap u32 (aR LL y.natAbs)):x.natAbs=y.natAbs:=by
 have h3:=akC h
 have a:=U3 x
 have b:=U3 y
 rw [h3]at a
 omega
theorem Z5{x y:Int}(h1:decide (x<0)=decide (y<0))(h2:emap u32 (aR LL x.natAbs)=emap u32 (aR LL y.natAbs)):x=y:=by
 have h4:=SC h2
 have h5:x<0↔y<0:=decide_eq_decide.1 h1
 omega
theorem arp(x y:Int)(h:ie x=ie y):x=y:=by
 unfold ie at h
 simp only [List.cons.injEq,PV.bool.injEq,and_true,aH,PV.sl.injEq]at h
 exact Z5 h.1 h.2
theorem Z6{p q:Rat}(h1:decide (p.num<0)=decide (q.num<0))(h2:emap u32 (aR LL p.num.natAbs)=emap u32 (aR LL q.num.natAbs))(h3:emap u32 (aR LL (p.den:Int).natAbs)=emap u32 (aR LL (q.den:Int).natAbs)):p=q:=by
 have a:=Z5 h1 h2
 have b:=SC h3
 exact Rat.ext a (by omega)
abbrev Nm:Type:=ZX × Rat × Rat
def gN(e:Nm):A9:=gX e.1 e.2
theorem arq{e d:Nm}(h:gN e=gN d):e=d:=by
 obtain⟨f,p,q⟩:=e
 obtain⟨g,r,s⟩:=d
 simp only [gN,gX,A9.mk.injEq]at h
 obtain⟨h1,h2,h3,h4,h5,h6,h7,h8,h9⟩:=h
 have a:=SB arp h1
 have b:=Z6 h2 h3 h5
 have c:=Z6 h6 h7 h9
 subst b c
 rw [show f=g from ZX.ext fun t=>by rw [a]]
abbrev S18:Nat:=qb 18 6
abbrev U18:Nat:=uu S18
structure NN(e:Nm):Prop where
 a:AN S18 6 U18 e.1 e.2
 b:AN S18 6 U18 e.1 (ex e.1 e.2)
def NA(A:A9):Prop:=∃e,NN e∧gN e=A
noncomputable def vI(A:A9):Nm:=open Classical in if h:NA A then Classical.choose h else(0,0,0)
theorem iK{A:A9}(h:NA A):NN (vI A)∧gN (vI A)=A:=by
 unfold vI
 rw [dif_pos h]
 exact Classical.choose_spec h
theorem ars{e:Nm}(h:NN e):vI (gN e)=e:=arq (iK ⟨e,h,rfl⟩).2
theorem NA.of{e:Nm}(h:NN e):NA (gN e):=⟨e,h,rfl⟩
noncomputable def cA(A:A9):Rat→Prop:=cO (vI A).1 (vI A).2
theorem SD{e:Nm}(h:NN e):cA (gN e)=cO e.1 e.2:=by unfold cA;rw [ars h]
noncomputable def M4(A B:A9):Int:=cu (cA A) (cA B)
section
variable {A B:A9} (hA:NA A)
include hA
theorem NA.up:∀s t,cA A s→s≤t→cA A t:=(cY (iK hA).1.a.A).up
theorem NA.fr:aE env.P 198 [.ag (b9 A)] (.ag (b9 A)):=by
 obtain⟨⟨a,_⟩,h⟩:=iK hA
 have:=JN (tP a.I.ch.bz (by decide) (by have:=a.I.lay.hn;omega) a.q1 a.q2 (by have:=a.hu;omega))
 rw [←h]
 exact this
theorem NA.least:aE env.P 112 [.sl [b9 A]] (.dX [.ag (b9 A), .bool true]):=wP (c:=fun _ _=>0) (l:=[]) (by decide) (fun y h=>by cases h) hA.fr
theorem NA.cmp(hB:NA B):aE env.P 110 [.ag (b9 A), .ag (b9 B)] (.int .i64 (M4 A B)):=by
 obtain⟨⟨a,_⟩,h⟩:=iK hA
 obtain⟨⟨b,_⟩,h'⟩:=iK hB
 have:=a.arf b cp2
 rw [←h,←h',M4,SD (iK hA).1,SD (iK hB).1]
 exact this
theorem NA.cr{t:Rat}(q:SQ 5 t):aE env.P 111 [.ag (b9 A),RT t] (.int .i64 (Pm.ZX.cr (cA A) t)):=by
 obtain⟨⟨a,_⟩,h⟩:=iK hA
 have:=a.FU (q.mono (show 5≤U18 by decide)) (Nat.le_refl _) (by decide)
 rw [←h,SD (iK hA).1]
 exact this
end
theorem ax7(a:ZX):of a.l=a:=ZX.ext fun t=>by rw [ZX.VF]
structure SS(a:ZX):Prop where
 ne:a≠0
 lay:rZ 18 6 a
noncomputable def fO(a:ZX):ZX:=oz (nf a)
noncomputable def lO(a:ZX):List (Rat × Rat):=JF S18 6 (fO a)
namespace SS
variable {a:ZX} (h:SS a)
include h
theorem iso:oQ S18 6 (fO a):=agn h.lay h.ne (by decide) (by decide) (by decide)
theorem turns:aE env.P 255 [Po a.l] (aH (ga (fO a)) (lO a)):=R3 h.lay h.ne (by decide) (by decide) (by decide)
theorem nn{q:Rat × Rat}(hq:q∈lO a):NN (fO a,q):=by
 have N6:ZX.N (fO a)≤6:=h.iso.ch.bz.N
 exact⟨(CU h.iso (by decide) (by omega) hq).1,(CU h.iso (by decide) (by omega) hq).2⟩
end SS
noncomputable def kx(a:ZX)(B:A9):Nat:=Classical.choose (kC (fun i=>0<cu (cO (fO a) (nth (lO a) i)) (cA B)) (lO a).length)
theorem Z7(a:ZX)(B:A9):kx a B≤(lO a).length∧(∀i,i<kx a B→¬0<cu (cO (fO a) (nth (lO a) i)) (cA B))∧(kx a B<(lO a).length→0<cu (cO (fO a) (nth (lO a) (kx a B))) (cA B)):=Classical.choose_spec (kC (fun i=>0<cu (cO (fO a) (nth (lO a) i)) (cA B)) (lO a).length)
noncomputable def nxA(x:List Int)(B:A9):Bool × A9:=if kx (of x) B<(lO (of x)).length then(true,gN (fO (of x),nth (lO (of x)) (kx (of x) B)))else(false,A9.no)
theorem SS.next{a:ZX}(h:SS a){B:A9}(hB:NA B):aE env.P 206 [Po a.l, .ag (b9 B)] (.dX [.ag (b9 (nxA a.l B).2), .bool (nxA a.l B).1]):=by
 obtain⟨⟨b,_⟩,e⟩:=iK hB
 obtain⟨k1,k2,k3⟩:=Z7 a B
 have hl:=MQ h.iso
 change (lO a).length≤21 at hl
 have hc:=fun i (hi:i<(lO a).length)=>(h.nn (bJ hi)).a.arf b cp2
 have:=F2 (y:=(vI B).1.l) (an:=(vI B).2.1.num) (ad:=(vI B).2.1.den) (bn:=(vI B).2.2.num) (bd:=(vI B).2.2.den) (k:=kx a B) h.turns (by omega) k1 (fun i hi=>⟨_,hc i (by omega),k2 i hi⟩) (fun hk=>⟨_,hc _ hk,k3 hk⟩)
 unfold nxA
 rw [ax7]
 have e2:(.ag (b9 B):PV)=GA (vI B).1 (vI B).2:=by
  have e3:(.ag (b9 (gN (vI B))):PV)=GA (vI B).1 (vI B).2:=rfl
  rwa [e]at e3
 rw [e2]
 by_cases hk:kx a B<(lO a).length
 ·rw [if_pos hk,decide_eq_true hk]at this
  rw [if_pos hk];exact this
 ·rw [if_neg hk,decide_eq_false hk]at this
  rw [if_neg hk];exact this
noncomputable def tO(a:ZX):List A9:=(lO a).map fun q=>gN (fO a,q)
theorem SS.nx{a:ZX}(h:SS a){B:A9}(ht:(nxA a.l B).1=true):NA (nxA a.l B).2∧0<M4 (nxA a.l B).2 B∧(nxA a.l B).2∈tO a:=by
 obtain⟨k1,k2,k3⟩:=Z7 a B
 unfold nxA at ht ⊢
 rw [ax7]at ht ⊢
 by_cases hk:kx a B<(lO a).length
 ·rw [if_pos hk]
  have hn:=h.nn (bJ hk)
  refine⟨⟨_,hn,rfl⟩,?_,List.mem_map.2 ⟨_,bJ hk,rfl⟩⟩
  rw [M4,SD hn]
  exact k3 hk
 ·rw [if_neg hk]at ht
  cases ht
theorem SS.agS{a:ZX}(h:SS a){A:A9}(hA:A∈tO a):NA A:=by
 obtain⟨q,hq,rfl⟩:=List.mem_map.1 hA
 exact⟨_,h.nn hq,rfl⟩
theorem SS.art{a:ZX}(h:SS a):(tO a).length≤21:=by
 have:=MQ h.iso
 unfold tO
 rw [List.length_map]
 exact this
end Go.Proofs.YtiobceocpabjdaaGreat
namespace Go.Proofs.YtiobceocpabjdaaGreat
open Go Pm
open ZX hiding N W
structure Bld(PL:List ZX)(lo:A9)(g:FuncId)(caps:List PV)(C B:A9→List CE):Prop where
 okp:∀a∈PL,SS a
 cer:∀A,NA A → ∀c∈B A,c.z=false ∧ ∃a∈PL,c.p=a.l
 len:∀A,NA A→(B A).length<1000
 bld:∀A,NA A→aE env.P g (.ag (b9 A)::caps) (aH gP (C A))
 NG:∀A,NA A→aE env.P 35 [aH gP (C A)] (aH gP (B A))
 lo:NA lo
 hw:env.writes g=false
 hm:env.GG g=false
 GJ:caps.all dI=true
noncomputable def lkL(n:A9)(L:List WE):List WE:=L.map (EX fun w=>nxA w.p n)
noncomputable def BM(L:List WE):A9:=match GB L with
 | []=>A9.no
 | x::l=>NO M4 x l
def BN(L:List WE):Bool := !(GB L).isEmpty
noncomputable def lyL(B:A9→List CE)(a:A9)(L:List WE):List WE:=(B a).map fun s=>kpt s (fun w=>decide (w.p=s.p)) (fun w=>M4 w.f a) L
structure Z8(PL:List ZX)(n:A9)(L:List WE):Prop where
 len:L.length<1000
 pol:∀w∈L,∃a∈PL,w.p=a.l
 unk:∀w∈L,w.k=false→w.o=false
 kno:∀w∈L,w.o=true→NA w.f∧0<M4 w.f n∧w.f∈PL.flatMap tO
theorem akE{PL:List ZX}{n:A9}{S:List CE}(hl:S.length<1000)(h:∀c∈S,∃a∈PL,c.p=a.l):Z8 PL n (S.map WE.new) where
 len:=by simpa using hl
 pol:=fun w hw=>by
  obtain⟨c,hc,rfl⟩:=List.mem_map.1 hw
  exact h c hc
 unk:=fun w hw _=>by
  obtain⟨c,hc,rfl⟩:=List.mem_map.1 hw
  rfl
 kno:=fun w hw ho=>by
  obtain⟨c,hc,rfl⟩:=List.mem_map.1 hw
  cases ho
section
variable {PL:List ZX} (hP:∀a∈PL,SS a) {n:A9} (hn:NA n)
include hP
theorem Z8.look{L:List WE}(h:Z8 PL n L):Z8 PL n (lkL n L) ∧ ∀w∈lkL n L,w.k=true:=by
 refine⟨⟨by unfold lkL;simpa using h.len,fun w hw=>?_,fun w hw hk=>?_,fun w hw ho=>?_⟩,fun w hw=>?_⟩
 all_goals
  obtain⟨v,hv,rfl⟩:=List.mem_map.1 hw
  by_cases hk:v.k=true
 ·rw [EX,if_pos hk];exact h.pol v hv
 ·rw [EX,if_neg hk];exact h.pol v hv
 ·rw [EX,if_pos hk]at *;exact h.unk v hv (by assumption)
 ·rename_i h2
  rw [EX,if_neg hk]at h2
  cases h2
 ·rw [EX,if_pos hk]at *;exact h.kno v hv ho
 ·rw [EX,if_neg hk]at *
  obtain⟨a,ha,e⟩:=h.pol v hv
  obtain⟨q1,q2,q3⟩:=(hP a ha).nx (B:=n) (by rw [←e];exact ho)
  rw [←e]at q1 q2 q3
  exact⟨q1,q2,List.mem_flatMap.2 ⟨a,ha,q3⟩⟩
 ·rw [EX,if_pos hk];exact hk
 ·rw [EX,if_neg hk]
end
theorem CY{L:List WE}{A:A9}:A∈GB L ↔ ∃w∈L,w.o=true∧w.f=A:=by
 simp only [GB,List.mem_map,List.mem_filter]
 exact⟨fun⟨w,⟨h1,h2⟩,h3⟩=>⟨w,h1,h2,h3⟩,fun⟨w,h1,h2,h3⟩=>⟨w,⟨h1,h2⟩,h3⟩⟩
theorem Z9{L:List WE}(h:BN L=true):BM L∈GB L:=by
 unfold BN at h
 unfold BM
 cases e:GB L with
 | nil=>rw [e]at h;cases h
 | cons x l=>exact CX
theorem uS{x:CE}{sm:WE→Bool}{c:WE→Int}:∀ {l:List WE},kpt x sm c l=WE.new x ∨ ∃w∈l,kpt x sm c l=⟨x.t,x.p,x.w,true,w.o,w.f⟩∧(w.o=true→0<c w)
 | [] => .inl rfl
 | w::l=>by
  rw [kpt]
  split
  ·rename_i h
   refine .inr ⟨w,by simp,rfl,fun ho=>?_⟩
   simp only [Bool.and_eq_true,Bool.or_eq_true,Bool.not_eq_true',decide_eq_true_eq]at h
   rcases h.2 with h | h
   ·rw [ho]at h;cases h
   ·exact h
  ·rcases uS (x:=x) (sm:=sm) (c:=c) (l:=l)with h | ⟨v,hv,h1,h2⟩
   ·exact .inl h
   ·exact .inr ⟨v,List.mem_cons_of_mem _ hv,h1,h2⟩
theorem arv{n:A9}{L:List WE}(h:∀w∈L,w.k=true):lkL n L=L:=by
 unfold lkL
 conv=>rhs;rw [←List.map_id L]
 exact List.map_congr_left fun w hw=>if_pos (h w hw)
theorem SE{L:List WE}(hl:L.length<1000)(h:∀A∈GB L,NA A):aE env.P 112 [aH b9 (GB L)] (.dX [.ag (b9 (BM L)), .bool (BN L)]):=by
 have hf:=YA L
 unfold BM BN
 cases e:GB L with
 | nil=>exact acg
 | cons x l =>
  rw [e]at h hf
  have hl':l.length<1000000:=by simp at hf;omega
  have hm:NA (NO M4 x l):=h _ CX
  exact wP hl' (fun y hy b hb=>(h y (List.mem_cons_of_mem _ hy)).cmp (h b hb)) hm.fr
section
variable {PL:List ZX} {lo:A9} {g:FuncId} {caps:List PV} {C B:A9→List CE} (D:Bld PL lo g caps C B) {n:A9} (hn:NA n)
include D hn
theorem akF{L:List WE}(h:Z8 PL n L)(e:Int):fY env.P 120 [] 95 12 (co true n false L e) (co true n false (lkL n L) e) (.dX []):=
 EY (by have:=h.len;omega) (fun h=>by cases h) (xV hn.least) fun w hw _=>by
  obtain⟨a,ha,e⟩:=h.pol w hw
  rw [e]
  exact(D.okp a ha).next hn
theorem aaa{L:List WE}(h:Z8 PL n L)(e:Int):fY env.P 51 [] 95 12 (co true n false L e) (co true n false (lkL n L) e) (.dX [.ag (b9 (BM (lkL n L))), .bool (BN (lkL n L))]):=by
 have hM:=(h.look D.okp).1
 refine EZ (by have:=hM.len;omega) (akF D hn h e) (SE hM.len fun A hA=>?_)
 obtain⟨w,hw,ho,rfl⟩:=CY.1 hA
 exact(hM.kno w hw ho).1
omit D in
theorem akG{L:List WE}{m:A9}(hL:Z8 PL m L)(hk:∀w∈L,w.k=true)(e:Int):fY env.P 51 [] 95 12 (co true n false L e) (co true n false L e) (.dX [.ag (b9 (BM L)), .bool (BN L)]):=by
 have h1:=EY (b:=true) (n:=n) (z:=false) (L:=L) (e:=e) (R:=fun w=>nxA w.p n) (by have:=hL.len;omega) (fun h=>by cases h) (xV hn.least) fun w hw hw'=>by rw [hk w hw]at hw';cases hw'
 have h2:L.map (EX fun w=>nxA w.p n)=L:=arv hk
 rw [h2]at h1
 refine EZ (by have:=hL.len;omega) h1 (SE hL.len fun A hA=>?_)
 obtain⟨w,hw,ho,rfl⟩:=CY.1 hA
 exact(hL.kno w hw ho).1
theorem akH{L:List WE}{m:A9}(hL:Z8 PL m L):Z8 PL n (lyL B n L) where
 len:=by unfold lyL;simpa using D.len n hn
 pol:=fun w hw=>by
  obtain⟨s,hs,rfl⟩:=List.mem_map.1 hw
  obtain⟨_,h⟩:=D.cer n hn s hs
  rcases uS (x:=s) (sm:=fun w=>decide (w.p=s.p)) (c:=fun w=>M4 w.f n) (l:=L)with e | ⟨v,_,e,_⟩<;>rw [e]<;>exact h
 unk:=fun w hw hk=>by
  obtain⟨s,hs,rfl⟩:=List.mem_map.1 hw
  rcases uS (x:=s) (sm:=fun w=>decide (w.p=s.p)) (c:=fun w=>M4 w.f n) (l:=L)with e | ⟨v,_,e,_⟩
  ·rw [e];rfl
  ·rw [e]at hk;cases hk
 kno:=fun w hw ho=>by
  obtain⟨s,hs,rfl⟩:=List.mem_map.1 hw
  rcases uS (x:=s) (sm:=fun w=>decide (w.p=s.p)) (c:=fun w=>M4 w.f n) (l:=L)with e | ⟨v,hv,e,h⟩
  ·rw [e]at ho;cases ho
  ·rw [e]at ho ⊢
   obtain⟨q1,_,q3⟩:=hL.kno v hv ho
   exact⟨q1,h ho,q3⟩
theorem agU{L:List WE}{m k:A9}(hL:Z8 PL m L)(e:Int):fY env.P 109 [.ag (b9 n), .bool true,aH gP (C n)] 95 12 (co true k false L e) (co true n false (lyL B n L) e) (.dX []):=by
 refine K7 (by have:=D.len n hn;omega) (fun s hs=>(D.cer n hn s hs).1) (D.NG n hn) hn.least (fun h=>by cases h) fun _ s hs=>⟨_,fun h=>agP h,agQ (by have:=hL.len;omega) (fun h=>by cases h) (D.cer n hn s hs).1 (fun w hw _ _=>?_) (fun w hw _ _ _ ho=>(hL.kno w hw ho).1.cmp hn)⟩
 obtain⟨a,ha,e1⟩:=hL.pol w hw
 obtain⟨_,a',HE,e2⟩:=D.cer n hn s hs
 have b1:=(D.okp a ha).lay.bz
 have b2:=(D.okp a' HE).lay.bz
 have:=UY (x:=a.l) (y:=a'.l) (b1.pb (by decide) (by decide)) (b2.pb (by decide) (by decide))
 rw [a.c,a'.c]at this
 rw [e1,e2]
 exact this
end
theorem JP{α:Type}{p q:α→Bool}:∀ {F:List α},(∀x∈F,p x=true→q x=true)→(∃x∈F,q x=true∧p x=false)→F.countP p<F.countP q
 | [],_,⟨_,h,_⟩=>by cases h
 | y::F,h,⟨x,hx,h1,h2⟩=>by
  rw [List.countP_cons,List.countP_cons]
  have hy:=h y (by simp)
  have hle:F.countP p≤F.countP q:=List.countP_mono_left fun z hz=>h z (List.mem_cons_of_mem _ hz)
  rcases List.mem_cons.1 hx with rfl | hx
  ·rw [h1,h2]
   simp
   omega
  ·have:=JP (fun z hz=>h z (List.mem_cons_of_mem _ hz)) ⟨x,hx,h1,h2⟩
   by_cases hp:p y=true
   ·rw [hp,hy hp]
    simp
    omega
   ·rw [if_neg hp]
    omega
noncomputable def BO(B:A9→List CE)(lo:A9):Nat→A9 × List WE
 | 0=>(lo,(B lo).map WE.new)
 | i+1=>(BM (lkL (BO B lo i).1 (BO B lo i).2),lyL B (BM (lkL (BO B lo i).1 (BO B lo i).2)) (lkL (BO B lo i).1 (BO B lo i).2))
noncomputable def mO(B:A9→List CE)(lo:A9)(i:Nat):List WE:=lkL (BO B lo i).1 (BO B lo i).2
theorem agV(B:A9→List CE)(lo:A9)(i:Nat):BO B lo (i+1)=(BM (mO B lo i),lyL B (BM (mO B lo i)) (mO B lo i)):=rfl
noncomputable def rk(F:List A9)(A:A9):Nat:=F.countP fun C=>decide (¬0<M4 C A)
theorem WT{A B:A9}(hA:NA A)(hB:NA B):0<M4 A B ↔ ∃t,cA B t∧¬cA A t:=WR hA.up hB.up
theorem agW{A B C:A9}(hA:NA A)(hB:NA B)(hC:NA C)(h1:0<M4 B A)(h2:0<M4 C B):0<M4 C A:=by
 obtain⟨t,t1,t2⟩:=(WT hB hA).1 h1
 obtain⟨s,s1,s2⟩:=(WT hC hB).1 h2
 refine(WT hC hA).2 ⟨s,?_,s2⟩
 by_cases h:t≤s
 ·exact hA.up _ _ t1 h
 ·exact absurd (hB.up _ _ s1 (by grind)) t2
theorem N7{F:List A9}(hF:∀C∈F,NA C){A B:A9}(hA:NA A)(hB:B∈F)(h:0<M4 B A):rk F A<rk F B:=by
 refine JP (fun C hC h1=>?_) ⟨B,hB,decide_eq_true (by rw [M4,akg];decide),decide_eq_false fun h2=>h2 h⟩
 refine decide_eq_true fun h2=>of_decide_eq_true h1 ?_
 exact agW hA (hF B hB) (hF C hC) h h2
section
variable {PL:List ZX} {lo:A9} {g:FuncId} {caps:List PV} {C B:A9→List CE} (D:Bld PL lo g caps C B)
include D
theorem mQ:∀i,(∀j,j<i→BN (mO B lo j)=true)→NA (BO B lo i).1∧Z8 PL (BO B lo i).1 (BO B lo i).2∧(0<i→(BO B lo i).1∈PL.flatMap tO)
 | 0,_=>⟨D.lo,akE (D.len _ D.lo) fun c hc=>(D.cer _ D.lo c hc).2,fun h=>absurd h (Nat.lt_irrefl _)⟩
 | i+1,h=>by
  obtain⟨h1,h2,_⟩:=mQ i fun j hj=>h j (by omega)
  have hL:=(h2.look D.okp).1
  change Z8 PL _ (mO B lo i)at hL
  obtain⟨w,hw,ho,e⟩:=CY.1 (Z9 (h i (by omega)))
  obtain⟨q1,q2,q3⟩:=hL.kno w hw ho
  rw [e]at q1 q2 q3
  rw [agV]
  exact⟨q1,akH D q1 hL,fun _=>q3⟩
theorem agX(i:Nat)(h:∀j,j<i→BN (mO B lo j)=true)(hi:BN (mO B lo i)=true):0<M4 (BM (mO B lo i)) (BO B lo i).1:=by
 obtain⟨h1,h2,_⟩:=mQ D i h
 have hL:=(h2.look D.okp).1
 change Z8 PL _ (mO B lo i)at hL
 obtain⟨w,hw,ho,e⟩:=CY.1 (Z9 hi)
 obtain⟨q1,q2,q3⟩:=hL.kno w hw ho
 rw [e]at q2
 exact q2
theorem agS:∀C∈PL.flatMap tO,NA C:=fun C hC=>by
 obtain⟨a,ha,h⟩:=List.mem_flatMap.1 hC
 exact(D.okp a ha).agS h
theorem agY:∀i,(∀j,j<i→BN (mO B lo j)=true)→i≤rk (PL.flatMap tO) (BO B lo i).1
 | 0,_=>Nat.zero_le _
 | i+1,h=>by
  have ih:=agY i fun j hj=>h j (by omega)
  have h1:=mQ D i fun j hj=>h j (by omega)
  have h2:=mQ D (i+1) h
  have h3:=agX D i (fun j hj=>h j (by omega)) (h i (by omega))
  have:=N7 (agS D) h1.1 (h2.2.2 (by omega)) h3
  omega
theorem akI(i:Nat)(h:∀j,j<i→BN (mO B lo j)=true):i≤(PL.flatMap tO).length:=Nat.le_trans (agY D i h) List.countP_le_length
theorem agZ(t:Rat):∃K,K≤(PL.flatMap tO).length∧(∀j,j<K→BN (mO B lo j)=true∧¬0<ZX.cr (cA (BM (mO B lo j))) t)∧(BN (mO B lo K)=true→0<ZX.cr (cA (BM (mO B lo K))) t):=by
 obtain⟨J,h1,h2,h3⟩:=kC (fun j=>¬(BN (mO B lo j)=true∧¬0<ZX.cr (cA (BM (mO B lo j))) t)) ((PL.flatMap tO).length+1)
 have h2':∀j,j<J→BN (mO B lo j)=true∧¬0<ZX.cr (cA (BM (mO B lo j))) t:=fun j hj=>Classical.not_not.1 (h2 j hj)
 have h4:=akI D J fun j hj=>(h2' j hj).1
 exact⟨J,h4,h2',fun hk=>Classical.byContradiction fun h5=>h3 (by omega) ⟨hk,h5⟩⟩
end
theorem ax9(f:ZX)(t:Rat):ex f (t,t)=(t,t):=by unfold ex;split<;>rfl
theorem anm{t:Rat}(q:SQ 5 t)(sb:t.num.natAbs≤30∧((t.den:Int)).natAbs≤6):NN (dR t,(t,t)):=by
 have I:=F0 (s:=S18) (n:=6) sb (by decide) (by decide) (by decide) (Nat.le_trans (show 6+1≤2^3 by decide) (Nat.pow_le_pow_right (by decide) (by decide))) (by decide) (by decide)
 have A:=(ang (u:=U18) I (by decide) (by rw [lR];decide) (tQ t) (q.mono (by decide)) (by decide)).1
 refine⟨A,?_⟩
 show AN S18 6 U18 (dR t) (ex (dR t) (t,t))
 rw [ax9]
 exact A
noncomputable def ptN(t:Rat):A9:=gN (dR t,(t,t))
theorem ann{t:Rat}(q:SQ 5 t)(sb:t.num.natAbs≤30∧((t.den:Int)).natAbs≤6):NA (ptN t):=.of (anm q sb)
theorem ano{t:Rat}(q:SQ 5 t)(sb:t.num.natAbs≤30∧((t.den:Int)).natAbs≤6)(u:Rat):ZX.cr (cA (ptN t)) u=JO t u:=by
 rw [ptN,SD (anm q sb)]
 exact agO (fun _=>lT rfl _) u
structure Std(B:A9→List CE)(lo:A9)(n:A9)(L:List WE)(i:Nat):Prop where
 na:NA n
 nx:fY env.P 51 [] 95 12 (co true n false L i) (co true n false (mO B lo i) i) (.dX [.ag (b9 (BM (mO B lo i))), .bool (BN (mO B lo i))])
section
variable {PL:List ZX} {lo:A9} {g:FuncId} {caps:List PV} {C B:A9→List CE} (D:Bld PL lo g caps C B)
noncomputable def kT(t:Rat):Nat:=Classical.choose (agZ D t)
theorem yR(t:Rat):kT D t≤(PL.flatMap tO).length∧(∀j,j<kT D t→BN (mO B lo j)=true∧¬0<ZX.cr (cA (BM (mO B lo j))) t)∧(BN (mO B lo (kT D t))=true→0<ZX.cr (cA (BM (mO B lo (kT D t)))) t):=Classical.choose_spec (agZ D t)
include D
theorem M5(i:Nat)(h:∀j,j<i→BN (mO B lo j)=true)(hi:BN (mO B lo i)=true):NA (BM (mO B lo i)):=(mQ D (i+1) fun j hj=>by
 rcases Nat.lt_or_ge j i with h1 | h1
 ·exact h j h1
 ·rw [show j=i by omega];exact hi).1
theorem akJ{t u:Rat}(h:t≤u):kT D t≤kT D u:=by
 obtain⟨_,h1,_⟩:=yR D t
 obtain⟨_,h2,h3⟩:=yR D u
 refine Nat.not_lt.1 fun dC=>?_
 obtain⟨h4,h5⟩:=h1 _ dC
 have h6:=h3 h4
 have hN:=M5 D _ (fun j hj=>(h2 j hj).1) h4
 have h7:¬cA (BM (mO B lo (kT D u))) u:=by
  rcases RZ (cA (BM (mO B lo (kT D u)))) u with h | h | h
  ·rw [h]at h6;exact absurd h6 (by decide)
  ·rw [h]at h6;exact absurd h6 (by decide)
  ·exact tI.1 h
 refine h5 ?_
 rw [tI.2 fun h8=>h7 (hN.up _ _ h8 h)]
 decide
theorem ag1:Std B lo lo ((B lo).map WE.new) 0:=⟨D.lo,aaa D D.lo (mQ D 0 fun j hj=>absurd hj (Nat.not_lt_zero _)).2.1 _⟩
theorem SG{n:A9}(hn:NA n)(i:Nat)(h:∀j,j<i→BN (mO B lo j)=true):Std B lo n (mO B lo i) i:=by
 obtain⟨h1,h2,_⟩:=mQ D i h
 obtain⟨h3,h4⟩:=h2.look D.okp
 exact⟨hn,akG hn h3 h4 _⟩
theorem akK(i:Nat)(h:∀j,j<i→BN (mO B lo j)=true):Std B lo (BO B lo i).1 (BO B lo i).2 i:=by
 obtain⟨h1,h2,_⟩:=mQ D i h
 exact⟨h1,aaa D h1 h2 _⟩
theorem aab{n:A9}{L:List WE}{i:Nat}(S:Std B lo n L i){t:Rat}(q:SQ 5 t)(sb:t.num.natAbs≤30∧((t.den:Int)).natAbs≤6)(hi:i≤kT D t)(hl:(PL.flatMap tO).length<1000000)(hc:¬0<ZX.cr (cA n) t) :
  fY env.P 43 [RT t, .fn g caps] 95 12 (co true n false L i) (co true (ptN t) false (mO B lo (kT D t)) (kT D t)) (.dX [.int .i64 ((kT D t:Int)-i), .int .i64 0]):=by
 obtain⟨k0,k1,k2⟩:=yR D t
 generalize hK:kT D t=K at *
 obtain⟨m,rfl⟩:∃m,K=i+m:=⟨K-i,by omega⟩
 have fT:∀j,j<i+m→BN (mO B lo j)=true:=fun j hj=>(k1 j hj).1
 have hS:∀j,0<j→j≤m→Std B lo (BO B lo (i+j)).1 (BO B lo (i+j)).2 (i+j):=fun j _ hj=>akK D _ fun x hx=>fT x (by omega)
 have hna:∀j,j<m→NA (BM (mO B lo (i+j))):=fun j hj=>M5 D _ (fun x hx=>fT x (by omega)) (fT _ (by omega))
 have hw:∀j,j≤m→Z8 PL (BO B lo (i+j)).1 (mO B lo (i+j)):=fun j hj=>((mQ D (i+j) fun x hx=>fT x (by omega)).2.1.look D.okp).1
 have key:=aqc (K:=m) (S:=fun j=>if j=0 then⟨true,n,false,L,i⟩else⟨true,(BO B lo (i+j)).1,false,(BO B lo (i+j)).2,(i+j:Nat)⟩) (U:=fun j=>if j=0 then⟨true,n,false,mO B lo i,i⟩else⟨true,(BO B lo (i+j)).1,false,mO B lo (i+j),(i+j:Nat)⟩) (a:=fun j=>BM (mO B lo (i+j))) (C:=fun j=>C (BM (mO B lo (i+j)))) (o:=ptN t) (g:=g) (caps:=caps)
  (r:=BM (mO B lo (i+m))) (ok:=BN (mO B lo (i+m))) (m:=n) (v:=ZX.cr (cA n) t) hc (by omega) D.hw D.hm D.GJ (xV S.na.least) (S.na.cr q) (fun j hj=>?_) (fun j hj=>⟨_,(k1 _ (by omega)).2,(hna j hj).cr q⟩) (fun j hj=>(hna j hj).least) (fun j hj=>D.bld _ (hna j hj)) (fun j hj=>?_) ?_ (fun h=>⟨_,k2 h,(M5 D _ fT h).cr q⟩) (arj q (by decide)) ?_
 ·have e1:(if m=0 then(⟨true,n,false,mO B lo i,i⟩:CS)else⟨true,(BO B lo (i+m)).1,false,mO B lo (i+m),(i+m:Nat)⟩).L=mO B lo (i+m):=by
   by_cases h:m=0
   ·subst h;rfl
   ·rw [if_neg h]
  have e2:(if m=0 then(⟨true,n,false,mO B lo i,i⟩:CS)else⟨true,(BO B lo (i+m)).1,false,mO B lo (i+m),(i+m:Nat)⟩).e=((i+m:Nat):Int):=by
   by_cases h:m=0
   ·subst h;rfl
   ·rw [if_neg h]
  simp only [e1,e2]at key
  rw [show((i+m:Nat):Int)-i=m by omega]
  exact key
 ·have e0:=fT (i+j) (by omega)
  by_cases h:j=0
  ·subst h
   have:=S.nx
   rw [fT i (by omega)]at this
   exact this
  ·have:=(hS j (by omega) (by omega)).nx
   rw [e0]at this
   simp only [if_neg h]
   exact this
 ·refine⟨(BO B lo (i+(j+1))).2,((i+j:Nat):Int),?_,?_,by omega,by omega⟩
  ·by_cases h:j=0
   ·subst h
    exact agU D (hna 0 hj) (hw 0 (by omega)) _
   ·simp only [if_neg h]
    exact agU D (hna j hj) (hw j (by omega)) _
  ·simp only [if_neg (Nat.succ_ne_zero j)]
   rw [show((i+(j+1):Nat):Int)=((i+j:Nat):Int)+1 by omega]
   rfl
 ·by_cases h:m=0
  ·subst h
   exact S.nx
  ·simp only [if_neg h]
   exact(hS m (by omega) (Nat.le_refl _)).nx
 ·by_cases h:m=0
  ·subst h;rfl
  ·simp only [if_neg h]
end
end Go.Proofs.YtiobceocpabjdaaGreat
namespace Go.Proofs.YtiobceocpabjdaaGreat
open Go Pm
set_option maxHeartbeats 2000000 in
theorem F3{l:List CE}(hl:l.length<1048576)(hz:∀x∈l,x.z=false∧aE env.P 107 [Po x.p,Po x.p] (.bool true)):aE env.P 34 [aH gP l,aH gP l] (.bool true):=by
 refine cB [(0,aH gP l),(1,aH gP l)] Tryz.func34 ?_
 refine aA [0,1] ?_
 refine aK [0,1,10] ?_
 refine bH ?_ ?_<;>intro h
 ·simp at h
 ·refine W.skip ?_
  refine aK [0,1,12,13] ?_
  refine W.block ?_
  refine W.aY (fun k σ=>∃(i:Nat) (rows:Pm.Rows) (clk:Nat),σ=⟨fa [(0,aH gP l),(1,aH gP l),(12, .int .i64 l.length),(13, .int .i64 i)],rows,clk⟩∧i+k=l.length) l.length ?_ ?_
  ·exact⟨_, .refl,0,_,_,rfl,by omega⟩
  rintro k _ ⟨i,rows,clk,rfl,uA⟩
  refine bT [0,1,12,13,14] ?_
  refine bH ?_ ?_<;>intro h
  ·have hi:i<l.length:=by simp at h;omega
   obtain⟨hz1,k1⟩:=hz _ (bJ hi)
   have hc:gP (nth l i) = [.int .i64 (nth l i).t.k, .int .i64 (nth l i).t.a, .int .i64 (nth l i).t.b, .int .i64 (nth l i).t.c, .int .i64 (nth l i).t.d,Po (nth l i).p, .int .i64 (nth l i).w]:=by rw [gQ,hz1];rfl
   have q1:=anj
   refine j7 ?_
   refine aA [0,1,5,12,13] ?_
   refine W.aeb (fun σ=>σ=⟨fa [(0,aH gP l),(1,aH gP l),(12, .int .i64 l.length),(13, .int .i64 i),(53, .bool false)],rows,clk⟩) (fun K hK=>?_) ?_
   ·simp (disch:=omega) [gw,hi,hc,q1,allI,kE]
    refine cM k1 ?_
    exact hK _ _ (aB _ [0,1,12,13,53]) rfl
   rintro _ rfl
   refine bH ?_ ?_<;>intro h
   ·simp at h
   ·refine W.skip ?_
    refine W.bY (fun K hK=>?_);simp (disch:=omega) [gw]
    exact hK _ ⟨k-1,_,aB _ [0,1,12,13],by omega,i+1,_,_,rfl,by omega⟩
  ·refine eW ?_
   refine aA [4] ?_
   exact bZ
def toC(P:RE→List Int)(x:RE):CE:=⟨x.t,false,P x,x.w⟩
set_option maxHeartbeats 2000000 in
theorem akM{l:List RE}{P:RE→List Int}(hl:l.length<1048576)(hT:∀x∈l,aE env.P 100 [.sl (szc x.z x.q)] (Po (P x))):aE env.P 36 [aH vY l] (aH gP (l.map (toC P))):=by
 refine cB [(0,aH vY l)] Tryz.func36 ?_
 refine aA [0] ?_
 refine aA [0,3] ?_
 refine W.nil 3 3 82 7 (by simp) (by decide) (fun K hK=>?_)
 refine W.lw [0,3] hK ?_;clear hK K;simp
 refine aK [0,3,6,7] ?_
 refine W.block ?_
 refine W.aY (fun k σ=>∃(i v3:Nat) (rows:Pm.Rows) (clk:Nat),σ=⟨fa [(0,aH vY l),(3, .own 3 v3 0 i),(6, .int .i64 l.length),(7, .int .i64 i)],rows,clk⟩∧i+k=l.length∧rows 3=some ⟨v3,82,7,emap gP ((l.take i).map (toC P))⟩) l.length ?_ ?_
 ·exact⟨_, .refl,0,_,_,_,rfl,by omega,by simp [emap]⟩
 rintro k _ ⟨i,v3,rows,clk,rfl,uA,bQ⟩
 refine bT [0,3,6,7,8] ?_
 refine bH ?_ ?_<;>intro h
 ·have hi:i<l.length:=by simp at h;omega
  have M9:((l.take i).map (toC P)).length=i:=by simp;omega
  have iI:(l.take (i+1)).map (toC P)=(l.take i).map (toC P) ++ [toC P (nth l i)]:=by
   rw [cE hi,List.take_succ_eq_append_getElem hi,List.map_append];rfl
  have hTi:=hT _ (bJ hi)
  generalize (l.take i).map (toC P)=S at *
  refine j7 ?_
  refine aA [0,3,4,6,7] ?_
  refine W.NB (fun K hK=>?_)
  simp (disch:=omega) [gw,bQ,hi,CB,M9]
  refine aC hTi ?_
  simp (disch:=omega) [gw,bQ,hi,CB,M9]
  refine bE (by intro p hp;rcases hp with (rfl | rfl | rfl | rfl | rfl | rfl) | rfl<;>simp [bL,iT,aU,aH]) ?_
  simp (disch:=omega) [gw,bQ,hi,CB,M9]
  refine hK _ ?_;clear hK K
  refine W.bY (fun K hK=>?_);simp (disch:=omega) [gw]
  refine hK _ ⟨k-1,_,aB _ [0,3,6,7],by omega,i+1,_,_,_,rfl,by omega,?_⟩
  rw [iI]
  simp [emap,toC,gQ]
  rfl
 ·have hi:i=l.length:=by simp at h;omega
  subst hi
  rw [List.take_length]at bQ
  refine eW ?_
  refine W.freeze 3 (by simp [bQ]) (fun K hK=>?_)
  simp [bQ]
  refine hK _ ?_;clear hK K
  refine aA [2] ?_
  refine W.ret ?_
  simp [go]
  try rw [List.take_of_length_le (by simp)]
end Go.Proofs.YtiobceocpabjdaaGreat
namespace Go.Proofs.YtiobceocpabjdaaGreat
open Go Pm
open ZX hiding N W
def lcs(l:List Int):List PV:=[aH aG l]
theorem akN(l:List Int):lcs l = [aH aG l]:=rfl
@[simp] theorem arw{l:List (List Int)}:bK 1 (emap lcs l)=True:=cL fun _=>rfl
def reN(al:Nat→List Int)(w:Nat→Int)(i:Nat):RE:=⟨⟨5-(i:Int)%3,i,0,0,0⟩,false,emap ri (al i),w i,false,[],false⟩
def reL(al:Nat→List Int)(w:Nat→Int)(n:Nat):List RE:=(List.range n).map (reN al w)
theorem ag2(al:Nat→List Int)(w:Nat→Int)(n:Nat):reL al w (n+1)=reL al w n ++ [reN al w n]:=by simp [reL,List.range_succ]
theorem M6(al:Nat→List Int)(w:Nat→Int)(n:Nat):(reL al w n).length=n:=by simp [reL]
set_option maxHeartbeats 2000000 in
theorem acm{ps:List (List Int)}(hl:ps.length<9223372036854775808){al:Nat→List Int}{w:Nat→Int}{x:List Int}{c:List ZX}{an ad bn bd:Int}
  (hM:∀i,i<ps.length→i<5→aE env.P 114 [aH aG (nth ps i), .int .i64 4] (PI (al i)))
  (hA:∀i,i<ps.length→i<5→aE env.P 115 [PI (al i), .ag (nD x c an ad bn bd)] (.int .i64 (w i))) :
  aE env.P 46 [aH lcs ps, .ag (nD x c an ad bn bd)] (aH vY (reL al w (min ps.length 5))):=by
 simp only [nD]at *
 refine cB [(0,aH lcs ps),(1, .ag (nD x c an ad bn bd))] Tryz.func46 ?_
 refine aA [0,3] ?_
 refine aA [0,3,5] ?_
 refine W.nil 5 5 85 9 (by simp) (by decide) (fun K hK=>?_)
 refine W.lw [0,3,5] hK ?_;clear hK K;simp
 refine aK [0,3,5,6] ?_
 refine W.block ?_
 refine W.aY (fun k σ=>∃(i v3 v5:Nat) (rows:Pm.Rows) (clk:Nat),σ=⟨fa [(0,aH lcs ps),(3, .ptr 3 v3 0 0),(5, .own 5 v5 0 i),(6, .int .i64 i)],rows,clk⟩∧i+k=min ps.length 5∧rows 3=some ⟨v3,49,10,[nD x c an ad bn bd]⟩∧rows 5=some ⟨v5,85,9,emap vY (reL al w i)⟩) (min ps.length 5) ?_ ?_
 ·exact⟨_,aB _ [0,3,5,6],0,_,_,_,_,rfl,by omega,by simp [nD],by simp [reL,emap]⟩
 rintro k _ ⟨i,v3,v5,rows,clk,rfl,uA,bQ,dM⟩
 refine W.seq ?_
 refine W.eD (fun σ=>∃(b:Bool),σ=⟨fa [(0,aH lcs ps),(3, .ptr 3 v3 0 0),(5, .own 5 v5 0 i),(6, .int .i64 i),(15, .bool b)],rows,clk⟩∧(b=true↔(i<ps.length∧i<5))) (fun K hK=>?_) ?_
 ·by_cases h1:i<ps.length
  ·simp (disch:=omega) [gw,h1]
   exact hK _ _ (aB _ [0,3,5,6,15]) ⟨_,rfl,by simp [h1];omega⟩
  ·simp (disch:=omega) [gw,h1]
   exact hK _ _ (aB _ [0,3,5,6,15]) ⟨_,rfl,by simp [h1]⟩
 rintro _ ⟨b,rfl,hbb⟩
 refine bH ?_ ?_<;>intro h
 ·obtain⟨hi,h5⟩:=hbb.1 h
  have m:=hM i hi h5
  have a:=hA i hi h5
  have hlen:=M6 al w i
  have iI:=ag2 al w i
  generalize hS':reL al w (i+1)=S' at *
  generalize reL al w i=S at *
  simp only [nD]at bQ
  refine j7 ?_
  refine W.sr ?_
  simp (disch:=omega) [gw,hi,akN]
  refine cN [0,3,5,6,7] m ?_
  refine W.bY (fun K hK=>?_)
  simp (disch:=omega) [gw,bQ]
  refine aC a ?_
  simp (disch:=omega) [gw,dM,hlen]
  refine bE (fun p hp=>by rcases hp with (h|h|h|h)|h|h|h<;>subst h<;>simp) ?_
  simp (disch:=omega) [gw,dM,hlen]
  try (refine bE (by omega) ?_;simp (disch:=omega) [gw,dM,hlen])
  refine W.lw [0,3,5,6] hK ?_;clear hK K;simp
  refine W.bY (fun K hK=>?_);simp (disch:=omega) [gw]
  refine hK _ ⟨k-1,_,aB _ [0,3,5,6],by omega,i+1,_,_,_,_,rfl,by omega,by simp [bQ,nD],by rw [hS',iI];simp [emap,hlen,vY,reN,aH]⟩
 ·have hi:i=min ps.length 5:=by
   have:¬(i<ps.length∧i<5):=fun hh=>by rw [hbb.2 hh]at h;cases h
   omega
  subst hi
  refine eW ?_
  refine W.freeze 5 (by simp [dM]) (fun K hK=>?_)
  simp [dM]
  rw [List.take_of_length_le (by rw [M6];omega)]
  refine hK _ ?_;clear hK K
  refine aA [4] ?_
  exact bZ
theorem SH{ps:List (List Int)}{t:A9}{l:List RE}{m:List CE}{x:List Int}{c:List ZX}{an ad bn bd:Int}(h1:aE env.P 20 [.ag (b9 t)] (.ag (nD x c an ad bn bd)))(h2:aE env.P 46 [aH lcs ps, .ag (nD x c an ad bn bd)] (aH vY l))(h3:aE env.P 36 [aH vY l] (aH gP m)) :
  aE env.P 56 [.ag (b9 t), .rd [aH lcs ps]] (aH gP m):=by
 simp only [fM,nD]at *
 refine cB [(0, .ag [.sl t.y, .bool t.s, .sl t.d, .bool t.s', .sl t.d', .bool t.u, .sl t.e, .bool t.u', .sl t.e']),(1, .rd [aH lcs ps])] Tryz.func56 ?_
 refine aA [1,2] ?_
 refine nH ?_
 refine cM h1 ?_
 refine cM h2 ?_
 refine cN [3] h3 ?_
 exact bZ
theorem aac(l:List Int):SS (made l 4):=by
 obtain⟨h1,h2⟩:=akl l 4
 have e1:3*9^4=19683:=by decide
 exact⟨(ZC l 4).1,⟨(BZ.am3 (s:=18) (n:=5) (by show _<262144;omega) h2).mono (Nat.le_refl _) (by decide),by decide,by decide,by decide⟩⟩
theorem szA:SzC S18 6 18 6:=⟨by decide,by decide,by decide,by decide,by decide,by decide,by decide,by decide⟩
noncomputable def mP(ps:List (List Int))(i:Nat):ZX:=made (nth ps i) 4
noncomputable def PL(ps:List (List Int)):List ZX:=(List.range (min ps.length 5)).map (mP ps)
noncomputable def wS(A:A9)(a:ZX):Int:=afU (cO (vI A).1 (ex (vI A).1 (vI A).2)) a
noncomputable def rA(ps:List (List Int))(A:A9):List RE:=reL (fun i=>(mP ps i).l) (fun i=>wS A (mP ps i)) (min ps.length 5)
noncomputable def cC(ps:List (List Int))(A:A9):List CE:=(List.range (min ps.length 5)).map fun(i:Nat)=>⟨⟨5-(i:Int)%3,(i:Int),0,0,0⟩,false,(mP ps i).l,wS A (mP ps i)⟩
theorem ag3(ps:List (List Int))(A:A9):(cC ps A).length≤5:=by simp [cC];omega
theorem arx{ps:List (List Int)}{A:A9}{c:CE}(h:c∈cC ps A):c.z=false ∧ ∃a∈PL ps,c.p=a.l:=by
 obtain⟨i,hi,rfl⟩:=List.mem_map.1 h
 exact⟨rfl,mP ps i,List.mem_map.2 ⟨i,hi,rfl⟩,rfl⟩
theorem acn{A:A9}(h:NA A):aE env.P 20 [.ag (b9 A)] (QA (vI A).1 (bA (vI A).1) (ex (vI A).1 (vI A).2)):=by
 obtain⟨⟨a,_⟩,e⟩:=iK h
 have:=a.I.am5 a.q1 a.q2 (by decide)
 have e3:(.ag (b9 (gN (vI A))):PV)=GA (vI A).1 (vI A).2:=rfl
 rw [e]at e3
 rw [e3]
 exact this
section
variable {ps:List (List Int)} (hl:ps.length<9223372036854775808) (hb:∀l∈ps,(∀x∈l, -9223372036854775808≤x∧x<9223372036854775808)∧l.length<9223372036854775808) {A:A9} (hA:NA A)
include hl hb hA
theorem ary:aE env.P 46 [aH lcs ps,QA (vI A).1 (bA (vI A).1) (ex (vI A).1 (vI A).2)] (aH vY (rA ps A)):=
 acm (x:=(vI A).1.l) (c:=bA (vI A).1) hl (fun i hi _=>afR _ (hb _ (bJ hi)).2 (hb _ (bJ hi)).1 4 (by decide)) fun i _ _=>(iK hA).1.b.ard szA (aac _).lay.bz (axS _ _)
omit hl hb hA in
theorem aDr:aE env.P 36 [aH vY (rA ps A)] (aH gP (cC ps A)):=by
 have:=akM (l:=rA ps A) (P:=fun x=>(mP ps x.t.a.toNat).l) (by rw [rA,M6];omega) fun x hx=>by
  obtain⟨i,_,rfl⟩:=List.mem_map.1 hx
  exact L4 (aac _).lay.bz (by decide) (by decide)
 have e:(rA ps A).map (toC fun x=>(mP ps x.t.a.toNat).l)=cC ps A:=by
  rw [rA,reL,cC,List.map_map]
  exact List.map_congr_left fun i _=>rfl
 rwa [e]at this
theorem ag4:aE env.P 56 [.ag (b9 A), .rd [aH lcs ps]] (aH gP (cC ps A)):=SH (acn hA) (ary hl hb hA) aDr
omit hl hb hA in
theorem anp:aE env.P 35 [aH gP (cC ps A)] (aH gP (oO (cC ps A))):=
 zL (by have:=ag3 ps A;omega) fun x hx=>by
  obtain⟨i,_,rfl⟩:=List.mem_map.1 hx
  have bz:=(aac (nth ps i)).lay.bz
  have nN:=eO (x:=(mP ps i).l) (bz.pb (by decide) (by decide))
  rw [(mP ps i).c]at nN
  exact nN
end
theorem SI{l:List CE}{x:CE}(h:x∈oO l):∃y∈l,x=y.nz:=by
 suffices hs:∀(l S:List CE),x∈l.foldl (K5 CE.t) S→x∈S∨x∈l by
  rcases hs _ _ h with h | h
  ·cases h
  ·obtain⟨y,hy,rfl⟩:=List.mem_map.1 h
   exact⟨y,hy,rfl⟩
 intro l
 induction l with
 | nil=>intro S h;exact .inl h
 | cons a l ih =>
  intro S h
  rcases ih _ h with h | h
  ·simp only [K5,List.mem_append,List.mem_cons]at h
   rcases h with h | rfl | h
   ·exact .inl (List.mem_of_mem_take h)
   ·exact .inr (by simp)
   ·exact .inl (List.mem_of_mem_drop h)
  ·exact .inr (List.mem_cons_of_mem _ h)
theorem arz{ps:List (List Int)}{A:A9}{c:CE}(h:c∈oO (cC ps A)):c.z=false ∧ ∃a∈PL ps,c.p=a.l:=by
 obtain⟨y,hy,rfl⟩:=SI h
 obtain⟨h1,a,ha,h2⟩:=arx hy
 exact⟨rfl,a,ha,by show y.v=a.l;unfold CE.v;rw [h1,if_neg (by decide)];exact h2⟩
theorem aad{ps:List (List Int)}:∀a∈PL ps,SS a:=fun a ha=>by
 obtain⟨i,_,rfl⟩:=List.mem_map.1 ha
 exact aac _
theorem WU{ps:List (List Int)}:((PL ps).flatMap tO).length≤105:=by
 have h:∀(L:List ZX),(∀a∈L,SS a)→(L.flatMap tO).length≤21*L.length:=fun L=>by
  induction L with
  | nil=>intro _;simp
  | cons a L ih =>
   intro h
   have h1:=ih fun b hb=>h b (List.mem_cons_of_mem _ hb)
   have h2:=(h a (by simp)).art
   rw [List.flatMap_cons,List.length_append,List.length_cons]
   omega
 have h1:=h _ (aad (ps:=ps))
 have h2:(PL ps).length≤5:=by unfold PL;simp;omega
 omega
theorem aDs{ps:List (List Int)}(hl:ps.length<9223372036854775808)(hb:∀l∈ps,(∀x∈l, -9223372036854775808≤x∧x<9223372036854775808)∧l.length<9223372036854775808){lo:A9}(y6:NA lo):Bld (PL ps) lo 56 [.rd [aH lcs ps]] (cC ps) (fun A=>oO (cC ps A)) where
 okp:=aad
 cer:=fun _ _ c hc=>arz hc
 len:=fun A _=>by rw [xU];have:=ag3 ps A;omega
 bld:=fun A hA=>ag4 hl hb hA
 NG:=fun A _=>anp
 lo:=y6
 hw:=rfl
 hm:=rfl
 GJ:=rfl

/-! T4: CUT INTO SHORTER ONES: the walk. -/
def Gd(u:Rat):Prop:=SQ 5 u∧u.num.natAbs≤30∧((u.den:Int)).natAbs≤6
def smK(kt:Rat→Nat)(b:Bool)(u:Rat):Int:=if b=true then kt u else 0
structure KS(ps:List (List Int))(lo hi:Rat)(kt:Rat→Nat)(t:A9)(x:List Int)(C:List ZX)(m M:List CE)(cs:Bool→Rat→List PV)(r:A9)(ok:Bool):Prop where
  kb:∀u,kt u≤1000
  p:∀b u,∀q∈cs b u,bL q=true
  gl:Gd lo
  gh:Gd hi
  lh:lo≤hi
  o1:aE env.P 12 [.int .i64 (-20), .int .i64 1] (R2 lo.num lo.den)
  o2:aE env.P 12 [.int .i64 20, .int .i64 1] (R2 hi.num hi.den)
  rat:aE env.P 41 [R2 lo.num lo.den] (AP x C lo.num lo.den)
  toA:aE env.P 29 [AP x C lo.num lo.den] (.ag (b9 t))
  bld:aE env.P 56 [.ag (b9 t), .rd [aH lcs ps]] (aH gP m)
  be:fY env.P 42 [.ag (b9 t),aH gP m] 95 12 (co false A9.no true [] 0) (cs false lo) (.dX [])
  go:∀b u v,Gd u→Gd v→lo≤u→u≤v→(b=false→u=lo)→fY env.P 43 [T2 v.num v.den, .fn 56 [.rd [aH lcs ps]]] 95 12 (cs b u) (cs true v) (.dX [.int .i64 (kt v-smK kt b u), .int .i64 0])
  nx:fY env.P 51 [] 95 12 (cs true hi) (cs true hi) (.dX [.ag (b9 r), .bool ok])
  ev:fY env.P 44 [] 95 12 (cs true hi) (cs true hi) (.int .i64 (kt hi))
  ce:fY env.P 47 [] 95 12 (cs true hi) (cs true hi) (aH gP M)
  sm:aE env.P 34 [aH gP M,aH gP M] (.bool true)
def SJ(x:Rat):List (List PV):=[[aH aG (aR DD x.num.natAbs), .bool (decide (x.num<0)),aH aG (aR DD (x.den:Int).natAbs), .bool (decide ((x.den:Int)<0))]]
abbrev KJ(ps:List (List Int))(rK:List Int)(lo hi:Rat)(kt:Rat→Nat)(cs:Bool→Rat→List PV)(i:Nat)(σ:PS):Prop:=∃(v6 v9 v10 v14:Nat) (bb:Bool) (la:Rat) (rows:Pm.Rows) (clk:Nat),σ=⟨fa [(1,aH aG rK),(6, .ptr 6 v6 0 0),(8, .fn 56 [.rd [aH lcs ps]]),(9, .ptr 9 v9 0 0),(10, .ptr 10 v10 0 0),(11, .int .i64 (kt hi)),(12, .int .i64 0),(13, .int .i64 (smK kt bb la)),(14, .ptr 14 v14 0 0),(15, .int .i64 i)],rows,clk⟩∧rows 6=some ⟨v6,31,4,SJ hi⟩∧rows 9=some ⟨v9,95,12,[cs true hi]⟩∧rows 10=some ⟨v10,95,12,[cs bb la]⟩∧rows 14=some ⟨v14,31,4,SJ la⟩∧Gd la∧lo≤la∧la≤hi∧(bb=false→la=lo)
theorem aya{u:Nat}{x y:Rat}(hx:SQ u x)(hy:SQ u y)(hu:u≤1000000000):aE env.P 14 [R2 x.num x.den,R2 y.num y.den] (.int .i64 (JO x y)):=by
  have h1:=qG x y (hx.yy hu) (hy.yy hu)
  rw [dJ,dJ]at h1
  have e:dP (x.num*y.den) (y.num*x.den)=JO x y:=by
    unfold JO
    by_cases h:x<y
    · rw [if_pos h,mK (mV.1 (fW.2 h))]
    · rw [if_neg h]
      by_cases h':y<x
      · rw [if_pos h',mL (p7.1 (fV.2 h'))]
      · rw [if_neg h',lS.2 (by grind)]
  rwa [e]at h1
set_option maxHeartbeats 8000000 in
theorem F4{ps:List (List Int)}{rK:List Int}(hl:rK.length<9223372036854775808)(hb:∀x∈rK, -9223372036854775808≤x∧x<9223372036854775808){lo hi:Rat}{kt:Rat→Nat}{t:A9}{x:List Int}{C:List ZX}{m M:List CE}{cs:Bool→Rat→List PV}{r:A9}{ok:Bool}(F:KS ps lo hi kt t x C m M cs r ok) :
    aE env.P 9 [aH lcs ps,aH aG rK] (.bool true):=by
  have hw:=R9
  obtain⟨kb,hp,gl,gh,lh,o1,o2,f1,f2,f3,fb,fg,fx,fe,fc,fs⟩:=F
  have pz:=iP false A9.no true [] 0
  have p0:=hp false lo
  have p1:=hp true hi
  have g1:=fg false lo hi gl gh Rat.le_refl lh (fun _=>rfl)
  rw [show(kt hi:Int)-smK kt false lo=kt hi by simp [smK]]at g1
  have h3:=gh.1.tor (by decide)
  rw [dJ]at h3
  simp only [fM,A9.no]at *
  refine cB [(0,aH lcs ps),(1,aH aG rK)] Tryz.func9 ?_
  refine aA [1,2] ?_
  refine W.freeze 2 (by simp) (fun K hK=>?_)
  simp
  refine hK _ ?_;clear hK K
  refine jG ?_
  refine cM o1 ?_
  refine cN [1,2,5,6] o2 ?_
  refine aL [1,2,5,6,7] f1 ?_
  refine aA [1,5,6,7,8] ?_
  refine aA [1,5,6,7,8,9,10] ?_
  refine nH ?_
  refine cM f2 ?_
  refine cM f2 ?_
  refine cM f3 ?_
  refine D3 fb rfl rfl pz p0 (by simp [z9,A9.no]) ?_
  simp (disch:=omega) [gw]
  refine bI [1,5,6,7,8,9,10] ?_
  refine nH ?_
  refine cM f2 ?_
  refine cM f2 ?_
  refine cM f3 ?_
  refine D3 fb rfl rfl pz p0 (by simp [z9,A9.no]) ?_
  simp (disch:=omega) [gw]
  refine bI [1,5,6,8,9,10] ?_
  refine jG ?_
  refine cM h3 ?_
  refine iZ g1 rfl rfl p0 p1 (by simp) ?_
  simp (disch:=omega) [gw]
  refine bI [1,5,6,8,9,10,11,12] ?_
  refine nH ?_
  rw [if_pos (by kernel_rfl)]
  simp (disch:=omega) [gw]
  refine bI [1,6,8,9,10,11,12,13,14] ?_
  refine aK [1,6,8,9,10,11,12,13,14,15] ?_
  refine W.block ?_
  refine W.aY (fun k σ=>∃i,i+k=6∧KJ ps rK lo hi kt cs i σ) 6 ?_ ?_
  · exact⟨_,aB _ [1,6,8,9,10,11,12,13,14,15],0,rfl,_,_,_,_,false,lo,_,_,rfl,by simp [SJ],by simp,by simp,by simp [SJ],gl,Rat.le_refl,lh,fun _=>rfl⟩
  rintro k _ ⟨i,uA,v6,v9,v10,v14,bb,la,rows,clk,rfl,i9,IW,qZ,AA,gla,ND,ayb,hbl⟩
  rw [SJ]at i9 AA
  have hsm:0≤smK kt bb la∧smK kt bb la≤1000:=by
    have:=kb la
    unfold smK
    split<;>omega
  have hpb:=hp bb la
  refine W.seq ?_
  refine W.eD (fun σ=>∃(b:Bool),σ=⟨fa [(1,aH aG rK),(6, .ptr 6 v6 0 0),(8, .fn 56 [.rd [aH lcs ps]]),(9, .ptr 9 v9 0 0),(10, .ptr 10 v10 0 0),(11, .int .i64 (kt hi)),(12, .int .i64 0),(13, .int .i64 (smK kt bb la)),(14, .ptr 14 v14 0 0),(15, .int .i64 i),(59, .bool b)],rows,clk⟩∧(b=true→i<rK.length∧i<6)) (fun K hK=>?_) ?_
  · by_cases h1:i<rK.length
    · simp (disch:=omega) [gw,h1]
      exact hK _ _ (aB _ [1,6,8,9,10,11,12,13,14,15,59]) ⟨_,rfl,by simp [h1];omega⟩
    · simp (disch:=omega) [gw,h1]
      exact hK _ _ (aB _ [1,6,8,9,10,11,12,13,14,15,59]) ⟨_,rfl,by simp⟩
  rintro _ ⟨b,rfl,hbb⟩
  refine bH ?_ ?_<;>intro h
  · obtain⟨lW,h6⟩:=hbb h
    have hS:=abT (nth rK i) i (hb _ (bJ lW)) (by omega)
    have gu:Gd (sml (nth rK i) i):=⟨aqQ _ _,afW _ _⟩
    generalize sml (nth rK i) i=u at *
    rw [dJ]at hS
    have c1:=aya gu.1 gla.1 (by decide)
    have c2:=aya gu.1 gh.1 (by decide)
    have hu:=gu.1.tor (by decide)
    rw [dJ]at hu
    have hG:=fun h1=>fg bb la u gla gu ND h1 hbl
    have hkb:=kb u
    have p2:=hp true u
    refine W.skip ?_
    refine W.dW (KJ ps rK lo hi kt cs i) ?_ ?_
    · refine W.sr ?_
      simp (disch:=omega) [gw,lW]
      refine cN [1,6,8,9,10,11,12,13,14,15,16] hS ?_
      refine W.seq ?_
      refine W.eD (fun σ=>∃(b:Bool) (v16:Nat) (rows:Pm.Rows) (clk:Nat),σ=⟨fa [(1,aH aG rK),(6, .ptr 6 v6 0 0),(8, .fn 56 [.rd [aH lcs ps]]),(9, .ptr 9 v9 0 0),(10, .ptr 10 v10 0 0),(11, .int .i64 (kt hi)),(12, .int .i64 0),(13, .int .i64 (smK kt bb la)),(14, .ptr 14 v14 0 0),(15, .int .i64 i),(16, .ptr 16 v16 0 0),(77, .bool b)],rows,clk⟩∧(b=false→la≤u∧u≤hi)∧rows 16=some ⟨v16,31,4,SJ u⟩∧rows 6=some ⟨v6,31,4,SJ hi⟩∧rows 9=some ⟨v9,95,12,[cs true hi]⟩∧rows 10=some ⟨v10,95,12,[cs bb la]⟩∧rows 14=some ⟨v14,31,4,SJ la⟩) (fun K hK=>?_) ?_
      · by_cases h1:JO u la<0
        · simp (disch:=omega) [gw,AA,i9]
          refine aC c1 ?_
          simp (disch:=omega) [gw,h1]
          exact hK _ _ (aB _ [1,6,8,9,10,11,12,13,14,15,16,77]) ⟨_,_,_,_,rfl,by simp,by simp [SJ],by simp [i9,SJ],by simp [IW],by simp [qZ],by simp [AA,SJ]⟩
        · simp (disch:=omega) [gw,AA,i9]
          refine aC c1 ?_
          simp (disch:=omega) [gw,h1,i9]
          refine cM c2 ?_
          exact hK _ _ (aB _ [1,6,8,9,10,11,12,13,14,15,16,77]) ⟨_,_,_,_,rfl,fun hh=>⟨Rat.not_lt.1 fun h3=>h1 (akA.2 h3),Rat.not_lt.1 fun h3=>by rw [decide_eq_true (yO.2 h3)]at hh;cases hh⟩,by simp [SJ],by simp [i9,SJ],by simp [IW],by simp [qZ],by simp [AA,SJ]⟩
      clear i9 IW qZ AA rows clk
      rintro _ ⟨b,v16,rows,clk,rfl,hbu,L6,i9,IW,qZ,AA⟩
      rw [SJ]at L6 i9 AA
      refine bH ?_ ?_<;>intro h
      · refine W.exit ?_;simp only [pX,if_true,if_false,reduceIte,Nat.reduceEqDiff]
        exact⟨_,aB _ [1,6,8,9,10,11,12,13,14,15],_,_,_,_,bb,la,_,_,rfl,i9,IW,qZ,AA,gla,ND,ayb,hbl⟩
      obtain⟨hu1,hu2⟩:=hbu h
      have W1:=hG hu1
      refine W.skip ?_
      refine W.sr ?_
      simp (disch:=omega) [gw,L6]
      refine cM hu ?_
      refine iZ W1 rfl rfl hpb p2 (by simp [qZ]) ?_
      simp (disch:=omega) [gw]
      refine bI [1,6,8,9,10,11,12,13,14,15,16,17,18] ?_
      refine aK [1,6,8,9,10,11,12,13,14,15,16,17,86] ?_
      refine bH ?_ ?_<;>intro h
      · simp at h
      refine W.skip ?_
      refine aA [1,6,8,9,10,11,12,13,14,15,16] ?_
      have e4:smK kt bb la+((kt u:Int)-smK kt bb la)=(kt u:Int):=by omega
      refine W.bY (fun K hK=>?_);simp (disch:=omega) [gw,L6,AA,e4]
      exact hK _ ⟨_,aB _ [1,6,8,9,10,11,12,13,14,15],v6,v9,v10,v14,true,u,_,_,by rfl,by simp [i9,SJ],by simp [IW],by simp,by simp [SJ],gu,Rat.le_trans ND hu1,hu2,fun h=>by cases h⟩
    clear i9 IW qZ AA rows clk
    rintro _ ⟨v6,v9,v10,v14,bb,la,rows,clk,rfl,i9,IW,qZ,AA,hh⟩
    refine W.bY (fun K hK=>?_);simp (disch:=omega) [gw]
    refine hK _ ⟨k-1,_,aB _ [1,6,8,9,10,11,12,13,14,15],by omega,i+1,by omega,_,_,_,_,_,_,_,_,rfl,i9,IW,qZ,AA,hh⟩
  · refine W.exit ?_;simp only [pX,if_true,if_false,reduceIte,Nat.reduceEqDiff]
    have g2:=fg bb la hi gla gh ND ayb hbl
    have hkb:=kb hi
    refine W.sr ?_
    simp (disch:=omega) [gw,i9]
    refine cM h3 ?_
    refine iZ g2 rfl rfl hpb p1 (by simp [qZ]) ?_
    simp (disch:=omega) [gw]
    refine bI [9,10,11,12,13,19,20] ?_
    refine jG ?_
    refine iZ fx rfl rfl p1 p1 (by simp [IW]) ?_
    simp (disch:=omega) [gw]
    refine bI [9,10,11,12,13,19,20,22] ?_
    refine jG ?_
    refine iZ fx rfl rfl p1 p1 (by simp) ?_
    simp (disch:=omega) [gw]
    refine bI [9,10,11,12,13,19,20,22,24] ?_
    have e5:smK kt bb la+((kt hi:Int)-smK kt bb la)=(kt hi:Int):=by omega
    refine W.sr ?_
    simp (disch:=omega) [gw,e5]
    refine iZ fe rfl rfl p1 p1 (by simp) ?_
    simp (disch:=omega) [gw]
    refine iZ fe rfl rfl p1 p1 (by simp) ?_
    simp (disch:=omega) [gw]
    refine iZ fc rfl rfl p1 p1 (by simp) ?_
    simp (disch:=omega) [gw]
    refine iZ fc rfl rfl p1 p1 (by simp) ?_
    simp (disch:=omega) [gw]
    refine cM fs ?_
    refine cN [4] hw ?_
    exact bZ
end Go.Proofs.YtiobceocpabjdaaGreat
