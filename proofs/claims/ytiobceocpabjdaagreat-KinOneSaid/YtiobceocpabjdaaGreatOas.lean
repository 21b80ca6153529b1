import Derived.DeepKeys
import Derived.Test.YtiobceocpabjdaaGreatOai
import Derived.Test.YtiobceocpabjdaaGreatOaj
import Derived.Test.YtiobceocpabjdaaGreatOar
set_option linter.unusedSimpArgs false
set_option linter.unusedVariables false
namespace Go.Proofs.YtiobceocpabjdaaGreat
open Go Pm
def P6(c:A9→A9→Int)(x:A9)(l:List A9):A9:=l.foldl (fun b y=>if c y b<0 then y else b) x
theorem XM{c:A9→A9→Int}:∀ {l:List A9} {x:A9},P6 c x l∈x::l
 | [],x=>by simp [P6]
 | y::l,x=>by
  have h:=XM (c:=c) (l:=l) (x:=if c y x<0 then y else x)
  have e:P6 c x (y::l)=P6 c (if c y x<0 then y else x) l:=rfl
  rw [e]
  rcases List.mem_cons.1 h with h | h
  ·rw [h]
   split<;>simp
  ·exact List.mem_cons_of_mem _ (List.mem_cons_of_mem _ h)
theorem aff{c:A9→A9→Int}{x:A9}{l:List A9}{i:Nat}(h:i<l.length):P6 c x (l.take (i+1))=if c (nth l i) (P6 c x (l.take i))<0 then nth l i else P6 c x (l.take i):=by
 unfold P6
 rw [bW h,List.take_succ_eq_append_getElem h,List.foldl_append]
 rfl
theorem UB{c:A9→A9→Int}{x:A9}{l:List A9}(hl:l.length<1000000)
  (hc:∀y∈l,∀b∈x::l,aE env.P 110 [.ag (b9 y), .ag (b9 b)] (.int .i64 (c y b))) (hf:aE env.P 198 [.ag (b9 (P6 c x l))] (.ag (b9 (P6 c x l)))) :
  aE env.P 112 [aJ b9 (x::l)] (.dU [.ag (b9 (P6 c x l)), .bool true]):=by
 simp only [fG]at hc hf ⊢
 refine cD [(0,aJ b9 (x::l))] Tryz.func112 ?_
 refine aA [0,2] ?_
 refine aQ [0,2,9] ?_
 refine bJ ?_ ?_<;>intro h
 ·simp at h;omega
 refine W.skip ?_
 refine W.sr ?_
 simp (disch:=omega) [gw,fG]
 refine bH [0,2,4] ?_
 refine aQ [2,4,15,16,17] ?_
 refine W.block ?_
 refine W.bE (fun k σ=>∃(i v2 v4:Nat) (rows:Pm.Rows) (clk:Nat),σ=⟨fa [(2, .ptr 2 v2 0 0),(4, .ptr 4 v4 0 0),(15,aJ b9 l),(16, .int .i64 l.length),(17, .int .i64 i)],rows,clk⟩∧rows 2=some ⟨v2,54,9,[[.nil, .bool false, .nil, .bool false, .nil, .bool false, .nil, .bool false, .nil]]⟩∧rows 4=some ⟨v4,54,9,[b9 (P6 c x (l.take i))]⟩∧i+k=l.length) l.length ?_ ?_
 ·exact⟨_,aB _ [2,4,15,16,17],0,_,_,_,_,rfl,by simp,by simp [P6,fG,show nth (x::l) 0=x from rfl],by omega⟩
 rintro k _ ⟨i,v2,v4,rows,clk,rfl,bX,c9,zH⟩
 refine bU [2,4,15,16,17,18] ?_
 refine bJ ?_ ?_<;>intro h
 ·have hi:i<l.length:=by simp at h;omega
  have hm:P6 c x (l.take i)∈x::l:=by
   rcases List.mem_cons.1 (XM (c:=c) (x:=x) (l:=l.take i))with h | h
   ·rw [h];simp
   ·exact List.mem_cons_of_mem _ (List.mem_of_mem_take h)
  have hC:=hc _ (bN hi) _ hm
  have kW:=aff (c:=c) (x:=x) hi
  generalize hw':P6 c x (l.take (i+1))=w' at *
  generalize P6 c x (l.take i)=w at *
  generalize hy:nth l i=y at *
  generalize c y w=z at *
  rw [fG]at c9
  refine W.skip ?_
  refine W.dO (fun σ=>∃(v2 v4:Nat) (rows:Pm.Rows) (clk:Nat),σ=⟨fa [(2, .ptr 2 v2 0 0),(4, .ptr 4 v4 0 0),(15,aJ b9 l),(16, .int .i64 l.length),(17, .int .i64 i)],rows,clk⟩∧rows 2=some ⟨v2,54,9,[[.nil, .bool false, .nil, .bool false, .nil, .bool false, .nil, .bool false, .nil]]⟩∧rows 4=some ⟨v4,54,9,[b9 w']⟩) ?_ ?_
  ·refine W.sr ?_
   simp (disch:=omega) [gw,hi,hy,fG]
   refine bH [2,4,6,15,16,17] ?_
   refine W.sr ?_
   simp (disch:=omega) [gw,c9]
   refine cN [2,4,6,15,16,17,24] hC ?_
   refine bJ ?_ ?_<;>intro h
   ·have hz:z<0:=by simpa using h
    rw [if_pos hz]at kW
    subst kW
    refine W.b7 (fun K hK=>?_);simp (disch:=omega) [gw,c9]
    exact hK _ ⟨_,aB _ [2,4,15,16,17],_,_,_,_,rfl,by simp [bX],by simp [fG]⟩
   ·have hz:¬z<0:=by simpa using h
    rw [if_neg hz]at kW
    subst kW
    refine W.skip ?_
    exact⟨_,aB _ [2,4,15,16,17],_,_,_,_,rfl,by simp [bX],by simp [c9,fG]⟩
  rintro _ ⟨v2,v4,rows,clk,rfl,bX,c9⟩
  refine W.b7 (fun K hK=>?_);simp (disch:=omega) [gw]
  refine hK _ ⟨k-1,_,aB _ [2,4,15,16,17],by omega,i+1,_,_,_,_,rfl,bX,by rw [hw'];exact c9,by omega⟩
 ·have hi:i=l.length:=by simp at h;omega
  subst hi
  rw [List.take_length,fG]at c9
  refine fA ?_
  refine W.sr ?_
  simp (disch:=omega) [gw,c9]
  refine aC hf ?_
  simp (disch:=omega) [gw,bX]
  refine bH [2,3] ?_
  exact cC
end Go.Proofs.YtiobceocpabjdaaGreat
namespace Go.Proofs.YtiobceocpabjdaaGreat
open Go Pm
open ZX hiding N W
def gX(f:ZX)(p:Rat × Rat):A9:=⟨emap ie f.l,decide (p.1.num<0),emap u32 (aS LL p.1.num.natAbs),decide ((p.1.den:Int)<0),emap u32 (aS LL (p.1.den:Int).natAbs),decide (p.2.num<0),emap u32 (aS LL p.2.num.natAbs),decide ((p.2.den:Int)<0),emap u32 (aS LL (p.2.den:Int).natAbs)⟩
def BH(x t:Rat):Int:=if x<t then -1 else if t<x then 1 else 0
theorem mA{x t:Rat}:0<BH x t↔t<x:=by
 unfold BH
 split
 ·exact⟨fun h=>absurd h (by decide),fun h=>by grind⟩
 ·split
  ·rename_i h;exact⟨fun _=>h,fun _=>by decide⟩
  ·rename_i h;exact⟨fun h1=>absurd h1 (by decide),fun h1=>absurd h1 h⟩
theorem XN{x t:Rat}:BH x t<0↔x<t:=by
 unfold BH
 split
 ·rename_i h;exact⟨fun _=>h,fun _=>by decide⟩
 ·rename_i h
  split
  ·exact⟨fun h1=>absurd h1 (by decide),fun h1=>absurd h1 h⟩
  ·exact⟨fun h1=>absurd h1 (by decide),fun h1=>absurd h1 h⟩
theorem PO{x t:Rat}:BH x t=0↔x=t:=by
 unfold BH
 split
 ·exact⟨fun h=>absurd h (by decide),fun h=>by grind⟩
 ·split
  ·exact⟨fun h=>absurd h (by decide),fun h=>by grind⟩
  ·exact⟨fun _=>by grind,fun _=>rfl⟩
theorem PQ(x:Rat):BH x x=0:=PO.2 rfl
theorem afg{U:Rat→Prop}{x:Rat}(h:∀t,U t↔x≤t)(t:Rat):cr U t=BH x t:=by
 unfold BH
 split
 ·rename_i h1
  exact(yO (fun s t hs iX=>(h t).2 (Rat.le_trans ((h s).1 hs) iX))).2 ⟨x,h1,(h x).2 Rat.le_refl⟩
 ·split
  ·rename_i h1
   exact yN.2 fun h2=>by have:=(h t).1 h2;grind
  ·have:x=t:=by grind
   subst this
   exact xD.2 ⟨(h x).2 Rat.le_refl,fun s hs hu=>by have:=(h s).1 hu;grind⟩
theorem ao7{U V:Rat→Prop}{x y:Rat}(h:∀t,U t↔x≤t)(h':∀t,V t↔y≤t):cu U V=BH x y:=by
 unfold cu BH
 have e1:(∃t,U t∧¬V t)↔x<y:=⟨fun⟨t,h1,h2⟩=>by rw [h]at h1;rw [h']at h2;grind,fun qT=>⟨x,(h x).2 Rat.le_refl,fun h2=>by have:=(h' x).1 h2;grind⟩⟩
 have e2:(∃t,V t∧¬U t)↔y<x:=⟨fun⟨t,h1,h2⟩=>by rw [h']at h1;rw [h]at h2;grind,fun qT=>⟨y,(h' y).2 Rat.le_refl,fun h2=>by have:=(h y).1 h2;grind⟩⟩
 by_cases h1:x<y
 ·rw [if_pos h1,if_pos (e1.2 h1)]
 ·rw [if_neg h1,if_neg (fun hh=>h1 (e1.1 hh))]
  by_cases h2:y<x
  ·rw [if_pos h2,if_pos (e2.2 h2)]
  ·rw [if_neg h2,if_neg (fun hh=>h2 (e2.1 hh))]
structure xK(s n u:Nat)(f:ZX)(p:Rat × Rat)(x:Rat):Prop where
 a:AN s n u f p
 v:∀t,dF f p t↔x≤t
namespace xK
section
variable {s n u:Nat} {f:ZX} {p:Rat × Rat} {x:Rat} (A:xK s n u f p x)
include A
theorem fr:aE env.P 198 [.ag (b9 (gX f p))] (.ag (b9 (gX f p))):=aaL (xI A.a.I.ch.bz (by have:=A.a.hs;omega) (by have:=A.a.I.lay.hn;omega) A.a.q1 A.a.q2 (by have:=A.a.hu;omega))
theorem least:aE env.P 112 [.sl [b9 (gX f p)]] (.dU [.ag (b9 (gX f p)), .bool true]):=UB (c:=fun _ _=>0) (l:=[]) (by decide) (fun y h=>by cases h) A.fr
theorem fa:aE env.P 20 [.ag (b9 (gX f p))] (QA f (bK f) (ex f p)):=A.a.I.avz A.a.q1 A.a.q2 (by have:=A.a.hu;omega)
theorem qL:SQ u (ex f p).1∧SQ u (ex f p).2:=by
 unfold ex
 split
 ·exact⟨A.a.q2,A.a.q2⟩
 ·exact⟨A.a.q1,A.a.q2⟩
theorem qcr{t:Rat}{v:Nat}(qt:SQ v t)(huv:u≤v)(hv:v≤1000000000):aE env.P 19 [QA f (bK f) (ex f p),RR t] (.int .i64 (BH x t)):=by
 have h:=BE A.a.A
 have:=A.a.I.EE h.1 (A.qL.1.mono huv) (A.qL.2.mono huv) qt hv
 rwa [afg (fun t=>(h.2 t).trans (A.v t))]at this
theorem cr{t:Rat}{v:Nat}(qt:SQ v t)(huv:u≤v)(hv:v≤1000000000):aE env.P 111 [.ag (b9 (gX f p)),RT t] (.int .i64 (BH x t)):=by
 have:=A.a.EE qt huv hv
 rwa [afg A.v]at this
theorem cmp{s' n' u':Nat}{g:ZX}{q:Rat × Rat}{y:Rat}(B:xK s' n' u' g q y)(c:CpC s n s' n'):aE env.P 110 [.ag (b9 (gX f p)), .ag (b9 (gX g q))] (.int .i64 (BH x y)):=by
 have:=A.a.aAW B.a c
 rwa [ao7 A.v B.v]at this
end
theorem pt{s n:Nat}{t:Rat}(q:SQ 5 t)(sb:t.num.natAbs≤30∧((t.den:Int)).natAbs≤6)(hs:5≤s)(hn:2≤n)(h1:n≤20)(h2:n+1≤2^s)(h3:(qb s n+n+6)*4^n≤4500000000)(h4:s≤100000):xK s n 7000 (dD t) (t,t) t:=
 ⟨(avO (PN sb hs hn h1 h2 h3 (by omega)) h4 (by rw [k9];decide) (z6 t) (q.mono (by decide)) (by decide)).1,fun _=>qR rfl _⟩
end xK
theorem afh{t:Rat}{u:Nat}(q:SQ u t)(hu:u≤1000000000):aE env.P 113 [RT t] (.ag (b9 (gX (dD t) (t,t)))):=by
 have h:=aiH (n:=t.num) (d:=t.den) (tJ q hu) (acQ (Nat.lt_of_le_of_lt q.nL (by omega)))
 rw [←sO]at h
 exact h
def nA(f:ZX)(L:List (Rat × Rat))(k:Nat):A9:=if k<L.length then gX f (nth L k)else A9.no
theorem ao8(f:ZX)(L:List (Rat × Rat))(k:Nat):nxo (nxt f L k) = .dU [.ag (b9 (nA f L k)), .bool (decide (k<L.length))]:=by
 unfold nxt nA
 by_cases h:k<L.length
 ·rw [if_pos h,if_pos h,decide_eq_true h];rfl
 ·rw [if_neg h,if_neg h,decide_eq_false h];rfl
end Go.Proofs.YtiobceocpabjdaaGreat
namespace Go.Proofs.YtiobceocpabjdaaGreat
open Go Pm
open ZX hiding N W
def S19:Nat:=qb 19 5
theorem ao9:S19=235:=by decide
noncomputable abbrev eI(p:ZX):List (Rat × Rat):=KU S19 5 (sq p)
theorem Kz.root{T:List Rat}{p:ZX}(K:Kz T p)(h:T.length≤4){i:Nat}(hi:i<T.length):xK S19 5 (uu S19) (sq p) (nth (eI p) i) (nth T i):=by
 have I:=K.iso h
 have hl:=K.len h
 have hc:=fun t=>K.afe h hi t
 change pU S19 5 (sq p)at I
 change (eI p).length=_ at hl
 change ∀t,dF (sq p) (nth ((eI p).map (ex (sq p))) i) t↔_ at hc
 have hm:nth (eI p) i∈eI p:=bN (by omega)
 have e:=ao9
 have N5:=I.ch.bz.N
 refine⟨(XK I (by omega) (by have:ZX.N (sq p)≤5:=N5;omega) hm).1,fun t=>?_⟩
 have hx:=(BE (XK I (by omega) (by have:ZX.N (sq p)≤5:=N5;omega) hm).1.A).2 t
 rw [←hc t,EG (by omega)]
 exact hx.symm
theorem Kz.turns{T:List Rat}{p:ZX}(K:Kz T p)(h:T.length≤4):aE env.P 255 [Po p.l] (aJ (ga (sq p)) (eI p)):=by
 have:=aeT (K.lay h) K.ne (by decide) (by decide) (by decide)
 rw [K.oz]at this
 exact this
theorem Kz.next{T:List Rat}{p:ZX}(K:Kz T p)(h:T.length≤4){s' n' u':Nat}{g:ZX}{q:Rat × Rat}{x:Rat}(B:xK s' n' u' g q x)(c:CpC S19 5 s' n') :
  aE env.P 206 [Po p.l, .ag (b9 (gX g q))] (.dU [.ag (b9 (nA (sq p) (eI p) (gY T x))), .bool (decide (gY T x<T.length))]):=by
 have hl:(eI p).length=T.length:=K.len h
 have hle:=UA (T:=T) (t:=x)
 have hT:=K.turns h
 have:=T9 (y:=g.l) (an:=q.1.num) (ad:=q.1.den) (bn:=q.2.num) (bd:=q.2.den) (k:=gY T x) hT (by omega) (by omega) (fun i hi=>⟨BH (nth T i) x,(K.root h (i:=i) (by omega)).cmp B c,fun hh=>by
  have h2:=(mX K.GV (show i<T.length by omega)).1 (show i+1≤gY T x by omega)
  have:=mA.1 hh
  grind⟩) (fun hk=>⟨BH (nth T (gY T x)) x,(K.root h (i:=gY T x) (by omega)).cmp B c,mA.2 (by
  refine Rat.not_le.1 fun h2=>?_
  have:=(mX K.GV (show gY T x<T.length by omega)).2 h2
  omega)⟩)
 rw [←hl,←ao8]
 unfold nxt
 by_cases hk:gY T x<(eI p).length
 ·rw [if_pos hk,decide_eq_true hk]at this
  rw [if_pos hk];exact this
 ·rw [if_neg hk,decide_eq_false hk]at this
  rw [if_neg hk];exact this
theorem XO{t:Rat}(sb:t.num.natAbs≤30∧((t.den:Int)).natAbs≤6):aE env.P 41 [R2 t.num t.den] (AP (dD t).l (bK (dD t)) t.num t.den):=by
 have It:=PN (s:=59) (n:=5) sb (by decide) (by decide) (by decide) (by decide) (by decide) (by decide)
 have hR:=FK (n:=t.num) (d:=t.den) (by omega) (by omega) (by have:=t.den_pos;omega) (sO t)
 rw [It.sq]at hR
 rw [sO];exact hR
theorem ptA{t:Rat}(q:SQ 5 t)(sb:t.num.natAbs≤30∧((t.den:Int)).natAbs≤6):xK 59 5 7000 (dD t) (t,t) t:=xK.pt q sb (by decide) (by decide) (by decide) (by decide) (by decide) (by decide)
theorem ak6{t:Rat}(q:SQ 5 t)(sb:t.num.natAbs≤30∧((t.den:Int)).natAbs≤6):aE env.P 29 [AP (dD t).l (bK (dD t)) t.num t.den] (.ag (b9 (gX (dD t) (t,t)))):=(ptA q sb).a.toA
theorem avR:CpC S19 5 59 5:=⟨by decide,by decide,by decide,by decide,by decide,by decide,by decide⟩
theorem k1:Kz [1] (dD 1):=by
 have h:=Kz.nil.ins (r:=1) (by decide) (k:=0) (fun _ h=>by cases h) (fun _ h=>by cases h)
 have e1:of [1]*dD 1=dD 1:=by
  show(1:ZX)*dD 1=dD 1
  grind
 rw [e1]at h
 exact h
theorem avS:SQ 5 (0:Rat):=⟨by decide,by decide,by decide⟩
theorem aA0:SQ 5 (1:Rat):=⟨by decide,by decide,by decide⟩
def cw:CE:=⟨⟨0,0,0,0,0⟩,false,[-1,1], -1⟩
theorem PR:aE env.P 45 [] (.bool true):=by
 have o0:=oE 0 1 (by decide) (by decide)
 have o1:=oE 1 1 (by decide) (by decide)
 rw [show dR 0 1=0 by decide,gC]at o0
 rw [show dR 1 1=1 by decide,gC]at o1
 have r0:=XO (t:=0) (by decide)
 have B:=ptA avS (by decide)
 have ta:=ak6 avS (by decide)
 have q4:aE env.P 97 [.sl [[.int .i64 (-1)],[.int .i64 1]]] (PI [-1,1]):=VO [-1,1] (by decide) (by decide)
 have q5:aE env.P 100 [PI [-1,1]] (Po [-1,1]):=VZ [-1,1] (fun c hc=>by
  simp only [List.mem_cons,List.not_mem_nil,or_false]at hc
  exact Nat.lt_of_le_of_lt (iP (k:=1) (by rcases hc with rfl | rfl<;>decide)) (by decide)) (by decide)
 have K:=k1
 have bz:=(K.lay (by decide)).bz
 have nN:=eQ (x:=(dD 1).l) (bz.pb (by decide) (by decide))
 rw [(dD 1).c]at nN
 have hS:aE env.P 35 [aJ kV [cw]] (aJ kV [cw]):=GW (l:=[cw]) (by decide) (fun x hx=>by
  simp only [List.mem_cons,List.not_mem_nil,or_false]at hx
  subst hx
  exact nN)
 have hY:=JE (b:=false) (n:=A9.no) (z:=true) (L:=[]) (e:=0) (later:=false) (C:=[cw]) (S:=[cw]) (G:=WE.new) (by decide) (fun s hs=>by
  simp only [List.mem_cons,List.not_mem_nil,or_false]at hs
  subst hs;rfl) hS B.least (fun _ _ _=>rfl) (fun h=>by cases h)
 have hBe:=GY hY
 have hN:=wP (z:=false) (L:=[WE.new cw]) (e:=0) B.least
 have hG:=K.next (by decide) B avR
 have e0:gY [1] 0=0:=by decide
 rw [e0]at hG
 have hr:=K.root (by decide) (i:=0) (by decide)
 have hl:(eI (dD 1)).length=1:=K.len (by decide)
 have en:nA (sq (dD 1)) (eI (dD 1)) 0=gX (sq (dD 1)) (nth (eI (dD 1)) 0):=if_pos (by omega)
 rw [en]at hG
 have hK:=DH (R:=fun _=>(true,gX (sq (dD 1)) (nth (eI (dD 1)) 0))) (by decide) (fun h=>by cases h) hN (fun w hw _=>by
  simp only [List.mem_cons,List.not_mem_nil,or_false]at hw
  subst hw
  exact hG)
 have hX:=DI (r:=gX (sq (dD 1)) (nth (eI (dD 1)) 0)) (ok:=true) (by decide) hK hr.least
 have hc:=hr.qcr (aA0.mono (show 5≤uu S19 by decide)) (Nat.le_refl _) (by decide)
 rw [show nth [(1:Rat)] 0=1 from rfl,PQ,gC]at hc
 exact KZ o0 r0 ta q4 q5 hBe hX hr.fa o1 hc
def K1(r:Rat)(l:List Rat):Bool:=l.any fun x=>decide (x=r)
theorem aaO{r:Rat}{T:List Rat}{j:Nat}(h:j<T.length):K1 r (T.take (j+1))=(K1 r (T.take j) || decide (nth T j=r)):=by
 rw [x8 h]
 simp [K1]
theorem UC{r:Rat}{l:List Rat}(h:K1 r l=false):∀x∈l,x≠r:=fun x hx he=>by
 simp only [K1,List.any_eq_false,decide_eq_true_eq]at h
 exact h x hx he
@[simp] theorem ari{l:List Rat}:bG 4 (emap rc l)=True:=cB fun _=>rfl
@[simp] theorem apa{v e n:Nat}{l:List Rat}:cQ (some ⟨v,e,n,emap rc l⟩)=True:=bT fun _=>rfl
def kz(l:List Int)(i:Nat):Rat:=dR (nth l i%41-20) (1+nth l (i+1)%3)
theorem avT(l:List Int)(i:Nat):(kz l i).num.natAbs≤20∧(kz l i).den≤3:=by
 have h1:=Int.emod_nonneg (nth l i) (show (41:Int)≠0 by decide)
 have h2:=Int.emod_lt_of_pos (nth l i) (show (0:Int)<41 by decide)
 have h3:=Int.emod_nonneg (nth l (i+1)) (show (3:Int)≠0 by decide)
 have h4:=Int.emod_lt_of_pos (nth l (i+1)) (show (0:Int)<3 by decide)
 have h5:((kz l i).den:Int).natAbs≤3:=by
  unfold kz
  rw [qI _ _ (by omega),if_neg (by omega)]
  exact Nat.le_trans (Int.natAbs_ediv_le_natAbs _ _) (by omega)
 refine⟨?_,by omega⟩
 unfold kz
 rw [qH _ _ (by omega),if_neg (by omega)]
 exact Nat.le_trans (Int.natAbs_ediv_le_natAbs _ _) (by omega)
theorem apb{r:Rat}(h:r.num.natAbs≤20∧r.den≤3):SQ 7 r:=⟨Nat.le_trans (iP (k:=5) (by omega)) (by decide),Nat.le_trans (iP (k:=5) (by omega)) (by decide),by decide⟩
theorem Kz.put{T R:List Rat}{p:ZX}(K:Kz T p)(hR:R.Perm T){r:Rat}(hr:r.num.natAbs≤20∧r.den≤3)(hn:∀x∈R,x≠r):∃T',Kz T' (p*dD r)∧(R ++ [r]).Perm T':=by
 have hs:=K.GV
 have h1:∀x∈T.take (gY T r),x<r:=fun x hx=>by
  obtain⟨i,hi,rfl⟩:=List.mem_iff_getElem.1 hx
  have iQ:i<gY T r∧i<T.length:=by simp at hi;omega
  rw [List.getElem_take]
  have:=(mX hs iQ.2).1 iQ.1
  rw [bW iQ.2]at this
  exact Rat.lt_of_le_of_ne this (hn _ (hR.mem_iff.2 (List.getElem_mem _)))
 have h2:∀x∈T.drop (gY T r),r<x:=fun x hx=>by
  obtain⟨i,hi,rfl⟩:=List.mem_iff_getElem.1 hx
  have iQ:gY T r+i<T.length:=by simp at hi;omega
  rw [List.getElem_drop]
  refine Rat.not_le.1 fun h=>?_
  rw [←bW iQ]at h
  have:=(mX hs iQ).2 h
  omega
 refine⟨_,K.ins hr h1 h2,?_⟩
 have e:T.take (gY T r)++T.drop (gY T r)=T:=List.take_append_drop _ _
 refine(hR.append_right [r]).trans ?_
 conv=>lhs;rw [←e]
 rw [List.append_assoc]
 exact List.Perm.append_left _ (List.perm_append_comm.trans (by simp))
def cp(p:List Int):CE:=⟨⟨1,0,0,0,0⟩,false,p,1⟩
theorem EI{x:List Int}{t:A9}:aE env.P 40 [.ag (b9 t), .rd [Po x]] (aJ kV [cp x]):=by
 have hq:aJ kV [cp x] = .sl [[.int .i64 1, .int .i64 0, .int .i64 0, .int .i64 0, .int .i64 0,Po x, .int .i64 1]]:=rfl
 rw [hq]
 simp only [fG]
 refine cD [(0, .ag [.sl t.y, .bool t.s, .sl t.d, .bool t.s', .sl t.d', .bool t.u, .sl t.e, .bool t.u', .sl t.e']),(1, .rd [Po x])] Tryz.func40 ?_
 refine aA [1] ?_
 refine jC ?_
 refine bA (fun p hp=>by rcases hp with (h|h|h)|h<;>subst h<;>simp) ?_
 simp (disch:=omega) [gw]
 refine bH [3] ?_
 exact cC
structure KO(p:List Int)(lo hi:Rat)(w:Nat)(t:A9)(x:List Int)(C:List ZX)(S0 S1 S2:CS):Prop where
 rat:aE env.P 41 [R2 lo.num lo.den] (AP x C lo.num lo.den)
 toA:aE env.P 29 [AP x C lo.num lo.den] (.ag (b9 t))
 tr:aE env.P 23 [R2 hi.num hi.den] (T2 hi.num hi.den)
 be:g9 env.P 42 [.ag (b9 t),aJ kV [cp p]] 95 12 (co false A9.no true [] 0) S0.c (.dU [])
 g1:g9 env.P 43 [T2 hi.num hi.den, .fn 40 [.rd [Po p]]] 95 12 S0.c S1.c (.dU [.int .i64 w, .int .i64 0])
 g2:g9 env.P 43 [T2 hi.num hi.den, .fn 40 [.rd [Po p]]] 95 12 S1.c S2.c (.dU [.int .i64 0, .int .i64 0])
 ev:S2.e=w
def P7(lo hi:Rat)(R:List Rat):Nat:=R.countP fun r=>decide (lo<r∧r≤hi)
theorem afj{lo hi:Rat}{R:List Rat}{i:Nat}(h:i<R.length):P7 lo hi (R.take (i+1))=P7 lo hi (R.take i)+if lo<nth R i∧nth R i≤hi then 1 else 0:=by
 unfold P7
 rw [x8 h,List.countP_append,List.countP_cons,List.countP_nil]
 simp
theorem afk{lo hi:Rat}{R:List Rat}:P7 lo hi R≤R.length:=List.countP_le_length
theorem apc{u:Nat}{x y:Rat}(hx:SQ u x)(hy:SQ u y)(hu:u≤1000000000):aE env.P 14 [R2 x.num x.den,R2 y.num y.den] (.int .i64 (BH x y)):=by
 have h1:=pT x y (hx.yy hu) (hy.yy hu)
 rw [gC,gC]at h1
 have e:dI (x.num*y.den) (y.num*x.den)=BH x y:=by
  unfold BH
  by_cases h:x<y
  ·rw [if_pos h,l5 (mF.1 (fO.2 h))]
  ·rw [if_neg h]
   by_cases h':y<x
   ·rw [if_pos h',l6 (pI.1 (fN.2 h'))]
   ·rw [if_neg h',lB.2 (by grind)]
 rwa [e]at h1
set_option maxHeartbeats 8000000 in
theorem PT(l:List Int)(n d m k:Int)(hb:∀x∈l, -9223372036854775808≤x∧x<9223372036854775808)(hl:l.length<9223372036854775808){a b:Rat}(hSa:aE env.P 25 [.int .i64 n, .int .i64 d] (R2 a.num a.den))(hSb:aE env.P 25 [.int .i64 m, .int .i64 k] (R2 b.num b.den))(qa:SQ 5 a)(qb':SQ 5 b)
  (fin:∀(R T:List Rat) (p:ZX),Kz T p→R.Perm T→T.length≤4 → ∀lo hi:Rat,lo≤hi→(lo=a∧hi=b∨lo=b∧hi=a) → ∃t x C S0 S1 S2,KO p.l lo hi (P7 lo hi R) t x C S0 S1 S2) :
  aE env.P 6 [aJ aI l, .int .i64 n, .int .i64 d, .int .i64 m, .int .i64 k] (.bool true):=by
 have hw:=PR
 have avU:=apc qb' qa (by decide)
 have o1:aE env.P 11 [.sl [[.int .i64 1]]] (Po (of [1]).l):=VJ [1] (by decide) (by decide)
 refine cD [(0,aJ aI l),(1, .int .i64 n),(2, .int .i64 d),(3, .int .i64 m),(4, .int .i64 k)] Tryz.func6 ?_
 refine aA [0,1,2,3,4] ?_
 refine aR [0,1,2,3,4,11] o1 ?_
 refine aA [0,1,2,3,4,11,12] ?_
 refine W.nil 12 12 31 4 (by simp) (by decide) (fun K hK=>?_)
 refine W.lw [0,1,2,3,4,11,12] hK ?_;clear hK K;simp
 refine aQ [0,1,2,3,4,11,12,13] ?_
 refine W.block ?_
 refine W.bE (fun kk σ=>∃(R T:List Rat) (p:ZX) (i v11 XP:Nat) (rows:Pm.Rows) (clk:Nat),σ=⟨fa [(0,aJ aI l),(1, .int .i64 n),(2, .int .i64 d),(3, .int .i64 m),(4, .int .i64 k),(11, .ptr 11 v11 0 0),(12, .own 12 XP 0 R.length),(13, .int .i64 i)],rows,clk⟩∧rows 11=some ⟨v11,24,1,[[Po p.l]]⟩∧rows 12=some ⟨XP,31,4,emap rc R⟩∧Kz T p∧R.Perm T∧R.length≤4∧kk=l.length+2-i∧i≤l.length∧i%2=0) (l.length+2) ?_ ?_
 ·exact⟨_, .refl,[],[],of [1],0,_,_,_,_,rfl,by simp,by simp [emap],Kz.nil, .refl _,by simp,by omega,by omega⟩
 rintro kk _ ⟨R,T,p,i,v11,XP,rows,clk,rfl,oV,nZ,KT,hRT,hR4,hk,tO⟩
 have lR:(emap rc R).length=R.length:=by simp [emap]
 refine W.seq ?_
 refine W.eJ (fun σ=>∃(bb:Bool),σ=⟨fa [(0,aJ aI l),(1, .int .i64 n),(2, .int .i64 d),(3, .int .i64 m),(4, .int .i64 k),(11, .ptr 11 v11 0 0),(12, .own 12 XP 0 R.length),(13, .int .i64 i),(39, .bool bb)],rows,clk⟩∧(bb=true↔(i+1<l.length∧R.length<4))) (fun K hK=>?_) ?_
 ·by_cases h1:i+1<l.length
  ·have AO:(i:Int)+1<l.length:=by omega
   by_cases h2:R.length<4
   ·have h2':(R.length:Int)<4:=by omega
    simp (disch:=omega) [gw,h1,AO,h2,h2',nZ]
    exact hK _ _ (aB _ [0,1,2,3,4,11,12,13,39]) ⟨_,rfl,by simp [h1,h2]⟩
   ·have h2':¬(R.length:Int)<4:=by omega
    simp (disch:=omega) [gw,h1,AO,h2,h2',nZ]
    exact hK _ _ (aB _ [0,1,2,3,4,11,12,13,39]) ⟨_,rfl,by simp [h1,h2]⟩
  ·have AO:¬(i:Int)+1<l.length:=by omega
   simp (disch:=omega) [gw,h1,AO,nZ]
   exact hK _ _ (aB _ [0,1,2,3,4,11,12,13,39]) ⟨_,rfl,by simp [h1]⟩
 rintro _ ⟨bb,rfl,hbb⟩
 refine bJ ?_ ?_<;>intro h
 ·obtain⟨QG,hT3⟩:=hbb.1 h
  have hi0:i<l.length:=by omega
  have QT:(0:Int)≤(i:Int)+1:=by omega
  have W1:=qJ (nth l i) 41 (hb _ (bN hi0)) (by decide) (by decide)
  have W2:=qJ (nth l (i+1)) 3 (hb _ (bN QG)) (by decide) (by decide)
  have b1:=Int.emod_nonneg (nth l i) (show (41:Int)≠0 by decide)
  have b2:=Int.emod_lt_of_pos (nth l i) (show (0:Int)<41 by decide)
  have b3:=Int.emod_nonneg (nth l (i+1)) (show (3:Int)≠0 by decide)
  have b4:=Int.emod_lt_of_pos (nth l (i+1)) (show (0:Int)<3 by decide)
  have hO:=oE (nth l i%41-20) (1+nth l (i+1)%3) (by omega) (by omega)
  have hrb:=avT l i
  change aE env.P _ _ (RR (kz l i))at hO
  generalize kz l i=r at *
  have hq:=apb hrb
  have afm:∀j,j<R.length→aE env.P 14 [R2 (nth R j).num (nth R j).den,R2 r.num r.den] (.int .i64 (BH (nth R j) r)):=fun j hj=>apc (apb (KT.rng _ (hRT.mem_iff.1 (bN hj)))) hq (by decide)
  rw [gC]at hO
  have ng:=pP r.num
  have z1:Z (-r.num):=Nat.lt_of_le_of_lt (iP (k:=5) (by rw [Int.natAbs_neg];omega)) (by decide)
  have z2:Z (r.den:Int):=Nat.lt_of_le_of_lt (iP (k:=5) (by omega)) (by decide)
  have n2:=wL (-r.num) z1
  have n3:=wL (r.den:Int) z2
  have hTl:T.length=R.length:=hRT.length_eq.symm
  have bp:BZ 19 5 p:=(KT.lay (by omega)).bz
  have bl:BZ 19 5 (dD r):=by
   have e1:=HU hrb
   have e2:(2:Nat)^19=524288:=by decide
   exact BZ.akV (by omega) (by rw [k9];decide)
  have hM:aE env.P 15 [Po p.l,Po (dD r).l] (Po (p*dD r).l):=s9 (JZ bp) (JZ bl) (by decide)
  rw [sO]at hM
  replace hM:aE env.P 15 [Po p.l, .sl [ie (-r.num),ie (r.den:Int)]] (Po (p*dD r).l):=hM
  have avW:=fun hn=>KT.put hRT hrb hn
  clear z1
  generalize -r.num=m' at *
  refine W.skip ?_
  refine W.dO (fun σ=>∃(R T:List Rat) (p:ZX) (v11 XP:Nat) (rows:Pm.Rows) (clk:Nat),σ=⟨fa [(0,aJ aI l),(1, .int .i64 n),(2, .int .i64 d),(3, .int .i64 m),(4, .int .i64 k),(11, .ptr 11 v11 0 0),(12, .own 12 XP 0 R.length),(13, .int .i64 i)],rows,clk⟩∧rows 11=some ⟨v11,24,1,[[Po p.l]]⟩∧rows 12=some ⟨XP,31,4,emap rc R⟩∧Kz T p∧R.Perm T∧R.length≤4) ?_ ?_
  ·refine W.sd ?_
   simp (disch:=omega) [gw,hi0,QG,QT]
   refine aC W1 ?_
   simp (disch:=omega) [gw,hi0,QG,QT]
   refine aC W2 ?_
   simp (disch:=omega) [gw,hi0,QG,QT]
   refine aC hO ?_
   simp (disch:=omega) [gw,hi0,QG,QT]
   rw [if_pos (by kernel_rfl)]
   simp (disch:=omega) [gw]
   refine bH [0,1,2,3,4,11,12,13,14] ?_
   refine bU [0,1,2,3,4,11,12,13,14,15] ?_
   refine W.eJ (fun σ=>∃(v14:Nat) (rows:Pm.Rows) (clk:Nat),σ=⟨fa [(0,aJ aI l),(1, .int .i64 n),(2, .int .i64 d),(3, .int .i64 m),(4, .int .i64 k),(11, .ptr 11 v11 0 0),(12, .own 12 XP 0 R.length),(13, .int .i64 i),(14, .ptr 14 v14 0 0),(15, .bool false),(57, .int .i64 R.length),(58, .int .i64 0)],rows,clk⟩∧rows 14=some ⟨v14,31,4,[rc r]⟩∧rows 11=some ⟨v11,24,1,[[Po p.l]]⟩∧rows 12=some ⟨XP,31,4,emap rc R⟩) (fun K hK=>?_) ?_
   ·simp (disch:=omega) [gw,nZ]
    exact hK _ _ (aB _ [0,1,2,3,4,11,12,13,14,15,57,58]) ⟨_,_,_,rfl,by simp [rc],by simp [oV],by simp [nZ]⟩
   clear oV nZ rows clk
   rintro _ ⟨v14,rows,clk,rfl,aaP,oV,nZ⟩
   refine W.block ?_
   refine W.bE (fun k' σ=>∃(j:Nat) (rows:Pm.Rows) (clk:Nat),σ=⟨fa [(0,aJ aI l),(1, .int .i64 n),(2, .int .i64 d),(3, .int .i64 m),(4, .int .i64 k),(11, .ptr 11 v11 0 0),(12, .own 12 XP 0 R.length),(13, .int .i64 i),(14, .ptr 14 v14 0 0),(15, .bool (K1 r (R.take j))),(57, .int .i64 R.length),(58, .int .i64 j)],rows,clk⟩∧j+k'=R.length∧rows 14=some ⟨v14,31,4,[rc r]⟩∧rows 11=some ⟨v11,24,1,[[Po p.l]]⟩∧rows 12=some ⟨XP,31,4,emap rc R⟩) R.length ?_ ?_
   ·exact⟨_,aB _ [0,1,2,3,4,11,12,13,14,15,57,58],0,rows,clk,by simp [K1],by omega,aaP,oV,nZ⟩
   clear aaP oV nZ rows clk
   rintro k' _ ⟨j,rows,clk,rfl,hjk,aaP,oV,nZ⟩
   have EJ:=aaP
   rw [show rc r = [aJ aI (aS DD r.num.natAbs), .bool (decide (r.num<0)),aJ aI (aS DD (r.den:Int).natAbs), .bool (decide ((r.den:Int)<0))]from rfl]at EJ
   refine bU [0,1,2,3,4,11,12,13,14,15,57,58,59] ?_
   refine bJ ?_ ?_<;>intro h
   ·have hj:j<R.length:=by simp at h;omega
    have hs:=aaO (r:=r) hj
    have hc:=afm j hj
    have hz:(BH (nth R j) r==0)=decide (nth R j=r):=by rw [Bool.eq_iff_iff];simp [PO]
    refine lF ?_
    refine aA [0,1,2,3,4,11,12,13,14,15,16,57,58] ?_
    refine W.I2 (fun K hK=>?_)
    cases ha:K1 r (R.take j)
    ·rw [ha,Bool.false_or]at hs
     simp (disch:=omega) [gw,EJ,nZ,hj]
     refine cS hc ?_
     refine W.lw [0,1,2,3,4,11,12,13,14,15,57,58] hK ?_;clear hK K;simp
     refine W.b7 (fun K hK=>?_);simp (disch:=omega) [gw]
     exact hK _ ⟨k'-1,_,aB _ [0,1,2,3,4,11,12,13,14,15,57,58],by omega,j+1,_,_,by rw [hs,←hz];rfl,by omega,aaP,oV,nZ⟩
    ·rw [ha,Bool.true_or]at hs
     simp (disch:=omega) [gw,EJ,nZ,hj]
     refine W.lw [0,1,2,3,4,11,12,13,14,15,57,58] hK ?_;clear hK K;simp
     refine W.b7 (fun K hK=>?_);simp (disch:=omega) [gw]
     exact hK _ ⟨k'-1,_,aB _ [0,1,2,3,4,11,12,13,14,15,57,58],by omega,j+1,_,_,by rw [hs];rfl,by omega,aaP,oV,nZ⟩
   ·have hj:j=R.length:=by simp at h;omega
    subst hj
    rw [List.take_length]
    refine fA ?_
    refine aA [0,1,2,3,4,11,12,13,14,73] ?_
    refine bJ ?_ ?_<;>intro h
    ·have hno:K1 r R=false:=by simpa using h
     obtain⟨T',KT',hP'⟩:=avW (UC hno)
     refine W.sr ?_
     simp (disch:=omega) [gw,EJ,nZ]
     try (refine bA (by omega) ?_;simp (disch:=omega) [gw])
     refine bH [0,1,2,3,4,11,12,13,14] ?_
     refine W.I2 (fun K hK=>?_)
     simp (disch:=omega) [gw,EJ,oV]
     refine aC ng ?_
     simp (disch:=omega) [gw,EJ]
     refine aC n2 ?_
     simp (disch:=omega) [gw,EJ]
     refine cS n3 ?_
     refine aC hM ?_
     simp (disch:=omega) [gw,oV]
     refine bA (by kernel_rfl) ?_
     simp (disch:=omega) [gw]
     exact hK _ ⟨_,aB _ [0,1,2,3,4,11,12,13],R ++ [r],T',p*dD r,_,_,_,_,by rw [show(R ++ [r]).length=R.length+1 by simp];rfl,by simp,by simp [emap,rc,re],KT',hP',by simp;omega⟩
    ·refine W.skip ?_
     exact⟨_,aB _ [0,1,2,3,4,11,12,13],R,T,p,_,_,_,_,rfl,oV,nZ,KT,hRT,hR4⟩
  clear oV nZ KT hRT hR4 lR hbb hT3 afm hM avW bp rows clk p T R v11 XP hTl
  rintro _ ⟨R,T,p,v11,XP,rows,clk,rfl,oV,nZ,KT,hRT,hR4⟩
  refine W.b7 (fun K hK=>?_);simp (disch:=omega) [gw]
  exact hK _ ⟨l.length+2-(i+2),_,aB _ [0,1,2,3,4,11,12,13],by omega,R,T,p,i+2,v11,XP,_,_,rfl,oV,nZ,KT,hRT,hR4,rfl,by omega⟩
 ·refine fA ?_
  refine W.freeze 12 (by simp [nZ]) (fun K hK=>?_)
  simp [nZ]
  refine hK _ ?_;clear hK K
  refine W.freeze 11 (by simp [oV]) (fun K hK=>?_)
  simp [oV]
  refine hK _ ?_;clear hK K
  have fi:=fin R T p KT hRT (by have:=hRT.length_eq;omega)
  have hcR:∀(x:Rat),SQ 7 x → ∀j,j<R.length→aE env.P 14 [R2 (nth R j).num (nth R j).den,R2 x.num x.den] (.int .i64 (BH (nth R j) x)):=fun x hx j hj=>apc (apb (KT.rng _ (hRT.mem_iff.1 (bN hj)))) hx (by decide)
  clear oV nZ hbb tO hk lR KT hRT fin
  generalize p.l=pl at *
  refine jC ?_
  refine cS hSa ?_
  refine cN [11,12,17,18] hSb ?_
  refine W.iB (fun σ=>∃(lo hi:Rat) (v17 v18:Nat) (rows:Pm.Rows) (clk:Nat),σ=⟨fa [(11, .rd [Po pl]),(12,aJ rc R),(17, .ptr 17 v17 0 0),(18, .ptr 18 v18 0 0)],rows,clk⟩∧rows 17=some ⟨v17,31,4,[[aJ aI (aS DD lo.num.natAbs), .bool (decide (lo.num<0)),aJ aI (aS DD (lo.den:Int).natAbs), .bool (decide ((lo.den:Int)<0))]]⟩∧rows 18=some ⟨v18,31,4,[[aJ aI (aS DD hi.num.natAbs), .bool (decide (hi.num<0)),aJ aI (aS DD (hi.den:Int).natAbs), .bool (decide ((hi.den:Int)<0))]]⟩∧lo≤hi∧(lo=a∧hi=b∨lo=b∧hi=a)) ?_ ?_
  ·refine aR [11,12,17,18,97] avU ?_
   refine bJ ?_ ?_<;>intro h
   ·have dK:b<a:=XN.1 (by simpa using h)
    refine W.b7 (fun K hK=>?_);simp (disch:=omega) [gw]
    exact hK _ ⟨_,aB _ [11,12,17,18],b,a,_,_,_,_,rfl,by simp,by simp,Rat.le_of_lt dK, .inr ⟨rfl,rfl⟩⟩
   ·have hle:¬b<a:=fun hh=>by
     have:=XN.2 hh
     simp at h;omega
    refine W.skip ?_
    exact⟨_,aB _ [11,12,17,18],a,b,_,_,_,_,rfl,by simp,by simp,Rat.not_lt.1 hle, .inl ⟨rfl,rfl⟩⟩
  clear hSa hSb avU rows clk
  rintro _ ⟨lo,hi,v17,v18,rows,clk,rfl,K2,w9,hle,eW⟩
  obtain⟨t,x,C,S0,S1,S2,F⟩:=fi lo hi hle eW
  have ql:SQ 7 lo:=by rcases eW with ⟨h,_⟩ | ⟨h,_⟩<;>rw [h]<;>first | exact qa.mono (by decide) | exact qb'.mono (by decide)
  have qh:SQ 7 hi:=by rcases eW with ⟨_,h⟩ | ⟨_,h⟩<;>rw [h]<;>first | exact qa.mono (by decide) | exact qb'.mono (by decide)
  have cl:=hcR lo ql
  have ch:=hcR hi qh
  clear hcR fi eW
  refine aA [11,12,17,18,19] ?_
  refine aQ [11,12,17,18,19,101,102] ?_
  refine W.block ?_
  refine W.bE (fun kk σ=>∃(i:Nat) (rows:Pm.Rows) (clk:Nat),σ=⟨fa [(11, .rd [Po pl]),(12,aJ rc R),(17, .ptr 17 v17 0 0),(18, .ptr 18 v18 0 0),(19, .int .i64 (P7 lo hi (R.take i))),(101, .int .i64 R.length),(102, .int .i64 i)],rows,clk⟩∧i+kk=R.length∧rows 17=some ⟨v17,31,4,[[aJ aI (aS DD lo.num.natAbs), .bool (decide (lo.num<0)),aJ aI (aS DD (lo.den:Int).natAbs), .bool (decide ((lo.den:Int)<0))]]⟩∧rows 18=some ⟨v18,31,4,[[aJ aI (aS DD hi.num.natAbs), .bool (decide (hi.num<0)),aJ aI (aS DD (hi.den:Int).natAbs), .bool (decide ((hi.den:Int)<0))]]⟩) R.length ?_ ?_
  ·exact⟨_,aB _ [11,12,17,18,19,101,102],0,rows,clk,by simp [P7],by omega,K2,w9⟩
  clear K2 w9 rows clk
  rintro kk _ ⟨i,rows,clk,rfl,zH,K2,w9⟩
  refine bU [11,12,17,18,19,101,102,103] ?_
  refine bJ ?_ ?_<;>intro h
  ·have iQ:i<R.length:=by simp at h;omega
   have hs:=afj (lo:=lo) (hi:=hi) iQ
   have aGN:P7 lo hi (R.take i)≤4:=Nat.le_trans afk (by simp;omega)
   have c1:=cl i iQ
   have c2:=ch i iQ
   generalize hy:nth R i=y at *
   refine W.skip ?_
   refine W.dO (fun σ=>σ=⟨fa [(11, .rd [Po pl]),(12,aJ rc R),(17, .ptr 17 v17 0 0),(18, .ptr 18 v18 0 0),(19, .int .i64 (P7 lo hi (R.take (i+1)))),(101, .int .i64 R.length),(102, .int .i64 i)],rows,clk⟩) ?_ ?_
   ·refine aA [11,12,17,18,19,20,101,102] ?_
    refine W.acC (fun σ=>σ=⟨fa [(11, .rd [Po pl]),(12,aJ rc R),(17, .ptr 17 v17 0 0),(18, .ptr 18 v18 0 0),(19, .int .i64 (P7 lo hi (R.take i))),(101, .int .i64 R.length),(102, .int .i64 i),(120, .bool (decide (lo<y∧y≤hi)))],rows,clk⟩) (fun K hK=>?_) ?_
    ·by_cases h1:0<BH y lo
     ·have AO:=mA.1 h1
      simp (disch:=omega) [gw,K2,w9,iQ,hy,rc,re]
      refine aC c1 ?_
      simp (disch:=omega) [gw,K2,w9,iQ,hy,h1]
      refine aC c2 ?_
      simp (disch:=omega) [gw,h1]
      have e:decide (lo<y∧y≤hi)=decide (BH y hi≤0):=decide_eq_decide.2 ⟨fun hh=>Int.not_lt.1 fun h3=>by have:=mA.1 h3;grind,fun hh=>⟨AO,Rat.not_lt.1 fun h3=>by have:=mA.2 h3;omega⟩⟩
      exact hK _ _ (aB _ [11,12,17,18,19,101,102,120]) (by rw [e];rfl)
     ·have AO:=fun hh=>h1 (mA.2 hh)
      simp (disch:=omega) [gw,K2,w9,iQ,hy,rc,re]
      refine aC c1 ?_
      simp (disch:=omega) [gw,K2,w9,iQ,hy,h1]
      exact hK _ _ (aB _ [11,12,17,18,19,101,102,120]) (by rw [show decide (lo<y∧y≤hi)=false from decide_eq_false (fun hh=>AO hh.1)];rfl)
    rintro _ rfl
    refine bJ ?_ ?_<;>intro h
    ·rw [if_pos (by simpa using h)]at hs
     refine W.b7 (fun K hK=>?_);simp (disch:=omega) [gw]
     exact hK _ ⟨_,aB _ [11,12,17,18,19,101,102],by rw [hs];rfl⟩
    ·rw [if_neg (by simpa using h)]at hs
     refine W.skip ?_
     exact⟨_,aB _ [11,12,17,18,19,101,102],by rw [hs];rfl⟩
   rintro _ rfl
   refine W.b7 (fun K hK=>?_);simp (disch:=omega) [gw]
   refine hK _ ⟨kk-1,_,aB _ [11,12,17,18,19,101,102],by omega,i+1,_,_,rfl,by omega,K2,w9⟩
  ·have iQ:i=R.length:=by simp at h;omega
   subst iQ
   rw [List.take_length]
   refine fA ?_
   obtain⟨f1,f2,f3,fb,g1,g2,fe⟩:=F
   have hw4:P7 lo hi R≤4:=Nat.le_trans afk hR4
   generalize P7 lo hi R=w at *
   have p0:=S0.dA
   have p1:=S1.dA
   have p2:=S2.dA
   have pz:=jM false A9.no true [] 0
   have hE:g9 env.P 44 [] 95 12 S2.c S2.c (.int .i64 w):=by rw [←fe];exact DG
   have hB:=EI (x:=pl) (t:=t)
   generalize S0.c=s0 at *
   generalize S1.c=s1 at *
   generalize S2.c=s2 at *
   simp only [fG,A9.no]at *
   refine aA [17,18,19,21] ?_
   refine aA [17,18,19,21,22] ?_
   refine W.sr ?_
   simp (disch:=omega) [gw,K2]
   refine cS f1 ?_
   refine cN [18,19,21,22,23] f2 ?_
   refine nU ?_
   refine cS hB ?_
   refine I1 fb rfl rfl pz p0 (by simp [HT,A9.no]) ?_
   simp (disch:=omega) [gw]
   refine bH [18,19,21,22] ?_
   refine W.sr ?_
   simp (disch:=omega) [gw,w9]
   refine cS f3 ?_
   refine nI g1 rfl rfl p0 p1 (by simp) ?_
   simp (disch:=omega) [gw]
   refine bH [18,19,21,22,24,25] ?_
   refine W.sr ?_
   simp (disch:=omega) [gw,w9]
   refine cS f3 ?_
   refine nI g2 rfl rfl p1 p2 (by simp) ?_
   simp (disch:=omega) [gw]
   refine bH [19,22,24,25,26,27] ?_
   refine jC ?_
   refine nI hE rfl rfl p2 p2 (by simp) ?_
   simp (disch:=omega) [gw]
   refine cN [10] hw ?_
   exact cC
end Go.Proofs.YtiobceocpabjdaaGreat
namespace Go.Proofs.YtiobceocpabjdaaGreat
open Go Pm
@[simp] theorem axA{x:RE}:(ade x).length=9:=rfl
theorem UD:env.P.underlying 3=some (.int .i64):=by kernel_rfl
theorem eqI{P:Program}{t:TypeId}(hu:P.underlying t=some (.int .i64))(d:Nat)(w:World)(a b:Int):(Op.equalIn (d+1) t (iV a) (iV b)).run P w = .ok (a==b) w:=by simp [Op.equalIn,run_underlying hu,iV]
theorem XQ{P:Program}{t:TypeId}(hu:P.underlying t=some (.int .i64))(w:World){xs:Array Value}{i:Nat}{v:Value}(h:xs[i]? = some v):(part t xs i).run P w = .ok v w:=by
 simp [part,nD hu,rH,hu,UF,h]
theorem qS{P:Program}{t:TypeId}(hu:P.underlying t=some (.int .i64)){d:Nat}{w:World}{xs ys:Array Value}{i:Nat}{is:List Nat}{a b:Int}(hx:xs[i]? = some (iV a))(hy:ys[i]? = some (iV b)) :
  (Op.eqItems (d+1) t 1 xs ys (i::is)).run P w=if a=b then(Op.eqItems (d+1) t 1 xs ys is).run P w else .ok false w:=by
 simp only [Op.eqItems,Sem.run_bind,Nat.mul_one,XQ hu w hx,XQ hu w hy,Result.andThen_ok,eqI hu]
 by_cases h:a=b<;>simp [h]
theorem z7{P:Program}{d:Nat}{w:World}{xs ys:Array Value}{f:Field}{fs:List Field}{u v:Value}{b:Bool} (hn:f.name ≠ "_") (hx:(part f.type xs f.offset).run P w = .ok u w) (hy:(part f.type ys f.offset).run P w = .ok v w) (he:(Op.equalIn d f.type u v).run P w = .ok b w) :
  (Op.eqFields d xs ys (f::fs)).run P w=if b=true then(Op.eqFields d xs ys fs).run P w else .ok false w:=by
 simp only [Op.eqFields,if_pos hn,Sem.run_bind,hx,hy,Result.andThen_ok,he]
 cases b<;>simp
theorem ape(d:Nat)(w:World)(a b c e a' b' c' e':Int):(Op.equalIn (d+2) 76 (.agg #[iV a,iV b,iV c,iV e]) (.agg #[iV a',iV b',iV c',iV e'])).run env.P w = .ok (decide ([a,b,c,e] = [a',b',c',e'])) w:=by
 have hu:env.P.underlying 76=some (.array 4 3):=by kernel_rfl
 obtain⟨i,hi⟩:∃i,env.P.info? 3=some i:=Option.isSome_iff_exists.1 (by kernel_rfl)
 rw [show d+2=(d+1)+1 from rfl,run_equalIn_array w (d+1) _ _ hu hi,show env.P.cellsOf 3=1 by kernel_rfl,show List.range 4 = [0,1,2,3]from rfl,
  qS UD (a:=a) (b:=a') rfl rfl,qS UD (a:=b) (b:=b') rfl rfl,qS UD (a:=c) (b:=c') rfl rfl,qS UD (a:=e) (b:=e') rfl rfl]
 by_cases h1:a=a'<;>by_cases h2:b=b'<;>by_cases h3:c=c'<;>by_cases h4:e=e'<;>simp [h1,h2,h3,h4,Op.eqItems]
theorem avY:afO env.P 78 5:=by
 refine⟨fun w xs ys hx hy=>?_,by kernel_rfl⟩
 match xs,hx with
 | [k,a,b,c,d],_ =>
  match ys,hy with
  | [k',a',b',c',d'],_ =>
   obtain⟨f1,f2,hS,n1,t1,o1,n2,t2,o2⟩:∃f1 f2:Field,env.P.fieldsOf 78 = [f1,f2].toArray∧f1.name ≠ "_" ∧ f1.type=3∧f1.offset=0∧f2.name ≠ "_" ∧ f2.type=76∧f2.offset=1:=by
    have h:env.P.fieldsOf 78=([⟨ "Kind",3,0,false, "", "",0⟩,⟨ "Ids",76,1,false, "", "",8⟩]:List Field).toArray:=by kernel_rfl
    exact⟨_,_,h,by decide,rfl,rfl,by decide,rfl,rfl⟩
   have hu:env.P.underlying 78=some (.struct (env.P.fieldsOf 78)):=by kernel_rfl
   have hui:env.P.underlying 76=some (.array 4 3):=by kernel_rfl
   obtain⟨i,hi⟩:∃i,env.P.info? 76=some i:=Option.isSome_iff_exists.1 (by kernel_rfl)
   have o8:i.size=4:=by
    have h:(env.P.info? 76).map (fun i=>i.size)=some 4:=by kernel_rfl
    rw [hi]at h
    simpa using h
   have pA:∀x0 x1 x2 x3 x4:Int,(part 76 #[iV x0,iV x1,iV x2,iV x3,iV x4] 1).run env.P w = .ok (.agg #[iV x1,iV x2,iV x3,iV x4]) w:=by
    intro x0 x1 x2 x3 x4
    simp only [part,Sem.run_bind,nD hui,Result.andThen_ok,show rH env.P 76=true by kernel_rfl,if_true,c7 hi,o8,Sem.run_pure]
    rfl
   show(Op.equalIn 10000 78 (.agg #[iV k,iV a,iV b,iV c,iV d]) (.agg #[iV k',iV a',iV b',iV c',iV d'])).run env.P w=_
   rw [show(10000:Nat)=9999+1 from rfl,run_equalIn_struct w 9999 78 _ _ hu (by kernel_rfl),hS]
   show(Op.eqFields 9999 _ _ [f1,f2]).run env.P w=_
   rw [z7 (u:=iV k) (v:=iV k') (b:=k==k') n1 (by rw [t1,o1];exact XQ UD w rfl) (by rw [t1,o1];exact XQ UD w rfl) (by rw [t1];exact eqI UD 9998 w k k'),
    z7 n2 (by rw [t2,o2];exact pA k a b c d) (by rw [t2,o2];exact pA k' a' b' c' d') (by rw [t2];exact ape 9997 w a b c d a' b' c' d')]
   by_cases h1:k=k'<;>by_cases h2:[a,b,c,d] = [a',b',c',d']<;>simp [h1,h2,Op.eqFields]
theorem apf:∀ {s t:Tg},s.k=t.k→s.a=t.a→s.b=t.b→s.c=t.c→s.d=t.d→s=t
 | ⟨_,_,_,_,_⟩,⟨_,_,_,_,_⟩,rfl,rfl,rfl,rfl,rfl=>rfl
theorem avZ{s t:Tg}(h:s≠t):(!decide (s.k=t.k) || (!decide (s.a=t.a) || (!decide (s.b=t.b) || (!decide (s.c=t.c) || !decide (s.d=t.d)))))=true:=by
 refine Classical.byContradiction fun g=>h ?_
 simp only [Bool.or_eq_true,Bool.not_eq_true',decide_eq_false_iff_not,not_or,Decidable.not_not]at g
 exact apf g.1 g.2.1 g.2.2.1 g.2.2.2.1 g.2.2.2.2
def kpt(x:CE)(sm:WE→Bool)(c:WE→Int):List WE→WE
 | []=>WE.new x
 | w::l=>if (decide (w.t=x.t)&&w.k&&sm w&&(!w.o || decide (0<c w)))=true then⟨x.t,x.p,x.w,true,w.o,w.f⟩else kpt x sm c l
def kfl(x:CE)(sm:WE→Bool)(c:WE→Int):List WE→Bool
 | []=>true
 | w::l=>if (decide (w.t=x.t)&&w.k&&sm w&&(!w.o || decide (0<c w)))=true then false else kfl x sm c l
set_option maxHeartbeats 4000000 in
theorem afn{b:Bool}{n t:A9}{z:Bool}{L:List WE}{e:Int}{x:CE}{sm:WE→Bool}{c:WE→Int}(hl:L.length<1000000)(hz:z=true→L = [])(hx:x.z=false)
  (hS:∀w∈L,w.t=x.t→w.k=true→aE env.P 251 [Po w.p,Po x.p] (.bool (sm w)))
  (hC:∀w∈L,w.t=x.t→w.k=true→sm w=true→w.o=true→aE env.P 110 [.ag (b9 w.f), .ag (b9 t)] (.int .i64 (c w))) :
  g9 env.P 191 [.ag (kV x), .ag (b9 t)] 95 12 (co b n z L e) (co b n z L e) (.ag (wek (kfl x sm c L) (kpt x sm c L))):=by
 obtain⟨y,hy⟩:∃y,kfl x sm c L=y:=⟨_,rfl⟩
 rw [hy]
 obtain⟨r,hr⟩:∃r,kpt x sm c L=r:=⟨_,rfl⟩
 rw [hr]
 simp only [fG,iW,hx,ada]at hC ⊢
 rw [JD y r]
 refine iK (E:=env) (fun _=>0) [(1, .ag [.int .i64 x.t.k, .int .i64 x.t.a, .int .i64 x.t.b, .int .i64 x.t.c, .int .i64 x.t.d, .sl (emap ie x.p), .int .i64 x.w]),(2, .ag [.sl t.y, .bool t.s, .sl t.d, .bool t.s', .sl t.d', .bool t.u, .sl t.e, .bool t.u', .sl t.e'])] Tryz.func191 rfl (by kernel_rfl) (by kernel_rfl) (show 3≤57 by decide) (by intro q;simp) ?_
 intro id ver jE adl eS
 refine bU [0,4,5,6] ?_
 refine W.eJ (fun σ=>∃(s:PV) (v4 v5 v6:Nat) (rows:Pm.Rows) (clk:Nat),σ=⟨fa [(4, .ptr 4 v4 0 0),(5, .ptr 5 v5 0 0),(6, .ptr 6 v6 0 0),(12,s),(13, .int .i64 L.length),(14, .int .i64 0)],rows,clk⟩∧(0<L.length→s=aJ EO L)∧rows 4=some ⟨v4,82,7,[[.int .i64 x.t.k, .int .i64 x.t.a, .int .i64 x.t.b, .int .i64 x.t.c, .int .i64 x.t.d, .sl (emap ie x.p), .int .i64 x.w]]⟩∧rows 5=some ⟨v5,54,9,[[.sl t.y, .bool t.s, .sl t.d, .bool t.s', .sl t.d', .bool t.u, .sl t.e, .bool t.u', .sl t.e']]⟩∧rows 6=some ⟨v6,179,18,[[.int .i64 0, .int .i64 0, .int .i64 0, .int .i64 0, .int .i64 0, .nil, .int .i64 0, .bool false, .bool false, .nil, .bool false, .nil, .bool false, .nil, .bool false, .nil, .bool false, .nil]]⟩∧rows (id+1000000)=some ⟨ver,95,12,[co b n z L e]⟩∧(∀j,j≠id→rows (j+1000000)=jE (j+1000000))) (fun K hK=>?_) ?_
 ·cases z
  ·simp (disch:=omega) [gw,eS,gL]
   exact hK _ _ (aB _ [4,5,6,12,13,14]) ⟨_,_,_,_,_,_,rfl,fun _=>rfl,by simp,by simp,by simp,by simp [eS,gL],by intro j hj;simp [hj]⟩
  ·obtain rfl:=hz rfl
   simp (disch:=omega) [gw,eS,gL]
   exact hK _ _ (aB _ [4,5,6,12,13,14]) ⟨_,_,_,_,_,_,rfl,by simp,by simp,by simp,by simp,by simp [eS,gL],by intro j hj;simp [hj]⟩
 clear eS
 rintro _ ⟨s,v4,v5,v6,rows,clk,rfl,hs,c9,dM,l8,eS,iE⟩
 refine W.block ?_
 refine W.bE (fun k σ=>∃(i v4 v5 v6:Nat) (rows:Pm.Rows) (clk:Nat),σ=⟨fa [(4, .ptr 4 v4 0 0),(5, .ptr 5 v5 0 0),(6, .ptr 6 v6 0 0),(12,s),(13, .int .i64 L.length),(14, .int .i64 i)],rows,clk⟩∧i+k=L.length∧kpt x sm c (L.drop i)=r∧kfl x sm c (L.drop i)=y∧rows 4=some ⟨v4,82,7,[[.int .i64 x.t.k, .int .i64 x.t.a, .int .i64 x.t.b, .int .i64 x.t.c, .int .i64 x.t.d, .sl (emap ie x.p), .int .i64 x.w]]⟩∧rows 5=some ⟨v5,54,9,[[.sl t.y, .bool t.s, .sl t.d, .bool t.s', .sl t.d', .bool t.u, .sl t.e, .bool t.u', .sl t.e']]⟩∧rows 6=some ⟨v6,179,18,[[.int .i64 0, .int .i64 0, .int .i64 0, .int .i64 0, .int .i64 0, .nil, .int .i64 0, .bool false, .bool false, .nil, .bool false, .nil, .bool false, .nil, .bool false, .nil, .bool false, .nil]]⟩∧rows (id+1000000)=some ⟨ver,95,12,[co b n z L e]⟩∧(∀j,j≠id→rows (j+1000000)=jE (j+1000000))) L.length ?_ ?_
 ·exact⟨_,aB _ [4,5,6,12,13,14],0,v4,v5,v6,rows,clk,rfl,by omega,by rw [List.drop_zero];exact hr,by rw [List.drop_zero];exact hy,c9,dM,l8,eS,iE⟩
 clear c9 dM l8 eS iE rows clk v4 v5 v6
 rintro k _ ⟨i,v4,v5,v6,rows,clk,rfl,zH,hkp,hkf,c9,dM,l8,eS,iE⟩
 refine bU [4,5,6,12,13,14,15] ?_
 refine bJ ?_ ?_<;>intro h
 ·have hi:i<L.length:=by simp at h;omega
  obtain rfl:=hs (by omega)
  have hS':=hS _ (bN hi)
  have hC':=hC _ (bN hi)
  rw [List.drop_eq_getElem_cons hi,←bW hi,kpt]at hkp
  rw [List.drop_eq_getElem_cons hi,←bW hi,kfl]at hkf
  generalize hw:nth L i=w at *
  generalize sm w=q at *
  generalize c w=u at *
  have q1:=avY
  refine W.skip ?_
  refine W.dO (fun σ=>∃(v4 v5 v6:Nat) (rows:Pm.Rows) (clk:Nat),σ=⟨fa [(4, .ptr 4 v4 0 0),(5, .ptr 5 v5 0 0),(6, .ptr 6 v6 0 0),(12,aJ EO L),(13, .int .i64 L.length),(14, .int .i64 i)],rows,clk⟩∧kpt x sm c (L.drop (i+1))=r∧kfl x sm c (L.drop (i+1))=y∧rows 4=some ⟨v4,82,7,[[.int .i64 x.t.k, .int .i64 x.t.a, .int .i64 x.t.b, .int .i64 x.t.c, .int .i64 x.t.d, .sl (emap ie x.p), .int .i64 x.w]]⟩∧rows 5=some ⟨v5,54,9,[[.sl t.y, .bool t.s, .sl t.d, .bool t.s', .sl t.d', .bool t.u, .sl t.e, .bool t.u', .sl t.e']]⟩∧rows 6=some ⟨v6,179,18,[[.int .i64 0, .int .i64 0, .int .i64 0, .int .i64 0, .int .i64 0, .nil, .int .i64 0, .bool false, .bool false, .nil, .bool false, .nil, .bool false, .nil, .bool false, .nil, .bool false, .nil]]⟩∧rows (id+1000000)=some ⟨ver,95,12,[co b n z L e]⟩∧(∀j,j≠id→rows (j+1000000)=jE (j+1000000))) ?_ ?_
  ·refine W.sr ?_
   simp (disch:=omega) [gw,hi,hw,gG]
   refine bH [4,5,6,8,12,13,14] ?_
   refine W.seq ?_
   refine W.eJ (fun σ=>∃(v8:Nat) (rows:Pm.Rows) (clk:Nat),σ=⟨fa [(4, .ptr 4 v4 0 0),(5, .ptr 5 v5 0 0),(6, .ptr 6 v6 0 0),(8, .ptr 8 v8 0 0),(12,aJ EO L),(13, .int .i64 L.length),(14, .int .i64 i),(37, .bool (!(decide (w.t=x.t)&&w.k&&q)))],rows,clk⟩∧rows 8=some ⟨v8,179,18,[EO w]⟩∧rows 4=some ⟨v4,82,7,[[.int .i64 x.t.k, .int .i64 x.t.a, .int .i64 x.t.b, .int .i64 x.t.c, .int .i64 x.t.d, .sl (emap ie x.p), .int .i64 x.w]]⟩∧rows 5=some ⟨v5,54,9,[[.sl t.y, .bool t.s, .sl t.d, .bool t.s', .sl t.d', .bool t.u, .sl t.e, .bool t.u', .sl t.e']]⟩∧rows 6=some ⟨v6,179,18,[[.int .i64 0, .int .i64 0, .int .i64 0, .int .i64 0, .int .i64 0, .nil, .int .i64 0, .bool false, .bool false, .nil, .bool false, .nil, .bool false, .nil, .bool false, .nil, .bool false, .nil]]⟩∧rows (id+1000000)=some ⟨ver,95,12,[co b n z L e]⟩∧(∀j,j≠id→rows (j+1000000)=jE (j+1000000))) (fun K hK=>?_) ?_
   ·by_cases ht:w.t=x.t
    ·cases hk:w.k
     ·simp (disch:=omega) [gw,c9,q1,allI,kG,ht,hk]
      exact hK _ _ (aB _ [4,5,6,8,12,13,14,37]) ⟨_,_,_,by rw [hk,Bool.and_false,Bool.false_and];rfl,by simp [gG,ht,hk],by simp [c9],by simp [dM],by simp [l8],by simp [eS],by intro j hj;simp [hj,iE]⟩
     ·simp (disch:=omega) [gw,c9,q1,allI,kG,ht,hk]
      refine cS (hS' ht hk) ?_
      exact hK _ _ (aB _ [4,5,6,8,12,13,14,37]) ⟨_,_,_,by rw [hk,Bool.and_true,decide_eq_true ht,Bool.true_and];rfl,by simp [gG,ht,hk],by simp [c9],by simp [dM],by simp [l8],by simp [eS],by intro j hj;simp [hj,iE]⟩
    ·have mZ:=avZ ht
     simp (disch:=omega) [gw,c9,q1,allI,kG,mZ]
     exact hK _ _ (aB _ [4,5,6,8,12,13,14,37]) ⟨_,_,_,by rw [decide_eq_false ht,Bool.false_and,Bool.false_and];rfl,by simp [gG],by simp [c9],by simp [dM],by simp [l8],by simp [eS],by intro j hj;simp [hj,iE]⟩
   clear c9 dM l8 eS iE rows clk
   rintro _ ⟨v8,rows,clk,rfl,nP,c9,dM,l8,eS,iE⟩
   refine bJ ?_ ?_<;>intro h
   ·have hn:(decide (w.t=x.t)&&w.k&&q)=false:=by rw [Bool.not_eq_true']at h;exact h
    rw [hn,Bool.false_and,if_neg (by decide)]at hkp hkf
    refine fA ?_
    exact⟨_,aB _ [4,5,6,12,13,14],_,_,_,_,_,rfl,hkp,hkf,c9,dM,l8,eS,iE⟩
   have hn:(decide (w.t=x.t)&&w.k&&q)=true:=by rw [Bool.not_eq_false']at h;exact h
   have AA:w.t=x.t∧w.k=true∧q=true:=by simpa [and_assoc]using hn
   obtain⟨n1,n2,n3⟩:=AA
   rw [hn,Bool.true_and]at hkp hkf
   have hC2:=hC' n1 n2 n3
   rw [gG]at nP
   refine W.skip ?_
   refine W.eJ (fun σ=>∃(rows:Pm.Rows) (clk:Nat),σ=⟨fa [(4, .ptr 4 v4 0 0),(5, .ptr 5 v5 0 0),(6, .ptr 6 v6 0 0),(8, .ptr 8 v8 0 0),(12,aJ EO L),(13, .int .i64 L.length),(14, .int .i64 i),(47, .bool (!w.o || decide (0<u)))],rows,clk⟩∧rows 8=some ⟨v8,179,18,[EO w]⟩∧rows 4=some ⟨v4,82,7,[[.int .i64 x.t.k, .int .i64 x.t.a, .int .i64 x.t.b, .int .i64 x.t.c, .int .i64 x.t.d, .sl (emap ie x.p), .int .i64 x.w]]⟩∧rows 5=some ⟨v5,54,9,[[.sl t.y, .bool t.s, .sl t.d, .bool t.s', .sl t.d', .bool t.u, .sl t.e, .bool t.u', .sl t.e']]⟩∧rows 6=some ⟨v6,179,18,[[.int .i64 0, .int .i64 0, .int .i64 0, .int .i64 0, .int .i64 0, .nil, .int .i64 0, .bool false, .bool false, .nil, .bool false, .nil, .bool false, .nil, .bool false, .nil, .bool false, .nil]]⟩∧rows (id+1000000)=some ⟨ver,95,12,[co b n z L e]⟩∧(∀j,j≠id→rows (j+1000000)=jE (j+1000000))) (fun K hK=>?_) ?_
   ·cases ho:w.o
    ·simp (disch:=omega) [gw,nP,ho]
     exact hK _ _ (aB _ [4,5,6,8,12,13,14,47]) ⟨_,_,by rw [ho,Bool.not_false,Bool.true_or];rfl,by simp [nP,gG],by simp [c9],by simp [dM],by simp [l8],by simp [eS],by intro j hj;simp [hj,iE]⟩
    ·simp (disch:=omega) [gw,nP,dM,ho]
     refine cS (hC2 ho) ?_
     exact hK _ _ (aB _ [4,5,6,8,12,13,14,47]) ⟨_,_,by rw [ho,Bool.not_true,Bool.false_or];rfl,by simp [nP,gG],by simp [c9],by simp [dM],by simp [l8],by simp [eS],by intro j hj;simp [hj,iE]⟩
   clear c9 dM l8 nP eS iE rows clk
   rintro _ ⟨rows,clk,rfl,nP,c9,dM,l8,eS,iE⟩
   rw [gG]at nP
   refine bJ ?_ ?_<;>intro h
   ·rw [if_pos h]at hkp hkf
    subst hkp hkf
    refine W.sr ?_
    simp (disch:=omega) [gw,nP,c9,l8]
    refine bH [6] ?_
    refine W.ret ?_
    simp [go,eS]
    exact⟨rfl,fun j hj=>by simp [hj,iE]⟩
   ·rw [if_neg (by rw [h];decide)]at hkp hkf
    refine W.skip ?_
    exact⟨_,aB _ [4,5,6,12,13,14],_,_,_,_,_,rfl,hkp,hkf,c9,dM,l8,eS,iE⟩
  clear c9 dM l8 eS iE rows clk v4 v5 v6
  rintro _ ⟨v4,v5,v6,rows,clk,rfl,hkp,hkf,c9,dM,l8,eS,iE⟩
  refine W.b7 (fun K hK=>?_);simp (disch:=omega) [gw]
  refine hK _ ⟨k-1,_,aB _ [4,5,6,12,13,14],by omega,i+1,_,_,_,_,_,rfl,by omega,hkp,hkf,c9,dM,l8,eS,iE⟩
 ·have hi:i=L.length:=by simp at h;omega
  subst hi
  rw [List.drop_length,kpt]at hkp
  rw [List.drop_length,kfl]at hkf
  subst hkp hkf
  refine fA ?_
  refine W.sr ?_
  simp (disch:=omega) [gw,c9,l8]
  refine bH [6] ?_
  refine W.ret ?_
  simp only [WE.new,A9.no,azl]
  simp [go,eS]
  exact⟨rfl,fun j hj=>by simp [hj,iE]⟩
end Go.Proofs.YtiobceocpabjdaaGreat
