import Derived.Laws.CopyOwn
import Derived.ArgAppend
import Derived.Test.YtiobceocpabjdaaGreatKaa
set_option linter.unusedSimpArgs false
set_option linter.unusedVariables false
namespace Pm
open Go Go.RowKit
def HL(rows:Rows)(ids:List Nat):Rows:=fun j=>if j∈ids then none else rows j
def TD(c:Cx)(ids:List Nat):eG:=fun b o=>c.S b o ∨ ∃id∈ids,(∃r,c.rows id=some r)∧(c.β id).ownBlock=some b
section
variable {E:Env} {c:Cx} {w0:World} {S0:eG}
def F6(c:Cx)(ids:List Nat):Cx:={ c with S:=TD c ids,rows:=HL c.rows ids }
theorem nK(c:Cx)(ids:List Nat):uT c (F6 c ids):=
 ⟨fun _ _ h => .inl h,fun _ _ _=>rfl,fun _ h=>h,fun id r hr=>by
  simp only [F6,HL]at hr ⊢
  split at hr
  ·cases hr
  ·exact .inr ⟨r,hr,rfl,rfl,rfl,by first | rfl | trivial⟩⟩
theorem Inv.freeze(hI:Inv w0 S0 c)(ids:List Nat):Inv w0 S0 (F6 c ids):=by
 have live:∀ {k:Nat} {t:Row},HL c.rows ids k=some t→c.rows k=some t∧k ∉ ids:=by
  intro k t h
  simp only [HL]at h
  split at h
  ·cases h
  ·rename_i hk;exact⟨h,hk⟩
 have az2:∀ {id:Nat} {r:Row} {g:Nat},c.rows id=some r→(c.β id).ownBlock=some g→w0.heap.size≤g∧g<c.w.heap.size:=by
  intro id r g hr hg
  obtain⟨⟨ys,g1,_,_⟩,_⟩:=hI.row id r hr
  exact g1.lt g hg
 refine⟨hI.below,fun b o h => .inl (hI.ext b o h),fun b o h=>?_,hI.lt0,fun id r hr=>hI.clock id r (live hr).1,fun id r hr=>?_,fun i j r s g hr hs=>hI.apart i j r s g (live hr).1 (live hs).1,hI.fin⟩
 ·rcases h with h | ⟨id,_,⟨r,hr⟩,hb⟩
  ·exact hI.new b o h
  ·exact .inr (az2 hr hb)
 ·obtain⟨kZ,hk⟩:=live hr
  obtain⟨⟨ys,g1,g2,g3⟩,g4,g5,g6⟩:=hI.row id r kZ
  refine⟨⟨ys,g1,g2.mono (aM.uZ (nK c ids)),g3⟩,g4,fun g o hg hS=>?_,g6⟩
  rcases hS with h | ⟨jO,DA,⟨r',bU⟩,hb⟩
  ·exact g5 g o hg h
  ·have:=hI.apart id jO r r' g kZ bU hg hb
   subst this
   exact hk DA
theorem WZ(hI:Inv w0 S0 c){ids:List Nat}(hp:∀id∈ids,∀r,c.rows id=some r → ∀e∈r.els,∀p∈e,bL p=true){id:Nat}(gL:id∈ids){r:Row}(hr:c.rows id=some r)
  {g n cap:Nat} (hβ:c.β id = .slice (some ⟨g,0,none⟩) n cap) {i j:Nat} {el:List PV} {p:PV} (hi:r.els[i]? = some el) (hj:el[j]? = some p) :
  ∃v,c.w.cell? ⟨g,i*r.size+j,none⟩=some v∧TD c ids g (i*r.size+j)∧v.oneCell'=true∧dK (TD c ids) c.w p v:=by
 obtain⟨v,h1,h2,h3⟩:=wU hI hr hβ hi hj
 refine⟨v,h1, .inr ⟨id,gL,⟨r,hr⟩,by simp [hβ,Value.ownBlock]⟩,h2,?_⟩
 have h4:=h3.rep (hp id gL r hr el (List.mem_of_getElem? hi) p (List.mem_of_getElem? hj))
 exact dK.mono (fun _ _ h => .inl h) (fun _ _ _=>rfl) _ _ h4
theorem JV(hI:Inv w0 S0 c){ids:List Nat}(hp:∀id∈ids,∀r,c.rows id=some r → ∀e∈r.els,∀p∈e,bL p=true){p:PV}{v:Value}(h:aM c p v)(vL:∀id∈aU p,id∈ids)(y7:bL (fz c.rows p)=true) :
  dK (TD c ids) c.w (fz c.rows p) v:=by
 have mono:∀q u,dK c.S c.w q u→dK (TD c ids) c.w q u:=fun q u=>dK.mono (fun _ _ h => .inl h) (fun _ _ _=>rfl) q u
 cases p with
 | own id ver off len =>
  simp only [fz]at y7 ⊢
  have gL:id∈ids:=vL id (by simp [aU])
  cases hr:c.rows id with
  | none=>simp [hr,bL]at y7
  | some r =>
   simp only [hr]at y7 ⊢
   by_cases hv:r.ver=ver
   ·simp only [hv,if_true]at y7 ⊢
    simp only [aM]at h
    obtain⟨hle,h⟩:=h.2 r hr hv
    obtain⟨⟨xs,jQ,_,_⟩,hlen,_⟩:=hI.row id r hr
    have ahG:∀A m cap,c.β id = .slice A m cap→r.els.length≤cap∧cap≤maxLen:=by
     intro A m cap hβ
     rw [hβ]at jQ
     rcases jQ.2 with ⟨h',hz⟩ | ⟨g,j3,cur,h',_,_,S8,hm,_⟩
     ·simp at h';exact⟨by omega,by rw [h'.2.2];simp⟩
     ·simp at h';obtain⟨_,_,rfl⟩:=h';exact⟨S8,hm⟩
    have F7:((r.els.drop off).take len).length=len:=by simp;omega
    have els:∀g n cap,c.β id = .slice (some ⟨g,0,none⟩) n cap→gF (TD c ids) c.w g (off*r.size) ((r.els.drop off).take len):=by
     intro g n cap hβ
     refine pQ (n:=r.size) (fun e he=>hlen e (List.mem_of_mem_drop (List.mem_of_mem_take he))) fun k e hk=>?_
     rw [List.getElem?_take]at hk
     split at hk
     ·rw [List.getElem?_drop]at hk
      refine kF fun j q hq=>?_
      have:=WZ hI hp gL hr hβ hk hq
      rw [show off*r.size+k*r.size+j=(off+k)*r.size+j by rw [Nat.add_mul]];exact this
     ·cases hk
    simp only [dK]
    rw [F7]
    rcases h with ⟨rfl,A,n,cap,hβ,rfl⟩ | ⟨l5,g,n,cap,A,hβ,hoc,rfl,ha⟩
    ·obtain⟨c1,c2⟩:=ahG _ _ _ hβ
     refine⟨A,cap,rfl,by omega,c2,?_⟩
     rcases Nat.eq_zero_or_pos len with h0 | h0
     ·left;exact List.eq_nil_of_length_eq_zero (by rw [F7];exact h0)
     ·right
      obtain⟨g,j3,sE⟩:=sC hI hr (by omega)
      rw [hβ]at sE
      simp only [Value.slice.injEq]at sE
      obtain⟨rfl,rfl,rfl⟩:=sE
      exact⟨g,0,rfl,by simpa using els g _ _ hβ⟩
    ·obtain⟨c1,c2⟩:=ahG _ _ _ hβ
     refine⟨some A,cap-off,rfl,by omega,by omega,?_⟩
     rcases ha with rfl | rfl
     ·left;exact List.eq_nil_of_length_eq_zero F7
     ·right;exact⟨g,off*r.size,rfl,els g n cap hβ⟩
   ·simp [hv,bL]at y7
 | ptr id ver i j =>
  simp only [fz]at y7 ⊢
  have gL:id∈ids:=vL id (by simp [aU])
  cases hr:c.rows id with
  | none=>simp [hr,bL]at y7
  | some r =>
   simp only [hr]at y7 ⊢
   by_cases hv:r.ver=ver
   ·simp only [hv,if_true]at y7 ⊢
    simp only [aM]at h
    obtain⟨g,n,cap,hβ,rfl⟩:=h.2 r hr hv
    simp only [dK]
    refine⟨g,i*r.size+j,rfl,kF fun k q hq=>?_⟩
    rw [List.getElem?_drop]at hq
    cases nS:r.els[i]? with
    | none=>simp [List.getD,nS]at hq
    | some el =>
     have hq':el[j+k]? = some q:=by simpa [List.getD,nS]using hq
     have:=WZ hI hp gL hr hβ nS hq'
     rw [show i*r.size+j+k=i*r.size+(j+k)by omega];exact this
   ·simp [hv,bL]at y7
 | nil =>
  simp only [aM,dK]at h
  subst h
  simp only [fz,dK]
  exact⟨none,0,rfl,by simp,by simp [maxLen], .inl (by first | rfl | trivial)⟩
 | jA l =>
  simp only [fz]
  have:=mono _ _ (show dK c.S c.w (.jA l) v by simpa only [aM]using h)
  simp only [dK]at this ⊢
  obtain⟨A,rfl,h1,h2⟩:=this
  exact⟨A,l.length,rfl,Nat.le_refl _,h1,h2⟩
 | undef=>simp [fz,bL]at y7
 | _=>simp only [fz];exact mono _ _ (by simpa only [aM]using h)
theorem JW(hI:Inv w0 S0 c){ids:List Nat}(hp:∀id∈ids,∀r,c.rows id=some r → ∀e∈r.els,∀p∈e,bL p=true){p:PV}{v:Value}(h:aI c p v)(vL:∀id∈eB p,id∈ids)(y7:dI (pz c.rows p)=true) :
  dK (TD c ids) c.w (pz c.rows p) v:=by
 cases p with
 | ag l =>
  obtain⟨vs,rfl,C4⟩:=h
  simp only [pz,dI]at y7 ⊢
  simp only [dK]
  refine⟨vs,rfl,cS.2 (bF.cZ (by simp [C4.length]) fun k q u hq hu=>?_)⟩
  simp at hq
  obtain⟨q',hq',rfl⟩:=hq
  obtain⟨u',h1,h2⟩:=C4.get hq'
  rw [hu]at h1;cases h1
  refine JV hI hp h2 (fun id gL=>vL id ?_) (List.all_eq_true.1 y7 _ (by simp;exact⟨q',List.mem_of_getElem? hq',rfl⟩))
  simp only [eB,List.mem_flatMap]
  exact⟨q',List.mem_of_getElem? hq',gL⟩
 | _ =>
  simp only [pz]at y7 ⊢
  refine JV hI hp (by simpa only [aI]using h) (fun id gL=>vL id (by simpa only [eB]using gL)) ?_
  revert y7
  simp only [fz]
  first
   | (intro y7;simpa only [dI]using y7)
   | (split
      · split
        · intro _;rfl
        · intro y7;exact y7
      · intro y7;exact y7)
end
theorem AG{α:Type}{n:Nat}:∀ {els:List (List α)},(∀e∈els,e.length=n) → ∀ {i:Nat} {el:List α},els[i]? = some el → ∀(j:Nat) (l:List α),j+l.length≤el.length →
  (els.set i (el.take j++l++el.drop (j+l.length))).flatten=els.flatten.take (i*n+j)++l++els.flatten.drop (i*n+j+l.length)
 | [],_,_,_,h,_,_,_=>by simp at h
 | q::els,hn,0,el,h,j,l,hjl=>by
  simp at h
  subst h
  simp only [List.set_cons_zero,List.flatten_cons,Nat.zero_mul,Nat.zero_add]
  rw [List.take_append_of_le_length (by omega),List.drop_append_of_le_length hjl]
  simp
 | q::els,hn,i+1,el,h,j,l,hjl=>by
  have hq:q.length=n:=hn q (by simp)
  have ih:=AG (els:=els) (n:=n) (fun e he=>hn e (by simp [he])) (i:=i) (el:=el) (by simpa using h) j l hjl
  simp only [List.set_cons_succ,List.flatten_cons,ih]
  have e1:(i+1)*n+j=q.length+(i*n+j):=by rw [hq,Nat.add_mul];omega
  have e2:(i+1)*n+j+l.length=q.length+(i*n+j+l.length):=by omega
  rw [e1,show q.length+(i*n+j)+l.length=q.length+(i*n+j+l.length)by omega,List.take_length_add_append,List.drop_length_add_append]
  simp
def sF(E:Env)(t:TypeId)(rows:Rows)(p x v:PV)(u:Option (Nat × Row)):Prop:=
 (E.ty t).known=true∧v = .undef ∧
 match p with
 | .ptr id ver i j=>∃r,rows id=some r∧r.ver=ver ∧ ∃el,r.els[i]? = some el ∧ ∃l,cQ x=some l∧(∀q∈l,iT rows q)∧l.length=(E.ty t).size∧j+l.length≤el.length ∧
   u=some (id,{ r with els:=r.els.set i (el.take j++l++el.drop (j+l.length)) })
 | _=>False
def iU(n:Nat):Nat→List (Nat × PV)→Option (List (List PV))
 | _,[]=>some []
 | k,(i,p)::ps =>
  match cQ p with
  | some l=>if i=k∧l.length=n then(iU n (k+1) ps).map (l :: ·)else none
  | none=>none
def TE(t:TI)(rows:Rows)(len:Nat)(parts:List (Nat × PV))(v:PV):Prop:=
 match t with
 | .slice _ n _ _=>∃els,iU n 0 parts=some els∧len=els.length∧len≤4096∧n≤4096∧(∀e∈els,∀p∈e,bL (fz rows p)=true∧iT rows p)∧(∀e∈els,∀p∈e,aU p = [])∧v = .jA (els.map fun e=>e.map (fz rows))
 | _=>False
def Gs:=PV × Value→Prop
instance:Membership (PV × Value) Gs:=⟨fun G p=>G p⟩
def Gs.none:Gs:=fun _=>False
theorem Gs.NR{p:PV × Value}:¬p∈Gs.none:=id
def NS(P:Program)(f:FuncId)(args:List PV)(rows:Rows)(clk:Nat)(R:PV→Rows→Nat→Prop):Prop:=
 (∃fn c,P.funcs[f]? = some fn∧fn.body=some c∧(fn.name == "runtime.NumGoroutine")=false) ∧
 ∀(w0:World) (S0:eG) (c:Cx) (vs:List Value) (G:Gs),Inv w0 S0 c→c.rows=rows→(∀v,c.used v→v<clk)→bF (aI c) args vs→(∀p∈G,aI c p.1 p.2) →
  Calls P f vs.toArray c.w fun e w'=>∃v c' r iM,e = .returned v∧c'.w=w'∧Inv w0 S0 c'∧(∀p∈G,aI c' p.1 p.2)∧R r c'.rows iM∧(∀v,c'.used v→v<iM)∧aI c' r v
def pR:Nat:=1000000
def fY(P:Program)(g:FuncId)(args:List PV)(e:TypeId)(n:Nat)(core eI:List PV)(r:PV):Prop:=
 ∀id ver (rows:Rows) clk,pR≤id→rows id=some ⟨ver,e,n,[core]⟩→ver<clk →
  NS P g (.ptr id ver 0 0::args) rows clk (fun r' rows' _=>r'=r∧rows' id=some ⟨ver,e,n,[eI]⟩ ∧ ∀j,pR≤j→j≠id→rows' j=rows j)
def GL(k:Nat):PV→PV
 | .own id ver off len => .own (id+k) ver off len
 | .ptr id ver i j => .ptr (id+k) ver i j
 | p=>p
def shV(k:Nat):PV→PV
 | .ag l => .ag (l.map (GL k))
 | p=>GL k p
def pS(k:Nat)(r:Row):Row:={ r with els:=r.els.map fun e=>e.map (GL k) }
def shC(k:Nat)(c:Cx):Cx:={ c with β:=fun j=>if k≤j then c.β (j-k)else .slice none 0 0,rows:=fun j=>if k≤j then(c.rows (j-k)).map (pS k)else none }
theorem DB{k:Nat}{p:PV}(h:bL p=true):GL k p=p:=by cases p<;>simp_all [GL,bL]
theorem NT{k:Nat}{l:List PV}(h:∀p∈l,bL p=true):l.map (GL k)=l:=by
 conv=>rhs;rw [←List.map_id l]
 exact List.map_congr_left fun p hp=>DB (h p hp)
theorem acP{k:Nat}{p:PV}(h:dI p=true):shV k p=p:=by
 cases p with
 | ag l=>simp only [shV];rw [NT (List.all_eq_true.1 h)]
 | own=>simp [dI,bL]at h
 | ptr=>simp [dI,bL]at h
 | _=>rfl
theorem wW{k:Nat}{c:Cx}{j:Nat}:(shC k c).rows (j+k)=(c.rows j).map (pS k):=by simp [shC]
theorem DC{k:Nat}{c:Cx}{j:Nat}:(shC k c).β (j+k)=c.β j:=by simp [shC]
theorem wX{k:Nat}{c:Cx}{i:Nat}{r:Row}(h:(shC k c).rows i=some r):∃j r0,i=j+k∧c.rows j=some r0∧r=pS k r0:=by
 simp only [shC]at h
 split at h
 ·rename_i hk
  obtain⟨r0,h1,h2⟩:=Option.map_eq_some_iff.1 h
  exact⟨i-k,r0,by omega,h1,h2.symm⟩
 ·cases h
theorem aM.sh{k:Nat}{c:Cx}{p:PV}{v:Value}(h:aM c p v):aM (shC k c) (GL k p) v:=by
 cases p with
 | own id ver off len =>
  simp only [GL,aM]at h ⊢
  refine⟨h.1,fun r hr hv=>?_⟩
  rw [wW]at hr
  obtain⟨r0,h1,rfl⟩:=Option.map_eq_some_iff.1 hr
  have:=h.2 r0 h1 hv
  rw [DC]
  simpa [pS]using this
 | ptr id ver i j =>
  simp only [GL,aM]at h ⊢
  refine⟨h.1,fun r hr hv=>?_⟩
  rw [wW]at hr
  obtain⟨r0,h1,rfl⟩:=Option.map_eq_some_iff.1 hr
  have:=h.2 r0 h1 hv
  rw [DC]
  simpa [pS]using this
 | undef=>trivial
 | _=>exact h
theorem aI.sh{k:Nat}{c:Cx}{p:PV}{v:Value}(h:aI c p v):aI (shC k c) (shV k p) v:=by
 cases p with
 | ag l =>
  obtain⟨vs,h1,h2⟩:=h
  refine⟨vs,h1,bF.cZ (by simp [h2.length]) fun i a b ha hb=>?_⟩
  simp at ha
  obtain⟨q,hq,rfl⟩:=ha
  obtain⟨b',kY,hr⟩:=h2.get hq
  rw [hb]at kY;cases kY
  exact hr.sh
 | _=>simp only [aI,shV]at h ⊢;exact h.sh
theorem DE{α β:Type}{f:α→β}:∀ {l:List (List α)},(l.map fun e=>e.map f).flatten=l.flatten.map f
 | []=>rfl
 | e::l=>by
  show e.map f++(l.map fun e=>e.map f).flatten=(e++l.flatten).map f
  rw [DE,List.map_append]
theorem Inv.sh{w0:World}{S0:eG}{c:Cx}(hI:Inv w0 S0 c)(k:Nat):Inv w0 S0 (shC k c):=by
 refine⟨hI.below,hI.ext,hI.new,hI.lt0,fun i r hr=>?_,fun i r hr=>?_,fun i i' r r' g hr kZ hg hg'=>?_,hI.fin⟩
 ·obtain⟨j,r0,rfl,h1,rfl⟩:=wX hr
  exact hI.clock j r0 h1
 ·obtain⟨j,r0,rfl,h1,rfl⟩:=wX hr
  obtain⟨⟨xs,g1,g2,g3⟩,g4,g5,g6⟩:=hI.row j r0 h1
  rw [show pS k r0 = { r0 with els:=r0.els.map fun e=>e.map (GL k) }from rfl]
  refine⟨⟨xs,?_,?_,g3⟩,fun e he=>?_,fun g o hg=>?_,g6⟩
  ·rw [DC]
   show c.w.ownsRow _ _ _ _ (r0.els.map fun e=>e.map (GL k)).length xs
   rw [List.length_map];exact g1
  ·show bF _ (r0.els.map fun e=>e.map (GL k)).flatten xs
   rw [DE]
   refine bF.cZ (by rw [List.length_map];exact g2.length) fun i a b ha hb=>?_
   simp only [List.getElem?_map,Option.map_eq_some_iff]at ha
   obtain⟨q,hq,rfl⟩:=ha
   obtain⟨b',kY,hr⟩:=g2.get hq
   rw [hb]at kY;cases kY
   exact hr.sh
  ·simp only [List.mem_map]at he
   obtain⟨e0,he0,rfl⟩:=he
   simp [g4 e0 he0]
  ·rw [DC]at hg
   exact g5 g o hg
 ·obtain⟨j,r0,rfl,h1,rfl⟩:=wX hr
  obtain⟨j',r0',rfl,TC,rfl⟩:=wX kZ
  rw [DC]at hg hg'
  rw [hI.apart j j' r0 r0' g h1 TC hg hg']
def wY(c:Cx):PV→Prop
 | .own _ ver _ _=>c.used ver
 | .ptr _ ver _ _=>c.used ver
 | _=>True
theorem aM.wY{c:Cx}{p:PV}{v:Value}(h:aM c p v):wY c p:=by
 cases p with
 | own=>exact h.1
 | ptr=>exact h.1
 | _=>trivial
theorem DF{c:Cx}{p:PV}(h:bL p=true):Pm.wY c p:=by cases p<;>simp_all [Pm.wY,bL]
theorem aM.az3{k:Nat}{c c' c'':Cx}(hS:c''.S=c'.S)(hw:c''.w=c'.w)(hu:c''.used=c.used)(hr:∀id r,c''.rows id=some r → ∃r',c'.rows (id+k)=some r'∧r'.ver=r.ver∧r'.size=r.size∧r'.els.length=r.els.length)(hβ:∀id,c''.β id=c'.β (id+k))
  {p:PV} {v:Value} (hp:Pm.wY c p) (h:aM c' (GL k p) v):aM c'' p v:=by
 cases p with
 | own id ver off len =>
  simp only [GL,aM]at h ⊢
  refine⟨by rw [hu];exact hp,fun r uU hv=>?_⟩
  obtain⟨r',h1,h2,h3,h4⟩:=hr id r uU
  have:=h.2 r' h1 (h2.trans hv)
  rw [hβ,←h3,←h4];exact this
 | ptr id ver i j =>
  simp only [GL,aM]at h ⊢
  refine⟨by rw [hu];exact hp,fun r uU hv=>?_⟩
  obtain⟨r',h1,h2,h3,h4⟩:=hr id r uU
  have:=h.2 r' h1 (h2.trans hv)
  rw [hβ,←h3];exact this
 | undef=>trivial
 | _ =>
  simp only [GL,aM]at h ⊢
  rw [hS,hw];exact h
theorem fY.frame{P:Program}{g:FuncId}{args:List PV}{e:TypeId}{n:Nat}{core eI:List PV}{r:PV}(h:fY P g args e n core eI r)(fB:args.all dI=true)(hr:dI r=true)(hc:∀p∈core,bL p=true)(GI:∀p∈eI,bL p=true)
  {w0:World} {S0:eG} {c:Cx} (hI:Inv w0 S0 c) {id ver:Nat} (kV:c.rows id=some ⟨ver,e,n,[core]⟩) {vs:List Value} (C4:bF (aI c) (.ptr id ver 0 0::args) vs) :
  Calls P g vs.toArray c.w fun x w'=>∃v c',x = .returned v∧c'.w=w'∧c'.rows=eC c.rows id (some ⟨ver,e,n,[eI]⟩)∧c'.used=c.used∧(∀p v,aI c p v→aI c' p v)∧Inv w0 S0 c'∧aI c' r v:=by
 obtain⟨N,hN⟩:=hI.fin
 have atC:(shC pR c).rows (id+pR)=some ⟨ver,e,n,[core]⟩:=by
  rw [wW,kV]
  simp [pS,NT hc]
 have j4:ver<N:=hN ver (hI.clock id _ kV)
 obtain⟨_,nE⟩:=h (id+pR) ver (shC pR c).rows N (Nat.le_add_left _ _) atC j4
 have az4:bF (aI (shC pR c)) (.ptr (id+pR) ver 0 0::args) vs:=by
  refine bF.cZ (by simpa using C4.length) fun i a b ha hb=>?_
  cases i with
  | zero =>
   simp at ha
   subst ha
   obtain⟨b',kY,uU⟩:=C4.get (k:=0) (a:=.ptr id ver 0 0) (by simp)
   rw [hb]at kY;cases kY
   exact aI.sh (k:=pR) uU
  | succ i =>
   simp at ha
   obtain⟨b',kY,uU⟩:=C4.get (k:=i+1) (a:=a) (by simpa using ha)
   rw [hb]at kY;cases kY
   have:=aI.sh (k:=pR) uU
   rwa [acP (List.all_eq_true.1 fB a (List.mem_of_getElem? ha))]at this
 refine(nE w0 S0 (shC pR c) vs (fun x=>∃p,aI c p x.2∧x.1=shV pR p) (hI.sh pR) rfl hN az4 ?_).mono ?_
 ·rintro⟨q,v⟩ ⟨p,hp,rfl⟩
  exact hp.sh
 rintro x w' ⟨v,c',r',iM,rfl,rfl,qN,W1,⟨rfl,gL,az5⟩,aak,hv'⟩
 have hrw:∀j,c'.rows (j+pR)=if j=id then some ⟨ver,e,n,[eI]⟩else(c.rows j).map (pS pR):=fun j=>by
  by_cases hj:j=id
  ·subst hj;rw [if_pos rfl];exact gL
  ·rw [if_neg hj,az5 (j+pR) (Nat.le_add_left _ _) (by omega),wW]
 have bU:∀(j:Nat) (r:Row),(eC c.rows id (some ⟨ver,e,n,[eI]⟩)) j=some r → ∃r',c'.rows (j+pR)=some r'∧r'.ver=r.ver∧r'.size=r.size∧r'.els.length=r.els.length:=fun j r hj=>by
  rw [hrw j]
  by_cases GM:j=id
  ·rw [if_pos GM]
   subst GM
   simp only [fX,Option.some.injEq]at hj
   subst hj
   exact⟨_,rfl,rfl,rfl,rfl⟩
  ·rw [if_neg GM]
   rw [jI _ _ GM]at hj
   exact⟨pS pR r,by rw [hj];rfl,rfl,rfl,by simp [pS]⟩
 obtain⟨c2,e1,e2,e3,e4,e5⟩:∃c2:Cx,c2.S=c'.S∧c2.w=c'.w∧c2.β=(fun j=>c'.β (j+pR))∧c2.rows=eC c.rows id (some ⟨ver,e,n,[eI]⟩)∧c2.used=c.used:=⟨⟨c'.S,c'.w,_,_,c.used⟩,rfl,rfl,rfl,rfl,rfl⟩
 have back:∀ {p:PV} {v:Value},wY c p→aM c' (GL pR p) v→aM c2 p v:=fun hp hh=>aM.az3 (c:=c) (c':=c') (k:=pR) e1 e2 e5 (by rw [e4];exact bU) (fun _=>by rw [e3]) hp hh
 refine⟨v,c2,rfl,e2,e4,e5,fun p v hp=>?_,⟨by rw [e2];exact qN.below,by rw [e1];exact qN.ext,by rw [e1,e2];exact qN.new,qN.lt0,fun j r hj=>?_,fun j r hj=>?_,fun i i' r r' g hri atD hg hg'=>?_,by rw [e5];exact hI.fin⟩,?_⟩
 ·have h2:=W1 (shV pR p,v) ⟨p,hp,rfl⟩
  cases p with
  | ag l =>
   obtain⟨vs,h3,h4⟩:=hp
   obtain⟨F5,h5,h6⟩:=h2
   have hvv:vs=F5:=by rw [h3]at h5;simpa using h5
   subst hvv
   refine⟨vs,h3,bF.cZ h4.length fun i a b ha hb=>?_⟩
   obtain⟨b',kY,q1⟩:=h4.get ha
   rw [hb]at kY;cases kY
   obtain⟨b',kY,q2⟩:=h6.get (k:=i) (a:=GL pR a) (by simp [ha])
   rw [hb]at kY;cases kY
   exact back q1.wY q2
  | _=>simp only [aI,shV]at hp h2 ⊢;exact back hp.wY h2
 ·rw [e4]at hj
  rw [e5]
  by_cases GM:j=id
  ·subst GM
   simp only [fX,Option.some.injEq]at hj
   subst hj
   exact(show c.used ver from hI.clock j _ kV)
  ·simp only [jI _ _ GM]at hj
   exact hI.clock j r hj
 ·rw [e4]at hj
  have eβ:c2.β j=c'.β (j+pR):=by rw [e3]
  by_cases GM:j=id
  ·subst GM
   simp only [fX,Option.some.injEq]at hj
   subst hj
   obtain⟨⟨xs,g1,g2,g3⟩,g4,g5,g6⟩:=qN.row (j+pR) _ gL
   refine⟨⟨xs,by rw [e2,eβ];exact g1,?_,g3⟩,g4,by rw [eβ,e1];exact g5,g6⟩
   refine bF.cZ g2.length fun i a b ha hb=>?_
   obtain⟨b',kY,q⟩:=g2.get ha
   rw [hb]at kY;cases kY
   have hm:a∈eI:=by simpa using List.mem_of_getElem? ha
   have hpa:=GI a hm
   refine back (DF hpa) ?_
   rw [DB hpa];exact q
  ·simp only [jI _ _ GM]at hj
   have hj':c'.rows (j+pR)=some (pS pR r):=by rw [hrw j,if_neg GM,hj];rfl
   obtain⟨⟨xs,g1,g2,g3⟩,g4,g5,g6⟩:=qN.row (j+pR) _ hj'
   obtain⟨⟨ys,_,k2,_⟩,_⟩:=hI.row j r hj
   have el:(pS pR r).els.length=r.els.length:=List.length_map ..
   refine⟨⟨xs,by rw [e2,eβ,←el];exact g1,?_,g3⟩,fun e he=>?_,by rw [eβ,e1];exact g5,g6⟩
   ·have g2':bF (aM c') (r.els.flatten.map (GL pR)) xs:=by rw [←DE];exact g2
    refine bF.cZ (by have:=g2'.length;rwa [List.length_map]at this) fun i a b ha hb=>?_
    obtain⟨b',kY,q⟩:=g2'.get (k:=i) (a:=GL pR a) (by rw [List.getElem?_map,ha];rfl)
    rw [hb]at kY;cases kY
    obtain⟨_,_,q2⟩:=k2.get ha
    exact back q2.wY q
   ·have:=g4 (e.map (GL pR)) (by simp only [pS,List.mem_map];exact⟨e,he,rfl⟩)
    rw [List.length_map]at this
    exact this
 ·rw [e4]at hri atD
  rw [e3]at hg hg'
  obtain⟨t,ht,_⟩:=bU i r hri
  obtain⟨t',ht',_⟩:=bU i' r' atD
  have:=qN.apart (i+pR) (i'+pR) t t' g ht ht' hg hg'
  omega
 ·cases r' with
  | ag l =>
   obtain⟨us,h1,h2⟩:=hv'
   refine⟨us,h1,bF.cZ h2.length fun i a b ha hb=>?_⟩
   obtain⟨b',kY,q⟩:=h2.get ha
   rw [hb]at kY;cases kY
   have hpa:bL a=true:=List.all_eq_true.1 hr a (List.mem_of_getElem? ha)
   refine back (DF hpa) ?_
   rw [DB hpa];exact q
  | own=>simp [dI,bL]at hr
  | ptr=>simp [dI,bL]at hr
  | undef=>simp [dI,bL]at hr
  | _=>simp only [aI]at hv' ⊢;exact back trivial hv'
theorem fY.az6{P:Program}{g:FuncId}{args:List PV}{e:TypeId}{n:Nat}{core eI:List PV}{r:PV}(h:fY P g args e n core eI r)(fB:args.all dI=true)(hr:dI r=true)(hc:∀p∈core,bL p=true)(GI:∀p∈eI,bL p=true)
  {id ver:Nat} {rows:Rows} {clk:Nat} (kV:rows id=some ⟨ver,e,n,[core]⟩):NS P g (.ptr id ver 0 0::args) rows clk (fun r' rows' iM=>r'=r∧rows'=eC rows id (some ⟨ver,e,n,[eI]⟩)∧iM=clk):=by
 refine⟨(h pR 0 (fun j=>if j=pR then some ⟨0,e,n,[core]⟩else none) 1 (Nat.le_refl _) (if_pos rfl) (by decide)).1,fun w0 S0 c vs G hI hrw gE C4 hG=>?_⟩
 subst hrw
 refine(h.frame fB hr hc GI hI kV C4).mono ?_
 rintro x w' ⟨v,c',rfl,rfl,h1,h2,h3,h4,h5⟩
 exact⟨v,c',r,clk,rfl,rfl,h4,fun p hp=>h3 _ _ (hG p hp),⟨rfl,h1,rfl⟩,by rw [h2];exact gE,h5⟩
def wZ(E:Env):PV→Bool
 | .fn g []=>E.GG g
 | _=>false
def NU(E:Env)(p:PV)(fE:List PV)(rows:Rows)(v:PV)(u:Option (Nat × Row)):Prop:=
 match p,fE with
 | .fn g [], .ptr id ver i j::rest=>(i=0∧j=0∧rest.all dI=true∧dI v=true) ∧ ∃e n core eI,rows id=some ⟨ver,e,n,[core]⟩∧fY E.P g rest e n core eI v∧(∀p∈core,bL p=true)∧(∀p∈eI,bL p=true)∧u=some (id,⟨ver,e,n,[eI]⟩)
 | _,_=>False
def anz(E:Env):PV→Bool
 | .fn g _=>E.writes g || E.GG g
 | _=>false
def w5(P:Program)(g:FuncId)(fE:List PV)(rows:Rows)(clk:Nat)(K:PV→Rows→Nat→Prop):Prop:=
 ∃R,NS P g fE rows clk R ∧ ∀r rows' iM,R r rows' iM→K r rows' iM
def TF(E:Env)(p:PV)(fE:List PV)(rows:Rows)(clk:Nat)(K:PV→Rows→Nat→Prop):Prop:=
 match p with
 | .fn g []=>w5 E.P g fE rows clk K
 | _=>False
def AH(E:Env)(f:PV)(args:List PV)(v:PV):Prop:=
 match f with
 | .fn g caps=>(args.all dI=true)∧aE E.P g (args++caps) v
 | _=>False
def sG(rows:Rows)(y:PV)(l:List (List PV)):Prop:=
 match y with
 | .nil=>l = []
 | .sl k=>l=k
 | .jA k=>l=k
 | .own id ver off len=>∃r,rows id=some r∧r.ver=ver∧l=(r.els.drop off).take len
 | _=>False
def u7(t:TI)(rows:Rows)(x y v:PV)(u:Option (Nat × Row)):Prop:=
 match t,x with
 | .slice _ n _ _, .own id ver off len=>∃r,rows id=some r∧r.ver=ver∧r.size=n∧off+len≤r.els.length ∧ ∃l,sG rows y l∧(∀e∈l,e.length=n) ∧
   v = .int .i64 (min l.length len)∧u=some (id,{ r with els:=r.els.take off++l.take len++r.els.drop (off+min l.length len) })
 | _,_=>False
def ys(E:Env)(op:Op)(ρ:Operand→PV)(rows:Rows)(v:PV)(u:Option (Nat × Row)):Prop:=
 match op with
 | .call { callee:=.builtin .copy,args:=⟨[x,y]⟩,argTypes:=⟨[t,_]⟩ }=>u7 (E.ty t) rows (ρ x) (ρ y) v u
 | .store t p x=>sF E t rows (ρ p) (ρ x) v u
 | .buildSlice t len parts=>TE (E.ty t) rows len (parts.toList.map fun x=>(x.1,ρ x.2)) v∧u=none
 | .call { callee:=.value f,args:=args,argTypes:=_ }=>if wZ E (ρ f)=true then NU E (ρ f) (args.toList.map fun x=>ρ x) rows v u else u=none∧AH E (ρ f) (args.toList.map fun x=>pz rows (ρ x)) v∧(args.toList.flatMap fun x=>eB (ρ x)) = []
 | op=>yv E op ρ rows v∧u=none
def eS(rows:Rows):Option (Nat × Row)→Rows
 | none=>rows
 | some (id,r)=>eC rows id (some r)
section
variable {E:Env} {c:Cx} {w0:World} {S0:eG}
theorem TG(hI:Inv w0 S0 c){t:TypeId}{p x v:PV}{u:Option (Nat × Row)}{vp vx:Value}(hp:aI c p vp)(hx:aI c x vx)(h:sF E t c.rows p x v u) :
  v = .undef ∧ ∃w',(Instr.storeAt t vp vx).run E.P c.w = .ok () w'∧Inv w0 S0 { c with w:=w',rows:=eS c.rows u }∧uT c { c with w:=w',rows:=eS c.rows u }:=by
 obtain⟨hk,rfl,h⟩:=h
 refine⟨rfl,?_⟩
 split at h
 ·rename_i id ver i j
  obtain⟨r,hr,j4,el,nS,l,hl,jR,hlen,hjl,rfl⟩:=h
  simp only [aI,aM]at hp
  obtain⟨g,n,cap,hβ,rfl⟩:=hp.2 r hr j4
  obtain⟨⟨xs,jQ,fU,akZ⟩,C9,hnS,l5⟩:=hI.row id r hr
  obtain⟨u9,hc2⟩:=nZ hx hl jR
  have NQ:vx.cells.toList.length=l.length:=u9.length.symm
  have atE:=jQ
  rw [hβ]at jQ
  rcases jQ.2 with ⟨h',_⟩ | ⟨g',j3,cur,h',hge,hg,S8,hcm,GK,NV⟩
  ·simp at h'
  ·simp only [Value.slice.injEq,Option.some.injEq,Addr.mk.injEq,and_true]at h'
   obtain⟨rfl,rfl,rfl⟩:=h'
   have hi:i<r.els.length:=(List.getElem?_eq_some_iff.1 nS).1
   have acQ:el.length=r.size:=C9 el (List.mem_of_getElem? nS)
   have hmul:i*r.size+r.size≤r.els.length*r.size:=by rw [←Nat.succ_mul];exact Nat.mul_le_mul_right _ hi
   have aDA:r.els.length*r.size≤cap*r.size:=Nat.mul_le_mul_right _ S8
   have anA:i*r.size+j+l.length≤r.els.length*r.size:=by omega
   have iR:=run_storeCells_at E.P g (i*r.size+j) r.e vx.cells.toList 0 cur c.w hg (by rw [NQ];omega) hc2
   obtain⟨inf,_,hi1,_,hi2,_,_⟩:=((E.ok t).zero hk).ok
   have jJ:(Instr.storeAt t (.pointer (some ⟨g,i*r.size+j,none⟩)) vx).run E.P c.w = .ok () (c.w.setRow g (cur.toList.take (i*r.size+j)++vx.cells.toList++cur.toList.drop (i*r.size+j+l.length)).toArray):=by
    have pP:vx.cells.size=inf.size:=by rw [hi2,←hlen,←NQ];simp
    simp only [Instr.storeAt,Instr.sureAddr,Sem.run_bind,Sem.run_pure,Result.andThen_ok,storeVar,dD hi1,pP]
    simp only [Nat.add_zero,NQ]at iR
    simpa using iR
   refine⟨_,jJ,?_⟩
   have acR:(c.w.setRow g (cur.toList.take (i*r.size+j)++vx.cells.toList++cur.toList.drop (i*r.size+j+l.length)).toArray).ownsRow w0.heap.size r.e r.size (c.β id) (r.els.set i (el.take j++l++el.drop (j+l.length))).length
     (xs.take (i*r.size+j)++vx.cells.toList++xs.drop (i*r.size+j+l.length)):=by
    rw [hβ,List.length_set]
    refine⟨?_, .inr ⟨g,cap,_,rfl,hge,setRow_heap _ g cur _ r.e _ hg,S8,hcm,?_,?_⟩⟩
    ·have:=jQ.1
     simp [NQ];omega
    ·simp [NQ];omega
    ·rw [←NV]
     have az7:cur.toList.length=cap*r.size:=by simp [GK]
     simp only
     rw [List.take_append,List.take_append]
     have e1:List.take (r.els.length*r.size) (cur.toList.take (i*r.size+j))=cur.toList.take (i*r.size+j):=by
      rw [List.take_take,Nat.min_eq_right (by omega)]
     have e2:List.take (i*r.size+j) (cur.toList.take (r.els.length*r.size))=cur.toList.take (i*r.size+j):=by
      rw [List.take_take,Nat.min_eq_left (by omega)]
     rw [e1,e2]
     have e3:(cur.toList.take (i*r.size+j)).length=i*r.size+j:=by rw [List.length_take];omega
     rw [e3]
     have e4:List.take (r.els.length*r.size-(i*r.size+j)) vx.cells.toList=vx.cells.toList:=List.take_of_length_le (by rw [NQ];omega)
     rw [e4]
     congr 1
     rw [List.length_append,e3,NQ,List.drop_take]
   have DG:bF (aM c) (r.els.set i (el.take j++l++el.drop (j+l.length))).flatten (xs.take (i*r.size+j)++vx.cells.toList++xs.drop (i*r.size+j+l.length)):=by
    rw [AG C9 nS j l hjl]
    exact((fU.take _).append u9).append (fU.drop _)
   have pT:c.w.grownBy (c.w.setRow g (cur.toList.take (i*r.size+j)++vx.cells.toList++cur.toList.drop (i*r.size+j+l.length)).toArray) (c.β id).ownBlock:=by
    rw [hβ]
    exact⟨rfl,rfl,rfl,by simp,fun k _ hk=>setRow_other _ g k _ (fun e=>hk (by simp [Value.ownBlock,e]))⟩
   exact hI.eC (r':={ r with els:=r.els.set i (el.take j++l++el.drop (j+l.length)) }) hr pT acR DG (by
    intro y hy
    simp only [List.mem_append]at hy
    rcases hy with (hy | hy) | hy
    ·exact akZ y (List.mem_of_mem_take hy)
    ·exact hc2 y hy
    ·exact akZ y (List.mem_of_mem_drop hy)) (by
    intro e he
    rcases List.mem_or_eq_of_mem_set he with he | rfl
    ·exact C9 e he
    ·simp;omega) rfl rfl (by simp)
 ·exact h.elim
end
section
variable {E:Env} {c:Cx} {w0:World} {S0:eG}
theorem DH{n:Nat}:∀(vs:List (Nat × Value)) (k:Nat) (cells:Array Value),(∀j x,vs[j]? = some x→x.1=k+j∧x.2.cells.size=n)→cells.size=(k+vs.length)*n →
  ∃c7,Instr.fill (fun i=>some (i*n,n)) cells vs=some c7∧c7.toList=cells.toList.take (k*n)++vs.flatMap fun x=>x.2.cells.toList
 | [],k,cells,_,hs=>⟨cells,rfl,by simp at hs;rw [List.take_of_length_le (by simp [hs])];simp⟩
 | (i,v)::vs,k,cells,h,hs=>by
  obtain⟨h1,h2⟩:=h 0 (i,v) (by simp)
  simp only [Nat.add_zero]at h1 h2
  subst h1
  have anA:i*n+n≤cells.size:=by
   rw [hs,List.length_cons,←Nat.succ_mul]
   exact Nat.mul_le_mul_right _ (by omega)
  have hz3:v.cells.toList.zipIdx=v.cells.zipIdx.toList:=by simp
  have HH:=qL (i*n) v.cells.toList 0 cells (by simp [h2];omega)
  have pP:(List.foldl (fun cs (x:Value × Nat)=>cs.setIfInBounds (i*n+x.2) x.1) cells v.cells.toList.zipIdx).size=cells.size:=by
   have:=congrArg List.length HH
   simp only [Array.length_toList]at this
   rw [this]
   simp [h2]
   omega
  obtain⟨c7,g1,g2⟩:=DH vs (i+1) (List.foldl (fun cs (x:Value × Nat)=>cs.setIfInBounds (i*n+x.2) x.1) cells v.cells.toList.zipIdx)
   (fun j x hx=>by have:=h (j+1) x (by simpa using hx);exact⟨by omega,this.2⟩) (by rw [pP,hs,List.length_cons];congr 1;omega)
  refine⟨c7,?_,?_⟩
  ·simp only [Instr.fill]
   rw [if_neg (by simp [h2];omega),←g1,hz3,Array.foldl_toList]
  ·rw [g2,HH]
   have e1:(cells.toList.take (i*n+0)).length=i*n:=by rw [List.length_take];simp;omega
   have e2:v.cells.toList.length=n:=by simp [h2]
   rw [show(i+1)*n=i*n+n by rw [Nat.add_mul];omega]
   rw [List.take_append,List.length_append,e1,e2,Nat.sub_self,List.take_zero,List.append_nil,List.take_of_length_le (by rw [List.length_append,e1,e2];exact Nat.le_refl _)]
   simp [List.append_assoc]
theorem pH{n:Nat}:∀ {ps:List (Nat × PV)} {k:Nat} {els:List (List PV)},iU n k ps=some els→els.length=ps.length∧(∀e∈els,e.length=n) ∧ ∀j x,ps[j]? = some x→x.1=k+j ∧ ∃e,els[j]? = some e∧cQ x.2=some e
 | [],k,els,h=>by simp [iU]at h;subst h;simp
 | (i,p)::ps,k,els,h=>by
  simp only [iU]at h
  split at h
  ·rename_i l hl
   split at h
   ·rename_i C8
    rw [Option.map_eq_some_iff]at h
    obtain⟨BQ,h1,rfl⟩:=h
    obtain⟨g1,g2,g3⟩:=pH h1
    refine⟨by simp [g1],fun e he=>?_,fun j x hx=>?_⟩
    ·simp at he
     rcases he with rfl | he
     ·exact C8.2
     ·exact g2 e he
    ·match j with
     | 0=>simp at hx;subst hx;exact⟨by simpa using C8.1,l,by simp,hl⟩
     | j+1 =>
      obtain⟨q1,q2⟩:=g3 j x (by simpa using hx)
      exact⟨by omega,by simpa using q2⟩
   ·cases h
  ·cases h
theorem Inv.az8(hI:Inv w0 S0 c)(o:Obj):Inv w0 S0 { c with w:=c.w.alloc o,S:=fun b k=>c.S b k∨b=c.w.heap.size }∧uT c { c with w:=c.w.alloc o,S:=fun b k=>c.S b k∨b=c.w.heap.size }:=by
 have:=hI.grow (w':=c.w.alloc o) (S':=fun b k=>c.S b k∨b=c.w.heap.size) ((Below.refl _ _).alloc (Nat.le_refl _) o) (fun _ _ h => .inl h) (fun b k h=>h.imp (fun h=>h) fun h=>by subst h;simp)
 exact this
theorem acS{p:PV}{v:Value}(hI:Inv w0 S0 c)(h:aM c p v)(vL:aU p = [])(y7:bL (fz c.rows p)=true):dK c.S c.w (fz c.rows p) v:=by
 have:=JV hI (ids:=[]) (by simp) h (by simp [vL]) y7
 exact dK.mono (fun b o h=>by rcases h with h | ⟨id,gL,_⟩;exact h;cases gL) (fun _ _ _=>rfl) _ _ this
theorem DI(hI:Inv w0 S0 c){t e:TypeId}{n bb len:Nat}{z:List PV}(hE:E.ty t = .slice e n bb z){parts:Array (Nat × Operand)}{ρ:Operand→PV}{vρ:Operand→Value}(hρ:∀x,aI c (ρ x) (vρ x))
  {els:List (List PV)} (C9:iU n 0 (parts.toList.map fun x=>(x.1,ρ x.2))=some els) (hlen:len=els.length) (hsm:len≤4096) (hn:n≤4096)
  (y7:∀e∈els,∀p∈e,bL (fz c.rows p)=true∧iT c.rows p) (vL:∀e∈els,∀p∈e,aU p = []) :
  ∃v' c',(Instr.buildSlice t len (parts.map fun(i,x)=>(i,vρ x))).run E.P c.w = .ok v' c'.w∧c'.rows=c.rows∧c'.used=c.used∧Inv w0 S0 c'∧uT c c'∧aI c' (.jA (els.map fun e=>e.map (fz c.rows))) v':=by
 obtain⟨hu,hnp,JX,i,zv,hi,hz,hs,_,TB,_⟩:=gI hE
 obtain⟨g1,g2,g3⟩:=pH C9
 have W2:parts.size=els.length:=by rw [g1];simp
 have az9:zv.cells.size=n:=by rw [←JX,←TB];simp
 have HM:∀j (x:Nat × Value),((parts.map fun(i,x)=>(i,vρ x)).toList)[j]? = some x→x.1=0+j ∧ ∃e,els[j]? = some e∧bF (aM c) e x.2.cells.toList ∧ ∀u∈x.2.cells.toList,u.oneCell'=true:=by
  intro j x hx
  simp at hx
  obtain⟨a,b,fQ,rfl⟩:=hx
  obtain⟨q1,e,q2,q3⟩:=g3 j (a,ρ b) (by simp;exact⟨a,b,fQ,rfl,rfl⟩)
  have q4:=nZ (hρ b) q3 (fun q hq=>(y7 e (List.mem_of_getElem? q2) q hq).2)
  exact⟨q1,e,q2,q4.1,q4.2⟩
 obtain⟨c7,f1,f2⟩:=DH (n:=n) (parts.map fun(i,x)=>(i,vρ x)).toList 0 ((Array.range (len*n)).map (zv.cells[· % zv.cells.size]!)) (fun j x hx=>by
  obtain⟨q1,e,q2,q3,_⟩:=HM j x hx
  refine⟨q1,?_⟩
  have:=q3.length
  rw [g2 e (List.mem_of_getElem? q2)]at this
  simpa using this.symm) (by simp [W2,hlen])
 simp only [Nat.zero_mul,List.take_zero,List.nil_append]at f2
 have jJ:(Instr.buildSlice t len (parts.map fun(i,x)=>(i,vρ x))).run E.P c.w = .ok (.slice (some ⟨c.w.heap.size,0,none⟩) len len) (c.w.alloc (.cells c7 e)):=by
  have hbound:¬(16777216<len*n):=by
   have:len*n≤4096*4096:=Nat.mul_le_mul hsm hn
   omega
  by_cases h0:len*n=0
  ·have AJ:len=0:=by
    rcases Nat.mul_eq_zero.1 h0 with h | h
    ·exact h
    ·omega
   have hp0:parts = #[]:=Array.eq_empty_of_size_eq_zero (by omega)
   subst hp0
   subst AJ
   simp [Instr.fill]at f1
   subst f1
   have HN:Array.range 0 = #[]:=rfl
   simp [Instr.buildSlice,run_underlying hu,dD hi,newRow,Instr.fill,HN]
  ·have f1':Instr.fill (fun i=>some (i*n,n)) ((Array.range (len*n)).map (zv.cells[· % zv.cells.size]!)) (parts.toList.map fun x=>(x.1,vρ x.2))=some c7:=by simpa using f1
   simp only [Instr.buildSlice,Sem.run_bind,run_underlying hu,Result.andThen_ok,dD hi,hs]
   simp [h0,hbound,newRow,zeroValue,typeInfo,hi,hz,f1']
 obtain⟨qN,hA⟩:=hI.az8 (.cells c7 e)
 refine⟨_,{ c with w:=c.w.alloc (.cells c7 e),S:=fun b k=>c.S b k∨b=c.w.heap.size },jJ,rfl,rfl,qN,hA,?_⟩
 simp only [aI,aM,dK]
 refine⟨some ⟨c.w.heap.size,0,none⟩,by rw [List.length_map,hlen],by rw [List.length_map,←hlen];simp [maxLen];omega, .inr ⟨_,_,rfl,?_⟩⟩
 refine pQ (n:=n) (by
  intro e' r5
  simp at r5
  obtain⟨e1,NW,rfl⟩:=r5
  simpa using g2 e1 NW) fun k el hk=>?_
 simp at hk
 obtain⟨e1,NW,rfl⟩:=hk
 refine kF fun j p hj=>?_
 simp at hj
 obtain⟨q,hq,rfl⟩:=hj
 have hkl:k<els.length:=(List.getElem?_eq_some_iff.1 NW).1
 obtain⟨x,hx⟩:∃x,((parts.map fun(i,x)=>(i,vρ x)).toList)[k]? = some x:=⟨_,List.getElem?_eq_getElem (by simp;omega)⟩
 obtain⟨_,e2,q2,q3,q4⟩:=HM k x hx
 rw [NW]at q2;cases q2
 obtain⟨u,hu1,hu2⟩:=q3.get hq
 have atG:c7.toList[k*n+j]? = some u:=by
  have e3:c7.toList=((parts.map fun(i,x)=>(i,vρ x)).toList.map fun x=>x.2.cells.toList).flatten:=by rw [f2,List.flatMap_def]
  rw [e3]
  refine kG (n:=n) (fun e he=>?_) (i:=k) (e:=x.2.cells.toList) (by rw [List.getElem?_map,hx];rfl) hu1
  simp only [List.mem_map]at he
  obtain⟨y,hy,rfl⟩:=he
  obtain⟨k',yS⟩:=List.getElem?_of_mem hy
  obtain⟨_,e4,q5,q6,_⟩:=HM k' y yS
  rw [←q6.length];exact g2 e4 (List.mem_of_getElem? q5)
 refine⟨u,?_, .inr rfl,q4 u (List.mem_of_getElem? hu1),?_⟩
 ·have:=heap_alloc_new c.w (.cells c7 e)
  rw [cell_of_row _ _ _ _ _ _ this]
  simpa using atG
 ·exact dK.mono hA.S hA.w _ _ (acS hI hu2 (vL e1 (List.mem_of_getElem? NW) q (List.mem_of_getElem? hq)) (y7 e1 (List.mem_of_getElem? NW) q (List.mem_of_getElem? hq)).1)
end
section
variable {E:Env} {c:Cx} {w0:World} {S0:eG}
theorem k8{P:Program}{g:FuncId}{fn:Func}{b:Code}(h1:P.funcs[g]? = some fn)(h2:fn.body=some b) (h3:(fn.name == "runtime.NumGoroutine") = false) (args:Array Value) (w:World) :
  (callFunc g args).run P w = .ok (.enter g args) w:=by
 simp only [callFunc,Sem.run_bind,program,Sem.run,Result.andThen_ok,h1,h2,h3]
 simp
theorem AK(hI:Inv w0 S0 c){ids:List Nat}(hp:∀id∈ids,∀r,c.rows id=some r → ∀e∈r.els,∀p∈e,bL p=true){pf:PV}{vf:Value}{W3:List PV}{AL:List Value}
  (hf:aI c pf vf) (fB:bF (aI c) W3 AL) (vL:∀p∈W3,∀id∈eB p,id∈ids) {v:PV} (h:AH E pf (W3.map (pz c.rows)) v) {K:Value→World→Prop}
  (hK:∀v' c',c'.rows=HL c.rows ids→c'.used=c.used→uT c c'→Inv w0 S0 c'→aI c' v v'→K v' c'.w) :
  ∃g cs,vf = .func (.func g) #[] cs∧(callFunc g (AL.toArray++cs)).run E.P c.w = .ok (.enter g (AL.toArray++cs)) c.w ∧
   Calls E.P g (AL.toArray++cs) c.w fun e w'=>∃v',e = .returned v'∧K v' w':=by
 unfold AH at h
 split at h
 ·rename_i g caps
  obtain⟨vA,⟨fn,b,h1,h2,h3⟩,TH⟩:=h
  simp only [aI,aM,dK]at hf
  obtain⟨cs,rfl,GK⟩:=hf
  refine⟨g,cs.toArray,rfl,k8 h1 h2 h3 _ _,?_⟩
  have M8:=hI.freeze ids
  have dC:∀b o,TD c ids b o→b<c.w.heap.size:=fun b o hb=>M8.lt (c:=F6 c ids) hb
  have fU:bP (TD c ids) c.w (W3.map (pz c.rows)++caps) (AL++cs):=by
   refine cS.2 (bF.append (bF.cZ (by simp [fB.length]) fun k p u yT hu=>?_) ?_)
   ·simp at yT
    obtain⟨q,hq,rfl⟩:=yT
    obtain⟨u',g1,g2⟩:=fB.get hq
    rw [hu]at g1;cases g1
    exact JW hI hp g2 (vL q (List.mem_of_getElem? hq)) (List.all_eq_true.1 vA _ (by simp;exact⟨q,List.mem_of_getElem? hq,rfl⟩))
   ·exact(cS.1 GK).mono fun a b fQ=>dK.mono (fun _ _ h => .inl h) (fun _ _ _=>rfl) a b fQ
  have:=TH c.w (TD c ids) (AL++cs) dC fU
  rw [show(AL++cs).toArray=AL.toArray++cs.toArray by simp]at this
  refine this.mono ?_
  rintro e w' ⟨v',rfl,hb,S',g1,g2,g3⟩
  refine⟨v',rfl,?_⟩
  obtain⟨hI2,hA2⟩:=M8.grow (c:=F6 c ids) hb g1 g2
  have hA:uT c { F6 c ids with S:=S',w:=w' }:=by
   have hA1:=nK c ids
   exact⟨fun b o h=>g1 b o (hA1.S b o h),fun b o h=>(hA2.w b o (hA1.S b o h)).trans (hA1.w b o h),fun _ h=>h,hA1.rows⟩
  exact hK v' { F6 c ids with S:=S',w:=w' } rfl rfl hA hI2 (aI.j0 g3)
 ·exact h.elim
structure pU(w0:World)(S0:eG)(n:Nat)(G:Gs)(U:Nat→Prop)(f:Nat→PV)(rows:Rows)(a:Act)(w:World):Prop where
 ex:∃c:Cx,c.w=w∧c.rows=rows∧(∀v,c.used v→U v)∧Inv w0 S0 c∧(∀s,aI c (f s) (a.tmps.getD s undef)) ∧ ∀p∈G,aI c p.1 p.2
 size:a.tmps.size=n
 defers:a.defers = []
abbrev Rel(w0:World)(S0:eG)(n:Nat)(G:Gs)(σ:PS)(a:Act)(w:World):Prop:=pU w0 S0 n G (fun v=>v<σ.clock) σ.f σ.rows a w
theorem pU.mono{w0:World}{S0:eG}{n:Nat}{G:Gs}{U U':Nat→Prop}{f:Nat→PV}{rows:Rows}{a:Act}{w:World}(hU:∀v,U v→U' v)(h:pU w0 S0 n G U f rows a w):pU w0 S0 n G U' f rows a w:=by
 obtain⟨⟨c,h1,h2,h3,h4⟩,h5,h6⟩:=h
 exact⟨⟨c,h1,h2,fun v hv=>hU v (h3 v hv),h4⟩,h5,h6⟩
theorem aam{n:Nat}{G:Gs}{U:Nat→Prop}{f:Nat→PV}{a:Act}{c':Cx}{v:PV}{v':Value}{d:Option Tmp}(hf:∀s,aI c (f s) (a.tmps.getD s undef))(hG:∀p∈G,aI c p.1 p.2)(hn:a.tmps.size=n)(fR:a.defers = [])
  (hA:∀p v,aI c p v→aI c' p v) (hI:Inv w0 S0 c') (hv:aI c' v v') (hd:∀t,d=some t→t<n) {f':Nat→PV} {rows:Rows} (h1:f'=put f d v) (h2:rows=c'.rows) (h3:∀v,c'.used v→U v):pU w0 S0 n G U f' rows (a.put d v') c'.w:=by
 refine⟨⟨c',rfl,h2.symm,h3,hI,fun s=>?_,fun p hp=>hA _ _ (hG p hp)⟩,?_,?_⟩
 ·rw [h1]
  cases d with
  | none=>exact hA _ _ (hf s)
  | some t =>
   simp only [put,Act.put]
   by_cases hs:s=t
   ·subst hs
    have:s<a.tmps.size:=by rw [hn];exact hd s rfl
    simpa [this]using hv
   ·rw [if_neg hs]
    have:=hA _ _ (hf s)
    simpa [Array.getElem?_setIfInBounds_ne (Ne.symm hs)]using this
 ·cases d<;>simp [Act.put,hn]
 ·cases d<;>simp [Act.put,fR]
theorem sH{n:Nat}{G:Gs}{U:Nat→Prop}{f:Nat→PV}{a:Act}{c':Cx}{v:PV}{v':Value}{d:Option Tmp}(hf:∀s,aI c (f s) (a.tmps.getD s undef))(hG:∀p∈G,aI c p.1 p.2)(hn:a.tmps.size=n)(fR:a.defers = [])
  (hA:uT c c') (hI:Inv w0 S0 c') (hv:aI c' v v') (hd:∀t,d=some t→t<n) {f':Nat→PV} {rows:Rows} (h1:f'=put f d v) (h2:rows=c'.rows) (h3:∀v,c'.used v→U v):pU w0 S0 n G U f' rows (a.put d v') c'.w:=by
 refine⟨⟨c',rfl,h2.symm,h3,hI,fun s=>?_,fun p hp=>aI.uZ hA _ _ (hG p hp)⟩,?_,?_⟩
 ·rw [h1]
  cases d with
  | none=>exact aI.uZ hA _ _ (hf s)
  | some t =>
   simp only [put,Act.put]
   by_cases hs:s=t
   ·subst hs
    have:s<a.tmps.size:=by rw [hn];exact hd s rfl
    simpa [this]using hv
   ·rw [if_neg hs]
    have:=aI.uZ hA _ _ (hf s)
    simpa [Array.getElem?_setIfInBounds_ne (Ne.symm hs)]using this
 ·cases d<;>simp [Act.put,hn]
 ·cases d<;>simp [Act.put,fR]
theorem tR{n:Nat}{G:Gs}{f:Nat→PV}{a:Act}{c':Cx}{v:PV}{v':Value}{d:Option Tmp}(hf:∀s,aI c (f s) (a.tmps.getD s undef))(hG:∀p∈G,aI c p.1 p.2)(hn:a.tmps.size=n)(fR:a.defers = [])
  (hA:uT c c') (hI:Inv w0 S0 c') (hv:aI c' v v') (hd:∀t,d=some t→t<n) {σ:PS} (h1:σ.f=put f d v) (h2:σ.rows=c'.rows) (h3:∀v,c'.used v→v<σ.clock):Rel w0 S0 n G σ (a.put d v') c'.w:=
 sH hf hG hn fR hA hI hv hd h1 h2 h3
theorem NX{n:Nat}{G:Gs}{f:Nat→PV}{a:Act}{c':Cx}{v:PV}{v':Value}{d:Option Tmp}(hf:∀s,aI c' (f s) (a.tmps.getD s undef))(hG:∀p∈G,aI c' p.1 p.2)(hn:a.tmps.size=n)(fR:a.defers = [])
  (hI:Inv w0 S0 c') (hv:aI c' v v') (hd:∀t,d=some t→t<n) {σ:PS} (h1:σ.f=put f d v) (h2:σ.rows=c'.rows) (h3:∀v,c'.used v→v<σ.clock):Rel w0 S0 n G σ (a.put d v') c'.w:=
 tR hf hG hn fR (uT.refl c') hI hv hd h1 h2 h3
theorem pV{α:Type}{n:Nat}:∀ {l:List (List α)},(∀e∈l,e.length=n) → ∀k,(l.take k).flatten=l.flatten.take (k*n)∧(l.drop k).flatten=l.flatten.drop (k*n)
 | [],_,k=>by simp
 | e::l,_,0=>by simp
 | e::l,h,k+1=>by
  have he:=h e (by simp)
  have ih:=pV (l:=l) (fun e' r5=>h e' (List.mem_cons_of_mem _ r5)) k
  have h1:(k+1)*n=e.length+k*n:=by rw [he,Nat.add_mul];omega
  simp only [List.take_succ_cons,List.drop_succ_cons,List.flatten_cons,h1,List.take_length_add_append,List.drop_length_add_append,ih.1,ih.2,and_self]
theorem vM(hI:Inv w0 S0 c){y:PV}{vy:Value}{l:List (List PV)}{n:Nat}(hy:aI c y vy)(h:sG c.rows y l)(hn:∀e∈l,e.length=n) :
  ∃A cap news,vy = .slice A l.length cap∧news.length=l.length*n∧bF (aM c) l.flatten news∧(∀u∈news,u.oneCell'=true)∧(A=none→l = []) ∧
   ∀a,A=some a → ∀j u,news[j]? = some u→c.w.cell? (a.add j)=some u:=by
 have fl:∀ {l:List (List PV)},(∀e∈l,e.length=n)→l.flatten.length=l.length*n:=by
  intro l
  induction l with
  | nil=>intro _;simp
  | cons e l ih=>intro h;rw [List.flatten_cons,List.length_append,ih (fun e he=>h e (by simp [he])),h e (by simp),List.length_cons,Nat.add_mul];omega
 have at_:∀(g o cap:Nat),vy = .slice (some ⟨g,o,none⟩) l.length cap →
   (∀k e,l[k]? = some e → ∀j p,e[j]? = some p → ∃v,c.w.cell? ⟨g,o+(k*n+j),none⟩=some v∧v.oneCell'=true∧aM c p v) → ∃A cap news,vy = .slice A l.length cap∧news.length=l.length*n∧bF (aM c) l.flatten news∧(∀u∈news,u.oneCell'=true)∧(A=none→l = []) ∧
   ∀a,A=some a → ∀j u,news[j]? = some u→c.w.cell? (a.add j)=some u:=by
  intro g o cap hv hc
  have cellAt:∀k,k<l.length*n → ∃p v,l.flatten[k]? = some p∧c.w.cell? ⟨g,o+k,none⟩=some v∧v.oneCell'=true∧aM c p v:=by
   intro k hk
   have hn0:0<n:=by
    rcases Nat.eq_zero_or_pos n with h | h
    ·subst h;simp at hk
    ·exact h
   have hq:k/n<l.length:=(Nat.div_lt_iff_lt_mul hn0).2 hk
   have he:=hn l[k/n] (List.getElem_mem hq)
   have hj:k%n<l[k/n].length:=by rw [he];exact Nat.mod_lt _ hn0
   have W4:k/n*n+k%n=k:=by rw [Nat.mul_comm];exact Nat.div_add_mod k n
   obtain⟨v,h1,h2,h3⟩:=hc (k/n) _ (List.getElem?_eq_getElem hq) (k%n) _ (List.getElem?_eq_getElem hj)
   rw [W4]at h1
   have:=kG hn (List.getElem?_eq_getElem hq) (List.getElem?_eq_getElem hj)
   rw [W4]at this
   exact⟨_,v,this,h1,h2,h3⟩
  have hnl:((List.range (l.length*n)).map fun k=>(c.w.cell? ⟨g,o+k,none⟩).getD undef).length=l.length*n:=by simp
  have acI:∀k u,((List.range (l.length*n)).map fun k=>(c.w.cell? ⟨g,o+k,none⟩).getD undef)[k]? = some u→k<l.length*n ∧ ∃p,l.flatten[k]? = some p∧c.w.cell? ⟨g,o+k,none⟩=some u∧u.oneCell'=true∧aM c p u:=by
   intro k u hu
   have hk:k<l.length*n:=by rw [←hnl];exact(List.getElem?_eq_some_iff.1 hu).1
   obtain⟨p,v,h1,h2,h3,h4⟩:=cellAt k hk
   rw [List.getElem?_map,List.getElem?_range hk]at hu
   simp only [Option.map_some,h2,Option.getD_some,Option.some.injEq]at hu
   subst hu
   exact⟨hk,p,h1,h2,h3,h4⟩
  refine⟨some ⟨g,o,none⟩,cap,_,hv,hnl,bF.cZ (by rw [hnl,fl hn]) fun k p u hp hu=>?_,fun u hu=>?_,by simp,fun a ha j u hu=>?_⟩
  ·obtain⟨_,p',h1,_,_,h4⟩:=acI k u hu
   rw [hp]at h1;cases h1;exact h4
  ·obtain⟨k,hk⟩:=List.getElem?_of_mem hu
   exact(acI k u hk).2.choose_spec.2.2.1
  ·cases ha
   rw [jP]
   exact(acI j u hu).2.choose_spec.2.1
 have empty:∀A cap,vy = .slice A l.length cap→l = [] → ∃A cap news,vy = .slice A l.length cap∧news.length=l.length*n∧bF (aM c) l.flatten news∧(∀u∈news,u.oneCell'=true)∧(A=none→l = []) ∧
   ∀a,A=some a → ∀j u,news[j]? = some u→c.w.cell? (a.add j)=some u:=by
  rintro A cap hv rfl
  exact⟨A,cap,[],hv,by simp,trivial,by simp,by simp,by simp⟩
 unfold sG at h
 split at h
 ·subst h
  simp only [aI,aM,dK]at hy
  exact empty none 0 (by rw [hy];rfl) rfl
 ·subst h
  simp only [aI,aM,dK]at hy
  obtain⟨A,cap,rfl,_,_,hh⟩:=hy
  rcases hh with hh | ⟨g,o,rfl,hr⟩
  ·exact empty A cap rfl hh
  ·refine at_ g o cap rfl fun k e hk j p hj=>?_
   obtain⟨v,h1,_,h3,h4⟩:=jB (j2 hr hn hk) hj
   exact⟨v,by rw [←Nat.add_assoc];exact h1,h3,aM.j0 h4⟩
 ·subst h
  simp only [aI,aM,dK]at hy
  obtain⟨A,rfl,_,hh⟩:=hy
  rcases hh with hh | ⟨g,o,rfl,hr⟩
  ·exact empty A _ rfl hh
  ·refine at_ g o _ rfl fun k e hk j p hj=>?_
   obtain⟨v,h1,_,h3,h4⟩:=jB (j2 hr hn hk) hj
   exact⟨v,by rw [←Nat.add_assoc];exact h1,h3,aM.j0 h4⟩
 ·rename_i id ver off len
  obtain⟨r,hr,j4,rfl⟩:=h
  simp only [aI,aM]at hy
  obtain⟨hle,hy⟩:=hy.2 r hr j4
  have F7:((r.els.drop off).take len).length=len:=by simp;omega
  rw [←F7]at hy
  have pP:∀k e,((r.els.drop off).take len)[k]? = some e→r.els[off+k]? = some e∧r.size=n:=by
   intro k e hk
   have yS:=hk
   rw [List.getElem?_take]at hk
   split at hk
   ·rw [List.getElem?_drop]at hk
    refine⟨hk,?_⟩
    rw [←hn e (List.mem_of_getElem? yS)]
    exact((hI.row id r hr).len e (List.mem_of_getElem? hk)).symm
   ·cases hk
  rcases hy with ⟨h0,A,m,cap,hβ,rfl⟩ | ⟨l5,g,m,cap,A,hβ,hoc,rfl,ha⟩
  ·subst h0
   rcases Nat.eq_zero_or_pos len with h0 | h0
   ·exact empty A cap rfl (List.eq_nil_of_length_eq_zero (by rw [F7];exact h0))
   ·obtain⟨g,j3,sE⟩:=sC hI hr (by omega)
    rw [hβ]at sE
    simp only [Value.slice.injEq]at sE
    obtain⟨rfl,rfl,rfl⟩:=sE
    refine at_ g 0 _ rfl fun k e hk j p hj=>?_
    obtain⟨hk2,hs⟩:=pP k e hk
    have:=wU hI hr hβ hk2 hj
    rw [hs]at this
    simpa using this
  ·rcases ha with ha | rfl
   ·exact empty _ _ rfl (List.eq_nil_of_length_eq_zero ha)
   ·refine at_ g _ _ rfl fun k e hk j p hj=>?_
    obtain⟨hk2,hs⟩:=pP k e hk
    have:=wU hI hr hβ hk2 hj
    rw [hs]at this ⊢
    rw [show off*n+(k*n+j)=(off+k)*n+j by rw [Nat.add_mul];omega];exact this
 ·exact h.elim
end
section
variable {E:Env} {c:Cx} {w0:World} {S0:eG}
theorem JY{P:Program}(w:World)(dT sT ty elem:TypeId)(sz g o anB anC:Nat)(A:Option Addr)(TJ anD:Nat)(cur:Array Value)(t:TypeId)(cs:List Value)
  (hu:P.underlying dT=some (.slice elem)) (hs:(P.info? elem).map (·.size)=some sz)
  (hg:w.heap[g]? = some (.cells cur t (0,0))) (hn:cs.length=Nat.min TJ anB*sz)
  (aAb:∀a,A=some a → ∀j v,cs[j]? = some v→w.cell? (a.add j)=some v) (hA:A=none→cs = []) (anA:o+cs.length≤cur.size) (h1:∀v∈cs,v.oneCell'=true) :
  (Builtin.copy_ #[dT,sT] ty #[.slice (some ⟨g,o,none⟩) anB anC, .slice A TJ anD]).run P w =
   .ok (goInt (Nat.min TJ anB:Nat)) (w.setRow g (cur.toList.take o++cs++cur.toList.drop (o+cs.length)).toArray):=by
 cases hq:P.info? elem with
 | none=>simp [hq]at hs
 | some i =>
  have hi:i.size=sz:=by simpa [hq]using hs
  cases A with
  | some a =>
   have hl:=run_loadCells_list (P:=P) w a cs (aAb a rfl)
   have iR:=run_storeCells_at P g o t cs 0 cur w hg (by simpa using anA) h1
   simp [Builtin.copy_,run_underlying hu,Builtin.lenOf,Builtin.firstCells,Go.sizeOf,typeInfo,hq,hi,←hn,hl,iR]
  | none =>
   have:=hA rfl
   subst this
   have atI:=setRow_self w g cur t (0,0) hg
   simp [Builtin.copy_,run_underlying hu,Builtin.lenOf,Builtin.firstCells,Go.sizeOf,typeInfo,hq,storeCells,List.take_append_drop,atI]
theorem GN{P:Program}(w:World)(dT sT ty elem:TypeId)(D:Option Addr)(anC:Nat)(A:Option Addr)(TJ anD sz:Nat)
  (hu:P.underlying dT=some (.slice elem)) (hs:(P.info? elem).map (·.size)=some sz) :
  (Builtin.copy_ #[dT,sT] ty #[.slice D 0 anC, .slice A TJ anD]).run P w = .ok (goInt (0:Nat)) w:=by
 cases hq:P.info? elem with
 | none=>simp [hq]at hs
 | some i=>cases A<;>cases D<;>simp [Builtin.copy_,run_underlying hu,Builtin.lenOf,Builtin.firstCells,Go.sizeOf,typeInfo,hq,storeCells,loadCells,loadCellsFrom,show Nat.min TJ 0=0 from Nat.min_zero TJ]
theorem aan(hI:Inv w0 S0 c){t t2 type:TypeId}{x y v:PV}{u:Option (Nat × Row)}{vx vy:Value}(hx:aI c x vx)(hy:aI c y vy)(h:u7 (E.ty t) c.rows x y v u) :
  ∃v' c',(Builtin.copy_ #[t,t2] type #[vx,vy]).run E.P c.w = .ok v' c'.w∧c'.rows=eS c.rows u∧c'.used=c.used∧uT c c'∧Inv w0 S0 c'∧aI c' v v':=by
 unfold u7 at h
 split at h
 ·rename_i e sz b z id ver off len hE
  obtain⟨r,uU,j4,pP,hle,l,hl,W5,rfl,rfl⟩:=h
  have gx:=hx
  simp only [aI,aM]at gx
  obtain⟨_,gx⟩:=gx.2 r uU j4
  obtain⟨hu,l5,JX,i,zv,hi,hz,hs,hby,TB,hzo⟩:=gI hE
  obtain⟨A,cap,news,hvy,g1,g2,g3,g4,g5⟩:=vM hI hy hl W5
  by_cases w6:len=0
  ·-- nothing
   subst w6
   obtain⟨D,TK,hvx⟩:∃D TK,vx = .slice D 0 TK:=by
    rcases gx with ⟨h0,A',m,ahL,JZ,hv⟩ | ⟨_,g2,m,ahL,A',JZ,_,hv,ha⟩
    ·exact⟨_,_,hv⟩
    ·exact⟨_,_,hv⟩
   have jJ:=GN (P:=E.P) c.w t t2 type e D TK A l.length cap sz hu (by simp [hi,hs])
   have kV:eC c.rows id (some { r with els:=r.els.take off++l.take 0++r.els.drop (off+min l.length 0) })=c.rows:=by
    funext j
    simp only [eC]
    split
    ·rename_i hj
     subst hj
     rw [uU]
     simp
    ·rfl
   refine⟨_,c,by rw [hvx,hvy];exact jJ,?_,rfl,uT.refl c,hI,cR.2 (by
    simp only [goInt]
    congr 1
    omega)⟩
   show c.rows=eC c.rows id _
   rw [kV]
  have atJ:0<len:=by omega
  obtain⟨⟨xs,jQ,fU,jR⟩,C9,hnS,_⟩:=hI.row id r uU
  obtain⟨g,j3,hβ⟩:=sC hI uU (by omega)
  obtain⟨TK,hvx⟩:∃TK,vx = .slice (some ⟨g,off*sz,none⟩) len TK:=by
   rcases gx with ⟨h0,A',m,ahL,JZ,hv⟩ | ⟨_,g2,m,ahL,A',JZ,_,hv,ha⟩
   ·rw [hβ]at JZ
    simp only [Value.slice.injEq]at JZ
    obtain⟨rfl,_,_⟩:=JZ
    exact⟨_,by rw [hv,h0,Nat.zero_mul]⟩
   ·rw [hβ]at JZ
    simp only [Value.slice.injEq,Option.some.injEq,Addr.mk.injEq,and_true]at JZ
    obtain⟨rfl,_,_⟩:=JZ
    rcases ha with ha | ha
    ·omega
    ·exact⟨_,by rw [hv,ha,pP]⟩
  have atE:=jQ
  rw [hβ]at jQ
  rcases jQ.2 with ⟨h',_⟩ | ⟨g',atK,cur,h',hge,hg,S8,hcm,GK,NV⟩
  ·simp at h'
  ·simp only [Value.slice.injEq,Option.some.injEq,Addr.mk.injEq,and_true]at h'
   obtain⟨rfl,_,rfl⟩:=h'
   rw [pP]at GK NV
   have hnl:news.length=l.length*sz:=g1
   have hml:Nat.min l.length len≤len:=Nat.min_le_right _ _
   have hmm:Nat.min l.length len*sz=Nat.min (l.length*sz) (len*sz):=by
    show min l.length len*sz=min (l.length*sz) (len*sz)
    rcases Nat.le_total l.length len with hq | hq
    ·rw [Nat.min_eq_left hq,Nat.min_eq_left (Nat.mul_le_mul_right _ hq)]
    ·rw [Nat.min_eq_right hq,Nat.min_eq_right (Nat.mul_le_mul_right _ hq)]
   have aao:(news.take (len*sz)).length=Nat.min l.length len*sz:=by
    rw [List.length_take,hnl,hmm];exact Nat.min_comm _ _
   have NY:off*sz+len*sz≤r.els.length*sz:=by rw [←Nat.add_mul];exact Nat.mul_le_mul_right _ hle
   have aGv:r.els.length*sz≤j3*sz:=Nat.mul_le_mul_right _ S8
   have aGw:Nat.min l.length len*sz≤len*sz:=Nat.mul_le_mul_right _ hml
   have jJ:=JY (P:=E.P) c.w t t2 type e sz g (off*sz) len TK A l.length cap cur r.e (news.take (len*sz)) hu (by simp [hi,hs]) hg aao
    (fun ad had j v hj=>g5 ad had j v (by rw [List.getElem?_take]at hj;split at hj;exact hj;cases hj)) (fun hA=>by
     have:=g4 hA
     subst this
     have:news = []:=List.eq_nil_of_length_eq_zero (by simpa using hnl)
     simp [this]) (by rw [aao];omega) (fun v hv=>g3 v (List.mem_of_mem_take hv))
   have W6:∀e∈r.els,e.length=sz:=fun e he=>by rw [C9 e he,pP]
   have ak0:min l.length len=Nat.min l.length len:=rfl
   have acR:(c.w.setRow g (cur.toList.take (off*sz)++news.take (len*sz)++cur.toList.drop (off*sz+(news.take (len*sz)).length)).toArray).ownsRow w0.heap.size r.e r.size (c.β id) (r.els.take off++l.take len++r.els.drop (off+min l.length len)).length
     (xs.take (off*sz)++news.take (len*sz)++xs.drop (off*sz+(news.take (len*sz)).length)):=by
    have F7:(r.els.take off++l.take len++r.els.drop (off+min l.length len)).length=r.els.length:=by simp;omega
    have hxl:xs.length=r.els.length*sz:=by rw [jQ.1,pP]
    rw [hβ,F7]
    refine⟨?_, .inr ⟨g,j3,_,rfl,hge,setRow_heap _ g cur _ r.e _ hg,S8,hcm,?_,?_⟩⟩
    ·rw [pP,List.length_append,List.length_append,aao,List.length_take,List.length_drop];omega
    ·rw [pP,List.size_toArray,List.length_append,List.length_append,aao,List.length_take,List.length_drop,Array.length_toList];omega
    ·rw [pP,←NV]
     have az7:cur.toList.length=j3*sz:=by simp [GK]
     simp only
     rw [List.take_append,List.take_append]
     have e1:List.take (r.els.length*sz) (cur.toList.take (off*sz))=cur.toList.take (off*sz):=by rw [List.take_take,Nat.min_eq_right (by omega)]
     have e2:List.take (off*sz) (cur.toList.take (r.els.length*sz))=cur.toList.take (off*sz):=by rw [List.take_take,Nat.min_eq_left (by omega)]
     rw [e1,e2]
     have e3:(cur.toList.take (off*sz)).length=off*sz:=by rw [List.length_take];omega
     have e4:List.take (r.els.length*sz-off*sz) (news.take (len*sz))=news.take (len*sz):=List.take_of_length_le (by rw [aao];omega)
     rw [e3,e4]
     congr 1
     rw [List.length_append,e3,List.drop_take]
   have pT:c.w.grownBy (c.w.setRow g (cur.toList.take (off*sz)++news.take (len*sz)++cur.toList.drop (off*sz+(news.take (len*sz)).length)).toArray) (c.β id).ownBlock:=by
    rw [hβ]
    exact⟨rfl,rfl,rfl,by simp,fun k _ hk=>setRow_other _ g k _ (fun e=>hk (by simp [Value.ownBlock,e]))⟩
   obtain⟨qN,hA⟩:=hI.eC (r':={ r with els:=r.els.take off++l.take len++r.els.drop (off+min l.length len) }) uU pT acR (by
    show bF (aM c) (r.els.take off++l.take len++r.els.drop (off+min l.length len)).flatten _
    rw [List.flatten_append,List.flatten_append,(pV W6 off).1,(pV W5 len).1,(pV W6 _).2,Nat.add_mul,ak0,←aao]
    exact((fU.take _).append (g2.take _)).append (fU.drop _)) (by
    intro y' y8
    simp only [List.mem_append]at y8
    rcases y8 with (y8 | y8) | y8
    ·exact jR y' (List.mem_of_mem_take y8)
    ·exact g3 y' (List.mem_of_mem_take y8)
    ·exact jR y' (List.mem_of_mem_drop y8)) (by
    intro e' r5
    simp only [List.mem_append]at r5
    rw [pP]
    rcases r5 with (r5 | r5) | r5
    ·exact W6 e' (List.mem_of_mem_take r5)
    ·exact W5 e' (List.mem_of_mem_take r5)
    ·exact W6 e' (List.mem_of_mem_drop r5)) rfl rfl (by simp;omega)
   refine⟨goInt (Nat.min l.length len:Nat),_,?_,?_,?_,hA,qN,?_⟩
   ·rw [hvx,hvy];exact jJ
   ·rfl
   ·rfl
   ·refine cR.2 ?_
    rw [←ak0]
    simp only [goInt]
    congr 1
    omega
 ·exact h.elim
theorem NZ{o:Oper}{a:Act}{f:Nat→PV}(hI:Inv w0 S0 c)(hf:∀s,aI c (f s) (a.tmps.getD s undef)){v:PV}{u:Option (Nat × Row)}(h:ys E o.op (aS f) c.rows v u)
  {K:Act→World→Prop} {Q:Exit→Act→World→Prop}
  (hKT:∀v' c',c'.rows=eS c.rows u→c'.used=c.used→(∀p v,aI c p v→aI c' p v)→Inv w0 S0 c'→aI c' v v'→K (a.put o.dst v') c'.w):o.wp E.P a c.w K Q:=by
 have hK:∀v' c',c'.rows=eS c.rows u→c'.used=c.used→uT c c'→Inv w0 S0 c'→aI c' v v'→K (a.put o.dst v') c'.w:=fun v' c' h1 h2 h3=>hKT v' c' h1 h2 (aI.uZ h3)
 have hρ:=nJ hf
 have plain:yv E o.op (aS f) c.rows v∧u=none→o.wp E.P a c.w K Q:=by
  rintro⟨hv,rfl⟩
  obtain⟨v',h1,h2⟩:=anv hI hf hv
  unfold Oper.wp
  rw [h1]
  exact hK v' c rfl rfl (uT.refl c) hI h2
 obtain⟨dst,op,type,pos,after,guard⟩:=o
 simp only at h hK hKT plain
 unfold ys at h
 split at h
 ·rename_i x y t t2
  obtain⟨v',c',h1,h2,h3,h4,h5,h6⟩:=aan (t2:=t2) (type:=type) hI (hρ x) (hρ y) h
  unfold Oper.wp
  have:(execOp a.eval { dst:=dst,op:=.call { callee:=.builtin .copy,args:=⟨[x,y]⟩,argTypes:=⟨[t,t2]⟩ },type:=type,pos:=pos,after:=after,guard:=guard }).run E.P c.w = .ok (.value v') c'.w:=by
   simp only [execOp,resolve,invoke,builtin,Sem.run_bind,Sem.run_pure,Result.andThen_ok,List.map_toArray,List.map_cons,List.map_nil,h1]
  rw [this]
  exact hK v' c' h2 h3 h4 h5 h6
 ·rename_i t p x
  obtain⟨rfl,w',h1,h2,h3⟩:=TG hI (hρ p) (hρ x) h
  unfold Oper.wp
  have:(execOp a.eval { dst:=dst,op:=.store t p x,type:=type,pos:=pos,after:=after,guard:=guard }).run E.P c.w = .ok .skip w':=by simp [execOp,h1]
  rw [this]
  exact hK undef { c with w:=w',rows:=eS c.rows u } rfl rfl h3 h2 (by simp [aI,aM])
 ·rename_i t len parts
  obtain⟨h,rfl⟩:=h
  unfold TE at h
  split at h
  ·rename_i e n bb z hE
   obtain⟨els,h1,h2,h3,h4,h5,h6,rfl⟩:=h
   obtain⟨v',c',g1,g2,g3,g4,g5,g6⟩:=DI hI hE hρ h1 h2 h3 h4 h5 h6
   unfold Oper.wp
   have:(execOp a.eval { dst:=dst,op:=.buildSlice t len parts,type:=type,pos:=pos,after:=after,guard:=guard }).run E.P c.w = .ok (.value v') c'.w:=by
    simp only [execOp,Sem.run_bind,g1,Result.andThen_ok,Sem.run_pure]
   rw [this]
   exact hK v' c' g2 g3 g5 g4 g6
  ·exact h.elim
 ·rename_i fo args ts
  have fB:bF (aI c) (args.toList.map fun x=>aS f x) (args.map a.eval).toList:=by
   refine bF.cZ (by simp) fun k p u hp hu=>?_
   simp at hp hu
   obtain⟨x,hx,rfl⟩:=hp
   obtain⟨y,hy,rfl⟩:=hu
   rw [hx]at hy;cases hy
   exact hρ x
  by_cases hm:wZ E (aS f fo)=true
  ·rw [if_pos hm]at h
   unfold NU at h
   split at h
   ·rename_i g id ver i j rest atL aAd
    obtain⟨⟨rfl,rfl,hp,hpv⟩,e,n,core,eI,kV,hM,hc,GI,rfl⟩:=h
    rw [aAd]at fB
    have hfo:=hρ fo
    rw [atL]at hfo
    simp only [aI,aM,dK]at hfo
    obtain⟨cs,hfv,GK⟩:=hfo
    simp only [bP]at GK
    subst GK
    obtain⟨fn,b,h1,h2,h3⟩:=(hM pR 0 (fun j=>if j=pR then some ⟨0,e,n,[core]⟩else none) 1 (Nat.le_refl _) (if_pos rfl) (by decide)).1
    have nE:=hM.frame hp hpv hc GI hI kV fB
    unfold Oper.wp
    have jJ:(execOp a.eval { dst:=dst,op:=.call { callee:=.value fo,args:=args,argTypes:=ts },type:=type,pos:=pos,after:=after,guard:=guard }).run E.P c.w = .ok (.enter g (args.map a.eval)) c.w:=by
     simp only [execOp,resolve,hfv,Deferred.ofValue,Sem.run_bind,Sem.run_pure,Result.andThen_ok,invoke]
     simpa using k8 h1 h2 h3 (args.map a.eval) c.w
    rw [jJ]
    rw [Array.toArray_toList]at nE
    refine nE.mono ?_
    rintro x w' ⟨v',c',rfl,rfl,k1,k2,k3,k4,k5⟩
    exact hKT v' c' k1 k2 k3 k4 k5
   ·exact h.elim
  rw [if_neg hm]at h
  obtain⟨rfl,hc,vL⟩:=h
  have GI:AH E (aS f fo) ((args.toList.map fun x=>aS f x).map (pz c.rows)) v:=by rw [List.map_map];exact hc
  obtain⟨g,cs,h1,h2,h3⟩:=AK hI (ids:=[]) (by simp) (hρ fo) fB (by
   intro p hp id gL
   simp at hp
   obtain⟨x,hx,rfl⟩:=hp
   have:id∈args.toList.flatMap fun x=>eB (aS f x):=by simp only [List.mem_flatMap];exact⟨x,by simpa using hx,gL⟩
   rw [vL]at this;exact this) GI (K:=fun v' w'=>K (a.put dst v') w') (fun v' c' q1 q2 q3 q4 q5=>hK v' c' (by rw [q1];funext j;simp [HL,eS]) q2 q3 q4 q5)
  unfold Oper.wp
  have jJ:(execOp a.eval { dst:=dst,op:=.call { callee:=.value fo,args:=args,argTypes:=ts },type:=type,pos:=pos,after:=after,guard:=guard }).run E.P c.w = .ok (.enter g (args.map a.eval++cs)) c.w:=by
   simp only [execOp,resolve,h1,Deferred.ofValue,Sem.run_bind,Sem.run_pure,Result.andThen_ok,invoke]
   simp only [Array.toArray_toList]at h2
   simpa only [Array.empty_append]using h2
  rw [jJ]
  simp only [Array.toArray_toList]at h3
  exact h3.mono fun e w' ⟨v',he,hk⟩=>by subst he;exact hk
 ·exact plain h
end
def room:Nat:=140737488355328
def fC(rows:Rows)(ids:List Nat):Prop:=∀id∈ids,∀r,rows id=some r → ∀e∈r.els,∀p∈e,bL p=true
def J0(K:PS→Prop)(σ:PS)(d:Option Tmp)(v:PV)(id:Nat)(e:TypeId)(n:Nat)(els:List (List PV)):Prop:=
 K ⟨put σ.f d v,eC σ.rows id (some ⟨σ.clock,e,n,els⟩),σ.clock+1⟩
def J5(E:Env)(o:Oper)(t:TypeId)(x y:PV)(K:PS→Prop)(σ:PS):Prop:=
 match E.ty t with
 | .slice e n b _ =>
  ∃l,sG σ.rows y l∧(∀e∈l,e.length=n) ∧
  match x with
  | .nil=>l.length≤room∧l.length*b≤room∧J0 K σ o.dst (.own (o.dst.getD 0) σ.clock 0 l.length) (o.dst.getD 0) e n l
  | .own id ver off len=>∃r,σ.rows id=some r∧r.ver=ver∧off=0∧len≤r.els.length∧r.e=e∧r.size=n∧len+l.length≤room∧(len+l.length)*b≤room ∧
    J0 K σ o.dst (.own id σ.clock 0 (len+l.length)) id e n (r.els.take len++l)
  | .jA l0=>(∀e∈l0,e.length=n)∧(∀e∈l,∀p∈e,bL p=true)∧l0.length+l.length≤room∧(l0.length+l.length)*b≤room∧K (σ.put o.dst (.sl (l0++l)))
  | _=>False
 | _=>False
def HO(K:Nat→(Nat→PV)→Rows→Prop)(ver:Nat)(f:Nat→PV)(rows:Rows)(d:Option Tmp)(v:PV)(id:Nat)(e:TypeId)(n:Nat)(els:List (List PV)):Prop:=
 K 1 (put f d v) (eC rows id (some ⟨ver,e,n,els⟩))
def pW(E:Env)(ver:Nat)(o:Oper)(t:TypeId)(x y:PV)(K:Nat→(Nat→PV)→Rows→Prop)(f:Nat→PV)(rows:Rows):Prop:=
 match E.ty t with
 | .slice e n b _ =>
  ∃l,sG rows y l∧(∀e∈l,e.length=n) ∧
  match x with
  | .nil=>l.length≤room∧l.length*b≤room∧HO K ver f rows o.dst (.own (o.dst.getD 0) ver 0 l.length) (o.dst.getD 0) e n l
  | .own id atN off len=>∃r,rows id=some r∧r.ver=atN∧off=0∧len≤r.els.length∧r.e=e∧r.size=n∧len+l.length≤room∧(len+l.length)*b≤room ∧
    HO K ver f rows o.dst (.own id ver 0 (len+l.length)) id e n (r.els.take len++l)
  | .jA l0=>(∀e∈l0,e.length=n)∧(∀e∈l,∀p∈e,bL p=true)∧l0.length+l.length≤room∧(l0.length+l.length)*b≤room∧K 0 (put f o.dst (.sl (l0++l))) rows
  | _=>False
 | _=>False
def slT:TI→Bool
 | .slice .. => true
 | _=>false
def fJ(E:Env)(o:Oper)(K:PS→Prop)(σ:PS):Prop:=
 match o.op with
 | .alloc t=>(E.ty t).known=true∧J0 K σ o.dst (.ptr (o.dst.getD 0) σ.clock 0 0) (o.dst.getD 0) t (E.ty t).size [(E.ty t).zero]
 | .box t x=>(E.ty t).known=true ∧ ∃l,cQ (aS σ.f x)=some l∧(∀q∈l,iT σ.rows q)∧l.length=(E.ty t).size∧J0 K σ o.dst (.ptr (o.dst.getD 0) σ.clock 0 0) (o.dst.getD 0) t (E.ty t).size [l]
 | .makeSlice t l c =>
  match E.ty t,aS σ.f l,aS σ.f c with
  | .slice e n b z, .int _ x, .int _ y=>0≤x∧x≤y∧y.toNat≤room∧y.toNat*b≤room∧J0 K σ o.dst (.own (o.dst.getD 0) σ.clock 0 x.toNat) (o.dst.getD 0) e n (List.replicate x.toNat z)
  | _,_,_=>False
 | .call { callee:=.builtin .append,args:=⟨[x,y]⟩,argTypes:=⟨[t,t2]⟩ }=>(t2=t∨slT (E.ty t2)=true)∧J5 E o t (aS σ.f x) (aS σ.f y) K σ
 | .call { callee:=.value f,args:=args,argTypes:=_ }=>if anz E (aS σ.f f)=true then TF E (aS σ.f f) (args.toList.map (aS σ.f)) σ.rows σ.clock (fun v rows clk=>K ⟨put σ.f o.dst v,rows,clk⟩)
   else ∃v,AH E (aS σ.f f) (args.toList.map fun x=>pz σ.rows (aS σ.f x)) v∧fC σ.rows (args.toList.flatMap fun x=>eB (aS σ.f x)) ∧
   K ⟨put σ.f o.dst v,HL σ.rows (args.toList.flatMap fun x=>eB (aS σ.f x)),σ.clock⟩
 | .makeFunc (.func f) ⟨[]⟩ caps=>(caps.toList.map fun x=>pz σ.rows (aS σ.f x)).all dI=true∧fC σ.rows (caps.toList.flatMap fun x=>eB (aS σ.f x)) ∧
   K ⟨put σ.f o.dst (.fn f (caps.toList.map fun x=>pz σ.rows (aS σ.f x))),HL σ.rows (caps.toList.flatMap fun x=>eB (aS σ.f x)),σ.clock⟩
 | _=>∃v u,ys E o.op (aS σ.f) σ.rows v u∧K ⟨put σ.f o.dst v,eS σ.rows u,σ.clock⟩
def pI(E:Env)(ver:Nat)(o:Oper)(K:Nat→(Nat→PV)→Rows→Prop)(f:Nat→PV)(rows:Rows):Prop:=
 match o.op with
 | .alloc t=>(E.ty t).known=true∧HO K ver f rows o.dst (.ptr (o.dst.getD 0) ver 0 0) (o.dst.getD 0) t (E.ty t).size [(E.ty t).zero]
 | .box t x=>(E.ty t).known=true ∧ ∃l,cQ (aS f x)=some l∧(∀q∈l,iT rows q)∧l.length=(E.ty t).size∧HO K ver f rows o.dst (.ptr (o.dst.getD 0) ver 0 0) (o.dst.getD 0) t (E.ty t).size [l]
 | .makeSlice t l c =>
  match E.ty t,aS f l,aS f c with
  | .slice e n b z, .int _ x, .int _ y=>0≤x∧x≤y∧y.toNat≤room∧y.toNat*b≤room∧HO K ver f rows o.dst (.own (o.dst.getD 0) ver 0 x.toNat) (o.dst.getD 0) e n (List.replicate x.toNat z)
  | _,_,_=>False
 | .call { callee:=.builtin .append,args:=⟨[x,y]⟩,argTypes:=⟨[t,t2]⟩ }=>(t2=t∨slT (E.ty t2)=true)∧pW E ver o t (aS f x) (aS f y) K f rows
 | _=>False
theorem w7{n:Nat}(h:n≤room):n≤maxLen:=by unfold room at h;simp only [maxLen];omega
theorem lY{α:Type}{z:List α}:∀ {x k:Nat} {a:α},(List.replicate x z).flatten[k]? = some a→z[k%z.length]? = some a
 | 0,k,a,h=>by simp at h
 | x+1,k,a,h=>by
  rw [List.replicate_succ,List.flatten_cons]at h
  rcases Nat.lt_or_ge k z.length with hk | hk
  ·rw [List.getElem?_append_left hk]at h
   rw [Nat.mod_eq_of_lt hk];exact h
  ·rw [List.getElem?_append_right hk]at h
   have:=lY h
   rw [←Nat.mod_eq_sub_mod hk]at this;exact this
section
variable {E:Env} {c:Cx} {w0:World} {S0:eG}
theorem y9(hI:Inv w0 S0 c){ver:Nat}(iG:¬c.used ver)(id:Nat)(e:TypeId)(size n cap:Nat)(els:List (List PV))(cells:Array Value)(hn:els.length=n)(S8:n≤cap)(hcm:cap≤maxLen)(pP:cells.size=cap*size)
  (fU:bF (aM c) els.flatten (cells.toList.take (n*size))) (jR:∀u∈cells.toList,u.oneCell'=true) (hlen:∀e∈els,e.length=size) (l5:0<size) :
  Inv w0 S0 { c with w:=c.w.alloc (.cells cells e),β:=eC c.β id (.slice (some ⟨c.w.heap.size,0,none⟩) n cap),rows:=eC c.rows id (some ⟨ver,e,size,els⟩),used:=fun v=>v=ver∨c.used v } ∧
  uT c { c with w:=c.w.alloc (.cells cells e),β:=eC c.β id (.slice (some ⟨c.w.heap.size,0,none⟩) n cap),rows:=eC c.rows id (some ⟨ver,e,size,els⟩),used:=fun v=>v=ver∨c.used v }:=by
 refine hI.set (ob:=none) (r':=⟨ver,e,size,els⟩) (xs:=cells.toList.take (n*size)) (World.grownBy_alloc c.w _ none) (by simp) ?_ fU (fun x hx=>jR x (List.mem_of_mem_take hx)) hlen l5 ?_ iG
 ·have hle:n*size≤cap*size:=Nat.mul_le_mul_right _ S8
  refine⟨by simp [hn];omega, .inr ⟨c.w.heap.size,cap,cells,by simp [hn],hI.below.size,heap_alloc_new c.w _,by simp [hn];exact S8,hcm,pP,by simp [hn]⟩⟩
 ·intro g hg
  simp [Value.ownBlock]at hg
  exact .inr (by omega)
theorem acY{t:TypeId}{n:Nat}{z:List PV}(h:mZ E.P t n z):∃i v,E.P.info? t=some i∧i.zero=some v∧i.size=n∧bF (aM c) z v.cells.toList∧v.cells.size=n ∧ ∀u∈v.cells.toList,u.oneCell'=true:=by
 obtain⟨i,v,h1,h2,h3,h4,h5⟩:=h.ok
 have hl:v.cells.size=n:=by rw [←h.len,←h4];simp
 refine⟨i,v,h1,h2,h3,?_,hl,fun u hu=>(Array.all_eq_true_iff_forall_mem.1 h5) u (by simpa using hu)⟩
 rw [←h4]
 refine bF.cZ (by simp) fun k a b ha hb=>?_
 simp at ha
 obtain⟨u,hu,rfl⟩:=ha
 have:v.cells.toList[k]? = some u:=by simpa using hu
 rw [this]at hb;cases hb
 exact l6 _
theorem mS{c':Cx}{id ver n:Nat}{r:Row}(hr:c'.rows id=some r)(hn:r.els.length=n)(hc:c'.used ver){A:Option Addr}{cap:Nat}(hβ:c'.β id = .slice A n cap):aI c' (.own id ver 0 n) (.slice A n cap):=by
 simp only [aI,aM]
 refine⟨hc,fun r' kZ _=>?_⟩
 rw [hr]at kZ;cases kZ
 exact⟨by omega, .inl ⟨by first | rfl | trivial,A,n,cap,hβ,rfl⟩⟩
theorem acZ{c':Cx}{id ver:Nat}(hc:c'.used ver){g n cap:Nat}(hβ:c'.β id = .slice (some ⟨g,0,none⟩) n cap):aI c' (.ptr id ver 0 0) (.pointer (some ⟨g,0,none⟩)):=by
 simp only [aI,aM]
 exact⟨hc,fun r' _ _=>⟨g,n,cap,hβ,by simp⟩⟩
theorem vB{z:Array Value}{N k:Nat}(hk:k<N)(hz:0<z.size):(madeCells z N).toList[k]? = z.toList[k%z.size]? := by
 have hm:k%z.size<z.size:=Nat.mod_lt _ hz
 simp [madeCells,hk,hm]
variable {n:Nat} {G:Gs}
theorem sI{U:Nat→Prop}{ver:Nat}{f:Nat→PV}{rows:Rows}{a:Act}(hr:c.rows=rows)(gE:∀v,c.used v→U v)(hf:∀s,aI c (f s) (a.tmps.getD s undef))(hG:∀p∈G,aI c p.1 p.2)(hn:a.tmps.size=n)(fR:a.defers = [])
  {K:(Nat→PV)→Rows→Prop} {d:Option Tmp} {v:PV} {id:Nat} {e:TypeId} {sz:Nat} {els:List (List PV)} (h:K (put f d v) (eC rows id (some ⟨ver,e,sz,els⟩))) {v':Value} {w':World} {b':Value}
  (hI:Inv w0 S0 { c with w:=w',β:=eC c.β id b',rows:=eC c.rows id (some ⟨ver,e,sz,els⟩),used:=fun v=>v=ver∨c.used v })
  (hA:uT c { c with w:=w',β:=eC c.β id b',rows:=eC c.rows id (some ⟨ver,e,sz,els⟩),used:=fun v=>v=ver∨c.used v })
  (hv:aI { c with w:=w',β:=eC c.β id b',rows:=eC c.rows id (some ⟨ver,e,sz,els⟩),used:=fun v=>v=ver∨c.used v } v v') (hd:∀t,d=some t→t<n) :
  ∃f' rows',K f' rows'∧pU w0 S0 n G (fun v=>v=ver∨U v) f' rows' (a.put d v') w':=by
 refine⟨_,_,h,?_⟩
 have:=sH (U:=fun v=>v=ver∨U v) (f':=put f d v) (rows:=eC rows id (some ⟨ver,e,sz,els⟩)) hf hG hn fR hA hI hv hd rfl (by simp [hr]) (fun v hv=>hv.imp (fun h=>h) (gE v))
 exact this
theorem TL(hI:Inv w0 S0 c){w':World}(hg:c.w.grownBy w' none){e:TypeId}{sz:Nat}{v':Value}{els:List (List PV)}{xs:List Value}(jQ:w'.ownsRow c.w.heap.size e sz v' els.length xs)
  (fU:bF (dK c.S c.w) els.flatten xs) (jR:∀u∈xs,u.oneCell'=true) (hlen:∀e∈els,e.length=sz) :
  ∃c',c'.w=w'∧c'.rows=c.rows∧c'.used=c.used∧Inv w0 S0 c'∧uT c c'∧aI c' (.sl els) v':=by
 have hb:Below c.w.heap.size c.w w':=⟨hg.os,hg.tape,hg.output,hg.size,fun k hk=>hg.block k hk (by simp)⟩
 obtain⟨qN,hA⟩:=hI.grow (S':=fun b o=>c.S b o∨(c.w.heap.size≤b∧b<w'.heap.size)) hb (fun _ _ h => .inl h) (fun _ _ h=>h)
 refine⟨{ c with S:=fun b o=>c.S b o∨(c.w.heap.size≤b∧b<w'.heap.size),w:=w' },rfl,rfl,rfl,qN,hA,?_⟩
 simp only [aI,aM,dK]
 rcases jQ.2 with ⟨rfl,h0⟩ | ⟨g,cap,cur,rfl,hge,hh,S8,hcm,GK,NV⟩
 ·exact⟨none,0,by rw [h0],by omega,by simp [maxLen], .inl (List.eq_nil_of_length_eq_zero h0)⟩
 ·refine⟨_,cap,rfl,S8,hcm, .inr ⟨g,0,rfl,pQ hlen fun k el hk=>kF fun j p hj=>?_⟩⟩
  have hf:=kG hlen hk hj
  obtain⟨u,hu,hr⟩:=fU.get hf
  have dC:g<w'.heap.size:=(Array.getElem?_eq_some_iff.1 hh).1
  have HK:=jQ.cells (g:=g) rfl (k*sz+j) u hu
  rw [jP]at HK
  refine⟨u,?_, .inr ⟨hge,dC⟩,jR u (List.mem_of_getElem? hu),dK.mono hA.S hA.w _ _ hr⟩
  rw [show 0+k*sz+j=0+(k*sz+j)by omega];exact HK
theorem ac0{w:World}{base e sz n k:Nat}{A:Option Addr}{cap:Nat}{xs:List Value}(h:w.ownsRow base e sz (.slice A n cap) n xs)(hk:k≤n):w.ownsRow base e sz (.slice A k cap) k (xs.take (k*sz)):=by
 have hle:k*sz≤n*sz:=Nat.mul_le_mul_right _ hk
 refine⟨by rw [List.length_take,h.1];omega,?_⟩
 rcases h.2 with ⟨h1,h2⟩ | ⟨g,j3,cur,h1,h2,h3,h4,h5,h6,h7⟩
 ·simp only [Value.slice.injEq]at h1
  obtain⟨rfl,_,rfl⟩:=h1
  have zA:k=0:=by omega
  subst zA
  exact .inl ⟨rfl,rfl⟩
 ·simp only [Value.slice.injEq]at h1
  obtain⟨rfl,_,rfl⟩:=h1
  refine .inr ⟨g,cap,cur,rfl,h2,h3,by omega,h5,h6,?_⟩
  rw [←h7,List.take_take,Nat.min_eq_left hle]
theorem aaq{P:Program}{w:World}{t t2 ty:TypeId}{e e2:TypeId}{x y:Value}(hu:P.underlying t=some (.slice e))(hu2:P.underlying t2=some (.slice e2)) :
  (Builtin.append_ #[t,t2] ty #[x,y]).run P w=(Builtin.append_ #[t,t] ty #[x,y]).run P w:=by
 unfold Builtin.append_
 simp only [List.getElem?_toArray,List.getElem?_cons_zero,List.getElem?_cons_succ,Sem.run_bind,run_underlying hu,Result.andThen_ok]
 cases x<;>simp [run_underlying hu,run_underlying hu2]
theorem ahM{E:Env}{t2:TypeId}(h:slT (E.ty t2)=true):∃e,E.P.underlying t2=some (.slice e):=by
 cases hE:E.ty t2 with
 | slice e n b z=>exact⟨e,(gI hE).1⟩
 | _=>rw [hE]at h;cases h
theorem DJ{U:Nat→Prop}{ver:Nat}(iG:¬U ver){o:Oper}{a:Act}{f:Nat→PV}{rows:Rows}{x y:Operand}{t t2:TypeId}(hop:o.op = .call { callee:=.builtin .append,args:=⟨[x,y]⟩,argTypes:=⟨[t,t2]⟩ })(ht2:t2=t∨slT (E.ty t2)=true)
  (hI:Inv w0 S0 c) (hr:c.rows=rows) (gE:∀v,c.used v→U v) (hf:∀s,aI c (f s) (a.tmps.getD s undef)) (hG:∀p∈G,aI c p.1 p.2) (hn:a.tmps.size=n) (fR:a.defers = [])
  (hd:∀t,o.dst=some t→t<n) {K:Nat→(Nat→PV)→Rows→Prop} (h:pW E ver o t (aS f x) (aS f y) K f rows) {K':Act→World→Prop} {Q:Exit→Act→World→Prop} (hK:∀i f' rows' a' w',K i f' rows'→pU w0 S0 n G (fun v=>(i=1∧v=ver)∨U v) f' rows' a' w'→K' a' w'):o.wp E.P a c.w K' Q:=by
 have hρ:=nJ hf
 have run:∀ {v':Value} {w':World},(Builtin.append_ #[t,t] o.type #[a.eval x,a.eval y]).run E.P c.w = .ok v' w'→K' (a.put o.dst v') w'→o.wp E.P a c.w K' Q:=by
  intro v' w' h1 h2
  unfold Oper.wp
  have TC:(Builtin.append_ #[t,t2] o.type #[a.eval x,a.eval y]).run E.P c.w = .ok v' w':=by
   rcases ht2 with rfl | ht2
   ·exact h1
   ·obtain⟨e2,hu2⟩:=ahM ht2
    have M9:∃e,E.P.underlying t=some (.slice e):=by
     unfold pW at h
     split at h
     ·rename_i e n b z hE;exact⟨e,(gI hE).1⟩
     ·exact h.elim
    obtain⟨e,hu⟩:=M9
    rw [aaq hu hu2];exact h1
  have:(execOp a.eval o).run E.P c.w = .ok (.value v') w':=by
   simp only [execOp,hop,resolve,invoke,builtin,Sem.run_bind,Sem.run_pure,Result.andThen_ok,List.map_toArray,List.map_cons,List.map_nil,TC]
  rw [this]
  exact h2
 unfold pW at h
 split at h
 ·rename_i e sz b z hE
  obtain⟨l,hl,hlen,h⟩:=h
  obtain⟨hu,l5,JX,i,zv,hi,hz,hs,hby,TB,_⟩:=gI hE
  have F8:zv.cells.size=sz:=by rw [←JX,←TB];simp
  rw [←hr]at hl
  obtain⟨A,cap,news,hvy,g1,g2,g3,g4,g5⟩:=vM hI (hρ y) hl hlen
  have main:∀(vx:Value) (k:Nat) (xs:List Value),c.w.ownsRow w0.heap.size e sz vx k xs→a.eval x=vx→k+l.length≤room→(k+l.length)*b≤room →
    ∃v' w',(Builtin.append_ #[t,t] o.type #[a.eval x,a.eval y]).run E.P c.w = .ok v' w'∧w'.ownsRow w0.heap.size e sz v' (k+l.length) (xs++news)∧c.w.grownBy w' vx.ownBlock∧(v'.ownBlock=vx.ownBlock∨v'.ownBlock=some c.w.heap.size):=by
   intro vx k xs jQ hvx TM DK
   rw [hvx,hvy]
   cases A with
   | some ad =>
    obtain⟨v',w',q1,q2,q3,_,q5⟩:=run_append_own_at (P:=E.P) c.w w0.heap.size t o.type e i zv sz b hu hi hz hs hby F8 l5 vx k xs jQ ad l.length cap news g1 (g5 ad rfl) g3 (w7 TM) (by simpa [room]using DK) hI.below.size
    exact⟨v',w',q1,q2,q3,q5⟩
   | none =>
    have AJ:=g4 rfl
    subst AJ
    have hn0:news = []:=List.eq_nil_of_length_eq_zero (by simpa using g1)
    subst hn0
    refine⟨vx,c.w,?_,by simpa using jQ,⟨rfl,rfl,rfl,Nat.le_refl _,fun _ _ _=>rfl⟩, .inl rfl⟩
    rcases jQ.2 with ⟨rfl,rfl⟩ | ⟨g,j3,cur,rfl,_,_,S8,_⟩
    ·simp [Builtin.append_,run_underlying hu,Go.sizeOf,typeInfo,hi,Builtin.lenOf,Builtin.firstCells]
    ·simp [Builtin.append_,run_underlying hu,Go.sizeOf,typeInfo,hi,Builtin.lenOf,Builtin.firstCells,S8,storeCells]
  split at h
  ·-- atO nil
   rename_i heq
   obtain⟨TM,DK,h⟩:=h
   have hx:=hρ x
   rw [heq]at hx
   simp only [aI,aM,dK]at hx
   obtain⟨v',w',q1,q2,q3,q4⟩:=main (.slice none 0 0) 0 [] (World.ownsRow_nil _ _ _ _) hx (by simpa using TM) (by simpa using DK)
   simp only [Nat.zero_add,List.nil_append]at q2
   obtain⟨qN,hA⟩:=hI.set (ob:=none) (id:=o.dst.getD 0) (r':=⟨ver,e,sz,l⟩) (xs:=news) q3 (by simp) q2 g2 g3 hlen l5 (by
    intro g hg
    rcases q4 with q4 | q4
    ·rw [q4]at hg;simp [Value.ownBlock]at hg
    ·rw [q4]at hg;cases hg;exact .inr (Nat.le_refl _)) (fun hu=>iG (gE _ hu))
   have hv:aI { c with w:=w',β:=eC c.β (o.dst.getD 0) v',rows:=eC c.rows (o.dst.getD 0) (some ⟨ver,e,sz,l⟩),used:=fun v=>v=ver∨c.used v } (.own (o.dst.getD 0) ver 0 l.length) v':=by
    have ac1:∃A' j3,v' = .slice A' l.length j3:=by
     rcases q2.2 with ⟨rfl,h0⟩ | ⟨g,j3,cur,rfl,_⟩
     ·exact⟨none,0,by rw [h0]⟩
     ·exact⟨_,j3,rfl⟩
    obtain⟨A',j3,rfl⟩:=ac1
    exact mS (r:=⟨ver,e,sz,l⟩) (by simp [eC]) rfl (Or.inl rfl) (by simp [eC])
   obtain⟨f',rows',hk,DL⟩:=sI (K:=K 1) hr gE hf hG hn fR h qN hA hv hd
   exact run q1 (hK 1 f' rows' _ _ hk (DL.mono fun v hv=>hv.imp (fun h=>⟨rfl,h⟩) fun h=>h))
  ·-- atO a row of its own
   rename_i id atN off len heq
   obtain⟨r,uU,j4,rfl,hle,he,pP,TM,DK,h⟩:=h
   rw [←hr]at uU
   have hx:=hρ x
   rw [heq]at hx
   simp only [aI,aM]at hx
   obtain⟨⟨xs,jQ,fU,jR⟩,w6,hnS,_⟩:=hI.row id r uU
   obtain⟨A0,m0,atP,hβ,hxv⟩:∃A' m j3,c.β id = .slice A' m j3∧a.eval x = .slice A' len j3:=by
    rcases(hx.2 r uU j4).2 with ⟨_,h⟩ | ⟨h0,_⟩
    ·exact h
    ·omega
   have hm:m0=r.els.length:=by
    rw [hβ]at jQ
    rcases jQ.2 with ⟨h',h0⟩ | ⟨g,atK,cur,h',_⟩
    ·simp at h';omega
    ·simp at h';exact h'.2.1
   subst hm
   have hob:(c.β id).ownBlock=(Value.slice A0 len atP).ownBlock:=by rw [hβ];cases A0<;>rfl
   have hbg:=jQ.lt
   rw [he,pP,hβ]at jQ
   obtain⟨v',w',q1,q2,q3,q4⟩:=main (.slice A0 len atP) len (xs.take (len*sz)) (ac0 jQ hle) hxv TM DK
   rw [←hob]at q3 q4
   have ac2:∀e∈r.els,e.length=sz:=fun e r5=>by rw [w6 e r5,pP]
   have F7:(r.els.take len++l).length=len+l.length:=by rw [List.length_append,List.length_take,Nat.min_eq_left hle]
   obtain⟨qN,hA⟩:=hI.set (ob:=(c.β id).ownBlock) (id:=id) (r':=⟨ver,e,sz,r.els.take len++l⟩) (xs:=xs.take (len*sz)++news) q3 (by
    intro g hg
    refine⟨(hbg g hg).1,fun o=>hnS g o hg,fun jO r' kZ m7 hb=>m7 (hI.apart jO id r' r g kZ uU hb hg)⟩) (by simpa only [F7]using q2) (by
     show bF (aM c) (r.els.take len++l).flatten _
     rw [List.flatten_append,(pV ac2 len).1];exact(fU.take _).append g2) (by
     intro u hu
     rcases List.mem_append.1 hu with hu | hu
     ·exact jR u (List.mem_of_mem_take hu)
     ·exact g3 u hu) (by
     intro e' r5
     rcases List.mem_append.1 r5 with r5 | r5
     ·exact ac2 e' (List.mem_of_mem_take r5)
     ·exact hlen e' r5) l5 (by
     intro g hg
     rcases q4 with q4 | q4
     ·exact .inl (by rw [←q4];exact hg)
     ·rw [q4]at hg;cases hg;exact .inr (Nat.le_refl _)) (fun hu=>iG (gE _ hu))
   have hv:aI { c with w:=w',β:=eC c.β id v',rows:=eC c.rows id (some ⟨ver,e,sz,r.els.take len++l⟩),used:=fun v=>v=ver∨c.used v } (.own id ver 0 (len+l.length)) v':=by
    have ac1:∃A' j3,v' = .slice A' (len+l.length) j3:=by
     rcases q2.2 with ⟨rfl,h0⟩ | ⟨g,j3,cur,rfl,_⟩
     ·exact⟨none,0,by rw [h0]⟩
     ·exact⟨_,j3,rfl⟩
    obtain⟨A',j3,rfl⟩:=ac1
    exact mS (r:=⟨ver,e,sz,r.els.take len++l⟩) (by simp [eC]) F7 (Or.inl rfl) (by simp [eC])
   obtain⟨f',rows',hk,DL⟩:=sI (K:=K 1) hr gE hf hG hn fR h qN hA hv hd
   exact run q1 (hK 1 f' rows' _ _ hk (DL.mono fun v hv=>hv.imp (fun h=>⟨rfl,h⟩) fun h=>h))
  ·-- atO cells that stay,its capacity its length
   rename_i l0 heq
   obtain⟨w6,hpl,TM,DK,h⟩:=h
   have hx:=hρ x
   rw [heq]at hx
   simp only [aI,aM,dK]at hx
   obtain⟨A0,hA0,SL,ac3⟩:=hx
   have fin:∀ {v':Value} {w':World},(Builtin.append_ #[t,t] o.type #[a.eval x,a.eval y]).run E.P c.w = .ok v' w' →
     (∃c',c'.w=w'∧c'.rows=c.rows∧c'.used=c.used∧Inv w0 S0 c'∧uT c c'∧aI c' (.sl (l0++l)) v')→o.wp E.P a c.w K' Q:=by
    rintro v' w' jJ ⟨c',rfl,h2,h3,h4,h5,h6⟩
    refine run jJ (hK 0 _ _ _ _ h ?_)
    exact sH hf hG hn fR h5 h4 h6 hd rfl (by rw [h2,hr]) (by rw [h3];exact fun v hv => .inr (gE v hv))
   have ahN:bF (dK c.S c.w) l.flatten news:=by
    refine bF.cZ g2.length fun k p u hp hu=>?_
    obtain⟨u',q1,q2⟩:=g2.get hp
    rw [hu]at q1;cases q1
    have pY:=List.mem_of_getElem? hp
    rw [List.mem_flatten]at pY
    obtain⟨e',r5,yT⟩:=pY
    exact q2.rep (hpl e' r5 p yT)
   by_cases AJ:l = []
   ·subst AJ
    refine fin (v':=.slice A0 l0.length l0.length) (w':=c.w) ?_ ⟨c,rfl,rfl,rfl,hI,uT.refl c,?_⟩
    ·have hn0:news = []:=List.eq_nil_of_length_eq_zero (by simpa using g1)
     subst hn0
     have hfc:(Builtin.firstCells i.size 0 (.slice A 0 cap)).run E.P c.w = .ok #[] c.w:=by
      cases A with
      | none=>simp [Builtin.firstCells]
      | some ad=>simp [Builtin.firstCells,loadCells,loadCellsFrom]
     rw [hA0,hvy]
     cases A0 with
     | none=>simp [Builtin.append_,run_underlying hu,Go.sizeOf,typeInfo,hi,Builtin.lenOf,hfc]
     | some ad0=>simp [Builtin.append_,run_underlying hu,Go.sizeOf,typeInfo,hi,Builtin.lenOf,hfc,storeCells]
    ·simp only [aI,aM,dK,List.append_nil]
     exact⟨A0,_,rfl,Nat.le_refl _,SL,ac3⟩
   ·have atJ:0<l.length:=List.length_pos_iff.2 AJ
    obtain⟨ad,rfl⟩:∃ad,A=some ad:=by
     cases A with
     | none=>exact absurd (g4 rfl) AJ
     | some ad=>exact⟨ad,rfl⟩
    obtain⟨A2,ahL,ahO,hvx,o1,o2,o3,o4,o5⟩:=vM (y:=.jA l0) (vy:=a.eval x) (l:=l0) hI (by simp only [aI,aM,dK];exact⟨A0,hA0,SL,ac3⟩) rfl w6
    rw [hA0]at hvx
    simp only [Value.slice.injEq]at hvx
    obtain⟨rfl,_,rfl⟩:=hvx
    have ahP:bF (dK c.S c.w) l0.flatten ahO:=by
     refine bF.cZ o2.length fun k p u hp hu=>?_
     have pY:=List.mem_of_getElem? hp
     rcases ac3 with rfl | ⟨g,oo,rfl,hre⟩
     ·simp at hp
     ·have aAf:l0.flatten.length=l0.length*sz:=by rw [o2.length,o1]
      have hk:k<l0.length*sz:=by rw [←aAf];exact(List.getElem?_eq_some_iff.1 hp).1
      have hq:k/sz<l0.length:=(Nat.div_lt_iff_lt_mul l5).2 hk
      have nS:=w6 l0[k/sz] (List.getElem_mem hq)
      have hj:k%sz<l0[k/sz].length:=by rw [nS];exact Nat.mod_lt _ l5
      have W4:k/sz*sz+k%sz=k:=by rw [Nat.mul_comm];exact Nat.div_add_mod k sz
      have hfg:=kG w6 (List.getElem?_eq_getElem hq) (List.getElem?_eq_getElem hj)
      rw [W4,hp]at hfg
      cases hfg
      obtain⟨u',r1,_,_,r4⟩:=jB (j2 hre w6 (List.getElem?_eq_getElem hq)) (List.getElem?_eq_getElem hj)
      have:=o5 _ rfl k u hu
      rw [jP]at this
      rw [show oo+k/sz*sz+k%sz=oo+k by omega,this]at r1
      cases r1;exact r4
    have grow:∃v' w',(Builtin.append_ #[t,t] o.type #[a.eval x,a.eval y]).run E.P c.w = .ok v' w'∧w'.ownsRow c.w.heap.size e sz v' (l0.length+l.length) (ahO++news)∧c.w.grownBy w' none:=by
     rw [hA0,hvy]
     cases A0 with
     | some ad0=>exact run_append_arg_grows (P:=E.P) c.w t o.type e i zv sz b hu hi hz hs hby F8 l5 ad0 l0.length l0.length ahO o1 (o5 ad0 rfl) ad l.length cap news g1 (g5 ad rfl) (by omega) (w7 TM) (by simpa [room]using DK)
     | none =>
      have aAg:=o4 rfl
      subst aAg
      have ho0:ahO = []:=List.eq_nil_of_length_eq_zero (by simpa using o1)
      subst ho0
      obtain⟨v',w',q1,q2,q3,_,q5⟩:=run_append_own_at (P:=E.P) c.w c.w.heap.size t o.type e i zv sz b hu hi hz hs hby F8 l5 (.slice none 0 0) 0 [] (World.ownsRow_nil _ _ _ _) ad l.length cap news g1 (g5 ad rfl) g3 (by simpa using w7 TM) (by simpa [room]using DK) (Nat.le_refl _)
      exact⟨v',w',q1,by simpa using q2,q3⟩
    obtain⟨v',w',q1,q2,q3⟩:=grow
    refine fin q1 (TL hI q3 (els:=l0++l) (by simpa using q2) (by rw [List.flatten_append];exact ahP.append ahN) (fun u hu=>?_) (fun e' r5=>?_))
    ·rcases List.mem_append.1 hu with hu | hu
     ·exact o3 u hu
     ·exact g3 u hu
    ·rcases List.mem_append.1 r5 with r5 | r5
     ·exact w6 e' r5
     ·exact hlen e' r5
  ·exact h.elim
 ·exact h.elim
end
section
variable {E:Env} {w0:World} {S0:eG} {n:Nat} {G:Gs}
theorem w8{U:Nat→Prop}{ver:Nat}(iG:¬U ver){o:Oper}{a:Act}{w:World}{f:Nat→PV}{rows:Rows}{K:Nat→(Nat→PV)→Rows→Prop}(h:pI E ver o K f rows)(hR:pU w0 S0 n G U f rows a w)(hd:∀t,o.dst=some t→t<n)
  {K':Act→World→Prop} {Q:Exit→Act→World→Prop} (hK:∀i f' rows' a' w',K i f' rows'→pU w0 S0 n G (fun v=>(i=1∧v=ver)∨U v) f' rows' a' w'→K' a' w'):o.wp E.P a w K' Q:=by
 obtain⟨⟨c,rfl,hr,gE,hI,hf,hG⟩,hn,fR⟩:=hR
 have hρ:=nJ hf
 have hfu:¬c.used ver:=fun hu=>iG (gE _ hu)
 have value:∀ {v':Value} {w':World},(execOp a.eval o).run E.P c.w = .ok (.value v') w'→K' (a.put o.dst v') w'→o.wp E.P a c.w K' Q:=by
  intro v' w' h1 h2
  unfold Oper.wp
  rw [h1]
  exact h2
 have newVar:∀(t:TypeId) (l:List PV) (vx:Value),(E.ty t).known=true→bF (aM c) l vx.cells.toList→(∀u∈vx.cells.toList,u.oneCell'=true)→l.length=(E.ty t).size →
   HO K ver f rows o.dst (.ptr (o.dst.getD 0) ver 0 0) (o.dst.getD 0) t (E.ty t).size [l]→(execOp a.eval o).run E.P c.w = .ok (.value (.pointer (some ⟨c.w.heap.size,0,none⟩))) (c.w.alloc (.cells vx.cells t))→o.wp E.P a c.w K' Q:=by
  intro t l vx hk fU jR hlen hp jJ
  have hz:=(E.ok t).zero hk
  have pP:vx.cells.size=(E.ty t).size:=by rw [←hlen,fU.length];simp
  obtain⟨qN,hA⟩:=y9 hI hfu (o.dst.getD 0) t (E.ty t).size 1 1 [l] vx.cells rfl (Nat.le_refl _) (by simp [maxLen]) (by omega) (by
   simp only [List.flatten_cons,List.flatten_nil,List.append_nil]
   rw [List.take_of_length_le (by simp [pP])];exact fU) jR (by simpa using hlen) hz.pos
  obtain⟨f',rows',yS,DL⟩:=sI (K:=K 1) hr gE hf hG hn fR hp qN hA (acZ (Or.inl rfl) (g:=c.w.heap.size) (n:=1) (cap:=1) (by simp [eC])) hd
  exact value jJ (hK 1 f' rows' _ _ yS (DL.mono fun v hv=>hv.imp (fun h=>⟨rfl,h⟩) fun h=>h))
 obtain⟨dst,op,type,pos,after,guard⟩:=o
 simp only at hd value newVar
 unfold pI at h
 simp only at h
 split at h
 ·-- alloc
  rename_i t
  obtain⟨hk,h⟩:=h
  have hz:=(E.ok t).zero hk
  obtain⟨i,zv,h1,h2,h3,h4,h5,h6⟩:=acY (c:=c) hz
  exact newVar t (E.ty t).zero zv hk h4 h6 rfl h (by simp [execOp,Instr.alloc,zeroValue,typeInfo,h1,h2,Go.newVar,newRow])
 ·-- box
  rename_i t x
  obtain⟨hk,l,hl,jR,hlen,h⟩:=h
  rw [←hr]at jR
  obtain⟨g1,g2⟩:=nZ (hρ x) hl jR
  exact newVar t l (a.eval x) hk g1 g2 hlen h (by simp [execOp,Instr.box,Go.newVar,newRow])
 ·-- makeSlice
  rename_i t l cc
  split at h
  ·rename_i e sz b z k1 x k2 y hE hl hc
   obtain⟨h0,rL,TM,DK,h⟩:=h
   obtain⟨hu,l5,JX,i,zv,hi,hz,hs,hby,TB,hzo⟩:=gI hE
   have g1:=hρ l
   have g2:=hρ cc
   rw [hl,cR]at g1
   rw [hc,cR]at g2
   have F8:zv.cells.size=sz:=by rw [←JX,←TB];simp
   have anH:(i.bytes:Int)*y≤281474976710656:=by
    rw [hby]
    have h3:((y.toNat*b:Nat):Int)≤room:=by exact_mod_cast DK
    have h4:((y.toNat:Nat):Int)=y:=Int.toNat_of_nonneg (by omega)
    rw [Int.natCast_mul,h4]at h3
    simp only [room]at h3
    rw [Int.mul_comm];omega
   have jJ:=run_make (P:=E.P) c.w t e i zv hu hi hz k1 k2 x y h0 rL anH (by simp only [room]at TM;omega)
   have atQ:(execOp a.eval { dst:=dst,op:=.makeSlice t l cc,type:=type,pos:=pos,after:=after,guard:=guard }).run E.P c.w = .ok (.value (.slice (some ⟨c.w.heap.size,0,none⟩) x.toNat y.toNat)) (c.w.alloc (.cells (madeCells zv.cells (y.toNat*i.size)) e)):=by
    simp [execOp,g1,g2,jJ]
   have atS:bF (aM c) z zv.cells.toList:=by
    rw [←TB]
    refine bF.cZ (by simp) fun k p u hp hu=>?_
    simp at hp
    obtain⟨q,hq,rfl⟩:=hp
    have:zv.cells.toList[k]? = some q:=by simpa using hq
    rw [this]at hu;cases hu
    exact l6 _
   have hle:x.toNat*sz≤y.toNat*sz:=Nat.mul_le_mul_right _ (by omega)
   have hL:((madeCells zv.cells (y.toNat*i.size)).toList.take (x.toNat*sz)).length=x.toNat*sz:=by
    rw [List.length_take,Array.length_toList,size_madeCells,hs];exact Nat.min_eq_left hle
   obtain⟨qN,hA⟩:=y9 hI hfu (dst.getD 0) e sz x.toNat y.toNat (List.replicate x.toNat z) (madeCells zv.cells (y.toNat*i.size)) (by simp) (by omega) (w7 TM) (by rw [size_madeCells,hs]) (by
    refine bF.cZ (by rw [hL];simp [JX]) fun k p u hp hu=>?_
    have hk:=(List.getElem?_eq_some_iff.1 hu).1
    rw [hL]at hk
    rw [List.getElem?_take,if_pos (by omega),vB (by rw [hs];omega) (by omega)]at hu
    have yT:=lY hp
    rw [JX,←F8]at yT
    obtain⟨u',q1,q2⟩:=atS.get yT
    rw [hu]at q1;cases q1;exact q2) (by
    intro u hu
    obtain⟨k,hk⟩:=List.getElem?_of_mem hu
    have yS:=(List.getElem?_eq_some_iff.1 hk).1
    simp [size_madeCells]at yS
    rw [vB yS (by omega)]at hk
    have:=List.mem_of_getElem? hk
    exact(Array.all_eq_true_iff_forall_mem.1 hzo) u (by simpa using this)) (by
    intro e' r5
    rw [List.mem_replicate]at r5
    rw [r5.2,JX]) l5
   obtain⟨f',rows',yS,DL⟩:=sI (K:=K 1) hr gE hf hG hn fR h qN hA (mS (r:=⟨ver,e,sz,List.replicate x.toNat z⟩) (A:=some ⟨c.w.heap.size,0,none⟩) (cap:=y.toNat) (by simp [eC]) (by simp) (Or.inl rfl) (by simp [eC])) hd
   exact value atQ (hK 1 f' rows' _ _ yS (DL.mono fun v hv=>hv.imp (fun h=>⟨rfl,h⟩) fun h=>h))
  ·exact h.elim
 ·-- append
  rename_i x y t t2
  obtain⟨ht2,h⟩:=h
  exact DJ iG rfl ht2 hI hr gE hf hG hn fR hd h hK
 ·exact h.elim
theorem AM{o:Oper}{a:Act}{w:World}{σ:PS}{K:PS→Prop}(h:fJ E o K σ)(hR:Rel w0 S0 n G σ a w)(hd:∀t,o.dst=some t→t<n)
  {K':Act→World→Prop} {Q:Exit→Act→World→Prop} (hK:∀σ' a' w',K σ'→Rel w0 S0 n G σ' a' w'→K' a' w'):o.wp E.P a w K' Q:=by
 obtain⟨⟨c,rfl,hr,gE,hI,hf,hG⟩,hn,fR⟩:=hR
 have hρ:=nJ hf
 have value:∀ {v':Value} {w':World},(execOp a.eval o).run E.P c.w = .ok (.value v') w'→K' (a.put o.dst v') w'→o.wp E.P a c.w K' Q:=by
  intro v' w' h1 h2
  unfold Oper.wp
  rw [h1]
  exact h2
 have atT:(∃v u,ys E o.op (aS σ.f) σ.rows v u∧K ⟨put σ.f o.dst v,eS σ.rows u,σ.clock⟩)→o.wp E.P a c.w K' Q:=by
  rintro⟨v,u,hy,hk⟩
  rw [←hr]at hy
  refine NZ hI hf hy fun v' c' h1 h2 h3 h4 h5=>hK _ _ _ hk ?_
  exact NX (fun s=>h3 _ _ (hf s)) (fun p hp=>h3 _ _ (hG p hp)) hn fR h4 h5 hd rfl (by simp [h1,hr]) (by rw [h2];exact gE)
 have nw:pI E σ.clock o (fun i f r=>K ⟨f,r,σ.clock+i⟩) σ.f σ.rows→o.wp E.P a c.w K' Q:=fun hp =>
  w8 (U:=fun v=>v<σ.clock) (Nat.lt_irrefl _) hp ⟨⟨c,rfl,hr,gE,hI,hf,hG⟩,hn,fR⟩ hd fun i f' rows' a' w' hk DL=>hK _ _ _ hk (DL.mono fun v hv=>by
   show v<σ.clock+i
   rcases hv with ⟨rfl,rfl⟩ | hv
   ·omega
   ·have:v<σ.clock:=hv
    omega)
 obtain⟨dst,op,type,pos,after,guard⟩:=o
 simp only at hd value atT nw
 unfold fJ at h
 simp only at h
 split at h
 ·-- alloc
  rename_i t
  exact nw (show pI E σ.clock _ _ σ.f σ.rows from h)
 ·-- box
  rename_i t x
  exact nw (show pI E σ.clock _ _ σ.f σ.rows from h)
 ·-- makeSlice
  rename_i t l cc
  refine nw (show pI E σ.clock _ _ σ.f σ.rows from ?_)
  unfold pI
  simp only
  split at h
  ·exact h
  ·exact h.elim
 ·-- append
  rename_i x y t t2
  obtain⟨ht2,h⟩:=h
  refine nw (show pI E σ.clock _ _ σ.f σ.rows from⟨ht2,?_⟩)
  unfold J5 at h
  unfold pW
  split at h
  ·obtain⟨l,g1,g2,g3⟩:=h
   refine⟨l,g1,g2,?_⟩
   split at g3<;>exact g3
  ·exact h
 ·-- a call
  rename_i fo args ts
  have fB:bF (aI c) (args.toList.map fun x=>aS σ.f x) (args.map a.eval).toList:=by
   refine bF.cZ (by simp) fun k p u hp hu=>?_
   simp at hp hu
   obtain⟨x,hx,rfl⟩:=hp
   obtain⟨y,hy,rfl⟩:=hu
   rw [hx]at hy;cases hy
   exact hρ x
  split at h
  ·have hfo:=hρ fo
   unfold TF at h
   split at h
   ·rename_i g heq
    rw [heq]at hfo
    obtain⟨R,⟨⟨fn,b,h1,h2,h3⟩,TH⟩,hk⟩:=h
    simp only [aI,aM,dK]at hfo
    obtain⟨cs,hfv,GK⟩:=hfo
    simp only [bP]at GK
    subst GK
    have nE:=TH w0 S0 c _ (fun p=>p∈G ∨ ∃s,p=(σ.f s,a.tmps.getD s undef)) hI hr gE fB (by
     rintro p (hp | ⟨s,rfl⟩)
     ·exact hG p hp
     ·exact hf s)
    simp only [Array.toArray_toList]at nE
    unfold Oper.wp
    have jJ:(execOp a.eval { dst:=dst,op:=.call { callee:=.value fo,args:=args,argTypes:=ts },type:=type,pos:=pos,after:=after,guard:=guard }).run E.P c.w = .ok (.enter g (args.map a.eval)) c.w:=by
     simp only [execOp,resolve,hfv,Deferred.ofValue,Sem.run_bind,Sem.run_pure,Result.andThen_ok,invoke]
     simpa using k8 h1 h2 h3 (args.map a.eval) c.w
    rw [jJ]
    refine nE.mono ?_
    rintro e w' ⟨v',c',r,iM,rfl,rfl,qN,W1,lZ,aak,hv'⟩
    refine hK _ _ _ (hk _ _ _ lZ) ?_
    exact NX (fun s=>W1 (σ.f s,a.tmps.getD s undef) (.inr ⟨s,rfl⟩)) (fun p hp=>W1 p (.inl hp)) hn fR qN hv' hd rfl rfl aak
   ·exact h.elim
  obtain⟨v,hc,hp,hk⟩:=h
  rw [←hr]at hc hp hk
  have GI:AH E (aS σ.f fo) ((args.toList.map fun x=>aS σ.f x).map (pz c.rows)) v:=by rw [List.map_map];exact hc
  obtain⟨g,cs,h1,h2,h3⟩:=AK hI (ids:=args.toList.flatMap fun x=>eB (aS σ.f x)) hp (hρ fo) fB (by
   intro p hp id gL
   simp at hp
   obtain⟨x,hx,rfl⟩:=hp
   simp only [List.mem_flatMap];exact⟨x,by simpa using hx,gL⟩) GI (K:=fun v' w'=>K' (a.put dst v') w') (fun v' c' q1 q2 q3 q4 q5=>hK _ _ _ hk (tR hf hG hn fR q3 q4 q5 hd rfl (by simp [q1]) (by rw [q2];exact gE)))
  unfold Oper.wp
  have jJ:(execOp a.eval { dst:=dst,op:=.call { callee:=.value fo,args:=args,argTypes:=ts },type:=type,pos:=pos,after:=after,guard:=guard }).run E.P c.w = .ok (.enter g (args.map a.eval++cs)) c.w:=by
   simp only [execOp,resolve,h1,Deferred.ofValue,Sem.run_bind,Sem.run_pure,Result.andThen_ok,invoke]
   simp only [Array.toArray_toList]at h2
   simpa only [Array.empty_append]using h2
  rw [jJ]
  simp only [Array.toArray_toList]at h3
  exact h3.mono fun e w' ⟨v',he,hk⟩=>by subst he;exact hk
 ·-- a closure
  rename_i g caps
  obtain⟨vA,hp,hk⟩:=h
  rw [←hr]at vA hp hk
  have M8:=hI.freeze (caps.toList.flatMap fun x=>eB (aS σ.f x))
  refine value (v':=.func (.func g) #[] (caps.map a.eval)) (w':=c.w) (by simp [execOp,Instr.makeFunc]) (hK _ _ _ hk ?_)
  refine tR (c':=F6 c (caps.toList.flatMap fun x=>eB (aS σ.f x))) hf hG hn fR (nK c _) M8 ?_ hd rfl (by simp [F6]) gE
  simp only [aI,aM,dK]
  refine⟨(caps.map a.eval).toList,by rw [Array.toArray_toList],cS.2 (bF.cZ (by simp) fun k p u yT hu=>?_)⟩
  simp at yT hu
  obtain⟨x,hx,rfl⟩:=yT
  obtain⟨y,hy,rfl⟩:=hu
  rw [hx]at hy;cases hy
  have pY:x∈caps.toList:=by simpa using Array.mem_of_getElem? hx
  exact JW hI hp (hρ x) (fun id gL=>by simp only [List.mem_flatMap];exact⟨x,pY,gL⟩) (List.all_eq_true.1 vA _ (by simp;exact⟨x,by simpa using pY,rfl⟩))
 ·exact atT h
end
def iW(op:Op)(ρ:Operand→PV):List Nat:=
 match op with
 | .load _ p=>aU (ρ p)
 | .fieldAddr _ x _=>aU (ρ x)
 | .indexAddr _ x _=>aU (ρ x)
 | .slice _ x _ _ _=>aU (ρ x)
 | .store _ p x=>aU (ρ p)++((cQ (ρ x)).getD []).flatMap aU
 | .call { callee:=.builtin .len,args:=⟨[x]⟩,argTypes:=⟨[_]⟩ }=>aU (ρ x)
 | .call { callee:=.builtin .append,args:=⟨[x,y]⟩,argTypes:=⟨[_,_]⟩ }=>aU (ρ x)++aU (ρ y)
 | .call { callee:=.builtin .copy,args:=⟨[x,y]⟩,argTypes:=⟨[_,_]⟩ }=>aU (ρ x)++aU (ρ y)
 | .nilCheck x=>aU (ρ x)
 | .call { callee:=.value _,args:=args,argTypes:=_ }=>args.toList.flatMap fun x=>aU (ρ x)
 | _=>[]
theorem aar{p:PV}(h:eB p = []):aU p = []:=by
 cases p with
 | ag l=>rfl
 | _=>exact h
theorem HP{p:PV}(h:dI p=true):aU p = []:=by cases p<;>simp_all [dI,bL,aU]
theorem W7{l:List Operand}{ρ:Operand→PV}(h:(l.flatMap fun x=>eB (ρ x)) = []):(l.flatMap fun x=>aU (ρ x)) = []:=
 List.flatMap_eq_nil_iff.2 fun x hx=>aar (List.flatMap_eq_nil_iff.1 h x hx)
theorem W8{l:List Operand}{ρ:Operand→PV}(h:(l.map fun x=>ρ x).all dI=true):(l.flatMap fun x=>aU (ρ x)) = []:=
 List.flatMap_eq_nil_iff.2 fun x hx=>HP (List.all_eq_true.1 h _ (List.mem_map.2 ⟨x,hx,rfl⟩))
def j5(ids:List Nat)(rows rows':Rows):Prop:=∀id∈ids,∀r,rows id=some r→rows' id=some r
section
variable {E:Env}
theorem J6{rows rows':Rows}{p:PV}(h:aU p = []):fz rows p=fz rows' p:=by cases p<;>simp_all [fz,aU]
theorem ahQ{rows rows':Rows}{p:PV}(h:eB p = []):pz rows p=pz rows' p:=by
 cases p with
 | ag l =>
  simp only [eB,List.flatMap_eq_nil_iff]at h
  simp only [pz]
  congr 1
  exact List.map_congr_left fun q hq=>J6 (h q hq)
 | _=>simp only [pz,eB]at h ⊢;exact J6 h
theorem J7{rows rows':Rows}{p:PV}(h:j5 (aU p) rows rows')(ho:iT rows p):iT rows' p:=by
 cases p with
 | own id ver off len=>obtain⟨r,hr,hv⟩:=ho;exact⟨r,h id (by simp [aU]) r hr,hv⟩
 | ptr id ver i j=>obtain⟨r,hr,hv⟩:=ho;exact⟨r,h id (by simp [aU]) r hr,hv⟩
 | _=>exact ho
theorem aas{rows:Rows}{p:PV}(ho:iT rows p):∀id∈aU p,∃r,rows id=some r:=by
 intro id gL
 cases p with
 | own jO ver off len=>simp [aU]at gL;subst gL;obtain⟨r,hr,_⟩:=ho;exact⟨r,hr⟩
 | ptr jO ver i j=>simp [aU]at gL;subst gL;obtain⟨r,hr,_⟩:=ho;exact⟨r,hr⟩
 | _=>simp [aU]at gL
theorem ac4{t:TypeId}{rows rows':Rows}{p v:PV}(h:j5 (aU p) rows rows')(hy:u0 E t rows p v):u0 E t rows' p v ∧ ∀id∈aU p,∃r,rows id=some r:=by
 obtain⟨hk,hy⟩:=hy
 cases p with
 | ptr id ver i j =>
  obtain⟨r,hr,hh⟩:=hy
  exact⟨⟨hk,r,h id (by simp [aU]) r hr,hh⟩,by simp [aU];exact⟨r,hr⟩⟩
 | rd l=>exact⟨⟨hk,hy⟩,by simp [aU]⟩
 | _=>exact hy.elim
theorem GO{t:TypeId}{i:Nat}{rows rows':Rows}{x v:PV}(h:j5 (aU x) rows rows')(hy:gG E t rows i x v):gG E t rows' i x v ∧ ∀id∈aU x,∃r,rows id=some r:=by
 unfold gG at *
 split at hy
 ·rename_i fs z hE
  obtain⟨o,n,b,hf,hy⟩:=hy
  cases x with
  | ptr id ver a j =>
   obtain⟨⟨r,hr,hv⟩,hh⟩:=hy
   exact⟨⟨o,n,b,hf,⟨r,h id (by simp [aU]) r hr,hv⟩,hh⟩,by simp [aU];exact⟨r,hr⟩⟩
  | rd l=>exact⟨⟨o,n,b,hf,hy⟩,by simp [aU]⟩
  | _=>exact hy.elim
 ·exact hy.elim
theorem GP{t:TypeId}{rows rows':Rows}{x ix v:PV}(h:j5 (aU x) rows rows')(hy:gH E t rows x ix v):gH E t rows' x ix v ∧ ∀id∈aU x,∃r,rows id=some r:=by
 unfold gH at *
 split at hy
 ·split at hy
  ·obtain⟨h0,hy⟩:=hy
   cases x with
   | own id ver off len =>
    obtain⟨r,hr,hh⟩:=hy
    exact⟨⟨h0,r,h id (by simp [aU]) r hr,hh⟩,by simp [aU];exact⟨r,hr⟩⟩
   | sl l=>exact⟨⟨h0,hy⟩,by simp [aU]⟩
   | jA l=>exact⟨⟨h0,hy⟩,by simp [aU]⟩
   | _=>exact hy.elim
  ·exact hy.elim
 ·split at hy
  ·obtain⟨h0,hy⟩:=hy
   cases x with
   | ptr id ver a j =>
    obtain⟨⟨r,hr,hv⟩,hh⟩:=hy
    exact⟨⟨h0,⟨r,h id (by simp [aU]) r hr,hv⟩,hh⟩,by simp [aU];exact⟨r,hr⟩⟩
   | rd l=>exact⟨⟨h0,hy⟩,by simp [aU]⟩
   | _=>exact hy.elim
  ·exact hy.elim
 ·exact hy.elim
theorem aat{t:TypeId}{rows rows':Rows}{x v:PV}{lo hi mx:Option PV}(h:j5 (aU x) rows rows')(hy:pG E t rows x lo hi mx v):pG E t rows' x lo hi mx v ∧ ∀id∈aU x,∃r,rows id=some r:=by
 unfold pG at *
 split at hy
 ·cases x with
  | own id ver off len =>
   obtain⟨r,hr,hh⟩:=hy
   exact⟨⟨r,h id (by simp [aU]) r hr,hh⟩,by simp [aU];exact⟨r,hr⟩⟩
  | nil=>exact⟨hy,by simp [aU]⟩
  | sl l=>exact⟨hy,by simp [aU]⟩
  | jA l=>exact⟨hy,by simp [aU]⟩
  | _=>exact hy.elim
 ·exact hy.elim
theorem ahR{rows rows':Rows}{x:PV}{n:Nat}(h:j5 (aU x) rows rows')(hy:aaf rows x n):aaf rows' x n ∧ ∀id∈aU x,∃r,rows id=some r:=by
 unfold aaf at *
 cases x with
 | own id ver off len =>
  obtain⟨⟨r,hr,hv⟩,hh⟩:=hy
  exact⟨⟨⟨r,h id (by simp [aU]) r hr,hv⟩,hh⟩,by simp [aU];exact⟨r,hr⟩⟩
 | nil=>exact⟨hy,by simp [aU]⟩
 | sl l=>exact⟨hy,by simp [aU]⟩
 | jA l=>exact⟨hy,by simp [aU]⟩
 | _=>exact hy.elim
theorem ahS{rows rows':Rows}{x v:PV}(h:j5 (aU x) rows rows')(hy:GH rows x v):GH rows' x v ∧ ∀id∈aU x,∃r,rows id=some r:=by
 unfold GH at *
 cases x with
 | ptr id ver i j =>
  obtain⟨⟨r,hr,hv⟩,hh⟩:=hy
  exact⟨⟨⟨r,h id (by simp [aU]) r hr,hv⟩,hh⟩,by simp [aU];exact⟨r,hr⟩⟩
 | rd l=>exact⟨hy,by simp [aU]⟩
 | _=>exact hy.elim
theorem aau{t:TypeId}{rows rows':Rows}{p x v:PV}{u:Option (Nat × Row)}(h:j5 (aU p++((cQ x).getD []).flatMap aU) rows rows')(hy:sF E t rows p x v u) :
  sF E t rows' p x v u∧(∀id∈aU p++((cQ x).getD []).flatMap aU,∃r,rows id=some r) ∧ ∃id r,u=some (id,r)∧id∈aU p:=by
 obtain⟨hk,hv,hy⟩:=hy
 cases p with
 | ptr id ver i j =>
  obtain⟨r,hr,j4,el,nS,l,hl,jR,hh1,hh2,hh3⟩:=hy
  rw [hl]at h ⊢
  simp only [Option.getD_some]at h ⊢
  refine⟨⟨hk,hv,r,h id (by simp [aU]) r hr,j4,el,nS,l,hl,fun q hq=>J7 (fun jO DA=>h jO ?_) (jR q hq),hh1,hh2,hh3⟩,?_,?_⟩
  ·simp only [List.mem_append,List.mem_flatMap];exact .inr ⟨q,hq,DA⟩
  ·intro jO DA
   simp only [List.mem_append,List.mem_flatMap]at DA
   rcases DA with DA | ⟨q,hq,DA⟩
   ·simp [aU]at DA;subst DA;exact⟨r,hr⟩
   ·exact aas (jR q hq) jO DA
  ·exact⟨id,_,hh3,by simp [aU]⟩
 | _=>exact hy.elim
theorem W9{rows rows':Rows}{y:PV}{l:List (List PV)}(h:j5 (aU y) rows rows')(hy:sG rows y l):sG rows' y l ∧ ∀id∈aU y,∃r,rows id=some r:=by
 unfold sG at *
 cases y with
 | own id ver off len =>
  obtain⟨r,hr,hh⟩:=hy
  exact⟨⟨r,h id (by simp [aU]) r hr,hh⟩,by simp [aU];exact⟨r,hr⟩⟩
 | nil=>exact⟨hy,by simp [aU]⟩
 | sl l=>exact⟨hy,by simp [aU]⟩
 | jA l=>exact⟨hy,by simp [aU]⟩
 | _=>exact hy.elim
theorem ac5{t:TI}{rows rows':Rows}{x y v:PV}{u:Option (Nat × Row)}(h:j5 (aU x++aU y) rows rows')(hy:u7 t rows x y v u):u7 t rows' x y v u∧(∀id∈aU x++aU y,∃r,rows id=some r) ∧ ∀id r,u=some (id,r)→id∈aU x++aU y:=by
 unfold u7 at *
 split at hy
 ·rename_i e n b z id ver off len
  obtain⟨r,h1,h2,h3,h4,l,h5,h6,h7,rfl⟩:=hy
  obtain⟨g1,g2⟩:=W9 (fun id gL=>h id (by simp only [List.mem_append];exact .inr gL)) h5
  refine⟨⟨r,h id (by simp [aU]) r h1,h2,h3,h4,l,g1,h6,h7,rfl⟩,fun jO gL=>?_,fun jO r' hu=>?_⟩
  ·simp only [aU,List.mem_append,List.mem_cons,List.not_mem_nil,or_false]at gL
   rcases gL with rfl | gL
   ·exact⟨r,h1⟩
   ·exact g2 jO gL
  ·simp only [Option.some.injEq,Prod.mk.injEq]at hu
   simp [aU,hu.1]
 ·exact hy.elim
theorem ak2{op:Op}{ρ:Operand→PV}{rows rows':Rows}{v:PV}{u:Option (Nat × Row)}(h:j5 (iW op ρ) rows rows')(hy:ys E op ρ rows v u) :
  ys E op ρ rows' v u∧(∀id∈iW op ρ,∃r,rows id=some r) ∧ ∀id r,u=some (id,r)→id∈iW op ρ:=by
 unfold ys at hy ⊢
 split at hy
 ·exact ac5 h hy
 ·rename_i t p x
  obtain⟨h1,h2,id,r,h3,h4⟩:=aau h hy
  exact⟨h1,h2,fun jO r' hu=>by rw [h3]at hu;cases hu;simp only [iW,List.mem_append];exact .inl h4⟩
 ·rename_i t len parts
  obtain⟨hy,rfl⟩:=hy
  unfold TE at hy ⊢
  split at hy
  ·obtain⟨els,h1,h2,h3,h4,h5,h6,rfl⟩:=hy
   have hfz:∀e∈els,∀p∈e,fz rows p=fz rows' p:=fun e he p hp=>J6 (h6 e he p hp)
   refine⟨⟨⟨els,h1,h2,h3,h4,fun e he p hp=>⟨by rw [←hfz e he p hp];exact(h5 e he p hp).1,J7 (by rw [h6 e he p hp];intro id gL;cases gL) (h5 e he p hp).2⟩,h6,?_⟩,rfl⟩,by simp [iW],by simp⟩
   congr 1
   exact List.map_congr_left fun e he=>List.map_congr_left fun p hp=>hfz e he p hp
  ·exact hy.elim
 ·rename_i f args ts
  by_cases hm:wZ E (ρ f)=true
  ·rw [if_pos hm]at hy ⊢
   simp only [iW]at h ⊢
   have hfl:(args.toList.flatMap fun x=>aU (ρ x))=(args.toList.map fun x=>ρ x).flatMap aU:=by rw [List.flatMap_map]
   rw [hfl]at h ⊢
   generalize (args.toList.map fun x=>ρ x)=fE at *
   unfold NU at hy ⊢
   split at hy
   ·rename_i g id ver i j rest atL
    obtain⟨h1,e,n,core,eI,h2,h3,h4,h5,rfl⟩:=hy
    have acO:rest.flatMap aU = []:=List.flatMap_eq_nil_iff.2 fun x hx=>HP (List.all_eq_true.1 h1.2.2.1 x hx)
    refine⟨⟨h1,e,n,core,eI,h id (by simp [aU]) _ h2,h3,h4,h5,rfl⟩,fun jO gL=>?_,fun jO r' hu=>?_⟩
    ·simp only [List.flatMap_cons,acO,aU,List.append_nil,List.mem_cons,List.not_mem_nil,or_false]at gL
     subst gL
     exact⟨_,h2⟩
    ·simp only [Option.some.injEq,Prod.mk.injEq]at hu
     simp [aU,hu.1]
   ·exact hy.elim
  rw [if_neg hm]at hy ⊢
  obtain⟨rfl,h1,h2⟩:=hy
  refine⟨⟨rfl,?_,h2⟩,by simp [iW,W7 h2],by simp⟩
  have:(args.toList.map fun x=>pz rows (ρ x))=args.toList.map fun x=>pz rows' (ρ x):=
   List.map_congr_left fun x hx=>ahQ (List.flatMap_eq_nil_iff.1 h2 x hx)
  rw [←this];exact h1
 ·obtain⟨hy,rfl⟩:=hy
  suffices hs:yv E op ρ rows' v ∧ ∀id∈iW op ρ,∃r,rows id=some r from⟨⟨hs.1,rfl⟩,hs.2,by simp⟩
  unfold yv at hy ⊢
  split at hy
  case h_8=>exact ac4 h hy
  case h_10=>exact GO h hy
  case h_11=>exact GP h hy
  case h_12=>exact aat h hy
  case h_16 =>
   simp only [iW]at h ⊢
   unfold AB at hy ⊢
   split at hy
   ·obtain⟨n,hn,hv⟩:=hy
    have:=ahR (rows':=rows') h hn
    exact⟨⟨n,this.1,hv⟩,this.2⟩
   ·exact hy.elim
  case h_19=>exact ahS h hy
  all_goals first
   | exact hy.elim
   | exact⟨hy,by simp [iW]⟩
end
end Pm
