import Derived.Laws.CopyOwn
import Derived.ArgAppend
import Derived.Test.YtiobceocpabjdaaGreatNaa
set_option linter.unusedSimpArgs false
set_option linter.unusedVariables false
namespace Pm
open Go Go.RowKit
variable {ids:List Nat}{id n cap i j k ver:Nat}{r:Row}{g:FuncId}{p v y:PV}{P:Program}{args core z:List PV}{e t t2:TypeId}{l els i5:List (List PV)}{c c':Cx}{o:Oper}{rows rows':Rows}{u:Option (Nat × Row)}{vx v' vy:Value}{ρ:Operand->PV}{U:Nat->Prop}{f f':Nat->PV}{a:Act}{w w':World}{d:Option Tmp}{σ:PS}{Q:Exit->Act->World->Prop}{A:Option Addr}{xs:List Value}{K':Act->World->Prop}
def LN(rows:Rows)(ids:List Nat):Rows:=fun j=>if j∈ids then none else rows j
def W9(c:Cx)(ids:List Nat):eU:=fun b o=>c.S b o ∨ ∃id∈ids,(∃r,c.rows id=some r)∧(c.β id).ownBlock=some b
section
variable {E:Env} {c:Cx} {w0:World} {S0:eU}
def J5(c:Cx)(ids:List Nat):Cx:={ c with S:=W9 c ids,rows:=LN c.rows ids }
theorem lV(c:Cx)(ids:List Nat):xW c (J5 c ids):=
 ⟨fun _ _ h => .inl h,fun _ _ _=>rfl,fun _ h=>h,fun id r hr=>by
  simp only [J5,LN]at hr |-
  split at hr
  ·cases hr
  ·exact .inr ⟨r,hr,rfl,rfl,rfl,by first | rfl | trivial⟩⟩
theorem Inv.freeze(hI:Inv w0 S0 c)(ids:List Nat):Inv w0 S0 (J5 c ids):=by
 have live:∀ {k:Nat} {t:Row},LN c.rows ids k=some t->c.rows k=some t∧k ∉ ids:=by
  intro k t h
  simp only [LN]at h
  split at h
  ·cases h
  ·rename_i hk;exact⟨h,hk⟩
 have aCl:∀ {id:Nat} {r:Row} {g:Nat},c.rows id=some r->(c.β id).ownBlock=some g->w0.heap.size<=g∧g<c.w.heap.size:=by
  intro id r g hr hg
  obtain⟨⟨ys,g1,_,_⟩,_⟩:=hI.row id r hr
  exact g1.lt g hg
 refine⟨hI.below,fun b o h => .inl (hI.ext b o h),fun b o h=>?_,hI.lt0,fun id r hr=>hI.clock id r (live hr).1,fun id r hr=>?_,fun i j r s g hr hs=>hI.apart i j r s g (live hr).1 (live hs).1,hI.fin⟩
 ·rcases h with h | ⟨id,_,⟨r,hr⟩,hb⟩
  ·exact hI.new b o h
  ·exact .inr (aCl hr hb)
 ·obtain⟨jO,hk⟩:=live hr
  obtain⟨⟨ys,g1,g2,g3⟩,g4,g5,g6⟩:=hI.row id r jO
  refine⟨⟨ys,g1,g2.mono (aM.tB (lV c ids)),g3⟩,g4,fun g o hg hS=>?_,g6⟩
  rcases hS with h | ⟨lC,G1,⟨r',bS⟩,hb⟩
  ·exact g5 g o hg h
  ·have:=hI.apart id lC r r' g jO bS hg hb
   subst this
   exact hk G1
theorem aaL(hI:Inv w0 S0 c)(hp:∀id∈ids,∀r,c.rows id=some r -> ∀e∈r.els,∀p∈e,bE p=true)(iH:id∈ids)(hr:c.rows id=some r)
  {g:Nat} (hβ:c.β id = .slice (some ⟨g,0,none⟩) n cap) {el:List PV} (hi:r.els[i]? = some el) (hj:el[j]? = some p) :
  ∃v,c.w.cell? ⟨g,i*r.size+j,none⟩=some v∧W9 c ids g (i*r.size+j)∧v.oneCell'=true∧dY (W9 c ids) c.w p v:=by
 obtain⟨v,h1,h2,h3⟩:=AJ hI hr hβ hi hj
 refine⟨v,h1, .inr ⟨id,iH,⟨r,hr⟩,by simp [hβ,Value.ownBlock]⟩,h2,?_⟩
 have h4:=h3.rep (hp id iH r hr el (List.mem_of_getElem? hi) p (List.mem_of_getElem? hj))
 exact dY.mono (fun _ _ h => .inl h) (fun _ _ _=>rfl) _ _ h4
theorem G2(hI:Inv w0 S0 c)(hp:∀id∈ids,∀r,c.rows id=some r -> ∀e∈r.els,∀p∈e,bE p=true){v:Value}(h:aM c p v)(xX:∀id∈a9 p,id∈ids)(yE:bE (fz c.rows p)=true) :
  dY (W9 c ids) c.w (fz c.rows p) v:=by
 have mono:∀q u,dY c.S c.w q u->dY (W9 c ids) c.w q u:=fun q u=>dY.mono (fun _ _ h => .inl h) (fun _ _ _=>rfl) q u
 cases p with
 | own id ver off len =>
  simp only [fz]at yE |-
  have iH:id∈ids:=xX id (by simp [a9])
  cases hr:c.rows id with
  | none=>simp [hr,bE]at yE
  | some r =>
   simp only [hr]at yE |-
   by_cases hv:r.ver=ver
   ·simp only [hv,if_true]at yE |-
    simp only [aM]at h
    obtain⟨hle,h⟩:=h.2 r hr hv
    obtain⟨⟨xs,lH,_,_⟩,hlen,_⟩:=hI.row id r hr
    have akx:∀A m cap,c.β id = .slice A m cap->r.els.length<=cap∧cap<=maxLen:=by
     intro A m cap hβ
     rw [hβ]at lH
     rcases lH.2 with ⟨h',hz⟩ | ⟨g,l7,cur,h',_,_,W5,hm,_⟩
     ·simp at h';exact⟨aA,by rw [h'.2.2];simp⟩
     ·simp at h';obtain⟨_,_,rfl⟩:=h';exact⟨W5,hm⟩
    have D8:((r.els.drop off).take len).length=len:=by simp;omega
    have els:∀g n cap,c.β id = .slice (some ⟨g,0,none⟩) n cap->iJ (W9 c ids) c.w g (off*r.size) ((r.els.drop off).take len):=by
     intro g n cap hβ
     refine sM (n:=r.size) (fun e he=>hlen e (List.mem_of_mem_drop (List.mem_of_mem_take he))) fun k e hk=>?_
     rw [List.getElem?_take]at hk
     split at hk
     ·rw [List.getElem?_drop]at hk
      refine mE fun j q hq=>?_
      have:=aaL hI hp iH hr hβ hk hq
      rw [show off*r.size+k*r.size+j=(off+k)*r.size+j by rw [Nat.add_mul]];exact this
     ·cases hk
    simp only [dY]
    rw [D8]
    rcases h with ⟨rfl,A,n,cap,hβ,rfl⟩ | ⟨mX,g,n,cap,A,hβ,hoc,rfl,ha⟩
    ·obtain⟨c1,c2⟩:=akx _ _ _ hβ
     refine⟨A,cap,rfl,aA,c2,?_⟩
     rcases Nat.eq_zero_or_pos len with h0 | h0
     ·left;exact List.eq_nil_of_length_eq_zero (by rw [D8];exact h0)
     ·right
      obtain⟨g,l7,vB⟩:=vA hI hr aA
      rw [hβ]at vB
      simp only [Value.slice.injEq]at vB
      obtain⟨rfl,rfl,rfl⟩:=vB
      exact⟨g,0,rfl,by simpa using els g _ _ hβ⟩
    ·obtain⟨c1,c2⟩:=akx _ _ _ hβ
     refine⟨some A,cap-off,rfl,aA,aA,?_⟩
     rcases ha with rfl | rfl
     ·left;exact List.eq_nil_of_length_eq_zero D8
     ·right;exact⟨g,off*r.size,rfl,els g n cap hβ⟩
   ·simp [hv,bE]at yE
 | ptr id ver i j =>
  simp only [fz]at yE |-
  have iH:id∈ids:=xX id (by simp [a9])
  cases hr:c.rows id with
  | none=>simp [hr,bE]at yE
  | some r =>
   simp only [hr]at yE |-
   by_cases hv:r.ver=ver
   ·simp only [hv,if_true]at yE |-
    simp only [aM]at h
    obtain⟨g,n,cap,hβ,rfl⟩:=h.2 r hr hv
    simp only [dY]
    refine⟨g,i*r.size+j,rfl,mE fun k q hq=>?_⟩
    rw [List.getElem?_drop]at hq
    cases pS:r.els[i]? with
    | none=>simp [List.getD,pS]at hq
    | some el =>
     have hq':el[j+k]? = some q:=by simpa [List.getD,pS]using hq
     have:=aaL hI hp iH hr hβ pS hq'
     rw [show i*r.size+j+k=i*r.size+(j+k)by omega];exact this
   ·simp [hv,bE]at yE
 | nil =>
  simp only [aM,dY]at h
  subst h
  simp only [fz,dY]
  exact⟨none,0,rfl,aG,by simp [maxLen], .inl (by first | rfl | trivial)⟩
 | kJ l =>
  simp only [fz]
  have:=mono _ _ (show dY c.S c.w (.kJ l) v by simpa only [aM]using h)
  simp only [dY]at this |-
  obtain⟨A,rfl,h1,h2⟩:=this
  exact⟨A,l.length,rfl,Nat.le_refl _,h1,h2⟩
 | undef=>simp [fz,bE]at yE
 | sL=>simp [fz,bE]at yE
 | rC=>simp [fz,bE]at yE
 | _=>simp only [fz];exact mono _ _ (by simpa only [aM]using h)
theorem N4(hI:Inv w0 S0 c)(hp:∀id∈ids,∀r,c.rows id=some r -> ∀e∈r.els,∀p∈e,bE p=true){v:Value}(h:aK c p v)(xX:∀id∈eK p,id∈ids)(yE:cY (pz c.rows p)=true) :
  dY (W9 c ids) c.w (pz c.rows p) v:=by
 cases p with
 | ag l =>
  obtain⟨vs,rfl,D6⟩:=h
  simp only [pz,cY]at yE |-
  simp only [dY]
  refine⟨vs,rfl,cX.2 (bA.cI (by simp [D6.length]) fun k q u hq hu=>?_)⟩
  simp at hq
  obtain⟨q',hq',rfl⟩:=hq
  obtain⟨u',h1,h2⟩:=D6.get hq'
  rw [hu]at h1;cases h1
  refine G2 hI hp h2 (fun id iH=>xX id ?_) (List.all_eq_true.1 yE _ (by simp;exact⟨q',List.mem_of_getElem? hq',rfl⟩))
  simp only [eK,List.mem_flatMap]
  exact⟨q',List.mem_of_getElem? hq',iH⟩
 | dK l =>
  obtain⟨vs,rfl,D6⟩:=h
  simp only [pz,cY]at yE |-
  simp only [dY]
  refine⟨vs,rfl,cX.2 (bA.cI (by simp [D6.length]) fun k q u hq hu=>?_)⟩
  simp at hq
  obtain⟨q',hq',rfl⟩:=hq
  obtain⟨u',h1,h2⟩:=D6.get hq'
  rw [hu]at h1;cases h1
  refine G2 hI hp h2 (fun id iH=>xX id ?_) (List.all_eq_true.1 yE _ (by simp;exact⟨q',List.mem_of_getElem? hq',rfl⟩))
  simp only [eK,List.mem_flatMap]
  exact⟨q',List.mem_of_getElem? hq',iH⟩
 | rC=>simp [pz,fz,cY,bE]at yE
 | _ =>
  simp only [pz]at yE |-
  refine G2 hI hp (by simpa only [aK]using h) (fun id iH=>xX id (by simpa only [eK]using iH)) ?_
  revert yE
  simp only [fz]
  first
   | (intro yE;simpa only [cY]using yE)
   | (split
      · split
        · intro _;rfl
        · intro yE;exact yE
      · intro yE;exact yE)
end
theorem D9{α:Type}{n:Nat}:∀ {els:List (List α)},(∀e∈els,e.length=n) -> ∀ {i:Nat} {el:List α},els[i]? = some el -> ∀(j:Nat) (l:List α),j+l.length<=el.length ->
  (els.set i (el.take j++l++el.drop (j+l.length))).flatten=els.flatten.take (i*n+j)++l++els.flatten.drop (i*n+j+l.length)
 | [],_,_,_,h,_,_,_=>by simp at h
 | q::els,hn,0,el,h,j,l,hjl=>by
  simp at h
  subst h
  simp only [List.set_cons_zero,List.flatten_cons,Nat.zero_mul,Nat.zero_add]
  rw [List.take_append_of_le_length aA,List.drop_append_of_le_length hjl]
  simp
 | q::els,hn,i+1,el,h,j,l,hjl=>by
  have hq:q.length=n:=hn q aG
  have ih:=D9 (els:=els) (n:=n) (fun e he=>hn e (by simp [he])) (i:=i) (el:=el) (by simpa using h) j l hjl
  simp only [List.set_cons_succ,List.flatten_cons,ih]
  have e1:(i+1)*n+j=q.length+(i*n+j):=by rw [hq,Nat.add_mul];omega
  have e2:(i+1)*n+j+l.length=q.length+(i*n+j+l.length):=aA
  rw [e1,show q.length+(i*n+j)+l.length=q.length+(i*n+j+l.length)by omega,List.take_length_add_append,List.drop_length_add_append]
  simp
def vC(E:Env)(t:TypeId)(rows:Rows)(p x v:PV)(u:Option (Nat × Row)):Prop:=
 (E.ty t).known=true∧v = .undef ∧
 match p with
 | .ptr id ver i j=>∃r,rows id=some r∧r.ver=ver ∧ ∃el,r.els[i]? = some el ∧ ∃l,cR x=some l∧(∀q∈l,jT rows q)∧l.length=(E.ty t).size∧j+l.length<=el.length ∧
   u=some (id,{ r with els:=r.els.set i (el.take j++l++el.drop (j+l.length)) })
 | _=>False
def j3(n:Nat):Nat->List (Nat × PV)->Option (List (List PV))
 | _,[]=>some []
 | k,(i,p)::ps =>
  match cR p with
  | some l=>if i=k∧l.length=n then(j3 n (k+1) ps).map (l :: ·)else none
  | none=>none
def XA(t:TI)(rows:Rows)(len:Nat)(parts:List (Nat × PV))(v:PV):Prop:=
 match t with
 | .slice _ n _ _=>∃els,j3 n 0 parts=some els∧len=els.length∧len<=4096∧n<=4096∧(∀e∈els,∀p∈e,bE (fz rows p)=true∧jT rows p)∧(∀e∈els,∀p∈e,a9 p = [])∧v = .kJ (els.map fun e=>e.map (fz rows))
 | _=>False
def Gs:=PV × Value->Prop
variable {G:Gs}
instance:Membership (PV × Value) Gs:=⟨fun G p=>G p⟩
def Gs.none:Gs:=fun _=>False
theorem Gs.R5{p:PV × Value}:¬p∈Gs.none:=id
def yZ(P:Program)(f:FuncId)(args:List PV)(rows:Rows)(clk:Nat)(R:PV->Rows->Nat->Prop):Prop:=
 (∃fn c,P.funcs[f]? = some fn∧fn.body=some c∧(fn.name == "runtime.NumGoroutine")=false) ∧
 ∀(w0:World) (S0:eU) (c:Cx) (vs:List Value) (G:Gs),Inv w0 S0 c->c.rows=rows->(∀v,c.used v->v<clk)->bA (aK c) args vs->(∀p∈G,aK c p.1 p.2) ->
  Calls P f vs.toArray c.w fun e w'=>∃v c' r fD,e = .returned v∧c'.w=w'∧Inv w0 S0 c'∧(∀p∈G,aK c' p.1 p.2)∧R r c'.rows fD∧(∀v,c'.used v->v<fD)∧aK c' r v
def lW:Nat:=1000000
def hdP(o:Option (Nat × Nat))(id ver:Nat):PV:=match o with | none => .ptr id ver 0 0 | some (off,len) => .own id ver off len
def AK(P:Program)(g:FuncId)(o:Option (Nat × Nat))(args:List PV)(e:TypeId)(n:Nat)(els i5:List (List PV))(r:PV):Prop:=
 ∀id ver (rows:Rows) clk,lW<=id->rows id=some ⟨ver,e,n,els⟩->ver<clk ->
  yZ P g (hdP o id ver::args) rows clk (fun r' rows' _=>r'=r∧rows' id=some ⟨ver,e,n,i5⟩ ∧ ∀j,lW<=j->j≠id->rows' j=rows j)
def FD(P:Program)(g:FuncId)(args:List PV)(e:TypeId)(n:Nat)(core iC:List PV)(r:PV):Prop:=
 ∀id ver (rows:Rows) clk,lW<=id->rows id=some ⟨ver,e,n,[core]⟩->ver<clk ->
  yZ P g (.ptr id ver 0 0::args) rows clk (fun r' rows' _=>r'=r∧rows' id=some ⟨ver,e,n,[iC]⟩ ∧ ∀j,lW<=j->j≠id->rows' j=rows j)
theorem FD.x{iC:List PV}{r:PV}(h:FD P g args e n core iC r):AK P g none args e n [core] [iC] r:=h
def vD(k:Nat):PV->PV
 | .own id ver off len => .own (id+k) ver off len
 | .ptr id ver i j => .ptr (id+k) ver i j
 | .sL t id ver => .sL t (id+k) ver
 | p=>p
def shV(k:Nat):PV->PV
 | .ag l => .ag (l.map (vD k))
 | .dK l => .dK (l.map (vD k))
 | .rC f fs bR => .rC f (fs.map (vD k)) (bR.map (vD k))
 | p=>vD k p
def p9(k:Nat)(r:Row):Row:={ r with els:=r.els.map fun e=>e.map (vD k) }
def XB(k:Nat)(c:Cx):Cx:={ c with β:=fun j=>if k<=j then c.β (j-k)else .slice none 0 0,rows:=fun j=>if k<=j then(c.rows (j-k)).map (p9 k)else none }
theorem AL(h:bE p=true):vD k p=p:=by cases p<;>simp_all [vD,bE]
theorem G3{l:List PV}(h:∀p∈l,bE p=true):l.map (vD k)=l:=by
 conv=>rhs;rw [<-List.map_id l]
 exact List.map_congr_left fun p hp=>AL (h p hp)
theorem afC(h:cY p=true):shV k p=p:=by
 cases p with
 | ag l=>simp only [shV];rw [G3 (List.all_eq_true.1 h)]
 | dK l=>simp only [shV];rw [G3 (List.all_eq_true.1 h)]
 | own=>simp [cY,bE]at h
 | ptr=>simp [cY,bE]at h
 | sL=>simp [cY,bE]at h
 | rC=>simp [cY,bE]at h
 | _=>rfl
theorem vE:(XB k c).rows (j+k)=(c.rows j).map (p9 k):=by simp [XB]
theorem CY:(XB k c).β (j+k)=c.β j:=by simp [XB]
theorem AM(h:(XB k c).rows i=some r):∃j r0,i=j+k∧c.rows j=some r0∧r=p9 k r0:=by
 simp only [XB]at h
 split at h
 ·rename_i hk
  obtain⟨r0,h1,h2⟩:=Option.map_eq_some_iff.1 h
  exact⟨i-k,r0,aA,h1,h2.symm⟩
 ·cases h
theorem aM.sh{v:Value}(h:aM c p v):aM (XB k c) (vD k p) v:=by
 cases p with
 | own id ver off len =>
  simp only [vD,aM]at h |-
  refine⟨h.1,fun r hr hv=>?_⟩
  rw [vE]at hr
  obtain⟨r0,h1,rfl⟩:=Option.map_eq_some_iff.1 hr
  have:=h.2 r0 h1 hv
  rw [CY]
  simpa [p9]using this
 | ptr id ver i j =>
  simp only [vD,aM]at h |-
  refine⟨h.1,fun r hr hv=>?_⟩
  rw [vE]at hr
  obtain⟨r0,h1,rfl⟩:=Option.map_eq_some_iff.1 hr
  have:=h.2 r0 h1 hv
  rw [CY]
  simpa [p9]using this
 | sL t id ver =>
  simp only [vD,aM]at h |-
  refine⟨h.1,fun r hr hv=>?_⟩
  rw [vE]at hr
  obtain⟨r0,h1,rfl⟩:=Option.map_eq_some_iff.1 hr
  have:=h.2 r0 h1 hv
  rw [CY]
  simpa [p9]using this
 | undef=>trivial
 | _=>exact h
theorem KJ.sh{k:Nat}{c:Cx}{l:List PV}{vs:List Value}(h2:bA (aM c) l vs):bA (aM (XB k c)) (l.map (vD k)) vs:=by
 refine bA.cI (by simp [h2.length]) fun i a b ha hb=>?_
 simp at ha
 obtain⟨q,hq,rfl⟩:=ha
 obtain⟨b',jH,hr⟩:=h2.get hq
 rw [hb]at jH;cases jH
 exact hr.sh
theorem aK.sh{k:Nat}{c:Cx}{p:PV}{v:Value}(h:aK c p v):aK (XB k c) (shV k p) v:=by
 cases p with
 | ag l=>obtain⟨vs,h1,h2⟩:=h;exact⟨vs,h1,KJ.sh h2⟩
 | dK l=>obtain⟨vs,h1,h2⟩:=h;exact⟨vs,h1,KJ.sh h2⟩
 | rC f fs bR=>obtain⟨us,cs,h1,h2,h3⟩:=h;exact⟨us,cs,h1,KJ.sh h2,KJ.sh h3⟩
 | _=>simp only [aK,shV]at h |-;exact h.sh
theorem AO{α β:Type}{f:α->β}:∀ {l:List (List α)},(l.map fun e=>e.map f).flatten=l.flatten.map f
 | []=>rfl
 | e::l=>by
  show e.map f++(l.map fun e=>e.map f).flatten=(e++l.flatten).map f
  rw [AO,List.map_append]
theorem Inv.sh{w0:World}{S0:eU}{c:Cx}(hI:Inv w0 S0 c)(k:Nat):Inv w0 S0 (XB k c):=by
 refine⟨hI.below,hI.ext,hI.new,hI.lt0,fun i r hr=>?_,fun i r hr=>?_,fun i i' r r' g hr jO hg hg'=>?_,hI.fin⟩
 ·obtain⟨j,r0,rfl,h1,rfl⟩:=AM hr
  exact hI.clock j r0 h1
 ·obtain⟨j,r0,rfl,h1,rfl⟩:=AM hr
  obtain⟨⟨xs,g1,g2,g3⟩,g4,g5,g6⟩:=hI.row j r0 h1
  rw [show p9 k r0 = { r0 with els:=r0.els.map fun e=>e.map (vD k) }from rfl]
  refine⟨⟨xs,?_,?_,g3⟩,fun e he=>?_,fun g o hg=>?_,g6⟩
  ·rw [CY]
   show c.w.ownsRow _ _ _ _ (r0.els.map fun e=>e.map (vD k)).length xs
   rw [List.length_map];exact g1
  ·show bA _ (r0.els.map fun e=>e.map (vD k)).flatten xs
   rw [AO]
   refine bA.cI (by rw [List.length_map];exact g2.length) fun i a b ha hb=>?_
   simp only [List.getElem?_map,Option.map_eq_some_iff]at ha
   obtain⟨q,hq,rfl⟩:=ha
   obtain⟨b',jH,hr⟩:=g2.get hq
   rw [hb]at jH;cases jH
   exact hr.sh
  ·simp only [List.mem_map]at he
   obtain⟨e0,he0,rfl⟩:=he
   simp [g4 e0 he0]
  ·rw [CY]at hg
   exact g5 g o hg
 ·obtain⟨j,r0,rfl,h1,rfl⟩:=AM hr
  obtain⟨j',r0',rfl,NZ,rfl⟩:=AM jO
  rw [CY]at hg hg'
  rw [hI.apart j j' r0 r0' g h1 NZ hg hg']
def AQ(c:Cx):PV->Prop
 | .own _ ver _ _=>c.used ver
 | .ptr _ ver _ _=>c.used ver
 | .sL _ _ ver=>c.used ver
 | _=>True
theorem aM.AQ{v:Value}(h:aM c p v):AQ c p:=by
 cases p with
 | own=>exact h.1
 | ptr=>exact h.1.1
 | sL=>exact h.1.1
 | _=>trivial
theorem y6(h:bE p=true):Pm.AQ c p:=by cases p<;>simp_all [Pm.AQ,bE]
theorem aM.aCo{c'':Cx}(hS:c''.S=c'.S)(hw:c''.w=c'.w)(hu:c''.used=c.used)(hr:∀id r,c''.rows id=some r -> ∃r',c'.rows (id+k)=some r'∧r'.ver=r.ver∧r'.size=r.size∧r'.els.length=r.els.length)(hβ:∀id,c''.β id=c'.β (id+k))
 {v:Value} (hp:Pm.AQ c p) (h:aM c' (vD k p) v):aM c'' p v:=by
 cases p with
 | own id ver off len =>
  simp only [vD,aM]at h |-
  refine⟨by rw [hu];exact hp,fun r vF hv=>?_⟩
  obtain⟨r',h1,h2,h3,h4⟩:=hr id r vF
  have:=h.2 r' h1 (h2.trans hv)
  rw [hβ,<-h3,<-h4];exact this
 | ptr id ver i j =>
  simp only [vD,aM]at h |-
  refine⟨⟨by rw [hu];exact hp,h.1.2⟩,fun r vF hv=>?_⟩
  obtain⟨r',h1,h2,h3,h4⟩:=hr id r vF
  have:=h.2 r' h1 (h2.trans hv)
  rw [hβ,<-h3];exact this
 | sL t id ver =>
  simp only [vD,aM]at h |-
  refine⟨⟨by rw [hu];exact hp,h.1.2⟩,fun r vF hv=>?_⟩
  obtain⟨r',h1,h2,h3,h4⟩:=hr id r vF
  have:=h.2 r' h1 (h2.trans hv)
  rw [hβ];exact this
 | undef=>trivial
 | _ =>
  simp only [vD,aM]at h |-
  rw [hS,hw];exact h
theorem AK.frame{o:Option (Nat × Nat)}{r:PV}(h:AK P g o args e n els i5 r)(dQ:args.all cY=true)(hr:cY r=true)(hc:∀x∈els,∀p∈x,bE p=true)(CX:∀x∈i5,∀p∈x,bE p=true)
  {w0:World} {S0:eU} (hI:Inv w0 S0 c) (iQ:c.rows id=some ⟨ver,e,n,els⟩) {vs:List Value} (D6:bA (aK c) (hdP o id ver::args) vs) :
  Calls P g vs.toArray c.w fun x w'=>∃v c',x = .returned v∧c'.w=w'∧c'.rows=eO c.rows id (some ⟨ver,e,n,i5⟩)∧c'.used=c.used∧(∀p v,aK c p v->aK c' p v)∧Inv w0 S0 c'∧aK c' r v:=by
 obtain⟨N,hN⟩:=hI.fin
 have av1:(XB lW c).rows (id+lW)=some ⟨ver,e,n,els⟩:=by
  rw [vE,iQ]
  have hm:els.map (fun e=>e.map (vD lW))=els:=by
   conv=>rhs;rw [<-List.map_id els]
   exact List.map_congr_left fun x hx=>G3 (hc x hx)
  simp [p9,hm]
 have lG:ver<N:=hN ver (hI.clock id _ iQ)
 obtain⟨_,kV⟩:=h (id+lW) ver (XB lW c).rows N (Nat.le_add_left _ _) av1 lG
 have aCp:bA (aK (XB lW c)) (hdP o (id+lW) ver::args) vs:=by
  refine bA.cI (by simpa using D6.length) fun i a b ha hb=>?_
  cases i with
  | zero =>
   simp at ha
   subst ha
   obtain⟨b',jH,vF⟩:=D6.get (k:=0) (a:=hdP o id ver) aG
   rw [hb]at jH;cases jH
   have hs:=aK.sh (k:=lW) vF
   cases o<;>exact hs
  | succ i =>
   simp at ha
   obtain⟨b',jH,vF⟩:=D6.get (k:=i+1) (a:=a) (by simpa using ha)
   rw [hb]at jH;cases jH
   have:=aK.sh (k:=lW) vF
   rwa [afC (List.all_eq_true.1 dQ a (List.mem_of_getElem? ha))]at this
 refine(kV w0 S0 (XB lW c) vs (fun x=>∃p,aK c p x.2∧x.1=shV lW p) (hI.sh lW) rfl hN aCp ?_).mono ?_
 ·rintro⟨q,v⟩ ⟨p,hp,rfl⟩
  exact hp.sh
 rintro x w' ⟨v,c',r',fD,rfl,rfl,pU,J6,⟨rfl,iH,aCq⟩,AR,XC⟩
 have hrw:∀j,c'.rows (j+lW)=if j=id then some ⟨ver,e,n,i5⟩else(c.rows j).map (p9 lW):=fun j=>by
  by_cases hj:j=id
  ·subst hj;rw [if_pos rfl];exact iH
  ·rw [if_neg hj,aCq (j+lW) (Nat.le_add_left _ _) aA,vE]
 have bS:∀(j:Nat) (r:Row),(eO c.rows id (some ⟨ver,e,n,i5⟩)) j=some r -> ∃r',c'.rows (j+lW)=some r'∧r'.ver=r.ver∧r'.size=r.size∧r'.els.length=r.els.length:=fun j r hj=>by
  rw [hrw j]
  by_cases J7:j=id
  ·rw [if_pos J7]
   subst J7
   simp only [iG,Option.some.injEq]at hj
   subst hj
   exact⟨_,rfl,rfl,rfl,rfl⟩
  ·rw [if_neg J7]
   rw [kX _ _ J7]at hj
   exact⟨p9 lW r,by rw [hj];rfl,rfl,rfl,by simp [p9]⟩
 obtain⟨c2,e1,e2,e3,e4,e5⟩:∃c2:Cx,c2.S=c'.S∧c2.w=c'.w∧c2.β=(fun j=>c'.β (j+lW))∧c2.rows=eO c.rows id (some ⟨ver,e,n,i5⟩)∧c2.used=c.used:=⟨⟨c'.S,c'.w,_,_,c.used⟩,rfl,rfl,rfl,rfl,rfl⟩
 have back:∀ {p:PV} {v:Value},AQ c p->aM c' (vD lW p) v->aM c2 p v:=fun hp hh=>aM.aCo (c:=c) (c':=c') (k:=lW) e1 e2 e5 (by rw [e4];exact bS) (fun _=>by rw [e3]) hp hh
 refine⟨v,c2,rfl,e2,e4,e5,fun p v hp=>?_,⟨by rw [e2];exact pU.below,by rw [e1];exact pU.ext,by rw [e1,e2];exact pU.new,pU.lt0,fun j r hj=>?_,fun j r hj=>?_,fun i i' r r' g hri av2 hg hg'=>?_,by rw [e5];exact hI.fin⟩,?_⟩
 ·have h2:=J6 (shV lW p,v) ⟨p,hp,rfl⟩
  have AS:∀ {l:List PV} {vs:List Value},bA (aM c) l vs->bA (aM c') (l.map (vD lW)) vs->bA (aM c2) l vs:=fun {l vs} h4 h6=>bA.cI h4.length fun i a b ha hb=>by
   obtain⟨b',jH,q1⟩:=h4.get ha
   rw [hb]at jH;cases jH
   obtain⟨b',jH,q2⟩:=h6.get (k:=i) (a:=vD lW a) (by simp [ha])
   rw [hb]at jH;cases jH
   exact back q1.AQ q2
  cases p with
  | ag l =>
   obtain⟨vs,h3,h4⟩:=hp
   obtain⟨yV,h5,h6⟩:=h2
   have hvv:vs=yV:=by rw [h3]at h5;simpa using h5
   subst hvv
   exact⟨vs,h3,AS h4 h6⟩
  | dK l =>
   obtain⟨vs,h3,h4⟩:=hp
   obtain⟨yV,h5,h6⟩:=h2
   have hvv:vs=yV:=by rw [h3]at h5;simpa using h5
   subst hvv
   exact⟨vs,h3,AS h4 h6⟩
  | rC f fs bR =>
   obtain⟨us,cs,h3,h4,h4'⟩:=hp
   obtain⟨us',cs',h5,h6,h6'⟩:=h2
   have hvv:us=us'∧cs=cs':=by rw [h3]at h5;simpa using h5
   obtain⟨rfl,rfl⟩:=hvv
   exact⟨us,cs,h3,AS h4 h6,AS h4' h6'⟩
  | _=>simp only [aK,shV]at hp h2 |-;exact back hp.AQ h2
 ·rw [e4]at hj
  rw [e5]
  by_cases J7:j=id
  ·subst J7
   simp only [iG,Option.some.injEq]at hj
   subst hj
   exact(show c.used ver from hI.clock j _ iQ)
  ·simp only [kX _ _ J7]at hj
   exact hI.clock j r hj
 ·rw [e4]at hj
  have eβ:c2.β j=c'.β (j+lW):=by rw [e3]
  by_cases J7:j=id
  ·subst J7
   simp only [iG,Option.some.injEq]at hj
   subst hj
   obtain⟨⟨xs,g1,g2,g3⟩,g4,g5,g6⟩:=pU.row (j+lW) _ iH
   refine⟨⟨xs,by rw [e2,eβ];exact g1,?_,g3⟩,g4,by rw [eβ,e1];exact g5,g6⟩
   refine bA.cI g2.length fun i a b ha hb=>?_
   obtain⟨b',jH,q⟩:=g2.get ha
   rw [hb]at jH;cases jH
   obtain⟨x,hx,hax⟩:=List.mem_flatten.1 (List.mem_of_getElem? ha)
   have hpa:=CX x hx a hax
   refine back (y6 hpa) ?_
   rw [AL hpa];exact q
  ·simp only [kX _ _ J7]at hj
   have hj':c'.rows (j+lW)=some (p9 lW r):=by rw [hrw j,if_neg J7,hj];rfl
   obtain⟨⟨xs,g1,g2,g3⟩,g4,g5,g6⟩:=pU.row (j+lW) _ hj'
   obtain⟨⟨ys,_,k2,_⟩,_⟩:=hI.row j r hj
   have el:(p9 lW r).els.length=r.els.length:=List.length_map ..
   refine⟨⟨xs,by rw [e2,eβ,<-el];exact g1,?_,g3⟩,fun e he=>?_,by rw [eβ,e1];exact g5,g6⟩
   ·have g2':bA (aM c') (r.els.flatten.map (vD lW)) xs:=by rw [<-AO];exact g2
    refine bA.cI (by have:=g2'.length;rwa [List.length_map]at this) fun i a b ha hb=>?_
    obtain⟨b',jH,q⟩:=g2'.get (k:=i) (a:=vD lW a) (by rw [List.getElem?_map,ha];rfl)
    rw [hb]at jH;cases jH
    obtain⟨_,_,q2⟩:=k2.get ha
    exact back q2.AQ q
   ·have:=g4 (e.map (vD lW)) (by simp only [p9,List.mem_map];exact⟨e,he,rfl⟩)
    rw [List.length_map]at this
    exact this
 ·rw [e4]at hri av2
  rw [e3]at hg hg'
  obtain⟨t,ht,_⟩:=bS i r hri
  obtain⟨t',ht',_⟩:=bS i' r' av2
  have:=pU.apart (i+lW) (i'+lW) t t' g ht ht' hg hg'
  omega
 ·cases r' with
  | ag l =>
   obtain⟨us,h1,h2⟩:=XC
   refine⟨us,h1,bA.cI h2.length fun i a b ha hb=>?_⟩
   obtain⟨b',jH,q⟩:=h2.get ha
   rw [hb]at jH;cases jH
   have hpa:bE a=true:=List.all_eq_true.1 hr a (List.mem_of_getElem? ha)
   refine back (y6 hpa) ?_
   rw [AL hpa];exact q
  | dK l =>
   obtain⟨us,h1,h2⟩:=XC
   refine⟨us,h1,bA.cI h2.length fun i a b ha hb=>?_⟩
   obtain⟨b',jH,q⟩:=h2.get ha
   rw [hb]at jH;cases jH
   have hpa:bE a=true:=List.all_eq_true.1 hr a (List.mem_of_getElem? ha)
   refine back (y6 hpa) ?_
   rw [AL hpa];exact q
  | own=>simp [cY,bE]at hr
  | ptr=>simp [cY,bE]at hr
  | sL=>simp [cY,bE]at hr
  | rC=>simp [cY,bE]at hr
  | undef=>simp [cY,bE]at hr
  | _=>simp only [aK]at XC |-;exact back trivial XC
theorem AK.akz{o:Option (Nat × Nat)}{r:PV}(h:AK P g o args e n els i5 r)(dQ:args.all cY=true)(hr:cY r=true)(hc:∀x∈els,∀p∈x,bE p=true)(CX:∀x∈i5,∀p∈x,bE p=true)
 {clk:Nat} (iQ:rows id=some ⟨ver,e,n,els⟩):yZ P g (hdP o id ver::args) rows clk (fun r' rows' fD=>r'=r∧rows'=eO rows id (some ⟨ver,e,n,i5⟩)∧fD=clk):=by
 refine⟨(h lW 0 (fun j=>if j=lW then some ⟨0,e,n,els⟩else none) 1 (Nat.le_refl _) (if_pos rfl) aF).1,fun w0 S0 c vs G hI hrw gS D6 hG=>?_⟩
 subst hrw
 refine(h.frame dQ hr hc CX hI iQ D6).mono ?_
 rintro x w' ⟨v,c',rfl,rfl,h1,h2,h3,h4,h5⟩
 exact⟨v,c',r,clk,rfl,rfl,h4,fun p hp=>h3 _ _ (hG p hp),⟨rfl,h1,rfl⟩,by rw [h2];exact gS,h5⟩
theorem AU(h:∀p∈core,bE p=true):∀x ∈ [core],∀p∈x,bE p=true:=fun x hx=>by
 rw [List.mem_singleton.1 hx];exact h
theorem FD.akz{P:Program}{g:FuncId}{args:List PV}{e:TypeId}{n:Nat}{core iC:List PV}{r:PV}(h:FD P g args e n core iC r)(dQ:args.all cY=true)(hr:cY r=true)(hc:∀p∈core,bE p=true)(CX:∀p∈iC,bE p=true)
  {id ver:Nat} {rows:Rows} {clk:Nat} (iQ:rows id=some ⟨ver,e,n,[core]⟩):yZ P g (.ptr id ver 0 0::args) rows clk (fun r' rows' fD=>r'=r∧rows'=eO rows id (some ⟨ver,e,n,[iC]⟩)∧fD=clk):=
 h.x.akz dQ hr (AU hc) (AU CX) iQ
def EA(E:Env):PV->Bool
 | .fn g []=>E.uT g
 | _=>false
def R6(E:Env)(p:PV)(eQ:List PV)(rows:Rows)(v:PV)(u:Option (Nat × Row)):Prop:=
 match p,eQ with
 | .fn g [],p0::rest=>∃o id ver,p0=hdP o id ver∧(rest.all cY=true∧cY v=true) ∧ ∃e n els i5,rows id=some ⟨ver,e,n,els⟩∧AK E.P g o rest e n els i5 v∧(∀x∈els,∀p∈x,bE p=true)∧(∀x∈i5,∀p∈x,bE p=true)∧u=some (id,⟨ver,e,n,i5⟩)
 | _,_=>False
def akA(E:Env):PV->Bool
 | .fn g _=>E.writes g || E.uT g
 | .rC _ _ _=>true
 | _=>false
def qA(P:Program)(g:FuncId)(eQ:List PV)(rows:Rows)(clk:Nat)(K:PV->Rows->Nat->Prop):Prop:=
 ∃R,yZ P g eQ rows clk R ∧ ∀r rows' fD,R r rows' fD->K r rows' fD
def XD(E:Env)(p:PV)(eQ:List PV)(rows:Rows)(clk:Nat)(K:PV->Rows->Nat->Prop):Prop:=
 match p with
 | .fn g []=>qA E.P g eQ rows clk K
 | .rC g fs bR=>qA E.P g (fs++eQ++bR) rows clk K
 | _=>False
def afF(P:Program)(t:TypeId)(name:String)(f:FuncId):Prop:=
 ∀(g:Nat) (w:World),(method (P.types.size+Made.depth) t (.pointer (some ⟨g,0,none⟩)) name).run P w = .ok (f, .pointer (some ⟨g,0,none⟩)) w
def EB(E:Env)(f:PV)(args:List PV)(v:PV):Prop:=
 match f with
 | .fn g bR=>(args.all cY=true)∧AB E.P g (args++bR) v
 | _=>False
def vG(rows:Rows)(y:PV)(l:List (List PV)):Prop:=
 match y with
 | .nil=>l = []
 | .sl k=>l=k
 | .kJ k=>l=k
 | .own id ver off len=>∃r,rows id=some r∧r.ver=ver∧l=(r.els.drop off).take len
 | _=>False
def yF(t:TI)(rows:Rows)(x y v:PV)(u:Option (Nat × Row)):Prop:=
 match t,x with
 | .slice _ n _ _, .own id ver off len=>∃r,rows id=some r∧r.ver=ver∧r.size=n∧off+len<=r.els.length ∧ ∃l,vG rows y l∧(∀e∈l,e.length=n) ∧
   v = .int .i64 (min l.length len)∧u=some (id,{ r with els:=r.els.take off++l.take len++r.els.drop (off+min l.length len) })
 | _,_=>False
def ys(E:Env)(op:Op)(ρ:Operand->PV)(rows:Rows)(v:PV)(u:Option (Nat × Row)):Prop:=
 match op with
 | .call { callee:=.builtin .copy,args:=⟨[x,y]⟩,argTypes:=⟨[t,_]⟩ }=>yF (E.ty t) rows (ρ x) (ρ y) v u
 | .store t p x=>vC E t rows (ρ p) (ρ x) v u
 | .buildSlice t len parts=>XA (E.ty t) rows len (parts.toList.map fun x=>(x.1,ρ x.2)) v∧u=none
 | .call { callee:=.value f,args:=args,argTypes:=_ }=>if EA E (ρ f)=true then R6 E (ρ f) (args.toList.map fun x=>ρ x) rows v u else u=none∧EB E (ρ f) (args.toList.map fun x=>pz rows (ρ x)) v∧(args.toList.flatMap fun x=>eK (ρ x)) = []
 | op=>yv E op ρ rows v∧u=none
def fP(rows:Rows):Option (Nat × Row)->Rows
 | none=>rows
 | some (id,r)=>eO rows id (some r)
section
variable {E:Env} {c:Cx} {w0:World} {S0:eU}
theorem XE(hI:Inv w0 S0 c){x:PV}{vp:Value}(hp:aK c p vp)(hx:aK c x vx)(h:vC E t c.rows p x v u) :
  v = .undef ∧ ∃w',(Instr.storeAt t vp vx).run E.P c.w = .ok () w'∧Inv w0 S0 { c with w:=w',rows:=fP c.rows u }∧xW c { c with w:=w',rows:=fP c.rows u }:=by
 obtain⟨hk,rfl,h⟩:=h
 refine⟨rfl,?_⟩
 split at h
 ·rename_i id ver i j
  obtain⟨r,hr,lG,el,pS,l,hl,lI,hlen,hjl,rfl⟩:=h
  simp only [aK,aM]at hp
  obtain⟨g,n,cap,hβ,rfl⟩:=hp.2 r hr lG
  obtain⟨⟨xs,lH,gE,anE⟩,G0,hnS,mX⟩:=hI.row id r hr
  obtain⟨AE,hc2⟩:=p8 hx hl lI
  have RO:vx.cells.toList.length=l.length:=AE.length.symm
  have av5:=lH
  rw [hβ]at lH
  rcases lH.2 with ⟨h',_⟩ | ⟨g',l7,cur,h',hge,hg,W5,hcm,GZ,R7⟩
  ·simp at h'
  ·simp only [Value.slice.injEq,Option.some.injEq,Addr.mk.injEq,and_true]at h'
   obtain⟨rfl,rfl,rfl⟩:=h'
   have hi:i<r.els.length:=(List.getElem?_eq_some_iff.1 pS).1
   have afG:el.length=r.size:=G0 el (List.mem_of_getElem? pS)
   have hmul:i*r.size+r.size<=r.els.length*r.size:=by rw [<-Nat.succ_mul];exact Nat.mul_le_mul_right _ hi
   have aFY:r.els.length*r.size<=cap*r.size:=Nat.mul_le_mul_right _ W5
   have ap4:i*r.size+j+l.length<=r.els.length*r.size:=aA
   have j2:=run_storeCells_at E.P g (i*r.size+j) r.e vx.cells.toList 0 cur c.w hg (by rw [RO];omega) hc2
   obtain⟨inf,_,WZ,_,J0,_,_⟩:=((E.ok t).zero hk).ok
   have jU:(Instr.storeAt t (.pointer (some ⟨g,i*r.size+j,none⟩)) vx).run E.P c.w = .ok () (c.w.setRow g (cur.toList.take (i*r.size+j)++vx.cells.toList++cur.toList.drop (i*r.size+j+l.length)).toArray):=by
    have rE:vx.cells.size=inf.size:=by rw [J0,<-hlen,<-RO];simp
    simp only [Instr.storeAt,Instr.sureAddr,Sem.run_bind,Sem.run_pure,Result.andThen_ok,storeVar,dP WZ,rE]
    simp only [Nat.add_zero,RO]at j2
    simpa using j2
   refine⟨_,jU,?_⟩
   have afH:(c.w.setRow g (cur.toList.take (i*r.size+j)++vx.cells.toList++cur.toList.drop (i*r.size+j+l.length)).toArray).ownsRow w0.heap.size r.e r.size (c.β id) (r.els.set i (el.take j++l++el.drop (j+l.length))).length
     (xs.take (i*r.size+j)++vx.cells.toList++xs.drop (i*r.size+j+l.length)):=by
    rw [hβ,List.length_set]
    refine⟨?_, .inr ⟨g,cap,_,rfl,hge,setRow_heap _ g cur _ r.e _ hg,W5,hcm,?_,?_⟩⟩
    ·have:=lH.1
     simp [RO];omega
    ·simp [RO];omega
    ·rw [<-R7]
     have aCs:cur.toList.length=cap*r.size:=by simp [GZ]
     simp only
     rw [List.take_append,List.take_append]
     have e1:List.take (r.els.length*r.size) (cur.toList.take (i*r.size+j))=cur.toList.take (i*r.size+j):=by
      rw [List.take_take,Nat.min_eq_right aA]
     have e2:List.take (i*r.size+j) (cur.toList.take (r.els.length*r.size))=cur.toList.take (i*r.size+j):=by
      rw [List.take_take,Nat.min_eq_left aA]
     rw [e1,e2]
     have e3:(cur.toList.take (i*r.size+j)).length=i*r.size+j:=by rw [List.length_take];omega
     rw [e3]
     have e4:List.take (r.els.length*r.size-(i*r.size+j)) vx.cells.toList=vx.cells.toList:=List.take_of_length_le (by rw [RO];omega)
     rw [e4]
     congr 1
     rw [List.length_append,e3,RO,List.drop_take]
   have G4:bA (aM c) (r.els.set i (el.take j++l++el.drop (j+l.length))).flatten (xs.take (i*r.size+j)++vx.cells.toList++xs.drop (i*r.size+j+l.length)):=by
    rw [D9 G0 pS j l hjl]
    exact((gE.take _).append AE).append (gE.drop _)
   have r5:c.w.grownBy (c.w.setRow g (cur.toList.take (i*r.size+j)++vx.cells.toList++cur.toList.drop (i*r.size+j+l.length)).toArray) (c.β id).ownBlock:=by
    rw [hβ]
    exact⟨rfl,rfl,rfl,aG,fun k _ hk=>setRow_other _ g k _ (fun e=>hk (by simp [Value.ownBlock,e]))⟩
   exact hI.eO (r':={ r with els:=r.els.set i (el.take j++l++el.drop (j+l.length)) }) hr r5 afH G4 (by
    intro y hy
    simp only [List.mem_append]at hy
    rcases hy with (hy | hy) | hy
    ·exact anE y (List.mem_of_mem_take hy)
    ·exact hc2 y hy
    ·exact anE y (List.mem_of_mem_drop hy)) (by
    intro e he
    rcases List.mem_or_eq_of_mem_set he with he | rfl
    ·exact G0 e he
    ·simp;omega) rfl rfl aG
 ·exact h.elim
end
section
variable {E:Env} {c:Cx} {w0:World} {S0:eU}
theorem G5{n:Nat}:∀(vs:List (Nat × Value)) (k:Nat) (cells:Array Value),(∀j x,vs[j]? = some x->x.1=k+j∧x.2.cells.size=n)->cells.size=(k+vs.length)*n ->
  ∃dF,Instr.fill (fun i=>some (i*n,n)) cells vs=some dF∧dF.toList=cells.toList.take (k*n)++vs.flatMap fun x=>x.2.cells.toList
 | [],k,cells,_,hs=>⟨cells,rfl,by simp at hs;rw [List.take_of_length_le (by simp [hs])];simp⟩
 | (i,v)::vs,k,cells,h,hs=>by
  obtain⟨h1,h2⟩:=h 0 (i,v) aG
  simp only [Nat.add_zero]at h1 h2
  subst h1
  have ap4:i*n+n<=cells.size:=by
   rw [hs,List.length_cons,<-Nat.succ_mul]
   exact Nat.mul_le_mul_right _ aA
  have hz3:v.cells.toList.zipIdx=v.cells.zipIdx.toList:=aG
  have LI:=tC (i*n) v.cells.toList 0 cells (by simp [h2];omega)
  have rE:(List.foldl (fun cs (x:Value × Nat)=>cs.setIfInBounds (i*n+x.2) x.1) cells v.cells.toList.zipIdx).size=cells.size:=by
   have:=congrArg List.length LI
   simp only [Array.length_toList]at this
   rw [this]
   simp [h2]
   omega
  obtain⟨dF,g1,g2⟩:=G5 vs (i+1) (List.foldl (fun cs (x:Value × Nat)=>cs.setIfInBounds (i*n+x.2) x.1) cells v.cells.toList.zipIdx)
   (fun j x hx=>by have:=h (j+1) x (by simpa using hx);exact⟨aA,this.2⟩) (by rw [rE,hs,List.length_cons];congr 1;omega)
  refine⟨dF,?_,?_⟩
  ·simp only [Instr.fill]
   rw [if_neg (by simp [h2];omega),<-g1,hz3,Array.foldl_toList]
  ·rw [g2,LI]
   have e1:(cells.toList.take (i*n+0)).length=i*n:=by rw [List.length_take];simp;omega
   have e2:v.cells.toList.length=n:=by simp [h2]
   rw [show(i+1)*n=i*n+n by rw [Nat.add_mul];omega]
   rw [List.take_append,List.length_append,e1,e2,Nat.sub_self,List.take_zero,List.append_nil,List.take_of_length_le (by rw [List.length_append,e1,e2];exact Nat.le_refl _)]
   simp [List.append_assoc]
theorem r6{n:Nat}:∀ {ps:List (Nat × PV)} {k:Nat} {els:List (List PV)},j3 n k ps=some els->els.length=ps.length∧(∀e∈els,e.length=n) ∧ ∀j x,ps[j]? = some x->x.1=k+j ∧ ∃e,els[j]? = some e∧cR x.2=some e
 | [],k,els,h=>by simp [j3]at h;subst h;simp
 | (i,p)::ps,k,els,h=>by
  simp only [j3]at h
  split at h
  ·rename_i l hl
   split at h
   ·rename_i uK
    rw [Option.map_eq_some_iff]at h
    obtain⟨i5,h1,rfl⟩:=h
    obtain⟨g1,g2,g3⟩:=r6 h1
    refine⟨by simp [g1],fun e he=>?_,fun j x hx=>?_⟩
    ·simp at he
     rcases he with rfl | he
     ·exact uK.2
     ·exact g2 e he
    ·match j with
     | 0=>simp at hx;subst hx;exact⟨by simpa using uK.1,l,aG,hl⟩
     | j+1 =>
      obtain⟨q1,q2⟩:=g3 j x (by simpa using hx)
      exact⟨aA,by simpa using q2⟩
   ·cases h
  ·cases h
theorem Inv.aCt(hI:Inv w0 S0 c)(o:Obj):Inv w0 S0 { c with w:=c.w.alloc o,S:=fun b k=>c.S b k∨b=c.w.heap.size }∧xW c { c with w:=c.w.alloc o,S:=fun b k=>c.S b k∨b=c.w.heap.size }:=by
 have:=hI.grow (w':=c.w.alloc o) (S':=fun b k=>c.S b k∨b=c.w.heap.size) ((Below.refl _ _).alloc (Nat.le_refl _) o) (fun _ _ h => .inl h) (fun b k h=>h.imp (fun h=>h) fun h=>by subst h;simp)
 exact this
theorem afI{v:Value}(hI:Inv w0 S0 c)(h:aM c p v)(xX:a9 p = [])(yE:bE (fz c.rows p)=true):dY c.S c.w (fz c.rows p) v:=by
 have:=G2 hI (ids:=[]) aG h (by simp [xX]) yE
 exact dY.mono (fun b o h=>by rcases h with h | ⟨id,iH,_⟩;exact h;cases iH) (fun _ _ _=>rfl) _ _ this
theorem G6(hI:Inv w0 S0 c){bb len:Nat}(hE:E.ty t = .slice e n bb z){parts:Array (Nat × Operand)}{vρ:Operand->Value}(hρ:∀x,aK c (ρ x) (vρ x))
 (G0:j3 n 0 (parts.toList.map fun x=>(x.1,ρ x.2))=some els) (hlen:len=els.length) (hsm:len<=4096) (hn:n<=4096)
  (yE:∀e∈els,∀p∈e,bE (fz c.rows p)=true∧jT c.rows p) (xX:∀e∈els,∀p∈e,a9 p = []) :
  ∃v' c',(Instr.buildSlice t len (parts.map fun(i,x)=>(i,vρ x))).run E.P c.w = .ok v' c'.w∧c'.rows=c.rows∧c'.used=c.used∧Inv w0 S0 c'∧xW c c'∧aK c' (.kJ (els.map fun e=>e.map (fz c.rows))) v':=by
 obtain⟨hu,hnp,N7,i,zv,hi,hz,hs,_,W8,_⟩:=iM hE
 obtain⟨g1,g2,g3⟩:=r6 G0
 have aaM:parts.size=els.length:=by rw [g1];simp
 have aCv:zv.cells.size=n:=by rw [<-N7,<-W8];simp
 have LO:∀j (x:Nat × Value),((parts.map fun(i,x)=>(i,vρ x)).toList)[j]? = some x->x.1=0+j ∧ ∃e,els[j]? = some e∧bA (aM c) e x.2.cells.toList ∧ ∀u∈x.2.cells.toList,u.oneCell'=true:=by
  intro j x hx
  simp at hx
  obtain⟨a,b,gU,rfl⟩:=hx
  obtain⟨q1,e,q2,q3⟩:=g3 j (a,ρ b) (by simp;exact⟨a,b,gU,rfl,rfl⟩)
  have q4:=p8 (hρ b) q3 (fun q hq=>(yE e (List.mem_of_getElem? q2) q hq).2)
  exact⟨q1,e,q2,q4.1,q4.2⟩
 obtain⟨dF,f1,f2⟩:=G5 (n:=n) (parts.map fun(i,x)=>(i,vρ x)).toList 0 ((Array.range (len*n)).map (zv.cells[· % zv.cells.size]!)) (fun j x hx=>by
  obtain⟨q1,e,q2,q3,_⟩:=LO j x hx
  refine⟨q1,?_⟩
  have:=q3.length
  rw [g2 e (List.mem_of_getElem? q2)]at this
  simpa using this.symm) (by simp [aaM,hlen])
 simp only [Nat.zero_mul,List.take_zero,List.nil_append]at f2
 have jU:(Instr.buildSlice t len (parts.map fun(i,x)=>(i,vρ x))).run E.P c.w = .ok (.slice (some ⟨c.w.heap.size,0,none⟩) len len) (c.w.alloc (.cells dF e)):=by
  have hbound:¬(16777216<len*n):=by
   have:len*n<=4096*4096:=Nat.mul_le_mul hsm hn
   omega
  by_cases h0:len*n=0
  ·have AF:len=0:=by
    rcases Nat.mul_eq_zero.1 h0 with h | h
    ·exact h
    ·omega
   have hp0:parts = #[]:=Array.eq_empty_of_size_eq_zero aA
   subst hp0
   subst AF
   simp [Instr.fill]at f1
   subst f1
   have qW:Array.range 0 = #[]:=rfl
   simp [Instr.buildSlice,run_underlying hu,dP hi,newRow,Instr.fill,qW]
  ·have f1':Instr.fill (fun i=>some (i*n,n)) ((Array.range (len*n)).map (zv.cells[· % zv.cells.size]!)) (parts.toList.map fun x=>(x.1,vρ x.2))=some dF:=by simpa using f1
   simp only [Instr.buildSlice,Sem.run_bind,run_underlying hu,Result.andThen_ok,dP hi,hs]
   simp [h0,hbound,newRow,zeroValue,typeInfo,hi,hz,f1']
 obtain⟨pU,hA⟩:=hI.aCt (.cells dF e)
 refine⟨_,{ c with w:=c.w.alloc (.cells dF e),S:=fun b k=>c.S b k∨b=c.w.heap.size },jU,rfl,rfl,pU,hA,?_⟩
 simp only [aK,aM,dY]
 refine⟨some ⟨c.w.heap.size,0,none⟩,by rw [List.length_map,hlen],by rw [List.length_map,<-hlen];simp [maxLen];omega, .inr ⟨_,_,rfl,?_⟩⟩
 refine sM (n:=n) (by
  intro e' tE
  simp at tE
  obtain⟨e1,WH,rfl⟩:=tE
  simpa using g2 e1 WH) fun k el hk=>?_
 simp at hk
 obtain⟨e1,WH,rfl⟩:=hk
 refine mE fun j p hj=>?_
 simp at hj
 obtain⟨q,hq,rfl⟩:=hj
 have hkl:k<els.length:=(List.getElem?_eq_some_iff.1 WH).1
 obtain⟨x,hx⟩:∃x,((parts.map fun(i,x)=>(i,vρ x)).toList)[k]? = some x:=⟨_,List.getElem?_eq_getElem (by simp;omega)⟩
 obtain⟨_,e2,q2,q3,q4⟩:=LO k x hx
 rw [WH]at q2;cases q2
 obtain⟨u,hu1,hu2⟩:=q3.get hq
 have av7:dF.toList[k*n+j]? = some u:=by
  have e3:dF.toList=((parts.map fun(i,x)=>(i,vρ x)).toList.map fun x=>x.2.cells.toList).flatten:=by rw [f2,List.flatMap_def]
  rw [e3]
  refine mF (n:=n) (fun e he=>?_) (i:=k) (e:=x.2.cells.toList) (by rw [List.getElem?_map,hx];rfl) hu1
  simp only [List.mem_map]at he
  obtain⟨y,hy,rfl⟩:=he
  obtain⟨k',CN⟩:=List.getElem?_of_mem hy
  obtain⟨_,e4,q5,q6,_⟩:=LO k' y CN
  rw [<-q6.length];exact g2 e4 (List.mem_of_getElem? q5)
 refine⟨u,?_, .inr rfl,q4 u (List.mem_of_getElem? hu1),?_⟩
 ·have:=heap_alloc_new c.w (.cells dF e)
  rw [cell_of_row _ _ _ _ _ _ this]
  simpa using av7
 ·exact dY.mono hA.S hA.w _ _ (afI hI hu2 (xX e1 (List.mem_of_getElem? WH) q (List.mem_of_getElem? hq)) (yE e1 (List.mem_of_getElem? WH) q (List.mem_of_getElem? hq)).1)
end
section
variable {E:Env} {c:Cx} {w0:World} {S0:eU}
theorem i6{fn:Func}{b:Code}(h1:P.funcs[g]? = some fn)(h2:fn.body=some b) (h3:(fn.name == "runtime.NumGoroutine") = false) (args:Array Value) (w:World) :
  (callFunc g args).run P w = .ok (.enter g args) w:=by
 simp only [callFunc,Sem.run_bind,program,Sem.run,Result.andThen_ok,h1,h2,h3]
 simp
theorem EC(hI:Inv w0 S0 c)(hp:∀id∈ids,∀r,c.rows id=some r -> ∀e∈r.els,∀p∈e,bE p=true){pf:PV}{vf:Value}{aaN:List PV}{ED:List Value}
  (hf:aK c pf vf) (dQ:bA (aK c) aaN ED) (xX:∀p∈aaN,∀id∈eK p,id∈ids) (h:EB E pf (aaN.map (pz c.rows)) v) {K:Value->World->Prop}
  (hK:∀v' c',c'.rows=LN c.rows ids->c'.used=c.used->xW c c'->Inv w0 S0 c'->aK c' v v'->K v' c'.w) :
  ∃g cs,vf = .func (.func g) #[] cs∧(callFunc g (ED.toArray++cs)).run E.P c.w = .ok (.enter g (ED.toArray++cs)) c.w ∧
   Calls E.P g (ED.toArray++cs) c.w fun e w'=>∃v',e = .returned v'∧K v' w':=by
 unfold EB at h
 split at h
 ·rename_i g bR
  obtain⟨yG,⟨fn,b,h1,h2,h3⟩,CZ⟩:=h
  simp only [aK,aM,dY]at hf
  obtain⟨cs,rfl,GZ⟩:=hf
  refine⟨g,cs.toArray,rfl,i6 h1 h2 h3 _ _,?_⟩
  have RS:=hI.freeze ids
  have c8:∀b o,W9 c ids b o->b<c.w.heap.size:=fun b o hb=>RS.lt (c:=J5 c ids) hb
  have gE:b6 (W9 c ids) c.w (aaN.map (pz c.rows)++bR) (ED++cs):=by
   refine cX.2 (bA.append (bA.cI (by simp [dQ.length]) fun k p u pT hu=>?_) ?_)
   ·simp at pT
    obtain⟨q,hq,rfl⟩:=pT
    obtain⟨u',g1,g2⟩:=dQ.get hq
    rw [hu]at g1;cases g1
    exact N4 hI hp g2 (xX q (List.mem_of_getElem? hq)) (List.all_eq_true.1 yG _ (by simp;exact⟨q,List.mem_of_getElem? hq,rfl⟩))
   ·exact(cX.1 GZ).mono fun a b gU=>dY.mono (fun _ _ h => .inl h) (fun _ _ _=>rfl) a b gU
  have:=CZ c.w (W9 c ids) (ED++cs) c8 gE
  rw [show(ED++cs).toArray=ED.toArray++cs.toArray by simp]at this
  refine this.mono ?_
  rintro e w' ⟨v',rfl,hb,S',g1,g2,g3⟩
  refine⟨v',rfl,?_⟩
  obtain⟨hI2,hA2⟩:=RS.grow (c:=J5 c ids) hb g1 g2
  have hA:xW c { J5 c ids with S:=S',w:=w' }:=by
   have hA1:=lV c ids
   exact⟨fun b o h=>g1 b o (hA1.S b o h),fun b o h=>(hA2.w b o (hA1.S b o h)).trans (hA1.w b o h),fun _ h=>h,hA1.rows⟩
  exact hK v' { J5 c ids with S:=S',w:=w' } rfl rfl hA hI2 (aK.jS g3)
 ·exact h.elim
structure sN(w0:World)(S0:eU)(n:Nat)(G:Gs)(U:Nat->Prop)(f:Nat->PV)(rows:Rows)(a:Act)(w:World):Prop where
 ex:∃c:Cx,c.w=w∧c.rows=rows∧(∀v,c.used v->U v)∧Inv w0 S0 c∧(∀s,aK c (f s) (a.tmps.getD s undef)) ∧ ∀p∈G,aK c p.1 p.2
 size:a.tmps.size=n
 defers:a.defers = []
abbrev Rel(w0:World)(S0:eU)(n:Nat)(G:Gs)(σ:PS)(a:Act)(w:World):Prop:=sN w0 S0 n G (fun v=>v<σ.clock) σ.f σ.rows a w
theorem sN.mono{w0:World}{S0:eU}{U':Nat->Prop}(hU:∀v,U v->U' v)(h:sN w0 S0 n G U f rows a w):sN w0 S0 n G U' f rows a w:=by
 obtain⟨⟨c,h1,h2,h3,h4⟩,h5,h6⟩:=h
 exact⟨⟨c,h1,h2,fun v hv=>hU v (h3 v hv),h4⟩,h5,h6⟩
theorem acU(hf:∀s,aK c (f s) (a.tmps.getD s undef))(hG:∀p∈G,aK c p.1 p.2)(hn:a.tmps.size=n)(gF:a.defers = [])
  (hA:∀p v,aK c p v->aK c' p v) (hI:Inv w0 S0 c') (hv:aK c' v v') (hd:∀t,d=some t->t<n) (h1:f'=put f d v) (h2:rows=c'.rows) (h3:∀v,c'.used v->U v):sN w0 S0 n G U f' rows (a.put d v') c'.w:=by
 refine⟨⟨c',rfl,h2.symm,h3,hI,fun s=>?_,fun p hp=>hA _ _ (hG p hp)⟩,?_,?_⟩
 ·rw [h1]
  cases d with
  | none=>exact hA _ _ (hf s)
  | some t =>
   simp only [put,Act.put]
   by_cases hs:s=t
   ·subst hs
    have:s<a.tmps.size:=by rw [hn];exact hd s rfl
    simpa [this]using hv
   ·rw [if_neg hs]
    have:=hA _ _ (hf s)
    simpa [Array.getElem?_setIfInBounds_ne (Ne.symm hs)]using this
 ·cases d<;>simp [Act.put,hn]
 ·cases d<;>simp [Act.put,gF]
theorem vH(hf:∀s,aK c (f s) (a.tmps.getD s undef))(hG:∀p∈G,aK c p.1 p.2)(hn:a.tmps.size=n)(gF:a.defers = [])
  (hA:xW c c') (hI:Inv w0 S0 c') (hv:aK c' v v') (hd:∀t,d=some t->t<n) (h1:f'=put f d v) (h2:rows=c'.rows) (h3:∀v,c'.used v->U v):sN w0 S0 n G U f' rows (a.put d v') c'.w:=by
 refine⟨⟨c',rfl,h2.symm,h3,hI,fun s=>?_,fun p hp=>aK.tB hA _ _ (hG p hp)⟩,?_,?_⟩
 ·rw [h1]
  cases d with
  | none=>exact aK.tB hA _ _ (hf s)
  | some t =>
   simp only [put,Act.put]
   by_cases hs:s=t
   ·subst hs
    have:s<a.tmps.size:=by rw [hn];exact hd s rfl
    simpa [this]using hv
   ·rw [if_neg hs]
    have:=aK.tB hA _ _ (hf s)
    simpa [Array.getElem?_setIfInBounds_ne (Ne.symm hs)]using this
 ·cases d<;>simp [Act.put,hn]
 ·cases d<;>simp [Act.put,gF]
theorem w6(hf:∀s,aK c (f s) (a.tmps.getD s undef))(hG:∀p∈G,aK c p.1 p.2)(hn:a.tmps.size=n)(gF:a.defers = [])
  (hA:xW c c') (hI:Inv w0 S0 c') (hv:aK c' v v') (hd:∀t,d=some t->t<n) (h1:σ.f=put f d v) (h2:σ.rows=c'.rows) (h3:∀v,c'.used v->v<σ.clock):Rel w0 S0 n G σ (a.put d v') c'.w:=
 vH hf hG hn gF hA hI hv hd h1 h2 h3
theorem AV(hf:∀s,aK c' (f s) (a.tmps.getD s undef))(hG:∀p∈G,aK c' p.1 p.2)(hn:a.tmps.size=n)(gF:a.defers = [])
  (hI:Inv w0 S0 c') (hv:aK c' v v') (hd:∀t,d=some t->t<n) (h1:σ.f=put f d v) (h2:σ.rows=c'.rows) (h3:∀v,c'.used v->v<σ.clock):Rel w0 S0 n G σ (a.put d v') c'.w:=
 w6 hf hG hn gF (xW.refl c') hI hv hd h1 h2 h3
theorem sO{α:Type}{n:Nat}:∀ {l:List (List α)},(∀e∈l,e.length=n) -> ∀k,(l.take k).flatten=l.flatten.take (k*n)∧(l.drop k).flatten=l.flatten.drop (k*n)
 | [],_,k=>by simp
 | e::l,_,0=>by simp
 | e::l,h,k+1=>by
  have he:=h e aG
  have ih:=sO (l:=l) (fun e' tE=>h e' (List.mem_cons_of_mem _ tE)) k
  have h1:(k+1)*n=e.length+k*n:=by rw [he,Nat.add_mul];omega
  simp only [List.take_succ_cons,List.drop_succ_cons,List.flatten_cons,h1,List.take_length_add_append,List.drop_length_add_append,ih.1,ih.2,and_self]
theorem y7(hI:Inv w0 S0 c)(hy:aK c y vy)(h:vG c.rows y l)(hn:∀e∈l,e.length=n) :
  ∃A cap news,vy = .slice A l.length cap∧news.length=l.length*n∧bA (aM c) l.flatten news∧(∀u∈news,u.oneCell'=true)∧(A=none->l = []) ∧
   ∀a,A=some a -> ∀j u,news[j]? = some u->c.w.cell? (a.add j)=some u:=by
 have fl:∀ {l:List (List PV)},(∀e∈l,e.length=n)->l.flatten.length=l.length*n:=by
  intro l
  induction l with
  | nil=>intro _;simp
  | cons e l ih=>intro h;rw [List.flatten_cons,List.length_append,ih (fun e he=>h e (by simp [he])),h e aG,List.length_cons,Nat.add_mul];omega
 have at_:∀(g o cap:Nat),vy = .slice (some ⟨g,o,none⟩) l.length cap ->
   (∀k e,l[k]? = some e -> ∀j p,e[j]? = some p -> ∃v,c.w.cell? ⟨g,o+(k*n+j),none⟩=some v∧v.oneCell'=true∧aM c p v) -> ∃A cap news,vy = .slice A l.length cap∧news.length=l.length*n∧bA (aM c) l.flatten news∧(∀u∈news,u.oneCell'=true)∧(A=none->l = []) ∧
   ∀a,A=some a -> ∀j u,news[j]? = some u->c.w.cell? (a.add j)=some u:=by
  intro g o cap hv hc
  have cellAt:∀k,k<l.length*n -> ∃p v,l.flatten[k]? = some p∧c.w.cell? ⟨g,o+k,none⟩=some v∧v.oneCell'=true∧aM c p v:=by
   intro k hk
   have hn0:0<n:=by
    rcases Nat.eq_zero_or_pos n with h | h
    ·subst h;simp at hk
    ·exact h
   have hq:k/n<l.length:=(Nat.div_lt_iff_lt_mul hn0).2 hk
   have he:=hn l[k/n] (List.getElem_mem hq)
   have hj:k%n<l[k/n].length:=by rw [he];exact Nat.mod_lt _ hn0
   have hdm:k/n*n+k%n=k:=by rw [Nat.mul_comm];exact Nat.div_add_mod k n
   obtain⟨v,h1,h2,h3⟩:=hc (k/n) _ (List.getElem?_eq_getElem hq) (k%n) _ (List.getElem?_eq_getElem hj)
   rw [hdm]at h1
   have:=mF hn (List.getElem?_eq_getElem hq) (List.getElem?_eq_getElem hj)
   rw [hdm]at this
   exact⟨_,v,this,h1,h2,h3⟩
  have hnl:((List.range (l.length*n)).map fun k=>(c.w.cell? ⟨g,o+k,none⟩).getD undef).length=l.length*n:=aG
  have afu:∀k u,((List.range (l.length*n)).map fun k=>(c.w.cell? ⟨g,o+k,none⟩).getD undef)[k]? = some u->k<l.length*n ∧ ∃p,l.flatten[k]? = some p∧c.w.cell? ⟨g,o+k,none⟩=some u∧u.oneCell'=true∧aM c p u:=by
   intro k u hu
   have hk:k<l.length*n:=by rw [<-hnl];exact(List.getElem?_eq_some_iff.1 hu).1
   obtain⟨p,v,h1,h2,h3,h4⟩:=cellAt k hk
   rw [List.getElem?_map,List.getElem?_range hk]at hu
   simp only [Option.map_some,h2,Option.getD_some,Option.some.injEq]at hu
   subst hu
   exact⟨hk,p,h1,h2,h3,h4⟩
  refine⟨some ⟨g,o,none⟩,cap,_,hv,hnl,bA.cI (by rw [hnl,fl hn]) fun k p u hp hu=>?_,fun u hu=>?_,aG,fun a ha j u hu=>?_⟩
  ·obtain⟨_,p',h1,_,_,h4⟩:=afu k u hu
   rw [hp]at h1;cases h1;exact h4
  ·obtain⟨k,hk⟩:=List.getElem?_of_mem hu
   exact(afu k u hk).2.choose_spec.2.2.1
  ·cases ha
   rw [lF]
   exact(afu j u hu).2.choose_spec.2.1
 have empty:∀A cap,vy = .slice A l.length cap->l = [] -> ∃A cap news,vy = .slice A l.length cap∧news.length=l.length*n∧bA (aM c) l.flatten news∧(∀u∈news,u.oneCell'=true)∧(A=none->l = []) ∧
   ∀a,A=some a -> ∀j u,news[j]? = some u->c.w.cell? (a.add j)=some u:=by
  rintro A cap hv rfl
  exact⟨A,cap,[],hv,aG,trivial,aG,aG,aG⟩
 unfold vG at h
 split at h
 ·subst h
  simp only [aK,aM,dY]at hy
  exact empty none 0 (by rw [hy];rfl) rfl
 ·subst h
  simp only [aK,aM,dY]at hy
  obtain⟨A,cap,rfl,_,_,hh⟩:=hy
  rcases hh with hh | ⟨g,o,rfl,hr⟩
  ·exact empty A cap rfl hh
  ·refine at_ g o cap rfl fun k e hk j p hj=>?_
   obtain⟨v,h1,_,h3,h4⟩:=kK (l6 hr hn hk) hj
   exact⟨v,by rw [<-Nat.add_assoc];exact h1,h3,aM.jS h4⟩
 ·subst h
  simp only [aK,aM,dY]at hy
  obtain⟨A,rfl,_,hh⟩:=hy
  rcases hh with hh | ⟨g,o,rfl,hr⟩
  ·exact empty A _ rfl hh
  ·refine at_ g o _ rfl fun k e hk j p hj=>?_
   obtain⟨v,h1,_,h3,h4⟩:=kK (l6 hr hn hk) hj
   exact⟨v,by rw [<-Nat.add_assoc];exact h1,h3,aM.jS h4⟩
 ·rename_i id ver off len
  obtain⟨r,hr,lG,rfl⟩:=h
  simp only [aK,aM]at hy
  obtain⟨hle,hy⟩:=hy.2 r hr lG
  have D8:((r.els.drop off).take len).length=len:=by simp;omega
  rw [<-D8]at hy
  have rE:∀k e,((r.els.drop off).take len)[k]? = some e->r.els[off+k]? = some e∧r.size=n:=by
   intro k e hk
   have CN:=hk
   rw [List.getElem?_take]at hk
   split at hk
   ·rw [List.getElem?_drop]at hk
    refine⟨hk,?_⟩
    rw [<-hn e (List.mem_of_getElem? CN)]
    exact((hI.row id r hr).len e (List.mem_of_getElem? hk)).symm
   ·cases hk
  rcases hy with ⟨h0,A,m,cap,hβ,rfl⟩ | ⟨mX,g,m,cap,A,hβ,hoc,rfl,ha⟩
  ·subst h0
   rcases Nat.eq_zero_or_pos len with h0 | h0
   ·exact empty A cap rfl (List.eq_nil_of_length_eq_zero (by rw [D8];exact h0))
   ·obtain⟨g,l7,vB⟩:=vA hI hr aA
    rw [hβ]at vB
    simp only [Value.slice.injEq]at vB
    obtain⟨rfl,rfl,rfl⟩:=vB
    refine at_ g 0 _ rfl fun k e hk j p hj=>?_
    obtain⟨hk2,hs⟩:=rE k e hk
    have:=AJ hI hr hβ hk2 hj
    rw [hs]at this
    simpa using this
  ·rcases ha with ha | rfl
   ·exact empty _ _ rfl (List.eq_nil_of_length_eq_zero ha)
   ·refine at_ g _ _ rfl fun k e hk j p hj=>?_
    obtain⟨hk2,hs⟩:=rE k e hk
    have:=AJ hI hr hβ hk2 hj
    rw [hs]at this |-
    rw [show off*n+(k*n+j)=(off+k)*n+j by rw [Nat.add_mul];omega];exact this
 ·exact h.elim
end
section
variable {E:Env} {c:Cx} {w0:World} {S0:eU}
theorem N8(w:World)(dT sT ty elem:TypeId)(sz g o ap5 ap6:Nat)(A:Option Addr)(XF ap7:Nat)(cur:Array Value)(t:TypeId)(cs:List Value)
  (hu:P.underlying dT=some (.slice elem)) (hs:(P.info? elem).map (·.size)=some sz)
  (hg:w.heap[g]? = some (.cells cur t (0,0))) (hn:cs.length=Nat.min XF ap5*sz)
  (aCx:∀a,A=some a -> ∀j v,cs[j]? = some v->w.cell? (a.add j)=some v) (hA:A=none->cs = []) (ap4:o+cs.length<=cur.size) (h1:∀v∈cs,v.oneCell'=true) :
  (Builtin.copy_ #[dT,sT] ty #[.slice (some ⟨g,o,none⟩) ap5 ap6, .slice A XF ap7]).run P w =
   .ok (goInt (Nat.min XF ap5:Nat)) (w.setRow g (cur.toList.take o++cs++cur.toList.drop (o+cs.length)).toArray):=by
 cases hq:P.info? elem with
 | none=>simp [hq]at hs
 | some i =>
  have hi:i.size=sz:=by simpa [hq]using hs
  cases A with
  | some a =>
   have hl:=run_loadCells_list (P:=P) w a cs (aCx a rfl)
   have j2:=run_storeCells_at P g o t cs 0 cur w hg (by simpa using ap4) h1
   simp [Builtin.copy_,run_underlying hu,Builtin.lenOf,Builtin.firstCells,Go.sizeOf,typeInfo,hq,hi,<-hn,hl,j2]
  | none =>
   have:=hA rfl
   subst this
   have av9:=setRow_self w g cur t (0,0) hg
   simp [Builtin.copy_,run_underlying hu,Builtin.lenOf,Builtin.firstCells,Go.sizeOf,typeInfo,hq,storeCells,List.take_append_drop,av9]
theorem KK(w:World)(dT sT ty elem:TypeId)(D:Option Addr)(ap6:Nat)(A:Option Addr)(XF ap7 sz:Nat)
  (hu:P.underlying dT=some (.slice elem)) (hs:(P.info? elem).map (·.size)=some sz) :
  (Builtin.copy_ #[dT,sT] ty #[.slice D 0 ap6, .slice A XF ap7]).run P w = .ok (goInt (0:Nat)) w:=by
 cases hq:P.info? elem with
 | none=>simp [hq]at hs
 | some i=>cases A<;>cases D<;>simp [Builtin.copy_,run_underlying hu,Builtin.lenOf,Builtin.firstCells,Go.sizeOf,typeInfo,hq,storeCells,loadCells,loadCellsFrom,show Nat.min XF 0=0 from Nat.min_zero XF]
theorem acV(hI:Inv w0 S0 c){type:TypeId}{x:PV}(hx:aK c x vx)(hy:aK c y vy)(h:yF (E.ty t) c.rows x y v u) :
  ∃v' c',(Builtin.copy_ #[t,t2] type #[vx,vy]).run E.P c.w = .ok v' c'.w∧c'.rows=fP c.rows u∧c'.used=c.used∧xW c c'∧Inv w0 S0 c'∧aK c' v v':=by
 unfold yF at h
 split at h
 ·rename_i e sz b z id ver off len hE
  obtain⟨r,vF,lG,rE,hle,l,hl,hl1,rfl,rfl⟩:=h
  have gx:=hx
  simp only [aK,aM]at gx
  obtain⟨_,gx⟩:=gx.2 r vF lG
  obtain⟨hu,mX,N7,i,zv,hi,hz,hs,hby,W8,hzo⟩:=iM hE
  obtain⟨A,cap,news,hvy,g1,g2,g3,g4,g5⟩:=y7 hI hy hl hl1
  by_cases AW:len=0
  ·-- nothing
   subst AW
   obtain⟨D,XG,hvx⟩:∃D XG,vx = .slice D 0 XG:=by
    rcases gx with ⟨h0,A',m,akD,N9,hv⟩ | ⟨_,g2,m,akD,A',N9,_,hv,ha⟩
    ·exact⟨_,_,hv⟩
    ·exact⟨_,_,hv⟩
   have jU:=KK (P:=E.P) c.w t t2 type e D XG A l.length cap sz hu (by simp [hi,hs])
   have iQ:eO c.rows id (some { r with els:=r.els.take off++l.take 0++r.els.drop (off+min l.length 0) })=c.rows:=by
    funext j
    simp only [eO]
    split
    ·rename_i hj
     subst hj
     rw [vF]
     simp
    ·rfl
   refine⟨_,c,by rw [hvx,hvy];exact jU,?_,rfl,xW.refl c,hI,c7.2 (by
    simp only [goInt]
    congr 1
    omega)⟩
   show c.rows=eO c.rows id _
   rw [iQ]
  have awa:0<len:=aA
  obtain⟨⟨xs,lH,gE,lI⟩,G0,hnS,_⟩:=hI.row id r vF
  obtain⟨g,l7,hβ⟩:=vA hI vF aA
  obtain⟨XG,hvx⟩:∃XG,vx = .slice (some ⟨g,off*sz,none⟩) len XG:=by
   rcases gx with ⟨h0,A',m,akD,N9,hv⟩ | ⟨_,g2,m,akD,A',N9,_,hv,ha⟩
   ·rw [hβ]at N9
    simp only [Value.slice.injEq]at N9
    obtain⟨rfl,_,_⟩:=N9
    exact⟨_,by rw [hv,h0,Nat.zero_mul]⟩
   ·rw [hβ]at N9
    simp only [Value.slice.injEq,Option.some.injEq,Addr.mk.injEq,and_true]at N9
    obtain⟨rfl,_,_⟩:=N9
    rcases ha with ha | ha
    ·omega
    ·exact⟨_,by rw [hv,ha,rE]⟩
  have av5:=lH
  rw [hβ]at lH
  rcases lH.2 with ⟨h',_⟩ | ⟨g',awb,cur,h',hge,hg,W5,hcm,GZ,R7⟩
  ·simp at h'
  ·simp only [Value.slice.injEq,Option.some.injEq,Addr.mk.injEq,and_true]at h'
   obtain⟨rfl,_,rfl⟩:=h'
   rw [rE]at GZ R7
   have hnl:news.length=l.length*sz:=g1
   have hml:Nat.min l.length len<=len:=Nat.min_le_right _ _
   have hmm:Nat.min l.length len*sz=Nat.min (l.length*sz) (len*sz):=by
    show min l.length len*sz=min (l.length*sz) (len*sz)
    rcases Nat.le_total l.length len with hq | hq
    ·rw [Nat.min_eq_left hq,Nat.min_eq_left (Nat.mul_le_mul_right _ hq)]
    ·rw [Nat.min_eq_right hq,Nat.min_eq_right (Nat.mul_le_mul_right _ hq)]
   have AX:(news.take (len*sz)).length=Nat.min l.length len*sz:=by
    rw [List.length_take,hnl,hmm];exact Nat.min_comm _ _
   have R8:off*sz+len*sz<=r.els.length*sz:=by rw [<-Nat.add_mul];exact Nat.mul_le_mul_right _ hle
   have aIz:r.els.length*sz<=l7*sz:=Nat.mul_le_mul_right _ W5
   have aIA:Nat.min l.length len*sz<=len*sz:=Nat.mul_le_mul_right _ hml
   have jU:=N8 (P:=E.P) c.w t t2 type e sz g (off*sz) len XG A l.length cap cur r.e (news.take (len*sz)) hu (by simp [hi,hs]) hg AX
    (fun ad had j v hj=>g5 ad had j v (by rw [List.getElem?_take]at hj;split at hj;exact hj;cases hj)) (fun hA=>by
     have:=g4 hA
     subst this
     have:news = []:=List.eq_nil_of_length_eq_zero (by simpa using hnl)
     simp [this]) (by rw [AX];omega) (fun v hv=>g3 v (List.mem_of_mem_take hv))
   have aaQ:∀e∈r.els,e.length=sz:=fun e he=>by rw [G0 e he,rE]
   have anH:min l.length len=Nat.min l.length len:=rfl
   have afH:(c.w.setRow g (cur.toList.take (off*sz)++news.take (len*sz)++cur.toList.drop (off*sz+(news.take (len*sz)).length)).toArray).ownsRow w0.heap.size r.e r.size (c.β id) (r.els.take off++l.take len++r.els.drop (off+min l.length len)).length
     (xs.take (off*sz)++news.take (len*sz)++xs.drop (off*sz+(news.take (len*sz)).length)):=by
    have D8:(r.els.take off++l.take len++r.els.drop (off+min l.length len)).length=r.els.length:=by simp;omega
    have hxl:xs.length=r.els.length*sz:=by rw [lH.1,rE]
    rw [hβ,D8]
    refine⟨?_, .inr ⟨g,l7,_,rfl,hge,setRow_heap _ g cur _ r.e _ hg,W5,hcm,?_,?_⟩⟩
    ·rw [rE,List.length_append,List.length_append,AX,List.length_take,List.length_drop];omega
    ·rw [rE,List.size_toArray,List.length_append,List.length_append,AX,List.length_take,List.length_drop,Array.length_toList];omega
    ·rw [rE,<-R7]
     have aCs:cur.toList.length=l7*sz:=by simp [GZ]
     simp only
     rw [List.take_append,List.take_append]
     have e1:List.take (r.els.length*sz) (cur.toList.take (off*sz))=cur.toList.take (off*sz):=by rw [List.take_take,Nat.min_eq_right aA]
     have e2:List.take (off*sz) (cur.toList.take (r.els.length*sz))=cur.toList.take (off*sz):=by rw [List.take_take,Nat.min_eq_left aA]
     rw [e1,e2]
     have e3:(cur.toList.take (off*sz)).length=off*sz:=by rw [List.length_take];omega
     have e4:List.take (r.els.length*sz-off*sz) (news.take (len*sz))=news.take (len*sz):=List.take_of_length_le (by rw [AX];omega)
     rw [e3,e4]
     congr 1
     rw [List.length_append,e3,List.drop_take]
   have r5:c.w.grownBy (c.w.setRow g (cur.toList.take (off*sz)++news.take (len*sz)++cur.toList.drop (off*sz+(news.take (len*sz)).length)).toArray) (c.β id).ownBlock:=by
    rw [hβ]
    exact⟨rfl,rfl,rfl,aG,fun k _ hk=>setRow_other _ g k _ (fun e=>hk (by simp [Value.ownBlock,e]))⟩
   obtain⟨pU,hA⟩:=hI.eO (r':={ r with els:=r.els.take off++l.take len++r.els.drop (off+min l.length len) }) vF r5 afH (by
    show bA (aM c) (r.els.take off++l.take len++r.els.drop (off+min l.length len)).flatten _
    rw [List.flatten_append,List.flatten_append,(sO aaQ off).1,(sO hl1 len).1,(sO aaQ _).2,Nat.add_mul,anH,<-AX]
    exact((gE.take _).append (g2.take _)).append (gE.drop _)) (by
    intro y' C0
    simp only [List.mem_append]at C0
    rcases C0 with (C0 | C0) | C0
    ·exact lI y' (List.mem_of_mem_take C0)
    ·exact g3 y' (List.mem_of_mem_take C0)
    ·exact lI y' (List.mem_of_mem_drop C0)) (by
    intro e' tE
    simp only [List.mem_append]at tE
    rw [rE]
    rcases tE with (tE | tE) | tE
    ·exact aaQ e' (List.mem_of_mem_take tE)
    ·exact hl1 e' (List.mem_of_mem_take tE)
    ·exact aaQ e' (List.mem_of_mem_drop tE)) rfl rfl (by simp;omega)
   refine⟨goInt (Nat.min l.length len:Nat),_,?_,?_,?_,hA,pU,?_⟩
   ·rw [hvx,hvy];exact jU
   ·rfl
   ·rfl
   ·refine c7.2 ?_
    rw [<-anH]
    simp only [goInt]
    congr 1
    omega
 ·exact h.elim
theorem R9(hI:Inv w0 S0 c)(hf:∀s,aK c (f s) (a.tmps.getD s undef))(h:ys E o.op (aR f) c.rows v u)
  {K:Act->World->Prop}
  (hKT:∀v' c',c'.rows=fP c.rows u->c'.used=c.used->(∀p v,aK c p v->aK c' p v)->Inv w0 S0 c'->aK c' v v'->K (a.put o.dst v') c'.w):o.wp E.P a c.w K Q:=by
 have hK:∀v' c',c'.rows=fP c.rows u->c'.used=c.used->xW c c'->Inv w0 S0 c'->aK c' v v'->K (a.put o.dst v') c'.w:=fun v' c' h1 h2 h3=>hKT v' c' h1 h2 (aK.tB h3)
 have hρ:=pI hf
 have plain:yv E o.op (aR f) c.rows v∧u=none->o.wp E.P a c.w K Q:=by
  rintro⟨hv,rfl⟩
  obtain⟨v',h1,h2⟩:=ap0 hI hf hv
  unfold Oper.wp
  rw [h1]
  exact hK v' c rfl rfl (xW.refl c) hI h2
 obtain⟨dst,op,type,pos,after,guard⟩:=o
 simp only at h hK hKT plain
 unfold ys at h
 split at h
 ·rename_i x y t t2
  obtain⟨v',c',h1,h2,h3,h4,h5,h6⟩:=acV (t2:=t2) (type:=type) hI (hρ x) (hρ y) h
  unfold Oper.wp
  have:(execOp a.eval { dst:=dst,op:=.call { callee:=.builtin .copy,args:=⟨[x,y]⟩,argTypes:=⟨[t,t2]⟩ },type:=type,pos:=pos,after:=after,guard:=guard }).run E.P c.w = .ok (.value v') c'.w:=by
   simp only [execOp,resolve,invoke,builtin,Sem.run_bind,Sem.run_pure,Result.andThen_ok,List.map_toArray,List.map_cons,List.map_nil,h1]
  rw [this]
  exact hK v' c' h2 h3 h4 h5 h6
 ·rename_i t p x
  obtain⟨rfl,w',h1,h2,h3⟩:=XE hI (hρ p) (hρ x) h
  unfold Oper.wp
  have:(execOp a.eval { dst:=dst,op:=.store t p x,type:=type,pos:=pos,after:=after,guard:=guard }).run E.P c.w = .ok .skip w':=by simp [execOp,h1]
  rw [this]
  exact hK undef { c with w:=w',rows:=fP c.rows u } rfl rfl h3 h2 (by simp [aK,aM])
 ·rename_i t len parts
  obtain⟨h,rfl⟩:=h
  unfold XA at h
  split at h
  ·rename_i e n bb z hE
   obtain⟨els,h1,h2,h3,h4,h5,h6,rfl⟩:=h
   obtain⟨v',c',g1,g2,g3,g4,g5,g6⟩:=G6 hI hE hρ h1 h2 h3 h4 h5 h6
   unfold Oper.wp
   have:(execOp a.eval { dst:=dst,op:=.buildSlice t len parts,type:=type,pos:=pos,after:=after,guard:=guard }).run E.P c.w = .ok (.value v') c'.w:=by
    simp only [execOp,Sem.run_bind,g1,Result.andThen_ok,Sem.run_pure]
   rw [this]
   exact hK v' c' g2 g3 g5 g4 g6
  ·exact h.elim
 ·rename_i fo args ts
  have dQ:bA (aK c) (args.toList.map fun x=>aR f x) (args.map a.eval).toList:=by
   refine bA.cI aG fun k p u hp hu=>?_
   simp at hp hu
   obtain⟨x,hx,rfl⟩:=hp
   obtain⟨y,hy,rfl⟩:=hu
   rw [hx]at hy;cases hy
   exact hρ x
  by_cases hm:EA E (aR f fo)=true
  ·rw [if_pos hm]at h
   unfold R6 at h
   split at h
   ·rename_i g p0 rest awc aCA
    obtain⟨o,id,ver,rfl,⟨hp,hpv⟩,e,n,core,iC,iQ,hM,hc,CX,rfl⟩:=h
    rw [aCA]at dQ
    have OA:=hρ fo
    rw [awc]at OA
    simp only [aK,aM,dY]at OA
    obtain⟨cs,hfv,GZ⟩:=OA
    simp only [b6]at GZ
    subst GZ
    obtain⟨fn,b,h1,h2,h3⟩:=(hM lW 0 (fun j=>if j=lW then some ⟨0,e,n,core⟩else none) 1 (Nat.le_refl _) (if_pos rfl) aF).1
    have kV:=hM.frame hp hpv hc CX hI iQ dQ
    unfold Oper.wp
    have jU:(execOp a.eval { dst:=dst,op:=.call { callee:=.value fo,args:=args,argTypes:=ts },type:=type,pos:=pos,after:=after,guard:=guard }).run E.P c.w = .ok (.enter g (args.map a.eval)) c.w:=by
     simp only [execOp,resolve,hfv,Deferred.ofValue,Sem.run_bind,Sem.run_pure,Result.andThen_ok,invoke]
     simpa using i6 h1 h2 h3 (args.map a.eval) c.w
    rw [jU]
    rw [Array.toArray_toList]at kV
    refine kV.mono ?_
    rintro x w' ⟨v',c',rfl,rfl,k1,k2,k3,k4,k5⟩
    exact hKT v' c' k1 k2 k3 k4 k5
   ·exact h.elim
  rw [if_neg hm]at h
  obtain⟨rfl,hc,xX⟩:=h
  have CX:EB E (aR f fo) ((args.toList.map fun x=>aR f x).map (pz c.rows)) v:=by rw [List.map_map];exact hc
  obtain⟨g,cs,h1,h2,h3⟩:=EC hI (ids:=[]) aG (hρ fo) dQ (by
   intro p hp id iH
   simp at hp
   obtain⟨x,hx,rfl⟩:=hp
   have:id∈args.toList.flatMap fun x=>eK (aR f x):=by simp only [List.mem_flatMap];exact⟨x,by simpa using hx,iH⟩
   rw [xX]at this;exact this) CX (K:=fun v' w'=>K (a.put dst v') w') (fun v' c' q1 q2 q3 q4 q5=>hK v' c' (by rw [q1];funext j;simp [LN,fP]) q2 q3 q4 q5)
  unfold Oper.wp
  have jU:(execOp a.eval { dst:=dst,op:=.call { callee:=.value fo,args:=args,argTypes:=ts },type:=type,pos:=pos,after:=after,guard:=guard }).run E.P c.w = .ok (.enter g (args.map a.eval++cs)) c.w:=by
   simp only [execOp,resolve,h1,Deferred.ofValue,Sem.run_bind,Sem.run_pure,Result.andThen_ok,invoke]
   simp only [Array.toArray_toList]at h2
   simpa only [Array.empty_append]using h2
  rw [jU]
  simp only [Array.toArray_toList]at h3
  exact h3.mono fun e w' ⟨v',he,hk⟩=>by subst he;exact hk
 ·exact plain h
end
def room:Nat:=140737488355328
def gG(rows:Rows)(ids:List Nat):Prop:=∀id∈ids,∀r,rows id=some r -> ∀e∈r.els,∀p∈e,bE p=true
def OB(K:PS->Prop)(σ:PS)(d:Option Tmp)(v:PV)(id:Nat)(e:TypeId)(n:Nat)(els:List (List PV)):Prop:=
 K ⟨put σ.f d v,eO σ.rows id (some ⟨σ.clock,e,n,els⟩),σ.clock+1⟩
def OC(E:Env)(o:Oper)(t:TypeId)(x y:PV)(K:PS->Prop)(σ:PS):Prop:=
 match E.ty t with
 | .slice e n b _ =>
  ∃l,vG σ.rows y l∧(∀e∈l,e.length=n) ∧
  match x with
  | .nil=>l.length<=room∧l.length*b<=room∧OB K σ o.dst (.own (o.dst.getD 0) σ.clock 0 l.length) (o.dst.getD 0) e n l
  | .own id ver off len=>∃r,σ.rows id=some r∧r.ver=ver∧off=0∧len<=r.els.length∧r.e=e∧r.size=n∧len+l.length<=room∧(len+l.length)*b<=room ∧
    OB K σ o.dst (.own id σ.clock 0 (len+l.length)) id e n (r.els.take len++l)
  | .kJ l0=>(∀e∈l0,e.length=n)∧(∀e∈l,∀p∈e,bE p=true)∧l0.length+l.length<=room∧(l0.length+l.length)*b<=room∧K (σ.put o.dst (.sl (l0++l)))
  | _=>False
 | _=>False
def LP(K:Nat->(Nat->PV)->Rows->Prop)(ver:Nat)(f:Nat->PV)(rows:Rows)(d:Option Tmp)(v:PV)(id:Nat)(e:TypeId)(n:Nat)(els:List (List PV)):Prop:=
 K 1 (put f d v) (eO rows id (some ⟨ver,e,n,els⟩))
def sP(E:Env)(ver:Nat)(o:Oper)(t:TypeId)(x y:PV)(K:Nat->(Nat->PV)->Rows->Prop)(f:Nat->PV)(rows:Rows):Prop:=
 match E.ty t with
 | .slice e n b _ =>
  ∃l,vG rows y l∧(∀e∈l,e.length=n) ∧
  match x with
  | .nil=>l.length<=room∧l.length*b<=room∧LP K ver f rows o.dst (.own (o.dst.getD 0) ver 0 l.length) (o.dst.getD 0) e n l
  | .own id awd off len=>∃r,rows id=some r∧r.ver=awd∧off=0∧len<=r.els.length∧r.e=e∧r.size=n∧len+l.length<=room∧(len+l.length)*b<=room ∧
    LP K ver f rows o.dst (.own id ver 0 (len+l.length)) id e n (r.els.take len++l)
  | .kJ l0=>(∀e∈l0,e.length=n)∧(∀e∈l,∀p∈e,bE p=true)∧l0.length+l.length<=room∧(l0.length+l.length)*b<=room∧K 0 (put f o.dst (.sl (l0++l))) rows
  | _=>False
 | _=>False
def slT:TI->Bool
 | .slice .. => true
 | _=>false
def gV(E:Env)(o:Oper)(K:PS->Prop)(σ:PS):Prop:=
 match o.op with
 | .alloc t=>(E.ty t).known=true∧OB K σ o.dst (.ptr (o.dst.getD 0) σ.clock 0 0) (o.dst.getD 0) t (E.ty t).size [(E.ty t).zero]
 | .box t x=>(E.ty t).known=true ∧ ∃l,cR (aR σ.f x)=some l∧(∀q∈l,jT σ.rows q)∧l.length=(E.ty t).size∧OB K σ o.dst (.ptr (o.dst.getD 0) σ.clock 0 0) (o.dst.getD 0) t (E.ty t).size [l]
 | .makeSlice t l c =>
  match E.ty t,aR σ.f l,aR σ.f c with
  | .slice e n b z, .int _ x, .int _ y=>0<=x∧x<=y∧y.toNat<=room∧y.toNat*b<=room∧OB K σ o.dst (.own (o.dst.getD 0) σ.clock 0 x.toNat) (o.dst.getD 0) e n (List.replicate x.toNat z)
  | _,_,_=>False
 | .call { callee:=.builtin .append,args:=⟨[x,y]⟩,argTypes:=⟨[t,t2]⟩ }=>(t2=t∨slT (E.ty t2)=true)∧OC E o t (aR σ.f x) (aR σ.f y) K σ
 | .call { callee:=.value f,args:=args,argTypes:=_ }=>if akA E (aR σ.f f)=true then XD E (aR σ.f f) (args.toList.map (aR σ.f)) σ.rows σ.clock (fun v rows clk=>K ⟨put σ.f o.dst v,rows,clk⟩)
   else ∃v,EB E (aR σ.f f) (args.toList.map fun x=>pz σ.rows (aR σ.f x)) v∧gG σ.rows (args.toList.flatMap fun x=>eK (aR σ.f x)) ∧
   K ⟨put σ.f o.dst v,LN σ.rows (args.toList.flatMap fun x=>eK (aR σ.f x)),σ.clock⟩
 | .call { callee:=.invoke r name,args:=args,argTypes:=_ }=>∃t id ver g,aR σ.f r = .sL t id ver∧(∃r,σ.rows id=some r∧r.ver=ver)∧afF E.P t name g ∧
   qA E.P g (.ptr id ver 0 0::args.toList.map (aR σ.f)) σ.rows σ.clock (fun v rows clk=>K ⟨put σ.f o.dst v,rows,clk⟩)
 | .makeFunc (.func f) fs bR=>if E.uT f=true then((fs.toList.map (aR σ.f)).all pE=true∧(bR.toList.map (aR σ.f)).all pE=true)∧K ⟨put σ.f o.dst (.rC f (fs.toList.map (aR σ.f)) (bR.toList.map (aR σ.f))),σ.rows,σ.clock⟩
   else fs.toList = []∧(bR.toList.map fun x=>pz σ.rows (aR σ.f x)).all cY=true∧gG σ.rows (bR.toList.flatMap fun x=>eK (aR σ.f x)) ∧
   K ⟨put σ.f o.dst (.fn f (bR.toList.map fun x=>pz σ.rows (aR σ.f x))),LN σ.rows (bR.toList.flatMap fun x=>eK (aR σ.f x)),σ.clock⟩
 | _=>∃v u,ys E o.op (aR σ.f) σ.rows v u∧K ⟨put σ.f o.dst v,fP σ.rows u,σ.clock⟩
def r7(E:Env)(ver:Nat)(o:Oper)(K:Nat->(Nat->PV)->Rows->Prop)(f:Nat->PV)(rows:Rows):Prop:=
 match o.op with
 | .alloc t=>(E.ty t).known=true∧LP K ver f rows o.dst (.ptr (o.dst.getD 0) ver 0 0) (o.dst.getD 0) t (E.ty t).size [(E.ty t).zero]
 | .box t x=>(E.ty t).known=true ∧ ∃l,cR (aR f x)=some l∧(∀q∈l,jT rows q)∧l.length=(E.ty t).size∧LP K ver f rows o.dst (.ptr (o.dst.getD 0) ver 0 0) (o.dst.getD 0) t (E.ty t).size [l]
 | .makeSlice t l c =>
  match E.ty t,aR f l,aR f c with
  | .slice e n b z, .int _ x, .int _ y=>0<=x∧x<=y∧y.toNat<=room∧y.toNat*b<=room∧LP K ver f rows o.dst (.own (o.dst.getD 0) ver 0 x.toNat) (o.dst.getD 0) e n (List.replicate x.toNat z)
  | _,_,_=>False
 | .call { callee:=.builtin .append,args:=⟨[x,y]⟩,argTypes:=⟨[t,t2]⟩ }=>(t2=t∨slT (E.ty t2)=true)∧sP E ver o t (aR f x) (aR f y) K f rows
 | _=>False
theorem AY(h:n<=room):n<=maxLen:=by unfold room at h;simp only [maxLen];omega
theorem nZ{α:Type}{z:List α}:∀ {x k:Nat} {a:α},(List.replicate x z).flatten[k]? = some a->z[k%z.length]? = some a
 | 0,k,a,h=>by simp at h
 | x+1,k,a,h=>by
  rw [List.replicate_succ,List.flatten_cons]at h
  rcases Nat.lt_or_ge k z.length with hk | hk
  ·rw [List.getElem?_append_left hk]at h
   rw [Nat.mod_eq_of_lt hk];exact h
  ·rw [List.getElem?_append_right hk]at h
   have:=nZ h
   rw [<-Nat.mod_eq_sub_mod hk]at this;exact this
section
variable {E:Env} {c:Cx} {w0:World} {S0:eU}
theorem C3(hI:Inv w0 S0 c)(iR:¬c.used ver)(id:Nat)(e:TypeId)(size n cap:Nat)(els:List (List PV))(cells:Array Value)(hn:els.length=n)(W5:n<=cap)(hcm:cap<=maxLen)(rE:cells.size=cap*size)
  (gE:bA (aM c) els.flatten (cells.toList.take (n*size))) (lI:∀u∈cells.toList,u.oneCell'=true) (hlen:∀e∈els,e.length=size) (mX:0<size) :
  Inv w0 S0 { c with w:=c.w.alloc (.cells cells e),β:=eO c.β id (.slice (some ⟨c.w.heap.size,0,none⟩) n cap),rows:=eO c.rows id (some ⟨ver,e,size,els⟩),used:=fun v=>v=ver∨c.used v } ∧
  xW c { c with w:=c.w.alloc (.cells cells e),β:=eO c.β id (.slice (some ⟨c.w.heap.size,0,none⟩) n cap),rows:=eO c.rows id (some ⟨ver,e,size,els⟩),used:=fun v=>v=ver∨c.used v }:=by
 refine hI.set (ob:=none) (r':=⟨ver,e,size,els⟩) (xs:=cells.toList.take (n*size)) (World.grownBy_alloc c.w _ none) aG ?_ gE (fun x hx=>lI x (List.mem_of_mem_take hx)) hlen mX ?_ iR
 ·have hle:n*size<=cap*size:=Nat.mul_le_mul_right _ W5
  refine⟨by simp [hn];omega, .inr ⟨c.w.heap.size,cap,cells,by simp [hn],hI.below.size,heap_alloc_new c.w _,by simp [hn];exact W5,hcm,rE,by simp [hn]⟩⟩
 ·intro g hg
  simp [Value.ownBlock]at hg
  exact .inr aA
theorem afM(h:o6 E.P t n z):∃i v,E.P.info? t=some i∧i.zero=some v∧i.size=n∧bA (aM c) z v.cells.toList∧v.cells.size=n ∧ ∀u∈v.cells.toList,u.oneCell'=true:=by
 obtain⟨i,v,h1,h2,h3,h4,h5⟩:=h.ok
 have hl:v.cells.size=n:=by rw [<-h.len,<-h4];simp
 refine⟨i,v,h1,h2,h3,?_,hl,fun u hu=>(Array.all_eq_true_iff_forall_mem.1 h5) u (by simpa using hu)⟩
 rw [<-h4]
 refine bA.cI aG fun k a b ha hb=>?_
 simp at ha
 obtain⟨u,hu,rfl⟩:=ha
 have:v.cells.toList[k]? = some u:=by simpa using hu
 rw [this]at hb;cases hb
 exact n3 _
theorem oO(hr:c'.rows id=some r)(hn:r.els.length=n)(hc:c'.used ver)(hβ:c'.β id = .slice A n cap):aK c' (.own id ver 0 n) (.slice A n cap):=by
 simp only [aK,aM]
 refine⟨hc,fun r' jO _=>?_⟩
 rw [hr]at jO;cases jO
 exact⟨aA, .inl ⟨by first | rfl | trivial,A,n,cap,hβ,rfl⟩⟩
theorem afN(hc:c'.used ver){g:Nat}(hβ:c'.β id = .slice (some ⟨g,0,none⟩) n cap):aK c' (.ptr id ver 0 0) (.pointer (some ⟨g,0,none⟩)):=by
 simp only [aK,aM]
 exact⟨⟨hc,rfl⟩,fun r' _ _=>⟨g,n,cap,hβ,aG⟩⟩
theorem yH{z:Array Value}{N:Nat}(hk:k<N)(hz:0<z.size):(madeCells z N).toList[k]? = z.toList[k%z.size]? := by
 have hm:k%z.size<z.size:=Nat.mod_lt _ hz
 simp [madeCells,hk,hm]
variable {n:Nat} {G:Gs}
theorem vI(hr:c.rows=rows)(gS:∀v,c.used v->U v)(hf:∀s,aK c (f s) (a.tmps.getD s undef))(hG:∀p∈G,aK c p.1 p.2)(hn:a.tmps.size=n)(gF:a.defers = [])
  {K:(Nat->PV)->Rows->Prop} {sz:Nat} (h:K (put f d v) (eO rows id (some ⟨ver,e,sz,els⟩))) {b':Value}
  (hI:Inv w0 S0 { c with w:=w',β:=eO c.β id b',rows:=eO c.rows id (some ⟨ver,e,sz,els⟩),used:=fun v=>v=ver∨c.used v })
  (hA:xW c { c with w:=w',β:=eO c.β id b',rows:=eO c.rows id (some ⟨ver,e,sz,els⟩),used:=fun v=>v=ver∨c.used v })
  (hv:aK { c with w:=w',β:=eO c.β id b',rows:=eO c.rows id (some ⟨ver,e,sz,els⟩),used:=fun v=>v=ver∨c.used v } v v') (hd:∀t,d=some t->t<n) :
  ∃f' rows',K f' rows'∧sN w0 S0 n G (fun v=>v=ver∨U v) f' rows' (a.put d v') w':=by
 refine⟨_,_,h,?_⟩
 have:=vH (U:=fun v=>v=ver∨U v) (f':=put f d v) (rows:=eO rows id (some ⟨ver,e,sz,els⟩)) hf hG hn gF hA hI hv hd rfl (by simp [hr]) (fun v hv=>hv.imp (fun h=>h) (gS v))
 exact this
theorem XH(hI:Inv w0 S0 c)(hg:c.w.grownBy w' none){sz:Nat}(lH:w'.ownsRow c.w.heap.size e sz v' els.length xs)
  (gE:bA (dY c.S c.w) els.flatten xs) (lI:∀u∈xs,u.oneCell'=true) (hlen:∀e∈els,e.length=sz) :
  ∃c',c'.w=w'∧c'.rows=c.rows∧c'.used=c.used∧Inv w0 S0 c'∧xW c c'∧aK c' (.sl els) v':=by
 have hb:Below c.w.heap.size c.w w':=⟨hg.os,hg.tape,hg.output,hg.size,fun k hk=>hg.block k hk aG⟩
 obtain⟨pU,hA⟩:=hI.grow (S':=fun b o=>c.S b o∨(c.w.heap.size<=b∧b<w'.heap.size)) hb (fun _ _ h => .inl h) (fun _ _ h=>h)
 refine⟨{ c with S:=fun b o=>c.S b o∨(c.w.heap.size<=b∧b<w'.heap.size),w:=w' },rfl,rfl,rfl,pU,hA,?_⟩
 simp only [aK,aM,dY]
 rcases lH.2 with ⟨rfl,h0⟩ | ⟨g,cap,cur,rfl,hge,hh,W5,hcm,GZ,R7⟩
 ·exact⟨none,0,by rw [h0],aA,by simp [maxLen], .inl (List.eq_nil_of_length_eq_zero h0)⟩
 ·refine⟨_,cap,rfl,W5,hcm, .inr ⟨g,0,rfl,sM hlen fun k el hk=>mE fun j p hj=>?_⟩⟩
  have hf:=mF hlen hk hj
  obtain⟨u,hu,hr⟩:=gE.get hf
  have c8:g<w'.heap.size:=(Array.getElem?_eq_some_iff.1 hh).1
  have LM:=lH.cells (g:=g) rfl (k*sz+j) u hu
  rw [lF]at LM
  refine⟨u,?_, .inr ⟨hge,c8⟩,lI u (List.mem_of_getElem? hu),dY.mono hA.S hA.w _ _ hr⟩
  rw [show 0+k*sz+j=0+(k*sz+j)by omega];exact LM
theorem afO{base e sz n:Nat}(h:w.ownsRow base e sz (.slice A n cap) n xs)(hk:k<=n):w.ownsRow base e sz (.slice A k cap) k (xs.take (k*sz)):=by
 have hle:k*sz<=n*sz:=Nat.mul_le_mul_right _ hk
 refine⟨by rw [List.length_take,h.1];omega,?_⟩
 rcases h.2 with ⟨h1,h2⟩ | ⟨g,l7,cur,h1,h2,h3,h4,h5,h6,h7⟩
 ·simp only [Value.slice.injEq]at h1
  obtain⟨rfl,_,rfl⟩:=h1
  have CP:k=0:=aA
  subst CP
  exact .inl ⟨rfl,rfl⟩
 ·simp only [Value.slice.injEq]at h1
  obtain⟨rfl,_,rfl⟩:=h1
  refine .inr ⟨g,cap,cur,rfl,h2,h3,aA,h5,h6,?_⟩
  rw [<-h7,List.take_take,Nat.min_eq_left hle]
theorem acW{ty:TypeId}{e2:TypeId}{x y:Value}(hu:P.underlying t=some (.slice e))(hu2:P.underlying t2=some (.slice e2)) :
  (Builtin.append_ #[t,t2] ty #[x,y]).run P w=(Builtin.append_ #[t,t] ty #[x,y]).run P w:=by
 unfold Builtin.append_
 simp only [List.getElem?_toArray,List.getElem?_cons_zero,List.getElem?_cons_succ,Sem.run_bind,run_underlying hu,Result.andThen_ok]
 cases x<;>simp [run_underlying hu,run_underlying hu2]
theorem akF{E:Env}(h:slT (E.ty t2)=true):∃e,E.P.underlying t2=some (.slice e):=by
 cases hE:E.ty t2 with
 | slice e n b z=>exact⟨e,(iM hE).1⟩
 | _=>rw [hE]at h;cases h
theorem G7(iR:¬U ver){x y:Operand}(hop:o.op = .call { callee:=.builtin .append,args:=⟨[x,y]⟩,argTypes:=⟨[t,t2]⟩ })(ht2:t2=t∨slT (E.ty t2)=true)
  (hI:Inv w0 S0 c) (hr:c.rows=rows) (gS:∀v,c.used v->U v) (hf:∀s,aK c (f s) (a.tmps.getD s undef)) (hG:∀p∈G,aK c p.1 p.2) (hn:a.tmps.size=n) (gF:a.defers = [])
  (hd:∀t,o.dst=some t->t<n) {K:Nat->(Nat->PV)->Rows->Prop} (h:sP E ver o t (aR f x) (aR f y) K f rows) (hK:∀i f' rows' a' w',K i f' rows'->sN w0 S0 n G (fun v=>(i=1∧v=ver)∨U v) f' rows' a' w'->K' a' w'):o.wp E.P a c.w K' Q:=by
 have hρ:=pI hf
 have run:∀ {v':Value} {w':World},(Builtin.append_ #[t,t] o.type #[a.eval x,a.eval y]).run E.P c.w = .ok v' w'->K' (a.put o.dst v') w'->o.wp E.P a c.w K' Q:=by
  intro v' w' h1 h2
  unfold Oper.wp
  have NZ:(Builtin.append_ #[t,t2] o.type #[a.eval x,a.eval y]).run E.P c.w = .ok v' w':=by
   rcases ht2 with rfl | ht2
   ·exact h1
   ·obtain⟨e2,hu2⟩:=akF ht2
    have AZ:∃e,E.P.underlying t=some (.slice e):=by
     unfold sP at h
     split at h
     ·rename_i e n b z hE;exact⟨e,(iM hE).1⟩
     ·exact h.elim
    obtain⟨e,hu⟩:=AZ
    rw [acW hu hu2];exact h1
  have:(execOp a.eval o).run E.P c.w = .ok (.value v') w':=by
   simp only [execOp,hop,resolve,invoke,builtin,Sem.run_bind,Sem.run_pure,Result.andThen_ok,List.map_toArray,List.map_cons,List.map_nil,NZ]
  rw [this]
  exact h2
 unfold sP at h
 split at h
 ·rename_i e sz b z hE
  obtain⟨l,hl,hlen,h⟩:=h
  obtain⟨hu,mX,N7,i,zv,hi,hz,hs,hby,W8,_⟩:=iM hE
  have J8:zv.cells.size=sz:=by rw [<-N7,<-W8];simp
  rw [<-hr]at hl
  obtain⟨A,cap,news,hvy,g1,g2,g3,g4,g5⟩:=y7 hI (hρ y) hl hlen
  have main:∀(vx:Value) (k:Nat) (xs:List Value),c.w.ownsRow w0.heap.size e sz vx k xs->a.eval x=vx->k+l.length<=room->(k+l.length)*b<=room ->
    ∃v' w',(Builtin.append_ #[t,t] o.type #[a.eval x,a.eval y]).run E.P c.w = .ok v' w'∧w'.ownsRow w0.heap.size e sz v' (k+l.length) (xs++news)∧c.w.grownBy w' vx.ownBlock∧(v'.ownBlock=vx.ownBlock∨v'.ownBlock=some c.w.heap.size):=by
   intro vx k xs lH hvx OD C4
   rw [hvx,hvy]
   cases A with
   | some ad =>
    obtain⟨v',w',q1,q2,q3,_,q5⟩:=run_append_own_at (P:=E.P) c.w w0.heap.size t o.type e i zv sz b hu hi hz hs hby J8 mX vx k xs lH ad l.length cap news g1 (g5 ad rfl) g3 (AY OD) (by simpa [room]using C4) hI.below.size
    exact⟨v',w',q1,q2,q3,q5⟩
   | none =>
    have AF:=g4 rfl
    subst AF
    have hn0:news = []:=List.eq_nil_of_length_eq_zero (by simpa using g1)
    subst hn0
    refine⟨vx,c.w,?_,by simpa using lH,⟨rfl,rfl,rfl,Nat.le_refl _,fun _ _ _=>rfl⟩, .inl rfl⟩
    rcases lH.2 with ⟨rfl,rfl⟩ | ⟨g,l7,cur,rfl,_,_,W5,_⟩
    ·simp [Builtin.append_,run_underlying hu,Go.sizeOf,typeInfo,hi,Builtin.lenOf,Builtin.firstCells]
    ·simp [Builtin.append_,run_underlying hu,Go.sizeOf,typeInfo,hi,Builtin.lenOf,Builtin.firstCells,W5,storeCells]
  split at h
  ·-- awe nil
   rename_i heq
   obtain⟨OD,C4,h⟩:=h
   have hx:=hρ x
   rw [heq]at hx
   simp only [aK,aM,dY]at hx
   obtain⟨v',w',q1,q2,q3,q4⟩:=main (.slice none 0 0) 0 [] (World.ownsRow_nil _ _ _ _) hx (by simpa using OD) (by simpa using C4)
   simp only [Nat.zero_add,List.nil_append]at q2
   obtain⟨pU,hA⟩:=hI.set (ob:=none) (id:=o.dst.getD 0) (r':=⟨ver,e,sz,l⟩) (xs:=news) q3 aG q2 g2 g3 hlen mX (by
    intro g hg
    rcases q4 with q4 | q4
    ·rw [q4]at hg;simp [Value.ownBlock]at hg
    ·rw [q4]at hg;cases hg;exact .inr (Nat.le_refl _)) (fun hu=>iR (gS _ hu))
   have hv:aK { c with w:=w',β:=eO c.β (o.dst.getD 0) v',rows:=eO c.rows (o.dst.getD 0) (some ⟨ver,e,sz,l⟩),used:=fun v=>v=ver∨c.used v } (.own (o.dst.getD 0) ver 0 l.length) v':=by
    have afP:∃A' l7,v' = .slice A' l.length l7:=by
     rcases q2.2 with ⟨rfl,h0⟩ | ⟨g,l7,cur,rfl,_⟩
     ·exact⟨none,0,by rw [h0]⟩
     ·exact⟨_,l7,rfl⟩
    obtain⟨A',l7,rfl⟩:=afP
    exact oO (r:=⟨ver,e,sz,l⟩) (by simp [eO]) rfl (Or.inl rfl) (by simp [eO])
   obtain⟨f',rows',hk,G8⟩:=vI (K:=K 1) hr gS hf hG hn gF h pU hA hv hd
   exact run q1 (hK 1 f' rows' _ _ hk (G8.mono fun v hv=>hv.imp (fun h=>⟨rfl,h⟩) fun h=>h))
  ·-- awe a row of its own
   rename_i id awd off len heq
   obtain⟨r,vF,lG,rfl,hle,he,rE,OD,C4,h⟩:=h
   rw [<-hr]at vF
   have hx:=hρ x
   rw [heq]at hx
   simp only [aK,aM]at hx
   obtain⟨⟨xs,lH,gE,lI⟩,AW,hnS,_⟩:=hI.row id r vF
   obtain⟨A0,m0,awf,hβ,hxv⟩:∃A' m l7,c.β id = .slice A' m l7∧a.eval x = .slice A' len l7:=by
    rcases(hx.2 r vF lG).2 with ⟨_,h⟩ | ⟨h0,_⟩
    ·exact h
    ·omega
   have hm:m0=r.els.length:=by
    rw [hβ]at lH
    rcases lH.2 with ⟨h',h0⟩ | ⟨g,awb,cur,h',_⟩
    ·simp at h';omega
    ·simp at h';exact h'.2.1
   subst hm
   have hob:(c.β id).ownBlock=(Value.slice A0 len awf).ownBlock:=by rw [hβ];cases A0<;>rfl
   have hbg:=lH.lt
   rw [he,rE,hβ]at lH
   obtain⟨v',w',q1,q2,q3,q4⟩:=main (.slice A0 len awf) len (xs.take (len*sz)) (afO lH hle) hxv OD C4
   rw [<-hob]at q3 q4
   have afQ:∀e∈r.els,e.length=sz:=fun e tE=>by rw [AW e tE,rE]
   have D8:(r.els.take len++l).length=len+l.length:=by rw [List.length_append,List.length_take,Nat.min_eq_left hle]
   obtain⟨pU,hA⟩:=hI.set (ob:=(c.β id).ownBlock) (id:=id) (r':=⟨ver,e,sz,r.els.take len++l⟩) (xs:=xs.take (len*sz)++news) q3 (by
    intro g hg
    refine⟨(hbg g hg).1,fun o=>hnS g o hg,fun lC r' jO o7 hb=>o7 (hI.apart lC id r' r g jO vF hb hg)⟩) (by simpa only [D8]using q2) (by
     show bA (aM c) (r.els.take len++l).flatten _
     rw [List.flatten_append,(sO afQ len).1];exact(gE.take _).append g2) (by
     intro u hu
     rcases List.mem_append.1 hu with hu | hu
     ·exact lI u (List.mem_of_mem_take hu)
     ·exact g3 u hu) (by
     intro e' tE
     rcases List.mem_append.1 tE with tE | tE
     ·exact afQ e' (List.mem_of_mem_take tE)
     ·exact hlen e' tE) mX (by
     intro g hg
     rcases q4 with q4 | q4
     ·exact .inl (by rw [<-q4];exact hg)
     ·rw [q4]at hg;cases hg;exact .inr (Nat.le_refl _)) (fun hu=>iR (gS _ hu))
   have hv:aK { c with w:=w',β:=eO c.β id v',rows:=eO c.rows id (some ⟨ver,e,sz,r.els.take len++l⟩),used:=fun v=>v=ver∨c.used v } (.own id ver 0 (len+l.length)) v':=by
    have afP:∃A' l7,v' = .slice A' (len+l.length) l7:=by
     rcases q2.2 with ⟨rfl,h0⟩ | ⟨g,l7,cur,rfl,_⟩
     ·exact⟨none,0,by rw [h0]⟩
     ·exact⟨_,l7,rfl⟩
    obtain⟨A',l7,rfl⟩:=afP
    exact oO (r:=⟨ver,e,sz,r.els.take len++l⟩) (by simp [eO]) D8 (Or.inl rfl) (by simp [eO])
   obtain⟨f',rows',hk,G8⟩:=vI (K:=K 1) hr gS hf hG hn gF h pU hA hv hd
   exact run q1 (hK 1 f' rows' _ _ hk (G8.mono fun v hv=>hv.imp (fun h=>⟨rfl,h⟩) fun h=>h))
  ·-- awe cells that stay,its capacity its length
   rename_i l0 heq
   obtain⟨AW,R4,OD,C4,h⟩:=h
   have hx:=hρ x
   rw [heq]at hx
   simp only [aK,aM,dY]at hx
   obtain⟨A0,hA0,WI,afR⟩:=hx
   have fin:∀ {v':Value} {w':World},(Builtin.append_ #[t,t] o.type #[a.eval x,a.eval y]).run E.P c.w = .ok v' w' ->
     (∃c',c'.w=w'∧c'.rows=c.rows∧c'.used=c.used∧Inv w0 S0 c'∧xW c c'∧aK c' (.sl (l0++l)) v')->o.wp E.P a c.w K' Q:=by
    rintro v' w' jU ⟨c',rfl,h2,h3,h4,h5,h6⟩
    refine run jU (hK 0 _ _ _ _ h ?_)
    exact vH hf hG hn gF h5 h4 h6 hd rfl (by rw [h2,hr]) (by rw [h3];exact fun v hv => .inr (gS v hv))
   have akG:bA (dY c.S c.w) l.flatten news:=by
    refine bA.cI g2.length fun k p u hp hu=>?_
    obtain⟨u',q1,q2⟩:=g2.get hp
    rw [hu]at q1;cases q1
    have qB:=List.mem_of_getElem? hp
    rw [List.mem_flatten]at qB
    obtain⟨e',tE,pT⟩:=qB
    exact q2.rep (R4 e' tE p pT)
   by_cases AF:l = []
   ·subst AF
    refine fin (v':=.slice A0 l0.length l0.length) (w':=c.w) ?_ ⟨c,rfl,rfl,rfl,hI,xW.refl c,?_⟩
    ·have hn0:news = []:=List.eq_nil_of_length_eq_zero (by simpa using g1)
     subst hn0
     have hfc:(Builtin.firstCells i.size 0 (.slice A 0 cap)).run E.P c.w = .ok #[] c.w:=by
      cases A with
      | none=>simp [Builtin.firstCells]
      | some ad=>simp [Builtin.firstCells,loadCells,loadCellsFrom]
     rw [hA0,hvy]
     cases A0 with
     | none=>simp [Builtin.append_,run_underlying hu,Go.sizeOf,typeInfo,hi,Builtin.lenOf,hfc]
     | some ad0=>simp [Builtin.append_,run_underlying hu,Go.sizeOf,typeInfo,hi,Builtin.lenOf,hfc,storeCells]
    ·simp only [aK,aM,dY,List.append_nil]
     exact⟨A0,_,rfl,Nat.le_refl _,WI,afR⟩
   ·have awa:0<l.length:=List.length_pos_iff.2 AF
    obtain⟨ad,rfl⟩:∃ad,A=some ad:=by
     cases A with
     | none=>exact absurd (g4 rfl) AF
     | some ad=>exact⟨ad,rfl⟩
    obtain⟨A2,akD,akH,hvx,o1,o2,o3,o4,o5⟩:=y7 (y:=.kJ l0) (vy:=a.eval x) (l:=l0) hI (by simp only [aK,aM,dY];exact⟨A0,hA0,WI,afR⟩) rfl AW
    rw [hA0]at hvx
    simp only [Value.slice.injEq]at hvx
    obtain⟨rfl,_,rfl⟩:=hvx
    have akI:bA (dY c.S c.w) l0.flatten akH:=by
     refine bA.cI o2.length fun k p u hp hu=>?_
     have qB:=List.mem_of_getElem? hp
     rcases afR with rfl | ⟨g,oo,rfl,hre⟩
     ·simp at hp
     ·have aCC:l0.flatten.length=l0.length*sz:=by rw [o2.length,o1]
      have hk:k<l0.length*sz:=by rw [<-aCC];exact(List.getElem?_eq_some_iff.1 hp).1
      have hq:k/sz<l0.length:=(Nat.div_lt_iff_lt_mul mX).2 hk
      have pS:=AW l0[k/sz] (List.getElem_mem hq)
      have hj:k%sz<l0[k/sz].length:=by rw [pS];exact Nat.mod_lt _ mX
      have hdm:k/sz*sz+k%sz=k:=by rw [Nat.mul_comm];exact Nat.div_add_mod k sz
      have hfg:=mF AW (List.getElem?_eq_getElem hq) (List.getElem?_eq_getElem hj)
      rw [hdm,hp]at hfg
      cases hfg
      obtain⟨u',r1,_,_,r4⟩:=kK (l6 hre AW (List.getElem?_eq_getElem hq)) (List.getElem?_eq_getElem hj)
      have:=o5 _ rfl k u hu
      rw [lF]at this
      rw [show oo+k/sz*sz+k%sz=oo+k by omega,this]at r1
      cases r1;exact r4
    have grow:∃v' w',(Builtin.append_ #[t,t] o.type #[a.eval x,a.eval y]).run E.P c.w = .ok v' w'∧w'.ownsRow c.w.heap.size e sz v' (l0.length+l.length) (akH++news)∧c.w.grownBy w' none:=by
     rw [hA0,hvy]
     cases A0 with
     | some ad0=>exact run_append_arg_grows (P:=E.P) c.w t o.type e i zv sz b hu hi hz hs hby J8 mX ad0 l0.length l0.length akH o1 (o5 ad0 rfl) ad l.length cap news g1 (g5 ad rfl) aA (AY OD) (by simpa [room]using C4)
     | none =>
      have aCD:=o4 rfl
      subst aCD
      have ho0:akH = []:=List.eq_nil_of_length_eq_zero (by simpa using o1)
      subst ho0
      obtain⟨v',w',q1,q2,q3,_,q5⟩:=run_append_own_at (P:=E.P) c.w c.w.heap.size t o.type e i zv sz b hu hi hz hs hby J8 mX (.slice none 0 0) 0 [] (World.ownsRow_nil _ _ _ _) ad l.length cap news g1 (g5 ad rfl) g3 (by simpa using AY OD) (by simpa [room]using C4) (Nat.le_refl _)
      exact⟨v',w',q1,by simpa using q2,q3⟩
    obtain⟨v',w',q1,q2,q3⟩:=grow
    refine fin q1 (XH hI q3 (els:=l0++l) (by simpa using q2) (by rw [List.flatten_append];exact akI.append akG) (fun u hu=>?_) (fun e' tE=>?_))
    ·rcases List.mem_append.1 hu with hu | hu
     ·exact o3 u hu
     ·exact g3 u hu
    ·rcases List.mem_append.1 tE with tE | tE
     ·exact AW e' tE
     ·exact hlen e' tE
  ·exact h.elim
 ·exact h.elim
end
section
variable {E:Env} {w0:World} {S0:eU} {n:Nat} {G:Gs}
theorem A3(iR:¬U ver){K:Nat->(Nat->PV)->Rows->Prop}(h:r7 E ver o K f rows)(hR:sN w0 S0 n G U f rows a w)(hd:∀t,o.dst=some t->t<n)
 (hK:∀i f' rows' a' w',K i f' rows'->sN w0 S0 n G (fun v=>(i=1∧v=ver)∨U v) f' rows' a' w'->K' a' w'):o.wp E.P a w K' Q:=by
 obtain⟨⟨c,rfl,hr,gS,hI,hf,hG⟩,hn,gF⟩:=hR
 have hρ:=pI hf
 have hfu:¬c.used ver:=fun hu=>iR (gS _ hu)
 have value:∀ {v':Value} {w':World},(execOp a.eval o).run E.P c.w = .ok (.value v') w'->K' (a.put o.dst v') w'->o.wp E.P a c.w K' Q:=by
  intro v' w' h1 h2
  unfold Oper.wp
  rw [h1]
  exact h2
 have newVar:∀(t:TypeId) (l:List PV) (vx:Value),(E.ty t).known=true->bA (aM c) l vx.cells.toList->(∀u∈vx.cells.toList,u.oneCell'=true)->l.length=(E.ty t).size ->
   LP K ver f rows o.dst (.ptr (o.dst.getD 0) ver 0 0) (o.dst.getD 0) t (E.ty t).size [l]->(execOp a.eval o).run E.P c.w = .ok (.value (.pointer (some ⟨c.w.heap.size,0,none⟩))) (c.w.alloc (.cells vx.cells t))->o.wp E.P a c.w K' Q:=by
  intro t l vx hk gE lI hlen hp jU
  have hz:=(E.ok t).zero hk
  have rE:vx.cells.size=(E.ty t).size:=by rw [<-hlen,gE.length];simp
  obtain⟨pU,hA⟩:=C3 hI hfu (o.dst.getD 0) t (E.ty t).size 1 1 [l] vx.cells rfl (Nat.le_refl _) (by simp [maxLen]) aA (by
   simp only [List.flatten_cons,List.flatten_nil,List.append_nil]
   rw [List.take_of_length_le (by simp [rE])];exact gE) lI (by simpa using hlen) hz.pos
  obtain⟨f',rows',CN,G8⟩:=vI (K:=K 1) hr gS hf hG hn gF hp pU hA (afN (Or.inl rfl) (g:=c.w.heap.size) (n:=1) (cap:=1) (by simp [eO])) hd
  exact value jU (hK 1 f' rows' _ _ CN (G8.mono fun v hv=>hv.imp (fun h=>⟨rfl,h⟩) fun h=>h))
 obtain⟨dst,op,type,pos,after,guard⟩:=o
 simp only at hd value newVar
 unfold r7 at h
 simp only at h
 split at h
 ·-- alloc
  rename_i t
  obtain⟨hk,h⟩:=h
  have hz:=(E.ok t).zero hk
  obtain⟨i,zv,h1,h2,h3,h4,h5,h6⟩:=afM (c:=c) hz
  exact newVar t (E.ty t).zero zv hk h4 h6 rfl h (by simp [execOp,Instr.alloc,zeroValue,typeInfo,h1,h2,Go.newVar,newRow])
 ·-- box
  rename_i t x
  obtain⟨hk,l,hl,lI,hlen,h⟩:=h
  rw [<-hr]at lI
  obtain⟨g1,g2⟩:=p8 (hρ x) hl lI
  exact newVar t l (a.eval x) hk g1 g2 hlen h (by simp [execOp,Instr.box,Go.newVar,newRow])
 ·-- makeSlice
  rename_i t l cc
  split at h
  ·rename_i e sz b z k1 x k2 y hE hl hc
   obtain⟨h0,w7,OD,C4,h⟩:=h
   obtain⟨hu,mX,N7,i,zv,hi,hz,hs,hby,W8,hzo⟩:=iM hE
   have g1:=hρ l
   have g2:=hρ cc
   rw [hl,c7]at g1
   rw [hc,c7]at g2
   have J8:zv.cells.size=sz:=by rw [<-N7,<-W8];simp
   have aqb:(i.bytes:Int)*y<=281474976710656:=by
    rw [hby]
    have h3:((y.toNat*b:Nat):Int)<=room:=by exact_mod_cast C4
    have h4:((y.toNat:Nat):Int)=y:=Int.toNat_of_nonneg aA
    rw [Int.natCast_mul,h4]at h3
    simp only [room]at h3
    rw [Int.mul_comm];omega
   have jU:=run_make (P:=E.P) c.w t e i zv hu hi hz k1 k2 x y h0 w7 aqb (by simp only [room]at OD;omega)
   have awh:(execOp a.eval { dst:=dst,op:=.makeSlice t l cc,type:=type,pos:=pos,after:=after,guard:=guard }).run E.P c.w = .ok (.value (.slice (some ⟨c.w.heap.size,0,none⟩) x.toNat y.toNat)) (c.w.alloc (.cells (madeCells zv.cells (y.toNat*i.size)) e)):=by
    simp [execOp,g1,g2,jU]
   have awi:bA (aM c) z zv.cells.toList:=by
    rw [<-W8]
    refine bA.cI aG fun k p u hp hu=>?_
    simp at hp
    obtain⟨q,hq,rfl⟩:=hp
    have:zv.cells.toList[k]? = some q:=by simpa using hq
    rw [this]at hu;cases hu
    exact n3 _
   have hle:x.toNat*sz<=y.toNat*sz:=Nat.mul_le_mul_right _ aA
   have hL:((madeCells zv.cells (y.toNat*i.size)).toList.take (x.toNat*sz)).length=x.toNat*sz:=by
    rw [List.length_take,Array.length_toList,size_madeCells,hs];exact Nat.min_eq_left hle
   obtain⟨pU,hA⟩:=C3 hI hfu (dst.getD 0) e sz x.toNat y.toNat (List.replicate x.toNat z) (madeCells zv.cells (y.toNat*i.size)) aG aA (AY OD) (by rw [size_madeCells,hs]) (by
    refine bA.cI (by rw [hL];simp [N7]) fun k p u hp hu=>?_
    have hk:=(List.getElem?_eq_some_iff.1 hu).1
    rw [hL]at hk
    rw [List.getElem?_take,if_pos aA,yH (by rw [hs];omega) aA]at hu
    have pT:=nZ hp
    rw [N7,<-J8]at pT
    obtain⟨u',q1,q2⟩:=awi.get pT
    rw [hu]at q1;cases q1;exact q2) (by
    intro u hu
    obtain⟨k,hk⟩:=List.getElem?_of_mem hu
    have CN:=(List.getElem?_eq_some_iff.1 hk).1
    simp [size_madeCells]at CN
    rw [yH CN aA]at hk
    have:=List.mem_of_getElem? hk
    exact(Array.all_eq_true_iff_forall_mem.1 hzo) u (by simpa using this)) (by
    intro e' tE
    rw [List.mem_replicate]at tE
    rw [tE.2,N7]) mX
   obtain⟨f',rows',CN,G8⟩:=vI (K:=K 1) hr gS hf hG hn gF h pU hA (oO (r:=⟨ver,e,sz,List.replicate x.toNat z⟩) (A:=some ⟨c.w.heap.size,0,none⟩) (cap:=y.toNat) (by simp [eO]) aG (Or.inl rfl) (by simp [eO])) hd
   exact value awh (hK 1 f' rows' _ _ CN (G8.mono fun v hv=>hv.imp (fun h=>⟨rfl,h⟩) fun h=>h))
  ·exact h.elim
 ·-- append
  rename_i x y t t2
  obtain⟨ht2,h⟩:=h
  exact G7 iR rfl ht2 hI hr gS hf hG hn gF hd h hK
 ·exact h.elim
theorem EE{K:PS->Prop}(h:gV E o K σ)(hR:Rel w0 S0 n G σ a w)(hd:∀t,o.dst=some t->t<n)
 (hK:∀σ' a' w',K σ'->Rel w0 S0 n G σ' a' w'->K' a' w'):o.wp E.P a w K' Q:=by
 obtain⟨⟨c,rfl,hr,gS,hI,hf,hG⟩,hn,gF⟩:=hR
 have hρ:=pI hf
 have value:∀ {v':Value} {w':World},(execOp a.eval o).run E.P c.w = .ok (.value v') w'->K' (a.put o.dst v') w'->o.wp E.P a c.w K' Q:=by
  intro v' w' h1 h2
  unfold Oper.wp
  rw [h1]
  exact h2
 have aqc:(∃v u,ys E o.op (aR σ.f) σ.rows v u∧K ⟨put σ.f o.dst v,fP σ.rows u,σ.clock⟩)->o.wp E.P a c.w K' Q:=by
  rintro⟨v,u,hy,hk⟩
  rw [<-hr]at hy
  refine R9 hI hf hy fun v' c' h1 h2 h3 h4 h5=>hK _ _ _ hk ?_
  exact AV (fun s=>h3 _ _ (hf s)) (fun p hp=>h3 _ _ (hG p hp)) hn gF h4 h5 hd rfl (by simp [h1,hr]) (by rw [h2];exact gS)
 have nw:r7 E σ.clock o (fun i f r=>K ⟨f,r,σ.clock+i⟩) σ.f σ.rows->o.wp E.P a c.w K' Q:=fun hp =>
  A3 (U:=fun v=>v<σ.clock) (Nat.lt_irrefl _) hp ⟨⟨c,rfl,hr,gS,hI,hf,hG⟩,hn,gF⟩ hd fun i f' rows' a' w' hk G8=>hK _ _ _ hk (G8.mono fun v hv=>by
   show v<σ.clock+i
   rcases hv with ⟨rfl,rfl⟩ | hv
   ·omega
   ·have:v<σ.clock:=hv
    omega)
 obtain⟨dst,op,type,pos,after,guard⟩:=o
 simp only at hd value aqc nw
 unfold gV at h
 simp only at h
 split at h
 ·-- alloc
  rename_i t
  exact nw (show r7 E σ.clock _ _ σ.f σ.rows from h)
 ·-- box
  rename_i t x
  exact nw (show r7 E σ.clock _ _ σ.f σ.rows from h)
 ·-- makeSlice
  rename_i t l cc
  refine nw (show r7 E σ.clock _ _ σ.f σ.rows from ?_)
  unfold r7
  simp only
  split at h
  ·exact h
  ·exact h.elim
 ·-- append
  rename_i x y t t2
  obtain⟨ht2,h⟩:=h
  refine nw (show r7 E σ.clock _ _ σ.f σ.rows from⟨ht2,?_⟩)
  unfold OC at h
  unfold sP
  split at h
  ·obtain⟨l,g1,g2,g3⟩:=h
   refine⟨l,g1,g2,?_⟩
   split at g3<;>exact g3
  ·exact h
 ·-- a call
  rename_i fo args ts
  have dQ:bA (aK c) (args.toList.map fun x=>aR σ.f x) (args.map a.eval).toList:=by
   refine bA.cI aG fun k p u hp hu=>?_
   simp at hp hu
   obtain⟨x,hx,rfl⟩:=hp
   obtain⟨y,hy,rfl⟩:=hu
   rw [hx]at hy;cases hy
   exact hρ x
  split at h
  ·have OA:=hρ fo
   unfold XD at h
   split at h
   ·rename_i g heq
    rw [heq]at OA
    obtain⟨R,⟨⟨fn,b,h1,h2,h3⟩,CZ⟩,hk⟩:=h
    simp only [aK,aM,dY]at OA
    obtain⟨cs,hfv,GZ⟩:=OA
    simp only [b6]at GZ
    subst GZ
    have kV:=CZ w0 S0 c _ (fun p=>p∈G ∨ ∃s,p=(σ.f s,a.tmps.getD s undef)) hI hr gS dQ (by
     rintro p (hp | ⟨s,rfl⟩)
     ·exact hG p hp
     ·exact hf s)
    simp only [Array.toArray_toList]at kV
    unfold Oper.wp
    have jU:(execOp a.eval { dst:=dst,op:=.call { callee:=.value fo,args:=args,argTypes:=ts },type:=type,pos:=pos,after:=after,guard:=guard }).run E.P c.w = .ok (.enter g (args.map a.eval)) c.w:=by
     simp only [execOp,resolve,hfv,Deferred.ofValue,Sem.run_bind,Sem.run_pure,Result.andThen_ok,invoke]
     simpa using i6 h1 h2 h3 (args.map a.eval) c.w
    rw [jU]
    refine kV.mono ?_
    rintro e w' ⟨v',c',r,fD,rfl,rfl,pU,J6,lE,AR,XC⟩
    refine hK _ _ _ (hk _ _ _ lE) ?_
    exact AV (fun s=>J6 (σ.f s,a.tmps.getD s undef) (.inr ⟨s,rfl⟩)) (fun p hp=>J6 p (.inl hp)) hn gF pU XC hd rfl rfl AR
   ·rename_i g fs bR heq
    rw [heq]at OA
    obtain⟨R,⟨⟨fn,b,h1,h2,h3⟩,CZ⟩,hk⟩:=h
    obtain⟨us,cs,hfv,hus,GZ⟩:=OA
    have aqd:bA (aK c) (fs++(args.toList.map fun x=>aR σ.f x)++bR) (us++(args.map a.eval).toList++cs):=((hus.mono fun _ _=>gM).append dQ).append (GZ.mono fun _ _=>gM)
    have kV:=CZ w0 S0 c _ (fun p=>p∈G ∨ ∃s,p=(σ.f s,a.tmps.getD s undef)) hI hr gS aqd (by
     rintro p (hp | ⟨s,rfl⟩)
     ·exact hG p hp
     ·exact hf s)
    have aqe:(us++(args.map a.eval).toList++cs).toArray=us.toArray++args.map a.eval++cs.toArray:=aG
    rw [aqe]at kV
    unfold Oper.wp
    have jU:(execOp a.eval { dst:=dst,op:=.call { callee:=.value fo,args:=args,argTypes:=ts },type:=type,pos:=pos,after:=after,guard:=guard }).run E.P c.w = .ok (.enter g (us.toArray++args.map a.eval++cs.toArray)) c.w:=by
     simp only [execOp,resolve,hfv,Deferred.ofValue,Sem.run_bind,Sem.run_pure,Result.andThen_ok,invoke]
     simpa using i6 h1 h2 h3 (us.toArray++args.map a.eval++cs.toArray) c.w
    rw [jU]
    refine kV.mono ?_
    rintro e w' ⟨v',c',r,fD,rfl,rfl,pU,J6,lE,AR,XC⟩
    refine hK _ _ _ (hk _ _ _ lE) ?_
    exact AV (fun s=>J6 (σ.f s,a.tmps.getD s undef) (.inr ⟨s,rfl⟩)) (fun p hp=>J6 p (.inl hp)) hn gF pU XC hd rfl rfl AR
   ·exact h.elim
  obtain⟨v,hc,hp,hk⟩:=h
  rw [<-hr]at hc hp hk
  have CX:EB E (aR σ.f fo) ((args.toList.map fun x=>aR σ.f x).map (pz c.rows)) v:=by rw [List.map_map];exact hc
  obtain⟨g,cs,h1,h2,h3⟩:=EC hI (ids:=args.toList.flatMap fun x=>eK (aR σ.f x)) hp (hρ fo) dQ (by
   intro p hp id iH
   simp at hp
   obtain⟨x,hx,rfl⟩:=hp
   simp only [List.mem_flatMap];exact⟨x,by simpa using hx,iH⟩) CX (K:=fun v' w'=>K' (a.put dst v') w') (fun v' c' q1 q2 q3 q4 q5=>hK _ _ _ hk (w6 hf hG hn gF q3 q4 q5 hd rfl (by simp [q1]) (by rw [q2];exact gS)))
  unfold Oper.wp
  have jU:(execOp a.eval { dst:=dst,op:=.call { callee:=.value fo,args:=args,argTypes:=ts },type:=type,pos:=pos,after:=after,guard:=guard }).run E.P c.w = .ok (.enter g (args.map a.eval++cs)) c.w:=by
   simp only [execOp,resolve,h1,Deferred.ofValue,Sem.run_bind,Sem.run_pure,Result.andThen_ok,invoke]
   simp only [Array.toArray_toList]at h2
   simpa only [Array.empty_append]using h2
  rw [jU]
  simp only [Array.toArray_toList]at h3
  exact h3.mono fun e w' ⟨v',he,hk⟩=>by subst he;exact hk
 ·-- a method behind an interface
  rename_i fo name args ts
  obtain⟨t,id,ver,g,heq,⟨r,yI,bS⟩,hm,R,⟨⟨fn,b,h1,h2,h3⟩,CZ⟩,hk⟩:=h
  have OA:=hρ fo
  rw [heq]at OA
  rw [<-hr]at yI
  obtain⟨bl,n',cap,hβ,hfv⟩:=OA.2 r yI bS
  have dQ:bA (aK c) (args.toList.map fun x=>aR σ.f x) (args.map a.eval).toList:=by
   refine bA.cI aG fun k p u hp hu=>?_
   simp at hp hu
   obtain⟨x,hx,rfl⟩:=hp
   obtain⟨y,hy,rfl⟩:=hu
   rw [hx]at hy;cases hy
   exact hρ x
  have hp0:aK c (.ptr id ver 0 0) (.pointer (some ⟨bl,0,none⟩)):=⟨⟨OA.1.1,rfl⟩,fun r' _ _=>⟨bl,n',cap,hβ,aG⟩⟩
  have kV:=CZ w0 S0 c (.pointer (some ⟨bl,0,none⟩)::(args.map a.eval).toList) (fun p=>p∈G ∨ ∃s,p=(σ.f s,a.tmps.getD s undef)) hI hr gS ⟨hp0,dQ⟩ (by
   rintro p (hp | ⟨s,rfl⟩)
   ·exact hG p hp
   ·exact hf s)
  have aqe:(Value.pointer (some ⟨bl,0,none⟩)::(args.map a.eval).toList).toArray = #[.pointer (some ⟨bl,0,none⟩)]++args.map a.eval:=by
   rw [List.toArray_cons]
  rw [aqe]at kV
  unfold Oper.wp
  have jU:(execOp a.eval { dst:=dst,op:=.call { callee:=.invoke fo name,args:=args,argTypes:=ts },type:=type,pos:=pos,after:=after,guard:=guard }).run E.P c.w = .ok (.enter g (#[.pointer (some ⟨bl,0,none⟩)]++args.map a.eval)) c.w:=by
   have hx:(#[a.eval fo]++args.map a.eval:Array Value)[0]? = some (a.eval fo):=by rw [Array.getElem?_append_left aG];rfl
   have hx2:(#[a.eval fo]++args.map a.eval:Array Value).extract 1 (#[a.eval fo]++args.map a.eval:Array Value).size=args.map a.eval:=by
    apply Array.ext'
    simp [List.extract]
    exact List.take_of_length_le aG
   simp only [execOp,resolve,Sem.run_bind,Sem.run_pure,Result.andThen_ok,invoke,hx,hx2]
   rw [hfv]
   have hm':=hm bl c.w
   have hpr:(program).run E.P c.w = .ok E.P c.w:=rfl
   simp only [callMethod,Sem.run_bind,hpr,Sem.run_pure,Result.andThen_ok,hm']
   exact i6 h1 h2 h3 _ c.w
  rw [jU]
  refine kV.mono ?_
  rintro e w' ⟨v',c',r,fD,rfl,rfl,pU,J6,lE,AR,XC⟩
  refine hK _ _ _ (hk _ _ _ lE) ?_
  exact AV (fun s=>J6 (σ.f s,a.tmps.getD s undef) (.inr ⟨s,rfl⟩)) (fun p hp=>J6 p (.inl hp)) hn gF pU XC hd rfl rfl AR
 ·-- a closure
  rename_i g fs bR
  split at h
  ·rename_i hm
   obtain⟨⟨h1,h2⟩,hk⟩:=h
   exact aqc ⟨_,none,⟨by simp only [yv];rw [if_pos hm];exact⟨⟨h1,h2⟩,trivial⟩,rfl⟩,hk⟩
  obtain⟨hfs,yG,hp,hk⟩:=h
  have ap1:fs = #[]:=by
   have:=congrArg List.toArray hfs
   simpa using this
  subst ap1
  rw [<-hr]at yG hp hk
  have RS:=hI.freeze (bR.toList.flatMap fun x=>eK (aR σ.f x))
  refine value (v':=.func (.func g) #[] (bR.map a.eval)) (w':=c.w) (by simp [execOp,Instr.makeFunc]) (hK _ _ _ hk ?_)
  refine w6 (c':=J5 c (bR.toList.flatMap fun x=>eK (aR σ.f x))) hf hG hn gF (lV c _) RS ?_ hd rfl (by simp [J5]) gS
  simp only [aK,aM,dY]
  refine⟨(bR.map a.eval).toList,by rw [Array.toArray_toList],cX.2 (bA.cI aG fun k p u pT hu=>?_)⟩
  simp at pT hu
  obtain⟨x,hx,rfl⟩:=pT
  obtain⟨y,hy,rfl⟩:=hu
  rw [hx]at hy;cases hy
  have qB:x∈bR.toList:=by simpa using Array.mem_of_getElem? hx
  exact N4 hI hp (hρ x) (fun id iH=>by simp only [List.mem_flatMap];exact⟨x,qB,iH⟩) (List.all_eq_true.1 yG _ (by simp;exact⟨x,by simpa using qB,rfl⟩))
 ·exact aqc h
end
def j4(op:Op)(ρ:Operand->PV):List Nat:=
 match op with
 | .load _ p=>a9 (ρ p)
 | .fieldAddr _ x _=>a9 (ρ x)
 | .indexAddr _ x _=>a9 (ρ x)
 | .slice _ x _ _ _=>a9 (ρ x)
 | .store _ p x=>a9 (ρ p)++((cR (ρ x)).getD []).flatMap a9
 | .call { callee:=.builtin .len,args:=⟨[x]⟩,argTypes:=⟨[_]⟩ }=>a9 (ρ x)
 | .call { callee:=.builtin .append,args:=⟨[x,y]⟩,argTypes:=⟨[_,_]⟩ }=>a9 (ρ x)++a9 (ρ y)
 | .call { callee:=.builtin .copy,args:=⟨[x,y]⟩,argTypes:=⟨[_,_]⟩ }=>a9 (ρ x)++a9 (ρ y)
 | .nilCheck x=>a9 (ρ x)
 | .call { callee:=.value _,args:=args,argTypes:=_ }=>args.toList.flatMap fun x=>a9 (ρ x)
 | _=>[]
theorem acX(h:eK p = []):a9 p = []:=by
 cases p with
 | ag l=>rfl
 | dK l=>rfl
 | rC f fs bR=>rfl
 | _=>exact h
theorem LQ(h:cY p=true):a9 p = []:=by cases p<;>simp_all [cY,bE,a9]
theorem aaR{l:List Operand}(h:(l.flatMap fun x=>eK (ρ x)) = []):(l.flatMap fun x=>a9 (ρ x)) = []:=
 List.flatMap_eq_nil_iff.2 fun x hx=>acX (List.flatMap_eq_nil_iff.1 h x hx)
theorem aaS{l:List Operand}(h:(l.map fun x=>ρ x).all cY=true):(l.flatMap fun x=>a9 (ρ x)) = []:=
 List.flatMap_eq_nil_iff.2 fun x hx=>LQ (List.all_eq_true.1 h _ (List.mem_map.2 ⟨x,hx,rfl⟩))
def l8(ids:List Nat)(rows rows':Rows):Prop:=∀id∈ids,∀r,rows id=some r->rows' id=some r
section
variable {E:Env}
theorem FU(h:a9 p = []):fz rows p=fz rows' p:=by cases p<;>simp_all [fz,a9]
theorem akJ(h:eK p = []):pz rows p=pz rows' p:=by
 cases p with
 | ag l =>
  simp only [eK,List.flatMap_eq_nil_iff]at h
  simp only [pz]
  congr 1
  exact List.map_congr_left fun q hq=>FU (h q hq)
 | dK l =>
  simp only [eK,List.flatMap_eq_nil_iff]at h
  simp only [pz]
  congr 1
  exact List.map_congr_left fun q hq=>FU (h q hq)
 | rC f fs bR=>rfl
 | _=>simp only [pz,eK]at h |-;exact FU h
theorem OE(h:l8 (a9 p) rows rows')(ho:jT rows p):jT rows' p:=by
 cases p with
 | own id ver off len=>obtain⟨r,hr,hv⟩:=ho;exact⟨r,h id (by simp [a9]) r hr,hv⟩
 | ptr id ver i j=>obtain⟨r,hr,hv⟩:=ho;exact⟨r,h id (by simp [a9]) r hr,hv⟩
 | sL t id ver=>obtain⟨r,hr,hv⟩:=ho;exact⟨r,h id (by simp [a9]) r hr,hv⟩
 | _=>exact ho
theorem acY(ho:jT rows p):∀id∈a9 p,∃r,rows id=some r:=by
 intro id iH
 cases p with
 | own lC ver off len=>simp [a9]at iH;subst iH;obtain⟨r,hr,_⟩:=ho;exact⟨r,hr⟩
 | ptr lC ver i j=>simp [a9]at iH;subst iH;obtain⟨r,hr,_⟩:=ho;exact⟨r,hr⟩
 | sL t lC ver=>simp [a9]at iH;subst iH;obtain⟨r,hr,_⟩:=ho;exact⟨r,hr⟩
 | _=>simp [a9]at iH
theorem afS(h:l8 (a9 p) rows rows')(hy:x9 E t rows p v):x9 E t rows' p v ∧ ∀id∈a9 p,∃r,rows id=some r:=by
 obtain⟨hk,hy⟩:=hy
 cases p with
 | ptr id ver i j =>
  obtain⟨r,hr,hh⟩:=hy
  exact⟨⟨hk,r,h id (by simp [a9]) r hr,hh⟩,by simp [a9];exact⟨r,hr⟩⟩
 | rd l=>exact⟨⟨hk,hy⟩,by simp [a9]⟩
 | _=>exact hy.elim
theorem KL{x:PV}(h:l8 (a9 x) rows rows')(hy:iK E t rows i x v):iK E t rows' i x v ∧ ∀id∈a9 x,∃r,rows id=some r:=by
 unfold iK at *
 split at hy
 ·rename_i fs z hE
  obtain⟨o,n,b,hf,hy⟩:=hy
  cases x with
  | ptr id ver a j =>
   obtain⟨⟨r,hr,hv⟩,hh⟩:=hy
   exact⟨⟨o,n,b,hf,⟨r,h id (by simp [a9]) r hr,hv⟩,hh⟩,by simp [a9];exact⟨r,hr⟩⟩
  | rd l=>exact⟨⟨o,n,b,hf,hy⟩,by simp [a9]⟩
  | _=>exact hy.elim
 ·exact hy.elim
theorem KO{x ix:PV}(h:l8 (a9 x) rows rows')(hy:iL E t rows x ix v):iL E t rows' x ix v ∧ ∀id∈a9 x,∃r,rows id=some r:=by
 unfold iL at *
 split at hy
 ·split at hy
  ·obtain⟨h0,hy⟩:=hy
   cases x with
   | own id ver off len =>
    obtain⟨r,hr,hh⟩:=hy
    exact⟨⟨h0,r,h id (by simp [a9]) r hr,hh⟩,by simp [a9];exact⟨r,hr⟩⟩
   | sl l=>exact⟨⟨h0,hy⟩,by simp [a9]⟩
   | kJ l=>exact⟨⟨h0,hy⟩,by simp [a9]⟩
   | _=>exact hy.elim
  ·exact hy.elim
 ·split at hy
  ·obtain⟨h0,hy⟩:=hy
   cases x with
   | ptr id ver a j =>
    obtain⟨⟨r,hr,hv⟩,hh⟩:=hy
    exact⟨⟨h0,⟨r,h id (by simp [a9]) r hr,hv⟩,hh⟩,by simp [a9];exact⟨r,hr⟩⟩
   | rd l=>exact⟨⟨h0,hy⟩,by simp [a9]⟩
   | _=>exact hy.elim
  ·exact hy.elim
 ·exact hy.elim
theorem acZ{x:PV}{lo hi mx:Option PV}(h:l8 (a9 x) rows rows')(hy:rZ E t rows x lo hi mx v):rZ E t rows' x lo hi mx v ∧ ∀id∈a9 x,∃r,rows id=some r:=by
 unfold rZ at *
 split at hy
 ·cases x with
  | own id ver off len =>
   obtain⟨r,hr,hh⟩:=hy
   exact⟨⟨r,h id (by simp [a9]) r hr,hh⟩,by simp [a9];exact⟨r,hr⟩⟩
  | nil=>exact⟨hy,by simp [a9]⟩
  | sl l=>exact⟨hy,by simp [a9]⟩
  | kJ l=>exact⟨hy,by simp [a9]⟩
  | _=>exact hy.elim
 ·exact hy.elim
theorem akK{x:PV}(h:l8 (a9 x) rows rows')(hy:acO rows x n):acO rows' x n ∧ ∀id∈a9 x,∃r,rows id=some r:=by
 unfold acO at *
 cases x with
 | own id ver off len =>
  obtain⟨⟨r,hr,hv⟩,hh⟩:=hy
  exact⟨⟨⟨r,h id (by simp [a9]) r hr,hv⟩,hh⟩,by simp [a9];exact⟨r,hr⟩⟩
 | nil=>exact⟨hy,by simp [a9]⟩
 | sl l=>exact⟨hy,by simp [a9]⟩
 | kJ l=>exact⟨hy,by simp [a9]⟩
 | _=>exact hy.elim
theorem akL{x:PV}(h:l8 (a9 x) rows rows')(hy:KI rows x v):KI rows' x v ∧ ∀id∈a9 x,∃r,rows id=some r:=by
 unfold KI at *
 cases x with
 | ptr id ver i j =>
  obtain⟨⟨r,hr,hv⟩,hh⟩:=hy
  exact⟨⟨⟨r,h id (by simp [a9]) r hr,hv⟩,hh⟩,by simp [a9];exact⟨r,hr⟩⟩
 | rd l=>exact⟨hy,by simp [a9]⟩
 | _=>exact hy.elim
theorem ac0{x:PV}(h:l8 (a9 p++((cR x).getD []).flatMap a9) rows rows')(hy:vC E t rows p x v u) :
  vC E t rows' p x v u∧(∀id∈a9 p++((cR x).getD []).flatMap a9,∃r,rows id=some r) ∧ ∃id r,u=some (id,r)∧id∈a9 p:=by
 obtain⟨hk,hv,hy⟩:=hy
 cases p with
 | ptr id ver i j =>
  obtain⟨r,hr,lG,el,pS,l,hl,lI,hh1,hh2,hh3⟩:=hy
  rw [hl]at h |-
  simp only [Option.getD_some]at h |-
  refine⟨⟨hk,hv,r,h id (by simp [a9]) r hr,lG,el,pS,l,hl,fun q hq=>OE (fun lC G1=>h lC ?_) (lI q hq),hh1,hh2,hh3⟩,?_,?_⟩
  ·simp only [List.mem_append,List.mem_flatMap];exact .inr ⟨q,hq,G1⟩
  ·intro lC G1
   simp only [List.mem_append,List.mem_flatMap]at G1
   rcases G1 with G1 | ⟨q,hq,G1⟩
   ·simp [a9]at G1;subst G1;exact⟨r,hr⟩
   ·exact acY (lI q hq) lC G1
  ·exact⟨id,_,hh3,by simp [a9]⟩
 | _=>exact hy.elim
theorem aaT(h:l8 (a9 y) rows rows')(hy:vG rows y l):vG rows' y l ∧ ∀id∈a9 y,∃r,rows id=some r:=by
 unfold vG at *
 cases y with
 | own id ver off len =>
  obtain⟨r,hr,hh⟩:=hy
  exact⟨⟨r,h id (by simp [a9]) r hr,hh⟩,by simp [a9];exact⟨r,hr⟩⟩
 | nil=>exact⟨hy,by simp [a9]⟩
 | sl l=>exact⟨hy,by simp [a9]⟩
 | kJ l=>exact⟨hy,by simp [a9]⟩
 | _=>exact hy.elim
theorem afT{t:TI}{x:PV}(h:l8 (a9 x++a9 y) rows rows')(hy:yF t rows x y v u):yF t rows' x y v u∧(∀id∈a9 x++a9 y,∃r,rows id=some r) ∧ ∀id r,u=some (id,r)->id∈a9 x++a9 y:=by
 unfold yF at *
 split at hy
 ·rename_i e n b z id ver off len
  obtain⟨r,h1,h2,h3,h4,l,h5,h6,h7,rfl⟩:=hy
  obtain⟨g1,g2⟩:=aaT (fun id iH=>h id (by simp only [List.mem_append];exact .inr iH)) h5
  refine⟨⟨r,h id (by simp [a9]) r h1,h2,h3,h4,l,g1,h6,h7,rfl⟩,fun lC iH=>?_,fun lC r' hu=>?_⟩
  ·simp only [a9,List.mem_append,List.mem_cons,List.not_mem_nil,or_false]at iH
   rcases iH with rfl | iH
   ·exact⟨r,h1⟩
   ·exact g2 lC iH
  ·simp only [Option.some.injEq,Prod.mk.injEq]at hu
   simp [a9,hu.1]
 ·exact hy.elim
theorem anJ{op:Op}(h:l8 (j4 op ρ) rows rows')(hy:ys E op ρ rows v u) :
  ys E op ρ rows' v u∧(∀id∈j4 op ρ,∃r,rows id=some r) ∧ ∀id r,u=some (id,r)->id∈j4 op ρ:=by
 unfold ys at hy |-
 split at hy
 ·exact afT h hy
 ·rename_i t p x
  obtain⟨h1,h2,id,r,h3,h4⟩:=ac0 h hy
  exact⟨h1,h2,fun lC r' hu=>by rw [h3]at hu;cases hu;simp only [j4,List.mem_append];exact .inl h4⟩
 ·rename_i t len parts
  obtain⟨hy,rfl⟩:=hy
  unfold XA at hy |-
  split at hy
  ·obtain⟨els,h1,h2,h3,h4,h5,h6,rfl⟩:=hy
   have hfz:∀e∈els,∀p∈e,fz rows p=fz rows' p:=fun e he p hp=>FU (h6 e he p hp)
   refine⟨⟨⟨els,h1,h2,h3,h4,fun e he p hp=>⟨by rw [<-hfz e he p hp];exact(h5 e he p hp).1,OE (by rw [h6 e he p hp];intro id iH;cases iH) (h5 e he p hp).2⟩,h6,?_⟩,rfl⟩,by simp [j4],aG⟩
   congr 1
   exact List.map_congr_left fun e he=>List.map_congr_left fun p hp=>hfz e he p hp
  ·exact hy.elim
 ·rename_i f args ts
  by_cases hm:EA E (ρ f)=true
  ·rw [if_pos hm]at hy |-
   simp only [j4]at h |-
   have LR:(args.toList.flatMap fun x=>a9 (ρ x))=(args.toList.map fun x=>ρ x).flatMap a9:=by rw [List.flatMap_map]
   rw [LR]at h |-
   generalize (args.toList.map fun x=>ρ x)=eQ at *
   unfold R6 at hy |-
   split at hy
   ·rename_i g p0 rest awc
    obtain⟨o,id,ver,rfl,h1,e,n,core,iC,h2,h3,h4,h5,rfl⟩:=hy
    have afA:rest.flatMap a9 = []:=List.flatMap_eq_nil_iff.2 fun x hx=>LQ (List.all_eq_true.1 h1.1 x hx)
    have hd:a9 (hdP o id ver) = [id]:=by cases o<;>rfl
    refine⟨⟨o,id,ver,rfl,h1,e,n,core,iC,h id (by simp [hd]) _ h2,h3,h4,h5,rfl⟩,fun lC iH=>?_,fun lC r' hu=>?_⟩
    ·simp only [List.flatMap_cons,afA,hd,List.append_nil,List.mem_cons,List.not_mem_nil,or_false]at iH
     subst iH
     exact⟨_,h2⟩
    ·simp only [Option.some.injEq,Prod.mk.injEq]at hu
     rw [List.flatMap_cons,hd]
     simp [hu.1]
   ·exact hy.elim
  rw [if_neg hm]at hy |-
  obtain⟨rfl,h1,h2⟩:=hy
  refine⟨⟨rfl,?_,h2⟩,by simp [j4,aaR h2],aG⟩
  have:(args.toList.map fun x=>pz rows (ρ x))=args.toList.map fun x=>pz rows' (ρ x):=
   List.map_congr_left fun x hx=>akJ (List.flatMap_eq_nil_iff.1 h2 x hx)
  rw [<-this];exact h1
 ·obtain⟨hy,rfl⟩:=hy
  suffices hs:yv E op ρ rows' v ∧ ∀id∈j4 op ρ,∃r,rows id=some r from⟨⟨hs.1,rfl⟩,hs.2,aG⟩
  unfold yv at hy |-
  split at hy
  case h_8=>exact afS h hy
  case h_10=>exact KL h hy
  case h_11=>exact KO h hy
  case h_12=>exact acZ h hy
  case h_16 =>
   simp only [j4]at h |-
   unfold D3 at hy |-
   split at hy
   ·obtain⟨n,hn,hv⟩:=hy
    have:=akK (rows':=rows') h hn
    exact⟨⟨n,this.1,hv⟩,this.2⟩
   ·exact hy.elim
  case h_19=>exact akL h hy
  all_goals first
   | exact hy.elim
   | exact⟨hy,by simp [j4]⟩
end
end Pm
