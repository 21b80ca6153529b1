import Derived.Laws.CopyOwn
import Derived.ArgAppend
import Derived.Test.YtiobceocpabjdaaGreatOaa
set_option linter.unusedSimpArgs false
set_option linter.unusedVariables false
namespace Pm
open Go Go.RowKit
def FT(rows:Rows)(ids:List Nat):Rows:=fun j=>if j∈ids then none else rows j
def QP(c:Cx)(ids:List Nat):dZ:=fun b o=>c.S b o ∨ ∃id∈ids,(∃r,c.rows id=some r)∧(c.β id).ownBlock=some b
section
variable {E:Env} {c:Cx} {w0:World} {S0:dZ}
def EL(c:Cx)(ids:List Nat):Cx:={ c with S:=QP c ids,rows:=FT c.rows ids }
theorem mR(c:Cx)(ids:List Nat):tK c (EL c ids):=
 ⟨fun _ _ h => .inl h,fun _ _ _=>rfl,fun _ h=>h,fun id r hr=>by
  simp only [EL,FT]at hr ⊢
  split at hr
  ·cases hr
  ·exact .inr ⟨r,hr,rfl,rfl,rfl,by first | rfl | trivial⟩⟩
theorem Inv.freeze(hI:Inv w0 S0 c)(ids:List Nat):Inv w0 S0 (EL c ids):=by
 have live:∀ {k:Nat} {t:Row},FT c.rows ids k=some t→c.rows k=some t∧k ∉ ids:=by
  intro k t h
  simp only [FT]at h
  split at h
  ·cases h
  ·rename_i hk;exact⟨h,hk⟩
 have axM:∀ {id:Nat} {r:Row} {g:Nat},c.rows id=some r→(c.β id).ownBlock=some g→w0.heap.size≤g∧g<c.w.heap.size:=by
  intro id r g hr hg
  obtain⟨⟨ys,g1,_,_⟩,_⟩:=hI.row id r hr
  exact g1.lt g hg
 refine⟨hI.below,fun b o h => .inl (hI.ext b o h),fun b o h=>?_,hI.lt0,fun id r hr=>hI.clock id r (live hr).1,fun id r hr=>?_,fun i j r s g hr hs=>hI.apart i j r s g (live hr).1 (live hs).1,hI.fin⟩
 ·rcases h with h | ⟨id,_,⟨r,hr⟩,hb⟩
  ·exact hI.new b o h
  ·exact .inr (axM hr hb)
 ·obtain⟨kF,hk⟩:=live hr
  obtain⟨⟨ys,g1,g2,g3⟩,g4,g5,g6⟩:=hI.row id r kF
  refine⟨⟨ys,g1,g2.mono (aK.tR (mR c ids)),g3⟩,g4,fun g o hg hS=>?_,g6⟩
  rcases hS with h | ⟨i9,BR,⟨r',bX⟩,hb⟩
  ·exact g5 g o hg h
  ·have:=hI.apart id i9 r r' g kF bX hg hb
   subst this
   exact hk BR
theorem UJ(hI:Inv w0 S0 c){ids:List Nat}(hp:∀id∈ids,∀r,c.rows id=some r → ∀e∈r.els,∀p∈e,bI p=true){id:Nat}(gD:id∈ids){r:Row}(hr:c.rows id=some r)
  {g n cap:Nat} (hβ:c.β id = .slice (some ⟨g,0,none⟩) n cap) {i j:Nat} {el:List PV} {p:PV} (hi:r.els[i]? = some el) (hj:el[j]? = some p) :
  ∃v,c.w.cell? ⟨g,i*r.size+j,none⟩=some v∧QP c ids g (i*r.size+j)∧v.oneCell'=true∧dE (QP c ids) c.w p v:=by
 obtain⟨v,h1,h2,h3⟩:=vI hI hr hβ hi hj
 refine⟨v,h1, .inr ⟨id,gD,⟨r,hr⟩,by simp [hβ,Value.ownBlock]⟩,h2,?_⟩
 have h4:=h3.rep (hp id gD r hr el (List.mem_of_getElem? hi) p (List.mem_of_getElem? hj))
 exact dE.mono (fun _ _ h => .inl h) (fun _ _ _=>rfl) _ _ h4
theorem H4(hI:Inv w0 S0 c){ids:List Nat}(hp:∀id∈ids,∀r,c.rows id=some r → ∀e∈r.els,∀p∈e,bI p=true){p:PV}{v:Value}(h:aK c p v)(uL:∀id∈aU p,id∈ids)(xR:bI (fz c.rows p)=true) :
  dE (QP c ids) c.w (fz c.rows p) v:=by
 have mono:∀q u,dE c.S c.w q u→dE (QP c ids) c.w q u:=fun q u=>dE.mono (fun _ _ h => .inl h) (fun _ _ _=>rfl) q u
 cases p with
 | own id ver off len =>
  simp only [fz]at xR ⊢
  have gD:id∈ids:=uL id (by simp [aU])
  cases hr:c.rows id with
  | none=>simp [hr,bI]at xR
  | some r =>
   simp only [hr]at xR ⊢
   by_cases hv:r.ver=ver
   ·simp only [hv,if_true]at xR ⊢
    simp only [aK]at h
    obtain⟨hle,h⟩:=h.2 r hr hv
    obtain⟨⟨xs,jB,_,_⟩,hlen,_⟩:=hI.row id r hr
    have afP:∀A m cap,c.β id = .slice A m cap→r.els.length≤cap∧cap≤maxLen:=by
     intro A m cap hβ
     rw [hβ]at jB
     rcases jB.2 with ⟨h',hz⟩ | ⟨g,jQ,cur,h',_,_,QL,hm,_⟩
     ·simp at h';exact⟨by omega,by rw [h'.2.2];simp⟩
     ·simp at h';obtain⟨_,_,rfl⟩:=h';exact⟨QL,hm⟩
    have EM:((r.els.drop off).take len).length=len:=by simp;omega
    have els:∀g n cap,c.β id = .slice (some ⟨g,0,none⟩) n cap→fU (QP c ids) c.w g (off*r.size) ((r.els.drop off).take len):=by
     intro g n cap hβ
     refine o9 (n:=r.size) (fun e he=>hlen e (List.mem_of_mem_drop (List.mem_of_mem_take he))) fun k e hk=>?_
     rw [List.getElem?_take]at hk
     split at hk
     ·rw [List.getElem?_drop]at hk
      refine jY fun j q hq=>?_
      have:=UJ hI hp gD hr hβ hk hq
      rw [show off*r.size+k*r.size+j=(off+k)*r.size+j by rw [Nat.add_mul]];exact this
     ·cases hk
    simp only [dE]
    rw [EM]
    rcases h with ⟨rfl,A,n,cap,hβ,rfl⟩ | ⟨lK,g,n,cap,A,hβ,hoc,rfl,ha⟩
    ·obtain⟨c1,c2⟩:=afP _ _ _ hβ
     refine⟨A,cap,rfl,by omega,c2,?_⟩
     rcases Nat.eq_zero_or_pos len with h0 | h0
     ·left;exact List.eq_nil_of_length_eq_zero (by rw [EM];exact h0)
     ·right
      obtain⟨g,jQ,rM⟩:=rL hI hr (by omega)
      rw [hβ]at rM
      simp only [Value.slice.injEq]at rM
      obtain⟨rfl,rfl,rfl⟩:=rM
      exact⟨g,0,rfl,by simpa using els g _ _ hβ⟩
    ·obtain⟨c1,c2⟩:=afP _ _ _ hβ
     refine⟨some A,cap-off,rfl,by omega,by omega,?_⟩
     rcases ha with rfl | rfl
     ·left;exact List.eq_nil_of_length_eq_zero EM
     ·right;exact⟨g,off*r.size,rfl,els g n cap hβ⟩
   ·simp [hv,bI]at xR
 | ptr id ver i j =>
  simp only [fz]at xR ⊢
  have gD:id∈ids:=uL id (by simp [aU])
  cases hr:c.rows id with
  | none=>simp [hr,bI]at xR
  | some r =>
   simp only [hr]at xR ⊢
   by_cases hv:r.ver=ver
   ·simp only [hv,if_true]at xR ⊢
    simp only [aK]at h
    obtain⟨g,n,cap,hβ,rfl⟩:=h.2 r hr hv
    simp only [dE]
    refine⟨g,i*r.size+j,rfl,jY fun k q hq=>?_⟩
    rw [List.getElem?_drop]at hq
    cases mY:r.els[i]? with
    | none=>simp [List.getD,mY]at hq
    | some el =>
     have hq':el[j+k]? = some q:=by simpa [List.getD,mY]using hq
     have:=UJ hI hp gD hr hβ mY hq'
     rw [show i*r.size+j+k=i*r.size+(j+k)by omega];exact this
   ·simp [hv,bI]at xR
 | nil =>
  simp only [aK,dE]at h
  subst h
  simp only [fz,dE]
  exact⟨none,0,rfl,by simp,by simp [maxLen], .inl (by first | rfl | trivial)⟩
 | iR l =>
  simp only [fz]
  have:=mono _ _ (show dE c.S c.w (.iR l) v by simpa only [aK]using h)
  simp only [dE]at this ⊢
  obtain⟨A,rfl,h1,h2⟩:=this
  exact⟨A,l.length,rfl,Nat.le_refl _,h1,h2⟩
 | undef=>simp [fz,bI]at xR
 | _=>simp only [fz];exact mono _ _ (by simpa only [aK]using h)
theorem H5(hI:Inv w0 S0 c){ids:List Nat}(hp:∀id∈ids,∀r,c.rows id=some r → ∀e∈r.els,∀p∈e,bI p=true){p:PV}{v:Value}(h:aG c p v)(uL:∀id∈dV p,id∈ids)(xR:dA (pz c.rows p)=true) :
  dE (QP c ids) c.w (pz c.rows p) v:=by
 cases p with
 | ag l =>
  obtain⟨vs,rfl,BL⟩:=h
  simp only [pz,dA]at xR ⊢
  simp only [dE]
  refine⟨vs,rfl,cL.2 (bC.cT (by simp [BL.length]) fun k q u hq hu=>?_)⟩
  simp at hq
  obtain⟨q',hq',rfl⟩:=hq
  obtain⟨u',h1,h2⟩:=BL.get hq'
  rw [hu]at h1;cases h1
  refine H4 hI hp h2 (fun id gD=>uL id ?_) (List.all_eq_true.1 xR _ (by simp;exact⟨q',List.mem_of_getElem? hq',rfl⟩))
  simp only [dV,List.mem_flatMap]
  exact⟨q',List.mem_of_getElem? hq',gD⟩
 | _ =>
  simp only [pz]at xR ⊢
  refine H4 hI hp (by simpa only [aG]using h) (fun id gD=>uL id (by simpa only [dV]using gD)) ?_
  revert xR
  simp only [fz]
  first
   | (intro xR;simpa only [dA]using xR)
   | (split
      · split
        · intro _;rfl
        · intro xR;exact xR
      · intro xR;exact xR)
end
theorem yW{α:Type}{n:Nat}:∀ {els:List (List α)},(∀e∈els,e.length=n) → ∀ {i:Nat} {el:List α},els[i]? = some el → ∀(j:Nat) (l:List α),j+l.length≤el.length →
  (els.set i (el.take j++l++el.drop (j+l.length))).flatten=els.flatten.take (i*n+j)++l++els.flatten.drop (i*n+j+l.length)
 | [],_,_,_,h,_,_,_=>by simp at h
 | q::els,hn,0,el,h,j,l,hjl=>by
  simp at h
  subst h
  simp only [List.set_cons_zero,List.flatten_cons,Nat.zero_mul,Nat.zero_add]
  rw [List.take_append_of_le_length (by omega),List.drop_append_of_le_length hjl]
  simp
 | q::els,hn,i+1,el,h,j,l,hjl=>by
  have hq:q.length=n:=hn q (by simp)
  have ih:=yW (els:=els) (n:=n) (fun e he=>hn e (by simp [he])) (i:=i) (el:=el) (by simpa using h) j l hjl
  simp only [List.set_cons_succ,List.flatten_cons,ih]
  have e1:(i+1)*n+j=q.length+(i*n+j):=by rw [hq,Nat.add_mul];omega
  have e2:(i+1)*n+j+l.length=q.length+(i*n+j+l.length):=by omega
  rw [e1,show q.length+(i*n+j)+l.length=q.length+(i*n+j+l.length)by omega,List.take_length_add_append,List.drop_length_add_append]
  simp
def rN(E:Env)(t:TypeId)(rows:Rows)(p x v:PV)(u:Option (Nat × Row)):Prop:=
 (E.ty t).known=true∧v = .undef ∧
 match p with
 | .ptr id ver i j=>∃r,rows id=some r∧r.ver=ver ∧ ∃el,r.els[i]? = some el ∧ ∃l,cE x=some l∧(∀q∈l,iT rows q)∧l.length=(E.ty t).size∧j+l.length≤el.length ∧
   u=some (id,{ r with els:=r.els.set i (el.take j++l++el.drop (j+l.length)) })
 | _=>False
def iD(n:Nat):Nat→List (Nat × PV)→Option (List (List PV))
 | _,[]=>some []
 | k,(i,p)::ps =>
  match cE p with
  | some l=>if i=k∧l.length=n then(iD n (k+1) ps).map (l :: ·)else none
  | none=>none
def QQ(t:TI)(rows:Rows)(len:Nat)(parts:List (Nat × PV))(v:PV):Prop:=
 match t with
 | .slice _ n _ _=>∃els,iD n 0 parts=some els∧len=els.length∧len≤4096∧n≤4096∧(∀e∈els,∀p∈e,bI (fz rows p)=true∧iT rows p)∧(∀e∈els,∀p∈e,aU p = [])∧v = .iR (els.map fun e=>e.map (fz rows))
 | _=>False
def Gs:=PV × Value→Prop
instance:Membership (PV × Value) Gs:=⟨fun G p=>G p⟩
def Gs.none:Gs:=fun _=>False
theorem Gs.LK{p:PV × Value}:¬p∈Gs.none:=id
def LM(P:Program)(f:FuncId)(args:List PV)(rows:Rows)(clk:Nat)(R:PV→Rows→Nat→Prop):Prop:=
 (∃fn c,P.funcs[f]? = some fn∧fn.body=some c∧(fn.name == "runtime.NumGoroutine")=false) ∧
 ∀(w0:World) (S0:dZ) (c:Cx) (vs:List Value) (G:Gs),Inv w0 S0 c→c.rows=rows→(∀v,c.used v→v<clk)→bC (aG c) args vs→(∀p∈G,aG c p.1 p.2) →
  Calls P f vs.toArray c.w fun e w'=>∃v c' r gZ,e = .returned v∧c'.w=w'∧Inv w0 S0 c'∧(∀p∈G,aG c' p.1 p.2)∧R r c'.rows gZ∧(∀v,c'.used v→v<gZ)∧aG c' r v
def pB:Nat:=1000000
def g9(P:Program)(g:FuncId)(args:List PV)(e:TypeId)(n:Nat)(core eA:List PV)(r:PV):Prop:=
 ∀id ver (rows:Rows) clk,pB≤id→rows id=some ⟨ver,e,n,[core]⟩→ver<clk →
  LM P g (.ptr id ver 0 0::args) rows clk (fun r' rows' _=>r'=r∧rows' id=some ⟨ver,e,n,[eA]⟩ ∧ ∀j,pB≤j→j≠id→rows' j=rows j)
def EX(k:Nat):PV→PV
 | .own id ver off len => .own (id+k) ver off len
 | .ptr id ver i j => .ptr (id+k) ver i j
 | p=>p
def shV(k:Nat):PV→PV
 | .ag l => .ag (l.map (EX k))
 | p=>EX k p
def pC(k:Nat)(r:Row):Row:={ r with els:=r.els.map fun e=>e.map (EX k) }
def XV(k:Nat)(c:Cx):Cx:={ c with β:=fun j=>if k≤j then c.β (j-k)else .slice none 0 0,rows:=fun j=>if k≤j then(c.rows (j-k)).map (pC k)else none }
theorem BS{k:Nat}{p:PV}(h:bI p=true):EX k p=p:=by cases p<;>simp_all [EX,bI]
theorem LN{k:Nat}{l:List PV}(h:∀p∈l,bI p=true):l.map (EX k)=l:=by
 conv=>rhs;rw [←List.map_id l]
 exact List.map_congr_left fun p hp=>BS (h p hp)
theorem abg{k:Nat}{p:PV}(h:dA p=true):shV k p=p:=by
 cases p with
 | ag l=>simp only [shV];rw [LN (List.all_eq_true.1 h)]
 | own=>simp [dA,bI]at h
 | ptr=>simp [dA,bI]at h
 | _=>rfl
theorem vK{k:Nat}{c:Cx}{j:Nat}:(XV k c).rows (j+k)=(c.rows j).map (pC k):=by simp [XV]
theorem BT{k:Nat}{c:Cx}{j:Nat}:(XV k c).β (j+k)=c.β j:=by simp [XV]
theorem vL{k:Nat}{c:Cx}{i:Nat}{r:Row}(h:(XV k c).rows i=some r):∃j r0,i=j+k∧c.rows j=some r0∧r=pC k r0:=by
 simp only [XV]at h
 split at h
 ·rename_i hk
  obtain⟨r0,h1,h2⟩:=Option.map_eq_some_iff.1 h
  exact⟨i-k,r0,by omega,h1,h2.symm⟩
 ·cases h
theorem aK.sh{k:Nat}{c:Cx}{p:PV}{v:Value}(h:aK c p v):aK (XV k c) (EX k p) v:=by
 cases p with
 | own id ver off len =>
  simp only [EX,aK]at h ⊢
  refine⟨h.1,fun r hr hv=>?_⟩
  rw [vK]at hr
  obtain⟨r0,h1,rfl⟩:=Option.map_eq_some_iff.1 hr
  have:=h.2 r0 h1 hv
  rw [BT]
  simpa [pC]using this
 | ptr id ver i j =>
  simp only [EX,aK]at h ⊢
  refine⟨h.1,fun r hr hv=>?_⟩
  rw [vK]at hr
  obtain⟨r0,h1,rfl⟩:=Option.map_eq_some_iff.1 hr
  have:=h.2 r0 h1 hv
  rw [BT]
  simpa [pC]using this
 | undef=>trivial
 | _=>exact h
theorem aG.sh{k:Nat}{c:Cx}{p:PV}{v:Value}(h:aG c p v):aG (XV k c) (shV k p) v:=by
 cases p with
 | ag l =>
  obtain⟨vs,h1,h2⟩:=h
  refine⟨vs,h1,bC.cT (by simp [h2.length]) fun i a b ha hb=>?_⟩
  simp at ha
  obtain⟨q,hq,rfl⟩:=ha
  obtain⟨b',jX,hr⟩:=h2.get hq
  rw [hb]at jX;cases jX
  exact hr.sh
 | _=>simp only [aG,shV]at h ⊢;exact h.sh
theorem BU{α β:Type}{f:α→β}:∀ {l:List (List α)},(l.map fun e=>e.map f).flatten=l.flatten.map f
 | []=>rfl
 | e::l=>by
  show e.map f++(l.map fun e=>e.map f).flatten=(e++l.flatten).map f
  rw [BU,List.map_append]
theorem Inv.sh{w0:World}{S0:dZ}{c:Cx}(hI:Inv w0 S0 c)(k:Nat):Inv w0 S0 (XV k c):=by
 refine⟨hI.below,hI.ext,hI.new,hI.lt0,fun i r hr=>?_,fun i r hr=>?_,fun i i' r r' g hr kF hg hg'=>?_,hI.fin⟩
 ·obtain⟨j,r0,rfl,h1,rfl⟩:=vL hr
  exact hI.clock j r0 h1
 ·obtain⟨j,r0,rfl,h1,rfl⟩:=vL hr
  obtain⟨⟨xs,g1,g2,g3⟩,g4,g5,g6⟩:=hI.row j r0 h1
  rw [show pC k r0 = { r0 with els:=r0.els.map fun e=>e.map (EX k) }from rfl]
  refine⟨⟨xs,?_,?_,g3⟩,fun e he=>?_,fun g o hg=>?_,g6⟩
  ·rw [BT]
   show c.w.ownsRow _ _ _ _ (r0.els.map fun e=>e.map (EX k)).length xs
   rw [List.length_map];exact g1
  ·show bC _ (r0.els.map fun e=>e.map (EX k)).flatten xs
   rw [BU]
   refine bC.cT (by rw [List.length_map];exact g2.length) fun i a b ha hb=>?_
   simp only [List.getElem?_map,Option.map_eq_some_iff]at ha
   obtain⟨q,hq,rfl⟩:=ha
   obtain⟨b',jX,hr⟩:=g2.get hq
   rw [hb]at jX;cases jX
   exact hr.sh
  ·simp only [List.mem_map]at he
   obtain⟨e0,he0,rfl⟩:=he
   simp [g4 e0 he0]
  ·rw [BT]at hg
   exact g5 g o hg
 ·obtain⟨j,r0,rfl,h1,rfl⟩:=vL hr
  obtain⟨j',r0',rfl,AO,rfl⟩:=vL kF
  rw [BT]at hg hg'
  rw [hI.apart j j' r0 r0' g h1 AO hg hg']
def vM(c:Cx):PV→Prop
 | .own _ ver _ _=>c.used ver
 | .ptr _ ver _ _=>c.used ver
 | _=>True
theorem aK.vM{c:Cx}{p:PV}{v:Value}(h:aK c p v):vM c p:=by
 cases p with
 | own=>exact h.1
 | ptr=>exact h.1
 | _=>trivial
theorem BV{c:Cx}{p:PV}(h:bI p=true):Pm.vM c p:=by cases p<;>simp_all [Pm.vM,bI]
theorem aK.axN{k:Nat}{c c' c'':Cx}(hS:c''.S=c'.S)(hw:c''.w=c'.w)(hu:c''.used=c.used)(hr:∀id r,c''.rows id=some r → ∃r',c'.rows (id+k)=some r'∧r'.ver=r.ver∧r'.size=r.size∧r'.els.length=r.els.length)(hβ:∀id,c''.β id=c'.β (id+k))
  {p:PV} {v:Value} (hp:Pm.vM c p) (h:aK c' (EX k p) v):aK c'' p v:=by
 cases p with
 | own id ver off len =>
  simp only [EX,aK]at h ⊢
  refine⟨by rw [hu];exact hp,fun r tL hv=>?_⟩
  obtain⟨r',h1,h2,h3,h4⟩:=hr id r tL
  have:=h.2 r' h1 (h2.trans hv)
  rw [hβ,←h3,←h4];exact this
 | ptr id ver i j =>
  simp only [EX,aK]at h ⊢
  refine⟨by rw [hu];exact hp,fun r tL hv=>?_⟩
  obtain⟨r',h1,h2,h3,h4⟩:=hr id r tL
  have:=h.2 r' h1 (h2.trans hv)
  rw [hβ,←h3];exact this
 | undef=>trivial
 | _ =>
  simp only [EX,aK]at h ⊢
  rw [hS,hw];exact h
theorem g9.frame{P:Program}{g:FuncId}{args:List PV}{e:TypeId}{n:Nat}{core eA:List PV}{r:PV}(h:g9 P g args e n core eA r)(eT:args.all dA=true)(hr:dA r=true)(hc:∀p∈core,bI p=true)(EV:∀p∈eA,bI p=true)
  {w0:World} {S0:dZ} {c:Cx} (hI:Inv w0 S0 c) {id ver:Nat} (kB:c.rows id=some ⟨ver,e,n,[core]⟩) {vs:List Value} (BL:bC (aG c) (.ptr id ver 0 0::args) vs) :
  Calls P g vs.toArray c.w fun x w'=>∃v c',x = .returned v∧c'.w=w'∧c'.rows=dW c.rows id (some ⟨ver,e,n,[eA]⟩)∧c'.used=c.used∧(∀p v,aG c p v→aG c' p v)∧Inv w0 S0 c'∧aG c' r v:=by
 obtain⟨N,hN⟩:=hI.fin
 have arp:(XV pB c).rows (id+pB)=some ⟨ver,e,n,[core]⟩:=by
  rw [vK,kB]
  simp [pC,LN hc]
 have jR:ver<N:=hN ver (hI.clock id _ kB)
 obtain⟨_,mN⟩:=h (id+pB) ver (XV pB c).rows N (Nat.le_add_left _ _) arp jR
 have axO:bC (aG (XV pB c)) (.ptr (id+pB) ver 0 0::args) vs:=by
  refine bC.cT (by simpa using BL.length) fun i a b ha hb=>?_
  cases i with
  | zero =>
   simp at ha
   subst ha
   obtain⟨b',jX,tL⟩:=BL.get (k:=0) (a:=.ptr id ver 0 0) (by simp)
   rw [hb]at jX;cases jX
   exact aG.sh (k:=pB) tL
  | succ i =>
   simp at ha
   obtain⟨b',jX,tL⟩:=BL.get (k:=i+1) (a:=a) (by simpa using ha)
   rw [hb]at jX;cases jX
   have:=aG.sh (k:=pB) tL
   rwa [abg (List.all_eq_true.1 eT a (List.mem_of_getElem? ha))]at this
 refine(mN w0 S0 (XV pB c) vs (fun x=>∃p,aG c p x.2∧x.1=shV pB p) (hI.sh pB) rfl hN axO ?_).mono ?_
 ·rintro⟨q,v⟩ ⟨p,hp,rfl⟩
  exact hp.sh
 rintro x w' ⟨v,c',r',gZ,rfl,rfl,p8,hG',⟨rfl,gD,axP⟩,XW,hv'⟩
 have hrw:∀j,c'.rows (j+pB)=if j=id then some ⟨ver,e,n,[eA]⟩else(c.rows j).map (pC pB):=fun j=>by
  by_cases hj:j=id
  ·subst hj;rw [if_pos rfl];exact gD
  ·rw [if_neg hj,axP (j+pB) (Nat.le_add_left _ _) (by omega),vK]
 have bX:∀(j:Nat) (r:Row),(dW c.rows id (some ⟨ver,e,n,[eA]⟩)) j=some r → ∃r',c'.rows (j+pB)=some r'∧r'.ver=r.ver∧r'.size=r.size∧r'.els.length=r.els.length:=fun j r hj=>by
  rw [hrw j]
  by_cases EY:j=id
  ·rw [if_pos EY]
   subst EY
   simp only [fP,Option.some.injEq]at hj
   subst hj
   exact⟨_,rfl,rfl,rfl,rfl⟩
  ·rw [if_neg EY]
   rw [i0 _ _ EY]at hj
   exact⟨pC pB r,by rw [hj];rfl,rfl,rfl,by simp [pC]⟩
 obtain⟨c2,e1,e2,e3,e4,e5⟩:∃c2:Cx,c2.S=c'.S∧c2.w=c'.w∧c2.β=(fun j=>c'.β (j+pB))∧c2.rows=dW c.rows id (some ⟨ver,e,n,[eA]⟩)∧c2.used=c.used:=⟨⟨c'.S,c'.w,_,_,c.used⟩,rfl,rfl,rfl,rfl,rfl⟩
 have back:∀ {p:PV} {v:Value},vM c p→aK c' (EX pB p) v→aK c2 p v:=fun hp hh=>aK.axN (c:=c) (c':=c') (k:=pB) e1 e2 e5 (by rw [e4];exact bX) (fun _=>by rw [e3]) hp hh
 refine⟨v,c2,rfl,e2,e4,e5,fun p v hp=>?_,⟨by rw [e2];exact p8.below,by rw [e1];exact p8.ext,by rw [e1,e2];exact p8.new,p8.lt0,fun j r hj=>?_,fun j r hj=>?_,fun i i' r r' g hri arq hg hg'=>?_,by rw [e5];exact hI.fin⟩,?_⟩
 ·have h2:=hG' (shV pB p,v) ⟨p,hp,rfl⟩
  cases p with
  | ag l =>
   obtain⟨vs,h3,h4⟩:=hp
   obtain⟨EK,h5,h6⟩:=h2
   have hvv:vs=EK:=by rw [h3]at h5;simpa using h5
   subst hvv
   refine⟨vs,h3,bC.cT h4.length fun i a b ha hb=>?_⟩
   obtain⟨b',jX,q1⟩:=h4.get ha
   rw [hb]at jX;cases jX
   obtain⟨b',jX,q2⟩:=h6.get (k:=i) (a:=EX pB a) (by simp [ha])
   rw [hb]at jX;cases jX
   exact back q1.vM q2
  | _=>simp only [aG,shV]at hp h2 ⊢;exact back hp.vM h2
 ·rw [e4]at hj
  rw [e5]
  by_cases EY:j=id
  ·subst EY
   simp only [fP,Option.some.injEq]at hj
   subst hj
   exact(show c.used ver from hI.clock j _ kB)
  ·simp only [i0 _ _ EY]at hj
   exact hI.clock j r hj
 ·rw [e4]at hj
  have eβ:c2.β j=c'.β (j+pB):=by rw [e3]
  by_cases EY:j=id
  ·subst EY
   simp only [fP,Option.some.injEq]at hj
   subst hj
   obtain⟨⟨xs,g1,g2,g3⟩,g4,g5,g6⟩:=p8.row (j+pB) _ gD
   refine⟨⟨xs,by rw [e2,eβ];exact g1,?_,g3⟩,g4,by rw [eβ,e1];exact g5,g6⟩
   refine bC.cT g2.length fun i a b ha hb=>?_
   obtain⟨b',jX,q⟩:=g2.get ha
   rw [hb]at jX;cases jX
   have hm:a∈eA:=by simpa using List.mem_of_getElem? ha
   have hpa:=EV a hm
   refine back (BV hpa) ?_
   rw [BS hpa];exact q
  ·simp only [i0 _ _ EY]at hj
   have hj':c'.rows (j+pB)=some (pC pB r):=by rw [hrw j,if_neg EY,hj];rfl
   obtain⟨⟨xs,g1,g2,g3⟩,g4,g5,g6⟩:=p8.row (j+pB) _ hj'
   obtain⟨⟨ys,_,k2,_⟩,_⟩:=hI.row j r hj
   have el:(pC pB r).els.length=r.els.length:=List.length_map ..
   refine⟨⟨xs,by rw [e2,eβ,←el];exact g1,?_,g3⟩,fun e he=>?_,by rw [eβ,e1];exact g5,g6⟩
   ·have g2':bC (aK c') (r.els.flatten.map (EX pB)) xs:=by rw [←BU];exact g2
    refine bC.cT (by have:=g2'.length;rwa [List.length_map]at this) fun i a b ha hb=>?_
    obtain⟨b',jX,q⟩:=g2'.get (k:=i) (a:=EX pB a) (by rw [List.getElem?_map,ha];rfl)
    rw [hb]at jX;cases jX
    obtain⟨_,_,q2⟩:=k2.get ha
    exact back q2.vM q
   ·have:=g4 (e.map (EX pB)) (by simp only [pC,List.mem_map];exact⟨e,he,rfl⟩)
    rw [List.length_map]at this
    exact this
 ·rw [e4]at hri arq
  rw [e3]at hg hg'
  obtain⟨t,ht,_⟩:=bX i r hri
  obtain⟨t',ht',_⟩:=bX i' r' arq
  have:=p8.apart (i+pB) (i'+pB) t t' g ht ht' hg hg'
  omega
 ·cases r' with
  | ag l =>
   obtain⟨us,h1,h2⟩:=hv'
   refine⟨us,h1,bC.cT h2.length fun i a b ha hb=>?_⟩
   obtain⟨b',jX,q⟩:=h2.get ha
   rw [hb]at jX;cases jX
   have hpa:bI a=true:=List.all_eq_true.1 hr a (List.mem_of_getElem? ha)
   refine back (BV hpa) ?_
   rw [BS hpa];exact q
  | own=>simp [dA,bI]at hr
  | ptr=>simp [dA,bI]at hr
  | undef=>simp [dA,bI]at hr
  | _=>simp only [aG]at hv' ⊢;exact back trivial hv'
theorem g9.axQ{P:Program}{g:FuncId}{args:List PV}{e:TypeId}{n:Nat}{core eA:List PV}{r:PV}(h:g9 P g args e n core eA r)(eT:args.all dA=true)(hr:dA r=true)(hc:∀p∈core,bI p=true)(EV:∀p∈eA,bI p=true)
  {id ver:Nat} {rows:Rows} {clk:Nat} (kB:rows id=some ⟨ver,e,n,[core]⟩):LM P g (.ptr id ver 0 0::args) rows clk (fun r' rows' gZ=>r'=r∧rows'=dW rows id (some ⟨ver,e,n,[eA]⟩)∧gZ=clk):=by
 refine⟨(h pB 0 (fun j=>if j=pB then some ⟨0,e,n,[core]⟩else none) 1 (Nat.le_refl _) (if_pos rfl) (by decide)).1,fun w0 S0 c vs G hI hrw gB BL hG=>?_⟩
 subst hrw
 refine(h.frame eT hr hc EV hI kB BL).mono ?_
 rintro x w' ⟨v,c',rfl,rfl,h1,h2,h3,h4,h5⟩
 exact⟨v,c',r,clk,rfl,rfl,h4,fun p hp=>h3 _ _ (hG p hp),⟨rfl,h1,rfl⟩,by rw [h2];exact gB,h5⟩
def vN(E:Env):PV→Bool
 | .fn g []=>E.HW g
 | _=>false
def LO(E:Env)(p:PV)(eX:List PV)(rows:Rows)(v:PV)(u:Option (Nat × Row)):Prop:=
 match p,eX with
 | .fn g [], .ptr id ver i j::rest=>(i=0∧j=0∧rest.all dA=true∧dA v=true) ∧ ∃e n core eA,rows id=some ⟨ver,e,n,[core]⟩∧g9 E.P g rest e n core eA v∧(∀p∈core,bI p=true)∧(∀p∈eA,bI p=true)∧u=some (id,⟨ver,e,n,[eA]⟩)
 | _,_=>False
def alj(E:Env):PV→Bool
 | .fn g _=>E.writes g || E.HW g
 | _=>false
def vO(P:Program)(g:FuncId)(eX:List PV)(rows:Rows)(clk:Nat)(K:PV→Rows→Nat→Prop):Prop:=
 ∃R,LM P g eX rows clk R ∧ ∀r rows' gZ,R r rows' gZ→K r rows' gZ
def QR(E:Env)(p:PV)(eX:List PV)(rows:Rows)(clk:Nat)(K:PV→Rows→Nat→Prop):Prop:=
 match p with
 | .fn g []=>vO E.P g eX rows clk K
 | _=>False
def yX(E:Env)(f:PV)(args:List PV)(v:PV):Prop:=
 match f with
 | .fn g caps=>(args.all dA=true)∧aE E.P g (args++caps) v
 | _=>False
def rO(rows:Rows)(y:PV)(l:List (List PV)):Prop:=
 match y with
 | .nil=>l = []
 | .sl k=>l=k
 | .iR k=>l=k
 | .own id ver off len=>∃r,rows id=some r∧r.ver=ver∧l=(r.els.drop off).take len
 | _=>False
def tX(t:TI)(rows:Rows)(x y v:PV)(u:Option (Nat × Row)):Prop:=
 match t,x with
 | .slice _ n _ _, .own id ver off len=>∃r,rows id=some r∧r.ver=ver∧r.size=n∧off+len≤r.els.length ∧ ∃l,rO rows y l∧(∀e∈l,e.length=n) ∧
   v = .int .i64 (min l.length len)∧u=some (id,{ r with els:=r.els.take off++l.take len++r.els.drop (off+min l.length len) })
 | _,_=>False
def ys(E:Env)(op:Op)(ρ:Operand→PV)(rows:Rows)(v:PV)(u:Option (Nat × Row)):Prop:=
 match op with
 | .call { callee:=.builtin .copy,args:=⟨[x,y]⟩,argTypes:=⟨[t,_]⟩ }=>tX (E.ty t) rows (ρ x) (ρ y) v u
 | .store t p x=>rN E t rows (ρ p) (ρ x) v u
 | .buildSlice t len parts=>QQ (E.ty t) rows len (parts.toList.map fun x=>(x.1,ρ x.2)) v∧u=none
 | .call { callee:=.value f,args:=args,argTypes:=_ }=>if vN E (ρ f)=true then LO E (ρ f) (args.toList.map fun x=>ρ x) rows v u else u=none∧yX E (ρ f) (args.toList.map fun x=>pz rows (ρ x)) v∧(args.toList.flatMap fun x=>dV (ρ x)) = []
 | op=>yv E op ρ rows v∧u=none
def eF(rows:Rows):Option (Nat × Row)→Rows
 | none=>rows
 | some (id,r)=>dW rows id (some r)
section
variable {E:Env} {c:Cx} {w0:World} {S0:dZ}
theorem QS(hI:Inv w0 S0 c){t:TypeId}{p x v:PV}{u:Option (Nat × Row)}{vp vx:Value}(hp:aG c p vp)(hx:aG c x vx)(h:rN E t c.rows p x v u) :
  v = .undef ∧ ∃w',(Instr.storeAt t vp vx).run E.P c.w = .ok () w'∧Inv w0 S0 { c with w:=w',rows:=eF c.rows u }∧tK c { c with w:=w',rows:=eF c.rows u }:=by
 obtain⟨hk,rfl,h⟩:=h
 refine⟨rfl,?_⟩
 split at h
 ·rename_i id ver i j
  obtain⟨r,hr,jR,el,mY,l,hl,kH,hlen,hjl,rfl⟩:=h
  simp only [aG,aK]at hp
  obtain⟨g,n,cap,hβ,rfl⟩:=hp.2 r hr jR
  obtain⟨⟨xs,jB,fM,aiX⟩,BQ,hnS,lK⟩:=hI.row id r hr
  obtain⟨vP,hc2⟩:=nE hx hl kH
  have LJ:vx.cells.toList.length=l.length:=vP.length.symm
  have ars:=jB
  rw [hβ]at jB
  rcases jB.2 with ⟨h',_⟩ | ⟨g',jQ,cur,h',XT,hg,QL,hcm,EW,LP⟩
  ·simp at h'
  ·simp only [Value.slice.injEq,Option.some.injEq,Addr.mk.injEq,and_true]at h'
   obtain⟨rfl,rfl,rfl⟩:=h'
   have hi:i<r.els.length:=(List.getElem?_eq_some_iff.1 mY).1
   have abh:el.length=r.size:=BQ el (List.mem_of_getElem? mY)
   have hmul:i*r.size+r.size≤r.els.length*r.size:=by rw [←Nat.succ_mul];exact Nat.mul_le_mul_right _ hi
   have aA8:r.els.length*r.size≤cap*r.size:=Nat.mul_le_mul_right _ QL
   have alk:i*r.size+j+l.length≤r.els.length*r.size:=by omega
   have iX:=run_storeCells_at E.P g (i*r.size+j) r.e vx.cells.toList 0 cur c.w hg (by rw [LJ];omega) hc2
   obtain⟨inf,_,QG,_,hi2,_,_⟩:=((E.ok t).zero hk).ok
   have i3:(Instr.storeAt t (.pointer (some ⟨g,i*r.size+j,none⟩)) vx).run E.P c.w = .ok () (c.w.setRow g (cur.toList.take (i*r.size+j)++vx.cells.toList++cur.toList.drop (i*r.size+j+l.length)).toArray):=by
    have o8:vx.cells.size=inf.size:=by rw [hi2,←hlen,←LJ];simp
    simp only [Instr.storeAt,Instr.sureAddr,Sem.run_bind,Sem.run_pure,Result.andThen_ok,storeVar,c7 QG,o8]
    simp only [Nat.add_zero,LJ]at iX
    simpa using iX
   refine⟨_,i3,?_⟩
   have abi:(c.w.setRow g (cur.toList.take (i*r.size+j)++vx.cells.toList++cur.toList.drop (i*r.size+j+l.length)).toArray).ownsRow w0.heap.size r.e r.size (c.β id) (r.els.set i (el.take j++l++el.drop (j+l.length))).length
     (xs.take (i*r.size+j)++vx.cells.toList++xs.drop (i*r.size+j+l.length)):=by
    rw [hβ,List.length_set]
    refine⟨?_, .inr ⟨g,cap,_,rfl,XT,setRow_heap _ g cur _ r.e _ hg,QL,hcm,?_,?_⟩⟩
    ·have:=jB.1
     simp [LJ];omega
    ·simp [LJ];omega
    ·rw [←LP]
     have axR:cur.toList.length=cap*r.size:=by simp [EW]
     simp only
     rw [List.take_append,List.take_append]
     have e1:List.take (r.els.length*r.size) (cur.toList.take (i*r.size+j))=cur.toList.take (i*r.size+j):=by
      rw [List.take_take,Nat.min_eq_right (by omega)]
     have e2:List.take (i*r.size+j) (cur.toList.take (r.els.length*r.size))=cur.toList.take (i*r.size+j):=by
      rw [List.take_take,Nat.min_eq_left (by omega)]
     rw [e1,e2]
     have e3:(cur.toList.take (i*r.size+j)).length=i*r.size+j:=by rw [List.length_take];omega
     rw [e3]
     have e4:List.take (r.els.length*r.size-(i*r.size+j)) vx.cells.toList=vx.cells.toList:=List.take_of_length_le (by rw [LJ];omega)
     rw [e4]
     congr 1
     rw [List.length_append,e3,LJ,List.drop_take]
   have BW:bC (aK c) (r.els.set i (el.take j++l++el.drop (j+l.length))).flatten (xs.take (i*r.size+j)++vx.cells.toList++xs.drop (i*r.size+j+l.length)):=by
    rw [yW BQ mY j l hjl]
    exact((fM.take _).append vP).append (fM.drop _)
   have qZ:c.w.grownBy (c.w.setRow g (cur.toList.take (i*r.size+j)++vx.cells.toList++cur.toList.drop (i*r.size+j+l.length)).toArray) (c.β id).ownBlock:=by
    rw [hβ]
    exact⟨rfl,rfl,rfl,by simp,fun k _ hk=>setRow_other _ g k _ (fun e=>hk (by simp [Value.ownBlock,e]))⟩
   exact hI.dW (r':={ r with els:=r.els.set i (el.take j++l++el.drop (j+l.length)) }) hr qZ abi BW (by
    intro y hy
    simp only [List.mem_append]at hy
    rcases hy with (hy | hy) | hy
    ·exact aiX y (List.mem_of_mem_take hy)
    ·exact hc2 y hy
    ·exact aiX y (List.mem_of_mem_drop hy)) (by
    intro e he
    rcases List.mem_or_eq_of_mem_set he with he | rfl
    ·exact BQ e he
    ·simp;omega) rfl rfl (by simp)
 ·exact h.elim
end
section
variable {E:Env} {c:Cx} {w0:World} {S0:dZ}
theorem BX{n:Nat}:∀(vs:List (Nat × Value)) (k:Nat) (cells:Array Value),(∀j x,vs[j]? = some x→x.1=k+j∧x.2.cells.size=n)→cells.size=(k+vs.length)*n →
  ∃cU,Instr.fill (fun i=>some (i*n,n)) cells vs=some cU∧cU.toList=cells.toList.take (k*n)++vs.flatMap fun x=>x.2.cells.toList
 | [],k,cells,_,hs=>⟨cells,rfl,by simp at hs;rw [List.take_of_length_le (by simp [hs])];simp⟩
 | (i,v)::vs,k,cells,h,hs=>by
  obtain⟨h1,h2⟩:=h 0 (i,v) (by simp)
  simp only [Nat.add_zero]at h1 h2
  subst h1
  have alk:i*n+n≤cells.size:=by
   rw [hs,List.length_cons,←Nat.succ_mul]
   exact Nat.mul_le_mul_right _ (by omega)
  have hz3:v.cells.toList.zipIdx=v.cells.zipIdx.toList:=by simp
  have FO:=pZ (i*n) v.cells.toList 0 cells (by simp [h2];omega)
  have o8:(List.foldl (fun cs (x:Value × Nat)=>cs.setIfInBounds (i*n+x.2) x.1) cells v.cells.toList.zipIdx).size=cells.size:=by
   have:=congrArg List.length FO
   simp only [Array.length_toList]at this
   rw [this]
   simp [h2]
   omega
  obtain⟨cU,g1,g2⟩:=BX vs (i+1) (List.foldl (fun cs (x:Value × Nat)=>cs.setIfInBounds (i*n+x.2) x.1) cells v.cells.toList.zipIdx)
   (fun j x hx=>by have:=h (j+1) x (by simpa using hx);exact⟨by omega,this.2⟩) (by rw [o8,hs,List.length_cons];congr 1;omega)
  refine⟨cU,?_,?_⟩
  ·simp only [Instr.fill]
   rw [if_neg (by simp [h2];omega),←g1,hz3,Array.foldl_toList]
  ·rw [g2,FO]
   have e1:(cells.toList.take (i*n+0)).length=i*n:=by rw [List.length_take];simp;omega
   have e2:v.cells.toList.length=n:=by simp [h2]
   rw [show(i+1)*n=i*n+n by rw [Nat.add_mul];omega]
   rw [List.take_append,List.length_append,e1,e2,Nat.sub_self,List.take_zero,List.append_nil,List.take_of_length_le (by rw [List.length_append,e1,e2];exact Nat.le_refl _)]
   simp [List.append_assoc]
theorem oQ{n:Nat}:∀ {ps:List (Nat × PV)} {k:Nat} {els:List (List PV)},iD n k ps=some els→els.length=ps.length∧(∀e∈els,e.length=n) ∧ ∀j x,ps[j]? = some x→x.1=k+j ∧ ∃e,els[j]? = some e∧cE x.2=some e
 | [],k,els,h=>by simp [iD]at h;subst h;simp
 | (i,p)::ps,k,els,h=>by
  simp only [iD]at h
  split at h
  ·rename_i l hl
   split at h
   ·rename_i BP
    rw [Option.map_eq_some_iff]at h
    obtain⟨z9,h1,rfl⟩:=h
    obtain⟨g1,g2,g3⟩:=oQ h1
    refine⟨by simp [g1],fun e he=>?_,fun j x hx=>?_⟩
    ·simp at he
     rcases he with rfl | he
     ·exact BP.2
     ·exact g2 e he
    ·match j with
     | 0=>simp at hx;subst hx;exact⟨by simpa using BP.1,l,by simp,hl⟩
     | j+1 =>
      obtain⟨q1,q2⟩:=g3 j x (by simpa using hx)
      exact⟨by omega,by simpa using q2⟩
   ·cases h
  ·cases h
theorem Inv.axS(hI:Inv w0 S0 c)(o:Obj):Inv w0 S0 { c with w:=c.w.alloc o,S:=fun b k=>c.S b k∨b=c.w.heap.size }∧tK c { c with w:=c.w.alloc o,S:=fun b k=>c.S b k∨b=c.w.heap.size }:=by
 have:=hI.grow (w':=c.w.alloc o) (S':=fun b k=>c.S b k∨b=c.w.heap.size) ((Below.refl _ _).alloc (Nat.le_refl _) o) (fun _ _ h => .inl h) (fun b k h=>h.imp (fun h=>h) fun h=>by subst h;simp)
 exact this
theorem abj{p:PV}{v:Value}(hI:Inv w0 S0 c)(h:aK c p v)(uL:aU p = [])(xR:bI (fz c.rows p)=true):dE c.S c.w (fz c.rows p) v:=by
 have:=H4 hI (ids:=[]) (by simp) h (by simp [uL]) xR
 exact dE.mono (fun b o h=>by rcases h with h | ⟨id,gD,_⟩;exact h;cases gD) (fun _ _ _=>rfl) _ _ this
theorem B2(hI:Inv w0 S0 c){t e:TypeId}{n bb len:Nat}{z:List PV}(hE:E.ty t = .slice e n bb z){parts:Array (Nat × Operand)}{ρ:Operand→PV}{vρ:Operand→Value}(hρ:∀x,aG c (ρ x) (vρ x))
  {els:List (List PV)} (BQ:iD n 0 (parts.toList.map fun x=>(x.1,ρ x.2))=some els) (hlen:len=els.length) (hsm:len≤4096) (hn:n≤4096)
  (xR:∀e∈els,∀p∈e,bI (fz c.rows p)=true∧iT c.rows p) (uL:∀e∈els,∀p∈e,aU p = []) :
  ∃v' c',(Instr.buildSlice t len (parts.map fun(i,x)=>(i,vρ x))).run E.P c.w = .ok v' c'.w∧c'.rows=c.rows∧c'.used=c.used∧Inv w0 S0 c'∧tK c c'∧aG c' (.iR (els.map fun e=>e.map (fz c.rows))) v':=by
 obtain⟨hu,hnp,H6,i,zv,hi,hz,hs,_,QO,_⟩:=fX hE
 obtain⟨g1,g2,g3⟩:=oQ BQ
 have UK:parts.size=els.length:=by rw [g1];simp
 have axU:zv.cells.size=n:=by rw [←H6,←QO];simp
 have FU:∀j (x:Nat × Value),((parts.map fun(i,x)=>(i,vρ x)).toList)[j]? = some x→x.1=0+j ∧ ∃e,els[j]? = some e∧bC (aK c) e x.2.cells.toList ∧ ∀u∈x.2.cells.toList,u.oneCell'=true:=by
  intro j x hx
  simp at hx
  obtain⟨a,b,eW,rfl⟩:=hx
  obtain⟨q1,e,q2,q3⟩:=g3 j (a,ρ b) (by simp;exact⟨a,b,eW,rfl,rfl⟩)
  have q4:=nE (hρ b) q3 (fun q hq=>(xR e (List.mem_of_getElem? q2) q hq).2)
  exact⟨q1,e,q2,q4.1,q4.2⟩
 obtain⟨cU,f1,f2⟩:=BX (n:=n) (parts.map fun(i,x)=>(i,vρ x)).toList 0 ((Array.range (len*n)).map (zv.cells[· % zv.cells.size]!)) (fun j x hx=>by
  obtain⟨q1,e,q2,q3,_⟩:=FU j x hx
  refine⟨q1,?_⟩
  have:=q3.length
  rw [g2 e (List.mem_of_getElem? q2)]at this
  simpa using this.symm) (by simp [UK,hlen])
 simp only [Nat.zero_mul,List.take_zero,List.nil_append]at f2
 have i3:(Instr.buildSlice t len (parts.map fun(i,x)=>(i,vρ x))).run E.P c.w = .ok (.slice (some ⟨c.w.heap.size,0,none⟩) len len) (c.w.alloc (.cells cU e)):=by
  have hbound:¬(16777216<len*n):=by
   have:len*n≤4096*4096:=Nat.mul_le_mul hsm hn
   omega
  by_cases h0:len*n=0
  ·have LQ:len=0:=by
    rcases Nat.mul_eq_zero.1 h0 with h | h
    ·exact h
    ·omega
   have QT:parts = #[]:=Array.eq_empty_of_size_eq_zero (by omega)
   subst QT
   subst LQ
   simp [Instr.fill]at f1
   subst f1
   have FV:Array.range 0 = #[]:=rfl
   simp [Instr.buildSlice,run_underlying hu,c7 hi,newRow,Instr.fill,FV]
  ·have f1':Instr.fill (fun i=>some (i*n,n)) ((Array.range (len*n)).map (zv.cells[· % zv.cells.size]!)) (parts.toList.map fun x=>(x.1,vρ x.2))=some cU:=by simpa using f1
   simp only [Instr.buildSlice,Sem.run_bind,run_underlying hu,Result.andThen_ok,c7 hi,hs]
   simp [h0,hbound,newRow,zeroValue,typeInfo,hi,hz,f1']
 obtain⟨p8,hA⟩:=hI.axS (.cells cU e)
 refine⟨_,{ c with w:=c.w.alloc (.cells cU e),S:=fun b k=>c.S b k∨b=c.w.heap.size },i3,rfl,rfl,p8,hA,?_⟩
 simp only [aG,aK,dE]
 refine⟨some ⟨c.w.heap.size,0,none⟩,by rw [List.length_map,hlen],by rw [List.length_map,←hlen];simp [maxLen];omega, .inr ⟨_,_,rfl,?_⟩⟩
 refine o9 (n:=n) (by
  intro e' rE
  simp at rE
  obtain⟨e1,LR,rfl⟩:=rE
  simpa using g2 e1 LR) fun k el hk=>?_
 simp at hk
 obtain⟨e1,LR,rfl⟩:=hk
 refine jY fun j p hj=>?_
 simp at hj
 obtain⟨q,hq,rfl⟩:=hj
 have hkl:k<els.length:=(List.getElem?_eq_some_iff.1 LR).1
 obtain⟨x,hx⟩:∃x,((parts.map fun(i,x)=>(i,vρ x)).toList)[k]? = some x:=⟨_,List.getElem?_eq_getElem (by simp;omega)⟩
 obtain⟨_,e2,q2,q3,q4⟩:=FU k x hx
 rw [LR]at q2;cases q2
 obtain⟨u,hu1,hu2⟩:=q3.get hq
 have aru:cU.toList[k*n+j]? = some u:=by
  have e3:cU.toList=((parts.map fun(i,x)=>(i,vρ x)).toList.map fun x=>x.2.cells.toList).flatten:=by rw [f2,List.flatMap_def]
  rw [e3]
  refine jZ (n:=n) (fun e he=>?_) (i:=k) (e:=x.2.cells.toList) (by rw [List.getElem?_map,hx];rfl) hu1
  simp only [List.mem_map]at he
  obtain⟨y,hy,rfl⟩:=he
  obtain⟨k',xL⟩:=List.getElem?_of_mem hy
  obtain⟨_,e4,q5,q6,_⟩:=FU k' y xL
  rw [←q6.length];exact g2 e4 (List.mem_of_getElem? q5)
 refine⟨u,?_, .inr rfl,q4 u (List.mem_of_getElem? hu1),?_⟩
 ·have:=heap_alloc_new c.w (.cells cU e)
  rw [cell_of_row _ _ _ _ _ _ this]
  simpa using aru
 ·exact dE.mono hA.S hA.w _ _ (abj hI hu2 (uL e1 (List.mem_of_getElem? LR) q (List.mem_of_getElem? hq)) (xR e1 (List.mem_of_getElem? LR) q (List.mem_of_getElem? hq)).1)
end
section
variable {E:Env} {c:Cx} {w0:World} {S0:dZ}
theorem kI{P:Program}{g:FuncId}{fn:Func}{b:Code}(h1:P.funcs[g]? = some fn)(h2:fn.body=some b) (h3:(fn.name == "runtime.NumGoroutine") = false) (args:Array Value) (w:World) :
  (callFunc g args).run P w = .ok (.enter g args) w:=by
 simp only [callFunc,Sem.run_bind,program,Sem.run,Result.andThen_ok,h1,h2,h3]
 simp
theorem yY(hI:Inv w0 S0 c){ids:List Nat}(hp:∀id∈ids,∀r,c.rows id=some r → ∀e∈r.els,∀p∈e,bI p=true){pf:PV}{vf:Value}{UL:List PV}{yZ:List Value}
  (hf:aG c pf vf) (eT:bC (aG c) UL yZ) (uL:∀p∈UL,∀id∈dV p,id∈ids) {v:PV} (h:yX E pf (UL.map (pz c.rows)) v) {K:Value→World→Prop}
  (hK:∀v' c',c'.rows=FT c.rows ids→c'.used=c.used→tK c c'→Inv w0 S0 c'→aG c' v v'→K v' c'.w) :
  ∃g cs,vf = .func (.func g) #[] cs∧(callFunc g (yZ.toArray++cs)).run E.P c.w = .ok (.enter g (yZ.toArray++cs)) c.w ∧
   Calls E.P g (yZ.toArray++cs) c.w fun e w'=>∃v',e = .returned v'∧K v' w':=by
 unfold yX at h
 split at h
 ·rename_i g caps
  obtain⟨tY,⟨fn,b,h1,h2,h3⟩,QU⟩:=h
  simp only [aG,aK,dE]at hf
  obtain⟨cs,rfl,EW⟩:=hf
  refine⟨g,cs.toArray,rfl,kI h1 h2 h3 _ _,?_⟩
  have K6:=hI.freeze ids
  have dK:∀b o,QP c ids b o→b<c.w.heap.size:=fun b o hb=>K6.lt (c:=EL c ids) hb
  have fM:bP (QP c ids) c.w (UL.map (pz c.rows)++caps) (yZ++cs):=by
   refine cL.2 (bC.append (bC.cT (by simp [eT.length]) fun k p u xM hu=>?_) ?_)
   ·simp at xM
    obtain⟨q,hq,rfl⟩:=xM
    obtain⟨u',g1,g2⟩:=eT.get hq
    rw [hu]at g1;cases g1
    exact H5 hI hp g2 (uL q (List.mem_of_getElem? hq)) (List.all_eq_true.1 tY _ (by simp;exact⟨q,List.mem_of_getElem? hq,rfl⟩))
   ·exact(cL.1 EW).mono fun a b eW=>dE.mono (fun _ _ h => .inl h) (fun _ _ _=>rfl) a b eW
  have:=QU c.w (QP c ids) (yZ++cs) dK fM
  rw [show(yZ++cs).toArray=yZ.toArray++cs.toArray by simp]at this
  refine this.mono ?_
  rintro e w' ⟨v',rfl,hb,S',g1,g2,g3⟩
  refine⟨v',rfl,?_⟩
  obtain⟨hI2,hA2⟩:=K6.grow (c:=EL c ids) hb g1 g2
  have hA:tK c { EL c ids with S:=S',w:=w' }:=by
   have hA1:=mR c ids
   exact⟨fun b o h=>g1 b o (hA1.S b o h),fun b o h=>(hA2.w b o (hA1.S b o h)).trans (hA1.w b o h),fun _ h=>h,hA1.rows⟩
  exact hK v' { EL c ids with S:=S',w:=w' } rfl rfl hA hI2 (aG.jN g3)
 ·exact h.elim
structure pD(w0:World)(S0:dZ)(n:Nat)(G:Gs)(U:Nat→Prop)(f:Nat→PV)(rows:Rows)(a:Act)(w:World):Prop where
 ex:∃c:Cx,c.w=w∧c.rows=rows∧(∀v,c.used v→U v)∧Inv w0 S0 c∧(∀s,aG c (f s) (a.tmps.getD s undef)) ∧ ∀p∈G,aG c p.1 p.2
 size:a.tmps.size=n
 defers:a.defers = []
abbrev Rel(w0:World)(S0:dZ)(n:Nat)(G:Gs)(σ:PS)(a:Act)(w:World):Prop:=pD w0 S0 n G (fun v=>v<σ.clock) σ.f σ.rows a w
theorem pD.mono{w0:World}{S0:dZ}{n:Nat}{G:Gs}{U U':Nat→Prop}{f:Nat→PV}{rows:Rows}{a:Act}{w:World}(hU:∀v,U v→U' v)(h:pD w0 S0 n G U f rows a w):pD w0 S0 n G U' f rows a w:=by
 obtain⟨⟨c,h1,h2,h3,h4⟩,h5,h6⟩:=h
 exact⟨⟨c,h1,h2,fun v hv=>hU v (h3 v hv),h4⟩,h5,h6⟩
theorem XX{n:Nat}{G:Gs}{U:Nat→Prop}{f:Nat→PV}{a:Act}{c':Cx}{v:PV}{v':Value}{d:Option Tmp}(hf:∀s,aG c (f s) (a.tmps.getD s undef))(hG:∀p∈G,aG c p.1 p.2)(hn:a.tmps.size=n)(fK:a.defers = [])
  (hA:∀p v,aG c p v→aG c' p v) (hI:Inv w0 S0 c') (hv:aG c' v v') (hd:∀t,d=some t→t<n) {f':Nat→PV} {rows:Rows} (h1:f'=put f d v) (h2:rows=c'.rows) (h3:∀v,c'.used v→U v):pD w0 S0 n G U f' rows (a.put d v') c'.w:=by
 refine⟨⟨c',rfl,h2.symm,h3,hI,fun s=>?_,fun p hp=>hA _ _ (hG p hp)⟩,?_,?_⟩
 ·rw [h1]
  cases d with
  | none=>exact hA _ _ (hf s)
  | some t =>
   simp only [put,Act.put]
   by_cases hs:s=t
   ·subst hs
    have:s<a.tmps.size:=by rw [hn];exact hd s rfl
    simpa [this]using hv
   ·rw [if_neg hs]
    have:=hA _ _ (hf s)
    simpa [Array.getElem?_setIfInBounds_ne (Ne.symm hs)]using this
 ·cases d<;>simp [Act.put,hn]
 ·cases d<;>simp [Act.put,fK]
theorem rP{n:Nat}{G:Gs}{U:Nat→Prop}{f:Nat→PV}{a:Act}{c':Cx}{v:PV}{v':Value}{d:Option Tmp}(hf:∀s,aG c (f s) (a.tmps.getD s undef))(hG:∀p∈G,aG c p.1 p.2)(hn:a.tmps.size=n)(fK:a.defers = [])
  (hA:tK c c') (hI:Inv w0 S0 c') (hv:aG c' v v') (hd:∀t,d=some t→t<n) {f':Nat→PV} {rows:Rows} (h1:f'=put f d v) (h2:rows=c'.rows) (h3:∀v,c'.used v→U v):pD w0 S0 n G U f' rows (a.put d v') c'.w:=by
 refine⟨⟨c',rfl,h2.symm,h3,hI,fun s=>?_,fun p hp=>aG.tR hA _ _ (hG p hp)⟩,?_,?_⟩
 ·rw [h1]
  cases d with
  | none=>exact aG.tR hA _ _ (hf s)
  | some t =>
   simp only [put,Act.put]
   by_cases hs:s=t
   ·subst hs
    have:s<a.tmps.size:=by rw [hn];exact hd s rfl
    simpa [this]using hv
   ·rw [if_neg hs]
    have:=aG.tR hA _ _ (hf s)
    simpa [Array.getElem?_setIfInBounds_ne (Ne.symm hs)]using this
 ·cases d<;>simp [Act.put,hn]
 ·cases d<;>simp [Act.put,fK]
theorem sU{n:Nat}{G:Gs}{f:Nat→PV}{a:Act}{c':Cx}{v:PV}{v':Value}{d:Option Tmp}(hf:∀s,aG c (f s) (a.tmps.getD s undef))(hG:∀p∈G,aG c p.1 p.2)(hn:a.tmps.size=n)(fK:a.defers = [])
  (hA:tK c c') (hI:Inv w0 S0 c') (hv:aG c' v v') (hd:∀t,d=some t→t<n) {σ:PS} (h1:σ.f=put f d v) (h2:σ.rows=c'.rows) (h3:∀v,c'.used v→v<σ.clock):Rel w0 S0 n G σ (a.put d v') c'.w:=
 rP hf hG hn fK hA hI hv hd h1 h2 h3
theorem LS{n:Nat}{G:Gs}{f:Nat→PV}{a:Act}{c':Cx}{v:PV}{v':Value}{d:Option Tmp}(hf:∀s,aG c' (f s) (a.tmps.getD s undef))(hG:∀p∈G,aG c' p.1 p.2)(hn:a.tmps.size=n)(fK:a.defers = [])
  (hI:Inv w0 S0 c') (hv:aG c' v v') (hd:∀t,d=some t→t<n) {σ:PS} (h1:σ.f=put f d v) (h2:σ.rows=c'.rows) (h3:∀v,c'.used v→v<σ.clock):Rel w0 S0 n G σ (a.put d v') c'.w:=
 sU hf hG hn fK (tK.refl c') hI hv hd h1 h2 h3
theorem pE{α:Type}{n:Nat}:∀ {l:List (List α)},(∀e∈l,e.length=n) → ∀k,(l.take k).flatten=l.flatten.take (k*n)∧(l.drop k).flatten=l.flatten.drop (k*n)
 | [],_,k=>by simp
 | e::l,_,0=>by simp
 | e::l,h,k+1=>by
  have he:=h e (by simp)
  have ih:=pE (l:=l) (fun e' rE=>h e' (List.mem_cons_of_mem _ rE)) k
  have h1:(k+1)*n=e.length+k*n:=by rw [he,Nat.add_mul];omega
  simp only [List.take_succ_cons,List.drop_succ_cons,List.flatten_cons,h1,List.take_length_add_append,List.drop_length_add_append,ih.1,ih.2,and_self]
theorem uM(hI:Inv w0 S0 c){y:PV}{vy:Value}{l:List (List PV)}{n:Nat}(hy:aG c y vy)(h:rO c.rows y l)(hn:∀e∈l,e.length=n) :
  ∃A cap news,vy = .slice A l.length cap∧news.length=l.length*n∧bC (aK c) l.flatten news∧(∀u∈news,u.oneCell'=true)∧(A=none→l = []) ∧
   ∀a,A=some a → ∀j u,news[j]? = some u→c.w.cell? (a.add j)=some u:=by
 have fl:∀ {l:List (List PV)},(∀e∈l,e.length=n)→l.flatten.length=l.length*n:=by
  intro l
  induction l with
  | nil=>intro _;simp
  | cons e l ih=>intro h;rw [List.flatten_cons,List.length_append,ih (fun e he=>h e (by simp [he])),h e (by simp),List.length_cons,Nat.add_mul];omega
 have at_:∀(g o cap:Nat),vy = .slice (some ⟨g,o,none⟩) l.length cap →
   (∀k e,l[k]? = some e → ∀j p,e[j]? = some p → ∃v,c.w.cell? ⟨g,o+(k*n+j),none⟩=some v∧v.oneCell'=true∧aK c p v) → ∃A cap news,vy = .slice A l.length cap∧news.length=l.length*n∧bC (aK c) l.flatten news∧(∀u∈news,u.oneCell'=true)∧(A=none→l = []) ∧
   ∀a,A=some a → ∀j u,news[j]? = some u→c.w.cell? (a.add j)=some u:=by
  intro g o cap hv hc
  have cellAt:∀k,k<l.length*n → ∃p v,l.flatten[k]? = some p∧c.w.cell? ⟨g,o+k,none⟩=some v∧v.oneCell'=true∧aK c p v:=by
   intro k hk
   have hn0:0<n:=by
    rcases Nat.eq_zero_or_pos n with h | h
    ·subst h;simp at hk
    ·exact h
   have hq:k/n<l.length:=(Nat.div_lt_iff_lt_mul hn0).2 hk
   have he:=hn l[k/n] (List.getElem_mem hq)
   have hj:k%n<l[k/n].length:=by rw [he];exact Nat.mod_lt _ hn0
   have UM:k/n*n+k%n=k:=by rw [Nat.mul_comm];exact Nat.div_add_mod k n
   obtain⟨v,h1,h2,h3⟩:=hc (k/n) _ (List.getElem?_eq_getElem hq) (k%n) _ (List.getElem?_eq_getElem hj)
   rw [UM]at h1
   have:=jZ hn (List.getElem?_eq_getElem hq) (List.getElem?_eq_getElem hj)
   rw [UM]at this
   exact⟨_,v,this,h1,h2,h3⟩
  have hnl:((List.range (l.length*n)).map fun k=>(c.w.cell? ⟨g,o+k,none⟩).getD undef).length=l.length*n:=by simp
  have aba:∀k u,((List.range (l.length*n)).map fun k=>(c.w.cell? ⟨g,o+k,none⟩).getD undef)[k]? = some u→k<l.length*n ∧ ∃p,l.flatten[k]? = some p∧c.w.cell? ⟨g,o+k,none⟩=some u∧u.oneCell'=true∧aK c p u:=by
   intro k u hu
   have hk:k<l.length*n:=by rw [←hnl];exact(List.getElem?_eq_some_iff.1 hu).1
   obtain⟨p,v,h1,h2,h3,h4⟩:=cellAt k hk
   rw [List.getElem?_map,List.getElem?_range hk]at hu
   simp only [Option.map_some,h2,Option.getD_some,Option.some.injEq]at hu
   subst hu
   exact⟨hk,p,h1,h2,h3,h4⟩
  refine⟨some ⟨g,o,none⟩,cap,_,hv,hnl,bC.cT (by rw [hnl,fl hn]) fun k p u hp hu=>?_,fun u hu=>?_,by simp,fun a ha j u hu=>?_⟩
  ·obtain⟨_,p',h1,_,_,h4⟩:=aba k u hu
   rw [hp]at h1;cases h1;exact h4
  ·obtain⟨k,hk⟩:=List.getElem?_of_mem hu
   exact(aba k u hk).2.choose_spec.2.2.1
  ·cases ha
   rw [jA]
   exact(aba j u hu).2.choose_spec.2.1
 have empty:∀A cap,vy = .slice A l.length cap→l = [] → ∃A cap news,vy = .slice A l.length cap∧news.length=l.length*n∧bC (aK c) l.flatten news∧(∀u∈news,u.oneCell'=true)∧(A=none→l = []) ∧
   ∀a,A=some a → ∀j u,news[j]? = some u→c.w.cell? (a.add j)=some u:=by
  rintro A cap hv rfl
  exact⟨A,cap,[],hv,by simp,trivial,by simp,by simp,by simp⟩
 unfold rO at h
 split at h
 ·subst h
  simp only [aG,aK,dE]at hy
  exact empty none 0 (by rw [hy];rfl) rfl
 ·subst h
  simp only [aG,aK,dE]at hy
  obtain⟨A,cap,rfl,_,_,hh⟩:=hy
  rcases hh with hh | ⟨g,o,rfl,hr⟩
  ·exact empty A cap rfl hh
  ·refine at_ g o cap rfl fun k e hk j p hj=>?_
   obtain⟨v,h1,_,h3,h4⟩:=iS (jP hr hn hk) hj
   exact⟨v,by rw [←Nat.add_assoc];exact h1,h3,aK.jN h4⟩
 ·subst h
  simp only [aG,aK,dE]at hy
  obtain⟨A,rfl,_,hh⟩:=hy
  rcases hh with hh | ⟨g,o,rfl,hr⟩
  ·exact empty A _ rfl hh
  ·refine at_ g o _ rfl fun k e hk j p hj=>?_
   obtain⟨v,h1,_,h3,h4⟩:=iS (jP hr hn hk) hj
   exact⟨v,by rw [←Nat.add_assoc];exact h1,h3,aK.jN h4⟩
 ·rename_i id ver off len
  obtain⟨r,hr,jR,rfl⟩:=h
  simp only [aG,aK]at hy
  obtain⟨hle,hy⟩:=hy.2 r hr jR
  have EM:((r.els.drop off).take len).length=len:=by simp;omega
  rw [←EM]at hy
  have o8:∀k e,((r.els.drop off).take len)[k]? = some e→r.els[off+k]? = some e∧r.size=n:=by
   intro k e hk
   have xL:=hk
   rw [List.getElem?_take]at hk
   split at hk
   ·rw [List.getElem?_drop]at hk
    refine⟨hk,?_⟩
    rw [←hn e (List.mem_of_getElem? xL)]
    exact((hI.row id r hr).len e (List.mem_of_getElem? hk)).symm
   ·cases hk
  rcases hy with ⟨h0,A,m,cap,hβ,rfl⟩ | ⟨lK,g,m,cap,A,hβ,hoc,rfl,ha⟩
  ·subst h0
   rcases Nat.eq_zero_or_pos len with h0 | h0
   ·exact empty A cap rfl (List.eq_nil_of_length_eq_zero (by rw [EM];exact h0))
   ·obtain⟨g,jQ,rM⟩:=rL hI hr (by omega)
    rw [hβ]at rM
    simp only [Value.slice.injEq]at rM
    obtain⟨rfl,rfl,rfl⟩:=rM
    refine at_ g 0 _ rfl fun k e hk j p hj=>?_
    obtain⟨hk2,hs⟩:=o8 k e hk
    have:=vI hI hr hβ hk2 hj
    rw [hs]at this
    simpa using this
  ·rcases ha with ha | rfl
   ·exact empty _ _ rfl (List.eq_nil_of_length_eq_zero ha)
   ·refine at_ g _ _ rfl fun k e hk j p hj=>?_
    obtain⟨hk2,hs⟩:=o8 k e hk
    have:=vI hI hr hβ hk2 hj
    rw [hs]at this ⊢
    rw [show off*n+(k*n+j)=(off+k)*n+j by rw [Nat.add_mul];omega];exact this
 ·exact h.elim
end
section
variable {E:Env} {c:Cx} {w0:World} {S0:dZ}
theorem H7{P:Program}(w:World)(dT sT ty elem:TypeId)(sz g o alm aln:Nat)(A:Option Addr)(QV alp:Nat)(cur:Array Value)(t:TypeId)(cs:List Value)
  (hu:P.underlying dT=some (.slice elem)) (hs:(P.info? elem).map (·.size)=some sz)
  (hg:w.heap[g]? = some (.cells cur t (0,0))) (hn:cs.length=Nat.min QV alm*sz)
  (axW:∀a,A=some a → ∀j v,cs[j]? = some v→w.cell? (a.add j)=some v) (hA:A=none→cs = []) (alk:o+cs.length≤cur.size) (h1:∀v∈cs,v.oneCell'=true) :
  (Builtin.copy_ #[dT,sT] ty #[.slice (some ⟨g,o,none⟩) alm aln, .slice A QV alp]).run P w =
   .ok (goInt (Nat.min QV alm:Nat)) (w.setRow g (cur.toList.take o++cs++cur.toList.drop (o+cs.length)).toArray):=by
 cases hq:P.info? elem with
 | none=>simp [hq]at hs
 | some i =>
  have hi:i.size=sz:=by simpa [hq]using hs
  cases A with
  | some a =>
   have hl:=run_loadCells_list (P:=P) w a cs (axW a rfl)
   have iX:=run_storeCells_at P g o t cs 0 cur w hg (by simpa using alk) h1
   simp [Builtin.copy_,run_underlying hu,Builtin.lenOf,Builtin.firstCells,Go.sizeOf,typeInfo,hq,hi,←hn,hl,iX]
  | none =>
   have:=hA rfl
   subst this
   have arw:=setRow_self w g cur t (0,0) hg
   simp [Builtin.copy_,run_underlying hu,Builtin.lenOf,Builtin.firstCells,Go.sizeOf,typeInfo,hq,storeCells,List.take_append_drop,arw]
theorem EZ{P:Program}(w:World)(dT sT ty elem:TypeId)(D:Option Addr)(aln:Nat)(A:Option Addr)(QV alp sz:Nat)
  (hu:P.underlying dT=some (.slice elem)) (hs:(P.info? elem).map (·.size)=some sz) :
  (Builtin.copy_ #[dT,sT] ty #[.slice D 0 aln, .slice A QV alp]).run P w = .ok (goInt (0:Nat)) w:=by
 cases hq:P.info? elem with
 | none=>simp [hq]at hs
 | some i=>cases A<;>cases D<;>simp [Builtin.copy_,run_underlying hu,Builtin.lenOf,Builtin.firstCells,Go.sizeOf,typeInfo,hq,storeCells,loadCells,loadCellsFrom,show Nat.min QV 0=0 from Nat.min_zero QV]
theorem XY(hI:Inv w0 S0 c){t t2 type:TypeId}{x y v:PV}{u:Option (Nat × Row)}{vx vy:Value}(hx:aG c x vx)(hy:aG c y vy)(h:tX (E.ty t) c.rows x y v u) :
  ∃v' c',(Builtin.copy_ #[t,t2] type #[vx,vy]).run E.P c.w = .ok v' c'.w∧c'.rows=eF c.rows u∧c'.used=c.used∧tK c c'∧Inv w0 S0 c'∧aG c' v v':=by
 unfold tX at h
 split at h
 ·rename_i e sz b z id ver off len hE
  obtain⟨r,tL,jR,o8,hle,l,hl,hl1,rfl,rfl⟩:=h
  have gx:=hx
  simp only [aG,aK]at gx
  obtain⟨_,gx⟩:=gx.2 r tL jR
  obtain⟨hu,lK,H6,i,zv,hi,hz,hs,hby,QO,hzo⟩:=fX hE
  obtain⟨A,cap,news,hvy,g1,g2,g3,g4,g5⟩:=uM hI hy hl hl1
  by_cases vQ:len=0
  ·-- nothing
   subst vQ
   obtain⟨D,QW,hvx⟩:∃D QW,vx = .slice D 0 QW:=by
    rcases gx with ⟨h0,A',m,afV,H8,hv⟩ | ⟨_,g2,m,afV,A',H8,_,hv,ha⟩
    ·exact⟨_,_,hv⟩
    ·exact⟨_,_,hv⟩
   have i3:=EZ (P:=E.P) c.w t t2 type e D QW A l.length cap sz hu (by simp [hi,hs])
   have kB:dW c.rows id (some { r with els:=r.els.take off++l.take 0++r.els.drop (off+min l.length 0) })=c.rows:=by
    funext j
    simp only [dW]
    split
    ·rename_i hj
     subst hj
     rw [tL]
     simp
    ·rfl
   refine⟨_,c,by rw [hvx,hvy];exact i3,?_,rfl,tK.refl c,hI,cK.2 (by
    simp only [goInt]
    congr 1
    omega)⟩
   show c.rows=dW c.rows id _
   rw [kB]
  have arx:0<len:=by omega
  obtain⟨⟨xs,jB,fM,kH⟩,BQ,hnS,_⟩:=hI.row id r tL
  obtain⟨g,jQ,hβ⟩:=rL hI tL (by omega)
  obtain⟨QW,hvx⟩:∃QW,vx = .slice (some ⟨g,off*sz,none⟩) len QW:=by
   rcases gx with ⟨h0,A',m,afV,H8,hv⟩ | ⟨_,g2,m,afV,A',H8,_,hv,ha⟩
   ·rw [hβ]at H8
    simp only [Value.slice.injEq]at H8
    obtain⟨rfl,_,_⟩:=H8
    exact⟨_,by rw [hv,h0,Nat.zero_mul]⟩
   ·rw [hβ]at H8
    simp only [Value.slice.injEq,Option.some.injEq,Addr.mk.injEq,and_true]at H8
    obtain⟨rfl,_,_⟩:=H8
    rcases ha with ha | ha
    ·omega
    ·exact⟨_,by rw [hv,ha,o8]⟩
  have ars:=jB
  rw [hβ]at jB
  rcases jB.2 with ⟨h',_⟩ | ⟨g',ary,cur,h',XT,hg,QL,hcm,EW,LP⟩
  ·simp at h'
  ·simp only [Value.slice.injEq,Option.some.injEq,Addr.mk.injEq,and_true]at h'
   obtain⟨rfl,_,rfl⟩:=h'
   rw [o8]at EW LP
   have hnl:news.length=l.length*sz:=g1
   have hml:Nat.min l.length len≤len:=Nat.min_le_right _ _
   have hmm:Nat.min l.length len*sz=Nat.min (l.length*sz) (len*sz):=by
    show min l.length len*sz=min (l.length*sz) (len*sz)
    rcases Nat.le_total l.length len with hq | hq
    ·rw [Nat.min_eq_left hq,Nat.min_eq_left (Nat.mul_le_mul_right _ hq)]
    ·rw [Nat.min_eq_right hq,Nat.min_eq_right (Nat.mul_le_mul_right _ hq)]
   have XZ:(news.take (len*sz)).length=Nat.min l.length len*sz:=by
    rw [List.length_take,hnl,hmm];exact Nat.min_comm _ _
   have LU:off*sz+len*sz≤r.els.length*sz:=by rw [←Nat.add_mul];exact Nat.mul_le_mul_right _ hle
   have aD2:r.els.length*sz≤jQ*sz:=Nat.mul_le_mul_right _ QL
   have aD3:Nat.min l.length len*sz≤len*sz:=Nat.mul_le_mul_right _ hml
   have i3:=H7 (P:=E.P) c.w t t2 type e sz g (off*sz) len QW A l.length cap cur r.e (news.take (len*sz)) hu (by simp [hi,hs]) hg XZ
    (fun ad had j v hj=>g5 ad had j v (by rw [List.getElem?_take]at hj;split at hj;exact hj;cases hj)) (fun hA=>by
     have:=g4 hA
     subst this
     have:news = []:=List.eq_nil_of_length_eq_zero (by simpa using hnl)
     simp [this]) (by rw [XZ];omega) (fun v hv=>g3 v (List.mem_of_mem_take hv))
   have UN:∀e∈r.els,e.length=sz:=fun e he=>by rw [BQ e he,o8]
   have aiZ:min l.length len=Nat.min l.length len:=rfl
   have abi:(c.w.setRow g (cur.toList.take (off*sz)++news.take (len*sz)++cur.toList.drop (off*sz+(news.take (len*sz)).length)).toArray).ownsRow w0.heap.size r.e r.size (c.β id) (r.els.take off++l.take len++r.els.drop (off+min l.length len)).length
     (xs.take (off*sz)++news.take (len*sz)++xs.drop (off*sz+(news.take (len*sz)).length)):=by
    have EM:(r.els.take off++l.take len++r.els.drop (off+min l.length len)).length=r.els.length:=by simp;omega
    have hxl:xs.length=r.els.length*sz:=by rw [jB.1,o8]
    rw [hβ,EM]
    refine⟨?_, .inr ⟨g,jQ,_,rfl,XT,setRow_heap _ g cur _ r.e _ hg,QL,hcm,?_,?_⟩⟩
    ·rw [o8,List.length_append,List.length_append,XZ,List.length_take,List.length_drop];omega
    ·rw [o8,List.size_toArray,List.length_append,List.length_append,XZ,List.length_take,List.length_drop,Array.length_toList];omega
    ·rw [o8,←LP]
     have axR:cur.toList.length=jQ*sz:=by simp [EW]
     simp only
     rw [List.take_append,List.take_append]
     have e1:List.take (r.els.length*sz) (cur.toList.take (off*sz))=cur.toList.take (off*sz):=by rw [List.take_take,Nat.min_eq_right (by omega)]
     have e2:List.take (off*sz) (cur.toList.take (r.els.length*sz))=cur.toList.take (off*sz):=by rw [List.take_take,Nat.min_eq_left (by omega)]
     rw [e1,e2]
     have e3:(cur.toList.take (off*sz)).length=off*sz:=by rw [List.length_take];omega
     have e4:List.take (r.els.length*sz-off*sz) (news.take (len*sz))=news.take (len*sz):=List.take_of_length_le (by rw [XZ];omega)
     rw [e3,e4]
     congr 1
     rw [List.length_append,e3,List.drop_take]
   have qZ:c.w.grownBy (c.w.setRow g (cur.toList.take (off*sz)++news.take (len*sz)++cur.toList.drop (off*sz+(news.take (len*sz)).length)).toArray) (c.β id).ownBlock:=by
    rw [hβ]
    exact⟨rfl,rfl,rfl,by simp,fun k _ hk=>setRow_other _ g k _ (fun e=>hk (by simp [Value.ownBlock,e]))⟩
   obtain⟨p8,hA⟩:=hI.dW (r':={ r with els:=r.els.take off++l.take len++r.els.drop (off+min l.length len) }) tL qZ abi (by
    show bC (aK c) (r.els.take off++l.take len++r.els.drop (off+min l.length len)).flatten _
    rw [List.flatten_append,List.flatten_append,(pE UN off).1,(pE hl1 len).1,(pE UN _).2,Nat.add_mul,aiZ,←XZ]
    exact((fM.take _).append (g2.take _)).append (fM.drop _)) (by
    intro y' xS
    simp only [List.mem_append]at xS
    rcases xS with (xS | xS) | xS
    ·exact kH y' (List.mem_of_mem_take xS)
    ·exact g3 y' (List.mem_of_mem_take xS)
    ·exact kH y' (List.mem_of_mem_drop xS)) (by
    intro e' rE
    simp only [List.mem_append]at rE
    rw [o8]
    rcases rE with (rE | rE) | rE
    ·exact UN e' (List.mem_of_mem_take rE)
    ·exact hl1 e' (List.mem_of_mem_take rE)
    ·exact UN e' (List.mem_of_mem_drop rE)) rfl rfl (by simp;omega)
   refine⟨goInt (Nat.min l.length len:Nat),_,?_,?_,?_,hA,p8,?_⟩
   ·rw [hvx,hvy];exact i3
   ·rfl
   ·rfl
   ·refine cK.2 ?_
    rw [←aiZ]
    simp only [goInt]
    congr 1
    omega
 ·exact h.elim
theorem LV{o:Oper}{a:Act}{f:Nat→PV}(hI:Inv w0 S0 c)(hf:∀s,aG c (f s) (a.tmps.getD s undef)){v:PV}{u:Option (Nat × Row)}(h:ys E o.op (aP f) c.rows v u)
  {K:Act→World→Prop} {Q:Exit→Act→World→Prop}
  (hKT:∀v' c',c'.rows=eF c.rows u→c'.used=c.used→(∀p v,aG c p v→aG c' p v)→Inv w0 S0 c'→aG c' v v'→K (a.put o.dst v') c'.w):o.wp E.P a c.w K Q:=by
 have hK:∀v' c',c'.rows=eF c.rows u→c'.used=c.used→tK c c'→Inv w0 S0 c'→aG c' v v'→K (a.put o.dst v') c'.w:=fun v' c' h1 h2 h3=>hKT v' c' h1 h2 (aG.tR h3)
 have hρ:=mQ hf
 have plain:yv E o.op (aP f) c.rows v∧u=none→o.wp E.P a c.w K Q:=by
  rintro⟨hv,rfl⟩
  obtain⟨v',h1,h2⟩:=alf hI hf hv
  unfold Oper.wp
  rw [h1]
  exact hK v' c rfl rfl (tK.refl c) hI h2
 obtain⟨dst,op,type,pos,after,guard⟩:=o
 simp only at h hK hKT plain
 unfold ys at h
 split at h
 ·rename_i x y t t2
  obtain⟨v',c',h1,h2,h3,h4,h5,h6⟩:=XY (t2:=t2) (type:=type) hI (hρ x) (hρ y) h
  unfold Oper.wp
  have:(execOp a.eval { dst:=dst,op:=.call { callee:=.builtin .copy,args:=⟨[x,y]⟩,argTypes:=⟨[t,t2]⟩ },type:=type,pos:=pos,after:=after,guard:=guard }).run E.P c.w = .ok (.value v') c'.w:=by
   simp only [execOp,resolve,invoke,builtin,Sem.run_bind,Sem.run_pure,Result.andThen_ok,List.map_toArray,List.map_cons,List.map_nil,h1]
  rw [this]
  exact hK v' c' h2 h3 h4 h5 h6
 ·rename_i t p x
  obtain⟨rfl,w',h1,h2,h3⟩:=QS hI (hρ p) (hρ x) h
  unfold Oper.wp
  have:(execOp a.eval { dst:=dst,op:=.store t p x,type:=type,pos:=pos,after:=after,guard:=guard }).run E.P c.w = .ok .skip w':=by simp [execOp,h1]
  rw [this]
  exact hK undef { c with w:=w',rows:=eF c.rows u } rfl rfl h3 h2 (by simp [aG,aK])
 ·rename_i t len parts
  obtain⟨h,rfl⟩:=h
  unfold QQ at h
  split at h
  ·rename_i e n bb z hE
   obtain⟨els,h1,h2,h3,h4,h5,h6,rfl⟩:=h
   obtain⟨v',c',g1,g2,g3,g4,g5,g6⟩:=B2 hI hE hρ h1 h2 h3 h4 h5 h6
   unfold Oper.wp
   have:(execOp a.eval { dst:=dst,op:=.buildSlice t len parts,type:=type,pos:=pos,after:=after,guard:=guard }).run E.P c.w = .ok (.value v') c'.w:=by
    simp only [execOp,Sem.run_bind,g1,Result.andThen_ok,Sem.run_pure]
   rw [this]
   exact hK v' c' g2 g3 g5 g4 g6
  ·exact h.elim
 ·rename_i fo args ts
  have eT:bC (aG c) (args.toList.map fun x=>aP f x) (args.map a.eval).toList:=by
   refine bC.cT (by simp) fun k p u hp hu=>?_
   simp at hp hu
   obtain⟨x,hx,rfl⟩:=hp
   obtain⟨y,hy,rfl⟩:=hu
   rw [hx]at hy;cases hy
   exact hρ x
  by_cases hm:vN E (aP f fo)=true
  ·rw [if_pos hm]at h
   unfold LO at h
   split at h
   ·rename_i g id ver i j rest arz axY
    obtain⟨⟨rfl,rfl,hp,hpv⟩,e,n,core,eA,kB,hM,hc,EV,rfl⟩:=h
    rw [axY]at eT
    have X0:=hρ fo
    rw [arz]at X0
    simp only [aG,aK,dE]at X0
    obtain⟨cs,hfv,EW⟩:=X0
    simp only [bP]at EW
    subst EW
    obtain⟨fn,b,h1,h2,h3⟩:=(hM pB 0 (fun j=>if j=pB then some ⟨0,e,n,[core]⟩else none) 1 (Nat.le_refl _) (if_pos rfl) (by decide)).1
    have mN:=hM.frame hp hpv hc EV hI kB eT
    unfold Oper.wp
    have i3:(execOp a.eval { dst:=dst,op:=.call { callee:=.value fo,args:=args,argTypes:=ts },type:=type,pos:=pos,after:=after,guard:=guard }).run E.P c.w = .ok (.enter g (args.map a.eval)) c.w:=by
     simp only [execOp,resolve,hfv,Deferred.ofValue,Sem.run_bind,Sem.run_pure,Result.andThen_ok,invoke]
     simpa using kI h1 h2 h3 (args.map a.eval) c.w
    rw [i3]
    rw [Array.toArray_toList]at mN
    refine mN.mono ?_
    rintro x w' ⟨v',c',rfl,rfl,k1,k2,k3,k4,k5⟩
    exact hKT v' c' k1 k2 k3 k4 k5
   ·exact h.elim
  rw [if_neg hm]at h
  obtain⟨rfl,hc,uL⟩:=h
  have EV:yX E (aP f fo) ((args.toList.map fun x=>aP f x).map (pz c.rows)) v:=by rw [List.map_map];exact hc
  obtain⟨g,cs,h1,h2,h3⟩:=yY hI (ids:=[]) (by simp) (hρ fo) eT (by
   intro p hp id gD
   simp at hp
   obtain⟨x,hx,rfl⟩:=hp
   have:id∈args.toList.flatMap fun x=>dV (aP f x):=by simp only [List.mem_flatMap];exact⟨x,by simpa using hx,gD⟩
   rw [uL]at this;exact this) EV (K:=fun v' w'=>K (a.put dst v') w') (fun v' c' q1 q2 q3 q4 q5=>hK v' c' (by rw [q1];funext j;simp [FT,eF]) q2 q3 q4 q5)
  unfold Oper.wp
  have i3:(execOp a.eval { dst:=dst,op:=.call { callee:=.value fo,args:=args,argTypes:=ts },type:=type,pos:=pos,after:=after,guard:=guard }).run E.P c.w = .ok (.enter g (args.map a.eval++cs)) c.w:=by
   simp only [execOp,resolve,h1,Deferred.ofValue,Sem.run_bind,Sem.run_pure,Result.andThen_ok,invoke]
   simp only [Array.toArray_toList]at h2
   simpa only [Array.empty_append]using h2
  rw [i3]
  simp only [Array.toArray_toList]at h3
  exact h3.mono fun e w' ⟨v',he,hk⟩=>by subst he;exact hk
 ·exact plain h
end
def room:Nat:=140737488355328
def eU(rows:Rows)(ids:List Nat):Prop:=∀id∈ids,∀r,rows id=some r → ∀e∈r.els,∀p∈e,bI p=true
def H9(K:PS→Prop)(σ:PS)(d:Option Tmp)(v:PV)(id:Nat)(e:TypeId)(n:Nat)(els:List (List PV)):Prop:=
 K ⟨put σ.f d v,dW σ.rows id (some ⟨σ.clock,e,n,els⟩),σ.clock+1⟩
def IA(E:Env)(o:Oper)(t:TypeId)(x y:PV)(K:PS→Prop)(σ:PS):Prop:=
 match E.ty t with
 | .slice e n b _ =>
  ∃l,rO σ.rows y l∧(∀e∈l,e.length=n) ∧
  match x with
  | .nil=>l.length≤room∧l.length*b≤room∧H9 K σ o.dst (.own (o.dst.getD 0) σ.clock 0 l.length) (o.dst.getD 0) e n l
  | .own id ver off len=>∃r,σ.rows id=some r∧r.ver=ver∧off=0∧len≤r.els.length∧r.e=e∧r.size=n∧len+l.length≤room∧(len+l.length)*b≤room ∧
    H9 K σ o.dst (.own id σ.clock 0 (len+l.length)) id e n (r.els.take len++l)
  | .iR l0=>(∀e∈l0,e.length=n)∧(∀e∈l,∀p∈e,bI p=true)∧l0.length+l.length≤room∧(l0.length+l.length)*b≤room∧K (σ.put o.dst (.sl (l0++l)))
  | _=>False
 | _=>False
def FW(K:Nat→(Nat→PV)→Rows→Prop)(ver:Nat)(f:Nat→PV)(rows:Rows)(d:Option Tmp)(v:PV)(id:Nat)(e:TypeId)(n:Nat)(els:List (List PV)):Prop:=
 K 1 (put f d v) (dW rows id (some ⟨ver,e,n,els⟩))
def pF(E:Env)(ver:Nat)(o:Oper)(t:TypeId)(x y:PV)(K:Nat→(Nat→PV)→Rows→Prop)(f:Nat→PV)(rows:Rows):Prop:=
 match E.ty t with
 | .slice e n b _ =>
  ∃l,rO rows y l∧(∀e∈l,e.length=n) ∧
  match x with
  | .nil=>l.length≤room∧l.length*b≤room∧FW K ver f rows o.dst (.own (o.dst.getD 0) ver 0 l.length) (o.dst.getD 0) e n l
  | .own id arB off len=>∃r,rows id=some r∧r.ver=arB∧off=0∧len≤r.els.length∧r.e=e∧r.size=n∧len+l.length≤room∧(len+l.length)*b≤room ∧
    FW K ver f rows o.dst (.own id ver 0 (len+l.length)) id e n (r.els.take len++l)
  | .iR l0=>(∀e∈l0,e.length=n)∧(∀e∈l,∀p∈e,bI p=true)∧l0.length+l.length≤room∧(l0.length+l.length)*b≤room∧K 0 (put f o.dst (.sl (l0++l))) rows
  | _=>False
 | _=>False
def slT:TI→Bool
 | .slice .. => true
 | _=>false
def fD(E:Env)(o:Oper)(K:PS→Prop)(σ:PS):Prop:=
 match o.op with
 | .alloc t=>(E.ty t).known=true∧H9 K σ o.dst (.ptr (o.dst.getD 0) σ.clock 0 0) (o.dst.getD 0) t (E.ty t).size [(E.ty t).zero]
 | .box t x=>(E.ty t).known=true ∧ ∃l,cE (aP σ.f x)=some l∧(∀q∈l,iT σ.rows q)∧l.length=(E.ty t).size∧H9 K σ o.dst (.ptr (o.dst.getD 0) σ.clock 0 0) (o.dst.getD 0) t (E.ty t).size [l]
 | .makeSlice t l c =>
  match E.ty t,aP σ.f l,aP σ.f c with
  | .slice e n b z, .int _ x, .int _ y=>0≤x∧x≤y∧y.toNat≤room∧y.toNat*b≤room∧H9 K σ o.dst (.own (o.dst.getD 0) σ.clock 0 x.toNat) (o.dst.getD 0) e n (List.replicate x.toNat z)
  | _,_,_=>False
 | .call { callee:=.builtin .append,args:=⟨[x,y]⟩,argTypes:=⟨[t,t2]⟩ }=>(t2=t∨slT (E.ty t2)=true)∧IA E o t (aP σ.f x) (aP σ.f y) K σ
 | .call { callee:=.value f,args:=args,argTypes:=_ }=>if alj E (aP σ.f f)=true then QR E (aP σ.f f) (args.toList.map (aP σ.f)) σ.rows σ.clock (fun v rows clk=>K ⟨put σ.f o.dst v,rows,clk⟩)
   else ∃v,yX E (aP σ.f f) (args.toList.map fun x=>pz σ.rows (aP σ.f x)) v∧eU σ.rows (args.toList.flatMap fun x=>dV (aP σ.f x)) ∧
   K ⟨put σ.f o.dst v,FT σ.rows (args.toList.flatMap fun x=>dV (aP σ.f x)),σ.clock⟩
 | .makeFunc (.func f) ⟨[]⟩ caps=>(caps.toList.map fun x=>pz σ.rows (aP σ.f x)).all dA=true∧eU σ.rows (caps.toList.flatMap fun x=>dV (aP σ.f x)) ∧
   K ⟨put σ.f o.dst (.fn f (caps.toList.map fun x=>pz σ.rows (aP σ.f x))),FT σ.rows (caps.toList.flatMap fun x=>dV (aP σ.f x)),σ.clock⟩
 | _=>∃v u,ys E o.op (aP σ.f) σ.rows v u∧K ⟨put σ.f o.dst v,eF σ.rows u,σ.clock⟩
def oR(E:Env)(ver:Nat)(o:Oper)(K:Nat→(Nat→PV)→Rows→Prop)(f:Nat→PV)(rows:Rows):Prop:=
 match o.op with
 | .alloc t=>(E.ty t).known=true∧FW K ver f rows o.dst (.ptr (o.dst.getD 0) ver 0 0) (o.dst.getD 0) t (E.ty t).size [(E.ty t).zero]
 | .box t x=>(E.ty t).known=true ∧ ∃l,cE (aP f x)=some l∧(∀q∈l,iT rows q)∧l.length=(E.ty t).size∧FW K ver f rows o.dst (.ptr (o.dst.getD 0) ver 0 0) (o.dst.getD 0) t (E.ty t).size [l]
 | .makeSlice t l c =>
  match E.ty t,aP f l,aP f c with
  | .slice e n b z, .int _ x, .int _ y=>0≤x∧x≤y∧y.toNat≤room∧y.toNat*b≤room∧FW K ver f rows o.dst (.own (o.dst.getD 0) ver 0 x.toNat) (o.dst.getD 0) e n (List.replicate x.toNat z)
  | _,_,_=>False
 | .call { callee:=.builtin .append,args:=⟨[x,y]⟩,argTypes:=⟨[t,t2]⟩ }=>(t2=t∨slT (E.ty t2)=true)∧pF E ver o t (aP f x) (aP f y) K f rows
 | _=>False
theorem vR{n:Nat}(h:n≤room):n≤maxLen:=by unfold room at h;simp only [maxLen];omega
theorem lG{α:Type}{z:List α}:∀ {x k:Nat} {a:α},(List.replicate x z).flatten[k]? = some a→z[k%z.length]? = some a
 | 0,k,a,h=>by simp at h
 | x+1,k,a,h=>by
  rw [List.replicate_succ,List.flatten_cons]at h
  rcases Nat.lt_or_ge k z.length with hk | hk
  ·rw [List.getElem?_append_left hk]at h
   rw [Nat.mod_eq_of_lt hk];exact h
  ·rw [List.getElem?_append_right hk]at h
   have:=lG h
   rw [←Nat.mod_eq_sub_mod hk]at this;exact this
section
variable {E:Env} {c:Cx} {w0:World} {S0:dZ}
theorem xT(hI:Inv w0 S0 c){ver:Nat}(iE:¬c.used ver)(id:Nat)(e:TypeId)(size n cap:Nat)(els:List (List PV))(cells:Array Value)(hn:els.length=n)(QL:n≤cap)(hcm:cap≤maxLen)(o8:cells.size=cap*size)
  (fM:bC (aK c) els.flatten (cells.toList.take (n*size))) (kH:∀u∈cells.toList,u.oneCell'=true) (hlen:∀e∈els,e.length=size) (lK:0<size) :
  Inv w0 S0 { c with w:=c.w.alloc (.cells cells e),β:=dW c.β id (.slice (some ⟨c.w.heap.size,0,none⟩) n cap),rows:=dW c.rows id (some ⟨ver,e,size,els⟩),used:=fun v=>v=ver∨c.used v } ∧
  tK c { c with w:=c.w.alloc (.cells cells e),β:=dW c.β id (.slice (some ⟨c.w.heap.size,0,none⟩) n cap),rows:=dW c.rows id (some ⟨ver,e,size,els⟩),used:=fun v=>v=ver∨c.used v }:=by
 refine hI.set (ob:=none) (r':=⟨ver,e,size,els⟩) (xs:=cells.toList.take (n*size)) (World.grownBy_alloc c.w _ none) (by simp) ?_ fM (fun x hx=>kH x (List.mem_of_mem_take hx)) hlen lK ?_ iE
 ·have hle:n*size≤cap*size:=Nat.mul_le_mul_right _ QL
  refine⟨by simp [hn];omega, .inr ⟨c.w.heap.size,cap,cells,by simp [hn],hI.below.size,heap_alloc_new c.w _,by simp [hn];exact QL,hcm,o8,by simp [hn]⟩⟩
 ·intro g hg
  simp [Value.ownBlock]at hg
  exact .inr (by omega)
theorem abm{t:TypeId}{n:Nat}{z:List PV}(h:mJ E.P t n z):∃i v,E.P.info? t=some i∧i.zero=some v∧i.size=n∧bC (aK c) z v.cells.toList∧v.cells.size=n ∧ ∀u∈v.cells.toList,u.oneCell'=true:=by
 obtain⟨i,v,h1,h2,h3,h4,h5⟩:=h.ok
 have hl:v.cells.size=n:=by rw [←h.len,←h4];simp
 refine⟨i,v,h1,h2,h3,?_,hl,fun u hu=>(Array.all_eq_true_iff_forall_mem.1 h5) u (by simpa using hu)⟩
 rw [←h4]
 refine bC.cT (by simp) fun k a b ha hb=>?_
 simp at ha
 obtain⟨u,hu,rfl⟩:=ha
 have:v.cells.toList[k]? = some u:=by simpa using hu
 rw [this]at hb;cases hb
 exact lL _
theorem mC{c':Cx}{id ver n:Nat}{r:Row}(hr:c'.rows id=some r)(hn:r.els.length=n)(hc:c'.used ver){A:Option Addr}{cap:Nat}(hβ:c'.β id = .slice A n cap):aG c' (.own id ver 0 n) (.slice A n cap):=by
 simp only [aG,aK]
 refine⟨hc,fun r' kF _=>?_⟩
 rw [hr]at kF;cases kF
 exact⟨by omega, .inl ⟨by first | rfl | trivial,A,n,cap,hβ,rfl⟩⟩
theorem abn{c':Cx}{id ver:Nat}(hc:c'.used ver){g n cap:Nat}(hβ:c'.β id = .slice (some ⟨g,0,none⟩) n cap):aG c' (.ptr id ver 0 0) (.pointer (some ⟨g,0,none⟩)):=by
 simp only [aG,aK]
 exact⟨hc,fun r' _ _=>⟨g,n,cap,hβ,by simp⟩⟩
theorem tZ{z:Array Value}{N k:Nat}(hk:k<N)(hz:0<z.size):(madeCells z N).toList[k]? = z.toList[k%z.size]? := by
 have hm:k%z.size<z.size:=Nat.mod_lt _ hz
 simp [madeCells,hk,hm]
variable {n:Nat} {G:Gs}
theorem rQ{U:Nat→Prop}{ver:Nat}{f:Nat→PV}{rows:Rows}{a:Act}(hr:c.rows=rows)(gB:∀v,c.used v→U v)(hf:∀s,aG c (f s) (a.tmps.getD s undef))(hG:∀p∈G,aG c p.1 p.2)(hn:a.tmps.size=n)(fK:a.defers = [])
  {K:(Nat→PV)→Rows→Prop} {d:Option Tmp} {v:PV} {id:Nat} {e:TypeId} {sz:Nat} {els:List (List PV)} (h:K (put f d v) (dW rows id (some ⟨ver,e,sz,els⟩))) {v':Value} {w':World} {b':Value}
  (hI:Inv w0 S0 { c with w:=w',β:=dW c.β id b',rows:=dW c.rows id (some ⟨ver,e,sz,els⟩),used:=fun v=>v=ver∨c.used v })
  (hA:tK c { c with w:=w',β:=dW c.β id b',rows:=dW c.rows id (some ⟨ver,e,sz,els⟩),used:=fun v=>v=ver∨c.used v })
  (hv:aG { c with w:=w',β:=dW c.β id b',rows:=dW c.rows id (some ⟨ver,e,sz,els⟩),used:=fun v=>v=ver∨c.used v } v v') (hd:∀t,d=some t→t<n) :
  ∃f' rows',K f' rows'∧pD w0 S0 n G (fun v=>v=ver∨U v) f' rows' (a.put d v') w':=by
 refine⟨_,_,h,?_⟩
 have:=rP (U:=fun v=>v=ver∨U v) (f':=put f d v) (rows:=dW rows id (some ⟨ver,e,sz,els⟩)) hf hG hn fK hA hI hv hd rfl (by simp [hr]) (fun v hv=>hv.imp (fun h=>h) (gB v))
 exact this
theorem QX(hI:Inv w0 S0 c){w':World}(hg:c.w.grownBy w' none){e:TypeId}{sz:Nat}{v':Value}{els:List (List PV)}{xs:List Value}(jB:w'.ownsRow c.w.heap.size e sz v' els.length xs)
  (fM:bC (dE c.S c.w) els.flatten xs) (kH:∀u∈xs,u.oneCell'=true) (hlen:∀e∈els,e.length=sz) :
  ∃c',c'.w=w'∧c'.rows=c.rows∧c'.used=c.used∧Inv w0 S0 c'∧tK c c'∧aG c' (.sl els) v':=by
 have hb:Below c.w.heap.size c.w w':=⟨hg.os,hg.tape,hg.output,hg.size,fun k hk=>hg.block k hk (by simp)⟩
 obtain⟨p8,hA⟩:=hI.grow (S':=fun b o=>c.S b o∨(c.w.heap.size≤b∧b<w'.heap.size)) hb (fun _ _ h => .inl h) (fun _ _ h=>h)
 refine⟨{ c with S:=fun b o=>c.S b o∨(c.w.heap.size≤b∧b<w'.heap.size),w:=w' },rfl,rfl,rfl,p8,hA,?_⟩
 simp only [aG,aK,dE]
 rcases jB.2 with ⟨rfl,h0⟩ | ⟨g,cap,cur,rfl,XT,hh,QL,hcm,EW,LP⟩
 ·exact⟨none,0,by rw [h0],by omega,by simp [maxLen], .inl (List.eq_nil_of_length_eq_zero h0)⟩
 ·refine⟨_,cap,rfl,QL,hcm, .inr ⟨g,0,rfl,o9 hlen fun k el hk=>jY fun j p hj=>?_⟩⟩
  have hf:=jZ hlen hk hj
  obtain⟨u,hu,hr⟩:=fM.get hf
  have dK:g<w'.heap.size:=(Array.getElem?_eq_some_iff.1 hh).1
  have FR:=jB.cells (g:=g) rfl (k*sz+j) u hu
  rw [jA]at FR
  refine⟨u,?_, .inr ⟨XT,dK⟩,kH u (List.mem_of_getElem? hu),dE.mono hA.S hA.w _ _ hr⟩
  rw [show 0+k*sz+j=0+(k*sz+j)by omega];exact FR
theorem abo{w:World}{base e sz n k:Nat}{A:Option Addr}{cap:Nat}{xs:List Value}(h:w.ownsRow base e sz (.slice A n cap) n xs)(hk:k≤n):w.ownsRow base e sz (.slice A k cap) k (xs.take (k*sz)):=by
 have hle:k*sz≤n*sz:=Nat.mul_le_mul_right _ hk
 refine⟨by rw [List.length_take,h.1];omega,?_⟩
 rcases h.2 with ⟨h1,h2⟩ | ⟨g,jQ,cur,h1,h2,h3,h4,h5,h6,h7⟩
 ·simp only [Value.slice.injEq]at h1
  obtain⟨rfl,_,rfl⟩:=h1
  have xU:k=0:=by omega
  subst xU
  exact .inl ⟨rfl,rfl⟩
 ·simp only [Value.slice.injEq]at h1
  obtain⟨rfl,_,rfl⟩:=h1
  refine .inr ⟨g,cap,cur,rfl,h2,h3,by omega,h5,h6,?_⟩
  rw [←h7,List.take_take,Nat.min_eq_left hle]
theorem X1{P:Program}{w:World}{t t2 ty:TypeId}{e e2:TypeId}{x y:Value}(hu:P.underlying t=some (.slice e))(hu2:P.underlying t2=some (.slice e2)) :
  (Builtin.append_ #[t,t2] ty #[x,y]).run P w=(Builtin.append_ #[t,t] ty #[x,y]).run P w:=by
 unfold Builtin.append_
 simp only [List.getElem?_toArray,List.getElem?_cons_zero,List.getElem?_cons_succ,Sem.run_bind,run_underlying hu,Result.andThen_ok]
 cases x<;>simp [run_underlying hu,run_underlying hu2]
theorem afW{E:Env}{t2:TypeId}(h:slT (E.ty t2)=true):∃e,E.P.underlying t2=some (.slice e):=by
 cases hE:E.ty t2 with
 | slice e n b z=>exact⟨e,(fX hE).1⟩
 | _=>rw [hE]at h;cases h
theorem B3{U:Nat→Prop}{ver:Nat}(iE:¬U ver){o:Oper}{a:Act}{f:Nat→PV}{rows:Rows}{x y:Operand}{t t2:TypeId}(hop:o.op = .call { callee:=.builtin .append,args:=⟨[x,y]⟩,argTypes:=⟨[t,t2]⟩ })(ht2:t2=t∨slT (E.ty t2)=true)
  (hI:Inv w0 S0 c) (hr:c.rows=rows) (gB:∀v,c.used v→U v) (hf:∀s,aG c (f s) (a.tmps.getD s undef)) (hG:∀p∈G,aG c p.1 p.2) (hn:a.tmps.size=n) (fK:a.defers = [])
  (hd:∀t,o.dst=some t→t<n) {K:Nat→(Nat→PV)→Rows→Prop} (h:pF E ver o t (aP f x) (aP f y) K f rows) {K':Act→World→Prop} {Q:Exit→Act→World→Prop} (hK:∀i f' rows' a' w',K i f' rows'→pD w0 S0 n G (fun v=>(i=1∧v=ver)∨U v) f' rows' a' w'→K' a' w'):o.wp E.P a c.w K' Q:=by
 have hρ:=mQ hf
 have run:∀ {v':Value} {w':World},(Builtin.append_ #[t,t] o.type #[a.eval x,a.eval y]).run E.P c.w = .ok v' w'→K' (a.put o.dst v') w'→o.wp E.P a c.w K' Q:=by
  intro v' w' h1 h2
  unfold Oper.wp
  have AO:(Builtin.append_ #[t,t2] o.type #[a.eval x,a.eval y]).run E.P c.w = .ok v' w':=by
   rcases ht2 with rfl | ht2
   ·exact h1
   ·obtain⟨e2,hu2⟩:=afW ht2
    have hsl:∃e,E.P.underlying t=some (.slice e):=by
     unfold pF at h
     split at h
     ·rename_i e n b z hE;exact⟨e,(fX hE).1⟩
     ·exact h.elim
    obtain⟨e,hu⟩:=hsl
    rw [X1 hu hu2];exact h1
  have:(execOp a.eval o).run E.P c.w = .ok (.value v') w':=by
   simp only [execOp,hop,resolve,invoke,builtin,Sem.run_bind,Sem.run_pure,Result.andThen_ok,List.map_toArray,List.map_cons,List.map_nil,AO]
  rw [this]
  exact h2
 unfold pF at h
 split at h
 ·rename_i e sz b z hE
  obtain⟨l,hl,hlen,h⟩:=h
  obtain⟨hu,lK,H6,i,zv,hi,hz,hs,hby,QO,_⟩:=fX hE
  have EN:zv.cells.size=sz:=by rw [←H6,←QO];simp
  rw [←hr]at hl
  obtain⟨A,cap,news,hvy,g1,g2,g3,g4,g5⟩:=uM hI (hρ y) hl hlen
  have main:∀(vx:Value) (k:Nat) (xs:List Value),c.w.ownsRow w0.heap.size e sz vx k xs→a.eval x=vx→k+l.length≤room→(k+l.length)*b≤room →
    ∃v' w',(Builtin.append_ #[t,t] o.type #[a.eval x,a.eval y]).run E.P c.w = .ok v' w'∧w'.ownsRow w0.heap.size e sz v' (k+l.length) (xs++news)∧c.w.grownBy w' vx.ownBlock∧(v'.ownBlock=vx.ownBlock∨v'.ownBlock=some c.w.heap.size):=by
   intro vx k xs jB hvx QY B4
   rw [hvx,hvy]
   cases A with
   | some ad =>
    obtain⟨v',w',q1,q2,q3,_,q5⟩:=run_append_own_at (P:=E.P) c.w w0.heap.size t o.type e i zv sz b hu hi hz hs hby EN lK vx k xs jB ad l.length cap news g1 (g5 ad rfl) g3 (vR QY) (by simpa [room]using B4) hI.below.size
    exact⟨v',w',q1,q2,q3,q5⟩
   | none =>
    have LQ:=g4 rfl
    subst LQ
    have hn0:news = []:=List.eq_nil_of_length_eq_zero (by simpa using g1)
    subst hn0
    refine⟨vx,c.w,?_,by simpa using jB,⟨rfl,rfl,rfl,Nat.le_refl _,fun _ _ _=>rfl⟩, .inl rfl⟩
    rcases jB.2 with ⟨rfl,rfl⟩ | ⟨g,jQ,cur,rfl,_,_,QL,_⟩
    ·simp [Builtin.append_,run_underlying hu,Go.sizeOf,typeInfo,hi,Builtin.lenOf,Builtin.firstCells]
    ·simp [Builtin.append_,run_underlying hu,Go.sizeOf,typeInfo,hi,Builtin.lenOf,Builtin.firstCells,QL,storeCells]
  split at h
  ·-- arC nil
   rename_i heq
   obtain⟨QY,B4,h⟩:=h
   have hx:=hρ x
   rw [heq]at hx
   simp only [aG,aK,dE]at hx
   obtain⟨v',w',q1,q2,q3,q4⟩:=main (.slice none 0 0) 0 [] (World.ownsRow_nil _ _ _ _) hx (by simpa using QY) (by simpa using B4)
   simp only [Nat.zero_add,List.nil_append]at q2
   obtain⟨p8,hA⟩:=hI.set (ob:=none) (id:=o.dst.getD 0) (r':=⟨ver,e,sz,l⟩) (xs:=news) q3 (by simp) q2 g2 g3 hlen lK (by
    intro g hg
    rcases q4 with q4 | q4
    ·rw [q4]at hg;simp [Value.ownBlock]at hg
    ·rw [q4]at hg;cases hg;exact .inr (Nat.le_refl _)) (fun hu=>iE (gB _ hu))
   have hv:aG { c with w:=w',β:=dW c.β (o.dst.getD 0) v',rows:=dW c.rows (o.dst.getD 0) (some ⟨ver,e,sz,l⟩),used:=fun v=>v=ver∨c.used v } (.own (o.dst.getD 0) ver 0 l.length) v':=by
    have abp:∃A' jQ,v' = .slice A' l.length jQ:=by
     rcases q2.2 with ⟨rfl,h0⟩ | ⟨g,jQ,cur,rfl,_⟩
     ·exact⟨none,0,by rw [h0]⟩
     ·exact⟨_,jQ,rfl⟩
    obtain⟨A',jQ,rfl⟩:=abp
    exact mC (r:=⟨ver,e,sz,l⟩) (by simp [dW]) rfl (Or.inl rfl) (by simp [dW])
   obtain⟨f',rows',hk,B5⟩:=rQ (K:=K 1) hr gB hf hG hn fK h p8 hA hv hd
   exact run q1 (hK 1 f' rows' _ _ hk (B5.mono fun v hv=>hv.imp (fun h=>⟨rfl,h⟩) fun h=>h))
  ·-- arC a row of its own
   rename_i id arB off len heq
   obtain⟨r,tL,jR,rfl,hle,he,o8,QY,B4,h⟩:=h
   rw [←hr]at tL
   have hx:=hρ x
   rw [heq]at hx
   simp only [aG,aK]at hx
   obtain⟨⟨xs,jB,fM,kH⟩,vQ,hnS,_⟩:=hI.row id r tL
   obtain⟨A0,m0,arD,hβ,hxv⟩:∃A' m jQ,c.β id = .slice A' m jQ∧a.eval x = .slice A' len jQ:=by
    rcases(hx.2 r tL jR).2 with ⟨_,h⟩ | ⟨h0,_⟩
    ·exact h
    ·omega
   have hm:m0=r.els.length:=by
    rw [hβ]at jB
    rcases jB.2 with ⟨h',h0⟩ | ⟨g,ary,cur,h',_⟩
    ·simp at h';omega
    ·simp at h';exact h'.2.1
   subst hm
   have hob:(c.β id).ownBlock=(Value.slice A0 len arD).ownBlock:=by rw [hβ];cases A0<;>rfl
   have hbg:=jB.lt
   rw [he,o8,hβ]at jB
   obtain⟨v',w',q1,q2,q3,q4⟩:=main (.slice A0 len arD) len (xs.take (len*sz)) (abo jB hle) hxv QY B4
   rw [←hob]at q3 q4
   have abq:∀e∈r.els,e.length=sz:=fun e rE=>by rw [vQ e rE,o8]
   have EM:(r.els.take len++l).length=len+l.length:=by rw [List.length_append,List.length_take,Nat.min_eq_left hle]
   obtain⟨p8,hA⟩:=hI.set (ob:=(c.β id).ownBlock) (id:=id) (r':=⟨ver,e,sz,r.els.take len++l⟩) (xs:=xs.take (len*sz)++news) q3 (by
    intro g hg
    refine⟨(hbg g hg).1,fun o=>hnS g o hg,fun i9 r' kF mZ hb=>mZ (hI.apart i9 id r' r g kF tL hb hg)⟩) (by simpa only [EM]using q2) (by
     show bC (aK c) (r.els.take len++l).flatten _
     rw [List.flatten_append,(pE abq len).1];exact(fM.take _).append g2) (by
     intro u hu
     rcases List.mem_append.1 hu with hu | hu
     ·exact kH u (List.mem_of_mem_take hu)
     ·exact g3 u hu) (by
     intro e' rE
     rcases List.mem_append.1 rE with rE | rE
     ·exact abq e' (List.mem_of_mem_take rE)
     ·exact hlen e' rE) lK (by
     intro g hg
     rcases q4 with q4 | q4
     ·exact .inl (by rw [←q4];exact hg)
     ·rw [q4]at hg;cases hg;exact .inr (Nat.le_refl _)) (fun hu=>iE (gB _ hu))
   have hv:aG { c with w:=w',β:=dW c.β id v',rows:=dW c.rows id (some ⟨ver,e,sz,r.els.take len++l⟩),used:=fun v=>v=ver∨c.used v } (.own id ver 0 (len+l.length)) v':=by
    have abp:∃A' jQ,v' = .slice A' (len+l.length) jQ:=by
     rcases q2.2 with ⟨rfl,h0⟩ | ⟨g,jQ,cur,rfl,_⟩
     ·exact⟨none,0,by rw [h0]⟩
     ·exact⟨_,jQ,rfl⟩
    obtain⟨A',jQ,rfl⟩:=abp
    exact mC (r:=⟨ver,e,sz,r.els.take len++l⟩) (by simp [dW]) EM (Or.inl rfl) (by simp [dW])
   obtain⟨f',rows',hk,B5⟩:=rQ (K:=K 1) hr gB hf hG hn fK h p8 hA hv hd
   exact run q1 (hK 1 f' rows' _ _ hk (B5.mono fun v hv=>hv.imp (fun h=>⟨rfl,h⟩) fun h=>h))
  ·-- arC cells that stay,its capacity its length
   rename_i l0 heq
   obtain⟨vQ,hpl,QY,B4,h⟩:=h
   have hx:=hρ x
   rw [heq]at hx
   simp only [aG,aK,dE]at hx
   obtain⟨A0,hA0,PW,abr⟩:=hx
   have fin:∀ {v':Value} {w':World},(Builtin.append_ #[t,t] o.type #[a.eval x,a.eval y]).run E.P c.w = .ok v' w' →
     (∃c',c'.w=w'∧c'.rows=c.rows∧c'.used=c.used∧Inv w0 S0 c'∧tK c c'∧aG c' (.sl (l0++l)) v')→o.wp E.P a c.w K' Q:=by
    rintro v' w' i3 ⟨c',rfl,h2,h3,h4,h5,h6⟩
    refine run i3 (hK 0 _ _ _ _ h ?_)
    exact rP hf hG hn fK h5 h4 h6 hd rfl (by rw [h2,hr]) (by rw [h3];exact fun v hv => .inr (gB v hv))
   have afX:bC (dE c.S c.w) l.flatten news:=by
    refine bC.cT g2.length fun k p u hp hu=>?_
    obtain⟨u',q1,q2⟩:=g2.get hp
    rw [hu]at q1;cases q1
    have pG:=List.mem_of_getElem? hp
    rw [List.mem_flatten]at pG
    obtain⟨e',rE,xM⟩:=pG
    exact q2.rep (hpl e' rE p xM)
   by_cases LQ:l = []
   ·subst LQ
    refine fin (v':=.slice A0 l0.length l0.length) (w':=c.w) ?_ ⟨c,rfl,rfl,rfl,hI,tK.refl c,?_⟩
    ·have hn0:news = []:=List.eq_nil_of_length_eq_zero (by simpa using g1)
     subst hn0
     have hfc:(Builtin.firstCells i.size 0 (.slice A 0 cap)).run E.P c.w = .ok #[] c.w:=by
      cases A with
      | none=>simp [Builtin.firstCells]
      | some ad=>simp [Builtin.firstCells,loadCells,loadCellsFrom]
     rw [hA0,hvy]
     cases A0 with
     | none=>simp [Builtin.append_,run_underlying hu,Go.sizeOf,typeInfo,hi,Builtin.lenOf,hfc]
     | some ad0=>simp [Builtin.append_,run_underlying hu,Go.sizeOf,typeInfo,hi,Builtin.lenOf,hfc,storeCells]
    ·simp only [aG,aK,dE,List.append_nil]
     exact⟨A0,_,rfl,Nat.le_refl _,PW,abr⟩
   ·have arx:0<l.length:=List.length_pos_iff.2 LQ
    obtain⟨ad,rfl⟩:∃ad,A=some ad:=by
     cases A with
     | none=>exact absurd (g4 rfl) LQ
     | some ad=>exact⟨ad,rfl⟩
    obtain⟨A2,afV,afY,hvx,o1,o2,o3,o4,o5⟩:=uM (y:=.iR l0) (vy:=a.eval x) (l:=l0) hI (by simp only [aG,aK,dE];exact⟨A0,hA0,PW,abr⟩) rfl vQ
    rw [hA0]at hvx
    simp only [Value.slice.injEq]at hvx
    obtain⟨rfl,_,rfl⟩:=hvx
    have afZ:bC (dE c.S c.w) l0.flatten afY:=by
     refine bC.cT o2.length fun k p u hp hu=>?_
     have pG:=List.mem_of_getElem? hp
     rcases abr with rfl | ⟨g,oo,rfl,hre⟩
     ·simp at hp
     ·have ax0:l0.flatten.length=l0.length*sz:=by rw [o2.length,o1]
      have hk:k<l0.length*sz:=by rw [←ax0];exact(List.getElem?_eq_some_iff.1 hp).1
      have hq:k/sz<l0.length:=(Nat.div_lt_iff_lt_mul lK).2 hk
      have mY:=vQ l0[k/sz] (List.getElem_mem hq)
      have hj:k%sz<l0[k/sz].length:=by rw [mY];exact Nat.mod_lt _ lK
      have UM:k/sz*sz+k%sz=k:=by rw [Nat.mul_comm];exact Nat.div_add_mod k sz
      have hfg:=jZ vQ (List.getElem?_eq_getElem hq) (List.getElem?_eq_getElem hj)
      rw [UM,hp]at hfg
      cases hfg
      obtain⟨u',r1,_,_,r4⟩:=iS (jP hre vQ (List.getElem?_eq_getElem hq)) (List.getElem?_eq_getElem hj)
      have:=o5 _ rfl k u hu
      rw [jA]at this
      rw [show oo+k/sz*sz+k%sz=oo+k by omega,this]at r1
      cases r1;exact r4
    have grow:∃v' w',(Builtin.append_ #[t,t] o.type #[a.eval x,a.eval y]).run E.P c.w = .ok v' w'∧w'.ownsRow c.w.heap.size e sz v' (l0.length+l.length) (afY++news)∧c.w.grownBy w' none:=by
     rw [hA0,hvy]
     cases A0 with
     | some ad0=>exact run_append_arg_grows (P:=E.P) c.w t o.type e i zv sz b hu hi hz hs hby EN lK ad0 l0.length l0.length afY o1 (o5 ad0 rfl) ad l.length cap news g1 (g5 ad rfl) (by omega) (vR QY) (by simpa [room]using B4)
     | none =>
      have ax1:=o4 rfl
      subst ax1
      have ho0:afY = []:=List.eq_nil_of_length_eq_zero (by simpa using o1)
      subst ho0
      obtain⟨v',w',q1,q2,q3,_,q5⟩:=run_append_own_at (P:=E.P) c.w c.w.heap.size t o.type e i zv sz b hu hi hz hs hby EN lK (.slice none 0 0) 0 [] (World.ownsRow_nil _ _ _ _) ad l.length cap news g1 (g5 ad rfl) g3 (by simpa using vR QY) (by simpa [room]using B4) (Nat.le_refl _)
      exact⟨v',w',q1,by simpa using q2,q3⟩
    obtain⟨v',w',q1,q2,q3⟩:=grow
    refine fin q1 (QX hI q3 (els:=l0++l) (by simpa using q2) (by rw [List.flatten_append];exact afZ.append afX) (fun u hu=>?_) (fun e' rE=>?_))
    ·rcases List.mem_append.1 hu with hu | hu
     ·exact o3 u hu
     ·exact g3 u hu
    ·rcases List.mem_append.1 rE with rE | rE
     ·exact vQ e' rE
     ·exact hlen e' rE
  ·exact h.elim
 ·exact h.elim
end
section
variable {E:Env} {w0:World} {S0:dZ} {n:Nat} {G:Gs}
theorem vS{U:Nat→Prop}{ver:Nat}(iE:¬U ver){o:Oper}{a:Act}{w:World}{f:Nat→PV}{rows:Rows}{K:Nat→(Nat→PV)→Rows→Prop}(h:oR E ver o K f rows)(hR:pD w0 S0 n G U f rows a w)(hd:∀t,o.dst=some t→t<n)
  {K':Act→World→Prop} {Q:Exit→Act→World→Prop} (hK:∀i f' rows' a' w',K i f' rows'→pD w0 S0 n G (fun v=>(i=1∧v=ver)∨U v) f' rows' a' w'→K' a' w'):o.wp E.P a w K' Q:=by
 obtain⟨⟨c,rfl,hr,gB,hI,hf,hG⟩,hn,fK⟩:=hR
 have hρ:=mQ hf
 have hfu:¬c.used ver:=fun hu=>iE (gB _ hu)
 have value:∀ {v':Value} {w':World},(execOp a.eval o).run E.P c.w = .ok (.value v') w'→K' (a.put o.dst v') w'→o.wp E.P a c.w K' Q:=by
  intro v' w' h1 h2
  unfold Oper.wp
  rw [h1]
  exact h2
 have newVar:∀(t:TypeId) (l:List PV) (vx:Value),(E.ty t).known=true→bC (aK c) l vx.cells.toList→(∀u∈vx.cells.toList,u.oneCell'=true)→l.length=(E.ty t).size →
   FW K ver f rows o.dst (.ptr (o.dst.getD 0) ver 0 0) (o.dst.getD 0) t (E.ty t).size [l]→(execOp a.eval o).run E.P c.w = .ok (.value (.pointer (some ⟨c.w.heap.size,0,none⟩))) (c.w.alloc (.cells vx.cells t))→o.wp E.P a c.w K' Q:=by
  intro t l vx hk fM kH hlen hp i3
  have hz:=(E.ok t).zero hk
  have o8:vx.cells.size=(E.ty t).size:=by rw [←hlen,fM.length];simp
  obtain⟨p8,hA⟩:=xT hI hfu (o.dst.getD 0) t (E.ty t).size 1 1 [l] vx.cells rfl (Nat.le_refl _) (by simp [maxLen]) (by omega) (by
   simp only [List.flatten_cons,List.flatten_nil,List.append_nil]
   rw [List.take_of_length_le (by simp [o8])];exact fM) kH (by simpa using hlen) hz.pos
  obtain⟨f',rows',xL,B5⟩:=rQ (K:=K 1) hr gB hf hG hn fK hp p8 hA (abn (Or.inl rfl) (g:=c.w.heap.size) (n:=1) (cap:=1) (by simp [dW])) hd
  exact value i3 (hK 1 f' rows' _ _ xL (B5.mono fun v hv=>hv.imp (fun h=>⟨rfl,h⟩) fun h=>h))
 obtain⟨dst,op,type,pos,after,guard⟩:=o
 simp only at hd value newVar
 unfold oR at h
 simp only at h
 split at h
 ·-- alloc
  rename_i t
  obtain⟨hk,h⟩:=h
  have hz:=(E.ok t).zero hk
  obtain⟨i,zv,h1,h2,h3,h4,h5,h6⟩:=abm (c:=c) hz
  exact newVar t (E.ty t).zero zv hk h4 h6 rfl h (by simp [execOp,Instr.alloc,zeroValue,typeInfo,h1,h2,Go.newVar,newRow])
 ·-- box
  rename_i t x
  obtain⟨hk,l,hl,kH,hlen,h⟩:=h
  rw [←hr]at kH
  obtain⟨g1,g2⟩:=nE (hρ x) hl kH
  exact newVar t l (a.eval x) hk g1 g2 hlen h (by simp [execOp,Instr.box,Go.newVar,newRow])
 ·-- makeSlice
  rename_i t l cc
  split at h
  ·rename_i e sz b z k1 x k2 y hE hl hc
   obtain⟨h0,qT,QY,B4,h⟩:=h
   obtain⟨hu,lK,H6,i,zv,hi,hz,hs,hby,QO,hzo⟩:=fX hE
   have g1:=hρ l
   have g2:=hρ cc
   rw [hl,cK]at g1
   rw [hc,cK]at g2
   have EN:zv.cells.size=sz:=by rw [←H6,←QO];simp
   have alv:(i.bytes:Int)*y≤281474976710656:=by
    rw [hby]
    have h3:((y.toNat*b:Nat):Int)≤room:=by exact_mod_cast B4
    have h4:((y.toNat:Nat):Int)=y:=Int.toNat_of_nonneg (by omega)
    rw [Int.natCast_mul,h4]at h3
    simp only [room]at h3
    rw [Int.mul_comm];omega
   have i3:=run_make (P:=E.P) c.w t e i zv hu hi hz k1 k2 x y h0 qT alv (by simp only [room]at QY;omega)
   have arE:(execOp a.eval { dst:=dst,op:=.makeSlice t l cc,type:=type,pos:=pos,after:=after,guard:=guard }).run E.P c.w = .ok (.value (.slice (some ⟨c.w.heap.size,0,none⟩) x.toNat y.toNat)) (c.w.alloc (.cells (madeCells zv.cells (y.toNat*i.size)) e)):=by
    simp [execOp,g1,g2,i3]
   have arF:bC (aK c) z zv.cells.toList:=by
    rw [←QO]
    refine bC.cT (by simp) fun k p u hp hu=>?_
    simp at hp
    obtain⟨q,hq,rfl⟩:=hp
    have:zv.cells.toList[k]? = some q:=by simpa using hq
    rw [this]at hu;cases hu
    exact lL _
   have hle:x.toNat*sz≤y.toNat*sz:=Nat.mul_le_mul_right _ (by omega)
   have hL:((madeCells zv.cells (y.toNat*i.size)).toList.take (x.toNat*sz)).length=x.toNat*sz:=by
    rw [List.length_take,Array.length_toList,size_madeCells,hs];exact Nat.min_eq_left hle
   obtain⟨p8,hA⟩:=xT hI hfu (dst.getD 0) e sz x.toNat y.toNat (List.replicate x.toNat z) (madeCells zv.cells (y.toNat*i.size)) (by simp) (by omega) (vR QY) (by rw [size_madeCells,hs]) (by
    refine bC.cT (by rw [hL];simp [H6]) fun k p u hp hu=>?_
    have hk:=(List.getElem?_eq_some_iff.1 hu).1
    rw [hL]at hk
    rw [List.getElem?_take,if_pos (by omega),tZ (by rw [hs];omega) (by omega)]at hu
    have xM:=lG hp
    rw [H6,←EN]at xM
    obtain⟨u',q1,q2⟩:=arF.get xM
    rw [hu]at q1;cases q1;exact q2) (by
    intro u hu
    obtain⟨k,hk⟩:=List.getElem?_of_mem hu
    have xL:=(List.getElem?_eq_some_iff.1 hk).1
    simp [size_madeCells]at xL
    rw [tZ xL (by omega)]at hk
    have:=List.mem_of_getElem? hk
    exact(Array.all_eq_true_iff_forall_mem.1 hzo) u (by simpa using this)) (by
    intro e' rE
    rw [List.mem_replicate]at rE
    rw [rE.2,H6]) lK
   obtain⟨f',rows',xL,B5⟩:=rQ (K:=K 1) hr gB hf hG hn fK h p8 hA (mC (r:=⟨ver,e,sz,List.replicate x.toNat z⟩) (A:=some ⟨c.w.heap.size,0,none⟩) (cap:=y.toNat) (by simp [dW]) (by simp) (Or.inl rfl) (by simp [dW])) hd
   exact value arE (hK 1 f' rows' _ _ xL (B5.mono fun v hv=>hv.imp (fun h=>⟨rfl,h⟩) fun h=>h))
  ·exact h.elim
 ·-- append
  rename_i x y t t2
  obtain⟨ht2,h⟩:=h
  exact B3 iE rfl ht2 hI hr gB hf hG hn fK hd h hK
 ·exact h.elim
theorem y6{o:Oper}{a:Act}{w:World}{σ:PS}{K:PS→Prop}(h:fD E o K σ)(hR:Rel w0 S0 n G σ a w)(hd:∀t,o.dst=some t→t<n)
  {K':Act→World→Prop} {Q:Exit→Act→World→Prop} (hK:∀σ' a' w',K σ'→Rel w0 S0 n G σ' a' w'→K' a' w'):o.wp E.P a w K' Q:=by
 obtain⟨⟨c,rfl,hr,gB,hI,hf,hG⟩,hn,fK⟩:=hR
 have hρ:=mQ hf
 have value:∀ {v':Value} {w':World},(execOp a.eval o).run E.P c.w = .ok (.value v') w'→K' (a.put o.dst v') w'→o.wp E.P a c.w K' Q:=by
  intro v' w' h1 h2
  unfold Oper.wp
  rw [h1]
  exact h2
 have arG:(∃v u,ys E o.op (aP σ.f) σ.rows v u∧K ⟨put σ.f o.dst v,eF σ.rows u,σ.clock⟩)→o.wp E.P a c.w K' Q:=by
  rintro⟨v,u,hy,hk⟩
  rw [←hr]at hy
  refine LV hI hf hy fun v' c' h1 h2 h3 h4 h5=>hK _ _ _ hk ?_
  exact LS (fun s=>h3 _ _ (hf s)) (fun p hp=>h3 _ _ (hG p hp)) hn fK h4 h5 hd rfl (by simp [h1,hr]) (by rw [h2];exact gB)
 have nw:oR E σ.clock o (fun i f r=>K ⟨f,r,σ.clock+i⟩) σ.f σ.rows→o.wp E.P a c.w K' Q:=fun hp =>
  vS (U:=fun v=>v<σ.clock) (Nat.lt_irrefl _) hp ⟨⟨c,rfl,hr,gB,hI,hf,hG⟩,hn,fK⟩ hd fun i f' rows' a' w' hk B5=>hK _ _ _ hk (B5.mono fun v hv=>by
   show v<σ.clock+i
   rcases hv with ⟨rfl,rfl⟩ | hv
   ·omega
   ·have:v<σ.clock:=hv
    omega)
 obtain⟨dst,op,type,pos,after,guard⟩:=o
 simp only at hd value arG nw
 unfold fD at h
 simp only at h
 split at h
 ·-- alloc
  rename_i t
  exact nw (show oR E σ.clock _ _ σ.f σ.rows from h)
 ·-- box
  rename_i t x
  exact nw (show oR E σ.clock _ _ σ.f σ.rows from h)
 ·-- makeSlice
  rename_i t l cc
  refine nw (show oR E σ.clock _ _ σ.f σ.rows from ?_)
  unfold oR
  simp only
  split at h
  ·exact h
  ·exact h.elim
 ·-- append
  rename_i x y t t2
  obtain⟨ht2,h⟩:=h
  refine nw (show oR E σ.clock _ _ σ.f σ.rows from⟨ht2,?_⟩)
  unfold IA at h
  unfold pF
  split at h
  ·obtain⟨l,g1,g2,g3⟩:=h
   refine⟨l,g1,g2,?_⟩
   split at g3<;>exact g3
  ·exact h
 ·-- a call
  rename_i fo args ts
  have eT:bC (aG c) (args.toList.map fun x=>aP σ.f x) (args.map a.eval).toList:=by
   refine bC.cT (by simp) fun k p u hp hu=>?_
   simp at hp hu
   obtain⟨x,hx,rfl⟩:=hp
   obtain⟨y,hy,rfl⟩:=hu
   rw [hx]at hy;cases hy
   exact hρ x
  split at h
  ·have X0:=hρ fo
   unfold QR at h
   split at h
   ·rename_i g heq
    rw [heq]at X0
    obtain⟨R,⟨⟨fn,b,h1,h2,h3⟩,QU⟩,hk⟩:=h
    simp only [aG,aK,dE]at X0
    obtain⟨cs,hfv,EW⟩:=X0
    simp only [bP]at EW
    subst EW
    have mN:=QU w0 S0 c _ (fun p=>p∈G ∨ ∃s,p=(σ.f s,a.tmps.getD s undef)) hI hr gB eT (by
     rintro p (hp | ⟨s,rfl⟩)
     ·exact hG p hp
     ·exact hf s)
    simp only [Array.toArray_toList]at mN
    unfold Oper.wp
    have i3:(execOp a.eval { dst:=dst,op:=.call { callee:=.value fo,args:=args,argTypes:=ts },type:=type,pos:=pos,after:=after,guard:=guard }).run E.P c.w = .ok (.enter g (args.map a.eval)) c.w:=by
     simp only [execOp,resolve,hfv,Deferred.ofValue,Sem.run_bind,Sem.run_pure,Result.andThen_ok,invoke]
     simpa using kI h1 h2 h3 (args.map a.eval) c.w
    rw [i3]
    refine mN.mono ?_
    rintro e w' ⟨v',c',r,gZ,rfl,rfl,p8,hG',lH,XW,hv'⟩
    refine hK _ _ _ (hk _ _ _ lH) ?_
    exact LS (fun s=>hG' (σ.f s,a.tmps.getD s undef) (.inr ⟨s,rfl⟩)) (fun p hp=>hG' p (.inl hp)) hn fK p8 hv' hd rfl rfl XW
   ·exact h.elim
  obtain⟨v,hc,hp,hk⟩:=h
  rw [←hr]at hc hp hk
  have EV:yX E (aP σ.f fo) ((args.toList.map fun x=>aP σ.f x).map (pz c.rows)) v:=by rw [List.map_map];exact hc
  obtain⟨g,cs,h1,h2,h3⟩:=yY hI (ids:=args.toList.flatMap fun x=>dV (aP σ.f x)) hp (hρ fo) eT (by
   intro p hp id gD
   simp at hp
   obtain⟨x,hx,rfl⟩:=hp
   simp only [List.mem_flatMap];exact⟨x,by simpa using hx,gD⟩) EV (K:=fun v' w'=>K' (a.put dst v') w') (fun v' c' q1 q2 q3 q4 q5=>hK _ _ _ hk (sU hf hG hn fK q3 q4 q5 hd rfl (by simp [q1]) (by rw [q2];exact gB)))
  unfold Oper.wp
  have i3:(execOp a.eval { dst:=dst,op:=.call { callee:=.value fo,args:=args,argTypes:=ts },type:=type,pos:=pos,after:=after,guard:=guard }).run E.P c.w = .ok (.enter g (args.map a.eval++cs)) c.w:=by
   simp only [execOp,resolve,h1,Deferred.ofValue,Sem.run_bind,Sem.run_pure,Result.andThen_ok,invoke]
   simp only [Array.toArray_toList]at h2
   simpa only [Array.empty_append]using h2
  rw [i3]
  simp only [Array.toArray_toList]at h3
  exact h3.mono fun e w' ⟨v',he,hk⟩=>by subst he;exact hk
 ·-- a closure
  rename_i g caps
  obtain⟨tY,hp,hk⟩:=h
  rw [←hr]at tY hp hk
  have K6:=hI.freeze (caps.toList.flatMap fun x=>dV (aP σ.f x))
  refine value (v':=.func (.func g) #[] (caps.map a.eval)) (w':=c.w) (by simp [execOp,Instr.makeFunc]) (hK _ _ _ hk ?_)
  refine sU (c':=EL c (caps.toList.flatMap fun x=>dV (aP σ.f x))) hf hG hn fK (mR c _) K6 ?_ hd rfl (by simp [EL]) gB
  simp only [aG,aK,dE]
  refine⟨(caps.map a.eval).toList,by rw [Array.toArray_toList],cL.2 (bC.cT (by simp) fun k p u xM hu=>?_)⟩
  simp at xM hu
  obtain⟨x,hx,rfl⟩:=xM
  obtain⟨y,hy,rfl⟩:=hu
  rw [hx]at hy;cases hy
  have pG:x∈caps.toList:=by simpa using Array.mem_of_getElem? hx
  exact H5 hI hp (hρ x) (fun id gD=>by simp only [List.mem_flatMap];exact⟨x,pG,gD⟩) (List.all_eq_true.1 tY _ (by simp;exact⟨x,by simpa using pG,rfl⟩))
 ·exact arG h
end
def iF(op:Op)(ρ:Operand→PV):List Nat:=
 match op with
 | .load _ p=>aU (ρ p)
 | .fieldAddr _ x _=>aU (ρ x)
 | .indexAddr _ x _=>aU (ρ x)
 | .slice _ x _ _ _=>aU (ρ x)
 | .store _ p x=>aU (ρ p)++((cE (ρ x)).getD []).flatMap aU
 | .call { callee:=.builtin .len,args:=⟨[x]⟩,argTypes:=⟨[_]⟩ }=>aU (ρ x)
 | .call { callee:=.builtin .append,args:=⟨[x,y]⟩,argTypes:=⟨[_,_]⟩ }=>aU (ρ x)++aU (ρ y)
 | .call { callee:=.builtin .copy,args:=⟨[x,y]⟩,argTypes:=⟨[_,_]⟩ }=>aU (ρ x)++aU (ρ y)
 | .nilCheck x=>aU (ρ x)
 | .call { callee:=.value _,args:=args,argTypes:=_ }=>args.toList.flatMap fun x=>aU (ρ x)
 | _=>[]
theorem X3{p:PV}(h:dV p = []):aU p = []:=by
 cases p with
 | ag l=>rfl
 | _=>exact h
theorem FX{p:PV}(h:dA p=true):aU p = []:=by cases p<;>simp_all [dA,bI,aU]
theorem UO{l:List Operand}{ρ:Operand→PV}(h:(l.flatMap fun x=>dV (ρ x)) = []):(l.flatMap fun x=>aU (ρ x)) = []:=
 List.flatMap_eq_nil_iff.2 fun x hx=>X3 (List.flatMap_eq_nil_iff.1 h x hx)
theorem UP{l:List Operand}{ρ:Operand→PV}(h:(l.map fun x=>ρ x).all dA=true):(l.flatMap fun x=>aU (ρ x)) = []:=
 List.flatMap_eq_nil_iff.2 fun x hx=>FX (List.all_eq_true.1 h _ (List.mem_map.2 ⟨x,hx,rfl⟩))
def jS(ids:List Nat)(rows rows':Rows):Prop:=∀id∈ids,∀r,rows id=some r→rows' id=some r
section
variable {E:Env}
theorem IB{rows rows':Rows}{p:PV}(h:aU p = []):fz rows p=fz rows' p:=by cases p<;>simp_all [fz,aU]
theorem af0{rows rows':Rows}{p:PV}(h:dV p = []):pz rows p=pz rows' p:=by
 cases p with
 | ag l =>
  simp only [dV,List.flatMap_eq_nil_iff]at h
  simp only [pz]
  congr 1
  exact List.map_congr_left fun q hq=>IB (h q hq)
 | _=>simp only [pz,dV]at h ⊢;exact IB h
theorem IC{rows rows':Rows}{p:PV}(h:jS (aU p) rows rows')(ho:iT rows p):iT rows' p:=by
 cases p with
 | own id ver off len=>obtain⟨r,hr,hv⟩:=ho;exact⟨r,h id (by simp [aU]) r hr,hv⟩
 | ptr id ver i j=>obtain⟨r,hr,hv⟩:=ho;exact⟨r,h id (by simp [aU]) r hr,hv⟩
 | _=>exact ho
theorem X4{rows:Rows}{p:PV}(ho:iT rows p):∀id∈aU p,∃r,rows id=some r:=by
 intro id gD
 cases p with
 | own i9 ver off len=>simp [aU]at gD;subst gD;obtain⟨r,hr,_⟩:=ho;exact⟨r,hr⟩
 | ptr i9 ver i j=>simp [aU]at gD;subst gD;obtain⟨r,hr,_⟩:=ho;exact⟨r,hr⟩
 | _=>simp [aU]at gD
theorem abt{t:TypeId}{rows rows':Rows}{p v:PV}(h:jS (aU p) rows rows')(hy:tS E t rows p v):tS E t rows' p v ∧ ∀id∈aU p,∃r,rows id=some r:=by
 obtain⟨hk,hy⟩:=hy
 cases p with
 | ptr id ver i j =>
  obtain⟨r,hr,hh⟩:=hy
  exact⟨⟨hk,r,h id (by simp [aU]) r hr,hh⟩,by simp [aU];exact⟨r,hr⟩⟩
 | rd l=>exact⟨⟨hk,hy⟩,by simp [aU]⟩
 | _=>exact hy.elim
theorem E0{t:TypeId}{i:Nat}{rows rows':Rows}{x v:PV}(h:jS (aU x) rows rows')(hy:fV E t rows i x v):fV E t rows' i x v ∧ ∀id∈aU x,∃r,rows id=some r:=by
 unfold fV at *
 split at hy
 ·rename_i fs z hE
  obtain⟨o,n,b,hf,hy⟩:=hy
  cases x with
  | ptr id ver a j =>
   obtain⟨⟨r,hr,hv⟩,hh⟩:=hy
   exact⟨⟨o,n,b,hf,⟨r,h id (by simp [aU]) r hr,hv⟩,hh⟩,by simp [aU];exact⟨r,hr⟩⟩
  | rd l=>exact⟨⟨o,n,b,hf,hy⟩,by simp [aU]⟩
  | _=>exact hy.elim
 ·exact hy.elim
theorem E1{t:TypeId}{rows rows':Rows}{x ix v:PV}(h:jS (aU x) rows rows')(hy:fW E t rows x ix v):fW E t rows' x ix v ∧ ∀id∈aU x,∃r,rows id=some r:=by
 unfold fW at *
 split at hy
 ·split at hy
  ·obtain⟨h0,hy⟩:=hy
   cases x with
   | own id ver off len =>
    obtain⟨r,hr,hh⟩:=hy
    exact⟨⟨h0,r,h id (by simp [aU]) r hr,hh⟩,by simp [aU];exact⟨r,hr⟩⟩
   | sl l=>exact⟨⟨h0,hy⟩,by simp [aU]⟩
   | iR l=>exact⟨⟨h0,hy⟩,by simp [aU]⟩
   | _=>exact hy.elim
  ·exact hy.elim
 ·split at hy
  ·obtain⟨h0,hy⟩:=hy
   cases x with
   | ptr id ver a j =>
    obtain⟨⟨r,hr,hv⟩,hh⟩:=hy
    exact⟨⟨h0,⟨r,h id (by simp [aU]) r hr,hv⟩,hh⟩,by simp [aU];exact⟨r,hr⟩⟩
   | rd l=>exact⟨⟨h0,hy⟩,by simp [aU]⟩
   | _=>exact hy.elim
  ·exact hy.elim
 ·exact hy.elim
theorem X5{t:TypeId}{rows rows':Rows}{x v:PV}{lo hi mx:Option PV}(h:jS (aU x) rows rows')(hy:oP E t rows x lo hi mx v):oP E t rows' x lo hi mx v ∧ ∀id∈aU x,∃r,rows id=some r:=by
 unfold oP at *
 split at hy
 ·cases x with
  | own id ver off len =>
   obtain⟨r,hr,hh⟩:=hy
   exact⟨⟨r,h id (by simp [aU]) r hr,hh⟩,by simp [aU];exact⟨r,hr⟩⟩
  | nil=>exact⟨hy,by simp [aU]⟩
  | sl l=>exact⟨hy,by simp [aU]⟩
  | iR l=>exact⟨hy,by simp [aU]⟩
  | _=>exact hy.elim
 ·exact hy.elim
theorem af1{rows rows':Rows}{x:PV}{n:Nat}(h:jS (aU x) rows rows')(hy:XR rows x n):XR rows' x n ∧ ∀id∈aU x,∃r,rows id=some r:=by
 unfold XR at *
 cases x with
 | own id ver off len =>
  obtain⟨⟨r,hr,hv⟩,hh⟩:=hy
  exact⟨⟨⟨r,h id (by simp [aU]) r hr,hv⟩,hh⟩,by simp [aU];exact⟨r,hr⟩⟩
 | nil=>exact⟨hy,by simp [aU]⟩
 | sl l=>exact⟨hy,by simp [aU]⟩
 | iR l=>exact⟨hy,by simp [aU]⟩
 | _=>exact hy.elim
theorem af2{rows rows':Rows}{x v:PV}(h:jS (aU x) rows rows')(hy:ET rows x v):ET rows' x v ∧ ∀id∈aU x,∃r,rows id=some r:=by
 unfold ET at *
 cases x with
 | ptr id ver i j =>
  obtain⟨⟨r,hr,hv⟩,hh⟩:=hy
  exact⟨⟨⟨r,h id (by simp [aU]) r hr,hv⟩,hh⟩,by simp [aU];exact⟨r,hr⟩⟩
 | rd l=>exact⟨hy,by simp [aU]⟩
 | _=>exact hy.elim
theorem X6{t:TypeId}{rows rows':Rows}{p x v:PV}{u:Option (Nat × Row)}(h:jS (aU p++((cE x).getD []).flatMap aU) rows rows')(hy:rN E t rows p x v u) :
  rN E t rows' p x v u∧(∀id∈aU p++((cE x).getD []).flatMap aU,∃r,rows id=some r) ∧ ∃id r,u=some (id,r)∧id∈aU p:=by
 obtain⟨hk,hv,hy⟩:=hy
 cases p with
 | ptr id ver i j =>
  obtain⟨r,hr,jR,el,mY,l,hl,kH,hh1,hh2,hh3⟩:=hy
  rw [hl]at h ⊢
  simp only [Option.getD_some]at h ⊢
  refine⟨⟨hk,hv,r,h id (by simp [aU]) r hr,jR,el,mY,l,hl,fun q hq=>IC (fun i9 BR=>h i9 ?_) (kH q hq),hh1,hh2,hh3⟩,?_,?_⟩
  ·simp only [List.mem_append,List.mem_flatMap];exact .inr ⟨q,hq,BR⟩
  ·intro i9 BR
   simp only [List.mem_append,List.mem_flatMap]at BR
   rcases BR with BR | ⟨q,hq,BR⟩
   ·simp [aU]at BR;subst BR;exact⟨r,hr⟩
   ·exact X4 (kH q hq) i9 BR
  ·exact⟨id,_,hh3,by simp [aU]⟩
 | _=>exact hy.elim
theorem UQ{rows rows':Rows}{y:PV}{l:List (List PV)}(h:jS (aU y) rows rows')(hy:rO rows y l):rO rows' y l ∧ ∀id∈aU y,∃r,rows id=some r:=by
 unfold rO at *
 cases y with
 | own id ver off len =>
  obtain⟨r,hr,hh⟩:=hy
  exact⟨⟨r,h id (by simp [aU]) r hr,hh⟩,by simp [aU];exact⟨r,hr⟩⟩
 | nil=>exact⟨hy,by simp [aU]⟩
 | sl l=>exact⟨hy,by simp [aU]⟩
 | iR l=>exact⟨hy,by simp [aU]⟩
 | _=>exact hy.elim
theorem abu{t:TI}{rows rows':Rows}{x y v:PV}{u:Option (Nat × Row)}(h:jS (aU x++aU y) rows rows')(hy:tX t rows x y v u):tX t rows' x y v u∧(∀id∈aU x++aU y,∃r,rows id=some r) ∧ ∀id r,u=some (id,r)→id∈aU x++aU y:=by
 unfold tX at *
 split at hy
 ·rename_i e n b z id ver off len
  obtain⟨r,h1,h2,h3,h4,l,h5,h6,h7,rfl⟩:=hy
  obtain⟨g1,g2⟩:=UQ (fun id gD=>h id (by simp only [List.mem_append];exact .inr gD)) h5
  refine⟨⟨r,h id (by simp [aU]) r h1,h2,h3,h4,l,g1,h6,h7,rfl⟩,fun i9 gD=>?_,fun i9 r' hu=>?_⟩
  ·simp only [aU,List.mem_append,List.mem_cons,List.not_mem_nil,or_false]at gD
   rcases gD with rfl | gD
   ·exact⟨r,h1⟩
   ·exact g2 i9 gD
  ·simp only [Option.some.injEq,Prod.mk.injEq]at hu
   simp [aU,hu.1]
 ·exact hy.elim
theorem ai1{op:Op}{ρ:Operand→PV}{rows rows':Rows}{v:PV}{u:Option (Nat × Row)}(h:jS (iF op ρ) rows rows')(hy:ys E op ρ rows v u) :
  ys E op ρ rows' v u∧(∀id∈iF op ρ,∃r,rows id=some r) ∧ ∀id r,u=some (id,r)→id∈iF op ρ:=by
 unfold ys at hy ⊢
 split at hy
 ·exact abu h hy
 ·rename_i t p x
  obtain⟨h1,h2,id,r,h3,h4⟩:=X6 h hy
  exact⟨h1,h2,fun i9 r' hu=>by rw [h3]at hu;cases hu;simp only [iF,List.mem_append];exact .inl h4⟩
 ·rename_i t len parts
  obtain⟨hy,rfl⟩:=hy
  unfold QQ at hy ⊢
  split at hy
  ·obtain⟨els,h1,h2,h3,h4,h5,h6,rfl⟩:=hy
   have hfz:∀e∈els,∀p∈e,fz rows p=fz rows' p:=fun e he p hp=>IB (h6 e he p hp)
   refine⟨⟨⟨els,h1,h2,h3,h4,fun e he p hp=>⟨by rw [←hfz e he p hp];exact(h5 e he p hp).1,IC (by rw [h6 e he p hp];intro id gD;cases gD) (h5 e he p hp).2⟩,h6,?_⟩,rfl⟩,by simp [iF],by simp⟩
   congr 1
   exact List.map_congr_left fun e he=>List.map_congr_left fun p hp=>hfz e he p hp
  ·exact hy.elim
 ·rename_i f args ts
  by_cases hm:vN E (ρ f)=true
  ·rw [if_pos hm]at hy ⊢
   simp only [iF]at h ⊢
   have hfl:(args.toList.flatMap fun x=>aU (ρ x))=(args.toList.map fun x=>ρ x).flatMap aU:=by rw [List.flatMap_map]
   rw [hfl]at h ⊢
   generalize (args.toList.map fun x=>ρ x)=eX at *
   unfold LO at hy ⊢
   split at hy
   ·rename_i g id ver i j rest arz
    obtain⟨h1,e,n,core,eA,h2,h3,h4,h5,rfl⟩:=hy
    have abf:rest.flatMap aU = []:=List.flatMap_eq_nil_iff.2 fun x hx=>FX (List.all_eq_true.1 h1.2.2.1 x hx)
    refine⟨⟨h1,e,n,core,eA,h id (by simp [aU]) _ h2,h3,h4,h5,rfl⟩,fun i9 gD=>?_,fun i9 r' hu=>?_⟩
    ·simp only [List.flatMap_cons,abf,aU,List.append_nil,List.mem_cons,List.not_mem_nil,or_false]at gD
     subst gD
     exact⟨_,h2⟩
    ·simp only [Option.some.injEq,Prod.mk.injEq]at hu
     simp [aU,hu.1]
   ·exact hy.elim
  rw [if_neg hm]at hy ⊢
  obtain⟨rfl,h1,h2⟩:=hy
  refine⟨⟨rfl,?_,h2⟩,by simp [iF,UO h2],by simp⟩
  have:(args.toList.map fun x=>pz rows (ρ x))=args.toList.map fun x=>pz rows' (ρ x):=
   List.map_congr_left fun x hx=>af0 (List.flatMap_eq_nil_iff.1 h2 x hx)
  rw [←this];exact h1
 ·obtain⟨hy,rfl⟩:=hy
  suffices hs:yv E op ρ rows' v ∧ ∀id∈iF op ρ,∃r,rows id=some r from⟨⟨hs.1,rfl⟩,hs.2,by simp⟩
  unfold yv at hy ⊢
  split at hy
  case h_8=>exact abt h hy
  case h_10=>exact E0 h hy
  case h_11=>exact E1 h hy
  case h_12=>exact X5 h hy
  case h_16 =>
   simp only [iF]at h ⊢
   unfold yS at hy ⊢
   split at hy
   ·obtain⟨n,hn,hv⟩:=hy
    have:=af1 (rows':=rows') h hn
    exact⟨⟨n,this.1,hv⟩,this.2⟩
   ·exact hy.elim
  case h_19=>exact af2 h hy
  all_goals first
   | exact hy.elim
   | exact⟨hy,by simp [iF]⟩
end
end Pm
