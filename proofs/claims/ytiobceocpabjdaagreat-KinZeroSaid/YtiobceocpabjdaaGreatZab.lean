import Derived.Laws.CopyOwn
import Derived.ArgAppend
import Derived.Test.YtiobceocpabjdaaGreatZaa
set_option linter.unusedSimpArgs false
set_option linter.unusedVariables false
namespace Pm
open Go Go.RowKit
def FC(rows:Rows)(ids:List Nat):Rows:=fun j=>if j∈ids then none else rows j
def PT(c:Cx)(ids:List Nat):dX:=fun b o=>c.S b o ∨ ∃id∈ids,(∃r,c.rows id=some r)∧(c.β id).ownBlock=some b
section
variable {E:Env} {c:Cx} {w0:World} {S0:dX}
def D2(c:Cx)(ids:List Nat):Cx:={ c with S:=PT c ids,rows:=FC c.rows ids }
theorem mI(c:Cx)(ids:List Nat):sX c (D2 c ids):=
 ⟨fun _ _ h => .inl h,fun _ _ _=>rfl,fun _ h=>h,fun id r hr=>by
  simp only [D2,FC]at hr ⊢
  split at hr
  ·cases hr
  ·exact .inr ⟨r,hr,rfl,rfl,rfl,by first | rfl | trivial⟩⟩
theorem Inv.freeze(hI:Inv w0 S0 c)(ids:List Nat):Inv w0 S0 (D2 c ids):=by
 have live:∀ {k:Nat} {t:Row},FC c.rows ids k=some t→c.rows k=some t∧k ∉ ids:=by
  intro k t h
  simp only [FC]at h
  split at h
  ·cases h
  ·rename_i hk;exact⟨h,hk⟩
 have awN:∀ {id:Nat} {r:Row} {g:Nat},c.rows id=some r→(c.β id).ownBlock=some g→w0.heap.size≤g∧g<c.w.heap.size:=by
  intro id r g hr hg
  obtain⟨⟨ys,g1,_,_⟩,_⟩:=hI.row id r hr
  exact g1.lt g hg
 refine⟨hI.below,fun b o h => .inl (hI.ext b o h),fun b o h=>?_,hI.lt0,fun id r hr=>hI.clock id r (live hr).1,fun id r hr=>?_,fun i j r s g hr hs=>hI.apart i j r s g (live hr).1 (live hs).1,hI.fin⟩
 ·rcases h with h | ⟨id,_,⟨r,hr⟩,hb⟩
  ·exact hI.new b o h
  ·exact .inr (awN hr hb)
 ·obtain⟨j9,hk⟩:=live hr
  obtain⟨⟨ys,g1,g2,g3⟩,g4,g5,g6⟩:=hI.row id r j9
  refine⟨⟨ys,g1,g2.mono (aJ.s9 (mI c ids)),g3⟩,g4,fun g o hg hS=>?_,g6⟩
  rcases hS with h | ⟨i0,BA,⟨r',bS⟩,hb⟩
  ·exact g5 g o hg h
  ·have:=hI.apart id i0 r r' g j9 bS hg hb
   subst this
   exact hk BA
theorem TP(hI:Inv w0 S0 c){ids:List Nat}(hp:∀id∈ids,∀r,c.rows id=some r → ∀e∈r.els,∀p∈e,bI p=true){id:Nat}(gD:id∈ids){r:Row}(hr:c.rows id=some r)
  {g n cap:Nat} (hβ:c.β id = .slice (some ⟨g,0,none⟩) n cap) {i j:Nat} {el:List PV} {p:PV} (hi:r.els[i]? = some el) (hj:el[j]? = some p) :
  ∃v,c.w.cell? ⟨g,i*r.size+j,none⟩=some v∧PT c ids g (i*r.size+j)∧v.oneCell'=true∧dC (PT c ids) c.w p v:=by
 obtain⟨v,h1,h2,h3⟩:=uZ hI hr hβ hi hj
 refine⟨v,h1, .inr ⟨id,gD,⟨r,hr⟩,by simp [hβ,Value.ownBlock]⟩,h2,?_⟩
 have h4:=h3.rep (hp id gD r hr el (List.mem_of_getElem? hi) p (List.mem_of_getElem? hj))
 exact dC.mono (fun _ _ h => .inl h) (fun _ _ _=>rfl) _ _ h4
theorem HJ(hI:Inv w0 S0 c){ids:List Nat}(hp:∀id∈ids,∀r,c.rows id=some r → ∀e∈r.els,∀p∈e,bI p=true){p:PV}{v:Value}(h:aJ c p v)(tS:∀id∈aT p,id∈ids)(w9:bI (fz c.rows p)=true) :
  dC (PT c ids) c.w (fz c.rows p) v:=by
 have mono:∀q u,dC c.S c.w q u→dC (PT c ids) c.w q u:=fun q u=>dC.mono (fun _ _ h => .inl h) (fun _ _ _=>rfl) q u
 cases p with
 | own id ver off len =>
  simp only [fz]at w9 ⊢
  have gD:id∈ids:=tS id (by simp [aT])
  cases hr:c.rows id with
  | none=>simp [hr,bI]at w9
  | some r =>
   simp only [hr]at w9 ⊢
   by_cases hv:r.ver=ver
   ·simp only [hv,if_true]at w9 ⊢
    simp only [aJ]at h
    obtain⟨hle,h⟩:=h.2 r hr hv
    obtain⟨⟨xs,i5,_,_⟩,hlen,_⟩:=hI.row id r hr
    have afb:∀A m cap,c.β id = .slice A m cap→r.els.length≤cap∧cap≤maxLen:=by
     intro A m cap hβ
     rw [hβ]at i5
     rcases i5.2 with ⟨h',hz⟩ | ⟨g,jL,cur,h',_,_,PM,hm,_⟩
     ·simp at h';exact⟨by omega,by rw [h'.2.2];simp⟩
     ·simp at h';obtain⟨_,_,rfl⟩:=h';exact⟨PM,hm⟩
    have D3:((r.els.drop off).take len).length=len:=by simp;omega
    have els:∀g n cap,c.β id = .slice (some ⟨g,0,none⟩) n cap→fU (PT c ids) c.w g (off*r.size) ((r.els.drop off).take len):=by
     intro g n cap hβ
     refine oQ (n:=r.size) (fun e he=>hlen e (List.mem_of_mem_drop (List.mem_of_mem_take he))) fun k e hk=>?_
     rw [List.getElem?_take]at hk
     split at hk
     ·rw [List.getElem?_drop]at hk
      refine jS fun j q hq=>?_
      have:=TP hI hp gD hr hβ hk hq
      rw [show off*r.size+k*r.size+j=(off+k)*r.size+j by rw [Nat.add_mul]];exact this
     ·cases hk
    simp only [dC]
    rw [D3]
    rcases h with ⟨rfl,A,n,cap,hβ,rfl⟩ | ⟨lB,g,n,cap,A,hβ,hoc,rfl,ha⟩
    ·obtain⟨c1,c2⟩:=afb _ _ _ hβ
     refine⟨A,cap,rfl,by omega,c2,?_⟩
     rcases Nat.eq_zero_or_pos len with h0 | h0
     ·left;exact List.eq_nil_of_length_eq_zero (by rw [D3];exact h0)
     ·right
      obtain⟨g,jL,qQ⟩:=qP hI hr (by omega)
      rw [hβ]at qQ
      simp only [Value.slice.injEq]at qQ
      obtain⟨rfl,rfl,rfl⟩:=qQ
      exact⟨g,0,rfl,by simpa using els g _ _ hβ⟩
    ·obtain⟨c1,c2⟩:=afb _ _ _ hβ
     refine⟨some A,cap-off,rfl,by omega,by omega,?_⟩
     rcases ha with rfl | rfl
     ·left;exact List.eq_nil_of_length_eq_zero D3
     ·right;exact⟨g,off*r.size,rfl,els g n cap hβ⟩
   ·simp [hv,bI]at w9
 | ptr id ver i j =>
  simp only [fz]at w9 ⊢
  have gD:id∈ids:=tS id (by simp [aT])
  cases hr:c.rows id with
  | none=>simp [hr,bI]at w9
  | some r =>
   simp only [hr]at w9 ⊢
   by_cases hv:r.ver=ver
   ·simp only [hv,if_true]at w9 ⊢
    simp only [aJ]at h
    obtain⟨g,n,cap,hβ,rfl⟩:=h.2 r hr hv
    simp only [dC]
    refine⟨g,i*r.size+j,rfl,jS fun k q hq=>?_⟩
    rw [List.getElem?_drop]at hq
    cases mR:r.els[i]? with
    | none=>simp [List.getD,mR]at hq
    | some el =>
     have hq':el[j+k]? = some q:=by simpa [List.getD,mR]using hq
     have:=TP hI hp gD hr hβ mR hq'
     rw [show i*r.size+j+k=i*r.size+(j+k)by omega];exact this
   ·simp [hv,bI]at w9
 | nil =>
  simp only [aJ,dC]at h
  subst h
  simp only [fz,dC]
  exact⟨none,0,rfl,by simp,by simp [maxLen], .inl (by first | rfl | trivial)⟩
 | iK l =>
  simp only [fz]
  have:=mono _ _ (show dC c.S c.w (.iK l) v by simpa only [aJ]using h)
  simp only [dC]at this ⊢
  obtain⟨A,rfl,h1,h2⟩:=this
  exact⟨A,l.length,rfl,Nat.le_refl _,h1,h2⟩
 | undef=>simp [fz,bI]at w9
 | _=>simp only [fz];exact mono _ _ (by simpa only [aJ]using h)
theorem HK(hI:Inv w0 S0 c){ids:List Nat}(hp:∀id∈ids,∀r,c.rows id=some r → ∀e∈r.els,∀p∈e,bI p=true){p:PV}{v:Value}(h:aG c p v)(tS:∀id∈dQ p,id∈ids)(w9:dB (pz c.rows p)=true) :
  dC (PT c ids) c.w (pz c.rows p) v:=by
 cases p with
 | ag l =>
  obtain⟨vs,rfl,A3⟩:=h
  simp only [pz,dB]at w9 ⊢
  simp only [dC]
  refine⟨vs,rfl,cM.2 (bB.cS (by simp [A3.length]) fun k q u hq hu=>?_)⟩
  simp at hq
  obtain⟨q',hq',rfl⟩:=hq
  obtain⟨u',h1,h2⟩:=A3.get hq'
  rw [hu]at h1;cases h1
  refine HJ hI hp h2 (fun id gD=>tS id ?_) (List.all_eq_true.1 w9 _ (by simp;exact⟨q',List.mem_of_getElem? hq',rfl⟩))
  simp only [dQ,List.mem_flatMap]
  exact⟨q',List.mem_of_getElem? hq',gD⟩
 | _ =>
  simp only [pz]at w9 ⊢
  refine HJ hI hp (by simpa only [aG]using h) (fun id gD=>tS id (by simpa only [dQ]using gD)) ?_
  revert w9
  simp only [fz]
  first
   | (intro w9;simpa only [dB]using w9)
   | (split
      · split
        · intro _;rfl
        · intro w9;exact w9
      · intro w9;exact w9)
end
theorem yG{α:Type}{n:Nat}:∀ {els:List (List α)},(∀e∈els,e.length=n) → ∀ {i:Nat} {el:List α},els[i]? = some el → ∀(j:Nat) (l:List α),j+l.length≤el.length →
  (els.set i (el.take j++l++el.drop (j+l.length))).flatten=els.flatten.take (i*n+j)++l++els.flatten.drop (i*n+j+l.length)
 | [],_,_,_,h,_,_,_=>by simp at h
 | q::els,hn,0,el,h,j,l,hjl=>by
  simp at h
  subst h
  simp only [List.set_cons_zero,List.flatten_cons,Nat.zero_mul,Nat.zero_add]
  rw [List.take_append_of_le_length (by omega),List.drop_append_of_le_length hjl]
  simp
 | q::els,hn,i+1,el,h,j,l,hjl=>by
  have hq:q.length=n:=hn q (by simp)
  have ih:=yG (els:=els) (n:=n) (fun e he=>hn e (by simp [he])) (i:=i) (el:=el) (by simpa using h) j l hjl
  simp only [List.set_cons_succ,List.flatten_cons,ih]
  have e1:(i+1)*n+j=q.length+(i*n+j):=by rw [hq,Nat.add_mul];omega
  have e2:(i+1)*n+j+l.length=q.length+(i*n+j+l.length):=by omega
  rw [e1,show q.length+(i*n+j)+l.length=q.length+(i*n+j+l.length)by omega,List.take_length_add_append,List.drop_length_add_append]
  simp
def qR(E:Env)(t:TypeId)(rows:Rows)(p x v:PV)(u:Option (Nat × Row)):Prop:=
 (E.ty t).known=true∧v = .undef ∧
 match p with
 | .ptr id ver i j=>∃r,rows id=some r∧r.ver=ver ∧ ∃el,r.els[i]? = some el ∧ ∃l,cE x=some l∧(∀q∈l,iM rows q)∧l.length=(E.ty t).size∧j+l.length≤el.length ∧
   u=some (id,{ r with els:=r.els.set i (el.take j++l++el.drop (j+l.length)) })
 | _=>False
def iA(n:Nat):Nat→List (Nat × PV)→Option (List (List PV))
 | _,[]=>some []
 | k,(i,p)::ps =>
  match cE p with
  | some l=>if i=k∧l.length=n then(iA n (k+1) ps).map (l :: ·)else none
  | none=>none
def PU(t:TI)(rows:Rows)(len:Nat)(parts:List (Nat × PV))(v:PV):Prop:=
 match t with
 | .slice _ n _ _=>∃els,iA n 0 parts=some els∧len=els.length∧len≤4096∧n≤4096∧(∀e∈els,∀p∈e,bI (fz rows p)=true∧iM rows p)∧(∀e∈els,∀p∈e,aT p = [])∧v = .iK (els.map fun e=>e.map (fz rows))
 | _=>False
def Gs:=PV × Value→Prop
instance:Membership (PV × Value) Gs:=⟨fun G p=>G p⟩
def Gs.none:Gs:=fun _=>False
theorem Gs.KP{p:PV × Value}:¬p∈Gs.none:=id
def KQ(P:Program)(f:FuncId)(args:List PV)(rows:Rows)(clk:Nat)(R:PV→Rows→Nat→Prop):Prop:=
 (∃fn c,P.funcs[f]? = some fn∧fn.body=some c∧(fn.name == "runtime.NumGoroutine")=false) ∧
 ∀(w0:World) (S0:dX) (c:Cx) (vs:List Value) (G:Gs),Inv w0 S0 c→c.rows=rows→(∀v,c.used v→v<clk)→bB (aG c) args vs→(∀p∈G,aG c p.1 p.2) →
  Calls P f vs.toArray c.w fun e w'=>∃v c' r gY,e = .returned v∧c'.w=w'∧Inv w0 S0 c'∧(∀p∈G,aG c' p.1 p.2)∧R r c'.rows gY∧(∀v,c'.used v→v<gY)∧aG c' r v
def oR:Nat:=1000000
def fO(P:Program)(g:FuncId)(args:List PV)(e:TypeId)(n:Nat)(core dY:List PV)(r:PV):Prop:=
 ∀id ver (rows:Rows) clk,oR≤id→rows id=some ⟨ver,e,n,[core]⟩→ver<clk →
  KQ P g (.ptr id ver 0 0::args) rows clk (fun r' rows' _=>r'=r∧rows' id=some ⟨ver,e,n,[dY]⟩ ∧ ∀j,oR≤j→j≠id→rows' j=rows j)
def EE(k:Nat):PV→PV
 | .own id ver off len => .own (id+k) ver off len
 | .ptr id ver i j => .ptr (id+k) ver i j
 | p=>p
def shV(k:Nat):PV→PV
 | .ag l => .ag (l.map (EE k))
 | p=>EE k p
def oS(k:Nat)(r:Row):Row:={ r with els:=r.els.map fun e=>e.map (EE k) }
def WV(k:Nat)(c:Cx):Cx:={ c with β:=fun j=>if k≤j then c.β (j-k)else .slice none 0 0,rows:=fun j=>if k≤j then(c.rows (j-k)).map (oS k)else none }
theorem BB{k:Nat}{p:PV}(h:bI p=true):EE k p=p:=by cases p<;>simp_all [EE,bI]
theorem KR{k:Nat}{l:List PV}(h:∀p∈l,bI p=true):l.map (EE k)=l:=by
 conv=>rhs;rw [←List.map_id l]
 exact List.map_congr_left fun p hp=>BB (h p hp)
theorem aaJ{k:Nat}{p:PV}(h:dB p=true):shV k p=p:=by
 cases p with
 | ag l=>simp only [shV];rw [KR (List.all_eq_true.1 h)]
 | own=>simp [dB,bI]at h
 | ptr=>simp [dB,bI]at h
 | _=>rfl
theorem u3{k:Nat}{c:Cx}{j:Nat}:(WV k c).rows (j+k)=(c.rows j).map (oS k):=by simp [WV]
theorem BC{k:Nat}{c:Cx}{j:Nat}:(WV k c).β (j+k)=c.β j:=by simp [WV]
theorem u4{k:Nat}{c:Cx}{i:Nat}{r:Row}(h:(WV k c).rows i=some r):∃j r0,i=j+k∧c.rows j=some r0∧r=oS k r0:=by
 simp only [WV]at h
 split at h
 ·rename_i hk
  obtain⟨r0,h1,h2⟩:=Option.map_eq_some_iff.1 h
  exact⟨i-k,r0,by omega,h1,h2.symm⟩
 ·cases h
theorem aJ.sh{k:Nat}{c:Cx}{p:PV}{v:Value}(h:aJ c p v):aJ (WV k c) (EE k p) v:=by
 cases p with
 | own id ver off len =>
  simp only [EE,aJ]at h ⊢
  refine⟨h.1,fun r hr hv=>?_⟩
  rw [u3]at hr
  obtain⟨r0,h1,rfl⟩:=Option.map_eq_some_iff.1 hr
  have:=h.2 r0 h1 hv
  rw [BC]
  simpa [oS]using this
 | ptr id ver i j =>
  simp only [EE,aJ]at h ⊢
  refine⟨h.1,fun r hr hv=>?_⟩
  rw [u3]at hr
  obtain⟨r0,h1,rfl⟩:=Option.map_eq_some_iff.1 hr
  have:=h.2 r0 h1 hv
  rw [BC]
  simpa [oS]using this
 | undef=>trivial
 | _=>exact h
theorem aG.sh{k:Nat}{c:Cx}{p:PV}{v:Value}(h:aG c p v):aG (WV k c) (shV k p) v:=by
 cases p with
 | ag l =>
  obtain⟨vs,h1,h2⟩:=h
  refine⟨vs,h1,bB.cS (by simp [h2.length]) fun i a b ha hb=>?_⟩
  simp at ha
  obtain⟨q,hq,rfl⟩:=ha
  obtain⟨b',j8,hr⟩:=h2.get hq
  rw [hb]at j8;cases j8
  exact hr.sh
 | _=>simp only [aG,shV]at h ⊢;exact h.sh
theorem BD{α β:Type}{f:α→β}:∀ {l:List (List α)},(l.map fun e=>e.map f).flatten=l.flatten.map f
 | []=>rfl
 | e::l=>by
  show e.map f++(l.map fun e=>e.map f).flatten=(e++l.flatten).map f
  rw [BD,List.map_append]
theorem Inv.sh{w0:World}{S0:dX}{c:Cx}(hI:Inv w0 S0 c)(k:Nat):Inv w0 S0 (WV k c):=by
 refine⟨hI.below,hI.ext,hI.new,hI.lt0,fun i r hr=>?_,fun i r hr=>?_,fun i i' r r' g hr j9 hg hg'=>?_,hI.fin⟩
 ·obtain⟨j,r0,rfl,h1,rfl⟩:=u4 hr
  exact hI.clock j r0 h1
 ·obtain⟨j,r0,rfl,h1,rfl⟩:=u4 hr
  obtain⟨⟨xs,g1,g2,g3⟩,g4,g5,g6⟩:=hI.row j r0 h1
  rw [show oS k r0 = { r0 with els:=r0.els.map fun e=>e.map (EE k) }from rfl]
  refine⟨⟨xs,?_,?_,g3⟩,fun e he=>?_,fun g o hg=>?_,g6⟩
  ·rw [BC]
   show c.w.ownsRow _ _ _ _ (r0.els.map fun e=>e.map (EE k)).length xs
   rw [List.length_map];exact g1
  ·show bB _ (r0.els.map fun e=>e.map (EE k)).flatten xs
   rw [BD]
   refine bB.cS (by rw [List.length_map];exact g2.length) fun i a b ha hb=>?_
   simp only [List.getElem?_map,Option.map_eq_some_iff]at ha
   obtain⟨q,hq,rfl⟩:=ha
   obtain⟨b',j8,hr⟩:=g2.get hq
   rw [hb]at j8;cases j8
   exact hr.sh
  ·simp only [List.mem_map]at he
   obtain⟨e0,he0,rfl⟩:=he
   simp [g4 e0 he0]
  ·rw [BC]at hg
   exact g5 g o hg
 ·obtain⟨j,r0,rfl,h1,rfl⟩:=u4 hr
  obtain⟨j',r0',rfl,PR,rfl⟩:=u4 j9
  rw [BC]at hg hg'
  rw [hI.apart j j' r0 r0' g h1 PR hg hg']
def u5(c:Cx):PV→Prop
 | .own _ ver _ _=>c.used ver
 | .ptr _ ver _ _=>c.used ver
 | _=>True
theorem aJ.u5{c:Cx}{p:PV}{v:Value}(h:aJ c p v):u5 c p:=by
 cases p with
 | own=>exact h.1
 | ptr=>exact h.1
 | _=>trivial
theorem BE{c:Cx}{p:PV}(h:bI p=true):Pm.u5 c p:=by cases p<;>simp_all [Pm.u5,bI]
theorem aJ.awO{k:Nat}{c c' c'':Cx}(hS:c''.S=c'.S)(hw:c''.w=c'.w)(hu:c''.used=c.used)(hr:∀id r,c''.rows id=some r → ∃r',c'.rows (id+k)=some r'∧r'.ver=r.ver∧r'.size=r.size∧r'.els.length=r.els.length)(hβ:∀id,c''.β id=c'.β (id+k))
  {p:PV} {v:Value} (hp:Pm.u5 c p) (h:aJ c' (EE k p) v):aJ c'' p v:=by
 cases p with
 | own id ver off len =>
  simp only [EE,aJ]at h ⊢
  refine⟨by rw [hu];exact hp,fun r sY hv=>?_⟩
  obtain⟨r',h1,h2,h3,h4⟩:=hr id r sY
  have:=h.2 r' h1 (h2.trans hv)
  rw [hβ,←h3,←h4];exact this
 | ptr id ver i j =>
  simp only [EE,aJ]at h ⊢
  refine⟨by rw [hu];exact hp,fun r sY hv=>?_⟩
  obtain⟨r',h1,h2,h3,h4⟩:=hr id r sY
  have:=h.2 r' h1 (h2.trans hv)
  rw [hβ,←h3];exact this
 | undef=>trivial
 | _ =>
  simp only [EE,aJ]at h ⊢
  rw [hS,hw];exact h
theorem fO.frame{P:Program}{g:FuncId}{args:List PV}{e:TypeId}{n:Nat}{core dY:List PV}{r:PV}(h:fO P g args e n core dY r)(eQ:args.all dB=true)(hr:dB r=true)(hc:∀p∈core,bI p=true)(EC:∀p∈dY,bI p=true)
  {w0:World} {S0:dX} {c:Cx} (hI:Inv w0 S0 c) {id ver:Nat} (j5:c.rows id=some ⟨ver,e,n,[core]⟩) {vs:List Value} (A3:bB (aG c) (.ptr id ver 0 0::args) vs) :
  Calls P g vs.toArray c.w fun x w'=>∃v c',x = .returned v∧c'.w=w'∧c'.rows=dR c.rows id (some ⟨ver,e,n,[dY]⟩)∧c'.used=c.used∧(∀p v,aG c p v→aG c' p v)∧Inv w0 S0 c'∧aG c' r v:=by
 obtain⟨N,hN⟩:=hI.fin
 have aqv:(WV oR c).rows (id+oR)=some ⟨ver,e,n,[core]⟩:=by
  rw [u3,j5]
  simp [oS,KR hc]
 have jM:ver<N:=hN ver (hI.clock id _ j5)
 obtain⟨_,mE⟩:=h (id+oR) ver (WV oR c).rows N (Nat.le_add_left _ _) aqv jM
 have awP:bB (aG (WV oR c)) (.ptr (id+oR) ver 0 0::args) vs:=by
  refine bB.cS (by simpa using A3.length) fun i a b ha hb=>?_
  cases i with
  | zero =>
   simp at ha
   subst ha
   obtain⟨b',j8,sY⟩:=A3.get (k:=0) (a:=.ptr id ver 0 0) (by simp)
   rw [hb]at j8;cases j8
   exact aG.sh (k:=oR) sY
  | succ i =>
   simp at ha
   obtain⟨b',j8,sY⟩:=A3.get (k:=i+1) (a:=a) (by simpa using ha)
   rw [hb]at j8;cases j8
   have:=aG.sh (k:=oR) sY
   rwa [aaJ (List.all_eq_true.1 eQ a (List.mem_of_getElem? ha))]at this
 refine(mE w0 S0 (WV oR c) vs (fun x=>∃p,aG c p x.2∧x.1=shV oR p) (hI.sh oR) rfl hN awP ?_).mono ?_
 ·rintro⟨q,v⟩ ⟨p,hp,rfl⟩
  exact hp.sh
 rintro x w' ⟨v,c',r',gY,rfl,rfl,pL,hG',⟨rfl,gD,awQ⟩,WW,hv'⟩
 have hrw:∀j,c'.rows (j+oR)=if j=id then some ⟨ver,e,n,[dY]⟩else(c.rows j).map (oS oR):=fun j=>by
  by_cases hj:j=id
  ·subst hj;rw [if_pos rfl];exact gD
  ·rw [if_neg hj,awQ (j+oR) (Nat.le_add_left _ _) (by omega),u3]
 have bS:∀(j:Nat) (r:Row),(dR c.rows id (some ⟨ver,e,n,[dY]⟩)) j=some r → ∃r',c'.rows (j+oR)=some r'∧r'.ver=r.ver∧r'.size=r.size∧r'.els.length=r.els.length:=fun j r hj=>by
  rw [hrw j]
  by_cases EF:j=id
  ·rw [if_pos EF]
   subst EF
   simp only [fP,Option.some.injEq]at hj
   subst hj
   exact⟨_,rfl,rfl,rfl,rfl⟩
  ·rw [if_neg EF]
   rw [iT _ _ EF]at hj
   exact⟨oS oR r,by rw [hj];rfl,rfl,rfl,by simp [oS]⟩
 obtain⟨c2,e1,e2,e3,e4,e5⟩:∃c2:Cx,c2.S=c'.S∧c2.w=c'.w∧c2.β=(fun j=>c'.β (j+oR))∧c2.rows=dR c.rows id (some ⟨ver,e,n,[dY]⟩)∧c2.used=c.used:=⟨⟨c'.S,c'.w,_,_,c.used⟩,rfl,rfl,rfl,rfl,rfl⟩
 have back:∀ {p:PV} {v:Value},u5 c p→aJ c' (EE oR p) v→aJ c2 p v:=fun hp hh=>aJ.awO (c:=c) (c':=c') (k:=oR) e1 e2 e5 (by rw [e4];exact bS) (fun _=>by rw [e3]) hp hh
 refine⟨v,c2,rfl,e2,e4,e5,fun p v hp=>?_,⟨by rw [e2];exact pL.below,by rw [e1];exact pL.ext,by rw [e1,e2];exact pL.new,pL.lt0,fun j r hj=>?_,fun j r hj=>?_,fun i i' r r' g hri aqw hg hg'=>?_,by rw [e5];exact hI.fin⟩,?_⟩
 ·have h2:=hG' (shV oR p,v) ⟨p,hp,rfl⟩
  cases p with
  | ag l =>
   obtain⟨vs,h3,h4⟩:=hp
   obtain⟨D1,h5,h6⟩:=h2
   have hvv:vs=D1:=by rw [h3]at h5;simpa using h5
   subst hvv
   refine⟨vs,h3,bB.cS h4.length fun i a b ha hb=>?_⟩
   obtain⟨b',j8,q1⟩:=h4.get ha
   rw [hb]at j8;cases j8
   obtain⟨b',j8,q2⟩:=h6.get (k:=i) (a:=EE oR a) (by simp [ha])
   rw [hb]at j8;cases j8
   exact back q1.u5 q2
  | _=>simp only [aG,shV]at hp h2 ⊢;exact back hp.u5 h2
 ·rw [e4]at hj
  rw [e5]
  by_cases EF:j=id
  ·subst EF
   simp only [fP,Option.some.injEq]at hj
   subst hj
   exact(show c.used ver from hI.clock j _ j5)
  ·simp only [iT _ _ EF]at hj
   exact hI.clock j r hj
 ·rw [e4]at hj
  have eβ:c2.β j=c'.β (j+oR):=by rw [e3]
  by_cases EF:j=id
  ·subst EF
   simp only [fP,Option.some.injEq]at hj
   subst hj
   obtain⟨⟨xs,g1,g2,g3⟩,g4,g5,g6⟩:=pL.row (j+oR) _ gD
   refine⟨⟨xs,by rw [e2,eβ];exact g1,?_,g3⟩,g4,by rw [eβ,e1];exact g5,g6⟩
   refine bB.cS g2.length fun i a b ha hb=>?_
   obtain⟨b',j8,q⟩:=g2.get ha
   rw [hb]at j8;cases j8
   have hm:a∈dY:=by simpa using List.mem_of_getElem? ha
   have hpa:=EC a hm
   refine back (BE hpa) ?_
   rw [BB hpa];exact q
  ·simp only [iT _ _ EF]at hj
   have hj':c'.rows (j+oR)=some (oS oR r):=by rw [hrw j,if_neg EF,hj];rfl
   obtain⟨⟨xs,g1,g2,g3⟩,g4,g5,g6⟩:=pL.row (j+oR) _ hj'
   obtain⟨⟨ys,_,k2,_⟩,_⟩:=hI.row j r hj
   have el:(oS oR r).els.length=r.els.length:=List.length_map ..
   refine⟨⟨xs,by rw [e2,eβ,←el];exact g1,?_,g3⟩,fun e he=>?_,by rw [eβ,e1];exact g5,g6⟩
   ·have g2':bB (aJ c') (r.els.flatten.map (EE oR)) xs:=by rw [←BD];exact g2
    refine bB.cS (by have:=g2'.length;rwa [List.length_map]at this) fun i a b ha hb=>?_
    obtain⟨b',j8,q⟩:=g2'.get (k:=i) (a:=EE oR a) (by rw [List.getElem?_map,ha];rfl)
    rw [hb]at j8;cases j8
    obtain⟨_,_,q2⟩:=k2.get ha
    exact back q2.u5 q
   ·have:=g4 (e.map (EE oR)) (by simp only [oS,List.mem_map];exact⟨e,he,rfl⟩)
    rw [List.length_map]at this
    exact this
 ·rw [e4]at hri aqw
  rw [e3]at hg hg'
  obtain⟨t,ht,_⟩:=bS i r hri
  obtain⟨t',ht',_⟩:=bS i' r' aqw
  have:=pL.apart (i+oR) (i'+oR) t t' g ht ht' hg hg'
  omega
 ·cases r' with
  | ag l =>
   obtain⟨us,h1,h2⟩:=hv'
   refine⟨us,h1,bB.cS h2.length fun i a b ha hb=>?_⟩
   obtain⟨b',j8,q⟩:=h2.get ha
   rw [hb]at j8;cases j8
   have hpa:bI a=true:=List.all_eq_true.1 hr a (List.mem_of_getElem? ha)
   refine back (BE hpa) ?_
   rw [BB hpa];exact q
  | own=>simp [dB,bI]at hr
  | ptr=>simp [dB,bI]at hr
  | undef=>simp [dB,bI]at hr
  | _=>simp only [aG]at hv' ⊢;exact back trivial hv'
theorem fO.awR{P:Program}{g:FuncId}{args:List PV}{e:TypeId}{n:Nat}{core dY:List PV}{r:PV}(h:fO P g args e n core dY r)(eQ:args.all dB=true)(hr:dB r=true)(hc:∀p∈core,bI p=true)(EC:∀p∈dY,bI p=true)
  {id ver:Nat} {rows:Rows} {clk:Nat} (j5:rows id=some ⟨ver,e,n,[core]⟩):KQ P g (.ptr id ver 0 0::args) rows clk (fun r' rows' gY=>r'=r∧rows'=dR rows id (some ⟨ver,e,n,[dY]⟩)∧gY=clk):=by
 refine⟨(h oR 0 (fun j=>if j=oR then some ⟨0,e,n,[core]⟩else none) 1 (Nat.le_refl _) (if_pos rfl) (by decide)).1,fun w0 S0 c vs G hI hrw gC A3 hG=>?_⟩
 subst hrw
 refine(h.frame eQ hr hc EC hI j5 A3).mono ?_
 rintro x w' ⟨v,c',rfl,rfl,h1,h2,h3,h4,h5⟩
 exact⟨v,c',r,clk,rfl,rfl,h4,fun p hp=>h3 _ _ (hG p hp),⟨rfl,h1,rfl⟩,by rw [h2];exact gC,h5⟩
def u6(E:Env):PV→Bool
 | .fn g []=>E.HD g
 | _=>false
def KS(E:Env)(p:PV)(eU:List PV)(rows:Rows)(v:PV)(u:Option (Nat × Row)):Prop:=
 match p,eU with
 | .fn g [], .ptr id ver i j::rest=>(i=0∧j=0∧rest.all dB=true∧dB v=true) ∧ ∃e n core dY,rows id=some ⟨ver,e,n,[core]⟩∧fO E.P g rest e n core dY v∧(∀p∈core,bI p=true)∧(∀p∈dY,bI p=true)∧u=some (id,⟨ver,e,n,[dY]⟩)
 | _,_=>False
def akH(E:Env):PV→Bool
 | .fn g _=>E.writes g || E.HD g
 | _=>false
def u7(P:Program)(g:FuncId)(eU:List PV)(rows:Rows)(clk:Nat)(K:PV→Rows→Nat→Prop):Prop:=
 ∃R,KQ P g eU rows clk R ∧ ∀r rows' gY,R r rows' gY→K r rows' gY
def PW(E:Env)(p:PV)(eU:List PV)(rows:Rows)(clk:Nat)(K:PV→Rows→Nat→Prop):Prop:=
 match p with
 | .fn g []=>u7 E.P g eU rows clk K
 | _=>False
def yH(E:Env)(f:PV)(args:List PV)(v:PV):Prop:=
 match f with
 | .fn g bW=>(args.all dB=true)∧aF E.P g (args++bW) v
 | _=>False
def qS(rows:Rows)(y:PV)(l:List (List PV)):Prop:=
 match y with
 | .nil=>l = []
 | .sl k=>l=k
 | .iK k=>l=k
 | .own id ver off len=>∃r,rows id=some r∧r.ver=ver∧l=(r.els.drop off).take len
 | _=>False
def tF(t:TI)(rows:Rows)(x y v:PV)(u:Option (Nat × Row)):Prop:=
 match t,x with
 | .slice _ n _ _, .own id ver off len=>∃r,rows id=some r∧r.ver=ver∧r.size=n∧off+len≤r.els.length ∧ ∃l,qS rows y l∧(∀e∈l,e.length=n) ∧
   v = .int .i64 (min l.length len)∧u=some (id,{ r with els:=r.els.take off++l.take len++r.els.drop (off+min l.length len) })
 | _,_=>False
def ys(E:Env)(op:Op)(ρ:Operand→PV)(rows:Rows)(v:PV)(u:Option (Nat × Row)):Prop:=
 match op with
 | .call { callee:=.builtin .copy,args:=⟨[x,y]⟩,argTypes:=⟨[t,_]⟩ }=>tF (E.ty t) rows (ρ x) (ρ y) v u
 | .store t p x=>qR E t rows (ρ p) (ρ x) v u
 | .buildSlice t len parts=>PU (E.ty t) rows len (parts.toList.map fun x=>(x.1,ρ x.2)) v∧u=none
 | .call { callee:=.value f,args:=args,argTypes:=_ }=>if u6 E (ρ f)=true then KS E (ρ f) (args.toList.map fun x=>ρ x) rows v u else u=none∧yH E (ρ f) (args.toList.map fun x=>pz rows (ρ x)) v∧(args.toList.flatMap fun x=>dQ (ρ x)) = []
 | op=>yv E op ρ rows v∧u=none
def eF(rows:Rows):Option (Nat × Row)→Rows
 | none=>rows
 | some (id,r)=>dR rows id (some r)
section
variable {E:Env} {c:Cx} {w0:World} {S0:dX}
theorem PY(hI:Inv w0 S0 c){t:TypeId}{p x v:PV}{u:Option (Nat × Row)}{vp vx:Value}(hp:aG c p vp)(hx:aG c x vx)(h:qR E t c.rows p x v u) :
  v = .undef ∧ ∃w',(Instr.storeAt t vp vx).run E.P c.w = .ok () w'∧Inv w0 S0 { c with w:=w',rows:=eF c.rows u }∧sX c { c with w:=w',rows:=eF c.rows u }:=by
 obtain⟨hk,rfl,h⟩:=h
 refine⟨rfl,?_⟩
 split at h
 ·rename_i id ver i j
  obtain⟨r,hr,jM,el,mR,l,hl,kA,hlen,hjl,rfl⟩:=h
  simp only [aG,aJ]at hp
  obtain⟨g,n,cap,hβ,rfl⟩:=hp.2 r hr jM
  obtain⟨⟨xs,i5,fN,ail⟩,A8,hnS,lB⟩:=hI.row id r hr
  obtain⟨uW,hc2⟩:=mW hx hl kA
  have KO:vx.cells.toList.length=l.length:=uW.length.symm
  have aqx:=i5
  rw [hβ]at i5
  rcases i5.2 with ⟨h',_⟩ | ⟨g',jL,cur,h',WT,hg,PM,hcm,ED,KT⟩
  ·simp at h'
  ·simp only [Value.slice.injEq,Option.some.injEq,Addr.mk.injEq,and_true]at h'
   obtain⟨rfl,rfl,rfl⟩:=h'
   have hi:i<r.els.length:=(List.getElem?_eq_some_iff.1 mR).1
   have aaK:el.length=r.size:=A8 el (List.mem_of_getElem? mR)
   have hmul:i*r.size+r.size≤r.els.length*r.size:=by rw [←Nat.succ_mul];exact Nat.mul_le_mul_right _ hi
   have az3:r.els.length*r.size≤cap*r.size:=Nat.mul_le_mul_right _ PM
   have akI:i*r.size+j+l.length≤r.els.length*r.size:=by omega
   have iQ:=run_storeCells_at E.P g (i*r.size+j) r.e vx.cells.toList 0 cur c.w hg (by rw [KO];omega) hc2
   obtain⟨inf,_,hi1,_,hi2,_,_⟩:=((E.ok t).zero hk).ok
   have iU:(Instr.storeAt t (.pointer (some ⟨g,i*r.size+j,none⟩)) vx).run E.P c.w = .ok () (c.w.setRow g (cur.toList.take (i*r.size+j)++vx.cells.toList++cur.toList.drop (i*r.size+j+l.length)).toArray):=by
    have pG:vx.cells.size=inf.size:=by rw [hi2,←hlen,←KO];simp
    simp only [Instr.storeAt,Instr.sureAddr,Sem.run_bind,Sem.run_pure,Result.andThen_ok,storeVar,dD hi1,pG]
    simp only [Nat.add_zero,KO]at iQ
    simpa using iQ
   refine⟨_,iU,?_⟩
   have aaL:(c.w.setRow g (cur.toList.take (i*r.size+j)++vx.cells.toList++cur.toList.drop (i*r.size+j+l.length)).toArray).ownsRow w0.heap.size r.e r.size (c.β id) (r.els.set i (el.take j++l++el.drop (j+l.length))).length
     (xs.take (i*r.size+j)++vx.cells.toList++xs.drop (i*r.size+j+l.length)):=by
    rw [hβ,List.length_set]
    refine⟨?_, .inr ⟨g,cap,_,rfl,WT,setRow_heap _ g cur _ r.e _ hg,PM,hcm,?_,?_⟩⟩
    ·have:=i5.1
     simp [KO];omega
    ·simp [KO];omega
    ·rw [←KT]
     have awS:cur.toList.length=cap*r.size:=by simp [ED]
     simp only
     rw [List.take_append,List.take_append]
     have e1:List.take (r.els.length*r.size) (cur.toList.take (i*r.size+j))=cur.toList.take (i*r.size+j):=by
      rw [List.take_take,Nat.min_eq_right (by omega)]
     have e2:List.take (i*r.size+j) (cur.toList.take (r.els.length*r.size))=cur.toList.take (i*r.size+j):=by
      rw [List.take_take,Nat.min_eq_left (by omega)]
     rw [e1,e2]
     have e3:(cur.toList.take (i*r.size+j)).length=i*r.size+j:=by rw [List.length_take];omega
     rw [e3]
     have e4:List.take (r.els.length*r.size-(i*r.size+j)) vx.cells.toList=vx.cells.toList:=List.take_of_length_le (by rw [KO];omega)
     rw [e4]
     congr 1
     rw [List.length_append,e3,KO,List.drop_take]
   have BF:bB (aJ c) (r.els.set i (el.take j++l++el.drop (j+l.length))).flatten (xs.take (i*r.size+j)++vx.cells.toList++xs.drop (i*r.size+j+l.length)):=by
    rw [yG A8 mR j l hjl]
    exact((fN.take _).append uW).append (fN.drop _)
   have qT:c.w.grownBy (c.w.setRow g (cur.toList.take (i*r.size+j)++vx.cells.toList++cur.toList.drop (i*r.size+j+l.length)).toArray) (c.β id).ownBlock:=by
    rw [hβ]
    exact⟨rfl,rfl,rfl,by simp,fun k _ hk=>setRow_other _ g k _ (fun e=>hk (by simp [Value.ownBlock,e]))⟩
   exact hI.dR (r':={ r with els:=r.els.set i (el.take j++l++el.drop (j+l.length)) }) hr qT aaL BF (by
    intro y hy
    simp only [List.mem_append]at hy
    rcases hy with (hy | hy) | hy
    ·exact ail y (List.mem_of_mem_take hy)
    ·exact hc2 y hy
    ·exact ail y (List.mem_of_mem_drop hy)) (by
    intro e he
    rcases List.mem_or_eq_of_mem_set he with he | rfl
    ·exact A8 e he
    ·simp;omega) rfl rfl (by simp)
 ·exact h.elim
end
section
variable {E:Env} {c:Cx} {w0:World} {S0:dX}
theorem BG{n:Nat}:∀(vs:List (Nat × Value)) (k:Nat) (cells:Array Value),(∀j x,vs[j]? = some x→x.1=k+j∧x.2.cells.size=n)→cells.size=(k+vs.length)*n →
  ∃cT,Instr.fill (fun i=>some (i*n,n)) cells vs=some cT∧cT.toList=cells.toList.take (k*n)++vs.flatMap fun x=>x.2.cells.toList
 | [],k,cells,_,hs=>⟨cells,rfl,by simp at hs;rw [List.take_of_length_le (by simp [hs])];simp⟩
 | (i,v)::vs,k,cells,h,hs=>by
  obtain⟨h1,h2⟩:=h 0 (i,v) (by simp)
  simp only [Nat.add_zero]at h1 h2
  subst h1
  have akI:i*n+n≤cells.size:=by
   rw [hs,List.length_cons,←Nat.succ_mul]
   exact Nat.mul_le_mul_right _ (by omega)
  have hz3:v.cells.toList.zipIdx=v.cells.zipIdx.toList:=by simp
  have E8:=pJ (i*n) v.cells.toList 0 cells (by simp [h2];omega)
  have pG:(List.foldl (fun cs (x:Value × Nat)=>cs.setIfInBounds (i*n+x.2) x.1) cells v.cells.toList.zipIdx).size=cells.size:=by
   have:=congrArg List.length E8
   simp only [Array.length_toList]at this
   rw [this]
   simp [h2]
   omega
  obtain⟨cT,g1,g2⟩:=BG vs (i+1) (List.foldl (fun cs (x:Value × Nat)=>cs.setIfInBounds (i*n+x.2) x.1) cells v.cells.toList.zipIdx)
   (fun j x hx=>by have:=h (j+1) x (by simpa using hx);exact⟨by omega,this.2⟩) (by rw [pG,hs,List.length_cons];congr 1;omega)
  refine⟨cT,?_,?_⟩
  ·simp only [Instr.fill]
   rw [if_neg (by simp [h2];omega),←g1,hz3,Array.foldl_toList]
  ·rw [g2,E8]
   have e1:(cells.toList.take (i*n+0)).length=i*n:=by rw [List.length_take];simp;omega
   have e2:v.cells.toList.length=n:=by simp [h2]
   rw [show(i+1)*n=i*n+n by rw [Nat.add_mul];omega]
   rw [List.take_append,List.length_append,e1,e2,Nat.sub_self,List.take_zero,List.append_nil,List.take_of_length_le (by rw [List.length_append,e1,e2];exact Nat.le_refl _)]
   simp [List.append_assoc]
theorem oG{n:Nat}:∀ {ps:List (Nat × PV)} {k:Nat} {els:List (List PV)},iA n k ps=some els→els.length=ps.length∧(∀e∈els,e.length=n) ∧ ∀j x,ps[j]? = some x→x.1=k+j ∧ ∃e,els[j]? = some e∧cE x.2=some e
 | [],k,els,h=>by simp [iA]at h;subst h;simp
 | (i,p)::ps,k,els,h=>by
  simp only [iA]at h
  split at h
  ·rename_i l hl
   split at h
   ·rename_i A7
    rw [Option.map_eq_some_iff]at h
    obtain⟨zK,h1,rfl⟩:=h
    obtain⟨g1,g2,g3⟩:=oG h1
    refine⟨by simp [g1],fun e he=>?_,fun j x hx=>?_⟩
    ·simp at he
     rcases he with rfl | he
     ·exact A7.2
     ·exact g2 e he
    ·match j with
     | 0=>simp at hx;subst hx;exact⟨by simpa using A7.1,l,by simp,hl⟩
     | j+1 =>
      obtain⟨q1,q2⟩:=g3 j x (by simpa using hx)
      exact⟨by omega,by simpa using q2⟩
   ·cases h
  ·cases h
theorem Inv.awT(hI:Inv w0 S0 c)(o:Obj):Inv w0 S0 { c with w:=c.w.alloc o,S:=fun b k=>c.S b k∨b=c.w.heap.size }∧sX c { c with w:=c.w.alloc o,S:=fun b k=>c.S b k∨b=c.w.heap.size }:=by
 have:=hI.grow (w':=c.w.alloc o) (S':=fun b k=>c.S b k∨b=c.w.heap.size) ((Below.refl _ _).alloc (Nat.le_refl _) o) (fun _ _ h => .inl h) (fun b k h=>h.imp (fun h=>h) fun h=>by subst h;simp)
 exact this
theorem aaM{p:PV}{v:Value}(hI:Inv w0 S0 c)(h:aJ c p v)(tS:aT p = [])(w9:bI (fz c.rows p)=true):dC c.S c.w (fz c.rows p) v:=by
 have:=HJ hI (ids:=[]) (by simp) h (by simp [tS]) w9
 exact dC.mono (fun b o h=>by rcases h with h | ⟨id,gD,_⟩;exact h;cases gD) (fun _ _ _=>rfl) _ _ this
theorem BH(hI:Inv w0 S0 c){t e:TypeId}{n bb len:Nat}{z:List PV}(hE:E.ty t = .slice e n bb z){parts:Array (Nat × Operand)}{ρ:Operand→PV}{vρ:Operand→Value}(hρ:∀x,aG c (ρ x) (vρ x))
  {els:List (List PV)} (A8:iA n 0 (parts.toList.map fun x=>(x.1,ρ x.2))=some els) (hlen:len=els.length) (hsm:len≤4096) (hn:n≤4096)
  (w9:∀e∈els,∀p∈e,bI (fz c.rows p)=true∧iM c.rows p) (tS:∀e∈els,∀p∈e,aT p = []) :
  ∃v' c',(Instr.buildSlice t len (parts.map fun(i,x)=>(i,vρ x))).run E.P c.w = .ok v' c'.w∧c'.rows=c.rows∧c'.used=c.used∧Inv w0 S0 c'∧sX c c'∧aG c' (.iK (els.map fun e=>e.map (fz c.rows))) v':=by
 obtain⟨hu,hnp,HL,i,zv,hi,hz,hs,_,PQ,_⟩:=fX hE
 obtain⟨g1,g2,g3⟩:=oG A8
 have TQ:parts.size=els.length:=by rw [g1];simp
 have awV:zv.cells.size=n:=by rw [←HL,←PQ];simp
 have FD:∀j (x:Nat × Value),((parts.map fun(i,x)=>(i,vρ x)).toList)[j]? = some x→x.1=0+j ∧ ∃e,els[j]? = some e∧bB (aJ c) e x.2.cells.toList ∧ ∀u∈x.2.cells.toList,u.oneCell'=true:=by
  intro j x hx
  simp at hx
  obtain⟨a,b,fK,rfl⟩:=hx
  obtain⟨q1,e,q2,q3⟩:=g3 j (a,ρ b) (by simp;exact⟨a,b,fK,rfl,rfl⟩)
  have q4:=mW (hρ b) q3 (fun q hq=>(w9 e (List.mem_of_getElem? q2) q hq).2)
  exact⟨q1,e,q2,q4.1,q4.2⟩
 obtain⟨cT,f1,f2⟩:=BG (n:=n) (parts.map fun(i,x)=>(i,vρ x)).toList 0 ((Array.range (len*n)).map (zv.cells[· % zv.cells.size]!)) (fun j x hx=>by
  obtain⟨q1,e,q2,q3,_⟩:=FD j x hx
  refine⟨q1,?_⟩
  have:=q3.length
  rw [g2 e (List.mem_of_getElem? q2)]at this
  simpa using this.symm) (by simp [TQ,hlen])
 simp only [Nat.zero_mul,List.take_zero,List.nil_append]at f2
 have iU:(Instr.buildSlice t len (parts.map fun(i,x)=>(i,vρ x))).run E.P c.w = .ok (.slice (some ⟨c.w.heap.size,0,none⟩) len len) (c.w.alloc (.cells cT e)):=by
  have hbound:¬(16777216<len*n):=by
   have:len*n≤4096*4096:=Nat.mul_le_mul hsm hn
   omega
  by_cases h0:len*n=0
  ·have KU:len=0:=by
    rcases Nat.mul_eq_zero.1 h0 with h | h
    ·exact h
    ·omega
   have hp0:parts = #[]:=Array.eq_empty_of_size_eq_zero (by omega)
   subst hp0
   subst KU
   simp [Instr.fill]at f1
   subst f1
   have FE:Array.range 0 = #[]:=rfl
   simp [Instr.buildSlice,run_underlying hu,dD hi,newRow,Instr.fill,FE]
  ·have f1':Instr.fill (fun i=>some (i*n,n)) ((Array.range (len*n)).map (zv.cells[· % zv.cells.size]!)) (parts.toList.map fun x=>(x.1,vρ x.2))=some cT:=by simpa using f1
   simp only [Instr.buildSlice,Sem.run_bind,run_underlying hu,Result.andThen_ok,dD hi,hs]
   simp [h0,hbound,newRow,zeroValue,typeInfo,hi,hz,f1']
 obtain⟨pL,hA⟩:=hI.awT (.cells cT e)
 refine⟨_,{ c with w:=c.w.alloc (.cells cT e),S:=fun b k=>c.S b k∨b=c.w.heap.size },iU,rfl,rfl,pL,hA,?_⟩
 simp only [aG,aJ,dC]
 refine⟨some ⟨c.w.heap.size,0,none⟩,by rw [List.length_map,hlen],by rw [List.length_map,←hlen];simp [maxLen];omega, .inr ⟨_,_,rfl,?_⟩⟩
 refine oQ (n:=n) (by
  intro e' qJ
  simp at qJ
  obtain⟨e1,KV,rfl⟩:=qJ
  simpa using g2 e1 KV) fun k el hk=>?_
 simp at hk
 obtain⟨e1,KV,rfl⟩:=hk
 refine jS fun j p hj=>?_
 simp at hj
 obtain⟨q,hq,rfl⟩:=hj
 have hkl:k<els.length:=(List.getElem?_eq_some_iff.1 KV).1
 obtain⟨x,hx⟩:∃x,((parts.map fun(i,x)=>(i,vρ x)).toList)[k]? = some x:=⟨_,List.getElem?_eq_getElem (by simp;omega)⟩
 obtain⟨_,e2,q2,q3,q4⟩:=FD k x hx
 rw [KV]at q2;cases q2
 obtain⟨u,hu1,hu2⟩:=q3.get hq
 have aqz:cT.toList[k*n+j]? = some u:=by
  have e3:cT.toList=((parts.map fun(i,x)=>(i,vρ x)).toList.map fun x=>x.2.cells.toList).flatten:=by rw [f2,List.flatMap_def]
  rw [e3]
  refine jT (n:=n) (fun e he=>?_) (i:=k) (e:=x.2.cells.toList) (by rw [List.getElem?_map,hx];rfl) hu1
  simp only [List.mem_map]at he
  obtain⟨y,hy,rfl⟩:=he
  obtain⟨k',wX⟩:=List.getElem?_of_mem hy
  obtain⟨_,e4,q5,q6,_⟩:=FD k' y wX
  rw [←q6.length];exact g2 e4 (List.mem_of_getElem? q5)
 refine⟨u,?_, .inr rfl,q4 u (List.mem_of_getElem? hu1),?_⟩
 ·have:=heap_alloc_new c.w (.cells cT e)
  rw [cell_of_row _ _ _ _ _ _ this]
  simpa using aqz
 ·exact dC.mono hA.S hA.w _ _ (aaM hI hu2 (tS e1 (List.mem_of_getElem? KV) q (List.mem_of_getElem? hq)) (w9 e1 (List.mem_of_getElem? KV) q (List.mem_of_getElem? hq)).1)
end
section
variable {E:Env} {c:Cx} {w0:World} {S0:dX}
theorem kB{P:Program}{g:FuncId}{fn:Func}{b:Code}(h1:P.funcs[g]? = some fn)(h2:fn.body=some b) (h3:(fn.name == "runtime.NumGoroutine") = false) (args:Array Value) (w:World) :
  (callFunc g args).run P w = .ok (.enter g args) w:=by
 simp only [callFunc,Sem.run_bind,program,Sem.run,Result.andThen_ok,h1,h2,h3]
 simp
theorem yI(hI:Inv w0 S0 c){ids:List Nat}(hp:∀id∈ids,∀r,c.rows id=some r → ∀e∈r.els,∀p∈e,bI p=true){pf:PV}{vf:Value}{TR:List PV}{yJ:List Value}
  (hf:aG c pf vf) (eQ:bB (aG c) TR yJ) (tS:∀p∈TR,∀id∈dQ p,id∈ids) {v:PV} (h:yH E pf (TR.map (pz c.rows)) v) {K:Value→World→Prop}
  (hK:∀v' c',c'.rows=FC c.rows ids→c'.used=c.used→sX c c'→Inv w0 S0 c'→aG c' v v'→K v' c'.w) :
  ∃g cs,vf = .func (.func g) #[] cs∧(callFunc g (yJ.toArray++cs)).run E.P c.w = .ok (.enter g (yJ.toArray++cs)) c.w ∧
   Calls E.P g (yJ.toArray++cs) c.w fun e w'=>∃v',e = .returned v'∧K v' w':=by
 unfold yH at h
 split at h
 ·rename_i g bW
  obtain⟨tG,⟨fn,b,h1,h2,h3⟩,PZ⟩:=h
  simp only [aG,aJ,dC]at hf
  obtain⟨cs,rfl,ED⟩:=hf
  refine⟨g,cs.toArray,rfl,kB h1 h2 h3 _ _,?_⟩
  have KE:=hI.freeze ids
  have dN:∀b o,PT c ids b o→b<c.w.heap.size:=fun b o hb=>KE.lt (c:=D2 c ids) hb
  have fN:bO (PT c ids) c.w (TR.map (pz c.rows)++bW) (yJ++cs):=by
   refine cM.2 (bB.append (bB.cS (by simp [eQ.length]) fun k p u wY hu=>?_) ?_)
   ·simp at wY
    obtain⟨q,hq,rfl⟩:=wY
    obtain⟨u',g1,g2⟩:=eQ.get hq
    rw [hu]at g1;cases g1
    exact HK hI hp g2 (tS q (List.mem_of_getElem? hq)) (List.all_eq_true.1 tG _ (by simp;exact⟨q,List.mem_of_getElem? hq,rfl⟩))
   ·exact(cM.1 ED).mono fun a b fK=>dC.mono (fun _ _ h => .inl h) (fun _ _ _=>rfl) a b fK
  have:=PZ c.w (PT c ids) (yJ++cs) dN fN
  rw [show(yJ++cs).toArray=yJ.toArray++cs.toArray by simp]at this
  refine this.mono ?_
  rintro e w' ⟨v',rfl,hb,S',g1,g2,g3⟩
  refine⟨v',rfl,?_⟩
  obtain⟨hI2,hA2⟩:=KE.grow (c:=D2 c ids) hb g1 g2
  have hA:sX c { D2 c ids with S:=S',w:=w' }:=by
   have hA1:=mI c ids
   exact⟨fun b o h=>g1 b o (hA1.S b o h),fun b o h=>(hA2.w b o (hA1.S b o h)).trans (hA1.w b o h),fun _ h=>h,hA1.rows⟩
  exact hK v' { D2 c ids with S:=S',w:=w' } rfl rfl hA hI2 (aG.jI g3)
 ·exact h.elim
structure oT(w0:World)(S0:dX)(n:Nat)(G:Gs)(U:Nat→Prop)(f:Nat→PV)(rows:Rows)(a:Act)(w:World):Prop where
 ex:∃c:Cx,c.w=w∧c.rows=rows∧(∀v,c.used v→U v)∧Inv w0 S0 c∧(∀s,aG c (f s) (a.tmps.getD s undef)) ∧ ∀p∈G,aG c p.1 p.2
 size:a.tmps.size=n
 defers:a.defers = []
abbrev Rel(w0:World)(S0:dX)(n:Nat)(G:Gs)(σ:PS)(a:Act)(w:World):Prop:=oT w0 S0 n G (fun v=>v<σ.clock) σ.f σ.rows a w
theorem oT.mono{w0:World}{S0:dX}{n:Nat}{G:Gs}{U U':Nat→Prop}{f:Nat→PV}{rows:Rows}{a:Act}{w:World}(hU:∀v,U v→U' v)(h:oT w0 S0 n G U f rows a w):oT w0 S0 n G U' f rows a w:=by
 obtain⟨⟨c,h1,h2,h3,h4⟩,h5,h6⟩:=h
 exact⟨⟨c,h1,h2,fun v hv=>hU v (h3 v hv),h4⟩,h5,h6⟩
theorem WX{n:Nat}{G:Gs}{U:Nat→Prop}{f:Nat→PV}{a:Act}{c':Cx}{v:PV}{v':Value}{d:Option Tmp}(hf:∀s,aG c (f s) (a.tmps.getD s undef))(hG:∀p∈G,aG c p.1 p.2)(hn:a.tmps.size=n)(fL:a.defers = [])
  (hA:∀p v,aG c p v→aG c' p v) (hI:Inv w0 S0 c') (hv:aG c' v v') (hd:∀t,d=some t→t<n) {f':Nat→PV} {rows:Rows} (h1:f'=put f d v) (h2:rows=c'.rows) (h3:∀v,c'.used v→U v):oT w0 S0 n G U f' rows (a.put d v') c'.w:=by
 refine⟨⟨c',rfl,h2.symm,h3,hI,fun s=>?_,fun p hp=>hA _ _ (hG p hp)⟩,?_,?_⟩
 ·rw [h1]
  cases d with
  | none=>exact hA _ _ (hf s)
  | some t =>
   simp only [put,Act.put]
   by_cases hs:s=t
   ·subst hs
    have:s<a.tmps.size:=by rw [hn];exact hd s rfl
    simpa [this]using hv
   ·rw [if_neg hs]
    have:=hA _ _ (hf s)
    simpa [Array.getElem?_setIfInBounds_ne (Ne.symm hs)]using this
 ·cases d<;>simp [Act.put,hn]
 ·cases d<;>simp [Act.put,fL]
theorem qU{n:Nat}{G:Gs}{U:Nat→Prop}{f:Nat→PV}{a:Act}{c':Cx}{v:PV}{v':Value}{d:Option Tmp}(hf:∀s,aG c (f s) (a.tmps.getD s undef))(hG:∀p∈G,aG c p.1 p.2)(hn:a.tmps.size=n)(fL:a.defers = [])
  (hA:sX c c') (hI:Inv w0 S0 c') (hv:aG c' v v') (hd:∀t,d=some t→t<n) {f':Nat→PV} {rows:Rows} (h1:f'=put f d v) (h2:rows=c'.rows) (h3:∀v,c'.used v→U v):oT w0 S0 n G U f' rows (a.put d v') c'.w:=by
 refine⟨⟨c',rfl,h2.symm,h3,hI,fun s=>?_,fun p hp=>aG.s9 hA _ _ (hG p hp)⟩,?_,?_⟩
 ·rw [h1]
  cases d with
  | none=>exact aG.s9 hA _ _ (hf s)
  | some t =>
   simp only [put,Act.put]
   by_cases hs:s=t
   ·subst hs
    have:s<a.tmps.size:=by rw [hn];exact hd s rfl
    simpa [this]using hv
   ·rw [if_neg hs]
    have:=aG.s9 hA _ _ (hf s)
    simpa [Array.getElem?_setIfInBounds_ne (Ne.symm hs)]using this
 ·cases d<;>simp [Act.put,hn]
 ·cases d<;>simp [Act.put,fL]
theorem r7{n:Nat}{G:Gs}{f:Nat→PV}{a:Act}{c':Cx}{v:PV}{v':Value}{d:Option Tmp}(hf:∀s,aG c (f s) (a.tmps.getD s undef))(hG:∀p∈G,aG c p.1 p.2)(hn:a.tmps.size=n)(fL:a.defers = [])
  (hA:sX c c') (hI:Inv w0 S0 c') (hv:aG c' v v') (hd:∀t,d=some t→t<n) {σ:PS} (h1:σ.f=put f d v) (h2:σ.rows=c'.rows) (h3:∀v,c'.used v→v<σ.clock):Rel w0 S0 n G σ (a.put d v') c'.w:=
 qU hf hG hn fL hA hI hv hd h1 h2 h3
theorem KW{n:Nat}{G:Gs}{f:Nat→PV}{a:Act}{c':Cx}{v:PV}{v':Value}{d:Option Tmp}(hf:∀s,aG c' (f s) (a.tmps.getD s undef))(hG:∀p∈G,aG c' p.1 p.2)(hn:a.tmps.size=n)(fL:a.defers = [])
  (hI:Inv w0 S0 c') (hv:aG c' v v') (hd:∀t,d=some t→t<n) {σ:PS} (h1:σ.f=put f d v) (h2:σ.rows=c'.rows) (h3:∀v,c'.used v→v<σ.clock):Rel w0 S0 n G σ (a.put d v') c'.w:=
 r7 hf hG hn fL (sX.refl c') hI hv hd h1 h2 h3
theorem oU{α:Type}{n:Nat}:∀ {l:List (List α)},(∀e∈l,e.length=n) → ∀k,(l.take k).flatten=l.flatten.take (k*n)∧(l.drop k).flatten=l.flatten.drop (k*n)
 | [],_,k=>by simp
 | e::l,_,0=>by simp
 | e::l,h,k+1=>by
  have he:=h e (by simp)
  have ih:=oU (l:=l) (fun e' qJ=>h e' (List.mem_cons_of_mem _ qJ)) k
  have h1:(k+1)*n=e.length+k*n:=by rw [he,Nat.add_mul];omega
  simp only [List.take_succ_cons,List.drop_succ_cons,List.flatten_cons,h1,List.take_length_add_append,List.drop_length_add_append,ih.1,ih.2,and_self]
theorem tT(hI:Inv w0 S0 c){y:PV}{vy:Value}{l:List (List PV)}{n:Nat}(hy:aG c y vy)(h:qS c.rows y l)(hn:∀e∈l,e.length=n) :
  ∃A cap news,vy = .slice A l.length cap∧news.length=l.length*n∧bB (aJ c) l.flatten news∧(∀u∈news,u.oneCell'=true)∧(A=none→l = []) ∧
   ∀a,A=some a → ∀j u,news[j]? = some u→c.w.cell? (a.add j)=some u:=by
 have fl:∀ {l:List (List PV)},(∀e∈l,e.length=n)→l.flatten.length=l.length*n:=by
  intro l
  induction l with
  | nil=>intro _;simp
  | cons e l ih=>intro h;rw [List.flatten_cons,List.length_append,ih (fun e he=>h e (by simp [he])),h e (by simp),List.length_cons,Nat.add_mul];omega
 have at_:∀(g o cap:Nat),vy = .slice (some ⟨g,o,none⟩) l.length cap →
   (∀k e,l[k]? = some e → ∀j p,e[j]? = some p → ∃v,c.w.cell? ⟨g,o+(k*n+j),none⟩=some v∧v.oneCell'=true∧aJ c p v) → ∃A cap news,vy = .slice A l.length cap∧news.length=l.length*n∧bB (aJ c) l.flatten news∧(∀u∈news,u.oneCell'=true)∧(A=none→l = []) ∧
   ∀a,A=some a → ∀j u,news[j]? = some u→c.w.cell? (a.add j)=some u:=by
  intro g o cap hv hc
  have cellAt:∀k,k<l.length*n → ∃p v,l.flatten[k]? = some p∧c.w.cell? ⟨g,o+k,none⟩=some v∧v.oneCell'=true∧aJ c p v:=by
   intro k hk
   have hn0:0<n:=by
    rcases Nat.eq_zero_or_pos n with h | h
    ·subst h;simp at hk
    ·exact h
   have hq:k/n<l.length:=(Nat.div_lt_iff_lt_mul hn0).2 hk
   have he:=hn l[k/n] (List.getElem_mem hq)
   have hj:k%n<l[k/n].length:=by rw [he];exact Nat.mod_lt _ hn0
   have TS:k/n*n+k%n=k:=by rw [Nat.mul_comm];exact Nat.div_add_mod k n
   obtain⟨v,h1,h2,h3⟩:=hc (k/n) _ (List.getElem?_eq_getElem hq) (k%n) _ (List.getElem?_eq_getElem hj)
   rw [TS]at h1
   have:=jT hn (List.getElem?_eq_getElem hq) (List.getElem?_eq_getElem hj)
   rw [TS]at this
   exact⟨_,v,this,h1,h2,h3⟩
  have hnl:((List.range (l.length*n)).map fun k=>(c.w.cell? ⟨g,o+k,none⟩).getD undef).length=l.length*n:=by simp
  have aaD:∀k u,((List.range (l.length*n)).map fun k=>(c.w.cell? ⟨g,o+k,none⟩).getD undef)[k]? = some u→k<l.length*n ∧ ∃p,l.flatten[k]? = some p∧c.w.cell? ⟨g,o+k,none⟩=some u∧u.oneCell'=true∧aJ c p u:=by
   intro k u hu
   have hk:k<l.length*n:=by rw [←hnl];exact(List.getElem?_eq_some_iff.1 hu).1
   obtain⟨p,v,h1,h2,h3,h4⟩:=cellAt k hk
   rw [List.getElem?_map,List.getElem?_range hk]at hu
   simp only [Option.map_some,h2,Option.getD_some,Option.some.injEq]at hu
   subst hu
   exact⟨hk,p,h1,h2,h3,h4⟩
  refine⟨some ⟨g,o,none⟩,cap,_,hv,hnl,bB.cS (by rw [hnl,fl hn]) fun k p u hp hu=>?_,fun u hu=>?_,by simp,fun a ha j u hu=>?_⟩
  ·obtain⟨_,p',h1,_,_,h4⟩:=aaD k u hu
   rw [hp]at h1;cases h1;exact h4
  ·obtain⟨k,hk⟩:=List.getElem?_of_mem hu
   exact(aaD k u hk).2.choose_spec.2.2.1
  ·cases ha
   rw [i3]
   exact(aaD j u hu).2.choose_spec.2.1
 have empty:∀A cap,vy = .slice A l.length cap→l = [] → ∃A cap news,vy = .slice A l.length cap∧news.length=l.length*n∧bB (aJ c) l.flatten news∧(∀u∈news,u.oneCell'=true)∧(A=none→l = []) ∧
   ∀a,A=some a → ∀j u,news[j]? = some u→c.w.cell? (a.add j)=some u:=by
  rintro A cap hv rfl
  exact⟨A,cap,[],hv,by simp,trivial,by simp,by simp,by simp⟩
 unfold qS at h
 split at h
 ·subst h
  simp only [aG,aJ,dC]at hy
  exact empty none 0 (by rw [hy];rfl) rfl
 ·subst h
  simp only [aG,aJ,dC]at hy
  obtain⟨A,cap,rfl,_,_,hh⟩:=hy
  rcases hh with hh | ⟨g,o,rfl,hr⟩
  ·exact empty A cap rfl hh
  ·refine at_ g o cap rfl fun k e hk j p hj=>?_
   obtain⟨v,h1,_,h3,h4⟩:=iL (jK hr hn hk) hj
   exact⟨v,by rw [←Nat.add_assoc];exact h1,h3,aJ.jI h4⟩
 ·subst h
  simp only [aG,aJ,dC]at hy
  obtain⟨A,rfl,_,hh⟩:=hy
  rcases hh with hh | ⟨g,o,rfl,hr⟩
  ·exact empty A _ rfl hh
  ·refine at_ g o _ rfl fun k e hk j p hj=>?_
   obtain⟨v,h1,_,h3,h4⟩:=iL (jK hr hn hk) hj
   exact⟨v,by rw [←Nat.add_assoc];exact h1,h3,aJ.jI h4⟩
 ·rename_i id ver off len
  obtain⟨r,hr,jM,rfl⟩:=h
  simp only [aG,aJ]at hy
  obtain⟨hle,hy⟩:=hy.2 r hr jM
  have D3:((r.els.drop off).take len).length=len:=by simp;omega
  rw [←D3]at hy
  have pG:∀k e,((r.els.drop off).take len)[k]? = some e→r.els[off+k]? = some e∧r.size=n:=by
   intro k e hk
   have wX:=hk
   rw [List.getElem?_take]at hk
   split at hk
   ·rw [List.getElem?_drop]at hk
    refine⟨hk,?_⟩
    rw [←hn e (List.mem_of_getElem? wX)]
    exact((hI.row id r hr).len e (List.mem_of_getElem? hk)).symm
   ·cases hk
  rcases hy with ⟨h0,A,m,cap,hβ,rfl⟩ | ⟨lB,g,m,cap,A,hβ,hoc,rfl,ha⟩
  ·subst h0
   rcases Nat.eq_zero_or_pos len with h0 | h0
   ·exact empty A cap rfl (List.eq_nil_of_length_eq_zero (by rw [D3];exact h0))
   ·obtain⟨g,jL,qQ⟩:=qP hI hr (by omega)
    rw [hβ]at qQ
    simp only [Value.slice.injEq]at qQ
    obtain⟨rfl,rfl,rfl⟩:=qQ
    refine at_ g 0 _ rfl fun k e hk j p hj=>?_
    obtain⟨hk2,hs⟩:=pG k e hk
    have:=uZ hI hr hβ hk2 hj
    rw [hs]at this
    simpa using this
  ·rcases ha with ha | rfl
   ·exact empty _ _ rfl (List.eq_nil_of_length_eq_zero ha)
   ·refine at_ g _ _ rfl fun k e hk j p hj=>?_
    obtain⟨hk2,hs⟩:=pG k e hk
    have:=uZ hI hr hβ hk2 hj
    rw [hs]at this ⊢
    rw [show off*n+(k*n+j)=(off+k)*n+j by rw [Nat.add_mul];omega];exact this
 ·exact h.elim
end
section
variable {E:Env} {c:Cx} {w0:World} {S0:dX}
theorem HM{P:Program}(w:World)(dT sT ty elem:TypeId)(sz g o akJ akK:Nat)(A:Option Addr)(P3 akL:Nat)(cur:Array Value)(t:TypeId)(cs:List Value)
  (hu:P.underlying dT=some (.slice elem)) (hs:(P.info? elem).map (·.size)=some sz)
  (hg:w.heap[g]? = some (.cells cur t (0,0))) (hn:cs.length=Nat.min P3 akJ*sz)
  (awX:∀a,A=some a → ∀j v,cs[j]? = some v→w.cell? (a.add j)=some v) (hA:A=none→cs = []) (akI:o+cs.length≤cur.size) (h1:∀v∈cs,v.oneCell'=true) :
  (Builtin.copy_ #[dT,sT] ty #[.slice (some ⟨g,o,none⟩) akJ akK, .slice A P3 akL]).run P w =
   .ok (goInt (Nat.min P3 akJ:Nat)) (w.setRow g (cur.toList.take o++cs++cur.toList.drop (o+cs.length)).toArray):=by
 cases hq:P.info? elem with
 | none=>simp [hq]at hs
 | some i =>
  have hi:i.size=sz:=by simpa [hq]using hs
  cases A with
  | some a =>
   have hl:=run_loadCells_list (P:=P) w a cs (awX a rfl)
   have iQ:=run_storeCells_at P g o t cs 0 cur w hg (by simpa using akI) h1
   simp [Builtin.copy_,run_underlying hu,Builtin.lenOf,Builtin.firstCells,Go.sizeOf,typeInfo,hq,hi,←hn,hl,iQ]
  | none =>
   have:=hA rfl
   subst this
   have aqB:=setRow_self w g cur t (0,0) hg
   simp [Builtin.copy_,run_underlying hu,Builtin.lenOf,Builtin.firstCells,Go.sizeOf,typeInfo,hq,storeCells,List.take_append_drop,aqB]
theorem EG{P:Program}(w:World)(dT sT ty elem:TypeId)(D:Option Addr)(akK:Nat)(A:Option Addr)(P3 akL sz:Nat)
  (hu:P.underlying dT=some (.slice elem)) (hs:(P.info? elem).map (·.size)=some sz) :
  (Builtin.copy_ #[dT,sT] ty #[.slice D 0 akK, .slice A P3 akL]).run P w = .ok (goInt (0:Nat)) w:=by
 cases hq:P.info? elem with
 | none=>simp [hq]at hs
 | some i=>cases A<;>cases D<;>simp [Builtin.copy_,run_underlying hu,Builtin.lenOf,Builtin.firstCells,Go.sizeOf,typeInfo,hq,storeCells,loadCells,loadCellsFrom,show Nat.min P3 0=0 from Nat.min_zero P3]
theorem WY(hI:Inv w0 S0 c){t t2 type:TypeId}{x y v:PV}{u:Option (Nat × Row)}{vx vy:Value}(hx:aG c x vx)(hy:aG c y vy)(h:tF (E.ty t) c.rows x y v u) :
  ∃v' c',(Builtin.copy_ #[t,t2] type #[vx,vy]).run E.P c.w = .ok v' c'.w∧c'.rows=eF c.rows u∧c'.used=c.used∧sX c c'∧Inv w0 S0 c'∧aG c' v v':=by
 unfold tF at h
 split at h
 ·rename_i e sz b z id ver off len hE
  obtain⟨r,sY,jM,pG,hle,l,hl,hl1,rfl,rfl⟩:=h
  have gx:=hx
  simp only [aG,aJ]at gx
  obtain⟨_,gx⟩:=gx.2 r sY jM
  obtain⟨hu,lB,HL,i,zv,hi,hz,hs,hby,PQ,hzo⟩:=fX hE
  obtain⟨A,cap,news,hvy,g1,g2,g3,g4,g5⟩:=tT hI hy hl hl1
  by_cases u9:len=0
  ·-- nothing
   subst u9
   obtain⟨D,P4,hvx⟩:∃D P4,vx = .slice D 0 P4:=by
    rcases gx with ⟨h0,A',m,aff,HN,hv⟩ | ⟨_,g2,m,aff,A',HN,_,hv,ha⟩
    ·exact⟨_,_,hv⟩
    ·exact⟨_,_,hv⟩
   have iU:=EG (P:=E.P) c.w t t2 type e D P4 A l.length cap sz hu (by simp [hi,hs])
   have j5:dR c.rows id (some { r with els:=r.els.take off++l.take 0++r.els.drop (off+min l.length 0) })=c.rows:=by
    funext j
    simp only [dR]
    split
    ·rename_i hj
     subst hj
     rw [sY]
     simp
    ·rfl
   refine⟨_,c,by rw [hvx,hvy];exact iU,?_,rfl,sX.refl c,hI,cL.2 (by
    simp only [goInt]
    congr 1
    omega)⟩
   show c.rows=dR c.rows id _
   rw [j5]
  have aqC:0<len:=by omega
  obtain⟨⟨xs,i5,fN,kA⟩,A8,hnS,_⟩:=hI.row id r sY
  obtain⟨g,jL,hβ⟩:=qP hI sY (by omega)
  obtain⟨P4,hvx⟩:∃P4,vx = .slice (some ⟨g,off*sz,none⟩) len P4:=by
   rcases gx with ⟨h0,A',m,aff,HN,hv⟩ | ⟨_,g2,m,aff,A',HN,_,hv,ha⟩
   ·rw [hβ]at HN
    simp only [Value.slice.injEq]at HN
    obtain⟨rfl,_,_⟩:=HN
    exact⟨_,by rw [hv,h0,Nat.zero_mul]⟩
   ·rw [hβ]at HN
    simp only [Value.slice.injEq,Option.some.injEq,Addr.mk.injEq,and_true]at HN
    obtain⟨rfl,_,_⟩:=HN
    rcases ha with ha | ha
    ·omega
    ·exact⟨_,by rw [hv,ha,pG]⟩
  have aqx:=i5
  rw [hβ]at i5
  rcases i5.2 with ⟨h',_⟩ | ⟨g',aqD,cur,h',WT,hg,PM,hcm,ED,KT⟩
  ·simp at h'
  ·simp only [Value.slice.injEq,Option.some.injEq,Addr.mk.injEq,and_true]at h'
   obtain⟨rfl,_,rfl⟩:=h'
   rw [pG]at ED KT
   have hnl:news.length=l.length*sz:=g1
   have hml:Nat.min l.length len≤len:=Nat.min_le_right _ _
   have hmm:Nat.min l.length len*sz=Nat.min (l.length*sz) (len*sz):=by
    show min l.length len*sz=min (l.length*sz) (len*sz)
    rcases Nat.le_total l.length len with hq | hq
    ·rw [Nat.min_eq_left hq,Nat.min_eq_left (Nat.mul_le_mul_right _ hq)]
    ·rw [Nat.min_eq_right hq,Nat.min_eq_right (Nat.mul_le_mul_right _ hq)]
   have WZ:(news.take (len*sz)).length=Nat.min l.length len*sz:=by
    rw [List.length_take,hnl,hmm];exact Nat.min_comm _ _
   have KX:off*sz+len*sz≤r.els.length*sz:=by rw [←Nat.add_mul];exact Nat.mul_le_mul_right _ hle
   have aCU:r.els.length*sz≤jL*sz:=Nat.mul_le_mul_right _ PM
   have aCV:Nat.min l.length len*sz≤len*sz:=Nat.mul_le_mul_right _ hml
   have iU:=HM (P:=E.P) c.w t t2 type e sz g (off*sz) len P4 A l.length cap cur r.e (news.take (len*sz)) hu (by simp [hi,hs]) hg WZ
    (fun ad had j v hj=>g5 ad had j v (by rw [List.getElem?_take]at hj;split at hj;exact hj;cases hj)) (fun hA=>by
     have:=g4 hA
     subst this
     have:news = []:=List.eq_nil_of_length_eq_zero (by simpa using hnl)
     simp [this]) (by rw [WZ];omega) (fun v hv=>g3 v (List.mem_of_mem_take hv))
   have TT:∀e∈r.els,e.length=sz:=fun e he=>by rw [A8 e he,pG]
   have ain:min l.length len=Nat.min l.length len:=rfl
   have aaL:(c.w.setRow g (cur.toList.take (off*sz)++news.take (len*sz)++cur.toList.drop (off*sz+(news.take (len*sz)).length)).toArray).ownsRow w0.heap.size r.e r.size (c.β id) (r.els.take off++l.take len++r.els.drop (off+min l.length len)).length
     (xs.take (off*sz)++news.take (len*sz)++xs.drop (off*sz+(news.take (len*sz)).length)):=by
    have D3:(r.els.take off++l.take len++r.els.drop (off+min l.length len)).length=r.els.length:=by simp;omega
    have hxl:xs.length=r.els.length*sz:=by rw [i5.1,pG]
    rw [hβ,D3]
    refine⟨?_, .inr ⟨g,jL,_,rfl,WT,setRow_heap _ g cur _ r.e _ hg,PM,hcm,?_,?_⟩⟩
    ·rw [pG,List.length_append,List.length_append,WZ,List.length_take,List.length_drop];omega
    ·rw [pG,List.size_toArray,List.length_append,List.length_append,WZ,List.length_take,List.length_drop,Array.length_toList];omega
    ·rw [pG,←KT]
     have awS:cur.toList.length=jL*sz:=by simp [ED]
     simp only
     rw [List.take_append,List.take_append]
     have e1:List.take (r.els.length*sz) (cur.toList.take (off*sz))=cur.toList.take (off*sz):=by rw [List.take_take,Nat.min_eq_right (by omega)]
     have e2:List.take (off*sz) (cur.toList.take (r.els.length*sz))=cur.toList.take (off*sz):=by rw [List.take_take,Nat.min_eq_left (by omega)]
     rw [e1,e2]
     have e3:(cur.toList.take (off*sz)).length=off*sz:=by rw [List.length_take];omega
     have e4:List.take (r.els.length*sz-off*sz) (news.take (len*sz))=news.take (len*sz):=List.take_of_length_le (by rw [WZ];omega)
     rw [e3,e4]
     congr 1
     rw [List.length_append,e3,List.drop_take]
   have qT:c.w.grownBy (c.w.setRow g (cur.toList.take (off*sz)++news.take (len*sz)++cur.toList.drop (off*sz+(news.take (len*sz)).length)).toArray) (c.β id).ownBlock:=by
    rw [hβ]
    exact⟨rfl,rfl,rfl,by simp,fun k _ hk=>setRow_other _ g k _ (fun e=>hk (by simp [Value.ownBlock,e]))⟩
   obtain⟨pL,hA⟩:=hI.dR (r':={ r with els:=r.els.take off++l.take len++r.els.drop (off+min l.length len) }) sY qT aaL (by
    show bB (aJ c) (r.els.take off++l.take len++r.els.drop (off+min l.length len)).flatten _
    rw [List.flatten_append,List.flatten_append,(oU TT off).1,(oU hl1 len).1,(oU TT _).2,Nat.add_mul,ain,←WZ]
    exact((fN.take _).append (g2.take _)).append (fN.drop _)) (by
    intro y' xA
    simp only [List.mem_append]at xA
    rcases xA with (xA | xA) | xA
    ·exact kA y' (List.mem_of_mem_take xA)
    ·exact g3 y' (List.mem_of_mem_take xA)
    ·exact kA y' (List.mem_of_mem_drop xA)) (by
    intro e' qJ
    simp only [List.mem_append]at qJ
    rw [pG]
    rcases qJ with (qJ | qJ) | qJ
    ·exact TT e' (List.mem_of_mem_take qJ)
    ·exact hl1 e' (List.mem_of_mem_take qJ)
    ·exact TT e' (List.mem_of_mem_drop qJ)) rfl rfl (by simp;omega)
   refine⟨goInt (Nat.min l.length len:Nat),_,?_,?_,?_,hA,pL,?_⟩
   ·rw [hvx,hvy];exact iU
   ·rfl
   ·rfl
   ·refine cL.2 ?_
    rw [←ain]
    simp only [goInt]
    congr 1
    omega
 ·exact h.elim
theorem KY{o:Oper}{a:Act}{f:Nat→PV}(hI:Inv w0 S0 c)(hf:∀s,aG c (f s) (a.tmps.getD s undef)){v:PV}{u:Option (Nat × Row)}(h:ys E o.op (aO f) c.rows v u)
  {K:Act→World→Prop} {Q:Exit→Act→World→Prop}
  (hKT:∀v' c',c'.rows=eF c.rows u→c'.used=c.used→(∀p v,aG c p v→aG c' p v)→Inv w0 S0 c'→aG c' v v'→K (a.put o.dst v') c'.w):o.wp E.P a c.w K Q:=by
 have hK:∀v' c',c'.rows=eF c.rows u→c'.used=c.used→sX c c'→Inv w0 S0 c'→aG c' v v'→K (a.put o.dst v') c'.w:=fun v' c' h1 h2 h3=>hKT v' c' h1 h2 (aG.s9 h3)
 have hρ:=mH hf
 have plain:yv E o.op (aO f) c.rows v∧u=none→o.wp E.P a c.w K Q:=by
  rintro⟨hv,rfl⟩
  obtain⟨v',h1,h2⟩:=akD hI hf hv
  unfold Oper.wp
  rw [h1]
  exact hK v' c rfl rfl (sX.refl c) hI h2
 obtain⟨dst,op,type,pos,after,guard⟩:=o
 simp only at h hK hKT plain
 unfold ys at h
 split at h
 ·rename_i x y t t2
  obtain⟨v',c',h1,h2,h3,h4,h5,h6⟩:=WY (t2:=t2) (type:=type) hI (hρ x) (hρ y) h
  unfold Oper.wp
  have:(execOp a.eval { dst:=dst,op:=.call { callee:=.builtin .copy,args:=⟨[x,y]⟩,argTypes:=⟨[t,t2]⟩ },type:=type,pos:=pos,after:=after,guard:=guard }).run E.P c.w = .ok (.value v') c'.w:=by
   simp only [execOp,resolve,invoke,builtin,Sem.run_bind,Sem.run_pure,Result.andThen_ok,List.map_toArray,List.map_cons,List.map_nil,h1]
  rw [this]
  exact hK v' c' h2 h3 h4 h5 h6
 ·rename_i t p x
  obtain⟨rfl,w',h1,h2,h3⟩:=PY hI (hρ p) (hρ x) h
  unfold Oper.wp
  have:(execOp a.eval { dst:=dst,op:=.store t p x,type:=type,pos:=pos,after:=after,guard:=guard }).run E.P c.w = .ok .skip w':=by simp [execOp,h1]
  rw [this]
  exact hK undef { c with w:=w',rows:=eF c.rows u } rfl rfl h3 h2 (by simp [aG,aJ])
 ·rename_i t len parts
  obtain⟨h,rfl⟩:=h
  unfold PU at h
  split at h
  ·rename_i e n bb z hE
   obtain⟨els,h1,h2,h3,h4,h5,h6,rfl⟩:=h
   obtain⟨v',c',g1,g2,g3,g4,g5,g6⟩:=BH hI hE hρ h1 h2 h3 h4 h5 h6
   unfold Oper.wp
   have:(execOp a.eval { dst:=dst,op:=.buildSlice t len parts,type:=type,pos:=pos,after:=after,guard:=guard }).run E.P c.w = .ok (.value v') c'.w:=by
    simp only [execOp,Sem.run_bind,g1,Result.andThen_ok,Sem.run_pure]
   rw [this]
   exact hK v' c' g2 g3 g5 g4 g6
  ·exact h.elim
 ·rename_i fo args ts
  have eQ:bB (aG c) (args.toList.map fun x=>aO f x) (args.map a.eval).toList:=by
   refine bB.cS (by simp) fun k p u hp hu=>?_
   simp at hp hu
   obtain⟨x,hx,rfl⟩:=hp
   obtain⟨y,hy,rfl⟩:=hu
   rw [hx]at hy;cases hy
   exact hρ x
  by_cases hm:u6 E (aO f fo)=true
  ·rw [if_pos hm]at h
   unfold KS at h
   split at h
   ·rename_i g id ver i j rest aqE awZ
    obtain⟨⟨rfl,rfl,hp,hpv⟩,e,n,core,dY,j5,hM,hc,EC,rfl⟩:=h
    rw [awZ]at eQ
    have W1:=hρ fo
    rw [aqE]at W1
    simp only [aG,aJ,dC]at W1
    obtain⟨cs,hfv,ED⟩:=W1
    simp only [bO]at ED
    subst ED
    obtain⟨fn,b,h1,h2,h3⟩:=(hM oR 0 (fun j=>if j=oR then some ⟨0,e,n,[core]⟩else none) 1 (Nat.le_refl _) (if_pos rfl) (by decide)).1
    have mE:=hM.frame hp hpv hc EC hI j5 eQ
    unfold Oper.wp
    have iU:(execOp a.eval { dst:=dst,op:=.call { callee:=.value fo,args:=args,argTypes:=ts },type:=type,pos:=pos,after:=after,guard:=guard }).run E.P c.w = .ok (.enter g (args.map a.eval)) c.w:=by
     simp only [execOp,resolve,hfv,Deferred.ofValue,Sem.run_bind,Sem.run_pure,Result.andThen_ok,invoke]
     simpa using kB h1 h2 h3 (args.map a.eval) c.w
    rw [iU]
    rw [Array.toArray_toList]at mE
    refine mE.mono ?_
    rintro x w' ⟨v',c',rfl,rfl,k1,k2,k3,k4,k5⟩
    exact hKT v' c' k1 k2 k3 k4 k5
   ·exact h.elim
  rw [if_neg hm]at h
  obtain⟨rfl,hc,tS⟩:=h
  have EC:yH E (aO f fo) ((args.toList.map fun x=>aO f x).map (pz c.rows)) v:=by rw [List.map_map];exact hc
  obtain⟨g,cs,h1,h2,h3⟩:=yI hI (ids:=[]) (by simp) (hρ fo) eQ (by
   intro p hp id gD
   simp at hp
   obtain⟨x,hx,rfl⟩:=hp
   have:id∈args.toList.flatMap fun x=>dQ (aO f x):=by simp only [List.mem_flatMap];exact⟨x,by simpa using hx,gD⟩
   rw [tS]at this;exact this) EC (K:=fun v' w'=>K (a.put dst v') w') (fun v' c' q1 q2 q3 q4 q5=>hK v' c' (by rw [q1];funext j;simp [FC,eF]) q2 q3 q4 q5)
  unfold Oper.wp
  have iU:(execOp a.eval { dst:=dst,op:=.call { callee:=.value fo,args:=args,argTypes:=ts },type:=type,pos:=pos,after:=after,guard:=guard }).run E.P c.w = .ok (.enter g (args.map a.eval++cs)) c.w:=by
   simp only [execOp,resolve,h1,Deferred.ofValue,Sem.run_bind,Sem.run_pure,Result.andThen_ok,invoke]
   simp only [Array.toArray_toList]at h2
   simpa only [Array.empty_append]using h2
  rw [iU]
  simp only [Array.toArray_toList]at h3
  exact h3.mono fun e w' ⟨v',he,hk⟩=>by subst he;exact hk
 ·exact plain h
end
def room:Nat:=140737488355328
def eS(rows:Rows)(ids:List Nat):Prop:=∀id∈ids,∀r,rows id=some r → ∀e∈r.els,∀p∈e,bI p=true
def HO(K:PS→Prop)(σ:PS)(d:Option Tmp)(v:PV)(id:Nat)(e:TypeId)(n:Nat)(els:List (List PV)):Prop:=
 K ⟨put σ.f d v,dR σ.rows id (some ⟨σ.clock,e,n,els⟩),σ.clock+1⟩
def HP(E:Env)(o:Oper)(t:TypeId)(x y:PV)(K:PS→Prop)(σ:PS):Prop:=
 match E.ty t with
 | .slice e n b _ =>
  ∃l,qS σ.rows y l∧(∀e∈l,e.length=n) ∧
  match x with
  | .nil=>l.length≤room∧l.length*b≤room∧HO K σ o.dst (.own (o.dst.getD 0) σ.clock 0 l.length) (o.dst.getD 0) e n l
  | .own id ver off len=>∃r,σ.rows id=some r∧r.ver=ver∧off=0∧len≤r.els.length∧r.e=e∧r.size=n∧len+l.length≤room∧(len+l.length)*b≤room ∧
    HO K σ o.dst (.own id σ.clock 0 (len+l.length)) id e n (r.els.take len++l)
  | .iK l0=>(∀e∈l0,e.length=n)∧(∀e∈l,∀p∈e,bI p=true)∧l0.length+l.length≤room∧(l0.length+l.length)*b≤room∧K (σ.put o.dst (.sl (l0++l)))
  | _=>False
 | _=>False
def FF(K:Nat→(Nat→PV)→Rows→Prop)(ver:Nat)(f:Nat→PV)(rows:Rows)(d:Option Tmp)(v:PV)(id:Nat)(e:TypeId)(n:Nat)(els:List (List PV)):Prop:=
 K 1 (put f d v) (dR rows id (some ⟨ver,e,n,els⟩))
def oV(E:Env)(ver:Nat)(o:Oper)(t:TypeId)(x y:PV)(K:Nat→(Nat→PV)→Rows→Prop)(f:Nat→PV)(rows:Rows):Prop:=
 match E.ty t with
 | .slice e n b _ =>
  ∃l,qS rows y l∧(∀e∈l,e.length=n) ∧
  match x with
  | .nil=>l.length≤room∧l.length*b≤room∧FF K ver f rows o.dst (.own (o.dst.getD 0) ver 0 l.length) (o.dst.getD 0) e n l
  | .own id aqG off len=>∃r,rows id=some r∧r.ver=aqG∧off=0∧len≤r.els.length∧r.e=e∧r.size=n∧len+l.length≤room∧(len+l.length)*b≤room ∧
    FF K ver f rows o.dst (.own id ver 0 (len+l.length)) id e n (r.els.take len++l)
  | .iK l0=>(∀e∈l0,e.length=n)∧(∀e∈l,∀p∈e,bI p=true)∧l0.length+l.length≤room∧(l0.length+l.length)*b≤room∧K 0 (put f o.dst (.sl (l0++l))) rows
  | _=>False
 | _=>False
def slT:TI→Bool
 | .slice .. => true
 | _=>false
def eZ(E:Env)(o:Oper)(K:PS→Prop)(σ:PS):Prop:=
 match o.op with
 | .alloc t=>(E.ty t).known=true∧HO K σ o.dst (.ptr (o.dst.getD 0) σ.clock 0 0) (o.dst.getD 0) t (E.ty t).size [(E.ty t).zero]
 | .box t x=>(E.ty t).known=true ∧ ∃l,cE (aO σ.f x)=some l∧(∀q∈l,iM σ.rows q)∧l.length=(E.ty t).size∧HO K σ o.dst (.ptr (o.dst.getD 0) σ.clock 0 0) (o.dst.getD 0) t (E.ty t).size [l]
 | .makeSlice t l c =>
  match E.ty t,aO σ.f l,aO σ.f c with
  | .slice e n b z, .int _ x, .int _ y=>0≤x∧x≤y∧y.toNat≤room∧y.toNat*b≤room∧HO K σ o.dst (.own (o.dst.getD 0) σ.clock 0 x.toNat) (o.dst.getD 0) e n (List.replicate x.toNat z)
  | _,_,_=>False
 | .call { callee:=.builtin .append,args:=⟨[x,y]⟩,argTypes:=⟨[t,t2]⟩ }=>(t2=t∨slT (E.ty t2)=true)∧HP E o t (aO σ.f x) (aO σ.f y) K σ
 | .call { callee:=.value f,args:=args,argTypes:=_ }=>if akH E (aO σ.f f)=true then PW E (aO σ.f f) (args.toList.map (aO σ.f)) σ.rows σ.clock (fun v rows clk=>K ⟨put σ.f o.dst v,rows,clk⟩)
   else ∃v,yH E (aO σ.f f) (args.toList.map fun x=>pz σ.rows (aO σ.f x)) v∧eS σ.rows (args.toList.flatMap fun x=>dQ (aO σ.f x)) ∧
   K ⟨put σ.f o.dst v,FC σ.rows (args.toList.flatMap fun x=>dQ (aO σ.f x)),σ.clock⟩
 | .makeFunc (.func f) ⟨[]⟩ bW=>(bW.toList.map fun x=>pz σ.rows (aO σ.f x)).all dB=true∧eS σ.rows (bW.toList.flatMap fun x=>dQ (aO σ.f x)) ∧
   K ⟨put σ.f o.dst (.fn f (bW.toList.map fun x=>pz σ.rows (aO σ.f x))),FC σ.rows (bW.toList.flatMap fun x=>dQ (aO σ.f x)),σ.clock⟩
 | _=>∃v u,ys E o.op (aO σ.f) σ.rows v u∧K ⟨put σ.f o.dst v,eF σ.rows u,σ.clock⟩
def oH(E:Env)(ver:Nat)(o:Oper)(K:Nat→(Nat→PV)→Rows→Prop)(f:Nat→PV)(rows:Rows):Prop:=
 match o.op with
 | .alloc t=>(E.ty t).known=true∧FF K ver f rows o.dst (.ptr (o.dst.getD 0) ver 0 0) (o.dst.getD 0) t (E.ty t).size [(E.ty t).zero]
 | .box t x=>(E.ty t).known=true ∧ ∃l,cE (aO f x)=some l∧(∀q∈l,iM rows q)∧l.length=(E.ty t).size∧FF K ver f rows o.dst (.ptr (o.dst.getD 0) ver 0 0) (o.dst.getD 0) t (E.ty t).size [l]
 | .makeSlice t l c =>
  match E.ty t,aO f l,aO f c with
  | .slice e n b z, .int _ x, .int _ y=>0≤x∧x≤y∧y.toNat≤room∧y.toNat*b≤room∧FF K ver f rows o.dst (.own (o.dst.getD 0) ver 0 x.toNat) (o.dst.getD 0) e n (List.replicate x.toNat z)
  | _,_,_=>False
 | .call { callee:=.builtin .append,args:=⟨[x,y]⟩,argTypes:=⟨[t,t2]⟩ }=>(t2=t∨slT (E.ty t2)=true)∧oV E ver o t (aO f x) (aO f y) K f rows
 | _=>False
theorem vA{n:Nat}(h:n≤room):n≤maxLen:=by unfold room at h;simp only [maxLen];omega
theorem kZ{α:Type}{z:List α}:∀ {x k:Nat} {a:α},(List.replicate x z).flatten[k]? = some a→z[k%z.length]? = some a
 | 0,k,a,h=>by simp at h
 | x+1,k,a,h=>by
  rw [List.replicate_succ,List.flatten_cons]at h
  rcases Nat.lt_or_ge k z.length with hk | hk
  ·rw [List.getElem?_append_left hk]at h
   rw [Nat.mod_eq_of_lt hk];exact h
  ·rw [List.getElem?_append_right hk]at h
   have:=kZ h
   rw [←Nat.mod_eq_sub_mod hk]at this;exact this
section
variable {E:Env} {c:Cx} {w0:World} {S0:dX}
theorem xB(hI:Inv w0 S0 c){ver:Nat}(kX:¬c.used ver)(id:Nat)(e:TypeId)(size n cap:Nat)(els:List (List PV))(cells:Array Value)(hn:els.length=n)(PM:n≤cap)(hcm:cap≤maxLen)(pG:cells.size=cap*size)
  (fN:bB (aJ c) els.flatten (cells.toList.take (n*size))) (kA:∀u∈cells.toList,u.oneCell'=true) (hlen:∀e∈els,e.length=size) (lB:0<size) :
  Inv w0 S0 { c with w:=c.w.alloc (.cells cells e),β:=dR c.β id (.slice (some ⟨c.w.heap.size,0,none⟩) n cap),rows:=dR c.rows id (some ⟨ver,e,size,els⟩),used:=fun v=>v=ver∨c.used v } ∧
  sX c { c with w:=c.w.alloc (.cells cells e),β:=dR c.β id (.slice (some ⟨c.w.heap.size,0,none⟩) n cap),rows:=dR c.rows id (some ⟨ver,e,size,els⟩),used:=fun v=>v=ver∨c.used v }:=by
 refine hI.set (ob:=none) (r':=⟨ver,e,size,els⟩) (xs:=cells.toList.take (n*size)) (World.grownBy_alloc c.w _ none) (by simp) ?_ fN (fun x hx=>kA x (List.mem_of_mem_take hx)) hlen lB ?_ kX
 ·have hle:n*size≤cap*size:=Nat.mul_le_mul_right _ PM
  refine⟨by simp [hn];omega, .inr ⟨c.w.heap.size,cap,cells,by simp [hn],hI.below.size,heap_alloc_new c.w _,by simp [hn];exact PM,hcm,pG,by simp [hn]⟩⟩
 ·intro g hg
  simp [Value.ownBlock]at hg
  exact .inr (by omega)
theorem aaP{t:TypeId}{n:Nat}{z:List PV}(h:l9 E.P t n z):∃i v,E.P.info? t=some i∧i.zero=some v∧i.size=n∧bB (aJ c) z v.cells.toList∧v.cells.size=n ∧ ∀u∈v.cells.toList,u.oneCell'=true:=by
 obtain⟨i,v,h1,h2,h3,h4,h5⟩:=h.ok
 have hl:v.cells.size=n:=by rw [←h.len,←h4];simp
 refine⟨i,v,h1,h2,h3,?_,hl,fun u hu=>(Array.all_eq_true_iff_forall_mem.1 h5) u (by simpa using hu)⟩
 rw [←h4]
 refine bB.cS (by simp) fun k a b ha hb=>?_
 simp at ha
 obtain⟨u,hu,rfl⟩:=ha
 have:v.cells.toList[k]? = some u:=by simpa using hu
 rw [this]at hb;cases hb
 exact lC _
theorem lW{c':Cx}{id ver n:Nat}{r:Row}(hr:c'.rows id=some r)(hn:r.els.length=n)(hc:c'.used ver){A:Option Addr}{cap:Nat}(hβ:c'.β id = .slice A n cap):aG c' (.own id ver 0 n) (.slice A n cap):=by
 simp only [aG,aJ]
 refine⟨hc,fun r' j9 _=>?_⟩
 rw [hr]at j9;cases j9
 exact⟨by omega, .inl ⟨by first | rfl | trivial,A,n,cap,hβ,rfl⟩⟩
theorem aaQ{c':Cx}{id ver:Nat}(hc:c'.used ver){g n cap:Nat}(hβ:c'.β id = .slice (some ⟨g,0,none⟩) n cap):aG c' (.ptr id ver 0 0) (.pointer (some ⟨g,0,none⟩)):=by
 simp only [aG,aJ]
 exact⟨hc,fun r' _ _=>⟨g,n,cap,hβ,by simp⟩⟩
theorem tH{z:Array Value}{N k:Nat}(hk:k<N)(hz:0<z.size):(madeCells z N).toList[k]? = z.toList[k%z.size]? := by
 have hm:k%z.size<z.size:=Nat.mod_lt _ hz
 simp [madeCells,hk,hm]
variable {n:Nat} {G:Gs}
theorem qV{U:Nat→Prop}{ver:Nat}{f:Nat→PV}{rows:Rows}{a:Act}(hr:c.rows=rows)(gC:∀v,c.used v→U v)(hf:∀s,aG c (f s) (a.tmps.getD s undef))(hG:∀p∈G,aG c p.1 p.2)(hn:a.tmps.size=n)(fL:a.defers = [])
  {K:(Nat→PV)→Rows→Prop} {d:Option Tmp} {v:PV} {id:Nat} {e:TypeId} {sz:Nat} {els:List (List PV)} (h:K (put f d v) (dR rows id (some ⟨ver,e,sz,els⟩))) {v':Value} {w':World} {b':Value}
  (hI:Inv w0 S0 { c with w:=w',β:=dR c.β id b',rows:=dR c.rows id (some ⟨ver,e,sz,els⟩),used:=fun v=>v=ver∨c.used v })
  (hA:sX c { c with w:=w',β:=dR c.β id b',rows:=dR c.rows id (some ⟨ver,e,sz,els⟩),used:=fun v=>v=ver∨c.used v })
  (hv:aG { c with w:=w',β:=dR c.β id b',rows:=dR c.rows id (some ⟨ver,e,sz,els⟩),used:=fun v=>v=ver∨c.used v } v v') (hd:∀t,d=some t→t<n) :
  ∃f' rows',K f' rows'∧oT w0 S0 n G (fun v=>v=ver∨U v) f' rows' (a.put d v') w':=by
 refine⟨_,_,h,?_⟩
 have:=qU (U:=fun v=>v=ver∨U v) (f':=put f d v) (rows:=dR rows id (some ⟨ver,e,sz,els⟩)) hf hG hn fL hA hI hv hd rfl (by simp [hr]) (fun v hv=>hv.imp (fun h=>h) (gC v))
 exact this
theorem P5(hI:Inv w0 S0 c){w':World}(hg:c.w.grownBy w' none){e:TypeId}{sz:Nat}{v':Value}{els:List (List PV)}{xs:List Value}(i5:w'.ownsRow c.w.heap.size e sz v' els.length xs)
  (fN:bB (dC c.S c.w) els.flatten xs) (kA:∀u∈xs,u.oneCell'=true) (hlen:∀e∈els,e.length=sz) :
  ∃c',c'.w=w'∧c'.rows=c.rows∧c'.used=c.used∧Inv w0 S0 c'∧sX c c'∧aG c' (.sl els) v':=by
 have hb:Below c.w.heap.size c.w w':=⟨hg.os,hg.tape,hg.output,hg.size,fun k hk=>hg.block k hk (by simp)⟩
 obtain⟨pL,hA⟩:=hI.grow (S':=fun b o=>c.S b o∨(c.w.heap.size≤b∧b<w'.heap.size)) hb (fun _ _ h => .inl h) (fun _ _ h=>h)
 refine⟨{ c with S:=fun b o=>c.S b o∨(c.w.heap.size≤b∧b<w'.heap.size),w:=w' },rfl,rfl,rfl,pL,hA,?_⟩
 simp only [aG,aJ,dC]
 rcases i5.2 with ⟨rfl,h0⟩ | ⟨g,cap,cur,rfl,WT,hh,PM,hcm,ED,KT⟩
 ·exact⟨none,0,by rw [h0],by omega,by simp [maxLen], .inl (List.eq_nil_of_length_eq_zero h0)⟩
 ·refine⟨_,cap,rfl,PM,hcm, .inr ⟨g,0,rfl,oQ hlen fun k el hk=>jS fun j p hj=>?_⟩⟩
  have hf:=jT hlen hk hj
  obtain⟨u,hu,hr⟩:=fN.get hf
  have dN:g<w'.heap.size:=(Array.getElem?_eq_some_iff.1 hh).1
  have FB:=i5.cells (g:=g) rfl (k*sz+j) u hu
  rw [i3]at FB
  refine⟨u,?_, .inr ⟨WT,dN⟩,kA u (List.mem_of_getElem? hu),dC.mono hA.S hA.w _ _ hr⟩
  rw [show 0+k*sz+j=0+(k*sz+j)by omega];exact FB
theorem aaR{w:World}{base e sz n k:Nat}{A:Option Addr}{cap:Nat}{xs:List Value}(h:w.ownsRow base e sz (.slice A n cap) n xs)(hk:k≤n):w.ownsRow base e sz (.slice A k cap) k (xs.take (k*sz)):=by
 have hle:k*sz≤n*sz:=Nat.mul_le_mul_right _ hk
 refine⟨by rw [List.length_take,h.1];omega,?_⟩
 rcases h.2 with ⟨h1,h2⟩ | ⟨g,jL,cur,h1,h2,h3,h4,h5,h6,h7⟩
 ·simp only [Value.slice.injEq]at h1
  obtain⟨rfl,_,rfl⟩:=h1
  have xC:k=0:=by omega
  subst xC
  exact .inl ⟨rfl,rfl⟩
 ·simp only [Value.slice.injEq]at h1
  obtain⟨rfl,_,rfl⟩:=h1
  refine .inr ⟨g,cap,cur,rfl,h2,h3,by omega,h5,h6,?_⟩
  rw [←h7,List.take_take,Nat.min_eq_left hle]
theorem W2{P:Program}{w:World}{t t2 ty:TypeId}{e e2:TypeId}{x y:Value}(hu:P.underlying t=some (.slice e))(hu2:P.underlying t2=some (.slice e2)) :
  (Builtin.append_ #[t,t2] ty #[x,y]).run P w=(Builtin.append_ #[t,t] ty #[x,y]).run P w:=by
 unfold Builtin.append_
 simp only [List.getElem?_toArray,List.getElem?_cons_zero,List.getElem?_cons_succ,Sem.run_bind,run_underlying hu,Result.andThen_ok]
 cases x<;>simp [run_underlying hu,run_underlying hu2]
theorem afg{E:Env}{t2:TypeId}(h:slT (E.ty t2)=true):∃e,E.P.underlying t2=some (.slice e):=by
 cases hE:E.ty t2 with
 | slice e n b z=>exact⟨e,(fX hE).1⟩
 | _=>rw [hE]at h;cases h
theorem BI{U:Nat→Prop}{ver:Nat}(kX:¬U ver){o:Oper}{a:Act}{f:Nat→PV}{rows:Rows}{x y:Operand}{t t2:TypeId}(hop:o.op = .call { callee:=.builtin .append,args:=⟨[x,y]⟩,argTypes:=⟨[t,t2]⟩ })(ht2:t2=t∨slT (E.ty t2)=true)
  (hI:Inv w0 S0 c) (hr:c.rows=rows) (gC:∀v,c.used v→U v) (hf:∀s,aG c (f s) (a.tmps.getD s undef)) (hG:∀p∈G,aG c p.1 p.2) (hn:a.tmps.size=n) (fL:a.defers = [])
  (hd:∀t,o.dst=some t→t<n) {K:Nat→(Nat→PV)→Rows→Prop} (h:oV E ver o t (aO f x) (aO f y) K f rows) {K':Act→World→Prop} {Q:Exit→Act→World→Prop} (hK:∀i f' rows' a' w',K i f' rows'→oT w0 S0 n G (fun v=>(i=1∧v=ver)∨U v) f' rows' a' w'→K' a' w'):o.wp E.P a c.w K' Q:=by
 have hρ:=mH hf
 have run:∀ {v':Value} {w':World},(Builtin.append_ #[t,t] o.type #[a.eval x,a.eval y]).run E.P c.w = .ok v' w'→K' (a.put o.dst v') w'→o.wp E.P a c.w K' Q:=by
  intro v' w' h1 h2
  unfold Oper.wp
  have PR:(Builtin.append_ #[t,t2] o.type #[a.eval x,a.eval y]).run E.P c.w = .ok v' w':=by
   rcases ht2 with rfl | ht2
   ·exact h1
   ·obtain⟨e2,hu2⟩:=afg ht2
    have hsl:∃e,E.P.underlying t=some (.slice e):=by
     unfold oV at h
     split at h
     ·rename_i e n b z hE;exact⟨e,(fX hE).1⟩
     ·exact h.elim
    obtain⟨e,hu⟩:=hsl
    rw [W2 hu hu2];exact h1
  have:(execOp a.eval o).run E.P c.w = .ok (.value v') w':=by
   simp only [execOp,hop,resolve,invoke,builtin,Sem.run_bind,Sem.run_pure,Result.andThen_ok,List.map_toArray,List.map_cons,List.map_nil,PR]
  rw [this]
  exact h2
 unfold oV at h
 split at h
 ·rename_i e sz b z hE
  obtain⟨l,hl,hlen,h⟩:=h
  obtain⟨hu,lB,HL,i,zv,hi,hz,hs,hby,PQ,_⟩:=fX hE
  have D4:zv.cells.size=sz:=by rw [←HL,←PQ];simp
  rw [←hr]at hl
  obtain⟨A,cap,news,hvy,g1,g2,g3,g4,g5⟩:=tT hI (hρ y) hl hlen
  have main:∀(vx:Value) (k:Nat) (xs:List Value),c.w.ownsRow w0.heap.size e sz vx k xs→a.eval x=vx→k+l.length≤room→(k+l.length)*b≤room →
    ∃v' w',(Builtin.append_ #[t,t] o.type #[a.eval x,a.eval y]).run E.P c.w = .ok v' w'∧w'.ownsRow w0.heap.size e sz v' (k+l.length) (xs++news)∧c.w.grownBy w' vx.ownBlock∧(v'.ownBlock=vx.ownBlock∨v'.ownBlock=some c.w.heap.size):=by
   intro vx k xs i5 hvx P6 BJ
   rw [hvx,hvy]
   cases A with
   | some ad =>
    obtain⟨v',w',q1,q2,q3,_,q5⟩:=run_append_own_at (P:=E.P) c.w w0.heap.size t o.type e i zv sz b hu hi hz hs hby D4 lB vx k xs i5 ad l.length cap news g1 (g5 ad rfl) g3 (vA P6) (by simpa [room]using BJ) hI.below.size
    exact⟨v',w',q1,q2,q3,q5⟩
   | none =>
    have KU:=g4 rfl
    subst KU
    have hn0:news = []:=List.eq_nil_of_length_eq_zero (by simpa using g1)
    subst hn0
    refine⟨vx,c.w,?_,by simpa using i5,⟨rfl,rfl,rfl,Nat.le_refl _,fun _ _ _=>rfl⟩, .inl rfl⟩
    rcases i5.2 with ⟨rfl,rfl⟩ | ⟨g,jL,cur,rfl,_,_,PM,_⟩
    ·simp [Builtin.append_,run_underlying hu,Go.sizeOf,typeInfo,hi,Builtin.lenOf,Builtin.firstCells]
    ·simp [Builtin.append_,run_underlying hu,Go.sizeOf,typeInfo,hi,Builtin.lenOf,Builtin.firstCells,PM,storeCells]
  split at h
  ·-- aqH nil
   rename_i heq
   obtain⟨P6,BJ,h⟩:=h
   have hx:=hρ x
   rw [heq]at hx
   simp only [aG,aJ,dC]at hx
   obtain⟨v',w',q1,q2,q3,q4⟩:=main (.slice none 0 0) 0 [] (World.ownsRow_nil _ _ _ _) hx (by simpa using P6) (by simpa using BJ)
   simp only [Nat.zero_add,List.nil_append]at q2
   obtain⟨pL,hA⟩:=hI.set (ob:=none) (id:=o.dst.getD 0) (r':=⟨ver,e,sz,l⟩) (xs:=news) q3 (by simp) q2 g2 g3 hlen lB (by
    intro g hg
    rcases q4 with q4 | q4
    ·rw [q4]at hg;simp [Value.ownBlock]at hg
    ·rw [q4]at hg;cases hg;exact .inr (Nat.le_refl _)) (fun hu=>kX (gC _ hu))
   have hv:aG { c with w:=w',β:=dR c.β (o.dst.getD 0) v',rows:=dR c.rows (o.dst.getD 0) (some ⟨ver,e,sz,l⟩),used:=fun v=>v=ver∨c.used v } (.own (o.dst.getD 0) ver 0 l.length) v':=by
    have aaS:∃A' jL,v' = .slice A' l.length jL:=by
     rcases q2.2 with ⟨rfl,h0⟩ | ⟨g,jL,cur,rfl,_⟩
     ·exact⟨none,0,by rw [h0]⟩
     ·exact⟨_,jL,rfl⟩
    obtain⟨A',jL,rfl⟩:=aaS
    exact lW (r:=⟨ver,e,sz,l⟩) (by simp [dR]) rfl (Or.inl rfl) (by simp [dR])
   obtain⟨f',rows',hk,BK⟩:=qV (K:=K 1) hr gC hf hG hn fL h pL hA hv hd
   exact run q1 (hK 1 f' rows' _ _ hk (BK.mono fun v hv=>hv.imp (fun h=>⟨rfl,h⟩) fun h=>h))
  ·-- aqH a row of its own
   rename_i id aqG off len heq
   obtain⟨r,sY,jM,rfl,hle,he,pG,P6,BJ,h⟩:=h
   rw [←hr]at sY
   have hx:=hρ x
   rw [heq]at hx
   simp only [aG,aJ]at hx
   obtain⟨⟨xs,i5,fN,kA⟩,u9,hnS,_⟩:=hI.row id r sY
   obtain⟨A0,m0,aqI,hβ,hxv⟩:∃A' m jL,c.β id = .slice A' m jL∧a.eval x = .slice A' len jL:=by
    rcases(hx.2 r sY jM).2 with ⟨_,h⟩ | ⟨h0,_⟩
    ·exact h
    ·omega
   have hm:m0=r.els.length:=by
    rw [hβ]at i5
    rcases i5.2 with ⟨h',h0⟩ | ⟨g,aqD,cur,h',_⟩
    ·simp at h';omega
    ·simp at h';exact h'.2.1
   subst hm
   have hob:(c.β id).ownBlock=(Value.slice A0 len aqI).ownBlock:=by rw [hβ];cases A0<;>rfl
   have hbg:=i5.lt
   rw [he,pG,hβ]at i5
   obtain⟨v',w',q1,q2,q3,q4⟩:=main (.slice A0 len aqI) len (xs.take (len*sz)) (aaR i5 hle) hxv P6 BJ
   rw [←hob]at q3 q4
   have aaT:∀e∈r.els,e.length=sz:=fun e qJ=>by rw [u9 e qJ,pG]
   have D3:(r.els.take len++l).length=len+l.length:=by rw [List.length_append,List.length_take,Nat.min_eq_left hle]
   obtain⟨pL,hA⟩:=hI.set (ob:=(c.β id).ownBlock) (id:=id) (r':=⟨ver,e,sz,r.els.take len++l⟩) (xs:=xs.take (len*sz)++news) q3 (by
    intro g hg
    refine⟨(hbg g hg).1,fun o=>hnS g o hg,fun i0 r' j9 nJ hb=>nJ (hI.apart i0 id r' r g j9 sY hb hg)⟩) (by simpa only [D3]using q2) (by
     show bB (aJ c) (r.els.take len++l).flatten _
     rw [List.flatten_append,(oU aaT len).1];exact(fN.take _).append g2) (by
     intro u hu
     rcases List.mem_append.1 hu with hu | hu
     ·exact kA u (List.mem_of_mem_take hu)
     ·exact g3 u hu) (by
     intro e' qJ
     rcases List.mem_append.1 qJ with qJ | qJ
     ·exact aaT e' (List.mem_of_mem_take qJ)
     ·exact hlen e' qJ) lB (by
     intro g hg
     rcases q4 with q4 | q4
     ·exact .inl (by rw [←q4];exact hg)
     ·rw [q4]at hg;cases hg;exact .inr (Nat.le_refl _)) (fun hu=>kX (gC _ hu))
   have hv:aG { c with w:=w',β:=dR c.β id v',rows:=dR c.rows id (some ⟨ver,e,sz,r.els.take len++l⟩),used:=fun v=>v=ver∨c.used v } (.own id ver 0 (len+l.length)) v':=by
    have aaS:∃A' jL,v' = .slice A' (len+l.length) jL:=by
     rcases q2.2 with ⟨rfl,h0⟩ | ⟨g,jL,cur,rfl,_⟩
     ·exact⟨none,0,by rw [h0]⟩
     ·exact⟨_,jL,rfl⟩
    obtain⟨A',jL,rfl⟩:=aaS
    exact lW (r:=⟨ver,e,sz,r.els.take len++l⟩) (by simp [dR]) D3 (Or.inl rfl) (by simp [dR])
   obtain⟨f',rows',hk,BK⟩:=qV (K:=K 1) hr gC hf hG hn fL h pL hA hv hd
   exact run q1 (hK 1 f' rows' _ _ hk (BK.mono fun v hv=>hv.imp (fun h=>⟨rfl,h⟩) fun h=>h))
  ·-- aqH cells that stay,its capacity its length
   rename_i l0 heq
   obtain⟨u9,hpl,P6,BJ,h⟩:=h
   have hx:=hρ x
   rw [heq]at hx
   simp only [aG,aJ,dC]at hx
   obtain⟨A0,hA0,O1,aaU⟩:=hx
   have fin:∀ {v':Value} {w':World},(Builtin.append_ #[t,t] o.type #[a.eval x,a.eval y]).run E.P c.w = .ok v' w' →
     (∃c',c'.w=w'∧c'.rows=c.rows∧c'.used=c.used∧Inv w0 S0 c'∧sX c c'∧aG c' (.sl (l0++l)) v')→o.wp E.P a c.w K' Q:=by
    rintro v' w' iU ⟨c',rfl,h2,h3,h4,h5,h6⟩
    refine run iU (hK 0 _ _ _ _ h ?_)
    exact qU hf hG hn fL h5 h4 h6 hd rfl (by rw [h2,hr]) (by rw [h3];exact fun v hv => .inr (gC v hv))
   have afh:bB (dC c.S c.w) l.flatten news:=by
    refine bB.cS g2.length fun k p u hp hu=>?_
    obtain⟨u',q1,q2⟩:=g2.get hp
    rw [hu]at q1;cases q1
    have oW:=List.mem_of_getElem? hp
    rw [List.mem_flatten]at oW
    obtain⟨e',qJ,wY⟩:=oW
    exact q2.rep (hpl e' qJ p wY)
   by_cases KU:l = []
   ·subst KU
    refine fin (v':=.slice A0 l0.length l0.length) (w':=c.w) ?_ ⟨c,rfl,rfl,rfl,hI,sX.refl c,?_⟩
    ·have hn0:news = []:=List.eq_nil_of_length_eq_zero (by simpa using g1)
     subst hn0
     have hfc:(Builtin.firstCells i.size 0 (.slice A 0 cap)).run E.P c.w = .ok #[] c.w:=by
      cases A with
      | none=>simp [Builtin.firstCells]
      | some ad=>simp [Builtin.firstCells,loadCells,loadCellsFrom]
     rw [hA0,hvy]
     cases A0 with
     | none=>simp [Builtin.append_,run_underlying hu,Go.sizeOf,typeInfo,hi,Builtin.lenOf,hfc]
     | some ad0=>simp [Builtin.append_,run_underlying hu,Go.sizeOf,typeInfo,hi,Builtin.lenOf,hfc,storeCells]
    ·simp only [aG,aJ,dC,List.append_nil]
     exact⟨A0,_,rfl,Nat.le_refl _,O1,aaU⟩
   ·have aqC:0<l.length:=List.length_pos_iff.2 KU
    obtain⟨ad,rfl⟩:∃ad,A=some ad:=by
     cases A with
     | none=>exact absurd (g4 rfl) KU
     | some ad=>exact⟨ad,rfl⟩
    obtain⟨A2,aff,afi,hvx,o1,o2,o3,o4,o5⟩:=tT (y:=.iK l0) (vy:=a.eval x) (l:=l0) hI (by simp only [aG,aJ,dC];exact⟨A0,hA0,O1,aaU⟩) rfl u9
    rw [hA0]at hvx
    simp only [Value.slice.injEq]at hvx
    obtain⟨rfl,_,rfl⟩:=hvx
    have afj:bB (dC c.S c.w) l0.flatten afi:=by
     refine bB.cS o2.length fun k p u hp hu=>?_
     have oW:=List.mem_of_getElem? hp
     rcases aaU with rfl | ⟨g,oo,rfl,hre⟩
     ·simp at hp
     ·have aw1:l0.flatten.length=l0.length*sz:=by rw [o2.length,o1]
      have hk:k<l0.length*sz:=by rw [←aw1];exact(List.getElem?_eq_some_iff.1 hp).1
      have hq:k/sz<l0.length:=(Nat.div_lt_iff_lt_mul lB).2 hk
      have mR:=u9 l0[k/sz] (List.getElem_mem hq)
      have hj:k%sz<l0[k/sz].length:=by rw [mR];exact Nat.mod_lt _ lB
      have TS:k/sz*sz+k%sz=k:=by rw [Nat.mul_comm];exact Nat.div_add_mod k sz
      have hfg:=jT u9 (List.getElem?_eq_getElem hq) (List.getElem?_eq_getElem hj)
      rw [TS,hp]at hfg
      cases hfg
      obtain⟨u',r1,_,_,r4⟩:=iL (jK hre u9 (List.getElem?_eq_getElem hq)) (List.getElem?_eq_getElem hj)
      have:=o5 _ rfl k u hu
      rw [i3]at this
      rw [show oo+k/sz*sz+k%sz=oo+k by omega,this]at r1
      cases r1;exact r4
    have grow:∃v' w',(Builtin.append_ #[t,t] o.type #[a.eval x,a.eval y]).run E.P c.w = .ok v' w'∧w'.ownsRow c.w.heap.size e sz v' (l0.length+l.length) (afi++news)∧c.w.grownBy w' none:=by
     rw [hA0,hvy]
     cases A0 with
     | some ad0=>exact run_append_arg_grows (P:=E.P) c.w t o.type e i zv sz b hu hi hz hs hby D4 lB ad0 l0.length l0.length afi o1 (o5 ad0 rfl) ad l.length cap news g1 (g5 ad rfl) (by omega) (vA P6) (by simpa [room]using BJ)
     | none =>
      have aw2:=o4 rfl
      subst aw2
      have ho0:afi = []:=List.eq_nil_of_length_eq_zero (by simpa using o1)
      subst ho0
      obtain⟨v',w',q1,q2,q3,_,q5⟩:=run_append_own_at (P:=E.P) c.w c.w.heap.size t o.type e i zv sz b hu hi hz hs hby D4 lB (.slice none 0 0) 0 [] (World.ownsRow_nil _ _ _ _) ad l.length cap news g1 (g5 ad rfl) g3 (by simpa using vA P6) (by simpa [room]using BJ) (Nat.le_refl _)
      exact⟨v',w',q1,by simpa using q2,q3⟩
    obtain⟨v',w',q1,q2,q3⟩:=grow
    refine fin q1 (P5 hI q3 (els:=l0++l) (by simpa using q2) (by rw [List.flatten_append];exact afj.append afh) (fun u hu=>?_) (fun e' qJ=>?_))
    ·rcases List.mem_append.1 hu with hu | hu
     ·exact o3 u hu
     ·exact g3 u hu
    ·rcases List.mem_append.1 qJ with qJ | qJ
     ·exact u9 e' qJ
     ·exact hlen e' qJ
  ·exact h.elim
 ·exact h.elim
end
section
variable {E:Env} {w0:World} {S0:dX} {n:Nat} {G:Gs}
theorem vB{U:Nat→Prop}{ver:Nat}(kX:¬U ver){o:Oper}{a:Act}{w:World}{f:Nat→PV}{rows:Rows}{K:Nat→(Nat→PV)→Rows→Prop}(h:oH E ver o K f rows)(hR:oT w0 S0 n G U f rows a w)(hd:∀t,o.dst=some t→t<n)
  {K':Act→World→Prop} {Q:Exit→Act→World→Prop} (hK:∀i f' rows' a' w',K i f' rows'→oT w0 S0 n G (fun v=>(i=1∧v=ver)∨U v) f' rows' a' w'→K' a' w'):o.wp E.P a w K' Q:=by
 obtain⟨⟨c,rfl,hr,gC,hI,hf,hG⟩,hn,fL⟩:=hR
 have hρ:=mH hf
 have hfu:¬c.used ver:=fun hu=>kX (gC _ hu)
 have value:∀ {v':Value} {w':World},(execOp a.eval o).run E.P c.w = .ok (.value v') w'→K' (a.put o.dst v') w'→o.wp E.P a c.w K' Q:=by
  intro v' w' h1 h2
  unfold Oper.wp
  rw [h1]
  exact h2
 have newVar:∀(t:TypeId) (l:List PV) (vx:Value),(E.ty t).known=true→bB (aJ c) l vx.cells.toList→(∀u∈vx.cells.toList,u.oneCell'=true)→l.length=(E.ty t).size →
   FF K ver f rows o.dst (.ptr (o.dst.getD 0) ver 0 0) (o.dst.getD 0) t (E.ty t).size [l]→(execOp a.eval o).run E.P c.w = .ok (.value (.pointer (some ⟨c.w.heap.size,0,none⟩))) (c.w.alloc (.cells vx.cells t))→o.wp E.P a c.w K' Q:=by
  intro t l vx hk fN kA hlen hp iU
  have hz:=(E.ok t).zero hk
  have pG:vx.cells.size=(E.ty t).size:=by rw [←hlen,fN.length];simp
  obtain⟨pL,hA⟩:=xB hI hfu (o.dst.getD 0) t (E.ty t).size 1 1 [l] vx.cells rfl (Nat.le_refl _) (by simp [maxLen]) (by omega) (by
   simp only [List.flatten_cons,List.flatten_nil,List.append_nil]
   rw [List.take_of_length_le (by simp [pG])];exact fN) kA (by simpa using hlen) hz.pos
  obtain⟨f',rows',wX,BK⟩:=qV (K:=K 1) hr gC hf hG hn fL hp pL hA (aaQ (Or.inl rfl) (g:=c.w.heap.size) (n:=1) (cap:=1) (by simp [dR])) hd
  exact value iU (hK 1 f' rows' _ _ wX (BK.mono fun v hv=>hv.imp (fun h=>⟨rfl,h⟩) fun h=>h))
 obtain⟨dst,op,type,pos,after,guard⟩:=o
 simp only at hd value newVar
 unfold oH at h
 simp only at h
 split at h
 ·-- alloc
  rename_i t
  obtain⟨hk,h⟩:=h
  have hz:=(E.ok t).zero hk
  obtain⟨i,zv,h1,h2,h3,h4,h5,h6⟩:=aaP (c:=c) hz
  exact newVar t (E.ty t).zero zv hk h4 h6 rfl h (by simp [execOp,Instr.alloc,zeroValue,typeInfo,h1,h2,Go.newVar,newRow])
 ·-- box
  rename_i t x
  obtain⟨hk,l,hl,kA,hlen,h⟩:=h
  rw [←hr]at kA
  obtain⟨g1,g2⟩:=mW (hρ x) hl kA
  exact newVar t l (a.eval x) hk g1 g2 hlen h (by simp [execOp,Instr.box,Go.newVar,newRow])
 ·-- makeSlice
  rename_i t l cc
  split at h
  ·rename_i e sz b z k1 x k2 y hE hl hc
   obtain⟨h0,r8,P6,BJ,h⟩:=h
   obtain⟨hu,lB,HL,i,zv,hi,hz,hs,hby,PQ,hzo⟩:=fX hE
   have g1:=hρ l
   have g2:=hρ cc
   rw [hl,cL]at g1
   rw [hc,cL]at g2
   have D4:zv.cells.size=sz:=by rw [←HL,←PQ];simp
   have akQ:(i.bytes:Int)*y≤281474976710656:=by
    rw [hby]
    have h3:((y.toNat*b:Nat):Int)≤room:=by exact_mod_cast BJ
    have h4:((y.toNat:Nat):Int)=y:=Int.toNat_of_nonneg (by omega)
    rw [Int.natCast_mul,h4]at h3
    simp only [room]at h3
    rw [Int.mul_comm];omega
   have iU:=run_make (P:=E.P) c.w t e i zv hu hi hz k1 k2 x y h0 r8 akQ (by simp only [room]at P6;omega)
   have aqJ:(execOp a.eval { dst:=dst,op:=.makeSlice t l cc,type:=type,pos:=pos,after:=after,guard:=guard }).run E.P c.w = .ok (.value (.slice (some ⟨c.w.heap.size,0,none⟩) x.toNat y.toNat)) (c.w.alloc (.cells (madeCells zv.cells (y.toNat*i.size)) e)):=by
    simp [execOp,g1,g2,iU]
   have aqK:bB (aJ c) z zv.cells.toList:=by
    rw [←PQ]
    refine bB.cS (by simp) fun k p u hp hu=>?_
    simp at hp
    obtain⟨q,hq,rfl⟩:=hp
    have:zv.cells.toList[k]? = some q:=by simpa using hq
    rw [this]at hu;cases hu
    exact lC _
   have hle:x.toNat*sz≤y.toNat*sz:=Nat.mul_le_mul_right _ (by omega)
   have hL:((madeCells zv.cells (y.toNat*i.size)).toList.take (x.toNat*sz)).length=x.toNat*sz:=by
    rw [List.length_take,Array.length_toList,size_madeCells,hs];exact Nat.min_eq_left hle
   obtain⟨pL,hA⟩:=xB hI hfu (dst.getD 0) e sz x.toNat y.toNat (List.replicate x.toNat z) (madeCells zv.cells (y.toNat*i.size)) (by simp) (by omega) (vA P6) (by rw [size_madeCells,hs]) (by
    refine bB.cS (by rw [hL];simp [HL]) fun k p u hp hu=>?_
    have hk:=(List.getElem?_eq_some_iff.1 hu).1
    rw [hL]at hk
    rw [List.getElem?_take,if_pos (by omega),tH (by rw [hs];omega) (by omega)]at hu
    have wY:=kZ hp
    rw [HL,←D4]at wY
    obtain⟨u',q1,q2⟩:=aqK.get wY
    rw [hu]at q1;cases q1;exact q2) (by
    intro u hu
    obtain⟨k,hk⟩:=List.getElem?_of_mem hu
    have wX:=(List.getElem?_eq_some_iff.1 hk).1
    simp [size_madeCells]at wX
    rw [tH wX (by omega)]at hk
    have:=List.mem_of_getElem? hk
    exact(Array.all_eq_true_iff_forall_mem.1 hzo) u (by simpa using this)) (by
    intro e' qJ
    rw [List.mem_replicate]at qJ
    rw [qJ.2,HL]) lB
   obtain⟨f',rows',wX,BK⟩:=qV (K:=K 1) hr gC hf hG hn fL h pL hA (lW (r:=⟨ver,e,sz,List.replicate x.toNat z⟩) (A:=some ⟨c.w.heap.size,0,none⟩) (cap:=y.toNat) (by simp [dR]) (by simp) (Or.inl rfl) (by simp [dR])) hd
   exact value aqJ (hK 1 f' rows' _ _ wX (BK.mono fun v hv=>hv.imp (fun h=>⟨rfl,h⟩) fun h=>h))
  ·exact h.elim
 ·-- append
  rename_i x y t t2
  obtain⟨ht2,h⟩:=h
  exact BI kX rfl ht2 hI hr gC hf hG hn fL hd h hK
 ·exact h.elim
theorem yK{o:Oper}{a:Act}{w:World}{σ:PS}{K:PS→Prop}(h:eZ E o K σ)(hR:Rel w0 S0 n G σ a w)(hd:∀t,o.dst=some t→t<n)
  {K':Act→World→Prop} {Q:Exit→Act→World→Prop} (hK:∀σ' a' w',K σ'→Rel w0 S0 n G σ' a' w'→K' a' w'):o.wp E.P a w K' Q:=by
 obtain⟨⟨c,rfl,hr,gC,hI,hf,hG⟩,hn,fL⟩:=hR
 have hρ:=mH hf
 have value:∀ {v':Value} {w':World},(execOp a.eval o).run E.P c.w = .ok (.value v') w'→K' (a.put o.dst v') w'→o.wp E.P a c.w K' Q:=by
  intro v' w' h1 h2
  unfold Oper.wp
  rw [h1]
  exact h2
 have aqL:(∃v u,ys E o.op (aO σ.f) σ.rows v u∧K ⟨put σ.f o.dst v,eF σ.rows u,σ.clock⟩)→o.wp E.P a c.w K' Q:=by
  rintro⟨v,u,hy,hk⟩
  rw [←hr]at hy
  refine KY hI hf hy fun v' c' h1 h2 h3 h4 h5=>hK _ _ _ hk ?_
  exact KW (fun s=>h3 _ _ (hf s)) (fun p hp=>h3 _ _ (hG p hp)) hn fL h4 h5 hd rfl (by simp [h1,hr]) (by rw [h2];exact gC)
 have nw:oH E σ.clock o (fun i f r=>K ⟨f,r,σ.clock+i⟩) σ.f σ.rows→o.wp E.P a c.w K' Q:=fun hp =>
  vB (U:=fun v=>v<σ.clock) (Nat.lt_irrefl _) hp ⟨⟨c,rfl,hr,gC,hI,hf,hG⟩,hn,fL⟩ hd fun i f' rows' a' w' hk BK=>hK _ _ _ hk (BK.mono fun v hv=>by
   show v<σ.clock+i
   rcases hv with ⟨rfl,rfl⟩ | hv
   ·omega
   ·have:v<σ.clock:=hv
    omega)
 obtain⟨dst,op,type,pos,after,guard⟩:=o
 simp only at hd value aqL nw
 unfold eZ at h
 simp only at h
 split at h
 ·-- alloc
  rename_i t
  exact nw (show oH E σ.clock _ _ σ.f σ.rows from h)
 ·-- box
  rename_i t x
  exact nw (show oH E σ.clock _ _ σ.f σ.rows from h)
 ·-- makeSlice
  rename_i t l cc
  refine nw (show oH E σ.clock _ _ σ.f σ.rows from ?_)
  unfold oH
  simp only
  split at h
  ·exact h
  ·exact h.elim
 ·-- append
  rename_i x y t t2
  obtain⟨ht2,h⟩:=h
  refine nw (show oH E σ.clock _ _ σ.f σ.rows from⟨ht2,?_⟩)
  unfold HP at h
  unfold oV
  split at h
  ·obtain⟨l,g1,g2,g3⟩:=h
   refine⟨l,g1,g2,?_⟩
   split at g3<;>exact g3
  ·exact h
 ·-- a call
  rename_i fo args ts
  have eQ:bB (aG c) (args.toList.map fun x=>aO σ.f x) (args.map a.eval).toList:=by
   refine bB.cS (by simp) fun k p u hp hu=>?_
   simp at hp hu
   obtain⟨x,hx,rfl⟩:=hp
   obtain⟨y,hy,rfl⟩:=hu
   rw [hx]at hy;cases hy
   exact hρ x
  split at h
  ·have W1:=hρ fo
   unfold PW at h
   split at h
   ·rename_i g heq
    rw [heq]at W1
    obtain⟨R,⟨⟨fn,b,h1,h2,h3⟩,PZ⟩,hk⟩:=h
    simp only [aG,aJ,dC]at W1
    obtain⟨cs,hfv,ED⟩:=W1
    simp only [bO]at ED
    subst ED
    have mE:=PZ w0 S0 c _ (fun p=>p∈G ∨ ∃s,p=(σ.f s,a.tmps.getD s undef)) hI hr gC eQ (by
     rintro p (hp | ⟨s,rfl⟩)
     ·exact hG p hp
     ·exact hf s)
    simp only [Array.toArray_toList]at mE
    unfold Oper.wp
    have iU:(execOp a.eval { dst:=dst,op:=.call { callee:=.value fo,args:=args,argTypes:=ts },type:=type,pos:=pos,after:=after,guard:=guard }).run E.P c.w = .ok (.enter g (args.map a.eval)) c.w:=by
     simp only [execOp,resolve,hfv,Deferred.ofValue,Sem.run_bind,Sem.run_pure,Result.andThen_ok,invoke]
     simpa using kB h1 h2 h3 (args.map a.eval) c.w
    rw [iU]
    refine mE.mono ?_
    rintro e w' ⟨v',c',r,gY,rfl,rfl,pL,hG',k8,WW,hv'⟩
    refine hK _ _ _ (hk _ _ _ k8) ?_
    exact KW (fun s=>hG' (σ.f s,a.tmps.getD s undef) (.inr ⟨s,rfl⟩)) (fun p hp=>hG' p (.inl hp)) hn fL pL hv' hd rfl rfl WW
   ·exact h.elim
  obtain⟨v,hc,hp,hk⟩:=h
  rw [←hr]at hc hp hk
  have EC:yH E (aO σ.f fo) ((args.toList.map fun x=>aO σ.f x).map (pz c.rows)) v:=by rw [List.map_map];exact hc
  obtain⟨g,cs,h1,h2,h3⟩:=yI hI (ids:=args.toList.flatMap fun x=>dQ (aO σ.f x)) hp (hρ fo) eQ (by
   intro p hp id gD
   simp at hp
   obtain⟨x,hx,rfl⟩:=hp
   simp only [List.mem_flatMap];exact⟨x,by simpa using hx,gD⟩) EC (K:=fun v' w'=>K' (a.put dst v') w') (fun v' c' q1 q2 q3 q4 q5=>hK _ _ _ hk (r7 hf hG hn fL q3 q4 q5 hd rfl (by simp [q1]) (by rw [q2];exact gC)))
  unfold Oper.wp
  have iU:(execOp a.eval { dst:=dst,op:=.call { callee:=.value fo,args:=args,argTypes:=ts },type:=type,pos:=pos,after:=after,guard:=guard }).run E.P c.w = .ok (.enter g (args.map a.eval++cs)) c.w:=by
   simp only [execOp,resolve,h1,Deferred.ofValue,Sem.run_bind,Sem.run_pure,Result.andThen_ok,invoke]
   simp only [Array.toArray_toList]at h2
   simpa only [Array.empty_append]using h2
  rw [iU]
  simp only [Array.toArray_toList]at h3
  exact h3.mono fun e w' ⟨v',he,hk⟩=>by subst he;exact hk
 ·-- a closure
  rename_i g bW
  obtain⟨tG,hp,hk⟩:=h
  rw [←hr]at tG hp hk
  have KE:=hI.freeze (bW.toList.flatMap fun x=>dQ (aO σ.f x))
  refine value (v':=.func (.func g) #[] (bW.map a.eval)) (w':=c.w) (by simp [execOp,Instr.makeFunc]) (hK _ _ _ hk ?_)
  refine r7 (c':=D2 c (bW.toList.flatMap fun x=>dQ (aO σ.f x))) hf hG hn fL (mI c _) KE ?_ hd rfl (by simp [D2]) gC
  simp only [aG,aJ,dC]
  refine⟨(bW.map a.eval).toList,by rw [Array.toArray_toList],cM.2 (bB.cS (by simp) fun k p u wY hu=>?_)⟩
  simp at wY hu
  obtain⟨x,hx,rfl⟩:=wY
  obtain⟨y,hy,rfl⟩:=hu
  rw [hx]at hy;cases hy
  have oW:x∈bW.toList:=by simpa using Array.mem_of_getElem? hx
  exact HK hI hp (hρ x) (fun id gD=>by simp only [List.mem_flatMap];exact⟨x,oW,gD⟩) (List.all_eq_true.1 tG _ (by simp;exact⟨x,by simpa using oW,rfl⟩))
 ·exact aqL h
end
def iB(op:Op)(ρ:Operand→PV):List Nat:=
 match op with
 | .load _ p=>aT (ρ p)
 | .fieldAddr _ x _=>aT (ρ x)
 | .indexAddr _ x _=>aT (ρ x)
 | .slice _ x _ _ _=>aT (ρ x)
 | .store _ p x=>aT (ρ p)++((cE (ρ x)).getD []).flatMap aT
 | .call { callee:=.builtin .len,args:=⟨[x]⟩,argTypes:=⟨[_]⟩ }=>aT (ρ x)
 | .call { callee:=.builtin .append,args:=⟨[x,y]⟩,argTypes:=⟨[_,_]⟩ }=>aT (ρ x)++aT (ρ y)
 | .call { callee:=.builtin .copy,args:=⟨[x,y]⟩,argTypes:=⟨[_,_]⟩ }=>aT (ρ x)++aT (ρ y)
 | .nilCheck x=>aT (ρ x)
 | .call { callee:=.value _,args:=args,argTypes:=_ }=>args.toList.flatMap fun x=>aT (ρ x)
 | _=>[]
theorem W3{p:PV}(h:dQ p = []):aT p = []:=by
 cases p with
 | ag l=>rfl
 | _=>exact h
theorem FG{p:PV}(h:dB p=true):aT p = []:=by cases p<;>simp_all [dB,bI,aT]
theorem TU{l:List Operand}{ρ:Operand→PV}(h:(l.flatMap fun x=>dQ (ρ x)) = []):(l.flatMap fun x=>aT (ρ x)) = []:=
 List.flatMap_eq_nil_iff.2 fun x hx=>W3 (List.flatMap_eq_nil_iff.1 h x hx)
theorem TV{l:List Operand}{ρ:Operand→PV}(h:(l.map fun x=>ρ x).all dB=true):(l.flatMap fun x=>aT (ρ x)) = []:=
 List.flatMap_eq_nil_iff.2 fun x hx=>FG (List.all_eq_true.1 h _ (List.mem_map.2 ⟨x,hx,rfl⟩))
def jN(ids:List Nat)(rows rows':Rows):Prop:=∀id∈ids,∀r,rows id=some r→rows' id=some r
section
variable {E:Env}
theorem HQ{rows rows':Rows}{p:PV}(h:aT p = []):fz rows p=fz rows' p:=by cases p<;>simp_all [fz,aT]
theorem afk{rows rows':Rows}{p:PV}(h:dQ p = []):pz rows p=pz rows' p:=by
 cases p with
 | ag l =>
  simp only [dQ,List.flatMap_eq_nil_iff]at h
  simp only [pz]
  congr 1
  exact List.map_congr_left fun q hq=>HQ (h q hq)
 | _=>simp only [pz,dQ]at h ⊢;exact HQ h
theorem HR{rows rows':Rows}{p:PV}(h:jN (aT p) rows rows')(ho:iM rows p):iM rows' p:=by
 cases p with
 | own id ver off len=>obtain⟨r,hr,hv⟩:=ho;exact⟨r,h id (by simp [aT]) r hr,hv⟩
 | ptr id ver i j=>obtain⟨r,hr,hv⟩:=ho;exact⟨r,h id (by simp [aT]) r hr,hv⟩
 | _=>exact ho
theorem W4{rows:Rows}{p:PV}(ho:iM rows p):∀id∈aT p,∃r,rows id=some r:=by
 intro id gD
 cases p with
 | own i0 ver off len=>simp [aT]at gD;subst gD;obtain⟨r,hr,_⟩:=ho;exact⟨r,hr⟩
 | ptr i0 ver i j=>simp [aT]at gD;subst gD;obtain⟨r,hr,_⟩:=ho;exact⟨r,hr⟩
 | _=>simp [aT]at gD
theorem aaV{t:TypeId}{rows rows':Rows}{p v:PV}(h:jN (aT p) rows rows')(hy:tA E t rows p v):tA E t rows' p v ∧ ∀id∈aT p,∃r,rows id=some r:=by
 obtain⟨hk,hy⟩:=hy
 cases p with
 | ptr id ver i j =>
  obtain⟨r,hr,hh⟩:=hy
  exact⟨⟨hk,r,h id (by simp [aT]) r hr,hh⟩,by simp [aT];exact⟨r,hr⟩⟩
 | rd l=>exact⟨⟨hk,hy⟩,by simp [aT]⟩
 | _=>exact hy.elim
theorem EH{t:TypeId}{i:Nat}{rows rows':Rows}{x v:PV}(h:jN (aT x) rows rows')(hy:fV E t rows i x v):fV E t rows' i x v ∧ ∀id∈aT x,∃r,rows id=some r:=by
 unfold fV at *
 split at hy
 ·rename_i fs z hE
  obtain⟨o,n,b,hf,hy⟩:=hy
  cases x with
  | ptr id ver a j =>
   obtain⟨⟨r,hr,hv⟩,hh⟩:=hy
   exact⟨⟨o,n,b,hf,⟨r,h id (by simp [aT]) r hr,hv⟩,hh⟩,by simp [aT];exact⟨r,hr⟩⟩
  | rd l=>exact⟨⟨o,n,b,hf,hy⟩,by simp [aT]⟩
  | _=>exact hy.elim
 ·exact hy.elim
theorem EI{t:TypeId}{rows rows':Rows}{x ix v:PV}(h:jN (aT x) rows rows')(hy:fW E t rows x ix v):fW E t rows' x ix v ∧ ∀id∈aT x,∃r,rows id=some r:=by
 unfold fW at *
 split at hy
 ·split at hy
  ·obtain⟨h0,hy⟩:=hy
   cases x with
   | own id ver off len =>
    obtain⟨r,hr,hh⟩:=hy
    exact⟨⟨h0,r,h id (by simp [aT]) r hr,hh⟩,by simp [aT];exact⟨r,hr⟩⟩
   | sl l=>exact⟨⟨h0,hy⟩,by simp [aT]⟩
   | iK l=>exact⟨⟨h0,hy⟩,by simp [aT]⟩
   | _=>exact hy.elim
  ·exact hy.elim
 ·split at hy
  ·obtain⟨h0,hy⟩:=hy
   cases x with
   | ptr id ver a j =>
    obtain⟨⟨r,hr,hv⟩,hh⟩:=hy
    exact⟨⟨h0,⟨r,h id (by simp [aT]) r hr,hv⟩,hh⟩,by simp [aT];exact⟨r,hr⟩⟩
   | rd l=>exact⟨⟨h0,hy⟩,by simp [aT]⟩
   | _=>exact hy.elim
  ·exact hy.elim
 ·exact hy.elim
theorem W5{t:TypeId}{rows rows':Rows}{x v:PV}{lo hi mx:Option PV}(h:jN (aT x) rows rows')(hy:oF E t rows x lo hi mx v):oF E t rows' x lo hi mx v ∧ ∀id∈aT x,∃r,rows id=some r:=by
 unfold oF at *
 split at hy
 ·cases x with
  | own id ver off len =>
   obtain⟨r,hr,hh⟩:=hy
   exact⟨⟨r,h id (by simp [aT]) r hr,hh⟩,by simp [aT];exact⟨r,hr⟩⟩
  | nil=>exact⟨hy,by simp [aT]⟩
  | sl l=>exact⟨hy,by simp [aT]⟩
  | iK l=>exact⟨hy,by simp [aT]⟩
  | _=>exact hy.elim
 ·exact hy.elim
theorem afl{rows rows':Rows}{x:PV}{n:Nat}(h:jN (aT x) rows rows')(hy:WR rows x n):WR rows' x n ∧ ∀id∈aT x,∃r,rows id=some r:=by
 unfold WR at *
 cases x with
 | own id ver off len =>
  obtain⟨⟨r,hr,hv⟩,hh⟩:=hy
  exact⟨⟨⟨r,h id (by simp [aT]) r hr,hv⟩,hh⟩,by simp [aT];exact⟨r,hr⟩⟩
 | nil=>exact⟨hy,by simp [aT]⟩
 | sl l=>exact⟨hy,by simp [aT]⟩
 | iK l=>exact⟨hy,by simp [aT]⟩
 | _=>exact hy.elim
theorem afm{rows rows':Rows}{x v:PV}(h:jN (aT x) rows rows')(hy:EA rows x v):EA rows' x v ∧ ∀id∈aT x,∃r,rows id=some r:=by
 unfold EA at *
 cases x with
 | ptr id ver i j =>
  obtain⟨⟨r,hr,hv⟩,hh⟩:=hy
  exact⟨⟨⟨r,h id (by simp [aT]) r hr,hv⟩,hh⟩,by simp [aT];exact⟨r,hr⟩⟩
 | rd l=>exact⟨hy,by simp [aT]⟩
 | _=>exact hy.elim
theorem W6{t:TypeId}{rows rows':Rows}{p x v:PV}{u:Option (Nat × Row)}(h:jN (aT p++((cE x).getD []).flatMap aT) rows rows')(hy:qR E t rows p x v u) :
  qR E t rows' p x v u∧(∀id∈aT p++((cE x).getD []).flatMap aT,∃r,rows id=some r) ∧ ∃id r,u=some (id,r)∧id∈aT p:=by
 obtain⟨hk,hv,hy⟩:=hy
 cases p with
 | ptr id ver i j =>
  obtain⟨r,hr,jM,el,mR,l,hl,kA,hh1,hh2,hh3⟩:=hy
  rw [hl]at h ⊢
  simp only [Option.getD_some]at h ⊢
  refine⟨⟨hk,hv,r,h id (by simp [aT]) r hr,jM,el,mR,l,hl,fun q hq=>HR (fun i0 BA=>h i0 ?_) (kA q hq),hh1,hh2,hh3⟩,?_,?_⟩
  ·simp only [List.mem_append,List.mem_flatMap];exact .inr ⟨q,hq,BA⟩
  ·intro i0 BA
   simp only [List.mem_append,List.mem_flatMap]at BA
   rcases BA with BA | ⟨q,hq,BA⟩
   ·simp [aT]at BA;subst BA;exact⟨r,hr⟩
   ·exact W4 (kA q hq) i0 BA
  ·exact⟨id,_,hh3,by simp [aT]⟩
 | _=>exact hy.elim
theorem TW{rows rows':Rows}{y:PV}{l:List (List PV)}(h:jN (aT y) rows rows')(hy:qS rows y l):qS rows' y l ∧ ∀id∈aT y,∃r,rows id=some r:=by
 unfold qS at *
 cases y with
 | own id ver off len =>
  obtain⟨r,hr,hh⟩:=hy
  exact⟨⟨r,h id (by simp [aT]) r hr,hh⟩,by simp [aT];exact⟨r,hr⟩⟩
 | nil=>exact⟨hy,by simp [aT]⟩
 | sl l=>exact⟨hy,by simp [aT]⟩
 | iK l=>exact⟨hy,by simp [aT]⟩
 | _=>exact hy.elim
theorem aaW{t:TI}{rows rows':Rows}{x y v:PV}{u:Option (Nat × Row)}(h:jN (aT x++aT y) rows rows')(hy:tF t rows x y v u):tF t rows' x y v u∧(∀id∈aT x++aT y,∃r,rows id=some r) ∧ ∀id r,u=some (id,r)→id∈aT x++aT y:=by
 unfold tF at *
 split at hy
 ·rename_i e n b z id ver off len
  obtain⟨r,h1,h2,h3,h4,l,h5,h6,h7,rfl⟩:=hy
  obtain⟨g1,g2⟩:=TW (fun id gD=>h id (by simp only [List.mem_append];exact .inr gD)) h5
  refine⟨⟨r,h id (by simp [aT]) r h1,h2,h3,h4,l,g1,h6,h7,rfl⟩,fun i0 gD=>?_,fun i0 r' hu=>?_⟩
  ·simp only [aT,List.mem_append,List.mem_cons,List.not_mem_nil,or_false]at gD
   rcases gD with rfl | gD
   ·exact⟨r,h1⟩
   ·exact g2 i0 gD
  ·simp only [Option.some.injEq,Prod.mk.injEq]at hu
   simp [aT,hu.1]
 ·exact hy.elim
theorem aip{op:Op}{ρ:Operand→PV}{rows rows':Rows}{v:PV}{u:Option (Nat × Row)}(h:jN (iB op ρ) rows rows')(hy:ys E op ρ rows v u) :
  ys E op ρ rows' v u∧(∀id∈iB op ρ,∃r,rows id=some r) ∧ ∀id r,u=some (id,r)→id∈iB op ρ:=by
 unfold ys at hy ⊢
 split at hy
 ·exact aaW h hy
 ·rename_i t p x
  obtain⟨h1,h2,id,r,h3,h4⟩:=W6 h hy
  exact⟨h1,h2,fun i0 r' hu=>by rw [h3]at hu;cases hu;simp only [iB,List.mem_append];exact .inl h4⟩
 ·rename_i t len parts
  obtain⟨hy,rfl⟩:=hy
  unfold PU at hy ⊢
  split at hy
  ·obtain⟨els,h1,h2,h3,h4,h5,h6,rfl⟩:=hy
   have hfz:∀e∈els,∀p∈e,fz rows p=fz rows' p:=fun e he p hp=>HQ (h6 e he p hp)
   refine⟨⟨⟨els,h1,h2,h3,h4,fun e he p hp=>⟨by rw [←hfz e he p hp];exact(h5 e he p hp).1,HR (by rw [h6 e he p hp];intro id gD;cases gD) (h5 e he p hp).2⟩,h6,?_⟩,rfl⟩,by simp [iB],by simp⟩
   congr 1
   exact List.map_congr_left fun e he=>List.map_congr_left fun p hp=>hfz e he p hp
  ·exact hy.elim
 ·rename_i f args ts
  by_cases hm:u6 E (ρ f)=true
  ·rw [if_pos hm]at hy ⊢
   simp only [iB]at h ⊢
   have hfl:(args.toList.flatMap fun x=>aT (ρ x))=(args.toList.map fun x=>ρ x).flatMap aT:=by rw [List.flatMap_map]
   rw [hfl]at h ⊢
   generalize (args.toList.map fun x=>ρ x)=eU at *
   unfold KS at hy ⊢
   split at hy
   ·rename_i g id ver i j rest aqE
    obtain⟨h1,e,n,core,dY,h2,h3,h4,h5,rfl⟩:=hy
    have aaI:rest.flatMap aT = []:=List.flatMap_eq_nil_iff.2 fun x hx=>FG (List.all_eq_true.1 h1.2.2.1 x hx)
    refine⟨⟨h1,e,n,core,dY,h id (by simp [aT]) _ h2,h3,h4,h5,rfl⟩,fun i0 gD=>?_,fun i0 r' hu=>?_⟩
    ·simp only [List.flatMap_cons,aaI,aT,List.append_nil,List.mem_cons,List.not_mem_nil,or_false]at gD
     subst gD
     exact⟨_,h2⟩
    ·simp only [Option.some.injEq,Prod.mk.injEq]at hu
     simp [aT,hu.1]
   ·exact hy.elim
  rw [if_neg hm]at hy ⊢
  obtain⟨rfl,h1,h2⟩:=hy
  refine⟨⟨rfl,?_,h2⟩,by simp [iB,TU h2],by simp⟩
  have:(args.toList.map fun x=>pz rows (ρ x))=args.toList.map fun x=>pz rows' (ρ x):=
   List.map_congr_left fun x hx=>afk (List.flatMap_eq_nil_iff.1 h2 x hx)
  rw [←this];exact h1
 ·obtain⟨hy,rfl⟩:=hy
  suffices hs:yv E op ρ rows' v ∧ ∀id∈iB op ρ,∃r,rows id=some r from⟨⟨hs.1,rfl⟩,hs.2,by simp⟩
  unfold yv at hy ⊢
  split at hy
  case h_8=>exact aaV h hy
  case h_10=>exact EH h hy
  case h_11=>exact EI h hy
  case h_12=>exact W5 h hy
  case h_16 =>
   simp only [iB]at h ⊢
   unfold yC at hy ⊢
   split at hy
   ·obtain⟨n,hn,hv⟩:=hy
    have:=afl (rows':=rows') h hn
    exact⟨⟨n,this.1,hv⟩,this.2⟩
   ·exact hy.elim
  case h_19=>exact afm h hy
  all_goals first
   | exact hy.elim
   | exact⟨hy,by simp [iB]⟩
end
end Pm
