import Derived.Laws.CopyOwn
import Derived.ArgAppend
import Derived.Test.YtiobceocpabjdaaGreatCaa
set_option linter.unusedSimpArgs false
set_option linter.unusedVariables false
namespace Pm
open Go Go.RowKit
def xP(rows:Rows)(ids:List Nat):Rows:=fun j=>if j∈ids then none else rows j
def FR(c:Cx)(ids:List Nat):cY:=fun b o=>c.S b o ∨ ∃id∈ids,(∃r,c.rows id=some r)∧(c.β id).ownBlock=some b
section
variable {E:Env} {c:Cx} {w0:World} {S0:cY}
def wO(c:Cx)(ids:List Nat):Cx:={ c with S:=FR c ids,rows:=xP c.rows ids }
theorem jO(c:Cx)(ids:List Nat):oF c (wO c ids):=
 ⟨fun _ _ h => .inl h,fun _ _ _=>rfl,fun _ h=>h,fun id r hr=>by
  simp only [wO,xP]at hr ⊢
  split at hr
  ·cases hr
  ·exact .inr ⟨r,hr,rfl,rfl,rfl,by first | rfl | trivial⟩⟩
theorem Inv.freeze(hI:Inv w0 S0 c)(ids:List Nat):Inv w0 S0 (wO c ids):=by
 have live:∀ {k:Nat} {t:Row},xP c.rows ids k=some t→c.rows k=some t∧k ∉ ids:=by
  intro k t h
  simp only [xP]at h
  split at h
  ·cases h
  ·rename_i hk;exact⟨h,hk⟩
 have am3:∀ {id:Nat} {r:Row} {g:Nat},c.rows id=some r→(c.β id).ownBlock=some g→w0.heap.size≤g∧g<c.w.heap.size:=by
  intro id r g hr hg
  obtain⟨⟨ys,g1,_,_⟩,_⟩:=hI.row id r hr
  exact g1.lt g hg
 refine⟨hI.below,fun b o h => .inl (hI.ext b o h),fun b o h=>?_,hI.lt0,fun id r hr=>hI.clock id r (live hr).1,fun id r hr=>?_,fun i j r s g hr hs=>hI.apart i j r s g (live hr).1 (live hs).1⟩
 ·rcases h with h | ⟨id,_,⟨r,hr⟩,hb⟩
  ·exact hI.new b o h
  ·exact .inr (am3 hr hb)
 ·obtain⟨i7,hk⟩:=live hr
  obtain⟨⟨ys,g1,g2,g3⟩,g4,g5,g6⟩:=hI.row id r i7
  refine⟨⟨ys,g1,g2.mono (aM.o6 (jO c ids)),g3⟩,g4,fun g o hg hS=>?_,g6⟩
  rcases hS with h | ⟨fZ,uC,⟨r',dB⟩,hb⟩
  ·exact g5 g o hg h
  ·have:=hI.apart id fZ r r' g i7 dB hg hb
   subst this
   exact hk uC
theorem ID(hI:Inv w0 S0 c){ids:List Nat}(hp:∀id∈ids,∀r,c.rows id=some r → ∀e∈r.els,∀p∈e,bL p=true){id:Nat}(eT:id∈ids){r:Row}(hr:c.rows id=some r)
  {g n cap:Nat} (hβ:c.β id = .slice (some ⟨g,0,none⟩) n cap) {i j:Nat} {el:List PV} {p:PV} (hi:r.els[i]? = some el) (hj:el[j]? = some p) :
  ∃v,c.w.cell? ⟨g,i*r.size+j,none⟩=some v∧FR c ids g (i*r.size+j)∧v.oneCell'=true∧cG (FR c ids) c.w p v:=by
 obtain⟨v,h1,h2,h3⟩:=pU hI hr hβ hi hj
 refine⟨v,h1, .inr ⟨id,eT,⟨r,hr⟩,by simp [hβ,Value.ownBlock]⟩,h2,?_⟩
 have h4:=h3.rep (hp id eT r hr el (List.mem_of_getElem? hi) p (List.mem_of_getElem? hj))
 exact cG.mono (fun _ _ h => .inl h) (fun _ _ _=>rfl) _ _ h4
theorem y7(hI:Inv w0 S0 c){ids:List Nat}(hp:∀id∈ids,∀r,c.rows id=some r → ∀e∈r.els,∀p∈e,bL p=true){p:PV}{v:Value}(h:aM c p v)(mR:∀id∈aS p,id∈ids)(rE:bL (fz c.rows p)=true) :
  cG (FR c ids) c.w (fz c.rows p) v:=by
 have mono:∀q u,cG c.S c.w q u→cG (FR c ids) c.w q u:=fun q u=>cG.mono (fun _ _ h => .inl h) (fun _ _ _=>rfl) q u
 cases p with
 | own id ver off len =>
  simp only [fz]at rE ⊢
  have eT:id∈ids:=mR id (by simp [aS])
  cases hr:c.rows id with
  | none=>simp [hr,bL]at rE
  | some r =>
   simp only [hr]at rE ⊢
   by_cases hv:r.ver=ver
   ·simp only [hv,if_true]at rE ⊢
    simp only [aM]at h
    obtain⟨hle,h⟩:=h.2 r hr hv
    obtain⟨⟨xs,fV,_,_⟩,hlen,_⟩:=hI.row id r hr
    have VI:∀A m cap,c.β id = .slice A m cap→r.els.length≤cap∧cap≤maxLen:=by
     intro A m cap hβ
     rw [hβ]at fV
     rcases fV.2 with ⟨h',hz⟩ | ⟨g,gE,cur,h',_,_,FM,hm,_⟩
     ·simp at h';exact⟨by omega,by rw [h'.2.2];simp⟩
     ·simp at h';obtain⟨_,_,rfl⟩:=h';exact⟨FM,hm⟩
    have FT:((r.els.drop off).take len).length=len:=by simp;omega
    have els:∀g n cap,c.β id = .slice (some ⟨g,0,none⟩) n cap→dX (FR c ids) c.w g (off*r.size) ((r.els.drop off).take len):=by
     intro g n cap hβ
     refine kT (n:=r.size) (fun e he=>hlen e (List.mem_of_mem_drop (List.mem_of_mem_take he))) fun k e hk=>?_
     rw [List.getElem?_take]at hk
     split at hk
     ·rw [List.getElem?_drop]at hk
      refine gO fun j q hq=>?_
      have:=ID hI hp eT hr hβ hk hq
      rw [show off*r.size+k*r.size+j=(off+k)*r.size+j by rw [Nat.add_mul]];exact this
     ·cases hk
    simp only [cG]
    rw [FT]
    rcases h with ⟨rfl,A,n,cap,hβ,rfl⟩ | ⟨gZ,g,n,cap,A,hβ,hoc,rfl,ha⟩
    ·obtain⟨c1,c2⟩:=VI _ _ _ hβ
     refine⟨A,cap,rfl,by omega,c2,?_⟩
     rcases Nat.eq_zero_or_pos len with h0 | h0
     ·left;exact List.eq_nil_of_length_eq_zero (by rw [FT];exact h0)
     ·right
      obtain⟨g,gE,mP⟩:=mO hI hr (by omega)
      rw [hβ]at mP
      simp only [Value.slice.injEq]at mP
      obtain⟨rfl,rfl,rfl⟩:=mP
      exact⟨g,0,rfl,by simpa using els g _ _ hβ⟩
    ·obtain⟨c1,c2⟩:=VI _ _ _ hβ
     refine⟨some A,cap-off,rfl,by omega,by omega,?_⟩
     rcases ha with rfl | rfl
     ·left;exact List.eq_nil_of_length_eq_zero FT
     ·right;exact⟨g,off*r.size,rfl,els g n cap hβ⟩
   ·simp [hv,bL]at rE
 | ptr id ver i j =>
  simp only [fz]at rE ⊢
  have eT:id∈ids:=mR id (by simp [aS])
  cases hr:c.rows id with
  | none=>simp [hr,bL]at rE
  | some r =>
   simp only [hr]at rE ⊢
   by_cases hv:r.ver=ver
   ·simp only [hv,if_true]at rE ⊢
    simp only [aM]at h
    obtain⟨g,n,cap,hβ,rfl⟩:=h.2 r hr hv
    simp only [cG]
    refine⟨g,i*r.size+j,rfl,gO fun k q hq=>?_⟩
    rw [List.getElem?_drop]at hq
    cases mN:r.els[i]? with
    | none=>simp [List.getD,mN]at hq
    | some el =>
     have hq':el[j+k]? = some q:=by simpa [List.getD,mN]using hq
     have:=ID hI hp eT hr hβ mN hq'
     rw [show i*r.size+j+k=i*r.size+(j+k)by omega];exact this
   ·simp [hv,bL]at rE
 | nil =>
  simp only [aM,cG]at h
  subst h
  simp only [fz,cG]
  exact⟨none,0,rfl,by simp,by simp [maxLen], .inl (by first | rfl | trivial)⟩
 | fX l =>
  simp only [fz]
  have:=mono _ _ (show cG c.S c.w (.fX l) v by simpa only [aM]using h)
  simp only [cG]at this ⊢
  obtain⟨A,rfl,h1,h2⟩:=this
  exact⟨A,l.length,rfl,Nat.le_refl _,h1,h2⟩
 | undef=>simp [fz,bL]at rE
 | _=>simp only [fz];exact mono _ _ (by simpa only [aM]using h)
theorem y8(hI:Inv w0 S0 c){ids:List Nat}(hp:∀id∈ids,∀r,c.rows id=some r → ∀e∈r.els,∀p∈e,bL p=true){p:PV}{v:Value}(h:aF c p v)(mR:∀id∈cW p,id∈ids)(rE:eR (pz c.rows p)=true) :
  cG (FR c ids) c.w (pz c.rows p) v:=by
 cases p with
 | ag l =>
  obtain⟨vs,rfl,BO⟩:=h
  simp only [pz,eR]at rE ⊢
  simp only [cG]
  refine⟨vs,rfl,b5.2 (a6.cO (by simp [BO.length]) fun k q u hq hu=>?_)⟩
  simp at hq
  obtain⟨q',hq',rfl⟩:=hq
  obtain⟨u',h1,h2⟩:=BO.get hq'
  rw [hu]at h1;cases h1
  refine y7 hI hp h2 (fun id eT=>mR id ?_) (List.all_eq_true.1 rE _ (by simp;exact⟨q',List.mem_of_getElem? hq',rfl⟩))
  simp only [cW,List.mem_flatMap]
  exact⟨q',List.mem_of_getElem? hq',eT⟩
 | _ =>
  simp only [pz]at rE ⊢
  refine y7 hI hp (by simpa only [aF]using h) (fun id eT=>mR id (by simpa only [cW]using eT)) ?_
  revert rE
  simp only [fz]
  first
   | (intro rE;simpa only [eR]using rE)
   | (split
      · split
        · intro _;rfl
        · intro rE;exact rE
      · intro rE;exact rE)
end
theorem rY{α:Type}{n:Nat}:∀ {els:List (List α)},(∀e∈els,e.length=n) → ∀ {i:Nat} {el:List α},els[i]? = some el → ∀(j:Nat) (l:List α),j+l.length≤el.length →
  (els.set i (el.take j++l++el.drop (j+l.length))).flatten=els.flatten.take (i*n+j)++l++els.flatten.drop (i*n+j+l.length)
 | [],_,_,_,h,_,_,_=>by simp at h
 | q::els,hn,0,el,h,j,l,hjl=>by
  simp at h
  subst h
  simp only [List.set_cons_zero,List.flatten_cons,Nat.zero_mul,Nat.zero_add]
  rw [List.take_append_of_le_length (by omega),List.drop_append_of_le_length hjl]
  simp
 | q::els,hn,i+1,el,h,j,l,hjl=>by
  have hq:q.length=n:=hn q (by simp)
  have ih:=rY (els:=els) (n:=n) (fun e he=>hn e (by simp [he])) (i:=i) (el:=el) (by simpa using h) j l hjl
  simp only [List.set_cons_succ,List.flatten_cons,ih]
  have e1:(i+1)*n+j=q.length+(i*n+j):=by rw [hq,Nat.add_mul];omega
  have e2:(i+1)*n+j+l.length=q.length+(i*n+j+l.length):=by omega
  rw [e1,show q.length+(i*n+j)+l.length=q.length+(i*n+j+l.length)by omega,List.take_length_add_append,List.drop_length_add_append]
  simp
def mS(E:Env)(t:TypeId)(rows:Rows)(p x v:PV)(u:Option (Nat × Row)):Prop:=
 (E.ty t).known=true∧v = .undef ∧
 match p with
 | .ptr id ver i j=>∃r,rows id=some r∧r.ver=ver ∧ ∃el,r.els[i]? = some el ∧ ∃l,bP x=some l∧(∀q∈l,eZ rows q)∧l.length=(E.ty t).size∧j+l.length≤el.length ∧
   u=some (id,{ r with els:=r.els.set i (el.take j++l++el.drop (j+l.length)) })
 | _=>False
def fF(n:Nat):Nat→List (Nat × PV)→Option (List (List PV))
 | _,[]=>some []
 | k,(i,p)::ps =>
  match bP p with
  | some l=>if i=k∧l.length=n then(fF n (k+1) ps).map (l :: ·)else none
  | none=>none
def FU(t:TI)(rows:Rows)(len:Nat)(parts:List (Nat × PV))(v:PV):Prop:=
 match t with
 | .slice _ n _ _=>∃els,fF n 0 parts=some els∧len=els.length∧len≤4096∧n≤4096∧(∀e∈els,∀p∈e,bL (fz rows p)=true∧eZ rows p)∧(∀e∈els,∀p∈e,aS p = [])∧v = .fX (els.map fun e=>e.map (fz rows))
 | _=>False
def Gs:=PV × Value→Prop
instance:Membership (PV × Value) Gs:=⟨fun G p=>G p⟩
def Gs.none:Gs:=fun _=>False
theorem Gs.BQ{p:PV × Value}:¬p∈Gs.none:=id
def KS(P:Program)(f:FuncId)(args:List PV)(rows:Rows)(clk:Nat)(R:PV→Rows→Nat→Prop):Prop:=
 (∃fn c,P.funcs[f]? = some fn∧fn.body=some c∧(fn.name == "runtime.NumGoroutine")=false) ∧
 ∀(w0:World) (S0:cY) (c:Cx) (vs:List Value) (G:Gs),Inv w0 S0 c→c.rows=rows→(∀v,c.used v→v<clk)→a6 (aF c) args vs→(∀p∈G,aF c p.1 p.2) →
  Calls P f vs.toArray c.w fun e w'=>∃v c' r gF,e = .returned v∧c'.w=w'∧Inv w0 S0 c'∧(∀p∈G,aF c' p.1 p.2)∧R r c'.rows gF∧(∀v,c'.used v→v<gF)∧aF c' r v
def abU(E:Env):PV→Bool
 | .fn g _=>E.writes g
 | _=>false
def rZ(P:Program)(g:FuncId)(eU:List PV)(rows:Rows)(clk:Nat)(K:PV→Rows→Nat→Prop):Prop:=
 ∃R,KS P g eU rows clk R ∧ ∀r rows' gF,R r rows' gF→K r rows' gF
def FV(E:Env)(p:PV)(eU:List PV)(rows:Rows)(clk:Nat)(K:PV→Rows→Nat→Prop):Prop:=
 match p with
 | .fn g []=>rZ E.P g eU rows clk K
 | _=>False
def r3(E:Env)(f:PV)(args:List PV)(v:PV):Prop:=
 match f with
 | .fn g b8=>(args.all eR=true)∧aZ E.P g (args++b8) v
 | _=>False
def mT(rows:Rows)(y:PV)(l:List (List PV)):Prop:=
 match y with
 | .nil=>l = []
 | .sl k=>l=k
 | .fX k=>l=k
 | .own id ver off len=>∃r,rows id=some r∧r.ver=ver∧l=(r.els.drop off).take len
 | _=>False
def oQ(t:TI)(rows:Rows)(x y v:PV)(u:Option (Nat × Row)):Prop:=
 match t,x with
 | .slice _ n _ _, .own id ver off len=>∃r,rows id=some r∧r.ver=ver∧r.size=n∧off+len≤r.els.length ∧ ∃l,mT rows y l∧(∀e∈l,e.length=n) ∧
   v = .int .i64 (min l.length len)∧u=some (id,{ r with els:=r.els.take off++l.take len++r.els.drop (off+min l.length len) })
 | _,_=>False
def ys(E:Env)(op:Op)(ρ:Operand→PV)(rows:Rows)(v:PV)(u:Option (Nat × Row)):Prop:=
 match op with
 | .call { callee:=.builtin .copy,args:=⟨[x,y]⟩,argTypes:=⟨[t,_]⟩ }=>oQ (E.ty t) rows (ρ x) (ρ y) v u
 | .store t p x=>mS E t rows (ρ p) (ρ x) v u
 | .buildSlice t len parts=>FU (E.ty t) rows len (parts.toList.map fun x=>(x.1,ρ x.2)) v∧u=none
 | .call { callee:=.value f,args:=args,argTypes:=_ }=>u=none∧r3 E (ρ f) (args.toList.map fun x=>pz rows (ρ x)) v∧(args.toList.flatMap fun x=>cW (ρ x)) = []
 | op=>yv E op ρ rows v∧u=none
def dE(rows:Rows):Option (Nat × Row)→Rows
 | none=>rows
 | some (id,r)=>c4 rows id (some r)
section
variable {E:Env} {c:Cx} {w0:World} {S0:cY}
theorem FW(hI:Inv w0 S0 c){t:TypeId}{p x v:PV}{u:Option (Nat × Row)}{vp vx:Value}(hp:aF c p vp)(hx:aF c x vx)(h:mS E t c.rows p x v u) :
  v = .undef ∧ ∃w',(Instr.storeAt t vp vx).run E.P c.w = .ok () w'∧Inv w0 S0 { c with w:=w',rows:=dE c.rows u }∧oF c { c with w:=w',rows:=dE c.rows u }:=by
 obtain⟨hk,rfl,h⟩:=h
 refine⟨rfl,?_⟩
 split at h
 ·rename_i id ver i j
  obtain⟨r,hr,iO,el,mN,l,hl,g9,hlen,hjl,rfl⟩:=h
  simp only [aF,aM]at hp
  obtain⟨g,n,cap,hβ,rfl⟩:=hp.2 r hr iO
  obtain⟨⟨xs,fV,eS,Z1⟩,uB,hnS,gZ⟩:=hI.row id r hr
  obtain⟨wP,hc2⟩:=jY hx hl g9
  have FG:vx.cells.toList.length=l.length:=wP.length.symm
  have ahn:=fV
  rw [hβ]at fV
  rcases fV.2 with ⟨h',_⟩ | ⟨g',gE,cur,h',UX,hg,FM,ZV,FO,BR⟩
  ·simp at h'
  ·simp only [Value.slice.injEq,Option.some.injEq,Addr.mk.injEq,and_true]at h'
   obtain⟨rfl,rfl,rfl⟩:=h'
   have hi:i<r.els.length:=(List.getElem?_eq_some_iff.1 mN).1
   have asI:el.length=r.size:=uB el (List.mem_of_getElem? mN)
   have hmul:i*r.size+r.size≤r.els.length*r.size:=by rw [←Nat.succ_mul];exact Nat.mul_le_mul_right _ hi
   have ap5:r.els.length*r.size≤cap*r.size:=Nat.mul_le_mul_right _ FM
   have abV:i*r.size+j+l.length≤r.els.length*r.size:=by omega
   have FX:=run_storeCells_at E.P g (i*r.size+j) r.e vx.cells.toList 0 cur c.w hg (by rw [FG];omega) hc2
   obtain⟨inf,_,hi1,_,hi2,_,_⟩:=((E.ok t).zero hk).ok
   have gG:(Instr.storeAt t (.pointer (some ⟨g,i*r.size+j,none⟩)) vx).run E.P c.w = .ok () (c.w.setRow g (cur.toList.take (i*r.size+j)++vx.cells.toList++cur.toList.drop (i*r.size+j+l.length)).toArray):=by
    have lF:vx.cells.size=inf.size:=by rw [hi2,←hlen,←FG];simp
    simp only [Instr.storeAt,Instr.sureAddr,Sem.run_bind,Sem.run_pure,Result.andThen_ok,storeVar,cC hi1,lF]
    simp only [Nat.add_zero,FG]at FX
    simpa using FX
   refine⟨_,gG,?_⟩
   have OS:(c.w.setRow g (cur.toList.take (i*r.size+j)++vx.cells.toList++cur.toList.drop (i*r.size+j+l.length)).toArray).ownsRow w0.heap.size r.e r.size (c.β id) (r.els.set i (el.take j++l++el.drop (j+l.length))).length
     (xs.take (i*r.size+j)++vx.cells.toList++xs.drop (i*r.size+j+l.length)):=by
    rw [hβ,List.length_set]
    refine⟨?_, .inr ⟨g,cap,_,rfl,UX,setRow_heap _ g cur _ r.e _ hg,FM,ZV,?_,?_⟩⟩
    ·have:=fV.1
     simp [FG];omega
    ·simp [FG];omega
    ·rw [←BR]
     have am4:cur.toList.length=cap*r.size:=by simp [FO]
     simp only
     rw [List.take_append,List.take_append]
     have e1:List.take (r.els.length*r.size) (cur.toList.take (i*r.size+j))=cur.toList.take (i*r.size+j):=by
      rw [List.take_take,Nat.min_eq_right (by omega)]
     have e2:List.take (i*r.size+j) (cur.toList.take (r.els.length*r.size))=cur.toList.take (i*r.size+j):=by
      rw [List.take_take,Nat.min_eq_left (by omega)]
     rw [e1,e2]
     have e3:(cur.toList.take (i*r.size+j)).length=i*r.size+j:=by rw [List.length_take];omega
     rw [e3]
     have e4:List.take (r.els.length*r.size-(i*r.size+j)) vx.cells.toList=vx.cells.toList:=List.take_of_length_le (by rw [FG];omega)
     rw [e4]
     congr 1
     rw [List.length_append,e3,FG,List.drop_take]
   have uD:a6 (aM c) (r.els.set i (el.take j++l++el.drop (j+l.length))).flatten (xs.take (i*r.size+j)++vx.cells.toList++xs.drop (i*r.size+j+l.length)):=by
    rw [rY uB mN j l hjl]
    exact((eS.take _).append wP).append (eS.drop _)
   have s0:c.w.grownBy (c.w.setRow g (cur.toList.take (i*r.size+j)++vx.cells.toList++cur.toList.drop (i*r.size+j+l.length)).toArray) (c.β id).ownBlock:=by
    rw [hβ]
    exact⟨rfl,rfl,rfl,by simp,fun k _ hk=>setRow_other _ g k _ (fun e=>hk (by simp [Value.ownBlock,e]))⟩
   exact hI.c4 (r':={ r with els:=r.els.set i (el.take j++l++el.drop (j+l.length)) }) hr s0 OS uD (by
    intro y hy
    simp only [List.mem_append]at hy
    rcases hy with (hy | hy) | hy
    ·exact Z1 y (List.mem_of_mem_take hy)
    ·exact hc2 y hy
    ·exact Z1 y (List.mem_of_mem_drop hy)) (by
    intro e he
    rcases List.mem_or_eq_of_mem_set he with he | rfl
    ·exact uB e he
    ·simp;omega) rfl rfl (by simp)
 ·exact h.elim
end
section
variable {E:Env} {c:Cx} {w0:World} {S0:cY}
theorem uE{n:Nat}:∀(vs:List (Nat × Value)) (k:Nat) (cells:Array Value),(∀j x,vs[j]? = some x→x.1=k+j∧x.2.cells.size=n)→cells.size=(k+vs.length)*n →
  ∃bZ,Instr.fill (fun i=>some (i*n,n)) cells vs=some bZ∧bZ.toList=cells.toList.take (k*n)++vs.flatMap fun x=>x.2.cells.toList
 | [],k,cells,_,hs=>⟨cells,rfl,by simp at hs;rw [List.take_of_length_le (by simp [hs])];simp⟩
 | (i,v)::vs,k,cells,h,hs=>by
  obtain⟨h1,h2⟩:=h 0 (i,v) (by simp)
  simp only [Nat.add_zero]at h1 h2
  subst h1
  have abV:i*n+n≤cells.size:=by
   rw [hs,List.length_cons,←Nat.succ_mul]
   exact Nat.mul_le_mul_right _ (by omega)
  have hz3:v.cells.toList.zipIdx=v.cells.zipIdx.toList:=by simp
  have xM:=lG (i*n) v.cells.toList 0 cells (by simp [h2];omega)
  have lF:(List.foldl (fun cs (x:Value × Nat)=>cs.setIfInBounds (i*n+x.2) x.1) cells v.cells.toList.zipIdx).size=cells.size:=by
   have:=congrArg List.length xM
   simp only [Array.length_toList]at this
   rw [this]
   simp [h2]
   omega
  obtain⟨bZ,g1,g2⟩:=uE vs (i+1) (List.foldl (fun cs (x:Value × Nat)=>cs.setIfInBounds (i*n+x.2) x.1) cells v.cells.toList.zipIdx)
   (fun j x hx=>by have:=h (j+1) x (by simpa using hx);exact⟨by omega,this.2⟩) (by rw [lF,hs,List.length_cons];congr 1;omega)
  refine⟨bZ,?_,?_⟩
  ·simp only [Instr.fill]
   rw [if_neg (by simp [h2];omega),←g1,hz3,Array.foldl_toList]
  ·rw [g2,xM]
   have e1:(cells.toList.take (i*n+0)).length=i*n:=by rw [List.length_take];simp;omega
   have e2:v.cells.toList.length=n:=by simp [h2]
   rw [show(i+1)*n=i*n+n by rw [Nat.add_mul];omega]
   rw [List.take_append,List.length_append,e1,e2,Nat.sub_self,List.take_zero,List.append_nil,List.take_of_length_le (by rw [List.length_append,e1,e2];exact Nat.le_refl _)]
   simp [List.append_assoc]
theorem kN{n:Nat}:∀ {ps:List (Nat × PV)} {k:Nat} {els:List (List PV)},fF n k ps=some els→els.length=ps.length∧(∀e∈els,e.length=n) ∧ ∀j x,ps[j]? = some x→x.1=k+j ∧ ∃e,els[j]? = some e∧bP x.2=some e
 | [],k,els,h=>by simp [fF]at h;subst h;simp
 | (i,p)::ps,k,els,h=>by
  simp only [fF]at h
  split at h
  ·rename_i l hl
   split at h
   ·rename_i IC
    rw [Option.map_eq_some_iff]at h
    obtain⟨s5,h1,rfl⟩:=h
    obtain⟨g1,g2,g3⟩:=kN h1
    refine⟨by simp [g1],fun e he=>?_,fun j x hx=>?_⟩
    ·simp at he
     rcases he with rfl | he
     ·exact IC.2
     ·exact g2 e he
    ·match j with
     | 0=>simp at hx;subst hx;exact⟨by simpa using IC.1,l,by simp,hl⟩
     | j+1 =>
      obtain⟨q1,q2⟩:=g3 j x (by simpa using hx)
      exact⟨by omega,by simpa using q2⟩
   ·cases h
  ·cases h
theorem Inv.am5(hI:Inv w0 S0 c)(o:Obj):Inv w0 S0 { c with w:=c.w.alloc o,S:=fun b k=>c.S b k∨b=c.w.heap.size }∧oF c { c with w:=c.w.alloc o,S:=fun b k=>c.S b k∨b=c.w.heap.size }:=by
 have:=hI.grow (w':=c.w.alloc o) (S':=fun b k=>c.S b k∨b=c.w.heap.size) ((Below.refl _ _).alloc (Nat.le_refl _) o) (fun _ _ h => .inl h) (fun b k h=>h.imp (fun h=>h) fun h=>by subst h;simp)
 exact this
theorem OT{p:PV}{v:Value}(hI:Inv w0 S0 c)(h:aM c p v)(mR:aS p = [])(rE:bL (fz c.rows p)=true):cG c.S c.w (fz c.rows p) v:=by
 have:=y7 hI (ids:=[]) (by simp) h (by simp [mR]) rE
 exact cG.mono (fun b o h=>by rcases h with h | ⟨id,eT,_⟩;exact h;cases eT) (fun _ _ _=>rfl) _ _ this
theorem uF(hI:Inv w0 S0 c){t e:TypeId}{n bb len:Nat}{z:List PV}(hE:E.ty t = .slice e n bb z){parts:Array (Nat × Operand)}{ρ:Operand→PV}{vρ:Operand→Value}(hρ:∀x,aF c (ρ x) (vρ x))
  {els:List (List PV)} (uB:fF n 0 (parts.toList.map fun x=>(x.1,ρ x.2))=some els) (hlen:len=els.length) (hsm:len≤4096) (hn:n≤4096)
  (rE:∀e∈els,∀p∈e,bL (fz c.rows p)=true∧eZ c.rows p) (mR:∀e∈els,∀p∈e,aS p = []) :
  ∃v' c',(Instr.buildSlice t len (parts.map fun(i,x)=>(i,vρ x))).run E.P c.w = .ok v' c'.w∧c'.rows=c.rows∧c'.used=c.used∧Inv w0 S0 c'∧oF c c'∧aF c' (.fX (els.map fun e=>e.map (fz c.rows))) v':=by
 obtain⟨hu,hnp,y9,i,zv,hi,hz,hs,_,FQ,_⟩:=eA hE
 obtain⟨g1,g2,g3⟩:=kN uB
 have IE:parts.size=els.length:=by rw [g1];simp
 have am7:zv.cells.size=n:=by rw [←y9,←FQ];simp
 have xQ:∀j (x:Nat × Value),((parts.map fun(i,x)=>(i,vρ x)).toList)[j]? = some x→x.1=0+j ∧ ∃e,els[j]? = some e∧a6 (aM c) e x.2.cells.toList ∧ ∀u∈x.2.cells.toList,u.oneCell'=true:=by
  intro j x hx
  simp at hx
  obtain⟨a,b,l3,rfl⟩:=hx
  obtain⟨q1,e,q2,q3⟩:=g3 j (a,ρ b) (by simp;exact⟨a,b,l3,rfl,rfl⟩)
  have q4:=jY (hρ b) q3 (fun q hq=>(rE e (List.mem_of_getElem? q2) q hq).2)
  exact⟨q1,e,q2,q4.1,q4.2⟩
 obtain⟨bZ,f1,f2⟩:=uE (n:=n) (parts.map fun(i,x)=>(i,vρ x)).toList 0 ((Array.range (len*n)).map (zv.cells[· % zv.cells.size]!)) (fun j x hx=>by
  obtain⟨q1,e,q2,q3,_⟩:=xQ j x hx
  refine⟨q1,?_⟩
  have:=q3.length
  rw [g2 e (List.mem_of_getElem? q2)]at this
  simpa using this.symm) (by simp [IE,hlen])
 simp only [Nat.zero_mul,List.take_zero,List.nil_append]at f2
 have gG:(Instr.buildSlice t len (parts.map fun(i,x)=>(i,vρ x))).run E.P c.w = .ok (.slice (some ⟨c.w.heap.size,0,none⟩) len len) (c.w.alloc (.cells bZ e)):=by
  have hbound:¬(16777216<len*n):=by
   have:len*n≤4096*4096:=Nat.mul_le_mul hsm hn
   omega
  by_cases h0:len*n=0
  ·have IF:len=0:=by
    rcases Nat.mul_eq_zero.1 h0 with h | h
    ·exact h
    ·omega
   have Z2:parts = #[]:=Array.eq_empty_of_size_eq_zero (by omega)
   subst Z2
   subst IF
   simp [Instr.fill]at f1
   subst f1
   have E3:Array.range 0 = #[]:=rfl
   simp [Instr.buildSlice,run_underlying hu,cC hi,newRow,Instr.fill,E3]
  ·have f1':Instr.fill (fun i=>some (i*n,n)) ((Array.range (len*n)).map (zv.cells[· % zv.cells.size]!)) (parts.toList.map fun x=>(x.1,vρ x.2))=some bZ:=by simpa using f1
   simp only [Instr.buildSlice,Sem.run_bind,run_underlying hu,Result.andThen_ok,cC hi,hs]
   simp [h0,hbound,newRow,zeroValue,typeInfo,hi,hz,f1']
 obtain⟨rB,hA⟩:=hI.am5 (.cells bZ e)
 refine⟨_,{ c with w:=c.w.alloc (.cells bZ e),S:=fun b k=>c.S b k∨b=c.w.heap.size },gG,rfl,rfl,rB,hA,?_⟩
 simp only [aF,aM,cG]
 refine⟨some ⟨c.w.heap.size,0,none⟩,by rw [List.length_map,hlen],by rw [List.length_map,←hlen];simp [maxLen];omega, .inr ⟨_,_,rfl,?_⟩⟩
 refine kT (n:=n) (by
  intro e' nW
  simp at nW
  obtain⟨e1,VK,rfl⟩:=nW
  simpa using g2 e1 VK) fun k el hk=>?_
 simp at hk
 obtain⟨e1,VK,rfl⟩:=hk
 refine gO fun j p hj=>?_
 simp at hj
 obtain⟨q,hq,rfl⟩:=hj
 have hkl:k<els.length:=(List.getElem?_eq_some_iff.1 VK).1
 obtain⟨x,hx⟩:∃x,((parts.map fun(i,x)=>(i,vρ x)).toList)[k]? = some x:=⟨_,List.getElem?_eq_getElem (by simp;omega)⟩
 obtain⟨_,e2,q2,q3,q4⟩:=xQ k x hx
 rw [VK]at q2;cases q2
 obtain⟨u,Z3,VL⟩:=q3.get hq
 have aho:bZ.toList[k*n+j]? = some u:=by
  have e3:bZ.toList=((parts.map fun(i,x)=>(i,vρ x)).toList.map fun x=>x.2.cells.toList).flatten:=by rw [f2,List.flatMap_def]
  rw [e3]
  refine gQ (n:=n) (fun e he=>?_) (i:=k) (e:=x.2.cells.toList) (by rw [List.getElem?_map,hx];rfl) Z3
  simp only [List.mem_map]at he
  obtain⟨y,hy,rfl⟩:=he
  obtain⟨k',rW⟩:=List.getElem?_of_mem hy
  obtain⟨_,e4,q5,q6,_⟩:=xQ k' y rW
  rw [←q6.length];exact g2 e4 (List.mem_of_getElem? q5)
 refine⟨u,?_, .inr rfl,q4 u (List.mem_of_getElem? Z3),?_⟩
 ·have:=heap_alloc_new c.w (.cells bZ e)
  rw [cell_of_row _ _ _ _ _ _ this]
  simpa using aho
 ·exact cG.mono hA.S hA.w _ _ (OT hI VL (mR e1 (List.mem_of_getElem? VK) q (List.mem_of_getElem? hq)) (rE e1 (List.mem_of_getElem? VK) q (List.mem_of_getElem? hq)).1)
end
section
variable {E:Env} {c:Cx} {w0:World} {S0:cY}
theorem jZ{P:Program}{g:FuncId}{fn:Func}{b:Code}(h1:P.funcs[g]? = some fn)(h2:fn.body=some b) (h3:(fn.name == "runtime.NumGoroutine") = false) (args:Array Value) (w:World) :
  (callFunc g args).run P w = .ok (.enter g args) w:=by
 simp only [callFunc,Sem.run_bind,program,Sem.run,Result.andThen_ok,h1,h2,h3]
 simp
theorem r5(hI:Inv w0 S0 c){ids:List Nat}(hp:∀id∈ids,∀r,c.rows id=some r → ∀e∈r.els,∀p∈e,bL p=true){pf:PV}{vf:Value}{IG:List PV}{r6:List Value}
  (hf:aF c pf vf) (eI:a6 (aF c) IG r6) (mR:∀p∈IG,∀id∈cW p,id∈ids) {v:PV} (h:r3 E pf (IG.map (pz c.rows)) v) {K:Value→World→Prop}
  (hK:∀v' c',c'.rows=xP c.rows ids→c'.used=c.used→oF c c'→Inv w0 S0 c'→aF c' v v'→K v' c'.w) :
  ∃g cs,vf = .func (.func g) #[] cs∧(callFunc g (r6.toArray++cs)).run E.P c.w = .ok (.enter g (r6.toArray++cs)) c.w ∧
   Calls E.P g (r6.toArray++cs) c.w fun e w'=>∃v',e = .returned v'∧K v' w':=by
 unfold r3 at h
 split at h
 ·rename_i g b8
  obtain⟨oR,⟨fn,b,h1,h2,h3⟩,FY⟩:=h
  simp only [aF,aM,cG]at hf
  obtain⟨cs,rfl,FO⟩:=hf
  refine⟨g,cs.toArray,rfl,jZ h1 h2 h3 _ _,?_⟩
  have BS:=hI.freeze ids
  have jH:∀b o,FR c ids b o→b<c.w.heap.size:=fun b o hb=>BS.lt (c:=wO c ids) hb
  have eS:a7 (FR c ids) c.w (IG.map (pz c.rows)++b8) (r6++cs):=by
   refine b5.2 (a6.append (a6.cO (by simp [eI.length]) fun k p u sZ hu=>?_) ?_)
   ·simp at sZ
    obtain⟨q,hq,rfl⟩:=sZ
    obtain⟨u',g1,g2⟩:=eI.get hq
    rw [hu]at g1;cases g1
    exact y8 hI hp g2 (mR q (List.mem_of_getElem? hq)) (List.all_eq_true.1 oR _ (by simp;exact⟨q,List.mem_of_getElem? hq,rfl⟩))
   ·exact(b5.1 FO).mono fun a b l3=>cG.mono (fun _ _ h => .inl h) (fun _ _ _=>rfl) a b l3
  have:=FY c.w (FR c ids) (r6++cs) jH eS
  rw [show(r6++cs).toArray=r6.toArray++cs.toArray by simp]at this
  refine this.mono ?_
  rintro e w' ⟨v',rfl,hb,S',g1,g2,g3⟩
  refine⟨v',rfl,?_⟩
  obtain⟨UZ,hA2⟩:=BS.grow (c:=wO c ids) hb g1 g2
  have hA:oF c { wO c ids with S:=S',w:=w' }:=by
   have hA1:=jO c ids
   exact⟨fun b o h=>g1 b o (hA1.S b o h),fun b o h=>(hA2.w b o (hA1.S b o h)).trans (hA1.w b o h),fun _ h=>h,hA1.rows⟩
  exact hK v' { wO c ids with S:=S',w:=w' } rfl rfl hA UZ (aF.gB g3)
 ·exact h.elim
structure mD(w0:World)(S0:cY)(n:Nat)(G:Gs)(U:Nat→Prop)(f:Nat→PV)(rows:Rows)(a:Act)(w:World):Prop where
 ex:∃c:Cx,c.w=w∧c.rows=rows∧(∀v,c.used v→U v)∧Inv w0 S0 c∧(∀s,aF c (f s) (a.tmps.getD s undef)) ∧ ∀p∈G,aF c p.1 p.2
 size:a.tmps.size=n
 defers:a.defers = []
abbrev Rel(w0:World)(S0:cY)(n:Nat)(G:Gs)(σ:PS)(a:Act)(w:World):Prop:=mD w0 S0 n G (fun v=>v<σ.clock) σ.f σ.rows a w
theorem mD.mono{w0:World}{S0:cY}{n:Nat}{G:Gs}{U U':Nat→Prop}{f:Nat→PV}{rows:Rows}{a:Act}{w:World}(hU:∀v,U v→U' v)(h:mD w0 S0 n G U f rows a w):mD w0 S0 n G U' f rows a w:=by
 obtain⟨⟨c,h1,h2,h3,h4⟩,h5,h6⟩:=h
 exact⟨⟨c,h1,h2,fun v hv=>hU v (h3 v hv),h4⟩,h5,h6⟩
theorem kU{n:Nat}{G:Gs}{U:Nat→Prop}{f:Nat→PV}{a:Act}{c':Cx}{v:PV}{v':Value}{d:Option Tmp}(hf:∀s,aF c (f s) (a.tmps.getD s undef))(hG:∀p∈G,aF c p.1 p.2)(hn:a.tmps.size=n)(eC:a.defers = [])
  (hA:oF c c') (hI:Inv w0 S0 c') (hv:aF c' v v') (hd:∀t,d=some t→t<n) {f':Nat→PV} {rows:Rows} (h1:f'=put f d v) (h2:rows=c'.rows) (h3:∀v,c'.used v→U v):mD w0 S0 n G U f' rows (a.put d v') c'.w:=by
 refine⟨⟨c',rfl,h2.symm,h3,hI,fun s=>?_,fun p hp=>aF.o6 hA _ _ (hG p hp)⟩,?_,?_⟩
 ·rw [h1]
  cases d with
  | none=>exact aF.o6 hA _ _ (hf s)
  | some t =>
   simp only [put,Act.put]
   by_cases hs:s=t
   ·subst hs
    have:s<a.tmps.size:=by rw [hn];exact hd s rfl
    simpa [this]using hv
   ·rw [if_neg hs]
    have:=aF.o6 hA _ _ (hf s)
    simpa [Array.getElem?_setIfInBounds_ne (Ne.symm hs)]using this
 ·cases d<;>simp [Act.put,hn]
 ·cases d<;>simp [Act.put,eC]
theorem lH{n:Nat}{G:Gs}{f:Nat→PV}{a:Act}{c':Cx}{v:PV}{v':Value}{d:Option Tmp}(hf:∀s,aF c (f s) (a.tmps.getD s undef))(hG:∀p∈G,aF c p.1 p.2)(hn:a.tmps.size=n)(eC:a.defers = [])
  (hA:oF c c') (hI:Inv w0 S0 c') (hv:aF c' v v') (hd:∀t,d=some t→t<n) {σ:PS} (h1:σ.f=put f d v) (h2:σ.rows=c'.rows) (h3:∀v,c'.used v→v<σ.clock):Rel w0 S0 n G σ (a.put d v') c'.w:=
 kU hf hG hn eC hA hI hv hd h1 h2 h3
theorem OU{n:Nat}{G:Gs}{f:Nat→PV}{a:Act}{c':Cx}{v:PV}{v':Value}{d:Option Tmp}(hf:∀s,aF c' (f s) (a.tmps.getD s undef))(hG:∀p∈G,aF c' p.1 p.2)(hn:a.tmps.size=n)(eC:a.defers = [])
  (hI:Inv w0 S0 c') (hv:aF c' v v') (hd:∀t,d=some t→t<n) {σ:PS} (h1:σ.f=put f d v) (h2:σ.rows=c'.rows) (h3:∀v,c'.used v→v<σ.clock):Rel w0 S0 n G σ (a.put d v') c'.w:=
 lH hf hG hn eC (oF.refl c') hI hv hd h1 h2 h3
theorem kV{α:Type}{n:Nat}:∀ {l:List (List α)},(∀e∈l,e.length=n) → ∀k,(l.take k).flatten=l.flatten.take (k*n)∧(l.drop k).flatten=l.flatten.drop (k*n)
 | [],_,k=>by simp
 | e::l,_,0=>by simp
 | e::l,h,k+1=>by
  have he:=h e (by simp)
  have ih:=kV (l:=l) (fun e' nW=>h e' (List.mem_cons_of_mem _ nW)) k
  have h1:(k+1)*n=e.length+k*n:=by rw [he,Nat.add_mul];omega
  simp only [List.take_succ_cons,List.drop_succ_cons,List.flatten_cons,h1,List.take_length_add_append,List.drop_length_add_append,ih.1,ih.2,and_self]
theorem pB(hI:Inv w0 S0 c){y:PV}{vy:Value}{l:List (List PV)}{n:Nat}(hy:aF c y vy)(h:mT c.rows y l)(hn:∀e∈l,e.length=n) :
  ∃A cap news,vy = .slice A l.length cap∧news.length=l.length*n∧a6 (aM c) l.flatten news∧(∀u∈news,u.oneCell'=true)∧(A=none→l = []) ∧
   ∀a,A=some a → ∀j u,news[j]? = some u→c.w.cell? (a.add j)=some u:=by
 have fl:∀ {l:List (List PV)},(∀e∈l,e.length=n)→l.flatten.length=l.length*n:=by
  intro l
  induction l with
  | nil=>intro _;simp
  | cons e l ih=>intro h;rw [List.flatten_cons,List.length_append,ih (fun e he=>h e (by simp [he])),h e (by simp),List.length_cons,Nat.add_mul];omega
 have at_:∀(g o cap:Nat),vy = .slice (some ⟨g,o,none⟩) l.length cap →
   (∀k e,l[k]? = some e → ∀j p,e[j]? = some p → ∃v,c.w.cell? ⟨g,o+(k*n+j),none⟩=some v∧v.oneCell'=true∧aM c p v) → ∃A cap news,vy = .slice A l.length cap∧news.length=l.length*n∧a6 (aM c) l.flatten news∧(∀u∈news,u.oneCell'=true)∧(A=none→l = []) ∧
   ∀a,A=some a → ∀j u,news[j]? = some u→c.w.cell? (a.add j)=some u:=by
  intro g o cap hv hc
  have cellAt:∀k,k<l.length*n → ∃p v,l.flatten[k]? = some p∧c.w.cell? ⟨g,o+k,none⟩=some v∧v.oneCell'=true∧aM c p v:=by
   intro k hk
   have hn0:0<n:=by
    rcases Nat.eq_zero_or_pos n with h | h
    ·subst h;simp at hk
    ·exact h
   have hq:k/n<l.length:=(Nat.div_lt_iff_lt_mul hn0).2 hk
   have he:=hn l[k/n] (List.getElem_mem hq)
   have hj:k%n<l[k/n].length:=by rw [he];exact Nat.mod_lt _ hn0
   have IH:k/n*n+k%n=k:=by rw [Nat.mul_comm];exact Nat.div_add_mod k n
   obtain⟨v,h1,h2,h3⟩:=hc (k/n) _ (List.getElem?_eq_getElem hq) (k%n) _ (List.getElem?_eq_getElem hj)
   rw [IH]at h1
   have:=gQ hn (List.getElem?_eq_getElem hq) (List.getElem?_eq_getElem hj)
   rw [IH]at this
   exact⟨_,v,this,h1,h2,h3⟩
  have hnl:((List.range (l.length*n)).map fun k=>(c.w.cell? ⟨g,o+k,none⟩).getD undef).length=l.length*n:=by simp
  have OL:∀k u,((List.range (l.length*n)).map fun k=>(c.w.cell? ⟨g,o+k,none⟩).getD undef)[k]? = some u→k<l.length*n ∧ ∃p,l.flatten[k]? = some p∧c.w.cell? ⟨g,o+k,none⟩=some u∧u.oneCell'=true∧aM c p u:=by
   intro k u hu
   have hk:k<l.length*n:=by rw [←hnl];exact(List.getElem?_eq_some_iff.1 hu).1
   obtain⟨p,v,h1,h2,h3,h4⟩:=cellAt k hk
   rw [List.getElem?_map,List.getElem?_range hk]at hu
   simp only [Option.map_some,h2,Option.getD_some,Option.some.injEq]at hu
   subst hu
   exact⟨hk,p,h1,h2,h3,h4⟩
  refine⟨some ⟨g,o,none⟩,cap,_,hv,hnl,a6.cO (by rw [hnl,fl hn]) fun k p u hp hu=>?_,fun u hu=>?_,by simp,fun a ha j u hu=>?_⟩
  ·obtain⟨_,p',h1,_,_,h4⟩:=OL k u hu
   rw [hp]at h1;cases h1;exact h4
  ·obtain⟨k,hk⟩:=List.getElem?_of_mem hu
   exact(OL k u hk).2.choose_spec.2.2.1
  ·cases ha
   rw [fU]
   exact(OL j u hu).2.choose_spec.2.1
 have empty:∀A cap,vy = .slice A l.length cap→l = [] → ∃A cap news,vy = .slice A l.length cap∧news.length=l.length*n∧a6 (aM c) l.flatten news∧(∀u∈news,u.oneCell'=true)∧(A=none→l = []) ∧
   ∀a,A=some a → ∀j u,news[j]? = some u→c.w.cell? (a.add j)=some u:=by
  rintro A cap hv rfl
  exact⟨A,cap,[],hv,by simp,trivial,by simp,by simp,by simp⟩
 unfold mT at h
 split at h
 ·subst h
  simp only [aF,aM,cG]at hy
  exact empty none 0 (by rw [hy];rfl) rfl
 ·subst h
  simp only [aF,aM,cG]at hy
  obtain⟨A,cap,rfl,_,_,hh⟩:=hy
  rcases hh with hh | ⟨g,o,rfl,hr⟩
  ·exact empty A cap rfl hh
  ·refine at_ g o cap rfl fun k e hk j p hj=>?_
   obtain⟨v,h1,_,h3,h4⟩:=fL (gD hr hn hk) hj
   exact⟨v,by rw [←Nat.add_assoc];exact h1,h3,aM.gB h4⟩
 ·subst h
  simp only [aF,aM,cG]at hy
  obtain⟨A,rfl,_,hh⟩:=hy
  rcases hh with hh | ⟨g,o,rfl,hr⟩
  ·exact empty A _ rfl hh
  ·refine at_ g o _ rfl fun k e hk j p hj=>?_
   obtain⟨v,h1,_,h3,h4⟩:=fL (gD hr hn hk) hj
   exact⟨v,by rw [←Nat.add_assoc];exact h1,h3,aM.gB h4⟩
 ·rename_i id ver off len
  obtain⟨r,hr,iO,rfl⟩:=h
  simp only [aF,aM]at hy
  obtain⟨hle,hy⟩:=hy.2 r hr iO
  have FT:((r.els.drop off).take len).length=len:=by simp;omega
  rw [←FT]at hy
  have lF:∀k e,((r.els.drop off).take len)[k]? = some e→r.els[off+k]? = some e∧r.size=n:=by
   intro k e hk
   have rW:=hk
   rw [List.getElem?_take]at hk
   split at hk
   ·rw [List.getElem?_drop]at hk
    refine⟨hk,?_⟩
    rw [←hn e (List.mem_of_getElem? rW)]
    exact((hI.row id r hr).len e (List.mem_of_getElem? hk)).symm
   ·cases hk
  rcases hy with ⟨h0,A,m,cap,hβ,rfl⟩ | ⟨gZ,g,m,cap,A,hβ,hoc,rfl,ha⟩
  ·subst h0
   rcases Nat.eq_zero_or_pos len with h0 | h0
   ·exact empty A cap rfl (List.eq_nil_of_length_eq_zero (by rw [FT];exact h0))
   ·obtain⟨g,gE,mP⟩:=mO hI hr (by omega)
    rw [hβ]at mP
    simp only [Value.slice.injEq]at mP
    obtain⟨rfl,rfl,rfl⟩:=mP
    refine at_ g 0 _ rfl fun k e hk j p hj=>?_
    obtain⟨hk2,hs⟩:=lF k e hk
    have:=pU hI hr hβ hk2 hj
    rw [hs]at this
    simpa using this
  ·rcases ha with ha | rfl
   ·exact empty _ _ rfl (List.eq_nil_of_length_eq_zero ha)
   ·refine at_ g _ _ rfl fun k e hk j p hj=>?_
    obtain⟨hk2,hs⟩:=lF k e hk
    have:=pU hI hr hβ hk2 hj
    rw [hs]at this ⊢
    rw [show off*n+(k*n+j)=(off+k)*n+j by rw [Nat.add_mul];omega];exact this
 ·exact h.elim
end
section
variable {E:Env} {c:Cx} {w0:World} {S0:cY}
theorem zA{P:Program}(w:World)(dT sT ty elem:TypeId)(sz g o abY abZ:Nat)(A:Option Addr)(FZ ab0:Nat)(cur:Array Value)(t:TypeId)(cs:List Value)
  (hu:P.underlying dT=some (.slice elem)) (hs:(P.info? elem).map (·.size)=some sz)
  (hg:w.heap[g]? = some (.cells cur t (0,0))) (hn:cs.length=Nat.min FZ abY*sz)
  (am9:∀a,A=some a → ∀j v,cs[j]? = some v→w.cell? (a.add j)=some v) (hA:A=none→cs = []) (abV:o+cs.length≤cur.size) (h1:∀v∈cs,v.oneCell'=true) :
  (Builtin.copy_ #[dT,sT] ty #[.slice (some ⟨g,o,none⟩) abY abZ, .slice A FZ ab0]).run P w =
   .ok (goInt (Nat.min FZ abY:Nat)) (w.setRow g (cur.toList.take o++cs++cur.toList.drop (o+cs.length)).toArray):=by
 cases hq:P.info? elem with
 | none=>simp [hq]at hs
 | some i =>
  have hi:i.size=sz:=by simpa [hq]using hs
  cases A with
  | some a =>
   have hl:=run_loadCells_list (P:=P) w a cs (am9 a rfl)
   have FX:=run_storeCells_at P g o t cs 0 cur w hg (by simpa using abV) h1
   simp [Builtin.copy_,run_underlying hu,Builtin.lenOf,Builtin.firstCells,Go.sizeOf,typeInfo,hq,hi,←hn,hl,FX]
  | none =>
   have:=hA rfl
   subst this
   have ahq:=setRow_self w g cur t (0,0) hg
   simp [Builtin.copy_,run_underlying hu,Builtin.lenOf,Builtin.firstCells,Go.sizeOf,typeInfo,hq,storeCells,List.take_append_drop,ahq]
theorem wW{P:Program}(w:World)(dT sT ty elem:TypeId)(D:Option Addr)(abZ:Nat)(A:Option Addr)(FZ ab0 sz:Nat)
  (hu:P.underlying dT=some (.slice elem)) (hs:(P.info? elem).map (·.size)=some sz) :
  (Builtin.copy_ #[dT,sT] ty #[.slice D 0 abZ, .slice A FZ ab0]).run P w = .ok (goInt (0:Nat)) w:=by
 cases hq:P.info? elem with
 | none=>simp [hq]at hs
 | some i=>cases A<;>cases D<;>simp [Builtin.copy_,run_underlying hu,Builtin.lenOf,Builtin.firstCells,Go.sizeOf,typeInfo,hq,storeCells,loadCells,loadCellsFrom,show Nat.min FZ 0=0 from Nat.min_zero FZ]
theorem KT(hI:Inv w0 S0 c){t t2 type:TypeId}{x y v:PV}{u:Option (Nat × Row)}{vx vy:Value}(hx:aF c x vx)(hy:aF c y vy)(h:oQ (E.ty t) c.rows x y v u) :
  ∃v' c',(Builtin.copy_ #[t,t2] type #[vx,vy]).run E.P c.w = .ok v' c'.w∧c'.rows=dE c.rows u∧c'.used=c.used∧oF c c'∧Inv w0 S0 c'∧aF c' v v':=by
 unfold oQ at h
 split at h
 ·rename_i e sz b z id ver off len hE
  obtain⟨r,U0,iO,lF,hle,l,hl,hl1,rfl,rfl⟩:=h
  have gx:=hx
  simp only [aF,aM]at gx
  obtain⟨_,gx⟩:=gx.2 r U0 iO
  obtain⟨hu,gZ,y9,i,zv,hi,hz,hs,hby,FQ,hzo⟩:=eA hE
  obtain⟨A,cap,news,hvy,g1,g2,g3,g4,g5⟩:=pB hI hy hl hl1
  by_cases pW:len=0
  ·-- nothing
   subst pW
   obtain⟨D,F0,VM⟩:∃D F0,vx = .slice D 0 F0:=by
    rcases gx with ⟨h0,A',m,VN,zB,hv⟩ | ⟨_,g2,m,VN,A',zB,_,hv,ha⟩
    ·exact⟨_,_,hv⟩
    ·exact⟨_,_,hv⟩
   have gG:=wW (P:=E.P) c.w t t2 type e D F0 A l.length cap sz hu (by simp [hi,hs])
   have oG:c4 c.rows id (some { r with els:=r.els.take off++l.take 0++r.els.drop (off+min l.length 0) })=c.rows:=by
    funext j
    simp only [c4]
    split
    ·rename_i hj
     subst hj
     rw [U0]
     simp
    ·rfl
   refine⟨_,c,by rw [VM,hvy];exact gG,?_,rfl,oF.refl c,hI,bS.2 (by
    simp only [goInt]
    congr 1
    omega)⟩
   show c.rows=c4 c.rows id _
   rw [oG]
  have ahr:0<len:=by omega
  obtain⟨⟨xs,fV,eS,g9⟩,uB,hnS,_⟩:=hI.row id r U0
  obtain⟨g,gE,hβ⟩:=mO hI U0 (by omega)
  obtain⟨F0,VM⟩:∃F0,vx = .slice (some ⟨g,off*sz,none⟩) len F0:=by
   rcases gx with ⟨h0,A',m,VN,zB,hv⟩ | ⟨_,g2,m,VN,A',zB,_,hv,ha⟩
   ·rw [hβ]at zB
    simp only [Value.slice.injEq]at zB
    obtain⟨rfl,_,_⟩:=zB
    exact⟨_,by rw [hv,h0,Nat.zero_mul]⟩
   ·rw [hβ]at zB
    simp only [Value.slice.injEq,Option.some.injEq,Addr.mk.injEq,and_true]at zB
    obtain⟨rfl,_,_⟩:=zB
    rcases ha with ha | ha
    ·omega
    ·exact⟨_,by rw [hv,ha,lF]⟩
  have ahn:=fV
  rw [hβ]at fV
  rcases fV.2 with ⟨h',_⟩ | ⟨g',ahs,cur,h',UX,hg,FM,ZV,FO,BR⟩
  ·simp at h'
  ·simp only [Value.slice.injEq,Option.some.injEq,Addr.mk.injEq,and_true]at h'
   obtain⟨rfl,_,rfl⟩:=h'
   rw [lF]at FO BR
   have hnl:news.length=l.length*sz:=g1
   have hml:Nat.min l.length len≤len:=Nat.min_le_right _ _
   have hmm:Nat.min l.length len*sz=Nat.min (l.length*sz) (len*sz):=by
    show min l.length len*sz=min (l.length*sz) (len*sz)
    rcases Nat.le_total l.length len with hq | hq
    ·rw [Nat.min_eq_left hq,Nat.min_eq_left (Nat.mul_le_mul_right _ hq)]
    ·rw [Nat.min_eq_right hq,Nat.min_eq_right (Nat.mul_le_mul_right _ hq)]
   have KU:(news.take (len*sz)).length=Nat.min l.length len*sz:=by
    rw [List.length_take,hnl,hmm];exact Nat.min_comm _ _
   have asK:off*sz+len*sz≤r.els.length*sz:=by rw [←Nat.add_mul];exact Nat.mul_le_mul_right _ hle
   have asL:r.els.length*sz≤gE*sz:=Nat.mul_le_mul_right _ FM
   have asM:Nat.min l.length len*sz≤len*sz:=Nat.mul_le_mul_right _ hml
   have gG:=zA (P:=E.P) c.w t t2 type e sz g (off*sz) len F0 A l.length cap cur r.e (news.take (len*sz)) hu (by simp [hi,hs]) hg KU
    (fun ad had j v hj=>g5 ad had j v (by rw [List.getElem?_take]at hj;split at hj;exact hj;cases hj)) (fun hA=>by
     have:=g4 hA
     subst this
     have:news = []:=List.eq_nil_of_length_eq_zero (by simpa using hnl)
     simp [this]) (by rw [KU];omega) (fun v hv=>g3 v (List.mem_of_mem_take hv))
   have II:∀e∈r.els,e.length=sz:=fun e he=>by rw [uB e he,lF]
   have Z4:min l.length len=Nat.min l.length len:=rfl
   have OS:(c.w.setRow g (cur.toList.take (off*sz)++news.take (len*sz)++cur.toList.drop (off*sz+(news.take (len*sz)).length)).toArray).ownsRow w0.heap.size r.e r.size (c.β id) (r.els.take off++l.take len++r.els.drop (off+min l.length len)).length
     (xs.take (off*sz)++news.take (len*sz)++xs.drop (off*sz+(news.take (len*sz)).length)):=by
    have FT:(r.els.take off++l.take len++r.els.drop (off+min l.length len)).length=r.els.length:=by simp;omega
    have N2:xs.length=r.els.length*sz:=by rw [fV.1,lF]
    rw [hβ,FT]
    refine⟨?_, .inr ⟨g,gE,_,rfl,UX,setRow_heap _ g cur _ r.e _ hg,FM,ZV,?_,?_⟩⟩
    ·rw [lF,List.length_append,List.length_append,KU,List.length_take,List.length_drop];omega
    ·rw [lF,List.size_toArray,List.length_append,List.length_append,KU,List.length_take,List.length_drop,Array.length_toList];omega
    ·rw [lF,←BR]
     have am4:cur.toList.length=gE*sz:=by simp [FO]
     simp only
     rw [List.take_append,List.take_append]
     have e1:List.take (r.els.length*sz) (cur.toList.take (off*sz))=cur.toList.take (off*sz):=by rw [List.take_take,Nat.min_eq_right (by omega)]
     have e2:List.take (off*sz) (cur.toList.take (r.els.length*sz))=cur.toList.take (off*sz):=by rw [List.take_take,Nat.min_eq_left (by omega)]
     rw [e1,e2]
     have e3:(cur.toList.take (off*sz)).length=off*sz:=by rw [List.length_take];omega
     have e4:List.take (r.els.length*sz-off*sz) (news.take (len*sz))=news.take (len*sz):=List.take_of_length_le (by rw [KU];omega)
     rw [e3,e4]
     congr 1
     rw [List.length_append,e3,List.drop_take]
   have s0:c.w.grownBy (c.w.setRow g (cur.toList.take (off*sz)++news.take (len*sz)++cur.toList.drop (off*sz+(news.take (len*sz)).length)).toArray) (c.β id).ownBlock:=by
    rw [hβ]
    exact⟨rfl,rfl,rfl,by simp,fun k _ hk=>setRow_other _ g k _ (fun e=>hk (by simp [Value.ownBlock,e]))⟩
   obtain⟨rB,hA⟩:=hI.c4 (r':={ r with els:=r.els.take off++l.take len++r.els.drop (off+min l.length len) }) U0 s0 OS (by
    show a6 (aM c) (r.els.take off++l.take len++r.els.drop (off+min l.length len)).flatten _
    rw [List.flatten_append,List.flatten_append,(kV II off).1,(kV hl1 len).1,(kV II _).2,Nat.add_mul,Z4,←KU]
    exact((eS.take _).append (g2.take _)).append (eS.drop _)) (by
    intro y' E4
    simp only [List.mem_append]at E4
    rcases E4 with (E4 | E4) | E4
    ·exact g9 y' (List.mem_of_mem_take E4)
    ·exact g3 y' (List.mem_of_mem_take E4)
    ·exact g9 y' (List.mem_of_mem_drop E4)) (by
    intro e' nW
    simp only [List.mem_append]at nW
    rw [lF]
    rcases nW with (nW | nW) | nW
    ·exact II e' (List.mem_of_mem_take nW)
    ·exact hl1 e' (List.mem_of_mem_take nW)
    ·exact II e' (List.mem_of_mem_drop nW)) rfl rfl (by simp;omega)
   refine⟨goInt (Nat.min l.length len:Nat),_,?_,?_,?_,hA,rB,?_⟩
   ·rw [VM,hvy];exact gG
   ·rfl
   ·rfl
   ·refine bS.2 ?_
    rw [←Z4]
    simp only [goInt]
    congr 1
    omega
 ·exact h.elim
theorem BT{o:Oper}{a:Act}{f:Nat→PV}(hI:Inv w0 S0 c)(hf:∀s,aF c (f s) (a.tmps.getD s undef)){v:PV}{u:Option (Nat × Row)}(h:ys E o.op (aN f) c.rows v u)
  {K:Act→World→Prop} {Q:Exit→Act→World→Prop}
  (hK:∀v' c',c'.rows=dE c.rows u→c'.used=c.used→oF c c'→Inv w0 S0 c'→aF c' v v'→K (a.put o.dst v') c'.w):o.wp E.P a c.w K Q:=by
 have hρ:=jN hf
 have plain:yv E o.op (aN f) c.rows v∧u=none→o.wp E.P a c.w K Q:=by
  rintro⟨hv,rfl⟩
  obtain⟨v',h1,h2⟩:=abS hI hf hv
  unfold Oper.wp
  rw [h1]
  exact hK v' c rfl rfl (oF.refl c) hI h2
 obtain⟨dst,op,type,pos,after,guard⟩:=o
 simp only at h hK plain
 unfold ys at h
 split at h
 ·rename_i x y t t2
  obtain⟨v',c',h1,h2,h3,h4,h5,h6⟩:=KT (t2:=t2) (type:=type) hI (hρ x) (hρ y) h
  unfold Oper.wp
  have:(execOp a.eval { dst:=dst,op:=.call { callee:=.builtin .copy,args:=⟨[x,y]⟩,argTypes:=⟨[t,t2]⟩ },type:=type,pos:=pos,after:=after,guard:=guard }).run E.P c.w = .ok (.value v') c'.w:=by
   simp only [execOp,resolve,invoke,builtin,Sem.run_bind,Sem.run_pure,Result.andThen_ok,List.map_toArray,List.map_cons,List.map_nil,h1]
  rw [this]
  exact hK v' c' h2 h3 h4 h5 h6
 ·rename_i t p x
  obtain⟨rfl,w',h1,h2,h3⟩:=FW hI (hρ p) (hρ x) h
  unfold Oper.wp
  have:(execOp a.eval { dst:=dst,op:=.store t p x,type:=type,pos:=pos,after:=after,guard:=guard }).run E.P c.w = .ok .skip w':=by simp [execOp,h1]
  rw [this]
  exact hK undef { c with w:=w',rows:=dE c.rows u } rfl rfl h3 h2 (by simp [aF,aM])
 ·rename_i t len parts
  obtain⟨h,rfl⟩:=h
  unfold FU at h
  split at h
  ·rename_i e n bb z hE
   obtain⟨els,h1,h2,h3,h4,h5,h6,rfl⟩:=h
   obtain⟨v',c',g1,g2,g3,g4,g5,g6⟩:=uF hI hE hρ h1 h2 h3 h4 h5 h6
   unfold Oper.wp
   have:(execOp a.eval { dst:=dst,op:=.buildSlice t len parts,type:=type,pos:=pos,after:=after,guard:=guard }).run E.P c.w = .ok (.value v') c'.w:=by
    simp only [execOp,Sem.run_bind,g1,Result.andThen_ok,Sem.run_pure]
   rw [this]
   exact hK v' c' g2 g3 g5 g4 g6
  ·exact h.elim
 ·rename_i fo args ts
  obtain⟨rfl,hc,mR⟩:=h
  have eI:a6 (aF c) (args.toList.map fun x=>aN f x) (args.map a.eval).toList:=by
   refine a6.cO (by simp) fun k p u hp hu=>?_
   simp at hp hu
   obtain⟨x,hx,rfl⟩:=hp
   obtain⟨y,hy,rfl⟩:=hu
   rw [hx]at hy;cases hy
   exact hρ x
  have hc':r3 E (aN f fo) ((args.toList.map fun x=>aN f x).map (pz c.rows)) v:=by rw [List.map_map];exact hc
  obtain⟨g,cs,h1,h2,h3⟩:=r5 hI (ids:=[]) (by simp) (hρ fo) eI (by
   intro p hp id eT
   simp at hp
   obtain⟨x,hx,rfl⟩:=hp
   have:id∈args.toList.flatMap fun x=>cW (aN f x):=by simp only [List.mem_flatMap];exact⟨x,by simpa using hx,eT⟩
   rw [mR]at this;exact this) hc' (K:=fun v' w'=>K (a.put dst v') w') (fun v' c' q1 q2 q3 q4 q5=>hK v' c' (by rw [q1];funext j;simp [xP,dE]) q2 q3 q4 q5)
  unfold Oper.wp
  have gG:(execOp a.eval { dst:=dst,op:=.call { callee:=.value fo,args:=args,argTypes:=ts },type:=type,pos:=pos,after:=after,guard:=guard }).run E.P c.w = .ok (.enter g (args.map a.eval++cs)) c.w:=by
   simp only [execOp,resolve,h1,Deferred.ofValue,Sem.run_bind,Sem.run_pure,Result.andThen_ok,invoke]
   simp only [Array.toArray_toList]at h2
   simpa only [Array.empty_append]using h2
  rw [gG]
  simp only [Array.toArray_toList]at h3
  exact h3.mono fun e w' ⟨v',he,hk⟩=>by subst he;exact hk
 ·exact plain h
end
def room:Nat:=140737488355328
def dG(rows:Rows)(ids:List Nat):Prop:=∀id∈ids,∀r,rows id=some r → ∀e∈r.els,∀p∈e,bL p=true
def zD(K:PS→Prop)(σ:PS)(d:Option Tmp)(v:PV)(id:Nat)(e:TypeId)(n:Nat)(els:List (List PV)):Prop:=
 K ⟨put σ.f d v,c4 σ.rows id (some ⟨σ.clock,e,n,els⟩),σ.clock+1⟩
def zE(E:Env)(o:Oper)(t:TypeId)(x y:PV)(K:PS→Prop)(σ:PS):Prop:=
 match E.ty t with
 | .slice e n b _ =>
  ∃l,mT σ.rows y l∧(∀e∈l,e.length=n) ∧
  match x with
  | .nil=>l.length≤room∧l.length*b≤room∧zD K σ o.dst (.own (o.dst.getD 0) σ.clock 0 l.length) (o.dst.getD 0) e n l
  | .own id ver off len=>∃r,σ.rows id=some r∧r.ver=ver∧off=0∧len≤r.els.length∧r.e=e∧r.size=n∧len+l.length≤room∧(len+l.length)*b≤room ∧
    zD K σ o.dst (.own id σ.clock 0 (len+l.length)) id e n (r.els.take len++l)
  | .fX l0=>(∀e∈l0,e.length=n)∧(∀e∈l,∀p∈e,bL p=true)∧l0.length+l.length≤room∧(l0.length+l.length)*b≤room∧K (σ.put o.dst (.sl (l0++l)))
  | _=>False
 | _=>False
def xR(K:Nat→(Nat→PV)→Rows→Prop)(ver:Nat)(f:Nat→PV)(rows:Rows)(d:Option Tmp)(v:PV)(id:Nat)(e:TypeId)(n:Nat)(els:List (List PV)):Prop:=
 K 1 (put f d v) (c4 rows id (some ⟨ver,e,n,els⟩))
def kW(E:Env)(ver:Nat)(o:Oper)(t:TypeId)(x y:PV)(K:Nat→(Nat→PV)→Rows→Prop)(f:Nat→PV)(rows:Rows):Prop:=
 match E.ty t with
 | .slice e n b _ =>
  ∃l,mT rows y l∧(∀e∈l,e.length=n) ∧
  match x with
  | .nil=>l.length≤room∧l.length*b≤room∧xR K ver f rows o.dst (.own (o.dst.getD 0) ver 0 l.length) (o.dst.getD 0) e n l
  | .own id aht off len=>∃r,rows id=some r∧r.ver=aht∧off=0∧len≤r.els.length∧r.e=e∧r.size=n∧len+l.length≤room∧(len+l.length)*b≤room ∧
    xR K ver f rows o.dst (.own id ver 0 (len+l.length)) id e n (r.els.take len++l)
  | .fX l0=>(∀e∈l0,e.length=n)∧(∀e∈l,∀p∈e,bL p=true)∧l0.length+l.length≤room∧(l0.length+l.length)*b≤room∧K 0 (put f o.dst (.sl (l0++l))) rows
  | _=>False
 | _=>False
def OV:TI→Bool
 | .slice .. => true
 | _=>false
def dO(E:Env)(o:Oper)(K:PS→Prop)(σ:PS):Prop:=
 match o.op with
 | .alloc t=>(E.ty t).known=true∧zD K σ o.dst (.ptr (o.dst.getD 0) σ.clock 0 0) (o.dst.getD 0) t (E.ty t).size [(E.ty t).zero]
 | .box t x=>(E.ty t).known=true ∧ ∃l,bP (aN σ.f x)=some l∧(∀q∈l,eZ σ.rows q)∧l.length=(E.ty t).size∧zD K σ o.dst (.ptr (o.dst.getD 0) σ.clock 0 0) (o.dst.getD 0) t (E.ty t).size [l]
 | .makeSlice t l c =>
  match E.ty t,aN σ.f l,aN σ.f c with
  | .slice e n b z, .int _ x, .int _ y=>0≤x∧x≤y∧y.toNat≤room∧y.toNat*b≤room∧zD K σ o.dst (.own (o.dst.getD 0) σ.clock 0 x.toNat) (o.dst.getD 0) e n (List.replicate x.toNat z)
  | _,_,_=>False
 | .call { callee:=.builtin .append,args:=⟨[x,y]⟩,argTypes:=⟨[t,t2]⟩ }=>(t2=t∨OV (E.ty t2)=true)∧zE E o t (aN σ.f x) (aN σ.f y) K σ
 | .call { callee:=.value f,args:=args,argTypes:=_ }=>if abU E (aN σ.f f)=true then FV E (aN σ.f f) (args.toList.map (aN σ.f)) σ.rows σ.clock (fun v rows clk=>K ⟨put σ.f o.dst v,rows,clk⟩)
   else ∃v,r3 E (aN σ.f f) (args.toList.map fun x=>pz σ.rows (aN σ.f x)) v∧dG σ.rows (args.toList.flatMap fun x=>cW (aN σ.f x)) ∧
   K ⟨put σ.f o.dst v,xP σ.rows (args.toList.flatMap fun x=>cW (aN σ.f x)),σ.clock⟩
 | .makeFunc (.func f) ⟨[]⟩ b8=>(b8.toList.map fun x=>pz σ.rows (aN σ.f x)).all eR=true∧dG σ.rows (b8.toList.flatMap fun x=>cW (aN σ.f x)) ∧
   K ⟨put σ.f o.dst (.fn f (b8.toList.map fun x=>pz σ.rows (aN σ.f x))),xP σ.rows (b8.toList.flatMap fun x=>cW (aN σ.f x)),σ.clock⟩
 | _=>∃v u,ys E o.op (aN σ.f) σ.rows v u∧K ⟨put σ.f o.dst v,dE σ.rows u,σ.clock⟩
def kO(E:Env)(ver:Nat)(o:Oper)(K:Nat→(Nat→PV)→Rows→Prop)(f:Nat→PV)(rows:Rows):Prop:=
 match o.op with
 | .alloc t=>(E.ty t).known=true∧xR K ver f rows o.dst (.ptr (o.dst.getD 0) ver 0 0) (o.dst.getD 0) t (E.ty t).size [(E.ty t).zero]
 | .box t x=>(E.ty t).known=true ∧ ∃l,bP (aN f x)=some l∧(∀q∈l,eZ rows q)∧l.length=(E.ty t).size∧xR K ver f rows o.dst (.ptr (o.dst.getD 0) ver 0 0) (o.dst.getD 0) t (E.ty t).size [l]
 | .makeSlice t l c =>
  match E.ty t,aN f l,aN f c with
  | .slice e n b z, .int _ x, .int _ y=>0≤x∧x≤y∧y.toNat≤room∧y.toNat*b≤room∧xR K ver f rows o.dst (.own (o.dst.getD 0) ver 0 x.toNat) (o.dst.getD 0) e n (List.replicate x.toNat z)
  | _,_,_=>False
 | .call { callee:=.builtin .append,args:=⟨[x,y]⟩,argTypes:=⟨[t,t2]⟩ }=>(t2=t∨OV (E.ty t2)=true)∧kW E ver o t (aN f x) (aN f y) K f rows
 | _=>False
theorem pY{n:Nat}(h:n≤room):n≤maxLen:=by unfold room at h;simp only [maxLen];omega
theorem iR{α:Type}{z:List α}:∀ {x k:Nat} {a:α},(List.replicate x z).flatten[k]? = some a→z[k%z.length]? = some a
 | 0,k,a,h=>by simp at h
 | x+1,k,a,h=>by
  rw [List.replicate_succ,List.flatten_cons]at h
  rcases Nat.lt_or_ge k z.length with hk | hk
  ·rw [List.getElem?_append_left hk]at h
   rw [Nat.mod_eq_of_lt hk];exact h
  ·rw [List.getElem?_append_right hk]at h
   have:=iR h
   rw [←Nat.mod_eq_sub_mod hk]at this;exact this
section
variable {E:Env} {c:Cx} {w0:World} {S0:cY}
theorem rF(hI:Inv w0 S0 c){ver:Nat}(IJ:¬c.used ver)(id:Nat)(e:TypeId)(size n cap:Nat)(els:List (List PV))(cells:Array Value)(hn:els.length=n)(FM:n≤cap)(ZV:cap≤maxLen)(lF:cells.size=cap*size)
  (eS:a6 (aM c) els.flatten (cells.toList.take (n*size))) (g9:∀u∈cells.toList,u.oneCell'=true) (hlen:∀e∈els,e.length=size) (gZ:0<size) :
  Inv w0 S0 { c with w:=c.w.alloc (.cells cells e),β:=c4 c.β id (.slice (some ⟨c.w.heap.size,0,none⟩) n cap),rows:=c4 c.rows id (some ⟨ver,e,size,els⟩),used:=fun v=>v=ver∨c.used v } ∧
  oF c { c with w:=c.w.alloc (.cells cells e),β:=c4 c.β id (.slice (some ⟨c.w.heap.size,0,none⟩) n cap),rows:=c4 c.rows id (some ⟨ver,e,size,els⟩),used:=fun v=>v=ver∨c.used v }:=by
 refine hI.set (ob:=none) (r':=⟨ver,e,size,els⟩) (xs:=cells.toList.take (n*size)) (World.grownBy_alloc c.w _ none) (by simp) ?_ eS (fun x hx=>g9 x (List.mem_of_mem_take hx)) hlen gZ ?_ IJ
 ·have hle:n*size≤cap*size:=Nat.mul_le_mul_right _ FM
  refine⟨by simp [hn];omega, .inr ⟨c.w.heap.size,cap,cells,by simp [hn],hI.below.size,heap_alloc_new c.w _,by simp [hn];exact FM,ZV,lF,by simp [hn]⟩⟩
 ·intro g hg
  simp [Value.ownBlock]at hg
  exact .inr (by omega)
theorem OW{t:TypeId}{n:Nat}{z:List PV}(h:jG E.P t n z):∃i v,E.P.info? t=some i∧i.zero=some v∧i.size=n∧a6 (aM c) z v.cells.toList∧v.cells.size=n ∧ ∀u∈v.cells.toList,u.oneCell'=true:=by
 obtain⟨i,v,h1,h2,h3,h4,h5⟩:=h.ok
 have hl:v.cells.size=n:=by rw [←h.len,←h4];simp
 refine⟨i,v,h1,h2,h3,?_,hl,fun u hu=>(Array.all_eq_true_iff_forall_mem.1 h5) u (by simpa using hu)⟩
 rw [←h4]
 refine a6.cO (by simp) fun k a b ha hb=>?_
 simp at ha
 obtain⟨u,hu,rfl⟩:=ha
 have:v.cells.toList[k]? = some u:=by simpa using hu
 rw [this]at hb;cases hb
 exact iU _
theorem jA{c':Cx}{id ver n:Nat}{r:Row}(hr:c'.rows id=some r)(hn:r.els.length=n)(hc:c'.used ver){A:Option Addr}{cap:Nat}(hβ:c'.β id = .slice A n cap):aF c' (.own id ver 0 n) (.slice A n cap):=by
 simp only [aF,aM]
 refine⟨hc,fun r' i7 _=>?_⟩
 rw [hr]at i7;cases i7
 exact⟨by omega, .inl ⟨by first | rfl | trivial,A,n,cap,hβ,rfl⟩⟩
theorem OX{c':Cx}{id ver:Nat}(hc:c'.used ver){g n cap:Nat}(hβ:c'.β id = .slice (some ⟨g,0,none⟩) n cap):aF c' (.ptr id ver 0 0) (.pointer (some ⟨g,0,none⟩)):=by
 simp only [aF,aM]
 exact⟨hc,fun r' _ _=>⟨g,n,cap,hβ,by simp⟩⟩
theorem oS{z:Array Value}{N k:Nat}(hk:k<N)(hz:0<z.size):(madeCells z N).toList[k]? = z.toList[k%z.size]? := by
 have hm:k%z.size<z.size:=Nat.mod_lt _ hz
 simp [madeCells,hk,hm]
variable {n:Nat} {G:Gs}
theorem mU{U:Nat→Prop}{ver:Nat}{f:Nat→PV}{rows:Rows}{a:Act}(hr:c.rows=rows)(eX:∀v,c.used v→U v)(hf:∀s,aF c (f s) (a.tmps.getD s undef))(hG:∀p∈G,aF c p.1 p.2)(hn:a.tmps.size=n)(eC:a.defers = [])
  {K:(Nat→PV)→Rows→Prop} {d:Option Tmp} {v:PV} {id:Nat} {e:TypeId} {sz:Nat} {els:List (List PV)} (h:K (put f d v) (c4 rows id (some ⟨ver,e,sz,els⟩))) {v':Value} {w':World} {b':Value}
  (hI:Inv w0 S0 { c with w:=w',β:=c4 c.β id b',rows:=c4 c.rows id (some ⟨ver,e,sz,els⟩),used:=fun v=>v=ver∨c.used v })
  (hA:oF c { c with w:=w',β:=c4 c.β id b',rows:=c4 c.rows id (some ⟨ver,e,sz,els⟩),used:=fun v=>v=ver∨c.used v })
  (hv:aF { c with w:=w',β:=c4 c.β id b',rows:=c4 c.rows id (some ⟨ver,e,sz,els⟩),used:=fun v=>v=ver∨c.used v } v v') (hd:∀t,d=some t→t<n) :
  ∃f' rows',K f' rows'∧mD w0 S0 n G (fun v=>v=ver∨U v) f' rows' (a.put d v') w':=by
 refine⟨_,_,h,?_⟩
 have:=kU (U:=fun v=>v=ver∨U v) (f':=put f d v) (rows:=c4 rows id (some ⟨ver,e,sz,els⟩)) hf hG hn eC hA hI hv hd rfl (by simp [hr]) (fun v hv=>hv.imp (fun h=>h) (eX v))
 exact this
theorem F2(hI:Inv w0 S0 c){w':World}(hg:c.w.grownBy w' none){e:TypeId}{sz:Nat}{v':Value}{els:List (List PV)}{xs:List Value}(fV:w'.ownsRow c.w.heap.size e sz v' els.length xs)
  (eS:a6 (cG c.S c.w) els.flatten xs) (g9:∀u∈xs,u.oneCell'=true) (hlen:∀e∈els,e.length=sz) :
  ∃c',c'.w=w'∧c'.rows=c.rows∧c'.used=c.used∧Inv w0 S0 c'∧oF c c'∧aF c' (.sl els) v':=by
 have hb:Below c.w.heap.size c.w w':=⟨hg.os,hg.tape,hg.output,hg.size,fun k hk=>hg.block k hk (by simp)⟩
 obtain⟨rB,hA⟩:=hI.grow (S':=fun b o=>c.S b o∨(c.w.heap.size≤b∧b<w'.heap.size)) hb (fun _ _ h => .inl h) (fun _ _ h=>h)
 refine⟨{ c with S:=fun b o=>c.S b o∨(c.w.heap.size≤b∧b<w'.heap.size),w:=w' },rfl,rfl,rfl,rB,hA,?_⟩
 simp only [aF,aM,cG]
 rcases fV.2 with ⟨rfl,h0⟩ | ⟨g,cap,cur,rfl,UX,hh,FM,ZV,FO,BR⟩
 ·exact⟨none,0,by rw [h0],by omega,by simp [maxLen], .inl (List.eq_nil_of_length_eq_zero h0)⟩
 ·refine⟨_,cap,rfl,FM,ZV, .inr ⟨g,0,rfl,kT hlen fun k el hk=>gO fun j p hj=>?_⟩⟩
  have hf:=gQ hlen hk hj
  obtain⟨u,hu,hr⟩:=eS.get hf
  have jH:g<w'.heap.size:=(Array.getElem?_eq_some_iff.1 hh).1
  have xO:=fV.cells (g:=g) rfl (k*sz+j) u hu
  rw [fU]at xO
  refine⟨u,?_, .inr ⟨UX,jH⟩,g9 u (List.mem_of_getElem? hu),cG.mono hA.S hA.w _ _ hr⟩
  rw [show 0+k*sz+j=0+(k*sz+j)by omega];exact xO
theorem OY{w:World}{base e sz n k:Nat}{A:Option Addr}{cap:Nat}{xs:List Value}(h:w.ownsRow base e sz (.slice A n cap) n xs)(hk:k≤n):w.ownsRow base e sz (.slice A k cap) k (xs.take (k*sz)):=by
 have hle:k*sz≤n*sz:=Nat.mul_le_mul_right _ hk
 refine⟨by rw [List.length_take,h.1];omega,?_⟩
 rcases h.2 with ⟨h1,h2⟩ | ⟨g,gE,cur,h1,h2,h3,h4,h5,h6,h7⟩
 ·simp only [Value.slice.injEq]at h1
  obtain⟨rfl,_,rfl⟩:=h1
  have wQ:k=0:=by omega
  subst wQ
  exact .inl ⟨rfl,rfl⟩
 ·simp only [Value.slice.injEq]at h1
  obtain⟨rfl,_,rfl⟩:=h1
  refine .inr ⟨g,cap,cur,rfl,h2,h3,by omega,h5,h6,?_⟩
  rw [←h7,List.take_take,Nat.min_eq_left hle]
theorem KV{P:Program}{w:World}{t t2 ty:TypeId}{e e2:TypeId}{x y:Value}(hu:P.underlying t=some (.slice e))(VL:P.underlying t2=some (.slice e2)) :
  (Builtin.append_ #[t,t2] ty #[x,y]).run P w=(Builtin.append_ #[t,t] ty #[x,y]).run P w:=by
 unfold Builtin.append_
 simp only [List.getElem?_toArray,List.getElem?_cons_zero,List.getElem?_cons_succ,Sem.run_bind,run_underlying hu,Result.andThen_ok]
 cases x<;>simp [run_underlying hu,run_underlying VL]
theorem VO{E:Env}{t2:TypeId}(h:OV (E.ty t2)=true):∃e,E.P.underlying t2=some (.slice e):=by
 cases hE:E.ty t2 with
 | slice e n b z=>exact⟨e,(eA hE).1⟩
 | _=>rw [hE]at h;cases h
theorem uG{U:Nat→Prop}{ver:Nat}(IJ:¬U ver){o:Oper}{a:Act}{f:Nat→PV}{rows:Rows}{x y:Operand}{t t2:TypeId}(hop:o.op = .call { callee:=.builtin .append,args:=⟨[x,y]⟩,argTypes:=⟨[t,t2]⟩ })(ht2:t2=t∨OV (E.ty t2)=true)
  (hI:Inv w0 S0 c) (hr:c.rows=rows) (eX:∀v,c.used v→U v) (hf:∀s,aF c (f s) (a.tmps.getD s undef)) (hG:∀p∈G,aF c p.1 p.2) (hn:a.tmps.size=n) (eC:a.defers = [])
  (hd:∀t,o.dst=some t→t<n) {K:Nat→(Nat→PV)→Rows→Prop} (h:kW E ver o t (aN f x) (aN f y) K f rows) {K':Act→World→Prop} {Q:Exit→Act→World→Prop} (hK:∀i f' rows' a' w',K i f' rows'→mD w0 S0 n G (fun v=>(i=1∧v=ver)∨U v) f' rows' a' w'→K' a' w'):o.wp E.P a c.w K' Q:=by
 have hρ:=jN hf
 have run:∀ {v':Value} {w':World},(Builtin.append_ #[t,t] o.type #[a.eval x,a.eval y]).run E.P c.w = .ok v' w'→K' (a.put o.dst v') w'→o.wp E.P a c.w K' Q:=by
  intro v' w' h1 h2
  unfold Oper.wp
  have ZZ:(Builtin.append_ #[t,t2] o.type #[a.eval x,a.eval y]).run E.P c.w = .ok v' w':=by
   rcases ht2 with rfl | ht2
   ·exact h1
   ·obtain⟨e2,VL⟩:=VO ht2
    have uH:∃e,E.P.underlying t=some (.slice e):=by
     unfold kW at h
     split at h
     ·rename_i e n b z hE;exact⟨e,(eA hE).1⟩
     ·exact h.elim
    obtain⟨e,hu⟩:=uH
    rw [KV hu VL];exact h1
  have:(execOp a.eval o).run E.P c.w = .ok (.value v') w':=by
   simp only [execOp,hop,resolve,invoke,builtin,Sem.run_bind,Sem.run_pure,Result.andThen_ok,List.map_toArray,List.map_cons,List.map_nil,ZZ]
  rw [this]
  exact h2
 unfold kW at h
 split at h
 ·rename_i e sz b z hE
  obtain⟨l,hl,hlen,h⟩:=h
  obtain⟨hu,gZ,y9,i,zv,hi,hz,hs,hby,FQ,_⟩:=eA hE
  have wR:zv.cells.size=sz:=by rw [←y9,←FQ];simp
  rw [←hr]at hl
  obtain⟨A,cap,news,hvy,g1,g2,g3,g4,g5⟩:=pB hI (hρ y) hl hlen
  have main:∀(vx:Value) (k:Nat) (xs:List Value),c.w.ownsRow w0.heap.size e sz vx k xs→a.eval x=vx→k+l.length≤room→(k+l.length)*b≤room →
    ∃v' w',(Builtin.append_ #[t,t] o.type #[a.eval x,a.eval y]).run E.P c.w = .ok v' w'∧w'.ownsRow w0.heap.size e sz v' (k+l.length) (xs++news)∧c.w.grownBy w' vx.ownBlock∧(v'.ownBlock=vx.ownBlock∨v'.ownBlock=some c.w.heap.size):=by
   intro vx k xs fV VM KW F3
   rw [VM,hvy]
   cases A with
   | some ad =>
    obtain⟨v',w',q1,q2,q3,_,q5⟩:=run_append_own_at (P:=E.P) c.w w0.heap.size t o.type e i zv sz b hu hi hz hs hby wR gZ vx k xs fV ad l.length cap news g1 (g5 ad rfl) g3 (pY KW) (by simpa [room]using F3) hI.below.size
    exact⟨v',w',q1,q2,q3,q5⟩
   | none =>
    have IF:=g4 rfl
    subst IF
    have hn0:news = []:=List.eq_nil_of_length_eq_zero (by simpa using g1)
    subst hn0
    refine⟨vx,c.w,?_,by simpa using fV,⟨rfl,rfl,rfl,Nat.le_refl _,fun _ _ _=>rfl⟩, .inl rfl⟩
    rcases fV.2 with ⟨rfl,rfl⟩ | ⟨g,gE,cur,rfl,_,_,FM,_⟩
    ·simp [Builtin.append_,run_underlying hu,Go.sizeOf,typeInfo,hi,Builtin.lenOf,Builtin.firstCells]
    ·simp [Builtin.append_,run_underlying hu,Go.sizeOf,typeInfo,hi,Builtin.lenOf,Builtin.firstCells,FM,storeCells]
  split at h
  ·-- ahu nil
   rename_i heq
   obtain⟨KW,F3,h⟩:=h
   have hx:=hρ x
   rw [heq]at hx
   simp only [aF,aM,cG]at hx
   obtain⟨v',w',q1,q2,q3,q4⟩:=main (.slice none 0 0) 0 [] (World.ownsRow_nil _ _ _ _) hx (by simpa using KW) (by simpa using F3)
   simp only [Nat.zero_add,List.nil_append]at q2
   obtain⟨rB,hA⟩:=hI.set (ob:=none) (id:=o.dst.getD 0) (r':=⟨ver,e,sz,l⟩) (xs:=news) q3 (by simp) q2 g2 g3 hlen gZ (by
    intro g hg
    rcases q4 with q4 | q4
    ·rw [q4]at hg;simp [Value.ownBlock]at hg
    ·rw [q4]at hg;cases hg;exact .inr (Nat.le_refl _)) (fun hu=>IJ (eX _ hu))
   have hv:aF { c with w:=w',β:=c4 c.β (o.dst.getD 0) v',rows:=c4 c.rows (o.dst.getD 0) (some ⟨ver,e,sz,l⟩),used:=fun v=>v=ver∨c.used v } (.own (o.dst.getD 0) ver 0 l.length) v':=by
    have OZ:∃A' gE,v' = .slice A' l.length gE:=by
     rcases q2.2 with ⟨rfl,h0⟩ | ⟨g,gE,cur,rfl,_⟩
     ·exact⟨none,0,by rw [h0]⟩
     ·exact⟨_,gE,rfl⟩
    obtain⟨A',gE,rfl⟩:=OZ
    exact jA (r:=⟨ver,e,sz,l⟩) (by simp [c4]) rfl (Or.inl rfl) (by simp [c4])
   obtain⟨f',rows',hk,uI⟩:=mU (K:=K 1) hr eX hf hG hn eC h rB hA hv hd
   exact run q1 (hK 1 f' rows' _ _ hk (uI.mono fun v hv=>hv.imp (fun h=>⟨rfl,h⟩) fun h=>h))
  ·-- ahu a row of its own
   rename_i id aht off len heq
   obtain⟨r,U0,iO,rfl,hle,he,lF,KW,F3,h⟩:=h
   rw [←hr]at U0
   have hx:=hρ x
   rw [heq]at hx
   simp only [aF,aM]at hx
   obtain⟨⟨xs,fV,eS,g9⟩,pW,hnS,_⟩:=hI.row id r U0
   obtain⟨A0,m0,ahv,hβ,hxv⟩:∃A' m gE,c.β id = .slice A' m gE∧a.eval x = .slice A' len gE:=by
    rcases(hx.2 r U0 iO).2 with ⟨_,h⟩ | ⟨h0,_⟩
    ·exact h
    ·omega
   have hm:m0=r.els.length:=by
    rw [hβ]at fV
    rcases fV.2 with ⟨h',h0⟩ | ⟨g,ahs,cur,h',_⟩
    ·simp at h';omega
    ·simp at h';exact h'.2.1
   subst hm
   have NZ:(c.β id).ownBlock=(Value.slice A0 len ahv).ownBlock:=by rw [hβ];cases A0<;>rfl
   have hbg:=fV.lt
   rw [he,lF,hβ]at fV
   obtain⟨v',w',q1,q2,q3,q4⟩:=main (.slice A0 len ahv) len (xs.take (len*sz)) (OY fV hle) hxv KW F3
   rw [←NZ]at q3 q4
   have O0:∀e∈r.els,e.length=sz:=fun e nW=>by rw [pW e nW,lF]
   have FT:(r.els.take len++l).length=len+l.length:=by rw [List.length_append,List.length_take,Nat.min_eq_left hle]
   obtain⟨rB,hA⟩:=hI.set (ob:=(c.β id).ownBlock) (id:=id) (r':=⟨ver,e,sz,r.els.take len++l⟩) (xs:=xs.take (len*sz)++news) q3 (by
    intro g hg
    refine⟨(hbg g hg).1,fun o=>hnS g o hg,fun fZ r' i7 wV hb=>wV (hI.apart fZ id r' r g i7 U0 hb hg)⟩) (by simpa only [FT]using q2) (by
     show a6 (aM c) (r.els.take len++l).flatten _
     rw [List.flatten_append,(kV O0 len).1];exact(eS.take _).append g2) (by
     intro u hu
     rcases List.mem_append.1 hu with hu | hu
     ·exact g9 u (List.mem_of_mem_take hu)
     ·exact g3 u hu) (by
     intro e' nW
     rcases List.mem_append.1 nW with nW | nW
     ·exact O0 e' (List.mem_of_mem_take nW)
     ·exact hlen e' nW) gZ (by
     intro g hg
     rcases q4 with q4 | q4
     ·exact .inl (by rw [←q4];exact hg)
     ·rw [q4]at hg;cases hg;exact .inr (Nat.le_refl _)) (fun hu=>IJ (eX _ hu))
   have hv:aF { c with w:=w',β:=c4 c.β id v',rows:=c4 c.rows id (some ⟨ver,e,sz,r.els.take len++l⟩),used:=fun v=>v=ver∨c.used v } (.own id ver 0 (len+l.length)) v':=by
    have OZ:∃A' gE,v' = .slice A' (len+l.length) gE:=by
     rcases q2.2 with ⟨rfl,h0⟩ | ⟨g,gE,cur,rfl,_⟩
     ·exact⟨none,0,by rw [h0]⟩
     ·exact⟨_,gE,rfl⟩
    obtain⟨A',gE,rfl⟩:=OZ
    exact jA (r:=⟨ver,e,sz,r.els.take len++l⟩) (by simp [c4]) FT (Or.inl rfl) (by simp [c4])
   obtain⟨f',rows',hk,uI⟩:=mU (K:=K 1) hr eX hf hG hn eC h rB hA hv hd
   exact run q1 (hK 1 f' rows' _ _ hk (uI.mono fun v hv=>hv.imp (fun h=>⟨rfl,h⟩) fun h=>h))
  ·-- ahu cells that stay,its capacity its length
   rename_i l0 heq
   obtain⟨pW,ZY,KW,F3,h⟩:=h
   have hx:=hρ x
   rw [heq]at hx
   simp only [aF,aM,cG]at hx
   obtain⟨A0,hA0,E5,O1⟩:=hx
   have fin:∀ {v':Value} {w':World},(Builtin.append_ #[t,t] o.type #[a.eval x,a.eval y]).run E.P c.w = .ok v' w' →
     (∃c',c'.w=w'∧c'.rows=c.rows∧c'.used=c.used∧Inv w0 S0 c'∧oF c c'∧aF c' (.sl (l0++l)) v')→o.wp E.P a c.w K' Q:=by
    rintro v' w' gG ⟨c',rfl,h2,h3,h4,h5,h6⟩
    refine run gG (hK 0 _ _ _ _ h ?_)
    exact kU hf hG hn eC h5 h4 h6 hd rfl (by rw [h2,hr]) (by rw [h3];exact fun v hv => .inr (eX v hv))
   have VP:a6 (cG c.S c.w) l.flatten news:=by
    refine a6.cO g2.length fun k p u hp hu=>?_
    obtain⟨u',q1,q2⟩:=g2.get hp
    rw [hu]at q1;cases q1
    have s6:=List.mem_of_getElem? hp
    rw [List.mem_flatten]at s6
    obtain⟨e',nW,sZ⟩:=s6
    exact q2.rep (ZY e' nW p sZ)
   by_cases IF:l = []
   ·subst IF
    refine fin (v':=.slice A0 l0.length l0.length) (w':=c.w) ?_ ⟨c,rfl,rfl,rfl,hI,oF.refl c,?_⟩
    ·have hn0:news = []:=List.eq_nil_of_length_eq_zero (by simpa using g1)
     subst hn0
     have hfc:(Builtin.firstCells i.size 0 (.slice A 0 cap)).run E.P c.w = .ok #[] c.w:=by
      cases A with
      | none=>simp [Builtin.firstCells]
      | some ad=>simp [Builtin.firstCells,loadCells,loadCellsFrom]
     rw [hA0,hvy]
     cases A0 with
     | none=>simp [Builtin.append_,run_underlying hu,Go.sizeOf,typeInfo,hi,Builtin.lenOf,hfc]
     | some ad0=>simp [Builtin.append_,run_underlying hu,Go.sizeOf,typeInfo,hi,Builtin.lenOf,hfc,storeCells]
    ·simp only [aF,aM,cG,List.append_nil]
     exact⟨A0,_,rfl,Nat.le_refl _,E5,O1⟩
   ·have ahr:0<l.length:=List.length_pos_iff.2 IF
    obtain⟨ad,rfl⟩:∃ad,A=some ad:=by
     cases A with
     | none=>exact absurd (g4 rfl) IF
     | some ad=>exact⟨ad,rfl⟩
    obtain⟨A2,VN,VQ,VM,o1,o2,o3,o4,o5⟩:=pB (y:=.fX l0) (vy:=a.eval x) (l:=l0) hI (by simp only [aF,aM,cG];exact⟨A0,hA0,E5,O1⟩) rfl pW
    rw [hA0]at VM
    simp only [Value.slice.injEq]at VM
    obtain⟨rfl,_,rfl⟩:=VM
    have VR:a6 (cG c.S c.w) l0.flatten VQ:=by
     refine a6.cO o2.length fun k p u hp hu=>?_
     have s6:=List.mem_of_getElem? hp
     rcases O1 with rfl | ⟨g,oo,rfl,hre⟩
     ·simp at hp
     ·have anc:l0.flatten.length=l0.length*sz:=by rw [o2.length,o1]
      have hk:k<l0.length*sz:=by rw [←anc];exact(List.getElem?_eq_some_iff.1 hp).1
      have hq:k/sz<l0.length:=(Nat.div_lt_iff_lt_mul gZ).2 hk
      have mN:=pW l0[k/sz] (List.getElem_mem hq)
      have hj:k%sz<l0[k/sz].length:=by rw [mN];exact Nat.mod_lt _ gZ
      have IH:k/sz*sz+k%sz=k:=by rw [Nat.mul_comm];exact Nat.div_add_mod k sz
      have hfg:=gQ pW (List.getElem?_eq_getElem hq) (List.getElem?_eq_getElem hj)
      rw [IH,hp]at hfg
      cases hfg
      obtain⟨u',r1,_,_,r4⟩:=fL (gD hre pW (List.getElem?_eq_getElem hq)) (List.getElem?_eq_getElem hj)
      have:=o5 _ rfl k u hu
      rw [fU]at this
      rw [show oo+k/sz*sz+k%sz=oo+k by omega,this]at r1
      cases r1;exact r4
    have grow:∃v' w',(Builtin.append_ #[t,t] o.type #[a.eval x,a.eval y]).run E.P c.w = .ok v' w'∧w'.ownsRow c.w.heap.size e sz v' (l0.length+l.length) (VQ++news)∧c.w.grownBy w' none:=by
     rw [hA0,hvy]
     cases A0 with
     | some ad0=>exact run_append_arg_grows (P:=E.P) c.w t o.type e i zv sz b hu hi hz hs hby wR gZ ad0 l0.length l0.length VQ o1 (o5 ad0 rfl) ad l.length cap news g1 (g5 ad rfl) (by omega) (pY KW) (by simpa [room]using F3)
     | none =>
      have ane:=o4 rfl
      subst ane
      have ho0:VQ = []:=List.eq_nil_of_length_eq_zero (by simpa using o1)
      subst ho0
      obtain⟨v',w',q1,q2,q3,_,q5⟩:=run_append_own_at (P:=E.P) c.w c.w.heap.size t o.type e i zv sz b hu hi hz hs hby wR gZ (.slice none 0 0) 0 [] (World.ownsRow_nil _ _ _ _) ad l.length cap news g1 (g5 ad rfl) g3 (by simpa using pY KW) (by simpa [room]using F3) (Nat.le_refl _)
      exact⟨v',w',q1,by simpa using q2,q3⟩
    obtain⟨v',w',q1,q2,q3⟩:=grow
    refine fin q1 (F2 hI q3 (els:=l0++l) (by simpa using q2) (by rw [List.flatten_append];exact VR.append VP) (fun u hu=>?_) (fun e' nW=>?_))
    ·rcases List.mem_append.1 hu with hu | hu
     ·exact o3 u hu
     ·exact g3 u hu
    ·rcases List.mem_append.1 nW with nW | nW
     ·exact pW e' nW
     ·exact hlen e' nW
  ·exact h.elim
 ·exact h.elim
end
section
variable {E:Env} {w0:World} {S0:cY} {n:Nat} {G:Gs}
theorem pZ{U:Nat→Prop}{ver:Nat}(IJ:¬U ver){o:Oper}{a:Act}{w:World}{f:Nat→PV}{rows:Rows}{K:Nat→(Nat→PV)→Rows→Prop}(h:kO E ver o K f rows)(hR:mD w0 S0 n G U f rows a w)(hd:∀t,o.dst=some t→t<n)
  {K':Act→World→Prop} {Q:Exit→Act→World→Prop} (hK:∀i f' rows' a' w',K i f' rows'→mD w0 S0 n G (fun v=>(i=1∧v=ver)∨U v) f' rows' a' w'→K' a' w'):o.wp E.P a w K' Q:=by
 obtain⟨⟨c,rfl,hr,eX,hI,hf,hG⟩,hn,eC⟩:=hR
 have hρ:=jN hf
 have hfu:¬c.used ver:=fun hu=>IJ (eX _ hu)
 have value:∀ {v':Value} {w':World},(execOp a.eval o).run E.P c.w = .ok (.value v') w'→K' (a.put o.dst v') w'→o.wp E.P a c.w K' Q:=by
  intro v' w' h1 h2
  unfold Oper.wp
  rw [h1]
  exact h2
 have newVar:∀(t:TypeId) (l:List PV) (vx:Value),(E.ty t).known=true→a6 (aM c) l vx.cells.toList→(∀u∈vx.cells.toList,u.oneCell'=true)→l.length=(E.ty t).size →
   xR K ver f rows o.dst (.ptr (o.dst.getD 0) ver 0 0) (o.dst.getD 0) t (E.ty t).size [l]→(execOp a.eval o).run E.P c.w = .ok (.value (.pointer (some ⟨c.w.heap.size,0,none⟩))) (c.w.alloc (.cells vx.cells t))→o.wp E.P a c.w K' Q:=by
  intro t l vx hk eS g9 hlen hp gG
  have hz:=(E.ok t).zero hk
  have lF:vx.cells.size=(E.ty t).size:=by rw [←hlen,eS.length];simp
  obtain⟨rB,hA⟩:=rF hI hfu (o.dst.getD 0) t (E.ty t).size 1 1 [l] vx.cells rfl (Nat.le_refl _) (by simp [maxLen]) (by omega) (by
   simp only [List.flatten_cons,List.flatten_nil,List.append_nil]
   rw [List.take_of_length_le (by simp [lF])];exact eS) g9 (by simpa using hlen) hz.pos
  obtain⟨f',rows',rW,uI⟩:=mU (K:=K 1) hr eX hf hG hn eC hp rB hA (OX (Or.inl rfl) (g:=c.w.heap.size) (n:=1) (cap:=1) (by simp [c4])) hd
  exact value gG (hK 1 f' rows' _ _ rW (uI.mono fun v hv=>hv.imp (fun h=>⟨rfl,h⟩) fun h=>h))
 obtain⟨dst,op,type,pos,after,guard⟩:=o
 simp only at hd value newVar
 unfold kO at h
 simp only at h
 split at h
 ·-- alloc
  rename_i t
  obtain⟨hk,h⟩:=h
  have hz:=(E.ok t).zero hk
  obtain⟨i,zv,h1,h2,h3,h4,h5,h6⟩:=OW (c:=c) hz
  exact newVar t (E.ty t).zero zv hk h4 h6 rfl h (by simp [execOp,Instr.alloc,zeroValue,typeInfo,h1,h2,Go.newVar,newRow])
 ·-- box
  rename_i t x
  obtain⟨hk,l,hl,g9,hlen,h⟩:=h
  rw [←hr]at g9
  obtain⟨g1,g2⟩:=jY (hρ x) hl g9
  exact newVar t l (a.eval x) hk g1 g2 hlen h (by simp [execOp,Instr.box,Go.newVar,newRow])
 ·-- makeSlice
  rename_i t l cc
  split at h
  ·rename_i e sz b z k1 x k2 y hE hl hc
   obtain⟨h0,KX,KW,F3,h⟩:=h
   obtain⟨hu,gZ,y9,i,zv,hi,hz,hs,hby,FQ,hzo⟩:=eA hE
   have g1:=hρ l
   have g2:=hρ cc
   rw [hl,bS]at g1
   rw [hc,bS]at g2
   have wR:zv.cells.size=sz:=by rw [←y9,←FQ];simp
   have ab3:(i.bytes:Int)*y≤281474976710656:=by
    rw [hby]
    have h3:((y.toNat*b:Nat):Int)≤room:=by exact_mod_cast F3
    have h4:((y.toNat:Nat):Int)=y:=Int.toNat_of_nonneg (by omega)
    rw [Int.natCast_mul,h4]at h3
    simp only [room]at h3
    rw [Int.mul_comm];omega
   have gG:=run_make (P:=E.P) c.w t e i zv hu hi hz k1 k2 x y h0 KX ab3 (by simp only [room]at KW;omega)
   have ahw:(execOp a.eval { dst:=dst,op:=.makeSlice t l cc,type:=type,pos:=pos,after:=after,guard:=guard }).run E.P c.w = .ok (.value (.slice (some ⟨c.w.heap.size,0,none⟩) x.toNat y.toNat)) (c.w.alloc (.cells (madeCells zv.cells (y.toNat*i.size)) e)):=by
    simp [execOp,g1,g2,gG]
   have ahx:a6 (aM c) z zv.cells.toList:=by
    rw [←FQ]
    refine a6.cO (by simp) fun k p u hp hu=>?_
    simp at hp
    obtain⟨q,hq,rfl⟩:=hp
    have:zv.cells.toList[k]? = some q:=by simpa using hq
    rw [this]at hu;cases hu
    exact iU _
   have hle:x.toNat*sz≤y.toNat*sz:=Nat.mul_le_mul_right _ (by omega)
   have hL:((madeCells zv.cells (y.toNat*i.size)).toList.take (x.toNat*sz)).length=x.toNat*sz:=by
    rw [List.length_take,Array.length_toList,size_madeCells,hs];exact Nat.min_eq_left hle
   obtain⟨rB,hA⟩:=rF hI hfu (dst.getD 0) e sz x.toNat y.toNat (List.replicate x.toNat z) (madeCells zv.cells (y.toNat*i.size)) (by simp) (by omega) (pY KW) (by rw [size_madeCells,hs]) (by
    refine a6.cO (by rw [hL];simp [y9]) fun k p u hp hu=>?_
    have hk:=(List.getElem?_eq_some_iff.1 hu).1
    rw [hL]at hk
    rw [List.getElem?_take,if_pos (by omega),oS (by rw [hs];omega) (by omega)]at hu
    have sZ:=iR hp
    rw [y9,←wR]at sZ
    obtain⟨u',q1,q2⟩:=ahx.get sZ
    rw [hu]at q1;cases q1;exact q2) (by
    intro u hu
    obtain⟨k,hk⟩:=List.getElem?_of_mem hu
    have rW:=(List.getElem?_eq_some_iff.1 hk).1
    simp [size_madeCells]at rW
    rw [oS rW (by omega)]at hk
    have:=List.mem_of_getElem? hk
    exact(Array.all_eq_true_iff_forall_mem.1 hzo) u (by simpa using this)) (by
    intro e' nW
    rw [List.mem_replicate]at nW
    rw [nW.2,y9]) gZ
   obtain⟨f',rows',rW,uI⟩:=mU (K:=K 1) hr eX hf hG hn eC h rB hA (jA (r:=⟨ver,e,sz,List.replicate x.toNat z⟩) (A:=some ⟨c.w.heap.size,0,none⟩) (cap:=y.toNat) (by simp [c4]) (by simp) (Or.inl rfl) (by simp [c4])) hd
   exact value ahw (hK 1 f' rows' _ _ rW (uI.mono fun v hv=>hv.imp (fun h=>⟨rfl,h⟩) fun h=>h))
  ·exact h.elim
 ·-- append
  rename_i x y t t2
  obtain⟨ht2,h⟩:=h
  exact uG IJ rfl ht2 hI hr eX hf hG hn eC hd h hK
 ·exact h.elim
theorem r7{o:Oper}{a:Act}{w:World}{σ:PS}{K:PS→Prop}(h:dO E o K σ)(hR:Rel w0 S0 n G σ a w)(hd:∀t,o.dst=some t→t<n)
  {K':Act→World→Prop} {Q:Exit→Act→World→Prop} (hK:∀σ' a' w',K σ'→Rel w0 S0 n G σ' a' w'→K' a' w'):o.wp E.P a w K' Q:=by
 obtain⟨⟨c,rfl,hr,eX,hI,hf,hG⟩,hn,eC⟩:=hR
 have hρ:=jN hf
 have value:∀ {v':Value} {w':World},(execOp a.eval o).run E.P c.w = .ok (.value v') w'→K' (a.put o.dst v') w'→o.wp E.P a c.w K' Q:=by
  intro v' w' h1 h2
  unfold Oper.wp
  rw [h1]
  exact h2
 have ahy:(∃v u,ys E o.op (aN σ.f) σ.rows v u∧K ⟨put σ.f o.dst v,dE σ.rows u,σ.clock⟩)→o.wp E.P a c.w K' Q:=by
  rintro⟨v,u,hy,hk⟩
  rw [←hr]at hy
  refine BT hI hf hy fun v' c' h1 h2 h3 h4 h5=>hK _ _ _ hk ?_
  exact lH hf hG hn eC h3 h4 h5 hd rfl (by simp [h1,hr]) (by rw [h2];exact eX)
 have nw:kO E σ.clock o (fun i f r=>K ⟨f,r,σ.clock+i⟩) σ.f σ.rows→o.wp E.P a c.w K' Q:=fun hp =>
  pZ (U:=fun v=>v<σ.clock) (Nat.lt_irrefl _) hp ⟨⟨c,rfl,hr,eX,hI,hf,hG⟩,hn,eC⟩ hd fun i f' rows' a' w' hk uI=>hK _ _ _ hk (uI.mono fun v hv=>by
   show v<σ.clock+i
   rcases hv with ⟨rfl,rfl⟩ | hv
   ·omega
   ·have:v<σ.clock:=hv
    omega)
 obtain⟨dst,op,type,pos,after,guard⟩:=o
 simp only at hd value ahy nw
 unfold dO at h
 simp only at h
 split at h
 ·-- alloc
  rename_i t
  exact nw (show kO E σ.clock _ _ σ.f σ.rows from h)
 ·-- box
  rename_i t x
  exact nw (show kO E σ.clock _ _ σ.f σ.rows from h)
 ·-- makeSlice
  rename_i t l cc
  refine nw (show kO E σ.clock _ _ σ.f σ.rows from ?_)
  unfold kO
  simp only
  split at h
  ·exact h
  ·exact h.elim
 ·-- append
  rename_i x y t t2
  obtain⟨ht2,h⟩:=h
  refine nw (show kO E σ.clock _ _ σ.f σ.rows from⟨ht2,?_⟩)
  unfold zE at h
  unfold kW
  split at h
  ·obtain⟨l,g1,g2,g3⟩:=h
   refine⟨l,g1,g2,?_⟩
   split at g3<;>exact g3
  ·exact h
 ·-- a call
  rename_i fo args ts
  have eI:a6 (aF c) (args.toList.map fun x=>aN σ.f x) (args.map a.eval).toList:=by
   refine a6.cO (by simp) fun k p u hp hu=>?_
   simp at hp hu
   obtain⟨x,hx,rfl⟩:=hp
   obtain⟨y,hy,rfl⟩:=hu
   rw [hx]at hy;cases hy
   exact hρ x
  split at h
  ·have VS:=hρ fo
   unfold FV at h
   split at h
   ·rename_i g heq
    rw [heq]at VS
    obtain⟨R,⟨⟨fn,b,h1,h2,h3⟩,FY⟩,hk⟩:=h
    simp only [aF,aM,cG]at VS
    obtain⟨cs,hfv,FO⟩:=VS
    simp only [a7]at FO
    subst FO
    have mV:=FY w0 S0 c _ (fun p=>p∈G ∨ ∃s,p=(σ.f s,a.tmps.getD s undef)) hI hr eX eI (by
     rintro p (hp | ⟨s,rfl⟩)
     ·exact hG p hp
     ·exact hf s)
    simp only [Array.toArray_toList]at mV
    unfold Oper.wp
    have gG:(execOp a.eval { dst:=dst,op:=.call { callee:=.value fo,args:=args,argTypes:=ts },type:=type,pos:=pos,after:=after,guard:=guard }).run E.P c.w = .ok (.enter g (args.map a.eval)) c.w:=by
     simp only [execOp,resolve,hfv,Deferred.ofValue,Sem.run_bind,Sem.run_pure,Result.andThen_ok,invoke]
     simpa using jZ h1 h2 h3 (args.map a.eval) c.w
    rw [gG]
    refine mV.mono ?_
    rintro e w' ⟨v',c',r,gF,rfl,rfl,rB,hG',jP,ab4,hv'⟩
    refine hK _ _ _ (hk _ _ _ jP) ?_
    exact OU (fun s=>hG' (σ.f s,a.tmps.getD s undef) (.inr ⟨s,rfl⟩)) (fun p hp=>hG' p (.inl hp)) hn eC rB hv' hd rfl rfl ab4
   ·exact h.elim
  obtain⟨v,hc,hp,hk⟩:=h
  rw [←hr]at hc hp hk
  have hc':r3 E (aN σ.f fo) ((args.toList.map fun x=>aN σ.f x).map (pz c.rows)) v:=by rw [List.map_map];exact hc
  obtain⟨g,cs,h1,h2,h3⟩:=r5 hI (ids:=args.toList.flatMap fun x=>cW (aN σ.f x)) hp (hρ fo) eI (by
   intro p hp id eT
   simp at hp
   obtain⟨x,hx,rfl⟩:=hp
   simp only [List.mem_flatMap];exact⟨x,by simpa using hx,eT⟩) hc' (K:=fun v' w'=>K' (a.put dst v') w') (fun v' c' q1 q2 q3 q4 q5=>hK _ _ _ hk (lH hf hG hn eC q3 q4 q5 hd rfl (by simp [q1]) (by rw [q2];exact eX)))
  unfold Oper.wp
  have gG:(execOp a.eval { dst:=dst,op:=.call { callee:=.value fo,args:=args,argTypes:=ts },type:=type,pos:=pos,after:=after,guard:=guard }).run E.P c.w = .ok (.enter g (args.map a.eval++cs)) c.w:=by
   simp only [execOp,resolve,h1,Deferred.ofValue,Sem.run_bind,Sem.run_pure,Result.andThen_ok,invoke]
   simp only [Array.toArray_toList]at h2
   simpa only [Array.empty_append]using h2
  rw [gG]
  simp only [Array.toArray_toList]at h3
  exact h3.mono fun e w' ⟨v',he,hk⟩=>by subst he;exact hk
 ·-- a closure
  rename_i g b8
  obtain⟨oR,hp,hk⟩:=h
  rw [←hr]at oR hp hk
  have BS:=hI.freeze (b8.toList.flatMap fun x=>cW (aN σ.f x))
  refine value (v':=.func (.func g) #[] (b8.map a.eval)) (w':=c.w) (by simp [execOp,Instr.makeFunc]) (hK _ _ _ hk ?_)
  refine lH (c':=wO c (b8.toList.flatMap fun x=>cW (aN σ.f x))) hf hG hn eC (jO c _) BS ?_ hd rfl (by simp [wO]) eX
  simp only [aF,aM,cG]
  refine⟨(b8.map a.eval).toList,by rw [Array.toArray_toList],b5.2 (a6.cO (by simp) fun k p u sZ hu=>?_)⟩
  simp at sZ hu
  obtain⟨x,hx,rfl⟩:=sZ
  obtain⟨y,hy,rfl⟩:=hu
  rw [hx]at hy;cases hy
  have s6:x∈b8.toList:=by simpa using Array.mem_of_getElem? hx
  exact y8 hI hp (hρ x) (fun id eT=>by simp only [List.mem_flatMap];exact⟨x,s6,eT⟩) (List.all_eq_true.1 oR _ (by simp;exact⟨x,by simpa using s6,rfl⟩))
 ·exact ahy h
end
def fQ(op:Op)(ρ:Operand→PV):List Nat:=
 match op with
 | .load _ p=>aS (ρ p)
 | .fieldAddr _ x _=>aS (ρ x)
 | .indexAddr _ x _=>aS (ρ x)
 | .slice _ x _ _ _=>aS (ρ x)
 | .store _ p x=>aS (ρ p)++((bP (ρ x)).getD []).flatMap aS
 | .call { callee:=.builtin .len,args:=⟨[x]⟩,argTypes:=⟨[_]⟩ }=>aS (ρ x)
 | .call { callee:=.builtin .append,args:=⟨[x,y]⟩,argTypes:=⟨[_,_]⟩ }=>aS (ρ x)++aS (ρ y)
 | .call { callee:=.builtin .copy,args:=⟨[x,y]⟩,argTypes:=⟨[_,_]⟩ }=>aS (ρ x)++aS (ρ y)
 | .nilCheck x=>aS (ρ x)
 | _=>[]
def gH(ids:List Nat)(rows rows':Rows):Prop:=∀id∈ids,∀r,rows id=some r→rows' id=some r
section
variable {E:Env}
theorem zF{rows rows':Rows}{p:PV}(h:aS p = []):fz rows p=fz rows' p:=by cases p<;>simp_all [fz,aS]
theorem VT{rows rows':Rows}{p:PV}(h:cW p = []):pz rows p=pz rows' p:=by
 cases p with
 | ag l =>
  simp only [cW,List.flatMap_eq_nil_iff]at h
  simp only [pz]
  congr 1
  exact List.map_congr_left fun q hq=>zF (h q hq)
 | _=>simp only [pz,cW]at h ⊢;exact zF h
theorem zG{rows rows':Rows}{p:PV}(h:gH (aS p) rows rows')(ho:eZ rows p):eZ rows' p:=by
 cases p with
 | own id ver off len=>obtain⟨r,hr,hv⟩:=ho;exact⟨r,h id (by simp [aS]) r hr,hv⟩
 | ptr id ver i j=>obtain⟨r,hr,hv⟩:=ho;exact⟨r,h id (by simp [aS]) r hr,hv⟩
 | _=>exact ho
theorem KY{rows:Rows}{p:PV}(ho:eZ rows p):∀id∈aS p,∃r,rows id=some r:=by
 intro id eT
 cases p with
 | own fZ ver off len=>simp [aS]at eT;subst eT;obtain⟨r,hr,_⟩:=ho;exact⟨r,hr⟩
 | ptr fZ ver i j=>simp [aS]at eT;subst eT;obtain⟨r,hr,_⟩:=ho;exact⟨r,hr⟩
 | _=>simp [aS]at eT
theorem O2{t:TypeId}{rows rows':Rows}{p v:PV}(h:gH (aS p) rows rows')(hy:oK E t rows p v):oK E t rows' p v ∧ ∀id∈aS p,∃r,rows id=some r:=by
 obtain⟨hk,hy⟩:=hy
 cases p with
 | ptr id ver i j =>
  obtain⟨r,hr,hh⟩:=hy
  exact⟨⟨hk,r,h id (by simp [aS]) r hr,hh⟩,by simp [aS];exact⟨r,hr⟩⟩
 | rd l=>exact⟨⟨hk,hy⟩,by simp [aS]⟩
 | _=>exact hy.elim
theorem wX{t:TypeId}{i:Nat}{rows rows':Rows}{x v:PV}(h:gH (aS x) rows rows')(hy:dY E t rows i x v):dY E t rows' i x v ∧ ∀id∈aS x,∃r,rows id=some r:=by
 unfold dY at *
 split at hy
 ·rename_i fs z hE
  obtain⟨o,n,b,hf,hy⟩:=hy
  cases x with
  | ptr id ver a j =>
   obtain⟨⟨r,hr,hv⟩,hh⟩:=hy
   exact⟨⟨o,n,b,hf,⟨r,h id (by simp [aS]) r hr,hv⟩,hh⟩,by simp [aS];exact⟨r,hr⟩⟩
  | rd l=>exact⟨⟨o,n,b,hf,hy⟩,by simp [aS]⟩
  | _=>exact hy.elim
 ·exact hy.elim
theorem wY{t:TypeId}{rows rows':Rows}{x ix v:PV}(h:gH (aS x) rows rows')(hy:dZ E t rows x ix v):dZ E t rows' x ix v ∧ ∀id∈aS x,∃r,rows id=some r:=by
 unfold dZ at *
 split at hy
 ·split at hy
  ·obtain⟨h0,hy⟩:=hy
   cases x with
   | own id ver off len =>
    obtain⟨r,hr,hh⟩:=hy
    exact⟨⟨h0,r,h id (by simp [aS]) r hr,hh⟩,by simp [aS];exact⟨r,hr⟩⟩
   | sl l=>exact⟨⟨h0,hy⟩,by simp [aS]⟩
   | fX l=>exact⟨⟨h0,hy⟩,by simp [aS]⟩
   | _=>exact hy.elim
  ·exact hy.elim
 ·split at hy
  ·obtain⟨h0,hy⟩:=hy
   cases x with
   | ptr id ver a j =>
    obtain⟨⟨r,hr,hv⟩,hh⟩:=hy
    exact⟨⟨h0,⟨r,h id (by simp [aS]) r hr,hv⟩,hh⟩,by simp [aS];exact⟨r,hr⟩⟩
   | rd l=>exact⟨⟨h0,hy⟩,by simp [aS]⟩
   | _=>exact hy.elim
  ·exact hy.elim
 ·exact hy.elim
theorem KZ{t:TypeId}{rows rows':Rows}{x v:PV}{lo hi mx:Option PV}(h:gH (aS x) rows rows')(hy:kM E t rows x lo hi mx v):kM E t rows' x lo hi mx v ∧ ∀id∈aS x,∃r,rows id=some r:=by
 unfold kM at *
 split at hy
 ·cases x with
  | own id ver off len =>
   obtain⟨r,hr,hh⟩:=hy
   exact⟨⟨r,h id (by simp [aS]) r hr,hh⟩,by simp [aS];exact⟨r,hr⟩⟩
  | nil=>exact⟨hy,by simp [aS]⟩
  | sl l=>exact⟨hy,by simp [aS]⟩
  | fX l=>exact⟨hy,by simp [aS]⟩
  | _=>exact hy.elim
 ·exact hy.elim
theorem VU{rows rows':Rows}{x:PV}{n:Nat}(h:gH (aS x) rows rows')(hy:KQ rows x n):KQ rows' x n ∧ ∀id∈aS x,∃r,rows id=some r:=by
 unfold KQ at *
 cases x with
 | own id ver off len =>
  obtain⟨⟨r,hr,hv⟩,hh⟩:=hy
  exact⟨⟨⟨r,h id (by simp [aS]) r hr,hv⟩,hh⟩,by simp [aS];exact⟨r,hr⟩⟩
 | nil=>exact⟨hy,by simp [aS]⟩
 | sl l=>exact⟨hy,by simp [aS]⟩
 | fX l=>exact⟨hy,by simp [aS]⟩
 | _=>exact hy.elim
theorem VV{rows rows':Rows}{x v:PV}(h:gH (aS x) rows rows')(hy:wU rows x v):wU rows' x v ∧ ∀id∈aS x,∃r,rows id=some r:=by
 unfold wU at *
 cases x with
 | ptr id ver i j =>
  obtain⟨⟨r,hr,hv⟩,hh⟩:=hy
  exact⟨⟨⟨r,h id (by simp [aS]) r hr,hv⟩,hh⟩,by simp [aS];exact⟨r,hr⟩⟩
 | rd l=>exact⟨hy,by simp [aS]⟩
 | _=>exact hy.elim
theorem K1{t:TypeId}{rows rows':Rows}{p x v:PV}{u:Option (Nat × Row)}(h:gH (aS p++((bP x).getD []).flatMap aS) rows rows')(hy:mS E t rows p x v u) :
  mS E t rows' p x v u∧(∀id∈aS p++((bP x).getD []).flatMap aS,∃r,rows id=some r) ∧ ∃id r,u=some (id,r)∧id∈aS p:=by
 obtain⟨hk,hv,hy⟩:=hy
 cases p with
 | ptr id ver i j =>
  obtain⟨r,hr,iO,el,mN,l,hl,g9,Z5,hh2,hh3⟩:=hy
  rw [hl]at h ⊢
  simp only [Option.getD_some]at h ⊢
  refine⟨⟨hk,hv,r,h id (by simp [aS]) r hr,iO,el,mN,l,hl,fun q hq=>zG (fun fZ uC=>h fZ ?_) (g9 q hq),Z5,hh2,hh3⟩,?_,?_⟩
  ·simp only [List.mem_append,List.mem_flatMap];exact .inr ⟨q,hq,uC⟩
  ·intro fZ uC
   simp only [List.mem_append,List.mem_flatMap]at uC
   rcases uC with uC | ⟨q,hq,uC⟩
   ·simp [aS]at uC;subst uC;exact⟨r,hr⟩
   ·exact KY (g9 q hq) fZ uC
  ·exact⟨id,_,hh3,by simp [aS]⟩
 | _=>exact hy.elim
theorem IK{rows rows':Rows}{y:PV}{l:List (List PV)}(h:gH (aS y) rows rows')(hy:mT rows y l):mT rows' y l ∧ ∀id∈aS y,∃r,rows id=some r:=by
 unfold mT at *
 cases y with
 | own id ver off len =>
  obtain⟨r,hr,hh⟩:=hy
  exact⟨⟨r,h id (by simp [aS]) r hr,hh⟩,by simp [aS];exact⟨r,hr⟩⟩
 | nil=>exact⟨hy,by simp [aS]⟩
 | sl l=>exact⟨hy,by simp [aS]⟩
 | fX l=>exact⟨hy,by simp [aS]⟩
 | _=>exact hy.elim
theorem O3{t:TI}{rows rows':Rows}{x y v:PV}{u:Option (Nat × Row)}(h:gH (aS x++aS y) rows rows')(hy:oQ t rows x y v u):oQ t rows' x y v u∧(∀id∈aS x++aS y,∃r,rows id=some r) ∧ ∀id r,u=some (id,r)→id∈aS x++aS y:=by
 unfold oQ at *
 split at hy
 ·rename_i e n b z id ver off len
  obtain⟨r,h1,h2,h3,h4,l,h5,h6,h7,rfl⟩:=hy
  obtain⟨g1,g2⟩:=IK (fun id eT=>h id (by simp only [List.mem_append];exact .inr eT)) h5
  refine⟨⟨r,h id (by simp [aS]) r h1,h2,h3,h4,l,g1,h6,h7,rfl⟩,fun fZ eT=>?_,fun fZ r' hu=>?_⟩
  ·simp only [aS,List.mem_append,List.mem_cons,List.not_mem_nil,or_false]at eT
   rcases eT with rfl | eT
   ·exact⟨r,h1⟩
   ·exact g2 fZ eT
  ·simp only [Option.some.injEq,Prod.mk.injEq]at hu
   simp [aS,hu.1]
 ·exact hy.elim
theorem Z6{op:Op}{ρ:Operand→PV}{rows rows':Rows}{v:PV}{u:Option (Nat × Row)}(h:gH (fQ op ρ) rows rows')(hy:ys E op ρ rows v u) :
  ys E op ρ rows' v u∧(∀id∈fQ op ρ,∃r,rows id=some r) ∧ ∀id r,u=some (id,r)→id∈fQ op ρ:=by
 unfold ys at hy ⊢
 split at hy
 ·exact O3 h hy
 ·rename_i t p x
  obtain⟨h1,h2,id,r,h3,h4⟩:=K1 h hy
  exact⟨h1,h2,fun fZ r' hu=>by rw [h3]at hu;cases hu;simp only [fQ,List.mem_append];exact .inl h4⟩
 ·rename_i t len parts
  obtain⟨hy,rfl⟩:=hy
  unfold FU at hy ⊢
  split at hy
  ·obtain⟨els,h1,h2,h3,h4,h5,h6,rfl⟩:=hy
   have hfz:∀e∈els,∀p∈e,fz rows p=fz rows' p:=fun e he p hp=>zF (h6 e he p hp)
   refine⟨⟨⟨els,h1,h2,h3,h4,fun e he p hp=>⟨by rw [←hfz e he p hp];exact(h5 e he p hp).1,zG (by rw [h6 e he p hp];intro id eT;cases eT) (h5 e he p hp).2⟩,h6,?_⟩,rfl⟩,by simp [fQ],by simp⟩
   congr 1
   exact List.map_congr_left fun e he=>List.map_congr_left fun p hp=>hfz e he p hp
  ·exact hy.elim
 ·rename_i f args ts
  obtain⟨rfl,h1,h2⟩:=hy
  refine⟨⟨rfl,?_,h2⟩,by simp [fQ],by simp⟩
  have:(args.toList.map fun x=>pz rows (ρ x))=args.toList.map fun x=>pz rows' (ρ x):=
   List.map_congr_left fun x hx=>VT (List.flatMap_eq_nil_iff.1 h2 x hx)
  rw [←this];exact h1
 ·obtain⟨hy,rfl⟩:=hy
  suffices hs:yv E op ρ rows' v ∧ ∀id∈fQ op ρ,∃r,rows id=some r from⟨⟨hs.1,rfl⟩,hs.2,by simp⟩
  unfold yv at hy ⊢
  split at hy
  case h_8=>exact O2 h hy
  case h_10=>exact wX h hy
  case h_11=>exact wY h hy
  case h_12=>exact KZ h hy
  case h_16 =>
   simp only [fQ]at h ⊢
   unfold rT at hy ⊢
   split at hy
   ·obtain⟨n,hn,hv⟩:=hy
    have:=VU (rows':=rows') h hn
    exact⟨⟨n,this.1,hv⟩,this.2⟩
   ·exact hy.elim
  case h_19=>exact VV h hy
  all_goals first
   | exact hy.elim
   | exact⟨hy,by simp [fQ]⟩
end
end Pm
