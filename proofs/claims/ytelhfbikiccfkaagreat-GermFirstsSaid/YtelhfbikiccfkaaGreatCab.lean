import Derived.Laws.CopyOwn
import Derived.ArgAppend
import Derived.Test.YtelhfbikiccfkaaGreatCaa
set_option linter.unusedSimpArgs false
set_option linter.unusedVariables false
namespace Pm
open Go Go.RowKit
def FY(rows:Rows)(ids:List Nat):Rows:=fun j=>if j∈ids then none else rows j
def QS(c:Cx)(ids:List Nat):eC:=fun b o=>c.S b o ∨ ∃id∈ids,(∃r,c.rows id=some r)∧(c.β id).ownBlock=some b
section
variable {E:Env} {c:Cx} {w0:World} {S0:eC}
def EI(c:Cx)(ids:List Nat):Cx:={ c with S:=QS c ids,rows:=FY c.rows ids }
theorem mN(c:Cx)(ids:List Nat):uE c (EI c ids):=
 ⟨fun _ _ h => .inl h,fun _ _ _=>rfl,fun _ h=>h,fun id r hr=>by
  simp only [EI,FY]at hr ⊢
  split at hr
  ·cases hr
  ·exact .inr ⟨r,hr,rfl,rfl,rfl,by first | rfl | trivial⟩⟩
theorem Inv.freeze(hI:Inv w0 S0 c)(ids:List Nat):Inv w0 S0 (EI c ids):=by
 have live:∀ {k:Nat} {t:Row},FY c.rows ids k=some t→c.rows k=some t∧k ∉ ids:=by
  intro k t h
  simp only [FY]at h
  split at h
  ·cases h
  ·rename_i hk;exact⟨h,hk⟩
 have awH:∀ {id:Nat} {r:Row} {g:Nat},c.rows id=some r→(c.β id).ownBlock=some g→w0.heap.size≤g∧g<c.w.heap.size:=by
  intro id r g hr hg
  obtain⟨⟨ys,g1,_,_⟩,_⟩:=hI.row id r hr
  exact g1.lt g hg
 refine⟨hI.below,fun b o h => .inl (hI.ext b o h),fun b o h=>?_,hI.lt0,fun id r hr=>hI.clock id r (live hr).1,fun id r hr=>?_,fun i j r s g hr hs=>hI.apart i j r s g (live hr).1 (live hs).1⟩
 ·rcases h with h | ⟨id,_,⟨r,hr⟩,hb⟩
  ·exact hI.new b o h
  ·exact .inr (awH hr hb)
 ·obtain⟨k8,hk⟩:=live hr
  obtain⟨⟨ys,g1,g2,g3⟩,g4,g5,g6⟩:=hI.row id r k8
  refine⟨⟨ys,g1,g2.mono (aU.uF (mN c ids)),g3⟩,g4,fun g o hg hS=>?_,g6⟩
  rcases hS with h | ⟨j5,BS,⟨r',bR⟩,hb⟩
  ·exact g5 g o hg h
  ·have:=hI.apart id j5 r r' g k8 bR hg hb
   subst this
   exact hk BS
theorem US(hI:Inv w0 S0 c){ids:List Nat}(hp:∀id∈ids,∀r,c.rows id=some r → ∀e∈r.els,∀p∈e,cR p=true){id:Nat}(iR:id∈ids){r:Row}(hr:c.rows id=some r)
  {g n cap:Nat} (hβ:c.β id = .slice (some ⟨g,0,none⟩) n cap) {i j:Nat} {el:List PV} {p:PV} (hi:r.els[i]? = some el) (hj:el[j]? = some p) :
  ∃v,c.w.cell? ⟨g,i*r.size+j,none⟩=some v∧QS c ids g (i*r.size+j)∧v.oneCell'=true∧dG (QS c ids) c.w p v:=by
 obtain⟨v,h1,h2,h3⟩:=vM hI hr hβ hi hj
 refine⟨v,h1, .inr ⟨id,iR,⟨r,hr⟩,by simp [hβ,Value.ownBlock]⟩,h2,?_⟩
 have h4:=h3.rep (hp id iR r hr el (List.mem_of_getElem? hi) p (List.mem_of_getElem? hj))
 exact dG.mono (fun _ _ h => .inl h) (fun _ _ _=>rfl) _ _ h4
theorem H9(hI:Inv w0 S0 c){ids:List Nat}(hp:∀id∈ids,∀r,c.rows id=some r → ∀e∈r.els,∀p∈e,cR p=true){p:PV}{v:Value}(h:aU c p v)(uI:∀id∈bJ p,id∈ids)(xT:cR (fz c.rows p)=true) :
  dG (QS c ids) c.w (fz c.rows p) v:=by
 have mono:∀q u,dG c.S c.w q u→dG (QS c ids) c.w q u:=fun q u=>dG.mono (fun _ _ h => .inl h) (fun _ _ _=>rfl) q u
 cases p with
 | own id ver off len =>
  simp only [fz]at xT ⊢
  have iR:id∈ids:=uI id (by simp [bJ])
  cases hr:c.rows id with
  | none=>simp [hr,cR]at xT
  | some r =>
   simp only [hr]at xT ⊢
   by_cases hv:r.ver=ver
   ·simp only [hv,if_true]at xT ⊢
    simp only [aU]at h
    obtain⟨hle,h⟩:=h.2 r hr hv
    obtain⟨⟨xs,iV,_,_⟩,hlen,_⟩:=hI.row id r hr
    have afF:∀A m cap,c.β id = .slice A m cap→r.els.length≤cap∧cap≤maxLen:=by
     intro A m cap hβ
     rw [hβ]at iV
     rcases iV.2 with ⟨h',hz⟩ | ⟨g,lA,cur,h',_,_,UR,hm,_⟩
     ·simp at h';exact⟨by omega,by rw [h'.2.2];simp⟩
     ·simp at h';obtain⟨_,_,rfl⟩:=h';exact⟨UR,hm⟩
    have EU:((r.els.drop off).take len).length=len:=by simp;omega
    have els:∀g n cap,c.β id = .slice (some ⟨g,0,none⟩) n cap→fN (QS c ids) c.w g (off*r.size) ((r.els.drop off).take len):=by
     intro g n cap hβ
     refine oZ (n:=r.size) (fun e he=>hlen e (List.mem_of_mem_drop (List.mem_of_mem_take he))) fun k e hk=>?_
     rw [List.getElem?_take]at hk
     split at hk
     ·rw [List.getElem?_drop]at hk
      refine jR fun j q hq=>?_
      have:=US hI hp iR hr hβ hk hq
      rw [show off*r.size+k*r.size+j=(off+k)*r.size+j by rw [Nat.add_mul]];exact this
     ·cases hk
    simp only [dG]
    rw [EU]
    rcases h with ⟨rfl,A,n,cap,hβ,rfl⟩ | ⟨mD,g,n,cap,A,hβ,hoc,rfl,ha⟩
    ·obtain⟨c1,c2⟩:=afF _ _ _ hβ
     refine⟨A,cap,rfl,by omega,c2,?_⟩
     rcases Nat.eq_zero_or_pos len with h0 | h0
     ·left;exact List.eq_nil_of_length_eq_zero (by rw [EU];exact h0)
     ·right
      obtain⟨g,lA,rJ⟩:=rI hI hr (by omega)
      rw [hβ]at rJ
      simp only [Value.slice.injEq]at rJ
      obtain⟨rfl,rfl,rfl⟩:=rJ
      exact⟨g,0,rfl,by simpa using els g _ _ hβ⟩
    ·obtain⟨c1,c2⟩:=afF _ _ _ hβ
     refine⟨some A,cap-off,rfl,by omega,by omega,?_⟩
     rcases ha with rfl | rfl
     ·left;exact List.eq_nil_of_length_eq_zero EU
     ·right;exact⟨g,off*r.size,rfl,els g n cap hβ⟩
   ·simp [hv,cR]at xT
 | ptr id ver i j =>
  simp only [fz]at xT ⊢
  have iR:id∈ids:=uI id (by simp [bJ])
  cases hr:c.rows id with
  | none=>simp [hr,cR]at xT
  | some r =>
   simp only [hr]at xT ⊢
   by_cases hv:r.ver=ver
   ·simp only [hv,if_true]at xT ⊢
    simp only [aU]at h
    obtain⟨g,n,cap,hβ,rfl⟩:=h.2 r hr hv
    simp only [dG]
    refine⟨g,i*r.size+j,rfl,jR fun k q hq=>?_⟩
    rw [List.getElem?_drop]at hq
    cases mW:r.els[i]? with
    | none=>simp [List.getD,mW]at hq
    | some el =>
     have hq':el[j+k]? = some q:=by simpa [List.getD,mW]using hq
     have:=US hI hp iR hr hβ mW hq'
     rw [show i*r.size+j+k=i*r.size+(j+k)by omega];exact this
   ·simp [hv,cR]at xT
 | nil =>
  simp only [aU,dG]at h
  subst h
  simp only [fz,dG]
  exact⟨none,0,rfl,by simp,by simp [maxLen], .inl (by first | rfl | trivial)⟩
 | j8 l =>
  simp only [fz]
  have:=mono _ _ (show dG c.S c.w (.j8 l) v by simpa only [aU]using h)
  simp only [dG]at this ⊢
  obtain⟨A,rfl,h1,h2⟩:=this
  exact⟨A,l.length,rfl,Nat.le_refl _,h1,h2⟩
 | undef=>simp [fz,cR]at xT
 | _=>simp only [fz];exact mono _ _ (by simpa only [aU]using h)
theorem IA(hI:Inv w0 S0 c){ids:List Nat}(hp:∀id∈ids,∀r,c.rows id=some r → ∀e∈r.els,∀p∈e,cR p=true){p:PV}{v:Value}(h:aM c p v)(uI:∀id∈eD p,id∈ids)(xT:gI (pz c.rows p)=true) :
  dG (QS c ids) c.w (pz c.rows p) v:=by
 cases p with
 | ag l =>
  obtain⟨vs,rfl,LJ⟩:=h
  simp only [pz,gI]at xT ⊢
  simp only [dG]
  refine⟨vs,rfl,c8.2 (bK.dU (by simp [LJ.length]) fun k q u hq hu=>?_)⟩
  simp at hq
  obtain⟨q',hq',rfl⟩:=hq
  obtain⟨u',h1,h2⟩:=LJ.get hq'
  rw [hu]at h1;cases h1
  refine H9 hI hp h2 (fun id iR=>uI id ?_) (List.all_eq_true.1 xT _ (by simp;exact⟨q',List.mem_of_getElem? hq',rfl⟩))
  simp only [eD,List.mem_flatMap]
  exact⟨q',List.mem_of_getElem? hq',iR⟩
 | _ =>
  simp only [pz]at xT ⊢
  refine H9 hI hp (by simpa only [aM]using h) (fun id iR=>uI id (by simpa only [eD]using iR)) ?_
  revert xT
  simp only [fz]
  first
   | (intro xT;simpa only [gI]using xT)
   | (split
      · split
        · intro _;rfl
        · intro xT;exact xT
      · intro xT;exact xT)
end
theorem yY{α:Type}{n:Nat}:∀ {els:List (List α)},(∀e∈els,e.length=n) → ∀ {i:Nat} {el:List α},els[i]? = some el → ∀(j:Nat) (l:List α),j+l.length≤el.length →
  (els.set i (el.take j++l++el.drop (j+l.length))).flatten=els.flatten.take (i*n+j)++l++els.flatten.drop (i*n+j+l.length)
 | [],_,_,_,h,_,_,_=>by simp at h
 | q::els,hn,0,el,h,j,l,hjl=>by
  simp at h
  subst h
  simp only [List.set_cons_zero,List.flatten_cons,Nat.zero_mul,Nat.zero_add]
  rw [List.take_append_of_le_length (by omega),List.drop_append_of_le_length hjl]
  simp
 | q::els,hn,i+1,el,h,j,l,hjl=>by
  have hq:q.length=n:=hn q (by simp)
  have ih:=yY (els:=els) (n:=n) (fun e he=>hn e (by simp [he])) (i:=i) (el:=el) (by simpa using h) j l hjl
  simp only [List.set_cons_succ,List.flatten_cons,ih]
  have e1:(i+1)*n+j=q.length+(i*n+j):=by rw [hq,Nat.add_mul];omega
  have e2:(i+1)*n+j+l.length=q.length+(i*n+j+l.length):=by omega
  rw [e1,show q.length+(i*n+j)+l.length=q.length+(i*n+j+l.length)by omega,List.take_length_add_append,List.drop_length_add_append]
  simp
def rK(E:Env)(t:TypeId)(rows:Rows)(p x v:PV)(u:Option (Nat × Row)):Prop:=
 (E.ty t).known=true∧v = .undef ∧
 match p with
 | .ptr id ver i j=>∃r,rows id=some r∧r.ver=ver ∧ ∃el,r.els[i]? = some el ∧ ∃l,cE x=some l∧(∀q∈l,i0 rows q)∧l.length=(E.ty t).size∧j+l.length≤el.length ∧
   u=some (id,{ r with els:=r.els.set i (el.take j++l++el.drop (j+l.length)) })
 | _=>False
def iD(n:Nat):Nat→List (Nat × PV)→Option (List (List PV))
 | _,[]=>some []
 | k,(i,p)::ps =>
  match cE p with
  | some l=>if i=k∧l.length=n then(iD n (k+1) ps).map (l :: ·)else none
  | none=>none
def QT(t:TI)(rows:Rows)(len:Nat)(parts:List (Nat × PV))(v:PV):Prop:=
 match t with
 | .slice _ n _ _=>∃els,iD n 0 parts=some els∧len=els.length∧len≤4096∧n≤4096∧(∀e∈els,∀p∈e,cR (fz rows p)=true∧i0 rows p)∧(∀e∈els,∀p∈e,bJ p = [])∧v = .j8 (els.map fun e=>e.map (fz rows))
 | _=>False
def Gs:=PV × Value→Prop
instance:Membership (PV × Value) Gs:=⟨fun G p=>G p⟩
def Gs.none:Gs:=fun _=>False
theorem Gs.LK{p:PV × Value}:¬p∈Gs.none:=id
def XT(P:Program)(f:FuncId)(args:List PV)(rows:Rows)(clk:Nat)(R:PV→Rows→Nat→Prop):Prop:=
 (∃fn c,P.funcs[f]? = some fn∧fn.body=some c∧(fn.name == "runtime.NumGoroutine")=false) ∧
 ∀(w0:World) (S0:eC) (c:Cx) (vs:List Value) (G:Gs),Inv w0 S0 c→c.rows=rows→(∀v,c.used v→v<clk)→bK (aM c) args vs→(∀p∈G,aM c p.1 p.2) →
  Calls P f vs.toArray c.w fun e w'=>∃v c' r lC,e = .returned v∧c'.w=w'∧Inv w0 S0 c'∧(∀p∈G,aM c' p.1 p.2)∧R r c'.rows lC∧(∀v,c'.used v→v<lC)∧aM c' r v
def akT(E:Env):PV→Bool
 | .fn g _=>E.writes g
 | _=>false
def yZ(P:Program)(g:FuncId)(gU:List PV)(rows:Rows)(clk:Nat)(K:PV→Rows→Nat→Prop):Prop:=
 ∃R,XT P g gU rows clk R ∧ ∀r rows' lC,R r rows' lC→K r rows' lC
def QU(E:Env)(p:PV)(gU:List PV)(rows:Rows)(clk:Nat)(K:PV→Rows→Nat→Prop):Prop:=
 match p with
 | .fn g []=>yZ E.P g gU rows clk K
 | _=>False
def y6(E:Env)(f:PV)(args:List PV)(v:PV):Prop:=
 match f with
 | .fn g cI=>(args.all gI=true)∧aD E.P g (args++cI) v
 | _=>False
def ys(E:Env)(op:Op)(ρ:Operand→PV)(rows:Rows)(v:PV)(u:Option (Nat × Row)):Prop:=
 match op with
 | .store t p x=>rK E t rows (ρ p) (ρ x) v u
 | .buildSlice t len parts=>QT (E.ty t) rows len (parts.toList.map fun x=>(x.1,ρ x.2)) v∧u=none
 | .call { callee:=.value f,args:=args,argTypes:=_ }=>u=none∧y6 E (ρ f) (args.toList.map fun x=>pz rows (ρ x)) v∧(args.toList.flatMap fun x=>eD (ρ x)) = []
 | op=>yv E op ρ rows v∧u=none
def gO(rows:Rows):Option (Nat × Row)→Rows
 | none=>rows
 | some (id,r)=>eE rows id (some r)
section
variable {E:Env} {c:Cx} {w0:World} {S0:eC}
theorem QV(hI:Inv w0 S0 c){t:TypeId}{p x v:PV}{u:Option (Nat × Row)}{vp vx:Value}(hp:aM c p vp)(hx:aM c x vx)(h:rK E t c.rows p x v u) :
  v = .undef ∧ ∃w',(Instr.storeAt t vp vx).run E.P c.w = .ok () w'∧Inv w0 S0 { c with w:=w',rows:=gO c.rows u }∧uE c { c with w:=w',rows:=gO c.rows u }:=by
 obtain⟨hk,rfl,h⟩:=h
 refine⟨rfl,?_⟩
 split at h
 ·rename_i id ver i j
  obtain⟨r,hr,kV,el,mW,l,hl,i5,hlen,hjl,rfl⟩:=h
  simp only [aM,aU]at hp
  obtain⟨g,n,cap,hβ,rfl⟩:=hp.2 r hr kV
  obtain⟨⟨xs,iV,gN,aiI⟩,BR,hnS,mD⟩:=hI.row id r hr
  obtain⟨vI,XU⟩:=m7 hx hl i5
  have QJ:vx.cells.toList.length=l.length:=vI.length.symm
  have aqs:=iV
  rw [hβ]at iV
  rcases iV.2 with ⟨h',_⟩ | ⟨g',lA,cur,h',XR,hg,UR,hcm,K9,LM⟩
  ·simp at h'
  ·simp only [Value.slice.injEq,Option.some.injEq,Addr.mk.injEq,and_true]at h'
   obtain⟨rfl,rfl,rfl⟩:=h'
   have hi:i<r.els.length:=(List.getElem?_eq_some_iff.1 mW).1
   have aa3:el.length=r.size:=BR el (List.mem_of_getElem? mW)
   have hmul:i*r.size+r.size≤r.els.length*r.size:=by rw [←Nat.succ_mul];exact Nat.mul_le_mul_right _ hi
   have az5:r.els.length*r.size≤cap*r.size:=Nat.mul_le_mul_right _ UR
   have akU:i*r.size+j+l.length≤r.els.length*r.size:=by omega
   have jD:=run_storeCells_at E.P g (i*r.size+j) r.e vx.cells.toList 0 cur c.w hg (by rw [QJ];omega) XU
   obtain⟨inf,_,hi1,_,EH,_,_⟩:=((E.ok t).zero hk).ok
   have kA:(Instr.storeAt t (.pointer (some ⟨g,i*r.size+j,none⟩)) vx).run E.P c.w = .ok () (c.w.setRow g (cur.toList.take (i*r.size+j)++vx.cells.toList++cur.toList.drop (i*r.size+j+l.length)).toArray):=by
    have oN:vx.cells.size=inf.size:=by rw [EH,←hlen,←QJ];simp
    simp only [Instr.storeAt,Instr.sureAddr,Sem.run_bind,Sem.run_pure,Result.andThen_ok,storeVar,dN hi1,oN]
    simp only [Nat.add_zero,QJ]at jD
    simpa using jD
   refine⟨_,kA,?_⟩
   have aa4:(c.w.setRow g (cur.toList.take (i*r.size+j)++vx.cells.toList++cur.toList.drop (i*r.size+j+l.length)).toArray).ownsRow w0.heap.size r.e r.size (c.β id) (r.els.set i (el.take j++l++el.drop (j+l.length))).length
     (xs.take (i*r.size+j)++vx.cells.toList++xs.drop (i*r.size+j+l.length)):=by
    rw [hβ,List.length_set]
    refine⟨?_, .inr ⟨g,cap,_,rfl,XR,setRow_heap _ g cur _ r.e _ hg,UR,hcm,?_,?_⟩⟩
    ·have:=iV.1
     simp [QJ];omega
    ·simp [QJ];omega
    ·rw [←LM]
     have awI:cur.toList.length=cap*r.size:=by simp [K9]
     simp only
     rw [List.take_append,List.take_append]
     have e1:List.take (r.els.length*r.size) (cur.toList.take (i*r.size+j))=cur.toList.take (i*r.size+j):=by
      rw [List.take_take,Nat.min_eq_right (by omega)]
     have e2:List.take (i*r.size+j) (cur.toList.take (r.els.length*r.size))=cur.toList.take (i*r.size+j):=by
      rw [List.take_take,Nat.min_eq_left (by omega)]
     rw [e1,e2]
     have e3:(cur.toList.take (i*r.size+j)).length=i*r.size+j:=by rw [List.length_take];omega
     rw [e3]
     have e4:List.take (r.els.length*r.size-(i*r.size+j)) vx.cells.toList=vx.cells.toList:=List.take_of_length_le (by rw [QJ];omega)
     rw [e4]
     congr 1
     rw [List.length_append,e3,QJ,List.drop_take]
   have BT:bK (aU c) (r.els.set i (el.take j++l++el.drop (j+l.length))).flatten (xs.take (i*r.size+j)++vx.cells.toList++xs.drop (i*r.size+j+l.length)):=by
    rw [yY BR mW j l hjl]
    exact((gN.take _).append vI).append (gN.drop _)
   have oO:c.w.grownBy (c.w.setRow g (cur.toList.take (i*r.size+j)++vx.cells.toList++cur.toList.drop (i*r.size+j+l.length)).toArray) (c.β id).ownBlock:=by
    rw [hβ]
    exact⟨rfl,rfl,rfl,by simp,fun k _ hk=>setRow_other _ g k _ (fun e=>hk (by simp [Value.ownBlock,e]))⟩
   exact hI.eE (r':={ r with els:=r.els.set i (el.take j++l++el.drop (j+l.length)) }) hr oO aa4 BT (by
    intro y hy
    simp only [List.mem_append]at hy
    rcases hy with (hy | hy) | hy
    ·exact aiI y (List.mem_of_mem_take hy)
    ·exact XU y hy
    ·exact aiI y (List.mem_of_mem_drop hy)) (by
    intro e he
    rcases List.mem_or_eq_of_mem_set he with he | rfl
    ·exact BR e he
    ·simp;omega) rfl rfl (by simp)
 ·exact h.elim
end
section
variable {E:Env} {c:Cx} {w0:World} {S0:eC}
theorem BU{n:Nat}:∀(vs:List (Nat × Value)) (k:Nat) (cells:Array Value),(∀j x,vs[j]? = some x→x.1=k+j∧x.2.cells.size=n)→cells.size=(k+vs.length)*n →
  ∃cS,Instr.fill (fun i=>some (i*n,n)) cells vs=some cS∧cS.toList=cells.toList.take (k*n)++vs.flatMap fun x=>x.2.cells.toList
 | [],k,cells,_,hs=>⟨cells,rfl,by simp at hs;rw [List.take_of_length_le (by simp [hs])];simp⟩
 | (i,v)::vs,k,cells,h,hs=>by
  obtain⟨h1,h2⟩:=h 0 (i,v) (by simp)
  simp only [Nat.add_zero]at h1 h2
  subst h1
  have akU:i*n+n≤cells.size:=by
   rw [hs,List.length_cons,←Nat.succ_mul]
   exact Nat.mul_le_mul_right _ (by omega)
  have hz3:v.cells.toList.zipIdx=v.cells.zipIdx.toList:=by simp
  have FU:=pM (i*n) v.cells.toList 0 cells (by simp [h2];omega)
  have oN:(List.foldl (fun cs (x:Value × Nat)=>cs.setIfInBounds (i*n+x.2) x.1) cells v.cells.toList.zipIdx).size=cells.size:=by
   have:=congrArg List.length FU
   simp only [Array.length_toList]at this
   rw [this]
   simp [h2]
   omega
  obtain⟨cS,g1,g2⟩:=BU vs (i+1) (List.foldl (fun cs (x:Value × Nat)=>cs.setIfInBounds (i*n+x.2) x.1) cells v.cells.toList.zipIdx)
   (fun j x hx=>by have:=h (j+1) x (by simpa using hx);exact⟨by omega,this.2⟩) (by rw [oN,hs,List.length_cons];congr 1;omega)
  refine⟨cS,?_,?_⟩
  ·simp only [Instr.fill]
   rw [if_neg (by simp [h2];omega),←g1,hz3,Array.foldl_toList]
  ·rw [g2,FU]
   have e1:(cells.toList.take (i*n+0)).length=i*n:=by rw [List.length_take];simp;omega
   have e2:v.cells.toList.length=n:=by simp [h2]
   rw [show(i+1)*n=i*n+n by rw [Nat.add_mul];omega]
   rw [List.take_append,List.length_append,e1,e2,Nat.sub_self,List.take_zero,List.append_nil,List.take_of_length_le (by rw [List.length_append,e1,e2];exact Nat.le_refl _)]
   simp [List.append_assoc]
theorem oP{n:Nat}:∀ {ps:List (Nat × PV)} {k:Nat} {els:List (List PV)},iD n k ps=some els→els.length=ps.length∧(∀e∈els,e.length=n) ∧ ∀j x,ps[j]? = some x→x.1=k+j ∧ ∃e,els[j]? = some e∧cE x.2=some e
 | [],k,els,h=>by simp [iD]at h;subst h;simp
 | (i,p)::ps,k,els,h=>by
  simp only [iD]at h
  split at h
  ·rename_i l hl
   split at h
   ·rename_i vO
    rw [Option.map_eq_some_iff]at h
    obtain⟨IB,h1,rfl⟩:=h
    obtain⟨g1,g2,g3⟩:=oP h1
    refine⟨by simp [g1],fun e he=>?_,fun j x hx=>?_⟩
    ·simp at he
     rcases he with rfl | he
     ·exact vO.2
     ·exact g2 e he
    ·match j with
     | 0=>simp at hx;subst hx;exact⟨by simpa using vO.1,l,by simp,hl⟩
     | j+1 =>
      obtain⟨q1,q2⟩:=g3 j x (by simpa using hx)
      exact⟨by omega,by simpa using q2⟩
   ·cases h
  ·cases h
theorem Inv.awJ(hI:Inv w0 S0 c)(o:Obj):Inv w0 S0 { c with w:=c.w.alloc o,S:=fun b k=>c.S b k∨b=c.w.heap.size }∧uE c { c with w:=c.w.alloc o,S:=fun b k=>c.S b k∨b=c.w.heap.size }:=by
 have:=hI.grow (w':=c.w.alloc o) (S':=fun b k=>c.S b k∨b=c.w.heap.size) ((Below.refl _ _).alloc (Nat.le_refl _) o) (fun _ _ h => .inl h) (fun b k h=>h.imp (fun h=>h) fun h=>by subst h;simp)
 exact this
theorem aa5{p:PV}{v:Value}(hI:Inv w0 S0 c)(h:aU c p v)(uI:bJ p = [])(xT:cR (fz c.rows p)=true):dG c.S c.w (fz c.rows p) v:=by
 have:=H9 hI (ids:=[]) (by simp) h (by simp [uI]) xT
 exact dG.mono (fun b o h=>by rcases h with h | ⟨id,iR,_⟩;exact h;cases iR) (fun _ _ _=>rfl) _ _ this
theorem BV(hI:Inv w0 S0 c){t e:TypeId}{n bb len:Nat}{z:List PV}(hE:E.ty t = .slice e n bb z){parts:Array (Nat × Operand)}{ρ:Operand→PV}{vρ:Operand→Value}(hρ:∀x,aM c (ρ x) (vρ x))
  {els:List (List PV)} (BR:iD n 0 (parts.toList.map fun x=>(x.1,ρ x.2))=some els) (hlen:len=els.length) (hsm:len≤4096) (hn:n≤4096)
  (xT:∀e∈els,∀p∈e,cR (fz c.rows p)=true∧i0 c.rows p) (uI:∀e∈els,∀p∈e,bJ p = []) :
  ∃v' c',(Instr.buildSlice t len (parts.map fun(i,x)=>(i,vρ x))).run E.P c.w = .ok v' c'.w∧c'.rows=c.rows∧c'.used=c.used∧Inv w0 S0 c'∧uE c c'∧aM c' (.j8 (els.map fun e=>e.map (fz c.rows))) v':=by
 obtain⟨hu,hnp,IC,i,zv,hi,hz,hs,_,QR,_⟩:=fQ hE
 obtain⟨g1,g2,g3⟩:=oP BR
 have UT:parts.size=els.length:=by rw [g1];simp
 have awL:zv.cells.size=n:=by rw [←IC,←QR];simp
 have FZ:∀j (x:Nat × Value),((parts.map fun(i,x)=>(i,vρ x)).toList)[j]? = some x→x.1=0+j ∧ ∃e,els[j]? = some e∧bK (aU c) e x.2.cells.toList ∧ ∀u∈x.2.cells.toList,u.oneCell'=true:=by
  intro j x hx
  simp at hx
  obtain⟨a,b,gJ,rfl⟩:=hx
  obtain⟨q1,e,q2,q3⟩:=g3 j (a,ρ b) (by simp;exact⟨a,b,gJ,rfl,rfl⟩)
  have q4:=m7 (hρ b) q3 (fun q hq=>(xT e (List.mem_of_getElem? q2) q hq).2)
  exact⟨q1,e,q2,q4.1,q4.2⟩
 obtain⟨cS,f1,f2⟩:=BU (n:=n) (parts.map fun(i,x)=>(i,vρ x)).toList 0 ((Array.range (len*n)).map (zv.cells[· % zv.cells.size]!)) (fun j x hx=>by
  obtain⟨q1,e,q2,q3,_⟩:=FZ j x hx
  refine⟨q1,?_⟩
  have:=q3.length
  rw [g2 e (List.mem_of_getElem? q2)]at this
  simpa using this.symm) (by simp [UT,hlen])
 simp only [Nat.zero_mul,List.take_zero,List.nil_append]at f2
 have kA:(Instr.buildSlice t len (parts.map fun(i,x)=>(i,vρ x))).run E.P c.w = .ok (.slice (some ⟨c.w.heap.size,0,none⟩) len len) (c.w.alloc (.cells cS e)):=by
  have hbound:¬(16777216<len*n):=by
   have:len*n≤4096*4096:=Nat.mul_le_mul hsm hn
   omega
  by_cases h0:len*n=0
  ·have y7:len=0:=by
    rcases Nat.mul_eq_zero.1 h0 with h | h
    ·exact h
    ·omega
   have hp0:parts = #[]:=Array.eq_empty_of_size_eq_zero (by omega)
   subst hp0
   subst y7
   simp [Instr.fill]at f1
   subst f1
   have PW:Array.range 0 = #[]:=rfl
   simp [Instr.buildSlice,run_underlying hu,dN hi,newRow,Instr.fill,PW]
  ·have f1':Instr.fill (fun i=>some (i*n,n)) ((Array.range (len*n)).map (zv.cells[· % zv.cells.size]!)) (parts.toList.map fun x=>(x.1,vρ x.2))=some cS:=by simpa using f1
   simp only [Instr.buildSlice,Sem.run_bind,run_underlying hu,Result.andThen_ok,dN hi,hs]
   simp [h0,hbound,newRow,zeroValue,typeInfo,hi,hz,f1']
 obtain⟨xK,hA⟩:=hI.awJ (.cells cS e)
 refine⟨_,{ c with w:=c.w.alloc (.cells cS e),S:=fun b k=>c.S b k∨b=c.w.heap.size },kA,rfl,rfl,xK,hA,?_⟩
 simp only [aM,aU,dG]
 refine⟨some ⟨c.w.heap.size,0,none⟩,by rw [List.length_map,hlen],by rw [List.length_map,←hlen];simp [maxLen];omega, .inr ⟨_,_,rfl,?_⟩⟩
 refine oZ (n:=n) (by
  intro e' mO
  simp at mO
  obtain⟨e1,PY,rfl⟩:=mO
  simpa using g2 e1 PY) fun k el hk=>?_
 simp at hk
 obtain⟨e1,PY,rfl⟩:=hk
 refine jR fun j p hj=>?_
 simp at hj
 obtain⟨q,hq,rfl⟩:=hj
 have hkl:k<els.length:=(List.getElem?_eq_some_iff.1 PY).1
 obtain⟨x,hx⟩:∃x,((parts.map fun(i,x)=>(i,vρ x)).toList)[k]? = some x:=⟨_,List.getElem?_eq_getElem (by simp;omega)⟩
 obtain⟨_,e2,q2,q3,q4⟩:=FZ k x hx
 rw [PY]at q2;cases q2
 obtain⟨u,hu1,hu2⟩:=q3.get hq
 have aqu:cS.toList[k*n+j]? = some u:=by
  have e3:cS.toList=((parts.map fun(i,x)=>(i,vρ x)).toList.map fun x=>x.2.cells.toList).flatten:=by rw [f2,List.flatMap_def]
  rw [e3]
  refine jS (n:=n) (fun e he=>?_) (i:=k) (e:=x.2.cells.toList) (by rw [List.getElem?_map,hx];rfl) hu1
  simp only [List.mem_map]at he
  obtain⟨y,hy,rfl⟩:=he
  obtain⟨k',vH⟩:=List.getElem?_of_mem hy
  obtain⟨_,e4,q5,q6,_⟩:=FZ k' y vH
  rw [←q6.length];exact g2 e4 (List.mem_of_getElem? q5)
 refine⟨u,?_, .inr rfl,q4 u (List.mem_of_getElem? hu1),?_⟩
 ·have:=heap_alloc_new c.w (.cells cS e)
  rw [cell_of_row _ _ _ _ _ _ this]
  simpa using aqu
 ·exact dG.mono hA.S hA.w _ _ (aa5 hI hu2 (uI e1 (List.mem_of_getElem? PY) q (List.mem_of_getElem? hq)) (xT e1 (List.mem_of_getElem? PY) q (List.mem_of_getElem? hq)).1)
end
section
variable {E:Env} {c:Cx} {w0:World} {S0:eC}
theorem m9{P:Program}{g:FuncId}{fn:Func}{b:Code}(h1:P.funcs[g]? = some fn)(h2:fn.body=some b) (h3:(fn.name == "runtime.NumGoroutine") = false) (args:Array Value) (w:World) :
  (callFunc g args).run P w = .ok (.enter g args) w:=by
 simp only [callFunc,Sem.run_bind,program,Sem.run,Result.andThen_ok,h1,h2,h3]
 simp
theorem y8(hI:Inv w0 S0 c){ids:List Nat}(hp:∀id∈ids,∀r,c.rows id=some r → ∀e∈r.els,∀p∈e,cR p=true){pf:PV}{vf:Value}{UU:List PV}{y9:List Value}
  (hf:aM c pf vf) (gK:bK (aM c) UU y9) (uI:∀p∈UU,∀id∈eD p,id∈ids) {v:PV} (h:y6 E pf (UU.map (pz c.rows)) v) {K:Value→World→Prop}
  (hK:∀v' c',c'.rows=FY c.rows ids→c'.used=c.used→uE c c'→Inv w0 S0 c'→aM c' v v'→K v' c'.w) :
  ∃g cs,vf = .func (.func g) #[] cs∧(callFunc g (y9.toArray++cs)).run E.P c.w = .ok (.enter g (y9.toArray++cs)) c.w ∧
   Calls E.P g (y9.toArray++cs) c.w fun e w'=>∃v',e = .returned v'∧K v' w':=by
 unfold y6 at h
 split at h
 ·rename_i g cI
  obtain⟨tU,⟨fn,b,h1,h2,h3⟩,QW⟩:=h
  simp only [aM,aU,dG]at hf
  obtain⟨cs,rfl,K9⟩:=hf
  refine⟨g,cs.toArray,rfl,m9 h1 h2 h3 _ _,?_⟩
  have LN:=hI.freeze ids
  have dA:∀b o,QS c ids b o→b<c.w.heap.size:=fun b o hb=>LN.lt (c:=EI c ids) hb
  have gN:bU (QS c ids) c.w (UU.map (pz c.rows)++cI) (y9++cs):=by
   refine c8.2 (bK.append (bK.dU (by simp [gK.length]) fun k p u xJ hu=>?_) ?_)
   ·simp at xJ
    obtain⟨q,hq,rfl⟩:=xJ
    obtain⟨u',g1,g2⟩:=gK.get hq
    rw [hu]at g1;cases g1
    exact IA hI hp g2 (uI q (List.mem_of_getElem? hq)) (List.all_eq_true.1 tU _ (by simp;exact⟨q,List.mem_of_getElem? hq,rfl⟩))
   ·exact(c8.1 K9).mono fun a b gJ=>dG.mono (fun _ _ h => .inl h) (fun _ _ _=>rfl) a b gJ
  have:=QW c.w (QS c ids) (y9++cs) dA gN
  rw [show(y9++cs).toArray=y9.toArray++cs.toArray by simp]at this
  refine this.mono ?_
  rintro e w' ⟨v',rfl,hb,S',g1,g2,g3⟩
  refine⟨v',rfl,?_⟩
  obtain⟨hI2,hA2⟩:=LN.grow (c:=EI c ids) hb g1 g2
  have hA:uE c { EI c ids with S:=S',w:=w' }:=by
   have hA1:=mN c ids
   exact⟨fun b o h=>g1 b o (hA1.S b o h),fun b o h=>(hA2.w b o (hA1.S b o h)).trans (hA1.w b o h),fun _ h=>h,hA1.rows⟩
  exact hK v' { EI c ids with S:=S',w:=w' } rfl rfl hA hI2 (aM.j9 g3)
 ·exact h.elim
structure pO(w0:World)(S0:eC)(n:Nat)(G:Gs)(U:Nat→Prop)(f:Nat→PV)(rows:Rows)(a:Act)(w:World):Prop where
 ex:∃c:Cx,c.w=w∧c.rows=rows∧(∀v,c.used v→U v)∧Inv w0 S0 c∧(∀s,aM c (f s) (a.tmps.getD s undef)) ∧ ∀p∈G,aM c p.1 p.2
 size:a.tmps.size=n
 defers:a.defers = []
abbrev Rel(w0:World)(S0:eC)(n:Nat)(G:Gs)(σ:PS)(a:Act)(w:World):Prop:=pO w0 S0 n G (fun v=>v<σ.clock) σ.f σ.rows a w
theorem pO.mono{w0:World}{S0:eC}{n:Nat}{G:Gs}{U U':Nat→Prop}{f:Nat→PV}{rows:Rows}{a:Act}{w:World}(hU:∀v,U v→U' v)(h:pO w0 S0 n G U f rows a w):pO w0 S0 n G U' f rows a w:=by
 obtain⟨⟨c,h1,h2,h3,h4⟩,h5,h6⟩:=h
 exact⟨⟨c,h1,h2,fun v hv=>hU v (h3 v hv),h4⟩,h5,h6⟩
theorem o0{n:Nat}{G:Gs}{U:Nat→Prop}{f:Nat→PV}{a:Act}{c':Cx}{v:PV}{v':Value}{d:Option Tmp}(hf:∀s,aM c (f s) (a.tmps.getD s undef))(hG:∀p∈G,aM c p.1 p.2)(hn:a.tmps.size=n)(fR:a.defers = [])
  (hA:uE c c') (hI:Inv w0 S0 c') (hv:aM c' v v') (hd:∀t,d=some t→t<n) {f':Nat→PV} {rows:Rows} (h1:f'=put f d v) (h2:rows=c'.rows) (h3:∀v,c'.used v→U v):pO w0 S0 n G U f' rows (a.put d v') c'.w:=by
 refine⟨⟨c',rfl,h2.symm,h3,hI,fun s=>?_,fun p hp=>aM.uF hA _ _ (hG p hp)⟩,?_,?_⟩
 ·rw [h1]
  cases d with
  | none=>exact aM.uF hA _ _ (hf s)
  | some t =>
   simp only [put,Act.put]
   by_cases hs:s=t
   ·subst hs
    have:s<a.tmps.size:=by rw [hn];exact hd s rfl
    simpa [this]using hv
   ·rw [if_neg hs]
    have:=aM.uF hA _ _ (hf s)
    simpa [Array.getElem?_setIfInBounds_ne (Ne.symm hs)]using this
 ·cases d<;>simp [Act.put,hn]
 ·cases d<;>simp [Act.put,fR]
theorem n4{n:Nat}{G:Gs}{f:Nat→PV}{a:Act}{c':Cx}{v:PV}{v':Value}{d:Option Tmp}(hf:∀s,aM c (f s) (a.tmps.getD s undef))(hG:∀p∈G,aM c p.1 p.2)(hn:a.tmps.size=n)(fR:a.defers = [])
  (hA:uE c c') (hI:Inv w0 S0 c') (hv:aM c' v v') (hd:∀t,d=some t→t<n) {σ:PS} (h1:σ.f=put f d v) (h2:σ.rows=c'.rows) (h3:∀v,c'.used v→v<σ.clock):Rel w0 S0 n G σ (a.put d v') c'.w:=
 o0 hf hG hn fR hA hI hv hd h1 h2 h3
theorem aa6{n:Nat}{G:Gs}{f:Nat→PV}{a:Act}{c':Cx}{v:PV}{v':Value}{d:Option Tmp}(hf:∀s,aM c' (f s) (a.tmps.getD s undef))(hG:∀p∈G,aM c' p.1 p.2)(hn:a.tmps.size=n)(fR:a.defers = [])
  (hI:Inv w0 S0 c') (hv:aM c' v v') (hd:∀t,d=some t→t<n) {σ:PS} (h1:σ.f=put f d v) (h2:σ.rows=c'.rows) (h3:∀v,c'.used v→v<σ.clock):Rel w0 S0 n G σ (a.put d v') c'.w:=
 n4 hf hG hn fR (uE.refl c') hI hv hd h1 h2 h3
theorem LO{o:Oper}{a:Act}{f:Nat→PV}(hI:Inv w0 S0 c)(hf:∀s,aM c (f s) (a.tmps.getD s undef)){v:PV}{u:Option (Nat × Row)}(h:ys E o.op (aV f) c.rows v u)
  {K:Act→World→Prop} {Q:Exit→Act→World→Prop}
  (hK:∀v' c',c'.rows=gO c.rows u→c'.used=c.used→uE c c'→Inv w0 S0 c'→aM c' v v'→K (a.put o.dst v') c'.w):o.wp E.P a c.w K Q:=by
 have hρ:=mM hf
 have plain:yv E o.op (aV f) c.rows v∧u=none→o.wp E.P a c.w K Q:=by
  rintro⟨hv,rfl⟩
  obtain⟨v',h1,h2⟩:=akR hI hf hv
  unfold Oper.wp
  rw [h1]
  exact hK v' c rfl rfl (uE.refl c) hI h2
 obtain⟨dst,op,type,pos,after,guard⟩:=o
 simp only at h hK plain
 unfold ys at h
 split at h
 ·rename_i t p x
  obtain⟨rfl,w',h1,h2,h3⟩:=QV hI (hρ p) (hρ x) h
  unfold Oper.wp
  have:(execOp a.eval { dst:=dst,op:=.store t p x,type:=type,pos:=pos,after:=after,guard:=guard }).run E.P c.w = .ok .skip w':=by simp [execOp,h1]
  rw [this]
  exact hK undef { c with w:=w',rows:=gO c.rows u } rfl rfl h3 h2 (by simp [aM,aU])
 ·rename_i t len parts
  obtain⟨h,rfl⟩:=h
  unfold QT at h
  split at h
  ·rename_i e n bb z hE
   obtain⟨els,h1,h2,h3,h4,h5,h6,rfl⟩:=h
   obtain⟨v',c',g1,g2,g3,g4,g5,g6⟩:=BV hI hE hρ h1 h2 h3 h4 h5 h6
   unfold Oper.wp
   have:(execOp a.eval { dst:=dst,op:=.buildSlice t len parts,type:=type,pos:=pos,after:=after,guard:=guard }).run E.P c.w = .ok (.value v') c'.w:=by
    simp only [execOp,Sem.run_bind,g1,Result.andThen_ok,Sem.run_pure]
   rw [this]
   exact hK v' c' g2 g3 g5 g4 g6
  ·exact h.elim
 ·rename_i fo args ts
  obtain⟨rfl,hc,uI⟩:=h
  have gK:bK (aM c) (args.toList.map fun x=>aV f x) (args.map a.eval).toList:=by
   refine bK.dU (by simp) fun k p u hp hu=>?_
   simp at hp hu
   obtain⟨x,hx,rfl⟩:=hp
   obtain⟨y,hy,rfl⟩:=hu
   rw [hx]at hy;cases hy
   exact hρ x
  have hc':y6 E (aV f fo) ((args.toList.map fun x=>aV f x).map (pz c.rows)) v:=by rw [List.map_map];exact hc
  obtain⟨g,cs,h1,h2,h3⟩:=y8 hI (ids:=[]) (by simp) (hρ fo) gK (by
   intro p hp id iR
   simp at hp
   obtain⟨x,hx,rfl⟩:=hp
   have:id∈args.toList.flatMap fun x=>eD (aV f x):=by simp only [List.mem_flatMap];exact⟨x,by simpa using hx,iR⟩
   rw [uI]at this;exact this) hc' (K:=fun v' w'=>K (a.put dst v') w') (fun v' c' q1 q2 q3 q4 q5=>hK v' c' (by rw [q1];funext j;simp [FY,gO]) q2 q3 q4 q5)
  unfold Oper.wp
  have kA:(execOp a.eval { dst:=dst,op:=.call { callee:=.value fo,args:=args,argTypes:=ts },type:=type,pos:=pos,after:=after,guard:=guard }).run E.P c.w = .ok (.enter g (args.map a.eval++cs)) c.w:=by
   simp only [execOp,resolve,h1,Deferred.ofValue,Sem.run_bind,Sem.run_pure,Result.andThen_ok,invoke]
   simp only [Array.toArray_toList]at h2
   simpa only [Array.empty_append]using h2
  rw [kA]
  simp only [Array.toArray_toList]at h3
  exact h3.mono fun e w' ⟨v',he,hk⟩=>by subst he;exact hk
 ·exact plain h
end
def room:Nat:=140737488355328
def vP(rows:Rows)(y:PV)(l:List (List PV)):Prop:=
 match y with
 | .nil=>l = []
 | .sl k=>l=k
 | .j8 k=>l=k
 | .own id ver off len=>∃r,rows id=some r∧r.ver=ver∧l=(r.els.drop off).take len
 | _=>False
def eM(rows:Rows)(ids:List Nat):Prop:=∀id∈ids,∀r,rows id=some r → ∀e∈r.els,∀p∈e,cR p=true
def ID(K:PS→Prop)(σ:PS)(d:Option Tmp)(v:PV)(id:Nat)(e:TypeId)(n:Nat)(els:List (List PV)):Prop:=
 K ⟨put σ.f d v,eE σ.rows id (some ⟨σ.clock,e,n,els⟩),σ.clock+1⟩
def IE(E:Env)(o:Oper)(t:TypeId)(x y:PV)(K:PS→Prop)(σ:PS):Prop:=
 match E.ty t with
 | .slice e n b _ =>
  ∃l,vP σ.rows y l∧(∀e∈l,e.length=n) ∧
  match x with
  | .nil=>l.length≤room∧l.length*b≤room∧ID K σ o.dst (.own (o.dst.getD 0) σ.clock 0 l.length) (o.dst.getD 0) e n l
  | .own id ver off len=>∃r,σ.rows id=some r∧r.ver=ver∧off=0∧len=r.els.length∧r.e=e∧r.size=n∧len+l.length≤room∧(len+l.length)*b≤room ∧
    ID K σ o.dst (.own id σ.clock 0 (len+l.length)) id e n (r.els++l)
  | .j8 l0=>(∀e∈l0,e.length=n)∧(∀e∈l,∀p∈e,cR p=true)∧l0.length+l.length≤room∧(l0.length+l.length)*b≤room∧K (σ.put o.dst (.sl (l0++l)))
  | _=>False
 | _=>False
def F2(K:Nat→(Nat→PV)→Rows→Prop)(ver:Nat)(f:Nat→PV)(rows:Rows)(d:Option Tmp)(v:PV)(id:Nat)(e:TypeId)(n:Nat)(els:List (List PV)):Prop:=
 K 1 (put f d v) (eE rows id (some ⟨ver,e,n,els⟩))
def o6(E:Env)(ver:Nat)(o:Oper)(t:TypeId)(x y:PV)(K:Nat→(Nat→PV)→Rows→Prop)(f:Nat→PV)(rows:Rows):Prop:=
 match E.ty t with
 | .slice e n b _ =>
  ∃l,vP rows y l∧(∀e∈l,e.length=n) ∧
  match x with
  | .nil=>l.length≤room∧l.length*b≤room∧F2 K ver f rows o.dst (.own (o.dst.getD 0) ver 0 l.length) (o.dst.getD 0) e n l
  | .own id aqv off len=>∃r,rows id=some r∧r.ver=aqv∧off=0∧len=r.els.length∧r.e=e∧r.size=n∧len+l.length≤room∧(len+l.length)*b≤room ∧
    F2 K ver f rows o.dst (.own id ver 0 (len+l.length)) id e n (r.els++l)
  | .j8 l0=>(∀e∈l0,e.length=n)∧(∀e∈l,∀p∈e,cR p=true)∧l0.length+l.length≤room∧(l0.length+l.length)*b≤room∧K 0 (put f o.dst (.sl (l0++l))) rows
  | _=>False
 | _=>False
def slT:TI→Bool
 | .slice .. => true
 | _=>false
def eZ(E:Env)(o:Oper)(K:PS→Prop)(σ:PS):Prop:=
 match o.op with
 | .alloc t=>(E.ty t).known=true∧ID K σ o.dst (.ptr (o.dst.getD 0) σ.clock 0 0) (o.dst.getD 0) t (E.ty t).size [(E.ty t).zero]
 | .box t x=>(E.ty t).known=true ∧ ∃l,cE (aV σ.f x)=some l∧(∀q∈l,i0 σ.rows q)∧l.length=(E.ty t).size∧ID K σ o.dst (.ptr (o.dst.getD 0) σ.clock 0 0) (o.dst.getD 0) t (E.ty t).size [l]
 | .makeSlice t l c =>
  match E.ty t,aV σ.f l,aV σ.f c with
  | .slice e n b z, .int _ x, .int _ y=>0≤x∧x≤y∧y.toNat≤room∧y.toNat*b≤room∧ID K σ o.dst (.own (o.dst.getD 0) σ.clock 0 x.toNat) (o.dst.getD 0) e n (List.replicate x.toNat z)
  | _,_,_=>False
 | .call { callee:=.builtin .append,args:=⟨[x,y]⟩,argTypes:=⟨[t,t2]⟩ }=>(t2=t∨slT (E.ty t2)=true)∧IE E o t (aV σ.f x) (aV σ.f y) K σ
 | .call { callee:=.builtin .copy,args:=⟨[x,y]⟩,argTypes:=⟨[t,_]⟩ } =>
  match E.ty t,aV σ.f x with
  | .slice _ n _ _, .own id ver off len=>n=1 ∧ ∃r,σ.rows id=some r∧r.ver=ver∧r.size=n∧off+len≤r.els.length∧0<len ∧ ∃l,vP σ.rows (aV σ.f y) l∧(∀e∈l,e.length=n) ∧
    K ⟨put σ.f o.dst (.int .i64 (min l.length len)),eE σ.rows id (some { r with els:=r.els.take off++l.take len++r.els.drop (off+min l.length len) }),σ.clock⟩
  | _,_=>False
 | .call { callee:=.value f,args:=args,argTypes:=_ }=>if akT E (aV σ.f f)=true then QU E (aV σ.f f) (args.toList.map (aV σ.f)) σ.rows σ.clock (fun v rows clk=>K ⟨put σ.f o.dst v,rows,clk⟩)
   else ∃v,y6 E (aV σ.f f) (args.toList.map fun x=>pz σ.rows (aV σ.f x)) v∧eM σ.rows (args.toList.flatMap fun x=>eD (aV σ.f x)) ∧
   K ⟨put σ.f o.dst v,FY σ.rows (args.toList.flatMap fun x=>eD (aV σ.f x)),σ.clock⟩
 | .makeFunc (.func f) ⟨[]⟩ cI=>(cI.toList.map fun x=>pz σ.rows (aV σ.f x)).all gI=true∧eM σ.rows (cI.toList.flatMap fun x=>eD (aV σ.f x)) ∧
   K ⟨put σ.f o.dst (.fn f (cI.toList.map fun x=>pz σ.rows (aV σ.f x))),FY σ.rows (cI.toList.flatMap fun x=>eD (aV σ.f x)),σ.clock⟩
 | _=>∃v u,ys E o.op (aV σ.f) σ.rows v u∧K ⟨put σ.f o.dst v,gO σ.rows u,σ.clock⟩
def oQ(E:Env)(ver:Nat)(o:Oper)(K:Nat→(Nat→PV)→Rows→Prop)(f:Nat→PV)(rows:Rows):Prop:=
 match o.op with
 | .alloc t=>(E.ty t).known=true∧F2 K ver f rows o.dst (.ptr (o.dst.getD 0) ver 0 0) (o.dst.getD 0) t (E.ty t).size [(E.ty t).zero]
 | .box t x=>(E.ty t).known=true ∧ ∃l,cE (aV f x)=some l∧(∀q∈l,i0 rows q)∧l.length=(E.ty t).size∧F2 K ver f rows o.dst (.ptr (o.dst.getD 0) ver 0 0) (o.dst.getD 0) t (E.ty t).size [l]
 | .makeSlice t l c =>
  match E.ty t,aV f l,aV f c with
  | .slice e n b z, .int _ x, .int _ y=>0≤x∧x≤y∧y.toNat≤room∧y.toNat*b≤room∧F2 K ver f rows o.dst (.own (o.dst.getD 0) ver 0 x.toNat) (o.dst.getD 0) e n (List.replicate x.toNat z)
  | _,_,_=>False
 | .call { callee:=.builtin .append,args:=⟨[x,y]⟩,argTypes:=⟨[t,t2]⟩ }=>(t2=t∨slT (E.ty t2)=true)∧o6 E ver o t (aV f x) (aV f y) K f rows
 | _=>False
theorem vQ{n:Nat}(h:n≤room):n≤maxLen:=by unfold room at h;simp only [maxLen];omega
theorem kX{α:Type}{z:List α}:∀ {x k:Nat} {a:α},(List.replicate x z).flatten[k]? = some a→z[k%z.length]? = some a
 | 0,k,a,h=>by simp at h
 | x+1,k,a,h=>by
  rw [List.replicate_succ,List.flatten_cons]at h
  rcases Nat.lt_or_ge k z.length with hk | hk
  ·rw [List.getElem?_append_left hk]at h
   rw [Nat.mod_eq_of_lt hk];exact h
  ·rw [List.getElem?_append_right hk]at h
   have:=kX h
   rw [←Nat.mod_eq_sub_mod hk]at this;exact this
section
variable {E:Env} {c:Cx} {w0:World} {S0:eC}
theorem uJ(hI:Inv w0 S0 c){y:PV}{vy:Value}{l:List (List PV)}{n:Nat}(hy:aM c y vy)(h:vP c.rows y l)(hn:∀e∈l,e.length=n) :
  ∃A cap news,vy = .slice A l.length cap∧news.length=l.length*n∧bK (aU c) l.flatten news∧(∀u∈news,u.oneCell'=true)∧(A=none→l = []) ∧
   ∀a,A=some a → ∀j u,news[j]? = some u→c.w.cell? (a.add j)=some u:=by
 have fl:∀ {l:List (List PV)},(∀e∈l,e.length=n)→l.flatten.length=l.length*n:=by
  intro l
  induction l with
  | nil=>intro _;simp
  | cons e l ih=>intro h;rw [List.flatten_cons,List.length_append,ih (fun e he=>h e (by simp [he])),h e (by simp),List.length_cons,Nat.add_mul];omega
 have at_:∀(g o cap:Nat),vy = .slice (some ⟨g,o,none⟩) l.length cap →
   (∀k e,l[k]? = some e → ∀j p,e[j]? = some p → ∃v,c.w.cell? ⟨g,o+(k*n+j),none⟩=some v∧v.oneCell'=true∧aU c p v) → ∃A cap news,vy = .slice A l.length cap∧news.length=l.length*n∧bK (aU c) l.flatten news∧(∀u∈news,u.oneCell'=true)∧(A=none→l = []) ∧
   ∀a,A=some a → ∀j u,news[j]? = some u→c.w.cell? (a.add j)=some u:=by
  intro g o cap hv hc
  have cellAt:∀k,k<l.length*n → ∃p v,l.flatten[k]? = some p∧c.w.cell? ⟨g,o+k,none⟩=some v∧v.oneCell'=true∧aU c p v:=by
   intro k hk
   have hn0:0<n:=by
    rcases Nat.eq_zero_or_pos n with h | h
    ·subst h;simp at hk
    ·exact h
   have hq:k/n<l.length:=(Nat.div_lt_iff_lt_mul hn0).2 hk
   have he:=hn l[k/n] (List.getElem_mem hq)
   have hj:k%n<l[k/n].length:=by rw [he];exact Nat.mod_lt _ hn0
   have UW:k/n*n+k%n=k:=by rw [Nat.mul_comm];exact Nat.div_add_mod k n
   obtain⟨v,h1,h2,h3⟩:=hc (k/n) _ (List.getElem?_eq_getElem hq) (k%n) _ (List.getElem?_eq_getElem hj)
   rw [UW]at h1
   have:=jS hn (List.getElem?_eq_getElem hq) (List.getElem?_eq_getElem hj)
   rw [UW]at this
   exact⟨_,v,this,h1,h2,h3⟩
  have hnl:((List.range (l.length*n)).map fun k=>(c.w.cell? ⟨g,o+k,none⟩).getD undef).length=l.length*n:=by simp
  have aaY:∀k u,((List.range (l.length*n)).map fun k=>(c.w.cell? ⟨g,o+k,none⟩).getD undef)[k]? = some u→k<l.length*n ∧ ∃p,l.flatten[k]? = some p∧c.w.cell? ⟨g,o+k,none⟩=some u∧u.oneCell'=true∧aU c p u:=by
   intro k u hu
   have hk:k<l.length*n:=by rw [←hnl];exact(List.getElem?_eq_some_iff.1 hu).1
   obtain⟨p,v,h1,h2,h3,h4⟩:=cellAt k hk
   rw [List.getElem?_map,List.getElem?_range hk]at hu
   simp only [Option.map_some,h2,Option.getD_some,Option.some.injEq]at hu
   subst hu
   exact⟨hk,p,h1,h2,h3,h4⟩
  refine⟨some ⟨g,o,none⟩,cap,_,hv,hnl,bK.dU (by rw [hnl,fl hn]) fun k p u hp hu=>?_,fun u hu=>?_,by simp,fun a ha j u hu=>?_⟩
  ·obtain⟨_,p',h1,_,_,h4⟩:=aaY k u hu
   rw [hp]at h1;cases h1;exact h4
  ·obtain⟨k,hk⟩:=List.getElem?_of_mem hu
   exact(aaY k u hk).2.choose_spec.2.2.1
  ·cases ha
   rw [iZ]
   exact(aaY j u hu).2.choose_spec.2.1
 have empty:∀A cap,vy = .slice A l.length cap→l = [] → ∃A cap news,vy = .slice A l.length cap∧news.length=l.length*n∧bK (aU c) l.flatten news∧(∀u∈news,u.oneCell'=true)∧(A=none→l = []) ∧
   ∀a,A=some a → ∀j u,news[j]? = some u→c.w.cell? (a.add j)=some u:=by
  rintro A cap hv rfl
  exact⟨A,cap,[],hv,by simp,trivial,by simp,by simp,by simp⟩
 unfold vP at h
 split at h
 ·subst h
  simp only [aM,aU,dG]at hy
  exact empty none 0 (by rw [hy];rfl) rfl
 ·subst h
  simp only [aM,aU,dG]at hy
  obtain⟨A,cap,rfl,_,_,hh⟩:=hy
  rcases hh with hh | ⟨g,o,rfl,hr⟩
  ·exact empty A cap rfl hh
  ·refine at_ g o cap rfl fun k e hk j p hj=>?_
   obtain⟨v,h1,_,h3,h4⟩:=iL (jH hr hn hk) hj
   exact⟨v,by rw [←Nat.add_assoc];exact h1,h3,aU.j9 h4⟩
 ·subst h
  simp only [aM,aU,dG]at hy
  obtain⟨A,rfl,_,hh⟩:=hy
  rcases hh with hh | ⟨g,o,rfl,hr⟩
  ·exact empty A _ rfl hh
  ·refine at_ g o _ rfl fun k e hk j p hj=>?_
   obtain⟨v,h1,_,h3,h4⟩:=iL (jH hr hn hk) hj
   exact⟨v,by rw [←Nat.add_assoc];exact h1,h3,aU.j9 h4⟩
 ·rename_i id ver off len
  obtain⟨r,hr,kV,rfl⟩:=h
  simp only [aM,aU]at hy
  obtain⟨hle,hy⟩:=hy.2 r hr kV
  have EU:((r.els.drop off).take len).length=len:=by simp;omega
  rw [←EU]at hy
  have oN:∀k e,((r.els.drop off).take len)[k]? = some e→r.els[off+k]? = some e∧r.size=n:=by
   intro k e hk
   have vH:=hk
   rw [List.getElem?_take]at hk
   split at hk
   ·rw [List.getElem?_drop]at hk
    refine⟨hk,?_⟩
    rw [←hn e (List.mem_of_getElem? vH)]
    exact((hI.row id r hr).len e (List.mem_of_getElem? hk)).symm
   ·cases hk
  rcases hy with ⟨h0,A,m,cap,hβ,rfl⟩ | ⟨mD,g,m,cap,A,hβ,hoc,rfl,ha⟩
  ·subst h0
   rcases Nat.eq_zero_or_pos len with h0 | h0
   ·exact empty A cap rfl (List.eq_nil_of_length_eq_zero (by rw [EU];exact h0))
   ·obtain⟨g,lA,rJ⟩:=rI hI hr (by omega)
    rw [hβ]at rJ
    simp only [Value.slice.injEq]at rJ
    obtain⟨rfl,rfl,rfl⟩:=rJ
    refine at_ g 0 _ rfl fun k e hk j p hj=>?_
    obtain⟨hk2,hs⟩:=oN k e hk
    have:=vM hI hr hβ hk2 hj
    rw [hs]at this
    simpa using this
  ·rcases ha with ha | rfl
   ·exact empty _ _ rfl (List.eq_nil_of_length_eq_zero ha)
   ·refine at_ g _ _ rfl fun k e hk j p hj=>?_
    obtain⟨hk2,hs⟩:=oN k e hk
    have:=vM hI hr hβ hk2 hj
    rw [hs]at this ⊢
    rw [show off*n+(k*n+j)=(off+k)*n+j by rw [Nat.add_mul];omega];exact this
 ·exact h.elim
end
section
variable {E:Env} {c:Cx} {w0:World} {S0:eC}
theorem xU(hI:Inv w0 S0 c){ver:Nat}(UX:¬c.used ver)(id:Nat)(e:TypeId)(size n cap:Nat)(els:List (List PV))(cells:Array Value)(hn:els.length=n)(UR:n≤cap)(hcm:cap≤maxLen)(oN:cells.size=cap*size)
  (gN:bK (aU c) els.flatten (cells.toList.take (n*size))) (i5:∀u∈cells.toList,u.oneCell'=true) (hlen:∀e∈els,e.length=size) (mD:0<size) :
  Inv w0 S0 { c with w:=c.w.alloc (.cells cells e),β:=eE c.β id (.slice (some ⟨c.w.heap.size,0,none⟩) n cap),rows:=eE c.rows id (some ⟨ver,e,size,els⟩),used:=fun v=>v=ver∨c.used v } ∧
  uE c { c with w:=c.w.alloc (.cells cells e),β:=eE c.β id (.slice (some ⟨c.w.heap.size,0,none⟩) n cap),rows:=eE c.rows id (some ⟨ver,e,size,els⟩),used:=fun v=>v=ver∨c.used v }:=by
 refine hI.set (ob:=none) (r':=⟨ver,e,size,els⟩) (xs:=cells.toList.take (n*size)) (World.grownBy_alloc c.w _ none) (by simp) ?_ gN (fun x hx=>i5 x (List.mem_of_mem_take hx)) hlen mD ?_ UX
 ·have hle:n*size≤cap*size:=Nat.mul_le_mul_right _ UR
  refine⟨by simp [hn];omega, .inr ⟨c.w.heap.size,cap,cells,by simp [hn],hI.below.size,heap_alloc_new c.w _,by simp [hn];exact UR,hcm,oN,by simp [hn]⟩⟩
 ·intro g hg
  simp [Value.ownBlock]at hg
  exact .inr (by omega)
theorem aa9{t:TypeId}{n:Nat}{z:List PV}(h:mE E.P t n z):∃i v,E.P.info? t=some i∧i.zero=some v∧i.size=n∧bK (aU c) z v.cells.toList∧v.cells.size=n ∧ ∀u∈v.cells.toList,u.oneCell'=true:=by
 obtain⟨i,v,h1,h2,h3,h4,h5⟩:=h.ok
 have hl:v.cells.size=n:=by rw [←h.len,←h4];simp
 refine⟨i,v,h1,h2,h3,?_,hl,fun u hu=>(Array.all_eq_true_iff_forall_mem.1 h5) u (by simpa using hu)⟩
 rw [←h4]
 refine bK.dU (by simp) fun k a b ha hb=>?_
 simp at ha
 obtain⟨u,hu,rfl⟩:=ha
 have:v.cells.toList[k]? = some u:=by simpa using hu
 rw [this]at hb;cases hb
 exact k9 _
theorem lZ{c':Cx}{id ver n:Nat}{r:Row}(hr:c'.rows id=some r)(hn:r.els.length=n)(hc:c'.used ver){A:Option Addr}{cap:Nat}(hβ:c'.β id = .slice A n cap):aM c' (.own id ver 0 n) (.slice A n cap):=by
 simp only [aM,aU]
 refine⟨hc,fun r' k8 _=>?_⟩
 rw [hr]at k8;cases k8
 exact⟨by omega, .inl ⟨by first | rfl | trivial,A,n,cap,hβ,rfl⟩⟩
theorem aba{c':Cx}{id ver:Nat}(hc:c'.used ver){g n cap:Nat}(hβ:c'.β id = .slice (some ⟨g,0,none⟩) n cap):aM c' (.ptr id ver 0 0) (.pointer (some ⟨g,0,none⟩)):=by
 simp only [aM,aU]
 exact⟨hc,fun r' _ _=>⟨g,n,cap,hβ,by simp⟩⟩
theorem tV{z:Array Value}{N k:Nat}(hk:k<N)(hz:0<z.size):(madeCells z N).toList[k]? = z.toList[k%z.size]? := by
 have hm:k%z.size<z.size:=Nat.mod_lt _ hz
 simp [madeCells,hk,hm]
variable {n:Nat} {G:Gs}
theorem rL{U:Nat→Prop}{ver:Nat}{f:Nat→PV}{rows:Rows}{a:Act}(hr:c.rows=rows)(gC:∀v,c.used v→U v)(hf:∀s,aM c (f s) (a.tmps.getD s undef))(hG:∀p∈G,aM c p.1 p.2)(hn:a.tmps.size=n)(fR:a.defers = [])
  {K:(Nat→PV)→Rows→Prop} {d:Option Tmp} {v:PV} {id:Nat} {e:TypeId} {sz:Nat} {els:List (List PV)} (h:K (put f d v) (eE rows id (some ⟨ver,e,sz,els⟩))) {v':Value} {w':World} {b':Value}
  (hI:Inv w0 S0 { c with w:=w',β:=eE c.β id b',rows:=eE c.rows id (some ⟨ver,e,sz,els⟩),used:=fun v=>v=ver∨c.used v })
  (hA:uE c { c with w:=w',β:=eE c.β id b',rows:=eE c.rows id (some ⟨ver,e,sz,els⟩),used:=fun v=>v=ver∨c.used v })
  (hv:aM { c with w:=w',β:=eE c.β id b',rows:=eE c.rows id (some ⟨ver,e,sz,els⟩),used:=fun v=>v=ver∨c.used v } v v') (hd:∀t,d=some t→t<n) :
  ∃f' rows',K f' rows'∧pO w0 S0 n G (fun v=>v=ver∨U v) f' rows' (a.put d v') w':=by
 refine⟨_,_,h,?_⟩
 have:=o0 (U:=fun v=>v=ver∨U v) (f':=put f d v) (rows:=eE rows id (some ⟨ver,e,sz,els⟩)) hf hG hn fR hA hI hv hd rfl (by simp [hr]) (fun v hv=>hv.imp (fun h=>h) (gC v))
 exact this
theorem QX(hI:Inv w0 S0 c){w':World}(hg:c.w.grownBy w' none){e:TypeId}{sz:Nat}{v':Value}{els:List (List PV)}{xs:List Value}(iV:w'.ownsRow c.w.heap.size e sz v' els.length xs)
  (gN:bK (dG c.S c.w) els.flatten xs) (i5:∀u∈xs,u.oneCell'=true) (hlen:∀e∈els,e.length=sz) :
  ∃c',c'.w=w'∧c'.rows=c.rows∧c'.used=c.used∧Inv w0 S0 c'∧uE c c'∧aM c' (.sl els) v':=by
 have hb:Below c.w.heap.size c.w w':=⟨hg.os,hg.tape,hg.output,hg.size,fun k hk=>hg.block k hk (by simp)⟩
 obtain⟨xK,hA⟩:=hI.grow (S':=fun b o=>c.S b o∨(c.w.heap.size≤b∧b<w'.heap.size)) hb (fun _ _ h => .inl h) (fun _ _ h=>h)
 refine⟨{ c with S:=fun b o=>c.S b o∨(c.w.heap.size≤b∧b<w'.heap.size),w:=w' },rfl,rfl,rfl,xK,hA,?_⟩
 simp only [aM,aU,dG]
 rcases iV.2 with ⟨rfl,h0⟩ | ⟨g,cap,cur,rfl,XR,hh,UR,hcm,K9,LM⟩
 ·exact⟨none,0,by rw [h0],by omega,by simp [maxLen], .inl (List.eq_nil_of_length_eq_zero h0)⟩
 ·refine⟨_,cap,rfl,UR,hcm, .inr ⟨g,0,rfl,oZ hlen fun k el hk=>jR fun j p hj=>?_⟩⟩
  have hf:=jS hlen hk hj
  obtain⟨u,hu,hr⟩:=gN.get hf
  have dA:g<w'.heap.size:=(Array.getElem?_eq_some_iff.1 hh).1
  have FX:=iV.cells (g:=g) rfl (k*sz+j) u hu
  rw [iZ]at FX
  refine⟨u,?_, .inr ⟨XR,dA⟩,i5 u (List.mem_of_getElem? hu),dG.mono hA.S hA.w _ _ hr⟩
  rw [show 0+k*sz+j=0+(k*sz+j)by omega];exact FX
theorem XV{P:Program}{w:World}{t t2 ty:TypeId}{e e2:TypeId}{x y:Value}(hu:P.underlying t=some (.slice e))(hu2:P.underlying t2=some (.slice e2)) :
  (Builtin.append_ #[t,t2] ty #[x,y]).run P w=(Builtin.append_ #[t,t] ty #[x,y]).run P w:=by
 unfold Builtin.append_
 simp only [List.getElem?_toArray,List.getElem?_cons_zero,List.getElem?_cons_succ,Sem.run_bind,run_underlying hu,Result.andThen_ok]
 cases x<;>simp [run_underlying hu,run_underlying hu2]
theorem afI{E:Env}{t2:TypeId}(h:slT (E.ty t2)=true):∃e,E.P.underlying t2=some (.slice e):=by
 cases hE:E.ty t2 with
 | slice e n b z=>exact⟨e,(fQ hE).1⟩
 | _=>rw [hE]at h;cases h
theorem BW{U:Nat→Prop}{ver:Nat}(UX:¬U ver){o:Oper}{a:Act}{f:Nat→PV}{rows:Rows}{x y:Operand}{t t2:TypeId}(hop:o.op = .call { callee:=.builtin .append,args:=⟨[x,y]⟩,argTypes:=⟨[t,t2]⟩ })(ht2:t2=t∨slT (E.ty t2)=true)
  (hI:Inv w0 S0 c) (hr:c.rows=rows) (gC:∀v,c.used v→U v) (hf:∀s,aM c (f s) (a.tmps.getD s undef)) (hG:∀p∈G,aM c p.1 p.2) (hn:a.tmps.size=n) (fR:a.defers = [])
  (hd:∀t,o.dst=some t→t<n) {K:Nat→(Nat→PV)→Rows→Prop} (h:o6 E ver o t (aV f x) (aV f y) K f rows) {K':Act→World→Prop} {Q:Exit→Act→World→Prop} (hK:∀i f' rows' a' w',K i f' rows'→pO w0 S0 n G (fun v=>(i=1∧v=ver)∨U v) f' rows' a' w'→K' a' w'):o.wp E.P a c.w K' Q:=by
 have hρ:=mM hf
 have run:∀ {v':Value} {w':World},(Builtin.append_ #[t,t] o.type #[a.eval x,a.eval y]).run E.P c.w = .ok v' w'→K' (a.put o.dst v') w'→o.wp E.P a c.w K' Q:=by
  intro v' w' h1 h2
  unfold Oper.wp
  have h1':(Builtin.append_ #[t,t2] o.type #[a.eval x,a.eval y]).run E.P c.w = .ok v' w':=by
   rcases ht2 with rfl | ht2
   ·exact h1
   ·obtain⟨e2,hu2⟩:=afI ht2
    have hsl:∃e,E.P.underlying t=some (.slice e):=by
     unfold o6 at h
     split at h
     ·rename_i e n b z hE;exact⟨e,(fQ hE).1⟩
     ·exact h.elim
    obtain⟨e,hu⟩:=hsl
    rw [XV hu hu2];exact h1
  have:(execOp a.eval o).run E.P c.w = .ok (.value v') w':=by
   simp only [execOp,hop,resolve,invoke,builtin,Sem.run_bind,Sem.run_pure,Result.andThen_ok,List.map_toArray,List.map_cons,List.map_nil,h1']
  rw [this]
  exact h2
 unfold o6 at h
 split at h
 ·rename_i e sz b z hE
  obtain⟨l,hl,hlen,h⟩:=h
  obtain⟨hu,mD,IC,i,zv,hi,hz,hs,hby,QR,_⟩:=fQ hE
  have EJ:zv.cells.size=sz:=by rw [←IC,←QR];simp
  rw [←hr]at hl
  obtain⟨A,cap,news,hvy,g1,g2,g3,g4,g5⟩:=uJ hI (hρ y) hl hlen
  have main:∀(vx:Value) (k:Nat) (xs:List Value),c.w.ownsRow w0.heap.size e sz vx k xs→a.eval x=vx→k+l.length≤room→(k+l.length)*b≤room →
    ∃v' w',(Builtin.append_ #[t,t] o.type #[a.eval x,a.eval y]).run E.P c.w = .ok v' w'∧w'.ownsRow w0.heap.size e sz v' (k+l.length) (xs++news)∧c.w.grownBy w' vx.ownBlock∧(v'.ownBlock=vx.ownBlock∨v'.ownBlock=some c.w.heap.size):=by
   intro vx k xs iV hvx IF xV
   rw [hvx,hvy]
   cases A with
   | some ad =>
    obtain⟨v',w',q1,q2,q3,_,q5⟩:=run_append_own_at (P:=E.P) c.w w0.heap.size t o.type e i zv sz b hu hi hz hs hby EJ mD vx k xs iV ad l.length cap news g1 (g5 ad rfl) g3 (vQ IF) (by simpa [room]using xV) hI.below.size
    exact⟨v',w',q1,q2,q3,q5⟩
   | none =>
    have y7:=g4 rfl
    subst y7
    have hn0:news = []:=List.eq_nil_of_length_eq_zero (by simpa using g1)
    subst hn0
    refine⟨vx,c.w,?_,by simpa using iV,⟨rfl,rfl,rfl,Nat.le_refl _,fun _ _ _=>rfl⟩, .inl rfl⟩
    rcases iV.2 with ⟨rfl,rfl⟩ | ⟨g,lA,cur,rfl,_,_,UR,_⟩
    ·simp [Builtin.append_,run_underlying hu,Go.sizeOf,typeInfo,hi,Builtin.lenOf,Builtin.firstCells]
    ·simp [Builtin.append_,run_underlying hu,Go.sizeOf,typeInfo,hi,Builtin.lenOf,Builtin.firstCells,UR,storeCells]
  split at h
  ·-- aqy nil
   rename_i heq
   obtain⟨IF,xV,h⟩:=h
   have hx:=hρ x
   rw [heq]at hx
   simp only [aM,aU,dG]at hx
   obtain⟨v',w',q1,q2,q3,q4⟩:=main (.slice none 0 0) 0 [] (World.ownsRow_nil _ _ _ _) hx (by simpa using IF) (by simpa using xV)
   simp only [Nat.zero_add,List.nil_append]at q2
   obtain⟨xK,hA⟩:=hI.set (ob:=none) (id:=o.dst.getD 0) (r':=⟨ver,e,sz,l⟩) (xs:=news) q3 (by simp) q2 g2 g3 hlen mD (by
    intro g hg
    rcases q4 with q4 | q4
    ·rw [q4]at hg;simp [Value.ownBlock]at hg
    ·rw [q4]at hg;cases hg;exact .inr (Nat.le_refl _)) (fun hu=>UX (gC _ hu))
   have hv:aM { c with w:=w',β:=eE c.β (o.dst.getD 0) v',rows:=eE c.rows (o.dst.getD 0) (some ⟨ver,e,sz,l⟩),used:=fun v=>v=ver∨c.used v } (.own (o.dst.getD 0) ver 0 l.length) v':=by
    have abb:∃A' lA,v' = .slice A' l.length lA:=by
     rcases q2.2 with ⟨rfl,h0⟩ | ⟨g,lA,cur,rfl,_⟩
     ·exact⟨none,0,by rw [h0]⟩
     ·exact⟨_,lA,rfl⟩
    obtain⟨A',lA,rfl⟩:=abb
    exact lZ (r:=⟨ver,e,sz,l⟩) (by simp [eE]) rfl (Or.inl rfl) (by simp [eE])
   obtain⟨f',rows',hk,BX⟩:=rL (K:=K 1) hr gC hf hG hn fR h xK hA hv hd
   exact run q1 (hK 1 f' rows' _ _ hk (BX.mono fun v hv=>hv.imp (fun h=>⟨rfl,h⟩) fun h=>h))
  ·-- aqy a row of its own
   rename_i id aqv off len heq
   obtain⟨r,hrr,kV,rfl,rfl,he,oN,IF,xV,h⟩:=h
   rw [←hr]at hrr
   have hx:=hρ x
   rw [heq]at hx
   simp only [aM,aU]at hx
   obtain⟨⟨xs,iV,gN,i5⟩,B2,hnS,_⟩:=hI.row id r hrr
   have hxv:a.eval x=c.β id:=by
    rcases(hx.2 r hrr kV).2 with ⟨_,A',m,lA,hβ,hv⟩ | ⟨h0,_⟩
    ·have hm:m=r.els.length:=by
      rw [hβ]at iV
      rcases iV.2 with ⟨h',h0⟩ | ⟨g,aqz,cur,h',_⟩
      ·simp at h';omega
      ·simp at h';exact h'.2.1
     rw [hv,hβ,hm]
    ·omega
   rw [he,oN]at iV
   obtain⟨v',w',q1,q2,q3,q4⟩:=main (c.β id) r.els.length xs iV hxv IF xV
   obtain⟨xK,hA⟩:=hI.set (ob:=(c.β id).ownBlock) (id:=id) (r':=⟨ver,e,sz,r.els++l⟩) (xs:=xs++news) q3 (by
    intro g hg
    refine⟨(iV.lt g hg).1,fun o=>hnS g o hg,fun j5 r' k8 nT hb=>nT (hI.apart j5 id r' r g k8 hrr hb hg)⟩) (by simpa using q2) (by
     show bK (aU c) (r.els++l).flatten _
     rw [List.flatten_append];exact gN.append g2) (by
     intro u hu
     rcases List.mem_append.1 hu with hu | hu
     ·exact i5 u hu
     ·exact g3 u hu) (by
     intro e' mO
     rcases List.mem_append.1 mO with mO | mO
     ·rw [B2 e' mO,oN]
     ·exact hlen e' mO) mD (by
     intro g hg
     rcases q4 with q4 | q4
     ·exact .inl (by rw [←q4];exact hg)
     ·rw [q4]at hg;cases hg;exact .inr (Nat.le_refl _)) (fun hu=>UX (gC _ hu))
   have hv:aM { c with w:=w',β:=eE c.β id v',rows:=eE c.rows id (some ⟨ver,e,sz,r.els++l⟩),used:=fun v=>v=ver∨c.used v } (.own id ver 0 (r.els.length+l.length)) v':=by
    have abb:∃A' lA,v' = .slice A' (r.els.length+l.length) lA:=by
     rcases q2.2 with ⟨rfl,h0⟩ | ⟨g,lA,cur,rfl,_⟩
     ·exact⟨none,0,by rw [h0]⟩
     ·exact⟨_,lA,rfl⟩
    obtain⟨A',lA,rfl⟩:=abb
    exact lZ (r:=⟨ver,e,sz,r.els++l⟩) (by simp [eE]) (by simp) (Or.inl rfl) (by simp [eE])
   obtain⟨f',rows',hk,BX⟩:=rL (K:=K 1) hr gC hf hG hn fR h xK hA hv hd
   exact run q1 (hK 1 f' rows' _ _ hk (BX.mono fun v hv=>hv.imp (fun h=>⟨rfl,h⟩) fun h=>h))
  ·-- aqy cells that stay,its capacity its length
   rename_i l0 heq
   obtain⟨B2,ET,IF,xV,h⟩:=h
   have hx:=hρ x
   rw [heq]at hx
   simp only [aM,aU,dG]at hx
   obtain⟨A0,hA0,PZ,abc⟩:=hx
   have fin:∀ {v':Value} {w':World},(Builtin.append_ #[t,t] o.type #[a.eval x,a.eval y]).run E.P c.w = .ok v' w' →
     (∃c',c'.w=w'∧c'.rows=c.rows∧c'.used=c.used∧Inv w0 S0 c'∧uE c c'∧aM c' (.sl (l0++l)) v')→o.wp E.P a c.w K' Q:=by
    rintro v' w' kA ⟨c',rfl,h2,h3,h4,h5,h6⟩
    refine run kA (hK 0 _ _ _ _ h ?_)
    exact o0 hf hG hn fR h5 h4 h6 hd rfl (by rw [h2,hr]) (by rw [h3];exact fun v hv => .inr (gC v hv))
   have afJ:bK (dG c.S c.w) l.flatten news:=by
    refine bK.dU g2.length fun k p u hp hu=>?_
    obtain⟨u',q1,q2⟩:=g2.get hp
    rw [hu]at q1;cases q1
    have uK:=List.mem_of_getElem? hp
    rw [List.mem_flatten]at uK
    obtain⟨e',mO,xJ⟩:=uK
    exact q2.rep (ET e' mO p xJ)
   by_cases y7:l = []
   ·subst y7
    refine fin (v':=.slice A0 l0.length l0.length) (w':=c.w) ?_ ⟨c,rfl,rfl,rfl,hI,uE.refl c,?_⟩
    ·have hn0:news = []:=List.eq_nil_of_length_eq_zero (by simpa using g1)
     subst hn0
     have hfc:(Builtin.firstCells i.size 0 (.slice A 0 cap)).run E.P c.w = .ok #[] c.w:=by
      cases A with
      | none=>simp [Builtin.firstCells]
      | some ad=>simp [Builtin.firstCells,loadCells,loadCellsFrom]
     rw [hA0,hvy]
     cases A0 with
     | none=>simp [Builtin.append_,run_underlying hu,Go.sizeOf,typeInfo,hi,Builtin.lenOf,hfc]
     | some ad0=>simp [Builtin.append_,run_underlying hu,Go.sizeOf,typeInfo,hi,Builtin.lenOf,hfc,storeCells]
    ·simp only [aM,aU,dG,List.append_nil]
     exact⟨A0,_,rfl,Nat.le_refl _,PZ,abc⟩
   ·have aqA:0<l.length:=List.length_pos_iff.2 y7
    obtain⟨ad,rfl⟩:∃ad,A=some ad:=by
     cases A with
     | none=>exact absurd (g4 rfl) y7
     | some ad=>exact⟨ad,rfl⟩
    obtain⟨A2,aqB,afK,hvx,o1,o2,o3,o4,o5⟩:=uJ (y:=.j8 l0) (vy:=a.eval x) (l:=l0) hI (by simp only [aM,aU,dG];exact⟨A0,hA0,PZ,abc⟩) rfl B2
    rw [hA0]at hvx
    simp only [Value.slice.injEq]at hvx
    obtain⟨rfl,_,rfl⟩:=hvx
    have afL:bK (dG c.S c.w) l0.flatten afK:=by
     refine bK.dU o2.length fun k p u hp hu=>?_
     have uK:=List.mem_of_getElem? hp
     rcases abc with rfl | ⟨g,oo,rfl,hre⟩
     ·simp at hp
     ·have awO:l0.flatten.length=l0.length*sz:=by rw [o2.length,o1]
      have hk:k<l0.length*sz:=by rw [←awO];exact(List.getElem?_eq_some_iff.1 hp).1
      have hq:k/sz<l0.length:=(Nat.div_lt_iff_lt_mul mD).2 hk
      have mW:=B2 l0[k/sz] (List.getElem_mem hq)
      have hj:k%sz<l0[k/sz].length:=by rw [mW];exact Nat.mod_lt _ mD
      have UW:k/sz*sz+k%sz=k:=by rw [Nat.mul_comm];exact Nat.div_add_mod k sz
      have hfg:=jS B2 (List.getElem?_eq_getElem hq) (List.getElem?_eq_getElem hj)
      rw [UW,hp]at hfg
      cases hfg
      obtain⟨u',r1,_,_,r4⟩:=iL (jH hre B2 (List.getElem?_eq_getElem hq)) (List.getElem?_eq_getElem hj)
      have:=o5 _ rfl k u hu
      rw [iZ]at this
      rw [show oo+k/sz*sz+k%sz=oo+k by omega,this]at r1
      cases r1;exact r4
    have grow:∃v' w',(Builtin.append_ #[t,t] o.type #[a.eval x,a.eval y]).run E.P c.w = .ok v' w'∧w'.ownsRow c.w.heap.size e sz v' (l0.length+l.length) (afK++news)∧c.w.grownBy w' none:=by
     rw [hA0,hvy]
     cases A0 with
     | some ad0=>exact run_append_arg_grows (P:=E.P) c.w t o.type e i zv sz b hu hi hz hs hby EJ mD ad0 l0.length l0.length afK o1 (o5 ad0 rfl) ad l.length cap news g1 (g5 ad rfl) (by omega) (vQ IF) (by simpa [room]using xV)
     | none =>
      have awP:=o4 rfl
      subst awP
      have ho0:afK = []:=List.eq_nil_of_length_eq_zero (by simpa using o1)
      subst ho0
      obtain⟨v',w',q1,q2,q3,_,q5⟩:=run_append_own_at (P:=E.P) c.w c.w.heap.size t o.type e i zv sz b hu hi hz hs hby EJ mD (.slice none 0 0) 0 [] (World.ownsRow_nil _ _ _ _) ad l.length cap news g1 (g5 ad rfl) g3 (by simpa using vQ IF) (by simpa [room]using xV) (Nat.le_refl _)
      exact⟨v',w',q1,by simpa using q2,q3⟩
    obtain⟨v',w',q1,q2,q3⟩:=grow
    refine fin q1 (QX hI q3 (els:=l0++l) (by simpa using q2) (by rw [List.flatten_append];exact afL.append afJ) (fun u hu=>?_) (fun e' mO=>?_))
    ·rcases List.mem_append.1 hu with hu | hu
     ·exact o3 u hu
     ·exact g3 u hu
    ·rcases List.mem_append.1 mO with mO | mO
     ·exact B2 e' mO
     ·exact hlen e' mO
  ·exact h.elim
 ·exact h.elim
end
section
variable {E:Env} {w0:World} {S0:eC} {n:Nat} {G:Gs}
theorem IH{P:Program}(w:World)(dT sT ty elem:TypeId)(g o afM aqC:Nat)(A:Option Addr)(afN aqD:Nat)(cur:Array Value)(t:TypeId)(cs:List Value)
  (hu:P.underlying dT=some (.slice elem)) (hs:(P.info? elem).map (·.size)=some 1)
  (hg:w.heap[g]? = some (.cells cur t (0,0))) (hn:cs.length=Nat.min afN afM)
  (awQ:∀a,A=some a → ∀j v,cs[j]? = some v→w.cell? (a.add j)=some v) (hA:A=none→cs = []) (akU:o+cs.length≤cur.size) (h1:∀v∈cs,v.oneCell'=true) :
  (Builtin.copy_ #[dT,sT] ty #[.slice (some ⟨g,o,none⟩) afM aqC, .slice A afN aqD]).run P w =
   .ok (goInt cs.length) (w.setRow g (cur.toList.take o++cs++cur.toList.drop (o+cs.length)).toArray):=by
 cases A with
 | some a=>exact run_copy_row P w dT sT ty elem g o afM aqC a afN aqD cur t cs hu hs hg hn (awQ a rfl) akU h1
 | none =>
  have:=hA rfl
  subst this
  cases hq:P.info? elem with
  | none=>simp [hq]at hs
  | some i =>
   have xW:Nat.min afN afM=0:=by simpa using hn.symm
   have aqE:=setRow_self w g cur t (0,0) hg
   simp [Builtin.copy_,run_underlying hu,Builtin.lenOf,Builtin.firstCells,Go.sizeOf,typeInfo,hq,xW,storeCells,List.take_append_drop,aqE]
theorem vR{U:Nat→Prop}{ver:Nat}(UX:¬U ver){o:Oper}{a:Act}{w:World}{f:Nat→PV}{rows:Rows}{K:Nat→(Nat→PV)→Rows→Prop}(h:oQ E ver o K f rows)(hR:pO w0 S0 n G U f rows a w)(hd:∀t,o.dst=some t→t<n)
  {K':Act→World→Prop} {Q:Exit→Act→World→Prop} (hK:∀i f' rows' a' w',K i f' rows'→pO w0 S0 n G (fun v=>(i=1∧v=ver)∨U v) f' rows' a' w'→K' a' w'):o.wp E.P a w K' Q:=by
 obtain⟨⟨c,rfl,hr,gC,hI,hf,hG⟩,hn,fR⟩:=hR
 have hρ:=mM hf
 have hfu:¬c.used ver:=fun hu=>UX (gC _ hu)
 have value:∀ {v':Value} {w':World},(execOp a.eval o).run E.P c.w = .ok (.value v') w'→K' (a.put o.dst v') w'→o.wp E.P a c.w K' Q:=by
  intro v' w' h1 h2
  unfold Oper.wp
  rw [h1]
  exact h2
 have newVar:∀(t:TypeId) (l:List PV) (vx:Value),(E.ty t).known=true→bK (aU c) l vx.cells.toList→(∀u∈vx.cells.toList,u.oneCell'=true)→l.length=(E.ty t).size →
   F2 K ver f rows o.dst (.ptr (o.dst.getD 0) ver 0 0) (o.dst.getD 0) t (E.ty t).size [l]→(execOp a.eval o).run E.P c.w = .ok (.value (.pointer (some ⟨c.w.heap.size,0,none⟩))) (c.w.alloc (.cells vx.cells t))→o.wp E.P a c.w K' Q:=by
  intro t l vx hk gN i5 hlen hp kA
  have hz:=(E.ok t).zero hk
  have oN:vx.cells.size=(E.ty t).size:=by rw [←hlen,gN.length];simp
  obtain⟨xK,hA⟩:=xU hI hfu (o.dst.getD 0) t (E.ty t).size 1 1 [l] vx.cells rfl (Nat.le_refl _) (by simp [maxLen]) (by omega) (by
   simp only [List.flatten_cons,List.flatten_nil,List.append_nil]
   rw [List.take_of_length_le (by simp [oN])];exact gN) i5 (by simpa using hlen) hz.pos
  obtain⟨f',rows',vH,BX⟩:=rL (K:=K 1) hr gC hf hG hn fR hp xK hA (aba (Or.inl rfl) (g:=c.w.heap.size) (n:=1) (cap:=1) (by simp [eE])) hd
  exact value kA (hK 1 f' rows' _ _ vH (BX.mono fun v hv=>hv.imp (fun h=>⟨rfl,h⟩) fun h=>h))
 obtain⟨dst,op,type,pos,after,guard⟩:=o
 simp only at hd value newVar
 unfold oQ at h
 simp only at h
 split at h
 ·-- alloc
  rename_i t
  obtain⟨hk,h⟩:=h
  have hz:=(E.ok t).zero hk
  obtain⟨i,zv,h1,h2,h3,h4,h5,h6⟩:=aa9 (c:=c) hz
  exact newVar t (E.ty t).zero zv hk h4 h6 rfl h (by simp [execOp,Instr.alloc,zeroValue,typeInfo,h1,h2,Go.newVar,newRow])
 ·-- box
  rename_i t x
  obtain⟨hk,l,hl,i5,hlen,h⟩:=h
  rw [←hr]at i5
  obtain⟨g1,g2⟩:=m7 (hρ x) hl i5
  exact newVar t l (a.eval x) hk g1 g2 hlen h (by simp [execOp,Instr.box,Go.newVar,newRow])
 ·-- makeSlice
  rename_i t l cc
  split at h
  ·rename_i e sz b z k1 x k2 y hE hl hc
   obtain⟨h0,tW,IF,xV,h⟩:=h
   obtain⟨hu,mD,IC,i,zv,hi,hz,hs,hby,QR,hzo⟩:=fQ hE
   have g1:=hρ l
   have g2:=hρ cc
   rw [hl,cT]at g1
   rw [hc,cT]at g2
   have EJ:zv.cells.size=sz:=by rw [←IC,←QR];simp
   have akX:(i.bytes:Int)*y≤281474976710656:=by
    rw [hby]
    have h3:((y.toNat*b:Nat):Int)≤room:=by exact_mod_cast xV
    have h4:((y.toNat:Nat):Int)=y:=Int.toNat_of_nonneg (by omega)
    rw [Int.natCast_mul,h4]at h3
    simp only [room]at h3
    rw [Int.mul_comm];omega
   have kA:=run_make (P:=E.P) c.w t e i zv hu hi hz k1 k2 x y h0 tW akX (by simp only [room]at IF;omega)
   have abd:(execOp a.eval { dst:=dst,op:=.makeSlice t l cc,type:=type,pos:=pos,after:=after,guard:=guard }).run E.P c.w = .ok (.value (.slice (some ⟨c.w.heap.size,0,none⟩) x.toNat y.toNat)) (c.w.alloc (.cells (madeCells zv.cells (y.toNat*i.size)) e)):=by
    simp [execOp,g1,g2,kA]
   have aqF:bK (aU c) z zv.cells.toList:=by
    rw [←QR]
    refine bK.dU (by simp) fun k p u hp hu=>?_
    simp at hp
    obtain⟨q,hq,rfl⟩:=hp
    have:zv.cells.toList[k]? = some q:=by simpa using hq
    rw [this]at hu;cases hu
    exact k9 _
   have hle:x.toNat*sz≤y.toNat*sz:=Nat.mul_le_mul_right _ (by omega)
   have hL:((madeCells zv.cells (y.toNat*i.size)).toList.take (x.toNat*sz)).length=x.toNat*sz:=by
    rw [List.length_take,Array.length_toList,size_madeCells,hs];exact Nat.min_eq_left hle
   obtain⟨xK,hA⟩:=xU hI hfu (dst.getD 0) e sz x.toNat y.toNat (List.replicate x.toNat z) (madeCells zv.cells (y.toNat*i.size)) (by simp) (by omega) (vQ IF) (by rw [size_madeCells,hs]) (by
    refine bK.dU (by rw [hL];simp [IC]) fun k p u hp hu=>?_
    have hk:=(List.getElem?_eq_some_iff.1 hu).1
    rw [hL]at hk
    rw [List.getElem?_take,if_pos (by omega),tV (by rw [hs];omega) (by omega)]at hu
    have xJ:=kX hp
    rw [IC,←EJ]at xJ
    obtain⟨u',q1,q2⟩:=aqF.get xJ
    rw [hu]at q1;cases q1;exact q2) (by
    intro u hu
    obtain⟨k,hk⟩:=List.getElem?_of_mem hu
    have vH:=(List.getElem?_eq_some_iff.1 hk).1
    simp [size_madeCells]at vH
    rw [tV vH (by omega)]at hk
    have:=List.mem_of_getElem? hk
    exact(Array.all_eq_true_iff_forall_mem.1 hzo) u (by simpa using this)) (by
    intro e' mO
    rw [List.mem_replicate]at mO
    rw [mO.2,IC]) mD
   obtain⟨f',rows',vH,BX⟩:=rL (K:=K 1) hr gC hf hG hn fR h xK hA (lZ (r:=⟨ver,e,sz,List.replicate x.toNat z⟩) (A:=some ⟨c.w.heap.size,0,none⟩) (cap:=y.toNat) (by simp [eE]) (by simp) (Or.inl rfl) (by simp [eE])) hd
   exact value abd (hK 1 f' rows' _ _ vH (BX.mono fun v hv=>hv.imp (fun h=>⟨rfl,h⟩) fun h=>h))
  ·exact h.elim
 ·-- append
  rename_i x y t t2
  obtain⟨ht2,h⟩:=h
  exact BW UX rfl ht2 hI hr gC hf hG hn fR hd h hK
 ·exact h.elim
theorem zA{o:Oper}{a:Act}{w:World}{σ:PS}{K:PS→Prop}(h:eZ E o K σ)(hR:Rel w0 S0 n G σ a w)(hd:∀t,o.dst=some t→t<n)
  {K':Act→World→Prop} {Q:Exit→Act→World→Prop} (hK:∀σ' a' w',K σ'→Rel w0 S0 n G σ' a' w'→K' a' w'):o.wp E.P a w K' Q:=by
 obtain⟨⟨c,rfl,hr,gC,hI,hf,hG⟩,hn,fR⟩:=hR
 have hρ:=mM hf
 have value:∀ {v':Value} {w':World},(execOp a.eval o).run E.P c.w = .ok (.value v') w'→K' (a.put o.dst v') w'→o.wp E.P a c.w K' Q:=by
  intro v' w' h1 h2
  unfold Oper.wp
  rw [h1]
  exact h2
 have aqG:(∃v u,ys E o.op (aV σ.f) σ.rows v u∧K ⟨put σ.f o.dst v,gO σ.rows u,σ.clock⟩)→o.wp E.P a c.w K' Q:=by
  rintro⟨v,u,hy,hk⟩
  rw [←hr]at hy
  refine LO hI hf hy fun v' c' h1 h2 h3 h4 h5=>hK _ _ _ hk ?_
  exact n4 hf hG hn fR h3 h4 h5 hd rfl (by simp [h1,hr]) (by rw [h2];exact gC)
 have nw:oQ E σ.clock o (fun i f r=>K ⟨f,r,σ.clock+i⟩) σ.f σ.rows→o.wp E.P a c.w K' Q:=fun hp =>
  vR (U:=fun v=>v<σ.clock) (Nat.lt_irrefl _) hp ⟨⟨c,rfl,hr,gC,hI,hf,hG⟩,hn,fR⟩ hd fun i f' rows' a' w' hk BX=>hK _ _ _ hk (BX.mono fun v hv=>by
   show v<σ.clock+i
   rcases hv with ⟨rfl,rfl⟩ | hv
   ·omega
   ·have:v<σ.clock:=hv
    omega)
 obtain⟨dst,op,type,pos,after,guard⟩:=o
 simp only at hd value aqG nw
 unfold eZ at h
 simp only at h
 split at h
 ·-- alloc
  rename_i t
  exact nw (show oQ E σ.clock _ _ σ.f σ.rows from h)
 ·-- box
  rename_i t x
  exact nw (show oQ E σ.clock _ _ σ.f σ.rows from h)
 ·-- makeSlice
  rename_i t l cc
  refine nw (show oQ E σ.clock _ _ σ.f σ.rows from ?_)
  unfold oQ
  simp only
  split at h
  ·exact h
  ·exact h.elim
 ·-- append
  rename_i x y t t2
  obtain⟨ht2,h⟩:=h
  refine nw (show oQ E σ.clock _ _ σ.f σ.rows from⟨ht2,?_⟩)
  unfold IE at h
  unfold o6
  split at h
  ·obtain⟨l,g1,g2,g3⟩:=h
   refine⟨l,g1,g2,?_⟩
   split at g3<;>exact g3
  ·exact h
 ·-- copy
  rename_i x y t t2
  split at h
  ·rename_i e sz b z id ver off len hE hx
   obtain⟨rfl,r,hrr,kV,oN,hle,aqA,l,hl,hl1,h⟩:=h
   rw [←hr]at hrr hl
   have gx:=hρ x
   rw [hx]at gx
   simp only [aM,aU]at gx
   obtain⟨_,gx⟩:=gx.2 r hrr kV
   obtain⟨hu,mD,IC,i,zv,hi,hz,hs,hby,QR,hzo⟩:=fQ hE
   obtain⟨A,cap,news,hvy,g1,g2,g3,g4,g5⟩:=uJ hI (hρ y) hl hl1
   obtain⟨⟨xs,iV,gN,i5⟩,BR,hnS,_⟩:=hI.row id r hrr
   obtain⟨g,lA,hβ⟩:=rI hI hrr (by omega)
   obtain⟨akY,hvx⟩:∃akY,a.eval x = .slice (some ⟨g,off,none⟩) len akY:=by
    rcases gx with ⟨h0,A',m,aqB,QY,hv⟩ | ⟨_,g2,m,aqB,A',QY,_,hv,ha⟩
    ·rw [hβ]at QY
     simp only [Value.slice.injEq]at QY
     obtain⟨rfl,_,_⟩:=QY
     exact⟨_,by rw [hv,h0]⟩
    ·rw [hβ]at QY
     simp only [Value.slice.injEq,Option.some.injEq,Addr.mk.injEq,and_true]at QY
     obtain⟨rfl,_,_⟩:=QY
     rcases ha with ha | ha
     ·omega
     ·exact⟨_,by rw [hv,ha,oN,Nat.mul_one]⟩
   have aqs:=iV
   rw [hβ]at iV
   rcases iV.2 with ⟨h',_⟩ | ⟨g',aqz,cur,h',XR,hg,UR,hcm,K9,LM⟩
   ·simp at h'
   ·simp only [Value.slice.injEq,Option.some.injEq,Addr.mk.injEq,and_true]at h'
    obtain⟨rfl,_,rfl⟩:=h'
    rw [oN,Nat.mul_one]at K9 LM
    have hnl:news.length=l.length:=by simpa using g1
    have QZ:(news.take len).length=Nat.min l.length len:=by
     rw [List.length_take,hnl];exact Nat.min_comm _ _
    have hml:Nat.min l.length len≤len:=Nat.min_le_right _ _
    have kA:=IH (P:=E.P) c.w t t2 type e g off len akY A l.length cap cur r.e (news.take len) hu (by simp [hi,hs]) hg QZ
     (fun ad had j v hj=>g5 ad had j v (by rw [List.getElem?_take]at hj;split at hj;exact hj;cases hj)) (fun hA=>by
      have:=g4 hA
      subst this
      have:news = []:=List.eq_nil_of_length_eq_zero (by simpa using hnl)
      simp [this]) (by rw [QZ];omega) (fun v hv=>g3 v (List.mem_of_mem_take hv))
    have abd:(execOp a.eval { dst:=dst,op:=.call { callee:=.builtin .copy,args:=⟨[x,y]⟩,argTypes:=⟨[t,t2]⟩ },type:=type,pos:=pos,after:=after,guard:=guard }).run E.P c.w = .ok (.value (goInt (news.take len).length)) (c.w.setRow g (cur.toList.take off++news.take len++cur.toList.drop (off+(news.take len).length)).toArray):=by
     simp only [execOp,resolve,invoke,builtin,Sem.run_bind,Sem.run_pure,Result.andThen_ok,List.map_toArray,List.map_cons,List.map_nil,hvx,hvy,kA]
    have one:∀ {l:List (List PV)},(∀e∈l,e.length=1) → ∀k,(l.take k).flatten=l.flatten.take k∧(l.drop k).flatten=l.flatten.drop k:=by
     intro l
     induction l with
     | nil=>intro _ k;simp
     | cons e l ih =>
      intro hh k
      have he:=hh e (by simp)
      match e,he with
      | [p],_ =>
       cases k with
       | zero=>simp
       | succ k =>
        have:=ih (fun e he=>hh e (by simp [he])) k
        simp [this.1,this.2]
    have UY:∀e∈r.els,e.length=1:=fun e he=>by rw [BR e he,oN]
    have aAc:r.els.flatten.length=r.els.length:=by rw [gN.length,iV.1,oN,Nat.mul_one]
    have hlf:l.flatten.length=l.length:=by rw [g2.length,hnl]
    have aiJ:min l.length len=Nat.min l.length len:=rfl
    have aa4:(c.w.setRow g (cur.toList.take off++news.take len++cur.toList.drop (off+(news.take len).length)).toArray).ownsRow w0.heap.size r.e r.size (c.β id) (r.els.take off++l.take len++r.els.drop (off+min l.length len)).length
      (xs.take off++news.take len++xs.drop (off+(news.take len).length)):=by
     have EU:(r.els.take off++l.take len++r.els.drop (off+min l.length len)).length=r.els.length:=by simp;omega
     have hxl:xs.length=r.els.length:=by rw [iV.1,oN,Nat.mul_one]
     rw [hβ,EU]
     refine⟨?_, .inr ⟨g,lA,_,rfl,XR,setRow_heap _ g cur _ r.e _ hg,UR,hcm,?_,?_⟩⟩
     ·rw [oN,Nat.mul_one];simp [QZ];omega
     ·rw [oN,Nat.mul_one];simp [QZ];omega
     ·rw [oN,Nat.mul_one,←LM]
      have awI:cur.toList.length=lA:=by simp [K9]
      simp only
      rw [List.take_append,List.take_append]
      have e1:List.take r.els.length (cur.toList.take off)=cur.toList.take off:=by rw [List.take_take,Nat.min_eq_right (by omega)]
      have e2:List.take off (cur.toList.take r.els.length)=cur.toList.take off:=by rw [List.take_take,Nat.min_eq_left (by omega)]
      rw [e1,e2]
      have e3:(cur.toList.take off).length=off:=by rw [List.length_take];omega
      have e4:List.take (r.els.length-off) (news.take len)=news.take len:=List.take_of_length_le (by rw [QZ];omega)
      rw [e3,e4]
      congr 1
      rw [List.length_append,e3,List.drop_take]
    have oO:c.w.grownBy (c.w.setRow g (cur.toList.take off++news.take len++cur.toList.drop (off+(news.take len).length)).toArray) (c.β id).ownBlock:=by
     rw [hβ]
     exact⟨rfl,rfl,rfl,by simp,fun k _ hk=>setRow_other _ g k _ (fun e=>hk (by simp [Value.ownBlock,e]))⟩
    obtain⟨xK,hA⟩:=hI.eE (r':={ r with els:=r.els.take off++l.take len++r.els.drop (off+min l.length len) }) hrr oO aa4 (by
     show bK (aU c) (r.els.take off++l.take len++r.els.drop (off+min l.length len)).flatten _
     rw [List.flatten_append,List.flatten_append,(one UY off).1,(one hl1 len).1,(one UY _).2,aiJ,←QZ]
     exact((gN.take _).append (g2.take _)).append (gN.drop _)) (by
     intro y' EV
     simp only [List.mem_append]at EV
     rcases EV with (EV | EV) | EV
     ·exact i5 y' (List.mem_of_mem_take EV)
     ·exact g3 y' (List.mem_of_mem_take EV)
     ·exact i5 y' (List.mem_of_mem_drop EV)) (by
     intro e' mO
     simp only [List.mem_append]at mO
     rw [oN]
     rcases mO with (mO | mO) | mO
     ·exact UY e' (List.mem_of_mem_take mO)
     ·exact hl1 e' (List.mem_of_mem_take mO)
     ·exact UY e' (List.mem_of_mem_drop mO)) rfl rfl (by simp;omega)
    refine value abd (hK _ _ _ h ?_)
    exact n4 hf hG hn fR hA xK (cT.2 (by
     have h9:=QZ
     rw [←aiJ]at h9
     simp only [goInt,h9]
     congr 1
     omega)) hd rfl (by simp [hr]) gC
  ·exact h.elim
 ·-- a call
  rename_i fo args ts
  have gK:bK (aM c) (args.toList.map fun x=>aV σ.f x) (args.map a.eval).toList:=by
   refine bK.dU (by simp) fun k p u hp hu=>?_
   simp at hp hu
   obtain⟨x,hx,rfl⟩:=hp
   obtain⟨y,hy,rfl⟩:=hu
   rw [hx]at hy;cases hy
   exact hρ x
  split at h
  ·have hfo:=hρ fo
   unfold QU at h
   split at h
   ·rename_i g heq
    rw [heq]at hfo
    obtain⟨R,⟨⟨fn,b,h1,h2,h3⟩,QW⟩,hk⟩:=h
    simp only [aM,aU,dG]at hfo
    obtain⟨cs,hfv,K9⟩:=hfo
    simp only [bU]at K9
    subst K9
    have rM:=QW w0 S0 c _ (fun p=>p∈G ∨ ∃s,p=(σ.f s,a.tmps.getD s undef)) hI hr gC gK (by
     rintro p (hp | ⟨s,rfl⟩)
     ·exact hG p hp
     ·exact hf s)
    simp only [Array.toArray_toList]at rM
    unfold Oper.wp
    have kA:(execOp a.eval { dst:=dst,op:=.call { callee:=.value fo,args:=args,argTypes:=ts },type:=type,pos:=pos,after:=after,guard:=guard }).run E.P c.w = .ok (.enter g (args.map a.eval)) c.w:=by
     simp only [execOp,resolve,hfv,Deferred.ofValue,Sem.run_bind,Sem.run_pure,Result.andThen_ok,invoke]
     simpa using m9 h1 h2 h3 (args.map a.eval) c.w
    rw [kA]
    refine rM.mono ?_
    rintro e w' ⟨v',c',r,lC,rfl,rfl,xK,hG',l5,ak1,hv'⟩
    refine hK _ _ _ (hk _ _ _ l5) ?_
    exact aa6 (fun s=>hG' (σ.f s,a.tmps.getD s undef) (.inr ⟨s,rfl⟩)) (fun p hp=>hG' p (.inl hp)) hn fR xK hv' hd rfl rfl ak1
   ·exact h.elim
  obtain⟨v,hc,hp,hk⟩:=h
  rw [←hr]at hc hp hk
  have hc':y6 E (aV σ.f fo) ((args.toList.map fun x=>aV σ.f x).map (pz c.rows)) v:=by rw [List.map_map];exact hc
  obtain⟨g,cs,h1,h2,h3⟩:=y8 hI (ids:=args.toList.flatMap fun x=>eD (aV σ.f x)) hp (hρ fo) gK (by
   intro p hp id iR
   simp at hp
   obtain⟨x,hx,rfl⟩:=hp
   simp only [List.mem_flatMap];exact⟨x,by simpa using hx,iR⟩) hc' (K:=fun v' w'=>K' (a.put dst v') w') (fun v' c' q1 q2 q3 q4 q5=>hK _ _ _ hk (n4 hf hG hn fR q3 q4 q5 hd rfl (by simp [q1]) (by rw [q2];exact gC)))
  unfold Oper.wp
  have kA:(execOp a.eval { dst:=dst,op:=.call { callee:=.value fo,args:=args,argTypes:=ts },type:=type,pos:=pos,after:=after,guard:=guard }).run E.P c.w = .ok (.enter g (args.map a.eval++cs)) c.w:=by
   simp only [execOp,resolve,h1,Deferred.ofValue,Sem.run_bind,Sem.run_pure,Result.andThen_ok,invoke]
   simp only [Array.toArray_toList]at h2
   simpa only [Array.empty_append]using h2
  rw [kA]
  simp only [Array.toArray_toList]at h3
  exact h3.mono fun e w' ⟨v',he,hk⟩=>by subst he;exact hk
 ·-- a closure
  rename_i g cI
  obtain⟨tU,hp,hk⟩:=h
  rw [←hr]at tU hp hk
  have LN:=hI.freeze (cI.toList.flatMap fun x=>eD (aV σ.f x))
  refine value (v':=.func (.func g) #[] (cI.map a.eval)) (w':=c.w) (by simp [execOp,Instr.makeFunc]) (hK _ _ _ hk ?_)
  refine n4 (c':=EI c (cI.toList.flatMap fun x=>eD (aV σ.f x))) hf hG hn fR (mN c _) LN ?_ hd rfl (by simp [EI]) gC
  simp only [aM,aU,dG]
  refine⟨(cI.map a.eval).toList,by rw [Array.toArray_toList],c8.2 (bK.dU (by simp) fun k p u xJ hu=>?_)⟩
  simp at xJ hu
  obtain⟨x,hx,rfl⟩:=xJ
  obtain⟨y,hy,rfl⟩:=hu
  rw [hx]at hy;cases hy
  have uK:x∈cI.toList:=by simpa using Array.mem_of_getElem? hx
  exact IA hI hp (hρ x) (fun id iR=>by simp only [List.mem_flatMap];exact⟨x,uK,iR⟩) (List.all_eq_true.1 tU _ (by simp;exact⟨x,by simpa using uK,rfl⟩))
 ·exact aqG h
end
def iW(op:Op)(ρ:Operand→PV):List Nat:=
 match op with
 | .load _ p=>bJ (ρ p)
 | .fieldAddr _ x _=>bJ (ρ x)
 | .indexAddr _ x _=>bJ (ρ x)
 | .slice _ x _ _ _=>bJ (ρ x)
 | .store _ p x=>bJ (ρ p)++((cE (ρ x)).getD []).flatMap bJ
 | .call { callee:=.builtin .len,args:=⟨[x]⟩,argTypes:=⟨[_]⟩ }=>bJ (ρ x)
 | .call { callee:=.builtin .append,args:=⟨[x,y]⟩,argTypes:=⟨[_,_]⟩ }=>bJ (ρ x)++bJ (ρ y)
 | .nilCheck x=>bJ (ρ x)
 | _=>[]
def kB(ids:List Nat)(rows rows':Rows):Prop:=∀id∈ids,∀r,rows id=some r→rows' id=some r
section
variable {E:Env}
theorem II{rows rows':Rows}{p:PV}(h:bJ p = []):fz rows p=fz rows' p:=by cases p<;>simp_all [fz,bJ]
theorem afQ{rows rows':Rows}{p:PV}(h:eD p = []):pz rows p=pz rows' p:=by
 cases p with
 | ag l =>
  simp only [eD,List.flatMap_eq_nil_iff]at h
  simp only [pz]
  congr 1
  exact List.map_congr_left fun q hq=>II (h q hq)
 | _=>simp only [pz,eD]at h ⊢;exact II h
theorem IJ{rows rows':Rows}{p:PV}(h:kB (bJ p) rows rows')(ho:i0 rows p):i0 rows' p:=by
 cases p with
 | own id ver off len=>obtain⟨r,hr,hv⟩:=ho;exact⟨r,h id (by simp [bJ]) r hr,hv⟩
 | ptr id ver i j=>obtain⟨r,hr,hv⟩:=ho;exact⟨r,h id (by simp [bJ]) r hr,hv⟩
 | _=>exact ho
theorem XW{rows:Rows}{p:PV}(ho:i0 rows p):∀id∈bJ p,∃r,rows id=some r:=by
 intro id iR
 cases p with
 | own j5 ver off len=>simp [bJ]at iR;subst iR;obtain⟨r,hr,_⟩:=ho;exact⟨r,hr⟩
 | ptr j5 ver i j=>simp [bJ]at iR;subst iR;obtain⟨r,hr,_⟩:=ho;exact⟨r,hr⟩
 | _=>simp [bJ]at iR
theorem abe{t:TypeId}{rows rows':Rows}{p v:PV}(h:kB (bJ p) rows rows')(hy:tP E t rows p v):tP E t rows' p v ∧ ∀id∈bJ p,∃r,rows id=some r:=by
 obtain⟨hk,hy⟩:=hy
 cases p with
 | ptr id ver i j =>
  obtain⟨r,hr,hh⟩:=hy
  exact⟨⟨hk,r,h id (by simp [bJ]) r hr,hh⟩,by simp [bJ];exact⟨r,hr⟩⟩
 | rd l=>exact⟨⟨hk,hy⟩,by simp [bJ]⟩
 | _=>exact hy.elim
theorem EW{t:TypeId}{i:Nat}{rows rows':Rows}{x v:PV}(h:kB (bJ x) rows rows')(hy:fO E t rows i x v):fO E t rows' i x v ∧ ∀id∈bJ x,∃r,rows id=some r:=by
 unfold fO at *
 split at hy
 ·rename_i fs z hE
  obtain⟨o,n,b,hf,hy⟩:=hy
  cases x with
  | ptr id ver a j =>
   obtain⟨⟨r,hr,hv⟩,hh⟩:=hy
   exact⟨⟨o,n,b,hf,⟨r,h id (by simp [bJ]) r hr,hv⟩,hh⟩,by simp [bJ];exact⟨r,hr⟩⟩
  | rd l=>exact⟨⟨o,n,b,hf,hy⟩,by simp [bJ]⟩
  | _=>exact hy.elim
 ·exact hy.elim
theorem EX{t:TypeId}{rows rows':Rows}{x ix v:PV}(h:kB (bJ x) rows rows')(hy:fP E t rows x ix v):fP E t rows' x ix v ∧ ∀id∈bJ x,∃r,rows id=some r:=by
 unfold fP at *
 split at hy
 ·split at hy
  ·obtain⟨h0,hy⟩:=hy
   cases x with
   | own id ver off len =>
    obtain⟨r,hr,hh⟩:=hy
    exact⟨⟨h0,r,h id (by simp [bJ]) r hr,hh⟩,by simp [bJ];exact⟨r,hr⟩⟩
   | sl l=>exact⟨⟨h0,hy⟩,by simp [bJ]⟩
   | j8 l=>exact⟨⟨h0,hy⟩,by simp [bJ]⟩
   | _=>exact hy.elim
  ·exact hy.elim
 ·split at hy
  ·obtain⟨h0,hy⟩:=hy
   cases x with
   | ptr id ver a j =>
    obtain⟨⟨r,hr,hv⟩,hh⟩:=hy
    exact⟨⟨h0,⟨r,h id (by simp [bJ]) r hr,hv⟩,hh⟩,by simp [bJ];exact⟨r,hr⟩⟩
   | rd l=>exact⟨⟨h0,hy⟩,by simp [bJ]⟩
   | _=>exact hy.elim
  ·exact hy.elim
 ·exact hy.elim
theorem XX{t:TypeId}{rows rows':Rows}{x v:PV}{lo hi mx:Option PV}(h:kB (bJ x) rows rows')(hy:oM E t rows x lo hi mx v):oM E t rows' x lo hi mx v ∧ ∀id∈bJ x,∃r,rows id=some r:=by
 unfold oM at *
 split at hy
 ·cases x with
  | own id ver off len =>
   obtain⟨r,hr,hh⟩:=hy
   exact⟨⟨r,h id (by simp [bJ]) r hr,hh⟩,by simp [bJ];exact⟨r,hr⟩⟩
  | nil=>exact⟨hy,by simp [bJ]⟩
  | sl l=>exact⟨hy,by simp [bJ]⟩
  | j8 l=>exact⟨hy,by simp [bJ]⟩
  | _=>exact hy.elim
 ·exact hy.elim
theorem afR{rows rows':Rows}{x:PV}{n:Nat}(h:kB (bJ x) rows rows')(hy:XQ rows x n):XQ rows' x n ∧ ∀id∈bJ x,∃r,rows id=some r:=by
 unfold XQ at *
 cases x with
 | own id ver off len =>
  obtain⟨⟨r,hr,hv⟩,hh⟩:=hy
  exact⟨⟨⟨r,h id (by simp [bJ]) r hr,hv⟩,hh⟩,by simp [bJ];exact⟨r,hr⟩⟩
 | nil=>exact⟨hy,by simp [bJ]⟩
 | sl l=>exact⟨hy,by simp [bJ]⟩
 | j8 l=>exact⟨hy,by simp [bJ]⟩
 | _=>exact hy.elim
theorem afS{rows rows':Rows}{x v:PV}(h:kB (bJ x) rows rows')(hy:ER rows x v):ER rows' x v ∧ ∀id∈bJ x,∃r,rows id=some r:=by
 unfold ER at *
 cases x with
 | ptr id ver i j =>
  obtain⟨⟨r,hr,hv⟩,hh⟩:=hy
  exact⟨⟨⟨r,h id (by simp [bJ]) r hr,hv⟩,hh⟩,by simp [bJ];exact⟨r,hr⟩⟩
 | rd l=>exact⟨hy,by simp [bJ]⟩
 | _=>exact hy.elim
theorem XY{t:TypeId}{rows rows':Rows}{p x v:PV}{u:Option (Nat × Row)}(h:kB (bJ p++((cE x).getD []).flatMap bJ) rows rows')(hy:rK E t rows p x v u) :
  rK E t rows' p x v u∧(∀id∈bJ p++((cE x).getD []).flatMap bJ,∃r,rows id=some r) ∧ ∃id r,u=some (id,r)∧id∈bJ p:=by
 obtain⟨hk,hv,hy⟩:=hy
 cases p with
 | ptr id ver i j =>
  obtain⟨r,hr,kV,el,mW,l,hl,i5,hh1,hh2,hh3⟩:=hy
  rw [hl]at h ⊢
  simp only [Option.getD_some]at h ⊢
  refine⟨⟨hk,hv,r,h id (by simp [bJ]) r hr,kV,el,mW,l,hl,fun q hq=>IJ (fun j5 BS=>h j5 ?_) (i5 q hq),hh1,hh2,hh3⟩,?_,?_⟩
  ·simp only [List.mem_append,List.mem_flatMap];exact .inr ⟨q,hq,BS⟩
  ·intro j5 BS
   simp only [List.mem_append,List.mem_flatMap]at BS
   rcases BS with BS | ⟨q,hq,BS⟩
   ·simp [bJ]at BS;subst BS;exact⟨r,hr⟩
   ·exact XW (i5 q hq) j5 BS
  ·exact⟨id,_,hh3,by simp [bJ]⟩
 | _=>exact hy.elim
theorem aiM{op:Op}{ρ:Operand→PV}{rows rows':Rows}{v:PV}{u:Option (Nat × Row)}(h:kB (iW op ρ) rows rows')(hy:ys E op ρ rows v u) :
  ys E op ρ rows' v u∧(∀id∈iW op ρ,∃r,rows id=some r) ∧ ∀id r,u=some (id,r)→id∈iW op ρ:=by
 unfold ys at hy ⊢
 split at hy
 ·rename_i t p x
  obtain⟨h1,h2,id,r,h3,h4⟩:=XY h hy
  exact⟨h1,h2,fun j5 r' hu=>by rw [h3]at hu;cases hu;simp only [iW,List.mem_append];exact .inl h4⟩
 ·rename_i t len parts
  obtain⟨hy,rfl⟩:=hy
  unfold QT at hy ⊢
  split at hy
  ·obtain⟨els,h1,h2,h3,h4,h5,h6,rfl⟩:=hy
   have hfz:∀e∈els,∀p∈e,fz rows p=fz rows' p:=fun e he p hp=>II (h6 e he p hp)
   refine⟨⟨⟨els,h1,h2,h3,h4,fun e he p hp=>⟨by rw [←hfz e he p hp];exact(h5 e he p hp).1,IJ (by rw [h6 e he p hp];intro id iR;cases iR) (h5 e he p hp).2⟩,h6,?_⟩,rfl⟩,by simp [iW],by simp⟩
   congr 1
   exact List.map_congr_left fun e he=>List.map_congr_left fun p hp=>hfz e he p hp
  ·exact hy.elim
 ·rename_i f args ts
  obtain⟨rfl,h1,h2⟩:=hy
  refine⟨⟨rfl,?_,h2⟩,by simp [iW],by simp⟩
  have:(args.toList.map fun x=>pz rows (ρ x))=args.toList.map fun x=>pz rows' (ρ x):=
   List.map_congr_left fun x hx=>afQ (List.flatMap_eq_nil_iff.1 h2 x hx)
  rw [←this];exact h1
 ·obtain⟨hy,rfl⟩:=hy
  suffices hs:yv E op ρ rows' v ∧ ∀id∈iW op ρ,∃r,rows id=some r from⟨⟨hs.1,rfl⟩,hs.2,by simp⟩
  unfold yv at hy ⊢
  split at hy
  case h_8=>exact abe h hy
  case h_10=>exact EW h hy
  case h_11=>exact EX h hy
  case h_12=>exact XX h hy
  case h_16 =>
   simp only [iW]at h ⊢
   unfold yU at hy ⊢
   split at hy
   ·obtain⟨n,hn,hv⟩:=hy
    have:=afR (rows':=rows') h hn
    exact⟨⟨n,this.1,hv⟩,this.2⟩
   ·exact hy.elim
  case h_19=>exact afS h hy
  all_goals first
   | exact hy.elim
   | exact⟨hy,by simp [iW]⟩
end
end Pm
