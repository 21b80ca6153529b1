import Derived.Laws.CopyOwn
import Derived.ArgAppend
import Derived.Test.YtiobceocpabjdaaGreatEaa
set_option linter.unusedSimpArgs false
set_option linter.unusedVariables false
namespace Pm
open Go Go.RowKit
def EI(rows:Rows)(ids:List Nat):Rows:=fun j=>if j∈ids then none else rows j
def N7(c:Cx)(ids:List Nat):dV:=fun b o=>c.S b o ∨ ∃id∈ids,(∃r,c.rows id=some r)∧(c.β id).ownBlock=some b
section
variable {E:Env} {c:Cx} {w0:World} {S0:dV}
def DJ(c:Cx)(ids:List Nat):Cx:={ c with S:=N7 c ids,rows:=EI c.rows ids }
theorem lK(c:Cx)(ids:List Nat):sR c (DJ c ids):=
 ⟨fun _ _ h => .inl h,fun _ _ _=>rfl,fun _ h=>h,fun id r hr=>by
  simp only [DJ,EI]at hr ⊢
  split at hr
  ·cases hr
  ·exact .inr ⟨r,hr,rfl,rfl,rfl,by first | rfl | trivial⟩⟩
theorem Inv.freeze(hI:Inv w0 S0 c)(ids:List Nat):Inv w0 S0 (DJ c ids):=by
 have live:∀ {k:Nat} {t:Row},EI c.rows ids k=some t→c.rows k=some t∧k ∉ ids:=by
  intro k t h
  simp only [EI]at h
  split at h
  ·cases h
  ·rename_i hk;exact⟨h,hk⟩
 have auX:∀ {id:Nat} {r:Row} {g:Nat},c.rows id=some r→(c.β id).ownBlock=some g→w0.heap.size≤g∧g<c.w.heap.size:=by
  intro id r g hr hg
  obtain⟨⟨ys,g1,_,_⟩,_⟩:=hI.row id r hr
  exact g1.lt g hg
 refine⟨hI.below,fun b o h => .inl (hI.ext b o h),fun b o h=>?_,hI.lt0,fun id r hr=>hI.clock id r (live hr).1,fun id r hr=>?_,fun i j r s g hr hs=>hI.apart i j r s g (live hr).1 (live hs).1⟩
 ·rcases h with h | ⟨id,_,⟨r,hr⟩,hb⟩
  ·exact hI.new b o h
  ·exact .inr (auX hr hb)
 ·obtain⟨jP,hk⟩:=live hr
  obtain⟨⟨ys,g1,g2,g3⟩,g4,g5,g6⟩:=hI.row id r jP
  refine⟨⟨ys,g1,g2.mono (aQ.tB (lK c ids)),g3⟩,g4,fun g o hg hS=>?_,g6⟩
  rcases hS with h | ⟨jO,AQ,⟨r',cR⟩,hb⟩
  ·exact g5 g o hg h
  ·have:=hI.apart id jO r r' g jP cR hg hb
   subst this
   exact hk AQ
theorem R6(hI:Inv w0 S0 c){ids:List Nat}(hp:∀id∈ids,∀r,c.rows id=some r → ∀e∈r.els,∀p∈e,cW p=true){id:Nat}(iA:id∈ids){r:Row}(hr:c.rows id=some r)
  {g n cap:Nat} (hβ:c.β id = .slice (some ⟨g,0,none⟩) n cap) {i j:Nat} {el:List PV} {p:PV} (hi:r.els[i]? = some el) (hj:el[j]? = some p) :
  ∃v,c.w.cell? ⟨g,i*r.size+j,none⟩=some v∧N7 c ids g (i*r.size+j)∧v.oneCell'=true∧dC (N7 c ids) c.w p v:=by
 obtain⟨v,h1,h2,h3⟩:=uN hI hr hβ hi hj
 refine⟨v,h1, .inr ⟨id,iA,⟨r,hr⟩,by simp [hβ,Value.ownBlock]⟩,h2,?_⟩
 have h4:=h3.rep (hp id iA r hr el (List.mem_of_getElem? hi) p (List.mem_of_getElem? hj))
 exact dC.mono (fun _ _ h => .inl h) (fun _ _ _=>rfl) _ _ h4
theorem F8(hI:Inv w0 S0 c){ids:List Nat}(hp:∀id∈ids,∀r,c.rows id=some r → ∀e∈r.els,∀p∈e,cW p=true){p:PV}{v:Value}(h:aQ c p v)(tE:∀id∈a9 p,id∈ids)(wV:cW (fz c.rows p)=true) :
  dC (N7 c ids) c.w (fz c.rows p) v:=by
 have mono:∀q u,dC c.S c.w q u→dC (N7 c ids) c.w q u:=fun q u=>dC.mono (fun _ _ h => .inl h) (fun _ _ _=>rfl) q u
 cases p with
 | own id ver off len =>
  simp only [fz]at wV ⊢
  have iA:id∈ids:=tE id (by simp [a9])
  cases hr:c.rows id with
  | none=>simp [hr,cW]at wV
  | some r =>
   simp only [hr]at wV ⊢
   by_cases hv:r.ver=ver
   ·simp only [hv,if_true]at wV ⊢
    simp only [aQ]at h
    obtain⟨hle,h⟩:=h.2 r hr hv
    obtain⟨⟨xs,iO,_,_⟩,hlen,_⟩:=hI.row id r hr
    have ad6:∀A m cap,c.β id = .slice A m cap→r.els.length≤cap∧cap≤maxLen:=by
     intro A m cap hβ
     rw [hβ]at iO
     rcases iO.2 with ⟨h',hz⟩ | ⟨g,iY,cur,h',_,_,NZ,hm,_⟩
     ·simp at h';exact⟨by omega,by rw [h'.2.2];simp⟩
     ·simp at h';obtain⟨_,_,rfl⟩:=h';exact⟨NZ,hm⟩
    have N8:((r.els.drop off).take len).length=len:=by simp;omega
    have els:∀g n cap,c.β id = .slice (some ⟨g,0,none⟩) n cap→fH (N7 c ids) c.w g (off*r.size) ((r.els.drop off).take len):=by
     intro g n cap hβ
     refine n5 (n:=r.size) (fun e he=>hlen e (List.mem_of_mem_drop (List.mem_of_mem_take he))) fun k e hk=>?_
     rw [List.getElem?_take]at hk
     split at hk
     ·rw [List.getElem?_drop]at hk
      refine jC fun j q hq=>?_
      have:=R6 hI hp iA hr hβ hk hq
      rw [show off*r.size+k*r.size+j=(off+k)*r.size+j by rw [Nat.add_mul]];exact this
     ·cases hk
    simp only [dC]
    rw [N8]
    rcases h with ⟨rfl,A,n,cap,hβ,rfl⟩ | ⟨lA,g,n,cap,A,hβ,hoc,rfl,ha⟩
    ·obtain⟨c1,c2⟩:=ad6 _ _ _ hβ
     refine⟨A,cap,rfl,by omega,c2,?_⟩
     rcases Nat.eq_zero_or_pos len with h0 | h0
     ·left;exact List.eq_nil_of_length_eq_zero (by rw [N8];exact h0)
     ·right
      obtain⟨g,iY,qH⟩:=qG hI hr (by omega)
      rw [hβ]at qH
      simp only [Value.slice.injEq]at qH
      obtain⟨rfl,rfl,rfl⟩:=qH
      exact⟨g,0,rfl,by simpa using els g _ _ hβ⟩
    ·obtain⟨c1,c2⟩:=ad6 _ _ _ hβ
     refine⟨some A,cap-off,rfl,by omega,by omega,?_⟩
     rcases ha with rfl | rfl
     ·left;exact List.eq_nil_of_length_eq_zero N8
     ·right;exact⟨g,off*r.size,rfl,els g n cap hβ⟩
   ·simp [hv,cW]at wV
 | ptr id ver i j =>
  simp only [fz]at wV ⊢
  have iA:id∈ids:=tE id (by simp [a9])
  cases hr:c.rows id with
  | none=>simp [hr,cW]at wV
  | some r =>
   simp only [hr]at wV ⊢
   by_cases hv:r.ver=ver
   ·simp only [hv,if_true]at wV ⊢
    simp only [aQ]at h
    obtain⟨g,n,cap,hβ,rfl⟩:=h.2 r hr hv
    simp only [dC]
    refine⟨g,i*r.size+j,rfl,jC fun k q hq=>?_⟩
    rw [List.getElem?_drop]at hq
    cases oQ:r.els[i]? with
    | none=>simp [List.getD,oQ]at hq
    | some el =>
     have hq':el[j+k]? = some q:=by simpa [List.getD,oQ]using hq
     have:=R6 hI hp iA hr hβ oQ hq'
     rw [show i*r.size+j+k=i*r.size+(j+k)by omega];exact this
   ·simp [hv,cW]at wV
 | nil =>
  simp only [aQ,dC]at h
  subst h
  simp only [fz,dC]
  exact⟨none,0,rfl,by simp,by simp [maxLen], .inl (by first | rfl | trivial)⟩
 | jB l =>
  simp only [fz]
  have:=mono _ _ (show dC c.S c.w (.jB l) v by simpa only [aQ]using h)
  simp only [dC]at this ⊢
  obtain⟨A,rfl,h1,h2⟩:=this
  exact⟨A,l.length,rfl,Nat.le_refl _,h1,h2⟩
 | undef=>simp [fz,cW]at wV
 | _=>simp only [fz];exact mono _ _ (by simpa only [aQ]using h)
theorem F9(hI:Inv w0 S0 c){ids:List Nat}(hp:∀id∈ids,∀r,c.rows id=some r → ∀e∈r.els,∀p∈e,cW p=true){p:PV}{v:Value}(h:aK c p v)(tE:∀id∈dW p,id∈ids)(wV:fV (pz c.rows p)=true) :
  dC (N7 c ids) c.w (pz c.rows p) v:=by
 cases p with
 | ag l =>
  obtain⟨vs,rfl,JA⟩:=h
  simp only [pz,fV]at wV ⊢
  simp only [dC]
  refine⟨vs,rfl,cZ.2 (bE.dO (by simp [JA.length]) fun k q u hq hu=>?_)⟩
  simp at hq
  obtain⟨q',hq',rfl⟩:=hq
  obtain⟨u',h1,h2⟩:=JA.get hq'
  rw [hu]at h1;cases h1
  refine F8 hI hp h2 (fun id iA=>tE id ?_) (List.all_eq_true.1 wV _ (by simp;exact⟨q',List.mem_of_getElem? hq',rfl⟩))
  simp only [dW,List.mem_flatMap]
  exact⟨q',List.mem_of_getElem? hq',iA⟩
 | _ =>
  simp only [pz]at wV ⊢
  refine F8 hI hp (by simpa only [aK]using h) (fun id iA=>tE id (by simpa only [dW]using iA)) ?_
  revert wV
  simp only [fz]
  first
   | (intro wV;simpa only [fV]using wV)
   | (split
      · split
        · intro _;rfl
        · intro wV;exact wV
      · intro wV;exact wV)
end
theorem yB{α:Type}{n:Nat}:∀ {els:List (List α)},(∀e∈els,e.length=n) → ∀ {i:Nat} {el:List α},els[i]? = some el → ∀(j:Nat) (l:List α),j+l.length≤el.length →
  (els.set i (el.take j++l++el.drop (j+l.length))).flatten=els.flatten.take (i*n+j)++l++els.flatten.drop (i*n+j+l.length)
 | [],_,_,_,h,_,_,_=>by simp at h
 | q::els,hn,0,el,h,j,l,hjl=>by
  simp at h
  subst h
  simp only [List.set_cons_zero,List.flatten_cons,Nat.zero_mul,Nat.zero_add]
  rw [List.take_append_of_le_length (by omega),List.drop_append_of_le_length hjl]
  simp
 | q::els,hn,i+1,el,h,j,l,hjl=>by
  have hq:q.length=n:=hn q (by simp)
  have ih:=yB (els:=els) (n:=n) (fun e he=>hn e (by simp [he])) (i:=i) (el:=el) (by simpa using h) j l hjl
  simp only [List.set_cons_succ,List.flatten_cons,ih]
  have e1:(i+1)*n+j=q.length+(i*n+j):=by rw [hq,Nat.add_mul];omega
  have e2:(i+1)*n+j+l.length=q.length+(i*n+j+l.length):=by omega
  rw [e1,show q.length+(i*n+j)+l.length=q.length+(i*n+j+l.length)by omega,List.take_length_add_append,List.drop_length_add_append]
  simp
def qJ(E:Env)(t:TypeId)(rows:Rows)(p x v:PV)(u:Option (Nat × Row)):Prop:=
 (E.ty t).known=true∧v = .undef ∧
 match p with
 | .ptr id ver i j=>∃r,rows id=some r∧r.ver=ver ∧ ∃el,r.els[i]? = some el ∧ ∃l,cD x=some l∧(∀q∈l,iP rows q)∧l.length=(E.ty t).size∧j+l.length≤el.length ∧
   u=some (id,{ r with els:=r.els.set i (el.take j++l++el.drop (j+l.length)) })
 | _=>False
def gV(n:Nat):Nat→List (Nat × PV)→Option (List (List PV))
 | _,[]=>some []
 | k,(i,p)::ps =>
  match cD p with
  | some l=>if i=k∧l.length=n then(gV n (k+1) ps).map (l :: ·)else none
  | none=>none
def N9(t:TI)(rows:Rows)(len:Nat)(parts:List (Nat × PV))(v:PV):Prop:=
 match t with
 | .slice _ n _ _=>∃els,gV n 0 parts=some els∧len=els.length∧len≤4096∧n≤4096∧(∀e∈els,∀p∈e,cW (fz rows p)=true∧iP rows p)∧(∀e∈els,∀p∈e,a9 p = [])∧v = .jB (els.map fun e=>e.map (fz rows))
 | _=>False
def Gs:=PV × Value→Prop
instance:Membership (PV × Value) Gs:=⟨fun G p=>G p⟩
def Gs.none:Gs:=fun _=>False
theorem Gs.JB{p:PV × Value}:¬p∈Gs.none:=id
def VL(P:Program)(f:FuncId)(args:List PV)(rows:Rows)(clk:Nat)(R:PV→Rows→Nat→Prop):Prop:=
 (∃fn c,P.funcs[f]? = some fn∧fn.body=some c∧(fn.name == "runtime.NumGoroutine")=false) ∧
 ∀(w0:World) (S0:dV) (c:Cx) (vs:List Value) (G:Gs),Inv w0 S0 c→c.rows=rows→(∀v,c.used v→v<clk)→bE (aK c) args vs→(∀p∈G,aK c p.1 p.2) →
  Calls P f vs.toArray c.w fun e w'=>∃v c' r kG,e = .returned v∧c'.w=w'∧Inv w0 S0 c'∧(∀p∈G,aK c' p.1 p.2)∧R r c'.rows kG∧(∀v,c'.used v→v<kG)∧aK c' r v
def ajd(E:Env):PV→Bool
 | .fn g _=>E.writes g
 | _=>false
def yC(P:Program)(g:FuncId)(gJ:List PV)(rows:Rows)(clk:Nat)(K:PV→Rows→Nat→Prop):Prop:=
 ∃R,VL P g gJ rows clk R ∧ ∀r rows' kG,R r rows' kG→K r rows' kG
def OA(E:Env)(p:PV)(gJ:List PV)(rows:Rows)(clk:Nat)(K:PV→Rows→Nat→Prop):Prop:=
 match p with
 | .fn g []=>yC E.P g gJ rows clk K
 | _=>False
def yD(E:Env)(f:PV)(args:List PV)(v:PV):Prop:=
 match f with
 | .fn g cL=>(args.all fV=true)∧aH E.P g (args++cL) v
 | _=>False
def ys(E:Env)(op:Op)(ρ:Operand→PV)(rows:Rows)(v:PV)(u:Option (Nat × Row)):Prop:=
 match op with
 | .store t p x=>qJ E t rows (ρ p) (ρ x) v u
 | .buildSlice t len parts=>N9 (E.ty t) rows len (parts.toList.map fun x=>(x.1,ρ x.2)) v∧u=none
 | .call { callee:=.value f,args:=args,argTypes:=_ }=>u=none∧yD E (ρ f) (args.toList.map fun x=>pz rows (ρ x)) v∧(args.toList.flatMap fun x=>dW (ρ x)) = []
 | op=>yv E op ρ rows v∧u=none
def gB(rows:Rows):Option (Nat × Row)→Rows
 | none=>rows
 | some (id,r)=>dX rows id (some r)
section
variable {E:Env} {c:Cx} {w0:World} {S0:dV}
theorem OB(hI:Inv w0 S0 c){t:TypeId}{p x v:PV}{u:Option (Nat × Row)}{vp vx:Value}(hp:aK c p vp)(hx:aK c x vx)(h:qJ E t c.rows p x v u) :
  v = .undef ∧ ∃w',(Instr.storeAt t vp vx).run E.P c.w = .ok () w'∧Inv w0 S0 { c with w:=w',rows:=gB c.rows u }∧sR c { c with w:=w',rows:=gB c.rows u }:=by
 obtain⟨hk,rfl,h⟩:=h
 refine⟨rfl,?_⟩
 split at h
 ·rename_i id ver i j
  obtain⟨r,hr,j6,el,oQ,l,hl,jS,hlen,hjl,rfl⟩:=h
  simp only [aK,aQ]at hp
  obtain⟨g,n,cap,hβ,rfl⟩:=hp.2 r hr j6
  obtain⟨⟨xs,iO,gI,agY⟩,AO,hnS,lA⟩:=hI.row id r hr
  obtain⟨uP,hc2⟩:=lW hx hl jS
  have NT:vx.cells.toList.length=l.length:=uP.length.symm
  have aoY:=iO
  rw [hβ]at iO
  rcases iO.2 with ⟨h',_⟩ | ⟨g',iY,cur,h',VH,hg,NZ,hcm,I0,JC⟩
  ·simp at h'
  ·simp only [Value.slice.injEq,Option.some.injEq,Addr.mk.injEq,and_true]at h'
   obtain⟨rfl,rfl,rfl⟩:=h'
   have hi:i<r.els.length:=(List.getElem?_eq_some_iff.1 oQ).1
   have aA4:el.length=r.size:=AO el (List.mem_of_getElem? oQ)
   have hmul:i*r.size+r.size≤r.els.length*r.size:=by rw [←Nat.succ_mul];exact Nat.mul_le_mul_right _ hi
   have ayg:r.els.length*r.size≤cap*r.size:=Nat.mul_le_mul_right _ NZ
   have aje:i*r.size+j+l.length≤r.els.length*r.size:=by omega
   have j3:=run_storeCells_at E.P g (i*r.size+j) r.e vx.cells.toList 0 cur c.w hg (by rw [NT];omega) hc2
   obtain⟨inf,_,kP,_,R4,_,_⟩:=((E.ok t).zero hk).ok
   have iZ:(Instr.storeAt t (.pointer (some ⟨g,i*r.size+j,none⟩)) vx).run E.P c.w = .ok () (c.w.setRow g (cur.toList.take (i*r.size+j)++vx.cells.toList++cur.toList.drop (i*r.size+j+l.length)).toArray):=by
    have oP:vx.cells.size=inf.size:=by rw [R4,←hlen,←NT];simp
    simp only [Instr.storeAt,Instr.sureAddr,Sem.run_bind,Sem.run_pure,Result.andThen_ok,storeVar,dF kP,oP]
    simp only [Nat.add_zero,NT]at j3
    simpa using j3
   refine⟨_,iZ,?_⟩
   have ZM:(c.w.setRow g (cur.toList.take (i*r.size+j)++vx.cells.toList++cur.toList.drop (i*r.size+j+l.length)).toArray).ownsRow w0.heap.size r.e r.size (c.β id) (r.els.set i (el.take j++l++el.drop (j+l.length))).length
     (xs.take (i*r.size+j)++vx.cells.toList++xs.drop (i*r.size+j+l.length)):=by
    rw [hβ,List.length_set]
    refine⟨?_, .inr ⟨g,cap,_,rfl,VH,setRow_heap _ g cur _ r.e _ hg,NZ,hcm,?_,?_⟩⟩
    ·have:=iO.1
     simp [NT];omega
    ·simp [NT];omega
    ·rw [←JC]
     have auY:cur.toList.length=cap*r.size:=by simp [I0]
     simp only
     rw [List.take_append,List.take_append]
     have e1:List.take (r.els.length*r.size) (cur.toList.take (i*r.size+j))=cur.toList.take (i*r.size+j):=by
      rw [List.take_take,Nat.min_eq_right (by omega)]
     have e2:List.take (i*r.size+j) (cur.toList.take (r.els.length*r.size))=cur.toList.take (i*r.size+j):=by
      rw [List.take_take,Nat.min_eq_left (by omega)]
     rw [e1,e2]
     have e3:(cur.toList.take (i*r.size+j)).length=i*r.size+j:=by rw [List.length_take];omega
     rw [e3]
     have e4:List.take (r.els.length*r.size-(i*r.size+j)) vx.cells.toList=vx.cells.toList:=List.take_of_length_le (by rw [NT];omega)
     rw [e4]
     congr 1
     rw [List.length_append,e3,NT,List.drop_take]
   have AR:bE (aQ c) (r.els.set i (el.take j++l++el.drop (j+l.length))).flatten (xs.take (i*r.size+j)++vx.cells.toList++xs.drop (i*r.size+j+l.length)):=by
    rw [yB AO oQ j l hjl]
    exact((gI.take _).append uP).append (gI.drop _)
   have tF:c.w.grownBy (c.w.setRow g (cur.toList.take (i*r.size+j)++vx.cells.toList++cur.toList.drop (i*r.size+j+l.length)).toArray) (c.β id).ownBlock:=by
    rw [hβ]
    exact⟨rfl,rfl,rfl,by simp,fun k _ hk=>setRow_other _ g k _ (fun e=>hk (by simp [Value.ownBlock,e]))⟩
   exact hI.dX (r':={ r with els:=r.els.set i (el.take j++l++el.drop (j+l.length)) }) hr tF ZM AR (by
    intro y hy
    simp only [List.mem_append]at hy
    rcases hy with (hy | hy) | hy
    ·exact agY y (List.mem_of_mem_take hy)
    ·exact hc2 y hy
    ·exact agY y (List.mem_of_mem_drop hy)) (by
    intro e he
    rcases List.mem_or_eq_of_mem_set he with he | rfl
    ·exact AO e he
    ·simp;omega) rfl rfl (by simp)
 ·exact h.elim
end
section
variable {E:Env} {c:Cx} {w0:World} {S0:dV}
theorem AS{n:Nat}:∀(vs:List (Nat × Value)) (k:Nat) (cells:Array Value),(∀j x,vs[j]? = some x→x.1=k+j∧x.2.cells.size=n)→cells.size=(k+vs.length)*n →
  ∃cU,Instr.fill (fun i=>some (i*n,n)) cells vs=some cU∧cU.toList=cells.toList.take (k*n)++vs.flatMap fun x=>x.2.cells.toList
 | [],k,cells,_,hs=>⟨cells,rfl,by simp at hs;rw [List.take_of_length_le (by simp [hs])];simp⟩
 | (i,v)::vs,k,cells,h,hs=>by
  obtain⟨h1,h2⟩:=h 0 (i,v) (by simp)
  simp only [Nat.add_zero]at h1 h2
  subst h1
  have aje:i*n+n≤cells.size:=by
   rw [hs,List.length_cons,←Nat.succ_mul]
   exact Nat.mul_le_mul_right _ (by omega)
  have hz3:v.cells.toList.zipIdx=v.cells.zipIdx.toList:=by simp
  have EG:=oR (i*n) v.cells.toList 0 cells (by simp [h2];omega)
  have oP:(List.foldl (fun cs (x:Value × Nat)=>cs.setIfInBounds (i*n+x.2) x.1) cells v.cells.toList.zipIdx).size=cells.size:=by
   have:=congrArg List.length EG
   simp only [Array.length_toList]at this
   rw [this]
   simp [h2]
   omega
  obtain⟨cU,g1,g2⟩:=AS vs (i+1) (List.foldl (fun cs (x:Value × Nat)=>cs.setIfInBounds (i*n+x.2) x.1) cells v.cells.toList.zipIdx)
   (fun j x hx=>by have:=h (j+1) x (by simpa using hx);exact⟨by omega,this.2⟩) (by rw [oP,hs,List.length_cons];congr 1;omega)
  refine⟨cU,?_,?_⟩
  ·simp only [Instr.fill]
   rw [if_neg (by simp [h2];omega),←g1,hz3,Array.foldl_toList]
  ·rw [g2,EG]
   have e1:(cells.toList.take (i*n+0)).length=i*n:=by rw [List.length_take];simp;omega
   have e2:v.cells.toList.length=n:=by simp [h2]
   rw [show(i+1)*n=i*n+n by rw [Nat.add_mul];omega]
   rw [List.take_append,List.length_append,e1,e2,Nat.sub_self,List.take_zero,List.append_nil,List.take_of_length_le (by rw [List.length_append,e1,e2];exact Nat.le_refl _)]
   simp [List.append_assoc]
theorem nJ{n:Nat}:∀ {ps:List (Nat × PV)} {k:Nat} {els:List (List PV)},gV n k ps=some els→els.length=ps.length∧(∀e∈els,e.length=n) ∧ ∀j x,ps[j]? = some x→x.1=k+j ∧ ∃e,els[j]? = some e∧cD x.2=some e
 | [],k,els,h=>by simp [gV]at h;subst h;simp
 | (i,p)::ps,k,els,h=>by
  simp only [gV]at h
  split at h
  ·rename_i l hl
   split at h
   ·rename_i R5
    rw [Option.map_eq_some_iff]at h
    obtain⟨zC,h1,rfl⟩:=h
    obtain⟨g1,g2,g3⟩:=nJ h1
    refine⟨by simp [g1],fun e he=>?_,fun j x hx=>?_⟩
    ·simp at he
     rcases he with rfl | he
     ·exact R5.2
     ·exact g2 e he
    ·match j with
     | 0=>simp at hx;subst hx;exact⟨by simpa using R5.1,l,by simp,hl⟩
     | j+1 =>
      obtain⟨q1,q2⟩:=g3 j x (by simpa using hx)
      exact⟨by omega,by simpa using q2⟩
   ·cases h
  ·cases h
theorem Inv.auZ(hI:Inv w0 S0 c)(o:Obj):Inv w0 S0 { c with w:=c.w.alloc o,S:=fun b k=>c.S b k∨b=c.w.heap.size }∧sR c { c with w:=c.w.alloc o,S:=fun b k=>c.S b k∨b=c.w.heap.size }:=by
 have:=hI.grow (w':=c.w.alloc o) (S':=fun b k=>c.S b k∨b=c.w.heap.size) ((Below.refl _ _).alloc (Nat.le_refl _) o) (fun _ _ h => .inl h) (fun b k h=>h.imp (fun h=>h) fun h=>by subst h;simp)
 exact this
theorem ZN{p:PV}{v:Value}(hI:Inv w0 S0 c)(h:aQ c p v)(tE:a9 p = [])(wV:cW (fz c.rows p)=true):dC c.S c.w (fz c.rows p) v:=by
 have:=F8 hI (ids:=[]) (by simp) h (by simp [tE]) wV
 exact dC.mono (fun b o h=>by rcases h with h | ⟨id,iA,_⟩;exact h;cases iA) (fun _ _ _=>rfl) _ _ this
theorem AU(hI:Inv w0 S0 c){t e:TypeId}{n bb len:Nat}{z:List PV}(hE:E.ty t = .slice e n bb z){parts:Array (Nat × Operand)}{ρ:Operand→PV}{vρ:Operand→Value}(hρ:∀x,aK c (ρ x) (vρ x))
  {els:List (List PV)} (AO:gV n 0 (parts.toList.map fun x=>(x.1,ρ x.2))=some els) (hlen:len=els.length) (hsm:len≤4096) (hn:n≤4096)
  (wV:∀e∈els,∀p∈e,cW (fz c.rows p)=true∧iP c.rows p) (tE:∀e∈els,∀p∈e,a9 p = []) :
  ∃v' c',(Instr.buildSlice t len (parts.map fun(i,x)=>(i,vρ x))).run E.P c.w = .ok v' c'.w∧c'.rows=c.rows∧c'.used=c.used∧Inv w0 S0 c'∧sR c c'∧aK c' (.jB (els.map fun e=>e.map (fz c.rows))) v':=by
 obtain⟨hu,hnp,GB,i,zv,hi,hz,hs,_,N6,_⟩:=fK hE
 obtain⟨g1,g2,g3⟩:=nJ AO
 have R7:parts.size=els.length:=by rw [g1];simp
 have au0:zv.cells.size=n:=by rw [←GB,←N6];simp
 have EJ:∀j (x:Nat × Value),((parts.map fun(i,x)=>(i,vρ x)).toList)[j]? = some x→x.1=0+j ∧ ∃e,els[j]? = some e∧bE (aQ c) e x.2.cells.toList ∧ ∀u∈x.2.cells.toList,u.oneCell'=true:=by
  intro j x hx
  simp at hx
  obtain⟨a,b,iJ,rfl⟩:=hx
  obtain⟨q1,e,q2,q3⟩:=g3 j (a,ρ b) (by simp;exact⟨a,b,iJ,rfl,rfl⟩)
  have q4:=lW (hρ b) q3 (fun q hq=>(wV e (List.mem_of_getElem? q2) q hq).2)
  exact⟨q1,e,q2,q4.1,q4.2⟩
 obtain⟨cU,f1,f2⟩:=AS (n:=n) (parts.map fun(i,x)=>(i,vρ x)).toList 0 ((Array.range (len*n)).map (zv.cells[· % zv.cells.size]!)) (fun j x hx=>by
  obtain⟨q1,e,q2,q3,_⟩:=EJ j x hx
  refine⟨q1,?_⟩
  have:=q3.length
  rw [g2 e (List.mem_of_getElem? q2)]at this
  simpa using this.symm) (by simp [R7,hlen])
 simp only [Nat.zero_mul,List.take_zero,List.nil_append]at f2
 have iZ:(Instr.buildSlice t len (parts.map fun(i,x)=>(i,vρ x))).run E.P c.w = .ok (.slice (some ⟨c.w.heap.size,0,none⟩) len len) (c.w.alloc (.cells cU e)):=by
  have hbound:¬(16777216<len*n):=by
   have:len*n≤4096*4096:=Nat.mul_le_mul hsm hn
   omega
  by_cases h0:len*n=0
  ·have DK:len=0:=by
    rcases Nat.mul_eq_zero.1 h0 with h | h
    ·exact h
    ·omega
   have hp0:parts = #[]:=Array.eq_empty_of_size_eq_zero (by omega)
   subst hp0
   subst DK
   simp [Instr.fill]at f1
   subst f1
   have I2:Array.range 0 = #[]:=rfl
   simp [Instr.buildSlice,run_underlying hu,dF hi,newRow,Instr.fill,I2]
  ·have f1':Instr.fill (fun i=>some (i*n,n)) ((Array.range (len*n)).map (zv.cells[· % zv.cells.size]!)) (parts.toList.map fun x=>(x.1,vρ x.2))=some cU:=by simpa using f1
   simp only [Instr.buildSlice,Sem.run_bind,run_underlying hu,Result.andThen_ok,dF hi,hs]
   simp [h0,hbound,newRow,zeroValue,typeInfo,hi,hz,f1']
 obtain⟨wN,hA⟩:=hI.auZ (.cells cU e)
 refine⟨_,{ c with w:=c.w.alloc (.cells cU e),S:=fun b k=>c.S b k∨b=c.w.heap.size },iZ,rfl,rfl,wN,hA,?_⟩
 simp only [aK,aQ,dC]
 refine⟨some ⟨c.w.heap.size,0,none⟩,by rw [List.length_map,hlen],by rw [List.length_map,←hlen];simp [maxLen];omega, .inr ⟨_,_,rfl,?_⟩⟩
 refine n5 (n:=n) (by
  intro e' rR
  simp at rR
  obtain⟨e1,he1,rfl⟩:=rR
  simpa using g2 e1 he1) fun k el hk=>?_
 simp at hk
 obtain⟨e1,he1,rfl⟩:=hk
 refine jC fun j p hj=>?_
 simp at hj
 obtain⟨q,hq,rfl⟩:=hj
 have hkl:k<els.length:=(List.getElem?_eq_some_iff.1 he1).1
 obtain⟨x,hx⟩:∃x,((parts.map fun(i,x)=>(i,vρ x)).toList)[k]? = some x:=⟨_,List.getElem?_eq_getElem (by simp;omega)⟩
 obtain⟨_,e2,q2,q3,q4⟩:=EJ k x hx
 rw [he1]at q2;cases q2
 obtain⟨u,hu1,hu2⟩:=q3.get hq
 have aoZ:cU.toList[k*n+j]? = some u:=by
  have e3:cU.toList=((parts.map fun(i,x)=>(i,vρ x)).toList.map fun x=>x.2.cells.toList).flatten:=by rw [f2,List.flatMap_def]
  rw [e3]
  refine jD (n:=n) (fun e he=>?_) (i:=k) (e:=x.2.cells.toList) (by rw [List.getElem?_map,hx];rfl) hu1
  simp only [List.mem_map]at he
  obtain⟨y,hy,rfl⟩:=he
  obtain⟨k',wM⟩:=List.getElem?_of_mem hy
  obtain⟨_,e4,q5,q6,_⟩:=EJ k' y wM
  rw [←q6.length];exact g2 e4 (List.mem_of_getElem? q5)
 refine⟨u,?_, .inr rfl,q4 u (List.mem_of_getElem? hu1),?_⟩
 ·have:=heap_alloc_new c.w (.cells cU e)
  rw [cell_of_row _ _ _ _ _ _ this]
  simpa using aoZ
 ·exact dC.mono hA.S hA.w _ _ (ZN hI hu2 (tE e1 (List.mem_of_getElem? he1) q (List.mem_of_getElem? hq)) (wV e1 (List.mem_of_getElem? he1) q (List.mem_of_getElem? hq)).1)
end
section
variable {E:Env} {c:Cx} {w0:World} {S0:dV}
theorem lZ{P:Program}{g:FuncId}{fn:Func}{b:Code}(h1:P.funcs[g]? = some fn)(h2:fn.body=some b) (h3:(fn.name == "runtime.NumGoroutine") = false) (args:Array Value) (w:World) :
  (callFunc g args).run P w = .ok (.enter g args) w:=by
 simp only [callFunc,Sem.run_bind,program,Sem.run,Result.andThen_ok,h1,h2,h3]
 simp
theorem yE(hI:Inv w0 S0 c){ids:List Nat}(hp:∀id∈ids,∀r,c.rows id=some r → ∀e∈r.els,∀p∈e,cW p=true){pf:PV}{vf:Value}{R8:List PV}{yF:List Value}
  (hf:aK c pf vf) (fX:bE (aK c) R8 yF) (tE:∀p∈R8,∀id∈dW p,id∈ids) {v:PV} (h:yD E pf (R8.map (pz c.rows)) v) {K:Value→World→Prop}
  (hK:∀v' c',c'.rows=EI c.rows ids→c'.used=c.used→sR c c'→Inv w0 S0 c'→aK c' v v'→K v' c'.w) :
  ∃g cs,vf = .func (.func g) #[] cs∧(callFunc g (yF.toArray++cs)).run E.P c.w = .ok (.enter g (yF.toArray++cs)) c.w ∧
   Calls E.P g (yF.toArray++cs) c.w fun e w'=>∃v',e = .returned v'∧K v' w':=by
 unfold yD at h
 split at h
 ·rename_i g cL
  obtain⟨sY,⟨fn,b,h1,h2,h3⟩,OC⟩:=h
  simp only [aK,aQ,dC]at hf
  obtain⟨cs,rfl,I0⟩:=hf
  refine⟨g,cs.toArray,rfl,lZ h1 h2 h3 _ _,?_⟩
  have JD:=hI.freeze ids
  have dM:∀b o,N7 c ids b o→b<c.w.heap.size:=fun b o hb=>JD.lt (c:=DJ c ids) hb
  have gI:bH (N7 c ids) c.w (R8.map (pz c.rows)++cL) (yF++cs):=by
   refine cZ.2 (bE.append (bE.dO (by simp [fX.length]) fun k p u uJ hu=>?_) ?_)
   ·simp at uJ
    obtain⟨q,hq,rfl⟩:=uJ
    obtain⟨u',g1,g2⟩:=fX.get hq
    rw [hu]at g1;cases g1
    exact F9 hI hp g2 (tE q (List.mem_of_getElem? hq)) (List.all_eq_true.1 sY _ (by simp;exact⟨q,List.mem_of_getElem? hq,rfl⟩))
   ·exact(cZ.1 I0).mono fun a b iJ=>dC.mono (fun _ _ h => .inl h) (fun _ _ _=>rfl) a b iJ
  have:=OC c.w (N7 c ids) (yF++cs) dM gI
  rw [show(yF++cs).toArray=yF.toArray++cs.toArray by simp]at this
  refine this.mono ?_
  rintro e w' ⟨v',rfl,hb,S',g1,g2,g3⟩
  refine⟨v',rfl,?_⟩
  obtain⟨hI2,hA2⟩:=JD.grow (c:=DJ c ids) hb g1 g2
  have hA:sR c { DJ c ids with S:=S',w:=w' }:=by
   have hA1:=lK c ids
   exact⟨fun b o h=>g1 b o (hA1.S b o h),fun b o h=>(hA2.w b o (hA1.S b o h)).trans (hA1.w b o h),fun _ h=>h,hA1.rows⟩
  exact hK v' { DJ c ids with S:=S',w:=w' } rfl rfl hA hI2 (aK.jR g3)
 ·exact h.elim
structure p7(w0:World)(S0:dV)(n:Nat)(G:Gs)(U:Nat→Prop)(f:Nat→PV)(rows:Rows)(a:Act)(w:World):Prop where
 ex:∃c:Cx,c.w=w∧c.rows=rows∧(∀v,c.used v→U v)∧Inv w0 S0 c∧(∀s,aK c (f s) (a.tmps.getD s undef)) ∧ ∀p∈G,aK c p.1 p.2
 size:a.tmps.size=n
 defers:a.defers = []
abbrev Rel(w0:World)(S0:dV)(n:Nat)(G:Gs)(σ:PS)(a:Act)(w:World):Prop:=p7 w0 S0 n G (fun v=>v<σ.clock) σ.f σ.rows a w
theorem p7.mono{w0:World}{S0:dV}{n:Nat}{G:Gs}{U U':Nat→Prop}{f:Nat→PV}{rows:Rows}{a:Act}{w:World}(hU:∀v,U v→U' v)(h:p7 w0 S0 n G U f rows a w):p7 w0 S0 n G U' f rows a w:=by
 obtain⟨⟨c,h1,h2,h3,h4⟩,h5,h6⟩:=h
 exact⟨⟨c,h1,h2,fun v hv=>hU v (h3 v hv),h4⟩,h5,h6⟩
theorem n6{n:Nat}{G:Gs}{U:Nat→Prop}{f:Nat→PV}{a:Act}{c':Cx}{v:PV}{v':Value}{d:Option Tmp}(hf:∀s,aK c (f s) (a.tmps.getD s undef))(hG:∀p∈G,aK c p.1 p.2)(hn:a.tmps.size=n)(fC:a.defers = [])
  (hA:sR c c') (hI:Inv w0 S0 c') (hv:aK c' v v') (hd:∀t,d=some t→t<n) {f':Nat→PV} {rows:Rows} (h1:f'=put f d v) (h2:rows=c'.rows) (h3:∀v,c'.used v→U v):p7 w0 S0 n G U f' rows (a.put d v') c'.w:=by
 refine⟨⟨c',rfl,h2.symm,h3,hI,fun s=>?_,fun p hp=>aK.tB hA _ _ (hG p hp)⟩,?_,?_⟩
 ·rw [h1]
  cases d with
  | none=>exact aK.tB hA _ _ (hf s)
  | some t =>
   simp only [put,Act.put]
   by_cases hs:s=t
   ·subst hs
    have:s<a.tmps.size:=by rw [hn];exact hd s rfl
    simpa [this]using hv
   ·rw [if_neg hs]
    have:=aK.tB hA _ _ (hf s)
    simpa [Array.getElem?_setIfInBounds_ne (Ne.symm hs)]using this
 ·cases d<;>simp [Act.put,hn]
 ·cases d<;>simp [Act.put,fC]
theorem lL{n:Nat}{G:Gs}{f:Nat→PV}{a:Act}{c':Cx}{v:PV}{v':Value}{d:Option Tmp}(hf:∀s,aK c (f s) (a.tmps.getD s undef))(hG:∀p∈G,aK c p.1 p.2)(hn:a.tmps.size=n)(fC:a.defers = [])
  (hA:sR c c') (hI:Inv w0 S0 c') (hv:aK c' v v') (hd:∀t,d=some t→t<n) {σ:PS} (h1:σ.f=put f d v) (h2:σ.rows=c'.rows) (h3:∀v,c'.used v→v<σ.clock):Rel w0 S0 n G σ (a.put d v') c'.w:=
 n6 hf hG hn fC hA hI hv hd h1 h2 h3
theorem ZO{n:Nat}{G:Gs}{f:Nat→PV}{a:Act}{c':Cx}{v:PV}{v':Value}{d:Option Tmp}(hf:∀s,aK c' (f s) (a.tmps.getD s undef))(hG:∀p∈G,aK c' p.1 p.2)(hn:a.tmps.size=n)(fC:a.defers = [])
  (hI:Inv w0 S0 c') (hv:aK c' v v') (hd:∀t,d=some t→t<n) {σ:PS} (h1:σ.f=put f d v) (h2:σ.rows=c'.rows) (h3:∀v,c'.used v→v<σ.clock):Rel w0 S0 n G σ (a.put d v') c'.w:=
 lL hf hG hn fC (sR.refl c') hI hv hd h1 h2 h3
theorem JE{o:Oper}{a:Act}{f:Nat→PV}(hI:Inv w0 S0 c)(hf:∀s,aK c (f s) (a.tmps.getD s undef)){v:PV}{u:Option (Nat × Row)}(h:ys E o.op (aS f) c.rows v u)
  {K:Act→World→Prop} {Q:Exit→Act→World→Prop}
  (hK:∀v' c',c'.rows=gB c.rows u→c'.used=c.used→sR c c'→Inv w0 S0 c'→aK c' v v'→K (a.put o.dst v') c'.w):o.wp E.P a c.w K Q:=by
 have hρ:=lJ hf
 have plain:yv E o.op (aS f) c.rows v∧u=none→o.wp E.P a c.w K Q:=by
  rintro⟨hv,rfl⟩
  obtain⟨v',h1,h2⟩:=ajb hI hf hv
  unfold Oper.wp
  rw [h1]
  exact hK v' c rfl rfl (sR.refl c) hI h2
 obtain⟨dst,op,type,pos,after,guard⟩:=o
 simp only at h hK plain
 unfold ys at h
 split at h
 ·rename_i t p x
  obtain⟨rfl,w',h1,h2,h3⟩:=OB hI (hρ p) (hρ x) h
  unfold Oper.wp
  have:(execOp a.eval { dst:=dst,op:=.store t p x,type:=type,pos:=pos,after:=after,guard:=guard }).run E.P c.w = .ok .skip w':=by simp [execOp,h1]
  rw [this]
  exact hK undef { c with w:=w',rows:=gB c.rows u } rfl rfl h3 h2 (by simp [aK,aQ])
 ·rename_i t len parts
  obtain⟨h,rfl⟩:=h
  unfold N9 at h
  split at h
  ·rename_i e n bb z hE
   obtain⟨els,h1,h2,h3,h4,h5,h6,rfl⟩:=h
   obtain⟨v',c',g1,g2,g3,g4,g5,g6⟩:=AU hI hE hρ h1 h2 h3 h4 h5 h6
   unfold Oper.wp
   have:(execOp a.eval { dst:=dst,op:=.buildSlice t len parts,type:=type,pos:=pos,after:=after,guard:=guard }).run E.P c.w = .ok (.value v') c'.w:=by
    simp only [execOp,Sem.run_bind,g1,Result.andThen_ok,Sem.run_pure]
   rw [this]
   exact hK v' c' g2 g3 g5 g4 g6
  ·exact h.elim
 ·rename_i fo args ts
  obtain⟨rfl,hc,tE⟩:=h
  have fX:bE (aK c) (args.toList.map fun x=>aS f x) (args.map a.eval).toList:=by
   refine bE.dO (by simp) fun k p u hp hu=>?_
   simp at hp hu
   obtain⟨x,hx,rfl⟩:=hp
   obtain⟨y,hy,rfl⟩:=hu
   rw [hx]at hy;cases hy
   exact hρ x
  have VI:yD E (aS f fo) ((args.toList.map fun x=>aS f x).map (pz c.rows)) v:=by rw [List.map_map];exact hc
  obtain⟨g,cs,h1,h2,h3⟩:=yE hI (ids:=[]) (by simp) (hρ fo) fX (by
   intro p hp id iA
   simp at hp
   obtain⟨x,hx,rfl⟩:=hp
   have:id∈args.toList.flatMap fun x=>dW (aS f x):=by simp only [List.mem_flatMap];exact⟨x,by simpa using hx,iA⟩
   rw [tE]at this;exact this) VI (K:=fun v' w'=>K (a.put dst v') w') (fun v' c' q1 q2 q3 q4 q5=>hK v' c' (by rw [q1];funext j;simp [EI,gB]) q2 q3 q4 q5)
  unfold Oper.wp
  have iZ:(execOp a.eval { dst:=dst,op:=.call { callee:=.value fo,args:=args,argTypes:=ts },type:=type,pos:=pos,after:=after,guard:=guard }).run E.P c.w = .ok (.enter g (args.map a.eval++cs)) c.w:=by
   simp only [execOp,resolve,h1,Deferred.ofValue,Sem.run_bind,Sem.run_pure,Result.andThen_ok,invoke]
   simp only [Array.toArray_toList]at h2
   simpa only [Array.empty_append]using h2
  rw [iZ]
  simp only [Array.toArray_toList]at h3
  exact h3.mono fun e w' ⟨v',he,hk⟩=>by subst he;exact hk
 ·exact plain h
end
def room:Nat:=140737488355328
def tG(rows:Rows)(y:PV)(l:List (List PV)):Prop:=
 match y with
 | .nil=>l = []
 | .sl k=>l=k
 | .jB k=>l=k
 | .own id ver off len=>∃r,rows id=some r∧r.ver=ver∧l=(r.els.drop off).take len
 | _=>False
def eK(rows:Rows)(ids:List Nat):Prop:=∀id∈ids,∀r,rows id=some r → ∀e∈r.els,∀p∈e,cW p=true
def GC(K:PS→Prop)(σ:PS)(d:Option Tmp)(v:PV)(id:Nat)(e:TypeId)(n:Nat)(els:List (List PV)):Prop:=
 K ⟨put σ.f d v,dX σ.rows id (some ⟨σ.clock,e,n,els⟩),σ.clock+1⟩
def GD(E:Env)(o:Oper)(t:TypeId)(x y:PV)(K:PS→Prop)(σ:PS):Prop:=
 match E.ty t with
 | .slice e n b _ =>
  ∃l,tG σ.rows y l∧(∀e∈l,e.length=n) ∧
  match x with
  | .nil=>l.length≤room∧l.length*b≤room∧GC K σ o.dst (.own (o.dst.getD 0) σ.clock 0 l.length) (o.dst.getD 0) e n l
  | .own id ver off len=>∃r,σ.rows id=some r∧r.ver=ver∧off=0∧len≤r.els.length∧r.e=e∧r.size=n∧len+l.length≤room∧(len+l.length)*b≤room ∧
    GC K σ o.dst (.own id σ.clock 0 (len+l.length)) id e n (r.els.take len++l)
  | .jB l0=>(∀e∈l0,e.length=n)∧(∀e∈l,∀p∈e,cW p=true)∧l0.length+l.length≤room∧(l0.length+l.length)*b≤room∧K (σ.put o.dst (.sl (l0++l)))
  | _=>False
 | _=>False
def EK(K:Nat→(Nat→PV)→Rows→Prop)(ver:Nat)(f:Nat→PV)(rows:Rows)(d:Option Tmp)(v:PV)(id:Nat)(e:TypeId)(n:Nat)(els:List (List PV)):Prop:=
 K 1 (put f d v) (dX rows id (some ⟨ver,e,n,els⟩))
def n7(E:Env)(ver:Nat)(o:Oper)(t:TypeId)(x y:PV)(K:Nat→(Nat→PV)→Rows→Prop)(f:Nat→PV)(rows:Rows):Prop:=
 match E.ty t with
 | .slice e n b _ =>
  ∃l,tG rows y l∧(∀e∈l,e.length=n) ∧
  match x with
  | .nil=>l.length≤room∧l.length*b≤room∧EK K ver f rows o.dst (.own (o.dst.getD 0) ver 0 l.length) (o.dst.getD 0) e n l
  | .own id ao0 off len=>∃r,rows id=some r∧r.ver=ao0∧off=0∧len≤r.els.length∧r.e=e∧r.size=n∧len+l.length≤room∧(len+l.length)*b≤room ∧
    EK K ver f rows o.dst (.own id ver 0 (len+l.length)) id e n (r.els.take len++l)
  | .jB l0=>(∀e∈l0,e.length=n)∧(∀e∈l,∀p∈e,cW p=true)∧l0.length+l.length≤room∧(l0.length+l.length)*b≤room∧K 0 (put f o.dst (.sl (l0++l))) rows
  | _=>False
 | _=>False
def ZP:TI→Bool
 | .slice .. => true
 | _=>false
def eW(E:Env)(o:Oper)(K:PS→Prop)(σ:PS):Prop:=
 match o.op with
 | .alloc t=>(E.ty t).known=true∧GC K σ o.dst (.ptr (o.dst.getD 0) σ.clock 0 0) (o.dst.getD 0) t (E.ty t).size [(E.ty t).zero]
 | .box t x=>(E.ty t).known=true ∧ ∃l,cD (aS σ.f x)=some l∧(∀q∈l,iP σ.rows q)∧l.length=(E.ty t).size∧GC K σ o.dst (.ptr (o.dst.getD 0) σ.clock 0 0) (o.dst.getD 0) t (E.ty t).size [l]
 | .makeSlice t l c =>
  match E.ty t,aS σ.f l,aS σ.f c with
  | .slice e n b z, .int _ x, .int _ y=>0≤x∧x≤y∧y.toNat≤room∧y.toNat*b≤room∧GC K σ o.dst (.own (o.dst.getD 0) σ.clock 0 x.toNat) (o.dst.getD 0) e n (List.replicate x.toNat z)
  | _,_,_=>False
 | .call { callee:=.builtin .append,args:=⟨[x,y]⟩,argTypes:=⟨[t,t2]⟩ }=>(t2=t∨ZP (E.ty t2)=true)∧GD E o t (aS σ.f x) (aS σ.f y) K σ
 | .call { callee:=.builtin .copy,args:=⟨[x,y]⟩,argTypes:=⟨[t,_]⟩ } =>
  match E.ty t,aS σ.f x with
  | .slice _ n _ _, .own id ver off len=>∃r,σ.rows id=some r∧r.ver=ver∧r.size=n∧off+len≤r.els.length ∧ ∃l,tG σ.rows (aS σ.f y) l∧(∀e∈l,e.length=n) ∧
    K ⟨put σ.f o.dst (.int .i64 (min l.length len)),dX σ.rows id (some { r with els:=r.els.take off++l.take len++r.els.drop (off+min l.length len) }),σ.clock⟩
  | _,_=>False
 | .call { callee:=.value f,args:=args,argTypes:=_ }=>if ajd E (aS σ.f f)=true then OA E (aS σ.f f) (args.toList.map (aS σ.f)) σ.rows σ.clock (fun v rows clk=>K ⟨put σ.f o.dst v,rows,clk⟩)
   else ∃v,yD E (aS σ.f f) (args.toList.map fun x=>pz σ.rows (aS σ.f x)) v∧eK σ.rows (args.toList.flatMap fun x=>dW (aS σ.f x)) ∧
   K ⟨put σ.f o.dst v,EI σ.rows (args.toList.flatMap fun x=>dW (aS σ.f x)),σ.clock⟩
 | .makeFunc (.func f) ⟨[]⟩ cL=>(cL.toList.map fun x=>pz σ.rows (aS σ.f x)).all fV=true∧eK σ.rows (cL.toList.flatMap fun x=>dW (aS σ.f x)) ∧
   K ⟨put σ.f o.dst (.fn f (cL.toList.map fun x=>pz σ.rows (aS σ.f x))),EI σ.rows (cL.toList.flatMap fun x=>dW (aS σ.f x)),σ.clock⟩
 | _=>∃v u,ys E o.op (aS σ.f) σ.rows v u∧K ⟨put σ.f o.dst v,gB σ.rows u,σ.clock⟩
def nK(E:Env)(ver:Nat)(o:Oper)(K:Nat→(Nat→PV)→Rows→Prop)(f:Nat→PV)(rows:Rows):Prop:=
 match o.op with
 | .alloc t=>(E.ty t).known=true∧EK K ver f rows o.dst (.ptr (o.dst.getD 0) ver 0 0) (o.dst.getD 0) t (E.ty t).size [(E.ty t).zero]
 | .box t x=>(E.ty t).known=true ∧ ∃l,cD (aS f x)=some l∧(∀q∈l,iP rows q)∧l.length=(E.ty t).size∧EK K ver f rows o.dst (.ptr (o.dst.getD 0) ver 0 0) (o.dst.getD 0) t (E.ty t).size [l]
 | .makeSlice t l c =>
  match E.ty t,aS f l,aS f c with
  | .slice e n b z, .int _ x, .int _ y=>0≤x∧x≤y∧y.toNat≤room∧y.toNat*b≤room∧EK K ver f rows o.dst (.own (o.dst.getD 0) ver 0 x.toNat) (o.dst.getD 0) e n (List.replicate x.toNat z)
  | _,_,_=>False
 | .call { callee:=.builtin .append,args:=⟨[x,y]⟩,argTypes:=⟨[t,t2]⟩ }=>(t2=t∨ZP (E.ty t2)=true)∧n7 E ver o t (aS f x) (aS f y) K f rows
 | _=>False
theorem uQ{n:Nat}(h:n≤room):n≤maxLen:=by unfold room at h;simp only [maxLen];omega
theorem j9{α:Type}{z:List α}:∀ {x k:Nat} {a:α},(List.replicate x z).flatten[k]? = some a→z[k%z.length]? = some a
 | 0,k,a,h=>by simp at h
 | x+1,k,a,h=>by
  rw [List.replicate_succ,List.flatten_cons]at h
  rcases Nat.lt_or_ge k z.length with hk | hk
  ·rw [List.getElem?_append_left hk]at h
   rw [Nat.mod_eq_of_lt hk];exact h
  ·rw [List.getElem?_append_right hk]at h
   have:=j9 h
   rw [←Nat.mod_eq_sub_mod hk]at this;exact this
section
variable {E:Env} {c:Cx} {w0:World} {S0:dV}
theorem tH(hI:Inv w0 S0 c){y:PV}{vy:Value}{l:List (List PV)}{n:Nat}(hy:aK c y vy)(h:tG c.rows y l)(hn:∀e∈l,e.length=n) :
  ∃A cap news,vy = .slice A l.length cap∧news.length=l.length*n∧bE (aQ c) l.flatten news∧(∀u∈news,u.oneCell'=true)∧(A=none→l = []) ∧
   ∀a,A=some a → ∀j u,news[j]? = some u→c.w.cell? (a.add j)=some u:=by
 have fl:∀ {l:List (List PV)},(∀e∈l,e.length=n)→l.flatten.length=l.length*n:=by
  intro l
  induction l with
  | nil=>intro _;simp
  | cons e l ih=>intro h;rw [List.flatten_cons,List.length_append,ih (fun e he=>h e (by simp [he])),h e (by simp),List.length_cons,Nat.add_mul];omega
 have at_:∀(g o cap:Nat),vy = .slice (some ⟨g,o,none⟩) l.length cap →
   (∀k e,l[k]? = some e → ∀j p,e[j]? = some p → ∃v,c.w.cell? ⟨g,o+(k*n+j),none⟩=some v∧v.oneCell'=true∧aQ c p v) → ∃A cap news,vy = .slice A l.length cap∧news.length=l.length*n∧bE (aQ c) l.flatten news∧(∀u∈news,u.oneCell'=true)∧(A=none→l = []) ∧
   ∀a,A=some a → ∀j u,news[j]? = some u→c.w.cell? (a.add j)=some u:=by
  intro g o cap hv hc
  have cellAt:∀k,k<l.length*n → ∃p v,l.flatten[k]? = some p∧c.w.cell? ⟨g,o+k,none⟩=some v∧v.oneCell'=true∧aQ c p v:=by
   intro k hk
   have ZQ:0<n:=by
    rcases Nat.eq_zero_or_pos n with h | h
    ·subst h;simp at hk
    ·exact h
   have hq:k/n<l.length:=(Nat.div_lt_iff_lt_mul ZQ).2 hk
   have he:=hn l[k/n] (List.getElem_mem hq)
   have hj:k%n<l[k/n].length:=by rw [he];exact Nat.mod_lt _ ZQ
   have R9:k/n*n+k%n=k:=by rw [Nat.mul_comm];exact Nat.div_add_mod k n
   obtain⟨v,h1,h2,h3⟩:=hc (k/n) _ (List.getElem?_eq_getElem hq) (k%n) _ (List.getElem?_eq_getElem hj)
   rw [R9]at h1
   have:=jD hn (List.getElem?_eq_getElem hq) (List.getElem?_eq_getElem hj)
   rw [R9]at this
   exact⟨_,v,this,h1,h2,h3⟩
  have hnl:((List.range (l.length*n)).map fun k=>(c.w.cell? ⟨g,o+k,none⟩).getD undef).length=l.length*n:=by simp
  have ZF:∀k u,((List.range (l.length*n)).map fun k=>(c.w.cell? ⟨g,o+k,none⟩).getD undef)[k]? = some u→k<l.length*n ∧ ∃p,l.flatten[k]? = some p∧c.w.cell? ⟨g,o+k,none⟩=some u∧u.oneCell'=true∧aQ c p u:=by
   intro k u hu
   have hk:k<l.length*n:=by rw [←hnl];exact(List.getElem?_eq_some_iff.1 hu).1
   obtain⟨p,v,h1,h2,h3,h4⟩:=cellAt k hk
   rw [List.getElem?_map,List.getElem?_range hk]at hu
   simp only [Option.map_some,h2,Option.getD_some,Option.some.injEq]at hu
   subst hu
   exact⟨hk,p,h1,h2,h3,h4⟩
  refine⟨some ⟨g,o,none⟩,cap,_,hv,hnl,bE.dO (by rw [hnl,fl hn]) fun k p u hp hu=>?_,fun u hu=>?_,by simp,fun a ha j u hu=>?_⟩
  ·obtain⟨_,p',h1,_,_,h4⟩:=ZF k u hu
   rw [hp]at h1;cases h1;exact h4
  ·obtain⟨k,hk⟩:=List.getElem?_of_mem hu
   exact(ZF k u hk).2.choose_spec.2.2.1
  ·cases ha
   rw [iN]
   exact(ZF j u hu).2.choose_spec.2.1
 have empty:∀A cap,vy = .slice A l.length cap→l = [] → ∃A cap news,vy = .slice A l.length cap∧news.length=l.length*n∧bE (aQ c) l.flatten news∧(∀u∈news,u.oneCell'=true)∧(A=none→l = []) ∧
   ∀a,A=some a → ∀j u,news[j]? = some u→c.w.cell? (a.add j)=some u:=by
  rintro A cap hv rfl
  exact⟨A,cap,[],hv,by simp,trivial,by simp,by simp,by simp⟩
 unfold tG at h
 split at h
 ·subst h
  simp only [aK,aQ,dC]at hy
  exact empty none 0 (by rw [hy];rfl) rfl
 ·subst h
  simp only [aK,aQ,dC]at hy
  obtain⟨A,cap,rfl,_,_,hh⟩:=hy
  rcases hh with hh | ⟨g,o,rfl,hr⟩
  ·exact empty A cap rfl hh
  ·refine at_ g o cap rfl fun k e hk j p hj=>?_
   obtain⟨v,h1,_,h3,h4⟩:=iB (iX hr hn hk) hj
   exact⟨v,by rw [←Nat.add_assoc];exact h1,h3,aQ.jR h4⟩
 ·subst h
  simp only [aK,aQ,dC]at hy
  obtain⟨A,rfl,_,hh⟩:=hy
  rcases hh with hh | ⟨g,o,rfl,hr⟩
  ·exact empty A _ rfl hh
  ·refine at_ g o _ rfl fun k e hk j p hj=>?_
   obtain⟨v,h1,_,h3,h4⟩:=iB (iX hr hn hk) hj
   exact⟨v,by rw [←Nat.add_assoc];exact h1,h3,aQ.jR h4⟩
 ·rename_i id ver off len
  obtain⟨r,hr,j6,rfl⟩:=h
  simp only [aK,aQ]at hy
  obtain⟨hle,hy⟩:=hy.2 r hr j6
  have N8:((r.els.drop off).take len).length=len:=by simp;omega
  rw [←N8]at hy
  have oP:∀k e,((r.els.drop off).take len)[k]? = some e→r.els[off+k]? = some e∧r.size=n:=by
   intro k e hk
   have wM:=hk
   rw [List.getElem?_take]at hk
   split at hk
   ·rw [List.getElem?_drop]at hk
    refine⟨hk,?_⟩
    rw [←hn e (List.mem_of_getElem? wM)]
    exact((hI.row id r hr).len e (List.mem_of_getElem? hk)).symm
   ·cases hk
  rcases hy with ⟨h0,A,m,cap,hβ,rfl⟩ | ⟨lA,g,m,cap,A,hβ,hoc,rfl,ha⟩
  ·subst h0
   rcases Nat.eq_zero_or_pos len with h0 | h0
   ·exact empty A cap rfl (List.eq_nil_of_length_eq_zero (by rw [N8];exact h0))
   ·obtain⟨g,iY,qH⟩:=qG hI hr (by omega)
    rw [hβ]at qH
    simp only [Value.slice.injEq]at qH
    obtain⟨rfl,rfl,rfl⟩:=qH
    refine at_ g 0 _ rfl fun k e hk j p hj=>?_
    obtain⟨hk2,hs⟩:=oP k e hk
    have:=uN hI hr hβ hk2 hj
    rw [hs]at this
    simpa using this
  ·rcases ha with ha | rfl
   ·exact empty _ _ rfl (List.eq_nil_of_length_eq_zero ha)
   ·refine at_ g _ _ rfl fun k e hk j p hj=>?_
    obtain⟨hk2,hs⟩:=oP k e hk
    have:=uN hI hr hβ hk2 hj
    rw [hs]at this ⊢
    rw [show off*n+(k*n+j)=(off+k)*n+j by rw [Nat.add_mul];omega];exact this
 ·exact h.elim
end
section
variable {E:Env} {c:Cx} {w0:World} {S0:dV}
theorem wW(hI:Inv w0 S0 c){ver:Nat}(SA:¬c.used ver)(id:Nat)(e:TypeId)(size n cap:Nat)(els:List (List PV))(cells:Array Value)(hn:els.length=n)(NZ:n≤cap)(hcm:cap≤maxLen)(oP:cells.size=cap*size)
  (gI:bE (aQ c) els.flatten (cells.toList.take (n*size))) (jS:∀u∈cells.toList,u.oneCell'=true) (hlen:∀e∈els,e.length=size) (lA:0<size) :
  Inv w0 S0 { c with w:=c.w.alloc (.cells cells e),β:=dX c.β id (.slice (some ⟨c.w.heap.size,0,none⟩) n cap),rows:=dX c.rows id (some ⟨ver,e,size,els⟩),used:=fun v=>v=ver∨c.used v } ∧
  sR c { c with w:=c.w.alloc (.cells cells e),β:=dX c.β id (.slice (some ⟨c.w.heap.size,0,none⟩) n cap),rows:=dX c.rows id (some ⟨ver,e,size,els⟩),used:=fun v=>v=ver∨c.used v }:=by
 refine hI.set (ob:=none) (r':=⟨ver,e,size,els⟩) (xs:=cells.toList.take (n*size)) (World.grownBy_alloc c.w _ none) (by simp) ?_ gI (fun x hx=>jS x (List.mem_of_mem_take hx)) hlen lA ?_ SA
 ·have hle:n*size≤cap*size:=Nat.mul_le_mul_right _ NZ
  refine⟨by simp [hn];omega, .inr ⟨c.w.heap.size,cap,cells,by simp [hn],hI.below.size,heap_alloc_new c.w _,by simp [hn];exact NZ,hcm,oP,by simp [hn]⟩⟩
 ·intro g hg
  simp [Value.ownBlock]at hg
  exact .inr (by omega)
theorem ZS{t:TypeId}{n:Nat}{z:List PV}(h:lB E.P t n z):∃i v,E.P.info? t=some i∧i.zero=some v∧i.size=n∧bE (aQ c) z v.cells.toList∧v.cells.size=n ∧ ∀u∈v.cells.toList,u.oneCell'=true:=by
 obtain⟨i,v,h1,h2,h3,h4,h5⟩:=h.ok
 have hl:v.cells.size=n:=by rw [←h.len,←h4];simp
 refine⟨i,v,h1,h2,h3,?_,hl,fun u hu=>(Array.all_eq_true_iff_forall_mem.1 h5) u (by simpa using hu)⟩
 rw [←h4]
 refine bE.dO (by simp) fun k a b ha hb=>?_
 simp at ha
 obtain⟨u,hu,rfl⟩:=ha
 have:v.cells.toList[k]? = some u:=by simpa using hu
 rw [this]at hb;cases hb
 exact kE _
theorem kU{c':Cx}{id ver n:Nat}{r:Row}(hr:c'.rows id=some r)(hn:r.els.length=n)(hc:c'.used ver){A:Option Addr}{cap:Nat}(hβ:c'.β id = .slice A n cap):aK c' (.own id ver 0 n) (.slice A n cap):=by
 simp only [aK,aQ]
 refine⟨hc,fun r' jP _=>?_⟩
 rw [hr]at jP;cases jP
 exact⟨by omega, .inl ⟨by first | rfl | trivial,A,n,cap,hβ,rfl⟩⟩
theorem ZT{c':Cx}{id ver:Nat}(hc:c'.used ver){g n cap:Nat}(hβ:c'.β id = .slice (some ⟨g,0,none⟩) n cap):aK c' (.ptr id ver 0 0) (.pointer (some ⟨g,0,none⟩)):=by
 simp only [aK,aQ]
 exact⟨hc,fun r' _ _=>⟨g,n,cap,hβ,by simp⟩⟩
theorem sZ{z:Array Value}{N k:Nat}(hk:k<N)(hz:0<z.size):(madeCells z N).toList[k]? = z.toList[k%z.size]? := by
 have hm:k%z.size<z.size:=Nat.mod_lt _ hz
 simp [madeCells,hk,hm]
variable {n:Nat} {G:Gs}
theorem qK{U:Nat→Prop}{ver:Nat}{f:Nat→PV}{rows:Rows}{a:Act}(hr:c.rows=rows)(fF:∀v,c.used v→U v)(hf:∀s,aK c (f s) (a.tmps.getD s undef))(hG:∀p∈G,aK c p.1 p.2)(hn:a.tmps.size=n)(fC:a.defers = [])
  {K:(Nat→PV)→Rows→Prop} {d:Option Tmp} {v:PV} {id:Nat} {e:TypeId} {sz:Nat} {els:List (List PV)} (h:K (put f d v) (dX rows id (some ⟨ver,e,sz,els⟩))) {v':Value} {w':World} {b':Value}
  (hI:Inv w0 S0 { c with w:=w',β:=dX c.β id b',rows:=dX c.rows id (some ⟨ver,e,sz,els⟩),used:=fun v=>v=ver∨c.used v })
  (hA:sR c { c with w:=w',β:=dX c.β id b',rows:=dX c.rows id (some ⟨ver,e,sz,els⟩),used:=fun v=>v=ver∨c.used v })
  (hv:aK { c with w:=w',β:=dX c.β id b',rows:=dX c.rows id (some ⟨ver,e,sz,els⟩),used:=fun v=>v=ver∨c.used v } v v') (hd:∀t,d=some t→t<n) :
  ∃f' rows',K f' rows'∧p7 w0 S0 n G (fun v=>v=ver∨U v) f' rows' (a.put d v') w':=by
 refine⟨_,_,h,?_⟩
 have:=n6 (U:=fun v=>v=ver∨U v) (f':=put f d v) (rows:=dX rows id (some ⟨ver,e,sz,els⟩)) hf hG hn fC hA hI hv hd rfl (by simp [hr]) (fun v hv=>hv.imp (fun h=>h) (fF v))
 exact this
theorem OD(hI:Inv w0 S0 c){w':World}(hg:c.w.grownBy w' none){e:TypeId}{sz:Nat}{v':Value}{els:List (List PV)}{xs:List Value}(iO:w'.ownsRow c.w.heap.size e sz v' els.length xs)
  (gI:bE (dC c.S c.w) els.flatten xs) (jS:∀u∈xs,u.oneCell'=true) (hlen:∀e∈els,e.length=sz) :
  ∃c',c'.w=w'∧c'.rows=c.rows∧c'.used=c.used∧Inv w0 S0 c'∧sR c c'∧aK c' (.sl els) v':=by
 have hb:Below c.w.heap.size c.w w':=⟨hg.os,hg.tape,hg.output,hg.size,fun k hk=>hg.block k hk (by simp)⟩
 obtain⟨wN,hA⟩:=hI.grow (S':=fun b o=>c.S b o∨(c.w.heap.size≤b∧b<w'.heap.size)) hb (fun _ _ h => .inl h) (fun _ _ h=>h)
 refine⟨{ c with S:=fun b o=>c.S b o∨(c.w.heap.size≤b∧b<w'.heap.size),w:=w' },rfl,rfl,rfl,wN,hA,?_⟩
 simp only [aK,aQ,dC]
 rcases iO.2 with ⟨rfl,h0⟩ | ⟨g,cap,cur,rfl,VH,hh,NZ,hcm,I0,JC⟩
 ·exact⟨none,0,by rw [h0],by omega,by simp [maxLen], .inl (List.eq_nil_of_length_eq_zero h0)⟩
 ·refine⟨_,cap,rfl,NZ,hcm, .inr ⟨g,0,rfl,n5 hlen fun k el hk=>jC fun j p hj=>?_⟩⟩
  have hf:=jD hlen hk hj
  obtain⟨u,hu,hr⟩:=gI.get hf
  have dM:g<w'.heap.size:=(Array.getElem?_eq_some_iff.1 hh).1
  have pT:=iO.cells (g:=g) rfl (k*sz+j) u hu
  rw [iN]at pT
  refine⟨u,?_, .inr ⟨VH,dM⟩,jS u (List.mem_of_getElem? hu),dC.mono hA.S hA.w _ _ hr⟩
  rw [show 0+k*sz+j=0+(k*sz+j)by omega];exact pT
theorem n9{α:Type}{n:Nat}:∀ {l:List (List α)},(∀e∈l,e.length=n) → ∀k,(l.take k).flatten=l.flatten.take (k*n)∧(l.drop k).flatten=l.flatten.drop (k*n)
 | [],_,k=>by simp
 | e::l,_,0=>by simp
 | e::l,h,k+1=>by
  have he:=h e (by simp)
  have ih:=n9 (l:=l) (fun e' rR=>h e' (List.mem_cons_of_mem _ rR)) k
  have h1:(k+1)*n=e.length+k*n:=by rw [he,Nat.add_mul];omega
  simp only [List.take_succ_cons,List.drop_succ_cons,List.flatten_cons,h1,List.take_length_add_append,List.drop_length_add_append,ih.1,ih.2,and_self]
theorem ZU{w:World}{base e sz n k:Nat}{A:Option Addr}{cap:Nat}{xs:List Value}(h:w.ownsRow base e sz (.slice A n cap) n xs)(hk:k≤n):w.ownsRow base e sz (.slice A k cap) k (xs.take (k*sz)):=by
 have hle:k*sz≤n*sz:=Nat.mul_le_mul_right _ hk
 refine⟨by rw [List.length_take,h.1];omega,?_⟩
 rcases h.2 with ⟨h1,h2⟩ | ⟨g,iY,cur,h1,h2,h3,h4,h5,h6,h7⟩
 ·simp only [Value.slice.injEq]at h1
  obtain⟨rfl,_,rfl⟩:=h1
  have uR:k=0:=by omega
  subst uR
  exact .inl ⟨rfl,rfl⟩
 ·simp only [Value.slice.injEq]at h1
  obtain⟨rfl,_,rfl⟩:=h1
  refine .inr ⟨g,cap,cur,rfl,h2,h3,by omega,h5,h6,?_⟩
  rw [←h7,List.take_take,Nat.min_eq_left hle]
theorem VM{P:Program}{w:World}{t t2 ty:TypeId}{e e2:TypeId}{x y:Value}(hu:P.underlying t=some (.slice e))(hu2:P.underlying t2=some (.slice e2)) :
  (Builtin.append_ #[t,t2] ty #[x,y]).run P w=(Builtin.append_ #[t,t] ty #[x,y]).run P w:=by
 unfold Builtin.append_
 simp only [List.getElem?_toArray,List.getElem?_cons_zero,List.getElem?_cons_succ,Sem.run_bind,run_underlying hu,Result.andThen_ok]
 cases x<;>simp [run_underlying hu,run_underlying hu2]
theorem aec{E:Env}{t2:TypeId}(h:ZP (E.ty t2)=true):∃e,E.P.underlying t2=some (.slice e):=by
 cases hE:E.ty t2 with
 | slice e n b z=>exact⟨e,(fK hE).1⟩
 | _=>rw [hE]at h;cases h
theorem AV{U:Nat→Prop}{ver:Nat}(SA:¬U ver){o:Oper}{a:Act}{f:Nat→PV}{rows:Rows}{x y:Operand}{t t2:TypeId}(hop:o.op = .call { callee:=.builtin .append,args:=⟨[x,y]⟩,argTypes:=⟨[t,t2]⟩ })(ht2:t2=t∨ZP (E.ty t2)=true)
  (hI:Inv w0 S0 c) (hr:c.rows=rows) (fF:∀v,c.used v→U v) (hf:∀s,aK c (f s) (a.tmps.getD s undef)) (hG:∀p∈G,aK c p.1 p.2) (hn:a.tmps.size=n) (fC:a.defers = [])
  (hd:∀t,o.dst=some t→t<n) {K:Nat→(Nat→PV)→Rows→Prop} (h:n7 E ver o t (aS f x) (aS f y) K f rows) {K':Act→World→Prop} {Q:Exit→Act→World→Prop} (hK:∀i f' rows' a' w',K i f' rows'→p7 w0 S0 n G (fun v=>(i=1∧v=ver)∨U v) f' rows' a' w'→K' a' w'):o.wp E.P a c.w K' Q:=by
 have hρ:=lJ hf
 have run:∀ {v':Value} {w':World},(Builtin.append_ #[t,t] o.type #[a.eval x,a.eval y]).run E.P c.w = .ok v' w'→K' (a.put o.dst v') w'→o.wp E.P a c.w K' Q:=by
  intro v' w' h1 h2
  unfold Oper.wp
  have YU:(Builtin.append_ #[t,t2] o.type #[a.eval x,a.eval y]).run E.P c.w = .ok v' w':=by
   rcases ht2 with rfl | ht2
   ·exact h1
   ·obtain⟨e2,hu2⟩:=aec ht2
    have hsl:∃e,E.P.underlying t=some (.slice e):=by
     unfold n7 at h
     split at h
     ·rename_i e n b z hE;exact⟨e,(fK hE).1⟩
     ·exact h.elim
    obtain⟨e,hu⟩:=hsl
    rw [VM hu hu2];exact h1
  have:(execOp a.eval o).run E.P c.w = .ok (.value v') w':=by
   simp only [execOp,hop,resolve,invoke,builtin,Sem.run_bind,Sem.run_pure,Result.andThen_ok,List.map_toArray,List.map_cons,List.map_nil,YU]
  rw [this]
  exact h2
 unfold n7 at h
 split at h
 ·rename_i e sz b z hE
  obtain⟨l,hl,hlen,h⟩:=h
  obtain⟨hu,lA,GB,i,zv,hi,hz,hs,hby,N6,_⟩:=fK hE
  have DL:zv.cells.size=sz:=by rw [←GB,←N6];simp
  rw [←hr]at hl
  obtain⟨A,cap,news,hvy,g1,g2,g3,g4,g5⟩:=tH hI (hρ y) hl hlen
  have main:∀(vx:Value) (k:Nat) (xs:List Value),c.w.ownsRow w0.heap.size e sz vx k xs→a.eval x=vx→k+l.length≤room→(k+l.length)*b≤room →
    ∃v' w',(Builtin.append_ #[t,t] o.type #[a.eval x,a.eval y]).run E.P c.w = .ok v' w'∧w'.ownsRow w0.heap.size e sz v' (k+l.length) (xs++news)∧c.w.grownBy w' vx.ownBlock∧(v'.ownBlock=vx.ownBlock∨v'.ownBlock=some c.w.heap.size):=by
   intro vx k xs iO hvx JF GF
   rw [hvx,hvy]
   cases A with
   | some ad =>
    obtain⟨v',w',q1,q2,q3,_,q5⟩:=run_append_own_at (P:=E.P) c.w w0.heap.size t o.type e i zv sz b hu hi hz hs hby DL lA vx k xs iO ad l.length cap news g1 (g5 ad rfl) g3 (uQ JF) (by simpa [room]using GF) hI.below.size
    exact⟨v',w',q1,q2,q3,q5⟩
   | none =>
    have DK:=g4 rfl
    subst DK
    have ZQ:news = []:=List.eq_nil_of_length_eq_zero (by simpa using g1)
    subst ZQ
    refine⟨vx,c.w,?_,by simpa using iO,⟨rfl,rfl,rfl,Nat.le_refl _,fun _ _ _=>rfl⟩, .inl rfl⟩
    rcases iO.2 with ⟨rfl,rfl⟩ | ⟨g,iY,cur,rfl,_,_,NZ,_⟩
    ·simp [Builtin.append_,run_underlying hu,Go.sizeOf,typeInfo,hi,Builtin.lenOf,Builtin.firstCells]
    ·simp [Builtin.append_,run_underlying hu,Go.sizeOf,typeInfo,hi,Builtin.lenOf,Builtin.firstCells,NZ,storeCells]
  split at h
  ·-- ao2 nil
   rename_i heq
   obtain⟨JF,GF,h⟩:=h
   have hx:=hρ x
   rw [heq]at hx
   simp only [aK,aQ,dC]at hx
   obtain⟨v',w',q1,q2,q3,q4⟩:=main (.slice none 0 0) 0 [] (World.ownsRow_nil _ _ _ _) hx (by simpa using JF) (by simpa using GF)
   simp only [Nat.zero_add,List.nil_append]at q2
   obtain⟨wN,hA⟩:=hI.set (ob:=none) (id:=o.dst.getD 0) (r':=⟨ver,e,sz,l⟩) (xs:=news) q3 (by simp) q2 g2 g3 hlen lA (by
    intro g hg
    rcases q4 with q4 | q4
    ·rw [q4]at hg;simp [Value.ownBlock]at hg
    ·rw [q4]at hg;cases hg;exact .inr (Nat.le_refl _)) (fun hu=>SA (fF _ hu))
   have hv:aK { c with w:=w',β:=dX c.β (o.dst.getD 0) v',rows:=dX c.rows (o.dst.getD 0) (some ⟨ver,e,sz,l⟩),used:=fun v=>v=ver∨c.used v } (.own (o.dst.getD 0) ver 0 l.length) v':=by
    have ZV:∃A' iY,v' = .slice A' l.length iY:=by
     rcases q2.2 with ⟨rfl,h0⟩ | ⟨g,iY,cur,rfl,_⟩
     ·exact⟨none,0,by rw [h0]⟩
     ·exact⟨_,iY,rfl⟩
    obtain⟨A',iY,rfl⟩:=ZV
    exact kU (r:=⟨ver,e,sz,l⟩) (by simp [dX]) rfl (Or.inl rfl) (by simp [dX])
   obtain⟨f',rows',hk,AW⟩:=qK (K:=K 1) hr fF hf hG hn fC h wN hA hv hd
   exact run q1 (hK 1 f' rows' _ _ hk (AW.mono fun v hv=>hv.imp (fun h=>⟨rfl,h⟩) fun h=>h))
  ·-- ao2 a row of its own
   rename_i id ao0 off len heq
   obtain⟨r,ZW,j6,rfl,hle,he,oP,JF,GF,h⟩:=h
   rw [←hr]at ZW
   have hx:=hρ x
   rw [heq]at hx
   simp only [aK,aQ]at hx
   obtain⟨⟨xs,iO,gI,jS⟩,uS,hnS,_⟩:=hI.row id r ZW
   obtain⟨A0,m0,ao3,hβ,hxv⟩:∃A' m iY,c.β id = .slice A' m iY∧a.eval x = .slice A' len iY:=by
    rcases(hx.2 r ZW j6).2 with ⟨_,h⟩ | ⟨h0,_⟩
    ·exact h
    ·omega
   have hm:m0=r.els.length:=by
    rw [hβ]at iO
    rcases iO.2 with ⟨h',h0⟩ | ⟨g,ao4,cur,h',_⟩
    ·simp at h';omega
    ·simp at h';exact h'.2.1
   subst hm
   have YV:(c.β id).ownBlock=(Value.slice A0 len ao3).ownBlock:=by rw [hβ];cases A0<;>rfl
   have hbg:=iO.lt
   rw [he,oP,hβ]at iO
   obtain⟨v',w',q1,q2,q3,q4⟩:=main (.slice A0 len ao3) len (xs.take (len*sz)) (ZU iO hle) hxv JF GF
   rw [←YV]at q3 q4
   have ZY:∀e∈r.els,e.length=sz:=fun e rR=>by rw [uS e rR,oP]
   have N8:(r.els.take len++l).length=len+l.length:=by rw [List.length_append,List.length_take,Nat.min_eq_left hle]
   obtain⟨wN,hA⟩:=hI.set (ob:=(c.β id).ownBlock) (id:=id) (r':=⟨ver,e,sz,r.els.take len++l⟩) (xs:=xs.take (len*sz)++news) q3 (by
    intro g hg
    refine⟨(hbg g hg).1,fun o=>hnS g o hg,fun jO r' jP pS hb=>pS (hI.apart jO id r' r g jP ZW hb hg)⟩) (by simpa only [N8]using q2) (by
     show bE (aQ c) (r.els.take len++l).flatten _
     rw [List.flatten_append,(n9 ZY len).1];exact(gI.take _).append g2) (by
     intro u hu
     rcases List.mem_append.1 hu with hu | hu
     ·exact jS u (List.mem_of_mem_take hu)
     ·exact g3 u hu) (by
     intro e' rR
     rcases List.mem_append.1 rR with rR | rR
     ·exact ZY e' (List.mem_of_mem_take rR)
     ·exact hlen e' rR) lA (by
     intro g hg
     rcases q4 with q4 | q4
     ·exact .inl (by rw [←q4];exact hg)
     ·rw [q4]at hg;cases hg;exact .inr (Nat.le_refl _)) (fun hu=>SA (fF _ hu))
   have hv:aK { c with w:=w',β:=dX c.β id v',rows:=dX c.rows id (some ⟨ver,e,sz,r.els.take len++l⟩),used:=fun v=>v=ver∨c.used v } (.own id ver 0 (len+l.length)) v':=by
    have ZV:∃A' iY,v' = .slice A' (len+l.length) iY:=by
     rcases q2.2 with ⟨rfl,h0⟩ | ⟨g,iY,cur,rfl,_⟩
     ·exact⟨none,0,by rw [h0]⟩
     ·exact⟨_,iY,rfl⟩
    obtain⟨A',iY,rfl⟩:=ZV
    exact kU (r:=⟨ver,e,sz,r.els.take len++l⟩) (by simp [dX]) N8 (Or.inl rfl) (by simp [dX])
   obtain⟨f',rows',hk,AW⟩:=qK (K:=K 1) hr fF hf hG hn fC h wN hA hv hd
   exact run q1 (hK 1 f' rows' _ _ hk (AW.mono fun v hv=>hv.imp (fun h=>⟨rfl,h⟩) fun h=>h))
  ·-- ao2 cells that stay,its capacity its length
   rename_i l0 heq
   obtain⟨uS,ZL,JF,GF,h⟩:=h
   have hx:=hρ x
   rw [heq]at hx
   simp only [aK,aQ,dC]at hx
   obtain⟨A0,hA0,NA,ZZ⟩:=hx
   have fin:∀ {v':Value} {w':World},(Builtin.append_ #[t,t] o.type #[a.eval x,a.eval y]).run E.P c.w = .ok v' w' →
     (∃c',c'.w=w'∧c'.rows=c.rows∧c'.used=c.used∧Inv w0 S0 c'∧sR c c'∧aK c' (.sl (l0++l)) v')→o.wp E.P a c.w K' Q:=by
    rintro v' w' iZ ⟨c',rfl,h2,h3,h4,h5,h6⟩
    refine run iZ (hK 0 _ _ _ _ h ?_)
    exact n6 hf hG hn fC h5 h4 h6 hd rfl (by rw [h2,hr]) (by rw [h3];exact fun v hv => .inr (fF v hv))
   have aee:bE (dC c.S c.w) l.flatten news:=by
    refine bE.dO g2.length fun k p u hp hu=>?_
    obtain⟨u',q1,q2⟩:=g2.get hp
    rw [hu]at q1;cases q1
    have zE:=List.mem_of_getElem? hp
    rw [List.mem_flatten]at zE
    obtain⟨e',rR,uJ⟩:=zE
    exact q2.rep (ZL e' rR p uJ)
   by_cases DK:l = []
   ·subst DK
    refine fin (v':=.slice A0 l0.length l0.length) (w':=c.w) ?_ ⟨c,rfl,rfl,rfl,hI,sR.refl c,?_⟩
    ·have ZQ:news = []:=List.eq_nil_of_length_eq_zero (by simpa using g1)
     subst ZQ
     have hfc:(Builtin.firstCells i.size 0 (.slice A 0 cap)).run E.P c.w = .ok #[] c.w:=by
      cases A with
      | none=>simp [Builtin.firstCells]
      | some ad=>simp [Builtin.firstCells,loadCells,loadCellsFrom]
     rw [hA0,hvy]
     cases A0 with
     | none=>simp [Builtin.append_,run_underlying hu,Go.sizeOf,typeInfo,hi,Builtin.lenOf,hfc]
     | some ad0=>simp [Builtin.append_,run_underlying hu,Go.sizeOf,typeInfo,hi,Builtin.lenOf,hfc,storeCells]
    ·simp only [aK,aQ,dC,List.append_nil]
     exact⟨A0,_,rfl,Nat.le_refl _,NA,ZZ⟩
   ·have ao5:0<l.length:=List.length_pos_iff.2 DK
    obtain⟨ad,rfl⟩:∃ad,A=some ad:=by
     cases A with
     | none=>exact absurd (g4 rfl) DK
     | some ad=>exact⟨ad,rfl⟩
    obtain⟨A2,aef,aeg,hvx,o1,o2,o3,o4,o5⟩:=tH (y:=.jB l0) (vy:=a.eval x) (l:=l0) hI (by simp only [aK,aQ,dC];exact⟨A0,hA0,NA,ZZ⟩) rfl uS
    rw [hA0]at hvx
    simp only [Value.slice.injEq]at hvx
    obtain⟨rfl,_,rfl⟩:=hvx
    have aeh:bE (dC c.S c.w) l0.flatten aeg:=by
     refine bE.dO o2.length fun k p u hp hu=>?_
     have zE:=List.mem_of_getElem? hp
     rcases ZZ with rfl | ⟨g,oo,rfl,hre⟩
     ·simp at hp
     ·have au3:l0.flatten.length=l0.length*sz:=by rw [o2.length,o1]
      have hk:k<l0.length*sz:=by rw [←au3];exact(List.getElem?_eq_some_iff.1 hp).1
      have hq:k/sz<l0.length:=(Nat.div_lt_iff_lt_mul lA).2 hk
      have oQ:=uS l0[k/sz] (List.getElem_mem hq)
      have hj:k%sz<l0[k/sz].length:=by rw [oQ];exact Nat.mod_lt _ lA
      have R9:k/sz*sz+k%sz=k:=by rw [Nat.mul_comm];exact Nat.div_add_mod k sz
      have hfg:=jD uS (List.getElem?_eq_getElem hq) (List.getElem?_eq_getElem hj)
      rw [R9,hp]at hfg
      cases hfg
      obtain⟨u',r1,_,_,r4⟩:=iB (iX hre uS (List.getElem?_eq_getElem hq)) (List.getElem?_eq_getElem hj)
      have:=o5 _ rfl k u hu
      rw [iN]at this
      rw [show oo+k/sz*sz+k%sz=oo+k by omega,this]at r1
      cases r1;exact r4
    have grow:∃v' w',(Builtin.append_ #[t,t] o.type #[a.eval x,a.eval y]).run E.P c.w = .ok v' w'∧w'.ownsRow c.w.heap.size e sz v' (l0.length+l.length) (aeg++news)∧c.w.grownBy w' none:=by
     rw [hA0,hvy]
     cases A0 with
     | some ad0=>exact run_append_arg_grows (P:=E.P) c.w t o.type e i zv sz b hu hi hz hs hby DL lA ad0 l0.length l0.length aeg o1 (o5 ad0 rfl) ad l.length cap news g1 (g5 ad rfl) (by omega) (uQ JF) (by simpa [room]using GF)
     | none =>
      have au4:=o4 rfl
      subst au4
      have ho0:aeg = []:=List.eq_nil_of_length_eq_zero (by simpa using o1)
      subst ho0
      obtain⟨v',w',q1,q2,q3,_,q5⟩:=run_append_own_at (P:=E.P) c.w c.w.heap.size t o.type e i zv sz b hu hi hz hs hby DL lA (.slice none 0 0) 0 [] (World.ownsRow_nil _ _ _ _) ad l.length cap news g1 (g5 ad rfl) g3 (by simpa using uQ JF) (by simpa [room]using GF) (Nat.le_refl _)
      exact⟨v',w',q1,by simpa using q2,q3⟩
    obtain⟨v',w',q1,q2,q3⟩:=grow
    refine fin q1 (OD hI q3 (els:=l0++l) (by simpa using q2) (by rw [List.flatten_append];exact aeh.append aee) (fun u hu=>?_) (fun e' rR=>?_))
    ·rcases List.mem_append.1 hu with hu | hu
     ·exact o3 u hu
     ·exact g3 u hu
    ·rcases List.mem_append.1 rR with rR | rR
     ·exact uS e' rR
     ·exact hlen e' rR
  ·exact h.elim
 ·exact h.elim
end
section
variable {E:Env} {w0:World} {S0:dV} {n:Nat} {G:Gs}
theorem GG{P:Program}(w:World)(dT sT ty elem:TypeId)(sz g o ajg ajh:Nat)(A:Option Addr)(OE aji:Nat)(cur:Array Value)(t:TypeId)(cs:List Value)
  (hu:P.underlying dT=some (.slice elem)) (hs:(P.info? elem).map (·.size)=some sz)
  (hg:w.heap[g]? = some (.cells cur t (0,0))) (hn:cs.length=Nat.min OE ajg*sz)
  (au5:∀a,A=some a → ∀j v,cs[j]? = some v→w.cell? (a.add j)=some v) (hA:A=none→cs = []) (aje:o+cs.length≤cur.size) (h1:∀v∈cs,v.oneCell'=true) :
  (Builtin.copy_ #[dT,sT] ty #[.slice (some ⟨g,o,none⟩) ajg ajh, .slice A OE aji]).run P w =
   .ok (goInt (Nat.min OE ajg:Nat)) (w.setRow g (cur.toList.take o++cs++cur.toList.drop (o+cs.length)).toArray):=by
 cases hq:P.info? elem with
 | none=>simp [hq]at hs
 | some i =>
  have hi:i.size=sz:=by simpa [hq]using hs
  cases A with
  | some a =>
   have hl:=run_loadCells_list (P:=P) w a cs (au5 a rfl)
   have j3:=run_storeCells_at P g o t cs 0 cur w hg (by simpa using aje) h1
   simp [Builtin.copy_,run_underlying hu,Builtin.lenOf,Builtin.firstCells,Go.sizeOf,typeInfo,hq,hi,←hn,hl,j3]
  | none =>
   have:=hA rfl
   subst this
   have ao6:=setRow_self w g cur t (0,0) hg
   simp [Builtin.copy_,run_underlying hu,Builtin.lenOf,Builtin.firstCells,Go.sizeOf,typeInfo,hq,storeCells,List.take_append_drop,ao6]
theorem DQ{P:Program}(w:World)(dT sT ty elem:TypeId)(D:Option Addr)(ajh:Nat)(A:Option Addr)(OE aji sz:Nat)
  (hu:P.underlying dT=some (.slice elem)) (hs:(P.info? elem).map (·.size)=some sz) :
  (Builtin.copy_ #[dT,sT] ty #[.slice D 0 ajh, .slice A OE aji]).run P w = .ok (goInt (0:Nat)) w:=by
 cases hq:P.info? elem with
 | none=>simp [hq]at hs
 | some i=>cases A<;>cases D<;>simp [Builtin.copy_,run_underlying hu,Builtin.lenOf,Builtin.firstCells,Go.sizeOf,typeInfo,hq,storeCells,loadCells,loadCellsFrom,show Nat.min OE 0=0 from Nat.min_zero OE]
theorem uT{U:Nat→Prop}{ver:Nat}(SA:¬U ver){o:Oper}{a:Act}{w:World}{f:Nat→PV}{rows:Rows}{K:Nat→(Nat→PV)→Rows→Prop}(h:nK E ver o K f rows)(hR:p7 w0 S0 n G U f rows a w)(hd:∀t,o.dst=some t→t<n)
  {K':Act→World→Prop} {Q:Exit→Act→World→Prop} (hK:∀i f' rows' a' w',K i f' rows'→p7 w0 S0 n G (fun v=>(i=1∧v=ver)∨U v) f' rows' a' w'→K' a' w'):o.wp E.P a w K' Q:=by
 obtain⟨⟨c,rfl,hr,fF,hI,hf,hG⟩,hn,fC⟩:=hR
 have hρ:=lJ hf
 have hfu:¬c.used ver:=fun hu=>SA (fF _ hu)
 have value:∀ {v':Value} {w':World},(execOp a.eval o).run E.P c.w = .ok (.value v') w'→K' (a.put o.dst v') w'→o.wp E.P a c.w K' Q:=by
  intro v' w' h1 h2
  unfold Oper.wp
  rw [h1]
  exact h2
 have newVar:∀(t:TypeId) (l:List PV) (vx:Value),(E.ty t).known=true→bE (aQ c) l vx.cells.toList→(∀u∈vx.cells.toList,u.oneCell'=true)→l.length=(E.ty t).size →
   EK K ver f rows o.dst (.ptr (o.dst.getD 0) ver 0 0) (o.dst.getD 0) t (E.ty t).size [l]→(execOp a.eval o).run E.P c.w = .ok (.value (.pointer (some ⟨c.w.heap.size,0,none⟩))) (c.w.alloc (.cells vx.cells t))→o.wp E.P a c.w K' Q:=by
  intro t l vx hk gI jS hlen hp iZ
  have hz:=(E.ok t).zero hk
  have oP:vx.cells.size=(E.ty t).size:=by rw [←hlen,gI.length];simp
  obtain⟨wN,hA⟩:=wW hI hfu (o.dst.getD 0) t (E.ty t).size 1 1 [l] vx.cells rfl (Nat.le_refl _) (by simp [maxLen]) (by omega) (by
   simp only [List.flatten_cons,List.flatten_nil,List.append_nil]
   rw [List.take_of_length_le (by simp [oP])];exact gI) jS (by simpa using hlen) hz.pos
  obtain⟨f',rows',wM,AW⟩:=qK (K:=K 1) hr fF hf hG hn fC hp wN hA (ZT (Or.inl rfl) (g:=c.w.heap.size) (n:=1) (cap:=1) (by simp [dX])) hd
  exact value iZ (hK 1 f' rows' _ _ wM (AW.mono fun v hv=>hv.imp (fun h=>⟨rfl,h⟩) fun h=>h))
 obtain⟨dst,op,type,pos,after,guard⟩:=o
 simp only at hd value newVar
 unfold nK at h
 simp only at h
 split at h
 ·-- alloc
  rename_i t
  obtain⟨hk,h⟩:=h
  have hz:=(E.ok t).zero hk
  obtain⟨i,zv,h1,h2,h3,h4,h5,h6⟩:=ZS (c:=c) hz
  exact newVar t (E.ty t).zero zv hk h4 h6 rfl h (by simp [execOp,Instr.alloc,zeroValue,typeInfo,h1,h2,Go.newVar,newRow])
 ·-- box
  rename_i t x
  obtain⟨hk,l,hl,jS,hlen,h⟩:=h
  rw [←hr]at jS
  obtain⟨g1,g2⟩:=lW (hρ x) hl jS
  exact newVar t l (a.eval x) hk g1 g2 hlen h (by simp [execOp,Instr.box,Go.newVar,newRow])
 ·-- makeSlice
  rename_i t l cc
  split at h
  ·rename_i e sz b z k1 x k2 y hE hl hc
   obtain⟨h0,sO,JF,GF,h⟩:=h
   obtain⟨hu,lA,GB,i,zv,hi,hz,hs,hby,N6,hzo⟩:=fK hE
   have g1:=hρ l
   have g2:=hρ cc
   rw [hl,cS]at g1
   rw [hc,cS]at g2
   have DL:zv.cells.size=sz:=by rw [←GB,←N6];simp
   have ajj:(i.bytes:Int)*y≤281474976710656:=by
    rw [hby]
    have h3:((y.toNat*b:Nat):Int)≤room:=by exact_mod_cast GF
    have h4:((y.toNat:Nat):Int)=y:=Int.toNat_of_nonneg (by omega)
    rw [Int.natCast_mul,h4]at h3
    simp only [room]at h3
    rw [Int.mul_comm];omega
   have iZ:=run_make (P:=E.P) c.w t e i zv hu hi hz k1 k2 x y h0 sO ajj (by simp only [room]at JF;omega)
   have JG:(execOp a.eval { dst:=dst,op:=.makeSlice t l cc,type:=type,pos:=pos,after:=after,guard:=guard }).run E.P c.w = .ok (.value (.slice (some ⟨c.w.heap.size,0,none⟩) x.toNat y.toNat)) (c.w.alloc (.cells (madeCells zv.cells (y.toNat*i.size)) e)):=by
    simp [execOp,g1,g2,iZ]
   have ao7:bE (aQ c) z zv.cells.toList:=by
    rw [←N6]
    refine bE.dO (by simp) fun k p u hp hu=>?_
    simp at hp
    obtain⟨q,hq,rfl⟩:=hp
    have:zv.cells.toList[k]? = some q:=by simpa using hq
    rw [this]at hu;cases hu
    exact kE _
   have hle:x.toNat*sz≤y.toNat*sz:=Nat.mul_le_mul_right _ (by omega)
   have hL:((madeCells zv.cells (y.toNat*i.size)).toList.take (x.toNat*sz)).length=x.toNat*sz:=by
    rw [List.length_take,Array.length_toList,size_madeCells,hs];exact Nat.min_eq_left hle
   obtain⟨wN,hA⟩:=wW hI hfu (dst.getD 0) e sz x.toNat y.toNat (List.replicate x.toNat z) (madeCells zv.cells (y.toNat*i.size)) (by simp) (by omega) (uQ JF) (by rw [size_madeCells,hs]) (by
    refine bE.dO (by rw [hL];simp [GB]) fun k p u hp hu=>?_
    have hk:=(List.getElem?_eq_some_iff.1 hu).1
    rw [hL]at hk
    rw [List.getElem?_take,if_pos (by omega),sZ (by rw [hs];omega) (by omega)]at hu
    have uJ:=j9 hp
    rw [GB,←DL]at uJ
    obtain⟨u',q1,q2⟩:=ao7.get uJ
    rw [hu]at q1;cases q1;exact q2) (by
    intro u hu
    obtain⟨k,hk⟩:=List.getElem?_of_mem hu
    have wM:=(List.getElem?_eq_some_iff.1 hk).1
    simp [size_madeCells]at wM
    rw [sZ wM (by omega)]at hk
    have:=List.mem_of_getElem? hk
    exact(Array.all_eq_true_iff_forall_mem.1 hzo) u (by simpa using this)) (by
    intro e' rR
    rw [List.mem_replicate]at rR
    rw [rR.2,GB]) lA
   obtain⟨f',rows',wM,AW⟩:=qK (K:=K 1) hr fF hf hG hn fC h wN hA (kU (r:=⟨ver,e,sz,List.replicate x.toNat z⟩) (A:=some ⟨c.w.heap.size,0,none⟩) (cap:=y.toNat) (by simp [dX]) (by simp) (Or.inl rfl) (by simp [dX])) hd
   exact value JG (hK 1 f' rows' _ _ wM (AW.mono fun v hv=>hv.imp (fun h=>⟨rfl,h⟩) fun h=>h))
  ·exact h.elim
 ·-- append
  rename_i x y t t2
  obtain⟨ht2,h⟩:=h
  exact AV SA rfl ht2 hI hr fF hf hG hn fC hd h hK
 ·exact h.elim
theorem yG{o:Oper}{a:Act}{w:World}{σ:PS}{K:PS→Prop}(h:eW E o K σ)(hR:Rel w0 S0 n G σ a w)(hd:∀t,o.dst=some t→t<n)
  {K':Act→World→Prop} {Q:Exit→Act→World→Prop} (hK:∀σ' a' w',K σ'→Rel w0 S0 n G σ' a' w'→K' a' w'):o.wp E.P a w K' Q:=by
 obtain⟨⟨c,rfl,hr,fF,hI,hf,hG⟩,hn,fC⟩:=hR
 have hρ:=lJ hf
 have value:∀ {v':Value} {w':World},(execOp a.eval o).run E.P c.w = .ok (.value v') w'→K' (a.put o.dst v') w'→o.wp E.P a c.w K' Q:=by
  intro v' w' h1 h2
  unfold Oper.wp
  rw [h1]
  exact h2
 have ao8:(∃v u,ys E o.op (aS σ.f) σ.rows v u∧K ⟨put σ.f o.dst v,gB σ.rows u,σ.clock⟩)→o.wp E.P a c.w K' Q:=by
  rintro⟨v,u,hy,hk⟩
  rw [←hr]at hy
  refine JE hI hf hy fun v' c' h1 h2 h3 h4 h5=>hK _ _ _ hk ?_
  exact lL hf hG hn fC h3 h4 h5 hd rfl (by simp [h1,hr]) (by rw [h2];exact fF)
 have nw:nK E σ.clock o (fun i f r=>K ⟨f,r,σ.clock+i⟩) σ.f σ.rows→o.wp E.P a c.w K' Q:=fun hp =>
  uT (U:=fun v=>v<σ.clock) (Nat.lt_irrefl _) hp ⟨⟨c,rfl,hr,fF,hI,hf,hG⟩,hn,fC⟩ hd fun i f' rows' a' w' hk AW=>hK _ _ _ hk (AW.mono fun v hv=>by
   show v<σ.clock+i
   rcases hv with ⟨rfl,rfl⟩ | hv
   ·omega
   ·have:v<σ.clock:=hv
    omega)
 obtain⟨dst,op,type,pos,after,guard⟩:=o
 simp only at hd value ao8 nw
 unfold eW at h
 simp only at h
 split at h
 ·-- alloc
  rename_i t
  exact nw (show nK E σ.clock _ _ σ.f σ.rows from h)
 ·-- box
  rename_i t x
  exact nw (show nK E σ.clock _ _ σ.f σ.rows from h)
 ·-- makeSlice
  rename_i t l cc
  refine nw (show nK E σ.clock _ _ σ.f σ.rows from ?_)
  unfold nK
  simp only
  split at h
  ·exact h
  ·exact h.elim
 ·-- append
  rename_i x y t t2
  obtain⟨ht2,h⟩:=h
  refine nw (show nK E σ.clock _ _ σ.f σ.rows from⟨ht2,?_⟩)
  unfold GD at h
  unfold n7
  split at h
  ·obtain⟨l,g1,g2,g3⟩:=h
   refine⟨l,g1,g2,?_⟩
   split at g3<;>exact g3
  ·exact h
 ·-- copy
  rename_i x y t t2
  split at h
  ·rename_i e sz b z id ver off len hE hx
   obtain⟨r,ZW,j6,oP,hle,l,hl,hl1,h⟩:=h
   rw [←hr]at ZW hl
   have gx:=hρ x
   rw [hx]at gx
   simp only [aK,aQ]at gx
   obtain⟨_,gx⟩:=gx.2 r ZW j6
   obtain⟨hu,lA,GB,i,zv,hi,hz,hs,hby,N6,hzo⟩:=fK hE
   obtain⟨A,cap,news,hvy,g1,g2,g3,g4,g5⟩:=tH hI (hρ y) hl hl1
   by_cases uS:len=0
   ·-- nothing
    subst uS
    obtain⟨D,OG,hvx⟩:∃D OG,a.eval x = .slice D 0 OG:=by
     rcases gx with ⟨h0,A',m,aef,GH,hv⟩ | ⟨_,g2,m,aef,A',GH,_,hv,ha⟩
     ·exact⟨_,_,hv⟩
     ·exact⟨_,_,hv⟩
    have iZ:=DQ (P:=E.P) c.w t t2 type e D OG A l.length cap sz hu (by simp [hi,hs])
    have JG:(execOp a.eval { dst:=dst,op:=.call { callee:=.builtin .copy,args:=⟨[x,y]⟩,argTypes:=⟨[t,t2]⟩ },type:=type,pos:=pos,after:=after,guard:=guard }).run E.P c.w = .ok (.value (goInt (0:Nat))) c.w:=by
     simp only [execOp,resolve,invoke,builtin,Sem.run_bind,Sem.run_pure,Result.andThen_ok,List.map_toArray,List.map_cons,List.map_nil,hvx,hvy,iZ]
    have oA:dX σ.rows id (some { r with els:=r.els.take off++l.take 0++r.els.drop (off+min l.length 0) })=σ.rows:=by
     funext j
     simp only [dX]
     split
     ·rename_i hj
      subst hj
      rw [←hr,ZW]
      simp
     ·rfl
    rw [oA]at h
    refine value JG (hK _ _ _ h ?_)
    exact lL hf hG hn fC (sR.refl c) hI (cS.2 (by
     simp only [goInt]
     congr 1
     omega)) hd rfl (by rw [hr]) fF
   have ao5:0<len:=by omega
   obtain⟨⟨xs,iO,gI,jS⟩,AO,hnS,_⟩:=hI.row id r ZW
   obtain⟨g,iY,hβ⟩:=qG hI ZW (by omega)
   obtain⟨OG,hvx⟩:∃OG,a.eval x = .slice (some ⟨g,off*sz,none⟩) len OG:=by
    rcases gx with ⟨h0,A',m,aef,GH,hv⟩ | ⟨_,g2,m,aef,A',GH,_,hv,ha⟩
    ·rw [hβ]at GH
     simp only [Value.slice.injEq]at GH
     obtain⟨rfl,_,_⟩:=GH
     exact⟨_,by rw [hv,h0,Nat.zero_mul]⟩
    ·rw [hβ]at GH
     simp only [Value.slice.injEq,Option.some.injEq,Addr.mk.injEq,and_true]at GH
     obtain⟨rfl,_,_⟩:=GH
     rcases ha with ha | ha
     ·omega
     ·exact⟨_,by rw [hv,ha,oP]⟩
   have aoY:=iO
   rw [hβ]at iO
   rcases iO.2 with ⟨h',_⟩ | ⟨g',ao4,cur,h',VH,hg,NZ,hcm,I0,JC⟩
   ·simp at h'
   ·simp only [Value.slice.injEq,Option.some.injEq,Addr.mk.injEq,and_true]at h'
    obtain⟨rfl,_,rfl⟩:=h'
    rw [oP]at I0 JC
    have hnl:news.length=l.length*sz:=g1
    have hml:Nat.min l.length len≤len:=Nat.min_le_right _ _
    have hmm:Nat.min l.length len*sz=Nat.min (l.length*sz) (len*sz):=by
     show min l.length len*sz=min (l.length*sz) (len*sz)
     rcases Nat.le_total l.length len with hq | hq
     ·rw [Nat.min_eq_left hq,Nat.min_eq_left (Nat.mul_le_mul_right _ hq)]
     ·rw [Nat.min_eq_right hq,Nat.min_eq_right (Nat.mul_le_mul_right _ hq)]
    have VN:(news.take (len*sz)).length=Nat.min l.length len*sz:=by
     rw [List.length_take,hnl,hmm];exact Nat.min_comm _ _
    have JH:off*sz+len*sz≤r.els.length*sz:=by rw [←Nat.add_mul];exact Nat.mul_le_mul_right _ hle
    have aA9:r.els.length*sz≤iY*sz:=Nat.mul_le_mul_right _ NZ
    have aBa:Nat.min l.length len*sz≤len*sz:=Nat.mul_le_mul_right _ hml
    have iZ:=GG (P:=E.P) c.w t t2 type e sz g (off*sz) len OG A l.length cap cur r.e (news.take (len*sz)) hu (by simp [hi,hs]) hg VN
     (fun ad had j v hj=>g5 ad had j v (by rw [List.getElem?_take]at hj;split at hj;exact hj;cases hj)) (fun hA=>by
      have:=g4 hA
      subst this
      have:news = []:=List.eq_nil_of_length_eq_zero (by simpa using hnl)
      simp [this]) (by rw [VN];omega) (fun v hv=>g3 v (List.mem_of_mem_take hv))
    have JG:(execOp a.eval { dst:=dst,op:=.call { callee:=.builtin .copy,args:=⟨[x,y]⟩,argTypes:=⟨[t,t2]⟩ },type:=type,pos:=pos,after:=after,guard:=guard }).run E.P c.w = .ok (.value (goInt (Nat.min l.length len:Nat))) (c.w.setRow g (cur.toList.take (off*sz)++news.take (len*sz)++cur.toList.drop (off*sz+(news.take (len*sz)).length)).toArray):=by
     simp only [execOp,resolve,invoke,builtin,Sem.run_bind,Sem.run_pure,Result.andThen_ok,List.map_toArray,List.map_cons,List.map_nil,hvx,hvy,iZ]
    have SB:∀e∈r.els,e.length=sz:=fun e he=>by rw [AO e he,oP]
    have ag2:min l.length len=Nat.min l.length len:=rfl
    have ZM:(c.w.setRow g (cur.toList.take (off*sz)++news.take (len*sz)++cur.toList.drop (off*sz+(news.take (len*sz)).length)).toArray).ownsRow w0.heap.size r.e r.size (c.β id) (r.els.take off++l.take len++r.els.drop (off+min l.length len)).length
      (xs.take (off*sz)++news.take (len*sz)++xs.drop (off*sz+(news.take (len*sz)).length)):=by
     have N8:(r.els.take off++l.take len++r.els.drop (off+min l.length len)).length=r.els.length:=by simp;omega
     have hxl:xs.length=r.els.length*sz:=by rw [iO.1,oP]
     rw [hβ,N8]
     refine⟨?_, .inr ⟨g,iY,_,rfl,VH,setRow_heap _ g cur _ r.e _ hg,NZ,hcm,?_,?_⟩⟩
     ·rw [oP,List.length_append,List.length_append,VN,List.length_take,List.length_drop];omega
     ·rw [oP,List.size_toArray,List.length_append,List.length_append,VN,List.length_take,List.length_drop,Array.length_toList];omega
     ·rw [oP,←JC]
      have auY:cur.toList.length=iY*sz:=by simp [I0]
      simp only
      rw [List.take_append,List.take_append]
      have e1:List.take (r.els.length*sz) (cur.toList.take (off*sz))=cur.toList.take (off*sz):=by rw [List.take_take,Nat.min_eq_right (by omega)]
      have e2:List.take (off*sz) (cur.toList.take (r.els.length*sz))=cur.toList.take (off*sz):=by rw [List.take_take,Nat.min_eq_left (by omega)]
      rw [e1,e2]
      have e3:(cur.toList.take (off*sz)).length=off*sz:=by rw [List.length_take];omega
      have e4:List.take (r.els.length*sz-off*sz) (news.take (len*sz))=news.take (len*sz):=List.take_of_length_le (by rw [VN];omega)
      rw [e3,e4]
      congr 1
      rw [List.length_append,e3,List.drop_take]
    have tF:c.w.grownBy (c.w.setRow g (cur.toList.take (off*sz)++news.take (len*sz)++cur.toList.drop (off*sz+(news.take (len*sz)).length)).toArray) (c.β id).ownBlock:=by
     rw [hβ]
     exact⟨rfl,rfl,rfl,by simp,fun k _ hk=>setRow_other _ g k _ (fun e=>hk (by simp [Value.ownBlock,e]))⟩
    obtain⟨wN,hA⟩:=hI.dX (r':={ r with els:=r.els.take off++l.take len++r.els.drop (off+min l.length len) }) ZW tF ZM (by
     show bE (aQ c) (r.els.take off++l.take len++r.els.drop (off+min l.length len)).flatten _
     rw [List.flatten_append,List.flatten_append,(n9 SB off).1,(n9 hl1 len).1,(n9 SB _).2,Nat.add_mul,ag2,←VN]
     exact((gI.take _).append (g2.take _)).append (gI.drop _)) (by
     intro y' NB
     simp only [List.mem_append]at NB
     rcases NB with (NB | NB) | NB
     ·exact jS y' (List.mem_of_mem_take NB)
     ·exact g3 y' (List.mem_of_mem_take NB)
     ·exact jS y' (List.mem_of_mem_drop NB)) (by
     intro e' rR
     simp only [List.mem_append]at rR
     rw [oP]
     rcases rR with (rR | rR) | rR
     ·exact SB e' (List.mem_of_mem_take rR)
     ·exact hl1 e' (List.mem_of_mem_take rR)
     ·exact SB e' (List.mem_of_mem_drop rR)) rfl rfl (by simp;omega)
    refine value JG (hK _ _ _ h ?_)
    exact lL hf hG hn fC hA wN (cS.2 (by
     rw [←ag2]
     simp only [goInt]
     congr 1
     omega)) hd rfl (by simp [hr]) fF
  ·exact h.elim
 ·-- a call
  rename_i fo args ts
  have fX:bE (aK c) (args.toList.map fun x=>aS σ.f x) (args.map a.eval).toList:=by
   refine bE.dO (by simp) fun k p u hp hu=>?_
   simp at hp hu
   obtain⟨x,hx,rfl⟩:=hp
   obtain⟨y,hy,rfl⟩:=hu
   rw [hx]at hy;cases hy
   exact hρ x
  split at h
  ·have hfo:=hρ fo
   unfold OA at h
   split at h
   ·rename_i g heq
    rw [heq]at hfo
    obtain⟨R,⟨⟨fn,b,h1,h2,h3⟩,OC⟩,hk⟩:=h
    simp only [aK,aQ,dC]at hfo
    obtain⟨cs,hfv,I0⟩:=hfo
    simp only [bH]at I0
    subst I0
    have qL:=OC w0 S0 c _ (fun p=>p∈G ∨ ∃s,p=(σ.f s,a.tmps.getD s undef)) hI hr fF fX (by
     rintro p (hp | ⟨s,rfl⟩)
     ·exact hG p hp
     ·exact hf s)
    simp only [Array.toArray_toList]at qL
    unfold Oper.wp
    have iZ:(execOp a.eval { dst:=dst,op:=.call { callee:=.value fo,args:=args,argTypes:=ts },type:=type,pos:=pos,after:=after,guard:=guard }).run E.P c.w = .ok (.enter g (args.map a.eval)) c.w:=by
     simp only [execOp,resolve,hfv,Deferred.ofValue,Sem.run_bind,Sem.run_pure,Result.andThen_ok,invoke]
     simpa using lZ h1 h2 h3 (args.map a.eval) c.w
    rw [iZ]
    refine qL.mono ?_
    rintro e w' ⟨v',c',r,kG,rfl,rfl,wN,hG',lM,ajl,hv'⟩
    refine hK _ _ _ (hk _ _ _ lM) ?_
    exact ZO (fun s=>hG' (σ.f s,a.tmps.getD s undef) (.inr ⟨s,rfl⟩)) (fun p hp=>hG' p (.inl hp)) hn fC wN hv' hd rfl rfl ajl
   ·exact h.elim
  obtain⟨v,hc,hp,hk⟩:=h
  rw [←hr]at hc hp hk
  have VI:yD E (aS σ.f fo) ((args.toList.map fun x=>aS σ.f x).map (pz c.rows)) v:=by rw [List.map_map];exact hc
  obtain⟨g,cs,h1,h2,h3⟩:=yE hI (ids:=args.toList.flatMap fun x=>dW (aS σ.f x)) hp (hρ fo) fX (by
   intro p hp id iA
   simp at hp
   obtain⟨x,hx,rfl⟩:=hp
   simp only [List.mem_flatMap];exact⟨x,by simpa using hx,iA⟩) VI (K:=fun v' w'=>K' (a.put dst v') w') (fun v' c' q1 q2 q3 q4 q5=>hK _ _ _ hk (lL hf hG hn fC q3 q4 q5 hd rfl (by simp [q1]) (by rw [q2];exact fF)))
  unfold Oper.wp
  have iZ:(execOp a.eval { dst:=dst,op:=.call { callee:=.value fo,args:=args,argTypes:=ts },type:=type,pos:=pos,after:=after,guard:=guard }).run E.P c.w = .ok (.enter g (args.map a.eval++cs)) c.w:=by
   simp only [execOp,resolve,h1,Deferred.ofValue,Sem.run_bind,Sem.run_pure,Result.andThen_ok,invoke]
   simp only [Array.toArray_toList]at h2
   simpa only [Array.empty_append]using h2
  rw [iZ]
  simp only [Array.toArray_toList]at h3
  exact h3.mono fun e w' ⟨v',he,hk⟩=>by subst he;exact hk
 ·-- a closure
  rename_i g cL
  obtain⟨sY,hp,hk⟩:=h
  rw [←hr]at sY hp hk
  have JD:=hI.freeze (cL.toList.flatMap fun x=>dW (aS σ.f x))
  refine value (v':=.func (.func g) #[] (cL.map a.eval)) (w':=c.w) (by simp [execOp,Instr.makeFunc]) (hK _ _ _ hk ?_)
  refine lL (c':=DJ c (cL.toList.flatMap fun x=>dW (aS σ.f x))) hf hG hn fC (lK c _) JD ?_ hd rfl (by simp [DJ]) fF
  simp only [aK,aQ,dC]
  refine⟨(cL.map a.eval).toList,by rw [Array.toArray_toList],cZ.2 (bE.dO (by simp) fun k p u uJ hu=>?_)⟩
  simp at uJ hu
  obtain⟨x,hx,rfl⟩:=uJ
  obtain⟨y,hy,rfl⟩:=hu
  rw [hx]at hy;cases hy
  have zE:x∈cL.toList:=by simpa using Array.mem_of_getElem? hx
  exact F9 hI hp (hρ x) (fun id iA=>by simp only [List.mem_flatMap];exact⟨x,zE,iA⟩) (List.all_eq_true.1 sY _ (by simp;exact⟨x,by simpa using zE,rfl⟩))
 ·exact ao8 h
end
def iK(op:Op)(ρ:Operand→PV):List Nat:=
 match op with
 | .load _ p=>a9 (ρ p)
 | .fieldAddr _ x _=>a9 (ρ x)
 | .indexAddr _ x _=>a9 (ρ x)
 | .slice _ x _ _ _=>a9 (ρ x)
 | .store _ p x=>a9 (ρ p)++((cD (ρ x)).getD []).flatMap a9
 | .call { callee:=.builtin .len,args:=⟨[x]⟩,argTypes:=⟨[_]⟩ }=>a9 (ρ x)
 | .call { callee:=.builtin .append,args:=⟨[x,y]⟩,argTypes:=⟨[_,_]⟩ }=>a9 (ρ x)++a9 (ρ y)
 | .nilCheck x=>a9 (ρ x)
 | _=>[]
def jT(ids:List Nat)(rows rows':Rows):Prop:=∀id∈ids,∀r,rows id=some r→rows' id=some r
section
variable {E:Env}
theorem GI{rows rows':Rows}{p:PV}(h:a9 p = []):fz rows p=fz rows' p:=by cases p<;>simp_all [fz,a9]
theorem aek{rows rows':Rows}{p:PV}(h:dW p = []):pz rows p=pz rows' p:=by
 cases p with
 | ag l =>
  simp only [dW,List.flatMap_eq_nil_iff]at h
  simp only [pz]
  congr 1
  exact List.map_congr_left fun q hq=>GI (h q hq)
 | _=>simp only [pz,dW]at h ⊢;exact GI h
theorem GJ{rows rows':Rows}{p:PV}(h:jT (a9 p) rows rows')(ho:iP rows p):iP rows' p:=by
 cases p with
 | own id ver off len=>obtain⟨r,hr,hv⟩:=ho;exact⟨r,h id (by simp [a9]) r hr,hv⟩
 | ptr id ver i j=>obtain⟨r,hr,hv⟩:=ho;exact⟨r,h id (by simp [a9]) r hr,hv⟩
 | _=>exact ho
theorem VO{rows:Rows}{p:PV}(ho:iP rows p):∀id∈a9 p,∃r,rows id=some r:=by
 intro id iA
 cases p with
 | own jO ver off len=>simp [a9]at iA;subst iA;obtain⟨r,hr,_⟩:=ho;exact⟨r,hr⟩
 | ptr jO ver i j=>simp [a9]at iA;subst iA;obtain⟨r,hr,_⟩:=ho;exact⟨r,hr⟩
 | _=>simp [a9]at iA
theorem Z0{t:TypeId}{rows rows':Rows}{p v:PV}(h:jT (a9 p) rows rows')(hy:sS E t rows p v):sS E t rows' p v ∧ ∀id∈a9 p,∃r,rows id=some r:=by
 obtain⟨hk,hy⟩:=hy
 cases p with
 | ptr id ver i j =>
  obtain⟨r,hr,hh⟩:=hy
  exact⟨⟨hk,r,h id (by simp [a9]) r hr,hh⟩,by simp [a9];exact⟨r,hr⟩⟩
 | rd l=>exact⟨⟨hk,hy⟩,by simp [a9]⟩
 | _=>exact hy.elim
theorem DR{t:TypeId}{i:Nat}{rows rows':Rows}{x v:PV}(h:jT (a9 x) rows rows')(hy:fI E t rows i x v):fI E t rows' i x v ∧ ∀id∈a9 x,∃r,rows id=some r:=by
 unfold fI at *
 split at hy
 ·rename_i fs z hE
  obtain⟨o,n,b,hf,hy⟩:=hy
  cases x with
  | ptr id ver a j =>
   obtain⟨⟨r,hr,hv⟩,hh⟩:=hy
   exact⟨⟨o,n,b,hf,⟨r,h id (by simp [a9]) r hr,hv⟩,hh⟩,by simp [a9];exact⟨r,hr⟩⟩
  | rd l=>exact⟨⟨o,n,b,hf,hy⟩,by simp [a9]⟩
  | _=>exact hy.elim
 ·exact hy.elim
theorem DT{t:TypeId}{rows rows':Rows}{x ix v:PV}(h:jT (a9 x) rows rows')(hy:fJ E t rows x ix v):fJ E t rows' x ix v ∧ ∀id∈a9 x,∃r,rows id=some r:=by
 unfold fJ at *
 split at hy
 ·split at hy
  ·obtain⟨h0,hy⟩:=hy
   cases x with
   | own id ver off len =>
    obtain⟨r,hr,hh⟩:=hy
    exact⟨⟨h0,r,h id (by simp [a9]) r hr,hh⟩,by simp [a9];exact⟨r,hr⟩⟩
   | sl l=>exact⟨⟨h0,hy⟩,by simp [a9]⟩
   | jB l=>exact⟨⟨h0,hy⟩,by simp [a9]⟩
   | _=>exact hy.elim
  ·exact hy.elim
 ·split at hy
  ·obtain⟨h0,hy⟩:=hy
   cases x with
   | ptr id ver a j =>
    obtain⟨⟨r,hr,hv⟩,hh⟩:=hy
    exact⟨⟨h0,⟨r,h id (by simp [a9]) r hr,hv⟩,hh⟩,by simp [a9];exact⟨r,hr⟩⟩
   | rd l=>exact⟨⟨h0,hy⟩,by simp [a9]⟩
   | _=>exact hy.elim
  ·exact hy.elim
 ·exact hy.elim
theorem VP{t:TypeId}{rows rows':Rows}{x v:PV}{lo hi mx:Option PV}(h:jT (a9 x) rows rows')(hy:nI E t rows x lo hi mx v):nI E t rows' x lo hi mx v ∧ ∀id∈a9 x,∃r,rows id=some r:=by
 unfold nI at *
 split at hy
 ·cases x with
  | own id ver off len =>
   obtain⟨r,hr,hh⟩:=hy
   exact⟨⟨r,h id (by simp [a9]) r hr,hh⟩,by simp [a9];exact⟨r,hr⟩⟩
  | nil=>exact⟨hy,by simp [a9]⟩
  | sl l=>exact⟨hy,by simp [a9]⟩
  | jB l=>exact⟨hy,by simp [a9]⟩
  | _=>exact hy.elim
 ·exact hy.elim
theorem ael{rows rows':Rows}{x:PV}{n:Nat}(h:jT (a9 x) rows rows')(hy:VE rows x n):VE rows' x n ∧ ∀id∈a9 x,∃r,rows id=some r:=by
 unfold VE at *
 cases x with
 | own id ver off len =>
  obtain⟨⟨r,hr,hv⟩,hh⟩:=hy
  exact⟨⟨⟨r,h id (by simp [a9]) r hr,hv⟩,hh⟩,by simp [a9];exact⟨r,hr⟩⟩
 | nil=>exact⟨hy,by simp [a9]⟩
 | sl l=>exact⟨hy,by simp [a9]⟩
 | jB l=>exact⟨hy,by simp [a9]⟩
 | _=>exact hy.elim
theorem aem{rows rows':Rows}{x v:PV}(h:jT (a9 x) rows rows')(hy:DP rows x v):DP rows' x v ∧ ∀id∈a9 x,∃r,rows id=some r:=by
 unfold DP at *
 cases x with
 | ptr id ver i j =>
  obtain⟨⟨r,hr,hv⟩,hh⟩:=hy
  exact⟨⟨⟨r,h id (by simp [a9]) r hr,hv⟩,hh⟩,by simp [a9];exact⟨r,hr⟩⟩
 | rd l=>exact⟨hy,by simp [a9]⟩
 | _=>exact hy.elim
theorem VQ{t:TypeId}{rows rows':Rows}{p x v:PV}{u:Option (Nat × Row)}(h:jT (a9 p++((cD x).getD []).flatMap a9) rows rows')(hy:qJ E t rows p x v u) :
  qJ E t rows' p x v u∧(∀id∈a9 p++((cD x).getD []).flatMap a9,∃r,rows id=some r) ∧ ∃id r,u=some (id,r)∧id∈a9 p:=by
 obtain⟨hk,hv,hy⟩:=hy
 cases p with
 | ptr id ver i j =>
  obtain⟨r,hr,j6,el,oQ,l,hl,jS,hh1,hh2,hh3⟩:=hy
  rw [hl]at h ⊢
  simp only [Option.getD_some]at h ⊢
  refine⟨⟨hk,hv,r,h id (by simp [a9]) r hr,j6,el,oQ,l,hl,fun q hq=>GJ (fun jO AQ=>h jO ?_) (jS q hq),hh1,hh2,hh3⟩,?_,?_⟩
  ·simp only [List.mem_append,List.mem_flatMap];exact .inr ⟨q,hq,AQ⟩
  ·intro jO AQ
   simp only [List.mem_append,List.mem_flatMap]at AQ
   rcases AQ with AQ | ⟨q,hq,AQ⟩
   ·simp [a9]at AQ;subst AQ;exact⟨r,hr⟩
   ·exact VO (jS q hq) jO AQ
  ·exact⟨id,_,hh3,by simp [a9]⟩
 | _=>exact hy.elim
theorem ag4{op:Op}{ρ:Operand→PV}{rows rows':Rows}{v:PV}{u:Option (Nat × Row)}(h:jT (iK op ρ) rows rows')(hy:ys E op ρ rows v u) :
  ys E op ρ rows' v u∧(∀id∈iK op ρ,∃r,rows id=some r) ∧ ∀id r,u=some (id,r)→id∈iK op ρ:=by
 unfold ys at hy ⊢
 split at hy
 ·rename_i t p x
  obtain⟨h1,h2,id,r,h3,h4⟩:=VQ h hy
  exact⟨h1,h2,fun jO r' hu=>by rw [h3]at hu;cases hu;simp only [iK,List.mem_append];exact .inl h4⟩
 ·rename_i t len parts
  obtain⟨hy,rfl⟩:=hy
  unfold N9 at hy ⊢
  split at hy
  ·obtain⟨els,h1,h2,h3,h4,h5,h6,rfl⟩:=hy
   have hfz:∀e∈els,∀p∈e,fz rows p=fz rows' p:=fun e he p hp=>GI (h6 e he p hp)
   refine⟨⟨⟨els,h1,h2,h3,h4,fun e he p hp=>⟨by rw [←hfz e he p hp];exact(h5 e he p hp).1,GJ (by rw [h6 e he p hp];intro id iA;cases iA) (h5 e he p hp).2⟩,h6,?_⟩,rfl⟩,by simp [iK],by simp⟩
   congr 1
   exact List.map_congr_left fun e he=>List.map_congr_left fun p hp=>hfz e he p hp
  ·exact hy.elim
 ·rename_i f args ts
  obtain⟨rfl,h1,h2⟩:=hy
  refine⟨⟨rfl,?_,h2⟩,by simp [iK],by simp⟩
  have:(args.toList.map fun x=>pz rows (ρ x))=args.toList.map fun x=>pz rows' (ρ x):=
   List.map_congr_left fun x hx=>aek (List.flatMap_eq_nil_iff.1 h2 x hx)
  rw [←this];exact h1
 ·obtain⟨hy,rfl⟩:=hy
  suffices hs:yv E op ρ rows' v ∧ ∀id∈iK op ρ,∃r,rows id=some r from⟨⟨hs.1,rfl⟩,hs.2,by simp⟩
  unfold yv at hy ⊢
  split at hy
  case h_8=>exact Z0 h hy
  case h_10=>exact DR h hy
  case h_11=>exact DT h hy
  case h_12=>exact VP h hy
  case h_16 =>
   simp only [iK]at h ⊢
   unfold x7 at hy ⊢
   split at hy
   ·obtain⟨n,hn,hv⟩:=hy
    have:=ael (rows':=rows') h hn
    exact⟨⟨n,this.1,hv⟩,this.2⟩
   ·exact hy.elim
  case h_19=>exact aem h hy
  all_goals first
   | exact hy.elim
   | exact⟨hy,by simp [iK]⟩
end
end Pm
