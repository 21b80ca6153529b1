import Derived.Laws.CopyOwn
import Derived.ArgAppend
import Derived.Test.YtelhfbikiccfkaaGreatDaa
set_option linter.unusedSimpArgs false
set_option linter.unusedVariables false
namespace Pm
open Go Go.RowKit
def HQ(rows:Rows)(ids:List Nat):Rows:=fun j=>if j∈ids then none else rows j
def SY(c:Cx)(ids:List Nat):eG:=fun b o=>c.S b o ∨ ∃id∈ids,(∃r,c.rows id=some r)∧(c.β id).ownBlock=some b
section
variable {E:Env} {c:Cx} {w0:World} {S0:eG}
def GH(c:Cx)(ids:List Nat):Cx:={ c with S:=SY c ids,rows:=HQ c.rows ids }
theorem nJ(c:Cx)(ids:List Nat):vT c (GH c ids):=
 ⟨fun _ _ h => .inl h,fun _ _ _=>rfl,fun _ h=>h,fun id r hr=>by
  simp only [GH,HQ]at hr ⊢
  split at hr
  ·cases hr
  ·exact .inr ⟨r,hr,rfl,rfl,rfl,by first | rfl | trivial⟩⟩
theorem Inv.freeze(hI:Inv w0 S0 c)(ids:List Nat):Inv w0 S0 (GH c ids):=by
 have live:∀ {k:Nat} {t:Row},HQ c.rows ids k=some t→c.rows k=some t∧k ∉ ids:=by
  intro k t h
  simp only [HQ]at h
  split at h
  ·cases h
  ·rename_i hk;exact⟨h,hk⟩
 have ax5:∀ {id:Nat} {r:Row} {g:Nat},c.rows id=some r→(c.β id).ownBlock=some g→w0.heap.size≤g∧g<c.w.heap.size:=by
  intro id r g hr hg
  obtain⟨⟨ys,g1,_,_⟩,_⟩:=hI.row id r hr
  exact g1.lt g hg
 refine⟨hI.below,fun b o h => .inl (hI.ext b o h),fun b o h=>?_,hI.lt0,fun id r hr=>hI.clock id r (live hr).1,fun id r hr=>?_,fun i j r s g hr hs=>hI.apart i j r s g (live hr).1 (live hs).1⟩
 ·rcases h with h | ⟨id,_,⟨r,hr⟩,hb⟩
  ·exact hI.new b o h
  ·exact .inr (ax5 hr hb)
 ·obtain⟨jR,hk⟩:=live hr
  obtain⟨⟨ys,g1,g2,g3⟩,g4,g5,g6⟩:=hI.row id r jR
  refine⟨⟨ys,g1,g2.mono (aV.vU (nJ c ids)),g3⟩,g4,fun g o hg hS=>?_,g6⟩
  rcases hS with h | ⟨kJ,DQ,⟨r',cC⟩,hb⟩
  ·exact g5 g o hg h
  ·have:=hI.apart id kJ r r' g jR cC hg hb
   subst this
   exact hk DQ
theorem WU(hI:Inv w0 S0 c){ids:List Nat}(hp:∀id∈ids,∀r,c.rows id=some r → ∀e∈r.els,∀p∈e,dB p=true){id:Nat}(iV:id∈ids){r:Row}(hr:c.rows id=some r)
  {g n cap:Nat} (hβ:c.β id = .slice (some ⟨g,0,none⟩) n cap) {i j:Nat} {el:List PV} {p:PV} (hi:r.els[i]? = some el) (hj:el[j]? = some p) :
  ∃v,c.w.cell? ⟨g,i*r.size+j,none⟩=some v∧SY c ids g (i*r.size+j)∧v.oneCell'=true∧dS (SY c ids) c.w p v:=by
 obtain⟨v,h1,h2,h3⟩:=xE hI hr hβ hi hj
 refine⟨v,h1, .inr ⟨id,iV,⟨r,hr⟩,by simp [hβ,Value.ownBlock]⟩,h2,?_⟩
 have h4:=h3.rep (hp id iV r hr el (List.mem_of_getElem? hi) p (List.mem_of_getElem? hj))
 exact dS.mono (fun _ _ h => .inl h) (fun _ _ _=>rfl) _ _ h4
theorem JW(hI:Inv w0 S0 c){ids:List Nat}(hp:∀id∈ids,∀r,c.rows id=some r → ∀e∈r.els,∀p∈e,dB p=true){p:PV}{v:Value}(h:aV c p v)(vX:∀id∈bM p,id∈ids)(zN:dB (fz c.rows p)=true) :
  dS (SY c ids) c.w (fz c.rows p) v:=by
 have mono:∀q u,dS c.S c.w q u→dS (SY c ids) c.w q u:=fun q u=>dS.mono (fun _ _ h => .inl h) (fun _ _ _=>rfl) q u
 cases p with
 | own id ver off len =>
  simp only [fz]at zN ⊢
  have iV:id∈ids:=vX id (by simp [bM])
  cases hr:c.rows id with
  | none=>simp [hr,dB]at zN
  | some r =>
   simp only [hr]at zN ⊢
   by_cases hv:r.ver=ver
   ·simp only [hv,if_true]at zN ⊢
    simp only [aV]at h
    obtain⟨hle,h⟩:=h.2 r hr hv
    obtain⟨⟨xs,iO,_,_⟩,hlen,_⟩:=hI.row id r hr
    have ag1:∀A m cap,c.β id = .slice A m cap→r.els.length≤cap∧cap≤maxLen:=by
     intro A m cap hβ
     rw [hβ]at iO
     rcases iO.2 with ⟨h',hz⟩ | ⟨g,lV,cur,h',_,_,WT,hm,_⟩
     ·simp at h';exact⟨by omega,by rw [h'.2.2];simp⟩
     ·simp at h';obtain⟨_,_,rfl⟩:=h';exact⟨WT,hm⟩
    have GS:((r.els.drop off).take len).length=len:=by simp;omega
    have els:∀g n cap,c.β id = .slice (some ⟨g,0,none⟩) n cap→gC (SY c ids) c.w g (off*r.size) ((r.els.drop off).take len):=by
     intro g n cap hβ
     refine pU (n:=r.size) (fun e he=>hlen e (List.mem_of_mem_drop (List.mem_of_mem_take he))) fun k e hk=>?_
     rw [List.getElem?_take]at hk
     split at hk
     ·rw [List.getElem?_drop]at hk
      refine j5 fun j q hq=>?_
      have:=WU hI hp iV hr hβ hk hq
      rw [show off*r.size+k*r.size+j=(off+k)*r.size+j by rw [Nat.add_mul]];exact this
     ·cases hk
    simp only [dS]
    rw [GS]
    rcases h with ⟨rfl,A,n,cap,hβ,rfl⟩ | ⟨mU,g,n,cap,A,hβ,hoc,rfl,ha⟩
    ·obtain⟨c1,c2⟩:=ag1 _ _ _ hβ
     refine⟨A,cap,rfl,by omega,c2,?_⟩
     rcases Nat.eq_zero_or_pos len with h0 | h0
     ·left;exact List.eq_nil_of_length_eq_zero (by rw [GS];exact h0)
     ·right
      obtain⟨g,lV,sW⟩:=sV hI hr (by omega)
      rw [hβ]at sW
      simp only [Value.slice.injEq]at sW
      obtain⟨rfl,rfl,rfl⟩:=sW
      exact⟨g,0,rfl,by simpa using els g _ _ hβ⟩
    ·obtain⟨c1,c2⟩:=ag1 _ _ _ hβ
     refine⟨some A,cap-off,rfl,by omega,by omega,?_⟩
     rcases ha with rfl | rfl
     ·left;exact List.eq_nil_of_length_eq_zero GS
     ·right;exact⟨g,off*r.size,rfl,els g n cap hβ⟩
   ·simp [hv,dB]at zN
 | ptr id ver i j =>
  simp only [fz]at zN ⊢
  have iV:id∈ids:=vX id (by simp [bM])
  cases hr:c.rows id with
  | none=>simp [hr,dB]at zN
  | some r =>
   simp only [hr]at zN ⊢
   by_cases hv:r.ver=ver
   ·simp only [hv,if_true]at zN ⊢
    simp only [aV]at h
    obtain⟨g,n,cap,hβ,rfl⟩:=h.2 r hr hv
    simp only [dS]
    refine⟨g,i*r.size+j,rfl,j5 fun k q hq=>?_⟩
    rw [List.getElem?_drop]at hq
    cases nT:r.els[i]? with
    | none=>simp [List.getD,nT]at hq
    | some el =>
     have hq':el[j+k]? = some q:=by simpa [List.getD,nT]using hq
     have:=WU hI hp iV hr hβ nT hq'
     rw [show i*r.size+j+k=i*r.size+(j+k)by omega];exact this
   ·simp [hv,dB]at zN
 | nil =>
  simp only [aV,dS]at h
  subst h
  simp only [fz,dS]
  exact⟨none,0,rfl,by simp,by simp [maxLen], .inl (by first | rfl | trivial)⟩
 | kO l =>
  simp only [fz]
  have:=mono _ _ (show dS c.S c.w (.kO l) v by simpa only [aV]using h)
  simp only [dS]at this ⊢
  obtain⟨A,rfl,h1,h2⟩:=this
  exact⟨A,l.length,rfl,Nat.le_refl _,h1,h2⟩
 | undef=>simp [fz,dB]at zN
 | _=>simp only [fz];exact mono _ _ (by simpa only [aV]using h)
theorem JX(hI:Inv w0 S0 c){ids:List Nat}(hp:∀id∈ids,∀r,c.rows id=some r → ∀e∈r.els,∀p∈e,dB p=true){p:PV}{v:Value}(h:aO c p v)(vX:∀id∈eI p,id∈ids)(zN:gX (pz c.rows p)=true) :
  dS (SY c ids) c.w (pz c.rows p) v:=by
 cases p with
 | ag l =>
  obtain⟨vs,rfl,M8⟩:=h
  simp only [pz,gX]at zN ⊢
  simp only [dS]
  refine⟨vs,rfl,dM.2 (bO.eC (by simp [M8.length]) fun k q u hq hu=>?_)⟩
  simp at hq
  obtain⟨q',hq',rfl⟩:=hq
  obtain⟨u',h1,h2⟩:=M8.get hq'
  rw [hu]at h1;cases h1
  refine JW hI hp h2 (fun id iV=>vX id ?_) (List.all_eq_true.1 zN _ (by simp;exact⟨q',List.mem_of_getElem? hq',rfl⟩))
  simp only [eI,List.mem_flatMap]
  exact⟨q',List.mem_of_getElem? hq',iV⟩
 | _ =>
  simp only [pz]at zN ⊢
  refine JW hI hp (by simpa only [aO]using h) (fun id iV=>vX id (by simpa only [eI]using iV)) ?_
  revert zN
  simp only [fz]
  first
   | (intro zN;simpa only [gX]using zN)
   | (split
      · split
        · intro _;rfl
        · intro zN;exact zN
      · intro zN;exact zN)
end
theorem A4{α:Type}{n:Nat}:∀ {els:List (List α)},(∀e∈els,e.length=n) → ∀ {i:Nat} {el:List α},els[i]? = some el → ∀(j:Nat) (l:List α),j+l.length≤el.length →
  (els.set i (el.take j++l++el.drop (j+l.length))).flatten=els.flatten.take (i*n+j)++l++els.flatten.drop (i*n+j+l.length)
 | [],_,_,_,h,_,_,_=>by simp at h
 | q::els,hn,0,el,h,j,l,hjl=>by
  simp at h
  subst h
  simp only [List.set_cons_zero,List.flatten_cons,Nat.zero_mul,Nat.zero_add]
  rw [List.take_append_of_le_length (by omega),List.drop_append_of_le_length hjl]
  simp
 | q::els,hn,i+1,el,h,j,l,hjl=>by
  have hq:q.length=n:=hn q (by simp)
  have ih:=A4 (els:=els) (n:=n) (fun e he=>hn e (by simp [he])) (i:=i) (el:=el) (by simpa using h) j l hjl
  simp only [List.set_cons_succ,List.flatten_cons,ih]
  have e1:(i+1)*n+j=q.length+(i*n+j):=by rw [hq,Nat.add_mul];omega
  have e2:(i+1)*n+j+l.length=q.length+(i*n+j+l.length):=by omega
  rw [e1,show q.length+(i*n+j)+l.length=q.length+(i*n+j+l.length)by omega,List.take_length_add_append,List.drop_length_add_append]
  simp
def sX(E:Env)(t:TypeId)(rows:Rows)(p x v:PV)(u:Option (Nat × Row)):Prop:=
 (E.ty t).known=true∧v = .undef ∧
 match p with
 | .ptr id ver i j=>∃r,rows id=some r∧r.ver=ver ∧ ∃el,r.els[i]? = some el ∧ ∃l,cU x=some l∧(∀q∈l,jF rows q)∧l.length=(E.ty t).size∧j+l.length≤el.length ∧
   u=some (id,{ r with els:=r.els.set i (el.take j++l++el.drop (j+l.length)) })
 | _=>False
def iS(n:Nat):Nat→List (Nat × PV)→Option (List (List PV))
 | _,[]=>some []
 | k,(i,p)::ps =>
  match cU p with
  | some l=>if i=k∧l.length=n then(iS n (k+1) ps).map (l :: ·)else none
  | none=>none
def SZ(t:TI)(rows:Rows)(len:Nat)(parts:List (Nat × PV))(v:PV):Prop:=
 match t with
 | .slice _ n _ _=>∃els,iS n 0 parts=some els∧len=els.length∧len≤4096∧n≤4096∧(∀e∈els,∀p∈e,dB (fz rows p)=true∧jF rows p)∧(∀e∈els,∀p∈e,bM p = [])∧v = .kO (els.map fun e=>e.map (fz rows))
 | _=>False
def Gs:=PV × Value→Prop
instance:Membership (PV × Value) Gs:=⟨fun G p=>G p⟩
def Gs.none:Gs:=fun _=>False
theorem Gs.M9{p:PV × Value}:¬p∈Gs.none:=id
def Z7(P:Program)(f:FuncId)(args:List PV)(rows:Rows)(clk:Nat)(R:PV→Rows→Nat→Prop):Prop:=
 (∃fn c,P.funcs[f]? = some fn∧fn.body=some c∧(fn.name == "runtime.NumGoroutine")=false) ∧
 ∀(w0:World) (S0:eG) (c:Cx) (vs:List Value) (G:Gs),Inv w0 S0 c→c.rows=rows→(∀v,c.used v→v<clk)→bO (aO c) args vs→(∀p∈G,aO c p.1 p.2) →
  Calls P f vs.toArray c.w fun e w'=>∃v c' r lZ,e = .returned v∧c'.w=w'∧Inv w0 S0 c'∧(∀p∈G,aO c' p.1 p.2)∧R r c'.rows lZ∧(∀v,c'.used v→v<lZ)∧aO c' r v
def amk(E:Env):PV→Bool
 | .fn g _=>E.writes g
 | _=>false
def A5(P:Program)(g:FuncId)(iJ:List PV)(rows:Rows)(clk:Nat)(K:PV→Rows→Nat→Prop):Prop:=
 ∃R,Z7 P g iJ rows clk R ∧ ∀r rows' lZ,R r rows' lZ→K r rows' lZ
def S3(E:Env)(p:PV)(iJ:List PV)(rows:Rows)(clk:Nat)(K:PV→Rows→Nat→Prop):Prop:=
 match p with
 | .fn g []=>A5 E.P g iJ rows clk K
 | _=>False
def A6(E:Env)(f:PV)(args:List PV)(v:PV):Prop:=
 match f with
 | .fn g cV=>(args.all gX=true)∧aD E.P g (args++cV) v
 | _=>False
def ys(E:Env)(op:Op)(ρ:Operand→PV)(rows:Rows)(v:PV)(u:Option (Nat × Row)):Prop:=
 match op with
 | .store t p x=>sX E t rows (ρ p) (ρ x) v u
 | .buildSlice t len parts=>SZ (E.ty t) rows len (parts.toList.map fun x=>(x.1,ρ x.2)) v∧u=none
 | .call { callee:=.value f,args:=args,argTypes:=_ }=>u=none∧A6 E (ρ f) (args.toList.map fun x=>pz rows (ρ x)) v∧(args.toList.flatMap fun x=>eI (ρ x)) = []
 | op=>yv E op ρ rows v∧u=none
def iD(rows:Rows):Option (Nat × Row)→Rows
 | none=>rows
 | some (id,r)=>eQ rows id (some r)
section
variable {E:Env} {c:Cx} {w0:World} {S0:eG}
theorem S4(hI:Inv w0 S0 c){t:TypeId}{p x v:PV}{u:Option (Nat × Row)}{vp vx:Value}(hp:aO c p vp)(hx:aO c x vx)(h:sX E t c.rows p x v u) :
  v = .undef ∧ ∃w',(Instr.storeAt t vp vx).run E.P c.w = .ok () w'∧Inv w0 S0 { c with w:=w',rows:=iD c.rows u }∧vT c { c with w:=w',rows:=iD c.rows u }:=by
 obtain⟨hk,rfl,h⟩:=h
 refine⟨rfl,?_⟩
 split at h
 ·rename_i id ver i j
  obtain⟨r,hr,lN,el,nT,l,hl,kR,hlen,hjl,rfl⟩:=h
  simp only [aO,aV]at hp
  obtain⟨g,n,cap,hβ,rfl⟩:=hp.2 r hr lN
  obtain⟨⟨xs,iO,iC,ajU⟩,xH,hnS,mU⟩:=hI.row id r hr
  obtain⟨xI,hc2⟩:=n3 hx hl kR
  have SN:vx.cells.toList.length=l.length:=xI.length.symm
  have arZ:=iO
  rw [hβ]at iO
  rcases iO.2 with ⟨h',_⟩ | ⟨g',lV,cur,h',Z5,hg,WT,hcm,MX,NA⟩
  ·simp at h'
  ·simp only [Value.slice.injEq,Option.some.injEq,Addr.mk.injEq,and_true]at h'
   obtain⟨rfl,rfl,rfl⟩:=h'
   have hi:i<r.els.length:=(List.getElem?_eq_some_iff.1 nT).1
   have acw:el.length=r.size:=xH el (List.mem_of_getElem? nT)
   have hmul:i*r.size+r.size≤r.els.length*r.size:=by rw [←Nat.succ_mul];exact Nat.mul_le_mul_right _ hi
   have aBv:r.els.length*r.size≤cap*r.size:=Nat.mul_le_mul_right _ WT
   have aml:i*r.size+j+l.length≤r.els.length*r.size:=by omega
   have iP:=run_storeCells_at E.P g (i*r.size+j) r.e vx.cells.toList 0 cur c.w hg (by rw [SN];omega) hc2
   obtain⟨inf,_,hi1,_,CR,_,_⟩:=((E.ok t).zero hk).ok
   have kS:(Instr.storeAt t (.pointer (some ⟨g,i*r.size+j,none⟩)) vx).run E.P c.w = .ok () (c.w.setRow g (cur.toList.take (i*r.size+j)++vx.cells.toList++cur.toList.drop (i*r.size+j+l.length)).toArray):=by
    have pF:vx.cells.size=inf.size:=by rw [CR,←hlen,←SN];simp
    simp only [Instr.storeAt,Instr.sureAddr,Sem.run_bind,Sem.run_pure,Result.andThen_ok,storeVar,dW hi1,pF]
    simp only [Nat.add_zero,SN]at iP
    simpa using iP
   refine⟨_,kS,?_⟩
   have acx:(c.w.setRow g (cur.toList.take (i*r.size+j)++vx.cells.toList++cur.toList.drop (i*r.size+j+l.length)).toArray).ownsRow w0.heap.size r.e r.size (c.β id) (r.els.set i (el.take j++l++el.drop (j+l.length))).length
     (xs.take (i*r.size+j)++vx.cells.toList++xs.drop (i*r.size+j+l.length)):=by
    rw [hβ,List.length_set]
    refine⟨?_, .inr ⟨g,cap,_,rfl,Z5,setRow_heap _ g cur _ r.e _ hg,WT,hcm,?_,?_⟩⟩
    ·have:=iO.1
     simp [SN];omega
    ·simp [SN];omega
    ·rw [←NA]
     have ax6:cur.toList.length=cap*r.size:=by simp [MX]
     simp only
     rw [List.take_append,List.take_append]
     have e1:List.take (r.els.length*r.size) (cur.toList.take (i*r.size+j))=cur.toList.take (i*r.size+j):=by
      rw [List.take_take,Nat.min_eq_right (by omega)]
     have e2:List.take (i*r.size+j) (cur.toList.take (r.els.length*r.size))=cur.toList.take (i*r.size+j):=by
      rw [List.take_take,Nat.min_eq_left (by omega)]
     rw [e1,e2]
     have e3:(cur.toList.take (i*r.size+j)).length=i*r.size+j:=by rw [List.length_take];omega
     rw [e3]
     have e4:List.take (r.els.length*r.size-(i*r.size+j)) vx.cells.toList=vx.cells.toList:=List.take_of_length_le (by rw [SN];omega)
     rw [e4]
     congr 1
     rw [List.length_append,e3,SN,List.drop_take]
   have DR:bO (aV c) (r.els.set i (el.take j++l++el.drop (j+l.length))).flatten (xs.take (i*r.size+j)++vx.cells.toList++xs.drop (i*r.size+j+l.length)):=by
    rw [A4 xH nT j l hjl]
    exact((iC.take _).append xI).append (iC.drop _)
   have pV:c.w.grownBy (c.w.setRow g (cur.toList.take (i*r.size+j)++vx.cells.toList++cur.toList.drop (i*r.size+j+l.length)).toArray) (c.β id).ownBlock:=by
    rw [hβ]
    exact⟨rfl,rfl,rfl,by simp,fun k _ hk=>setRow_other _ g k _ (fun e=>hk (by simp [Value.ownBlock,e]))⟩
   exact hI.eQ (r':={ r with els:=r.els.set i (el.take j++l++el.drop (j+l.length)) }) hr pV acx DR (by
    intro y hy
    simp only [List.mem_append]at hy
    rcases hy with (hy | hy) | hy
    ·exact ajU y (List.mem_of_mem_take hy)
    ·exact hc2 y hy
    ·exact ajU y (List.mem_of_mem_drop hy)) (by
    intro e he
    rcases List.mem_or_eq_of_mem_set he with he | rfl
    ·exact xH e he
    ·simp;omega) rfl rfl (by simp)
 ·exact h.elim
end
section
variable {E:Env} {c:Cx} {w0:World} {S0:eG}
theorem DT{n:Nat}:∀(vs:List (Nat × Value)) (k:Nat) (cells:Array Value),(∀j x,vs[j]? = some x→x.1=k+j∧x.2.cells.size=n)→cells.size=(k+vs.length)*n →
  ∃dC,Instr.fill (fun i=>some (i*n,n)) cells vs=some dC∧dC.toList=cells.toList.take (k*n)++vs.flatMap fun x=>x.2.cells.toList
 | [],k,cells,_,hs=>⟨cells,rfl,by simp at hs;rw [List.take_of_length_le (by simp [hs])];simp⟩
 | (i,v)::vs,k,cells,h,hs=>by
  obtain⟨h1,h2⟩:=h 0 (i,v) (by simp)
  simp only [Nat.add_zero]at h1 h2
  subst h1
  have aml:i*n+n≤cells.size:=by
   rw [hs,List.length_cons,←Nat.succ_mul]
   exact Nat.mul_le_mul_right _ (by omega)
  have hz3:v.cells.toList.zipIdx=v.cells.zipIdx.toList:=by simp
  have HM:=qJ (i*n) v.cells.toList 0 cells (by simp [h2];omega)
  have pF:(List.foldl (fun cs (x:Value × Nat)=>cs.setIfInBounds (i*n+x.2) x.1) cells v.cells.toList.zipIdx).size=cells.size:=by
   have:=congrArg List.length HM
   simp only [Array.length_toList]at this
   rw [this]
   simp [h2]
   omega
  obtain⟨dC,g1,g2⟩:=DT vs (i+1) (List.foldl (fun cs (x:Value × Nat)=>cs.setIfInBounds (i*n+x.2) x.1) cells v.cells.toList.zipIdx)
   (fun j x hx=>by have:=h (j+1) x (by simpa using hx);exact⟨by omega,this.2⟩) (by rw [pF,hs,List.length_cons];congr 1;omega)
  refine⟨dC,?_,?_⟩
  ·simp only [Instr.fill]
   rw [if_neg (by simp [h2];omega),←g1,hz3,Array.foldl_toList]
  ·rw [g2,HM]
   have e1:(cells.toList.take (i*n+0)).length=i*n:=by rw [List.length_take];simp;omega
   have e2:v.cells.toList.length=n:=by simp [h2]
   rw [show(i+1)*n=i*n+n by rw [Nat.add_mul];omega]
   rw [List.take_append,List.length_append,e1,e2,Nat.sub_self,List.take_zero,List.append_nil,List.take_of_length_le (by rw [List.length_append,e1,e2];exact Nat.le_refl _)]
   simp [List.append_assoc]
theorem pH{n:Nat}:∀ {ps:List (Nat × PV)} {k:Nat} {els:List (List PV)},iS n k ps=some els→els.length=ps.length∧(∀e∈els,e.length=n) ∧ ∀j x,ps[j]? = some x→x.1=k+j ∧ ∃e,els[j]? = some e∧cU x.2=some e
 | [],k,els,h=>by simp [iS]at h;subst h;simp
 | (i,p)::ps,k,els,h=>by
  simp only [iS]at h
  split at h
  ·rename_i l hl
   split at h
   ·rename_i xG
    rw [Option.map_eq_some_iff]at h
    obtain⟨JY,h1,rfl⟩:=h
    obtain⟨g1,g2,g3⟩:=pH h1
    refine⟨by simp [g1],fun e he=>?_,fun j x hx=>?_⟩
    ·simp at he
     rcases he with rfl | he
     ·exact xG.2
     ·exact g2 e he
    ·match j with
     | 0=>simp at hx;subst hx;exact⟨by simpa using xG.1,l,by simp,hl⟩
     | j+1 =>
      obtain⟨q1,q2⟩:=g3 j x (by simpa using hx)
      exact⟨by omega,by simpa using q2⟩
   ·cases h
  ·cases h
theorem Inv.ax7(hI:Inv w0 S0 c)(o:Obj):Inv w0 S0 { c with w:=c.w.alloc o,S:=fun b k=>c.S b k∨b=c.w.heap.size }∧vT c { c with w:=c.w.alloc o,S:=fun b k=>c.S b k∨b=c.w.heap.size }:=by
 have:=hI.grow (w':=c.w.alloc o) (S':=fun b k=>c.S b k∨b=c.w.heap.size) ((Below.refl _ _).alloc (Nat.le_refl _) o) (fun _ _ h => .inl h) (fun b k h=>h.imp (fun h=>h) fun h=>by subst h;simp)
 exact this
theorem acy{p:PV}{v:Value}(hI:Inv w0 S0 c)(h:aV c p v)(vX:bM p = [])(zN:dB (fz c.rows p)=true):dS c.S c.w (fz c.rows p) v:=by
 have:=JW hI (ids:=[]) (by simp) h (by simp [vX]) zN
 exact dS.mono (fun b o h=>by rcases h with h | ⟨id,iV,_⟩;exact h;cases iV) (fun _ _ _=>rfl) _ _ this
theorem DU(hI:Inv w0 S0 c){t e:TypeId}{n bb len:Nat}{z:List PV}(hE:E.ty t = .slice e n bb z){parts:Array (Nat × Operand)}{ρ:Operand→PV}{vρ:Operand→Value}(hρ:∀x,aO c (ρ x) (vρ x))
  {els:List (List PV)} (xH:iS n 0 (parts.toList.map fun x=>(x.1,ρ x.2))=some els) (hlen:len=els.length) (hsm:len≤4096) (hn:n≤4096)
  (zN:∀e∈els,∀p∈e,dB (fz c.rows p)=true∧jF c.rows p) (vX:∀e∈els,∀p∈e,bM p = []) :
  ∃v' c',(Instr.buildSlice t len (parts.map fun(i,x)=>(i,vρ x))).run E.P c.w = .ok v' c'.w∧c'.rows=c.rows∧c'.used=c.used∧Inv w0 S0 c'∧vT c c'∧aO c' (.kO (els.map fun e=>e.map (fz c.rows))) v':=by
 obtain⟨hu,hnp,JZ,i,zv,hi,hz,hs,_,SX,_⟩:=gF hE
 obtain⟨g1,g2,g3⟩:=pH xH
 have WV:parts.size=els.length:=by rw [g1];simp
 have ax8:zv.cells.size=n:=by rw [←JZ,←SX];simp
 have HR:∀j (x:Nat × Value),((parts.map fun(i,x)=>(i,vρ x)).toList)[j]? = some x→x.1=0+j ∧ ∃e,els[j]? = some e∧bO (aV c) e x.2.cells.toList ∧ ∀u∈x.2.cells.toList,u.oneCell'=true:=by
  intro j x hx
  simp at hx
  obtain⟨a,b,gW,rfl⟩:=hx
  obtain⟨q1,e,q2,q3⟩:=g3 j (a,ρ b) (by simp;exact⟨a,b,gW,rfl,rfl⟩)
  have q4:=n3 (hρ b) q3 (fun q hq=>(zN e (List.mem_of_getElem? q2) q hq).2)
  exact⟨q1,e,q2,q4.1,q4.2⟩
 obtain⟨dC,f1,f2⟩:=DT (n:=n) (parts.map fun(i,x)=>(i,vρ x)).toList 0 ((Array.range (len*n)).map (zv.cells[· % zv.cells.size]!)) (fun j x hx=>by
  obtain⟨q1,e,q2,q3,_⟩:=HR j x hx
  refine⟨q1,?_⟩
  have:=q3.length
  rw [g2 e (List.mem_of_getElem? q2)]at this
  simpa using this.symm) (by simp [WV,hlen])
 simp only [Nat.zero_mul,List.take_zero,List.nil_append]at f2
 have kS:(Instr.buildSlice t len (parts.map fun(i,x)=>(i,vρ x))).run E.P c.w = .ok (.slice (some ⟨c.w.heap.size,0,none⟩) len len) (c.w.alloc (.cells dC e)):=by
  have hbound:¬(16777216<len*n):=by
   have:len*n≤4096*4096:=Nat.mul_le_mul hsm hn
   omega
  by_cases h0:len*n=0
  ·have CC:len=0:=by
    rcases Nat.mul_eq_zero.1 h0 with h | h
    ·exact h
    ·omega
   have hp0:parts = #[]:=Array.eq_empty_of_size_eq_zero (by omega)
   subst hp0
   subst CC
   simp [Instr.fill]at f1
   subst f1
   have MZ:Array.range 0 = #[]:=rfl
   simp [Instr.buildSlice,run_underlying hu,dW hi,newRow,Instr.fill,MZ]
  ·have f1':Instr.fill (fun i=>some (i*n,n)) ((Array.range (len*n)).map (zv.cells[· % zv.cells.size]!)) (parts.toList.map fun x=>(x.1,vρ x.2))=some dC:=by simpa using f1
   simp only [Instr.buildSlice,Sem.run_bind,run_underlying hu,Result.andThen_ok,dW hi,hs]
   simp [h0,hbound,newRow,zeroValue,typeInfo,hi,hz,f1']
 obtain⟨zE,hA⟩:=hI.ax7 (.cells dC e)
 refine⟨_,{ c with w:=c.w.alloc (.cells dC e),S:=fun b k=>c.S b k∨b=c.w.heap.size },kS,rfl,rfl,zE,hA,?_⟩
 simp only [aO,aV,dS]
 refine⟨some ⟨c.w.heap.size,0,none⟩,by rw [List.length_map,hlen],by rw [List.length_map,←hlen];simp [maxLen];omega, .inr ⟨_,_,rfl,?_⟩⟩
 refine pU (n:=n) (by
  intro e' xB
  simp at xB
  obtain⟨e1,R3,rfl⟩:=xB
  simpa using g2 e1 R3) fun k el hk=>?_
 simp at hk
 obtain⟨e1,R3,rfl⟩:=hk
 refine j5 fun j p hj=>?_
 simp at hj
 obtain⟨q,hq,rfl⟩:=hj
 have hkl:k<els.length:=(List.getElem?_eq_some_iff.1 R3).1
 obtain⟨x,hx⟩:∃x,((parts.map fun(i,x)=>(i,vρ x)).toList)[k]? = some x:=⟨_,List.getElem?_eq_getElem (by simp;omega)⟩
 obtain⟨_,e2,q2,q3,q4⟩:=HR k x hx
 rw [R3]at q2;cases q2
 obtain⟨u,hu1,hu2⟩:=q3.get hq
 have ar0:dC.toList[k*n+j]? = some u:=by
  have e3:dC.toList=((parts.map fun(i,x)=>(i,vρ x)).toList.map fun x=>x.2.cells.toList).flatten:=by rw [f2,List.flatMap_def]
  rw [e3]
  refine j6 (n:=n) (fun e he=>?_) (i:=k) (e:=x.2.cells.toList) (by rw [List.getElem?_map,hx];rfl) hu1
  simp only [List.mem_map]at he
  obtain⟨y,hy,rfl⟩:=he
  obtain⟨k',zB⟩:=List.getElem?_of_mem hy
  obtain⟨_,e4,q5,q6,_⟩:=HR k' y zB
  rw [←q6.length];exact g2 e4 (List.mem_of_getElem? q5)
 refine⟨u,?_, .inr rfl,q4 u (List.mem_of_getElem? hu1),?_⟩
 ·have:=heap_alloc_new c.w (.cells dC e)
  rw [cell_of_row _ _ _ _ _ _ this]
  simpa using ar0
 ·exact dS.mono hA.S hA.w _ _ (acy hI hu2 (vX e1 (List.mem_of_getElem? R3) q (List.mem_of_getElem? hq)) (zN e1 (List.mem_of_getElem? R3) q (List.mem_of_getElem? hq)).1)
end
section
variable {E:Env} {c:Cx} {w0:World} {S0:eG}
theorem n4{P:Program}{g:FuncId}{fn:Func}{b:Code}(h1:P.funcs[g]? = some fn)(h2:fn.body=some b) (h3:(fn.name == "runtime.NumGoroutine") = false) (args:Array Value) (w:World) :
  (callFunc g args).run P w = .ok (.enter g args) w:=by
 simp only [callFunc,Sem.run_bind,program,Sem.run,Result.andThen_ok,h1,h2,h3]
 simp
theorem A7(hI:Inv w0 S0 c){ids:List Nat}(hp:∀id∈ids,∀r,c.rows id=some r → ∀e∈r.els,∀p∈e,dB p=true){pf:PV}{vf:Value}{WW:List PV}{A8:List Value}
  (hf:aO c pf vf) (gZ:bO (aO c) WW A8) (vX:∀p∈WW,∀id∈eI p,id∈ids) {v:PV} (h:A6 E pf (WW.map (pz c.rows)) v) {K:Value→World→Prop}
  (hK:∀v' c',c'.rows=HQ c.rows ids→c'.used=c.used→vT c c'→Inv w0 S0 c'→aO c' v v'→K v' c'.w) :
  ∃g cs,vf = .func (.func g) #[] cs∧(callFunc g (A8.toArray++cs)).run E.P c.w = .ok (.enter g (A8.toArray++cs)) c.w ∧
   Calls E.P g (A8.toArray++cs) c.w fun e w'=>∃v',e = .returned v'∧K v' w':=by
 unfold A6 at h
 split at h
 ·rename_i g cV
  obtain⟨vI,⟨fn,b,h1,h2,h3⟩,S5⟩:=h
  simp only [aO,aV,dS]at hf
  obtain⟨cs,rfl,MX⟩:=hf
  refine⟨g,cs.toArray,rfl,n4 h1 h2 h3 _ _,?_⟩
  have NB:=hI.freeze ids
  have c8:∀b o,SY c ids b o→b<c.w.heap.size:=fun b o hb=>NB.lt (c:=GH c ids) hb
  have iC:bR (SY c ids) c.w (WW.map (pz c.rows)++cV) (A8++cs):=by
   refine dM.2 (bO.append (bO.eC (by simp [gZ.length]) fun k p u xA hu=>?_) ?_)
   ·simp at xA
    obtain⟨q,hq,rfl⟩:=xA
    obtain⟨u',g1,g2⟩:=gZ.get hq
    rw [hu]at g1;cases g1
    exact JX hI hp g2 (vX q (List.mem_of_getElem? hq)) (List.all_eq_true.1 vI _ (by simp;exact⟨q,List.mem_of_getElem? hq,rfl⟩))
   ·exact(dM.1 MX).mono fun a b gW=>dS.mono (fun _ _ h => .inl h) (fun _ _ _=>rfl) a b gW
  have:=S5 c.w (SY c ids) (A8++cs) c8 iC
  rw [show(A8++cs).toArray=A8.toArray++cs.toArray by simp]at this
  refine this.mono ?_
  rintro e w' ⟨v',rfl,hb,S',g1,g2,g3⟩
  refine⟨v',rfl,?_⟩
  obtain⟨hI2,hA2⟩:=NB.grow (c:=GH c ids) hb g1 g2
  have hA:vT c { GH c ids with S:=S',w:=w' }:=by
   have hA1:=nJ c ids
   exact⟨fun b o h=>g1 b o (hA1.S b o h),fun b o h=>(hA2.w b o (hA1.S b o h)).trans (hA1.w b o h),fun _ h=>h,hA1.rows⟩
  exact hK v' { GH c ids with S:=S',w:=w' } rfl rfl hA hI2 (aO.kP g3)
 ·exact h.elim
structure qL(w0:World)(S0:eG)(n:Nat)(G:Gs)(U:Nat→Prop)(f:Nat→PV)(rows:Rows)(a:Act)(w:World):Prop where
 ex:∃c:Cx,c.w=w∧c.rows=rows∧(∀v,c.used v→U v)∧Inv w0 S0 c∧(∀s,aO c (f s) (a.tmps.getD s undef)) ∧ ∀p∈G,aO c p.1 p.2
 size:a.tmps.size=n
 defers:a.defers = []
abbrev Rel(w0:World)(S0:eG)(n:Nat)(G:Gs)(σ:PS)(a:Act)(w:World):Prop:=qL w0 S0 n G (fun v=>v<σ.clock) σ.f σ.rows a w
theorem qL.mono{w0:World}{S0:eG}{n:Nat}{G:Gs}{U U':Nat→Prop}{f:Nat→PV}{rows:Rows}{a:Act}{w:World}(hU:∀v,U v→U' v)(h:qL w0 S0 n G U f rows a w):qL w0 S0 n G U' f rows a w:=by
 obtain⟨⟨c,h1,h2,h3,h4⟩,h5,h6⟩:=h
 exact⟨⟨c,h1,h2,fun v hv=>hU v (h3 v hv),h4⟩,h5,h6⟩
theorem pW{n:Nat}{G:Gs}{U:Nat→Prop}{f:Nat→PV}{a:Act}{c':Cx}{v:PV}{v':Value}{d:Option Tmp}(hf:∀s,aO c (f s) (a.tmps.getD s undef))(hG:∀p∈G,aO c p.1 p.2)(hn:a.tmps.size=n)(gG:a.defers = [])
  (hA:vT c c') (hI:Inv w0 S0 c') (hv:aO c' v v') (hd:∀t,d=some t→t<n) {f':Nat→PV} {rows:Rows} (h1:f'=put f d v) (h2:rows=c'.rows) (h3:∀v,c'.used v→U v):qL w0 S0 n G U f' rows (a.put d v') c'.w:=by
 refine⟨⟨c',rfl,h2.symm,h3,hI,fun s=>?_,fun p hp=>aO.vU hA _ _ (hG p hp)⟩,?_,?_⟩
 ·rw [h1]
  cases d with
  | none=>exact aO.vU hA _ _ (hf s)
  | some t =>
   simp only [put,Act.put]
   by_cases hs:s=t
   ·subst hs
    have:s<a.tmps.size:=by rw [hn];exact hd s rfl
    simpa [this]using hv
   ·rw [if_neg hs]
    have:=aO.vU hA _ _ (hf s)
    simpa [Array.getElem?_setIfInBounds_ne (Ne.symm hs)]using this
 ·cases d<;>simp [Act.put,hn]
 ·cases d<;>simp [Act.put,gG]
theorem oU{n:Nat}{G:Gs}{f:Nat→PV}{a:Act}{c':Cx}{v:PV}{v':Value}{d:Option Tmp}(hf:∀s,aO c (f s) (a.tmps.getD s undef))(hG:∀p∈G,aO c p.1 p.2)(hn:a.tmps.size=n)(gG:a.defers = [])
  (hA:vT c c') (hI:Inv w0 S0 c') (hv:aO c' v v') (hd:∀t,d=some t→t<n) {σ:PS} (h1:σ.f=put f d v) (h2:σ.rows=c'.rows) (h3:∀v,c'.used v→v<σ.clock):Rel w0 S0 n G σ (a.put d v') c'.w:=
 pW hf hG hn gG hA hI hv hd h1 h2 h3
theorem acz{n:Nat}{G:Gs}{f:Nat→PV}{a:Act}{c':Cx}{v:PV}{v':Value}{d:Option Tmp}(hf:∀s,aO c' (f s) (a.tmps.getD s undef))(hG:∀p∈G,aO c' p.1 p.2)(hn:a.tmps.size=n)(gG:a.defers = [])
  (hI:Inv w0 S0 c') (hv:aO c' v v') (hd:∀t,d=some t→t<n) {σ:PS} (h1:σ.f=put f d v) (h2:σ.rows=c'.rows) (h3:∀v,c'.used v→v<σ.clock):Rel w0 S0 n G σ (a.put d v') c'.w:=
 oU hf hG hn gG (vT.refl c') hI hv hd h1 h2 h3
theorem NC{o:Oper}{a:Act}{f:Nat→PV}(hI:Inv w0 S0 c)(hf:∀s,aO c (f s) (a.tmps.getD s undef)){v:PV}{u:Option (Nat × Row)}(h:ys E o.op (aX f) c.rows v u)
  {K:Act→World→Prop} {Q:Exit→Act→World→Prop}
  (hK:∀v' c',c'.rows=iD c.rows u→c'.used=c.used→vT c c'→Inv w0 S0 c'→aO c' v v'→K (a.put o.dst v') c'.w):o.wp E.P a c.w K Q:=by
 have hρ:=nI hf
 have plain:yv E o.op (aX f) c.rows v∧u=none→o.wp E.P a c.w K Q:=by
  rintro⟨hv,rfl⟩
  obtain⟨v',h1,h2⟩:=ami hI hf hv
  unfold Oper.wp
  rw [h1]
  exact hK v' c rfl rfl (vT.refl c) hI h2
 obtain⟨dst,op,type,pos,after,guard⟩:=o
 simp only at h hK plain
 unfold ys at h
 split at h
 ·rename_i t p x
  obtain⟨rfl,w',h1,h2,h3⟩:=S4 hI (hρ p) (hρ x) h
  unfold Oper.wp
  have:(execOp a.eval { dst:=dst,op:=.store t p x,type:=type,pos:=pos,after:=after,guard:=guard }).run E.P c.w = .ok .skip w':=by simp [execOp,h1]
  rw [this]
  exact hK undef { c with w:=w',rows:=iD c.rows u } rfl rfl h3 h2 (by simp [aO,aV])
 ·rename_i t len parts
  obtain⟨h,rfl⟩:=h
  unfold SZ at h
  split at h
  ·rename_i e n bb z hE
   obtain⟨els,h1,h2,h3,h4,h5,h6,rfl⟩:=h
   obtain⟨v',c',g1,g2,g3,g4,g5,g6⟩:=DU hI hE hρ h1 h2 h3 h4 h5 h6
   unfold Oper.wp
   have:(execOp a.eval { dst:=dst,op:=.buildSlice t len parts,type:=type,pos:=pos,after:=after,guard:=guard }).run E.P c.w = .ok (.value v') c'.w:=by
    simp only [execOp,Sem.run_bind,g1,Result.andThen_ok,Sem.run_pure]
   rw [this]
   exact hK v' c' g2 g3 g5 g4 g6
  ·exact h.elim
 ·rename_i fo args ts
  obtain⟨rfl,hc,vX⟩:=h
  have gZ:bO (aO c) (args.toList.map fun x=>aX f x) (args.map a.eval).toList:=by
   refine bO.eC (by simp) fun k p u hp hu=>?_
   simp at hp hu
   obtain⟨x,hx,rfl⟩:=hp
   obtain⟨y,hy,rfl⟩:=hu
   rw [hx]at hy;cases hy
   exact hρ x
  have hc':A6 E (aX f fo) ((args.toList.map fun x=>aX f x).map (pz c.rows)) v:=by rw [List.map_map];exact hc
  obtain⟨g,cs,h1,h2,h3⟩:=A7 hI (ids:=[]) (by simp) (hρ fo) gZ (by
   intro p hp id iV
   simp at hp
   obtain⟨x,hx,rfl⟩:=hp
   have:id∈args.toList.flatMap fun x=>eI (aX f x):=by simp only [List.mem_flatMap];exact⟨x,by simpa using hx,iV⟩
   rw [vX]at this;exact this) hc' (K:=fun v' w'=>K (a.put dst v') w') (fun v' c' q1 q2 q3 q4 q5=>hK v' c' (by rw [q1];funext j;simp [HQ,iD]) q2 q3 q4 q5)
  unfold Oper.wp
  have kS:(execOp a.eval { dst:=dst,op:=.call { callee:=.value fo,args:=args,argTypes:=ts },type:=type,pos:=pos,after:=after,guard:=guard }).run E.P c.w = .ok (.enter g (args.map a.eval++cs)) c.w:=by
   simp only [execOp,resolve,h1,Deferred.ofValue,Sem.run_bind,Sem.run_pure,Result.andThen_ok,invoke]
   simp only [Array.toArray_toList]at h2
   simpa only [Array.empty_append]using h2
  rw [kS]
  simp only [Array.toArray_toList]at h3
  exact h3.mono fun e w' ⟨v',he,hk⟩=>by subst he;exact hk
 ·exact plain h
end
def room:Nat:=140737488355328
def xJ(rows:Rows)(y:PV)(l:List (List PV)):Prop:=
 match y with
 | .nil=>l = []
 | .sl k=>l=k
 | .kO k=>l=k
 | .own id ver off len=>∃r,rows id=some r∧r.ver=ver∧l=(r.els.drop off).take len
 | _=>False
def fB(rows:Rows)(ids:List Nat):Prop:=∀id∈ids,∀r,rows id=some r → ∀e∈r.els,∀p∈e,dB p=true
def J0(K:PS→Prop)(σ:PS)(d:Option Tmp)(v:PV)(id:Nat)(e:TypeId)(n:Nat)(els:List (List PV)):Prop:=
 K ⟨put σ.f d v,eQ σ.rows id (some ⟨σ.clock,e,n,els⟩),σ.clock+1⟩
def J5(E:Env)(o:Oper)(t:TypeId)(x y:PV)(K:PS→Prop)(σ:PS):Prop:=
 match E.ty t with
 | .slice e n b _ =>
  ∃l,xJ σ.rows y l∧(∀e∈l,e.length=n) ∧
  match x with
  | .nil=>l.length≤room∧l.length*b≤room∧J0 K σ o.dst (.own (o.dst.getD 0) σ.clock 0 l.length) (o.dst.getD 0) e n l
  | .own id ver off len=>∃r,σ.rows id=some r∧r.ver=ver∧off=0∧len=r.els.length∧r.e=e∧r.size=n∧len+l.length≤room∧(len+l.length)*b≤room ∧
    J0 K σ o.dst (.own id σ.clock 0 (len+l.length)) id e n (r.els++l)
  | .kO l0=>(∀e∈l0,e.length=n)∧(∀e∈l,∀p∈e,dB p=true)∧l0.length+l.length≤room∧(l0.length+l.length)*b≤room∧K (σ.put o.dst (.sl (l0++l)))
  | _=>False
 | _=>False
def HS(K:Nat→(Nat→PV)→Rows→Prop)(ver:Nat)(f:Nat→PV)(rows:Rows)(d:Option Tmp)(v:PV)(id:Nat)(e:TypeId)(n:Nat)(els:List (List PV)):Prop:=
 K 1 (put f d v) (eQ rows id (some ⟨ver,e,n,els⟩))
def pY(E:Env)(ver:Nat)(o:Oper)(t:TypeId)(x y:PV)(K:Nat→(Nat→PV)→Rows→Prop)(f:Nat→PV)(rows:Rows):Prop:=
 match E.ty t with
 | .slice e n b _ =>
  ∃l,xJ rows y l∧(∀e∈l,e.length=n) ∧
  match x with
  | .nil=>l.length≤room∧l.length*b≤room∧HS K ver f rows o.dst (.own (o.dst.getD 0) ver 0 l.length) (o.dst.getD 0) e n l
  | .own id ar1 off len=>∃r,rows id=some r∧r.ver=ar1∧off=0∧len=r.els.length∧r.e=e∧r.size=n∧len+l.length≤room∧(len+l.length)*b≤room ∧
    HS K ver f rows o.dst (.own id ver 0 (len+l.length)) id e n (r.els++l)
  | .kO l0=>(∀e∈l0,e.length=n)∧(∀e∈l,∀p∈e,dB p=true)∧l0.length+l.length≤room∧(l0.length+l.length)*b≤room∧K 0 (put f o.dst (.sl (l0++l))) rows
  | _=>False
 | _=>False
def slT:TI→Bool
 | .slice .. => true
 | _=>false
def fN(E:Env)(o:Oper)(K:PS→Prop)(σ:PS):Prop:=
 match o.op with
 | .alloc t=>(E.ty t).known=true∧J0 K σ o.dst (.ptr (o.dst.getD 0) σ.clock 0 0) (o.dst.getD 0) t (E.ty t).size [(E.ty t).zero]
 | .box t x=>(E.ty t).known=true ∧ ∃l,cU (aX σ.f x)=some l∧(∀q∈l,jF σ.rows q)∧l.length=(E.ty t).size∧J0 K σ o.dst (.ptr (o.dst.getD 0) σ.clock 0 0) (o.dst.getD 0) t (E.ty t).size [l]
 | .makeSlice t l c =>
  match E.ty t,aX σ.f l,aX σ.f c with
  | .slice e n b z, .int _ x, .int _ y=>0≤x∧x≤y∧y.toNat≤room∧y.toNat*b≤room∧J0 K σ o.dst (.own (o.dst.getD 0) σ.clock 0 x.toNat) (o.dst.getD 0) e n (List.replicate x.toNat z)
  | _,_,_=>False
 | .call { callee:=.builtin .append,args:=⟨[x,y]⟩,argTypes:=⟨[t,t2]⟩ }=>(t2=t∨slT (E.ty t2)=true)∧J5 E o t (aX σ.f x) (aX σ.f y) K σ
 | .call { callee:=.builtin .copy,args:=⟨[x,y]⟩,argTypes:=⟨[t,_]⟩ } =>
  match E.ty t,aX σ.f x with
  | .slice _ n _ _, .own id ver off len=>n=1 ∧ ∃r,σ.rows id=some r∧r.ver=ver∧r.size=n∧off+len≤r.els.length∧0<len ∧ ∃l,xJ σ.rows (aX σ.f y) l∧(∀e∈l,e.length=n) ∧
    K ⟨put σ.f o.dst (.int .i64 (min l.length len)),eQ σ.rows id (some { r with els:=r.els.take off++l.take len++r.els.drop (off+min l.length len) }),σ.clock⟩
  | _,_=>False
 | .call { callee:=.value f,args:=args,argTypes:=_ }=>if amk E (aX σ.f f)=true then S3 E (aX σ.f f) (args.toList.map (aX σ.f)) σ.rows σ.clock (fun v rows clk=>K ⟨put σ.f o.dst v,rows,clk⟩)
   else ∃v,A6 E (aX σ.f f) (args.toList.map fun x=>pz σ.rows (aX σ.f x)) v∧fB σ.rows (args.toList.flatMap fun x=>eI (aX σ.f x)) ∧
   K ⟨put σ.f o.dst v,HQ σ.rows (args.toList.flatMap fun x=>eI (aX σ.f x)),σ.clock⟩
 | .makeFunc (.func f) ⟨[]⟩ cV=>(cV.toList.map fun x=>pz σ.rows (aX σ.f x)).all gX=true∧fB σ.rows (cV.toList.flatMap fun x=>eI (aX σ.f x)) ∧
   K ⟨put σ.f o.dst (.fn f (cV.toList.map fun x=>pz σ.rows (aX σ.f x))),HQ σ.rows (cV.toList.flatMap fun x=>eI (aX σ.f x)),σ.clock⟩
 | _=>∃v u,ys E o.op (aX σ.f) σ.rows v u∧K ⟨put σ.f o.dst v,iD σ.rows u,σ.clock⟩
def pI(E:Env)(ver:Nat)(o:Oper)(K:Nat→(Nat→PV)→Rows→Prop)(f:Nat→PV)(rows:Rows):Prop:=
 match o.op with
 | .alloc t=>(E.ty t).known=true∧HS K ver f rows o.dst (.ptr (o.dst.getD 0) ver 0 0) (o.dst.getD 0) t (E.ty t).size [(E.ty t).zero]
 | .box t x=>(E.ty t).known=true ∧ ∃l,cU (aX f x)=some l∧(∀q∈l,jF rows q)∧l.length=(E.ty t).size∧HS K ver f rows o.dst (.ptr (o.dst.getD 0) ver 0 0) (o.dst.getD 0) t (E.ty t).size [l]
 | .makeSlice t l c =>
  match E.ty t,aX f l,aX f c with
  | .slice e n b z, .int _ x, .int _ y=>0≤x∧x≤y∧y.toNat≤room∧y.toNat*b≤room∧HS K ver f rows o.dst (.own (o.dst.getD 0) ver 0 x.toNat) (o.dst.getD 0) e n (List.replicate x.toNat z)
  | _,_,_=>False
 | .call { callee:=.builtin .append,args:=⟨[x,y]⟩,argTypes:=⟨[t,t2]⟩ }=>(t2=t∨slT (E.ty t2)=true)∧pY E ver o t (aX f x) (aX f y) K f rows
 | _=>False
theorem xK{n:Nat}(h:n≤room):n≤maxLen:=by unfold room at h;simp only [maxLen];omega
theorem lR{α:Type}{z:List α}:∀ {x k:Nat} {a:α},(List.replicate x z).flatten[k]? = some a→z[k%z.length]? = some a
 | 0,k,a,h=>by simp at h
 | x+1,k,a,h=>by
  rw [List.replicate_succ,List.flatten_cons]at h
  rcases Nat.lt_or_ge k z.length with hk | hk
  ·rw [List.getElem?_append_left hk]at h
   rw [Nat.mod_eq_of_lt hk];exact h
  ·rw [List.getElem?_append_right hk]at h
   have:=lR h
   rw [←Nat.mod_eq_sub_mod hk]at this;exact this
section
variable {E:Env} {c:Cx} {w0:World} {S0:eG}
theorem vY(hI:Inv w0 S0 c){y:PV}{vy:Value}{l:List (List PV)}{n:Nat}(hy:aO c y vy)(h:xJ c.rows y l)(hn:∀e∈l,e.length=n) :
  ∃A cap news,vy = .slice A l.length cap∧news.length=l.length*n∧bO (aV c) l.flatten news∧(∀u∈news,u.oneCell'=true)∧(A=none→l = []) ∧
   ∀a,A=some a → ∀j u,news[j]? = some u→c.w.cell? (a.add j)=some u:=by
 have fl:∀ {l:List (List PV)},(∀e∈l,e.length=n)→l.flatten.length=l.length*n:=by
  intro l
  induction l with
  | nil=>intro _;simp
  | cons e l ih=>intro h;rw [List.flatten_cons,List.length_append,ih (fun e he=>h e (by simp [he])),h e (by simp),List.length_cons,Nat.add_mul];omega
 have at_:∀(g o cap:Nat),vy = .slice (some ⟨g,o,none⟩) l.length cap →
   (∀k e,l[k]? = some e → ∀j p,e[j]? = some p → ∃v,c.w.cell? ⟨g,o+(k*n+j),none⟩=some v∧v.oneCell'=true∧aV c p v) → ∃A cap news,vy = .slice A l.length cap∧news.length=l.length*n∧bO (aV c) l.flatten news∧(∀u∈news,u.oneCell'=true)∧(A=none→l = []) ∧
   ∀a,A=some a → ∀j u,news[j]? = some u→c.w.cell? (a.add j)=some u:=by
  intro g o cap hv hc
  have cellAt:∀k,k<l.length*n → ∃p v,l.flatten[k]? = some p∧c.w.cell? ⟨g,o+k,none⟩=some v∧v.oneCell'=true∧aV c p v:=by
   intro k hk
   have Z8:0<n:=by
    rcases Nat.eq_zero_or_pos n with h | h
    ·subst h;simp at hk
    ·exact h
   have hq:k/n<l.length:=(Nat.div_lt_iff_lt_mul Z8).2 hk
   have he:=hn l[k/n] (List.getElem_mem hq)
   have hj:k%n<l[k/n].length:=by rw [he];exact Nat.mod_lt _ Z8
   have WX:k/n*n+k%n=k:=by rw [Nat.mul_comm];exact Nat.div_add_mod k n
   obtain⟨v,h1,h2,h3⟩:=hc (k/n) _ (List.getElem?_eq_getElem hq) (k%n) _ (List.getElem?_eq_getElem hj)
   rw [WX]at h1
   have:=j6 hn (List.getElem?_eq_getElem hq) (List.getElem?_eq_getElem hj)
   rw [WX]at this
   exact⟨_,v,this,h1,h2,h3⟩
  have hnl:((List.range (l.length*n)).map fun k=>(c.w.cell? ⟨g,o+k,none⟩).getD undef).length=l.length*n:=by simp
  have aco:∀k u,((List.range (l.length*n)).map fun k=>(c.w.cell? ⟨g,o+k,none⟩).getD undef)[k]? = some u→k<l.length*n ∧ ∃p,l.flatten[k]? = some p∧c.w.cell? ⟨g,o+k,none⟩=some u∧u.oneCell'=true∧aV c p u:=by
   intro k u hu
   have hk:k<l.length*n:=by rw [←hnl];exact(List.getElem?_eq_some_iff.1 hu).1
   obtain⟨p,v,h1,h2,h3,h4⟩:=cellAt k hk
   rw [List.getElem?_map,List.getElem?_range hk]at hu
   simp only [Option.map_some,h2,Option.getD_some,Option.some.injEq]at hu
   subst hu
   exact⟨hk,p,h1,h2,h3,h4⟩
  refine⟨some ⟨g,o,none⟩,cap,_,hv,hnl,bO.eC (by rw [hnl,fl hn]) fun k p u hp hu=>?_,fun u hu=>?_,by simp,fun a ha j u hu=>?_⟩
  ·obtain⟨_,p',h1,_,_,h4⟩:=aco k u hu
   rw [hp]at h1;cases h1;exact h4
  ·obtain⟨k,hk⟩:=List.getElem?_of_mem hu
   exact(aco k u hk).2.choose_spec.2.2.1
  ·cases ha
   rw [jE]
   exact(aco j u hu).2.choose_spec.2.1
 have empty:∀A cap,vy = .slice A l.length cap→l = [] → ∃A cap news,vy = .slice A l.length cap∧news.length=l.length*n∧bO (aV c) l.flatten news∧(∀u∈news,u.oneCell'=true)∧(A=none→l = []) ∧
   ∀a,A=some a → ∀j u,news[j]? = some u→c.w.cell? (a.add j)=some u:=by
  rintro A cap hv rfl
  exact⟨A,cap,[],hv,by simp,trivial,by simp,by simp,by simp⟩
 unfold xJ at h
 split at h
 ·subst h
  simp only [aO,aV,dS]at hy
  exact empty none 0 (by rw [hy];rfl) rfl
 ·subst h
  simp only [aO,aV,dS]at hy
  obtain⟨A,cap,rfl,_,_,hh⟩:=hy
  rcases hh with hh | ⟨g,o,rfl,hr⟩
  ·exact empty A cap rfl hh
  ·refine at_ g o cap rfl fun k e hk j p hj=>?_
   obtain⟨v,h1,_,h3,h4⟩:=iW (jT hr hn hk) hj
   exact⟨v,by rw [←Nat.add_assoc];exact h1,h3,aV.kP h4⟩
 ·subst h
  simp only [aO,aV,dS]at hy
  obtain⟨A,rfl,_,hh⟩:=hy
  rcases hh with hh | ⟨g,o,rfl,hr⟩
  ·exact empty A _ rfl hh
  ·refine at_ g o _ rfl fun k e hk j p hj=>?_
   obtain⟨v,h1,_,h3,h4⟩:=iW (jT hr hn hk) hj
   exact⟨v,by rw [←Nat.add_assoc];exact h1,h3,aV.kP h4⟩
 ·rename_i id ver off len
  obtain⟨r,hr,lN,rfl⟩:=h
  simp only [aO,aV]at hy
  obtain⟨hle,hy⟩:=hy.2 r hr lN
  have GS:((r.els.drop off).take len).length=len:=by simp;omega
  rw [←GS]at hy
  have pF:∀k e,((r.els.drop off).take len)[k]? = some e→r.els[off+k]? = some e∧r.size=n:=by
   intro k e hk
   have zB:=hk
   rw [List.getElem?_take]at hk
   split at hk
   ·rw [List.getElem?_drop]at hk
    refine⟨hk,?_⟩
    rw [←hn e (List.mem_of_getElem? zB)]
    exact((hI.row id r hr).len e (List.mem_of_getElem? hk)).symm
   ·cases hk
  rcases hy with ⟨h0,A,m,cap,hβ,rfl⟩ | ⟨mU,g,m,cap,A,hβ,hoc,rfl,ha⟩
  ·subst h0
   rcases Nat.eq_zero_or_pos len with h0 | h0
   ·exact empty A cap rfl (List.eq_nil_of_length_eq_zero (by rw [GS];exact h0))
   ·obtain⟨g,lV,sW⟩:=sV hI hr (by omega)
    rw [hβ]at sW
    simp only [Value.slice.injEq]at sW
    obtain⟨rfl,rfl,rfl⟩:=sW
    refine at_ g 0 _ rfl fun k e hk j p hj=>?_
    obtain⟨hk2,hs⟩:=pF k e hk
    have:=xE hI hr hβ hk2 hj
    rw [hs]at this
    simpa using this
  ·rcases ha with ha | rfl
   ·exact empty _ _ rfl (List.eq_nil_of_length_eq_zero ha)
   ·refine at_ g _ _ rfl fun k e hk j p hj=>?_
    obtain⟨hk2,hs⟩:=pF k e hk
    have:=xE hI hr hβ hk2 hj
    rw [hs]at this ⊢
    rw [show off*n+(k*n+j)=(off+k)*n+j by rw [Nat.add_mul];omega];exact this
 ·exact h.elim
end
section
variable {E:Env} {c:Cx} {w0:World} {S0:eG}
theorem zO(hI:Inv w0 S0 c){ver:Nat}(WY:¬c.used ver)(id:Nat)(e:TypeId)(size n cap:Nat)(els:List (List PV))(cells:Array Value)(hn:els.length=n)(WT:n≤cap)(hcm:cap≤maxLen)(pF:cells.size=cap*size)
  (iC:bO (aV c) els.flatten (cells.toList.take (n*size))) (kR:∀u∈cells.toList,u.oneCell'=true) (hlen:∀e∈els,e.length=size) (mU:0<size) :
  Inv w0 S0 { c with w:=c.w.alloc (.cells cells e),β:=eQ c.β id (.slice (some ⟨c.w.heap.size,0,none⟩) n cap),rows:=eQ c.rows id (some ⟨ver,e,size,els⟩),used:=fun v=>v=ver∨c.used v } ∧
  vT c { c with w:=c.w.alloc (.cells cells e),β:=eQ c.β id (.slice (some ⟨c.w.heap.size,0,none⟩) n cap),rows:=eQ c.rows id (some ⟨ver,e,size,els⟩),used:=fun v=>v=ver∨c.used v }:=by
 refine hI.set (ob:=none) (r':=⟨ver,e,size,els⟩) (xs:=cells.toList.take (n*size)) (World.grownBy_alloc c.w _ none) (by simp) ?_ iC (fun x hx=>kR x (List.mem_of_mem_take hx)) hlen mU ?_ WY
 ·have hle:n*size≤cap*size:=Nat.mul_le_mul_right _ WT
  refine⟨by simp [hn];omega, .inr ⟨c.w.heap.size,cap,cells,by simp [hn],hI.below.size,heap_alloc_new c.w _,by simp [hn];exact WT,hcm,pF,by simp [hn]⟩⟩
 ·intro g hg
  simp [Value.ownBlock]at hg
  exact .inr (by omega)
theorem acB{t:TypeId}{n:Nat}{z:List PV}(h:mV E.P t n z):∃i v,E.P.info? t=some i∧i.zero=some v∧i.size=n∧bO (aV c) z v.cells.toList∧v.cells.size=n ∧ ∀u∈v.cells.toList,u.oneCell'=true:=by
 obtain⟨i,v,h1,h2,h3,h4,h5⟩:=h.ok
 have hl:v.cells.size=n:=by rw [←h.len,←h4];simp
 refine⟨i,v,h1,h2,h3,?_,hl,fun u hu=>(Array.all_eq_true_iff_forall_mem.1 h5) u (by simpa using hu)⟩
 rw [←h4]
 refine bO.eC (by simp) fun k a b ha hb=>?_
 simp at ha
 obtain⟨u,hu,rfl⟩:=ha
 have:v.cells.toList[k]? = some u:=by simpa using hu
 rw [this]at hb;cases hb
 exact lU _
theorem mL{c':Cx}{id ver n:Nat}{r:Row}(hr:c'.rows id=some r)(hn:r.els.length=n)(hc:c'.used ver){A:Option Addr}{cap:Nat}(hβ:c'.β id = .slice A n cap):aO c' (.own id ver 0 n) (.slice A n cap):=by
 simp only [aO,aV]
 refine⟨hc,fun r' jR _=>?_⟩
 rw [hr]at jR;cases jR
 exact⟨by omega, .inl ⟨by first | rfl | trivial,A,n,cap,hβ,rfl⟩⟩
theorem acC{c':Cx}{id ver:Nat}(hc:c'.used ver){g n cap:Nat}(hβ:c'.β id = .slice (some ⟨g,0,none⟩) n cap):aO c' (.ptr id ver 0 0) (.pointer (some ⟨g,0,none⟩)):=by
 simp only [aO,aV]
 exact⟨hc,fun r' _ _=>⟨g,n,cap,hβ,by simp⟩⟩
theorem vJ{z:Array Value}{N k:Nat}(hk:k<N)(hz:0<z.size):(madeCells z N).toList[k]? = z.toList[k%z.size]? := by
 have hm:k%z.size<z.size:=Nat.mod_lt _ hz
 simp [madeCells,hk,hm]
variable {n:Nat} {G:Gs}
theorem sY{U:Nat→Prop}{ver:Nat}{f:Nat→PV}{rows:Rows}{a:Act}(hr:c.rows=rows)(gH:∀v,c.used v→U v)(hf:∀s,aO c (f s) (a.tmps.getD s undef))(hG:∀p∈G,aO c p.1 p.2)(hn:a.tmps.size=n)(gG:a.defers = [])
  {K:(Nat→PV)→Rows→Prop} {d:Option Tmp} {v:PV} {id:Nat} {e:TypeId} {sz:Nat} {els:List (List PV)} (h:K (put f d v) (eQ rows id (some ⟨ver,e,sz,els⟩))) {v':Value} {w':World} {b':Value}
  (hI:Inv w0 S0 { c with w:=w',β:=eQ c.β id b',rows:=eQ c.rows id (some ⟨ver,e,sz,els⟩),used:=fun v=>v=ver∨c.used v })
  (hA:vT c { c with w:=w',β:=eQ c.β id b',rows:=eQ c.rows id (some ⟨ver,e,sz,els⟩),used:=fun v=>v=ver∨c.used v })
  (hv:aO { c with w:=w',β:=eQ c.β id b',rows:=eQ c.rows id (some ⟨ver,e,sz,els⟩),used:=fun v=>v=ver∨c.used v } v v') (hd:∀t,d=some t→t<n) :
  ∃f' rows',K f' rows'∧qL w0 S0 n G (fun v=>v=ver∨U v) f' rows' (a.put d v') w':=by
 refine⟨_,_,h,?_⟩
 have:=pW (U:=fun v=>v=ver∨U v) (f':=put f d v) (rows:=eQ rows id (some ⟨ver,e,sz,els⟩)) hf hG hn gG hA hI hv hd rfl (by simp [hr]) (fun v hv=>hv.imp (fun h=>h) (gH v))
 exact this
theorem S6(hI:Inv w0 S0 c){w':World}(hg:c.w.grownBy w' none){e:TypeId}{sz:Nat}{v':Value}{els:List (List PV)}{xs:List Value}(iO:w'.ownsRow c.w.heap.size e sz v' els.length xs)
  (iC:bO (dS c.S c.w) els.flatten xs) (kR:∀u∈xs,u.oneCell'=true) (hlen:∀e∈els,e.length=sz) :
  ∃c',c'.w=w'∧c'.rows=c.rows∧c'.used=c.used∧Inv w0 S0 c'∧vT c c'∧aO c' (.sl els) v':=by
 have hb:Below c.w.heap.size c.w w':=⟨hg.os,hg.tape,hg.output,hg.size,fun k hk=>hg.block k hk (by simp)⟩
 obtain⟨zE,hA⟩:=hI.grow (S':=fun b o=>c.S b o∨(c.w.heap.size≤b∧b<w'.heap.size)) hb (fun _ _ h => .inl h) (fun _ _ h=>h)
 refine⟨{ c with S:=fun b o=>c.S b o∨(c.w.heap.size≤b∧b<w'.heap.size),w:=w' },rfl,rfl,rfl,zE,hA,?_⟩
 simp only [aO,aV,dS]
 rcases iO.2 with ⟨rfl,h0⟩ | ⟨g,cap,cur,rfl,Z5,hh,WT,hcm,MX,NA⟩
 ·exact⟨none,0,by rw [h0],by omega,by simp [maxLen], .inl (List.eq_nil_of_length_eq_zero h0)⟩
 ·refine⟨_,cap,rfl,WT,hcm, .inr ⟨g,0,rfl,pU hlen fun k el hk=>j5 fun j p hj=>?_⟩⟩
  have hf:=j6 hlen hk hj
  obtain⟨u,hu,hr⟩:=iC.get hf
  have c8:g<w'.heap.size:=(Array.getElem?_eq_some_iff.1 hh).1
  have HP:=iO.cells (g:=g) rfl (k*sz+j) u hu
  rw [jE]at HP
  refine⟨u,?_, .inr ⟨Z5,c8⟩,kR u (List.mem_of_getElem? hu),dS.mono hA.S hA.w _ _ hr⟩
  rw [show 0+k*sz+j=0+(k*sz+j)by omega];exact HP
theorem Z9{P:Program}{w:World}{t t2 ty:TypeId}{e e2:TypeId}{x y:Value}(hu:P.underlying t=some (.slice e))(hu2:P.underlying t2=some (.slice e2)) :
  (Builtin.append_ #[t,t2] ty #[x,y]).run P w=(Builtin.append_ #[t,t] ty #[x,y]).run P w:=by
 unfold Builtin.append_
 simp only [List.getElem?_toArray,List.getElem?_cons_zero,List.getElem?_cons_succ,Sem.run_bind,run_underlying hu,Result.andThen_ok]
 cases x<;>simp [run_underlying hu,run_underlying hu2]
theorem ag5{E:Env}{t2:TypeId}(h:slT (E.ty t2)=true):∃e,E.P.underlying t2=some (.slice e):=by
 cases hE:E.ty t2 with
 | slice e n b z=>exact⟨e,(gF hE).1⟩
 | _=>rw [hE]at h;cases h
theorem DV{U:Nat→Prop}{ver:Nat}(WY:¬U ver){o:Oper}{a:Act}{f:Nat→PV}{rows:Rows}{x y:Operand}{t t2:TypeId}(hop:o.op = .call { callee:=.builtin .append,args:=⟨[x,y]⟩,argTypes:=⟨[t,t2]⟩ })(ht2:t2=t∨slT (E.ty t2)=true)
  (hI:Inv w0 S0 c) (hr:c.rows=rows) (gH:∀v,c.used v→U v) (hf:∀s,aO c (f s) (a.tmps.getD s undef)) (hG:∀p∈G,aO c p.1 p.2) (hn:a.tmps.size=n) (gG:a.defers = [])
  (hd:∀t,o.dst=some t→t<n) {K:Nat→(Nat→PV)→Rows→Prop} (h:pY E ver o t (aX f x) (aX f y) K f rows) {K':Act→World→Prop} {Q:Exit→Act→World→Prop} (hK:∀i f' rows' a' w',K i f' rows'→qL w0 S0 n G (fun v=>(i=1∧v=ver)∨U v) f' rows' a' w'→K' a' w'):o.wp E.P a c.w K' Q:=by
 have hρ:=nI hf
 have run:∀ {v':Value} {w':World},(Builtin.append_ #[t,t] o.type #[a.eval x,a.eval y]).run E.P c.w = .ok v' w'→K' (a.put o.dst v') w'→o.wp E.P a c.w K' Q:=by
  intro v' w' h1 h2
  unfold Oper.wp
  have h1':(Builtin.append_ #[t,t2] o.type #[a.eval x,a.eval y]).run E.P c.w = .ok v' w':=by
   rcases ht2 with rfl | ht2
   ·exact h1
   ·obtain⟨e2,hu2⟩:=ag5 ht2
    have hsl:∃e,E.P.underlying t=some (.slice e):=by
     unfold pY at h
     split at h
     ·rename_i e n b z hE;exact⟨e,(gF hE).1⟩
     ·exact h.elim
    obtain⟨e,hu⟩:=hsl
    rw [Z9 hu hu2];exact h1
  have:(execOp a.eval o).run E.P c.w = .ok (.value v') w':=by
   simp only [execOp,hop,resolve,invoke,builtin,Sem.run_bind,Sem.run_pure,Result.andThen_ok,List.map_toArray,List.map_cons,List.map_nil,h1']
  rw [this]
  exact h2
 unfold pY at h
 split at h
 ·rename_i e sz b z hE
  obtain⟨l,hl,hlen,h⟩:=h
  obtain⟨hu,mU,JZ,i,zv,hi,hz,hs,hby,SX,_⟩:=gF hE
  have GI:zv.cells.size=sz:=by rw [←JZ,←SX];simp
  rw [←hr]at hl
  obtain⟨A,cap,news,hvy,g1,g2,g3,g4,g5⟩:=vY hI (hρ y) hl hlen
  have main:∀(vx:Value) (k:Nat) (xs:List Value),c.w.ownsRow w0.heap.size e sz vx k xs→a.eval x=vx→k+l.length≤room→(k+l.length)*b≤room →
    ∃v' w',(Builtin.append_ #[t,t] o.type #[a.eval x,a.eval y]).run E.P c.w = .ok v' w'∧w'.ownsRow w0.heap.size e sz v' (k+l.length) (xs++news)∧c.w.grownBy w' vx.ownBlock∧(v'.ownBlock=vx.ownBlock∨v'.ownBlock=some c.w.heap.size):=by
   intro vx k xs iO hvx J6 zP
   rw [hvx,hvy]
   cases A with
   | some ad =>
    obtain⟨v',w',q1,q2,q3,_,q5⟩:=run_append_own_at (P:=E.P) c.w w0.heap.size t o.type e i zv sz b hu hi hz hs hby GI mU vx k xs iO ad l.length cap news g1 (g5 ad rfl) g3 (xK J6) (by simpa [room]using zP) hI.below.size
    exact⟨v',w',q1,q2,q3,q5⟩
   | none =>
    have CC:=g4 rfl
    subst CC
    have Z8:news = []:=List.eq_nil_of_length_eq_zero (by simpa using g1)
    subst Z8
    refine⟨vx,c.w,?_,by simpa using iO,⟨rfl,rfl,rfl,Nat.le_refl _,fun _ _ _=>rfl⟩, .inl rfl⟩
    rcases iO.2 with ⟨rfl,rfl⟩ | ⟨g,lV,cur,rfl,_,_,WT,_⟩
    ·simp [Builtin.append_,run_underlying hu,Go.sizeOf,typeInfo,hi,Builtin.lenOf,Builtin.firstCells]
    ·simp [Builtin.append_,run_underlying hu,Go.sizeOf,typeInfo,hi,Builtin.lenOf,Builtin.firstCells,WT,storeCells]
  split at h
  ·-- ar3 nil
   rename_i heq
   obtain⟨J6,zP,h⟩:=h
   have hx:=hρ x
   rw [heq]at hx
   simp only [aO,aV,dS]at hx
   obtain⟨v',w',q1,q2,q3,q4⟩:=main (.slice none 0 0) 0 [] (World.ownsRow_nil _ _ _ _) hx (by simpa using J6) (by simpa using zP)
   simp only [Nat.zero_add,List.nil_append]at q2
   obtain⟨zE,hA⟩:=hI.set (ob:=none) (id:=o.dst.getD 0) (r':=⟨ver,e,sz,l⟩) (xs:=news) q3 (by simp) q2 g2 g3 hlen mU (by
    intro g hg
    rcases q4 with q4 | q4
    ·rw [q4]at hg;simp [Value.ownBlock]at hg
    ·rw [q4]at hg;cases hg;exact .inr (Nat.le_refl _)) (fun hu=>WY (gH _ hu))
   have hv:aO { c with w:=w',β:=eQ c.β (o.dst.getD 0) v',rows:=eQ c.rows (o.dst.getD 0) (some ⟨ver,e,sz,l⟩),used:=fun v=>v=ver∨c.used v } (.own (o.dst.getD 0) ver 0 l.length) v':=by
    have acD:∃A' lV,v' = .slice A' l.length lV:=by
     rcases q2.2 with ⟨rfl,h0⟩ | ⟨g,lV,cur,rfl,_⟩
     ·exact⟨none,0,by rw [h0]⟩
     ·exact⟨_,lV,rfl⟩
    obtain⟨A',lV,rfl⟩:=acD
    exact mL (r:=⟨ver,e,sz,l⟩) (by simp [eQ]) rfl (Or.inl rfl) (by simp [eQ])
   obtain⟨f',rows',hk,DW⟩:=sY (K:=K 1) hr gH hf hG hn gG h zE hA hv hd
   exact run q1 (hK 1 f' rows' _ _ hk (DW.mono fun v hv=>hv.imp (fun h=>⟨rfl,h⟩) fun h=>h))
  ·-- ar3 a row of its own
   rename_i id ar1 off len heq
   obtain⟨r,hrr,lN,rfl,rfl,he,pF,J6,zP,h⟩:=h
   rw [←hr]at hrr
   have hx:=hρ x
   rw [heq]at hx
   simp only [aO,aV]at hx
   obtain⟨⟨xs,iO,iC,kR⟩,DX,hnS,_⟩:=hI.row id r hrr
   have hxv:a.eval x=c.β id:=by
    rcases(hx.2 r hrr lN).2 with ⟨_,A',m,lV,hβ,hv⟩ | ⟨h0,_⟩
    ·have hm:m=r.els.length:=by
      rw [hβ]at iO
      rcases iO.2 with ⟨h',h0⟩ | ⟨g,ar4,cur,h',_⟩
      ·simp at h';omega
      ·simp at h';exact h'.2.1
     rw [hv,hβ,hm]
    ·omega
   rw [he,pF]at iO
   obtain⟨v',w',q1,q2,q3,q4⟩:=main (c.β id) r.els.length xs iO hxv J6 zP
   obtain⟨zE,hA⟩:=hI.set (ob:=(c.β id).ownBlock) (id:=id) (r':=⟨ver,e,sz,r.els++l⟩) (xs:=xs++news) q3 (by
    intro g hg
    refine⟨(iO.lt g hg).1,fun o=>hnS g o hg,fun kJ r' jR kQ hb=>kQ (hI.apart kJ id r' r g jR hrr hb hg)⟩) (by simpa using q2) (by
     show bO (aV c) (r.els++l).flatten _
     rw [List.flatten_append];exact iC.append g2) (by
     intro u hu
     rcases List.mem_append.1 hu with hu | hu
     ·exact kR u hu
     ·exact g3 u hu) (by
     intro e' xB
     rcases List.mem_append.1 xB with xB | xB
     ·rw [DX e' xB,pF]
     ·exact hlen e' xB) mU (by
     intro g hg
     rcases q4 with q4 | q4
     ·exact .inl (by rw [←q4];exact hg)
     ·rw [q4]at hg;cases hg;exact .inr (Nat.le_refl _)) (fun hu=>WY (gH _ hu))
   have hv:aO { c with w:=w',β:=eQ c.β id v',rows:=eQ c.rows id (some ⟨ver,e,sz,r.els++l⟩),used:=fun v=>v=ver∨c.used v } (.own id ver 0 (r.els.length+l.length)) v':=by
    have acD:∃A' lV,v' = .slice A' (r.els.length+l.length) lV:=by
     rcases q2.2 with ⟨rfl,h0⟩ | ⟨g,lV,cur,rfl,_⟩
     ·exact⟨none,0,by rw [h0]⟩
     ·exact⟨_,lV,rfl⟩
    obtain⟨A',lV,rfl⟩:=acD
    exact mL (r:=⟨ver,e,sz,r.els++l⟩) (by simp [eQ]) (by simp) (Or.inl rfl) (by simp [eQ])
   obtain⟨f',rows',hk,DW⟩:=sY (K:=K 1) hr gH hf hG hn gG h zE hA hv hd
   exact run q1 (hK 1 f' rows' _ _ hk (DW.mono fun v hv=>hv.imp (fun h=>⟨rfl,h⟩) fun h=>h))
  ·-- ar3 cells that stay,its capacity its length
   rename_i l0 heq
   obtain⟨DX,RZ,J6,zP,h⟩:=h
   have hx:=hρ x
   rw [heq]at hx
   simp only [aO,aV,dS]at hx
   obtain⟨A0,hA0,R4,acE⟩:=hx
   have fin:∀ {v':Value} {w':World},(Builtin.append_ #[t,t] o.type #[a.eval x,a.eval y]).run E.P c.w = .ok v' w' →
     (∃c',c'.w=w'∧c'.rows=c.rows∧c'.used=c.used∧Inv w0 S0 c'∧vT c c'∧aO c' (.sl (l0++l)) v')→o.wp E.P a c.w K' Q:=by
    rintro v' w' kS ⟨c',rfl,h2,h3,h4,h5,h6⟩
    refine run kS (hK 0 _ _ _ _ h ?_)
    exact pW hf hG hn gG h5 h4 h6 hd rfl (by rw [h2,hr]) (by rw [h3];exact fun v hv => .inr (gH v hv))
   have ag6:bO (dS c.S c.w) l.flatten news:=by
    refine bO.eC g2.length fun k p u hp hu=>?_
    obtain⟨u',q1,q2⟩:=g2.get hp
    rw [hu]at q1;cases q1
    have vZ:=List.mem_of_getElem? hp
    rw [List.mem_flatten]at vZ
    obtain⟨e',xB,xA⟩:=vZ
    exact q2.rep (RZ e' xB p xA)
   by_cases CC:l = []
   ·subst CC
    refine fin (v':=.slice A0 l0.length l0.length) (w':=c.w) ?_ ⟨c,rfl,rfl,rfl,hI,vT.refl c,?_⟩
    ·have Z8:news = []:=List.eq_nil_of_length_eq_zero (by simpa using g1)
     subst Z8
     have hfc:(Builtin.firstCells i.size 0 (.slice A 0 cap)).run E.P c.w = .ok #[] c.w:=by
      cases A with
      | none=>simp [Builtin.firstCells]
      | some ad=>simp [Builtin.firstCells,loadCells,loadCellsFrom]
     rw [hA0,hvy]
     cases A0 with
     | none=>simp [Builtin.append_,run_underlying hu,Go.sizeOf,typeInfo,hi,Builtin.lenOf,hfc]
     | some ad0=>simp [Builtin.append_,run_underlying hu,Go.sizeOf,typeInfo,hi,Builtin.lenOf,hfc,storeCells]
    ·simp only [aO,aV,dS,List.append_nil]
     exact⟨A0,_,rfl,Nat.le_refl _,R4,acE⟩
   ·have ar5:0<l.length:=List.length_pos_iff.2 CC
    obtain⟨ad,rfl⟩:∃ad,A=some ad:=by
     cases A with
     | none=>exact absurd (g4 rfl) CC
     | some ad=>exact⟨ad,rfl⟩
    obtain⟨A2,ar6,ag7,hvx,o1,o2,o3,o4,o5⟩:=vY (y:=.kO l0) (vy:=a.eval x) (l:=l0) hI (by simp only [aO,aV,dS];exact⟨A0,hA0,R4,acE⟩) rfl DX
    rw [hA0]at hvx
    simp only [Value.slice.injEq]at hvx
    obtain⟨rfl,_,rfl⟩:=hvx
    have ag8:bO (dS c.S c.w) l0.flatten ag7:=by
     refine bO.eC o2.length fun k p u hp hu=>?_
     have vZ:=List.mem_of_getElem? hp
     rcases acE with rfl | ⟨g,oo,rfl,hre⟩
     ·simp at hp
     ·have ayb:l0.flatten.length=l0.length*sz:=by rw [o2.length,o1]
      have hk:k<l0.length*sz:=by rw [←ayb];exact(List.getElem?_eq_some_iff.1 hp).1
      have hq:k/sz<l0.length:=(Nat.div_lt_iff_lt_mul mU).2 hk
      have nT:=DX l0[k/sz] (List.getElem_mem hq)
      have hj:k%sz<l0[k/sz].length:=by rw [nT];exact Nat.mod_lt _ mU
      have WX:k/sz*sz+k%sz=k:=by rw [Nat.mul_comm];exact Nat.div_add_mod k sz
      have hfg:=j6 DX (List.getElem?_eq_getElem hq) (List.getElem?_eq_getElem hj)
      rw [WX,hp]at hfg
      cases hfg
      obtain⟨u',r1,_,_,r4⟩:=iW (jT hre DX (List.getElem?_eq_getElem hq)) (List.getElem?_eq_getElem hj)
      have:=o5 _ rfl k u hu
      rw [jE]at this
      rw [show oo+k/sz*sz+k%sz=oo+k by omega,this]at r1
      cases r1;exact r4
    have grow:∃v' w',(Builtin.append_ #[t,t] o.type #[a.eval x,a.eval y]).run E.P c.w = .ok v' w'∧w'.ownsRow c.w.heap.size e sz v' (l0.length+l.length) (ag7++news)∧c.w.grownBy w' none:=by
     rw [hA0,hvy]
     cases A0 with
     | some ad0=>exact run_append_arg_grows (P:=E.P) c.w t o.type e i zv sz b hu hi hz hs hby GI mU ad0 l0.length l0.length ag7 o1 (o5 ad0 rfl) ad l.length cap news g1 (g5 ad rfl) (by omega) (xK J6) (by simpa [room]using zP)
     | none =>
      have ayc:=o4 rfl
      subst ayc
      have ho0:ag7 = []:=List.eq_nil_of_length_eq_zero (by simpa using o1)
      subst ho0
      obtain⟨v',w',q1,q2,q3,_,q5⟩:=run_append_own_at (P:=E.P) c.w c.w.heap.size t o.type e i zv sz b hu hi hz hs hby GI mU (.slice none 0 0) 0 [] (World.ownsRow_nil _ _ _ _) ad l.length cap news g1 (g5 ad rfl) g3 (by simpa using xK J6) (by simpa [room]using zP) (Nat.le_refl _)
      exact⟨v',w',q1,by simpa using q2,q3⟩
    obtain⟨v',w',q1,q2,q3⟩:=grow
    refine fin q1 (S6 hI q3 (els:=l0++l) (by simpa using q2) (by rw [List.flatten_append];exact ag8.append ag6) (fun u hu=>?_) (fun e' xB=>?_))
    ·rcases List.mem_append.1 hu with hu | hu
     ·exact o3 u hu
     ·exact g3 u hu
    ·rcases List.mem_append.1 xB with xB | xB
     ·exact DX e' xB
     ·exact hlen e' xB
  ·exact h.elim
 ·exact h.elim
end
section
variable {E:Env} {w0:World} {S0:eG} {n:Nat} {G:Gs}
theorem J7{P:Program}(w:World)(dT sT ty elem:TypeId)(g o ag9 ar7:Nat)(A:Option Addr)(aha ar8:Nat)(cur:Array Value)(t:TypeId)(cs:List Value)
  (hu:P.underlying dT=some (.slice elem)) (hs:(P.info? elem).map (·.size)=some 1)
  (hg:w.heap[g]? = some (.cells cur t (0,0))) (hn:cs.length=Nat.min aha ag9)
  (ayd:∀a,A=some a → ∀j v,cs[j]? = some v→w.cell? (a.add j)=some v) (hA:A=none→cs = []) (aml:o+cs.length≤cur.size) (h1:∀v∈cs,v.oneCell'=true) :
  (Builtin.copy_ #[dT,sT] ty #[.slice (some ⟨g,o,none⟩) ag9 ar7, .slice A aha ar8]).run P w =
   .ok (goInt cs.length) (w.setRow g (cur.toList.take o++cs++cur.toList.drop (o+cs.length)).toArray):=by
 cases A with
 | some a=>exact run_copy_row P w dT sT ty elem g o ag9 ar7 a aha ar8 cur t cs hu hs hg hn (ayd a rfl) aml h1
 | none =>
  have:=hA rfl
  subst this
  cases hq:P.info? elem with
  | none=>simp [hq]at hs
  | some i =>
   have xL:Nat.min aha ag9=0:=by simpa using hn.symm
   have ar9:=setRow_self w g cur t (0,0) hg
   simp [Builtin.copy_,run_underlying hu,Builtin.lenOf,Builtin.firstCells,Go.sizeOf,typeInfo,hq,xL,storeCells,List.take_append_drop,ar9]
theorem xM{U:Nat→Prop}{ver:Nat}(WY:¬U ver){o:Oper}{a:Act}{w:World}{f:Nat→PV}{rows:Rows}{K:Nat→(Nat→PV)→Rows→Prop}(h:pI E ver o K f rows)(hR:qL w0 S0 n G U f rows a w)(hd:∀t,o.dst=some t→t<n)
  {K':Act→World→Prop} {Q:Exit→Act→World→Prop} (hK:∀i f' rows' a' w',K i f' rows'→qL w0 S0 n G (fun v=>(i=1∧v=ver)∨U v) f' rows' a' w'→K' a' w'):o.wp E.P a w K' Q:=by
 obtain⟨⟨c,rfl,hr,gH,hI,hf,hG⟩,hn,gG⟩:=hR
 have hρ:=nI hf
 have hfu:¬c.used ver:=fun hu=>WY (gH _ hu)
 have value:∀ {v':Value} {w':World},(execOp a.eval o).run E.P c.w = .ok (.value v') w'→K' (a.put o.dst v') w'→o.wp E.P a c.w K' Q:=by
  intro v' w' h1 h2
  unfold Oper.wp
  rw [h1]
  exact h2
 have newVar:∀(t:TypeId) (l:List PV) (vx:Value),(E.ty t).known=true→bO (aV c) l vx.cells.toList→(∀u∈vx.cells.toList,u.oneCell'=true)→l.length=(E.ty t).size →
   HS K ver f rows o.dst (.ptr (o.dst.getD 0) ver 0 0) (o.dst.getD 0) t (E.ty t).size [l]→(execOp a.eval o).run E.P c.w = .ok (.value (.pointer (some ⟨c.w.heap.size,0,none⟩))) (c.w.alloc (.cells vx.cells t))→o.wp E.P a c.w K' Q:=by
  intro t l vx hk iC kR hlen hp kS
  have hz:=(E.ok t).zero hk
  have pF:vx.cells.size=(E.ty t).size:=by rw [←hlen,iC.length];simp
  obtain⟨zE,hA⟩:=zO hI hfu (o.dst.getD 0) t (E.ty t).size 1 1 [l] vx.cells rfl (Nat.le_refl _) (by simp [maxLen]) (by omega) (by
   simp only [List.flatten_cons,List.flatten_nil,List.append_nil]
   rw [List.take_of_length_le (by simp [pF])];exact iC) kR (by simpa using hlen) hz.pos
  obtain⟨f',rows',zB,DW⟩:=sY (K:=K 1) hr gH hf hG hn gG hp zE hA (acC (Or.inl rfl) (g:=c.w.heap.size) (n:=1) (cap:=1) (by simp [eQ])) hd
  exact value kS (hK 1 f' rows' _ _ zB (DW.mono fun v hv=>hv.imp (fun h=>⟨rfl,h⟩) fun h=>h))
 obtain⟨dst,op,type,pos,after,guard⟩:=o
 simp only at hd value newVar
 unfold pI at h
 simp only at h
 split at h
 ·-- alloc
  rename_i t
  obtain⟨hk,h⟩:=h
  have hz:=(E.ok t).zero hk
  obtain⟨i,zv,h1,h2,h3,h4,h5,h6⟩:=acB (c:=c) hz
  exact newVar t (E.ty t).zero zv hk h4 h6 rfl h (by simp [execOp,Instr.alloc,zeroValue,typeInfo,h1,h2,Go.newVar,newRow])
 ·-- box
  rename_i t x
  obtain⟨hk,l,hl,kR,hlen,h⟩:=h
  rw [←hr]at kR
  obtain⟨g1,g2⟩:=n3 (hρ x) hl kR
  exact newVar t l (a.eval x) hk g1 g2 hlen h (by simp [execOp,Instr.box,Go.newVar,newRow])
 ·-- makeSlice
  rename_i t l cc
  split at h
  ·rename_i e sz b z k1 x k2 y hE hl hc
   obtain⟨h0,rU,J6,zP,h⟩:=h
   obtain⟨hu,mU,JZ,i,zv,hi,hz,hs,hby,SX,hzo⟩:=gF hE
   have g1:=hρ l
   have g2:=hρ cc
   rw [hl,dD]at g1
   rw [hc,dD]at g2
   have GI:zv.cells.size=sz:=by rw [←JZ,←SX];simp
   have amp:(i.bytes:Int)*y≤281474976710656:=by
    rw [hby]
    have h3:((y.toNat*b:Nat):Int)≤room:=by exact_mod_cast zP
    have h4:((y.toNat:Nat):Int)=y:=Int.toNat_of_nonneg (by omega)
    rw [Int.natCast_mul,h4]at h3
    simp only [room]at h3
    rw [Int.mul_comm];omega
   have kS:=run_make (P:=E.P) c.w t e i zv hu hi hz k1 k2 x y h0 rU amp (by simp only [room]at J6;omega)
   have acF:(execOp a.eval { dst:=dst,op:=.makeSlice t l cc,type:=type,pos:=pos,after:=after,guard:=guard }).run E.P c.w = .ok (.value (.slice (some ⟨c.w.heap.size,0,none⟩) x.toNat y.toNat)) (c.w.alloc (.cells (madeCells zv.cells (y.toNat*i.size)) e)):=by
    simp [execOp,g1,g2,kS]
   have asa:bO (aV c) z zv.cells.toList:=by
    rw [←SX]
    refine bO.eC (by simp) fun k p u hp hu=>?_
    simp at hp
    obtain⟨q,hq,rfl⟩:=hp
    have:zv.cells.toList[k]? = some q:=by simpa using hq
    rw [this]at hu;cases hu
    exact lU _
   have hle:x.toNat*sz≤y.toNat*sz:=Nat.mul_le_mul_right _ (by omega)
   have hL:((madeCells zv.cells (y.toNat*i.size)).toList.take (x.toNat*sz)).length=x.toNat*sz:=by
    rw [List.length_take,Array.length_toList,size_madeCells,hs];exact Nat.min_eq_left hle
   obtain⟨zE,hA⟩:=zO hI hfu (dst.getD 0) e sz x.toNat y.toNat (List.replicate x.toNat z) (madeCells zv.cells (y.toNat*i.size)) (by simp) (by omega) (xK J6) (by rw [size_madeCells,hs]) (by
    refine bO.eC (by rw [hL];simp [JZ]) fun k p u hp hu=>?_
    have hk:=(List.getElem?_eq_some_iff.1 hu).1
    rw [hL]at hk
    rw [List.getElem?_take,if_pos (by omega),vJ (by rw [hs];omega) (by omega)]at hu
    have xA:=lR hp
    rw [JZ,←GI]at xA
    obtain⟨u',q1,q2⟩:=asa.get xA
    rw [hu]at q1;cases q1;exact q2) (by
    intro u hu
    obtain⟨k,hk⟩:=List.getElem?_of_mem hu
    have zB:=(List.getElem?_eq_some_iff.1 hk).1
    simp [size_madeCells]at zB
    rw [vJ zB (by omega)]at hk
    have:=List.mem_of_getElem? hk
    exact(Array.all_eq_true_iff_forall_mem.1 hzo) u (by simpa using this)) (by
    intro e' xB
    rw [List.mem_replicate]at xB
    rw [xB.2,JZ]) mU
   obtain⟨f',rows',zB,DW⟩:=sY (K:=K 1) hr gH hf hG hn gG h zE hA (mL (r:=⟨ver,e,sz,List.replicate x.toNat z⟩) (A:=some ⟨c.w.heap.size,0,none⟩) (cap:=y.toNat) (by simp [eQ]) (by simp) (Or.inl rfl) (by simp [eQ])) hd
   exact value acF (hK 1 f' rows' _ _ zB (DW.mono fun v hv=>hv.imp (fun h=>⟨rfl,h⟩) fun h=>h))
  ·exact h.elim
 ·-- append
  rename_i x y t t2
  obtain⟨ht2,h⟩:=h
  exact DV WY rfl ht2 hI hr gH hf hG hn gG hd h hK
 ·exact h.elim
theorem A9{o:Oper}{a:Act}{w:World}{σ:PS}{K:PS→Prop}(h:fN E o K σ)(hR:Rel w0 S0 n G σ a w)(hd:∀t,o.dst=some t→t<n)
  {K':Act→World→Prop} {Q:Exit→Act→World→Prop} (hK:∀σ' a' w',K σ'→Rel w0 S0 n G σ' a' w'→K' a' w'):o.wp E.P a w K' Q:=by
 obtain⟨⟨c,rfl,hr,gH,hI,hf,hG⟩,hn,gG⟩:=hR
 have hρ:=nI hf
 have value:∀ {v':Value} {w':World},(execOp a.eval o).run E.P c.w = .ok (.value v') w'→K' (a.put o.dst v') w'→o.wp E.P a c.w K' Q:=by
  intro v' w' h1 h2
  unfold Oper.wp
  rw [h1]
  exact h2
 have asb:(∃v u,ys E o.op (aX σ.f) σ.rows v u∧K ⟨put σ.f o.dst v,iD σ.rows u,σ.clock⟩)→o.wp E.P a c.w K' Q:=by
  rintro⟨v,u,hy,hk⟩
  rw [←hr]at hy
  refine NC hI hf hy fun v' c' h1 h2 h3 h4 h5=>hK _ _ _ hk ?_
  exact oU hf hG hn gG h3 h4 h5 hd rfl (by simp [h1,hr]) (by rw [h2];exact gH)
 have nw:pI E σ.clock o (fun i f r=>K ⟨f,r,σ.clock+i⟩) σ.f σ.rows→o.wp E.P a c.w K' Q:=fun hp =>
  xM (U:=fun v=>v<σ.clock) (Nat.lt_irrefl _) hp ⟨⟨c,rfl,hr,gH,hI,hf,hG⟩,hn,gG⟩ hd fun i f' rows' a' w' hk DW=>hK _ _ _ hk (DW.mono fun v hv=>by
   show v<σ.clock+i
   rcases hv with ⟨rfl,rfl⟩ | hv
   ·omega
   ·have:v<σ.clock:=hv
    omega)
 obtain⟨dst,op,type,pos,after,guard⟩:=o
 simp only at hd value asb nw
 unfold fN at h
 simp only at h
 split at h
 ·-- alloc
  rename_i t
  exact nw (show pI E σ.clock _ _ σ.f σ.rows from h)
 ·-- box
  rename_i t x
  exact nw (show pI E σ.clock _ _ σ.f σ.rows from h)
 ·-- makeSlice
  rename_i t l cc
  refine nw (show pI E σ.clock _ _ σ.f σ.rows from ?_)
  unfold pI
  simp only
  split at h
  ·exact h
  ·exact h.elim
 ·-- append
  rename_i x y t t2
  obtain⟨ht2,h⟩:=h
  refine nw (show pI E σ.clock _ _ σ.f σ.rows from⟨ht2,?_⟩)
  unfold J5 at h
  unfold pY
  split at h
  ·obtain⟨l,g1,g2,g3⟩:=h
   refine⟨l,g1,g2,?_⟩
   split at g3<;>exact g3
  ·exact h
 ·-- copy
  rename_i x y t t2
  split at h
  ·rename_i e sz b z id ver off len hE hx
   obtain⟨rfl,r,hrr,lN,pF,hle,ar5,l,hl,WZ,h⟩:=h
   rw [←hr]at hrr hl
   have gx:=hρ x
   rw [hx]at gx
   simp only [aO,aV]at gx
   obtain⟨_,gx⟩:=gx.2 r hrr lN
   obtain⟨hu,mU,JZ,i,zv,hi,hz,hs,hby,SX,hzo⟩:=gF hE
   obtain⟨A,cap,news,hvy,g1,g2,g3,g4,g5⟩:=vY hI (hρ y) hl WZ
   obtain⟨⟨xs,iO,iC,kR⟩,xH,hnS,_⟩:=hI.row id r hrr
   obtain⟨g,lV,hβ⟩:=sV hI hrr (by omega)
   obtain⟨amq,hvx⟩:∃amq,a.eval x = .slice (some ⟨g,off,none⟩) len amq:=by
    rcases gx with ⟨h0,A',m,ar6,S7,hv⟩ | ⟨_,g2,m,ar6,A',S7,_,hv,ha⟩
    ·rw [hβ]at S7
     simp only [Value.slice.injEq]at S7
     obtain⟨rfl,_,_⟩:=S7
     exact⟨_,by rw [hv,h0]⟩
    ·rw [hβ]at S7
     simp only [Value.slice.injEq,Option.some.injEq,Addr.mk.injEq,and_true]at S7
     obtain⟨rfl,_,_⟩:=S7
     rcases ha with ha | ha
     ·omega
     ·exact⟨_,by rw [hv,ha,pF,Nat.mul_one]⟩
   have arZ:=iO
   rw [hβ]at iO
   rcases iO.2 with ⟨h',_⟩ | ⟨g',ar4,cur,h',Z5,hg,WT,hcm,MX,NA⟩
   ·simp at h'
   ·simp only [Value.slice.injEq,Option.some.injEq,Addr.mk.injEq,and_true]at h'
    obtain⟨rfl,_,rfl⟩:=h'
    rw [pF,Nat.mul_one]at MX NA
    have hnl:news.length=l.length:=by simpa using g1
    have S8:(news.take len).length=Nat.min l.length len:=by
     rw [List.length_take,hnl];exact Nat.min_comm _ _
    have hml:Nat.min l.length len≤len:=Nat.min_le_right _ _
    have kS:=J7 (P:=E.P) c.w t t2 type e g off len amq A l.length cap cur r.e (news.take len) hu (by simp [hi,hs]) hg S8
     (fun ad had j v hj=>g5 ad had j v (by rw [List.getElem?_take]at hj;split at hj;exact hj;cases hj)) (fun hA=>by
      have:=g4 hA
      subst this
      have:news = []:=List.eq_nil_of_length_eq_zero (by simpa using hnl)
      simp [this]) (by rw [S8];omega) (fun v hv=>g3 v (List.mem_of_mem_take hv))
    have acF:(execOp a.eval { dst:=dst,op:=.call { callee:=.builtin .copy,args:=⟨[x,y]⟩,argTypes:=⟨[t,t2]⟩ },type:=type,pos:=pos,after:=after,guard:=guard }).run E.P c.w = .ok (.value (goInt (news.take len).length)) (c.w.setRow g (cur.toList.take off++news.take len++cur.toList.drop (off+(news.take len).length)).toArray):=by
     simp only [execOp,resolve,invoke,builtin,Sem.run_bind,Sem.run_pure,Result.andThen_ok,List.map_toArray,List.map_cons,List.map_nil,hvx,hvy,kS]
    have one:∀ {l:List (List PV)},(∀e∈l,e.length=1) → ∀k,(l.take k).flatten=l.flatten.take k∧(l.drop k).flatten=l.flatten.drop k:=by
     intro l
     induction l with
     | nil=>intro _ k;simp
     | cons e l ih =>
      intro hh k
      have he:=hh e (by simp)
      match e,he with
      | [p],_ =>
       cases k with
       | zero=>simp
       | succ k =>
        have:=ih (fun e he=>hh e (by simp [he])) k
        simp [this.1,this.2]
    have W1:∀e∈r.els,e.length=1:=fun e he=>by rw [xH e he,pF]
    have aBC:r.els.flatten.length=r.els.length:=by rw [iC.length,iO.1,pF,Nat.mul_one]
    have hlf:l.flatten.length=l.length:=by rw [g2.length,hnl]
    have ajW:min l.length len=Nat.min l.length len:=rfl
    have acx:(c.w.setRow g (cur.toList.take off++news.take len++cur.toList.drop (off+(news.take len).length)).toArray).ownsRow w0.heap.size r.e r.size (c.β id) (r.els.take off++l.take len++r.els.drop (off+min l.length len)).length
      (xs.take off++news.take len++xs.drop (off+(news.take len).length)):=by
     have GS:(r.els.take off++l.take len++r.els.drop (off+min l.length len)).length=r.els.length:=by simp;omega
     have hxl:xs.length=r.els.length:=by rw [iO.1,pF,Nat.mul_one]
     rw [hβ,GS]
     refine⟨?_, .inr ⟨g,lV,_,rfl,Z5,setRow_heap _ g cur _ r.e _ hg,WT,hcm,?_,?_⟩⟩
     ·rw [pF,Nat.mul_one];simp [S8];omega
     ·rw [pF,Nat.mul_one];simp [S8];omega
     ·rw [pF,Nat.mul_one,←NA]
      have ax6:cur.toList.length=lV:=by simp [MX]
      simp only
      rw [List.take_append,List.take_append]
      have e1:List.take r.els.length (cur.toList.take off)=cur.toList.take off:=by rw [List.take_take,Nat.min_eq_right (by omega)]
      have e2:List.take off (cur.toList.take r.els.length)=cur.toList.take off:=by rw [List.take_take,Nat.min_eq_left (by omega)]
      rw [e1,e2]
      have e3:(cur.toList.take off).length=off:=by rw [List.length_take];omega
      have e4:List.take (r.els.length-off) (news.take len)=news.take len:=List.take_of_length_le (by rw [S8];omega)
      rw [e3,e4]
      congr 1
      rw [List.length_append,e3,List.drop_take]
    have pV:c.w.grownBy (c.w.setRow g (cur.toList.take off++news.take len++cur.toList.drop (off+(news.take len).length)).toArray) (c.β id).ownBlock:=by
     rw [hβ]
     exact⟨rfl,rfl,rfl,by simp,fun k _ hk=>setRow_other _ g k _ (fun e=>hk (by simp [Value.ownBlock,e]))⟩
    obtain⟨zE,hA⟩:=hI.eQ (r':={ r with els:=r.els.take off++l.take len++r.els.drop (off+min l.length len) }) hrr pV acx (by
     show bO (aV c) (r.els.take off++l.take len++r.els.drop (off+min l.length len)).flatten _
     rw [List.flatten_append,List.flatten_append,(one W1 off).1,(one WZ len).1,(one W1 _).2,ajW,←S8]
     exact((iC.take _).append (g2.take _)).append (iC.drop _)) (by
     intro y' GU
     simp only [List.mem_append]at GU
     rcases GU with (GU | GU) | GU
     ·exact kR y' (List.mem_of_mem_take GU)
     ·exact g3 y' (List.mem_of_mem_take GU)
     ·exact kR y' (List.mem_of_mem_drop GU)) (by
     intro e' xB
     simp only [List.mem_append]at xB
     rw [pF]
     rcases xB with (xB | xB) | xB
     ·exact W1 e' (List.mem_of_mem_take xB)
     ·exact WZ e' (List.mem_of_mem_take xB)
     ·exact W1 e' (List.mem_of_mem_drop xB)) rfl rfl (by simp;omega)
    refine value acF (hK _ _ _ h ?_)
    exact oU hf hG hn gG hA zE (dD.2 (by
     have h9:=S8
     rw [←ajW]at h9
     simp only [goInt,h9]
     congr 1
     omega)) hd rfl (by simp [hr]) gH
  ·exact h.elim
 ·-- a call
  rename_i fo args ts
  have gZ:bO (aO c) (args.toList.map fun x=>aX σ.f x) (args.map a.eval).toList:=by
   refine bO.eC (by simp) fun k p u hp hu=>?_
   simp at hp hu
   obtain⟨x,hx,rfl⟩:=hp
   obtain⟨y,hy,rfl⟩:=hu
   rw [hx]at hy;cases hy
   exact hρ x
  split at h
  ·have hfo:=hρ fo
   unfold S3 at h
   split at h
   ·rename_i g heq
    rw [heq]at hfo
    obtain⟨R,⟨⟨fn,b,h1,h2,h3⟩,S5⟩,hk⟩:=h
    simp only [aO,aV,dS]at hfo
    obtain⟨cs,hfv,MX⟩:=hfo
    simp only [bR]at MX
    subst MX
    have sZ:=S5 w0 S0 c _ (fun p=>p∈G ∨ ∃s,p=(σ.f s,a.tmps.getD s undef)) hI hr gH gZ (by
     rintro p (hp | ⟨s,rfl⟩)
     ·exact hG p hp
     ·exact hf s)
    simp only [Array.toArray_toList]at sZ
    unfold Oper.wp
    have kS:(execOp a.eval { dst:=dst,op:=.call { callee:=.value fo,args:=args,argTypes:=ts },type:=type,pos:=pos,after:=after,guard:=guard }).run E.P c.w = .ok (.enter g (args.map a.eval)) c.w:=by
     simp only [execOp,resolve,hfv,Deferred.ofValue,Sem.run_bind,Sem.run_pure,Result.andThen_ok,invoke]
     simpa using n4 h1 h2 h3 (args.map a.eval) c.w
    rw [kS]
    refine sZ.mono ?_
    rintro e w' ⟨v',c',r,lZ,rfl,rfl,zE,hG',mM,amr,hv'⟩
    refine hK _ _ _ (hk _ _ _ mM) ?_
    exact acz (fun s=>hG' (σ.f s,a.tmps.getD s undef) (.inr ⟨s,rfl⟩)) (fun p hp=>hG' p (.inl hp)) hn gG zE hv' hd rfl rfl amr
   ·exact h.elim
  obtain⟨v,hc,hp,hk⟩:=h
  rw [←hr]at hc hp hk
  have hc':A6 E (aX σ.f fo) ((args.toList.map fun x=>aX σ.f x).map (pz c.rows)) v:=by rw [List.map_map];exact hc
  obtain⟨g,cs,h1,h2,h3⟩:=A7 hI (ids:=args.toList.flatMap fun x=>eI (aX σ.f x)) hp (hρ fo) gZ (by
   intro p hp id iV
   simp at hp
   obtain⟨x,hx,rfl⟩:=hp
   simp only [List.mem_flatMap];exact⟨x,by simpa using hx,iV⟩) hc' (K:=fun v' w'=>K' (a.put dst v') w') (fun v' c' q1 q2 q3 q4 q5=>hK _ _ _ hk (oU hf hG hn gG q3 q4 q5 hd rfl (by simp [q1]) (by rw [q2];exact gH)))
  unfold Oper.wp
  have kS:(execOp a.eval { dst:=dst,op:=.call { callee:=.value fo,args:=args,argTypes:=ts },type:=type,pos:=pos,after:=after,guard:=guard }).run E.P c.w = .ok (.enter g (args.map a.eval++cs)) c.w:=by
   simp only [execOp,resolve,h1,Deferred.ofValue,Sem.run_bind,Sem.run_pure,Result.andThen_ok,invoke]
   simp only [Array.toArray_toList]at h2
   simpa only [Array.empty_append]using h2
  rw [kS]
  simp only [Array.toArray_toList]at h3
  exact h3.mono fun e w' ⟨v',he,hk⟩=>by subst he;exact hk
 ·-- a closure
  rename_i g cV
  obtain⟨vI,hp,hk⟩:=h
  rw [←hr]at vI hp hk
  have NB:=hI.freeze (cV.toList.flatMap fun x=>eI (aX σ.f x))
  refine value (v':=.func (.func g) #[] (cV.map a.eval)) (w':=c.w) (by simp [execOp,Instr.makeFunc]) (hK _ _ _ hk ?_)
  refine oU (c':=GH c (cV.toList.flatMap fun x=>eI (aX σ.f x))) hf hG hn gG (nJ c _) NB ?_ hd rfl (by simp [GH]) gH
  simp only [aO,aV,dS]
  refine⟨(cV.map a.eval).toList,by rw [Array.toArray_toList],dM.2 (bO.eC (by simp) fun k p u xA hu=>?_)⟩
  simp at xA hu
  obtain⟨x,hx,rfl⟩:=xA
  obtain⟨y,hy,rfl⟩:=hu
  rw [hx]at hy;cases hy
  have vZ:x∈cV.toList:=by simpa using Array.mem_of_getElem? hx
  exact JX hI hp (hρ x) (fun id iV=>by simp only [List.mem_flatMap];exact⟨x,vZ,iV⟩) (List.all_eq_true.1 vI _ (by simp;exact⟨x,by simpa using vZ,rfl⟩))
 ·exact asb h
end
def i9(op:Op)(ρ:Operand→PV):List Nat:=
 match op with
 | .load _ p=>bM (ρ p)
 | .fieldAddr _ x _=>bM (ρ x)
 | .indexAddr _ x _=>bM (ρ x)
 | .slice _ x _ _ _=>bM (ρ x)
 | .store _ p x=>bM (ρ p)++((cU (ρ x)).getD []).flatMap bM
 | .call { callee:=.builtin .len,args:=⟨[x]⟩,argTypes:=⟨[_]⟩ }=>bM (ρ x)
 | .call { callee:=.builtin .append,args:=⟨[x,y]⟩,argTypes:=⟨[_,_]⟩ }=>bM (ρ x)++bM (ρ y)
 | .nilCheck x=>bM (ρ x)
 | _=>[]
def kT(ids:List Nat)(rows rows':Rows):Prop:=∀id∈ids,∀r,rows id=some r→rows' id=some r
section
variable {E:Env}
theorem J8{rows rows':Rows}{p:PV}(h:bM p = []):fz rows p=fz rows' p:=by cases p<;>simp_all [fz,bM]
theorem ahc{rows rows':Rows}{p:PV}(h:eI p = []):pz rows p=pz rows' p:=by
 cases p with
 | ag l =>
  simp only [eI,List.flatMap_eq_nil_iff]at h
  simp only [pz]
  congr 1
  exact List.map_congr_left fun q hq=>J8 (h q hq)
 | _=>simp only [pz,eI]at h ⊢;exact J8 h
theorem J9{rows rows':Rows}{p:PV}(h:kT (bM p) rows rows')(ho:jF rows p):jF rows' p:=by
 cases p with
 | own id ver off len=>obtain⟨r,hr,hv⟩:=ho;exact⟨r,h id (by simp [bM]) r hr,hv⟩
 | ptr id ver i j=>obtain⟨r,hr,hv⟩:=ho;exact⟨r,h id (by simp [bM]) r hr,hv⟩
 | _=>exact ho
theorem aaa{rows:Rows}{p:PV}(ho:jF rows p):∀id∈bM p,∃r,rows id=some r:=by
 intro id iV
 cases p with
 | own kJ ver off len=>simp [bM]at iV;subst iV;obtain⟨r,hr,_⟩:=ho;exact⟨r,hr⟩
 | ptr kJ ver i j=>simp [bM]at iV;subst iV;obtain⟨r,hr,_⟩:=ho;exact⟨r,hr⟩
 | _=>simp [bM]at iV
theorem acG{t:TypeId}{rows rows':Rows}{p v:PV}(h:kT (bM p) rows rows')(hy:vD E t rows p v):vD E t rows' p v ∧ ∀id∈bM p,∃r,rows id=some r:=by
 obtain⟨hk,hy⟩:=hy
 cases p with
 | ptr id ver i j =>
  obtain⟨r,hr,hh⟩:=hy
  exact⟨⟨hk,r,h id (by simp [bM]) r hr,hh⟩,by simp [bM];exact⟨r,hr⟩⟩
 | rd l=>exact⟨⟨hk,hy⟩,by simp [bM]⟩
 | _=>exact hy.elim
theorem GV{t:TypeId}{i:Nat}{rows rows':Rows}{x v:PV}(h:kT (bM x) rows rows')(hy:gD E t rows i x v):gD E t rows' i x v ∧ ∀id∈bM x,∃r,rows id=some r:=by
 unfold gD at *
 split at hy
 ·rename_i fs z hE
  obtain⟨o,n,b,hf,hy⟩:=hy
  cases x with
  | ptr id ver a j =>
   obtain⟨⟨r,hr,hv⟩,hh⟩:=hy
   exact⟨⟨o,n,b,hf,⟨r,h id (by simp [bM]) r hr,hv⟩,hh⟩,by simp [bM];exact⟨r,hr⟩⟩
  | rd l=>exact⟨⟨o,n,b,hf,hy⟩,by simp [bM]⟩
  | _=>exact hy.elim
 ·exact hy.elim
theorem GW{t:TypeId}{rows rows':Rows}{x ix v:PV}(h:kT (bM x) rows rows')(hy:gE E t rows x ix v):gE E t rows' x ix v ∧ ∀id∈bM x,∃r,rows id=some r:=by
 unfold gE at *
 split at hy
 ·split at hy
  ·obtain⟨h0,hy⟩:=hy
   cases x with
   | own id ver off len =>
    obtain⟨r,hr,hh⟩:=hy
    exact⟨⟨h0,r,h id (by simp [bM]) r hr,hh⟩,by simp [bM];exact⟨r,hr⟩⟩
   | sl l=>exact⟨⟨h0,hy⟩,by simp [bM]⟩
   | kO l=>exact⟨⟨h0,hy⟩,by simp [bM]⟩
   | _=>exact hy.elim
  ·exact hy.elim
 ·split at hy
  ·obtain⟨h0,hy⟩:=hy
   cases x with
   | ptr id ver a j =>
    obtain⟨⟨r,hr,hv⟩,hh⟩:=hy
    exact⟨⟨h0,⟨r,h id (by simp [bM]) r hr,hv⟩,hh⟩,by simp [bM];exact⟨r,hr⟩⟩
   | rd l=>exact⟨⟨h0,hy⟩,by simp [bM]⟩
   | _=>exact hy.elim
  ·exact hy.elim
 ·exact hy.elim
theorem aab{t:TypeId}{rows rows':Rows}{x v:PV}{lo hi mx:Option PV}(h:kT (bM x) rows rows')(hy:pE E t rows x lo hi mx v):pE E t rows' x lo hi mx v ∧ ∀id∈bM x,∃r,rows id=some r:=by
 unfold pE at *
 split at hy
 ·cases x with
  | own id ver off len =>
   obtain⟨r,hr,hh⟩:=hy
   exact⟨⟨r,h id (by simp [bM]) r hr,hh⟩,by simp [bM];exact⟨r,hr⟩⟩
  | nil=>exact⟨hy,by simp [bM]⟩
  | sl l=>exact⟨hy,by simp [bM]⟩
  | kO l=>exact⟨hy,by simp [bM]⟩
  | _=>exact hy.elim
 ·exact hy.elim
theorem ahd{rows rows':Rows}{x:PV}{n:Nat}(h:kT (bM x) rows rows')(hy:Z3 rows x n):Z3 rows' x n ∧ ∀id∈bM x,∃r,rows id=some r:=by
 unfold Z3 at *
 cases x with
 | own id ver off len =>
  obtain⟨⟨r,hr,hv⟩,hh⟩:=hy
  exact⟨⟨⟨r,h id (by simp [bM]) r hr,hv⟩,hh⟩,by simp [bM];exact⟨r,hr⟩⟩
 | nil=>exact⟨hy,by simp [bM]⟩
 | sl l=>exact⟨hy,by simp [bM]⟩
 | kO l=>exact⟨hy,by simp [bM]⟩
 | _=>exact hy.elim
theorem ahe{rows rows':Rows}{x v:PV}(h:kT (bM x) rows rows')(hy:GQ rows x v):GQ rows' x v ∧ ∀id∈bM x,∃r,rows id=some r:=by
 unfold GQ at *
 cases x with
 | ptr id ver i j =>
  obtain⟨⟨r,hr,hv⟩,hh⟩:=hy
  exact⟨⟨⟨r,h id (by simp [bM]) r hr,hv⟩,hh⟩,by simp [bM];exact⟨r,hr⟩⟩
 | rd l=>exact⟨hy,by simp [bM]⟩
 | _=>exact hy.elim
theorem aac{t:TypeId}{rows rows':Rows}{p x v:PV}{u:Option (Nat × Row)}(h:kT (bM p++((cU x).getD []).flatMap bM) rows rows')(hy:sX E t rows p x v u) :
  sX E t rows' p x v u∧(∀id∈bM p++((cU x).getD []).flatMap bM,∃r,rows id=some r) ∧ ∃id r,u=some (id,r)∧id∈bM p:=by
 obtain⟨hk,hv,hy⟩:=hy
 cases p with
 | ptr id ver i j =>
  obtain⟨r,hr,lN,el,nT,l,hl,kR,hh1,hh2,hh3⟩:=hy
  rw [hl]at h ⊢
  simp only [Option.getD_some]at h ⊢
  refine⟨⟨hk,hv,r,h id (by simp [bM]) r hr,lN,el,nT,l,hl,fun q hq=>J9 (fun kJ DQ=>h kJ ?_) (kR q hq),hh1,hh2,hh3⟩,?_,?_⟩
  ·simp only [List.mem_append,List.mem_flatMap];exact .inr ⟨q,hq,DQ⟩
  ·intro kJ DQ
   simp only [List.mem_append,List.mem_flatMap]at DQ
   rcases DQ with DQ | ⟨q,hq,DQ⟩
   ·simp [bM]at DQ;subst DQ;exact⟨r,hr⟩
   ·exact aaa (kR q hq) kJ DQ
  ·exact⟨id,_,hh3,by simp [bM]⟩
 | _=>exact hy.elim
theorem ajZ{op:Op}{ρ:Operand→PV}{rows rows':Rows}{v:PV}{u:Option (Nat × Row)}(h:kT (i9 op ρ) rows rows')(hy:ys E op ρ rows v u) :
  ys E op ρ rows' v u∧(∀id∈i9 op ρ,∃r,rows id=some r) ∧ ∀id r,u=some (id,r)→id∈i9 op ρ:=by
 unfold ys at hy ⊢
 split at hy
 ·rename_i t p x
  obtain⟨h1,h2,id,r,h3,h4⟩:=aac h hy
  exact⟨h1,h2,fun kJ r' hu=>by rw [h3]at hu;cases hu;simp only [i9,List.mem_append];exact .inl h4⟩
 ·rename_i t len parts
  obtain⟨hy,rfl⟩:=hy
  unfold SZ at hy ⊢
  split at hy
  ·obtain⟨els,h1,h2,h3,h4,h5,h6,rfl⟩:=hy
   have hfz:∀e∈els,∀p∈e,fz rows p=fz rows' p:=fun e he p hp=>J8 (h6 e he p hp)
   refine⟨⟨⟨els,h1,h2,h3,h4,fun e he p hp=>⟨by rw [←hfz e he p hp];exact(h5 e he p hp).1,J9 (by rw [h6 e he p hp];intro id iV;cases iV) (h5 e he p hp).2⟩,h6,?_⟩,rfl⟩,by simp [i9],by simp⟩
   congr 1
   exact List.map_congr_left fun e he=>List.map_congr_left fun p hp=>hfz e he p hp
  ·exact hy.elim
 ·rename_i f args ts
  obtain⟨rfl,h1,h2⟩:=hy
  refine⟨⟨rfl,?_,h2⟩,by simp [i9],by simp⟩
  have:(args.toList.map fun x=>pz rows (ρ x))=args.toList.map fun x=>pz rows' (ρ x):=
   List.map_congr_left fun x hx=>ahc (List.flatMap_eq_nil_iff.1 h2 x hx)
  rw [←this];exact h1
 ·obtain⟨hy,rfl⟩:=hy
  suffices hs:yv E op ρ rows' v ∧ ∀id∈i9 op ρ,∃r,rows id=some r from⟨⟨hs.1,rfl⟩,hs.2,by simp⟩
  unfold yv at hy ⊢
  split at hy
  case h_8=>exact acG h hy
  case h_10=>exact GV h hy
  case h_11=>exact GW h hy
  case h_12=>exact aab h hy
  case h_16 =>
   simp only [i9]at h ⊢
   unfold AX at hy ⊢
   split at hy
   ·obtain⟨n,hn,hv⟩:=hy
    have:=ahd (rows':=rows') h hn
    exact⟨⟨n,this.1,hv⟩,this.2⟩
   ·exact hy.elim
  case h_19=>exact ahe h hy
  all_goals first
   | exact hy.elim
   | exact⟨hy,by simp [i9]⟩
end
end Pm
