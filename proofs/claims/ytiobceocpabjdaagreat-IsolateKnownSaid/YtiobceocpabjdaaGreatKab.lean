import Derived.Laws.CopyOwn
import Derived.ArgAppend
import Derived.Test.YtiobceocpabjdaaGreatKaa
set_option linter.unusedSimpArgs false
set_option linter.unusedVariables false
namespace Pm
open Go Go.RowKit
def AN(rows:Rows)(ids:List Nat):Rows:=fun j=>if j∈ids then none else rows j
def KO(c:Cx)(ids:List Nat):dF:=fun b o=>c.S b o ∨ ∃id∈ids,(∃r,c.rows id=some r)∧(c.β id).ownBlock=some b
section
variable {E:Env} {c:Cx} {w0:World} {S0:dF}
def AE(c:Cx)(ids:List Nat):Cx:={ c with S:=KO c ids,rows:=AN c.rows ids }
theorem kE(c:Cx)(ids:List Nat):qE c (AE c ids):=
 ⟨fun _ _ h => .inl h,fun _ _ _=>rfl,fun _ h=>h,fun id r hr=>by
  simp only [AE,AN]at hr ⊢
  split at hr
  ·cases hr
  ·exact .inr ⟨r,hr,rfl,rfl,rfl,by first | rfl | trivial⟩⟩
theorem Inv.freeze(hI:Inv w0 S0 c)(ids:List Nat):Inv w0 S0 (AE c ids):=by
 have live:∀ {k:Nat} {t:Row},AN c.rows ids k=some t→c.rows k=some t∧k ∉ ids:=by
  intro k t h
  simp only [AN]at h
  split at h
  ·cases h
  ·rename_i hk;exact⟨h,hk⟩
 have arH:∀ {id:Nat} {r:Row} {g:Nat},c.rows id=some r→(c.β id).ownBlock=some g→w0.heap.size≤g∧g<c.w.heap.size:=by
  intro id r g hr hg
  obtain⟨⟨ys,g1,_,_⟩,_⟩:=hI.row id r hr
  exact g1.lt g hg
 refine⟨hI.below,fun b o h => .inl (hI.ext b o h),fun b o h=>?_,hI.lt0,fun id r hr=>hI.clock id r (live hr).1,fun id r hr=>?_,fun i j r s g hr hs=>hI.apart i j r s g (live hr).1 (live hs).1⟩
 ·rcases h with h | ⟨id,_,⟨r,hr⟩,hb⟩
  ·exact hI.new b o h
  ·exact .inr (arH hr hb)
 ·obtain⟨jW,hk⟩:=live hr
  obtain⟨⟨ys,g1,g2,g3⟩,g4,g5,g6⟩:=hI.row id r jW
  refine⟨⟨ys,g1,g2.mono (aN.qY (kE c ids)),g3⟩,g4,fun g o hg hS=>?_,g6⟩
  rcases hS with h | ⟨gX,xO,⟨r',dY⟩,hb⟩
  ·exact g5 g o hg h
  ·have:=hI.apart id gX r r' g jW dY hg hb
   subst this
   exact hk xO
theorem N4(hI:Inv w0 S0 c){ids:List Nat}(hp:∀id∈ids,∀r,c.rows id=some r → ∀e∈r.els,∀p∈e,bU p=true){id:Nat}(fI:id∈ids){r:Row}(hr:c.rows id=some r)
  {g n cap:Nat} (hβ:c.β id = .slice (some ⟨g,0,none⟩) n cap) {i j:Nat} {el:List PV} {p:PV} (hi:r.els[i]? = some el) (hj:el[j]? = some p) :
  ∃v,c.w.cell? ⟨g,i*r.size+j,none⟩=some v∧KO c ids g (i*r.size+j)∧v.oneCell'=true∧cN (KO c ids) c.w p v:=by
 obtain⟨v,h1,h2,h3⟩:=sG hI hr hβ hi hj
 refine⟨v,h1, .inr ⟨id,fI,⟨r,hr⟩,by simp [hβ,Value.ownBlock]⟩,h2,?_⟩
 have h4:=h3.rep (hp id fI r hr el (List.mem_of_getElem? hi) p (List.mem_of_getElem? hj))
 exact cN.mono (fun _ _ h => .inl h) (fun _ _ _=>rfl) _ _ h4
theorem DF(hI:Inv w0 S0 c){ids:List Nat}(hp:∀id∈ids,∀r,c.rows id=some r → ∀e∈r.els,∀p∈e,bU p=true){p:PV}{v:Value}(h:aN c p v)(rC:∀id∈aU p,id∈ids)(uC:bU (fz c.rows p)=true) :
  cN (KO c ids) c.w (fz c.rows p) v:=by
 have mono:∀q u,cN c.S c.w q u→cN (KO c ids) c.w q u:=fun q u=>cN.mono (fun _ _ h => .inl h) (fun _ _ _=>rfl) q u
 cases p with
 | own id ver off len =>
  simp only [fz]at uC ⊢
  have fI:id∈ids:=rC id (by simp [aU])
  cases hr:c.rows id with
  | none=>simp [hr,bU]at uC
  | some r =>
   simp only [hr]at uC ⊢
   by_cases hv:r.ver=ver
   ·simp only [hv,if_true]at uC ⊢
    simp only [aN]at h
    obtain⟨hle,h⟩:=h.2 r hr hv
    obtain⟨⟨xs,gQ,_,_⟩,hlen,_⟩:=hI.row id r hr
    have aaZ:∀A m cap,c.β id = .slice A m cap→r.els.length≤cap∧cap≤maxLen:=by
     intro A m cap hβ
     rw [hβ]at gQ
     rcases gQ.2 with ⟨h',hz⟩ | ⟨g,iB,cur,h',_,_,KJ,hm,_⟩
     ·simp at h';exact⟨by omega,by rw [h'.2.2];simp⟩
     ·simp at h';obtain⟨_,_,rfl⟩:=h';exact⟨KJ,hm⟩
    have KP:((r.els.drop off).take len).length=len:=by simp;omega
    have els:∀g n cap,c.β id = .slice (some ⟨g,0,none⟩) n cap→eJ (KO c ids) c.w g (off*r.size) ((r.els.drop off).take len):=by
     intro g n cap hβ
     refine mC (n:=r.size) (fun e he=>hlen e (List.mem_of_mem_drop (List.mem_of_mem_take he))) fun k e hk=>?_
     rw [List.getElem?_take]at hk
     split at hk
     ·rw [List.getElem?_drop]at hk
      refine iK fun j q hq=>?_
      have:=N4 hI hp fI hr hβ hk hq
      rw [show off*r.size+k*r.size+j=(off+k)*r.size+j by rw [Nat.add_mul]];exact this
     ·cases hk
    simp only [cN]
    rw [KP]
    rcases h with ⟨rfl,A,n,cap,hβ,rfl⟩ | ⟨gZ,g,n,cap,A,hβ,hoc,rfl,ha⟩
    ·obtain⟨c1,c2⟩:=aaZ _ _ _ hβ
     refine⟨A,cap,rfl,by omega,c2,?_⟩
     rcases Nat.eq_zero_or_pos len with h0 | h0
     ·left;exact List.eq_nil_of_length_eq_zero (by rw [KP];exact h0)
     ·right
      obtain⟨g,iB,oH⟩:=oG hI hr (by omega)
      rw [hβ]at oH
      simp only [Value.slice.injEq]at oH
      obtain⟨rfl,rfl,rfl⟩:=oH
      exact⟨g,0,rfl,by simpa using els g _ _ hβ⟩
    ·obtain⟨c1,c2⟩:=aaZ _ _ _ hβ
     refine⟨some A,cap-off,rfl,by omega,by omega,?_⟩
     rcases ha with rfl | rfl
     ·left;exact List.eq_nil_of_length_eq_zero KP
     ·right;exact⟨g,off*r.size,rfl,els g n cap hβ⟩
   ·simp [hv,bU]at uC
 | ptr id ver i j =>
  simp only [fz]at uC ⊢
  have fI:id∈ids:=rC id (by simp [aU])
  cases hr:c.rows id with
  | none=>simp [hr,bU]at uC
  | some r =>
   simp only [hr]at uC ⊢
   by_cases hv:r.ver=ver
   ·simp only [hv,if_true]at uC ⊢
    simp only [aN]at h
    obtain⟨g,n,cap,hβ,rfl⟩:=h.2 r hr hv
    simp only [cN]
    refine⟨g,i*r.size+j,rfl,iK fun k q hq=>?_⟩
    rw [List.getElem?_drop]at hq
    cases mW:r.els[i]? with
    | none=>simp [List.getD,mW]at hq
    | some el =>
     have hq':el[j+k]? = some q:=by simpa [List.getD,mW]using hq
     have:=N4 hI hp fI hr hβ mW hq'
     rw [show i*r.size+j+k=i*r.size+(j+k)by omega];exact this
   ·simp [hv,bU]at uC
 | nil =>
  simp only [aN,cN]at h
  subst h
  simp only [fz,cN]
  exact⟨none,0,rfl,by simp,by simp [maxLen], .inl (by first | rfl | trivial)⟩
 | gU l =>
  simp only [fz]
  have:=mono _ _ (show cN c.S c.w (.gU l) v by simpa only [aN]using h)
  simp only [cN]at this ⊢
  obtain⟨A,rfl,h1,h2⟩:=this
  exact⟨A,l.length,rfl,Nat.le_refl _,h1,h2⟩
 | undef=>simp [fz,bU]at uC
 | _=>simp only [fz];exact mono _ _ (by simpa only [aN]using h)
theorem DG(hI:Inv w0 S0 c){ids:List Nat}(hp:∀id∈ids,∀r,c.rows id=some r → ∀e∈r.els,∀p∈e,bU p=true){p:PV}{v:Value}(h:aH c p v)(rC:∀id∈dG p,id∈ids)(uC:fA (pz c.rows p)=true) :
  cN (KO c ids) c.w (pz c.rows p) v:=by
 cases p with
 | ag l =>
  obtain⟨vs,rfl,F6⟩:=h
  simp only [pz,fA]at uC ⊢
  simp only [cN]
  refine⟨vs,rfl,cA.2 (a9.dA (by simp [F6.length]) fun k q u hq hu=>?_)⟩
  simp at hq
  obtain⟨q',hq',rfl⟩:=hq
  obtain⟨u',h1,h2⟩:=F6.get hq'
  rw [hu]at h1;cases h1
  refine DF hI hp h2 (fun id fI=>rC id ?_) (List.all_eq_true.1 uC _ (by simp;exact⟨q',List.mem_of_getElem? hq',rfl⟩))
  simp only [dG,List.mem_flatMap]
  exact⟨q',List.mem_of_getElem? hq',fI⟩
 | _ =>
  simp only [pz]at uC ⊢
  refine DF hI hp (by simpa only [aH]using h) (fun id fI=>rC id (by simpa only [dG]using fI)) ?_
  revert uC
  simp only [fz]
  first
   | (intro uC;simpa only [fA]using uC)
   | (split
      · split
        · intro _;rfl
        · intro uC;exact uC
      · intro uC;exact uC)
end
theorem u6{α:Type}{n:Nat}:∀ {els:List (List α)},(∀e∈els,e.length=n) → ∀ {i:Nat} {el:List α},els[i]? = some el → ∀(j:Nat) (l:List α),j+l.length≤el.length →
  (els.set i (el.take j++l++el.drop (j+l.length))).flatten=els.flatten.take (i*n+j)++l++els.flatten.drop (i*n+j+l.length)
 | [],_,_,_,h,_,_,_=>by simp at h
 | q::els,hn,0,el,h,j,l,hjl=>by
  simp at h
  subst h
  simp only [List.set_cons_zero,List.flatten_cons,Nat.zero_mul,Nat.zero_add]
  rw [List.take_append_of_le_length (by omega),List.drop_append_of_le_length hjl]
  simp
 | q::els,hn,i+1,el,h,j,l,hjl=>by
  have hq:q.length=n:=hn q (by simp)
  have ih:=u6 (els:=els) (n:=n) (fun e he=>hn e (by simp [he])) (i:=i) (el:=el) (by simpa using h) j l hjl
  simp only [List.set_cons_succ,List.flatten_cons,ih]
  have e1:(i+1)*n+j=q.length+(i*n+j):=by rw [hq,Nat.add_mul];omega
  have e2:(i+1)*n+j+l.length=q.length+(i*n+j+l.length):=by omega
  rw [e1,show q.length+(i*n+j)+l.length=q.length+(i*n+j+l.length)by omega,List.take_length_add_append,List.drop_length_add_append]
  simp
def oI(E:Env)(t:TypeId)(rows:Rows)(p x v:PV)(u:Option (Nat × Row)):Prop:=
 (E.ty t).known=true∧v = .undef ∧
 match p with
 | .ptr id ver i j=>∃r,rows id=some r∧r.ver=ver ∧ ∃el,r.els[i]? = some el ∧ ∃l,bS x=some l∧(∀q∈l,gR rows q)∧l.length=(E.ty t).size∧j+l.length≤el.length ∧
   u=some (id,{ r with els:=r.els.set i (el.take j++l++el.drop (j+l.length)) })
 | _=>False
def fU(n:Nat):Nat→List (Nat × PV)→Option (List (List PV))
 | _,[]=>some []
 | k,(i,p)::ps =>
  match bS p with
  | some l=>if i=k∧l.length=n then(fU n (k+1) ps).map (l :: ·)else none
  | none=>none
def KQ(t:TI)(rows:Rows)(len:Nat)(parts:List (Nat × PV))(v:PV):Prop:=
 match t with
 | .slice _ n _ _=>∃els,fU n 0 parts=some els∧len=els.length∧len≤4096∧n≤4096∧(∀e∈els,∀p∈e,bU (fz rows p)=true∧gR rows p)∧(∀e∈els,∀p∈e,aU p = [])∧v = .gU (els.map fun e=>e.map (fz rows))
 | _=>False
def Gs:=PV × Value→Prop
instance:Membership (PV × Value) Gs:=⟨fun G p=>G p⟩
def Gs.none:Gs:=fun _=>False
theorem Gs.F8{p:PV × Value}:¬p∈Gs.none:=id
def QX(P:Program)(f:FuncId)(args:List PV)(rows:Rows)(clk:Nat)(R:PV→Rows→Nat→Prop):Prop:=
 (∃fn c,P.funcs[f]? = some fn∧fn.body=some c∧(fn.name == "runtime.NumGoroutine")=false) ∧
 ∀(w0:World) (S0:dF) (c:Cx) (vs:List Value) (G:Gs),Inv w0 S0 c→c.rows=rows→(∀v,c.used v→v<clk)→a9 (aH c) args vs→(∀p∈G,aH c p.1 p.2) →
  Calls P f vs.toArray c.w fun e w'=>∃v c' r fQ,e = .returned v∧c'.w=w'∧Inv w0 S0 c'∧(∀p∈G,aH c' p.1 p.2)∧R r c'.rows fQ∧(∀v,c'.used v→v<fQ)∧aH c' r v
def afU(E:Env):PV→Bool
 | .fn g _=>E.writes g
 | _=>false
def u7(P:Program)(g:FuncId)(fJ:List PV)(rows:Rows)(clk:Nat)(K:PV→Rows→Nat→Prop):Prop:=
 ∃R,QX P g fJ rows clk R ∧ ∀r rows' fQ,R r rows' fQ→K r rows' fQ
def KR(E:Env)(p:PV)(fJ:List PV)(rows:Rows)(clk:Nat)(K:PV→Rows→Nat→Prop):Prop:=
 match p with
 | .fn g []=>u7 E.P g fJ rows clk K
 | _=>False
def u9(E:Env)(f:PV)(args:List PV)(v:PV):Prop:=
 match f with
 | .fn g cB=>(args.all fA=true)∧aL E.P g (args++cB) v
 | _=>False
def qG(rows:Rows)(y:PV)(l:List (List PV)):Prop:=
 match y with
 | .nil=>l = []
 | .sl k=>l=k
 | .gU k=>l=k
 | .own id ver off len=>∃r,rows id=some r∧r.ver=ver∧l=(r.els.drop off).take len
 | _=>False
def qP(t:TI)(rows:Rows)(x y v:PV)(u:Option (Nat × Row)):Prop:=
 match t,x with
 | .slice _ n _ _, .own id ver off len=>∃r,rows id=some r∧r.ver=ver∧r.size=n∧off+len≤r.els.length ∧ ∃l,qG rows y l∧(∀e∈l,e.length=n) ∧
   v = .int .i64 (min l.length len)∧u=some (id,{ r with els:=r.els.take off++l.take len++r.els.drop (off+min l.length len) })
 | _,_=>False
def ys(E:Env)(op:Op)(ρ:Operand→PV)(rows:Rows)(v:PV)(u:Option (Nat × Row)):Prop:=
 match op with
 | .call { callee:=.builtin .copy,args:=⟨[x,y]⟩,argTypes:=⟨[t,_]⟩ }=>qP (E.ty t) rows (ρ x) (ρ y) v u
 | .store t p x=>oI E t rows (ρ p) (ρ x) v u
 | .buildSlice t len parts=>KQ (E.ty t) rows len (parts.toList.map fun x=>(x.1,ρ x.2)) v∧u=none
 | .call { callee:=.value f,args:=args,argTypes:=_ }=>u=none∧u9 E (ρ f) (args.toList.map fun x=>pz rows (ρ x)) v∧(args.toList.flatMap fun x=>dG (ρ x)) = []
 | op=>yv E op ρ rows v∧u=none
def dQ(rows:Rows):Option (Nat × Row)→Rows
 | none=>rows
 | some (id,r)=>dH rows id (some r)
section
variable {E:Env} {c:Cx} {w0:World} {S0:dF}
theorem KS(hI:Inv w0 S0 c){t:TypeId}{p x v:PV}{u:Option (Nat × Row)}{vp vx:Value}(hp:aH c p vp)(hx:aH c x vx)(h:oI E t c.rows p x v u) :
  v = .undef ∧ ∃w',(Instr.storeAt t vp vx).run E.P c.w = .ok () w'∧Inv w0 S0 { c with w:=w',rows:=dQ c.rows u }∧qE c { c with w:=w',rows:=dQ c.rows u }:=by
 obtain⟨hk,rfl,h⟩:=h
 refine⟨rfl,?_⟩
 split at h
 ·rename_i id ver i j
  obtain⟨r,hr,jF,el,mW,l,hl,iZ,hlen,hjl,rfl⟩:=h
  simp only [aH,aN]at hp
  obtain⟨g,n,cap,hβ,rfl⟩:=hp.2 r hr jF
  obtain⟨⟨xs,gQ,fH,adL⟩,xN,hnS,gZ⟩:=hI.row id r hr
  obtain⟨wG,hc2⟩:=kN hx hl iZ
  have KB:vx.cells.toList.length=l.length:=wG.length.symm
  have alC:=gQ
  rw [hβ]at gQ
  rcases gQ.2 with ⟨h',_⟩ | ⟨g',iB,cur,h',QT,hg,KJ,hcm,KL,F9⟩
  ·simp at h'
  ·simp only [Value.slice.injEq,Option.some.injEq,Addr.mk.injEq,and_true]at h'
   obtain⟨rfl,rfl,rfl⟩:=h'
   have hi:i<r.els.length:=(List.getElem?_eq_some_iff.1 mW).1
   have aw5:el.length=r.size:=xN el (List.mem_of_getElem? mW)
   have hmul:i*r.size+r.size≤r.els.length*r.size:=by rw [←Nat.succ_mul];exact Nat.mul_le_mul_right _ hi
   have aus:r.els.length*r.size≤cap*r.size:=Nat.mul_le_mul_right _ KJ
   have afW:i*r.size+j+l.length≤r.els.length*r.size:=by omega
   have rD:=run_storeCells_at E.P g (i*r.size+j) r.e vx.cells.toList 0 cur c.w hg (by rw [KB];omega) hc2
   obtain⟨inf,_,UN,_,hi2,_,_⟩:=((E.ok t).zero hk).ok
   have iC:(Instr.storeAt t (.pointer (some ⟨g,i*r.size+j,none⟩)) vx).run E.P c.w = .ok () (c.w.setRow g (cur.toList.take (i*r.size+j)++vx.cells.toList++cur.toList.drop (i*r.size+j+l.length)).toArray):=by
    have mV:vx.cells.size=inf.size:=by rw [hi2,←hlen,←KB];simp
    simp only [Instr.storeAt,Instr.sureAddr,Sem.run_bind,Sem.run_pure,Result.andThen_ok,storeVar,cI UN,mV]
    simp only [Nat.add_zero,KB]at rD
    simpa using rD
   refine⟨_,iC,?_⟩
   have UT:(c.w.setRow g (cur.toList.take (i*r.size+j)++vx.cells.toList++cur.toList.drop (i*r.size+j+l.length)).toArray).ownsRow w0.heap.size r.e r.size (c.β id) (r.els.set i (el.take j++l++el.drop (j+l.length))).length
     (xs.take (i*r.size+j)++vx.cells.toList++xs.drop (i*r.size+j+l.length)):=by
    rw [hβ,List.length_set]
    refine⟨?_, .inr ⟨g,cap,_,rfl,QT,setRow_heap _ g cur _ r.e _ hg,KJ,hcm,?_,?_⟩⟩
    ·have:=gQ.1
     simp [KB];omega
    ·simp [KB];omega
    ·rw [←F9]
     have arI:cur.toList.length=cap*r.size:=by simp [KL]
     simp only
     rw [List.take_append,List.take_append]
     have e1:List.take (r.els.length*r.size) (cur.toList.take (i*r.size+j))=cur.toList.take (i*r.size+j):=by
      rw [List.take_take,Nat.min_eq_right (by omega)]
     have e2:List.take (i*r.size+j) (cur.toList.take (r.els.length*r.size))=cur.toList.take (i*r.size+j):=by
      rw [List.take_take,Nat.min_eq_left (by omega)]
     rw [e1,e2]
     have e3:(cur.toList.take (i*r.size+j)).length=i*r.size+j:=by rw [List.length_take];omega
     rw [e3]
     have e4:List.take (r.els.length*r.size-(i*r.size+j)) vx.cells.toList=vx.cells.toList:=List.take_of_length_le (by rw [KB];omega)
     rw [e4]
     congr 1
     rw [List.length_append,e3,KB,List.drop_take]
   have xP:a9 (aN c) (r.els.set i (el.take j++l++el.drop (j+l.length))).flatten (xs.take (i*r.size+j)++vx.cells.toList++xs.drop (i*r.size+j+l.length)):=by
    rw [u6 xN mW j l hjl]
    exact((fH.take _).append wG).append (fH.drop _)
   have sI:c.w.grownBy (c.w.setRow g (cur.toList.take (i*r.size+j)++vx.cells.toList++cur.toList.drop (i*r.size+j+l.length)).toArray) (c.β id).ownBlock:=by
    rw [hβ]
    exact⟨rfl,rfl,rfl,by simp,fun k _ hk=>setRow_other _ g k _ (fun e=>hk (by simp [Value.ownBlock,e]))⟩
   exact hI.dH (r':={ r with els:=r.els.set i (el.take j++l++el.drop (j+l.length)) }) hr sI UT xP (by
    intro y hy
    simp only [List.mem_append]at hy
    rcases hy with (hy | hy) | hy
    ·exact adL y (List.mem_of_mem_take hy)
    ·exact hc2 y hy
    ·exact adL y (List.mem_of_mem_drop hy)) (by
    intro e he
    rcases List.mem_or_eq_of_mem_set he with he | rfl
    ·exact xN e he
    ·simp;omega) rfl rfl (by simp)
 ·exact h.elim
end
section
variable {E:Env} {c:Cx} {w0:World} {S0:dF}
theorem xQ{n:Nat}:∀(vs:List (Nat × Value)) (k:Nat) (cells:Array Value),(∀j x,vs[j]? = some x→x.1=k+j∧x.2.cells.size=n)→cells.size=(k+vs.length)*n →
  ∃b7,Instr.fill (fun i=>some (i*n,n)) cells vs=some b7∧b7.toList=cells.toList.take (k*n)++vs.flatMap fun x=>x.2.cells.toList
 | [],k,cells,_,hs=>⟨cells,rfl,by simp at hs;rw [List.take_of_length_le (by simp [hs])];simp⟩
 | (i,v)::vs,k,cells,h,hs=>by
  obtain⟨h1,h2⟩:=h 0 (i,v) (by simp)
  simp only [Nat.add_zero]at h1 h2
  subst h1
  have afW:i*n+n≤cells.size:=by
   rw [hs,List.length_cons,←Nat.succ_mul]
   exact Nat.mul_le_mul_right _ (by omega)
  have hz3:v.cells.toList.zipIdx=v.cells.zipIdx.toList:=by simp
  have BK:=mX (i*n) v.cells.toList 0 cells (by simp [h2];omega)
  have mV:(List.foldl (fun cs (x:Value × Nat)=>cs.setIfInBounds (i*n+x.2) x.1) cells v.cells.toList.zipIdx).size=cells.size:=by
   have:=congrArg List.length BK
   simp only [Array.length_toList]at this
   rw [this]
   simp [h2]
   omega
  obtain⟨b7,g1,g2⟩:=xQ vs (i+1) (List.foldl (fun cs (x:Value × Nat)=>cs.setIfInBounds (i*n+x.2) x.1) cells v.cells.toList.zipIdx)
   (fun j x hx=>by have:=h (j+1) x (by simpa using hx);exact⟨by omega,this.2⟩) (by rw [mV,hs,List.length_cons];congr 1;omega)
  refine⟨b7,?_,?_⟩
  ·simp only [Instr.fill]
   rw [if_neg (by simp [h2];omega),←g1,hz3,Array.foldl_toList]
  ·rw [g2,BK]
   have e1:(cells.toList.take (i*n+0)).length=i*n:=by rw [List.length_take];simp;omega
   have e2:v.cells.toList.length=n:=by simp [h2]
   rw [show(i+1)*n=i*n+n by rw [Nat.add_mul];omega]
   rw [List.take_append,List.length_append,e1,e2,Nat.sub_self,List.take_zero,List.append_nil,List.take_of_length_le (by rw [List.length_append,e1,e2];exact Nat.le_refl _)]
   simp [List.append_assoc]
theorem lZ{n:Nat}:∀ {ps:List (Nat × PV)} {k:Nat} {els:List (List PV)},fU n k ps=some els→els.length=ps.length∧(∀e∈els,e.length=n) ∧ ∀j x,ps[j]? = some x→x.1=k+j ∧ ∃e,els[j]? = some e∧bS x.2=some e
 | [],k,els,h=>by simp [fU]at h;subst h;simp
 | (i,p)::ps,k,els,h=>by
  simp only [fU]at h
  split at h
  ·rename_i l hl
   split at h
   ·rename_i N3
    rw [Option.map_eq_some_iff]at h
    obtain⟨wH,h1,rfl⟩:=h
    obtain⟨g1,g2,g3⟩:=lZ h1
    refine⟨by simp [g1],fun e he=>?_,fun j x hx=>?_⟩
    ·simp at he
     rcases he with rfl | he
     ·exact N3.2
     ·exact g2 e he
    ·match j with
     | 0=>simp at hx;subst hx;exact⟨by simpa using N3.1,l,by simp,hl⟩
     | j+1 =>
      obtain⟨q1,q2⟩:=g3 j x (by simpa using hx)
      exact⟨by omega,by simpa using q2⟩
   ·cases h
  ·cases h
theorem Inv.arJ(hI:Inv w0 S0 c)(o:Obj):Inv w0 S0 { c with w:=c.w.alloc o,S:=fun b k=>c.S b k∨b=c.w.heap.size }∧qE c { c with w:=c.w.alloc o,S:=fun b k=>c.S b k∨b=c.w.heap.size }:=by
 have:=hI.grow (w':=c.w.alloc o) (S':=fun b k=>c.S b k∨b=c.w.heap.size) ((Below.refl _ _).alloc (Nat.le_refl _) o) (fun _ _ h => .inl h) (fun b k h=>h.imp (fun h=>h) fun h=>by subst h;simp)
 exact this
theorem UU{p:PV}{v:Value}(hI:Inv w0 S0 c)(h:aN c p v)(rC:aU p = [])(uC:bU (fz c.rows p)=true):cN c.S c.w (fz c.rows p) v:=by
 have:=DF hI (ids:=[]) (by simp) h (by simp [rC]) uC
 exact cN.mono (fun b o h=>by rcases h with h | ⟨id,fI,_⟩;exact h;cases fI) (fun _ _ _=>rfl) _ _ this
theorem xR(hI:Inv w0 S0 c){t e:TypeId}{n bb len:Nat}{z:List PV}(hE:E.ty t = .slice e n bb z){parts:Array (Nat × Operand)}{ρ:Operand→PV}{vρ:Operand→Value}(hρ:∀x,aH c (ρ x) (vρ x))
  {els:List (List PV)} (xN:fU n 0 (parts.toList.map fun x=>(x.1,ρ x.2))=some els) (hlen:len=els.length) (hsm:len≤4096) (hn:n≤4096)
  (uC:∀e∈els,∀p∈e,bU (fz c.rows p)=true∧gR c.rows p) (rC:∀e∈els,∀p∈e,aU p = []) :
  ∃v' c',(Instr.buildSlice t len (parts.map fun(i,x)=>(i,vρ x))).run E.P c.w = .ok v' c'.w∧c'.rows=c.rows∧c'.used=c.used∧Inv w0 S0 c'∧qE c c'∧aH c' (.gU (els.map fun e=>e.map (fz c.rows))) v':=by
 obtain⟨hu,hnp,DH,i,zv,hi,hz,hs,_,KN,_⟩:=eN hE
 obtain⟨g1,g2,g3⟩:=lZ xN
 have N5:parts.size=els.length:=by rw [g1];simp
 have arL:zv.cells.size=n:=by rw [←DH,←KN];simp
 have BN:∀j (x:Nat × Value),((parts.map fun(i,x)=>(i,vρ x)).toList)[j]? = some x→x.1=0+j ∧ ∃e,els[j]? = some e∧a9 (aN c) e x.2.cells.toList ∧ ∀u∈x.2.cells.toList,u.oneCell'=true:=by
  intro j x hx
  simp at hx
  obtain⟨a,b,fN,rfl⟩:=hx
  obtain⟨q1,e,q2,q3⟩:=g3 j (a,ρ b) (by simp;exact⟨a,b,fN,rfl,rfl⟩)
  have q4:=kN (hρ b) q3 (fun q hq=>(uC e (List.mem_of_getElem? q2) q hq).2)
  exact⟨q1,e,q2,q4.1,q4.2⟩
 obtain⟨b7,f1,f2⟩:=xQ (n:=n) (parts.map fun(i,x)=>(i,vρ x)).toList 0 ((Array.range (len*n)).map (zv.cells[· % zv.cells.size]!)) (fun j x hx=>by
  obtain⟨q1,e,q2,q3,_⟩:=BN j x hx
  refine⟨q1,?_⟩
  have:=q3.length
  rw [g2 e (List.mem_of_getElem? q2)]at this
  simpa using this.symm) (by simp [N5,hlen])
 simp only [Nat.zero_mul,List.take_zero,List.nil_append]at f2
 have iC:(Instr.buildSlice t len (parts.map fun(i,x)=>(i,vρ x))).run E.P c.w = .ok (.slice (some ⟨c.w.heap.size,0,none⟩) len len) (c.w.alloc (.cells b7 e)):=by
  have hbound:¬(16777216<len*n):=by
   have:len*n≤4096*4096:=Nat.mul_le_mul hsm hn
   omega
  by_cases h0:len*n=0
  ·have GB:len=0:=by
    rcases Nat.mul_eq_zero.1 h0 with h | h
    ·exact h
    ·omega
   have hp0:parts = #[]:=Array.eq_empty_of_size_eq_zero (by omega)
   subst hp0
   subst GB
   simp [Instr.fill]at f1
   subst f1
   have BO:Array.range 0 = #[]:=rfl
   simp [Instr.buildSlice,run_underlying hu,cI hi,newRow,Instr.fill,BO]
  ·have f1':Instr.fill (fun i=>some (i*n,n)) ((Array.range (len*n)).map (zv.cells[· % zv.cells.size]!)) (parts.toList.map fun x=>(x.1,vρ x.2))=some b7:=by simpa using f1
   simp only [Instr.buildSlice,Sem.run_bind,run_underlying hu,Result.andThen_ok,cI hi,hs]
   simp [h0,hbound,newRow,zeroValue,typeInfo,hi,hz,f1']
 obtain⟨tV,hA⟩:=hI.arJ (.cells b7 e)
 refine⟨_,{ c with w:=c.w.alloc (.cells b7 e),S:=fun b k=>c.S b k∨b=c.w.heap.size },iC,rfl,rfl,tV,hA,?_⟩
 simp only [aH,aN,cN]
 refine⟨some ⟨c.w.heap.size,0,none⟩,by rw [List.length_map,hlen],by rw [List.length_map,←hlen];simp [maxLen];omega, .inr ⟨_,_,rfl,?_⟩⟩
 refine mC (n:=n) (by
  intro e' pL
  simp at pL
  obtain⟨e1,he1,rfl⟩:=pL
  simpa using g2 e1 he1) fun k el hk=>?_
 simp at hk
 obtain⟨e1,he1,rfl⟩:=hk
 refine iK fun j p hj=>?_
 simp at hj
 obtain⟨q,hq,rfl⟩:=hj
 have hkl:k<els.length:=(List.getElem?_eq_some_iff.1 he1).1
 obtain⟨x,hx⟩:∃x,((parts.map fun(i,x)=>(i,vρ x)).toList)[k]? = some x:=⟨_,List.getElem?_eq_getElem (by simp;omega)⟩
 obtain⟨_,e2,q2,q3,q4⟩:=BN k x hx
 rw [he1]at q2;cases q2
 obtain⟨u,hu1,hu2⟩:=q3.get hq
 have alE:b7.toList[k*n+j]? = some u:=by
  have e3:b7.toList=((parts.map fun(i,x)=>(i,vρ x)).toList.map fun x=>x.2.cells.toList).flatten:=by rw [f2,List.flatMap_def]
  rw [e3]
  refine iL (n:=n) (fun e he=>?_) (i:=k) (e:=x.2.cells.toList) (by rw [List.getElem?_map,hx];rfl) hu1
  simp only [List.mem_map]at he
  obtain⟨y,hy,rfl⟩:=he
  obtain⟨k',u4⟩:=List.getElem?_of_mem hy
  obtain⟨_,e4,q5,q6,_⟩:=BN k' y u4
  rw [←q6.length];exact g2 e4 (List.mem_of_getElem? q5)
 refine⟨u,?_, .inr rfl,q4 u (List.mem_of_getElem? hu1),?_⟩
 ·have:=heap_alloc_new c.w (.cells b7 e)
  rw [cell_of_row _ _ _ _ _ _ this]
  simpa using alE
 ·exact cN.mono hA.S hA.w _ _ (UU hI hu2 (rC e1 (List.mem_of_getElem? he1) q (List.mem_of_getElem? hq)) (uC e1 (List.mem_of_getElem? he1) q (List.mem_of_getElem? hq)).1)
end
section
variable {E:Env} {c:Cx} {w0:World} {S0:dF}
theorem kO{P:Program}{g:FuncId}{fn:Func}{b:Code}(h1:P.funcs[g]? = some fn)(h2:fn.body=some b) (h3:(fn.name == "runtime.NumGoroutine") = false) (args:Array Value) (w:World) :
  (callFunc g args).run P w = .ok (.enter g args) w:=by
 simp only [callFunc,Sem.run_bind,program,Sem.run,Result.andThen_ok,h1,h2,h3]
 simp
theorem vA(hI:Inv w0 S0 c){ids:List Nat}(hp:∀id∈ids,∀r,c.rows id=some r → ∀e∈r.els,∀p∈e,bU p=true){pf:PV}{vf:Value}{N6:List PV}{vB:List Value}
  (hf:aH c pf vf) (eX:a9 (aH c) N6 vB) (rC:∀p∈N6,∀id∈dG p,id∈ids) {v:PV} (h:u9 E pf (N6.map (pz c.rows)) v) {K:Value→World→Prop}
  (hK:∀v' c',c'.rows=AN c.rows ids→c'.used=c.used→qE c c'→Inv w0 S0 c'→aH c' v v'→K v' c'.w) :
  ∃g cs,vf = .func (.func g) #[] cs∧(callFunc g (vB.toArray++cs)).run E.P c.w = .ok (.enter g (vB.toArray++cs)) c.w ∧
   Calls E.P g (vB.toArray++cs) c.w fun e w'=>∃v',e = .returned v'∧K v' w':=by
 unfold u9 at h
 split at h
 ·rename_i g cB
  obtain⟨qQ,⟨fn,b,h1,h2,h3⟩,KU⟩:=h
  simp only [aH,aN,cN]at hf
  obtain⟨cs,rfl,KL⟩:=hf
  refine⟨g,cs.toArray,rfl,kO h1 h2 h3 _ _,?_⟩
  have GC:=hI.freeze ids
  have fS:∀b o,KO c ids b o→b<c.w.heap.size:=fun b o hb=>GC.lt (c:=AE c ids) hb
  have fH:bI (KO c ids) c.w (N6.map (pz c.rows)++cB) (vB++cs):=by
   refine cA.2 (a9.append (a9.dA (by simp [eX.length]) fun k p u tU hu=>?_) ?_)
   ·simp at tU
    obtain⟨q,hq,rfl⟩:=tU
    obtain⟨u',g1,g2⟩:=eX.get hq
    rw [hu]at g1;cases g1
    exact DG hI hp g2 (rC q (List.mem_of_getElem? hq)) (List.all_eq_true.1 qQ _ (by simp;exact⟨q,List.mem_of_getElem? hq,rfl⟩))
   ·exact(cA.1 KL).mono fun a b fN=>cN.mono (fun _ _ h => .inl h) (fun _ _ _=>rfl) a b fN
  have:=KU c.w (KO c ids) (vB++cs) fS fH
  rw [show(vB++cs).toArray=vB.toArray++cs.toArray by simp]at this
  refine this.mono ?_
  rintro e w' ⟨v',rfl,hb,S',g1,g2,g3⟩
  refine⟨v',rfl,?_⟩
  obtain⟨hI2,hA2⟩:=GC.grow (c:=AE c ids) hb g1 g2
  have hA:qE c { AE c ids with S:=S',w:=w' }:=by
   have hA1:=kE c ids
   exact⟨fun b o h=>g1 b o (hA1.S b o h),fun b o h=>(hA2.w b o (hA1.S b o h)).trans (hA1.w b o h),fun _ h=>h,hA1.rows⟩
  exact hK v' { AE c ids with S:=S',w:=w' } rfl rfl hA hI2 (aH.gY g3)
 ·exact h.elim
structure mZ(w0:World)(S0:dF)(n:Nat)(G:Gs)(U:Nat→Prop)(f:Nat→PV)(rows:Rows)(a:Act)(w:World):Prop where
 ex:∃c:Cx,c.w=w∧c.rows=rows∧(∀v,c.used v→U v)∧Inv w0 S0 c∧(∀s,aH c (f s) (a.tmps.getD s undef)) ∧ ∀p∈G,aH c p.1 p.2
 size:a.tmps.size=n
 defers:a.defers = []
abbrev Rel(w0:World)(S0:dF)(n:Nat)(G:Gs)(σ:PS)(a:Act)(w:World):Prop:=mZ w0 S0 n G (fun v=>v<σ.clock) σ.f σ.rows a w
theorem mZ.mono{w0:World}{S0:dF}{n:Nat}{G:Gs}{U U':Nat→Prop}{f:Nat→PV}{rows:Rows}{a:Act}{w:World}(hU:∀v,U v→U' v)(h:mZ w0 S0 n G U f rows a w):mZ w0 S0 n G U' f rows a w:=by
 obtain⟨⟨c,h1,h2,h3,h4⟩,h5,h6⟩:=h
 exact⟨⟨c,h1,h2,fun v hv=>hU v (h3 v hv),h4⟩,h5,h6⟩
theorem mD{n:Nat}{G:Gs}{U:Nat→Prop}{f:Nat→PV}{a:Act}{c':Cx}{v:PV}{v':Value}{d:Option Tmp}(hf:∀s,aH c (f s) (a.tmps.getD s undef))(hG:∀p∈G,aH c p.1 p.2)(hn:a.tmps.size=n)(eQ:a.defers = [])
  (hA:qE c c') (hI:Inv w0 S0 c') (hv:aH c' v v') (hd:∀t,d=some t→t<n) {f':Nat→PV} {rows:Rows} (h1:f'=put f d v) (h2:rows=c'.rows) (h3:∀v,c'.used v→U v):mZ w0 S0 n G U f' rows (a.put d v') c'.w:=by
 refine⟨⟨c',rfl,h2.symm,h3,hI,fun s=>?_,fun p hp=>aH.qY hA _ _ (hG p hp)⟩,?_,?_⟩
 ·rw [h1]
  cases d with
  | none=>exact aH.qY hA _ _ (hf s)
  | some t =>
   simp only [put,Act.put]
   by_cases hs:s=t
   ·subst hs
    have:s<a.tmps.size:=by rw [hn];exact hd s rfl
    simpa [this]using hv
   ·rw [if_neg hs]
    have:=aH.qY hA _ _ (hf s)
    simpa [Array.getElem?_setIfInBounds_ne (Ne.symm hs)]using this
 ·cases d<;>simp [Act.put,hn]
 ·cases d<;>simp [Act.put,eQ]
theorem m6{n:Nat}{G:Gs}{f:Nat→PV}{a:Act}{c':Cx}{v:PV}{v':Value}{d:Option Tmp}(hf:∀s,aH c (f s) (a.tmps.getD s undef))(hG:∀p∈G,aH c p.1 p.2)(hn:a.tmps.size=n)(eQ:a.defers = [])
  (hA:qE c c') (hI:Inv w0 S0 c') (hv:aH c' v v') (hd:∀t,d=some t→t<n) {σ:PS} (h1:σ.f=put f d v) (h2:σ.rows=c'.rows) (h3:∀v,c'.used v→v<σ.clock):Rel w0 S0 n G σ (a.put d v') c'.w:=
 mD hf hG hn eQ hA hI hv hd h1 h2 h3
theorem UW{n:Nat}{G:Gs}{f:Nat→PV}{a:Act}{c':Cx}{v:PV}{v':Value}{d:Option Tmp}(hf:∀s,aH c' (f s) (a.tmps.getD s undef))(hG:∀p∈G,aH c' p.1 p.2)(hn:a.tmps.size=n)(eQ:a.defers = [])
  (hI:Inv w0 S0 c') (hv:aH c' v v') (hd:∀t,d=some t→t<n) {σ:PS} (h1:σ.f=put f d v) (h2:σ.rows=c'.rows) (h3:∀v,c'.used v→v<σ.clock):Rel w0 S0 n G σ (a.put d v') c'.w:=
 m6 hf hG hn eQ (qE.refl c') hI hv hd h1 h2 h3
theorem mE{α:Type}{n:Nat}:∀ {l:List (List α)},(∀e∈l,e.length=n) → ∀k,(l.take k).flatten=l.flatten.take (k*n)∧(l.drop k).flatten=l.flatten.drop (k*n)
 | [],_,k=>by simp
 | e::l,_,0=>by simp
 | e::l,h,k+1=>by
  have he:=h e (by simp)
  have ih:=mE (l:=l) (fun e' pL=>h e' (List.mem_cons_of_mem _ pL)) k
  have h1:(k+1)*n=e.length+k*n:=by rw [he,Nat.add_mul];omega
  simp only [List.take_succ_cons,List.drop_succ_cons,List.flatten_cons,h1,List.take_length_add_append,List.drop_length_add_append,ih.1,ih.2,and_self]
theorem rE(hI:Inv w0 S0 c){y:PV}{vy:Value}{l:List (List PV)}{n:Nat}(hy:aH c y vy)(h:qG c.rows y l)(hn:∀e∈l,e.length=n) :
  ∃A cap news,vy = .slice A l.length cap∧news.length=l.length*n∧a9 (aN c) l.flatten news∧(∀u∈news,u.oneCell'=true)∧(A=none→l = []) ∧
   ∀a,A=some a → ∀j u,news[j]? = some u→c.w.cell? (a.add j)=some u:=by
 have fl:∀ {l:List (List PV)},(∀e∈l,e.length=n)→l.flatten.length=l.length*n:=by
  intro l
  induction l with
  | nil=>intro _;simp
  | cons e l ih=>intro h;rw [List.flatten_cons,List.length_append,ih (fun e he=>h e (by simp [he])),h e (by simp),List.length_cons,Nat.add_mul];omega
 have at_:∀(g o cap:Nat),vy = .slice (some ⟨g,o,none⟩) l.length cap →
   (∀k e,l[k]? = some e → ∀j p,e[j]? = some p → ∃v,c.w.cell? ⟨g,o+(k*n+j),none⟩=some v∧v.oneCell'=true∧aN c p v) → ∃A cap news,vy = .slice A l.length cap∧news.length=l.length*n∧a9 (aN c) l.flatten news∧(∀u∈news,u.oneCell'=true)∧(A=none→l = []) ∧
   ∀a,A=some a → ∀j u,news[j]? = some u→c.w.cell? (a.add j)=some u:=by
  intro g o cap hv hc
  have cellAt:∀k,k<l.length*n → ∃p v,l.flatten[k]? = some p∧c.w.cell? ⟨g,o+k,none⟩=some v∧v.oneCell'=true∧aN c p v:=by
   intro k hk
   have UX:0<n:=by
    rcases Nat.eq_zero_or_pos n with h | h
    ·subst h;simp at hk
    ·exact h
   have hq:k/n<l.length:=(Nat.div_lt_iff_lt_mul UX).2 hk
   have he:=hn l[k/n] (List.getElem_mem hq)
   have hj:k%n<l[k/n].length:=by rw [he];exact Nat.mod_lt _ UX
   have N7:k/n*n+k%n=k:=by rw [Nat.mul_comm];exact Nat.div_add_mod k n
   obtain⟨v,h1,h2,h3⟩:=hc (k/n) _ (List.getElem?_eq_getElem hq) (k%n) _ (List.getElem?_eq_getElem hj)
   rw [N7]at h1
   have:=iL hn (List.getElem?_eq_getElem hq) (List.getElem?_eq_getElem hj)
   rw [N7]at this
   exact⟨_,v,this,h1,h2,h3⟩
  have hnl:((List.range (l.length*n)).map fun k=>(c.w.cell? ⟨g,o+k,none⟩).getD undef).length=l.length*n:=by simp
  have UM:∀k u,((List.range (l.length*n)).map fun k=>(c.w.cell? ⟨g,o+k,none⟩).getD undef)[k]? = some u→k<l.length*n ∧ ∃p,l.flatten[k]? = some p∧c.w.cell? ⟨g,o+k,none⟩=some u∧u.oneCell'=true∧aN c p u:=by
   intro k u hu
   have hk:k<l.length*n:=by rw [←hnl];exact(List.getElem?_eq_some_iff.1 hu).1
   obtain⟨p,v,h1,h2,h3,h4⟩:=cellAt k hk
   rw [List.getElem?_map,List.getElem?_range hk]at hu
   simp only [Option.map_some,h2,Option.getD_some,Option.some.injEq]at hu
   subst hu
   exact⟨hk,p,h1,h2,h3,h4⟩
  refine⟨some ⟨g,o,none⟩,cap,_,hv,hnl,a9.dA (by rw [hnl,fl hn]) fun k p u hp hu=>?_,fun u hu=>?_,by simp,fun a ha j u hu=>?_⟩
  ·obtain⟨_,p',h1,_,_,h4⟩:=UM k u hu
   rw [hp]at h1;cases h1;exact h4
  ·obtain⟨k,hk⟩:=List.getElem?_of_mem hu
   exact(UM k u hk).2.choose_spec.2.2.1
  ·cases ha
   rw [gP]
   exact(UM j u hu).2.choose_spec.2.1
 have empty:∀A cap,vy = .slice A l.length cap→l = [] → ∃A cap news,vy = .slice A l.length cap∧news.length=l.length*n∧a9 (aN c) l.flatten news∧(∀u∈news,u.oneCell'=true)∧(A=none→l = []) ∧
   ∀a,A=some a → ∀j u,news[j]? = some u→c.w.cell? (a.add j)=some u:=by
  rintro A cap hv rfl
  exact⟨A,cap,[],hv,by simp,trivial,by simp,by simp,by simp⟩
 unfold qG at h
 split at h
 ·subst h
  simp only [aH,aN,cN]at hy
  exact empty none 0 (by rw [hy];rfl) rfl
 ·subst h
  simp only [aH,aN,cN]at hy
  obtain⟨A,cap,rfl,_,_,hh⟩:=hy
  rcases hh with hh | ⟨g,o,rfl,hr⟩
  ·exact empty A cap rfl hh
  ·refine at_ g o cap rfl fun k e hk j p hj=>?_
   obtain⟨v,h1,_,h3,h4⟩:=gF (iA hr hn hk) hj
   exact⟨v,by rw [←Nat.add_assoc];exact h1,h3,aN.gY h4⟩
 ·subst h
  simp only [aH,aN,cN]at hy
  obtain⟨A,rfl,_,hh⟩:=hy
  rcases hh with hh | ⟨g,o,rfl,hr⟩
  ·exact empty A _ rfl hh
  ·refine at_ g o _ rfl fun k e hk j p hj=>?_
   obtain⟨v,h1,_,h3,h4⟩:=gF (iA hr hn hk) hj
   exact⟨v,by rw [←Nat.add_assoc];exact h1,h3,aN.gY h4⟩
 ·rename_i id ver off len
  obtain⟨r,hr,jF,rfl⟩:=h
  simp only [aH,aN]at hy
  obtain⟨hle,hy⟩:=hy.2 r hr jF
  have KP:((r.els.drop off).take len).length=len:=by simp;omega
  rw [←KP]at hy
  have mV:∀k e,((r.els.drop off).take len)[k]? = some e→r.els[off+k]? = some e∧r.size=n:=by
   intro k e hk
   have u4:=hk
   rw [List.getElem?_take]at hk
   split at hk
   ·rw [List.getElem?_drop]at hk
    refine⟨hk,?_⟩
    rw [←hn e (List.mem_of_getElem? u4)]
    exact((hI.row id r hr).len e (List.mem_of_getElem? hk)).symm
   ·cases hk
  rcases hy with ⟨h0,A,m,cap,hβ,rfl⟩ | ⟨gZ,g,m,cap,A,hβ,hoc,rfl,ha⟩
  ·subst h0
   rcases Nat.eq_zero_or_pos len with h0 | h0
   ·exact empty A cap rfl (List.eq_nil_of_length_eq_zero (by rw [KP];exact h0))
   ·obtain⟨g,iB,oH⟩:=oG hI hr (by omega)
    rw [hβ]at oH
    simp only [Value.slice.injEq]at oH
    obtain⟨rfl,rfl,rfl⟩:=oH
    refine at_ g 0 _ rfl fun k e hk j p hj=>?_
    obtain⟨hk2,hs⟩:=mV k e hk
    have:=sG hI hr hβ hk2 hj
    rw [hs]at this
    simpa using this
  ·rcases ha with ha | rfl
   ·exact empty _ _ rfl (List.eq_nil_of_length_eq_zero ha)
   ·refine at_ g _ _ rfl fun k e hk j p hj=>?_
    obtain⟨hk2,hs⟩:=mV k e hk
    have:=sG hI hr hβ hk2 hj
    rw [hs]at this ⊢
    rw [show off*n+(k*n+j)=(off+k)*n+j by rw [Nat.add_mul];omega];exact this
 ·exact h.elim
end
section
variable {E:Env} {c:Cx} {w0:World} {S0:dF}
theorem DI{P:Program}(w:World)(dT sT ty elem:TypeId)(sz g o afY afZ:Nat)(A:Option Addr)(KV af0:Nat)(cur:Array Value)(t:TypeId)(cs:List Value)
  (hu:P.underlying dT=some (.slice elem)) (hs:(P.info? elem).map (·.size)=some sz)
  (hg:w.heap[g]? = some (.cells cur t (0,0))) (hn:cs.length=Nat.min KV afY*sz)
  (arN:∀a,A=some a → ∀j v,cs[j]? = some v→w.cell? (a.add j)=some v) (hA:A=none→cs = []) (afW:o+cs.length≤cur.size) (h1:∀v∈cs,v.oneCell'=true) :
  (Builtin.copy_ #[dT,sT] ty #[.slice (some ⟨g,o,none⟩) afY afZ, .slice A KV af0]).run P w =
   .ok (goInt (Nat.min KV afY:Nat)) (w.setRow g (cur.toList.take o++cs++cur.toList.drop (o+cs.length)).toArray):=by
 cases hq:P.info? elem with
 | none=>simp [hq]at hs
 | some i =>
  have hi:i.size=sz:=by simpa [hq]using hs
  cases A with
  | some a =>
   have hl:=run_loadCells_list (P:=P) w a cs (arN a rfl)
   have rD:=run_storeCells_at P g o t cs 0 cur w hg (by simpa using afW) h1
   simp [Builtin.copy_,run_underlying hu,Builtin.lenOf,Builtin.firstCells,Go.sizeOf,typeInfo,hq,hi,←hn,hl,rD]
  | none =>
   have:=hA rfl
   subst this
   have alG:=setRow_self w g cur t (0,0) hg
   simp [Builtin.copy_,run_underlying hu,Builtin.lenOf,Builtin.firstCells,Go.sizeOf,typeInfo,hq,storeCells,List.take_append_drop,alG]
theorem AO{P:Program}(w:World)(dT sT ty elem:TypeId)(D:Option Addr)(afZ:Nat)(A:Option Addr)(KV af0 sz:Nat)
  (hu:P.underlying dT=some (.slice elem)) (hs:(P.info? elem).map (·.size)=some sz) :
  (Builtin.copy_ #[dT,sT] ty #[.slice D 0 afZ, .slice A KV af0]).run P w = .ok (goInt (0:Nat)) w:=by
 cases hq:P.info? elem with
 | none=>simp [hq]at hs
 | some i=>cases A<;>cases D<;>simp [Builtin.copy_,run_underlying hu,Builtin.lenOf,Builtin.firstCells,Go.sizeOf,typeInfo,hq,storeCells,loadCells,loadCellsFrom,show Nat.min KV 0=0 from Nat.min_zero KV]
theorem QY(hI:Inv w0 S0 c){t t2 type:TypeId}{x y v:PV}{u:Option (Nat × Row)}{vx vy:Value}(hx:aH c x vx)(hy:aH c y vy)(h:qP (E.ty t) c.rows x y v u) :
  ∃v' c',(Builtin.copy_ #[t,t2] type #[vx,vy]).run E.P c.w = .ok v' c'.w∧c'.rows=dQ c.rows u∧c'.used=c.used∧qE c c'∧Inv w0 S0 c'∧aH c' v v':=by
 unfold qP at h
 split at h
 ·rename_i e sz b z id ver off len hE
  obtain⟨r,xS,jF,mV,hle,l,hl,hl1,rfl,rfl⟩:=h
  have gx:=hx
  simp only [aH,aN]at gx
  obtain⟨_,gx⟩:=gx.2 r xS jF
  obtain⟨hu,gZ,DH,i,zv,hi,hz,hs,hby,KN,hzo⟩:=eN hE
  obtain⟨A,cap,news,hvy,g1,g2,g3,g4,g5⟩:=rE hI hy hl hl1
  by_cases sJ:len=0
  ·-- nothing
   subst sJ
   obtain⟨D,KW,hvx⟩:∃D KW,vx = .slice D 0 KW:=by
    rcases gx with ⟨h0,A',m,aa3,DJ,hv⟩ | ⟨_,g2,m,aa3,A',DJ,_,hv,ha⟩
    ·exact⟨_,_,hv⟩
    ·exact⟨_,_,hv⟩
   have iC:=AO (P:=E.P) c.w t t2 type e D KW A l.length cap sz hu (by simp [hi,hs])
   have qH:dH c.rows id (some { r with els:=r.els.take off++l.take 0++r.els.drop (off+min l.length 0) })=c.rows:=by
    funext j
    simp only [dH]
    split
    ·rename_i hj
     subst hj
     rw [xS]
     simp
    ·rfl
   refine⟨_,c,by rw [hvx,hvy];exact iC,?_,rfl,qE.refl c,hI,bV.2 (by
    simp only [goInt]
    congr 1
    omega)⟩
   show c.rows=dH c.rows id _
   rw [qH]
  have alH:0<len:=by omega
  obtain⟨⟨xs,gQ,fH,iZ⟩,xN,hnS,_⟩:=hI.row id r xS
  obtain⟨g,iB,hβ⟩:=oG hI xS (by omega)
  obtain⟨KW,hvx⟩:∃KW,vx = .slice (some ⟨g,off*sz,none⟩) len KW:=by
   rcases gx with ⟨h0,A',m,aa3,DJ,hv⟩ | ⟨_,g2,m,aa3,A',DJ,_,hv,ha⟩
   ·rw [hβ]at DJ
    simp only [Value.slice.injEq]at DJ
    obtain⟨rfl,_,_⟩:=DJ
    exact⟨_,by rw [hv,h0,Nat.zero_mul]⟩
   ·rw [hβ]at DJ
    simp only [Value.slice.injEq,Option.some.injEq,Addr.mk.injEq,and_true]at DJ
    obtain⟨rfl,_,_⟩:=DJ
    rcases ha with ha | ha
    ·omega
    ·exact⟨_,by rw [hv,ha,mV]⟩
  have alC:=gQ
  rw [hβ]at gQ
  rcases gQ.2 with ⟨h',_⟩ | ⟨g',alI,cur,h',QT,hg,KJ,hcm,KL,F9⟩
  ·simp at h'
  ·simp only [Value.slice.injEq,Option.some.injEq,Addr.mk.injEq,and_true]at h'
   obtain⟨rfl,_,rfl⟩:=h'
   rw [mV]at KL F9
   have hnl:news.length=l.length*sz:=g1
   have hml:Nat.min l.length len≤len:=Nat.min_le_right _ _
   have hmm:Nat.min l.length len*sz=Nat.min (l.length*sz) (len*sz):=by
    show min l.length len*sz=min (l.length*sz) (len*sz)
    rcases Nat.le_total l.length len with hq | hq
    ·rw [Nat.min_eq_left hq,Nat.min_eq_left (Nat.mul_le_mul_right _ hq)]
    ·rw [Nat.min_eq_right hq,Nat.min_eq_right (Nat.mul_le_mul_right _ hq)]
   have QZ:(news.take (len*sz)).length=Nat.min l.length len*sz:=by
    rw [List.length_take,hnl,hmm];exact Nat.min_comm _ _
   have GD:off*sz+len*sz≤r.els.length*sz:=by rw [←Nat.add_mul];exact Nat.mul_le_mul_right _ hle
   have aw7:r.els.length*sz≤iB*sz:=Nat.mul_le_mul_right _ KJ
   have aw8:Nat.min l.length len*sz≤len*sz:=Nat.mul_le_mul_right _ hml
   have iC:=DI (P:=E.P) c.w t t2 type e sz g (off*sz) len KW A l.length cap cur r.e (news.take (len*sz)) hu (by simp [hi,hs]) hg QZ
    (fun ad had j v hj=>g5 ad had j v (by rw [List.getElem?_take]at hj;split at hj;exact hj;cases hj)) (fun hA=>by
     have:=g4 hA
     subst this
     have:news = []:=List.eq_nil_of_length_eq_zero (by simpa using hnl)
     simp [this]) (by rw [QZ];omega) (fun v hv=>g3 v (List.mem_of_mem_take hv))
   have N8:∀e∈r.els,e.length=sz:=fun e he=>by rw [xN e he,mV]
   have adO:min l.length len=Nat.min l.length len:=rfl
   have UT:(c.w.setRow g (cur.toList.take (off*sz)++news.take (len*sz)++cur.toList.drop (off*sz+(news.take (len*sz)).length)).toArray).ownsRow w0.heap.size r.e r.size (c.β id) (r.els.take off++l.take len++r.els.drop (off+min l.length len)).length
     (xs.take (off*sz)++news.take (len*sz)++xs.drop (off*sz+(news.take (len*sz)).length)):=by
    have KP:(r.els.take off++l.take len++r.els.drop (off+min l.length len)).length=r.els.length:=by simp;omega
    have hxl:xs.length=r.els.length*sz:=by rw [gQ.1,mV]
    rw [hβ,KP]
    refine⟨?_, .inr ⟨g,iB,_,rfl,QT,setRow_heap _ g cur _ r.e _ hg,KJ,hcm,?_,?_⟩⟩
    ·rw [mV,List.length_append,List.length_append,QZ,List.length_take,List.length_drop];omega
    ·rw [mV,List.size_toArray,List.length_append,List.length_append,QZ,List.length_take,List.length_drop,Array.length_toList];omega
    ·rw [mV,←F9]
     have arI:cur.toList.length=iB*sz:=by simp [KL]
     simp only
     rw [List.take_append,List.take_append]
     have e1:List.take (r.els.length*sz) (cur.toList.take (off*sz))=cur.toList.take (off*sz):=by rw [List.take_take,Nat.min_eq_right (by omega)]
     have e2:List.take (off*sz) (cur.toList.take (r.els.length*sz))=cur.toList.take (off*sz):=by rw [List.take_take,Nat.min_eq_left (by omega)]
     rw [e1,e2]
     have e3:(cur.toList.take (off*sz)).length=off*sz:=by rw [List.length_take];omega
     have e4:List.take (r.els.length*sz-off*sz) (news.take (len*sz))=news.take (len*sz):=List.take_of_length_le (by rw [QZ];omega)
     rw [e3,e4]
     congr 1
     rw [List.length_append,e3,List.drop_take]
   have sI:c.w.grownBy (c.w.setRow g (cur.toList.take (off*sz)++news.take (len*sz)++cur.toList.drop (off*sz+(news.take (len*sz)).length)).toArray) (c.β id).ownBlock:=by
    rw [hβ]
    exact⟨rfl,rfl,rfl,by simp,fun k _ hk=>setRow_other _ g k _ (fun e=>hk (by simp [Value.ownBlock,e]))⟩
   obtain⟨tV,hA⟩:=hI.dH (r':={ r with els:=r.els.take off++l.take len++r.els.drop (off+min l.length len) }) xS sI UT (by
    show a9 (aN c) (r.els.take off++l.take len++r.els.drop (off+min l.length len)).flatten _
    rw [List.flatten_append,List.flatten_append,(mE N8 off).1,(mE hl1 len).1,(mE N8 _).2,Nat.add_mul,adO,←QZ]
    exact((fH.take _).append (g2.take _)).append (fH.drop _)) (by
    intro y' JX
    simp only [List.mem_append]at JX
    rcases JX with (JX | JX) | JX
    ·exact iZ y' (List.mem_of_mem_take JX)
    ·exact g3 y' (List.mem_of_mem_take JX)
    ·exact iZ y' (List.mem_of_mem_drop JX)) (by
    intro e' pL
    simp only [List.mem_append]at pL
    rw [mV]
    rcases pL with (pL | pL) | pL
    ·exact N8 e' (List.mem_of_mem_take pL)
    ·exact hl1 e' (List.mem_of_mem_take pL)
    ·exact N8 e' (List.mem_of_mem_drop pL)) rfl rfl (by simp;omega)
   refine⟨goInt (Nat.min l.length len:Nat),_,?_,?_,?_,hA,tV,?_⟩
   ·rw [hvx,hvy];exact iC
   ·rfl
   ·rfl
   ·refine bV.2 ?_
    rw [←adO]
    simp only [goInt]
    congr 1
    omega
 ·exact h.elim
theorem GF{o:Oper}{a:Act}{f:Nat→PV}(hI:Inv w0 S0 c)(hf:∀s,aH c (f s) (a.tmps.getD s undef)){v:PV}{u:Option (Nat × Row)}(h:ys E o.op (aO f) c.rows v u)
  {K:Act→World→Prop} {Q:Exit→Act→World→Prop}
  (hK:∀v' c',c'.rows=dQ c.rows u→c'.used=c.used→qE c c'→Inv w0 S0 c'→aH c' v v'→K (a.put o.dst v') c'.w):o.wp E.P a c.w K Q:=by
 have hρ:=kC hf
 have plain:yv E o.op (aO f) c.rows v∧u=none→o.wp E.P a c.w K Q:=by
  rintro⟨hv,rfl⟩
  obtain⟨v',h1,h2⟩:=afS hI hf hv
  unfold Oper.wp
  rw [h1]
  exact hK v' c rfl rfl (qE.refl c) hI h2
 obtain⟨dst,op,type,pos,after,guard⟩:=o
 simp only at h hK plain
 unfold ys at h
 split at h
 ·rename_i x y t t2
  obtain⟨v',c',h1,h2,h3,h4,h5,h6⟩:=QY (t2:=t2) (type:=type) hI (hρ x) (hρ y) h
  unfold Oper.wp
  have:(execOp a.eval { dst:=dst,op:=.call { callee:=.builtin .copy,args:=⟨[x,y]⟩,argTypes:=⟨[t,t2]⟩ },type:=type,pos:=pos,after:=after,guard:=guard }).run E.P c.w = .ok (.value v') c'.w:=by
   simp only [execOp,resolve,invoke,builtin,Sem.run_bind,Sem.run_pure,Result.andThen_ok,List.map_toArray,List.map_cons,List.map_nil,h1]
  rw [this]
  exact hK v' c' h2 h3 h4 h5 h6
 ·rename_i t p x
  obtain⟨rfl,w',h1,h2,h3⟩:=KS hI (hρ p) (hρ x) h
  unfold Oper.wp
  have:(execOp a.eval { dst:=dst,op:=.store t p x,type:=type,pos:=pos,after:=after,guard:=guard }).run E.P c.w = .ok .skip w':=by simp [execOp,h1]
  rw [this]
  exact hK undef { c with w:=w',rows:=dQ c.rows u } rfl rfl h3 h2 (by simp [aH,aN])
 ·rename_i t len parts
  obtain⟨h,rfl⟩:=h
  unfold KQ at h
  split at h
  ·rename_i e n bb z hE
   obtain⟨els,h1,h2,h3,h4,h5,h6,rfl⟩:=h
   obtain⟨v',c',g1,g2,g3,g4,g5,g6⟩:=xR hI hE hρ h1 h2 h3 h4 h5 h6
   unfold Oper.wp
   have:(execOp a.eval { dst:=dst,op:=.buildSlice t len parts,type:=type,pos:=pos,after:=after,guard:=guard }).run E.P c.w = .ok (.value v') c'.w:=by
    simp only [execOp,Sem.run_bind,g1,Result.andThen_ok,Sem.run_pure]
   rw [this]
   exact hK v' c' g2 g3 g5 g4 g6
  ·exact h.elim
 ·rename_i fo args ts
  obtain⟨rfl,hc,rC⟩:=h
  have eX:a9 (aH c) (args.toList.map fun x=>aO f x) (args.map a.eval).toList:=by
   refine a9.dA (by simp) fun k p u hp hu=>?_
   simp at hp hu
   obtain⟨x,hx,rfl⟩:=hp
   obtain⟨y,hy,rfl⟩:=hu
   rw [hx]at hy;cases hy
   exact hρ x
  have hc':u9 E (aO f fo) ((args.toList.map fun x=>aO f x).map (pz c.rows)) v:=by rw [List.map_map];exact hc
  obtain⟨g,cs,h1,h2,h3⟩:=vA hI (ids:=[]) (by simp) (hρ fo) eX (by
   intro p hp id fI
   simp at hp
   obtain⟨x,hx,rfl⟩:=hp
   have:id∈args.toList.flatMap fun x=>dG (aO f x):=by simp only [List.mem_flatMap];exact⟨x,by simpa using hx,fI⟩
   rw [rC]at this;exact this) hc' (K:=fun v' w'=>K (a.put dst v') w') (fun v' c' q1 q2 q3 q4 q5=>hK v' c' (by rw [q1];funext j;simp [AN,dQ]) q2 q3 q4 q5)
  unfold Oper.wp
  have iC:(execOp a.eval { dst:=dst,op:=.call { callee:=.value fo,args:=args,argTypes:=ts },type:=type,pos:=pos,after:=after,guard:=guard }).run E.P c.w = .ok (.enter g (args.map a.eval++cs)) c.w:=by
   simp only [execOp,resolve,h1,Deferred.ofValue,Sem.run_bind,Sem.run_pure,Result.andThen_ok,invoke]
   simp only [Array.toArray_toList]at h2
   simpa only [Array.empty_append]using h2
  rw [iC]
  simp only [Array.toArray_toList]at h3
  exact h3.mono fun e w' ⟨v',he,hk⟩=>by subst he;exact hk
 ·exact plain h
end
def room:Nat:=140737488355328
def dS(rows:Rows)(ids:List Nat):Prop:=∀id∈ids,∀r,rows id=some r → ∀e∈r.els,∀p∈e,bU p=true
def DK(K:PS→Prop)(σ:PS)(d:Option Tmp)(v:PV)(id:Nat)(e:TypeId)(n:Nat)(els:List (List PV)):Prop:=
 K ⟨put σ.f d v,dH σ.rows id (some ⟨σ.clock,e,n,els⟩),σ.clock+1⟩
def DL(E:Env)(o:Oper)(t:TypeId)(x y:PV)(K:PS→Prop)(σ:PS):Prop:=
 match E.ty t with
 | .slice e n b _ =>
  ∃l,qG σ.rows y l∧(∀e∈l,e.length=n) ∧
  match x with
  | .nil=>l.length≤room∧l.length*b≤room∧DK K σ o.dst (.own (o.dst.getD 0) σ.clock 0 l.length) (o.dst.getD 0) e n l
  | .own id ver off len=>∃r,σ.rows id=some r∧r.ver=ver∧off=0∧len≤r.els.length∧r.e=e∧r.size=n∧len+l.length≤room∧(len+l.length)*b≤room ∧
    DK K σ o.dst (.own id σ.clock 0 (len+l.length)) id e n (r.els.take len++l)
  | .gU l0=>(∀e∈l0,e.length=n)∧(∀e∈l,∀p∈e,bU p=true)∧l0.length+l.length≤room∧(l0.length+l.length)*b≤room∧K (σ.put o.dst (.sl (l0++l)))
  | _=>False
 | _=>False
def BP(K:Nat→(Nat→PV)→Rows→Prop)(ver:Nat)(f:Nat→PV)(rows:Rows)(d:Option Tmp)(v:PV)(id:Nat)(e:TypeId)(n:Nat)(els:List (List PV)):Prop:=
 K 1 (put f d v) (dH rows id (some ⟨ver,e,n,els⟩))
def mF(E:Env)(ver:Nat)(o:Oper)(t:TypeId)(x y:PV)(K:Nat→(Nat→PV)→Rows→Prop)(f:Nat→PV)(rows:Rows):Prop:=
 match E.ty t with
 | .slice e n b _ =>
  ∃l,qG rows y l∧(∀e∈l,e.length=n) ∧
  match x with
  | .nil=>l.length≤room∧l.length*b≤room∧BP K ver f rows o.dst (.own (o.dst.getD 0) ver 0 l.length) (o.dst.getD 0) e n l
  | .own id alJ off len=>∃r,rows id=some r∧r.ver=alJ∧off=0∧len≤r.els.length∧r.e=e∧r.size=n∧len+l.length≤room∧(len+l.length)*b≤room ∧
    BP K ver f rows o.dst (.own id ver 0 (len+l.length)) id e n (r.els.take len++l)
  | .gU l0=>(∀e∈l0,e.length=n)∧(∀e∈l,∀p∈e,bU p=true)∧l0.length+l.length≤room∧(l0.length+l.length)*b≤room∧K 0 (put f o.dst (.sl (l0++l))) rows
  | _=>False
 | _=>False
def UY:TI→Bool
 | .slice .. => true
 | _=>false
def dZ(E:Env)(o:Oper)(K:PS→Prop)(σ:PS):Prop:=
 match o.op with
 | .alloc t=>(E.ty t).known=true∧DK K σ o.dst (.ptr (o.dst.getD 0) σ.clock 0 0) (o.dst.getD 0) t (E.ty t).size [(E.ty t).zero]
 | .box t x=>(E.ty t).known=true ∧ ∃l,bS (aO σ.f x)=some l∧(∀q∈l,gR σ.rows q)∧l.length=(E.ty t).size∧DK K σ o.dst (.ptr (o.dst.getD 0) σ.clock 0 0) (o.dst.getD 0) t (E.ty t).size [l]
 | .makeSlice t l c =>
  match E.ty t,aO σ.f l,aO σ.f c with
  | .slice e n b z, .int _ x, .int _ y=>0≤x∧x≤y∧y.toNat≤room∧y.toNat*b≤room∧DK K σ o.dst (.own (o.dst.getD 0) σ.clock 0 x.toNat) (o.dst.getD 0) e n (List.replicate x.toNat z)
  | _,_,_=>False
 | .call { callee:=.builtin .append,args:=⟨[x,y]⟩,argTypes:=⟨[t,t2]⟩ }=>(t2=t∨UY (E.ty t2)=true)∧DL E o t (aO σ.f x) (aO σ.f y) K σ
 | .call { callee:=.value f,args:=args,argTypes:=_ }=>if afU E (aO σ.f f)=true then KR E (aO σ.f f) (args.toList.map (aO σ.f)) σ.rows σ.clock (fun v rows clk=>K ⟨put σ.f o.dst v,rows,clk⟩)
   else ∃v,u9 E (aO σ.f f) (args.toList.map fun x=>pz σ.rows (aO σ.f x)) v∧dS σ.rows (args.toList.flatMap fun x=>dG (aO σ.f x)) ∧
   K ⟨put σ.f o.dst v,AN σ.rows (args.toList.flatMap fun x=>dG (aO σ.f x)),σ.clock⟩
 | .makeFunc (.func f) ⟨[]⟩ cB=>(cB.toList.map fun x=>pz σ.rows (aO σ.f x)).all fA=true∧dS σ.rows (cB.toList.flatMap fun x=>dG (aO σ.f x)) ∧
   K ⟨put σ.f o.dst (.fn f (cB.toList.map fun x=>pz σ.rows (aO σ.f x))),AN σ.rows (cB.toList.flatMap fun x=>dG (aO σ.f x)),σ.clock⟩
 | _=>∃v u,ys E o.op (aO σ.f) σ.rows v u∧K ⟨put σ.f o.dst v,dQ σ.rows u,σ.clock⟩
def l5(E:Env)(ver:Nat)(o:Oper)(K:Nat→(Nat→PV)→Rows→Prop)(f:Nat→PV)(rows:Rows):Prop:=
 match o.op with
 | .alloc t=>(E.ty t).known=true∧BP K ver f rows o.dst (.ptr (o.dst.getD 0) ver 0 0) (o.dst.getD 0) t (E.ty t).size [(E.ty t).zero]
 | .box t x=>(E.ty t).known=true ∧ ∃l,bS (aO f x)=some l∧(∀q∈l,gR rows q)∧l.length=(E.ty t).size∧BP K ver f rows o.dst (.ptr (o.dst.getD 0) ver 0 0) (o.dst.getD 0) t (E.ty t).size [l]
 | .makeSlice t l c =>
  match E.ty t,aO f l,aO f c with
  | .slice e n b z, .int _ x, .int _ y=>0≤x∧x≤y∧y.toNat≤room∧y.toNat*b≤room∧BP K ver f rows o.dst (.own (o.dst.getD 0) ver 0 x.toNat) (o.dst.getD 0) e n (List.replicate x.toNat z)
  | _,_,_=>False
 | .call { callee:=.builtin .append,args:=⟨[x,y]⟩,argTypes:=⟨[t,t2]⟩ }=>(t2=t∨UY (E.ty t2)=true)∧mF E ver o t (aO f x) (aO f y) K f rows
 | _=>False
theorem sK{n:Nat}(h:n≤room):n≤maxLen:=by unfold room at h;simp only [maxLen];omega
theorem jG{α:Type}{z:List α}:∀ {x k:Nat} {a:α},(List.replicate x z).flatten[k]? = some a→z[k%z.length]? = some a
 | 0,k,a,h=>by simp at h
 | x+1,k,a,h=>by
  rw [List.replicate_succ,List.flatten_cons]at h
  rcases Nat.lt_or_ge k z.length with hk | hk
  ·rw [List.getElem?_append_left hk]at h
   rw [Nat.mod_eq_of_lt hk];exact h
  ·rw [List.getElem?_append_right hk]at h
   have:=jG h
   rw [←Nat.mod_eq_sub_mod hk]at this;exact this
section
variable {E:Env} {c:Cx} {w0:World} {S0:dF}
theorem uD(hI:Inv w0 S0 c){ver:Nat}(N9:¬c.used ver)(id:Nat)(e:TypeId)(size n cap:Nat)(els:List (List PV))(cells:Array Value)(hn:els.length=n)(KJ:n≤cap)(hcm:cap≤maxLen)(mV:cells.size=cap*size)
  (fH:a9 (aN c) els.flatten (cells.toList.take (n*size))) (iZ:∀u∈cells.toList,u.oneCell'=true) (hlen:∀e∈els,e.length=size) (gZ:0<size) :
  Inv w0 S0 { c with w:=c.w.alloc (.cells cells e),β:=dH c.β id (.slice (some ⟨c.w.heap.size,0,none⟩) n cap),rows:=dH c.rows id (some ⟨ver,e,size,els⟩),used:=fun v=>v=ver∨c.used v } ∧
  qE c { c with w:=c.w.alloc (.cells cells e),β:=dH c.β id (.slice (some ⟨c.w.heap.size,0,none⟩) n cap),rows:=dH c.rows id (some ⟨ver,e,size,els⟩),used:=fun v=>v=ver∨c.used v }:=by
 refine hI.set (ob:=none) (r':=⟨ver,e,size,els⟩) (xs:=cells.toList.take (n*size)) (World.grownBy_alloc c.w _ none) (by simp) ?_ fH (fun x hx=>iZ x (List.mem_of_mem_take hx)) hlen gZ ?_ N9
 ·have hle:n*size≤cap*size:=Nat.mul_le_mul_right _ KJ
  refine⟨by simp [hn];omega, .inr ⟨c.w.heap.size,cap,cells,by simp [hn],hI.below.size,heap_alloc_new c.w _,by simp [hn];exact KJ,hcm,mV,by simp [hn]⟩⟩
 ·intro g hg
  simp [Value.ownBlock]at hg
  exact .inr (by omega)
theorem UZ{t:TypeId}{n:Nat}{z:List PV}(h:j7 E.P t n z):∃i v,E.P.info? t=some i∧i.zero=some v∧i.size=n∧a9 (aN c) z v.cells.toList∧v.cells.size=n ∧ ∀u∈v.cells.toList,u.oneCell'=true:=by
 obtain⟨i,v,h1,h2,h3,h4,h5⟩:=h.ok
 have hl:v.cells.size=n:=by rw [←h.len,←h4];simp
 refine⟨i,v,h1,h2,h3,?_,hl,fun u hu=>(Array.all_eq_true_iff_forall_mem.1 h5) u (by simpa using hu)⟩
 rw [←h4]
 refine a9.dA (by simp) fun k a b ha hb=>?_
 simp at ha
 obtain⟨u,hu,rfl⟩:=ha
 have:v.cells.toList[k]? = some u:=by simpa using hu
 rw [this]at hb;cases hb
 exact jI _
theorem jY{c':Cx}{id ver n:Nat}{r:Row}(hr:c'.rows id=some r)(hn:r.els.length=n)(hc:c'.used ver){A:Option Addr}{cap:Nat}(hβ:c'.β id = .slice A n cap):aH c' (.own id ver 0 n) (.slice A n cap):=by
 simp only [aH,aN]
 refine⟨hc,fun r' jW _=>?_⟩
 rw [hr]at jW;cases jW
 exact⟨by omega, .inl ⟨by first | rfl | trivial,A,n,cap,hβ,rfl⟩⟩
theorem U0{c':Cx}{id ver:Nat}(hc:c'.used ver){g n cap:Nat}(hβ:c'.β id = .slice (some ⟨g,0,none⟩) n cap):aH c' (.ptr id ver 0 0) (.pointer (some ⟨g,0,none⟩)):=by
 simp only [aH,aN]
 exact⟨hc,fun r' _ _=>⟨g,n,cap,hβ,by simp⟩⟩
theorem qR{z:Array Value}{N k:Nat}(hk:k<N)(hz:0<z.size):(madeCells z N).toList[k]? = z.toList[k%z.size]? := by
 have hm:k%z.size<z.size:=Nat.mod_lt _ hz
 simp [madeCells,hk,hm]
variable {n:Nat} {G:Gs}
theorem oJ{U:Nat→Prop}{ver:Nat}{f:Nat→PV}{rows:Rows}{a:Act}(hr:c.rows=rows)(eY:∀v,c.used v→U v)(hf:∀s,aH c (f s) (a.tmps.getD s undef))(hG:∀p∈G,aH c p.1 p.2)(hn:a.tmps.size=n)(eQ:a.defers = [])
  {K:(Nat→PV)→Rows→Prop} {d:Option Tmp} {v:PV} {id:Nat} {e:TypeId} {sz:Nat} {els:List (List PV)} (h:K (put f d v) (dH rows id (some ⟨ver,e,sz,els⟩))) {v':Value} {w':World} {b':Value}
  (hI:Inv w0 S0 { c with w:=w',β:=dH c.β id b',rows:=dH c.rows id (some ⟨ver,e,sz,els⟩),used:=fun v=>v=ver∨c.used v })
  (hA:qE c { c with w:=w',β:=dH c.β id b',rows:=dH c.rows id (some ⟨ver,e,sz,els⟩),used:=fun v=>v=ver∨c.used v })
  (hv:aH { c with w:=w',β:=dH c.β id b',rows:=dH c.rows id (some ⟨ver,e,sz,els⟩),used:=fun v=>v=ver∨c.used v } v v') (hd:∀t,d=some t→t<n) :
  ∃f' rows',K f' rows'∧mZ w0 S0 n G (fun v=>v=ver∨U v) f' rows' (a.put d v') w':=by
 refine⟨_,_,h,?_⟩
 have:=mD (U:=fun v=>v=ver∨U v) (f':=put f d v) (rows:=dH rows id (some ⟨ver,e,sz,els⟩)) hf hG hn eQ hA hI hv hd rfl (by simp [hr]) (fun v hv=>hv.imp (fun h=>h) (eY v))
 exact this
theorem KX(hI:Inv w0 S0 c){w':World}(hg:c.w.grownBy w' none){e:TypeId}{sz:Nat}{v':Value}{els:List (List PV)}{xs:List Value}(gQ:w'.ownsRow c.w.heap.size e sz v' els.length xs)
  (fH:a9 (cN c.S c.w) els.flatten xs) (iZ:∀u∈xs,u.oneCell'=true) (hlen:∀e∈els,e.length=sz) :
  ∃c',c'.w=w'∧c'.rows=c.rows∧c'.used=c.used∧Inv w0 S0 c'∧qE c c'∧aH c' (.sl els) v':=by
 have hb:Below c.w.heap.size c.w w':=⟨hg.os,hg.tape,hg.output,hg.size,fun k hk=>hg.block k hk (by simp)⟩
 obtain⟨tV,hA⟩:=hI.grow (S':=fun b o=>c.S b o∨(c.w.heap.size≤b∧b<w'.heap.size)) hb (fun _ _ h => .inl h) (fun _ _ h=>h)
 refine⟨{ c with S:=fun b o=>c.S b o∨(c.w.heap.size≤b∧b<w'.heap.size),w:=w' },rfl,rfl,rfl,tV,hA,?_⟩
 simp only [aH,aN,cN]
 rcases gQ.2 with ⟨rfl,h0⟩ | ⟨g,cap,cur,rfl,QT,hh,KJ,hcm,KL,F9⟩
 ·exact⟨none,0,by rw [h0],by omega,by simp [maxLen], .inl (List.eq_nil_of_length_eq_zero h0)⟩
 ·refine⟨_,cap,rfl,KJ,hcm, .inr ⟨g,0,rfl,mC hlen fun k el hk=>iK fun j p hj=>?_⟩⟩
  have hf:=iL hlen hk hj
  obtain⟨u,hu,hr⟩:=fH.get hf
  have fS:g<w'.heap.size:=(Array.getElem?_eq_some_iff.1 hh).1
  have BM:=gQ.cells (g:=g) rfl (k*sz+j) u hu
  rw [gP]at BM
  refine⟨u,?_, .inr ⟨QT,fS⟩,iZ u (List.mem_of_getElem? hu),cN.mono hA.S hA.w _ _ hr⟩
  rw [show 0+k*sz+j=0+(k*sz+j)by omega];exact BM
theorem U1{w:World}{base e sz n k:Nat}{A:Option Addr}{cap:Nat}{xs:List Value}(h:w.ownsRow base e sz (.slice A n cap) n xs)(hk:k≤n):w.ownsRow base e sz (.slice A k cap) k (xs.take (k*sz)):=by
 have hle:k*sz≤n*sz:=Nat.mul_le_mul_right _ hk
 refine⟨by rw [List.length_take,h.1];omega,?_⟩
 rcases h.2 with ⟨h1,h2⟩ | ⟨g,iB,cur,h1,h2,h3,h4,h5,h6,h7⟩
 ·simp only [Value.slice.injEq]at h1
  obtain⟨rfl,_,rfl⟩:=h1
  have sL:k=0:=by omega
  subst sL
  exact .inl ⟨rfl,rfl⟩
 ·simp only [Value.slice.injEq]at h1
  obtain⟨rfl,_,rfl⟩:=h1
  refine .inr ⟨g,cap,cur,rfl,h2,h3,by omega,h5,h6,?_⟩
  rw [←h7,List.take_take,Nat.min_eq_left hle]
theorem Q0{P:Program}{w:World}{t t2 ty:TypeId}{e e2:TypeId}{x y:Value}(hu:P.underlying t=some (.slice e))(hu2:P.underlying t2=some (.slice e2)) :
  (Builtin.append_ #[t,t2] ty #[x,y]).run P w=(Builtin.append_ #[t,t] ty #[x,y]).run P w:=by
 unfold Builtin.append_
 simp only [List.getElem?_toArray,List.getElem?_cons_zero,List.getElem?_cons_succ,Sem.run_bind,run_underlying hu,Result.andThen_ok]
 cases x<;>simp [run_underlying hu,run_underlying hu2]
theorem aa4{E:Env}{t2:TypeId}(h:UY (E.ty t2)=true):∃e,E.P.underlying t2=some (.slice e):=by
 cases hE:E.ty t2 with
 | slice e n b z=>exact⟨e,(eN hE).1⟩
 | _=>rw [hE]at h;cases h
theorem xT{U:Nat→Prop}{ver:Nat}(N9:¬U ver){o:Oper}{a:Act}{f:Nat→PV}{rows:Rows}{x y:Operand}{t t2:TypeId}(hop:o.op = .call { callee:=.builtin .append,args:=⟨[x,y]⟩,argTypes:=⟨[t,t2]⟩ })(ht2:t2=t∨UY (E.ty t2)=true)
  (hI:Inv w0 S0 c) (hr:c.rows=rows) (eY:∀v,c.used v→U v) (hf:∀s,aH c (f s) (a.tmps.getD s undef)) (hG:∀p∈G,aH c p.1 p.2) (hn:a.tmps.size=n) (eQ:a.defers = [])
  (hd:∀t,o.dst=some t→t<n) {K:Nat→(Nat→PV)→Rows→Prop} (h:mF E ver o t (aO f x) (aO f y) K f rows) {K':Act→World→Prop} {Q:Exit→Act→World→Prop} (hK:∀i f' rows' a' w',K i f' rows'→mZ w0 S0 n G (fun v=>(i=1∧v=ver)∨U v) f' rows' a' w'→K' a' w'):o.wp E.P a c.w K' Q:=by
 have hρ:=kC hf
 have run:∀ {v':Value} {w':World},(Builtin.append_ #[t,t] o.type #[a.eval x,a.eval y]).run E.P c.w = .ok v' w'→K' (a.put o.dst v') w'→o.wp E.P a c.w K' Q:=by
  intro v' w' h1 h2
  unfold Oper.wp
  have QU:(Builtin.append_ #[t,t2] o.type #[a.eval x,a.eval y]).run E.P c.w = .ok v' w':=by
   rcases ht2 with rfl | ht2
   ·exact h1
   ·obtain⟨e2,hu2⟩:=aa4 ht2
    have hsl:∃e,E.P.underlying t=some (.slice e):=by
     unfold mF at h
     split at h
     ·rename_i e n b z hE;exact⟨e,(eN hE).1⟩
     ·exact h.elim
    obtain⟨e,hu⟩:=hsl
    rw [Q0 hu hu2];exact h1
  have:(execOp a.eval o).run E.P c.w = .ok (.value v') w':=by
   simp only [execOp,hop,resolve,invoke,builtin,Sem.run_bind,Sem.run_pure,Result.andThen_ok,List.map_toArray,List.map_cons,List.map_nil,QU]
  rw [this]
  exact h2
 unfold mF at h
 split at h
 ·rename_i e sz b z hE
  obtain⟨l,hl,hlen,h⟩:=h
  obtain⟨hu,gZ,DH,i,zv,hi,hz,hs,hby,KN,_⟩:=eN hE
  have AF:zv.cells.size=sz:=by rw [←DH,←KN];simp
  rw [←hr]at hl
  obtain⟨A,cap,news,hvy,g1,g2,g3,g4,g5⟩:=rE hI (hρ y) hl hlen
  have main:∀(vx:Value) (k:Nat) (xs:List Value),c.w.ownsRow w0.heap.size e sz vx k xs→a.eval x=vx→k+l.length≤room→(k+l.length)*b≤room →
    ∃v' w',(Builtin.append_ #[t,t] o.type #[a.eval x,a.eval y]).run E.P c.w = .ok v' w'∧w'.ownsRow w0.heap.size e sz v' (k+l.length) (xs++news)∧c.w.grownBy w' vx.ownBlock∧(v'.ownBlock=vx.ownBlock∨v'.ownBlock=some c.w.heap.size):=by
   intro vx k xs gQ hvx KY AP
   rw [hvx,hvy]
   cases A with
   | some ad =>
    obtain⟨v',w',q1,q2,q3,_,q5⟩:=run_append_own_at (P:=E.P) c.w w0.heap.size t o.type e i zv sz b hu hi hz hs hby AF gZ vx k xs gQ ad l.length cap news g1 (g5 ad rfl) g3 (sK KY) (by simpa [room]using AP) hI.below.size
    exact⟨v',w',q1,q2,q3,q5⟩
   | none =>
    have GB:=g4 rfl
    subst GB
    have UX:news = []:=List.eq_nil_of_length_eq_zero (by simpa using g1)
    subst UX
    refine⟨vx,c.w,?_,by simpa using gQ,⟨rfl,rfl,rfl,Nat.le_refl _,fun _ _ _=>rfl⟩, .inl rfl⟩
    rcases gQ.2 with ⟨rfl,rfl⟩ | ⟨g,iB,cur,rfl,_,_,KJ,_⟩
    ·simp [Builtin.append_,run_underlying hu,Go.sizeOf,typeInfo,hi,Builtin.lenOf,Builtin.firstCells]
    ·simp [Builtin.append_,run_underlying hu,Go.sizeOf,typeInfo,hi,Builtin.lenOf,Builtin.firstCells,KJ,storeCells]
  split at h
  ·-- alK nil
   rename_i heq
   obtain⟨KY,AP,h⟩:=h
   have hx:=hρ x
   rw [heq]at hx
   simp only [aH,aN,cN]at hx
   obtain⟨v',w',q1,q2,q3,q4⟩:=main (.slice none 0 0) 0 [] (World.ownsRow_nil _ _ _ _) hx (by simpa using KY) (by simpa using AP)
   simp only [Nat.zero_add,List.nil_append]at q2
   obtain⟨tV,hA⟩:=hI.set (ob:=none) (id:=o.dst.getD 0) (r':=⟨ver,e,sz,l⟩) (xs:=news) q3 (by simp) q2 g2 g3 hlen gZ (by
    intro g hg
    rcases q4 with q4 | q4
    ·rw [q4]at hg;simp [Value.ownBlock]at hg
    ·rw [q4]at hg;cases hg;exact .inr (Nat.le_refl _)) (fun hu=>N9 (eY _ hu))
   have hv:aH { c with w:=w',β:=dH c.β (o.dst.getD 0) v',rows:=dH c.rows (o.dst.getD 0) (some ⟨ver,e,sz,l⟩),used:=fun v=>v=ver∨c.used v } (.own (o.dst.getD 0) ver 0 l.length) v':=by
    have U2:∃A' iB,v' = .slice A' l.length iB:=by
     rcases q2.2 with ⟨rfl,h0⟩ | ⟨g,iB,cur,rfl,_⟩
     ·exact⟨none,0,by rw [h0]⟩
     ·exact⟨_,iB,rfl⟩
    obtain⟨A',iB,rfl⟩:=U2
    exact jY (r:=⟨ver,e,sz,l⟩) (by simp [dH]) rfl (Or.inl rfl) (by simp [dH])
   obtain⟨f',rows',hk,xU⟩:=oJ (K:=K 1) hr eY hf hG hn eQ h tV hA hv hd
   exact run q1 (hK 1 f' rows' _ _ hk (xU.mono fun v hv=>hv.imp (fun h=>⟨rfl,h⟩) fun h=>h))
  ·-- alK a row of its own
   rename_i id alJ off len heq
   obtain⟨r,xS,jF,rfl,hle,he,mV,KY,AP,h⟩:=h
   rw [←hr]at xS
   have hx:=hρ x
   rw [heq]at hx
   simp only [aH,aN]at hx
   obtain⟨⟨xs,gQ,fH,iZ⟩,sJ,hnS,_⟩:=hI.row id r xS
   obtain⟨A0,m0,alL,hβ,hxv⟩:∃A' m iB,c.β id = .slice A' m iB∧a.eval x = .slice A' len iB:=by
    rcases(hx.2 r xS jF).2 with ⟨_,h⟩ | ⟨h0,_⟩
    ·exact h
    ·omega
   have hm:m0=r.els.length:=by
    rw [hβ]at gQ
    rcases gQ.2 with ⟨h',h0⟩ | ⟨g,alI,cur,h',_⟩
    ·simp at h';omega
    ·simp at h';exact h'.2.1
   subst hm
   have T7:(c.β id).ownBlock=(Value.slice A0 len alL).ownBlock:=by rw [hβ];cases A0<;>rfl
   have hbg:=gQ.lt
   rw [he,mV,hβ]at gQ
   obtain⟨v',w',q1,q2,q3,q4⟩:=main (.slice A0 len alL) len (xs.take (len*sz)) (U1 gQ hle) hxv KY AP
   rw [←T7]at q3 q4
   have U3:∀e∈r.els,e.length=sz:=fun e pL=>by rw [sJ e pL,mV]
   have KP:(r.els.take len++l).length=len+l.length:=by rw [List.length_append,List.length_take,Nat.min_eq_left hle]
   obtain⟨tV,hA⟩:=hI.set (ob:=(c.β id).ownBlock) (id:=id) (r':=⟨ver,e,sz,r.els.take len++l⟩) (xs:=xs.take (len*sz)++news) q3 (by
    intro g hg
    refine⟨(hbg g hg).1,fun o=>hnS g o hg,fun gX r' jW qF hb=>qF (hI.apart gX id r' r g jW xS hb hg)⟩) (by simpa only [KP]using q2) (by
     show a9 (aN c) (r.els.take len++l).flatten _
     rw [List.flatten_append,(mE U3 len).1];exact(fH.take _).append g2) (by
     intro u hu
     rcases List.mem_append.1 hu with hu | hu
     ·exact iZ u (List.mem_of_mem_take hu)
     ·exact g3 u hu) (by
     intro e' pL
     rcases List.mem_append.1 pL with pL | pL
     ·exact U3 e' (List.mem_of_mem_take pL)
     ·exact hlen e' pL) gZ (by
     intro g hg
     rcases q4 with q4 | q4
     ·exact .inl (by rw [←q4];exact hg)
     ·rw [q4]at hg;cases hg;exact .inr (Nat.le_refl _)) (fun hu=>N9 (eY _ hu))
   have hv:aH { c with w:=w',β:=dH c.β id v',rows:=dH c.rows id (some ⟨ver,e,sz,r.els.take len++l⟩),used:=fun v=>v=ver∨c.used v } (.own id ver 0 (len+l.length)) v':=by
    have U2:∃A' iB,v' = .slice A' (len+l.length) iB:=by
     rcases q2.2 with ⟨rfl,h0⟩ | ⟨g,iB,cur,rfl,_⟩
     ·exact⟨none,0,by rw [h0]⟩
     ·exact⟨_,iB,rfl⟩
    obtain⟨A',iB,rfl⟩:=U2
    exact jY (r:=⟨ver,e,sz,r.els.take len++l⟩) (by simp [dH]) KP (Or.inl rfl) (by simp [dH])
   obtain⟨f',rows',hk,xU⟩:=oJ (K:=K 1) hr eY hf hG hn eQ h tV hA hv hd
   exact run q1 (hK 1 f' rows' _ _ hk (xU.mono fun v hv=>hv.imp (fun h=>⟨rfl,h⟩) fun h=>h))
  ·-- alK cells that stay,its capacity its length
   rename_i l0 heq
   obtain⟨sJ,hpl,KY,AP,h⟩:=h
   have hx:=hρ x
   rw [heq]at hx
   simp only [aH,aN,cN]at hx
   obtain⟨A0,hA0,JY,U4⟩:=hx
   have fin:∀ {v':Value} {w':World},(Builtin.append_ #[t,t] o.type #[a.eval x,a.eval y]).run E.P c.w = .ok v' w' →
     (∃c',c'.w=w'∧c'.rows=c.rows∧c'.used=c.used∧Inv w0 S0 c'∧qE c c'∧aH c' (.sl (l0++l)) v')→o.wp E.P a c.w K' Q:=by
    rintro v' w' iC ⟨c',rfl,h2,h3,h4,h5,h6⟩
    refine run iC (hK 0 _ _ _ _ h ?_)
    exact mD hf hG hn eQ h5 h4 h6 hd rfl (by rw [h2,hr]) (by rw [h3];exact fun v hv => .inr (eY v hv))
   have aa5:a9 (cN c.S c.w) l.flatten news:=by
    refine a9.dA g2.length fun k p u hp hu=>?_
    obtain⟨u',q1,q2⟩:=g2.get hp
    rw [hu]at q1;cases q1
    have mG:=List.mem_of_getElem? hp
    rw [List.mem_flatten]at mG
    obtain⟨e',pL,tU⟩:=mG
    exact q2.rep (hpl e' pL p tU)
   by_cases GB:l = []
   ·subst GB
    refine fin (v':=.slice A0 l0.length l0.length) (w':=c.w) ?_ ⟨c,rfl,rfl,rfl,hI,qE.refl c,?_⟩
    ·have UX:news = []:=List.eq_nil_of_length_eq_zero (by simpa using g1)
     subst UX
     have hfc:(Builtin.firstCells i.size 0 (.slice A 0 cap)).run E.P c.w = .ok #[] c.w:=by
      cases A with
      | none=>simp [Builtin.firstCells]
      | some ad=>simp [Builtin.firstCells,loadCells,loadCellsFrom]
     rw [hA0,hvy]
     cases A0 with
     | none=>simp [Builtin.append_,run_underlying hu,Go.sizeOf,typeInfo,hi,Builtin.lenOf,hfc]
     | some ad0=>simp [Builtin.append_,run_underlying hu,Go.sizeOf,typeInfo,hi,Builtin.lenOf,hfc,storeCells]
    ·simp only [aH,aN,cN,List.append_nil]
     exact⟨A0,_,rfl,Nat.le_refl _,JY,U4⟩
   ·have alH:0<l.length:=List.length_pos_iff.2 GB
    obtain⟨ad,rfl⟩:∃ad,A=some ad:=by
     cases A with
     | none=>exact absurd (g4 rfl) GB
     | some ad=>exact⟨ad,rfl⟩
    obtain⟨A2,aa3,aa6,hvx,o1,o2,o3,o4,o5⟩:=rE (y:=.gU l0) (vy:=a.eval x) (l:=l0) hI (by simp only [aH,aN,cN];exact⟨A0,hA0,JY,U4⟩) rfl sJ
    rw [hA0]at hvx
    simp only [Value.slice.injEq]at hvx
    obtain⟨rfl,_,rfl⟩:=hvx
    have aa7:a9 (cN c.S c.w) l0.flatten aa6:=by
     refine a9.dA o2.length fun k p u hp hu=>?_
     have mG:=List.mem_of_getElem? hp
     rcases U4 with rfl | ⟨g,oo,rfl,hre⟩
     ·simp at hp
     ·have arP:l0.flatten.length=l0.length*sz:=by rw [o2.length,o1]
      have hk:k<l0.length*sz:=by rw [←arP];exact(List.getElem?_eq_some_iff.1 hp).1
      have hq:k/sz<l0.length:=(Nat.div_lt_iff_lt_mul gZ).2 hk
      have mW:=sJ l0[k/sz] (List.getElem_mem hq)
      have hj:k%sz<l0[k/sz].length:=by rw [mW];exact Nat.mod_lt _ gZ
      have N7:k/sz*sz+k%sz=k:=by rw [Nat.mul_comm];exact Nat.div_add_mod k sz
      have hfg:=iL sJ (List.getElem?_eq_getElem hq) (List.getElem?_eq_getElem hj)
      rw [N7,hp]at hfg
      cases hfg
      obtain⟨u',r1,_,_,r4⟩:=gF (iA hre sJ (List.getElem?_eq_getElem hq)) (List.getElem?_eq_getElem hj)
      have:=o5 _ rfl k u hu
      rw [gP]at this
      rw [show oo+k/sz*sz+k%sz=oo+k by omega,this]at r1
      cases r1;exact r4
    have grow:∃v' w',(Builtin.append_ #[t,t] o.type #[a.eval x,a.eval y]).run E.P c.w = .ok v' w'∧w'.ownsRow c.w.heap.size e sz v' (l0.length+l.length) (aa6++news)∧c.w.grownBy w' none:=by
     rw [hA0,hvy]
     cases A0 with
     | some ad0=>exact run_append_arg_grows (P:=E.P) c.w t o.type e i zv sz b hu hi hz hs hby AF gZ ad0 l0.length l0.length aa6 o1 (o5 ad0 rfl) ad l.length cap news g1 (g5 ad rfl) (by omega) (sK KY) (by simpa [room]using AP)
     | none =>
      have arQ:=o4 rfl
      subst arQ
      have ho0:aa6 = []:=List.eq_nil_of_length_eq_zero (by simpa using o1)
      subst ho0
      obtain⟨v',w',q1,q2,q3,_,q5⟩:=run_append_own_at (P:=E.P) c.w c.w.heap.size t o.type e i zv sz b hu hi hz hs hby AF gZ (.slice none 0 0) 0 [] (World.ownsRow_nil _ _ _ _) ad l.length cap news g1 (g5 ad rfl) g3 (by simpa using sK KY) (by simpa [room]using AP) (Nat.le_refl _)
      exact⟨v',w',q1,by simpa using q2,q3⟩
    obtain⟨v',w',q1,q2,q3⟩:=grow
    refine fin q1 (KX hI q3 (els:=l0++l) (by simpa using q2) (by rw [List.flatten_append];exact aa7.append aa5) (fun u hu=>?_) (fun e' pL=>?_))
    ·rcases List.mem_append.1 hu with hu | hu
     ·exact o3 u hu
     ·exact g3 u hu
    ·rcases List.mem_append.1 pL with pL | pL
     ·exact sJ e' pL
     ·exact hlen e' pL
  ·exact h.elim
 ·exact h.elim
end
section
variable {E:Env} {w0:World} {S0:dF} {n:Nat} {G:Gs}
theorem sM{U:Nat→Prop}{ver:Nat}(N9:¬U ver){o:Oper}{a:Act}{w:World}{f:Nat→PV}{rows:Rows}{K:Nat→(Nat→PV)→Rows→Prop}(h:l5 E ver o K f rows)(hR:mZ w0 S0 n G U f rows a w)(hd:∀t,o.dst=some t→t<n)
  {K':Act→World→Prop} {Q:Exit→Act→World→Prop} (hK:∀i f' rows' a' w',K i f' rows'→mZ w0 S0 n G (fun v=>(i=1∧v=ver)∨U v) f' rows' a' w'→K' a' w'):o.wp E.P a w K' Q:=by
 obtain⟨⟨c,rfl,hr,eY,hI,hf,hG⟩,hn,eQ⟩:=hR
 have hρ:=kC hf
 have hfu:¬c.used ver:=fun hu=>N9 (eY _ hu)
 have value:∀ {v':Value} {w':World},(execOp a.eval o).run E.P c.w = .ok (.value v') w'→K' (a.put o.dst v') w'→o.wp E.P a c.w K' Q:=by
  intro v' w' h1 h2
  unfold Oper.wp
  rw [h1]
  exact h2
 have newVar:∀(t:TypeId) (l:List PV) (vx:Value),(E.ty t).known=true→a9 (aN c) l vx.cells.toList→(∀u∈vx.cells.toList,u.oneCell'=true)→l.length=(E.ty t).size →
   BP K ver f rows o.dst (.ptr (o.dst.getD 0) ver 0 0) (o.dst.getD 0) t (E.ty t).size [l]→(execOp a.eval o).run E.P c.w = .ok (.value (.pointer (some ⟨c.w.heap.size,0,none⟩))) (c.w.alloc (.cells vx.cells t))→o.wp E.P a c.w K' Q:=by
  intro t l vx hk fH iZ hlen hp iC
  have hz:=(E.ok t).zero hk
  have mV:vx.cells.size=(E.ty t).size:=by rw [←hlen,fH.length];simp
  obtain⟨tV,hA⟩:=uD hI hfu (o.dst.getD 0) t (E.ty t).size 1 1 [l] vx.cells rfl (Nat.le_refl _) (by simp [maxLen]) (by omega) (by
   simp only [List.flatten_cons,List.flatten_nil,List.append_nil]
   rw [List.take_of_length_le (by simp [mV])];exact fH) iZ (by simpa using hlen) hz.pos
  obtain⟨f',rows',u4,xU⟩:=oJ (K:=K 1) hr eY hf hG hn eQ hp tV hA (U0 (Or.inl rfl) (g:=c.w.heap.size) (n:=1) (cap:=1) (by simp [dH])) hd
  exact value iC (hK 1 f' rows' _ _ u4 (xU.mono fun v hv=>hv.imp (fun h=>⟨rfl,h⟩) fun h=>h))
 obtain⟨dst,op,type,pos,after,guard⟩:=o
 simp only at hd value newVar
 unfold l5 at h
 simp only at h
 split at h
 ·-- alloc
  rename_i t
  obtain⟨hk,h⟩:=h
  have hz:=(E.ok t).zero hk
  obtain⟨i,zv,h1,h2,h3,h4,h5,h6⟩:=UZ (c:=c) hz
  exact newVar t (E.ty t).zero zv hk h4 h6 rfl h (by simp [execOp,Instr.alloc,zeroValue,typeInfo,h1,h2,Go.newVar,newRow])
 ·-- box
  rename_i t x
  obtain⟨hk,l,hl,iZ,hlen,h⟩:=h
  rw [←hr]at iZ
  obtain⟨g1,g2⟩:=kN (hρ x) hl iZ
  exact newVar t l (a.eval x) hk g1 g2 hlen h (by simp [execOp,Instr.box,Go.newVar,newRow])
 ·-- makeSlice
  rename_i t l cc
  split at h
  ·rename_i e sz b z k1 x k2 y hE hl hc
   obtain⟨h0,vC,KY,AP,h⟩:=h
   obtain⟨hu,gZ,DH,i,zv,hi,hz,hs,hby,KN,hzo⟩:=eN hE
   have g1:=hρ l
   have g2:=hρ cc
   rw [hl,bV]at g1
   rw [hc,bV]at g2
   have AF:zv.cells.size=sz:=by rw [←DH,←KN];simp
   have af5:(i.bytes:Int)*y≤281474976710656:=by
    rw [hby]
    have h3:((y.toNat*b:Nat):Int)≤room:=by exact_mod_cast AP
    have h4:((y.toNat:Nat):Int)=y:=Int.toNat_of_nonneg (by omega)
    rw [Int.natCast_mul,h4]at h3
    simp only [room]at h3
    rw [Int.mul_comm];omega
   have iC:=run_make (P:=E.P) c.w t e i zv hu hi hz k1 k2 x y h0 vC af5 (by simp only [room]at KY;omega)
   have alM:(execOp a.eval { dst:=dst,op:=.makeSlice t l cc,type:=type,pos:=pos,after:=after,guard:=guard }).run E.P c.w = .ok (.value (.slice (some ⟨c.w.heap.size,0,none⟩) x.toNat y.toNat)) (c.w.alloc (.cells (madeCells zv.cells (y.toNat*i.size)) e)):=by
    simp [execOp,g1,g2,iC]
   have alN:a9 (aN c) z zv.cells.toList:=by
    rw [←KN]
    refine a9.dA (by simp) fun k p u hp hu=>?_
    simp at hp
    obtain⟨q,hq,rfl⟩:=hp
    have:zv.cells.toList[k]? = some q:=by simpa using hq
    rw [this]at hu;cases hu
    exact jI _
   have hle:x.toNat*sz≤y.toNat*sz:=Nat.mul_le_mul_right _ (by omega)
   have hL:((madeCells zv.cells (y.toNat*i.size)).toList.take (x.toNat*sz)).length=x.toNat*sz:=by
    rw [List.length_take,Array.length_toList,size_madeCells,hs];exact Nat.min_eq_left hle
   obtain⟨tV,hA⟩:=uD hI hfu (dst.getD 0) e sz x.toNat y.toNat (List.replicate x.toNat z) (madeCells zv.cells (y.toNat*i.size)) (by simp) (by omega) (sK KY) (by rw [size_madeCells,hs]) (by
    refine a9.dA (by rw [hL];simp [DH]) fun k p u hp hu=>?_
    have hk:=(List.getElem?_eq_some_iff.1 hu).1
    rw [hL]at hk
    rw [List.getElem?_take,if_pos (by omega),qR (by rw [hs];omega) (by omega)]at hu
    have tU:=jG hp
    rw [DH,←AF]at tU
    obtain⟨u',q1,q2⟩:=alN.get tU
    rw [hu]at q1;cases q1;exact q2) (by
    intro u hu
    obtain⟨k,hk⟩:=List.getElem?_of_mem hu
    have u4:=(List.getElem?_eq_some_iff.1 hk).1
    simp [size_madeCells]at u4
    rw [qR u4 (by omega)]at hk
    have:=List.mem_of_getElem? hk
    exact(Array.all_eq_true_iff_forall_mem.1 hzo) u (by simpa using this)) (by
    intro e' pL
    rw [List.mem_replicate]at pL
    rw [pL.2,DH]) gZ
   obtain⟨f',rows',u4,xU⟩:=oJ (K:=K 1) hr eY hf hG hn eQ h tV hA (jY (r:=⟨ver,e,sz,List.replicate x.toNat z⟩) (A:=some ⟨c.w.heap.size,0,none⟩) (cap:=y.toNat) (by simp [dH]) (by simp) (Or.inl rfl) (by simp [dH])) hd
   exact value alM (hK 1 f' rows' _ _ u4 (xU.mono fun v hv=>hv.imp (fun h=>⟨rfl,h⟩) fun h=>h))
  ·exact h.elim
 ·-- append
  rename_i x y t t2
  obtain⟨ht2,h⟩:=h
  exact xT N9 rfl ht2 hI hr eY hf hG hn eQ hd h hK
 ·exact h.elim
theorem vD{o:Oper}{a:Act}{w:World}{σ:PS}{K:PS→Prop}(h:dZ E o K σ)(hR:Rel w0 S0 n G σ a w)(hd:∀t,o.dst=some t→t<n)
  {K':Act→World→Prop} {Q:Exit→Act→World→Prop} (hK:∀σ' a' w',K σ'→Rel w0 S0 n G σ' a' w'→K' a' w'):o.wp E.P a w K' Q:=by
 obtain⟨⟨c,rfl,hr,eY,hI,hf,hG⟩,hn,eQ⟩:=hR
 have hρ:=kC hf
 have value:∀ {v':Value} {w':World},(execOp a.eval o).run E.P c.w = .ok (.value v') w'→K' (a.put o.dst v') w'→o.wp E.P a c.w K' Q:=by
  intro v' w' h1 h2
  unfold Oper.wp
  rw [h1]
  exact h2
 have alO:(∃v u,ys E o.op (aO σ.f) σ.rows v u∧K ⟨put σ.f o.dst v,dQ σ.rows u,σ.clock⟩)→o.wp E.P a c.w K' Q:=by
  rintro⟨v,u,hy,hk⟩
  rw [←hr]at hy
  refine GF hI hf hy fun v' c' h1 h2 h3 h4 h5=>hK _ _ _ hk ?_
  exact m6 hf hG hn eQ h3 h4 h5 hd rfl (by simp [h1,hr]) (by rw [h2];exact eY)
 have nw:l5 E σ.clock o (fun i f r=>K ⟨f,r,σ.clock+i⟩) σ.f σ.rows→o.wp E.P a c.w K' Q:=fun hp =>
  sM (U:=fun v=>v<σ.clock) (Nat.lt_irrefl _) hp ⟨⟨c,rfl,hr,eY,hI,hf,hG⟩,hn,eQ⟩ hd fun i f' rows' a' w' hk xU=>hK _ _ _ hk (xU.mono fun v hv=>by
   show v<σ.clock+i
   rcases hv with ⟨rfl,rfl⟩ | hv
   ·omega
   ·have:v<σ.clock:=hv
    omega)
 obtain⟨dst,op,type,pos,after,guard⟩:=o
 simp only at hd value alO nw
 unfold dZ at h
 simp only at h
 split at h
 ·-- alloc
  rename_i t
  exact nw (show l5 E σ.clock _ _ σ.f σ.rows from h)
 ·-- box
  rename_i t x
  exact nw (show l5 E σ.clock _ _ σ.f σ.rows from h)
 ·-- makeSlice
  rename_i t l cc
  refine nw (show l5 E σ.clock _ _ σ.f σ.rows from ?_)
  unfold l5
  simp only
  split at h
  ·exact h
  ·exact h.elim
 ·-- append
  rename_i x y t t2
  obtain⟨ht2,h⟩:=h
  refine nw (show l5 E σ.clock _ _ σ.f σ.rows from⟨ht2,?_⟩)
  unfold DL at h
  unfold mF
  split at h
  ·obtain⟨l,g1,g2,g3⟩:=h
   refine⟨l,g1,g2,?_⟩
   split at g3<;>exact g3
  ·exact h
 ·-- a call
  rename_i fo args ts
  have eX:a9 (aH c) (args.toList.map fun x=>aO σ.f x) (args.map a.eval).toList:=by
   refine a9.dA (by simp) fun k p u hp hu=>?_
   simp at hp hu
   obtain⟨x,hx,rfl⟩:=hp
   obtain⟨y,hy,rfl⟩:=hu
   rw [hx]at hy;cases hy
   exact hρ x
  split at h
  ·have hfo:=hρ fo
   unfold KR at h
   split at h
   ·rename_i g heq
    rw [heq]at hfo
    obtain⟨R,⟨⟨fn,b,h1,h2,h3⟩,KU⟩,hk⟩:=h
    simp only [aH,aN,cN]at hfo
    obtain⟨cs,hfv,KL⟩:=hfo
    simp only [bI]at KL
    subst KL
    have oK:=KU w0 S0 c _ (fun p=>p∈G ∨ ∃s,p=(σ.f s,a.tmps.getD s undef)) hI hr eY eX (by
     rintro p (hp | ⟨s,rfl⟩)
     ·exact hG p hp
     ·exact hf s)
    simp only [Array.toArray_toList]at oK
    unfold Oper.wp
    have iC:(execOp a.eval { dst:=dst,op:=.call { callee:=.value fo,args:=args,argTypes:=ts },type:=type,pos:=pos,after:=after,guard:=guard }).run E.P c.w = .ok (.enter g (args.map a.eval)) c.w:=by
     simp only [execOp,resolve,hfv,Deferred.ofValue,Sem.run_bind,Sem.run_pure,Result.andThen_ok,invoke]
     simpa using kO h1 h2 h3 (args.map a.eval) c.w
    rw [iC]
    refine oK.mono ?_
    rintro e w' ⟨v',c',r,fQ,rfl,rfl,tV,hG',jZ,af6,hv'⟩
    refine hK _ _ _ (hk _ _ _ jZ) ?_
    exact UW (fun s=>hG' (σ.f s,a.tmps.getD s undef) (.inr ⟨s,rfl⟩)) (fun p hp=>hG' p (.inl hp)) hn eQ tV hv' hd rfl rfl af6
   ·exact h.elim
  obtain⟨v,hc,hp,hk⟩:=h
  rw [←hr]at hc hp hk
  have hc':u9 E (aO σ.f fo) ((args.toList.map fun x=>aO σ.f x).map (pz c.rows)) v:=by rw [List.map_map];exact hc
  obtain⟨g,cs,h1,h2,h3⟩:=vA hI (ids:=args.toList.flatMap fun x=>dG (aO σ.f x)) hp (hρ fo) eX (by
   intro p hp id fI
   simp at hp
   obtain⟨x,hx,rfl⟩:=hp
   simp only [List.mem_flatMap];exact⟨x,by simpa using hx,fI⟩) hc' (K:=fun v' w'=>K' (a.put dst v') w') (fun v' c' q1 q2 q3 q4 q5=>hK _ _ _ hk (m6 hf hG hn eQ q3 q4 q5 hd rfl (by simp [q1]) (by rw [q2];exact eY)))
  unfold Oper.wp
  have iC:(execOp a.eval { dst:=dst,op:=.call { callee:=.value fo,args:=args,argTypes:=ts },type:=type,pos:=pos,after:=after,guard:=guard }).run E.P c.w = .ok (.enter g (args.map a.eval++cs)) c.w:=by
   simp only [execOp,resolve,h1,Deferred.ofValue,Sem.run_bind,Sem.run_pure,Result.andThen_ok,invoke]
   simp only [Array.toArray_toList]at h2
   simpa only [Array.empty_append]using h2
  rw [iC]
  simp only [Array.toArray_toList]at h3
  exact h3.mono fun e w' ⟨v',he,hk⟩=>by subst he;exact hk
 ·-- a closure
  rename_i g cB
  obtain⟨qQ,hp,hk⟩:=h
  rw [←hr]at qQ hp hk
  have GC:=hI.freeze (cB.toList.flatMap fun x=>dG (aO σ.f x))
  refine value (v':=.func (.func g) #[] (cB.map a.eval)) (w':=c.w) (by simp [execOp,Instr.makeFunc]) (hK _ _ _ hk ?_)
  refine m6 (c':=AE c (cB.toList.flatMap fun x=>dG (aO σ.f x))) hf hG hn eQ (kE c _) GC ?_ hd rfl (by simp [AE]) eY
  simp only [aH,aN,cN]
  refine⟨(cB.map a.eval).toList,by rw [Array.toArray_toList],cA.2 (a9.dA (by simp) fun k p u tU hu=>?_)⟩
  simp at tU hu
  obtain⟨x,hx,rfl⟩:=tU
  obtain⟨y,hy,rfl⟩:=hu
  rw [hx]at hy;cases hy
  have mG:x∈cB.toList:=by simpa using Array.mem_of_getElem? hx
  exact DG hI hp (hρ x) (fun id fI=>by simp only [List.mem_flatMap];exact⟨x,mG,fI⟩) (List.all_eq_true.1 qQ _ (by simp;exact⟨x,by simpa using mG,rfl⟩))
 ·exact alO h
end
def gM(op:Op)(ρ:Operand→PV):List Nat:=
 match op with
 | .load _ p=>aU (ρ p)
 | .fieldAddr _ x _=>aU (ρ x)
 | .indexAddr _ x _=>aU (ρ x)
 | .slice _ x _ _ _=>aU (ρ x)
 | .store _ p x=>aU (ρ p)++((bS (ρ x)).getD []).flatMap aU
 | .call { callee:=.builtin .len,args:=⟨[x]⟩,argTypes:=⟨[_]⟩ }=>aU (ρ x)
 | .call { callee:=.builtin .append,args:=⟨[x,y]⟩,argTypes:=⟨[_,_]⟩ }=>aU (ρ x)++aU (ρ y)
 | .call { callee:=.builtin .copy,args:=⟨[x,y]⟩,argTypes:=⟨[_,_]⟩ }=>aU (ρ x)++aU (ρ y)
 | .nilCheck x=>aU (ρ x)
 | _=>[]
def iD(ids:List Nat)(rows rows':Rows):Prop:=∀id∈ids,∀r,rows id=some r→rows' id=some r
section
variable {E:Env}
theorem DM{rows rows':Rows}{p:PV}(h:aU p = []):fz rows p=fz rows' p:=by cases p<;>simp_all [fz,aU]
theorem aa9{rows rows':Rows}{p:PV}(h:dG p = []):pz rows p=pz rows' p:=by
 cases p with
 | ag l =>
  simp only [dG,List.flatMap_eq_nil_iff]at h
  simp only [pz]
  congr 1
  exact List.map_congr_left fun q hq=>DM (h q hq)
 | _=>simp only [pz,dG]at h ⊢;exact DM h
theorem DN{rows rows':Rows}{p:PV}(h:iD (aU p) rows rows')(ho:gR rows p):gR rows' p:=by
 cases p with
 | own id ver off len=>obtain⟨r,hr,hv⟩:=ho;exact⟨r,h id (by simp [aU]) r hr,hv⟩
 | ptr id ver i j=>obtain⟨r,hr,hv⟩:=ho;exact⟨r,h id (by simp [aU]) r hr,hv⟩
 | _=>exact ho
theorem Q1{rows:Rows}{p:PV}(ho:gR rows p):∀id∈aU p,∃r,rows id=some r:=by
 intro id fI
 cases p with
 | own gX ver off len=>simp [aU]at fI;subst fI;obtain⟨r,hr,_⟩:=ho;exact⟨r,hr⟩
 | ptr gX ver i j=>simp [aU]at fI;subst fI;obtain⟨r,hr,_⟩:=ho;exact⟨r,hr⟩
 | _=>simp [aU]at fI
theorem U5{t:TypeId}{rows rows':Rows}{p v:PV}(h:iD (aU p) rows rows')(hy:qK E t rows p v):qK E t rows' p v ∧ ∀id∈aU p,∃r,rows id=some r:=by
 obtain⟨hk,hy⟩:=hy
 cases p with
 | ptr id ver i j =>
  obtain⟨r,hr,hh⟩:=hy
  exact⟨⟨hk,r,h id (by simp [aU]) r hr,hh⟩,by simp [aU];exact⟨r,hr⟩⟩
 | rd l=>exact⟨⟨hk,hy⟩,by simp [aU]⟩
 | _=>exact hy.elim
theorem AQ{t:TypeId}{i:Nat}{rows rows':Rows}{x v:PV}(h:iD (aU x) rows rows')(hy:eK E t rows i x v):eK E t rows' i x v ∧ ∀id∈aU x,∃r,rows id=some r:=by
 unfold eK at *
 split at hy
 ·rename_i fs z hE
  obtain⟨o,n,b,hf,hy⟩:=hy
  cases x with
  | ptr id ver a j =>
   obtain⟨⟨r,hr,hv⟩,hh⟩:=hy
   exact⟨⟨o,n,b,hf,⟨r,h id (by simp [aU]) r hr,hv⟩,hh⟩,by simp [aU];exact⟨r,hr⟩⟩
  | rd l=>exact⟨⟨o,n,b,hf,hy⟩,by simp [aU]⟩
  | _=>exact hy.elim
 ·exact hy.elim
theorem AR{t:TypeId}{rows rows':Rows}{x ix v:PV}(h:iD (aU x) rows rows')(hy:eM E t rows x ix v):eM E t rows' x ix v ∧ ∀id∈aU x,∃r,rows id=some r:=by
 unfold eM at *
 split at hy
 ·split at hy
  ·obtain⟨h0,hy⟩:=hy
   cases x with
   | own id ver off len =>
    obtain⟨r,hr,hh⟩:=hy
    exact⟨⟨h0,r,h id (by simp [aU]) r hr,hh⟩,by simp [aU];exact⟨r,hr⟩⟩
   | sl l=>exact⟨⟨h0,hy⟩,by simp [aU]⟩
   | gU l=>exact⟨⟨h0,hy⟩,by simp [aU]⟩
   | _=>exact hy.elim
  ·exact hy.elim
 ·split at hy
  ·obtain⟨h0,hy⟩:=hy
   cases x with
   | ptr id ver a j =>
    obtain⟨⟨r,hr,hv⟩,hh⟩:=hy
    exact⟨⟨h0,⟨r,h id (by simp [aU]) r hr,hv⟩,hh⟩,by simp [aU];exact⟨r,hr⟩⟩
   | rd l=>exact⟨⟨h0,hy⟩,by simp [aU]⟩
   | _=>exact hy.elim
  ·exact hy.elim
 ·exact hy.elim
theorem Q3{t:TypeId}{rows rows':Rows}{x v:PV}{lo hi mx:Option PV}(h:iD (aU x) rows rows')(hy:lY E t rows x lo hi mx v):lY E t rows' x lo hi mx v ∧ ∀id∈aU x,∃r,rows id=some r:=by
 unfold lY at *
 split at hy
 ·cases x with
  | own id ver off len =>
   obtain⟨r,hr,hh⟩:=hy
   exact⟨⟨r,h id (by simp [aU]) r hr,hh⟩,by simp [aU];exact⟨r,hr⟩⟩
  | nil=>exact⟨hy,by simp [aU]⟩
  | sl l=>exact⟨hy,by simp [aU]⟩
  | gU l=>exact⟨hy,by simp [aU]⟩
  | _=>exact hy.elim
 ·exact hy.elim
theorem aba{rows rows':Rows}{x:PV}{n:Nat}(h:iD (aU x) rows rows')(hy:QQ rows x n):QQ rows' x n ∧ ∀id∈aU x,∃r,rows id=some r:=by
 unfold QQ at *
 cases x with
 | own id ver off len =>
  obtain⟨⟨r,hr,hv⟩,hh⟩:=hy
  exact⟨⟨⟨r,h id (by simp [aU]) r hr,hv⟩,hh⟩,by simp [aU];exact⟨r,hr⟩⟩
 | nil=>exact⟨hy,by simp [aU]⟩
 | sl l=>exact⟨hy,by simp [aU]⟩
 | gU l=>exact⟨hy,by simp [aU]⟩
 | _=>exact hy.elim
theorem abb{rows rows':Rows}{x v:PV}(h:iD (aU x) rows rows')(hy:AM rows x v):AM rows' x v ∧ ∀id∈aU x,∃r,rows id=some r:=by
 unfold AM at *
 cases x with
 | ptr id ver i j =>
  obtain⟨⟨r,hr,hv⟩,hh⟩:=hy
  exact⟨⟨⟨r,h id (by simp [aU]) r hr,hv⟩,hh⟩,by simp [aU];exact⟨r,hr⟩⟩
 | rd l=>exact⟨hy,by simp [aU]⟩
 | _=>exact hy.elim
theorem Q4{t:TypeId}{rows rows':Rows}{p x v:PV}{u:Option (Nat × Row)}(h:iD (aU p++((bS x).getD []).flatMap aU) rows rows')(hy:oI E t rows p x v u) :
  oI E t rows' p x v u∧(∀id∈aU p++((bS x).getD []).flatMap aU,∃r,rows id=some r) ∧ ∃id r,u=some (id,r)∧id∈aU p:=by
 obtain⟨hk,hv,hy⟩:=hy
 cases p with
 | ptr id ver i j =>
  obtain⟨r,hr,jF,el,mW,l,hl,iZ,hh1,hh2,hh3⟩:=hy
  rw [hl]at h ⊢
  simp only [Option.getD_some]at h ⊢
  refine⟨⟨hk,hv,r,h id (by simp [aU]) r hr,jF,el,mW,l,hl,fun q hq=>DN (fun gX xO=>h gX ?_) (iZ q hq),hh1,hh2,hh3⟩,?_,?_⟩
  ·simp only [List.mem_append,List.mem_flatMap];exact .inr ⟨q,hq,xO⟩
  ·intro gX xO
   simp only [List.mem_append,List.mem_flatMap]at xO
   rcases xO with xO | ⟨q,hq,xO⟩
   ·simp [aU]at xO;subst xO;exact⟨r,hr⟩
   ·exact Q1 (iZ q hq) gX xO
  ·exact⟨id,_,hh3,by simp [aU]⟩
 | _=>exact hy.elim
theorem OA{rows rows':Rows}{y:PV}{l:List (List PV)}(h:iD (aU y) rows rows')(hy:qG rows y l):qG rows' y l ∧ ∀id∈aU y,∃r,rows id=some r:=by
 unfold qG at *
 cases y with
 | own id ver off len =>
  obtain⟨r,hr,hh⟩:=hy
  exact⟨⟨r,h id (by simp [aU]) r hr,hh⟩,by simp [aU];exact⟨r,hr⟩⟩
 | nil=>exact⟨hy,by simp [aU]⟩
 | sl l=>exact⟨hy,by simp [aU]⟩
 | gU l=>exact⟨hy,by simp [aU]⟩
 | _=>exact hy.elim
theorem U6{t:TI}{rows rows':Rows}{x y v:PV}{u:Option (Nat × Row)}(h:iD (aU x++aU y) rows rows')(hy:qP t rows x y v u):qP t rows' x y v u∧(∀id∈aU x++aU y,∃r,rows id=some r) ∧ ∀id r,u=some (id,r)→id∈aU x++aU y:=by
 unfold qP at *
 split at hy
 ·rename_i e n b z id ver off len
  obtain⟨r,h1,h2,h3,h4,l,h5,h6,h7,rfl⟩:=hy
  obtain⟨g1,g2⟩:=OA (fun id fI=>h id (by simp only [List.mem_append];exact .inr fI)) h5
  refine⟨⟨r,h id (by simp [aU]) r h1,h2,h3,h4,l,g1,h6,h7,rfl⟩,fun gX fI=>?_,fun gX r' hu=>?_⟩
  ·simp only [aU,List.mem_append,List.mem_cons,List.not_mem_nil,or_false]at fI
   rcases fI with rfl | fI
   ·exact⟨r,h1⟩
   ·exact g2 gX fI
  ·simp only [Option.some.injEq,Prod.mk.injEq]at hu
   simp [aU,hu.1]
 ·exact hy.elim
theorem adQ{op:Op}{ρ:Operand→PV}{rows rows':Rows}{v:PV}{u:Option (Nat × Row)}(h:iD (gM op ρ) rows rows')(hy:ys E op ρ rows v u) :
  ys E op ρ rows' v u∧(∀id∈gM op ρ,∃r,rows id=some r) ∧ ∀id r,u=some (id,r)→id∈gM op ρ:=by
 unfold ys at hy ⊢
 split at hy
 ·exact U6 h hy
 ·rename_i t p x
  obtain⟨h1,h2,id,r,h3,h4⟩:=Q4 h hy
  exact⟨h1,h2,fun gX r' hu=>by rw [h3]at hu;cases hu;simp only [gM,List.mem_append];exact .inl h4⟩
 ·rename_i t len parts
  obtain⟨hy,rfl⟩:=hy
  unfold KQ at hy ⊢
  split at hy
  ·obtain⟨els,h1,h2,h3,h4,h5,h6,rfl⟩:=hy
   have hfz:∀e∈els,∀p∈e,fz rows p=fz rows' p:=fun e he p hp=>DM (h6 e he p hp)
   refine⟨⟨⟨els,h1,h2,h3,h4,fun e he p hp=>⟨by rw [←hfz e he p hp];exact(h5 e he p hp).1,DN (by rw [h6 e he p hp];intro id fI;cases fI) (h5 e he p hp).2⟩,h6,?_⟩,rfl⟩,by simp [gM],by simp⟩
   congr 1
   exact List.map_congr_left fun e he=>List.map_congr_left fun p hp=>hfz e he p hp
  ·exact hy.elim
 ·rename_i f args ts
  obtain⟨rfl,h1,h2⟩:=hy
  refine⟨⟨rfl,?_,h2⟩,by simp [gM],by simp⟩
  have:(args.toList.map fun x=>pz rows (ρ x))=args.toList.map fun x=>pz rows' (ρ x):=
   List.map_congr_left fun x hx=>aa9 (List.flatMap_eq_nil_iff.1 h2 x hx)
  rw [←this];exact h1
 ·obtain⟨hy,rfl⟩:=hy
  suffices hs:yv E op ρ rows' v ∧ ∀id∈gM op ρ,∃r,rows id=some r from⟨⟨hs.1,rfl⟩,hs.2,by simp⟩
  unfold yv at hy ⊢
  split at hy
  case h_8=>exact U5 h hy
  case h_10=>exact AQ h hy
  case h_11=>exact AR h hy
  case h_12=>exact Q3 h hy
  case h_16 =>
   simp only [gM]at h ⊢
   unfold uZ at hy ⊢
   split at hy
   ·obtain⟨n,hn,hv⟩:=hy
    have:=aba (rows':=rows') h hn
    exact⟨⟨n,this.1,hv⟩,this.2⟩
   ·exact hy.elim
  case h_19=>exact abb h hy
  all_goals first
   | exact hy.elim
   | exact⟨hy,by simp [gM]⟩
end
end Pm
