import Derived.StillTail
import Derived.Deep.LoopGhost
import Derived.Test.YtiobceocpabjdaaGreatNab
set_option linter.unusedSimpArgs false
set_option linter.unusedVariables false
namespace Pm
open Go Go.RowKit
variable {E:Env}{ops l:List Oper}{i j c0 id clk k n tl e k' i' len fD:Nat}{o oi oj:Oper}{d:Option Tmp}{op:Op}{ρ ρ':Operand->PV}{rows rows':Rows}{v r p p' x' y':PV}{u:Option (Nat × Row)}{C A B:Prop}{t t2 s:TypeId}{x y fo:Operand}{md:Region.Mode}{K':Act->World->Prop}{f:Nat->PV}{c code:Code}{tmps:Array Value}{b want:Bool}{bL:Array Bool}{a:Act}{w:World}{U:Nat->Prop}{g yM:FuncId}{ts:Array TypeId}{Q:Exit->Act->World->Prop}{σ σ':PS}{fn:Func}{args fs bR:Array Operand}{R:PV->Prop}{t':Nat->Nat->Prop}{α:Type}{lo hi mx:Option Operand}{parts:Array (Nat × Operand)}{P:Program}{name:String}{eQ rI:List PV}{r0:Row}
def jZ(P:Program)(f:FuncId)(args:List PV)(e:TypeId)(n:Nat)(els:List (List PV)):Prop:=
 (∃fn c,P.funcs[f]? = some fn∧fn.body=some c∧(fn.name == "runtime.NumGoroutine")=false) ∧
 ∀(w:World) (S:eU) (vs:List Value),(∀b o,S b o->b<w.heap.size)->b6 S w args vs ->
  Calls P f vs.toArray w fun x w'=>∃(v:Value) (xs:List Value) (S':eU),x = .returned v∧Below w.heap.size w w'∧(∀b o,S b o->S' b o)∧(∀b o,S' b o->S b o∨(w.heap.size<=b∧b<w'.heap.size)) ∧
   w'.ownsRow w.heap.size e n v els.length xs∧bA (dY S' w') els.flatten xs∧(∀y∈xs,y.oneCell'=true)∧(∀x∈els,x.length=n)∧0<n∧(∀g o,v.ownBlock=some g->¬S' g o)
def SA(md:Region.Mode)(ops:List Oper):Nat->Nat->Nat->Bool
 | 0,_,_=>false
 | f+1,j,k=>match ops[j]? with
  | some o=>o.after.toList.any fun e=>Region.binds md e&&(e.on==k || SA md ops f e.on k)
  | none=>false
def uU(md:Region.Mode)(ops:List Oper)(j k:Nat):Bool:=SA md ops 12 j k
structure ST where
 f:Nat->PV
 rows:Rows
 b8:Nat->Nat->Prop
 wl:Nat->Nat->Prop
def eM(E:Env):Op->Bool
 | .alloc _=>true
 | .box _ _=>true
 | .makeSlice _ _ _=>true
 | .call { callee:=.builtin .append,args:=⟨[_,_]⟩,argTypes:=⟨[_,_]⟩ }=>true
 | .call { callee:=.value (.func g),args:=_,argTypes:=_ }=>E.writes g
 | _=>false
def y8(E:Env)(ops:List Oper):Bool:=ops.all fun o => !eM E o.op || (o.dst.isSome&&o.guard.isNone)
def rk(E:Env)(ops:List Oper)(i:Nat):Nat:=((ops.take i).filter fun o=>eM E o.op).length
theorem aaU(h:ops[i]? = some o):rk E ops (i+1)=rk E ops i+if eM E o.op=true then 1 else 0:=by
 unfold rk
 rw [List.take_add_one,h]
 simp only [Option.toList_some,List.filter_append,List.length_append]
 congr 1
 cases hn:eM E o.op<;>simp [hn]
theorem akM(h:i<=j):rk E ops i<=rk E ops j:=by
 unfold rk
 have:(ops.take i).Sublist (ops.take j):=by
  have:=List.take_sublist i (ops.take j)
  rwa [List.take_take,Nat.min_eq_left h]at this
 exact(this.filter _).length_le
theorem afV(h:ops[i]? = some o)(hn:eM E o.op=true)(hij:i<j):rk E ops i<rk E ops j:=by
 have h1:=aaU (E:=E) h
 rw [if_pos hn]at h1
 have:=akM (E:=E) (ops:=ops) (show i+1<=j from hij)
 omega
theorem aqf{o':Oper}(h:ops[i]? = some o)(hn:eM E o.op=true)(h':ops[j]? = some o')(FE:eM E o'.op=true)(he:rk E ops i=rk E ops j):i=j:=by
 rcases Nat.lt_trichotomy i j with h1 | h1 | h1
 ·have:=afV h hn h1;omega
 ·exact h1
 ·have:=afV h' FE h1;omega
def yJ(t:TI)(rows:Rows)(x y:PV)(c0 d:Nat)(v:PV)(u:Option (Nat × Row)):Prop:=
 match t with
 | .slice e n b _=>∃l,vG rows y l∧(∀e∈l,e.length=n) ∧
  match x with
  | .nil=>l.length<=room∧l.length*b<=room∧v = .own d c0 0 l.length∧u=some (d,⟨c0,e,n,l⟩)
  | .own id ver off len=>∃r,rows id=some r∧r.ver=ver∧off=0∧len<=r.els.length∧r.e=e∧r.size=n∧len+l.length<=room∧(len+l.length)*b<=room ∧
    v = .own id c0 0 (len+l.length)∧u=some (id,⟨c0,e,n,r.els.take len++l⟩)
  | .kJ l0=>(∀e∈l0,e.length=n)∧(∀e∈l,∀p∈e,bE p=true)∧l0.length+l.length<=room∧(l0.length+l.length)*b<=room∧v = .sl (l0++l)∧u=none
  | _=>False
 | _=>False
def anK(E:Env)(g:FuncId)(args:List PV)(c0 d:Nat)(v:PV)(u:Option (Nat × Row)):Prop:=
 args.all cY=true ∧ ∃e n els,jZ E.P g args e n els∧v = .own d c0 0 els.length∧u=some (d,⟨c0,e,n,els⟩)
def yn(E:Env)(c0:Nat)(d:Option Tmp)(op:Op)(ρ:Operand->PV)(rows:Rows)(v:PV)(u:Option (Nat × Row)):Prop:=
 match op with
 | .alloc t=>(E.ty t).known=true∧v = .ptr (d.getD 0) c0 0 0∧u=some (d.getD 0,⟨c0,t,(E.ty t).size,[(E.ty t).zero]⟩)
 | .box t x=>(E.ty t).known=true ∧ ∃l,cR (ρ x)=some l∧(∀q∈l,jT (fun _=>none) q)∧l.length=(E.ty t).size∧v = .ptr (d.getD 0) c0 0 0∧u=some (d.getD 0,⟨c0,t,(E.ty t).size,[l]⟩)
 | .makeSlice t l c =>
  match E.ty t,ρ l,ρ c with
  | .slice e n b z, .int _ x, .int _ y=>0<=x∧x<=y∧y.toNat<=room∧y.toNat*b<=room∧v = .own (d.getD 0) c0 0 x.toNat∧u=some (d.getD 0,⟨c0,e,n,List.replicate x.toNat z⟩)
  | _,_,_=>False
 | .call { callee:=.builtin .append,args:=⟨[x,y]⟩,argTypes:=⟨[t,t2]⟩ }=>(t2=t∨slT (E.ty t2)=true)∧yJ (E.ty t) rows (ρ x) (ρ y) c0 (d.getD 0) v u
 | .call { callee:=.value (.func g),args:=aME,argTypes:=ts }=>if E.writes g=true then anK E g (aME.toList.map fun x=>ρ x) c0 (d.getD 0) v u else ys E (.call { callee:=.value (.func g),args:=aME,argTypes:=ts }) ρ rows v u
 | op=>ys E op ρ rows v u
theorem HC(h:eM E op=false):yn E c0 d op ρ rows v u=ys E op ρ rows v u:=by
 unfold yn
 split
 all_goals first
  | rfl
  | (simp [eM]at h;done)
  | (simp only [eM]at h;rw [if_neg (by rw [h];decide)])
theorem rH(h:eM E op=true)(h1:∀t,op = .alloc t->C)(h2:∀t x,op = .box t x->C)(h3:∀t l c,op = .makeSlice t l c->C)
  (h4:∀x y t t2,op = .call { callee:=.builtin .append,args:=⟨[x,y]⟩,argTypes:=⟨[t,t2]⟩ }->C) (h5:∀g aME ts,op = .call { callee:=.value (.func g),args:=aME,argTypes:=ts }->E.writes g=true->C):C:=by
 unfold eM at h
 split at h
 ·exact h1 _ rfl
 ·exact h2 _ _ rfl
 ·exact h3 _ _ _ rfl
 ·exact h4 _ _ _ _ rfl
 ·exact h5 _ _ _ rfl h
 ·cases h
theorem afW{t:TI}{x y:PV}{d:Nat}(h:l8 (a9 x++a9 y) rows rows')(hy:yJ t rows x y c0 d v u):yJ t rows' x y c0 d v u ∧ ∀id∈a9 x++a9 y,∃r,rows id=some r:=by
 unfold yJ at *
 cases t with
 | slice e n b z =>
  obtain⟨l,h1,h2,h3⟩:=hy
  obtain⟨g1,g2⟩:=aaT (fun id iH=>h id (by simp only [List.mem_append];exact .inr iH)) h1
  cases x with
  | nil=>exact⟨⟨l,g1,h2,h3⟩,fun id iH=>g2 id (by simpa [a9]using iH)⟩
  | kJ l0=>exact⟨⟨l,g1,h2,h3⟩,fun id iH=>g2 id (by simpa [a9]using iH)⟩
  | own id ver off len =>
   obtain⟨r,hr,hh⟩:=h3
   refine⟨⟨l,g1,h2,r,h id (by simp [a9]) r hr,hh⟩,fun lC iH=>?_⟩
   simp only [a9,List.mem_append,List.mem_cons,List.not_mem_nil,or_false]at iH
   rcases iH with rfl | iH
   ·exact⟨r,hr⟩
   ·exact g2 lC iH
  | _=>exact h3.elim
 | _=>exact hy.elim
theorem aaV(h:l8 (j4 op ρ) rows rows')(hy:yn E c0 d op ρ rows v u) :
  yn E c0 d op ρ rows' v u∧(∀id∈j4 op ρ,∃r,rows id=some r) ∧ ∀id r,u=some (id,r)->(eM E op=true∧id=d.getD 0)∨id∈j4 op ρ:=by
 cases hn:eM E op with
 | false =>
  rw [HC hn]at hy |-
  obtain⟨h1,h2,h3⟩:=anJ h hy
  exact⟨h1,h2,fun id r hu => .inr (h3 id r hu)⟩
 | true =>
  refine rH hn ?_ ?_ ?_ ?_ ?_
  ·rintro t rfl
   refine⟨hy,by simp [j4],fun id r hu => .inl ⟨by first | trivial | rfl,?_⟩⟩
   obtain⟨_,_,rfl⟩:=hy
   simp at hu;exact hu.1.symm
  ·rintro t x rfl
   refine⟨hy,by simp [j4],fun id r hu => .inl ⟨by first | trivial | rfl,?_⟩⟩
   obtain⟨_,_,_,_,_,_,rfl⟩:=hy
   simp at hu;exact hu.1.symm
  ·rintro t l c rfl
   refine⟨hy,by simp [j4],fun id r hu => .inl ⟨by first | trivial | rfl,?_⟩⟩
   simp only [yn]at hy
   split at hy
   ·obtain⟨_,_,_,_,_,rfl⟩:=hy
    simp at hu;exact hu.1.symm
   ·exact hy.elim
  ·rintro x y t t2 rfl
   simp only [yn,j4]at hy h |-
   obtain⟨h2,h3⟩:=hy
   obtain⟨g1,g2⟩:=afW h h3
   refine⟨⟨h2,g1⟩,g2,fun id r hu=>?_⟩
   unfold yJ at h3
   split at h3
   ·obtain⟨l,_,_,h3⟩:=h3
    split at h3
    ·obtain⟨_,_,_,rfl⟩:=h3
     simp at hu;exact .inl ⟨by first | trivial | rfl,hu.1.symm⟩
    ·rename_i hx
     obtain⟨_,_,_,_,_,_,_,_,_,_,rfl⟩:=h3
     simp at hu
     rw [hx]
     exact .inr (by simp [a9,hu.1])
    ·obtain⟨_,_,_,_,_,rfl⟩:=h3
     cases hu
    ·exact h3.elim
   ·exact h3.elim
  ·rintro g aME ts rfl hw
   simp only [yn]at hy |-
   rw [if_pos hw]at hy
   rw [if_pos hw]
   refine⟨hy,by simp only [j4];rw [aaS hy.1];simp,fun id r hu => .inl ⟨by first | trivial | exact hw,?_⟩⟩
   obtain⟨_,_,_,_,_,_,rfl⟩:=hy
   simp at hu;exact hu.1.symm
open Classical in
noncomputable def fE(md:Region.Mode)(ops:List Oper)(j:Nat)(wl:Nat->Nat->Prop)(rows:Rows):Rows:=fun id=>if ∃k,wl k id∧uU md ops j k=false then none else rows id
theorem n4{wl:Nat->Nat->Prop}{r:Row}:fE md ops j wl rows id=some r↔(∀k,wl k id->uU md ops j k=true)∧rows id=some r:=by
 unfold fE
 split
 ·rename_i h
  obtain⟨k,h1,h2⟩:=h
  simp only [reduceCtorEq,false_iff,not_and]
  intro h3
  rw [h3 k h1]at h2;cases h2
 ·rename_i h
  refine⟨fun h2=>⟨fun k hk=>?_,h2⟩,fun h2=>h2.2⟩
  cases hd:uU md ops j k with
  | true=>rfl
  | false=>exact absurd ⟨k,hk,hd⟩ h
def EF(md:Region.Mode)(ops:List Oper)(i id:Nat)(b8:Nat->Nat->Prop):Prop:=∀k,b8 k id->uU md ops i k=true
def SB(md:Region.Mode)(ops:List Oper)(i:Nat)(u:Option (Nat × Row))(b8:Nat->Nat->Prop):Prop:=
 match u with
 | none=>True
 | some (id,_)=>EF md ops i id b8
def gOK(ops:Array Oper)(o:Oper)(f:Nat->PV)(b:Bool):Prop:=
 match o.guard with
 | none=>b=true
 | some (j,want)=>∃d,(ops[j]?).bind (·.dst)=some d∧((f d = .bool want∧b=true)∨((f d = .bool (!want)∨f d = .dK [])∧b=false))
def YG(E:Env)(md:Region.Mode)(ops:Array Oper)(c0:Nat)(i:Nat)(o:Oper)(b:Bool)(v:PV)(u:Option (Nat × Row))(st:ST):Prop:=
 gOK ops o st.f b∧if b=true then yn E (c0+rk E ops.toList i) o.dst o.op (aR st.f) (fE md ops.toList i st.wl st.rows) v u else v = .dK []∧u=none
def wlU(i:Nat)(u:Option (Nat × Row))(wl:Nat->Nat->Prop):Nat->Nat->Prop:=
 match u with
 | none=>wl
 | some (id,_)=>fun k lC=>(k=i∧lC=id)∨wl k lC
def app(i:Nat)(o:Oper)(b:Bool)(v:PV)(u:Option (Nat × Row))(st:ST):ST:=
 { f:=put st.f o.dst v,rows:=fP st.rows u,b8:=fun k id=>(b=true∧k=i∧id∈j4 o.op (aR st.f))∨st.b8 k id,wl:=wlU i u st.wl }
def kN(E:Env)(op:Op)(clk:Nat):Nat:=
 match op with
 | .alloc _=>clk+1
 | .box _ _=>clk+1
 | .makeSlice _ _ _=>clk+1
 | .call { callee:=.builtin .append,args:=⟨[_,_]⟩,argTypes:=⟨[_,_]⟩ }=>clk+1
 | .call { callee:=.value (.func g),args:=_,argTypes:=_ }=>if E.writes g=true then clk+1 else clk
 | _=>clk
theorem HD(h:eM E op=false):kN E op clk=clk:=by
 unfold kN
 split
 all_goals first
  | rfl
  | (simp [eM]at h;done)
  | (simp only [eM]at h;rw [if_neg (by rw [h];decide)])
theorem afX(h:eM E op=true):kN E op clk=clk+1:=by
 refine rH h ?_ ?_ ?_ ?_ ?_
 ·rintro t rfl;rfl
 ·rintro t x rfl;rfl
 ·rintro t l c rfl;rfl
 ·rintro x y t t2 rfl;rfl
 ·rintro g aME ts rfl hw;simp only [kN];rw [if_pos hw]
theorem akO(h:ops[i]? = some o):kN E o.op (c0+rk E ops i)=c0+rk E ops (i+1):=by
 rw [aaU h]
 cases hn:eM E o.op with
 | false=>rw [HD hn];simp
 | true=>rw [afX hn];simp;omega
def qOp(E:Env)(md:Region.Mode)(ops:Array Oper)(c0:Nat)(i:Nat)(K:ST->Prop)(st:ST):Prop:=
 match ops[i]? with
 | none=>K st
 | some o=>∃b v u,YG E md ops c0 i o b v u st∧SB md ops.toList i u st.b8∧K (app i o b v u st)
section
variable {E:Env} {ops:Array Oper} {md:Region.Mode}
theorem afZ{K K':ST->Prop}{st:ST}(h:∀st,K st->K' st)(hh:qOp E md ops c0 i K st):qOp E md ops c0 i K' st:=by
 unfold qOp at *
 split
 ·exact h _ (by simpa [*]using hh)
 ·rename_i o ho
  simp only [ho]at hh
  obtain⟨b,v,u,h1,h2,h3⟩:=hh
  exact⟨b,v,u,h1,h2,h _ h3⟩
theorem aaW(h:∀t,d=some t->x ≠ .tmp t):aR (put f d v) x=aR f x:=by
 cases d with
 | none=>rfl
 | some t =>
  cases x with
  | tmp s =>
   have:s≠t:=fun e=>h t rfl (by rw [e])
   simp [aR,put,this]
  | _=>rfl
theorem af0(h:∀x∈op.operands,ρ x=ρ' x):ys E op ρ rows v u↔ys E op ρ' rows v u:=by
 have parts:∀ps:Array (Nat × Operand),(∀x∈(ps.toList.map (·.2)).toArray,ρ x=ρ' x)->(ps.toList.map fun x=>(x.1,ρ x.2))=ps.toList.map fun x=>(x.1,ρ' x.2):=fun ps hp =>
  List.map_congr_left fun p hm=>by rw [hp p.2 (by simp;exact⟨p.1,by simpa using hm⟩)]
 have args:∀(c:Call),(∀x∈c.operands,ρ x=ρ' x) -> ∀x∈c.args.toList,ρ x=ρ' x:=fun c hc x hx=>hc x (by simp [Call.operands];exact .inr (by simpa using hx))
 unfold ys
 split
 ·rename_i x y t t2
  rw [h x (by simp [Op.operands,Call.operands]),h y (by simp [Op.operands,Call.operands])]
 ·rename_i t p x
  rw [h p (by simp [Op.operands]),h x (by simp [Op.operands])]
 ·rename_i t len ps
  rw [parts ps (by simpa [Op.operands]using h)]
 ·rename_i f aME ts
  have ha:=args _ (by simpa [Op.operands]using h)
  simp only at ha
  have e1:(aME.toList.map fun x=>pz rows (ρ x))=aME.toList.map fun x=>pz rows (ρ' x):=List.map_congr_left fun x hx=>by rw [ha x hx]
  have e2:(aME.toList.map fun x=>ρ x)=aME.toList.map fun x=>ρ' x:=List.map_congr_left fun x hx=>ha x hx
  rw [h f (by simp [Op.operands,Call.operands]),e1,e2]
  have:(aME.toList.flatMap fun x=>eK (ρ x))=aME.toList.flatMap fun x=>eK (ρ' x):=by
   rw [List.flatMap_def,List.flatMap_def]
   congr 1
   exact List.map_congr_left fun x hx=>by rw [ha x hx]
  rw [this]
 ·suffices hs:yv E op ρ rows v↔yv E op ρ' rows v by rw [hs]
  unfold yv
  split
  case h_12 =>
   rename_i t x lo hi mx _ _ _ _
   have o1:∀y:Option Operand,(∀z,y=some z->ρ z=ρ' z)->y.map ρ=y.map ρ':=by
    intro y hy;cases y with
    | none=>rfl
    | some z=>simp [hy z rfl]
   rw [h x (by simp [Op.operands]),o1 lo fun z hz=>h z (by subst hz;simp [Op.operands]),o1 hi fun z hz=>h z (by subst hz;simp [Op.operands]),o1 mx fun z hz=>h z (by subst hz;simp [Op.operands])]
  case h_13=>rename_i t ps _ _ _ _;rw [parts ps (by simpa [Op.operands]using h)]
  case h_15 =>
   rename_i f fs bR _ _ _ _
   rw [List.map_congr_left (l:=bR.toList) (f:=fun x=>ρ x) (g:=fun x=>ρ' x) fun x hx=>h x (by simp [Op.operands];exact .inr (by simpa using hx)),List.map_congr_left (l:=fs.toList) (f:=fun x=>ρ x) (g:=fun x=>ρ' x) fun x hx=>h x (by simp [Op.operands];exact .inl (by simpa using hx))]
  all_goals first
   | rfl
   | (simp only [Op.operands,Call.operands]at h;simp [h])
theorem HE(h:∀x∈op.operands,ρ x=ρ' x):j4 op ρ=j4 op ρ':=by
 unfold j4
 split
 all_goals first
  | rfl
  | (rw [List.flatMap_def,List.flatMap_def];congr 1;exact List.map_congr_left fun x hx=>by rw [h x (by simp [Op.operands,Call.operands];exact .inr (by simpa using hx))])
  | (simp only [Op.operands,Call.operands]at h;simp [h])
theorem SD(h:∀x∈op.operands,ρ x=ρ' x):yn E c0 d op ρ rows v u↔yn E c0 d op ρ' rows v u:=by
 cases hn:eM E op with
 | false=>rw [HC hn,HC hn];exact af0 h
 | true =>
  refine rH hn ?_ ?_ ?_ ?_ ?_
  ·rintro t rfl;exact Iff.rfl
  ·rintro t x rfl
   simp only [yn]
   rw [h x (by simp [Op.operands])]
  ·rintro t l c rfl
   simp only [yn]
   rw [h l (by simp [Op.operands]),h c (by simp [Op.operands])]
  ·rintro x y t t2 rfl
   simp only [yn]
   rw [h x (by simp [Op.operands,Call.operands]),h y (by simp [Op.operands,Call.operands])]
  ·rintro g aME ts rfl hw
   simp only [yn]
   rw [if_pos hw,if_pos hw,List.map_congr_left (l:=aME.toList) (f:=fun x=>ρ x) (g:=fun x=>ρ' x) fun x hx=>h x (by simp [Op.operands,Call.operands];exact .inr (by simpa using hx))]
theorem SE{d:Tmp}(h:d ∉ o.looksAt ops)(hx:x∈o.op.operands):x ≠ .tmp d:=by
 rintro rfl
 exact h (List.mem_append_left _ (List.mem_filterMap.2 ⟨.tmp d,by simpa using hx,rfl⟩))
theorem XI{c:Cx}:aK c (.dK []) undef:=by
 exact⟨[],rfl,trivial⟩
theorem kO{c:Cx}{d:Tmp}{t:Bool}(h1:(ops[j]?).bind (·.dst)=some d)(h:aK c (.bool t) (tmps.getD d undef)):yielded ops tmps j=some t:=by
 rw [eD]at h
 unfold yielded
 rw [h1]
 simp only [Option.bind_some]
 cases hx:tmps[d]? with
 | none=>simp [hx]at h;cases h
 | some y =>
  have hy:y = .bool t:=by simpa [hx]using h
  rw [hy]
theorem y9{c:Cx}{d:Tmp}(h1:(ops[j]?).bind (·.dst)=some d)(h:aK c (.dK []) (tmps.getD d undef)):yielded ops tmps j=none:=by
 have h2:tmps.getD d undef = .tuple #[]:=by
  obtain⟨vs,h4,h5⟩:=h
  cases vs with
  | nil=>exact h4
  | cons=>exact h5.elim
 unfold yielded
 rw [h1]
 simp only [Option.bind_some]
 cases hx:tmps[d]? with
 | none=>rfl
 | some y =>
  have hy:y = .tuple #[]:=by simpa [hx]using h2
  rw [hy]
theorem aaX{dd:Option Tmp}(h:∀d,dd=some d->d ∉ o.looksAt ops):gOK ops o (put f dd v) b↔gOK ops o f b:=by
 unfold gOK
 cases hg:o.guard with
 | none=>rfl
 | some g =>
  obtain⟨j,want⟩:=g
  simp only
  have key:∀d,(ops[j]?).bind (·.dst)=some d->put f dd v d=f d:=by
   intro d h1
   cases dd with
   | none=>rfl
   | some e =>
    have o7:d≠e:=by
     rintro rfl
     exact h d rfl (List.mem_append_right _ (by simp [hg,h1]))
    simp [put,o7]
  constructor
  ·rintro⟨d,h1,h2⟩
   rw [key d h1]at h2
   exact⟨d,h1,h2⟩
  ·rintro⟨d,h1,h2⟩
   rw [<-key d h1]at h2
   exact⟨d,h1,h2⟩
theorem put_comm{x y:Option Tmp}{u:PV}(h:∀d,x=some d->y≠some d):put (put f x v) y u=put (put f y u) x v:=by
 cases x with
 | none=>rfl
 | some d =>
  cases y with
  | none=>rfl
  | some e =>
   have o7:d≠e:=fun he=>h d rfl (by rw [he])
   funext j
   simp only [put]
   split<;>split<;>simp_all
theorem HF(h:∀r,u≠some (j,r)):fP rows u j=rows j:=by
 cases u with
 | none=>rfl
 | some x =>
  obtain⟨i,r⟩:=x
  simp only [fP,eO]
  rw [if_neg]
  rintro rfl
  exact h r rfl
theorem tF{wl:Nat->Nat->Prop}:wlU i u wl k id↔(k=i ∧ ∃r,u=some (id,r))∨wl k id:=by
 cases u with
 | none=>simp [wlU]
 | some x =>
  obtain⟨lC,r⟩:=x
  simp only [wlU,Option.some.injEq,Prod.mk.injEq]
  constructor
  ·rintro(⟨h1,h2⟩ | h)
   ·exact .inl ⟨h1,r,h2.symm,rfl⟩
   ·exact .inr h
  ·rintro(⟨h1,r',h2,_⟩ | h)
   ·exact .inl ⟨h1,h2.symm⟩
   ·exact .inr h
theorem OG{b8:Nat->Nat->Prop}:SB md ops.toList i u b8 ↔ ∀id r,u=some (id,r) -> ∀k,b8 k id->uU md ops.toList i k=true:=by
 cases u with
 | none=>simp [SB]
 | some x =>
  obtain⟨lC,r⟩:=x
  simp only [SB,EF,Option.some.injEq,Prod.mk.injEq]
  constructor
  ·rintro h _ _ ⟨rfl,_⟩;exact h
  ·intro h;exact h _ _ ⟨rfl,rfl⟩
theorem akP{bi:Bool}{vi:PV}{ui:Option (Nat × Row)}(hj:ops[j]? = some oj)(hap:oi.apart ops oj=true)(hds:eM E oi.op=true->oi.dst.isSome=true)(aCF:eM E oj.op=true->oj.dst.isSome=true)(hdj:uU md ops.toList j i=false){K:ST->Prop}{st:ST}
  (hy:YG E md ops c0 i oi bi vi ui st) (ho:SB md ops.toList i ui st.b8) (h:qOp E md ops c0 j K (app i oi bi vi ui st)) :
  qOp E md ops c0 j (fun st'=>YG E md ops c0 i oi bi vi ui st'∧SB md ops.toList i ui st'.b8∧K (app i oi bi vi ui st')) st:=by
 obtain⟨h1,h2,h3⟩:=Oper.apart_spec hap
 unfold qOp at h |-
 simp only [hj]at h |-
 obtain⟨bj,vj,uj,⟨hgj,hyj⟩,hoj,hK⟩:=h
 obtain⟨hgi,hyi⟩:=hy
 rw [OG]at hoj ho
 have ej:∀x∈oj.op.operands,aR (put st.f oi.dst vi) x=aR st.f x:=fun x hx=>aaW fun t ht=>SE (h1 t ht) hx
 have ei:∀x∈oi.op.operands,aR (put st.f oj.dst vj) x=aR st.f x:=fun x hx=>aaW fun t ht=>SE (h3 t ht) hx
 have aCG:gOK ops oj st.f bj:=(aaX h1).1 hgj
 have hnw:∀id r,fE md ops.toList j (app i oi bi vi ui st).wl (app i oi bi vi ui st).rows id=some r -> ∀r',ui≠some (id,r'):=by
  intro id r hr r' hu
  obtain⟨hw,_⟩:=n4.1 hr
  have:=hw i (tF.2 (.inl ⟨rfl,r',hu⟩))
  rw [hdj]at this;cases this
 have hle:∀ids,l8 ids (fE md ops.toList j (app i oi bi vi ui st).wl (app i oi bi vi ui st).rows) (fE md ops.toList j st.wl st.rows):=by
  intro ids id _ r hr
  have hn:=hnw id r hr
  obtain⟨hw,jO⟩:=n4.1 hr
  simp only [app]at jO hw
  rw [HF hn]at jO
  exact n4.2 ⟨fun k hk=>hw k (tF.2 (.inr hk)),jO⟩
 have aCH:(if bj=true then yn E (c0+rk E ops.toList j) oj.dst oj.op (aR st.f) (fE md ops.toList j st.wl st.rows) vj uj else vj = .dK []∧uj=none) ∧
   (bj=true -> ∀id∈j4 oj.op (aR st.f),∃r,fE md ops.toList j (app i oi bi vi ui st).wl (app i oi bi vi ui st).rows id=some r)∧(∀id r,uj=some (id,r)->bj=true∧((eM E oj.op=true∧id=oj.dst.getD 0)∨id∈j4 oj.op (aR st.f))):=by
  by_cases hb:bj=true
  ·rw [if_pos hb]at hyj |-
   have akQ:=(SD ej).1 hyj
   obtain⟨g1,g2,g3⟩:=aaV (hle _) akQ
   exact⟨g1,fun _=>g2,fun id r hu=>⟨hb,g3 id r hu⟩⟩
  ·rw [if_neg hb]at hyj |-
   exact⟨hyj,fun h=>absurd h hb,fun id r hu=>by rw [hyj.2]at hu;cases hu⟩
 obtain⟨aCI,akQ,aCJ⟩:=aCH
 have aCK:SB md ops.toList j uj st.b8:=OG.2 fun id r hu k hk=>hoj id r hu k (.inr hk)
 have hfi:∀id r,uj=some (id,r)->¬(bi=true∧id∈j4 oi.op (aR st.f)):=by
  intro id r hu hh
  have:=hoj id r hu i (.inl ⟨hh.1,rfl,hh.2⟩)
  rw [hdj]at this;cases this
 have hui:∀id r,ui=some (id,r)->bi=true∧((eM E oi.op=true∧id=oi.dst.getD 0)∨id∈j4 oi.op (aR st.f)):=by
  intro id r hu
  by_cases hb:bi=true
  ·rw [if_pos hb]at hyi
   exact⟨hb,(aaV (rows':=fE md ops.toList i st.wl st.rows) (fun id _ r hr=>hr) hyi).2.2 id r hu⟩
  ·rw [if_neg hb]at hyi
   rw [hyi.2]at hu;cases hu
 have o7:∀id r r',ui=some (id,r)->uj=some (id,r')->False:=by
  intro id r r' hu1 hu2
  obtain⟨hb,hh⟩:=aCJ id r' hu2
  rcases hh with hh | hh
  ·obtain⟨OD,hh1⟩:=hui id r hu1
   rcases hh1 with hh1 | hh1
   ·obtain⟨d,hd⟩:=Option.isSome_iff_exists.1 (hds hh1.1)
    have e1:id=d:=by rw [hh1.2,hd];rfl
    cases aqi:oj.dst with
    | none=>exact absurd aqi (fun he=>by have:=aCF hh.1;rw [he]at this;cases this)
    | some d' =>
     have e2:id=d':=by rw [hh.2,aqi];rfl
     exact h2 d hd (by rw [aqi,<-e2,e1])
   ·exact hfi id r' hu2 ⟨OD,hh1⟩
  ·obtain⟨r'',aCM⟩:=akQ hb id hh
   exact hnw id r'' aCM r hu1
 have aCN:bi=true->l8 (j4 oi.op (aR st.f)) (fE md ops.toList i st.wl st.rows) (fE md ops.toList i (app j oj bj vj uj st).wl (app j oj bj vj uj st).rows):=by
  intro hb id iH r hr
  obtain⟨hw,jO⟩:=n4.1 hr
  have hn:∀r',uj≠some (id,r'):=fun r' hu=>hfi id r' hu ⟨hb,iH⟩
  refine n4.2 ⟨fun k hk=>?_,?_⟩
  ·rcases tF.1 hk with ⟨_,r',hu⟩ | hk
   ·exact absurd hu (hn r')
   ·exact hw k hk
  ·simp only [app];rw [HF hn];exact jO
 refine⟨bj,vj,uj,⟨aCG,aCI⟩,aCK,⟨(aaX h3).2 hgi,?_⟩,?_,?_⟩
 ·by_cases hb:bi=true
  ·rw [if_pos hb]at hyi |-
   refine(SD ei).2 ?_
   exact(aaV (aCN hb) hyi).1
  ·rw [if_neg hb]at hyi |-;exact hyi
 ·-- i's own row has not aIK aAr
  rw [OG]
  rintro id r hu k (⟨hb,rfl,hh⟩ | hh)
  ·obtain⟨r',jO⟩:=akQ hb id hh
   exact absurd hu (hnw id r' jO r)
  ·exact ho id r hu k hh
 ·have:app i oi bi vi ui (app j oj bj vj uj st)=app j oj bj vj uj (app i oi bi vi ui st):=by
   simp only [app,ST.mk.injEq]
   refine⟨put_comm fun d hd=>fun hd'=>(h2 d) (by first | exact hd | exact hd') (by first | exact hd' | exact hd),?_,?_,?_⟩
   ·cases ui with
    | none=>rfl
    | some x =>
     cases uj with
     | none=>rfl
     | some y =>
      obtain⟨id,r⟩:=x
      obtain⟨lC,r'⟩:=y
      have:id≠lC:=fun e=>o7 id r r' rfl (by rw [e])
      funext k
      simp only [fP,eO]
      split<;>split<;>simp_all
   ·funext k id
    have e1:j4 oi.op (aR (put st.f oj.dst vj))=j4 oi.op (aR st.f):=HE ei
    have e2:j4 oj.op (aR (put st.f oi.dst vi))=j4 oj.op (aR st.f):=HE ej
    rw [e1,e2]
    apply propext
    constructor
    ·rintro(h | h | h)
     ·exact .inr (.inl h)
     ·exact .inl h
     ·exact .inr (.inr h)
    ·rintro(h | h | h)
     ·exact .inr (.inl h)
     ·exact .inl h
     ·exact .inr (.inr h)
   ·funext k id
    apply propext
    rw [tF,tF,tF,tF]
    constructor
    ·rintro(h | h | h)
     ·exact .inr (.inl h)
     ·exact .inl h
     ·exact .inr (.inr h)
    ·rintro(h | h | h)
     ·exact .inr (.inl h)
     ·exact .inl h
     ·exact .inr (.inr h)
  rw [this];exact hK
theorem SG{f:Nat}:SA md ops.toList (f+1) j k=true ↔ ∃oj,ops[j]? = some oj ∧ ∃e∈oj.after,Region.binds md e=true∧(e.on=k∨SA md ops.toList f e.on k=true):=by
 rw [SA]
 cases h:ops[j]? with
 | none=>simp [show ops.toList[j]? = none by simpa using h]
 | some oj =>
  rw [show ops.toList[j]? = some oj by simpa using h]
  simp only [List.any_eq_true,Bool.and_eq_true,Bool.or_eq_true,beq_iff_eq,Option.some.injEq]
  constructor
  ·rintro⟨e,he,h1,h2⟩;exact⟨oj,rfl,e,by simpa using he,h1,h2⟩
  ·rintro⟨_,rfl,e,he,h1,h2⟩;exact⟨e,by simpa using he,h1,h2⟩
theorem SH(inv:HeadInv md ops n bL):∀(f j:Nat) (oj:Oper),ops[j]? = some oj->(∀e∈oj.after,Region.binds md e=true->bL.getD e.on false=true)->SA md ops.toList f j i=true->bL.getD i false=true:=by
 intro f
 induction f with
 | zero=>intro j oj _ _ h;rw [SA]at h;cases h
 | succ f ih =>
  intro j oj hj hr h
  obtain⟨o,ho,e,he,h1,h2⟩:=SG.1 h
  rw [hj]at ho;cases ho
  have h3:=hr e he h1
  rcases h2 with rfl | h2
  ·exact h3
  ·cases f with
   | zero=>rw [SA]at h2;cases h2
   | succ f =>
    obtain⟨o',ho',_⟩:=SG.1 h2
    exact ih e.on o' ho' (fun e' tE jH=>inv.closed e.on o' ho' h3 e' tE jH) h2
theorem akR(hj:ops[j]? = some oj)(inv:HeadInv md ops n bL)(hr:∀e∈oj.after,Region.binds md e=true->bL.getD e.on false=true)(hun:bL.getD i false=false):uU md ops.toList j i=false:=by
 cases hd:uU md ops.toList j i with
 | false=>rfl
 | true=>rw [SH inv 12 j oj hj hr hd]at hun;cases hun
end
section
variable {E:Env} {ops:Array Oper} {md:Region.Mode}
def SI(E:Env)(md:Region.Mode)(ops:Array Oper)(c0 n:Nat)(L:Array Bool->ST->Prop):Nat->Array Bool->ST->Prop
 | 0,bL,st=>L bL st
 | f+1,bL,st=>Region.ready md ops bL ≠ [] ∧ ∀i∈Region.ready md ops bL,i<n∧qOp E md ops c0 i (SI E md ops c0 n L f (bL.setIfInBounds i true)) st
theorem SJ{L:Array Bool->ST->Prop}(hi:ops[i]? = some oi)(tD:∀i oi,i<n->ops[i]? = some oi->eM E oi.op=true->oi.dst.isSome=true)
  (HG:∀bL,HeadInv md ops n bL -> ∀i,i<n->bL.getD i true=false -> ∀t,n<=t->t ∉ Region.ready md ops bL) (hin:i<n)
  (awn:∀bL st,L bL st -> ∀j∈Region.ready md ops bL,n<=j) :
  ∀(f:Nat) (bL:Array Bool) (st:ST),HeadInv md ops n bL ->
   (∀j oj,ops[j]? = some oj->j≠i->bL.getD j true=false->(∀e∈oj.after,Region.binds md e=true->e.on≠i)->oi.apart ops oj=true) ->
   i∈Region.ready md ops bL->YG E md ops c0 i oi b v u st->SB md ops.toList i u st.b8 ->
   SI E md ops c0 n L f (bL.setIfInBounds i true) (app i oi b v u st)->SI E md ops c0 n L (f+1) bL st:=by
 intro f
 induction f with
 | zero =>
  intro bL st inv _ hr hy ho H
  have hun:=(mem_ready.1 hr).1
  refine⟨fun h=>(by rw [h]at hr;cases hr),fun j hj=>?_⟩
  have hjn:j<n:=by
   rcases Nat.lt_or_ge j n with h | h
   ·exact h
   ·exact absurd hj (HG bL inv i hin hun j h)
  refine⟨hjn,?_⟩
  by_cases J7:j=i
  ·subst J7;unfold qOp;simp only [hi];exact⟨b,v,u,hy,ho,H⟩
  ·have:=awn _ _ H j (ready_mono hj J7)
   omega
 | succ f ih =>
  intro bL st inv anM hr hy ho H
  have hun:=(mem_ready.1 hr).1
  refine⟨fun h=>(by rw [h]at hr;cases hr),fun j hj=>?_⟩
  have hjn:j<n:=by
   rcases Nat.lt_or_ge j n with h | h
   ·exact h
   ·exact absurd hj (HG bL inv i hin hun j h)
  refine⟨hjn,?_⟩
  by_cases J7:j=i
  ·subst J7;unfold qOp;simp only [hi];exact⟨b,v,u,hy,ho,H⟩
  ·have h1:=(H.2 j (ready_mono hj J7)).2
   obtain⟨awp,oj,hoj,zA⟩:=mem_ready.1 hj
   have aqj:∀e∈oj.after,Region.binds md e=true->e.on≠i:=fun e he hb heq=>by
    have h1:=zA e he hb
    rw [heq,getD_both hun]at h1
    cases h1
   have h2:=akP hoj (anM j oj hoj J7 awp aqj) (tD i oi hin hi) (tD j oj hjn hoj) (akR hoj inv zA (getD_both hun)) hy ho h1
   have aqk:∀k ok,ops[k]? = some ok->k≠i->(bL.setIfInBounds j true).getD k true=false ->
     (∀e∈ok.after,Region.binds md e=true->e.on≠i)->oi.apart ops ok=true:=fun k ok hk hki awq LS=>by
    refine anM k ok hk hki ?_ LS
    by_cases hjk:j=k
    ·subst hjk;exact awp
    ·rw [getD_set_ne true hjk]at awq;exact awq
   refine afZ (fun st' h3=>ih (bL.setIfInBounds j true) st' (inv.set hj hjn) aqk (ready_mono hr (Ne.symm J7)) h3.1 h3.2.1 ?_) h2
   rw [Array.setIfInBounds_comm _ _ J7]
   exact h3.2.2
def aql(E:Env)(md:Region.Mode)(ops:Array Oper)(c0:Nat)(Lq:ST->Prop):Nat->List Oper->ST->Prop
 | _,[],st=>Lq st
 | k,o::os,st=>∃b v u,YG E md ops c0 k o b v u st∧SB md ops.toList k u st.b8∧aql E md ops c0 Lq (k+1) os (app k o b v u st)
theorem w8{c0 n g:Nat}{Lq:ST->Prop}(tD:∀i oi,i<n->ops[i]? = some oi->eM E oi.op=true->oi.dst.isSome=true)(HG:∀bL,HeadInv md ops n bL -> ∀i,i<n->bL.getD i true=false -> ∀t,n<=t->t ∉ Region.ready md ops bL) :
  ∀(l:List Oper) (k:Nat) (bL:Array Bool) (st:ST),(∀j,j<l.length->l[j]? = ops[k+j]?)->k+l.length=n->HeadInv md ops n bL ->
  Region.lexHead md ops g l.length k bL=true->aql E md ops c0 Lq k l st ->
  SI E md ops c0 n (fun aa1 st'=>Region.seqB md ops g n aa1=true∧Lq st') l.length bL st
 | [],k,bL,st,_,hk,_,hB,h=>by
  have:k=n:=by simpa using hk
  subst this
  exact⟨by simpa [Region.lexHead]using hB,h⟩
 | o::l,k,bL,st,hl,hk,inv,hB,h=>by
  have h0:ops[k]? = some o:=by simpa using(hl 0 aG).symm
  simp only [List.length_cons,Region.lexHead,Bool.and_eq_true]at hB
  obtain⟨⟨hr,hf⟩,hB'⟩:=hB
  have hkn:k<n:=by simp only [List.length_cons]at hk;omega
  have jO:k∈Region.ready md ops bL:=by simpa using hr
  obtain⟨b,v,u,hy,ho,hK⟩:=h
  exact SJ h0 tD HG hkn (fun aa1 st' hL=>seqB_ready hL.1) l.length bL st inv (Region.free_spec h0 hf) jO hy ho
   (w8 tD HG l (k+1) _ _ (fun j hj=>by have:=hl (j+1) (by simp;omega);simpa [Nat.add_assoc,Nat.add_comm 1 j]using this) (by simp only [List.length_cons]at hk;omega) (inv.set jO hkn) hB' hK)
variable {w0:World} {S0:eU} {m:Nat} {G:Gs}
theorem XJ(iR:¬U c0){aME:Array Operand}(ho:o.op = .call { callee:=.value (.func g),args:=aME,argTypes:=ts })
  (hy:anK E g (aME.toList.map fun x=>aR f x) c0 (o.dst.getD 0) v u) (hR:sN w0 S0 m G U f rows a w) (hd:∀t,o.dst=some t->t<m)
 (hK:∀a' w',sN w0 S0 m G (fun v=>v=c0∨U v) (put f o.dst v) (fP rows u) a' w'->K' a' w'):o.wp E.P a w K' Q:=by
 obtain⟨⟨c,rfl,hr,gS,hI,hf,hG⟩,hn,gF⟩:=hR
 have hρ:=pI hf
 have hfu:¬c.used c0:=fun hu=>iR (gS _ hu)
 obtain⟨yG,e,n,els,⟨⟨fn,b,h1,h2,h3⟩,CZ⟩,rfl,rfl⟩:=hy
 obtain⟨dst,op,type,pos,after,guard⟩:=o
 simp only at ho hd hK
 subst ho
 have dQ:bA (aK c) (aME.toList.map fun x=>aR f x) (aME.map a.eval).toList:=by
  refine bA.cI aG fun k p u hp hu=>?_
  simp at hp hu
  obtain⟨x,hx,rfl⟩:=hp
  obtain⟨y,hy,rfl⟩:=hu
  rw [hx]at hy;cases hy
  exact hρ x
 have gE:b6 c.S c.w (aME.toList.map fun x=>aR f x) (aME.map a.eval).toList:=cX.2 (bA.cI dQ.length fun k p u hp hu=>by
  obtain⟨u',q1,q2⟩:=dQ.get hp
  rw [hu]at q1;cases q1
  exact q2.rep (List.all_eq_true.1 yG p (List.mem_of_getElem? hp)))
 have kV:=CZ c.w c.S _ (fun b o hb=>hI.lt hb) gE
 simp only [Array.toArray_toList]at kV
 have OA:=hρ (.func g)
 simp only [aR,aK,aM,dY]at OA
 obtain⟨cs,hfv,GZ⟩:=OA
 simp only [b6]at GZ
 subst GZ
 unfold Oper.wp
 have jU:(execOp a.eval { dst:=dst,op:=.call { callee:=.value (.func g),args:=aME,argTypes:=ts },type:=type,pos:=pos,after:=after,guard:=guard }).run E.P c.w = .ok (.enter g (aME.map a.eval)) c.w:=by
  simp only [execOp,resolve,hfv,Deferred.ofValue,Sem.run_bind,Sem.run_pure,Result.andThen_ok,invoke]
  simpa using i6 h1 h2 h3 (aME.map a.eval) c.w
 rw [jU]
 refine kV.mono ?_
 rintro x w' ⟨v',xs,S',rfl,hb,g1,g2,g3,g4,g5,g6,g7,g8⟩
 obtain⟨hI2,hA2⟩:=hI.grow hb g1 g2
 obtain⟨hI3,hA3⟩:=hI2.set (w':=w') (ob:=v'.ownBlock) (id:=dst.getD 0) (r':=⟨c0,e,n,els⟩) (v':=v') (xs:=xs) (World.grownBy.refl _ _)
  (fun g hg=>by
   have hge:=(g3.lt g hg).1
   refine⟨by have:=hI.below.size;omega,fun o=>g8 g o hg,fun lC r hr _ jH=>?_⟩
   obtain⟨⟨ys,q1,_,_⟩,_⟩:=hI.row lC r hr
   have:=(q1.lt g jH).2
   omega) ⟨g3.1,g3.2.imp id fun⟨g,cap,cur,q1,q2,q3⟩=>⟨g,cap,cur,q1,Nat.le_trans hI.below.size q2,q3⟩⟩ (g4.mono fun _ _ h=>aM.jS h) g5 g6 g7 (fun g hg => .inl hg) hfu
 refine hK _ _ ?_
 have hf2:∀s,aK { c with S:=S',w:=w' } (f s) (a.tmps.getD s undef):=fun s=>aK.tB hA2 _ _ (hf s)
 have hG2:∀p∈G,aK { c with S:=S',w:=w' } p.1 p.2:=fun p hp=>aK.tB hA2 _ _ (hG p hp)
 refine vH hf2 hG2 hn gF hA3 hI3 ?_ hd rfl (by simp [fP,hr]) (fun v hv=>hv.imp (fun h=>h) (gS v))
 rcases g3.2 with ⟨rfl,h8⟩ | ⟨g,l7,cur,rfl,_⟩
 ·have:els.length=0:=h8
  rw [this]
  exact oO (r:=⟨c0,e,n,els⟩) (A:=none) (cap:=0) (by simp [eO]) (by simpa using h8) (Or.inl rfl) (by simp [eO])
 ·exact oO (r:=⟨c0,e,n,els⟩) (by simp [eO]) rfl (Or.inl rfl) (by simp [eO])
theorem af2(iR:¬U c0)(hn:eM E o.op=true)(hy:yn E c0 o.dst o.op (aR f) rows v u)(hR:sN w0 S0 m G U f rows a w)(hd:∀t,o.dst=some t->t<m)
 (hK:∀a' w',sN w0 S0 m G (fun v=>v=c0∨U v) (put f o.dst v) (fP rows u) a' w'->K' a' w'):o.wp E.P a w K' Q:=by
 by_cases kV:∃g aME ts,o.op = .call { callee:=.value (.func g),args:=aME,argTypes:=ts }∧E.writes g=true
 ·obtain⟨g,aME,ts,ho,hw⟩:=kV
  rw [ho]at hy
  simp only [yn]at hy
  rw [if_pos hw]at hy
  exact XJ iR ho hy hR hd hK
 refine A3 (ver:=c0) iR (K:=fun _ f' rows'=>f'=put f o.dst v∧rows'=fP rows u) ?_ hR hd (fun i f' rows' a' w' h lE=>by
  obtain⟨rfl,rfl⟩:=h
  exact hK a' w' (lE.mono fun v hv=>hv.imp (fun h=>h.2) fun h=>h))
 obtain⟨dst,op,type,pos,after,guard⟩:=o
 simp only at hn hy kV |-
 refine rH hn ?_ ?_ ?_ ?_ ?_
 ·rintro t rfl
  simp only [yn]at hy
  obtain⟨h2,rfl,rfl⟩:=hy
  exact⟨h2,rfl,rfl⟩
 ·rintro t x rfl
  simp only [yn]at hy
  obtain⟨h2,l,h3,h4,h5,rfl,rfl⟩:=hy
  exact⟨h2,l,h3,fun q hq=>OE (fun id _ r hr=>by cases hr) (h4 q hq),h5,rfl,rfl⟩
 ·rintro t l cc rfl
  simp only [yn]at hy
  simp only [r7]
  split at hy
  ·rename_i e n b z k1 x k2 y hE hl hc
   obtain⟨g1,g2,g3,g4,rfl,rfl⟩:=hy
   try rw [hE,hl,hc]
   exact⟨g1,g2,g3,g4,rfl,rfl⟩
  ·exact hy.elim
 ·rintro x y t t2 rfl
  simp only [yn]at hy
  obtain⟨h2,hy⟩:=hy
  simp only [r7]
  refine⟨h2,?_⟩
  unfold yJ at hy
  unfold sP
  split at hy
  ·rename_i e n b z hE
   obtain⟨l,g1,g2,g3⟩:=hy
   rw [hE]
   refine⟨l,g1,g2,?_⟩
   split at g3
   ·rename_i hx
    obtain⟨q1,q2,rfl,rfl⟩:=g3
    rw [hx]
    exact⟨q1,q2,rfl,rfl⟩
   ·rename_i id ver off len hx
    obtain⟨r,q1,q2,q3,q4,q5,q6,q7,q8,rfl,rfl⟩:=g3
    rw [hx]
    exact⟨r,q1,q2,q3,q4,q5,q6,q7,q8,rfl,rfl⟩
   ·rename_i l0 hx
    obtain⟨q1,q2,q3,q4,rfl,rfl⟩:=g3
    rw [hx]
    exact⟨q1,q2,q3,q4,rfl,rfl⟩
   ·exact g3.elim
  ·exact hy.elim
 ·rintro g aME ts rfl hw
  exact absurd ⟨g,aME,ts,rfl,hw⟩ kV
theorem ac2{st:ST}{K:ST->Prop}(iR:∀o,ops[i]? = some o->eM E o.op=true->¬U (c0+rk E ops.toList i))(h:qOp E md ops c0 i K st)(hR:sN w0 S0 m G U st.f st.rows a w)(hd:∀o,o∈ops -> ∀t,o.dst=some t->t<m)
 (hK:∀st' a' w',K st'->sN w0 S0 m G (fun v=>(v=c0+rk E ops.toList i ∧ ∃o,ops[i]? = some o∧eM E o.op=true)∨U v) st'.f st'.rows a' w'->K' a' w'):wpOp E.P ops Q i K' a w:=by
 unfold qOp at h
 unfold wpOp
 split at h
 ·rename_i hi;simp only [hi];exact hK _ _ _ h (hR.mono fun v hv => .inr hv)
 ·rename_i o hi
  simp only [hi]
  obtain⟨b,v,u,⟨hg,hy⟩,ho,hk⟩:=h
  have lE:=hR
  obtain⟨⟨c,rfl,hr,gS,hI,hf,hG⟩,hn,gF⟩:=hR
  have hdo:=hd o (Array.mem_of_getElem? hi)
  have anN:Region.wanted o (yielded ops a.tmps)=b:=by
   unfold gOK at hg
   unfold Region.wanted
   cases hgd:o.guard with
   | none=>rw [hgd]at hg;simp only at hg |-;exact hg.symm
   | some x =>
    obtain⟨j,want⟩:=x
    rw [hgd]at hg
    simp only at hg |-
    obtain⟨d,h1,h2⟩:=hg
    have hx:=hf d
    rcases h2 with ⟨h2,h3⟩ | ⟨h2 | h2,h3⟩
    ·rw [h2]at hx
     rw [kO h1 hx,h3]
     cases want<;>rfl
    ·rw [h2]at hx
     rw [kO h1 hx,h3]
     cases want<;>rfl
    ·rw [h2]at hx
     rw [y9 h1 hx,h3]
     rfl
  by_cases hb:b=true
  ·subst hb
   rw [if_pos rfl]at hy
   rw [anN,if_pos rfl]
   left
   cases tD:eM E o.op with
   | true =>
    refine af2 (iR o hi tD) tD (aaV (fun id _ r jO=>(n4.1 jO).2) hy).1 lE hdo fun a' w' hR2=>hK _ _ _ hk ?_
    exact hR2.mono fun v hv=>hv.imp (fun h=>⟨h,o,by first | exact hi | rfl,tD⟩) fun h=>h
   | false =>
    rw [HC tD]at hy
    have C0:ys E o.op (aR st.f) c.rows v u:=by
     rw [hr]
     exact(anJ (fun id _ r jO=>(n4.1 jO).2) hy).1
    refine R9 hI hf C0 fun v' c' h1 h2 h3 h4 h5=>hK _ _ _ hk ?_
    refine acU hf hG hn gF h3 h4 h5 hdo rfl ?_ ?_
    ·simp only [app]
     rw [h1,hr]
    ·rw [h2]
     exact fun v hv => .inr (gS v hv)
  ·rw [if_neg hb]at hy
   obtain⟨rfl,rfl⟩:=hy
   rw [anN,if_neg hb]
   refine hK _ _ _ hk ?_
   have jH:b=false:=by simpa using hb
   subst jH
   exact vH hf hG hn gF (xW.refl c) hI XI hdo rfl (by rw [hr];rfl) (fun v hv => .inr (gS v hv))
def Ul(E:Env)(ops:Array Oper)(c0 n:Nat)(bL:Array Bool):Nat->Prop:=fun v=>v<c0 ∨ ∃k o,k<n∧ops[k]? = some o∧eM E o.op=true∧v=c0+rk E ops.toList k∧bL.getD k false=true
theorem XK{v:Nat}(h:Ul E ops c0 n bL v):v<c0+rk E ops.toList n:=by
 rcases h with h | ⟨k,o,hk,ho,hn,rfl,_⟩
 ·omega
 ·have:=afV (ops:=ops.toList) (by simpa using ho) hn hk
  omega
theorem oK{c0 n g:Nat}{L:Array Bool->ST->Prop}{Q:Exit->Act->World->Prop}(hd:∀o,o∈ops -> ∀t,o.dst=some t->t<m)
  (hL:∀bL (st:ST) a w,L bL st->sN w0 S0 m G (Ul E ops c0 n bL) st.f st.rows a w->wpAny E.P md ops Q g bL a w) :
  ∀(f:Nat) (bL:Array Bool) (st:ST) (a:Act) (w:World),n<=bL.size->SI E md ops c0 n L f bL st->sN w0 S0 m G (Ul E ops c0 n bL) st.f st.rows a w->wpAny E.P md ops Q (f+g) bL a w
 | 0,bL,st,a,w,_,h,hR=>by rw [Nat.zero_add];exact hL _ _ _ _ h hR
 | f+1,bL,st,a,w,rE,h,hR=>by
  rw [show f+1+g=(f+g)+1 by omega]
  refine⟨fun h0=>absurd h0 h.1,fun i hi=>?_⟩
  have hun:=(mem_ready.1 hi).1
  obtain⟨hin,hq⟩:=h.2 i hi
  refine ac2 (fun o ho hn hU=>?_) hq hR hd fun st' a' w' h' lE=>oK hd hL f _ st' a' w' (by simpa using rE) h' (lE.mono fun v hv=>?_)
  ·rcases hU with hU | ⟨k,o',hk,ho',FE,he,hl⟩
   ·omega
   ·have:=aqf (ops:=ops.toList) (by simpa using ho) hn (by simpa using ho') FE aA
    subst this
    rw [getD_both hun]at hl;cases hl
  ·rcases hv with ⟨rfl,o,ho,hn⟩ | hv
   ·exact .inr ⟨i,o,hin,ho,hn,rfl,by simp [show i<bL.size by omega]⟩
   ·rcases hv with hv | ⟨k,o,hk,ho,hn,he,hl⟩
    ·exact .inl hv
    ·refine .inr ⟨k,o,hk,ho,hn,he,?_⟩
     by_cases hki:i=k
     ·subst hki;simp [show i<bL.size by omega]
     ·simpa [Array.getElem?_setIfInBounds_ne hki]using hl
end
def aP(E:Env)(ops:List Oper):List Oper->(PS->Prop)->PS->Prop
 | [],K,σ=>K σ
 | o::os,K,σ =>
  match o.guard with
  | none=>gV E o (aP E ops os K) σ
  | some (j,want) =>
   match (ops[j]?).bind (·.dst)with
   | none=>False
   | some d=>(σ.f d = .bool want∧gV E o (aP E ops os K) σ)∨((σ.f d = .bool (!want)∨σ.f d = .dK [])∧aP E ops os K (σ.put o.dst (.dK [])))
def aX(E:Env)(ops:List Oper)(clk:Nat):Nat->List Oper->(PS->Prop)->ST->Prop
 | _,[],K,st=>K ⟨st.f,st.rows,clk⟩
 | k,o::os,K,st =>
  match o.guard with
  | none=>∃v u,yn E clk o.dst o.op (aR st.f) (fE .any ops k st.wl st.rows) v u∧SB .any ops k u st.b8∧aX E ops (kN E o.op clk) (k+1) os K (app k o true v u st)
  | some (j,want) =>
   match (ops[j]?).bind (·.dst)with
   | none=>False
   | some d=>(st.f d = .bool want ∧ ∃v u,yn E clk o.dst o.op (aR st.f) (fE .any ops k st.wl st.rows) v u∧SB .any ops k u st.b8∧aX E ops (kN E o.op clk) (k+1) os K (app k o true v u st))∨((st.f d = .bool (!want)∨st.f d = .dK [])∧aX E ops clk (k+1) os K (app k o false (.dK []) none st))
def jK(E:Env)(tl:Nat)(ops:List Oper)(K:PS->Prop)(σ:PS):Prop:=
 if tl=0 then aX E ops σ.clock 0 ops K ⟨σ.f,σ.rows,fun _ _=>False,fun _ _=>False⟩
 else aX E ops σ.clock 0 (ops.take (ops.length-tl)) (aP E ops (ops.drop (ops.length-tl)) K) ⟨σ.f,σ.rows,fun _ _=>False,fun _ _=>False⟩
inductive PX where
 | normal
 | exit (id:Nat)
 | ret
def KP(K:PS->Prop)(Q:PX->PS->Prop):PX->PS->Prop
 | .normal,σ=>K σ
 | .exit id,σ=>Q (.exit id) σ
 | .ret,σ=>Q .ret σ
def KQ(id:Nat)(Q:PX->PS->Prop):PX->PS->Prop
 | .normal,σ=>Q .normal σ
 | .exit j,σ=>if j=id then Q .normal σ else Q (.exit j) σ
 | .ret,σ=>Q .ret σ
def vJ(E:Env)(n tl:Nat)(ops:Array Oper)(draw:Bool):Bool:=
 (ops.all fun o=>match o.dst with | some d=>decide (d<n) | none=>true) &&
 (!draw || (y8 E (if tl=0 then ops.toList else ops.toList.take (ops.size-tl))&&(if tl=0 then Region.noSelect ops&&Region.lexHead .any ops 0 ops.size 0 (Array.replicate ops.size false)else decide (tl<=ops.size)&&Region.lexTailB .any ops (ops.size-tl))))
def fQ(E:Env)(n:Nat)(tl:Nat->Nat):Code->Bool
 | .region id ops draw=>vJ E n (tl id) ops draw
 | .seq a b=>fQ E n tl a&&fQ E n tl b
 | .cond _ t e=>fQ E n tl t&&fQ E n tl e
 | .block _ c=>fQ E n tl c
 | .loop c=>fQ E n tl c
 | _=>true
section
variable {E:Env} {w0:World} {S0:eU} {n:Nat} {G:Gs}
theorem j5{ops:Array Oper}{K:PS->Prop}{Q:Exit->Act->World->Prop}(hK:∀σ' a' w',K σ'->Rel w0 S0 n G σ' a' w'->Q .normal a' w') :
  ∀(l:List Oper) (σ:PS) (a:Act) (w:World),(∀o∈l,∀t,o.dst=some t->t<n)->aP E ops.toList l K σ->Rel w0 S0 n G σ a w->wpList E.P ops Q l a w
 | [],σ,a,w,_,h,hR=>hK _ _ _ h hR
 | o::os,σ,a,w,hd,h,hR=>by
  have hdo:=hd o aG
  have hds:∀o∈os,∀t,o.dst=some t->t<n:=fun o ho=>hd o (by simp [ho])
  have wanted:∀ {σ},gV E o (aP E ops.toList os K) σ->Rel w0 S0 n G σ a w->o.wp E.P a w (wpList E.P ops Q os) Q:=fun hp hR =>
   EE hp hR hdo fun σ' a' w' hk lE=>j5 hK os σ' a' w' hds hk lE
  unfold wpList
  simp only [aP]at h
  split at h
  ·rename_i hg
   rw [if_pos (by simp [Region.wanted,hg])]
   exact .inl (wanted h hR)
  ·rename_i j want hg
   split at h
   ·exact h.elim
   ·rename_i d XL
    have hd3:(ops[j]?).bind (·.dst)=some d:=by simpa using XL
    have skip:yielded ops a.tmps j≠some want->aP E ops.toList os K (σ.put o.dst (.dK []))->(if Region.wanted o (yielded ops a.tmps)=true then o.wp E.P a w (wpList E.P ops Q os) Q∨(o.asks E.P a w∧LetsOut Q)else wpList E.P ops Q os (a.put o.dst undef) w):=by
     intro hy h2
     rw [if_neg (by simpa [Region.wanted,hg]using hy)]
     refine j5 hK os _ _ w hds h2 ?_
     obtain⟨⟨c,rfl,hr,gS,hI,hf,hG⟩,hn,gF⟩:=hR
     exact w6 hf hG hn gF (xW.refl c) hI XI hdo rfl (by simp [PS.put,hr]) gS
    obtain⟨c,_,_,_,_,hf,_⟩:=hR.ex
    have hx:=hf d
    rcases h with ⟨h1,h2⟩ | ⟨h1 | h1,h2⟩
    ·rw [h1]at hx
     rw [if_pos (by simp [Region.wanted,hg,kO hd3 hx])]
     exact .inl (wanted h2 hR)
    ·rw [h1]at hx
     exact skip (by rw [kO hd3 hx];cases want<;>simp) h2
    ·rw [h1]at hx
     exact skip (by rw [y9 hd3 hx];simp) h2
theorem sR{ops:Array Oper}{c0:Nat}{K:PS->Prop}:∀(l:List Oper) (k clk:Nat) (st:ST),(∀j,j<l.length->l[j]? = ops[k+j]?)->y8 E l=true->clk=c0+rk E ops.toList k->aX E ops.toList clk k l K st->aql E .any ops c0 (fun st=>K ⟨st.f,st.rows,c0+rk E ops.toList (k+l.length)⟩) k l st
 | [],k,clk,st,_,_,hc,h=>by subst hc;exact h
 | o::os,k,clk,st,hl,SK,hc,h=>by
  have aqo:y8 E os=true:=by simp only [y8,List.all_cons,Bool.and_eq_true]at SK |-;exact SK.2
  have aCQ:o.guard≠none->eM E o.op=false:=fun hg=>by
   simp only [y8,List.all_cons,Bool.and_eq_true]at SK
   cases hn:eM E o.op with
   | false=>rfl
   | true=>have:=SK.1;rw [hn]at this;simp at this;exact absurd this.2 hg
  have h0:ops[k]? = some o:=by simpa using(hl 0 aG).symm
  have AE:kN E o.op clk=c0+rk E ops.toList (k+1):=by rw [hc];exact akO (by simpa using h0)
  have hl1:∀j,j<os.length->os[j]? = ops[k+1+j]? := fun j hj=>by have:=hl (j+1) (by simp;omega);simpa [Nat.add_assoc,Nat.add_comm 1 j]using this
  have e1:k+(o::os).length=k+1+os.length:=by simp only [List.length_cons];omega
  rw [e1]
  simp only [aX]at h
  split at h
  ·rename_i hg
   obtain⟨v,u,h1,h2,h3⟩:=h
   exact⟨true,v,u,⟨by simp [gOK,hg],by rw [if_pos rfl,<-hc];exact h1⟩,h2,sR os _ _ _ hl1 aqo AE h3⟩
  ·rename_i j want hg
   split at h
   ·exact h.elim
   ·rename_i d XL
    have hd3:(ops[j]?).bind (·.dst)=some d:=by simpa using XL
    rcases h with ⟨h1,v,u,q1,q2,q3⟩ | ⟨h1,h2⟩
    ·exact⟨true,v,u,⟨by simp only [gOK,hg];exact⟨d,hd3, .inl ⟨h1,trivial⟩⟩,by rw [if_pos rfl,<-hc];exact q1⟩,q2,sR os _ _ _ hl1 aqo AE q3⟩
    ·exact⟨false, .dK [],none,⟨by simp only [gOK,hg];exact⟨d,hd3, .inr ⟨h1,trivial⟩⟩,aG⟩,trivial,sR os _ _ _ hl1 aqo (by rw [<-AE,HD (aCQ (by rw [hg];simp))]) h2⟩
theorem Rel.drew(h:Rel w0 S0 n G σ a w):Rel w0 S0 n G σ a { w with drawn:=w.drawn+1 }:=by
 obtain⟨⟨c,rfl,hr,gS,hI,hf,hG⟩,hn,gF⟩:=h
 obtain⟨pU,hA⟩:=hI.grow (w':={ c.w with drawn:=c.w.drawn+1 }) (S':=c.S) ⟨rfl,rfl,rfl,Nat.le_refl _,fun _ _=>rfl⟩ (fun _ _ h=>h) (fun _ _ h => .inl h)
 exact⟨⟨{ c with w:={ c.w with drawn:=c.w.drawn+1 } },rfl,hr,gS,pU,fun s=>aK.tB hA _ _ (hf s),fun p hp=>aK.tB hA _ _ (hG p hp)⟩,hn,gF⟩
theorem yK{ops:Array Oper}{K:PS->Prop}(iD:vJ E n tl ops true=true)(h:jK E tl ops.toList K σ)(hR:Rel w0 S0 n G σ a w)
  (hK:∀σ' a' w',K σ'->Rel w0 S0 n G σ' a' w'->Q .normal a' w'):(Code.region id ops true).wp E.P Q a w:=by
 simp only [vJ,Bool.and_eq_true,Bool.not_true,Bool.false_or]at iD
 obtain⟨aqp,yL,iD⟩:=iD
 have hd:∀o,o∈ops -> ∀t,o.dst=some t->t<n:=by
  intro o ho t ht
  have:=Array.all_eq_true_iff_forall_mem.1 aqp o ho
  simpa [ht]using this
 refine wp_region_any E.mixed ?_
 have KR:=hR.drew
 have hU0:∀k (l:Array Bool),sN w0 S0 n G (Ul E ops σ.clock k l) σ.f σ.rows a { w with drawn:=w.drawn+1 }:=fun k l=>KR.mono fun v hv => .inl hv
 have akT:∀(l:List Oper),y8 E l=true -> ∀(i:Nat) (oi:Oper),l[i]? = some oi->eM E oi.op=true->oi.dst.isSome=true:=fun l h i oi hi hn=>by
  have:=List.all_eq_true.1 h oi (List.mem_of_getElem? hi)
  rw [hn]at this;simp at this;exact Option.isSome_iff_exists.2 (by obtain⟨x,hx⟩:=Option.isSome_iff_exists.1 this.1;exact⟨x,hx⟩)
 unfold jK at h
 by_cases htl:tl=0
 ·rw [if_pos htl]at h iD yL
  have tD:∀i oi,i<ops.size->ops[i]? = some oi->eM E oi.op=true->oi.dst.isSome=true:=fun i oi _ hi=>akT _ yL i oi (by simpa using hi)
  simp only [Bool.and_eq_true]at iD
  have hl:=sR (c0:=σ.clock) ops.toList 0 _ _ aG yL (by simp [rk]) h
  have af3:HeadInv .any ops ops.size (Array.replicate ops.size false):=
   ⟨aG,fun j oj _ hl=>(by rw [getD_replicate_false]at hl;cases hl),fun t h1 h2=>by omega⟩
  have HG:∀bL,HeadInv .any ops ops.size bL -> ∀i,i<ops.size->bL.getD i true=false -> ∀t,ops.size<=t->t ∉ Region.ready .any ops bL:=by
   intro bL _ i _ _ t ht hr
   obtain⟨_,o,ho,_⟩:=mem_ready.1 hr
   have:=(Array.getElem?_eq_some_iff.1 ho).1
   omega
  have H:=w8 (E:=E) (md:=.any) (g:=0) tD HG ops.toList 0 _ _ aG aG af3 (by simpa using iD.2) hl
  have:=oK (E:=E) (md:=.any) (g:=0) (Q:=Q) (m:=n) hd (fun bL st a' w' hL lE=>by
   obtain⟨h1,h2⟩:=hL
   exact⟨by simpa [Region.seqB]using h1,hK _ _ _ h2 (lE.mono fun v hv=>by have:=XK hv;simpa using this)⟩) _ _ _ _ _ aG H (hU0 _ _)
  simpa using this
 ·rw [if_neg htl]at h iD yL
  have tD:∀i oi,i<ops.size-tl->ops[i]? = some oi->eM E oi.op=true->oi.dst.isSome=true:=fun i oi h1 hi=>akT _ yL i oi (by rw [List.getElem?_take,if_pos h1];simpa using hi)
  simp only [Bool.and_eq_true,decide_eq_true_eq]at iD
  obtain⟨hle,hB⟩:=iD
  simp only [Region.lexTailB,Bool.and_eq_true,decide_eq_true_eq]at hB
  obtain⟨⟨⟨⟨aCR,FE⟩,hs⟩,hc⟩,aqq⟩:=hB
  have hlen:ops.toList.length=ops.size:=aG
  rw [hlen]at h
  have hl:=sR (c0:=σ.clock) (ops.toList.take (ops.size-tl)) 0 _ _ (fun j hj=>by
   have hj':j<ops.size-tl:=by simpa using hj
   simp [hj']) yL (by simp [rk]) h
  have af3:HeadInv .any ops (ops.size-tl) (Array.replicate ops.size false):=
   ⟨aG,fun j oj _ hl=>(by rw [getD_replicate_false]at hl;cases hl),fun t _ ht=>getD_in (by simpa using ht) (getD_replicate_false _ _)⟩
  have CQ:(ops.toList.take (ops.size-tl)).length=ops.size-tl:=aG
  have hdl:(ops.toList.drop (ops.size-tl)).length=ops.size-(ops.size-tl):=aG
  have H:=w8 (E:=E) (md:=.any) (n:=ops.size-tl) (g:=ops.size-(ops.size-tl)) tD (fun bL inv i hi hun t ht=>tail_waits hs hc FE inv _ i rfl hi hun t ht) (ops.toList.take (ops.size-tl)) 0 _ _ (fun j hj=>by
   rw [CQ]at hj
   simp [hj]) (by rw [CQ];simp) af3 (by rw [CQ];exact aqq) hl
  have:=oK (E:=E) (md:=.any) (g:=ops.size-(ops.size-tl)) (Q:=Q) (m:=n) hd (fun bL st a' w' hL lE=>by
   obtain⟨h1,h2⟩:=hL
   have h3:=j5 (ops:=ops) (Q:=Q) hK (ops.toList.drop (ops.size-tl)) _ a' w' (fun o ho=>hd o (by simpa using List.mem_of_mem_drop ho)) h2 (lE.mono fun v hv=>by have:=XK hv;simpa using this)
   have h4:=wpAny_of_seq (md:=.any) (Q':=Q) (ops.toList.drop (ops.size-tl)) (ops.size-tl) bL a' w' (fun j=>by simp [List.getElem?_drop]) (by rw [hdl];exact h1) h3
   rwa [hdl]at h4) _ _ _ _ _ aG H (hU0 _ _)
  rw [CQ,show ops.size-tl+(ops.size-(ops.size-tl))=ops.size by omega]at this
  exact this
def aqr:PX->Exit
 | .normal => .normal
 | .exit id => .exit id
 | .ret => .ret
end
def lJ(E:Env)(σ:PS):List ResultVar->(List PV->Prop)->Prop
 | [],K=>K []
 | .tmp t::rs,K=>lJ E σ rs fun vs=>K (σ.f t::vs)
 | .cell a t::rs,K=>∃v,x9 E t σ.rows (σ.f a) v∧lJ E σ rs fun vs=>K (v::vs)
def qC:List PV->PV
 | [x]=>x
 | l => .dK l
def af5(E:Env)(rs:List ResultVar)(r:PV)(σ:PS):Prop:=
 lJ E σ rs fun vs=>gG σ.rows (vs.flatMap eK)∧(vs.map (pz σ.rows)).all cY=true∧r=qC (vs.map (pz σ.rows))
def af6(E:Env)(rs:List ResultVar)(r:PV):PX->PS->Prop
 | .normal,σ=>af5 E rs r σ
 | .ret,σ=>af5 E rs r σ
 | .exit _,_=>False
def LU(args:List PV):PS:=⟨fun s=>args.getD s .undef,fun _=>none,0⟩
section
variable {E:Env} {w0:World} {S0:eU} {c:Cx}
theorem w9(hI:Inv w0 S0 c){clk:Nat}{a:Act}{f:Nat->PV}(hf:∀s,aK c (f s) (a.tmps.getD s undef)){g:ResultVar->Sem Value}(hg1:∀t,g (.tmp t)=pure (a.tmps.getD t undef))
  (r5:∀x t,g (.cell x t)=do loadVar t (<-asAddr (a.tmps.getD x undef))):∀(rs:List ResultVar) (K:List PV->Prop),lJ E ⟨f,c.rows,clk⟩ rs K ->
  ∃vs us,K vs∧bA (aK c) vs us∧(rs.mapM g:Sem (List Value)).run E.P c.w = .ok us c.w
 | [],K,h=>⟨[],[],h,trivial,aG⟩
 | .tmp t::rs,K,h=>by
  obtain⟨vs,us,h1,h2,h3⟩:=w9 hI hf hg1 r5 rs _ h
  exact⟨f t::vs,a.tmps.getD t undef::us,h1,⟨hf t,h2⟩,by
   rw [List.mapM_cons,hg1,Sem.run_bind,Sem.run_pure,Result.andThen_ok,Sem.run_bind,h3,Result.andThen_ok,Sem.run_pure]⟩
 | .cell x t::rs,K,h=>by
  obtain⟨v,hv,h⟩:=h
  obtain⟨vs,us,h1,h2,h3⟩:=w9 hI hf hg1 r5 rs _ h
  obtain⟨u,hu,hr⟩:=LG hI (hf x) hv
  refine⟨v::vs,u::us,h1,⟨hr,h2⟩,?_⟩
  have hu':(do loadVar t (<-asAddr (a.tmps.getD x undef)):Sem Value).run E.P c.w = .ok u c.w:=by
   simp only [Instr.loadAt,Sem.run_bind]at hu |-
   cases hx:a.tmps.getD x undef with
   | pointer p =>
    cases p with
    | some ad=>rw [hx]at hu;simpa [Instr.sureAddr,asAddr]using hu
    | none=>rw [hx]at hu;simp [Instr.sureAddr,stuck,Result.andThen]at hu
   | _=>rw [hx]at hu;simp [Instr.sureAddr,stuck,Result.andThen]at hu
  rw [List.mapM_cons,r5]
  simp only [Sem.run_bind]at hu' |-
  rw [hu',Result.andThen_ok,h3,Result.andThen_ok,Sem.run_pure]
theorem XM{args:List PV}(h1:E.P.funcs[yM]? = some fn)(h2:fn.body=some code) (h3:(fn.name == "runtime.NumGoroutine") = false) (dQ:args.length<=fn.ntmps)
  (h:∀(w0:World) (S0:eU) (a:Act) (w:World) (Q':Exit->Act->World->Prop),Rel w0 S0 fn.ntmps Gs.none (LU args) a w->(∀x σ' a' w',af6 E fn.results.toList r x σ'->Rel w0 S0 fn.ntmps Gs.none σ' a' w'->Q' (aqr x) a' w')->code.wp E.P Q' a w):AB E.P yM args r:=by
 refine⟨⟨fn,code,h1,h2,h3⟩,fun w S vs hS gE=>?_⟩
 have G4:=cX.1 gE
 refine calls_of_wp h1 h2 ?_
 have RO:vs.length=args.length:=G4.length.symm
 let c0:Cx:=⟨S,w,fun _ => .slice none 0 0,fun _=>none,fun _=>False⟩
 have hI0:Inv w S c0:=⟨Below.refl _ _,fun _ _ h=>h,fun _ _ h => .inl h,hS,fun _ _ h=>by simp [c0]at h,fun _ _ h=>by simp [c0]at h,fun _ _ _ _ _ h=>by simp [c0]at h,⟨0,fun _ h=>h.elim⟩⟩
 have KR:Rel w S fn.ntmps Gs.none (LU args) { tmps:=vs.toArray++Array.replicate (fn.ntmps-vs.toArray.size) undef,defers:=[] } w:=by
  refine⟨⟨c0,rfl,rfl,fun _ h=>h.elim,hI0,fun s=>?_,fun p hp=>(Gs.R5 hp).elim⟩,by simp;omega,rfl⟩
  simp only [LU]
  by_cases hs:s<args.length
  ·obtain⟨u,hu,hr⟩:=G4.get (List.getElem?_eq_getElem hs)
   have e1:args.getD s .undef=args[s]:=by simp [List.getD,List.getElem?_eq_getElem hs]
   have e2:(vs.toArray++Array.replicate (fn.ntmps-vs.toArray.size) undef).getD s undef=u:=by
    have:s<vs.length:=aA
    simp [this]at hu |-
    simp [Array.getElem?_append,this,hu]
   rw [e1]
   show aK c0 args[s] ((vs.toArray++Array.replicate (fn.ntmps-vs.toArray.size) undef).getD s undef)
   rw [e2]
   exact aK.jS hr
  ·have e1:args.getD s .undef = .undef:=by simp [List.getD,List.getElem?_eq_none (show args.length<=s by omega)]
   rw [e1]
   simp [aK,aM]
 refine h _ _ _ _ _ KR ?_
 have fin:∀σ' a' w',af5 E fn.results.toList r σ'->Rel w S fn.ntmps Gs.none σ' a' w'->a'.defers = [] ∧ ∃v,(results fn a'.tmps).run E.P w' = .ok v w'∧(∃v',Ending.returned v = .returned v'∧Below w.heap.size w w' ∧
   ∃S':eU,(∀b o,S b o->S' b o)∧(∀b o,S' b o->S b o∨(w.heap.size<=b∧b<w'.heap.size))∧dY S' w' r v'):=by
  rintro σ' a' w' hp ⟨⟨c,rfl,hr,gS,hI,hf,_⟩,hn,gF⟩
  refine⟨gF,?_⟩
  unfold af5 at hp
  have pT:lJ E ⟨σ'.f,c.rows,σ'.clock⟩ fn.results.toList fun vs=>gG c.rows (vs.flatMap eK)∧(vs.map (pz c.rows)).all cY=true∧r=qC (vs.map (pz c.rows)):=by
   rw [hr];exact hp
  have aws:∃vs us,(gG c.rows (vs.flatMap eK)∧(vs.map (pz c.rows)).all cY=true∧r=qC (vs.map (pz c.rows)))∧bA (aK c) vs us ∧
    (results fn a'.tmps).run E.P c.w = .ok (if h:us.toArray.size=1 then us.toArray[0]else .tuple us.toArray) c.w:=by
   have key:∀g:ResultVar->Sem Value,(∀t,g (.tmp t)=pure (a'.tmps.getD t undef))->(∀x t,g (.cell x t)=do loadVar t (<-asAddr (a'.tmps.getD x undef))) ->
     ∃vs us,(gG c.rows (vs.flatMap eK)∧(vs.map (pz c.rows)).all cY=true∧r=qC (vs.map (pz c.rows)))∧bA (aK c) vs us ∧
      (do let vs <-fn.results.mapM g;pure (if h:vs.size=1 then vs[0]else .tuple vs):Sem Value).run E.P c.w = .ok (if h:us.toArray.size=1 then us.toArray[0]else .tuple us.toArray) c.w:=by
    intro g hg1 r5
    obtain⟨vs,us,g1,g4,g5⟩:=w9 hI hf hg1 r5 _ _ pT
    refine⟨vs,us,g1,g4,?_⟩
    have:(fn.results.mapM g).run E.P c.w = .ok us.toArray c.w:=by
     rw [Array.mapM_eq_mapM_toList]
     simp [g5]
    rw [Sem.run_bind,this,Result.andThen_ok,Sem.run_pure]
   unfold results
   exact key _ (fun _=>rfl) (fun _ _=>rfl)
  obtain⟨vs,us,⟨g1,g2,g3⟩,g4,jU⟩:=aws
  have RS:=hI.freeze (vs.flatMap eK)
  have zA:bA (dY (W9 c (vs.flatMap eK)) c.w) (vs.map (pz c.rows)) us:=by
   refine bA.cI (by simp [g4.length]) fun k p u hp hu=>?_
   simp at hp
   obtain⟨q,hq,rfl⟩:=hp
   obtain⟨u',q1,q2⟩:=g4.get hq
   rw [hu]at q1;cases q1
   exact N4 hI g1 q2 (fun id iH=>by simp only [List.mem_flatMap];exact⟨q,List.mem_of_getElem? hq,iH⟩) (List.all_eq_true.1 g2 _ (by simp;exact⟨q,List.mem_of_getElem? hq,rfl⟩))
  refine⟨_,jU,_,rfl,hI.below,W9 c (vs.flatMap eK),fun b o h=>RS.ext b o h,fun b o h=>RS.new b o h,?_⟩
  rw [g3]
  have hl:=zA.length
  cases hm:vs.map (pz c.rows)with
  | nil =>
   rw [hm]at zA hl
   have:us = []:=List.eq_nil_of_length_eq_zero (by simpa using hl.symm)
   subst this
   simp only [qC,dY]
   exact⟨[],aG,by simp [b6]⟩
  | cons p ps =>
   rw [hm]at zA hl
   match us,zA with
   | u::us,zA =>
    cases ps with
    | nil =>
     match us,zA with
     | [],zA=>simpa [qC]using zA.1
    | cons q qs =>
     have h2:¬(u::us).toArray.size=1:=by simp at hl |-;intro h;subst h;simp at hl
     rw [dif_neg h2]
     simp only [qC,dY]
     exact⟨_,rfl,cX.2 zA⟩
 intro x σ' a' w' hx lE
 cases x with
 | normal=>exact fin σ' a' w' hx lE
 | ret=>exact fin σ' a' w' hx lE
 | exit id=>exact hx.elim
end
section
variable {P:Program} {t:TypeId}
theorem aN{v:Value}{z:List PV}(h:(P.info? t).bind (fun i=>i.zero.map fun v=>(i.size,v))=some (n,v))(hz:v.cells.toList.map l5=z)(h1:v.cells.all (·.oneCell')=true)(hl:z.length=n)(hp:0<n):o6 P t n z:=by
 refine⟨?_,hl,hp⟩
 cases hi:P.info? t with
 | none=>simp [hi]at h
 | some i =>
  cases oY:i.zero with
  | none=>simp [hi,oY]at h
  | some v0 =>
   simp [hi,oY]at h
   obtain⟨rfl,rfl⟩:=h
   exact⟨i,v0,rfl,oY,rfl,hz,h1⟩
theorem dR{b:Nat}(h:(P.info? t).map (·.bytes)=some b):∃i,P.info? t=some i∧i.bytes=b:=by
 cases hi:P.info? t with
 | none=>simp [hi]at h
 | some i=>exact⟨i,rfl,by simpa [hi]using h⟩
theorem LV(h:(P.info? t).map (·.size)=some n):∃i,P.info? t=some i∧i.size=n:=by
 cases hi:P.info? t with
 | none=>simp [hi]at h
 | some i=>exact⟨i,rfl,by simpa [hi]using h⟩
theorem af8(h:(P.underlying t).isSome=true):∃d,P.underlying t=some d:=Option.isSome_iff_exists.1 h
def XN(P:Program)(f:Field)(x:Nat × Nat × Bool):Bool:=
 f.offset==x.1&&(P.info? f.type).map (·.size)==some x.2.1&&decide (0<x.2.1)&&u4 P f.type==x.2.2&&(P.underlying f.type).isSome
def xA(P:Program):List Field->List (Nat × Nat × Bool)->Bool
 | [],[]=>true
 | f::fs,x::xs=>XN P f x&&xA P fs xs
 | _,_=>false
theorem ac3{f:Field}{x:Nat × Nat × Bool}(h:XN P f x=true):rD P f x:=by
 simp only [XN,Bool.and_eq_true,beq_iff_eq,decide_eq_true_eq]at h
 obtain⟨⟨⟨⟨h1,h2⟩,h3⟩,h4⟩,h5⟩:=h
 exact⟨h1,LV h2,h3,h4,af8 h5⟩
theorem HH:∀ {fs:List Field} {xs:List (Nat × Nat × Bool)},xA P fs xs=true->bA (rD P) fs xs
 | [],[],_=>trivial
 | f::fs,x::xs,h=>by
  simp only [xA,Bool.and_eq_true]at h
  exact⟨ac3 h.1,HH h.2⟩
 | [],_::_,h=>by simp [xA]at h
 | _::_,[],h=>by simp [xA]at h
def aa3(P:Program)(t:TypeId)(xs:List (Nat × Nat × Bool)):Bool:=
 match P.underlying t with
 | some (.struct fields)=>xA P fields.toList xs
 | _=>false
theorem eI{xs:List (Nat × Nat × Bool)}(h:aa3 P t xs=true):∃fields:Array Field,P.underlying t=some (.struct fields)∧bA (rD P) fields.toList xs:=by
 unfold aa3 at h
 split at h
 ·rename_i fields hu;exact⟨fields,hu,HH h⟩
 ·cases h
end
def W(E:Env)(n:Nat)(tl:Nat->Nat)(c:Code)(Q:PX->PS->Prop)(σ:PS):Prop:=
 fQ E n tl c=true -> ∀(w0:World) (S0:eU) (G:Gs) (a:Act) (w:World) (Q':Exit->Act->World->Prop),Rel w0 S0 n G σ a w ->
  (∀x σ' a' w',Q x σ'->Rel w0 S0 n G σ' a' w'->Q' (aqr x) a' w')->c.wp E.P Q' a w
def Gh(n:Nat)(σ σ':PS):Prop:=∀(w0:World) (S0:eU) (G:Gs) (a:Act) (w:World),Rel w0 S0 n G σ a w->Rel w0 S0 n G σ' a w
section
variable {E:Env} {n:Nat} {tl:Nat->Nat} {Q:PX->PS->Prop} {σ:PS}
theorem W.ghost(h:Gh n σ σ')(hw:W E n tl c Q σ'):W E n tl c Q σ:=fun iD w0 S0 G a w Q' hR hQ=>hw iD w0 S0 G a w Q' (h _ _ _ _ _ hR) hQ
theorem W.mono{Q2:PX->PS->Prop}(hw:W E n tl c Q2 σ)(h:∀x σ,Q2 x σ->Q x σ):W E n tl c Q σ:=fun iD w0 S0 G a w Q' hR hQ=>hw iD w0 S0 G a w Q' hR fun x σ' a' w' hx=>hQ x σ' a' w' (h x σ' hx)
theorem W.skip(h:Q .normal σ):W E n tl .skip Q σ:=fun _ _ _ _ a w _ hR hQ=>wp_skip (hQ .normal σ a w h hR)
theorem W.ret(h:Q .ret σ):W E n tl .ret Q σ:=fun _ _ _ _ a w _ hR hQ=>wp_ret (hQ .ret σ a w h hR)
theorem W.exit{id:Nat}(h:Q (.exit id) σ):W E n tl (.exit id) Q σ:=fun _ _ _ _ a w _ hR hQ=>wp_exit (hQ (.exit id) σ a w h hR)
theorem W.SL(h:∀K:PS->Prop,(∀σ,Q .normal σ->K σ)->aP E ops ops K σ):W E n tl (.region id ops.toArray false) Q σ:=by
 intro iD w0 S0 G a w Q' hR hQ
 simp only [fQ,vJ,Bool.and_eq_true]at iD
 refine wp_region_list (j5 (fun σ' a' w' hk lE=>hQ .normal σ' a' w' hk lE) _ σ a w (fun o ho t ht=>?_) (h _ fun _ h=>h) hR)
 have:=Array.all_eq_true_iff_forall_mem.1 iD.1 o (by simpa using ho)
 simpa [ht]using this
theorem W.af9(h:∀K:PS->Prop,(∀σ,Q .normal σ->K σ)->jK E (tl id) ops K σ):W E n tl (.region id ops.toArray true) Q σ:=by
 intro iD w0 S0 G a w Q' hR hQ
 exact yK (by simpa [fQ]using iD) (h _ fun _ h=>h) hR fun σ' a' w' hk lE=>hQ .normal σ' a' w' hk lE
theorem W.seq{x y:Code}(h:W E n tl x (KP (W E n tl y Q) Q) σ):W E n tl (.seq x y) Q σ:=by
 intro iD w0 S0 G a w Q' hR hQ
 simp only [fQ,Bool.and_eq_true]at iD
 refine wp_seq (h iD.1 w0 S0 G a w _ hR fun x σ' a' w' hx lE=>?_)
 cases x with
 | normal=>exact hx iD.2 w0 S0 G a' w' _ lE hQ
 | exit id=>exact hQ (.exit id) σ' a' w' hx lE
 | ret=>exact hQ .ret σ' a' w' hx lE
theorem W.XO{y:Code}(h:∀K:PS->Prop,(∀σ,W E n tl y Q σ->K σ)->aP E ops ops K σ):W E n tl (.seq (.region id ops.toArray false) y) Q σ:=
 W.seq (W.SL h)
theorem W.aga{y:Code}(h:∀K:PS->Prop,(∀σ,W E n tl y Q σ->K σ)->jK E (tl id) ops K σ):W E n tl (.seq (.region id ops.toArray true) y) Q σ:=
 W.seq (W.af9 h)
theorem W.cond{c:Operand}{t e:Code}(h:∃b,aR σ.f c = .bool b∧(b=true->W E n tl t Q σ)∧(b=false->W E n tl e Q σ)):W E n tl (.cond c t e) Q σ:=by
 intro iD w0 S0 G a w Q' hR hQ
 simp only [fQ,Bool.and_eq_true]at iD
 obtain⟨b,hb,h1,h2⟩:=h
 obtain⟨cx,_,_,_,_,hf,_⟩:=hR.ex
 have:=pI hf c
 rw [hb,eD]at this
 refine wp_cond this ?_
 cases b with
 | true=>exact h1 rfl iD.1 w0 S0 G a w Q' hR hQ
 | false=>exact h2 rfl iD.2 w0 S0 G a w Q' hR hQ
theorem W.block(h:W E n tl c (KQ id Q) σ):W E n tl (.block id c) Q σ:=by
 intro iD w0 S0 G a w Q' hR hQ
 refine wp_block (h iD w0 S0 G a w _ hR fun x σ' a' w' hx lE=>?_)
 cases x with
 | normal=>exact hQ .normal σ' a' w' hx lE
 | exit j =>
  simp only [KQ]at hx
  simp only [aqr,Exit.inBlock]
  split at hx
  ·rename_i hj;rw [if_pos hj];exact hQ .normal σ' a' w' hx lE
  ·rename_i hj;rw [if_neg hj];exact hQ (.exit j) σ' a' w' hx lE
 | ret=>exact hQ .ret σ' a' w' hx lE
theorem W.loop(I:Nat->PS->Prop)(k:Nat)(h0:I k σ)(h1:∀k σ,I k σ->W E n tl c (KP (fun σ'=>∃m,m<k∧I m σ') Q) σ):W E n tl (.loop c) Q σ:=by
 intro iD w0 S0 G a w Q' hR hQ
 refine wp_loop_ghost (fun k a w=>∃σ,I k σ∧Rel w0 S0 n G σ a w) k ⟨σ,h0,hR⟩ ?_
 rintro k a w ⟨σ,hI,hR⟩
 refine h1 k σ hI iD w0 S0 G a w _ hR fun x σ' a' w' hx lE=>?_
 cases x with
 | normal=>obtain⟨m,hm,pU⟩:=hx;exact⟨m,hm,σ',pU,lE⟩
 | exit id=>exact hQ (.exit id) σ' a' w' hx lE
 | ret=>exact hQ .ret σ' a' w' hx lE
end
theorem agb(tl:Nat->Nat){args:List PV}(h1:E.P.funcs[yM]? = some fn)(h2:fn.body=some code) (h3:(fn.name == "runtime.NumGoroutine") = false)
  (iD:fQ E fn.ntmps tl code=true) (dQ:args.length<=fn.ntmps) (h:W E fn.ntmps tl code (af6 E fn.results.toList r) (LU args)):AB E.P yM args r:=
 XM h1 h2 h3 dQ fun w0 S0 a w Q' hR hQ=>h iD w0 S0 Gs.none a w Q' hR hQ
def go(P:Prop):Prop:=P
def bH(R:PV->Prop)(K:PV->Prop):Prop:=∃v,R v∧K v
def kW(p:PV)(want:Bool)(A B:Prop):Prop:=∃t,p = .bool t∧(t=want->A)∧(t=(!want)->B)
def stepG(p:PV)(want:Bool)(A B:Prop):Prop:=(p = .bool want∧A)∨((p = .bool (!want)∨p = .dK [])∧B)
def aL(A B:Prop):Prop:=A∧B
@[congr] theorem anO{R' K:PV->Prop}(h:∀v,R v=R' v):bH R K=bH R' K:=by rw [show R=R' from funext h]
@[congr] theorem anP(h:p=p'):kW p want A B=kW p' want A B:=by rw [h]
@[congr] theorem anQ(h:p=p'):stepG p want A B=stepG p' want A B:=by rw [h]
@[congr] theorem anR{A':Prop}(h:A=A'):aL A B=aL A' B:=by rw [h]
@[congr] theorem aqs{K:PS->Prop}(h:σ=σ'):aP E ops l K σ=aP E ops l K σ':=by rw [h]
@[congr] theorem aqt{K:PS->Prop}{σ σ':ST}(hk:k=k')(h:σ=σ'):aX E ops clk k l K σ=aX E ops clk k' l K σ':=by rw [hk,h]
@[congr] theorem aqu{j':Nat}(hj:j=j')(hk:k=k'):uU md ops j k=uU md ops j' k':=by rw [hj,hk]
@[congr] theorem at6{lC:Nat}{t:Nat->Nat->Prop}(hi:i=i')(iH:id=lC)(ht:t=t'):EF md ops i id t=EF md ops i' lC t':=by rw [hi,iH,ht]
@[congr] theorem aqv{t:Nat->Nat->Prop}(hi:i=i')(ht:t=t')(hr:rows=rows'):fE md ops i t rows=fE md ops i' t' rows':=by rw [hi,ht,hr]
@[congr] theorem akd{K:PS->Prop}(h:σ=σ'):jK E tl l K σ=jK E tl l K σ':=by rw [h]
@[congr] theorem aAu{tl:Nat->Nat}{Q:PX->PS->Prop}(h:σ=σ'):W E n tl c Q σ=W E n tl c Q σ':=by rw [h]
theorem lK{t:PV}{K:PV->Prop}:bH (fun v=>v=t) K=K t:=by simp [bH]
theorem ac4{t:PV}{K:PV->Prop}:bH (fun v=>t=v) K=K t:=by simp [bH]
theorem kP{c:Prop}{K:PV->Prop}:bH (fun v=>c∧R v) K=aL c (bH R K):=by
 apply propext;simp only [bH,aL]
 constructor
 ·rintro⟨v,⟨h1,h2⟩,h3⟩;exact⟨h1,v,h2,h3⟩
 ·rintro⟨h1,v,h2,h3⟩;exact⟨v,⟨h1,h2⟩,h3⟩
theorem agc{R:α->PV->Prop}{K:PV->Prop}:bH (fun v=>∃x,R x v) K = ∃x,bH (R x) K:=by
 apply propext;simp only [bH]
 constructor
 ·rintro⟨v,⟨x,h2⟩,h3⟩;exact⟨x,v,h2,h3⟩
 ·rintro⟨x,v,h2,h3⟩;exact⟨v,⟨x,h2⟩,h3⟩
theorem XP:aL True B=B:=by simp [aL]
theorem agd:kW (.bool true) true A B=A:=by simp [kW]
theorem age:kW (.bool true) false A B=B:=by simp [kW]
theorem agf:kW (.bool false) true A B=B:=by simp [kW]
theorem agh:stepG (.bool true) true A B=A:=by simp [stepG]
theorem agi:stepG (.bool true) false A B=B:=by simp [stepG]
theorem agj:stepG (.bool false) true A B=B:=by simp [stepG]
theorem agk:stepG (.bool false) false A B=A:=by simp [stepG]
theorem agl{w:Bool}:stepG (.dK []) w A B=B:=by simp [stepG]
theorem agm:kW (.bool false) false A B=A:=by simp [kW]
theorem HI{d:Nat}:put f (some d) v j=if j=d then v else f j:=rfl
theorem agn:put f none v=f:=rfl
theorem aqw{f:Nat->α}{x:α}:eO f i x j=if j=i then x else f j:=rfl
def fa:List (Nat × PV)->Nat->PV
 | [],_ => .undef
 | (i,v)::l,j=>if j=i then v else fa l j
theorem XQ:fa [] j = .undef:=rfl
theorem OH{l:List (Nat × PV)}:fa ((i,v)::l) j=if j=i then v else fa l j:=rfl
section
variable {E:Env} {ops os:List Oper} {K:PS->Prop} {f:Nat->PV} {rows:Rows} {clk:Nat} {d:Option Tmp} {ty:TypeId} {pos:String} {af:Array Edge}
theorem aD(n:Nat)(l:List Nat):Gh n ⟨f,rows,clk⟩ ⟨fa (l.map fun i=>(i,f i)),rows,clk⟩:=by
 rintro w0 S0 G a w ⟨⟨c,h1,h2,h3,h4,h5,h6⟩,h7,h8⟩
 refine⟨⟨c,h1,h2,h3,h4,fun s=>?_,h6⟩,h7,h8⟩
 have:fa (l.map fun i=>(i,f i)) s=f s∨fa (l.map fun i=>(i,f i)) s = .undef:=by
  induction l with
  | nil=>exact .inr rfl
  | cons i l ih =>
   simp only [List.map_cons,fa]
   split
   ·rename_i h;rw [h];exact .inl rfl
   ·exact ih
 rcases this with h | h
 ·simp only;rw [h];exact h5 s
 ·simp only;rw [h];simp [aK,aM]
theorem W.live{tl:Nat->Nat}{Q:PX->PS->Prop}(l:List Nat)(h:W E n tl c Q ⟨fa (l.map fun i=>(i,f i)),rows,clk⟩):W E n tl c Q ⟨f,rows,clk⟩:=W.ghost (aD n l) h
theorem XR:aP E ops (⟨d,op,ty,pos,af,some (j,want)⟩::os) K ⟨f,rows,clk⟩ =
  match (ops[j]?).bind (·.dst)with
  | none=>False
  | some e=>stepG (f e) want (aP E ops (⟨d,op,ty,pos,af,none⟩::os) K ⟨f,rows,clk⟩) (aP E ops os K ⟨put f d (.dK []),rows,clk⟩):=by
 simp only [aP]
 cases hx:(ops[j]?).bind (·.dst)with
 | none=>rfl
 | some e=>rfl
theorem dD{k:PV->Prop}(h:∀v,R v↔k v):(∃v u,(R v∧u=none)∧K ⟨put f d v,fP rows u,clk⟩)=bH k fun v=>K ⟨put f d v,rows,clk⟩:=by
 apply propext;simp only [bH]
 constructor
 ·rintro⟨v,u,⟨h1,rfl⟩,h2⟩;exact⟨v,(h v).1 h1,h2⟩
 ·rintro⟨v,h1,h2⟩;exact⟨v,none,⟨(h v).2 h1,rfl⟩,h2⟩
theorem ac5:aP E ops (⟨d, .move x,ty,pos,af,none⟩::os) K ⟨f,rows,clk⟩=aP E ops os K ⟨put f d (aR f x),rows,clk⟩:=by
 simp only [aP,gV,ys,yv]
 rw [dD (k:=fun v=>v=aR f x) (fun v=>Iff.rfl),lK]
theorem SM:aP E ops (⟨d, .assign x,ty,pos,af,none⟩::os) K ⟨f,rows,clk⟩=aP E ops os K ⟨put f d (aR f x),rows,clk⟩:=by
 simp only [aP,gV,ys,yv]
 rw [dD (k:=fun v=>v=aR f x) (fun v=>Iff.rfl),lK]
theorem ac6{c a b:Operand}:aP E ops (⟨d, .pick c a b,ty,pos,af,none⟩::os) K ⟨f,rows,clk⟩=kW (aR f c) true (aP E ops os K ⟨put f d (aR f a),rows,clk⟩) (aP E ops os K ⟨put f d (aR f b),rows,clk⟩):=by
 simp only [aP,gV,ys,yv]
 rw [dD (fun v=>Iff.rfl)]
 apply propext;simp only [bH,kW]
 constructor
 ·rintro⟨v,⟨t,h1,rfl⟩,h2⟩
  refine⟨t,h1,fun h=>?_,fun h=>?_⟩
  ·subst h;exact h2
  ·subst h;exact h2
 ·rintro⟨t,h1,h2,h3⟩
  cases t with
  | true=>exact⟨_,⟨true,h1,rfl⟩,h2 rfl⟩
  | false=>exact⟨_,⟨false,h1,rfl⟩,h3 rfl⟩
theorem ago{op:BinOp}:aP E ops (⟨d, .binOp op t x y t2,ty,pos,af,none⟩::os) K ⟨f,rows,clk⟩=bH (fun v=>NU E op t (aR f x) (aR f y) v) fun v=>aP E ops os K ⟨put f d v,rows,clk⟩:=by
 simp only [aP,gV,ys,yv]
 rw [dD (fun v=>Iff.rfl)]
theorem akV{op:UnOp}:aP E ops (⟨d, .unOp op t x,ty,pos,af,none⟩::os) K ⟨f,rows,clk⟩=bH (fun v=>yun op (aR f x) v) fun v=>aP E ops os K ⟨put f d v,rows,clk⟩:=by
 simp only [aP,gV,ys,yv]
 rw [dD (k:=fun v=>yun op (aR f x) v) (fun v=>Iff.rfl)]
theorem ac7:aP E ops (⟨d, .convert s t x,ty,pos,af,none⟩::os) K ⟨f,rows,clk⟩=bH (fun v=>yB (E.ty s) (E.ty t) (aR f x) v) fun v=>aP E ops os K ⟨put f d v,rows,clk⟩:=by
 simp only [aP,gV,ys,yv]
 rw [dD (k:=fun v=>yB (E.ty s) (E.ty t) (aR f x) v) (fun v=>Iff.rfl)]
theorem OI:aP E ops (⟨d, .extract x i,ty,pos,af,none⟩::os) K ⟨f,rows,clk⟩=bH (fun v=>WT i (aR f x) v) fun v=>aP E ops os K ⟨put f d v,rows,clk⟩:=by
 simp only [aP,gV,ys,yv]
 rw [dD (k:=fun v=>WT i (aR f x) v) (fun v=>Iff.rfl)]
theorem ac8:aP E ops (⟨d, .load t x,ty,pos,af,none⟩::os) K ⟨f,rows,clk⟩=bH (fun v=>x9 E t rows (aR f x) v) fun v=>aP E ops os K ⟨put f d v,rows,clk⟩:=by
 simp only [aP,gV,ys,yv]
 rw [dD (fun v=>Iff.rfl)]
theorem XS:aP E ops (⟨d, .field t x i,ty,pos,af,none⟩::os) K ⟨f,rows,clk⟩=bH (fun v=>yX E t i (aR f x) v) fun v=>aP E ops os K ⟨put f d v,rows,clk⟩:=by
 simp only [aP,gV,ys,yv]
 rw [dD (fun v=>Iff.rfl)]
theorem HJ:aP E ops (⟨d, .fieldAddr t x i,ty,pos,af,none⟩::os) K ⟨f,rows,clk⟩=bH (fun v=>iK E t rows i (aR f x) v) fun v=>aP E ops os K ⟨put f d v,rows,clk⟩:=by
 simp only [aP,gV,ys,yv]
 rw [dD (fun v=>Iff.rfl)]
theorem HK:aP E ops (⟨d, .indexAddr t x y,ty,pos,af,none⟩::os) K ⟨f,rows,clk⟩=bH (fun v=>iL E t rows (aR f x) (aR f y) v) fun v=>aP E ops os K ⟨put f d v,rows,clk⟩:=by
 simp only [aP,gV,ys,yv]
 rw [dD (fun v=>Iff.rfl)]
theorem XT:aP E ops (⟨d, .slice t x lo hi mx,ty,pos,af,none⟩::os) K ⟨f,rows,clk⟩=bH (fun v=>rZ E t rows (aR f x) (lo.map (aR f)) (hi.map (aR f)) (mx.map (aR f)) v) fun v=>aP E ops os K ⟨put f d v,rows,clk⟩:=by
 simp only [aP,gV,ys,yv]
 rw [dD (fun v=>Iff.rfl)]
theorem XU:aP E ops (⟨d, .build t parts,ty,pos,af,none⟩::os) K ⟨f,rows,clk⟩=bH (fun v=>u7 (E.ty t) (parts.toList.map fun x=>(x.1,aR f x.2)) v) fun v=>aP E ops os K ⟨put f d v,rows,clk⟩:=by
 simp only [aP,gV,ys,yv]
 rw [dD (k:=fun v=>u7 (E.ty t) (parts.toList.map fun x=>(x.1,aR f x.2)) v) (fun v=>Iff.rfl)]
theorem XV:aP E ops (⟨d, .index t x y,ty,pos,af,none⟩::os) K ⟨f,rows,clk⟩=bH (fun v=>yY E (E.ty t) (aR f x) (aR f y) v) fun v=>aP E ops os K ⟨put f d v,rows,clk⟩:=by
 simp only [aP,gV,ys,yv]
 rw [dD (k:=fun v=>yY E (E.ty t) (aR f x) (aR f y) v) (fun v=>Iff.rfl)]
theorem agp:aP E ops (⟨d, .call { callee:=.builtin .len,args:=⟨[x]⟩,argTypes:=⟨[t]⟩ },ty,pos,af,none⟩::os) K ⟨f,rows,clk⟩=bH (fun v=>D3 (E.ty t) rows (aR f x) v) fun v=>aP E ops os K ⟨put f d v,rows,clk⟩:=by
 simp only [aP,gV,ys,yv]
 rw [dD (k:=fun v=>D3 (E.ty t) rows (aR f x) v) (fun v=>Iff.rfl)]
theorem KS:aP E ops (⟨d, .nilCheck x,ty,pos,af,none⟩::os) K ⟨f,rows,clk⟩=bH (fun v=>KI rows (aR f x) v) fun v=>aP E ops os K ⟨put f d v,rows,clk⟩:=by
 simp only [aP,gV,ys,yv]
 rw [dD (k:=fun v=>KI rows (aR f x) v) (fun v=>Iff.rfl)]
theorem agq:aP E ops (⟨d, .call { callee:=.builtin .max,args:=⟨[x,y]⟩,argTypes:=ts },ty,pos,af,none⟩::os) K ⟨f,rows,clk⟩=bH (fun v=>WV (aR f x) (aR f y) v) fun v=>aP E ops os K ⟨put f d v,rows,clk⟩:=by
 simp only [aP,gV,ys,yv]
 rw [dD (fun v=>Iff.rfl)]
theorem agr:aP E ops (⟨d, .call { callee:=.builtin .min,args:=⟨[x,y]⟩,argTypes:=ts },ty,pos,af,none⟩::os) K ⟨f,rows,clk⟩=bH (fun v=>WW (aR f x) (aR f y) v) fun v=>aP E ops os K ⟨put f d v,rows,clk⟩:=by
 simp only [aP,gV,ys,yv]
 rw [dD (fun v=>Iff.rfl)]
theorem FF:aP E ops (⟨d, .buildSlice t len parts,ty,pos,af,none⟩::os) K ⟨f,rows,clk⟩=bH (fun v=>XA (E.ty t) rows len (parts.toList.map fun x=>(x.1,aR f x.2)) v) fun v=>aP E ops os K ⟨put f d v,rows,clk⟩:=by
 simp only [aP,gV,ys]
 rw [dD (fun v=>Iff.rfl)]
theorem XW{p:Operand}:aP E ops (⟨none, .store t p x,ty,pos,af,none⟩::os) K ⟨f,rows,clk⟩ = ∃id r,vC E t rows (aR f p) (aR f x) .undef (some (id,r))∧aP E ops os K ⟨f,eO rows id (some r),clk⟩:=by
 simp only [aP,gV,ys]
 apply propext
 constructor
 ·rintro⟨v,u,h,h2⟩
  have h':=h
  obtain⟨_,rfl,h3⟩:=h
  split at h3
  ·obtain⟨_,_,_,_,_,_,_,_,_,_,rfl⟩:=h3
   exact⟨_,_,h',h2⟩
  ·exact h3.elim
 ·rintro⟨id,r,h,h2⟩;exact⟨.undef,some (id,r),h,h2⟩
theorem XX:aP E ops (⟨d, .alloc t,ty,pos,af,none⟩::os) K ⟨f,rows,clk⟩=aL ((E.ty t).known=true) (aP E ops os K ⟨put f d (.ptr (d.getD 0) clk 0 0),eO rows (d.getD 0) (some ⟨clk,t,(E.ty t).size,[(E.ty t).zero]⟩),clk+1⟩):=rfl
theorem ags:aP E ops (⟨d, .box t x,ty,pos,af,none⟩::os) K ⟨f,rows,clk⟩=aL ((E.ty t).known=true) (∃l,cR (aR f x)=some l∧(∀q∈l,jT rows q)∧l.length=(E.ty t).size∧aP E ops os K ⟨put f d (.ptr (d.getD 0) clk 0 0),eO rows (d.getD 0) (some ⟨clk,t,(E.ty t).size,[l]⟩),clk+1⟩):=rfl
def vK(t:TI)(x y:PV)(K:TypeId->Nat->List PV->Int->Prop):Prop:=
 match t,x,y with
 | .slice e n b z, .int _ x, .int _ y=>aL (0<=x∧x<=y∧y.toNat<=room∧y.toNat*b<=room) (K e n z x)
 | _,_,_=>False
theorem HL{l c:Operand}:aP E ops (⟨d, .makeSlice t l c,ty,pos,af,none⟩::os) K ⟨f,rows,clk⟩=vK (E.ty t) (aR f l) (aR f c) fun e n z x=>aP E ops os K ⟨put f d (.own (d.getD 0) clk 0 x.toNat),eO rows (d.getD 0) (some ⟨clk,e,n,List.replicate x.toNat z⟩),clk+1⟩:=by
 simp only [aP,gV,vK,OB]
 generalize E.ty t=T
 generalize aR f l=A
 generalize aR f c=B
 cases T with
 | slice e n b z =>
  cases A with
  | int k x =>
   cases B with
   | int k2 y=>simp only [aL,and_assoc]
   | _=>rfl
  | _=>rfl
 | _=>rfl
def ac9(t:TI)(rows:Rows)(x y:PV)(clk d:Nat)(K:PV->Rows->Nat->Prop):Prop:=
 match t with
 | .slice e n b _ =>
  ∃l,vG rows y l∧(∀e∈l,e.length=n) ∧
  match x with
  | .nil=>aL (l.length<=room∧l.length*b<=room) (K (.own d clk 0 l.length) (eO rows d (some ⟨clk,e,n,l⟩)) (clk+1))
  | .own id ver off len=>∃r,rows id=some r∧r.ver=ver∧off=0∧len<=r.els.length∧r.e=e∧r.size=n∧aL (len+l.length<=room∧(len+l.length)*b<=room) (K (.own id clk 0 (len+l.length)) (eO rows id (some ⟨clk,e,n,r.els.take len++l⟩)) (clk+1))
  | .kJ l0=>(∀e∈l0,e.length=n)∧(∀e∈l,∀p∈e,bE p=true)∧aL (l0.length+l.length<=room∧(l0.length+l.length)*b<=room) (K (.sl (l0++l)) rows clk)
  | _=>False
 | _=>False
theorem SN:aP E ops (⟨d, .call { callee:=.builtin .append,args:=⟨[x,y]⟩,argTypes:=⟨[t,t2]⟩ },ty,pos,af,none⟩::os) K ⟨f,rows,clk⟩ =
  aL (t2=t∨slT (E.ty t2)=true) (ac9 (E.ty t) rows (aR f x) (aR f y) clk (d.getD 0) fun v rows clk=>aP E ops os K ⟨put f d v,rows,clk⟩):=by
 simp only [aP,gV,OC,ac9,OB,aL,PS.put]
 congr 1
 generalize E.ty t=T
 generalize aR f x=A
 cases T with
 | slice e n b z =>
  simp only
  congr 1
  funext l
  congr 2
  cases A with
  | nil=>simp only [and_assoc]
  | own id ver off len=>simp only [and_assoc]
  | kJ l0=>simp only [and_assoc]
  | _=>rfl
 | _=>rfl
end
def A4(P:Program)(g:FuncId)(args:List PV)(K:PV->Prop):Prop:=∃v,AB P g args v∧K v
@[congr] theorem anS{args SO:List PV}{K:PV->Prop}(h:args=SO):A4 P g args K=A4 P g SO K:=by rw [h]
def vL(E:Env)(p:PV)(eQ:List PV)(rows:Rows)(clk:Nat)(K:PV->Rows->Nat->Prop):Prop:=
 match p with
 | .fn g bR=>if (E.writes g || E.uT g)=true then bR = []∧qA E.P g eQ rows clk K else aL ((eQ.map (pz rows)).all cY=true∧gG rows (eQ.flatMap eK)) (A4 E.P g (eQ.map (pz rows)++bR) fun v=>K v (LN rows (eQ.flatMap eK)) clk)
 | .rC g fs bR=>qA E.P g (fs++eQ++bR) rows clk K
 | _=>False
def LW(E:Env)(p:PV)(name:String)(eQ:List PV)(rows:Rows)(clk:Nat)(K:PV->Rows->Nat->Prop):Prop:=
 ∃t id ver g,p = .sL t id ver∧(∃r,rows id=some r∧r.ver=ver)∧afF E.P t name g∧qA E.P g (.ptr id ver 0 0::eQ) rows clk K
@[congr] theorem anT{K:PV->Rows->Nat->Prop}(h1:p=p')(h2:eQ=rI):LW E p name eQ rows clk K=LW E p' name rI rows clk K:=by rw [h1,h2]
@[congr] theorem akW{K:PV->Rows->Nat->Prop}(h1:p=p')(h2:eQ=rI)(h3:rows=rows')(h4:clk=fD):vL E p eQ rows clk K=vL E p' rI rows' fD K:=by rw [h1,h2,h3,h4]
@[congr] theorem anU{K:PV->Rows->Nat->Prop}(h:eQ=rI):qA P g eQ rows clk K=qA P g rI rows clk K:=by rw [h]
@[congr] theorem anV{t t':TI}{x y:PV}{K:TypeId->Nat->List PV->Int->Prop}(h1:t=t')(h2:x=x')(h3:y=y'):vK t x y K=vK t' x' y' K:=by rw [h1,h2,h3]
@[congr] theorem aqx{t t':TI}{x y:PV}{d d':Nat}{K:PV->Rows->Nat->Prop}(h1:t=t')(h2:rows=rows')(h3:x=x')(h4:y=y')(h5:clk=fD)(h6:d=d') :
  ac9 t rows x y clk d K=ac9 t' rows' x' y' fD d' K:=by rw [h1,h2,h3,h4,h5,h6]
section
variable {E:Env} {ops os:List Oper} {K:PS->Prop} {f:Nat->PV} {rows:Rows} {clk:Nat} {d:Option Tmp} {ty:TypeId} {pos:String} {af:Array Edge}
theorem ada:aP E ops (⟨d, .call { callee:=.value fo,args:=args,argTypes:=ts },ty,pos,af,none⟩::os) K ⟨f,rows,clk⟩ =
  vL E (aR f fo) (args.toList.map (aR f)) rows clk fun v rows clk=>aP E ops os K ⟨put f d v,rows,clk⟩:=by
 simp only [aP,gV,EB,vL,XD,aL,A4]
 generalize aR f fo=A
 have e1:(args.toList.map fun x=>pz rows (aR f x))=(args.toList.map (aR f)).map (pz rows):=by rw [List.map_map];rfl
 have e2:(args.toList.flatMap fun x=>eK (aR f x))=(args.toList.map (aR f)).flatMap eK:=by rw [List.flatMap_map]
 rw [e1,e2]
 cases A with
 | fn g bR =>
  have hm:akA E (.fn g bR)=(E.writes g || E.uT g):=rfl
  by_cases hw:(E.writes g || E.uT g)=true
  ·rw [hm,if_pos hw]
   cases bR with
   | nil=>simp [hw]
   | cons x l=>simp [hw]
  rw [hm,if_neg hw]
  simp only [if_neg hw]
  apply propext
  constructor
  ·rintro⟨v,⟨h1,h2⟩,h3,h4⟩;exact⟨⟨h1,h3⟩,v,h2,h4⟩
  ·rintro⟨⟨h1,h3⟩,v,h2,h4⟩;exact⟨v,⟨h1,h2⟩,h3,h4⟩
 | rC g fs bR=>simp [akA]
 | _=>simp [akA]
theorem SP:aP E ops (⟨d, .call { callee:=.invoke fo name,args:=args,argTypes:=ts },ty,pos,af,none⟩::os) K ⟨f,rows,clk⟩ =
  LW E (aR f fo) name (args.toList.map (aR f)) rows clk fun v rows clk=>aP E ops os K ⟨put f d v,rows,clk⟩:=rfl
theorem KT:aP E ops (⟨d, .makeFunc (.func g) fs bR,ty,pos,af,none⟩::os) K ⟨f,rows,clk⟩ =
  if E.uT g=true then aL ((fs.toList.map (aR f)).all pE=true∧(bR.toList.map (aR f)).all pE=true) (aP E ops os K ⟨put f d (.rC g (fs.toList.map (aR f)) (bR.toList.map (aR f))),rows,clk⟩)
  else aL (fs.toList = []∧((bR.toList.map (aR f)).map (pz rows)).all cY=true∧gG rows ((bR.toList.map (aR f)).flatMap eK))
   (aP E ops os K ⟨put f d (.fn g ((bR.toList.map (aR f)).map (pz rows))),LN rows ((bR.toList.map (aR f)).flatMap eK),clk⟩):=by
 simp only [aP,gV,aL,and_assoc]
 have e1:(bR.toList.map fun x=>pz rows (aR f x))=(bR.toList.map (aR f)).map (pz rows):=by rw [List.map_map];rfl
 have e2:(bR.toList.flatMap fun x=>eK (aR f x))=(bR.toList.map (aR f)).flatMap eK:=by rw [List.flatMap_map]
 rw [e1,e2]
def kY(k:Nat)(l:List Nat)(t:Nat->Nat->Prop):Nat->Nat->Prop:=fun k' id=>(true=true∧k'=k∧id∈l)∨t k' id
def qX(k id:Nat)(w:Nat->Nat->Prop):Nat->Nat->Prop:=fun k' lC=>(k'=k∧lC=id)∨w k' lC
variable {k:Nat} {b8:Nat->Nat->Prop} {aU:Nat->Nat->Prop}
theorem XY:aX E ops clk k (⟨d,op,ty,pos,af,some (j,want)⟩::os) K ⟨f,rows,b8,aU⟩ =
  match (ops[j]?).bind (·.dst)with
  | none=>False
  | some e=>stepG (f e) want (aX E ops clk k (⟨d,op,ty,pos,af,none⟩::os) K ⟨f,rows,b8,aU⟩) (aX E ops clk (k+1) os K ⟨put f d (.dK []),rows,b8,aU⟩):=by
 have e3:app k ⟨d,op,ty,pos,af,some (j,want)⟩ false (.dK []) none ⟨f,rows,b8,aU⟩=⟨put f d (.dK []),rows,b8,aU⟩:=by simp [app,fP,wlU]
 simp only [aX,e3]
 cases hx:(ops[j]?).bind (·.dst)with
 | none=>rfl
 | some e=>rfl
theorem dI{kk:PV->Prop}{st:ST}(h:∀v,R v↔kk v):(∃v u,(R v∧u=none)∧SB .any ops k u b8∧aX E ops clk (k+1) os K (app k o true v u st))=bH kk fun v=>aX E ops clk (k+1) os K (app k o true v none st):=by
 apply propext;simp only [bH]
 constructor
 ·rintro⟨v,u,⟨h1,rfl⟩,_,h2⟩;exact⟨v,(h v).1 h1,h2⟩
 ·rintro⟨v,h1,h2⟩;exact⟨v,none,⟨(h v).2 h1,rfl⟩,trivial,h2⟩
theorem gH(h:j4 op (aR f) = []):app k ⟨d,op,ty,pos,af,none⟩ true v none ⟨f,rows,b8,aU⟩=⟨put f d v,rows,b8,aU⟩:=by simp [app,fP,wlU,h]
theorem xB{l:List Nat}(h:j4 op (aR f)=l):app k ⟨d,op,ty,pos,af,none⟩ true v none ⟨f,rows,b8,aU⟩=⟨put f d v,rows,kY k l b8,aU⟩:=by subst h;rfl
theorem adb:aX E ops clk k (⟨d, .move x,ty,pos,af,none⟩::os) K ⟨f,rows,b8,aU⟩=aX E ops clk (k+1) os K ⟨put f d (aR f x),rows,b8,aU⟩:=by
 simp only [aX,yn,kN,ys,yv]
 rw [dI (kk:=fun v=>v=aR f x) (fun v=>Iff.rfl),lK,gH rfl]
theorem SR:aX E ops clk k (⟨d, .assign x,ty,pos,af,none⟩::os) K ⟨f,rows,b8,aU⟩=aX E ops clk (k+1) os K ⟨put f d (aR f x),rows,b8,aU⟩:=by
 simp only [aX,yn,kN,ys,yv]
 rw [dI (kk:=fun v=>v=aR f x) (fun v=>Iff.rfl),lK,gH rfl]
theorem ade{c a b:Operand}:aX E ops clk k (⟨d, .pick c a b,ty,pos,af,none⟩::os) K ⟨f,rows,b8,aU⟩=kW (aR f c) true (aX E ops clk (k+1) os K ⟨put f d (aR f a),rows,b8,aU⟩) (aX E ops clk (k+1) os K ⟨put f d (aR f b),rows,b8,aU⟩):=by
 simp only [aX,yn,kN,ys,yv]
 rw [dI (fun v=>Iff.rfl)]
 apply propext;simp only [bH,kW,gH (op:=.pick c a b) rfl]
 constructor
 ·rintro⟨v,⟨t,h1,rfl⟩,h2⟩
  refine⟨t,h1,fun h=>?_,fun h=>?_⟩
  ·subst h;exact h2
  ·subst h;exact h2
 ·rintro⟨t,h1,h2,h3⟩
  cases t with
  | true=>exact⟨_,⟨true,h1,rfl⟩,h2 rfl⟩
  | false=>exact⟨_,⟨false,h1,rfl⟩,h3 rfl⟩
theorem agt{op:BinOp}:aX E ops clk k (⟨d, .binOp op t x y t2,ty,pos,af,none⟩::os) K ⟨f,rows,b8,aU⟩=bH (fun v=>NU E op t (aR f x) (aR f y) v) fun v=>aX E ops clk (k+1) os K ⟨put f d v,rows,b8,aU⟩:=by
 simp only [aX,yn,kN,ys,yv];rw [dI (fun v=>Iff.rfl)];simp only [gH (op:=.binOp op t x y t2) rfl]
theorem akX{op:UnOp}:aX E ops clk k (⟨d, .unOp op t x,ty,pos,af,none⟩::os) K ⟨f,rows,b8,aU⟩=bH (fun v=>yun op (aR f x) v) fun v=>aX E ops clk (k+1) os K ⟨put f d v,rows,b8,aU⟩:=by
 simp only [aX,yn,kN,ys,yv];rw [dI (fun v=>Iff.rfl)];simp only [gH (op:=.unOp op t x) rfl]
theorem adf:aX E ops clk k (⟨d, .convert s t x,ty,pos,af,none⟩::os) K ⟨f,rows,b8,aU⟩=bH (fun v=>yB (E.ty s) (E.ty t) (aR f x) v) fun v=>aX E ops clk (k+1) os K ⟨put f d v,rows,b8,aU⟩:=by
 simp only [aX,yn,kN,ys,yv];rw [dI (fun v=>Iff.rfl)];simp only [gH (op:=.convert s t x) rfl]
theorem OJ:aX E ops clk k (⟨d, .extract x i,ty,pos,af,none⟩::os) K ⟨f,rows,b8,aU⟩=bH (fun v=>WT i (aR f x) v) fun v=>aX E ops clk (k+1) os K ⟨put f d v,rows,b8,aU⟩:=by
 simp only [aX,yn,kN,ys,yv];rw [dI (fun v=>Iff.rfl)];simp only [gH (op:=.extract x i) rfl]
theorem adg:aX E ops clk k (⟨d, .load t x,ty,pos,af,none⟩::os) K ⟨f,rows,b8,aU⟩=bH (fun v=>x9 E t (fE .any ops k aU rows) (aR f x) v) fun v=>aX E ops clk (k+1) os K ⟨put f d v,rows,kY k (a9 (aR f x)) b8,aU⟩:=by
 simp only [aX,yn,kN,ys,yv];rw [dI (fun v=>Iff.rfl)];simp only [xB (op:=.load t x) rfl];rfl
theorem XZ:aX E ops clk k (⟨d, .field t x i,ty,pos,af,none⟩::os) K ⟨f,rows,b8,aU⟩=bH (fun v=>yX E t i (aR f x) v) fun v=>aX E ops clk (k+1) os K ⟨put f d v,rows,b8,aU⟩:=by
 simp only [aX,yn,kN,ys,yv];rw [dI (fun v=>Iff.rfl)];simp only [gH (op:=.field t x i) rfl]
theorem HM:aX E ops clk k (⟨d, .fieldAddr t x i,ty,pos,af,none⟩::os) K ⟨f,rows,b8,aU⟩=bH (fun v=>iK E t (fE .any ops k aU rows) i (aR f x) v) fun v=>aX E ops clk (k+1) os K ⟨put f d v,rows,kY k (a9 (aR f x)) b8,aU⟩:=by
 simp only [aX,yn,kN,ys,yv];rw [dI (fun v=>Iff.rfl)];simp only [xB (op:=.fieldAddr t x i) rfl];rfl
theorem HN:aX E ops clk k (⟨d, .indexAddr t x y,ty,pos,af,none⟩::os) K ⟨f,rows,b8,aU⟩=bH (fun v=>iL E t (fE .any ops k aU rows) (aR f x) (aR f y) v) fun v=>aX E ops clk (k+1) os K ⟨put f d v,rows,kY k (a9 (aR f x)) b8,aU⟩:=by
 simp only [aX,yn,kN,ys,yv];rw [dI (fun v=>Iff.rfl)];simp only [xB (op:=.indexAddr t x y) rfl];rfl
theorem X0:aX E ops clk k (⟨d, .slice t x lo hi mx,ty,pos,af,none⟩::os) K ⟨f,rows,b8,aU⟩=bH (fun v=>rZ E t (fE .any ops k aU rows) (aR f x) (lo.map (aR f)) (hi.map (aR f)) (mx.map (aR f)) v) fun v=>aX E ops clk (k+1) os K ⟨put f d v,rows,kY k (a9 (aR f x)) b8,aU⟩:=by
 simp only [aX,yn,kN,ys,yv];rw [dI (fun v=>Iff.rfl)];simp only [xB (op:=.slice t x lo hi mx) rfl];rfl
theorem X1:aX E ops clk k (⟨d, .build t parts,ty,pos,af,none⟩::os) K ⟨f,rows,b8,aU⟩=bH (fun v=>u7 (E.ty t) (parts.toList.map fun x=>(x.1,aR f x.2)) v) fun v=>aX E ops clk (k+1) os K ⟨put f d v,rows,b8,aU⟩:=by
 simp only [aX,yn,kN,ys,yv];rw [dI (fun v=>Iff.rfl)];simp only [gH (op:=.build t parts) rfl]
theorem agu:aX E ops clk k (⟨d, .call { callee:=.builtin .len,args:=⟨[x]⟩,argTypes:=⟨[t]⟩ },ty,pos,af,none⟩::os) K ⟨f,rows,b8,aU⟩=bH (fun v=>D3 (E.ty t) (fE .any ops k aU rows) (aR f x) v) fun v=>aX E ops clk (k+1) os K ⟨put f d v,rows,kY k (a9 (aR f x)) b8,aU⟩:=by
 simp only [aX,yn,kN,ys,yv];rw [dI (fun v=>Iff.rfl)];simp only [xB (op:=.call { callee:=.builtin .len,args:=⟨[x]⟩,argTypes:=⟨[t]⟩ }) rfl];rfl
theorem KU:aX E ops clk k (⟨d, .nilCheck x,ty,pos,af,none⟩::os) K ⟨f,rows,b8,aU⟩=bH (fun v=>KI (fE .any ops k aU rows) (aR f x) v) fun v=>aX E ops clk (k+1) os K ⟨put f d v,rows,kY k (a9 (aR f x)) b8,aU⟩:=by
 simp only [aX,yn,kN,ys,yv];rw [dI (fun v=>Iff.rfl)];simp only [xB (op:=.nilCheck x) rfl];rfl
theorem agv:aX E ops clk k (⟨d, .call { callee:=.builtin .max,args:=⟨[x,y]⟩,argTypes:=ts },ty,pos,af,none⟩::os) K ⟨f,rows,b8,aU⟩=bH (fun v=>WV (aR f x) (aR f y) v) fun v=>aX E ops clk (k+1) os K ⟨put f d v,rows,b8,aU⟩:=by
 simp only [aX,yn,kN,ys,yv];rw [dI (fun v=>Iff.rfl)];simp only [gH (op:=.call { callee:=.builtin .max,args:=⟨[x,y]⟩,argTypes:=ts }) rfl]
theorem agw:aX E ops clk k (⟨d, .call { callee:=.builtin .min,args:=⟨[x,y]⟩,argTypes:=ts },ty,pos,af,none⟩::os) K ⟨f,rows,b8,aU⟩=bH (fun v=>WW (aR f x) (aR f y) v) fun v=>aX E ops clk (k+1) os K ⟨put f d v,rows,b8,aU⟩:=by
 simp only [aX,yn,kN,ys,yv];rw [dI (fun v=>Iff.rfl)];simp only [gH (op:=.call { callee:=.builtin .min,args:=⟨[x,y]⟩,argTypes:=ts }) rfl]
theorem KV:aX E ops clk k (⟨d, .makeFunc (.func g) fs bR,ty,pos,af,none⟩::os) K ⟨f,rows,b8,aU⟩ =
  if E.uT g=true then aL ((fs.toList.map fun x=>aR f x).all pE=true∧(bR.toList.map fun x=>aR f x).all pE=true) (aX E ops clk (k+1) os K ⟨put f d (.rC g (fs.toList.map fun x=>aR f x) (bR.toList.map fun x=>aR f x)),rows,b8,aU⟩)
  else aL (fs.toList = []∧(bR.toList.map fun x=>aR f x).all cY=true) (aX E ops clk (k+1) os K ⟨put f d (.fn g (bR.toList.map fun x=>aR f x)),rows,b8,aU⟩):=by
 simp only [aX,yn,kN,ys,yv]
 by_cases hm:E.uT g=true
 ·simp only [if_pos hm]
  rw [dI (fun v=>Iff.rfl),kP,lK];simp only [gH (op:=.makeFunc (.func g) fs bR) rfl]
 ·simp only [if_neg hm]
  rw [dI (fun v=>Iff.rfl),kP,lK];simp only [gH (op:=.makeFunc (.func g) fs bR) rfl]
theorem FG:aX E ops clk k (⟨d, .buildSlice t len parts,ty,pos,af,none⟩::os) K ⟨f,rows,b8,aU⟩=bH (fun v=>XA (E.ty t) (fE .any ops k aU rows) len (parts.toList.map fun x=>(x.1,aR f x.2)) v) fun v=>aX E ops clk (k+1) os K ⟨put f d v,rows,b8,aU⟩:=by
 simp only [aX,yn,kN,ys];rw [dI (fun v=>Iff.rfl)];simp only [gH (op:=.buildSlice t len parts) rfl]
theorem X3{p:Operand}:aX E ops clk k (⟨none, .store t p x,ty,pos,af,none⟩::os) K ⟨f,rows,b8,aU⟩ =
  ∃id r,vC E t (fE .any ops k aU rows) (aR f p) (aR f x) .undef (some (id,r))∧EF .any ops k id b8∧aX E ops clk (k+1) os K ⟨f,eO rows id (some r),kY k (a9 (aR f p)++((cR (aR f x)).getD []).flatMap a9) b8,qX k id aU⟩:=by
 simp only [aX,yn,kN,ys]
 apply propext
 constructor
 ·rintro⟨v,u,h,h1,h2⟩
  have h':=h
  obtain⟨_,rfl,h3⟩:=h
  split at h3
  ·obtain⟨_,_,_,_,_,_,_,_,_,_,rfl⟩:=h3
   exact⟨_,_,h',h1,h2⟩
  ·exact h3.elim
 ·rintro⟨id,r,h,h1,h2⟩;exact⟨.undef,some (id,r),h,h1,h2⟩
theorem agx{R:PV->Option (Nat × Row)->Prop}{v0:PV}{st:ST}(h:∀v u,R v u↔(C∧v=v0∧u=some (e,r0))):(∃v u,R v u∧SB .any ops k u b8∧aX E ops fD (k+1) os K (app k o true v u st))=aL (C∧EF .any ops k e b8) (aX E ops fD (k+1) os K (app k o true v0 (some (e,r0)) st)):=by
 apply propext;simp only [aL]
 constructor
 ·rintro⟨v,u,h1,h2,h3⟩
  obtain⟨hc,rfl,rfl⟩:=(h v u).1 h1
  exact⟨⟨hc,h2⟩,h3⟩
 ·rintro⟨⟨h1,h2⟩,h3⟩;exact⟨v0,_,(h _ _).2 ⟨h1,rfl,rfl⟩,h2,h3⟩
theorem A5(h:j4 op (aR f) = []):app k ⟨d,op,ty,pos,af,none⟩ true v (some (e,r0)) ⟨f,rows,b8,aU⟩=⟨put f d v,eO rows e (some r0),b8,qX k e aU⟩:=by simp only [app,fP,wlU,h,List.not_mem_nil,and_false,false_or];rfl
theorem X4:aX E ops clk k (⟨d, .alloc t,ty,pos,af,none⟩::os) K ⟨f,rows,b8,aU⟩=aL ((E.ty t).known=true∧EF .any ops k (d.getD 0) b8) (aX E ops (clk+1) (k+1) os K ⟨put f d (.ptr (d.getD 0) clk 0 0),eO rows (d.getD 0) (some ⟨clk,t,(E.ty t).size,[(E.ty t).zero]⟩),b8,qX k (d.getD 0) aU⟩):=by
 simp only [aX,yn,kN]
 rw [agx (C:=(E.ty t).known=true) (v0:=.ptr (d.getD 0) clk 0 0) (e:=d.getD 0) (r0:=⟨clk,t,(E.ty t).size,[(E.ty t).zero]⟩) (fun v u=>by simp),A5 (op:=.alloc t) rfl]
theorem agy:aX E ops clk k (⟨d, .box t x,ty,pos,af,none⟩::os) K ⟨f,rows,b8,aU⟩=aL ((E.ty t).known=true) (∃l,cR (aR f x)=some l∧((∀q∈l,jT (fun _=>none) q)∧l.length=(E.ty t).size∧EF .any ops k (d.getD 0) b8) ∧
  aX E ops (clk+1) (k+1) os K ⟨put f d (.ptr (d.getD 0) clk 0 0),eO rows (d.getD 0) (some ⟨clk,t,(E.ty t).size,[l]⟩),b8,qX k (d.getD 0) aU⟩):=by
 simp only [aX,yn,kN]
 apply propext
 constructor
 ·rintro⟨v,u,⟨h1,l,h2,h3,h4,rfl,rfl⟩,h5,h6⟩
  rw [A5 (op:=.box t x) rfl]at h6
  exact⟨h1,l,h2,⟨h3,h4,h5⟩,h6⟩
 ·rintro⟨h1,l,h2,⟨h3,h4,h5⟩,h6⟩
  refine⟨_,_,⟨h1,l,h2,h3,h4,rfl,rfl⟩,h5,?_⟩
  rw [A5 (op:=.box t x) rfl];exact h6
theorem HO{l c:Operand}:aX E ops clk k (⟨d, .makeSlice t l c,ty,pos,af,none⟩::os) K ⟨f,rows,b8,aU⟩=vK (E.ty t) (aR f l) (aR f c) fun e n z x=>aL (EF .any ops k (d.getD 0) b8) (aX E ops (clk+1) (k+1) os K ⟨put f d (.own (d.getD 0) clk 0 x.toNat),eO rows (d.getD 0) (some ⟨clk,e,n,List.replicate x.toNat z⟩),b8,qX k (d.getD 0) aU⟩):=by
 have hap:∀ {v e' r0},app k ⟨d, .makeSlice t l c,ty,pos,af,none⟩ true v (some (e',r0)) ⟨f,rows,b8,aU⟩=⟨put f d v,eO rows e' (some r0),b8,qX k e' aU⟩:=A5 rfl
 simp only [aX,yn,kN,vK]
 generalize E.ty t=T
 generalize aR f l=A
 generalize aR f c=B
 cases T with
 | slice e n b z =>
  cases A with
  | int k1 x =>
   cases B with
   | int k2 y =>
    apply propext
    simp only [aL]
    constructor
    ·rintro⟨v,u,⟨h1,h2,h3,h4,rfl,rfl⟩,h5,h6⟩
     rw [hap]at h6
     exact⟨⟨h1,h2,h3,h4⟩,h5,h6⟩
    ·rintro⟨⟨h1,h2,h3,h4⟩,h5,h6⟩
     refine⟨_,_,⟨h1,h2,h3,h4,rfl,rfl⟩,h5,?_⟩
     rw [hap];exact h6
   | _=>simp
  | _=>simp
 | _=>simp
theorem SS:aX E ops clk k (⟨d, .call { callee:=.builtin .append,args:=⟨[x,y]⟩,argTypes:=⟨[t,t2]⟩ },ty,pos,af,none⟩::os) K ⟨f,rows,b8,aU⟩ =
  aL (t2=t∨slT (E.ty t2)=true) (∃v u,yJ (E.ty t) (fE .any ops k aU rows) (aR f x) (aR f y) clk (d.getD 0) v u∧SB .any ops k u b8 ∧
   aX E ops (clk+1) (k+1) os K ⟨put f d v,fP rows u,kY k (a9 (aR f x)++a9 (aR f y)) b8,wlU k u aU⟩):=by
 have hap:∀ {v u},app k ⟨d, .call { callee:=.builtin .append,args:=⟨[x,y]⟩,argTypes:=⟨[t,t2]⟩ },ty,pos,af,none⟩ true v u ⟨f,rows,b8,aU⟩=⟨put f d v,fP rows u,kY k (a9 (aR f x)++a9 (aR f y)) b8,wlU k u aU⟩:=rfl
 simp only [aX,yn,kN,aL]
 apply propext
 constructor
 ·rintro⟨v,u,⟨h1,h2⟩,h3,h4⟩
  exact⟨h1,v,u,h2,h3,h4⟩
 ·rintro⟨h1,v,u,h2,h3,h4⟩
  exact⟨v,u,⟨h1,h2⟩,h3,h4⟩
theorem adh:aX E ops clk k (⟨d, .call { callee:=.builtin .copy,args:=⟨[x,y]⟩,argTypes:=⟨[t,t2]⟩ },ty,pos,af,none⟩::os) K ⟨f,rows,b8,aU⟩ =
  ∃v u,yF (E.ty t) (fE .any ops k aU rows) (aR f x) (aR f y) v u∧SB .any ops k u b8 ∧
   aX E ops clk (k+1) os K ⟨put f d v,fP rows u,kY k (a9 (aR f x)++a9 (aR f y)) b8,wlU k u aU⟩:=rfl
def tG(E:Env)(p:PV)(eQ:List PV)(rows:Rows)(K:PV->Prop):Prop:=
 match p with
 | .fn g bR=>aL ((eQ.map (pz rows)).all cY=true∧eQ.flatMap eK = []) (A4 E.P g (eQ.map (pz rows)++bR) K)
 | _=>False
@[congr] theorem akY{E:Env}{rows:Rows}{K:PV->Prop}(h1:p=p')(h2:eQ=rI)(h3:rows=rows'):tG E p eQ rows K=tG E p' rI rows' K:=by rw [h1,h2,h3]
def r8(E:Env)(p:PV)(eQ:List PV)(rows:Rows)(K:PV->Nat->Row->Prop):Prop:=∃v id r,R6 E p eQ rows v (some (id,r))∧K v id r
@[congr] theorem akZ{E:Env}{rows:Rows}{K:PV->Nat->Row->Prop}(h1:p=p')(h2:eQ=rI)(h3:rows=rows'):r8 E p eQ rows K=r8 E p' rI rows' K:=by rw [h1,h2,h3]
theorem LX(OA:eM E (.call { callee:=.value fo,args:=args,argTypes:=ts })=false):aX E ops clk k (⟨d, .call { callee:=.value fo,args:=args,argTypes:=ts },ty,pos,af,none⟩::os) K ⟨f,rows,b8,aU⟩ =
  if EA E (aR f fo)=true then r8 E (aR f fo) (args.toList.map (aR f)) (fE .any ops k aU rows) (fun v id r=>aL (EF .any ops k id b8) (aX E ops clk (k+1) os K ⟨put f d v,eO rows id (some r),kY k ((args.toList.map (aR f)).flatMap a9) b8,qX k id aU⟩))
  else tG E (aR f fo) (args.toList.map (aR f)) (fE .any ops k aU rows) fun v=>aX E ops clk (k+1) os K ⟨put f d v,rows,b8,aU⟩:=by
 simp only [aX]
 rw [HD OA]
 simp only [HC OA,ys,EB,tG,aL,A4]
 have e4:(args.toList.map fun x=>aR f x)=args.toList.map (aR f):=rfl
 have e5:(args.toList.flatMap fun x=>a9 (aR f x))=(args.toList.map (aR f)).flatMap a9:=by rw [List.flatMap_map]
 by_cases hm:EA E (aR f fo)=true
 ·simp only [if_pos hm,r8]
  have hap:∀ {v e' r0},app k ⟨d, .call { callee:=.value fo,args:=args,argTypes:=ts },ty,pos,af,none⟩ true v (some (e',r0)) ⟨f,rows,b8,aU⟩=⟨put f d v,eO rows e' (some r0),kY k ((args.toList.map (aR f)).flatMap a9) b8,qX k e' aU⟩:=by
   intro v e' r0
   rw [<-e5];rfl
  apply propext
  constructor
  ·rintro⟨v,u,h1,h2,h3⟩
   have NZ:=h1
   unfold R6 at NZ
   split at NZ
   ·obtain⟨_,_,_,_,_,_,_,_,_,_,_,_,_,rfl⟩:=NZ
    rw [hap]at h3
    exact⟨v,_,_,h1,h2,h3⟩
   ·exact NZ.elim
  ·rintro⟨v,id,r,h1,h2,h3⟩
   exact⟨v,some (id,r),h1,h2,by rw [hap];exact h3⟩
 simp only [if_neg hm]
 generalize hA:aR f fo=A
 have e1:(args.toList.map fun x=>pz (fE .any ops k aU rows) (aR f x))=(args.toList.map (aR f)).map (pz (fE .any ops k aU rows)):=by rw [List.map_map];rfl
 have e2:(args.toList.flatMap fun x=>eK (aR f x))=(args.toList.map (aR f)).flatMap eK:=by rw [List.flatMap_map]
 have e3:∀v,(args.toList.flatMap fun x=>eK (aR f x)) = []->app k ⟨d, .call { callee:=.value fo,args:=args,argTypes:=ts },ty,pos,af,none⟩ true v none ⟨f,rows,b8,aU⟩=⟨put f d v,rows,b8,aU⟩:=fun v h=>gH (aaR h)
 rw [e1]
 cases A with
 | fn g bR =>
  apply propext
  constructor
  ·rintro⟨v,u,⟨rfl,⟨h1,h2⟩,h3⟩,_,h4⟩;rw [e3 v h3]at h4;exact⟨⟨h1,by rw [<-e2];exact h3⟩,v,h2,h4⟩
  ·rintro⟨⟨h1,h3⟩,v,h2,h4⟩;rw [<-e2]at h3;exact⟨v,none,⟨rfl,⟨h1,h2⟩,h3⟩,trivial,by rw [e3 v h3];exact h4⟩
 | _=>simp
theorem X5(hw:E.writes g=true):aX E ops clk k (⟨d, .call { callee:=.value (.func g),args:=args,argTypes:=ts },ty,pos,af,none⟩::os) K ⟨f,rows,b8,aU⟩ =
  ∃e n els,((args.toList.map (aR f)).all cY=true∧jZ E.P g (args.toList.map (aR f)) e n els∧EF .any ops k (d.getD 0) b8)∧aX E ops (clk+1) (k+1) os K ⟨put f d (.own (d.getD 0) clk 0 els.length),eO rows (d.getD 0) (some ⟨clk,e,n,els⟩),b8,qX k (d.getD 0) aU⟩:=by
 have hap:(args.toList.map (aR f)).all cY=true -> ∀ {v e' r0},app k ⟨d, .call { callee:=.value (.func g),args:=args,argTypes:=ts },ty,pos,af,none⟩ true v (some (e',r0)) ⟨f,rows,b8,aU⟩=⟨put f d v,eO rows e' (some r0),b8,qX k e' aU⟩:=fun hp=>A5 (by simp only [j4];exact aaS hp)
 simp only [aX,yn,kN]
 rw [if_pos hw]
 simp only [if_pos hw]
 apply propext
 constructor
 ·rintro⟨v,u,⟨h1,e,n,els,h2,rfl,rfl⟩,h3,h4⟩
  rw [hap h1]at h4
  exact⟨e,n,els,⟨h1,h2,h3⟩,h4⟩
 ·rintro⟨e,n,els,⟨h1,h2,h3⟩,h4⟩
  refine⟨_,_,⟨h1,e,n,els,h2,rfl,rfl⟩,h3,?_⟩
  rw [hap h1];exact h4
@[simp] theorem awt{ops:List Oper}{rows:Rows}:fE md ops j (fun _ _=>False) rows=rows:=by
 funext id;simp [fE]
@[simp] theorem awu{ops:List Oper}{k:Nat}{w:Nat->Nat->Prop}{rows:Rows}:fE md ops j (qX k id w) rows=if uU md ops j k=true then fE md ops j w rows else eO (fE md ops j w rows) id none:=by
 funext x
 unfold fE qX
 by_cases hd:uU md ops j k=true
 ·rw [if_pos hd]
  have:(∃k',((k'=k∧x=id)∨w k' x)∧uU md ops j k'=false) ↔ ∃k',w k' x∧uU md ops j k'=false:=by
   constructor
   ·rintro⟨k',⟨rfl,_⟩ | h,h2⟩
    ·rw [hd]at h2;cases h2
    ·exact⟨k',h,h2⟩
   ·rintro⟨k',h,h2⟩;exact⟨k', .inr h,h2⟩
  exact(by classical exact ite_congr (propext this) (fun _=>rfl) (fun _=>rfl))
 ·rw [if_neg hd]
  have hd':uU md ops j k=false:=by simpa using hd
  simp only [eO]
  by_cases hx:x=id
  ·rw [if_pos hx,if_pos ⟨k, .inl ⟨rfl,hx⟩,hd'⟩]
  ·rw [if_neg hx]
   have:(∃k',((k'=k∧x=id)∨w k' x)∧uU md ops j k'=false) ↔ ∃k',w k' x∧uU md ops j k'=false:=by
    constructor
    ·rintro⟨k',⟨_,h⟩ | h,h2⟩
     ·exact absurd h hx
     ·exact⟨k',h,h2⟩
    ·rintro⟨k',h,h2⟩;exact⟨k', .inr h,h2⟩
   exact(by classical exact ite_congr (propext this) (fun _=>rfl) (fun _=>rfl))
@[simp] theorem aAv{ops:List Oper}:EF md ops i id (fun _ _=>False)=True:=by simp [EF]
@[simp] theorem aAw{ops:List Oper}{k:Nat}{l:List Nat}{t:Nat->Nat->Prop}:EF md ops i id (kY k l t)=((id∈l->uU md ops i k=true)∧EF md ops i id t):=by
 apply propext
 unfold EF kY
 constructor
 ·intro h;exact⟨fun hi=>h k (.inl ⟨rfl,rfl,hi⟩),fun k' hk=>h k' (.inr hk)⟩
 ·rintro⟨h1,h2⟩ k' (⟨_,rfl,h⟩ | h)
  ·exact h1 h
  ·exact h2 k' h
end
end Pm
