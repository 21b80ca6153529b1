import Derived.StillTail
import Derived.Deep.LoopGhost
import Derived.Test.YtiobceocpabjdaaGreatKab
set_option linter.unusedSimpArgs false
set_option linter.unusedVariables false
namespace Pm
open Go Go.RowKit
def mT(P:Program)(f:FuncId)(args:List PV)(e:TypeId)(n:Nat)(els:List (List PV)):Prop:=
 (∃fn c,P.funcs[f]? = some fn∧fn.body=some c∧(fn.name == "runtime.NumGoroutine")=false) ∧
 ∀(w:World) (S:eG) (vs:List Value),(∀b o,S b o→b<w.heap.size)→bP S w args vs →
  Calls P f vs.toArray w fun x w'=>∃(v:Value) (xs:List Value) (S':eG),x = .returned v∧Below w.heap.size w w'∧(∀b o,S b o→S' b o)∧(∀b o,S' b o→S b o∨(w.heap.size≤b∧b<w'.heap.size)) ∧
   w'.ownsRow w.heap.size e n v els.length xs∧bF (dK S' w') els.flatten xs∧(∀y∈xs,y.oneCell'=true)∧(∀x∈els,x.length=n)∧0<n∧(∀g o,v.ownBlock=some g→¬S' g o)
def N4(md:Region.Mode)(ops:List Oper):Nat→Nat→Nat→Bool
 | 0,_,_=>false
 | f+1,j,k=>match ops[j]? with
  | some o=>o.after.toList.any fun e=>Region.binds md e&&(e.on==k || N4 md ops f e.on k)
  | none=>false
def rU(md:Region.Mode)(ops:List Oper)(j k:Nat):Bool:=N4 md ops 12 j k
structure ST where
 f:Nat→PV
 rows:Rows
 bS:Nat→Nat→Prop
 wl:Nat→Nat→Prop
def eA(E:Env):Op→Bool
 | .alloc _=>true
 | .box _ _=>true
 | .makeSlice _ _ _=>true
 | .call { callee:=.builtin .append,args:=⟨[_,_]⟩,argTypes:=⟨[_,_]⟩ }=>true
 | .call { callee:=.value (.func g),args:=_,argTypes:=_ }=>E.writes g
 | _=>false
def vN(E:Env)(ops:List Oper):Bool:=ops.all fun o => !eA E o.op || (o.dst.isSome&&o.guard.isNone)
def rk(E:Env)(ops:List Oper)(i:Nat):Nat:=((ops.take i).filter fun o=>eA E o.op).length
theorem XA{E:Env}{ops:List Oper}{i:Nat}{o:Oper}(h:ops[i]? = some o):rk E ops (i+1)=rk E ops i+if eA E o.op=true then 1 else 0:=by
 unfold rk
 rw [List.take_add_one,h]
 simp only [Option.toList_some,List.filter_append,List.length_append]
 congr 1
 cases hn:eA E o.op<;>simp [hn]
theorem ahT{E:Env}{ops:List Oper}{i j:Nat}(h:i≤j):rk E ops i≤rk E ops j:=by
 unfold rk
 have:(ops.take i).Sublist (ops.take j):=by
  have:=List.take_sublist i (ops.take j)
  rwa [List.take_take,Nat.min_eq_left h]at this
 exact(this.filter _).length_le
theorem N7{E:Env}{ops:List Oper}{i j:Nat}{o:Oper}(h:ops[i]? = some o)(hn:eA E o.op=true)(hij:i<j):rk E ops i<rk E ops j:=by
 have h1:=XA (E:=E) h
 rw [if_pos hn]at h1
 have:=ahT (E:=E) (ops:=ops) (show i+1≤j from hij)
 omega
theorem anI{E:Env}{ops:List Oper}{i j:Nat}{o o':Oper}(h:ops[i]? = some o)(hn:eA E o.op=true)(h':ops[j]? = some o')(BR:eA E o'.op=true)(he:rk E ops i=rk E ops j):i=j:=by
 rcases Nat.lt_trichotomy i j with h1 | h1 | h1
 ·have:=N7 h hn h1;omega
 ·exact h1
 ·have:=N7 h' BR h1;omega
def vC(t:TI)(rows:Rows)(x y:PV)(c0 d:Nat)(v:PV)(u:Option (Nat × Row)):Prop:=
 match t with
 | .slice e n b _=>∃l,sG rows y l∧(∀e∈l,e.length=n) ∧
  match x with
  | .nil=>l.length≤room∧l.length*b≤room∧v = .own d c0 0 l.length∧u=some (d,⟨c0,e,n,l⟩)
  | .own id ver off len=>∃r,rows id=some r∧r.ver=ver∧off=0∧len≤r.els.length∧r.e=e∧r.size=n∧len+l.length≤room∧(len+l.length)*b≤room ∧
    v = .own id c0 0 (len+l.length)∧u=some (id,⟨c0,e,n,r.els.take len++l⟩)
  | .jA l0=>(∀e∈l0,e.length=n)∧(∀e∈l,∀p∈e,bL p=true)∧l0.length+l.length≤room∧(l0.length+l.length)*b≤room∧v = .sl (l0++l)∧u=none
  | _=>False
 | _=>False
def ak3(E:Env)(g:FuncId)(args:List PV)(c0 d:Nat)(v:PV)(u:Option (Nat × Row)):Prop:=
 args.all dI=true ∧ ∃e n els,mT E.P g args e n els∧v = .own d c0 0 els.length∧u=some (d,⟨c0,e,n,els⟩)
def yn(E:Env)(c0:Nat)(d:Option Tmp)(op:Op)(ρ:Operand→PV)(rows:Rows)(v:PV)(u:Option (Nat × Row)):Prop:=
 match op with
 | .alloc t=>(E.ty t).known=true∧v = .ptr (d.getD 0) c0 0 0∧u=some (d.getD 0,⟨c0,t,(E.ty t).size,[(E.ty t).zero]⟩)
 | .box t x=>(E.ty t).known=true ∧ ∃l,cQ (ρ x)=some l∧(∀q∈l,iT (fun _=>none) q)∧l.length=(E.ty t).size∧v = .ptr (d.getD 0) c0 0 0∧u=some (d.getD 0,⟨c0,t,(E.ty t).size,[l]⟩)
 | .makeSlice t l c =>
  match E.ty t,ρ l,ρ c with
  | .slice e n b z, .int _ x, .int _ y=>0≤x∧x≤y∧y.toNat≤room∧y.toNat*b≤room∧v = .own (d.getD 0) c0 0 x.toNat∧u=some (d.getD 0,⟨c0,e,n,List.replicate x.toNat z⟩)
  | _,_,_=>False
 | .call { callee:=.builtin .append,args:=⟨[x,y]⟩,argTypes:=⟨[t,t2]⟩ }=>(t2=t∨slT (E.ty t2)=true)∧vC (E.ty t) rows (ρ x) (ρ y) c0 (d.getD 0) v u
 | .call { callee:=.value (.func g),args:=aKn,argTypes:=ts }=>if E.writes g=true then ak3 E g (aKn.toList.map fun x=>ρ x) c0 (d.getD 0) v u else ys E (.call { callee:=.value (.func g),args:=aKn,argTypes:=ts }) ρ rows v u
 | op=>ys E op ρ rows v u
theorem DM{E:Env}{c0:Nat}{d:Option Tmp}{op:Op}{ρ:Operand→PV}{rows:Rows}{v:PV}{u:Option (Nat × Row)}(h:eA E op=false):yn E c0 d op ρ rows v u=ys E op ρ rows v u:=by
 unfold yn
 split
 all_goals first
  | rfl
  | (simp [eA]at h;done)
  | (simp only [eA]at h;rw [if_neg (by rw [h];decide)])
theorem oU{E:Env}{op:Op}{C:Prop}(h:eA E op=true)(h1:∀t,op = .alloc t→C)(h2:∀t x,op = .box t x→C)(h3:∀t l c,op = .makeSlice t l c→C)
  (h4:∀x y t t2,op = .call { callee:=.builtin .append,args:=⟨[x,y]⟩,argTypes:=⟨[t,t2]⟩ }→C) (h5:∀g aKn ts,op = .call { callee:=.value (.func g),args:=aKn,argTypes:=ts }→E.writes g=true→C):C:=by
 unfold eA at h
 split at h
 ·exact h1 _ rfl
 ·exact h2 _ _ rfl
 ·exact h3 _ _ _ rfl
 ·exact h4 _ _ _ _ rfl
 ·exact h5 _ _ _ rfl h
 ·cases h
theorem ac6{t:TI}{rows rows':Rows}{x y v:PV}{c0 d:Nat}{u:Option (Nat × Row)}(h:j5 (aU x++aU y) rows rows')(hy:vC t rows x y c0 d v u):vC t rows' x y c0 d v u ∧ ∀id∈aU x++aU y,∃r,rows id=some r:=by
 unfold vC at *
 cases t with
 | slice e n b z =>
  obtain⟨l,h1,h2,h3⟩:=hy
  obtain⟨g1,g2⟩:=W9 (fun id gL=>h id (by simp only [List.mem_append];exact .inr gL)) h1
  cases x with
  | nil=>exact⟨⟨l,g1,h2,h3⟩,fun id gL=>g2 id (by simpa [aU]using gL)⟩
  | jA l0=>exact⟨⟨l,g1,h2,h3⟩,fun id gL=>g2 id (by simpa [aU]using gL)⟩
  | own id ver off len =>
   obtain⟨r,hr,hh⟩:=h3
   refine⟨⟨l,g1,h2,r,h id (by simp [aU]) r hr,hh⟩,fun jO gL=>?_⟩
   simp only [aU,List.mem_append,List.mem_cons,List.not_mem_nil,or_false]at gL
   rcases gL with rfl | gL
   ·exact⟨r,hr⟩
   ·exact g2 jO gL
  | _=>exact h3.elim
 | _=>exact hy.elim
theorem XB{E:Env}{c0:Nat}{d:Option Tmp}{op:Op}{ρ:Operand→PV}{rows rows':Rows}{v:PV}{u:Option (Nat × Row)}(h:j5 (iW op ρ) rows rows')(hy:yn E c0 d op ρ rows v u) :
  yn E c0 d op ρ rows' v u∧(∀id∈iW op ρ,∃r,rows id=some r) ∧ ∀id r,u=some (id,r)→(eA E op=true∧id=d.getD 0)∨id∈iW op ρ:=by
 cases hn:eA E op with
 | false =>
  rw [DM hn]at hy ⊢
  obtain⟨h1,h2,h3⟩:=ak2 h hy
  exact⟨h1,h2,fun id r hu => .inr (h3 id r hu)⟩
 | true =>
  refine oU hn ?_ ?_ ?_ ?_ ?_
  ·rintro t rfl
   refine⟨hy,by simp [iW],fun id r hu => .inl ⟨by first | trivial | rfl,?_⟩⟩
   obtain⟨_,_,rfl⟩:=hy
   simp at hu;exact hu.1.symm
  ·rintro t x rfl
   refine⟨hy,by simp [iW],fun id r hu => .inl ⟨by first | trivial | rfl,?_⟩⟩
   obtain⟨_,_,_,_,_,_,rfl⟩:=hy
   simp at hu;exact hu.1.symm
  ·rintro t l c rfl
   refine⟨hy,by simp [iW],fun id r hu => .inl ⟨by first | trivial | rfl,?_⟩⟩
   simp only [yn]at hy
   split at hy
   ·obtain⟨_,_,_,_,_,rfl⟩:=hy
    simp at hu;exact hu.1.symm
   ·exact hy.elim
  ·rintro x y t t2 rfl
   simp only [yn,iW]at hy h ⊢
   obtain⟨h2,h3⟩:=hy
   obtain⟨g1,g2⟩:=ac6 h h3
   refine⟨⟨h2,g1⟩,g2,fun id r hu=>?_⟩
   unfold vC at h3
   split at h3
   ·obtain⟨l,_,_,h3⟩:=h3
    split at h3
    ·obtain⟨_,_,_,rfl⟩:=h3
     simp at hu;exact .inl ⟨by first | trivial | rfl,hu.1.symm⟩
    ·rename_i hx
     obtain⟨_,_,_,_,_,_,_,_,_,_,rfl⟩:=h3
     simp at hu
     rw [hx]
     exact .inr (by simp [aU,hu.1])
    ·obtain⟨_,_,_,_,_,rfl⟩:=h3
     cases hu
    ·exact h3.elim
   ·exact h3.elim
  ·rintro g aKn ts rfl hw
   simp only [yn]at hy ⊢
   rw [if_pos hw]at hy
   rw [if_pos hw]
   refine⟨hy,by simp only [iW];rw [W8 hy.1];simp,fun id r hu => .inl ⟨by first | trivial | exact hw,?_⟩⟩
   obtain⟨_,_,_,_,_,_,rfl⟩:=hy
   simp at hu;exact hu.1.symm
open Classical in
noncomputable def eN(md:Region.Mode)(ops:List Oper)(j:Nat)(wl:Nat→Nat→Prop)(rows:Rows):Rows:=fun id=>if ∃k,wl k id∧rU md ops j k=false then none else rows id
theorem l7{md:Region.Mode}{ops:List Oper}{j id:Nat}{wl:Nat→Nat→Prop}{rows:Rows}{r:Row}:eN md ops j wl rows id=some r↔(∀k,wl k id→rU md ops j k=true)∧rows id=some r:=by
 unfold eN
 split
 ·rename_i h
  obtain⟨k,h1,h2⟩:=h
  simp only [reduceCtorEq,false_iff,not_and]
  intro h3
  rw [h3 k h1]at h2;cases h2
 ·rename_i h
  refine⟨fun h2=>⟨fun k hk=>?_,h2⟩,fun h2=>h2.2⟩
  cases hd:rU md ops j k with
  | true=>rfl
  | false=>exact absurd ⟨k,hk,hd⟩ h
def AO(md:Region.Mode)(ops:List Oper)(i id:Nat)(bS:Nat→Nat→Prop):Prop:=∀k,bS k id→rU md ops i k=true
def N8(md:Region.Mode)(ops:List Oper)(i:Nat)(u:Option (Nat × Row))(bS:Nat→Nat→Prop):Prop:=
 match u with
 | none=>True
 | some (id,_)=>AO md ops i id bS
def gOK(ops:Array Oper)(o:Oper)(f:Nat→PV)(b:Bool):Prop:=
 match o.guard with
 | none=>b=true
 | some (j,want)=>∃d,(ops[j]?).bind (·.dst)=some d∧((f d = .bool want∧b=true)∨((f d = .bool (!want)∨f d = .dX [])∧b=false))
def YG(E:Env)(md:Region.Mode)(ops:Array Oper)(c0:Nat)(i:Nat)(o:Oper)(b:Bool)(v:PV)(u:Option (Nat × Row))(st:ST):Prop:=
 gOK ops o st.f b∧if b=true then yn E (c0+rk E ops.toList i) o.dst o.op (aS st.f) (eN md ops.toList i st.wl st.rows) v u else v = .dX []∧u=none
def wlU(i:Nat)(u:Option (Nat × Row))(wl:Nat→Nat→Prop):Nat→Nat→Prop:=
 match u with
 | none=>wl
 | some (id,_)=>fun k jO=>(k=i∧jO=id)∨wl k jO
def app(i:Nat)(o:Oper)(b:Bool)(v:PV)(u:Option (Nat × Row))(st:ST):ST:=
 { f:=put st.f o.dst v,rows:=eS st.rows u,bS:=fun k id=>(b=true∧k=i∧id∈iW o.op (aS st.f))∨st.bS k id,wl:=wlU i u st.wl }
def jK(E:Env)(op:Op)(clk:Nat):Nat:=
 match op with
 | .alloc _=>clk+1
 | .box _ _=>clk+1
 | .makeSlice _ _ _=>clk+1
 | .call { callee:=.builtin .append,args:=⟨[_,_]⟩,argTypes:=⟨[_,_]⟩ }=>clk+1
 | .call { callee:=.value (.func g),args:=_,argTypes:=_ }=>if E.writes g=true then clk+1 else clk
 | _=>clk
theorem DN{E:Env}{op:Op}{clk:Nat}(h:eA E op=false):jK E op clk=clk:=by
 unfold jK
 split
 all_goals first
  | rfl
  | (simp [eA]at h;done)
  | (simp only [eA]at h;rw [if_neg (by rw [h];decide)])
theorem ac7{E:Env}{op:Op}{clk:Nat}(h:eA E op=true):jK E op clk=clk+1:=by
 refine oU h ?_ ?_ ?_ ?_ ?_
 ·rintro t rfl;rfl
 ·rintro t x rfl;rfl
 ·rintro t l c rfl;rfl
 ·rintro x y t t2 rfl;rfl
 ·rintro g aKn ts rfl hw;simp only [jK];rw [if_pos hw]
theorem ahV{E:Env}{ops:List Oper}{i c0:Nat}{o:Oper}(h:ops[i]? = some o):jK E o.op (c0+rk E ops i)=c0+rk E ops (i+1):=by
 rw [XA h]
 cases hn:eA E o.op with
 | false=>rw [DN hn];simp
 | true=>rw [ac7 hn];simp;omega
def qOp(E:Env)(md:Region.Mode)(ops:Array Oper)(c0:Nat)(i:Nat)(K:ST→Prop)(st:ST):Prop:=
 match ops[i]? with
 | none=>K st
 | some o=>∃b v u,YG E md ops c0 i o b v u st∧N8 md ops.toList i u st.bS∧K (app i o b v u st)
section
variable {E:Env} {ops:Array Oper} {md:Region.Mode}
theorem ac9{c0 i:Nat}{K K':ST→Prop}{st:ST}(h:∀st,K st→K' st)(hh:qOp E md ops c0 i K st):qOp E md ops c0 i K' st:=by
 unfold qOp at *
 split
 ·exact h _ (by simpa [*]using hh)
 ·rename_i o ho
  simp only [ho]at hh
  obtain⟨b,v,u,h1,h2,h3⟩:=hh
  exact⟨b,v,u,h1,h2,h _ h3⟩
theorem XC{f:Nat→PV}{d:Option Tmp}{v:PV}{x:Operand}(h:∀t,d=some t→x ≠ .tmp t):aS (put f d v) x=aS f x:=by
 cases d with
 | none=>rfl
 | some t =>
  cases x with
  | tmp s =>
   have:s≠t:=fun e=>h t rfl (by rw [e])
   simp [aS,put,this]
  | _=>rfl
theorem ada{op:Op}{ρ ρ':Operand→PV}{rows:Rows}{v:PV}{u:Option (Nat × Row)}(h:∀x∈op.operands,ρ x=ρ' x):ys E op ρ rows v u↔ys E op ρ' rows v u:=by
 have parts:∀ps:Array (Nat × Operand),(∀x∈(ps.toList.map (·.2)).toArray,ρ x=ρ' x)→(ps.toList.map fun x=>(x.1,ρ x.2))=ps.toList.map fun x=>(x.1,ρ' x.2):=fun ps hp =>
  List.map_congr_left fun p hm=>by rw [hp p.2 (by simp;exact⟨p.1,by simpa using hm⟩)]
 have args:∀(c:Call),(∀x∈c.operands,ρ x=ρ' x) → ∀x∈c.args.toList,ρ x=ρ' x:=fun c hc x hx=>hc x (by simp [Call.operands];exact .inr (by simpa using hx))
 unfold ys
 split
 ·rename_i x y t t2
  rw [h x (by simp [Op.operands,Call.operands]),h y (by simp [Op.operands,Call.operands])]
 ·rename_i t p x
  rw [h p (by simp [Op.operands]),h x (by simp [Op.operands])]
 ·rename_i t len ps
  rw [parts ps (by simpa [Op.operands]using h)]
 ·rename_i f aKn ts
  have ha:=args _ (by simpa [Op.operands]using h)
  simp only at ha
  have e1:(aKn.toList.map fun x=>pz rows (ρ x))=aKn.toList.map fun x=>pz rows (ρ' x):=List.map_congr_left fun x hx=>by rw [ha x hx]
  have e2:(aKn.toList.map fun x=>ρ x)=aKn.toList.map fun x=>ρ' x:=List.map_congr_left fun x hx=>ha x hx
  rw [h f (by simp [Op.operands,Call.operands]),e1,e2]
  have:(aKn.toList.flatMap fun x=>eB (ρ x))=aKn.toList.flatMap fun x=>eB (ρ' x):=by
   rw [List.flatMap_def,List.flatMap_def]
   congr 1
   exact List.map_congr_left fun x hx=>by rw [ha x hx]
  rw [this]
 ·suffices hs:yv E op ρ rows v↔yv E op ρ' rows v by rw [hs]
  unfold yv
  split
  case h_12 =>
   rename_i t x lo hi mx _ _ _ _
   have o1:∀y:Option Operand,(∀z,y=some z→ρ z=ρ' z)→y.map ρ=y.map ρ':=by
    intro y hy;cases y with
    | none=>rfl
    | some z=>simp [hy z rfl]
   rw [h x (by simp [Op.operands]),o1 lo fun z hz=>h z (by subst hz;simp [Op.operands]),o1 hi fun z hz=>h z (by subst hz;simp [Op.operands]),o1 mx fun z hz=>h z (by subst hz;simp [Op.operands])]
  case h_13=>rename_i t ps _ _ _ _;rw [parts ps (by simpa [Op.operands]using h)]
  case h_15 =>
   rename_i f caps _ _ _ _
   rw [List.map_congr_left (l:=caps.toList) (f:=fun x=>ρ x) (g:=fun x=>ρ' x) fun x hx=>h x (by simp [Op.operands];simpa using hx)]
  all_goals first
   | rfl
   | (simp only [Op.operands,Call.operands]at h;simp [h])
theorem DO{op:Op}{ρ ρ':Operand→PV}(h:∀x∈op.operands,ρ x=ρ' x):iW op ρ=iW op ρ':=by
 unfold iW
 split
 all_goals first
  | rfl
  | (rw [List.flatMap_def,List.flatMap_def];congr 1;exact List.map_congr_left fun x hx=>by rw [h x (by simp [Op.operands,Call.operands];exact .inr (by simpa using hx))])
  | (simp only [Op.operands,Call.operands]at h;simp [h])
theorem N9{c0:Nat}{d:Option Tmp}{op:Op}{ρ ρ':Operand→PV}{rows:Rows}{v:PV}{u:Option (Nat × Row)}(h:∀x∈op.operands,ρ x=ρ' x):yn E c0 d op ρ rows v u↔yn E c0 d op ρ' rows v u:=by
 cases hn:eA E op with
 | false=>rw [DM hn,DM hn];exact ada h
 | true =>
  refine oU hn ?_ ?_ ?_ ?_ ?_
  ·rintro t rfl;exact Iff.rfl
  ·rintro t x rfl
   simp only [yn]
   rw [h x (by simp [Op.operands])]
  ·rintro t l c rfl
   simp only [yn]
   rw [h l (by simp [Op.operands]),h c (by simp [Op.operands])]
  ·rintro x y t t2 rfl
   simp only [yn]
   rw [h x (by simp [Op.operands,Call.operands]),h y (by simp [Op.operands,Call.operands])]
  ·rintro g aKn ts rfl hw
   simp only [yn]
   rw [if_pos hw,if_pos hw,List.map_congr_left (l:=aKn.toList) (f:=fun x=>ρ x) (g:=fun x=>ρ' x) fun x hx=>h x (by simp [Op.operands,Call.operands];exact .inr (by simpa using hx))]
theorem OA{o:Oper}{d:Tmp}{x:Operand}(h:d ∉ o.looksAt ops)(hx:x∈o.op.operands):x ≠ .tmp d:=by
 rintro rfl
 exact h (List.mem_append_left _ (List.mem_filterMap.2 ⟨.tmp d,by simpa using hx,rfl⟩))
theorem TN{c:Cx}:aI c (.dX []) undef:=by
 show dK c.S c.w (.dX []) undef
 simp only [dK]
 exact⟨[],rfl,rfl⟩
theorem jC{c:Cx}{tmps:Array Value}{j:Nat}{d:Tmp}{t:Bool}(h1:(ops[j]?).bind (·.dst)=some d)(h:aI c (.bool t) (tmps.getD d undef)):yielded ops tmps j=some t:=by
 rw [dO]at h
 unfold yielded
 rw [h1]
 simp only [Option.bind_some]
 cases hx:tmps[d]? with
 | none=>simp [hx]at h;cases h
 | some y =>
  have hy:y = .bool t:=by simpa [hx]using h
  rw [hy]
theorem vO{c:Cx}{tmps:Array Value}{j:Nat}{d:Tmp}(h1:(ops[j]?).bind (·.dst)=some d)(h:aI c (.dX []) (tmps.getD d undef)):yielded ops tmps j=none:=by
 have h2:tmps.getD d undef = .tuple #[]:=by
  have h3:dK c.S c.w (.dX []) (tmps.getD d undef):=h
  simp only [dK]at h3
  obtain⟨vs,h4,h5⟩:=h3
  simp only [bP]at h5
  rw [h4,h5]
 unfold yielded
 rw [h1]
 simp only [Option.bind_some]
 cases hx:tmps[d]? with
 | none=>rfl
 | some y =>
  have hy:y = .tuple #[]:=by simpa [hx]using h2
  rw [hy]
theorem XD{o:Oper}{f:Nat→PV}{dd:Option Tmp}{v:PV}{b:Bool}(h:∀d,dd=some d→d ∉ o.looksAt ops):gOK ops o (put f dd v) b↔gOK ops o f b:=by
 unfold gOK
 cases hg:o.guard with
 | none=>rfl
 | some g =>
  obtain⟨j,want⟩:=g
  simp only
  have key:∀d,(ops[j]?).bind (·.dst)=some d→put f dd v d=f d:=by
   intro d h1
   cases dd with
   | none=>rfl
   | some e =>
    have m7:d≠e:=by
     rintro rfl
     exact h d rfl (List.mem_append_right _ (by simp [hg,h1]))
    simp [put,m7]
  constructor
  ·rintro⟨d,h1,h2⟩
   rw [key d h1]at h2
   exact⟨d,h1,h2⟩
  ·rintro⟨d,h1,h2⟩
   rw [←key d h1]at h2
   exact⟨d,h1,h2⟩
theorem put_comm{f:Nat→PV}{x y:Option Tmp}{v u:PV}(h:∀d,x=some d→y≠some d):put (put f x v) y u=put (put f y u) x v:=by
 cases x with
 | none=>rfl
 | some d =>
  cases y with
  | none=>rfl
  | some e =>
   have m7:d≠e:=fun he=>h d rfl (by rw [he])
   funext j
   simp only [put]
   split<;>split<;>simp_all
theorem DP{rows:Rows}{u:Option (Nat × Row)}{j:Nat}(h:∀r,u≠some (j,r)):eS rows u j=rows j:=by
 cases u with
 | none=>rfl
 | some x =>
  obtain⟨i,r⟩:=x
  simp only [eS,eC]
  rw [if_neg]
  rintro rfl
  exact h r rfl
theorem qO{i:Nat}{u:Option (Nat × Row)}{wl:Nat→Nat→Prop}{k id:Nat}:wlU i u wl k id↔(k=i ∧ ∃r,u=some (id,r))∨wl k id:=by
 cases u with
 | none=>simp [wlU]
 | some x =>
  obtain⟨jO,r⟩:=x
  simp only [wlU,Option.some.injEq,Prod.mk.injEq]
  constructor
  ·rintro(⟨h1,h2⟩ | h)
   ·exact .inl ⟨h1,r,h2.symm,rfl⟩
   ·exact .inr h
  ·rintro(⟨h1,r',h2,_⟩ | h)
   ·exact .inl ⟨h1,h2.symm⟩
   ·exact .inr h
theorem J8{i:Nat}{u:Option (Nat × Row)}{bS:Nat→Nat→Prop}:N8 md ops.toList i u bS ↔ ∀id r,u=some (id,r) → ∀k,bS k id→rU md ops.toList i k=true:=by
 cases u with
 | none=>simp [N8]
 | some x =>
  obtain⟨jO,r⟩:=x
  simp only [N8,AO,Option.some.injEq,Prod.mk.injEq]
  constructor
  ·rintro h _ _ ⟨rfl,_⟩;exact h
  ·intro h;exact h _ _ ⟨rfl,rfl⟩
theorem ahW{c0 i j:Nat}{oi oj:Oper}{bi:Bool}{vi:PV}{ui:Option (Nat × Row)}(hj:ops[j]? = some oj)(WY:oi.apart ops oj=true)(hds:eA E oi.op=true→oi.dst.isSome=true)(aAh:eA E oj.op=true→oj.dst.isSome=true)(hdj:rU md ops.toList j i=false){K:ST→Prop}{st:ST}
  (hy:YG E md ops c0 i oi bi vi ui st) (ho:N8 md ops.toList i ui st.bS) (h:qOp E md ops c0 j K (app i oi bi vi ui st)) :
  qOp E md ops c0 j (fun XE=>YG E md ops c0 i oi bi vi ui XE∧N8 md ops.toList i ui XE.bS∧K (app i oi bi vi ui XE)) st:=by
 obtain⟨h1,h2,h3⟩:=Oper.apart_spec WY
 unfold qOp at h ⊢
 simp only [hj]at h ⊢
 obtain⟨bj,vj,uj,⟨hgj,hyj⟩,hoj,hK⟩:=h
 obtain⟨hgi,hyi⟩:=hy
 rw [J8]at hoj ho
 have ej:∀x∈oj.op.operands,aS (put st.f oi.dst vi) x=aS st.f x:=fun x hx=>XC fun t ht=>OA (h1 t ht) hx
 have ei:∀x∈oi.op.operands,aS (put st.f oj.dst vj) x=aS st.f x:=fun x hx=>XC fun t ht=>OA (h3 t ht) hx
 have aAi:gOK ops oj st.f bj:=(XD h1).1 hgj
 have hnw:∀id r,eN md ops.toList j (app i oi bi vi ui st).wl (app i oi bi vi ui st).rows id=some r → ∀r',ui≠some (id,r'):=by
  intro id r hr r' hu
  obtain⟨hw,_⟩:=l7.1 hr
  have:=hw i (qO.2 (.inl ⟨rfl,r',hu⟩))
  rw [hdj]at this;cases this
 have hle:∀ids,j5 ids (eN md ops.toList j (app i oi bi vi ui st).wl (app i oi bi vi ui st).rows) (eN md ops.toList j st.wl st.rows):=by
  intro ids id _ r hr
  have hn:=hnw id r hr
  obtain⟨hw,kZ⟩:=l7.1 hr
  simp only [app]at kZ hw
  rw [DP hn]at kZ
  exact l7.2 ⟨fun k hk=>hw k (qO.2 (.inr hk)),kZ⟩
 have aAj:(if bj=true then yn E (c0+rk E ops.toList j) oj.dst oj.op (aS st.f) (eN md ops.toList j st.wl st.rows) vj uj else vj = .dX []∧uj=none) ∧
   (bj=true → ∀id∈iW oj.op (aS st.f),∃r,eN md ops.toList j (app i oi bi vi ui st).wl (app i oi bi vi ui st).rows id=some r)∧(∀id r,uj=some (id,r)→bj=true∧((eA E oj.op=true∧id=oj.dst.getD 0)∨id∈iW oj.op (aS st.f))):=by
  by_cases hb:bj=true
  ·rw [if_pos hb]at hyj ⊢
   have ahX:=(N9 ej).1 hyj
   obtain⟨g1,g2,g3⟩:=XB (hle _) ahX
   exact⟨g1,fun _=>g2,fun id r hu=>⟨hb,g3 id r hu⟩⟩
  ·rw [if_neg hb]at hyj ⊢
   exact⟨hyj,fun h=>absurd h hb,fun id r hu=>by rw [hyj.2]at hu;cases hu⟩
 obtain⟨aAk,ahX,aAl⟩:=aAj
 have aAm:N8 md ops.toList j uj st.bS:=J8.2 fun id r hu k hk=>hoj id r hu k (.inr hk)
 have hfi:∀id r,uj=some (id,r)→¬(bi=true∧id∈iW oi.op (aS st.f)):=by
  intro id r hu hh
  have:=hoj id r hu i (.inl ⟨hh.1,rfl,hh.2⟩)
  rw [hdj]at this;cases this
 have hui:∀id r,ui=some (id,r)→bi=true∧((eA E oi.op=true∧id=oi.dst.getD 0)∨id∈iW oi.op (aS st.f)):=by
  intro id r hu
  by_cases hb:bi=true
  ·rw [if_pos hb]at hyi
   exact⟨hb,(XB (rows':=eN md ops.toList i st.wl st.rows) (fun id _ r hr=>hr) hyi).2.2 id r hu⟩
  ·rw [if_neg hb]at hyi
   rw [hyi.2]at hu;cases hu
 have m7:∀id r r',ui=some (id,r)→uj=some (id,r')→False:=by
  intro id r r' hu1 hu2
  obtain⟨hb,hh⟩:=aAl id r' hu2
  rcases hh with hh | hh
  ·obtain⟨TM,hh1⟩:=hui id r hu1
   rcases hh1 with hh1 | hh1
   ·obtain⟨d,hd⟩:=Option.isSome_iff_exists.1 (hds hh1.1)
    have e1:id=d:=by rw [hh1.2,hd];rfl
    cases anL:oj.dst with
    | none=>exact absurd anL (fun he=>by have:=aAh hh.1;rw [he]at this;cases this)
    | some d' =>
     have e2:id=d':=by rw [hh.2,anL];rfl
     exact h2 d hd (by rw [anL,←e2,e1])
   ·exact hfi id r' hu2 ⟨TM,hh1⟩
  ·obtain⟨r'',aAo⟩:=ahX hb id hh
   exact hnw id r'' aAo r hu1
 have aAp:bi=true→j5 (iW oi.op (aS st.f)) (eN md ops.toList i st.wl st.rows) (eN md ops.toList i (app j oj bj vj uj st).wl (app j oj bj vj uj st).rows):=by
  intro hb id gL r hr
  obtain⟨hw,kZ⟩:=l7.1 hr
  have hn:∀r',uj≠some (id,r'):=fun r' hu=>hfi id r' hu ⟨hb,gL⟩
  refine l7.2 ⟨fun k hk=>?_,?_⟩
  ·rcases qO.1 hk with ⟨_,r',hu⟩ | hk
   ·exact absurd hu (hn r')
   ·exact hw k hk
  ·simp only [app];rw [DP hn];exact kZ
 refine⟨bj,vj,uj,⟨aAi,aAk⟩,aAm,⟨(XD h3).2 hgi,?_⟩,?_,?_⟩
 ·by_cases hb:bi=true
  ·rw [if_pos hb]at hyi ⊢
   refine(N9 ei).2 ?_
   exact(XB (aAp hb) hyi).1
  ·rw [if_neg hb]at hyi ⊢;exact hyi
 ·-- i's own row has not aGF ayg
  rw [J8]
  rintro id r hu k (⟨hb,rfl,hh⟩ | hh)
  ·obtain⟨r',kZ⟩:=ahX hb id hh
   exact absurd hu (hnw id r' kZ r)
  ·exact ho id r hu k hh
 ·have:app i oi bi vi ui (app j oj bj vj uj st)=app j oj bj vj uj (app i oi bi vi ui st):=by
   simp only [app,ST.mk.injEq]
   refine⟨put_comm fun d hd=>fun hd'=>(h2 d) (by first | exact hd | exact hd') (by first | exact hd' | exact hd),?_,?_,?_⟩
   ·cases ui with
    | none=>rfl
    | some x =>
     cases uj with
     | none=>rfl
     | some y =>
      obtain⟨id,r⟩:=x
      obtain⟨jO,r'⟩:=y
      have:id≠jO:=fun e=>m7 id r r' rfl (by rw [e])
      funext k
      simp only [eS,eC]
      split<;>split<;>simp_all
   ·funext k id
    have e1:iW oi.op (aS (put st.f oj.dst vj))=iW oi.op (aS st.f):=DO ei
    have e2:iW oj.op (aS (put st.f oi.dst vi))=iW oj.op (aS st.f):=DO ej
    rw [e1,e2]
    apply propext
    constructor
    ·rintro(h | h | h)
     ·exact .inr (.inl h)
     ·exact .inl h
     ·exact .inr (.inr h)
    ·rintro(h | h | h)
     ·exact .inr (.inl h)
     ·exact .inl h
     ·exact .inr (.inr h)
   ·funext k id
    apply propext
    rw [qO,qO,qO,qO]
    constructor
    ·rintro(h | h | h)
     ·exact .inr (.inl h)
     ·exact .inl h
     ·exact .inr (.inr h)
    ·rintro(h | h | h)
     ·exact .inr (.inl h)
     ·exact .inl h
     ·exact .inr (.inr h)
  rw [this];exact hK
theorem OB{f j k:Nat}:N4 md ops.toList (f+1) j k=true ↔ ∃oj,ops[j]? = some oj ∧ ∃e∈oj.after,Region.binds md e=true∧(e.on=k∨N4 md ops.toList f e.on k=true):=by
 rw [N4]
 cases h:ops[j]? with
 | none=>simp [show ops.toList[j]? = none by simpa using h]
 | some oj =>
  rw [show ops.toList[j]? = some oj by simpa using h]
  simp only [List.any_eq_true,Bool.and_eq_true,Bool.or_eq_true,beq_iff_eq,Option.some.injEq]
  constructor
  ·rintro⟨e,he,h1,h2⟩;exact⟨oj,rfl,e,by simpa using he,h1,h2⟩
  ·rintro⟨_,rfl,e,he,h1,h2⟩;exact⟨e,by simpa using he,h1,h2⟩
theorem OC{n i:Nat}{bB:Array Bool}(inv:HeadInv md ops n bB):∀(f j:Nat) (oj:Oper),ops[j]? = some oj→(∀e∈oj.after,Region.binds md e=true→bB.getD e.on false=true)→N4 md ops.toList f j i=true→bB.getD i false=true:=by
 intro f
 induction f with
 | zero=>intro j oj _ _ h;rw [N4]at h;cases h
 | succ f ih =>
  intro j oj hj hr h
  obtain⟨o,ho,e,he,h1,h2⟩:=OB.1 h
  rw [hj]at ho;cases ho
  have h3:=hr e he h1
  rcases h2 with rfl | h2
  ·exact h3
  ·cases f with
   | zero=>rw [N4]at h2;cases h2
   | succ f =>
    obtain⟨o',ho',_⟩:=OB.1 h2
    exact ih e.on o' ho' (fun e' r5 kY=>inv.closed e.on o' ho' h3 e' r5 kY) h2
theorem ahY{n j i:Nat}{oj:Oper}{bB:Array Bool}(hj:ops[j]? = some oj)(inv:HeadInv md ops n bB)(hr:∀e∈oj.after,Region.binds md e=true→bB.getD e.on false=true)(XF:bB.getD i false=false):rU md ops.toList j i=false:=by
 cases hd:rU md ops.toList j i with
 | false=>rfl
 | true=>rw [OC inv 12 j oj hj hr hd]at XF;cases XF
end
section
variable {E:Env} {ops:Array Oper} {md:Region.Mode}
def OD(E:Env)(md:Region.Mode)(ops:Array Oper)(c0 n:Nat)(L:Array Bool→ST→Prop):Nat→Array Bool→ST→Prop
 | 0,bB,st=>L bB st
 | f+1,bB,st=>Region.ready md ops bB ≠ [] ∧ ∀i∈Region.ready md ops bB,i<n∧qOp E md ops c0 i (OD E md ops c0 n L f (bB.setIfInBounds i true)) st
theorem OE{c0 n i:Nat}{oi:Oper}{b:Bool}{v:PV}{u:Option (Nat × Row)}{L:Array Bool→ST→Prop}(hi:ops[i]? = some oi)(qM:∀i oi,i<n→ops[i]? = some oi→eA E oi.op=true→oi.dst.isSome=true)
  (DQ:∀bB,HeadInv md ops n bB → ∀i,i<n→bB.getD i true=false → ∀t,n≤t→t ∉ Region.ready md ops bB) (hin:i<n)
  (atX:∀bB st,L bB st → ∀j∈Region.ready md ops bB,n≤j) :
  ∀(f:Nat) (bB:Array Bool) (st:ST),HeadInv md ops n bB →
   (∀j oj,ops[j]? = some oj→j≠i→bB.getD j true=false→(∀e∈oj.after,Region.binds md e=true→e.on≠i)→oi.apart ops oj=true) →
   i∈Region.ready md ops bB→YG E md ops c0 i oi b v u st→N8 md ops.toList i u st.bS →
   OD E md ops c0 n L f (bB.setIfInBounds i true) (app i oi b v u st)→OD E md ops c0 n L (f+1) bB st:=by
 intro f
 induction f with
 | zero =>
  intro bB st inv _ hr hy ho H
  have XF:=(mem_ready.1 hr).1
  refine⟨fun h=>(by rw [h]at hr;cases hr),fun j hj=>?_⟩
  have hjn:j<n:=by
   rcases Nat.lt_or_ge j n with h | h
   ·exact h
   ·exact absurd hj (DQ bB inv i hin XF j h)
  refine⟨hjn,?_⟩
  by_cases GM:j=i
  ·subst GM;unfold qOp;simp only [hi];exact⟨b,v,u,hy,ho,H⟩
  ·have:=atX _ _ H j (ready_mono hj GM)
   omega
 | succ f ih =>
  intro bB st inv ak5 hr hy ho H
  have XF:=(mem_ready.1 hr).1
  refine⟨fun h=>(by rw [h]at hr;cases hr),fun j hj=>?_⟩
  have hjn:j<n:=by
   rcases Nat.lt_or_ge j n with h | h
   ·exact h
   ·exact absurd hj (DQ bB inv i hin XF j h)
  refine⟨hjn,?_⟩
  by_cases GM:j=i
  ·subst GM;unfold qOp;simp only [hi];exact⟨b,v,u,hy,ho,H⟩
  ·have h1:=(H.2 j (ready_mono hj GM)).2
   obtain⟨atZ,oj,hoj,vP⟩:=mem_ready.1 hj
   have anM:∀e∈oj.after,Region.binds md e=true→e.on≠i:=fun e he hb heq=>by
    have h1:=vP e he hb
    rw [heq,getD_both XF]at h1
    cases h1
   have h2:=ahW hoj (ak5 j oj hoj GM atZ anM) (qM i oi hin hi) (qM j oj hjn hoj) (ahY hoj inv vP (getD_both XF)) hy ho h1
   have anN:∀k ok,ops[k]? = some ok→k≠i→(bB.setIfInBounds j true).getD k true=false →
     (∀e∈ok.after,Region.binds md e=true→e.on≠i)→oi.apart ops ok=true:=fun k ok hk hki at0 XG=>by
    refine ak5 k ok hk hki ?_ XG
    by_cases hjk:j=k
    ·subst hjk;exact atZ
    ·rw [getD_set_ne true hjk]at at0;exact at0
   refine ac9 (fun XE h3=>ih (bB.setIfInBounds j true) XE (inv.set hj hjn) anN (ready_mono hr (Ne.symm GM)) h3.1 h3.2.1 ?_) h2
   rw [Array.setIfInBounds_comm _ _ GM]
   exact h3.2.2
def anP(E:Env)(md:Region.Mode)(ops:Array Oper)(c0:Nat)(Lq:ST→Prop):Nat→List Oper→ST→Prop
 | _,[],st=>Lq st
 | k,o::os,st=>∃b v u,YG E md ops c0 k o b v u st∧N8 md ops.toList k u st.bS∧anP E md ops c0 Lq (k+1) os (app k o b v u st)
theorem tS{c0 n g:Nat}{Lq:ST→Prop}(qM:∀i oi,i<n→ops[i]? = some oi→eA E oi.op=true→oi.dst.isSome=true)(DQ:∀bB,HeadInv md ops n bB → ∀i,i<n→bB.getD i true=false → ∀t,n≤t→t ∉ Region.ready md ops bB) :
  ∀(l:List Oper) (k:Nat) (bB:Array Bool) (st:ST),(∀j,j<l.length→l[j]? = ops[k+j]?)→k+l.length=n→HeadInv md ops n bB →
  Region.lexHead md ops g l.length k bB=true→anP E md ops c0 Lq k l st →
  OD E md ops c0 n (fun XH XE=>Region.seqB md ops g n XH=true∧Lq XE) l.length bB st
 | [],k,bB,st,_,hk,_,hB,h=>by
  have:k=n:=by simpa using hk
  subst this
  exact⟨by simpa [Region.lexHead]using hB,h⟩
 | o::l,k,bB,st,hl,hk,inv,hB,h=>by
  have h0:ops[k]? = some o:=by simpa using(hl 0 (by simp)).symm
  simp only [List.length_cons,Region.lexHead,Bool.and_eq_true]at hB
  obtain⟨⟨hr,hf⟩,hB'⟩:=hB
  have hkn:k<n:=by simp only [List.length_cons]at hk;omega
  have kZ:k∈Region.ready md ops bB:=by simpa using hr
  obtain⟨b,v,u,hy,ho,hK⟩:=h
  exact OE h0 qM DQ hkn (fun XH XE hL=>seqB_ready hL.1) l.length bB st inv (Region.free_spec h0 hf) kZ hy ho
   (tS qM DQ l (k+1) _ _ (fun j hj=>by have:=hl (j+1) (by simp;omega);simpa [Nat.add_assoc,Nat.add_comm 1 j]using this) (by simp only [List.length_cons]at hk;omega) (inv.set kZ hkn) hB' hK)
variable {w0:World} {S0:eG} {m:Nat} {G:Gs}
theorem TO{o:Oper}{a:Act}{w:World}{f:Nat→PV}{rows:Rows}{U:Nat→Prop}{c0:Nat}{v:PV}{u:Option (Nat × Row)}(iG:¬U c0){g:FuncId}{aKn:Array Operand}{ts:Array TypeId}(ho:o.op = .call { callee:=.value (.func g),args:=aKn,argTypes:=ts })
  (hy:ak3 E g (aKn.toList.map fun x=>aS f x) c0 (o.dst.getD 0) v u) (hR:pU w0 S0 m G U f rows a w) (hd:∀t,o.dst=some t→t<m)
  {K':Act→World→Prop} {Q:Exit→Act→World→Prop} (hK:∀a' w',pU w0 S0 m G (fun v=>v=c0∨U v) (put f o.dst v) (eS rows u) a' w'→K' a' w'):o.wp E.P a w K' Q:=by
 obtain⟨⟨c,rfl,hr,gE,hI,hf,hG⟩,hn,fR⟩:=hR
 have hρ:=nJ hf
 have hfu:¬c.used c0:=fun hu=>iG (gE _ hu)
 obtain⟨vA,e,n,els,⟨⟨fn,b,h1,h2,h3⟩,TH⟩,rfl,rfl⟩:=hy
 obtain⟨dst,op,type,pos,after,guard⟩:=o
 simp only at ho hd hK
 subst ho
 have fB:bF (aI c) (aKn.toList.map fun x=>aS f x) (aKn.map a.eval).toList:=by
  refine bF.cZ (by simp) fun k p u hp hu=>?_
  simp at hp hu
  obtain⟨x,hx,rfl⟩:=hp
  obtain⟨y,hy,rfl⟩:=hu
  rw [hx]at hy;cases hy
  exact hρ x
 have fU:bP c.S c.w (aKn.toList.map fun x=>aS f x) (aKn.map a.eval).toList:=cS.2 (bF.cZ fB.length fun k p u hp hu=>by
  obtain⟨u',q1,q2⟩:=fB.get hp
  rw [hu]at q1;cases q1
  exact q2.rep (List.all_eq_true.1 vA p (List.mem_of_getElem? hp)))
 have nE:=TH c.w c.S _ (fun b o hb=>hI.lt hb) fU
 simp only [Array.toArray_toList]at nE
 have hfo:=hρ (.func g)
 simp only [aS,aI,aM,dK]at hfo
 obtain⟨cs,hfv,GK⟩:=hfo
 simp only [bP]at GK
 subst GK
 unfold Oper.wp
 have jJ:(execOp a.eval { dst:=dst,op:=.call { callee:=.value (.func g),args:=aKn,argTypes:=ts },type:=type,pos:=pos,after:=after,guard:=guard }).run E.P c.w = .ok (.enter g (aKn.map a.eval)) c.w:=by
  simp only [execOp,resolve,hfv,Deferred.ofValue,Sem.run_bind,Sem.run_pure,Result.andThen_ok,invoke]
  simpa using k8 h1 h2 h3 (aKn.map a.eval) c.w
 rw [jJ]
 refine nE.mono ?_
 rintro x w' ⟨v',xs,S',rfl,hb,g1,g2,g3,g4,g5,g6,g7,g8⟩
 obtain⟨hI2,hA2⟩:=hI.grow hb g1 g2
 obtain⟨hI3,hA3⟩:=hI2.set (w':=w') (ob:=v'.ownBlock) (id:=dst.getD 0) (r':=⟨c0,e,n,els⟩) (v':=v') (xs:=xs) (World.grownBy.refl _ _)
  (fun g hg=>by
   have hge:=(g3.lt g hg).1
   refine⟨by have:=hI.below.size;omega,fun o=>g8 g o hg,fun jO r hr _ kY=>?_⟩
   obtain⟨⟨ys,q1,_,_⟩,_⟩:=hI.row jO r hr
   have:=(q1.lt g kY).2
   omega) ⟨g3.1,g3.2.imp id fun⟨g,cap,cur,q1,q2,q3⟩=>⟨g,cap,cur,q1,Nat.le_trans hI.below.size q2,q3⟩⟩ (g4.mono fun _ _ h=>aM.j0 h) g5 g6 g7 (fun g hg => .inl hg) hfu
 refine hK _ _ ?_
 have hf2:∀s,aI { c with S:=S',w:=w' } (f s) (a.tmps.getD s undef):=fun s=>aI.uZ hA2 _ _ (hf s)
 have hG2:∀p∈G,aI { c with S:=S',w:=w' } p.1 p.2:=fun p hp=>aI.uZ hA2 _ _ (hG p hp)
 refine sH hf2 hG2 hn fR hA3 hI3 ?_ hd rfl (by simp [eS,hr]) (fun v hv=>hv.imp (fun h=>h) (gE v))
 rcases g3.2 with ⟨rfl,h8⟩ | ⟨g,j3,cur,rfl,_⟩
 ·have:els.length=0:=h8
  rw [this]
  exact mS (r:=⟨c0,e,n,els⟩) (A:=none) (cap:=0) (by simp [eC]) (by simpa using h8) (Or.inl rfl) (by simp [eC])
 ·exact mS (r:=⟨c0,e,n,els⟩) (by simp [eC]) rfl (Or.inl rfl) (by simp [eC])
theorem ade{o:Oper}{a:Act}{w:World}{f:Nat→PV}{rows:Rows}{U:Nat→Prop}{c0:Nat}{v:PV}{u:Option (Nat × Row)}(iG:¬U c0)(hn:eA E o.op=true)(hy:yn E c0 o.dst o.op (aS f) rows v u)(hR:pU w0 S0 m G U f rows a w)(hd:∀t,o.dst=some t→t<m)
  {K':Act→World→Prop} {Q:Exit→Act→World→Prop} (hK:∀a' w',pU w0 S0 m G (fun v=>v=c0∨U v) (put f o.dst v) (eS rows u) a' w'→K' a' w'):o.wp E.P a w K' Q:=by
 by_cases nE:∃g aKn ts,o.op = .call { callee:=.value (.func g),args:=aKn,argTypes:=ts }∧E.writes g=true
 ·obtain⟨g,aKn,ts,ho,hw⟩:=nE
  rw [ho]at hy
  simp only [yn]at hy
  rw [if_pos hw]at hy
  exact TO iG ho hy hR hd hK
 refine w8 (ver:=c0) iG (K:=fun _ f' rows'=>f'=put f o.dst v∧rows'=eS rows u) ?_ hR hd (fun i f' rows' a' w' h lZ=>by
  obtain⟨rfl,rfl⟩:=h
  exact hK a' w' (lZ.mono fun v hv=>hv.imp (fun h=>h.2) fun h=>h))
 obtain⟨dst,op,type,pos,after,guard⟩:=o
 simp only at hn hy nE ⊢
 refine oU hn ?_ ?_ ?_ ?_ ?_
 ·rintro t rfl
  simp only [yn]at hy
  obtain⟨h2,rfl,rfl⟩:=hy
  exact⟨h2,rfl,rfl⟩
 ·rintro t x rfl
  simp only [yn]at hy
  obtain⟨h2,l,h3,h4,h5,rfl,rfl⟩:=hy
  exact⟨h2,l,h3,fun q hq=>J7 (fun id _ r hr=>by cases hr) (h4 q hq),h5,rfl,rfl⟩
 ·rintro t l cc rfl
  simp only [yn]at hy
  simp only [pI]
  split at hy
  ·rename_i e n b z k1 x k2 y hE hl hc
   obtain⟨g1,g2,g3,g4,rfl,rfl⟩:=hy
   try rw [hE,hl,hc]
   exact⟨g1,g2,g3,g4,rfl,rfl⟩
  ·exact hy.elim
 ·rintro x y t t2 rfl
  simp only [yn]at hy
  obtain⟨h2,hy⟩:=hy
  simp only [pI]
  refine⟨h2,?_⟩
  unfold vC at hy
  unfold pW
  split at hy
  ·rename_i e n b z hE
   obtain⟨l,g1,g2,g3⟩:=hy
   rw [hE]
   refine⟨l,g1,g2,?_⟩
   split at g3
   ·rename_i hx
    obtain⟨q1,q2,rfl,rfl⟩:=g3
    rw [hx]
    exact⟨q1,q2,rfl,rfl⟩
   ·rename_i id ver off len hx
    obtain⟨r,q1,q2,q3,q4,q5,q6,q7,q8,rfl,rfl⟩:=g3
    rw [hx]
    exact⟨r,q1,q2,q3,q4,q5,q6,q7,q8,rfl,rfl⟩
   ·rename_i l0 hx
    obtain⟨q1,q2,q3,q4,rfl,rfl⟩:=g3
    rw [hx]
    exact⟨q1,q2,q3,q4,rfl,rfl⟩
   ·exact g3.elim
  ·exact hy.elim
 ·rintro g aKn ts rfl hw
  exact absurd ⟨g,aKn,ts,rfl,hw⟩ nE
theorem aaw{c0 i:Nat}{st:ST}{K:ST→Prop}{U:Nat→Prop}(iG:∀o,ops[i]? = some o→eA E o.op=true→¬U (c0+rk E ops.toList i))(h:qOp E md ops c0 i K st){a:Act}{w:World}(hR:pU w0 S0 m G U st.f st.rows a w)(hd:∀o,o∈ops → ∀t,o.dst=some t→t<m)
  {K':Act→World→Prop} {Q:Exit→Act→World→Prop} (hK:∀XE a' w',K XE→pU w0 S0 m G (fun v=>(v=c0+rk E ops.toList i ∧ ∃o,ops[i]? = some o∧eA E o.op=true)∨U v) XE.f XE.rows a' w'→K' a' w'):wpOp E.P ops Q i K' a w:=by
 unfold qOp at h
 unfold wpOp
 split at h
 ·rename_i hi;simp only [hi];exact hK _ _ _ h (hR.mono fun v hv => .inr hv)
 ·rename_i o hi
  simp only [hi]
  obtain⟨b,v,u,⟨hg,hy⟩,ho,hk⟩:=h
  have lZ:=hR
  obtain⟨⟨c,rfl,hr,gE,hI,hf,hG⟩,hn,fR⟩:=hR
  have hdo:=hd o (Array.mem_of_getElem? hi)
  have ak6:Region.wanted o (yielded ops a.tmps)=b:=by
   unfold gOK at hg
   unfold Region.wanted
   cases hgd:o.guard with
   | none=>rw [hgd]at hg;simp only at hg ⊢;exact hg.symm
   | some x =>
    obtain⟨j,want⟩:=x
    rw [hgd]at hg
    simp only at hg ⊢
    obtain⟨d,h1,h2⟩:=hg
    have hx:=hf d
    rcases h2 with ⟨h2,h3⟩ | ⟨h2 | h2,h3⟩
    ·rw [h2]at hx
     rw [jC h1 hx,h3]
     cases want<;>rfl
    ·rw [h2]at hx
     rw [jC h1 hx,h3]
     cases want<;>rfl
    ·rw [h2]at hx
     rw [vO h1 hx,h3]
     rfl
  by_cases hb:b=true
  ·subst hb
   rw [if_pos rfl]at hy
   rw [ak6,if_pos rfl]
   left
   cases qM:eA E o.op with
   | true =>
    refine ade (iG o hi qM) qM (XB (fun id _ r kZ=>(l7.1 kZ).2) hy).1 lZ hdo fun a' w' hR2=>hK _ _ _ hk ?_
    exact hR2.mono fun v hv=>hv.imp (fun h=>⟨h,o,by first | exact hi | rfl,qM⟩) fun h=>h
   | false =>
    rw [DM qM]at hy
    have y8:ys E o.op (aS st.f) c.rows v u:=by
     rw [hr]
     exact(ak2 (fun id _ r kZ=>(l7.1 kZ).2) hy).1
    refine NZ hI hf y8 fun v' c' h1 h2 h3 h4 h5=>hK _ _ _ hk ?_
    refine aam hf hG hn fR h3 h4 h5 hdo rfl ?_ ?_
    ·simp only [app]
     rw [h1,hr]
    ·rw [h2]
     exact fun v hv => .inr (gE v hv)
  ·rw [if_neg hb]at hy
   obtain⟨rfl,rfl⟩:=hy
   rw [ak6,if_neg hb]
   refine hK _ _ _ hk ?_
   have kY:b=false:=by simpa using hb
   subst kY
   exact sH hf hG hn fR (uT.refl c) hI TN hdo rfl (by rw [hr];rfl) (fun v hv => .inr (gE v hv))
def Ul(E:Env)(ops:Array Oper)(c0 n:Nat)(bB:Array Bool):Nat→Prop:=fun v=>v<c0 ∨ ∃k o,k<n∧ops[k]? = some o∧eA E o.op=true∧v=c0+rk E ops.toList k∧bB.getD k false=true
theorem TP{c0 n v:Nat}{bB:Array Bool}(h:Ul E ops c0 n bB v):v<c0+rk E ops.toList n:=by
 rcases h with h | ⟨k,o,hk,ho,hn,rfl,_⟩
 ·omega
 ·have:=N7 (ops:=ops.toList) (by simpa using ho) hn hk
  omega
theorem mI{c0 n g:Nat}{L:Array Bool→ST→Prop}{Q:Exit→Act→World→Prop}(hd:∀o,o∈ops → ∀t,o.dst=some t→t<m)
  (hL:∀bB (st:ST) a w,L bB st→pU w0 S0 m G (Ul E ops c0 n bB) st.f st.rows a w→wpAny E.P md ops Q g bB a w) :
  ∀(f:Nat) (bB:Array Bool) (st:ST) (a:Act) (w:World),n≤bB.size→OD E md ops c0 n L f bB st→pU w0 S0 m G (Ul E ops c0 n bB) st.f st.rows a w→wpAny E.P md ops Q (f+g) bB a w
 | 0,bB,st,a,w,_,h,hR=>by rw [Nat.zero_add];exact hL _ _ _ _ h hR
 | f+1,bB,st,a,w,pP,h,hR=>by
  rw [show f+1+g=(f+g)+1 by omega]
  refine⟨fun h0=>absurd h0 h.1,fun i hi=>?_⟩
  have XF:=(mem_ready.1 hi).1
  obtain⟨hin,hq⟩:=h.2 i hi
  refine aaw (fun o ho hn hU=>?_) hq hR hd fun XE a' w' h' lZ=>mI hd hL f _ XE a' w' (by simpa using pP) h' (lZ.mono fun v hv=>?_)
  ·rcases hU with hU | ⟨k,o',hk,ho',BR,he,hl⟩
   ·omega
   ·have:=anI (ops:=ops.toList) (by simpa using ho) hn (by simpa using ho') BR (by omega)
    subst this
    rw [getD_both XF]at hl;cases hl
  ·rcases hv with ⟨rfl,o,ho,hn⟩ | hv
   ·exact .inr ⟨i,o,hin,ho,hn,rfl,by simp [show i<bB.size by omega]⟩
   ·rcases hv with hv | ⟨k,o,hk,ho,hn,he,hl⟩
    ·exact .inl hv
    ·refine .inr ⟨k,o,hk,ho,hn,he,?_⟩
     by_cases hki:i=k
     ·subst hki;simp [show i<bB.size by omega]
     ·simpa [Array.getElem?_setIfInBounds_ne hki]using hl
end
def aO(E:Env)(ops:List Oper):List Oper→(PS→Prop)→PS→Prop
 | [],K,σ=>K σ
 | o::os,K,σ =>
  match o.guard with
  | none=>fJ E o (aO E ops os K) σ
  | some (j,want) =>
   match (ops[j]?).bind (·.dst)with
   | none=>False
   | some d=>(σ.f d = .bool want∧fJ E o (aO E ops os K) σ)∨((σ.f d = .bool (!want)∨σ.f d = .dX [])∧aO E ops os K (σ.put o.dst (.dX [])))
def aQ(E:Env)(ops:List Oper)(clk:Nat):Nat→List Oper→(PS→Prop)→ST→Prop
 | _,[],K,st=>K ⟨st.f,st.rows,clk⟩
 | k,o::os,K,st =>
  match o.guard with
  | none=>∃v u,yn E clk o.dst o.op (aS st.f) (eN .any ops k st.wl st.rows) v u∧N8 .any ops k u st.bS∧aQ E ops (jK E o.op clk) (k+1) os K (app k o true v u st)
  | some (j,want) =>
   match (ops[j]?).bind (·.dst)with
   | none=>False
   | some d=>(st.f d = .bool want ∧ ∃v u,yn E clk o.dst o.op (aS st.f) (eN .any ops k st.wl st.rows) v u∧N8 .any ops k u st.bS∧aQ E ops (jK E o.op clk) (k+1) os K (app k o true v u st))∨((st.f d = .bool (!want)∨st.f d = .dX [])∧aQ E ops clk (k+1) os K (app k o false (.dX []) none st))
def iA(E:Env)(tl:Nat)(ops:List Oper)(K:PS→Prop)(σ:PS):Prop:=
 if tl=0 then aQ E ops σ.clock 0 ops K ⟨σ.f,σ.rows,fun _ _=>False,fun _ _=>False⟩
 else aQ E ops σ.clock 0 (ops.take (ops.length-tl)) (aO E ops (ops.drop (ops.length-tl)) K) ⟨σ.f,σ.rows,fun _ _=>False,fun _ _=>False⟩
inductive PX where
 | normal
 | exit (id:Nat)
 | ret
def GQ(K:PS→Prop)(Q:PX→PS→Prop):PX→PS→Prop
 | .normal,σ=>K σ
 | .exit id,σ=>Q (.exit id) σ
 | .ret,σ=>Q .ret σ
def GR(id:Nat)(Q:PX→PS→Prop):PX→PS→Prop
 | .normal,σ=>Q .normal σ
 | .exit j,σ=>if j=id then Q .normal σ else Q (.exit j) σ
 | .ret,σ=>Q .ret σ
def sJ(E:Env)(n tl:Nat)(ops:Array Oper)(draw:Bool):Bool:=
 (ops.all fun o=>match o.dst with | some d=>decide (d<n) | none=>true) &&
 (!draw || (vN E (if tl=0 then ops.toList else ops.toList.take (ops.size-tl))&&(if tl=0 then Region.noSelect ops&&Region.lexHead .any ops 0 ops.size 0 (Array.replicate ops.size false)else decide (tl≤ops.size)&&Region.lexTailB .any ops (ops.size-tl))))
def fF(E:Env)(n:Nat)(tl:Nat→Nat):Code→Bool
 | .region id ops draw=>sJ E n (tl id) ops draw
 | .seq a b=>fF E n tl a&&fF E n tl b
 | .cond _ t e=>fF E n tl t&&fF E n tl e
 | .block _ c=>fF E n tl c
 | .loop c=>fF E n tl c
 | _=>true
section
variable {E:Env} {w0:World} {S0:eG} {n:Nat} {G:Gs}
theorem iX{ops:Array Oper}{K:PS→Prop}{Q:Exit→Act→World→Prop}(hK:∀σ' a' w',K σ'→Rel w0 S0 n G σ' a' w'→Q .normal a' w') :
  ∀(l:List Oper) (σ:PS) (a:Act) (w:World),(∀o∈l,∀t,o.dst=some t→t<n)→aO E ops.toList l K σ→Rel w0 S0 n G σ a w→wpList E.P ops Q l a w
 | [],σ,a,w,_,h,hR=>hK _ _ _ h hR
 | o::os,σ,a,w,hd,h,hR=>by
  have hdo:=hd o (by simp)
  have hds:∀o∈os,∀t,o.dst=some t→t<n:=fun o ho=>hd o (by simp [ho])
  have wanted:∀ {σ},fJ E o (aO E ops.toList os K) σ→Rel w0 S0 n G σ a w→o.wp E.P a w (wpList E.P ops Q os) Q:=fun hp hR =>
   AM hp hR hdo fun σ' a' w' hk lZ=>iX hK os σ' a' w' hds hk lZ
  unfold wpList
  simp only [aO]at h
  split at h
  ·rename_i hg
   rw [if_pos (by simp [Region.wanted,hg])]
   exact .inl (wanted h hR)
  ·rename_i j want hg
   split at h
   ·exact h.elim
   ·rename_i d TQ
    have hd3:(ops[j]?).bind (·.dst)=some d:=by simpa using TQ
    have skip:yielded ops a.tmps j≠some want→aO E ops.toList os K (σ.put o.dst (.dX []))→(if Region.wanted o (yielded ops a.tmps)=true then o.wp E.P a w (wpList E.P ops Q os) Q∨(o.asks E.P a w∧LetsOut Q)else wpList E.P ops Q os (a.put o.dst undef) w):=by
     intro hy h2
     rw [if_neg (by simpa [Region.wanted,hg]using hy)]
     refine iX hK os _ _ w hds h2 ?_
     obtain⟨⟨c,rfl,hr,gE,hI,hf,hG⟩,hn,fR⟩:=hR
     exact tR hf hG hn fR (uT.refl c) hI TN hdo rfl (by simp [PS.put,hr]) gE
    obtain⟨c,_,_,_,_,hf,_⟩:=hR.ex
    have hx:=hf d
    rcases h with ⟨h1,h2⟩ | ⟨h1 | h1,h2⟩
    ·rw [h1]at hx
     rw [if_pos (by simp [Region.wanted,hg,jC hd3 hx])]
     exact .inl (wanted h2 hR)
    ·rw [h1]at hx
     exact skip (by rw [jC hd3 hx];cases want<;>simp) h2
    ·rw [h1]at hx
     exact skip (by rw [vO hd3 hx];simp) h2
theorem pZ{ops:Array Oper}{c0:Nat}{K:PS→Prop}:∀(l:List Oper) (k clk:Nat) (st:ST),(∀j,j<l.length→l[j]? = ops[k+j]?)→vN E l=true→clk=c0+rk E ops.toList k→aQ E ops.toList clk k l K st→anP E .any ops c0 (fun st=>K ⟨st.f,st.rows,c0+rk E ops.toList (k+l.length)⟩) k l st
 | [],k,clk,st,_,_,hc,h=>by subst hc;exact h
 | o::os,k,clk,st,hl,OG,hc,h=>by
  have anR:vN E os=true:=by simp only [vN,List.all_cons,Bool.and_eq_true]at OG ⊢;exact OG.2
  have aAs:o.guard≠none→eA E o.op=false:=fun hg=>by
   simp only [vN,List.all_cons,Bool.and_eq_true]at OG
   cases hn:eA E o.op with
   | false=>rfl
   | true=>have:=OG.1;rw [hn]at this;simp at this;exact absurd this.2 hg
  have h0:ops[k]? = some o:=by simpa using(hl 0 (by simp)).symm
  have u9:jK E o.op clk=c0+rk E ops.toList (k+1):=by rw [hc];exact ahV (by simpa using h0)
  have W5:∀j,j<os.length→os[j]? = ops[k+1+j]? := fun j hj=>by have:=hl (j+1) (by simp;omega);simpa [Nat.add_assoc,Nat.add_comm 1 j]using this
  have e1:k+(o::os).length=k+1+os.length:=by simp only [List.length_cons];omega
  rw [e1]
  simp only [aQ]at h
  split at h
  ·rename_i hg
   obtain⟨v,u,h1,h2,h3⟩:=h
   exact⟨true,v,u,⟨by simp [gOK,hg],by rw [if_pos rfl,←hc];exact h1⟩,h2,pZ os _ _ _ W5 anR u9 h3⟩
  ·rename_i j want hg
   split at h
   ·exact h.elim
   ·rename_i d TQ
    have hd3:(ops[j]?).bind (·.dst)=some d:=by simpa using TQ
    rcases h with ⟨h1,v,u,q1,q2,q3⟩ | ⟨h1,h2⟩
    ·exact⟨true,v,u,⟨by simp only [gOK,hg];exact⟨d,hd3, .inl ⟨h1,trivial⟩⟩,by rw [if_pos rfl,←hc];exact q1⟩,q2,pZ os _ _ _ W5 anR u9 q3⟩
    ·exact⟨false, .dX [],none,⟨by simp only [gOK,hg];exact⟨d,hd3, .inr ⟨h1,trivial⟩⟩,by simp⟩,trivial,pZ os _ _ _ W5 anR (by rw [←u9,DN (aAs (by rw [hg];simp))]) h2⟩
theorem Rel.drew{σ:PS}{a:Act}{w:World}(h:Rel w0 S0 n G σ a w):Rel w0 S0 n G σ a { w with drawn:=w.drawn+1 }:=by
 obtain⟨⟨c,rfl,hr,gE,hI,hf,hG⟩,hn,fR⟩:=h
 obtain⟨qN,hA⟩:=hI.grow (w':={ c.w with drawn:=c.w.drawn+1 }) (S':=c.S) ⟨rfl,rfl,rfl,Nat.le_refl _,fun _ _=>rfl⟩ (fun _ _ h=>h) (fun _ _ h => .inl h)
 exact⟨⟨{ c with w:={ c.w with drawn:=c.w.drawn+1 } },rfl,hr,gE,qN,fun s=>aI.uZ hA _ _ (hf s),fun p hp=>aI.uZ hA _ _ (hG p hp)⟩,hn,fR⟩
theorem vD{id tl:Nat}{ops:Array Oper}{K:PS→Prop}{Q:Exit→Act→World→Prop}(fT:sJ E n tl ops true=true){σ:PS}{a:Act}{w:World}(h:iA E tl ops.toList K σ)(hR:Rel w0 S0 n G σ a w)
  (hK:∀σ' a' w',K σ'→Rel w0 S0 n G σ' a' w'→Q .normal a' w'):(Code.region id ops true).wp E.P Q a w:=by
 simp only [sJ,Bool.and_eq_true,Bool.not_true,Bool.false_or]at fT
 obtain⟨anS,vE,fT⟩:=fT
 have hd:∀o,o∈ops → ∀t,o.dst=some t→t<n:=by
  intro o ho t ht
  have:=Array.all_eq_true_iff_forall_mem.1 anS o ho
  simpa [ht]using this
 refine wp_region_any E.mixed ?_
 have J9:=hR.drew
 have hU0:∀k (l:Array Bool),pU w0 S0 n G (Ul E ops σ.clock k l) σ.f σ.rows a { w with drawn:=w.drawn+1 }:=fun k l=>J9.mono fun v hv => .inl hv
 have ah1:∀(l:List Oper),vN E l=true → ∀(i:Nat) (oi:Oper),l[i]? = some oi→eA E oi.op=true→oi.dst.isSome=true:=fun l h i oi hi hn=>by
  have:=List.all_eq_true.1 h oi (List.mem_of_getElem? hi)
  rw [hn]at this;simp at this;exact Option.isSome_iff_exists.2 (by obtain⟨x,hx⟩:=Option.isSome_iff_exists.1 this.1;exact⟨x,hx⟩)
 unfold iA at h
 by_cases htl:tl=0
 ·rw [if_pos htl]at h fT vE
  have qM:∀i oi,i<ops.size→ops[i]? = some oi→eA E oi.op=true→oi.dst.isSome=true:=fun i oi _ hi=>ah1 _ vE i oi (by simpa using hi)
  simp only [Bool.and_eq_true]at fT
  have hl:=pZ (c0:=σ.clock) ops.toList 0 _ _ (by simp) vE (by simp [rk]) h
  have adf:HeadInv .any ops ops.size (Array.replicate ops.size false):=
   ⟨by simp,fun j oj _ hl=>(by rw [getD_replicate_false]at hl;cases hl),fun t h1 h2=>by omega⟩
  have DQ:∀bB,HeadInv .any ops ops.size bB → ∀i,i<ops.size→bB.getD i true=false → ∀t,ops.size≤t→t ∉ Region.ready .any ops bB:=by
   intro bB _ i _ _ t ht hr
   obtain⟨_,o,ho,_⟩:=mem_ready.1 hr
   have:=(Array.getElem?_eq_some_iff.1 ho).1
   omega
  have H:=tS (E:=E) (md:=.any) (g:=0) qM DQ ops.toList 0 _ _ (by simp) (by simp) adf (by simpa using fT.2) hl
  have:=mI (E:=E) (md:=.any) (g:=0) (Q:=Q) (m:=n) hd (fun bB st a' w' hL lZ=>by
   obtain⟨h1,h2⟩:=hL
   exact⟨by simpa [Region.seqB]using h1,hK _ _ _ h2 (lZ.mono fun v hv=>by have:=TP hv;simpa using this)⟩) _ _ _ _ _ (by simp) H (hU0 _ _)
  simpa using this
 ·rw [if_neg htl]at h fT vE
  have qM:∀i oi,i<ops.size-tl→ops[i]? = some oi→eA E oi.op=true→oi.dst.isSome=true:=fun i oi h1 hi=>ah1 _ vE i oi (by rw [List.getElem?_take,if_pos h1];simpa using hi)
  simp only [Bool.and_eq_true,decide_eq_true_eq]at fT
  obtain⟨hle,hB⟩:=fT
  simp only [Region.lexTailB,Bool.and_eq_true,decide_eq_true_eq]at hB
  obtain⟨⟨⟨⟨aAt,BR⟩,hs⟩,hc⟩,anT⟩:=hB
  have hlen:ops.toList.length=ops.size:=by simp
  rw [hlen]at h
  have hl:=pZ (c0:=σ.clock) (ops.toList.take (ops.size-tl)) 0 _ _ (fun j hj=>by
   have hj':j<ops.size-tl:=by simpa using hj
   simp [hj']) vE (by simp [rk]) h
  have adf:HeadInv .any ops (ops.size-tl) (Array.replicate ops.size false):=
   ⟨by simp,fun j oj _ hl=>(by rw [getD_replicate_false]at hl;cases hl),fun t _ ht=>getD_in (by simpa using ht) (getD_replicate_false _ _)⟩
  have yV:(ops.toList.take (ops.size-tl)).length=ops.size-tl:=by simp
  have hdl:(ops.toList.drop (ops.size-tl)).length=ops.size-(ops.size-tl):=by simp
  have H:=tS (E:=E) (md:=.any) (n:=ops.size-tl) (g:=ops.size-(ops.size-tl)) qM (fun bB inv i hi XF t ht=>tail_waits hs hc BR inv _ i rfl hi XF t ht) (ops.toList.take (ops.size-tl)) 0 _ _ (fun j hj=>by
   rw [yV]at hj
   simp [hj]) (by rw [yV];simp) adf (by rw [yV];exact anT) hl
  have:=mI (E:=E) (md:=.any) (g:=ops.size-(ops.size-tl)) (Q:=Q) (m:=n) hd (fun bB st a' w' hL lZ=>by
   obtain⟨h1,h2⟩:=hL
   have h3:=iX (ops:=ops) (Q:=Q) hK (ops.toList.drop (ops.size-tl)) _ a' w' (fun o ho=>hd o (by simpa using List.mem_of_mem_drop ho)) h2 (lZ.mono fun v hv=>by have:=TP hv;simpa using this)
   have h4:=wpAny_of_seq (md:=.any) (Q':=Q) (ops.toList.drop (ops.size-tl)) (ops.size-tl) bB a' w' (fun j=>by simp [List.getElem?_drop]) (by rw [hdl];exact h1) h3
   rwa [hdl]at h4) _ _ _ _ _ (by simp) H (hU0 _ _)
  rw [yV,show ops.size-tl+(ops.size-(ops.size-tl))=ops.size by omega]at this
  exact this
def anU:PX→Exit
 | .normal => .normal
 | .exit id => .exit id
 | .ret => .ret
end
def n4(E:Env)(σ:PS):List ResultVar→(List PV→Prop)→Prop
 | [],K=>K []
 | .tmp t::rs,K=>n4 E σ rs fun vs=>K (σ.f t::vs)
 | .cell a t::rs,K=>∃v,u0 E t σ.rows (σ.f a) v∧n4 E σ rs fun vs=>K (v::vs)
def w9:List PV→PV
 | [x]=>x
 | l => .dX l
def adh(E:Env)(rs:List ResultVar)(r:PV)(σ:PS):Prop:=
 n4 E σ rs fun vs=>fC σ.rows (vs.flatMap eB)∧(vs.map (pz σ.rows)).all dI=true∧r=w9 (vs.map (pz σ.rows))
def adi(E:Env)(rs:List ResultVar)(r:PV):PX→PS→Prop
 | .normal,σ=>adh E rs r σ
 | .ret,σ=>adh E rs r σ
 | .exit _,_=>False
def HQ(args:List PV):PS:=⟨fun s=>args.getD s .undef,fun _=>none,0⟩
section
variable {E:Env} {w0:World} {S0:eG} {c:Cx}
theorem tT(hI:Inv w0 S0 c){clk:Nat}{a:Act}{f:Nat→PV}(hf:∀s,aI c (f s) (a.tmps.getD s undef)){g:ResultVar→Sem Value}(hg1:∀t,g (.tmp t)=pure (a.tmps.getD t undef))
  (pT:∀x t,g (.cell x t)=do loadVar t (←asAddr (a.tmps.getD x undef))):∀(rs:List ResultVar) (K:List PV→Prop),n4 E ⟨f,c.rows,clk⟩ rs K →
  ∃vs us,K vs∧bF (aI c) vs us∧(rs.mapM g:Sem (List Value)).run E.P c.w = .ok us c.w
 | [],K,h=>⟨[],[],h,trivial,by simp⟩
 | .tmp t::rs,K,h=>by
  obtain⟨vs,us,h1,h2,h3⟩:=tT hI hf hg1 pT rs _ h
  exact⟨f t::vs,a.tmps.getD t undef::us,h1,⟨hf t,h2⟩,by
   rw [List.mapM_cons,hg1,Sem.run_bind,Sem.run_pure,Result.andThen_ok,Sem.run_bind,h3,Result.andThen_ok,Sem.run_pure]⟩
 | .cell x t::rs,K,h=>by
  obtain⟨v,hv,h⟩:=h
  obtain⟨vs,us,h1,h2,h3⟩:=tT hI hf hg1 pT rs _ h
  obtain⟨u,hu,hr⟩:=HF hI (hf x) hv
  refine⟨v::vs,u::us,h1,⟨hr,h2⟩,?_⟩
  have hu':(do loadVar t (←asAddr (a.tmps.getD x undef)):Sem Value).run E.P c.w = .ok u c.w:=by
   simp only [Instr.loadAt,Sem.run_bind]at hu ⊢
   cases hx:a.tmps.getD x undef with
   | pointer p =>
    cases p with
    | some ad=>rw [hx]at hu;simpa [Instr.sureAddr,asAddr]using hu
    | none=>rw [hx]at hu;simp [Instr.sureAddr,stuck,Result.andThen]at hu
   | _=>rw [hx]at hu;simp [Instr.sureAddr,stuck,Result.andThen]at hu
  rw [List.mapM_cons,pT]
  simp only [Sem.run_bind]at hu' ⊢
  rw [hu',Result.andThen_ok,h3,Result.andThen_ok,Sem.run_pure]
theorem TR{AQ:FuncId}{fn:Func}{code:Code}{args:List PV}{r:PV}(h1:E.P.funcs[AQ]? = some fn)(h2:fn.body=some code) (h3:(fn.name == "runtime.NumGoroutine") = false) (fB:args.length≤fn.ntmps)
  (h:∀(w0:World) (S0:eG) (a:Act) (w:World) (Q':Exit→Act→World→Prop),Rel w0 S0 fn.ntmps Gs.none (HQ args) a w→(∀x σ' a' w',adi E fn.results.toList r x σ'→Rel w0 S0 fn.ntmps Gs.none σ' a' w'→Q' (anU x) a' w')→code.wp E.P Q' a w):aE E.P AQ args r:=by
 refine⟨⟨fn,code,h1,h2,h3⟩,fun w S vs hS fU=>?_⟩
 have DG:=cS.1 fU
 refine calls_of_wp h1 h2 ?_
 have NQ:vs.length=args.length:=DG.length.symm
 let c0:Cx:=⟨S,w,fun _ => .slice none 0 0,fun _=>none,fun _=>False⟩
 have hI0:Inv w S c0:=⟨Below.refl _ _,fun _ _ h=>h,fun _ _ h => .inl h,hS,fun _ _ h=>by simp [c0]at h,fun _ _ h=>by simp [c0]at h,fun _ _ _ _ _ h=>by simp [c0]at h,⟨0,fun _ h=>h.elim⟩⟩
 have J9:Rel w S fn.ntmps Gs.none (HQ args) { tmps:=vs.toArray++Array.replicate (fn.ntmps-vs.toArray.size) undef,defers:=[] } w:=by
  refine⟨⟨c0,rfl,rfl,fun _ h=>h.elim,hI0,fun s=>?_,fun p hp=>(Gs.NR hp).elim⟩,by simp;omega,rfl⟩
  simp only [HQ]
  by_cases hs:s<args.length
  ·obtain⟨u,hu,hr⟩:=DG.get (List.getElem?_eq_getElem hs)
   have e1:args.getD s .undef=args[s]:=by simp [List.getD,List.getElem?_eq_getElem hs]
   have e2:(vs.toArray++Array.replicate (fn.ntmps-vs.toArray.size) undef).getD s undef=u:=by
    have:s<vs.length:=by omega
    simp [this]at hu ⊢
    simp [Array.getElem?_append,this,hu]
   rw [e1]
   show aI c0 args[s] ((vs.toArray++Array.replicate (fn.ntmps-vs.toArray.size) undef).getD s undef)
   rw [e2]
   exact aI.j0 hr
  ·have e1:args.getD s .undef = .undef:=by simp [List.getD,List.getElem?_eq_none (show args.length≤s by omega)]
   rw [e1]
   simp [aI,aM]
 refine h _ _ _ _ _ J9 ?_
 have fin:∀σ' a' w',adh E fn.results.toList r σ'→Rel w S fn.ntmps Gs.none σ' a' w'→a'.defers = [] ∧ ∃v,(results fn a'.tmps).run E.P w' = .ok v w'∧(∃v',Ending.returned v = .returned v'∧Below w.heap.size w w' ∧
   ∃S':eG,(∀b o,S b o→S' b o)∧(∀b o,S' b o→S b o∨(w.heap.size≤b∧b<w'.heap.size))∧dK S' w' r v'):=by
  rintro σ' a' w' hp ⟨⟨c,rfl,hr,gE,hI,hf,_⟩,hn,fR⟩
  refine⟨fR,?_⟩
  unfold adh at hp
  have yT:n4 E ⟨σ'.f,c.rows,σ'.clock⟩ fn.results.toList fun vs=>fC c.rows (vs.flatMap eB)∧(vs.map (pz c.rows)).all dI=true∧r=w9 (vs.map (pz c.rows)):=by
   rw [hr];exact hp
  have at2:∃vs us,(fC c.rows (vs.flatMap eB)∧(vs.map (pz c.rows)).all dI=true∧r=w9 (vs.map (pz c.rows)))∧bF (aI c) vs us ∧
    (results fn a'.tmps).run E.P c.w = .ok (if h:us.toArray.size=1 then us.toArray[0]else .tuple us.toArray) c.w:=by
   have key:∀g:ResultVar→Sem Value,(∀t,g (.tmp t)=pure (a'.tmps.getD t undef))→(∀x t,g (.cell x t)=do loadVar t (←asAddr (a'.tmps.getD x undef))) →
     ∃vs us,(fC c.rows (vs.flatMap eB)∧(vs.map (pz c.rows)).all dI=true∧r=w9 (vs.map (pz c.rows)))∧bF (aI c) vs us ∧
      (do let vs ←fn.results.mapM g;pure (if h:vs.size=1 then vs[0]else .tuple vs):Sem Value).run E.P c.w = .ok (if h:us.toArray.size=1 then us.toArray[0]else .tuple us.toArray) c.w:=by
    intro g hg1 pT
    obtain⟨vs,us,g1,g4,g5⟩:=tT hI hf hg1 pT _ _ yT
    refine⟨vs,us,g1,g4,?_⟩
    have:(fn.results.mapM g).run E.P c.w = .ok us.toArray c.w:=by
     rw [Array.mapM_eq_mapM_toList]
     simp [g5]
    rw [Sem.run_bind,this,Result.andThen_ok,Sem.run_pure]
   unfold results
   exact key _ (fun _=>rfl) (fun _ _=>rfl)
  obtain⟨vs,us,⟨g1,g2,g3⟩,g4,jJ⟩:=at2
  have M8:=hI.freeze (vs.flatMap eB)
  have vP:bF (dK (TD c (vs.flatMap eB)) c.w) (vs.map (pz c.rows)) us:=by
   refine bF.cZ (by simp [g4.length]) fun k p u hp hu=>?_
   simp at hp
   obtain⟨q,hq,rfl⟩:=hp
   obtain⟨u',q1,q2⟩:=g4.get hq
   rw [hu]at q1;cases q1
   exact JW hI g1 q2 (fun id gL=>by simp only [List.mem_flatMap];exact⟨q,List.mem_of_getElem? hq,gL⟩) (List.all_eq_true.1 g2 _ (by simp;exact⟨q,List.mem_of_getElem? hq,rfl⟩))
  refine⟨_,jJ,_,rfl,hI.below,TD c (vs.flatMap eB),fun b o h=>M8.ext b o h,fun b o h=>M8.new b o h,?_⟩
  rw [g3]
  have hl:=vP.length
  cases hm:vs.map (pz c.rows)with
  | nil =>
   rw [hm]at vP hl
   have:us = []:=List.eq_nil_of_length_eq_zero (by simpa using hl.symm)
   subst this
   simp only [w9,dK]
   exact⟨[],by simp,by simp [bP]⟩
  | cons p ps =>
   rw [hm]at vP hl
   match us,vP with
   | u::us,vP =>
    cases ps with
    | nil =>
     match us,vP with
     | [],vP=>simpa [w9]using vP.1
    | cons q qs =>
     have h2:¬(u::us).toArray.size=1:=by simp at hl ⊢;intro h;subst h;simp at hl
     rw [dif_neg h2]
     simp only [w9,dK]
     exact⟨_,rfl,cS.2 vP⟩
 intro x σ' a' w' hx lZ
 cases x with
 | normal=>exact fin σ' a' w' hx lZ
 | ret=>exact fin σ' a' w' hx lZ
 | exit id=>exact hx.elim
end
section
variable {P:Program} {t:TypeId}
theorem aD{n:Nat}{v:Value}{z:List PV}(h:(P.info? t).bind (fun i=>i.zero.map fun v=>(i.size,v))=some (n,v))(hz:v.cells.toList.map j1=z)(h1:v.cells.all (·.oneCell')=true)(hl:z.length=n)(hp:0<n):mZ P t n z:=by
 refine⟨?_,hl,hp⟩
 cases hi:P.info? t with
 | none=>simp [hi]at h
 | some i =>
  cases oT:i.zero with
  | none=>simp [hi,oT]at h
  | some v0 =>
   simp [hi,oT]at h
   obtain⟨rfl,rfl⟩:=h
   exact⟨i,v0,rfl,oT,rfl,hz,h1⟩
theorem cG{b:Nat}(h:(P.info? t).map (·.bytes)=some b):∃i,P.info? t=some i∧i.bytes=b:=by
 cases hi:P.info? t with
 | none=>simp [hi]at h
 | some i=>exact⟨i,rfl,by simpa [hi]using h⟩
theorem HR{n:Nat}(h:(P.info? t).map (·.size)=some n):∃i,P.info? t=some i∧i.size=n:=by
 cases hi:P.info? t with
 | none=>simp [hi]at h
 | some i=>exact⟨i,rfl,by simpa [hi]using h⟩
theorem adk(h:(P.underlying t).isSome=true):∃d,P.underlying t=some d:=Option.isSome_iff_exists.1 h
def TS(P:Program)(f:Field)(x:Nat × Nat × Bool):Bool:=
 f.offset==x.1&&(P.info? f.type).map (·.size)==some x.2.1&&decide (0<x.2.1)&&r8 P f.type==x.2.2&&(P.underlying f.type).isSome
def tU(P:Program):List Field→List (Nat × Nat × Bool)→Bool
 | [],[]=>true
 | f::fs,x::xs=>TS P f x&&tU P fs xs
 | _,_=>false
theorem aax{f:Field}{x:Nat × Nat × Bool}(h:TS P f x=true):oR P f x:=by
 simp only [TS,Bool.and_eq_true,beq_iff_eq,decide_eq_true_eq]at h
 obtain⟨⟨⟨⟨h1,h2⟩,h3⟩,h4⟩,h5⟩:=h
 exact⟨h1,HR h2,h3,h4,adk h5⟩
theorem DR:∀ {fs:List Field} {xs:List (Nat × Nat × Bool)},tU P fs xs=true→bF (oR P) fs xs
 | [],[],_=>trivial
 | f::fs,x::xs,h=>by
  simp only [tU,Bool.and_eq_true]at h
  exact⟨aax h.1,DR h.2⟩
 | [],_::_,h=>by simp [tU]at h
 | _::_,[],h=>by simp [tU]at h
def XI(P:Program)(t:TypeId)(xs:List (Nat × Nat × Bool)):Bool:=
 match P.underlying t with
 | some (.struct fields)=>tU P fields.toList xs
 | _=>false
theorem aT{xs:List (Nat × Nat × Bool)}(h:XI P t xs=true):∃fields:Array Field,P.underlying t=some (.struct fields)∧bF (oR P) fields.toList xs:=by
 unfold XI at h
 split at h
 ·rename_i fields hu;exact⟨fields,hu,DR h⟩
 ·cases h
end
def W(E:Env)(n:Nat)(tl:Nat→Nat)(c:Code)(Q:PX→PS→Prop)(σ:PS):Prop:=
 fF E n tl c=true → ∀(w0:World) (S0:eG) (G:Gs) (a:Act) (w:World) (Q':Exit→Act→World→Prop),Rel w0 S0 n G σ a w →
  (∀x σ' a' w',Q x σ'→Rel w0 S0 n G σ' a' w'→Q' (anU x) a' w')→c.wp E.P Q' a w
def Gh(n:Nat)(σ σ':PS):Prop:=∀(w0:World) (S0:eG) (G:Gs) (a:Act) (w:World),Rel w0 S0 n G σ a w→Rel w0 S0 n G σ' a w
section
variable {E:Env} {n:Nat} {tl:Nat→Nat} {Q:PX→PS→Prop} {σ:PS}
theorem W.ghost{c:Code}{σ':PS}(h:Gh n σ σ')(hw:W E n tl c Q σ'):W E n tl c Q σ:=fun fT w0 S0 G a w Q' hR hQ=>hw fT w0 S0 G a w Q' (h _ _ _ _ _ hR) hQ
theorem W.mono{c:Code}{Q2:PX→PS→Prop}(hw:W E n tl c Q2 σ)(h:∀x σ,Q2 x σ→Q x σ):W E n tl c Q σ:=fun fT w0 S0 G a w Q' hR hQ=>hw fT w0 S0 G a w Q' hR fun x σ' a' w' hx=>hQ x σ' a' w' (h x σ' hx)
theorem W.skip(h:Q .normal σ):W E n tl .skip Q σ:=fun _ _ _ _ a w _ hR hQ=>wp_skip (hQ .normal σ a w h hR)
theorem W.ret(h:Q .ret σ):W E n tl .ret Q σ:=fun _ _ _ _ a w _ hR hQ=>wp_ret (hQ .ret σ a w h hR)
theorem W.exit{id:Nat}(h:Q (.exit id) σ):W E n tl (.exit id) Q σ:=fun _ _ _ _ a w _ hR hQ=>wp_exit (hQ (.exit id) σ a w h hR)
theorem W.OH{id:Nat}{ops:List Oper}(h:∀K:PS→Prop,(∀σ,Q .normal σ→K σ)→aO E ops ops K σ):W E n tl (.region id ops.toArray false) Q σ:=by
 intro fT w0 S0 G a w Q' hR hQ
 simp only [fF,sJ,Bool.and_eq_true]at fT
 refine wp_region_list (iX (fun σ' a' w' hk lZ=>hQ .normal σ' a' w' hk lZ) _ σ a w (fun o ho t ht=>?_) (h _ fun _ h=>h) hR)
 have:=Array.all_eq_true_iff_forall_mem.1 fT.1 o (by simpa using ho)
 simpa [ht]using this
theorem W.adl{id:Nat}{ops:List Oper}(h:∀K:PS→Prop,(∀σ,Q .normal σ→K σ)→iA E (tl id) ops K σ):W E n tl (.region id ops.toArray true) Q σ:=by
 intro fT w0 S0 G a w Q' hR hQ
 exact vD (by simpa [fF]using fT) (h _ fun _ h=>h) hR fun σ' a' w' hk lZ=>hQ .normal σ' a' w' hk lZ
theorem W.seq{x y:Code}(h:W E n tl x (GQ (W E n tl y Q) Q) σ):W E n tl (.seq x y) Q σ:=by
 intro fT w0 S0 G a w Q' hR hQ
 simp only [fF,Bool.and_eq_true]at fT
 refine wp_seq (h fT.1 w0 S0 G a w _ hR fun x σ' a' w' hx lZ=>?_)
 cases x with
 | normal=>exact hx fT.2 w0 S0 G a' w' _ lZ hQ
 | exit id=>exact hQ (.exit id) σ' a' w' hx lZ
 | ret=>exact hQ .ret σ' a' w' hx lZ
theorem W.TT{id:Nat}{ops:List Oper}{y:Code}(h:∀K:PS→Prop,(∀σ,W E n tl y Q σ→K σ)→aO E ops ops K σ):W E n tl (.seq (.region id ops.toArray false) y) Q σ:=
 W.seq (W.OH h)
theorem W.adm{id:Nat}{ops:List Oper}{y:Code}(h:∀K:PS→Prop,(∀σ,W E n tl y Q σ→K σ)→iA E (tl id) ops K σ):W E n tl (.seq (.region id ops.toArray true) y) Q σ:=
 W.seq (W.adl h)
theorem W.cond{c:Operand}{t e:Code}(h:∃b,aS σ.f c = .bool b∧(b=true→W E n tl t Q σ)∧(b=false→W E n tl e Q σ)):W E n tl (.cond c t e) Q σ:=by
 intro fT w0 S0 G a w Q' hR hQ
 simp only [fF,Bool.and_eq_true]at fT
 obtain⟨b,hb,h1,h2⟩:=h
 obtain⟨cx,_,_,_,_,hf,_⟩:=hR.ex
 have:=nJ hf c
 rw [hb,dO]at this
 refine wp_cond this ?_
 cases b with
 | true=>exact h1 rfl fT.1 w0 S0 G a w Q' hR hQ
 | false=>exact h2 rfl fT.2 w0 S0 G a w Q' hR hQ
theorem W.block{id:Nat}{c:Code}(h:W E n tl c (GR id Q) σ):W E n tl (.block id c) Q σ:=by
 intro fT w0 S0 G a w Q' hR hQ
 refine wp_block (h fT w0 S0 G a w _ hR fun x σ' a' w' hx lZ=>?_)
 cases x with
 | normal=>exact hQ .normal σ' a' w' hx lZ
 | exit j =>
  simp only [GR]at hx
  simp only [anU,Exit.inBlock]
  split at hx
  ·rename_i hj;rw [if_pos hj];exact hQ .normal σ' a' w' hx lZ
  ·rename_i hj;rw [if_neg hj];exact hQ (.exit j) σ' a' w' hx lZ
 | ret=>exact hQ .ret σ' a' w' hx lZ
theorem W.loop{c:Code}(I:Nat→PS→Prop)(k:Nat)(h0:I k σ)(h1:∀k σ,I k σ→W E n tl c (GQ (fun σ'=>∃m,m<k∧I m σ') Q) σ):W E n tl (.loop c) Q σ:=by
 intro fT w0 S0 G a w Q' hR hQ
 refine wp_loop_ghost (fun k a w=>∃σ,I k σ∧Rel w0 S0 n G σ a w) k ⟨σ,h0,hR⟩ ?_
 rintro k a w ⟨σ,hI,hR⟩
 refine h1 k σ hI fT w0 S0 G a w _ hR fun x σ' a' w' hx lZ=>?_
 cases x with
 | normal=>obtain⟨m,hm,qN⟩:=hx;exact⟨m,hm,σ',qN,lZ⟩
 | exit id=>exact hQ (.exit id) σ' a' w' hx lZ
 | ret=>exact hQ .ret σ' a' w' hx lZ
end
theorem adn{E:Env}{AQ:FuncId}{fn:Func}{code:Code}(tl:Nat→Nat){args:List PV}{r:PV}(h1:E.P.funcs[AQ]? = some fn)(h2:fn.body=some code) (h3:(fn.name == "runtime.NumGoroutine") = false)
  (fT:fF E fn.ntmps tl code=true) (fB:args.length≤fn.ntmps) (h:W E fn.ntmps tl code (adi E fn.results.toList r) (HQ args)):aE E.P AQ args r:=
 TR h1 h2 h3 fB fun w0 S0 a w Q' hR hQ=>h fT w0 S0 Gs.none a w Q' hR hQ
def go(P:Prop):Prop:=P
def aX(R:PV→Prop)(K:PV→Prop):Prop:=∃v,R v∧K v
def jF(p:PV)(want:Bool)(A B:Prop):Prop:=∃t,p = .bool t∧(t=want→A)∧(t=(!want)→B)
def stepG(p:PV)(want:Bool)(A B:Prop):Prop:=(p = .bool want∧A)∨((p = .bool (!want)∨p = .dX [])∧B)
def aJ(A B:Prop):Prop:=A∧B
@[congr] theorem ak7{R R' K:PV→Prop}(h:∀v,R v=R' v):aX R K=aX R' K:=by rw [show R=R' from funext h]
@[congr] theorem ak8{p p':PV}{want:Bool}{A B:Prop}(h:p=p'):jF p want A B=jF p' want A B:=by rw [h]
@[congr] theorem ak9{p p':PV}{want:Bool}{A B:Prop}(h:p=p'):stepG p want A B=stepG p' want A B:=by rw [h]
@[congr] theorem ala{A A' B:Prop}(h:A=A'):aJ A B=aJ A' B:=by rw [h]
@[congr] theorem anV{E:Env}{ops l:List Oper}{K:PS→Prop}{σ σ':PS}(h:σ=σ'):aO E ops l K σ=aO E ops l K σ':=by rw [h]
@[congr] theorem anW{E:Env}{ops l:List Oper}{clk k k':Nat}{K:PS→Prop}{σ σ':ST}(hk:k=k')(h:σ=σ'):aQ E ops clk k l K σ=aQ E ops clk k' l K σ':=by rw [hk,h]
@[congr] theorem anX{md:Region.Mode}{ops:List Oper}{j j' k k':Nat}(hj:j=j')(hk:k=k'):rU md ops j k=rU md ops j' k':=by rw [hj,hk]
@[congr] theorem arK{md:Region.Mode}{ops:List Oper}{i i' id jO:Nat}{t t':Nat→Nat→Prop}(hi:i=i')(gL:id=jO)(ht:t=t'):AO md ops i id t=AO md ops i' jO t':=by rw [hi,gL,ht]
@[congr] theorem anY{md:Region.Mode}{ops:List Oper}{i i':Nat}{t t':Nat→Nat→Prop}{rows rows':Rows}(hi:i=i')(ht:t=t')(hr:rows=rows'):eN md ops i t rows=eN md ops i' t' rows':=by rw [hi,ht,hr]
@[congr] theorem ahg{E:Env}{tl:Nat}{l:List Oper}{K:PS→Prop}{σ σ':PS}(h:σ=σ'):iA E tl l K σ=iA E tl l K σ':=by rw [h]
@[congr] theorem ayj{E:Env}{n:Nat}{tl:Nat→Nat}{c:Code}{Q:PX→PS→Prop}{σ σ':PS}(h:σ=σ'):W E n tl c Q σ=W E n tl c Q σ':=by rw [h]
theorem k9{t:PV}{K:PV→Prop}:aX (fun v=>v=t) K=K t:=by simp [aX]
theorem aay{t:PV}{K:PV→Prop}:aX (fun v=>t=v) K=K t:=by simp [aX]
theorem kH{c:Prop}{R K:PV→Prop}:aX (fun v=>c∧R v) K=aJ c (aX R K):=by
 apply propext;simp only [aX,aJ]
 constructor
 ·rintro⟨v,⟨h1,h2⟩,h3⟩;exact⟨h1,v,h2,h3⟩
 ·rintro⟨h1,v,h2,h3⟩;exact⟨v,⟨h1,h2⟩,h3⟩
theorem ado{α:Type}{R:α→PV→Prop}{K:PV→Prop}:aX (fun v=>∃x,R x v) K = ∃x,aX (R x) K:=by
 apply propext;simp only [aX]
 constructor
 ·rintro⟨v,⟨x,h2⟩,h3⟩;exact⟨x,v,h2,h3⟩
 ·rintro⟨x,v,h2,h3⟩;exact⟨v,⟨x,h2⟩,h3⟩
theorem TU{B:Prop}:aJ True B=B:=by simp [aJ]
theorem adp{A B:Prop}:jF (.bool true) true A B=A:=by simp [jF]
theorem adq{A B:Prop}:jF (.bool true) false A B=B:=by simp [jF]
theorem adr{A B:Prop}:jF (.bool false) true A B=B:=by simp [jF]
theorem ads{A B:Prop}:stepG (.bool true) true A B=A:=by simp [stepG]
theorem adt{A B:Prop}:stepG (.bool true) false A B=B:=by simp [stepG]
theorem adu{A B:Prop}:stepG (.bool false) true A B=B:=by simp [stepG]
theorem adw{A B:Prop}:stepG (.bool false) false A B=A:=by simp [stepG]
theorem adx{w:Bool}{A B:Prop}:stepG (.dX []) w A B=B:=by simp [stepG]
theorem ady{A B:Prop}:jF (.bool false) false A B=A:=by simp [jF]
theorem DT{f:Nat→PV}{d j:Nat}{v:PV}:put f (some d) v j=if j=d then v else f j:=rfl
theorem adz{f:Nat→PV}{v:PV}:put f none v=f:=rfl
theorem anZ{α:Type}{f:Nat→α}{i j:Nat}{x:α}:eC f i x j=if j=i then x else f j:=rfl
def fa:List (Nat × PV)→Nat→PV
 | [],_ => .undef
 | (i,v)::l,j=>if j=i then v else fa l j
theorem TV{j:Nat}:fa [] j = .undef:=rfl
theorem KA{i j:Nat}{v:PV}{l:List (Nat × PV)}:fa ((i,v)::l) j=if j=i then v else fa l j:=rfl
section
variable {E:Env} {ops os:List Oper} {K:PS→Prop} {f:Nat→PV} {rows:Rows} {clk:Nat} {d:Option Tmp} {ty:TypeId} {pos:String} {af:Array Edge}
theorem aB(n:Nat)(l:List Nat):Gh n ⟨f,rows,clk⟩ ⟨fa (l.map fun i=>(i,f i)),rows,clk⟩:=by
 rintro w0 S0 G a w ⟨⟨c,h1,h2,h3,h4,h5,h6⟩,h7,h8⟩
 refine⟨⟨c,h1,h2,h3,h4,fun s=>?_,h6⟩,h7,h8⟩
 have:fa (l.map fun i=>(i,f i)) s=f s∨fa (l.map fun i=>(i,f i)) s = .undef:=by
  induction l with
  | nil=>exact .inr rfl
  | cons i l ih =>
   simp only [List.map_cons,fa]
   split
   ·rename_i h;rw [h];exact .inl rfl
   ·exact ih
 rcases this with h | h
 ·simp only;rw [h];exact h5 s
 ·simp only;rw [h];simp [aI,aM]
theorem W.live{n:Nat}{tl:Nat→Nat}{c:Code}{Q:PX→PS→Prop}(l:List Nat)(h:W E n tl c Q ⟨fa (l.map fun i=>(i,f i)),rows,clk⟩):W E n tl c Q ⟨f,rows,clk⟩:=W.ghost (aB n l) h
theorem TW{op:Op}{j:Nat}{want:Bool}:aO E ops (⟨d,op,ty,pos,af,some (j,want)⟩::os) K ⟨f,rows,clk⟩ =
  match (ops[j]?).bind (·.dst)with
  | none=>False
  | some e=>stepG (f e) want (aO E ops (⟨d,op,ty,pos,af,none⟩::os) K ⟨f,rows,clk⟩) (aO E ops os K ⟨put f d (.dX []),rows,clk⟩):=by
 simp only [aO]
 cases hx:(ops[j]?).bind (·.dst)with
 | none=>rfl
 | some e=>rfl
theorem cX{R:PV→Prop}{k:PV→Prop}(h:∀v,R v↔k v):(∃v u,(R v∧u=none)∧K ⟨put f d v,eS rows u,clk⟩)=aX k fun v=>K ⟨put f d v,rows,clk⟩:=by
 apply propext;simp only [aX]
 constructor
 ·rintro⟨v,u,⟨h1,rfl⟩,h2⟩;exact⟨v,(h v).1 h1,h2⟩
 ·rintro⟨v,h1,h2⟩;exact⟨v,none,⟨(h v).2 h1,rfl⟩,h2⟩
theorem aaz{x:Operand}:aO E ops (⟨d, .move x,ty,pos,af,none⟩::os) K ⟨f,rows,clk⟩=aO E ops os K ⟨put f d (aS f x),rows,clk⟩:=by
 simp only [aO,fJ,ys,yv]
 rw [cX (k:=fun v=>v=aS f x) (fun v=>Iff.rfl),k9]
theorem OI{x:Operand}:aO E ops (⟨d, .assign x,ty,pos,af,none⟩::os) K ⟨f,rows,clk⟩=aO E ops os K ⟨put f d (aS f x),rows,clk⟩:=by
 simp only [aO,fJ,ys,yv]
 rw [cX (k:=fun v=>v=aS f x) (fun v=>Iff.rfl),k9]
theorem aaA{c a b:Operand}:aO E ops (⟨d, .pick c a b,ty,pos,af,none⟩::os) K ⟨f,rows,clk⟩=jF (aS f c) true (aO E ops os K ⟨put f d (aS f a),rows,clk⟩) (aO E ops os K ⟨put f d (aS f b),rows,clk⟩):=by
 simp only [aO,fJ,ys,yv]
 rw [cX (fun v=>Iff.rfl)]
 apply propext;simp only [aX,jF]
 constructor
 ·rintro⟨v,⟨t,h1,rfl⟩,h2⟩
  refine⟨t,h1,fun h=>?_,fun h=>?_⟩
  ·subst h;exact h2
  ·subst h;exact h2
 ·rintro⟨t,h1,h2,h3⟩
  cases t with
  | true=>exact⟨_,⟨true,h1,rfl⟩,h2 rfl⟩
  | false=>exact⟨_,⟨false,h1,rfl⟩,h3 rfl⟩
theorem adA{op:BinOp}{t t2:TypeId}{x y:Operand}:aO E ops (⟨d, .binOp op t x y t2,ty,pos,af,none⟩::os) K ⟨f,rows,clk⟩=aX (fun v=>JQ E op t (aS f x) (aS f y) v) fun v=>aO E ops os K ⟨put f d v,rows,clk⟩:=by
 simp only [aO,fJ,ys,yv]
 rw [cX (fun v=>Iff.rfl)]
theorem ah3{op:UnOp}{t:TypeId}{x:Operand}:aO E ops (⟨d, .unOp op t x,ty,pos,af,none⟩::os) K ⟨f,rows,clk⟩=aX (fun v=>yun op (aS f x) v) fun v=>aO E ops os K ⟨put f d v,rows,clk⟩:=by
 simp only [aO,fJ,ys,yv]
 rw [cX (k:=fun v=>yun op (aS f x) v) (fun v=>Iff.rfl)]
theorem aaB{s t:TypeId}{x:Operand}:aO E ops (⟨d, .convert s t x,ty,pos,af,none⟩::os) K ⟨f,rows,clk⟩=aX (fun v=>u4 (E.ty s) (E.ty t) (aS f x) v) fun v=>aO E ops os K ⟨put f d v,rows,clk⟩:=by
 simp only [aO,fJ,ys,yv]
 rw [cX (k:=fun v=>u4 (E.ty s) (E.ty t) (aS f x) v) (fun v=>Iff.rfl)]
theorem KB{i:Nat}{x:Operand}:aO E ops (⟨d, .extract x i,ty,pos,af,none⟩::os) K ⟨f,rows,clk⟩=aX (fun v=>SV i (aS f x) v) fun v=>aO E ops os K ⟨put f d v,rows,clk⟩:=by
 simp only [aO,fJ,ys,yv]
 rw [cX (k:=fun v=>SV i (aS f x) v) (fun v=>Iff.rfl)]
theorem aaC{t:TypeId}{x:Operand}:aO E ops (⟨d, .load t x,ty,pos,af,none⟩::os) K ⟨f,rows,clk⟩=aX (fun v=>u0 E t rows (aS f x) v) fun v=>aO E ops os K ⟨put f d v,rows,clk⟩:=by
 simp only [aO,fJ,ys,yv]
 rw [cX (fun v=>Iff.rfl)]
theorem TX{t:TypeId}{i:Nat}{x:Operand}:aO E ops (⟨d, .field t x i,ty,pos,af,none⟩::os) K ⟨f,rows,clk⟩=aX (fun v=>vJ E t i (aS f x) v) fun v=>aO E ops os K ⟨put f d v,rows,clk⟩:=by
 simp only [aO,fJ,ys,yv]
 rw [cX (fun v=>Iff.rfl)]
theorem DU{t:TypeId}{i:Nat}{x:Operand}:aO E ops (⟨d, .fieldAddr t x i,ty,pos,af,none⟩::os) K ⟨f,rows,clk⟩=aX (fun v=>gG E t rows i (aS f x) v) fun v=>aO E ops os K ⟨put f d v,rows,clk⟩:=by
 simp only [aO,fJ,ys,yv]
 rw [cX (fun v=>Iff.rfl)]
theorem DV{t:TypeId}{x y:Operand}:aO E ops (⟨d, .indexAddr t x y,ty,pos,af,none⟩::os) K ⟨f,rows,clk⟩=aX (fun v=>gH E t rows (aS f x) (aS f y) v) fun v=>aO E ops os K ⟨put f d v,rows,clk⟩:=by
 simp only [aO,fJ,ys,yv]
 rw [cX (fun v=>Iff.rfl)]
theorem TY{t:TypeId}{x:Operand}{lo hi mx:Option Operand}:aO E ops (⟨d, .slice t x lo hi mx,ty,pos,af,none⟩::os) K ⟨f,rows,clk⟩=aX (fun v=>pG E t rows (aS f x) (lo.map (aS f)) (hi.map (aS f)) (mx.map (aS f)) v) fun v=>aO E ops os K ⟨put f d v,rows,clk⟩:=by
 simp only [aO,fJ,ys,yv]
 rw [cX (fun v=>Iff.rfl)]
theorem TZ{t:TypeId}{parts:Array (Nat × Operand)}:aO E ops (⟨d, .build t parts,ty,pos,af,none⟩::os) K ⟨f,rows,clk⟩=aX (fun v=>sA (E.ty t) (parts.toList.map fun x=>(x.1,aS f x.2)) v) fun v=>aO E ops os K ⟨put f d v,rows,clk⟩:=by
 simp only [aO,fJ,ys,yv]
 rw [cX (k:=fun v=>sA (E.ty t) (parts.toList.map fun x=>(x.1,aS f x.2)) v) (fun v=>Iff.rfl)]
theorem T0{t:TypeId}{x y:Operand}:aO E ops (⟨d, .index t x y,ty,pos,af,none⟩::os) K ⟨f,rows,clk⟩=aX (fun v=>vK E (E.ty t) (aS f x) (aS f y) v) fun v=>aO E ops os K ⟨put f d v,rows,clk⟩:=by
 simp only [aO,fJ,ys,yv]
 rw [cX (k:=fun v=>vK E (E.ty t) (aS f x) (aS f y) v) (fun v=>Iff.rfl)]
theorem adB{t:TypeId}{x:Operand}:aO E ops (⟨d, .call { callee:=.builtin .len,args:=⟨[x]⟩,argTypes:=⟨[t]⟩ },ty,pos,af,none⟩::os) K ⟨f,rows,clk⟩=aX (fun v=>AB (E.ty t) rows (aS f x) v) fun v=>aO E ops os K ⟨put f d v,rows,clk⟩:=by
 simp only [aO,fJ,ys,yv]
 rw [cX (k:=fun v=>AB (E.ty t) rows (aS f x) v) (fun v=>Iff.rfl)]
theorem GS{x:Operand}:aO E ops (⟨d, .nilCheck x,ty,pos,af,none⟩::os) K ⟨f,rows,clk⟩=aX (fun v=>GH rows (aS f x) v) fun v=>aO E ops os K ⟨put f d v,rows,clk⟩:=by
 simp only [aO,fJ,ys,yv]
 rw [cX (k:=fun v=>GH rows (aS f x) v) (fun v=>Iff.rfl)]
theorem adC{ts:Array TypeId}{x y:Operand}:aO E ops (⟨d, .call { callee:=.builtin .max,args:=⟨[x,y]⟩,argTypes:=ts },ty,pos,af,none⟩::os) K ⟨f,rows,clk⟩=aX (fun v=>SX (aS f x) (aS f y) v) fun v=>aO E ops os K ⟨put f d v,rows,clk⟩:=by
 simp only [aO,fJ,ys,yv]
 rw [cX (fun v=>Iff.rfl)]
theorem adD{ts:Array TypeId}{x y:Operand}:aO E ops (⟨d, .call { callee:=.builtin .min,args:=⟨[x,y]⟩,argTypes:=ts },ty,pos,af,none⟩::os) K ⟨f,rows,clk⟩=aX (fun v=>SY (aS f x) (aS f y) v) fun v=>aO E ops os K ⟨put f d v,rows,clk⟩:=by
 simp only [aO,fJ,ys,yv]
 rw [cX (fun v=>Iff.rfl)]
theorem BS{t:TypeId}{len:Nat}{parts:Array (Nat × Operand)}:aO E ops (⟨d, .buildSlice t len parts,ty,pos,af,none⟩::os) K ⟨f,rows,clk⟩=aX (fun v=>TE (E.ty t) rows len (parts.toList.map fun x=>(x.1,aS f x.2)) v) fun v=>aO E ops os K ⟨put f d v,rows,clk⟩:=by
 simp only [aO,fJ,ys]
 rw [cX (fun v=>Iff.rfl)]
theorem T1{t:TypeId}{p x:Operand}:aO E ops (⟨none, .store t p x,ty,pos,af,none⟩::os) K ⟨f,rows,clk⟩ = ∃id r,sF E t rows (aS f p) (aS f x) .undef (some (id,r))∧aO E ops os K ⟨f,eC rows id (some r),clk⟩:=by
 simp only [aO,fJ,ys]
 apply propext
 constructor
 ·rintro⟨v,u,h,h2⟩
  have h':=h
  obtain⟨_,rfl,h3⟩:=h
  split at h3
  ·obtain⟨_,_,_,_,_,_,_,_,_,_,rfl⟩:=h3
   exact⟨_,_,h',h2⟩
  ·exact h3.elim
 ·rintro⟨id,r,h,h2⟩;exact⟨.undef,some (id,r),h,h2⟩
theorem T3{t:TypeId}:aO E ops (⟨d, .alloc t,ty,pos,af,none⟩::os) K ⟨f,rows,clk⟩=aJ ((E.ty t).known=true) (aO E ops os K ⟨put f d (.ptr (d.getD 0) clk 0 0),eC rows (d.getD 0) (some ⟨clk,t,(E.ty t).size,[(E.ty t).zero]⟩),clk+1⟩):=rfl
theorem adE{t:TypeId}{x:Operand}:aO E ops (⟨d, .box t x,ty,pos,af,none⟩::os) K ⟨f,rows,clk⟩=aJ ((E.ty t).known=true) (∃l,cQ (aS f x)=some l∧(∀q∈l,iT rows q)∧l.length=(E.ty t).size∧aO E ops os K ⟨put f d (.ptr (d.getD 0) clk 0 0),eC rows (d.getD 0) (some ⟨clk,t,(E.ty t).size,[l]⟩),clk+1⟩):=rfl
def sK(t:TI)(x y:PV)(K:TypeId→Nat→List PV→Int→Prop):Prop:=
 match t,x,y with
 | .slice e n b z, .int _ x, .int _ y=>aJ (0≤x∧x≤y∧y.toNat≤room∧y.toNat*b≤room) (K e n z x)
 | _,_,_=>False
theorem DW{t:TypeId}{l c:Operand}:aO E ops (⟨d, .makeSlice t l c,ty,pos,af,none⟩::os) K ⟨f,rows,clk⟩=sK (E.ty t) (aS f l) (aS f c) fun e n z x=>aO E ops os K ⟨put f d (.own (d.getD 0) clk 0 x.toNat),eC rows (d.getD 0) (some ⟨clk,e,n,List.replicate x.toNat z⟩),clk+1⟩:=by
 simp only [aO,fJ,sK,J0]
 generalize E.ty t=T
 generalize aS f l=A
 generalize aS f c=B
 cases T with
 | slice e n b z =>
  cases A with
  | int k x =>
   cases B with
   | int k2 y=>simp only [aJ,and_assoc]
   | _=>rfl
  | _=>rfl
 | _=>rfl
def aaD(t:TI)(rows:Rows)(x y:PV)(clk d:Nat)(K:PV→Rows→Nat→Prop):Prop:=
 match t with
 | .slice e n b _ =>
  ∃l,sG rows y l∧(∀e∈l,e.length=n) ∧
  match x with
  | .nil=>aJ (l.length≤room∧l.length*b≤room) (K (.own d clk 0 l.length) (eC rows d (some ⟨clk,e,n,l⟩)) (clk+1))
  | .own id ver off len=>∃r,rows id=some r∧r.ver=ver∧off=0∧len≤r.els.length∧r.e=e∧r.size=n∧aJ (len+l.length≤room∧(len+l.length)*b≤room) (K (.own id clk 0 (len+l.length)) (eC rows id (some ⟨clk,e,n,r.els.take len++l⟩)) (clk+1))
  | .jA l0=>(∀e∈l0,e.length=n)∧(∀e∈l,∀p∈e,bL p=true)∧aJ (l0.length+l.length≤room∧(l0.length+l.length)*b≤room) (K (.sl (l0++l)) rows clk)
  | _=>False
 | _=>False
theorem OJ{t t2:TypeId}{x y:Operand}:aO E ops (⟨d, .call { callee:=.builtin .append,args:=⟨[x,y]⟩,argTypes:=⟨[t,t2]⟩ },ty,pos,af,none⟩::os) K ⟨f,rows,clk⟩ =
  aJ (t2=t∨slT (E.ty t2)=true) (aaD (E.ty t) rows (aS f x) (aS f y) clk (d.getD 0) fun v rows clk=>aO E ops os K ⟨put f d v,rows,clk⟩):=by
 simp only [aO,fJ,J5,aaD,J0,aJ,PS.put]
 congr 1
 generalize E.ty t=T
 generalize aS f x=A
 cases T with
 | slice e n b z =>
  simp only
  congr 1
  funext l
  congr 2
  cases A with
  | nil=>simp only [and_assoc]
  | own id ver off len=>simp only [and_assoc]
  | jA l0=>simp only [and_assoc]
  | _=>rfl
 | _=>rfl
end
def xA(P:Program)(g:FuncId)(args:List PV)(K:PV→Prop):Prop:=∃v,aE P g args v∧K v
@[congr] theorem alb{P:Program}{g:FuncId}{args OK:List PV}{K:PV→Prop}(h:args=OK):xA P g args K=xA P g OK K:=by rw [h]
def sL(E:Env)(p:PV)(fE:List PV)(rows:Rows)(clk:Nat)(K:PV→Rows→Nat→Prop):Prop:=
 match p with
 | .fn g caps=>if (E.writes g || E.GG g)=true then caps = []∧w5 E.P g fE rows clk K else aJ ((fE.map (pz rows)).all dI=true∧fC rows (fE.flatMap eB)) (xA E.P g (fE.map (pz rows)++caps) fun v=>K v (HL rows (fE.flatMap eB)) clk)
 | _=>False
@[congr] theorem ah4{E:Env}{p p':PV}{fE sM:List PV}{rows rows':Rows}{clk iM:Nat}{K:PV→Rows→Nat→Prop}(h1:p=p')(h2:fE=sM)(h3:rows=rows')(h4:clk=iM):sL E p fE rows clk K=sL E p' sM rows' iM K:=by rw [h1,h2,h3,h4]
@[congr] theorem alc{P:Program}{g:FuncId}{fE sM:List PV}{rows:Rows}{clk:Nat}{K:PV→Rows→Nat→Prop}(h:fE=sM):w5 P g fE rows clk K=w5 P g sM rows clk K:=by rw [h]
@[congr] theorem ald{t t':TI}{x x' y y':PV}{K:TypeId→Nat→List PV→Int→Prop}(h1:t=t')(h2:x=x')(h3:y=y'):sK t x y K=sK t' x' y' K:=by rw [h1,h2,h3]
@[congr] theorem an0{t t':TI}{rows rows':Rows}{x x' y y':PV}{clk iM d d':Nat}{K:PV→Rows→Nat→Prop}(h1:t=t')(h2:rows=rows')(h3:x=x')(h4:y=y')(h5:clk=iM)(h6:d=d') :
  aaD t rows x y clk d K=aaD t' rows' x' y' iM d' K:=by rw [h1,h2,h3,h4,h5,h6]
section
variable {E:Env} {ops os:List Oper} {K:PS→Prop} {f:Nat→PV} {rows:Rows} {clk:Nat} {d:Option Tmp} {ty:TypeId} {pos:String} {af:Array Edge}
theorem aaE{fo:Operand}{args:Array Operand}{ts:Array TypeId}:aO E ops (⟨d, .call { callee:=.value fo,args:=args,argTypes:=ts },ty,pos,af,none⟩::os) K ⟨f,rows,clk⟩ =
  sL E (aS f fo) (args.toList.map (aS f)) rows clk fun v rows clk=>aO E ops os K ⟨put f d v,rows,clk⟩:=by
 simp only [aO,fJ,AH,sL,TF,aJ,xA]
 generalize aS f fo=A
 have e1:(args.toList.map fun x=>pz rows (aS f x))=(args.toList.map (aS f)).map (pz rows):=by rw [List.map_map];rfl
 have e2:(args.toList.flatMap fun x=>eB (aS f x))=(args.toList.map (aS f)).flatMap eB:=by rw [List.flatMap_map]
 rw [e1,e2]
 cases A with
 | fn g caps =>
  have hm:anz E (.fn g caps)=(E.writes g || E.GG g):=rfl
  by_cases hw:(E.writes g || E.GG g)=true
  ·rw [hm,if_pos hw]
   cases caps with
   | nil=>simp [hw]
   | cons x l=>simp [hw]
  rw [hm,if_neg hw]
  simp only [if_neg hw]
  apply propext
  constructor
  ·rintro⟨v,⟨h1,h2⟩,h3,h4⟩;exact⟨⟨h1,h3⟩,v,h2,h4⟩
  ·rintro⟨⟨h1,h3⟩,v,h2,h4⟩;exact⟨v,⟨h1,h2⟩,h3,h4⟩
 | _=>simp [anz]
theorem GU{g:FuncId}{caps:Array Operand}:aO E ops (⟨d, .makeFunc (.func g) ⟨[]⟩ caps,ty,pos,af,none⟩::os) K ⟨f,rows,clk⟩ =
  aJ (((caps.toList.map (aS f)).map (pz rows)).all dI=true∧fC rows ((caps.toList.map (aS f)).flatMap eB))
   (aO E ops os K ⟨put f d (.fn g ((caps.toList.map (aS f)).map (pz rows))),HL rows ((caps.toList.map (aS f)).flatMap eB),clk⟩):=by
 simp only [aO,fJ,aJ,and_assoc]
 have e1:(caps.toList.map fun x=>pz rows (aS f x))=(caps.toList.map (aS f)).map (pz rows):=by rw [List.map_map];rfl
 have e2:(caps.toList.flatMap fun x=>eB (aS f x))=(caps.toList.map (aS f)).flatMap eB:=by rw [List.flatMap_map]
 rw [e1,e2]
def jL(k:Nat)(l:List Nat)(t:Nat→Nat→Prop):Nat→Nat→Prop:=fun k' id=>(true=true∧k'=k∧id∈l)∨t k' id
def oL(k id:Nat)(w:Nat→Nat→Prop):Nat→Nat→Prop:=fun k' jO=>(k'=k∧jO=id)∨w k' jO
variable {k:Nat} {bS:Nat→Nat→Prop} {aN:Nat→Nat→Prop}
theorem T5{op:Op}{j:Nat}{want:Bool}:aQ E ops clk k (⟨d,op,ty,pos,af,some (j,want)⟩::os) K ⟨f,rows,bS,aN⟩ =
  match (ops[j]?).bind (·.dst)with
  | none=>False
  | some e=>stepG (f e) want (aQ E ops clk k (⟨d,op,ty,pos,af,none⟩::os) K ⟨f,rows,bS,aN⟩) (aQ E ops clk (k+1) os K ⟨put f d (.dX []),rows,bS,aN⟩):=by
 have e3:app k ⟨d,op,ty,pos,af,some (j,want)⟩ false (.dX []) none ⟨f,rows,bS,aN⟩=⟨put f d (.dX []),rows,bS,aN⟩:=by simp [app,eS,wlU]
 simp only [aQ,e3]
 cases hx:(ops[j]?).bind (·.dst)with
 | none=>rfl
 | some e=>rfl
theorem dG{o:Oper}{R:PV→Prop}{kk:PV→Prop}{st:ST}(h:∀v,R v↔kk v):(∃v u,(R v∧u=none)∧N8 .any ops k u bS∧aQ E ops clk (k+1) os K (app k o true v u st))=aX kk fun v=>aQ E ops clk (k+1) os K (app k o true v none st):=by
 apply propext;simp only [aX]
 constructor
 ·rintro⟨v,u,⟨h1,rfl⟩,_,h2⟩;exact⟨v,(h v).1 h1,h2⟩
 ·rintro⟨v,h1,h2⟩;exact⟨v,none,⟨(h v).2 h1,rfl⟩,trivial,h2⟩
theorem fZ{op:Op}{v:PV}(h:iW op (aS f) = []):app k ⟨d,op,ty,pos,af,none⟩ true v none ⟨f,rows,bS,aN⟩=⟨put f d v,rows,bS,aN⟩:=by simp [app,eS,wlU,h]
theorem tV{op:Op}{v:PV}{l:List Nat}(h:iW op (aS f)=l):app k ⟨d,op,ty,pos,af,none⟩ true v none ⟨f,rows,bS,aN⟩=⟨put f d v,rows,jL k l bS,aN⟩:=by subst h;rfl
theorem aaF{x:Operand}:aQ E ops clk k (⟨d, .move x,ty,pos,af,none⟩::os) K ⟨f,rows,bS,aN⟩=aQ E ops clk (k+1) os K ⟨put f d (aS f x),rows,bS,aN⟩:=by
 simp only [aQ,yn,jK,ys,yv]
 rw [dG (kk:=fun v=>v=aS f x) (fun v=>Iff.rfl),k9,fZ rfl]
theorem OL{x:Operand}:aQ E ops clk k (⟨d, .assign x,ty,pos,af,none⟩::os) K ⟨f,rows,bS,aN⟩=aQ E ops clk (k+1) os K ⟨put f d (aS f x),rows,bS,aN⟩:=by
 simp only [aQ,yn,jK,ys,yv]
 rw [dG (kk:=fun v=>v=aS f x) (fun v=>Iff.rfl),k9,fZ rfl]
theorem aaG{c a b:Operand}:aQ E ops clk k (⟨d, .pick c a b,ty,pos,af,none⟩::os) K ⟨f,rows,bS,aN⟩=jF (aS f c) true (aQ E ops clk (k+1) os K ⟨put f d (aS f a),rows,bS,aN⟩) (aQ E ops clk (k+1) os K ⟨put f d (aS f b),rows,bS,aN⟩):=by
 simp only [aQ,yn,jK,ys,yv]
 rw [dG (fun v=>Iff.rfl)]
 apply propext;simp only [aX,jF,fZ (op:=.pick c a b) rfl]
 constructor
 ·rintro⟨v,⟨t,h1,rfl⟩,h2⟩
  refine⟨t,h1,fun h=>?_,fun h=>?_⟩
  ·subst h;exact h2
  ·subst h;exact h2
 ·rintro⟨t,h1,h2,h3⟩
  cases t with
  | true=>exact⟨_,⟨true,h1,rfl⟩,h2 rfl⟩
  | false=>exact⟨_,⟨false,h1,rfl⟩,h3 rfl⟩
theorem adF{op:BinOp}{t t2:TypeId}{x y:Operand}:aQ E ops clk k (⟨d, .binOp op t x y t2,ty,pos,af,none⟩::os) K ⟨f,rows,bS,aN⟩=aX (fun v=>JQ E op t (aS f x) (aS f y) v) fun v=>aQ E ops clk (k+1) os K ⟨put f d v,rows,bS,aN⟩:=by
 simp only [aQ,yn,jK,ys,yv];rw [dG (fun v=>Iff.rfl)];simp only [fZ (op:=.binOp op t x y t2) rfl]
theorem ah5{op:UnOp}{t:TypeId}{x:Operand}:aQ E ops clk k (⟨d, .unOp op t x,ty,pos,af,none⟩::os) K ⟨f,rows,bS,aN⟩=aX (fun v=>yun op (aS f x) v) fun v=>aQ E ops clk (k+1) os K ⟨put f d v,rows,bS,aN⟩:=by
 simp only [aQ,yn,jK,ys,yv];rw [dG (fun v=>Iff.rfl)];simp only [fZ (op:=.unOp op t x) rfl]
theorem aaH{s t:TypeId}{x:Operand}:aQ E ops clk k (⟨d, .convert s t x,ty,pos,af,none⟩::os) K ⟨f,rows,bS,aN⟩=aX (fun v=>u4 (E.ty s) (E.ty t) (aS f x) v) fun v=>aQ E ops clk (k+1) os K ⟨put f d v,rows,bS,aN⟩:=by
 simp only [aQ,yn,jK,ys,yv];rw [dG (fun v=>Iff.rfl)];simp only [fZ (op:=.convert s t x) rfl]
theorem KC{i:Nat}{x:Operand}:aQ E ops clk k (⟨d, .extract x i,ty,pos,af,none⟩::os) K ⟨f,rows,bS,aN⟩=aX (fun v=>SV i (aS f x) v) fun v=>aQ E ops clk (k+1) os K ⟨put f d v,rows,bS,aN⟩:=by
 simp only [aQ,yn,jK,ys,yv];rw [dG (fun v=>Iff.rfl)];simp only [fZ (op:=.extract x i) rfl]
theorem aaI{t:TypeId}{x:Operand}:aQ E ops clk k (⟨d, .load t x,ty,pos,af,none⟩::os) K ⟨f,rows,bS,aN⟩=aX (fun v=>u0 E t (eN .any ops k aN rows) (aS f x) v) fun v=>aQ E ops clk (k+1) os K ⟨put f d v,rows,jL k (aU (aS f x)) bS,aN⟩:=by
 simp only [aQ,yn,jK,ys,yv];rw [dG (fun v=>Iff.rfl)];simp only [tV (op:=.load t x) rfl];rfl
theorem T6{t:TypeId}{i:Nat}{x:Operand}:aQ E ops clk k (⟨d, .field t x i,ty,pos,af,none⟩::os) K ⟨f,rows,bS,aN⟩=aX (fun v=>vJ E t i (aS f x) v) fun v=>aQ E ops clk (k+1) os K ⟨put f d v,rows,bS,aN⟩:=by
 simp only [aQ,yn,jK,ys,yv];rw [dG (fun v=>Iff.rfl)];simp only [fZ (op:=.field t x i) rfl]
theorem DX{t:TypeId}{i:Nat}{x:Operand}:aQ E ops clk k (⟨d, .fieldAddr t x i,ty,pos,af,none⟩::os) K ⟨f,rows,bS,aN⟩=aX (fun v=>gG E t (eN .any ops k aN rows) i (aS f x) v) fun v=>aQ E ops clk (k+1) os K ⟨put f d v,rows,jL k (aU (aS f x)) bS,aN⟩:=by
 simp only [aQ,yn,jK,ys,yv];rw [dG (fun v=>Iff.rfl)];simp only [tV (op:=.fieldAddr t x i) rfl];rfl
theorem DY{t:TypeId}{x y:Operand}:aQ E ops clk k (⟨d, .indexAddr t x y,ty,pos,af,none⟩::os) K ⟨f,rows,bS,aN⟩=aX (fun v=>gH E t (eN .any ops k aN rows) (aS f x) (aS f y) v) fun v=>aQ E ops clk (k+1) os K ⟨put f d v,rows,jL k (aU (aS f x)) bS,aN⟩:=by
 simp only [aQ,yn,jK,ys,yv];rw [dG (fun v=>Iff.rfl)];simp only [tV (op:=.indexAddr t x y) rfl];rfl
theorem T7{t:TypeId}{x:Operand}{lo hi mx:Option Operand}:aQ E ops clk k (⟨d, .slice t x lo hi mx,ty,pos,af,none⟩::os) K ⟨f,rows,bS,aN⟩=aX (fun v=>pG E t (eN .any ops k aN rows) (aS f x) (lo.map (aS f)) (hi.map (aS f)) (mx.map (aS f)) v) fun v=>aQ E ops clk (k+1) os K ⟨put f d v,rows,jL k (aU (aS f x)) bS,aN⟩:=by
 simp only [aQ,yn,jK,ys,yv];rw [dG (fun v=>Iff.rfl)];simp only [tV (op:=.slice t x lo hi mx) rfl];rfl
theorem T8{t:TypeId}{parts:Array (Nat × Operand)}:aQ E ops clk k (⟨d, .build t parts,ty,pos,af,none⟩::os) K ⟨f,rows,bS,aN⟩=aX (fun v=>sA (E.ty t) (parts.toList.map fun x=>(x.1,aS f x.2)) v) fun v=>aQ E ops clk (k+1) os K ⟨put f d v,rows,bS,aN⟩:=by
 simp only [aQ,yn,jK,ys,yv];rw [dG (fun v=>Iff.rfl)];simp only [fZ (op:=.build t parts) rfl]
theorem adG{t:TypeId}{x:Operand}:aQ E ops clk k (⟨d, .call { callee:=.builtin .len,args:=⟨[x]⟩,argTypes:=⟨[t]⟩ },ty,pos,af,none⟩::os) K ⟨f,rows,bS,aN⟩=aX (fun v=>AB (E.ty t) (eN .any ops k aN rows) (aS f x) v) fun v=>aQ E ops clk (k+1) os K ⟨put f d v,rows,jL k (aU (aS f x)) bS,aN⟩:=by
 simp only [aQ,yn,jK,ys,yv];rw [dG (fun v=>Iff.rfl)];simp only [tV (op:=.call { callee:=.builtin .len,args:=⟨[x]⟩,argTypes:=⟨[t]⟩ }) rfl];rfl
theorem GV{x:Operand}:aQ E ops clk k (⟨d, .nilCheck x,ty,pos,af,none⟩::os) K ⟨f,rows,bS,aN⟩=aX (fun v=>GH (eN .any ops k aN rows) (aS f x) v) fun v=>aQ E ops clk (k+1) os K ⟨put f d v,rows,jL k (aU (aS f x)) bS,aN⟩:=by
 simp only [aQ,yn,jK,ys,yv];rw [dG (fun v=>Iff.rfl)];simp only [tV (op:=.nilCheck x) rfl];rfl
theorem adH{ts:Array TypeId}{x y:Operand}:aQ E ops clk k (⟨d, .call { callee:=.builtin .max,args:=⟨[x,y]⟩,argTypes:=ts },ty,pos,af,none⟩::os) K ⟨f,rows,bS,aN⟩=aX (fun v=>SX (aS f x) (aS f y) v) fun v=>aQ E ops clk (k+1) os K ⟨put f d v,rows,bS,aN⟩:=by
 simp only [aQ,yn,jK,ys,yv];rw [dG (fun v=>Iff.rfl)];simp only [fZ (op:=.call { callee:=.builtin .max,args:=⟨[x,y]⟩,argTypes:=ts }) rfl]
theorem adI{ts:Array TypeId}{x y:Operand}:aQ E ops clk k (⟨d, .call { callee:=.builtin .min,args:=⟨[x,y]⟩,argTypes:=ts },ty,pos,af,none⟩::os) K ⟨f,rows,bS,aN⟩=aX (fun v=>SY (aS f x) (aS f y) v) fun v=>aQ E ops clk (k+1) os K ⟨put f d v,rows,bS,aN⟩:=by
 simp only [aQ,yn,jK,ys,yv];rw [dG (fun v=>Iff.rfl)];simp only [fZ (op:=.call { callee:=.builtin .min,args:=⟨[x,y]⟩,argTypes:=ts }) rfl]
theorem GW{g:FuncId}{caps:Array Operand}:aQ E ops clk k (⟨d, .makeFunc (.func g) ⟨[]⟩ caps,ty,pos,af,none⟩::os) K ⟨f,rows,bS,aN⟩=aJ ((caps.toList.map fun x=>aS f x).all dI=true) (aQ E ops clk (k+1) os K ⟨put f d (.fn g (caps.toList.map fun x=>aS f x)),rows,bS,aN⟩):=by
 simp only [aQ,yn,jK,ys,yv]
 rw [dG (fun v=>Iff.rfl),kH,k9];simp only [fZ (op:=.makeFunc (.func g) ⟨[]⟩ caps) rfl]
theorem BT{t:TypeId}{len:Nat}{parts:Array (Nat × Operand)}:aQ E ops clk k (⟨d, .buildSlice t len parts,ty,pos,af,none⟩::os) K ⟨f,rows,bS,aN⟩=aX (fun v=>TE (E.ty t) (eN .any ops k aN rows) len (parts.toList.map fun x=>(x.1,aS f x.2)) v) fun v=>aQ E ops clk (k+1) os K ⟨put f d v,rows,bS,aN⟩:=by
 simp only [aQ,yn,jK,ys];rw [dG (fun v=>Iff.rfl)];simp only [fZ (op:=.buildSlice t len parts) rfl]
theorem T9{t:TypeId}{p x:Operand}:aQ E ops clk k (⟨none, .store t p x,ty,pos,af,none⟩::os) K ⟨f,rows,bS,aN⟩ =
  ∃id r,sF E t (eN .any ops k aN rows) (aS f p) (aS f x) .undef (some (id,r))∧AO .any ops k id bS∧aQ E ops clk (k+1) os K ⟨f,eC rows id (some r),jL k (aU (aS f p)++((cQ (aS f x)).getD []).flatMap aU) bS,oL k id aN⟩:=by
 simp only [aQ,yn,jK,ys]
 apply propext
 constructor
 ·rintro⟨v,u,h,h1,h2⟩
  have h':=h
  obtain⟨_,rfl,h3⟩:=h
  split at h3
  ·obtain⟨_,_,_,_,_,_,_,_,_,_,rfl⟩:=h3
   exact⟨_,_,h',h1,h2⟩
  ·exact h3.elim
 ·rintro⟨id,r,h,h1,h2⟩;exact⟨.undef,some (id,r),h,h1,h2⟩
theorem adJ{o:Oper}{R:PV→Option (Nat × Row)→Prop}{C:Prop}{v0:PV}{e:Nat}{r0:Row}{st:ST}{iM:Nat}(h:∀v u,R v u↔(C∧v=v0∧u=some (e,r0))):(∃v u,R v u∧N8 .any ops k u bS∧aQ E ops iM (k+1) os K (app k o true v u st))=aJ (C∧AO .any ops k e bS) (aQ E ops iM (k+1) os K (app k o true v0 (some (e,r0)) st)):=by
 apply propext;simp only [aJ]
 constructor
 ·rintro⟨v,u,h1,h2,h3⟩
  obtain⟨hc,rfl,rfl⟩:=(h v u).1 h1
  exact⟨⟨hc,h2⟩,h3⟩
 ·rintro⟨⟨h1,h2⟩,h3⟩;exact⟨v0,_,(h _ _).2 ⟨h1,rfl,rfl⟩,h2,h3⟩
theorem xB{op:Op}{v:PV}{e:Nat}{r0:Row}(h:iW op (aS f) = []):app k ⟨d,op,ty,pos,af,none⟩ true v (some (e,r0)) ⟨f,rows,bS,aN⟩=⟨put f d v,eC rows e (some r0),bS,oL k e aN⟩:=by simp only [app,eS,wlU,h,List.not_mem_nil,and_false,false_or];rfl
theorem UA{t:TypeId}:aQ E ops clk k (⟨d, .alloc t,ty,pos,af,none⟩::os) K ⟨f,rows,bS,aN⟩=aJ ((E.ty t).known=true∧AO .any ops k (d.getD 0) bS) (aQ E ops (clk+1) (k+1) os K ⟨put f d (.ptr (d.getD 0) clk 0 0),eC rows (d.getD 0) (some ⟨clk,t,(E.ty t).size,[(E.ty t).zero]⟩),bS,oL k (d.getD 0) aN⟩):=by
 simp only [aQ,yn,jK]
 rw [adJ (C:=(E.ty t).known=true) (v0:=.ptr (d.getD 0) clk 0 0) (e:=d.getD 0) (r0:=⟨clk,t,(E.ty t).size,[(E.ty t).zero]⟩) (fun v u=>by simp),xB (op:=.alloc t) rfl]
theorem adK{t:TypeId}{x:Operand}:aQ E ops clk k (⟨d, .box t x,ty,pos,af,none⟩::os) K ⟨f,rows,bS,aN⟩=aJ ((E.ty t).known=true) (∃l,cQ (aS f x)=some l∧((∀q∈l,iT (fun _=>none) q)∧l.length=(E.ty t).size∧AO .any ops k (d.getD 0) bS) ∧
  aQ E ops (clk+1) (k+1) os K ⟨put f d (.ptr (d.getD 0) clk 0 0),eC rows (d.getD 0) (some ⟨clk,t,(E.ty t).size,[l]⟩),bS,oL k (d.getD 0) aN⟩):=by
 simp only [aQ,yn,jK]
 apply propext
 constructor
 ·rintro⟨v,u,⟨h1,l,h2,h3,h4,rfl,rfl⟩,h5,h6⟩
  rw [xB (op:=.box t x) rfl]at h6
  exact⟨h1,l,h2,⟨h3,h4,h5⟩,h6⟩
 ·rintro⟨h1,l,h2,⟨h3,h4,h5⟩,h6⟩
  refine⟨_,_,⟨h1,l,h2,h3,h4,rfl,rfl⟩,h5,?_⟩
  rw [xB (op:=.box t x) rfl];exact h6
theorem DZ{t:TypeId}{l c:Operand}:aQ E ops clk k (⟨d, .makeSlice t l c,ty,pos,af,none⟩::os) K ⟨f,rows,bS,aN⟩=sK (E.ty t) (aS f l) (aS f c) fun e n z x=>aJ (AO .any ops k (d.getD 0) bS) (aQ E ops (clk+1) (k+1) os K ⟨put f d (.own (d.getD 0) clk 0 x.toNat),eC rows (d.getD 0) (some ⟨clk,e,n,List.replicate x.toNat z⟩),bS,oL k (d.getD 0) aN⟩):=by
 have WY:∀ {v e' r0},app k ⟨d, .makeSlice t l c,ty,pos,af,none⟩ true v (some (e',r0)) ⟨f,rows,bS,aN⟩=⟨put f d v,eC rows e' (some r0),bS,oL k e' aN⟩:=xB rfl
 simp only [aQ,yn,jK,sK]
 generalize E.ty t=T
 generalize aS f l=A
 generalize aS f c=B
 cases T with
 | slice e n b z =>
  cases A with
  | int k1 x =>
   cases B with
   | int k2 y =>
    apply propext
    simp only [aJ]
    constructor
    ·rintro⟨v,u,⟨h1,h2,h3,h4,rfl,rfl⟩,h5,h6⟩
     rw [WY]at h6
     exact⟨⟨h1,h2,h3,h4⟩,h5,h6⟩
    ·rintro⟨⟨h1,h2,h3,h4⟩,h5,h6⟩
     refine⟨_,_,⟨h1,h2,h3,h4,rfl,rfl⟩,h5,?_⟩
     rw [WY];exact h6
   | _=>simp
  | _=>simp
 | _=>simp
theorem OM{t t2:TypeId}{x y:Operand}:aQ E ops clk k (⟨d, .call { callee:=.builtin .append,args:=⟨[x,y]⟩,argTypes:=⟨[t,t2]⟩ },ty,pos,af,none⟩::os) K ⟨f,rows,bS,aN⟩ =
  aJ (t2=t∨slT (E.ty t2)=true) (∃v u,vC (E.ty t) (eN .any ops k aN rows) (aS f x) (aS f y) clk (d.getD 0) v u∧N8 .any ops k u bS ∧
   aQ E ops (clk+1) (k+1) os K ⟨put f d v,eS rows u,jL k (aU (aS f x)++aU (aS f y)) bS,wlU k u aN⟩):=by
 have WY:∀ {v u},app k ⟨d, .call { callee:=.builtin .append,args:=⟨[x,y]⟩,argTypes:=⟨[t,t2]⟩ },ty,pos,af,none⟩ true v u ⟨f,rows,bS,aN⟩=⟨put f d v,eS rows u,jL k (aU (aS f x)++aU (aS f y)) bS,wlU k u aN⟩:=rfl
 simp only [aQ,yn,jK,aJ]
 apply propext
 constructor
 ·rintro⟨v,u,⟨h1,h2⟩,h3,h4⟩
  exact⟨h1,v,u,h2,h3,h4⟩
 ·rintro⟨h1,v,u,h2,h3,h4⟩
  exact⟨v,u,⟨h1,h2⟩,h3,h4⟩
theorem aaJ{t t2:TypeId}{x y:Operand}:aQ E ops clk k (⟨d, .call { callee:=.builtin .copy,args:=⟨[x,y]⟩,argTypes:=⟨[t,t2]⟩ },ty,pos,af,none⟩::os) K ⟨f,rows,bS,aN⟩ =
  ∃v u,u7 (E.ty t) (eN .any ops k aN rows) (aS f x) (aS f y) v u∧N8 .any ops k u bS ∧
   aQ E ops clk (k+1) os K ⟨put f d v,eS rows u,jL k (aU (aS f x)++aU (aS f y)) bS,wlU k u aN⟩:=rfl
def qP(E:Env)(p:PV)(fE:List PV)(rows:Rows)(K:PV→Prop):Prop:=
 match p with
 | .fn g caps=>aJ ((fE.map (pz rows)).all dI=true∧fE.flatMap eB = []) (xA E.P g (fE.map (pz rows)++caps) K)
 | _=>False
@[congr] theorem ah6{E:Env}{p p':PV}{fE sM:List PV}{rows rows':Rows}{K:PV→Prop}(h1:p=p')(h2:fE=sM)(h3:rows=rows'):qP E p fE rows K=qP E p' sM rows' K:=by rw [h1,h2,h3]
def qQ(E:Env)(p:PV)(fE:List PV)(rows:Rows)(K:PV→Nat→Row→Prop):Prop:=∃v id r,NU E p fE rows v (some (id,r))∧K v id r
@[congr] theorem ah7{E:Env}{p p':PV}{fE sM:List PV}{rows rows':Rows}{K:PV→Nat→Row→Prop}(h1:p=p')(h2:fE=sM)(h3:rows=rows'):qQ E p fE rows K=qQ E p' sM rows' K:=by rw [h1,h2,h3]
theorem HS{fo:Operand}{args:Array Operand}{ts:Array TypeId}(hfo:eA E (.call { callee:=.value fo,args:=args,argTypes:=ts })=false):aQ E ops clk k (⟨d, .call { callee:=.value fo,args:=args,argTypes:=ts },ty,pos,af,none⟩::os) K ⟨f,rows,bS,aN⟩ =
  if wZ E (aS f fo)=true then qQ E (aS f fo) (args.toList.map (aS f)) (eN .any ops k aN rows) (fun v id r=>aJ (AO .any ops k id bS) (aQ E ops clk (k+1) os K ⟨put f d v,eC rows id (some r),jL k ((args.toList.map (aS f)).flatMap aU) bS,oL k id aN⟩))
  else qP E (aS f fo) (args.toList.map (aS f)) (eN .any ops k aN rows) fun v=>aQ E ops clk (k+1) os K ⟨put f d v,rows,bS,aN⟩:=by
 simp only [aQ]
 rw [DN hfo]
 simp only [DM hfo,ys,AH,qP,aJ,xA]
 have e4:(args.toList.map fun x=>aS f x)=args.toList.map (aS f):=rfl
 have e5:(args.toList.flatMap fun x=>aU (aS f x))=(args.toList.map (aS f)).flatMap aU:=by rw [List.flatMap_map]
 by_cases hm:wZ E (aS f fo)=true
 ·simp only [if_pos hm,qQ]
  have WY:∀ {v e' r0},app k ⟨d, .call { callee:=.value fo,args:=args,argTypes:=ts },ty,pos,af,none⟩ true v (some (e',r0)) ⟨f,rows,bS,aN⟩=⟨put f d v,eC rows e' (some r0),jL k ((args.toList.map (aS f)).flatMap aU) bS,oL k e' aN⟩:=by
   intro v e' r0
   rw [←e5];rfl
  apply propext
  constructor
  ·rintro⟨v,u,h1,h2,h3⟩
   have TC:=h1
   unfold NU at TC
   split at TC
   ·obtain⟨_,_,_,_,_,_,_,_,_,rfl⟩:=TC
    rw [WY]at h3
    exact⟨v,_,_,h1,h2,h3⟩
   ·exact TC.elim
  ·rintro⟨v,id,r,h1,h2,h3⟩
   exact⟨v,some (id,r),h1,h2,by rw [WY];exact h3⟩
 simp only [if_neg hm]
 generalize hA:aS f fo=A
 have e1:(args.toList.map fun x=>pz (eN .any ops k aN rows) (aS f x))=(args.toList.map (aS f)).map (pz (eN .any ops k aN rows)):=by rw [List.map_map];rfl
 have e2:(args.toList.flatMap fun x=>eB (aS f x))=(args.toList.map (aS f)).flatMap eB:=by rw [List.flatMap_map]
 have e3:∀v,(args.toList.flatMap fun x=>eB (aS f x)) = []→app k ⟨d, .call { callee:=.value fo,args:=args,argTypes:=ts },ty,pos,af,none⟩ true v none ⟨f,rows,bS,aN⟩=⟨put f d v,rows,bS,aN⟩:=fun v h=>fZ (W7 h)
 rw [e1]
 cases A with
 | fn g caps =>
  apply propext
  constructor
  ·rintro⟨v,u,⟨rfl,⟨h1,h2⟩,h3⟩,_,h4⟩;rw [e3 v h3]at h4;exact⟨⟨h1,by rw [←e2];exact h3⟩,v,h2,h4⟩
  ·rintro⟨⟨h1,h3⟩,v,h2,h4⟩;rw [←e2]at h3;exact⟨v,none,⟨rfl,⟨h1,h2⟩,h3⟩,trivial,by rw [e3 v h3];exact h4⟩
 | _=>simp
theorem UB{g:FuncId}{args:Array Operand}{ts:Array TypeId}(hw:E.writes g=true):aQ E ops clk k (⟨d, .call { callee:=.value (.func g),args:=args,argTypes:=ts },ty,pos,af,none⟩::os) K ⟨f,rows,bS,aN⟩ =
  ∃e n els,((args.toList.map (aS f)).all dI=true∧mT E.P g (args.toList.map (aS f)) e n els∧AO .any ops k (d.getD 0) bS)∧aQ E ops (clk+1) (k+1) os K ⟨put f d (.own (d.getD 0) clk 0 els.length),eC rows (d.getD 0) (some ⟨clk,e,n,els⟩),bS,oL k (d.getD 0) aN⟩:=by
 have WY:(args.toList.map (aS f)).all dI=true → ∀ {v e' r0},app k ⟨d, .call { callee:=.value (.func g),args:=args,argTypes:=ts },ty,pos,af,none⟩ true v (some (e',r0)) ⟨f,rows,bS,aN⟩=⟨put f d v,eC rows e' (some r0),bS,oL k e' aN⟩:=fun hp=>xB (by simp only [iW];exact W8 hp)
 simp only [aQ,yn,jK]
 rw [if_pos hw]
 simp only [if_pos hw]
 apply propext
 constructor
 ·rintro⟨v,u,⟨h1,e,n,els,h2,rfl,rfl⟩,h3,h4⟩
  rw [WY h1]at h4
  exact⟨e,n,els,⟨h1,h2,h3⟩,h4⟩
 ·rintro⟨e,n,els,⟨h1,h2,h3⟩,h4⟩
  refine⟨_,_,⟨h1,e,n,els,h2,rfl,rfl⟩,h3,?_⟩
  rw [WY h1];exact h4
@[simp] theorem at3{md:Region.Mode}{ops:List Oper}{j:Nat}{rows:Rows}:eN md ops j (fun _ _=>False) rows=rows:=by
 funext id;simp [eN]
@[simp] theorem at4{md:Region.Mode}{ops:List Oper}{j k id:Nat}{w:Nat→Nat→Prop}{rows:Rows}:eN md ops j (oL k id w) rows=if rU md ops j k=true then eN md ops j w rows else eC (eN md ops j w rows) id none:=by
 funext x
 unfold eN oL
 by_cases hd:rU md ops j k=true
 ·rw [if_pos hd]
  have:(∃k',((k'=k∧x=id)∨w k' x)∧rU md ops j k'=false) ↔ ∃k',w k' x∧rU md ops j k'=false:=by
   constructor
   ·rintro⟨k',⟨rfl,_⟩ | h,h2⟩
    ·rw [hd]at h2;cases h2
    ·exact⟨k',h,h2⟩
   ·rintro⟨k',h,h2⟩;exact⟨k', .inr h,h2⟩
  exact(by classical exact ite_congr (propext this) (fun _=>rfl) (fun _=>rfl))
 ·rw [if_neg hd]
  have hd':rU md ops j k=false:=by simpa using hd
  simp only [eC]
  by_cases hx:x=id
  ·rw [if_pos hx,if_pos ⟨k, .inl ⟨rfl,hx⟩,hd'⟩]
  ·rw [if_neg hx]
   have:(∃k',((k'=k∧x=id)∨w k' x)∧rU md ops j k'=false) ↔ ∃k',w k' x∧rU md ops j k'=false:=by
    constructor
    ·rintro⟨k',⟨_,h⟩ | h,h2⟩
     ·exact absurd h hx
     ·exact⟨k',h,h2⟩
    ·rintro⟨k',h,h2⟩;exact⟨k', .inr h,h2⟩
   exact(by classical exact ite_congr (propext this) (fun _=>rfl) (fun _=>rfl))
@[simp] theorem ayk{md:Region.Mode}{ops:List Oper}{i id:Nat}:AO md ops i id (fun _ _=>False)=True:=by simp [AO]
@[simp] theorem ayl{md:Region.Mode}{ops:List Oper}{i id k:Nat}{l:List Nat}{t:Nat→Nat→Prop}:AO md ops i id (jL k l t)=((id∈l→rU md ops i k=true)∧AO md ops i id t):=by
 apply propext
 unfold AO jL
 constructor
 ·intro h;exact⟨fun hi=>h k (.inl ⟨rfl,rfl,hi⟩),fun k' hk=>h k' (.inr hk)⟩
 ·rintro⟨h1,h2⟩ k' (⟨_,rfl,h⟩ | h)
  ·exact h1 h
  ·exact h2 k' h
end
end Pm
