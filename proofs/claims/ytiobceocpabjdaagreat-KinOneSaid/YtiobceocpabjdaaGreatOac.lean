import Derived.StillTail
import Derived.Deep.LoopGhost
import Derived.Test.YtiobceocpabjdaaGreatOab
set_option linter.unusedSimpArgs false
set_option linter.unusedVariables false
namespace Pm
open Go Go.RowKit
def mD(P:Program)(f:FuncId)(args:List PV)(e:TypeId)(n:Nat)(els:List (List PV)):Prop:=
 (∃fn c,P.funcs[f]? = some fn∧fn.body=some c∧(fn.name == "runtime.NumGoroutine")=false) ∧
 ∀(w:World) (S:dZ) (vs:List Value),(∀b o,S b o→b<w.heap.size)→bP S w args vs →
  Calls P f vs.toArray w fun x w'=>∃(v:Value) (xs:List Value) (S':dZ),x = .returned v∧Below w.heap.size w w'∧(∀b o,S b o→S' b o)∧(∀b o,S' b o→S b o∨(w.heap.size≤b∧b<w'.heap.size)) ∧
   w'.ownsRow w.heap.size e n v els.length xs∧bC (dE S' w') els.flatten xs∧(∀y∈xs,y.oneCell'=true)∧(∀x∈els,x.length=n)∧0<n∧(∀g o,v.ownBlock=some g→¬S' g o)
def LW(md:Region.Mode)(ops:List Oper):Nat→Nat→Nat→Bool
 | 0,_,_=>false
 | f+1,j,k=>match ops[j]? with
  | some o=>o.after.toList.any fun e=>Region.binds md e&&(e.on==k || LW md ops f e.on k)
  | none=>false
def q9(md:Region.Mode)(ops:List Oper)(j k:Nat):Bool:=LW md ops 12 j k
structure ST where
 f:Nat→PV
 rows:Rows
 bQ:Nat→Nat→Prop
 wl:Nat→Nat→Prop
def dS(E:Env):Op→Bool
 | .alloc _=>true
 | .box _ _=>true
 | .makeSlice _ _ _=>true
 | .call { callee:=.builtin .append,args:=⟨[_,_]⟩,argTypes:=⟨[_,_]⟩ }=>true
 | .call { callee:=.value (.func g),args:=_,argTypes:=_ }=>E.writes g
 | _=>false
def uN(E:Env)(ops:List Oper):Bool:=ops.all fun o => !dS E o.op || (o.dst.isSome&&o.guard.isNone)
def rk(E:Env)(ops:List Oper)(i:Nat):Nat:=((ops.take i).filter fun o=>dS E o.op).length
theorem UR{E:Env}{ops:List Oper}{i:Nat}{o:Oper}(h:ops[i]? = some o):rk E ops (i+1)=rk E ops i+if dS E o.op=true then 1 else 0:=by
 unfold rk
 rw [List.take_add_one,h]
 simp only [Option.toList_some,List.filter_append,List.length_append]
 congr 1
 cases hn:dS E o.op<;>simp [hn]
theorem af3{E:Env}{ops:List Oper}{i j:Nat}(h:i≤j):rk E ops i≤rk E ops j:=by
 unfold rk
 have:(ops.take i).Sublist (ops.take j):=by
  have:=List.take_sublist i (ops.take j)
  rwa [List.take_take,Nat.min_eq_left h]at this
 exact(this.filter _).length_le
theorem abv{E:Env}{ops:List Oper}{i j:Nat}{o:Oper}(h:ops[i]? = some o)(hn:dS E o.op=true)(hij:i<j):rk E ops i<rk E ops j:=by
 have h1:=UR (E:=E) h
 rw [if_pos hn]at h1
 have:=af3 (E:=E) (ops:=ops) (show i+1≤j from hij)
 omega
theorem alw{E:Env}{ops:List Oper}{i j:Nat}{o o':Oper}(h:ops[i]? = some o)(hn:dS E o.op=true)(h':ops[j]? = some o')(AA:dS E o'.op=true)(he:rk E ops i=rk E ops j):i=j:=by
 rcases Nat.lt_trichotomy i j with h1 | h1 | h1
 ·have:=abv h hn h1;omega
 ·exact h1
 ·have:=abv h' AA h1;omega
def uA(t:TI)(rows:Rows)(x y:PV)(c0 d:Nat)(v:PV)(u:Option (Nat × Row)):Prop:=
 match t with
 | .slice e n b _=>∃l,rO rows y l∧(∀e∈l,e.length=n) ∧
  match x with
  | .nil=>l.length≤room∧l.length*b≤room∧v = .own d c0 0 l.length∧u=some (d,⟨c0,e,n,l⟩)
  | .own id ver off len=>∃r,rows id=some r∧r.ver=ver∧off=0∧len≤r.els.length∧r.e=e∧r.size=n∧len+l.length≤room∧(len+l.length)*b≤room ∧
    v = .own id c0 0 (len+l.length)∧u=some (id,⟨c0,e,n,r.els.take len++l⟩)
  | .iR l0=>(∀e∈l0,e.length=n)∧(∀e∈l,∀p∈e,bI p=true)∧l0.length+l.length≤room∧(l0.length+l.length)*b≤room∧v = .sl (l0++l)∧u=none
  | _=>False
 | _=>False
def ai2(E:Env)(g:FuncId)(args:List PV)(c0 d:Nat)(v:PV)(u:Option (Nat × Row)):Prop:=
 args.all dA=true ∧ ∃e n els,mD E.P g args e n els∧v = .own d c0 0 els.length∧u=some (d,⟨c0,e,n,els⟩)
def yn(E:Env)(c0:Nat)(d:Option Tmp)(op:Op)(ρ:Operand→PV)(rows:Rows)(v:PV)(u:Option (Nat × Row)):Prop:=
 match op with
 | .alloc t=>(E.ty t).known=true∧v = .ptr (d.getD 0) c0 0 0∧u=some (d.getD 0,⟨c0,t,(E.ty t).size,[(E.ty t).zero]⟩)
 | .box t x=>(E.ty t).known=true ∧ ∃l,cE (ρ x)=some l∧(∀q∈l,iT (fun _=>none) q)∧l.length=(E.ty t).size∧v = .ptr (d.getD 0) c0 0 0∧u=some (d.getD 0,⟨c0,t,(E.ty t).size,[l]⟩)
 | .makeSlice t l c =>
  match E.ty t,ρ l,ρ c with
  | .slice e n b z, .int _ x, .int _ y=>0≤x∧x≤y∧y.toNat≤room∧y.toNat*b≤room∧v = .own (d.getD 0) c0 0 x.toNat∧u=some (d.getD 0,⟨c0,e,n,List.replicate x.toNat z⟩)
  | _,_,_=>False
 | .call { callee:=.builtin .append,args:=⟨[x,y]⟩,argTypes:=⟨[t,t2]⟩ }=>(t2=t∨slT (E.ty t2)=true)∧uA (E.ty t) rows (ρ x) (ρ y) c0 (d.getD 0) v u
 | .call { callee:=.value (.func g),args:=aHR,argTypes:=ts }=>if E.writes g=true then ai2 E g (aHR.toList.map fun x=>ρ x) c0 (d.getD 0) v u else ys E (.call { callee:=.value (.func g),args:=aHR,argTypes:=ts }) ρ rows v u
 | op=>ys E op ρ rows v u
theorem B6{E:Env}{c0:Nat}{d:Option Tmp}{op:Op}{ρ:Operand→PV}{rows:Rows}{v:PV}{u:Option (Nat × Row)}(h:dS E op=false):yn E c0 d op ρ rows v u=ys E op ρ rows v u:=by
 unfold yn
 split
 all_goals first
  | rfl
  | (simp [dS]at h;done)
  | (simp only [dS]at h;rw [if_neg (by rw [h];decide)])
theorem n7{E:Env}{op:Op}{C:Prop}(h:dS E op=true)(h1:∀t,op = .alloc t→C)(h2:∀t x,op = .box t x→C)(h3:∀t l c,op = .makeSlice t l c→C)
  (h4:∀x y t t2,op = .call { callee:=.builtin .append,args:=⟨[x,y]⟩,argTypes:=⟨[t,t2]⟩ }→C) (h5:∀g aHR ts,op = .call { callee:=.value (.func g),args:=aHR,argTypes:=ts }→E.writes g=true→C):C:=by
 unfold dS at h
 split at h
 ·exact h1 _ rfl
 ·exact h2 _ _ rfl
 ·exact h3 _ _ _ rfl
 ·exact h4 _ _ _ _ rfl
 ·exact h5 _ _ _ rfl h
 ·cases h
theorem abw{t:TI}{rows rows':Rows}{x y v:PV}{c0 d:Nat}{u:Option (Nat × Row)}(h:jS (aU x++aU y) rows rows')(hy:uA t rows x y c0 d v u):uA t rows' x y c0 d v u ∧ ∀id∈aU x++aU y,∃r,rows id=some r:=by
 unfold uA at *
 cases t with
 | slice e n b z =>
  obtain⟨l,h1,h2,h3⟩:=hy
  obtain⟨g1,g2⟩:=UQ (fun id gD=>h id (by simp only [List.mem_append];exact .inr gD)) h1
  cases x with
  | nil=>exact⟨⟨l,g1,h2,h3⟩,fun id gD=>g2 id (by simpa [aU]using gD)⟩
  | iR l0=>exact⟨⟨l,g1,h2,h3⟩,fun id gD=>g2 id (by simpa [aU]using gD)⟩
  | own id ver off len =>
   obtain⟨r,hr,hh⟩:=h3
   refine⟨⟨l,g1,h2,r,h id (by simp [aU]) r hr,hh⟩,fun i9 gD=>?_⟩
   simp only [aU,List.mem_append,List.mem_cons,List.not_mem_nil,or_false]at gD
   rcases gD with rfl | gD
   ·exact⟨r,hr⟩
   ·exact g2 i9 gD
  | _=>exact h3.elim
 | _=>exact hy.elim
theorem US{E:Env}{c0:Nat}{d:Option Tmp}{op:Op}{ρ:Operand→PV}{rows rows':Rows}{v:PV}{u:Option (Nat × Row)}(h:jS (iF op ρ) rows rows')(hy:yn E c0 d op ρ rows v u) :
  yn E c0 d op ρ rows' v u∧(∀id∈iF op ρ,∃r,rows id=some r) ∧ ∀id r,u=some (id,r)→(dS E op=true∧id=d.getD 0)∨id∈iF op ρ:=by
 cases hn:dS E op with
 | false =>
  rw [B6 hn]at hy ⊢
  obtain⟨h1,h2,h3⟩:=ai1 h hy
  exact⟨h1,h2,fun id r hu => .inr (h3 id r hu)⟩
 | true =>
  refine n7 hn ?_ ?_ ?_ ?_ ?_
  ·rintro t rfl
   refine⟨hy,by simp [iF],fun id r hu => .inl ⟨by first | trivial | rfl,?_⟩⟩
   obtain⟨_,_,rfl⟩:=hy
   simp at hu;exact hu.1.symm
  ·rintro t x rfl
   refine⟨hy,by simp [iF],fun id r hu => .inl ⟨by first | trivial | rfl,?_⟩⟩
   obtain⟨_,_,_,_,_,_,rfl⟩:=hy
   simp at hu;exact hu.1.symm
  ·rintro t l c rfl
   refine⟨hy,by simp [iF],fun id r hu => .inl ⟨by first | trivial | rfl,?_⟩⟩
   simp only [yn]at hy
   split at hy
   ·obtain⟨_,_,_,_,_,rfl⟩:=hy
    simp at hu;exact hu.1.symm
   ·exact hy.elim
  ·rintro x y t t2 rfl
   simp only [yn,iF]at hy h ⊢
   obtain⟨h2,h3⟩:=hy
   obtain⟨g1,g2⟩:=abw h h3
   refine⟨⟨h2,g1⟩,g2,fun id r hu=>?_⟩
   unfold uA at h3
   split at h3
   ·obtain⟨l,_,_,h3⟩:=h3
    split at h3
    ·obtain⟨_,_,_,rfl⟩:=h3
     simp at hu;exact .inl ⟨by first | trivial | rfl,hu.1.symm⟩
    ·rename_i hx
     obtain⟨_,_,_,_,_,_,_,_,_,_,rfl⟩:=h3
     simp at hu
     rw [hx]
     exact .inr (by simp [aU,hu.1])
    ·obtain⟨_,_,_,_,_,rfl⟩:=h3
     cases hu
    ·exact h3.elim
   ·exact h3.elim
  ·rintro g aHR ts rfl hw
   simp only [yn]at hy ⊢
   rw [if_pos hw]at hy
   rw [if_pos hw]
   refine⟨hy,by simp only [iF];rw [UP hy.1];simp,fun id r hu => .inl ⟨by first | trivial | exact hw,?_⟩⟩
   obtain⟨_,_,_,_,_,_,rfl⟩:=hy
   simp at hu;exact hu.1.symm
open Classical in
noncomputable def eD(md:Region.Mode)(ops:List Oper)(j:Nat)(wl:Nat→Nat→Prop)(rows:Rows):Rows:=fun id=>if ∃k,wl k id∧q9 md ops j k=false then none else rows id
theorem lM{md:Region.Mode}{ops:List Oper}{j id:Nat}{wl:Nat→Nat→Prop}{rows:Rows}{r:Row}:eD md ops j wl rows id=some r↔(∀k,wl k id→q9 md ops j k=true)∧rows id=some r:=by
 unfold eD
 split
 ·rename_i h
  obtain⟨k,h1,h2⟩:=h
  simp only [reduceCtorEq,false_iff,not_and]
  intro h3
  rw [h3 k h1]at h2;cases h2
 ·rename_i h
  refine⟨fun h2=>⟨fun k hk=>?_,h2⟩,fun h2=>h2.2⟩
  cases hd:q9 md ops j k with
  | true=>rfl
  | false=>exact absurd ⟨k,hk,hd⟩ h
def y7(md:Region.Mode)(ops:List Oper)(i id:Nat)(bQ:Nat→Nat→Prop):Prop:=∀k,bQ k id→q9 md ops i k=true
def LX(md:Region.Mode)(ops:List Oper)(i:Nat)(u:Option (Nat × Row))(bQ:Nat→Nat→Prop):Prop:=
 match u with
 | none=>True
 | some (id,_)=>y7 md ops i id bQ
def gOK(ops:Array Oper)(o:Oper)(f:Nat→PV)(b:Bool):Prop:=
 match o.guard with
 | none=>b=true
 | some (j,want)=>∃d,(ops[j]?).bind (·.dst)=some d∧((f d = .bool want∧b=true)∨((f d = .bool (!want)∨f d = .dU [])∧b=false))
def YG(E:Env)(md:Region.Mode)(ops:Array Oper)(c0:Nat)(i:Nat)(o:Oper)(b:Bool)(v:PV)(u:Option (Nat × Row))(st:ST):Prop:=
 gOK ops o st.f b∧if b=true then yn E (c0+rk E ops.toList i) o.dst o.op (aP st.f) (eD md ops.toList i st.wl st.rows) v u else v = .dU []∧u=none
def wlU(i:Nat)(u:Option (Nat × Row))(wl:Nat→Nat→Prop):Nat→Nat→Prop:=
 match u with
 | none=>wl
 | some (id,_)=>fun k i9=>(k=i∧i9=id)∨wl k i9
def app(i:Nat)(o:Oper)(b:Bool)(v:PV)(u:Option (Nat × Row))(st:ST):ST:=
 { f:=put st.f o.dst v,rows:=eF st.rows u,bQ:=fun k id=>(b=true∧k=i∧id∈iF o.op (aP st.f))∨st.bQ k id,wl:=wlU i u st.wl }
def i5(E:Env)(op:Op)(clk:Nat):Nat:=
 match op with
 | .alloc _=>clk+1
 | .box _ _=>clk+1
 | .makeSlice _ _ _=>clk+1
 | .call { callee:=.builtin .append,args:=⟨[_,_]⟩,argTypes:=⟨[_,_]⟩ }=>clk+1
 | .call { callee:=.value (.func g),args:=_,argTypes:=_ }=>if E.writes g=true then clk+1 else clk
 | _=>clk
theorem B7{E:Env}{op:Op}{clk:Nat}(h:dS E op=false):i5 E op clk=clk:=by
 unfold i5
 split
 all_goals first
  | rfl
  | (simp [dS]at h;done)
  | (simp only [dS]at h;rw [if_neg (by rw [h];decide)])
theorem abx{E:Env}{op:Op}{clk:Nat}(h:dS E op=true):i5 E op clk=clk+1:=by
 refine n7 h ?_ ?_ ?_ ?_ ?_
 ·rintro t rfl;rfl
 ·rintro t x rfl;rfl
 ·rintro t l c rfl;rfl
 ·rintro x y t t2 rfl;rfl
 ·rintro g aHR ts rfl hw;simp only [i5];rw [if_pos hw]
theorem af5{E:Env}{ops:List Oper}{i c0:Nat}{o:Oper}(h:ops[i]? = some o):i5 E o.op (c0+rk E ops i)=c0+rk E ops (i+1):=by
 rw [UR h]
 cases hn:dS E o.op with
 | false=>rw [B7 hn];simp
 | true=>rw [abx hn];simp;omega
def qOp(E:Env)(md:Region.Mode)(ops:Array Oper)(c0:Nat)(i:Nat)(K:ST→Prop)(st:ST):Prop:=
 match ops[i]? with
 | none=>K st
 | some o=>∃b v u,YG E md ops c0 i o b v u st∧LX md ops.toList i u st.bQ∧K (app i o b v u st)
section
variable {E:Env} {ops:Array Oper} {md:Region.Mode}
theorem abz{c0 i:Nat}{K K':ST→Prop}{st:ST}(h:∀st,K st→K' st)(hh:qOp E md ops c0 i K st):qOp E md ops c0 i K' st:=by
 unfold qOp at *
 split
 ·exact h _ (by simpa [*]using hh)
 ·rename_i o ho
  simp only [ho]at hh
  obtain⟨b,v,u,h1,h2,h3⟩:=hh
  exact⟨b,v,u,h1,h2,h _ h3⟩
theorem UT{f:Nat→PV}{d:Option Tmp}{v:PV}{x:Operand}(h:∀t,d=some t→x ≠ .tmp t):aP (put f d v) x=aP f x:=by
 cases d with
 | none=>rfl
 | some t =>
  cases x with
  | tmp s =>
   have:s≠t:=fun e=>h t rfl (by rw [e])
   simp [aP,put,this]
  | _=>rfl
theorem abA{op:Op}{ρ ρ':Operand→PV}{rows:Rows}{v:PV}{u:Option (Nat × Row)}(h:∀x∈op.operands,ρ x=ρ' x):ys E op ρ rows v u↔ys E op ρ' rows v u:=by
 have parts:∀ps:Array (Nat × Operand),(∀x∈(ps.toList.map (·.2)).toArray,ρ x=ρ' x)→(ps.toList.map fun x=>(x.1,ρ x.2))=ps.toList.map fun x=>(x.1,ρ' x.2):=fun ps hp =>
  List.map_congr_left fun p hm=>by rw [hp p.2 (by simp;exact⟨p.1,by simpa using hm⟩)]
 have args:∀(c:Call),(∀x∈c.operands,ρ x=ρ' x) → ∀x∈c.args.toList,ρ x=ρ' x:=fun c hc x hx=>hc x (by simp [Call.operands];exact .inr (by simpa using hx))
 unfold ys
 split
 ·rename_i x y t t2
  rw [h x (by simp [Op.operands,Call.operands]),h y (by simp [Op.operands,Call.operands])]
 ·rename_i t p x
  rw [h p (by simp [Op.operands]),h x (by simp [Op.operands])]
 ·rename_i t len ps
  rw [parts ps (by simpa [Op.operands]using h)]
 ·rename_i f aHR ts
  have ha:=args _ (by simpa [Op.operands]using h)
  simp only at ha
  have e1:(aHR.toList.map fun x=>pz rows (ρ x))=aHR.toList.map fun x=>pz rows (ρ' x):=List.map_congr_left fun x hx=>by rw [ha x hx]
  have e2:(aHR.toList.map fun x=>ρ x)=aHR.toList.map fun x=>ρ' x:=List.map_congr_left fun x hx=>ha x hx
  rw [h f (by simp [Op.operands,Call.operands]),e1,e2]
  have:(aHR.toList.flatMap fun x=>dV (ρ x))=aHR.toList.flatMap fun x=>dV (ρ' x):=by
   rw [List.flatMap_def,List.flatMap_def]
   congr 1
   exact List.map_congr_left fun x hx=>by rw [ha x hx]
  rw [this]
 ·suffices hs:yv E op ρ rows v↔yv E op ρ' rows v by rw [hs]
  unfold yv
  split
  case h_12 =>
   rename_i t x lo hi mx _ _ _ _
   have o1:∀y:Option Operand,(∀z,y=some z→ρ z=ρ' z)→y.map ρ=y.map ρ':=by
    intro y hy;cases y with
    | none=>rfl
    | some z=>simp [hy z rfl]
   rw [h x (by simp [Op.operands]),o1 lo fun z hz=>h z (by subst hz;simp [Op.operands]),o1 hi fun z hz=>h z (by subst hz;simp [Op.operands]),o1 mx fun z hz=>h z (by subst hz;simp [Op.operands])]
  case h_13=>rename_i t ps _ _ _ _;rw [parts ps (by simpa [Op.operands]using h)]
  case h_15 =>
   rename_i f caps _ _ _ _
   rw [List.map_congr_left (l:=caps.toList) (f:=fun x=>ρ x) (g:=fun x=>ρ' x) fun x hx=>h x (by simp [Op.operands];simpa using hx)]
  all_goals first
   | rfl
   | (simp only [Op.operands,Call.operands]at h;simp [h])
theorem B8{op:Op}{ρ ρ':Operand→PV}(h:∀x∈op.operands,ρ x=ρ' x):iF op ρ=iF op ρ':=by
 unfold iF
 split
 all_goals first
  | rfl
  | (rw [List.flatMap_def,List.flatMap_def];congr 1;exact List.map_congr_left fun x hx=>by rw [h x (by simp [Op.operands,Call.operands];exact .inr (by simpa using hx))])
  | (simp only [Op.operands,Call.operands]at h;simp [h])
theorem LY{c0:Nat}{d:Option Tmp}{op:Op}{ρ ρ':Operand→PV}{rows:Rows}{v:PV}{u:Option (Nat × Row)}(h:∀x∈op.operands,ρ x=ρ' x):yn E c0 d op ρ rows v u↔yn E c0 d op ρ' rows v u:=by
 cases hn:dS E op with
 | false=>rw [B6 hn,B6 hn];exact abA h
 | true =>
  refine n7 hn ?_ ?_ ?_ ?_ ?_
  ·rintro t rfl;exact Iff.rfl
  ·rintro t x rfl
   simp only [yn]
   rw [h x (by simp [Op.operands])]
  ·rintro t l c rfl
   simp only [yn]
   rw [h l (by simp [Op.operands]),h c (by simp [Op.operands])]
  ·rintro x y t t2 rfl
   simp only [yn]
   rw [h x (by simp [Op.operands,Call.operands]),h y (by simp [Op.operands,Call.operands])]
  ·rintro g aHR ts rfl hw
   simp only [yn]
   rw [if_pos hw,if_pos hw,List.map_congr_left (l:=aHR.toList) (f:=fun x=>ρ x) (g:=fun x=>ρ' x) fun x hx=>h x (by simp [Op.operands,Call.operands];exact .inr (by simpa using hx))]
theorem LZ{o:Oper}{d:Tmp}{x:Operand}(h:d ∉ o.looksAt ops)(hx:x∈o.op.operands):x ≠ .tmp d:=by
 rintro rfl
 exact h (List.mem_append_left _ (List.mem_filterMap.2 ⟨.tmp d,by simpa using hx,rfl⟩))
theorem QZ{c:Cx}:aG c (.dU []) undef:=by
 show dE c.S c.w (.dU []) undef
 simp only [dE]
 exact⟨[],rfl,rfl⟩
theorem iU{c:Cx}{tmps:Array Value}{j:Nat}{d:Tmp}{t:Bool}(h1:(ops[j]?).bind (·.dst)=some d)(h:aG c (.bool t) (tmps.getD d undef)):yielded ops tmps j=some t:=by
 rw [dH]at h
 unfold yielded
 rw [h1]
 simp only [Option.bind_some]
 cases hx:tmps[d]? with
 | none=>simp [hx]at h;cases h
 | some y =>
  have hy:y = .bool t:=by simpa [hx]using h
  rw [hy]
theorem uO{c:Cx}{tmps:Array Value}{j:Nat}{d:Tmp}(h1:(ops[j]?).bind (·.dst)=some d)(h:aG c (.dU []) (tmps.getD d undef)):yielded ops tmps j=none:=by
 have h2:tmps.getD d undef = .tuple #[]:=by
  have h3:dE c.S c.w (.dU []) (tmps.getD d undef):=h
  simp only [dE]at h3
  obtain⟨vs,h4,h5⟩:=h3
  simp only [bP]at h5
  rw [h4,h5]
 unfold yielded
 rw [h1]
 simp only [Option.bind_some]
 cases hx:tmps[d]? with
 | none=>rfl
 | some y =>
  have hy:y = .tuple #[]:=by simpa [hx]using h2
  rw [hy]
theorem UU{o:Oper}{f:Nat→PV}{dd:Option Tmp}{v:PV}{b:Bool}(h:∀d,dd=some d→d ∉ o.looksAt ops):gOK ops o (put f dd v) b↔gOK ops o f b:=by
 unfold gOK
 cases hg:o.guard with
 | none=>rfl
 | some g =>
  obtain⟨j,want⟩:=g
  simp only
  have key:∀d,(ops[j]?).bind (·.dst)=some d→put f dd v d=f d:=by
   intro d h1
   cases dd with
   | none=>rfl
   | some e =>
    have mZ:d≠e:=by
     rintro rfl
     exact h d rfl (List.mem_append_right _ (by simp [hg,h1]))
    simp [put,mZ]
  constructor
  ·rintro⟨d,h1,h2⟩
   rw [key d h1]at h2
   exact⟨d,h1,h2⟩
  ·rintro⟨d,h1,h2⟩
   rw [←key d h1]at h2
   exact⟨d,h1,h2⟩
theorem put_comm{f:Nat→PV}{x y:Option Tmp}{v u:PV}(h:∀d,x=some d→y≠some d):put (put f x v) y u=put (put f y u) x v:=by
 cases x with
 | none=>rfl
 | some d =>
  cases y with
  | none=>rfl
  | some e =>
   have mZ:d≠e:=fun he=>h d rfl (by rw [he])
   funext j
   simp only [put]
   split<;>split<;>simp_all
theorem B9{rows:Rows}{u:Option (Nat × Row)}{j:Nat}(h:∀r,u≠some (j,r)):eF rows u j=rows j:=by
 cases u with
 | none=>rfl
 | some x =>
  obtain⟨i,r⟩:=x
  simp only [eF,dW]
  rw [if_neg]
  rintro rfl
  exact h r rfl
theorem p9{i:Nat}{u:Option (Nat × Row)}{wl:Nat→Nat→Prop}{k id:Nat}:wlU i u wl k id↔(k=i ∧ ∃r,u=some (id,r))∨wl k id:=by
 cases u with
 | none=>simp [wlU]
 | some x =>
  obtain⟨i9,r⟩:=x
  simp only [wlU,Option.some.injEq,Prod.mk.injEq]
  constructor
  ·rintro(⟨h1,h2⟩ | h)
   ·exact .inl ⟨h1,r,h2.symm,rfl⟩
   ·exact .inr h
  ·rintro(⟨h1,r',h2,_⟩ | h)
   ·exact .inl ⟨h1,h2.symm⟩
   ·exact .inr h
theorem ID{i:Nat}{u:Option (Nat × Row)}{bQ:Nat→Nat→Prop}:LX md ops.toList i u bQ ↔ ∀id r,u=some (id,r) → ∀k,bQ k id→q9 md ops.toList i k=true:=by
 cases u with
 | none=>simp [LX]
 | some x =>
  obtain⟨i9,r⟩:=x
  simp only [LX,y7,Option.some.injEq,Prod.mk.injEq]
  constructor
  ·rintro h _ _ ⟨rfl,_⟩;exact h
  ·intro h;exact h _ _ ⟨rfl,rfl⟩
theorem af6{c0 i j:Nat}{oi oj:Oper}{bi:Bool}{vi:PV}{ui:Option (Nat × Row)}(hj:ops[j]? = some oj)(UI:oi.apart ops oj=true)(hds:dS E oi.op=true→oi.dst.isSome=true)(ax2:dS E oj.op=true→oj.dst.isSome=true)(hdj:q9 md ops.toList j i=false){K:ST→Prop}{st:ST}
  (hy:YG E md ops c0 i oi bi vi ui st) (ho:LX md ops.toList i ui st.bQ) (h:qOp E md ops c0 j K (app i oi bi vi ui st)) :
  qOp E md ops c0 j (fun UW=>YG E md ops c0 i oi bi vi ui UW∧LX md ops.toList i ui UW.bQ∧K (app i oi bi vi ui UW)) st:=by
 obtain⟨h1,h2,h3⟩:=Oper.apart_spec UI
 unfold qOp at h ⊢
 simp only [hj]at h ⊢
 obtain⟨bj,vj,uj,⟨hgj,hyj⟩,hoj,hK⟩:=h
 obtain⟨hgi,X7⟩:=hy
 rw [ID]at hoj ho
 have ej:∀x∈oj.op.operands,aP (put st.f oi.dst vi) x=aP st.f x:=fun x hx=>UT fun t ht=>LZ (h1 t ht) hx
 have ei:∀x∈oi.op.operands,aP (put st.f oj.dst vj) x=aP st.f x:=fun x hx=>UT fun t ht=>LZ (h3 t ht) hx
 have ax3:gOK ops oj st.f bj:=(UU h1).1 hgj
 have hnw:∀id r,eD md ops.toList j (app i oi bi vi ui st).wl (app i oi bi vi ui st).rows id=some r → ∀r',ui≠some (id,r'):=by
  intro id r hr r' hu
  obtain⟨hw,_⟩:=lM.1 hr
  have:=hw i (p9.2 (.inl ⟨rfl,r',hu⟩))
  rw [hdj]at this;cases this
 have hle:∀ids,jS ids (eD md ops.toList j (app i oi bi vi ui st).wl (app i oi bi vi ui st).rows) (eD md ops.toList j st.wl st.rows):=by
  intro ids id _ r hr
  have hn:=hnw id r hr
  obtain⟨hw,kF⟩:=lM.1 hr
  simp only [app]at kF hw
  rw [B9 hn]at kF
  exact lM.2 ⟨fun k hk=>hw k (p9.2 (.inr hk)),kF⟩
 have ax4:(if bj=true then yn E (c0+rk E ops.toList j) oj.dst oj.op (aP st.f) (eD md ops.toList j st.wl st.rows) vj uj else vj = .dU []∧uj=none) ∧
   (bj=true → ∀id∈iF oj.op (aP st.f),∃r,eD md ops.toList j (app i oi bi vi ui st).wl (app i oi bi vi ui st).rows id=some r)∧(∀id r,uj=some (id,r)→bj=true∧((dS E oj.op=true∧id=oj.dst.getD 0)∨id∈iF oj.op (aP st.f))):=by
  by_cases hb:bj=true
  ·rw [if_pos hb]at hyj ⊢
   have af7:=(LY ej).1 hyj
   obtain⟨g1,g2,g3⟩:=US (hle _) af7
   exact⟨g1,fun _=>g2,fun id r hu=>⟨hb,g3 id r hu⟩⟩
  ·rw [if_neg hb]at hyj ⊢
   exact⟨hyj,fun h=>absurd h hb,fun id r hu=>by rw [hyj.2]at hu;cases hu⟩
 obtain⟨ax5,af7,ax6⟩:=ax4
 have ax7:LX md ops.toList j uj st.bQ:=ID.2 fun id r hu k hk=>hoj id r hu k (.inr hk)
 have hfi:∀id r,uj=some (id,r)→¬(bi=true∧id∈iF oi.op (aP st.f)):=by
  intro id r hu hh
  have:=hoj id r hu i (.inl ⟨hh.1,rfl,hh.2⟩)
  rw [hdj]at this;cases this
 have hui:∀id r,ui=some (id,r)→bi=true∧((dS E oi.op=true∧id=oi.dst.getD 0)∨id∈iF oi.op (aP st.f)):=by
  intro id r hu
  by_cases hb:bi=true
  ·rw [if_pos hb]at X7
   exact⟨hb,(US (rows':=eD md ops.toList i st.wl st.rows) (fun id _ r hr=>hr) X7).2.2 id r hu⟩
  ·rw [if_neg hb]at X7
   rw [X7.2]at hu;cases hu
 have mZ:∀id r r',ui=some (id,r)→uj=some (id,r')→False:=by
  intro id r r' hu1 hu2
  obtain⟨hb,hh⟩:=ax6 id r' hu2
  rcases hh with hh | hh
  ·obtain⟨QY,hh1⟩:=hui id r hu1
   rcases hh1 with hh1 | hh1
   ·obtain⟨d,hd⟩:=Option.isSome_iff_exists.1 (hds hh1.1)
    have e1:id=d:=by rw [hh1.2,hd];rfl
    cases alz:oj.dst with
    | none=>exact absurd alz (fun he=>by have:=ax2 hh.1;rw [he]at this;cases this)
    | some d' =>
     have e2:id=d':=by rw [hh.2,alz];rfl
     exact h2 d hd (by rw [alz,←e2,e1])
   ·exact hfi id r' hu2 ⟨QY,hh1⟩
  ·obtain⟨r'',ax9⟩:=af7 hb id hh
   exact hnw id r'' ax9 r hu1
 have aya:bi=true→jS (iF oi.op (aP st.f)) (eD md ops.toList i st.wl st.rows) (eD md ops.toList i (app j oj bj vj uj st).wl (app j oj bj vj uj st).rows):=by
  intro hb id gD r hr
  obtain⟨hw,kF⟩:=lM.1 hr
  have hn:∀r',uj≠some (id,r'):=fun r' hu=>hfi id r' hu ⟨hb,gD⟩
  refine lM.2 ⟨fun k hk=>?_,?_⟩
  ·rcases p9.1 hk with ⟨_,r',hu⟩ | hk
   ·exact absurd hu (hn r')
   ·exact hw k hk
  ·simp only [app];rw [B9 hn];exact kF
 refine⟨bj,vj,uj,⟨ax3,ax5⟩,ax7,⟨(UU h3).2 hgi,?_⟩,?_,?_⟩
 ·by_cases hb:bi=true
  ·rw [if_pos hb]at X7 ⊢
   refine(LY ei).2 ?_
   exact(US (aya hb) X7).1
  ·rw [if_neg hb]at X7 ⊢;exact X7
 ·-- i's own row has not aEc av5
  rw [ID]
  rintro id r hu k (⟨hb,rfl,hh⟩ | hh)
  ·obtain⟨r',kF⟩:=af7 hb id hh
   exact absurd hu (hnw id r' kF r)
  ·exact ho id r hu k hh
 ·have:app i oi bi vi ui (app j oj bj vj uj st)=app j oj bj vj uj (app i oi bi vi ui st):=by
   simp only [app,ST.mk.injEq]
   refine⟨put_comm fun d hd=>fun hd'=>(h2 d) (by first | exact hd | exact hd') (by first | exact hd' | exact hd),?_,?_,?_⟩
   ·cases ui with
    | none=>rfl
    | some x =>
     cases uj with
     | none=>rfl
     | some y =>
      obtain⟨id,r⟩:=x
      obtain⟨i9,r'⟩:=y
      have:id≠i9:=fun e=>mZ id r r' rfl (by rw [e])
      funext k
      simp only [eF,dW]
      split<;>split<;>simp_all
   ·funext k id
    have e1:iF oi.op (aP (put st.f oj.dst vj))=iF oi.op (aP st.f):=B8 ei
    have e2:iF oj.op (aP (put st.f oi.dst vi))=iF oj.op (aP st.f):=B8 ej
    rw [e1,e2]
    apply propext
    constructor
    ·rintro(h | h | h)
     ·exact .inr (.inl h)
     ·exact .inl h
     ·exact .inr (.inr h)
    ·rintro(h | h | h)
     ·exact .inr (.inl h)
     ·exact .inl h
     ·exact .inr (.inr h)
   ·funext k id
    apply propext
    rw [p9,p9,p9,p9]
    constructor
    ·rintro(h | h | h)
     ·exact .inr (.inl h)
     ·exact .inl h
     ·exact .inr (.inr h)
    ·rintro(h | h | h)
     ·exact .inr (.inl h)
     ·exact .inl h
     ·exact .inr (.inr h)
  rw [this];exact hK
theorem L0{f j k:Nat}:LW md ops.toList (f+1) j k=true ↔ ∃oj,ops[j]? = some oj ∧ ∃e∈oj.after,Region.binds md e=true∧(e.on=k∨LW md ops.toList f e.on k=true):=by
 rw [LW]
 cases h:ops[j]? with
 | none=>simp [show ops.toList[j]? = none by simpa using h]
 | some oj =>
  rw [show ops.toList[j]? = some oj by simpa using h]
  simp only [List.any_eq_true,Bool.and_eq_true,Bool.or_eq_true,beq_iff_eq,Option.some.injEq]
  constructor
  ·rintro⟨e,he,h1,h2⟩;exact⟨oj,rfl,e,by simpa using he,h1,h2⟩
  ·rintro⟨_,rfl,e,he,h1,h2⟩;exact⟨e,by simpa using he,h1,h2⟩
theorem L2{n i:Nat}{aZ:Array Bool}(inv:HeadInv md ops n aZ):∀(f j:Nat) (oj:Oper),ops[j]? = some oj→(∀e∈oj.after,Region.binds md e=true→aZ.getD e.on false=true)→LW md ops.toList f j i=true→aZ.getD i false=true:=by
 intro f
 induction f with
 | zero=>intro j oj _ _ h;rw [LW]at h;cases h
 | succ f ih =>
  intro j oj hj hr h
  obtain⟨o,ho,e,he,h1,h2⟩:=L0.1 h
  rw [hj]at ho;cases ho
  have h3:=hr e he h1
  rcases h2 with rfl | h2
  ·exact h3
  ·cases f with
   | zero=>rw [LW]at h2;cases h2
   | succ f =>
    obtain⟨o',ho',_⟩:=L0.1 h2
    exact ih e.on o' ho' (fun e' rE jX=>inv.closed e.on o' ho' h3 e' rE jX) h2
theorem af8{n j i:Nat}{oj:Oper}{aZ:Array Bool}(hj:ops[j]? = some oj)(inv:HeadInv md ops n aZ)(hr:∀e∈oj.after,Region.binds md e=true→aZ.getD e.on false=true)(UX:aZ.getD i false=false):q9 md ops.toList j i=false:=by
 cases hd:q9 md ops.toList j i with
 | false=>rfl
 | true=>rw [L2 inv 12 j oj hj hr hd]at UX;cases UX
end
section
variable {E:Env} {ops:Array Oper} {md:Region.Mode}
def L3(E:Env)(md:Region.Mode)(ops:Array Oper)(c0 n:Nat)(L:Array Bool→ST→Prop):Nat→Array Bool→ST→Prop
 | 0,aZ,st=>L aZ st
 | f+1,aZ,st=>Region.ready md ops aZ ≠ [] ∧ ∀i∈Region.ready md ops aZ,i<n∧qOp E md ops c0 i (L3 E md ops c0 n L f (aZ.setIfInBounds i true)) st
theorem L4{c0 n i:Nat}{oi:Oper}{b:Bool}{v:PV}{u:Option (Nat × Row)}{L:Array Bool→ST→Prop}(hi:ops[i]? = some oi)(p7:∀i oi,i<n→ops[i]? = some oi→dS E oi.op=true→oi.dst.isSome=true)
  (CA:∀aZ,HeadInv md ops n aZ → ∀i,i<n→aZ.getD i true=false → ∀t,n≤t→t ∉ Region.ready md ops aZ) (hin:i<n)
  (arK:∀aZ st,L aZ st → ∀j∈Region.ready md ops aZ,n≤j) :
  ∀(f:Nat) (aZ:Array Bool) (st:ST),HeadInv md ops n aZ →
   (∀j oj,ops[j]? = some oj→j≠i→aZ.getD j true=false→(∀e∈oj.after,Region.binds md e=true→e.on≠i)→oi.apart ops oj=true) →
   i∈Region.ready md ops aZ→YG E md ops c0 i oi b v u st→LX md ops.toList i u st.bQ →
   L3 E md ops c0 n L f (aZ.setIfInBounds i true) (app i oi b v u st)→L3 E md ops c0 n L (f+1) aZ st:=by
 intro f
 induction f with
 | zero =>
  intro aZ st inv _ hr hy ho H
  have UX:=(mem_ready.1 hr).1
  refine⟨fun h=>(by rw [h]at hr;cases hr),fun j hj=>?_⟩
  have hjn:j<n:=by
   rcases Nat.lt_or_ge j n with h | h
   ·exact h
   ·exact absurd hj (CA aZ inv i hin UX j h)
  refine⟨hjn,?_⟩
  by_cases EY:j=i
  ·subst EY;unfold qOp;simp only [hi];exact⟨b,v,u,hy,ho,H⟩
  ·have:=arK _ _ H j (ready_mono hj EY)
   omega
 | succ f ih =>
  intro aZ st inv ai4 hr hy ho H
  have UX:=(mem_ready.1 hr).1
  refine⟨fun h=>(by rw [h]at hr;cases hr),fun j hj=>?_⟩
  have hjn:j<n:=by
   rcases Nat.lt_or_ge j n with h | h
   ·exact h
   ·exact absurd hj (CA aZ inv i hin UX j h)
  refine⟨hjn,?_⟩
  by_cases EY:j=i
  ·subst EY;unfold qOp;simp only [hi];exact⟨b,v,u,hy,ho,H⟩
  ·have h1:=(H.2 j (ready_mono hj EY)).2
   obtain⟨arM,oj,hoj,uP⟩:=mem_ready.1 hj
   have ayb:∀e∈oj.after,Region.binds md e=true→e.on≠i:=fun e he hb heq=>by
    have h1:=uP e he hb
    rw [heq,getD_both UX]at h1
    cases h1
   have h2:=af6 hoj (ai4 j oj hoj EY arM ayb) (p7 i oi hin hi) (p7 j oj hjn hoj) (af8 hoj inv uP (getD_both UX)) hy ho h1
   have alA:∀k ok,ops[k]? = some ok→k≠i→(aZ.setIfInBounds j true).getD k true=false →
     (∀e∈ok.after,Region.binds md e=true→e.on≠i)→oi.apart ops ok=true:=fun k ok hk hki arN hno=>by
    refine ai4 k ok hk hki ?_ hno
    by_cases hjk:j=k
    ·subst hjk;exact arM
    ·rw [getD_set_ne true hjk]at arN;exact arN
   refine abz (fun UW h3=>ih (aZ.setIfInBounds j true) UW (inv.set hj hjn) alA (ready_mono hr (Ne.symm EY)) h3.1 h3.2.1 ?_) h2
   rw [Array.setIfInBounds_comm _ _ EY]
   exact h3.2.2
def alB(E:Env)(md:Region.Mode)(ops:Array Oper)(c0:Nat)(Lq:ST→Prop):Nat→List Oper→ST→Prop
 | _,[],st=>Lq st
 | k,o::os,st=>∃b v u,YG E md ops c0 k o b v u st∧LX md ops.toList k u st.bQ∧alB E md ops c0 Lq (k+1) os (app k o b v u st)
theorem sV{c0 n g:Nat}{Lq:ST→Prop}(p7:∀i oi,i<n→ops[i]? = some oi→dS E oi.op=true→oi.dst.isSome=true)(CA:∀aZ,HeadInv md ops n aZ → ∀i,i<n→aZ.getD i true=false → ∀t,n≤t→t ∉ Region.ready md ops aZ) :
  ∀(l:List Oper) (k:Nat) (aZ:Array Bool) (st:ST),(∀j,j<l.length→l[j]? = ops[k+j]?)→k+l.length=n→HeadInv md ops n aZ →
  Region.lexHead md ops g l.length k aZ=true→alB E md ops c0 Lq k l st →
  L3 E md ops c0 n (fun UY UW=>Region.seqB md ops g n UY=true∧Lq UW) l.length aZ st
 | [],k,aZ,st,_,hk,_,hB,h=>by
  have:k=n:=by simpa using hk
  subst this
  exact⟨by simpa [Region.lexHead]using hB,h⟩
 | o::l,k,aZ,st,hl,hk,inv,hB,h=>by
  have h0:ops[k]? = some o:=by simpa using(hl 0 (by simp)).symm
  simp only [List.length_cons,Region.lexHead,Bool.and_eq_true]at hB
  obtain⟨⟨hr,hf⟩,hB'⟩:=hB
  have hkn:k<n:=by simp only [List.length_cons]at hk;omega
  have kF:k∈Region.ready md ops aZ:=by simpa using hr
  obtain⟨b,v,u,hy,ho,hK⟩:=h
  exact L4 h0 p7 CA hkn (fun UY UW hL=>seqB_ready hL.1) l.length aZ st inv (Region.free_spec h0 hf) kF hy ho
   (sV p7 CA l (k+1) _ _ (fun j hj=>by have:=hl (j+1) (by simp;omega);simpa [Nat.add_assoc,Nat.add_comm 1 j]using this) (by simp only [List.length_cons]at hk;omega) (inv.set kF hkn) hB' hK)
variable {w0:World} {S0:dZ} {m:Nat} {G:Gs}
theorem Q0{o:Oper}{a:Act}{w:World}{f:Nat→PV}{rows:Rows}{U:Nat→Prop}{c0:Nat}{v:PV}{u:Option (Nat × Row)}(iE:¬U c0){g:FuncId}{aHR:Array Operand}{ts:Array TypeId}(ho:o.op = .call { callee:=.value (.func g),args:=aHR,argTypes:=ts })
  (hy:ai2 E g (aHR.toList.map fun x=>aP f x) c0 (o.dst.getD 0) v u) (hR:pD w0 S0 m G U f rows a w) (hd:∀t,o.dst=some t→t<m)
  {K':Act→World→Prop} {Q:Exit→Act→World→Prop} (hK:∀a' w',pD w0 S0 m G (fun v=>v=c0∨U v) (put f o.dst v) (eF rows u) a' w'→K' a' w'):o.wp E.P a w K' Q:=by
 obtain⟨⟨c,rfl,hr,gB,hI,hf,hG⟩,hn,fK⟩:=hR
 have hρ:=mQ hf
 have hfu:¬c.used c0:=fun hu=>iE (gB _ hu)
 obtain⟨tY,e,n,els,⟨⟨fn,b,h1,h2,h3⟩,QU⟩,rfl,rfl⟩:=hy
 obtain⟨dst,op,type,pos,after,guard⟩:=o
 simp only at ho hd hK
 subst ho
 have eT:bC (aG c) (aHR.toList.map fun x=>aP f x) (aHR.map a.eval).toList:=by
  refine bC.cT (by simp) fun k p u hp hu=>?_
  simp at hp hu
  obtain⟨x,hx,rfl⟩:=hp
  obtain⟨y,hy,rfl⟩:=hu
  rw [hx]at hy;cases hy
  exact hρ x
 have fM:bP c.S c.w (aHR.toList.map fun x=>aP f x) (aHR.map a.eval).toList:=cL.2 (bC.cT eT.length fun k p u hp hu=>by
  obtain⟨u',q1,q2⟩:=eT.get hp
  rw [hu]at q1;cases q1
  exact q2.rep (List.all_eq_true.1 tY p (List.mem_of_getElem? hp)))
 have mN:=QU c.w c.S _ (fun b o hb=>hI.lt hb) fM
 simp only [Array.toArray_toList]at mN
 have X0:=hρ (.func g)
 simp only [aP,aG,aK,dE]at X0
 obtain⟨cs,hfv,EW⟩:=X0
 simp only [bP]at EW
 subst EW
 unfold Oper.wp
 have i3:(execOp a.eval { dst:=dst,op:=.call { callee:=.value (.func g),args:=aHR,argTypes:=ts },type:=type,pos:=pos,after:=after,guard:=guard }).run E.P c.w = .ok (.enter g (aHR.map a.eval)) c.w:=by
  simp only [execOp,resolve,hfv,Deferred.ofValue,Sem.run_bind,Sem.run_pure,Result.andThen_ok,invoke]
  simpa using kI h1 h2 h3 (aHR.map a.eval) c.w
 rw [i3]
 refine mN.mono ?_
 rintro x w' ⟨v',xs,S',rfl,hb,g1,g2,g3,g4,g5,g6,g7,g8⟩
 obtain⟨hI2,hA2⟩:=hI.grow hb g1 g2
 obtain⟨hI3,hA3⟩:=hI2.set (w':=w') (ob:=v'.ownBlock) (id:=dst.getD 0) (r':=⟨c0,e,n,els⟩) (v':=v') (xs:=xs) (World.grownBy.refl _ _)
  (fun g hg=>by
   have XT:=(g3.lt g hg).1
   refine⟨by have:=hI.below.size;omega,fun o=>g8 g o hg,fun i9 r hr _ jX=>?_⟩
   obtain⟨⟨ys,q1,_,_⟩,_⟩:=hI.row i9 r hr
   have:=(q1.lt g jX).2
   omega) ⟨g3.1,g3.2.imp id fun⟨g,cap,cur,q1,q2,q3⟩=>⟨g,cap,cur,q1,Nat.le_trans hI.below.size q2,q3⟩⟩ (g4.mono fun _ _ h=>aK.jN h) g5 g6 g7 (fun g hg => .inl hg) hfu
 refine hK _ _ ?_
 have hf2:∀s,aG { c with S:=S',w:=w' } (f s) (a.tmps.getD s undef):=fun s=>aG.tR hA2 _ _ (hf s)
 have hG2:∀p∈G,aG { c with S:=S',w:=w' } p.1 p.2:=fun p hp=>aG.tR hA2 _ _ (hG p hp)
 refine rP hf2 hG2 hn fK hA3 hI3 ?_ hd rfl (by simp [eF,hr]) (fun v hv=>hv.imp (fun h=>h) (gB v))
 rcases g3.2 with ⟨rfl,h8⟩ | ⟨g,jQ,cur,rfl,_⟩
 ·have:els.length=0:=h8
  rw [this]
  exact mC (r:=⟨c0,e,n,els⟩) (A:=none) (cap:=0) (by simp [dW]) (by simpa using h8) (Or.inl rfl) (by simp [dW])
 ·exact mC (r:=⟨c0,e,n,els⟩) (by simp [dW]) rfl (Or.inl rfl) (by simp [dW])
theorem abD{o:Oper}{a:Act}{w:World}{f:Nat→PV}{rows:Rows}{U:Nat→Prop}{c0:Nat}{v:PV}{u:Option (Nat × Row)}(iE:¬U c0)(hn:dS E o.op=true)(hy:yn E c0 o.dst o.op (aP f) rows v u)(hR:pD w0 S0 m G U f rows a w)(hd:∀t,o.dst=some t→t<m)
  {K':Act→World→Prop} {Q:Exit→Act→World→Prop} (hK:∀a' w',pD w0 S0 m G (fun v=>v=c0∨U v) (put f o.dst v) (eF rows u) a' w'→K' a' w'):o.wp E.P a w K' Q:=by
 by_cases mN:∃g aHR ts,o.op = .call { callee:=.value (.func g),args:=aHR,argTypes:=ts }∧E.writes g=true
 ·obtain⟨g,aHR,ts,ho,hw⟩:=mN
  rw [ho]at hy
  simp only [yn]at hy
  rw [if_pos hw]at hy
  exact Q0 iE ho hy hR hd hK
 refine vS (ver:=c0) iE (K:=fun _ f' rows'=>f'=put f o.dst v∧rows'=eF rows u) ?_ hR hd (fun i f' rows' a' w' h lH=>by
  obtain⟨rfl,rfl⟩:=h
  exact hK a' w' (lH.mono fun v hv=>hv.imp (fun h=>h.2) fun h=>h))
 obtain⟨dst,op,type,pos,after,guard⟩:=o
 simp only at hn hy mN ⊢
 refine n7 hn ?_ ?_ ?_ ?_ ?_
 ·rintro t rfl
  simp only [yn]at hy
  obtain⟨h2,rfl,rfl⟩:=hy
  exact⟨h2,rfl,rfl⟩
 ·rintro t x rfl
  simp only [yn]at hy
  obtain⟨h2,l,h3,h4,h5,rfl,rfl⟩:=hy
  exact⟨h2,l,h3,fun q hq=>IC (fun id _ r hr=>by cases hr) (h4 q hq),h5,rfl,rfl⟩
 ·rintro t l cc rfl
  simp only [yn]at hy
  simp only [oR]
  split at hy
  ·rename_i e n b z k1 x k2 y hE hl hc
   obtain⟨g1,g2,g3,g4,rfl,rfl⟩:=hy
   try rw [hE,hl,hc]
   exact⟨g1,g2,g3,g4,rfl,rfl⟩
  ·exact hy.elim
 ·rintro x y t t2 rfl
  simp only [yn]at hy
  obtain⟨h2,hy⟩:=hy
  simp only [oR]
  refine⟨h2,?_⟩
  unfold uA at hy
  unfold pF
  split at hy
  ·rename_i e n b z hE
   obtain⟨l,g1,g2,g3⟩:=hy
   rw [hE]
   refine⟨l,g1,g2,?_⟩
   split at g3
   ·rename_i hx
    obtain⟨q1,q2,rfl,rfl⟩:=g3
    rw [hx]
    exact⟨q1,q2,rfl,rfl⟩
   ·rename_i id ver off len hx
    obtain⟨r,q1,q2,q3,q4,q5,q6,q7,q8,rfl,rfl⟩:=g3
    rw [hx]
    exact⟨r,q1,q2,q3,q4,q5,q6,q7,q8,rfl,rfl⟩
   ·rename_i l0 hx
    obtain⟨q1,q2,q3,q4,rfl,rfl⟩:=g3
    rw [hx]
    exact⟨q1,q2,q3,q4,rfl,rfl⟩
   ·exact g3.elim
  ·exact hy.elim
 ·rintro g aHR ts rfl hw
  exact absurd ⟨g,aHR,ts,rfl,hw⟩ mN
theorem X8{c0 i:Nat}{st:ST}{K:ST→Prop}{U:Nat→Prop}(iE:∀o,ops[i]? = some o→dS E o.op=true→¬U (c0+rk E ops.toList i))(h:qOp E md ops c0 i K st){a:Act}{w:World}(hR:pD w0 S0 m G U st.f st.rows a w)(hd:∀o,o∈ops → ∀t,o.dst=some t→t<m)
  {K':Act→World→Prop} {Q:Exit→Act→World→Prop} (hK:∀UW a' w',K UW→pD w0 S0 m G (fun v=>(v=c0+rk E ops.toList i ∧ ∃o,ops[i]? = some o∧dS E o.op=true)∨U v) UW.f UW.rows a' w'→K' a' w'):wpOp E.P ops Q i K' a w:=by
 unfold qOp at h
 unfold wpOp
 split at h
 ·rename_i hi;simp only [hi];exact hK _ _ _ h (hR.mono fun v hv => .inr hv)
 ·rename_i o hi
  simp only [hi]
  obtain⟨b,v,u,⟨hg,hy⟩,ho,hk⟩:=h
  have lH:=hR
  obtain⟨⟨c,rfl,hr,gB,hI,hf,hG⟩,hn,fK⟩:=hR
  have hdo:=hd o (Array.mem_of_getElem? hi)
  have ai5:Region.wanted o (yielded ops a.tmps)=b:=by
   unfold gOK at hg
   unfold Region.wanted
   cases hgd:o.guard with
   | none=>rw [hgd]at hg;simp only at hg ⊢;exact hg.symm
   | some x =>
    obtain⟨j,want⟩:=x
    rw [hgd]at hg
    simp only at hg ⊢
    obtain⟨d,h1,h2⟩:=hg
    have hx:=hf d
    rcases h2 with ⟨h2,h3⟩ | ⟨h2 | h2,h3⟩
    ·rw [h2]at hx
     rw [iU h1 hx,h3]
     cases want<;>rfl
    ·rw [h2]at hx
     rw [iU h1 hx,h3]
     cases want<;>rfl
    ·rw [h2]at hx
     rw [uO h1 hx,h3]
     rfl
  by_cases hb:b=true
  ·subst hb
   rw [if_pos rfl]at hy
   rw [ai5,if_pos rfl]
   left
   cases p7:dS E o.op with
   | true =>
    refine abD (iE o hi p7) p7 (US (fun id _ r kF=>(lM.1 kF).2) hy).1 lH hdo fun a' w' hR2=>hK _ _ _ hk ?_
    exact hR2.mono fun v hv=>hv.imp (fun h=>⟨h,o,by first | exact hi | rfl,p7⟩) fun h=>h
   | false =>
    rw [B6 p7]at hy
    have xS:ys E o.op (aP st.f) c.rows v u:=by
     rw [hr]
     exact(ai1 (fun id _ r kF=>(lM.1 kF).2) hy).1
    refine LV hI hf xS fun v' c' h1 h2 h3 h4 h5=>hK _ _ _ hk ?_
    refine XX hf hG hn fK h3 h4 h5 hdo rfl ?_ ?_
    ·simp only [app]
     rw [h1,hr]
    ·rw [h2]
     exact fun v hv => .inr (gB v hv)
  ·rw [if_neg hb]at hy
   obtain⟨rfl,rfl⟩:=hy
   rw [ai5,if_neg hb]
   refine hK _ _ _ hk ?_
   have jX:b=false:=by simpa using hb
   subst jX
   exact rP hf hG hn fK (tK.refl c) hI QZ hdo rfl (by rw [hr];rfl) (fun v hv => .inr (gB v hv))
def Ul(E:Env)(ops:Array Oper)(c0 n:Nat)(aZ:Array Bool):Nat→Prop:=fun v=>v<c0 ∨ ∃k o,k<n∧ops[k]? = some o∧dS E o.op=true∧v=c0+rk E ops.toList k∧aZ.getD k false=true
theorem Q3{c0 n v:Nat}{aZ:Array Bool}(h:Ul E ops c0 n aZ v):v<c0+rk E ops.toList n:=by
 rcases h with h | ⟨k,o,hk,ho,hn,rfl,_⟩
 ·omega
 ·have:=abv (ops:=ops.toList) (by simpa using ho) hn hk
  omega
theorem lY{c0 n g:Nat}{L:Array Bool→ST→Prop}{Q:Exit→Act→World→Prop}(hd:∀o,o∈ops → ∀t,o.dst=some t→t<m)
  (hL:∀aZ (st:ST) a w,L aZ st→pD w0 S0 m G (Ul E ops c0 n aZ) st.f st.rows a w→wpAny E.P md ops Q g aZ a w) :
  ∀(f:Nat) (aZ:Array Bool) (st:ST) (a:Act) (w:World),n≤aZ.size→L3 E md ops c0 n L f aZ st→pD w0 S0 m G (Ul E ops c0 n aZ) st.f st.rows a w→wpAny E.P md ops Q (f+g) aZ a w
 | 0,aZ,st,a,w,_,h,hR=>by rw [Nat.zero_add];exact hL _ _ _ _ h hR
 | f+1,aZ,st,a,w,o8,h,hR=>by
  rw [show f+1+g=(f+g)+1 by omega]
  refine⟨fun h0=>absurd h0 h.1,fun i hi=>?_⟩
  have UX:=(mem_ready.1 hi).1
  obtain⟨hin,hq⟩:=h.2 i hi
  refine X8 (fun o ho hn hU=>?_) hq hR hd fun UW a' w' h' lH=>lY hd hL f _ UW a' w' (by simpa using o8) h' (lH.mono fun v hv=>?_)
  ·rcases hU with hU | ⟨k,o',hk,ho',AA,he,hl⟩
   ·omega
   ·have:=alw (ops:=ops.toList) (by simpa using ho) hn (by simpa using ho') AA (by omega)
    subst this
    rw [getD_both UX]at hl;cases hl
  ·rcases hv with ⟨rfl,o,ho,hn⟩ | hv
   ·exact .inr ⟨i,o,hin,ho,hn,rfl,by simp [show i<aZ.size by omega]⟩
   ·rcases hv with hv | ⟨k,o,hk,ho,hn,he,hl⟩
    ·exact .inl hv
    ·refine .inr ⟨k,o,hk,ho,hn,he,?_⟩
     by_cases hki:i=k
     ·subst hki;simp [show i<aZ.size by omega]
     ·simpa [Array.getElem?_setIfInBounds_ne hki]using hl
end
def aM(E:Env)(ops:List Oper):List Oper→(PS→Prop)→PS→Prop
 | [],K,σ=>K σ
 | o::os,K,σ =>
  match o.guard with
  | none=>fD E o (aM E ops os K) σ
  | some (j,want) =>
   match (ops[j]?).bind (·.dst)with
   | none=>False
   | some d=>(σ.f d = .bool want∧fD E o (aM E ops os K) σ)∨((σ.f d = .bool (!want)∨σ.f d = .dU [])∧aM E ops os K (σ.put o.dst (.dU [])))
def aN(E:Env)(ops:List Oper)(clk:Nat):Nat→List Oper→(PS→Prop)→ST→Prop
 | _,[],K,st=>K ⟨st.f,st.rows,clk⟩
 | k,o::os,K,st =>
  match o.guard with
  | none=>∃v u,yn E clk o.dst o.op (aP st.f) (eD .any ops k st.wl st.rows) v u∧LX .any ops k u st.bQ∧aN E ops (i5 E o.op clk) (k+1) os K (app k o true v u st)
  | some (j,want) =>
   match (ops[j]?).bind (·.dst)with
   | none=>False
   | some d=>(st.f d = .bool want ∧ ∃v u,yn E clk o.dst o.op (aP st.f) (eD .any ops k st.wl st.rows) v u∧LX .any ops k u st.bQ∧aN E ops (i5 E o.op clk) (k+1) os K (app k o true v u st))∨((st.f d = .bool (!want)∨st.f d = .dU [])∧aN E ops clk (k+1) os K (app k o false (.dU []) none st))
def gR(E:Env)(tl:Nat)(ops:List Oper)(K:PS→Prop)(σ:PS):Prop:=
 if tl=0 then aN E ops σ.clock 0 ops K ⟨σ.f,σ.rows,fun _ _=>False,fun _ _=>False⟩
 else aN E ops σ.clock 0 (ops.take (ops.length-tl)) (aM E ops (ops.drop (ops.length-tl)) K) ⟨σ.f,σ.rows,fun _ _=>False,fun _ _=>False⟩
inductive PX where
 | normal
 | exit (id:Nat)
 | ret
def E2(K:PS→Prop)(Q:PX→PS→Prop):PX→PS→Prop
 | .normal,σ=>K σ
 | .exit id,σ=>Q (.exit id) σ
 | .ret,σ=>Q .ret σ
def E3(id:Nat)(Q:PX→PS→Prop):PX→PS→Prop
 | .normal,σ=>Q .normal σ
 | .exit j,σ=>if j=id then Q .normal σ else Q (.exit j) σ
 | .ret,σ=>Q .ret σ
def rR(E:Env)(n tl:Nat)(ops:Array Oper)(draw:Bool):Bool:=
 (ops.all fun o=>match o.dst with | some d=>decide (d<n) | none=>true) &&
 (!draw || (uN E (if tl=0 then ops.toList else ops.toList.take (ops.size-tl))&&(if tl=0 then Region.noSelect ops&&Region.lexHead .any ops 0 ops.size 0 (Array.replicate ops.size false)else decide (tl≤ops.size)&&Region.lexTailB .any ops (ops.size-tl))))
def eY(E:Env)(n:Nat)(tl:Nat→Nat):Code→Bool
 | .region id ops draw=>rR E n (tl id) ops draw
 | .seq a b=>eY E n tl a&&eY E n tl b
 | .cond _ t e=>eY E n tl t&&eY E n tl e
 | .block _ c=>eY E n tl c
 | .loop c=>eY E n tl c
 | _=>true
section
variable {E:Env} {w0:World} {S0:dZ} {n:Nat} {G:Gs}
theorem iG{ops:Array Oper}{K:PS→Prop}{Q:Exit→Act→World→Prop}(hK:∀σ' a' w',K σ'→Rel w0 S0 n G σ' a' w'→Q .normal a' w') :
  ∀(l:List Oper) (σ:PS) (a:Act) (w:World),(∀o∈l,∀t,o.dst=some t→t<n)→aM E ops.toList l K σ→Rel w0 S0 n G σ a w→wpList E.P ops Q l a w
 | [],σ,a,w,_,h,hR=>hK _ _ _ h hR
 | o::os,σ,a,w,hd,h,hR=>by
  have hdo:=hd o (by simp)
  have hds:∀o∈os,∀t,o.dst=some t→t<n:=fun o ho=>hd o (by simp [ho])
  have wanted:∀ {σ},fD E o (aM E ops.toList os K) σ→Rel w0 S0 n G σ a w→o.wp E.P a w (wpList E.P ops Q os) Q:=fun hp hR =>
   y6 hp hR hdo fun σ' a' w' hk lH=>iG hK os σ' a' w' hds hk lH
  unfold wpList
  simp only [aM]at h
  split at h
  ·rename_i hg
   rw [if_pos (by simp [Region.wanted,hg])]
   exact .inl (wanted h hR)
  ·rename_i j want hg
   split at h
   ·exact h.elim
   ·rename_i d Q4
    have hd3:(ops[j]?).bind (·.dst)=some d:=by simpa using Q4
    have skip:yielded ops a.tmps j≠some want→aM E ops.toList os K (σ.put o.dst (.dU []))→(if Region.wanted o (yielded ops a.tmps)=true then o.wp E.P a w (wpList E.P ops Q os) Q∨(o.asks E.P a w∧LetsOut Q)else wpList E.P ops Q os (a.put o.dst undef) w):=by
     intro hy h2
     rw [if_neg (by simpa [Region.wanted,hg]using hy)]
     refine iG hK os _ _ w hds h2 ?_
     obtain⟨⟨c,rfl,hr,gB,hI,hf,hG⟩,hn,fK⟩:=hR
     exact sU hf hG hn fK (tK.refl c) hI QZ hdo rfl (by simp [PS.put,hr]) gB
    obtain⟨c,_,_,_,_,hf,_⟩:=hR.ex
    have hx:=hf d
    rcases h with ⟨h1,h2⟩ | ⟨h1 | h1,h2⟩
    ·rw [h1]at hx
     rw [if_pos (by simp [Region.wanted,hg,iU hd3 hx])]
     exact .inl (wanted h2 hR)
    ·rw [h1]at hx
     exact skip (by rw [iU hd3 hx];cases want<;>simp) h2
    ·rw [h1]at hx
     exact skip (by rw [uO hd3 hx];simp) h2
theorem pH{ops:Array Oper}{c0:Nat}{K:PS→Prop}:∀(l:List Oper) (k clk:Nat) (st:ST),(∀j,j<l.length→l[j]? = ops[k+j]?)→uN E l=true→clk=c0+rk E ops.toList k→aN E ops.toList clk k l K st→alB E .any ops c0 (fun st=>K ⟨st.f,st.rows,c0+rk E ops.toList (k+l.length)⟩) k l st
 | [],k,clk,st,_,_,hc,h=>by subst hc;exact h
 | o::os,k,clk,st,hl,L5,hc,h=>by
  have alD:uN E os=true:=by simp only [uN,List.all_cons,Bool.and_eq_true]at L5 ⊢;exact L5.2
  have aye:o.guard≠none→dS E o.op=false:=fun hg=>by
   simp only [uN,List.all_cons,Bool.and_eq_true]at L5
   cases hn:dS E o.op with
   | false=>rfl
   | true=>have:=L5.1;rw [hn]at this;simp at this;exact absurd this.2 hg
  have h0:ops[k]? = some o:=by simpa using(hl 0 (by simp)).symm
  have vP:i5 E o.op clk=c0+rk E ops.toList (k+1):=by rw [hc];exact af5 (by simpa using h0)
  have hl1:∀j,j<os.length→os[j]? = ops[k+1+j]? := fun j hj=>by have:=hl (j+1) (by simp;omega);simpa [Nat.add_assoc,Nat.add_comm 1 j]using this
  have e1:k+(o::os).length=k+1+os.length:=by simp only [List.length_cons];omega
  rw [e1]
  simp only [aN]at h
  split at h
  ·rename_i hg
   obtain⟨v,u,h1,h2,h3⟩:=h
   exact⟨true,v,u,⟨by simp [gOK,hg],by rw [if_pos rfl,←hc];exact h1⟩,h2,pH os _ _ _ hl1 alD vP h3⟩
  ·rename_i j want hg
   split at h
   ·exact h.elim
   ·rename_i d Q4
    have hd3:(ops[j]?).bind (·.dst)=some d:=by simpa using Q4
    rcases h with ⟨h1,v,u,q1,q2,q3⟩ | ⟨h1,h2⟩
    ·exact⟨true,v,u,⟨by simp only [gOK,hg];exact⟨d,hd3, .inl ⟨h1,trivial⟩⟩,by rw [if_pos rfl,←hc];exact q1⟩,q2,pH os _ _ _ hl1 alD vP q3⟩
    ·exact⟨false, .dU [],none,⟨by simp only [gOK,hg];exact⟨d,hd3, .inr ⟨h1,trivial⟩⟩,by simp⟩,trivial,pH os _ _ _ hl1 alD (by rw [←vP,B7 (aye (by rw [hg];simp))]) h2⟩
theorem Rel.drew{σ:PS}{a:Act}{w:World}(h:Rel w0 S0 n G σ a w):Rel w0 S0 n G σ a { w with drawn:=w.drawn+1 }:=by
 obtain⟨⟨c,rfl,hr,gB,hI,hf,hG⟩,hn,fK⟩:=h
 obtain⟨p8,hA⟩:=hI.grow (w':={ c.w with drawn:=c.w.drawn+1 }) (S':=c.S) ⟨rfl,rfl,rfl,Nat.le_refl _,fun _ _=>rfl⟩ (fun _ _ h=>h) (fun _ _ h => .inl h)
 exact⟨⟨{ c with w:={ c.w with drawn:=c.w.drawn+1 } },rfl,hr,gB,p8,fun s=>aG.tR hA _ _ (hf s),fun p hp=>aG.tR hA _ _ (hG p hp)⟩,hn,fK⟩
theorem uB{id tl:Nat}{ops:Array Oper}{K:PS→Prop}{Q:Exit→Act→World→Prop}(gO:rR E n tl ops true=true){σ:PS}{a:Act}{w:World}(h:gR E tl ops.toList K σ)(hR:Rel w0 S0 n G σ a w)
  (hK:∀σ' a' w',K σ'→Rel w0 S0 n G σ' a' w'→Q .normal a' w'):(Code.region id ops true).wp E.P Q a w:=by
 simp only [rR,Bool.and_eq_true,Bool.not_true,Bool.false_or]at gO
 obtain⟨alE,uC,gO⟩:=gO
 have hd:∀o,o∈ops → ∀t,o.dst=some t→t<n:=by
  intro o ho t ht
  have:=Array.all_eq_true_iff_forall_mem.1 alE o ho
  simpa [ht]using this
 refine wp_region_any E.mixed ?_
 have IE:=hR.drew
 have hU0:∀k (l:Array Bool),pD w0 S0 n G (Ul E ops σ.clock k l) σ.f σ.rows a { w with drawn:=w.drawn+1 }:=fun k l=>IE.mono fun v hv => .inl hv
 have agb:∀(l:List Oper),uN E l=true → ∀(i:Nat) (oi:Oper),l[i]? = some oi→dS E oi.op=true→oi.dst.isSome=true:=fun l h i oi hi hn=>by
  have:=List.all_eq_true.1 h oi (List.mem_of_getElem? hi)
  rw [hn]at this;simp at this;exact Option.isSome_iff_exists.2 (by obtain⟨x,hx⟩:=Option.isSome_iff_exists.1 this.1;exact⟨x,hx⟩)
 unfold gR at h
 by_cases htl:tl=0
 ·rw [if_pos htl]at h gO uC
  have p7:∀i oi,i<ops.size→ops[i]? = some oi→dS E oi.op=true→oi.dst.isSome=true:=fun i oi _ hi=>agb _ uC i oi (by simpa using hi)
  simp only [Bool.and_eq_true]at gO
  have hl:=pH (c0:=σ.clock) ops.toList 0 _ _ (by simp) uC (by simp [rk]) h
  have abE:HeadInv .any ops ops.size (Array.replicate ops.size false):=
   ⟨by simp,fun j oj _ hl=>(by rw [getD_replicate_false]at hl;cases hl),fun t h1 h2=>by omega⟩
  have CA:∀aZ,HeadInv .any ops ops.size aZ → ∀i,i<ops.size→aZ.getD i true=false → ∀t,ops.size≤t→t ∉ Region.ready .any ops aZ:=by
   intro aZ _ i _ _ t ht hr
   obtain⟨_,o,ho,_⟩:=mem_ready.1 hr
   have:=(Array.getElem?_eq_some_iff.1 ho).1
   omega
  have H:=sV (E:=E) (md:=.any) (g:=0) p7 CA ops.toList 0 _ _ (by simp) (by simp) abE (by simpa using gO.2) hl
  have:=lY (E:=E) (md:=.any) (g:=0) (Q:=Q) (m:=n) hd (fun aZ st a' w' hL lH=>by
   obtain⟨h1,h2⟩:=hL
   exact⟨by simpa [Region.seqB]using h1,hK _ _ _ h2 (lH.mono fun v hv=>by have:=Q3 hv;simpa using this)⟩) _ _ _ _ _ (by simp) H (hU0 _ _)
  simpa using this
 ·rw [if_neg htl]at h gO uC
  have p7:∀i oi,i<ops.size-tl→ops[i]? = some oi→dS E oi.op=true→oi.dst.isSome=true:=fun i oi h1 hi=>agb _ uC i oi (by rw [List.getElem?_take,if_pos h1];simpa using hi)
  simp only [Bool.and_eq_true,decide_eq_true_eq]at gO
  obtain⟨hle,hB⟩:=gO
  simp only [Region.lexTailB,Bool.and_eq_true,decide_eq_true_eq]at hB
  obtain⟨⟨⟨⟨ayf,AA⟩,hs⟩,hc⟩,alF⟩:=hB
  have hlen:ops.toList.length=ops.size:=by simp
  rw [hlen]at h
  have hl:=pH (c0:=σ.clock) (ops.toList.take (ops.size-tl)) 0 _ _ (fun j hj=>by
   have hj':j<ops.size-tl:=by simpa using hj
   simp [hj']) uC (by simp [rk]) h
  have abE:HeadInv .any ops (ops.size-tl) (Array.replicate ops.size false):=
   ⟨by simp,fun j oj _ hl=>(by rw [getD_replicate_false]at hl;cases hl),fun t _ ht=>getD_in (by simpa using ht) (getD_replicate_false _ _)⟩
  have xN:(ops.toList.take (ops.size-tl)).length=ops.size-tl:=by simp
  have hdl:(ops.toList.drop (ops.size-tl)).length=ops.size-(ops.size-tl):=by simp
  have H:=sV (E:=E) (md:=.any) (n:=ops.size-tl) (g:=ops.size-(ops.size-tl)) p7 (fun aZ inv i hi UX t ht=>tail_waits hs hc AA inv _ i rfl hi UX t ht) (ops.toList.take (ops.size-tl)) 0 _ _ (fun j hj=>by
   rw [xN]at hj
   simp [hj]) (by rw [xN];simp) abE (by rw [xN];exact alF) hl
  have:=lY (E:=E) (md:=.any) (g:=ops.size-(ops.size-tl)) (Q:=Q) (m:=n) hd (fun aZ st a' w' hL lH=>by
   obtain⟨h1,h2⟩:=hL
   have h3:=iG (ops:=ops) (Q:=Q) hK (ops.toList.drop (ops.size-tl)) _ a' w' (fun o ho=>hd o (by simpa using List.mem_of_mem_drop ho)) h2 (lH.mono fun v hv=>by have:=Q3 hv;simpa using this)
   have h4:=wpAny_of_seq (md:=.any) (Q':=Q) (ops.toList.drop (ops.size-tl)) (ops.size-tl) aZ a' w' (fun j=>by simp [List.getElem?_drop]) (by rw [hdl];exact h1) h3
   rwa [hdl]at h4) _ _ _ _ _ (by simp) H (hU0 _ _)
  rw [xN,show ops.size-tl+(ops.size-(ops.size-tl))=ops.size by omega]at this
  exact this
def alG:PX→Exit
 | .normal => .normal
 | .exit id => .exit id
 | .ret => .ret
end
def nG(E:Env)(σ:PS):List ResultVar→(List PV→Prop)→Prop
 | [],K=>K []
 | .tmp t::rs,K=>nG E σ rs fun vs=>K (σ.f t::vs)
 | .cell a t::rs,K=>∃v,tS E t σ.rows (σ.f a) v∧nG E σ rs fun vs=>K (v::vs)
def vT:List PV→PV
 | [x]=>x
 | l => .dU l
def abG(E:Env)(rs:List ResultVar)(r:PV)(σ:PS):Prop:=
 nG E σ rs fun vs=>eU σ.rows (vs.flatMap dV)∧(vs.map (pz σ.rows)).all dA=true∧r=vT (vs.map (pz σ.rows))
def abH(E:Env)(rs:List ResultVar)(r:PV):PX→PS→Prop
 | .normal,σ=>abG E rs r σ
 | .ret,σ=>abG E rs r σ
 | .exit _,_=>False
def FY(args:List PV):PS:=⟨fun s=>args.getD s .undef,fun _=>none,0⟩
section
variable {E:Env} {w0:World} {S0:dZ} {c:Cx}
theorem sW(hI:Inv w0 S0 c){clk:Nat}{a:Act}{f:Nat→PV}(hf:∀s,aG c (f s) (a.tmps.getD s undef)){g:ResultVar→Sem Value}(X9:∀t,g (.tmp t)=pure (a.tmps.getD t undef))
  (qZ:∀x t,g (.cell x t)=do loadVar t (←asAddr (a.tmps.getD x undef))):∀(rs:List ResultVar) (K:List PV→Prop),nG E ⟨f,c.rows,clk⟩ rs K →
  ∃vs us,K vs∧bC (aG c) vs us∧(rs.mapM g:Sem (List Value)).run E.P c.w = .ok us c.w
 | [],K,h=>⟨[],[],h,trivial,by simp⟩
 | .tmp t::rs,K,h=>by
  obtain⟨vs,us,h1,h2,h3⟩:=sW hI hf X9 qZ rs _ h
  exact⟨f t::vs,a.tmps.getD t undef::us,h1,⟨hf t,h2⟩,by
   rw [List.mapM_cons,X9,Sem.run_bind,Sem.run_pure,Result.andThen_ok,Sem.run_bind,h3,Result.andThen_ok,Sem.run_pure]⟩
 | .cell x t::rs,K,h=>by
  obtain⟨v,hv,h⟩:=h
  obtain⟨vs,us,h1,h2,h3⟩:=sW hI hf X9 qZ rs _ h
  obtain⟨u,hu,hr⟩:=FM hI (hf x) hv
  refine⟨v::vs,u::us,h1,⟨hr,h2⟩,?_⟩
  have XS:(do loadVar t (←asAddr (a.tmps.getD x undef)):Sem Value).run E.P c.w = .ok u c.w:=by
   simp only [Instr.loadAt,Sem.run_bind]at hu ⊢
   cases hx:a.tmps.getD x undef with
   | pointer p =>
    cases p with
    | some ad=>rw [hx]at hu;simpa [Instr.sureAddr,asAddr]using hu
    | none=>rw [hx]at hu;simp [Instr.sureAddr,stuck,Result.andThen]at hu
   | _=>rw [hx]at hu;simp [Instr.sureAddr,stuck,Result.andThen]at hu
  rw [List.mapM_cons,qZ]
  simp only [Sem.run_bind]at XS ⊢
  rw [XS,Result.andThen_ok,h3,Result.andThen_ok,Sem.run_pure]
theorem Q5{y8:FuncId}{fn:Func}{code:Code}{args:List PV}{r:PV}(h1:E.P.funcs[y8]? = some fn)(h2:fn.body=some code) (h3:(fn.name == "runtime.NumGoroutine") = false) (eT:args.length≤fn.ntmps)
  (h:∀(w0:World) (S0:dZ) (a:Act) (w:World) (Q':Exit→Act→World→Prop),Rel w0 S0 fn.ntmps Gs.none (FY args) a w→(∀x σ' a' w',abH E fn.results.toList r x σ'→Rel w0 S0 fn.ntmps Gs.none σ' a' w'→Q' (alG x) a' w')→code.wp E.P Q' a w):aE E.P y8 args r:=by
 refine⟨⟨fn,code,h1,h2,h3⟩,fun w S vs hS fM=>?_⟩
 have BW:=cL.1 fM
 refine calls_of_wp h1 h2 ?_
 have LJ:vs.length=args.length:=BW.length.symm
 let c0:Cx:=⟨S,w,fun _ => .slice none 0 0,fun _=>none,fun _=>False⟩
 have hI0:Inv w S c0:=⟨Below.refl _ _,fun _ _ h=>h,fun _ _ h => .inl h,hS,fun _ _ h=>by simp [c0]at h,fun _ _ h=>by simp [c0]at h,fun _ _ _ _ _ h=>by simp [c0]at h,⟨0,fun _ h=>h.elim⟩⟩
 have IE:Rel w S fn.ntmps Gs.none (FY args) { tmps:=vs.toArray++Array.replicate (fn.ntmps-vs.toArray.size) undef,defers:=[] } w:=by
  refine⟨⟨c0,rfl,rfl,fun _ h=>h.elim,hI0,fun s=>?_,fun p hp=>(Gs.LK hp).elim⟩,by simp;omega,rfl⟩
  simp only [FY]
  by_cases hs:s<args.length
  ·obtain⟨u,hu,hr⟩:=BW.get (List.getElem?_eq_getElem hs)
   have e1:args.getD s .undef=args[s]:=by simp [List.getD,List.getElem?_eq_getElem hs]
   have e2:(vs.toArray++Array.replicate (fn.ntmps-vs.toArray.size) undef).getD s undef=u:=by
    have:s<vs.length:=by omega
    simp [this]at hu ⊢
    simp [Array.getElem?_append,this,hu]
   rw [e1]
   show aG c0 args[s] ((vs.toArray++Array.replicate (fn.ntmps-vs.toArray.size) undef).getD s undef)
   rw [e2]
   exact aG.jN hr
  ·have e1:args.getD s .undef = .undef:=by simp [List.getD,List.getElem?_eq_none (show args.length≤s by omega)]
   rw [e1]
   simp [aG,aK]
 refine h _ _ _ _ _ IE ?_
 have fin:∀σ' a' w',abG E fn.results.toList r σ'→Rel w S fn.ntmps Gs.none σ' a' w'→a'.defers = [] ∧ ∃v,(results fn a'.tmps).run E.P w' = .ok v w'∧(∃v',Ending.returned v = .returned v'∧Below w.heap.size w w' ∧
   ∃S':dZ,(∀b o,S b o→S' b o)∧(∀b o,S' b o→S b o∨(w.heap.size≤b∧b<w'.heap.size))∧dE S' w' r v'):=by
  rintro σ' a' w' hp ⟨⟨c,rfl,hr,gB,hI,hf,_⟩,hn,fK⟩
  refine⟨fK,?_⟩
  unfold abG at hp
  have xM:nG E ⟨σ'.f,c.rows,σ'.clock⟩ fn.results.toList fun vs=>eU c.rows (vs.flatMap dV)∧(vs.map (pz c.rows)).all dA=true∧r=vT (vs.map (pz c.rows)):=by
   rw [hr];exact hp
  have arP:∃vs us,(eU c.rows (vs.flatMap dV)∧(vs.map (pz c.rows)).all dA=true∧r=vT (vs.map (pz c.rows)))∧bC (aG c) vs us ∧
    (results fn a'.tmps).run E.P c.w = .ok (if h:us.toArray.size=1 then us.toArray[0]else .tuple us.toArray) c.w:=by
   have key:∀g:ResultVar→Sem Value,(∀t,g (.tmp t)=pure (a'.tmps.getD t undef))→(∀x t,g (.cell x t)=do loadVar t (←asAddr (a'.tmps.getD x undef))) →
     ∃vs us,(eU c.rows (vs.flatMap dV)∧(vs.map (pz c.rows)).all dA=true∧r=vT (vs.map (pz c.rows)))∧bC (aG c) vs us ∧
      (do let vs ←fn.results.mapM g;pure (if h:vs.size=1 then vs[0]else .tuple vs):Sem Value).run E.P c.w = .ok (if h:us.toArray.size=1 then us.toArray[0]else .tuple us.toArray) c.w:=by
    intro g X9 qZ
    obtain⟨vs,us,g1,g4,g5⟩:=sW hI hf X9 qZ _ _ xM
    refine⟨vs,us,g1,g4,?_⟩
    have:(fn.results.mapM g).run E.P c.w = .ok us.toArray c.w:=by
     rw [Array.mapM_eq_mapM_toList]
     simp [g5]
    rw [Sem.run_bind,this,Result.andThen_ok,Sem.run_pure]
   unfold results
   exact key _ (fun _=>rfl) (fun _ _=>rfl)
  obtain⟨vs,us,⟨g1,g2,g3⟩,g4,i3⟩:=arP
  have K6:=hI.freeze (vs.flatMap dV)
  have uP:bC (dE (QP c (vs.flatMap dV)) c.w) (vs.map (pz c.rows)) us:=by
   refine bC.cT (by simp [g4.length]) fun k p u hp hu=>?_
   simp at hp
   obtain⟨q,hq,rfl⟩:=hp
   obtain⟨u',q1,q2⟩:=g4.get hq
   rw [hu]at q1;cases q1
   exact H5 hI g1 q2 (fun id gD=>by simp only [List.mem_flatMap];exact⟨q,List.mem_of_getElem? hq,gD⟩) (List.all_eq_true.1 g2 _ (by simp;exact⟨q,List.mem_of_getElem? hq,rfl⟩))
  refine⟨_,i3,_,rfl,hI.below,QP c (vs.flatMap dV),fun b o h=>K6.ext b o h,fun b o h=>K6.new b o h,?_⟩
  rw [g3]
  have hl:=uP.length
  cases hm:vs.map (pz c.rows)with
  | nil =>
   rw [hm]at uP hl
   have:us = []:=List.eq_nil_of_length_eq_zero (by simpa using hl.symm)
   subst this
   simp only [vT,dE]
   exact⟨[],by simp,by simp [bP]⟩
  | cons p ps =>
   rw [hm]at uP hl
   match us,uP with
   | u::us,uP =>
    cases ps with
    | nil =>
     match us,uP with
     | [],uP=>simpa [vT]using uP.1
    | cons q qs =>
     have h2:¬(u::us).toArray.size=1:=by simp at hl ⊢;intro h;subst h;simp at hl
     rw [dif_neg h2]
     simp only [vT,dE]
     exact⟨_,rfl,cL.2 uP⟩
 intro x σ' a' w' hx lH
 cases x with
 | normal=>exact fin σ' a' w' hx lH
 | ret=>exact fin σ' a' w' hx lH
 | exit id=>exact hx.elim
end
section
variable {P:Program} {t:TypeId}
theorem aD{n:Nat}{v:Value}{z:List PV}(h:(P.info? t).bind (fun i=>i.zero.map fun v=>(i.size,v))=some (n,v))(hz:v.cells.toList.map jO=z)(h1:v.cells.all (·.oneCell')=true)(hl:z.length=n)(hp:0<n):mJ P t n z:=by
 refine⟨?_,hl,hp⟩
 cases hi:P.info? t with
 | none=>simp [hi]at h
 | some i =>
  cases n6:i.zero with
  | none=>simp [hi,n6]at h
  | some v0 =>
   simp [hi,n6]at h
   obtain⟨rfl,rfl⟩:=h
   exact⟨i,v0,rfl,n6,rfl,hz,h1⟩
theorem bZ{b:Nat}(h:(P.info? t).map (·.bytes)=some b):∃i,P.info? t=some i∧i.bytes=b:=by
 cases hi:P.info? t with
 | none=>simp [hi]at h
 | some i=>exact⟨i,rfl,by simpa [hi]using h⟩
theorem FZ{n:Nat}(h:(P.info? t).map (·.size)=some n):∃i,P.info? t=some i∧i.size=n:=by
 cases hi:P.info? t with
 | none=>simp [hi]at h
 | some i=>exact⟨i,rfl,by simpa [hi]using h⟩
theorem abI(h:(P.underlying t).isSome=true):∃d,P.underlying t=some d:=Option.isSome_iff_exists.1 h
def Q6(P:Program)(f:Field)(x:Nat × Nat × Bool):Bool:=
 f.offset==x.1&&(P.info? f.type).map (·.size)==some x.2.1&&decide (0<x.2.1)&&rH P f.type==x.2.2&&(P.underlying f.type).isSome
def sX(P:Program):List Field→List (Nat × Nat × Bool)→Bool
 | [],[]=>true
 | f::fs,x::xs=>Q6 P f x&&sX P fs xs
 | _,_=>false
theorem YA{f:Field}{x:Nat × Nat × Bool}(h:Q6 P f x=true):n4 P f x:=by
 simp only [Q6,Bool.and_eq_true,beq_iff_eq,decide_eq_true_eq]at h
 obtain⟨⟨⟨⟨h1,h2⟩,h3⟩,h4⟩,h5⟩:=h
 exact⟨h1,FZ h2,h3,h4,abI h5⟩
theorem CB:∀ {fs:List Field} {xs:List (Nat × Nat × Bool)},sX P fs xs=true→bC (n4 P) fs xs
 | [],[],_=>trivial
 | f::fs,x::xs,h=>by
  simp only [sX,Bool.and_eq_true]at h
  exact⟨YA h.1,CB h.2⟩
 | [],_::_,h=>by simp [sX]at h
 | _::_,[],h=>by simp [sX]at h
def UZ(P:Program)(t:TypeId)(xs:List (Nat × Nat × Bool)):Bool:=
 match P.underlying t with
 | some (.struct fields)=>sX P fields.toList xs
 | _=>false
theorem aT{xs:List (Nat × Nat × Bool)}(h:UZ P t xs=true):∃fields:Array Field,P.underlying t=some (.struct fields)∧bC (n4 P) fields.toList xs:=by
 unfold UZ at h
 split at h
 ·rename_i fields hu;exact⟨fields,hu,CB h⟩
 ·cases h
end
def W(E:Env)(n:Nat)(tl:Nat→Nat)(c:Code)(Q:PX→PS→Prop)(σ:PS):Prop:=
 eY E n tl c=true → ∀(w0:World) (S0:dZ) (G:Gs) (a:Act) (w:World) (Q':Exit→Act→World→Prop),Rel w0 S0 n G σ a w →
  (∀x σ' a' w',Q x σ'→Rel w0 S0 n G σ' a' w'→Q' (alG x) a' w')→c.wp E.P Q' a w
def Gh(n:Nat)(σ σ':PS):Prop:=∀(w0:World) (S0:dZ) (G:Gs) (a:Act) (w:World),Rel w0 S0 n G σ a w→Rel w0 S0 n G σ' a w
section
variable {E:Env} {n:Nat} {tl:Nat→Nat} {Q:PX→PS→Prop} {σ:PS}
theorem W.ghost{c:Code}{σ':PS}(h:Gh n σ σ')(hw:W E n tl c Q σ'):W E n tl c Q σ:=fun gO w0 S0 G a w Q' hR hQ=>hw gO w0 S0 G a w Q' (h _ _ _ _ _ hR) hQ
theorem W.mono{c:Code}{Q2:PX→PS→Prop}(hw:W E n tl c Q2 σ)(h:∀x σ,Q2 x σ→Q x σ):W E n tl c Q σ:=fun gO w0 S0 G a w Q' hR hQ=>hw gO w0 S0 G a w Q' hR fun x σ' a' w' hx=>hQ x σ' a' w' (h x σ' hx)
theorem W.skip(h:Q .normal σ):W E n tl .skip Q σ:=fun _ _ _ _ a w _ hR hQ=>wp_skip (hQ .normal σ a w h hR)
theorem W.ret(h:Q .ret σ):W E n tl .ret Q σ:=fun _ _ _ _ a w _ hR hQ=>wp_ret (hQ .ret σ a w h hR)
theorem W.exit{id:Nat}(h:Q (.exit id) σ):W E n tl (.exit id) Q σ:=fun _ _ _ _ a w _ hR hQ=>wp_exit (hQ (.exit id) σ a w h hR)
theorem W.L6{id:Nat}{ops:List Oper}(h:∀K:PS→Prop,(∀σ,Q .normal σ→K σ)→aM E ops ops K σ):W E n tl (.region id ops.toArray false) Q σ:=by
 intro gO w0 S0 G a w Q' hR hQ
 simp only [eY,rR,Bool.and_eq_true]at gO
 refine wp_region_list (iG (fun σ' a' w' hk lH=>hQ .normal σ' a' w' hk lH) _ σ a w (fun o ho t ht=>?_) (h _ fun _ h=>h) hR)
 have:=Array.all_eq_true_iff_forall_mem.1 gO.1 o (by simpa using ho)
 simpa [ht]using this
theorem W.abJ{id:Nat}{ops:List Oper}(h:∀K:PS→Prop,(∀σ,Q .normal σ→K σ)→gR E (tl id) ops K σ):W E n tl (.region id ops.toArray true) Q σ:=by
 intro gO w0 S0 G a w Q' hR hQ
 exact uB (by simpa [eY]using gO) (h _ fun _ h=>h) hR fun σ' a' w' hk lH=>hQ .normal σ' a' w' hk lH
theorem W.seq{x y:Code}(h:W E n tl x (E2 (W E n tl y Q) Q) σ):W E n tl (.seq x y) Q σ:=by
 intro gO w0 S0 G a w Q' hR hQ
 simp only [eY,Bool.and_eq_true]at gO
 refine wp_seq (h gO.1 w0 S0 G a w _ hR fun x σ' a' w' hx lH=>?_)
 cases x with
 | normal=>exact hx gO.2 w0 S0 G a' w' _ lH hQ
 | exit id=>exact hQ (.exit id) σ' a' w' hx lH
 | ret=>exact hQ .ret σ' a' w' hx lH
theorem W.Q7{id:Nat}{ops:List Oper}{y:Code}(h:∀K:PS→Prop,(∀σ,W E n tl y Q σ→K σ)→aM E ops ops K σ):W E n tl (.seq (.region id ops.toArray false) y) Q σ:=
 W.seq (W.L6 h)
theorem W.abK{id:Nat}{ops:List Oper}{y:Code}(h:∀K:PS→Prop,(∀σ,W E n tl y Q σ→K σ)→gR E (tl id) ops K σ):W E n tl (.seq (.region id ops.toArray true) y) Q σ:=
 W.seq (W.abJ h)
theorem W.cond{c:Operand}{t e:Code}(h:∃b,aP σ.f c = .bool b∧(b=true→W E n tl t Q σ)∧(b=false→W E n tl e Q σ)):W E n tl (.cond c t e) Q σ:=by
 intro gO w0 S0 G a w Q' hR hQ
 simp only [eY,Bool.and_eq_true]at gO
 obtain⟨b,hb,h1,h2⟩:=h
 obtain⟨cx,_,_,_,_,hf,_⟩:=hR.ex
 have:=mQ hf c
 rw [hb,dH]at this
 refine wp_cond this ?_
 cases b with
 | true=>exact h1 rfl gO.1 w0 S0 G a w Q' hR hQ
 | false=>exact h2 rfl gO.2 w0 S0 G a w Q' hR hQ
theorem W.block{id:Nat}{c:Code}(h:W E n tl c (E3 id Q) σ):W E n tl (.block id c) Q σ:=by
 intro gO w0 S0 G a w Q' hR hQ
 refine wp_block (h gO w0 S0 G a w _ hR fun x σ' a' w' hx lH=>?_)
 cases x with
 | normal=>exact hQ .normal σ' a' w' hx lH
 | exit j =>
  simp only [E3]at hx
  simp only [alG,Exit.inBlock]
  split at hx
  ·rename_i hj;rw [if_pos hj];exact hQ .normal σ' a' w' hx lH
  ·rename_i hj;rw [if_neg hj];exact hQ (.exit j) σ' a' w' hx lH
 | ret=>exact hQ .ret σ' a' w' hx lH
theorem W.loop{c:Code}(I:Nat→PS→Prop)(k:Nat)(h0:I k σ)(h1:∀k σ,I k σ→W E n tl c (E2 (fun σ'=>∃m,m<k∧I m σ') Q) σ):W E n tl (.loop c) Q σ:=by
 intro gO w0 S0 G a w Q' hR hQ
 refine wp_loop_ghost (fun k a w=>∃σ,I k σ∧Rel w0 S0 n G σ a w) k ⟨σ,h0,hR⟩ ?_
 rintro k a w ⟨σ,hI,hR⟩
 refine h1 k σ hI gO w0 S0 G a w _ hR fun x σ' a' w' hx lH=>?_
 cases x with
 | normal=>obtain⟨m,hm,p8⟩:=hx;exact⟨m,hm,σ',p8,lH⟩
 | exit id=>exact hQ (.exit id) σ' a' w' hx lH
 | ret=>exact hQ .ret σ' a' w' hx lH
end
theorem abL{E:Env}{y8:FuncId}{fn:Func}{code:Code}(tl:Nat→Nat){args:List PV}{r:PV}(h1:E.P.funcs[y8]? = some fn)(h2:fn.body=some code) (h3:(fn.name == "runtime.NumGoroutine") = false)
  (gO:eY E fn.ntmps tl code=true) (eT:args.length≤fn.ntmps) (h:W E fn.ntmps tl code (abH E fn.results.toList r) (FY args)):aE E.P y8 args r:=
 Q5 h1 h2 h3 eT fun w0 S0 a w Q' hR hQ=>h gO w0 S0 Gs.none a w Q' hR hQ
def go(P:Prop):Prop:=P
def aX(R:PV→Prop)(K:PV→Prop):Prop:=∃v,R v∧K v
def iY(p:PV)(want:Bool)(A B:Prop):Prop:=∃t,p = .bool t∧(t=want→A)∧(t=(!want)→B)
def stepG(p:PV)(want:Bool)(A B:Prop):Prop:=(p = .bool want∧A)∨((p = .bool (!want)∨p = .dU [])∧B)
def aH(A B:Prop):Prop:=A∧B
@[congr] theorem ai6{R R' K:PV→Prop}(h:∀v,R v=R' v):aX R K=aX R' K:=by rw [show R=R' from funext h]
@[congr] theorem ai7{p p':PV}{want:Bool}{A B:Prop}(h:p=p'):iY p want A B=iY p' want A B:=by rw [h]
@[congr] theorem ai8{p p':PV}{want:Bool}{A B:Prop}(h:p=p'):stepG p want A B=stepG p' want A B:=by rw [h]
@[congr] theorem ai9{A A' B:Prop}(h:A=A'):aH A B=aH A' B:=by rw [h]
@[congr] theorem alH{E:Env}{ops l:List Oper}{K:PS→Prop}{σ σ':PS}(h:σ=σ'):aM E ops l K σ=aM E ops l K σ':=by rw [h]
@[congr] theorem alI{E:Env}{ops l:List Oper}{clk k k':Nat}{K:PS→Prop}{σ σ':ST}(hk:k=k')(h:σ=σ'):aN E ops clk k l K σ=aN E ops clk k' l K σ':=by rw [hk,h]
@[congr] theorem alJ{md:Region.Mode}{ops:List Oper}{j j' k k':Nat}(hj:j=j')(hk:k=k'):q9 md ops j k=q9 md ops j' k':=by rw [hj,hk]
@[congr] theorem apt{md:Region.Mode}{ops:List Oper}{i i' id i9:Nat}{t t':Nat→Nat→Prop}(hi:i=i')(gD:id=i9)(ht:t=t'):y7 md ops i id t=y7 md ops i' i9 t':=by rw [hi,gD,ht]
@[congr] theorem alK{md:Region.Mode}{ops:List Oper}{i i':Nat}{t t':Nat→Nat→Prop}{rows rows':Rows}(hi:i=i')(ht:t=t')(hr:rows=rows'):eD md ops i t rows=eD md ops i' t' rows':=by rw [hi,ht,hr]
@[congr] theorem afy{E:Env}{tl:Nat}{l:List Oper}{K:PS→Prop}{σ σ':PS}(h:σ=σ'):gR E tl l K σ=gR E tl l K σ':=by rw [h]
@[congr] theorem av8{E:Env}{n:Nat}{tl:Nat→Nat}{c:Code}{Q:PX→PS→Prop}{σ σ':PS}(h:σ=σ'):W E n tl c Q σ=W E n tl c Q σ':=by rw [h]
theorem kJ{t:PV}{K:PV→Prop}:aX (fun v=>v=t) K=K t:=by simp [aX]
theorem YB{t:PV}{K:PV→Prop}:aX (fun v=>t=v) K=K t:=by simp [aX]
theorem j0{c:Prop}{R K:PV→Prop}:aX (fun v=>c∧R v) K=aH c (aX R K):=by
 apply propext;simp only [aX,aH]
 constructor
 ·rintro⟨v,⟨h1,h2⟩,h3⟩;exact⟨h1,v,h2,h3⟩
 ·rintro⟨h1,v,h2,h3⟩;exact⟨v,⟨h1,h2⟩,h3⟩
theorem abM{α:Type}{R:α→PV→Prop}{K:PV→Prop}:aX (fun v=>∃x,R x v) K = ∃x,aX (R x) K:=by
 apply propext;simp only [aX]
 constructor
 ·rintro⟨v,⟨x,h2⟩,h3⟩;exact⟨x,v,h2,h3⟩
 ·rintro⟨x,v,h2,h3⟩;exact⟨v,⟨x,h2⟩,h3⟩
theorem Q8{B:Prop}:aH True B=B:=by simp [aH]
theorem abN{A B:Prop}:iY (.bool true) true A B=A:=by simp [iY]
theorem abO{A B:Prop}:iY (.bool true) false A B=B:=by simp [iY]
theorem abP{A B:Prop}:iY (.bool false) true A B=B:=by simp [iY]
theorem abQ{A B:Prop}:stepG (.bool true) true A B=A:=by simp [stepG]
theorem abR{A B:Prop}:stepG (.bool true) false A B=B:=by simp [stepG]
theorem abS{A B:Prop}:stepG (.bool false) true A B=B:=by simp [stepG]
theorem abT{A B:Prop}:stepG (.bool false) false A B=A:=by simp [stepG]
theorem abU{w:Bool}{A B:Prop}:stepG (.dU []) w A B=B:=by simp [stepG]
theorem abV{A B:Prop}:iY (.bool false) false A B=A:=by simp [iY]
theorem CC{f:Nat→PV}{d j:Nat}{v:PV}:put f (some d) v j=if j=d then v else f j:=rfl
theorem abW{f:Nat→PV}{v:PV}:put f none v=f:=rfl
theorem alL{α:Type}{f:Nat→α}{i j:Nat}{x:α}:dW f i x j=if j=i then x else f j:=rfl
def fa:List (Nat × PV)→Nat→PV
 | [],_ => .undef
 | (i,v)::l,j=>if j=i then v else fa l j
theorem Q9{j:Nat}:fa [] j = .undef:=rfl
theorem IF{i j:Nat}{v:PV}{l:List (Nat × PV)}:fa ((i,v)::l) j=if j=i then v else fa l j:=rfl
section
variable {E:Env} {ops os:List Oper} {K:PS→Prop} {f:Nat→PV} {rows:Rows} {clk:Nat} {d:Option Tmp} {ty:TypeId} {pos:String} {af:Array Edge}
theorem aB(n:Nat)(l:List Nat):Gh n ⟨f,rows,clk⟩ ⟨fa (l.map fun i=>(i,f i)),rows,clk⟩:=by
 rintro w0 S0 G a w ⟨⟨c,h1,h2,h3,h4,h5,h6⟩,h7,h8⟩
 refine⟨⟨c,h1,h2,h3,h4,fun s=>?_,h6⟩,h7,h8⟩
 have:fa (l.map fun i=>(i,f i)) s=f s∨fa (l.map fun i=>(i,f i)) s = .undef:=by
  induction l with
  | nil=>exact .inr rfl
  | cons i l ih =>
   simp only [List.map_cons,fa]
   split
   ·rename_i h;rw [h];exact .inl rfl
   ·exact ih
 rcases this with h | h
 ·simp only;rw [h];exact h5 s
 ·simp only;rw [h];simp [aG,aK]
theorem W.live{n:Nat}{tl:Nat→Nat}{c:Code}{Q:PX→PS→Prop}(l:List Nat)(h:W E n tl c Q ⟨fa (l.map fun i=>(i,f i)),rows,clk⟩):W E n tl c Q ⟨f,rows,clk⟩:=W.ghost (aB n l) h
theorem RA{op:Op}{j:Nat}{want:Bool}:aM E ops (⟨d,op,ty,pos,af,some (j,want)⟩::os) K ⟨f,rows,clk⟩ =
  match (ops[j]?).bind (·.dst)with
  | none=>False
  | some e=>stepG (f e) want (aM E ops (⟨d,op,ty,pos,af,none⟩::os) K ⟨f,rows,clk⟩) (aM E ops os K ⟨put f d (.dU []),rows,clk⟩):=by
 simp only [aM]
 cases hx:(ops[j]?).bind (·.dst)with
 | none=>rfl
 | some e=>rfl
theorem cP{R:PV→Prop}{k:PV→Prop}(h:∀v,R v↔k v):(∃v u,(R v∧u=none)∧K ⟨put f d v,eF rows u,clk⟩)=aX k fun v=>K ⟨put f d v,rows,clk⟩:=by
 apply propext;simp only [aX]
 constructor
 ·rintro⟨v,u,⟨h1,rfl⟩,h2⟩;exact⟨v,(h v).1 h1,h2⟩
 ·rintro⟨v,h1,h2⟩;exact⟨v,none,⟨(h v).2 h1,rfl⟩,h2⟩
theorem YC{x:Operand}:aM E ops (⟨d, .move x,ty,pos,af,none⟩::os) K ⟨f,rows,clk⟩=aM E ops os K ⟨put f d (aP f x),rows,clk⟩:=by
 simp only [aM,fD,ys,yv]
 rw [cP (k:=fun v=>v=aP f x) (fun v=>Iff.rfl),kJ]
theorem L7{x:Operand}:aM E ops (⟨d, .assign x,ty,pos,af,none⟩::os) K ⟨f,rows,clk⟩=aM E ops os K ⟨put f d (aP f x),rows,clk⟩:=by
 simp only [aM,fD,ys,yv]
 rw [cP (k:=fun v=>v=aP f x) (fun v=>Iff.rfl),kJ]
theorem YD{c a b:Operand}:aM E ops (⟨d, .pick c a b,ty,pos,af,none⟩::os) K ⟨f,rows,clk⟩=iY (aP f c) true (aM E ops os K ⟨put f d (aP f a),rows,clk⟩) (aM E ops os K ⟨put f d (aP f b),rows,clk⟩):=by
 simp only [aM,fD,ys,yv]
 rw [cP (fun v=>Iff.rfl)]
 apply propext;simp only [aX,iY]
 constructor
 ·rintro⟨v,⟨t,h1,rfl⟩,h2⟩
  refine⟨t,h1,fun h=>?_,fun h=>?_⟩
  ·subst h;exact h2
  ·subst h;exact h2
 ·rintro⟨t,h1,h2,h3⟩
  cases t with
  | true=>exact⟨_,⟨true,h1,rfl⟩,h2 rfl⟩
  | false=>exact⟨_,⟨false,h1,rfl⟩,h3 rfl⟩
theorem abX{op:BinOp}{t t2:TypeId}{x y:Operand}:aM E ops (⟨d, .binOp op t x y t2,ty,pos,af,none⟩::os) K ⟨f,rows,clk⟩=aX (fun v=>HX E op t (aP f x) (aP f y) v) fun v=>aM E ops os K ⟨put f d v,rows,clk⟩:=by
 simp only [aM,fD,ys,yv]
 rw [cP (fun v=>Iff.rfl)]
theorem agd{op:UnOp}{t:TypeId}{x:Operand}:aM E ops (⟨d, .unOp op t x,ty,pos,af,none⟩::os) K ⟨f,rows,clk⟩=aX (fun v=>yun op (aP f x) v) fun v=>aM E ops os K ⟨put f d v,rows,clk⟩:=by
 simp only [aM,fD,ys,yv]
 rw [cP (k:=fun v=>yun op (aP f x) v) (fun v=>Iff.rfl)]
theorem YE{s t:TypeId}{x:Operand}:aM E ops (⟨d, .convert s t x,ty,pos,af,none⟩::os) K ⟨f,rows,clk⟩=aX (fun v=>tU (E.ty s) (E.ty t) (aP f x) v) fun v=>aM E ops os K ⟨put f d v,rows,clk⟩:=by
 simp only [aM,fD,ys,yv]
 rw [cP (k:=fun v=>tU (E.ty s) (E.ty t) (aP f x) v) (fun v=>Iff.rfl)]
theorem IH{i:Nat}{x:Operand}:aM E ops (⟨d, .extract x i,ty,pos,af,none⟩::os) K ⟨f,rows,clk⟩=aX (fun v=>P9 i (aP f x) v) fun v=>aM E ops os K ⟨put f d v,rows,clk⟩:=by
 simp only [aM,fD,ys,yv]
 rw [cP (k:=fun v=>P9 i (aP f x) v) (fun v=>Iff.rfl)]
theorem YF{t:TypeId}{x:Operand}:aM E ops (⟨d, .load t x,ty,pos,af,none⟩::os) K ⟨f,rows,clk⟩=aX (fun v=>tS E t rows (aP f x) v) fun v=>aM E ops os K ⟨put f d v,rows,clk⟩:=by
 simp only [aM,fD,ys,yv]
 rw [cP (fun v=>Iff.rfl)]
theorem RB{t:TypeId}{i:Nat}{x:Operand}:aM E ops (⟨d, .field t x i,ty,pos,af,none⟩::os) K ⟨f,rows,clk⟩=aX (fun v=>uJ E t i (aP f x) v) fun v=>aM E ops os K ⟨put f d v,rows,clk⟩:=by
 simp only [aM,fD,ys,yv]
 rw [cP (fun v=>Iff.rfl)]
theorem CD{t:TypeId}{i:Nat}{x:Operand}:aM E ops (⟨d, .fieldAddr t x i,ty,pos,af,none⟩::os) K ⟨f,rows,clk⟩=aX (fun v=>fV E t rows i (aP f x) v) fun v=>aM E ops os K ⟨put f d v,rows,clk⟩:=by
 simp only [aM,fD,ys,yv]
 rw [cP (fun v=>Iff.rfl)]
theorem CF{t:TypeId}{x y:Operand}:aM E ops (⟨d, .indexAddr t x y,ty,pos,af,none⟩::os) K ⟨f,rows,clk⟩=aX (fun v=>fW E t rows (aP f x) (aP f y) v) fun v=>aM E ops os K ⟨put f d v,rows,clk⟩:=by
 simp only [aM,fD,ys,yv]
 rw [cP (fun v=>Iff.rfl)]
theorem RC{t:TypeId}{x:Operand}{lo hi mx:Option Operand}:aM E ops (⟨d, .slice t x lo hi mx,ty,pos,af,none⟩::os) K ⟨f,rows,clk⟩=aX (fun v=>oP E t rows (aP f x) (lo.map (aP f)) (hi.map (aP f)) (mx.map (aP f)) v) fun v=>aM E ops os K ⟨put f d v,rows,clk⟩:=by
 simp only [aM,fD,ys,yv]
 rw [cP (fun v=>Iff.rfl)]
theorem RD{t:TypeId}{parts:Array (Nat × Operand)}:aM E ops (⟨d, .build t parts,ty,pos,af,none⟩::os) K ⟨f,rows,clk⟩=aX (fun v=>rJ (E.ty t) (parts.toList.map fun x=>(x.1,aP f x.2)) v) fun v=>aM E ops os K ⟨put f d v,rows,clk⟩:=by
 simp only [aM,fD,ys,yv]
 rw [cP (k:=fun v=>rJ (E.ty t) (parts.toList.map fun x=>(x.1,aP f x.2)) v) (fun v=>Iff.rfl)]
theorem RF{t:TypeId}{x y:Operand}:aM E ops (⟨d, .index t x y,ty,pos,af,none⟩::os) K ⟨f,rows,clk⟩=aX (fun v=>uK E (E.ty t) (aP f x) (aP f y) v) fun v=>aM E ops os K ⟨put f d v,rows,clk⟩:=by
 simp only [aM,fD,ys,yv]
 rw [cP (k:=fun v=>uK E (E.ty t) (aP f x) (aP f y) v) (fun v=>Iff.rfl)]
theorem abY{t:TypeId}{x:Operand}:aM E ops (⟨d, .call { callee:=.builtin .len,args:=⟨[x]⟩,argTypes:=⟨[t]⟩ },ty,pos,af,none⟩::os) K ⟨f,rows,clk⟩=aX (fun v=>yS (E.ty t) rows (aP f x) v) fun v=>aM E ops os K ⟨put f d v,rows,clk⟩:=by
 simp only [aM,fD,ys,yv]
 rw [cP (k:=fun v=>yS (E.ty t) rows (aP f x) v) (fun v=>Iff.rfl)]
theorem E4{x:Operand}:aM E ops (⟨d, .nilCheck x,ty,pos,af,none⟩::os) K ⟨f,rows,clk⟩=aX (fun v=>ET rows (aP f x) v) fun v=>aM E ops os K ⟨put f d v,rows,clk⟩:=by
 simp only [aM,fD,ys,yv]
 rw [cP (k:=fun v=>ET rows (aP f x) v) (fun v=>Iff.rfl)]
theorem abZ{ts:Array TypeId}{x y:Operand}:aM E ops (⟨d, .call { callee:=.builtin .max,args:=⟨[x,y]⟩,argTypes:=ts },ty,pos,af,none⟩::os) K ⟨f,rows,clk⟩=aX (fun v=>QC (aP f x) (aP f y) v) fun v=>aM E ops os K ⟨put f d v,rows,clk⟩:=by
 simp only [aM,fD,ys,yv]
 rw [cP (fun v=>Iff.rfl)]
theorem ab0{ts:Array TypeId}{x y:Operand}:aM E ops (⟨d, .call { callee:=.builtin .min,args:=⟨[x,y]⟩,argTypes:=ts },ty,pos,af,none⟩::os) K ⟨f,rows,clk⟩=aX (fun v=>QD (aP f x) (aP f y) v) fun v=>aM E ops os K ⟨put f d v,rows,clk⟩:=by
 simp only [aM,fD,ys,yv]
 rw [cP (fun v=>Iff.rfl)]
theorem AB{t:TypeId}{len:Nat}{parts:Array (Nat × Operand)}:aM E ops (⟨d, .buildSlice t len parts,ty,pos,af,none⟩::os) K ⟨f,rows,clk⟩=aX (fun v=>QQ (E.ty t) rows len (parts.toList.map fun x=>(x.1,aP f x.2)) v) fun v=>aM E ops os K ⟨put f d v,rows,clk⟩:=by
 simp only [aM,fD,ys]
 rw [cP (fun v=>Iff.rfl)]
theorem RG{t:TypeId}{p x:Operand}:aM E ops (⟨none, .store t p x,ty,pos,af,none⟩::os) K ⟨f,rows,clk⟩ = ∃id r,rN E t rows (aP f p) (aP f x) .undef (some (id,r))∧aM E ops os K ⟨f,dW rows id (some r),clk⟩:=by
 simp only [aM,fD,ys]
 apply propext
 constructor
 ·rintro⟨v,u,h,h2⟩
  have h':=h
  obtain⟨_,rfl,h3⟩:=h
  split at h3
  ·obtain⟨_,_,_,_,_,_,_,_,_,_,rfl⟩:=h3
   exact⟨_,_,h',h2⟩
  ·exact h3.elim
 ·rintro⟨id,r,h,h2⟩;exact⟨.undef,some (id,r),h,h2⟩
theorem RH{t:TypeId}:aM E ops (⟨d, .alloc t,ty,pos,af,none⟩::os) K ⟨f,rows,clk⟩=aH ((E.ty t).known=true) (aM E ops os K ⟨put f d (.ptr (d.getD 0) clk 0 0),dW rows (d.getD 0) (some ⟨clk,t,(E.ty t).size,[(E.ty t).zero]⟩),clk+1⟩):=rfl
theorem ab3{t:TypeId}{x:Operand}:aM E ops (⟨d, .box t x,ty,pos,af,none⟩::os) K ⟨f,rows,clk⟩=aH ((E.ty t).known=true) (∃l,cE (aP f x)=some l∧(∀q∈l,iT rows q)∧l.length=(E.ty t).size∧aM E ops os K ⟨put f d (.ptr (d.getD 0) clk 0 0),dW rows (d.getD 0) (some ⟨clk,t,(E.ty t).size,[l]⟩),clk+1⟩):=rfl
def rS(t:TI)(x y:PV)(K:TypeId→Nat→List PV→Int→Prop):Prop:=
 match t,x,y with
 | .slice e n b z, .int _ x, .int _ y=>aH (0≤x∧x≤y∧y.toNat≤room∧y.toNat*b≤room) (K e n z x)
 | _,_,_=>False
theorem CG{t:TypeId}{l c:Operand}:aM E ops (⟨d, .makeSlice t l c,ty,pos,af,none⟩::os) K ⟨f,rows,clk⟩=rS (E.ty t) (aP f l) (aP f c) fun e n z x=>aM E ops os K ⟨put f d (.own (d.getD 0) clk 0 x.toNat),dW rows (d.getD 0) (some ⟨clk,e,n,List.replicate x.toNat z⟩),clk+1⟩:=by
 simp only [aM,fD,rS,H9]
 generalize E.ty t=T
 generalize aP f l=A
 generalize aP f c=B
 cases T with
 | slice e n b z =>
  cases A with
  | int k x =>
   cases B with
   | int k2 y=>simp only [aH,and_assoc]
   | _=>rfl
  | _=>rfl
 | _=>rfl
def YH(t:TI)(rows:Rows)(x y:PV)(clk d:Nat)(K:PV→Rows→Nat→Prop):Prop:=
 match t with
 | .slice e n b _ =>
  ∃l,rO rows y l∧(∀e∈l,e.length=n) ∧
  match x with
  | .nil=>aH (l.length≤room∧l.length*b≤room) (K (.own d clk 0 l.length) (dW rows d (some ⟨clk,e,n,l⟩)) (clk+1))
  | .own id ver off len=>∃r,rows id=some r∧r.ver=ver∧off=0∧len≤r.els.length∧r.e=e∧r.size=n∧aH (len+l.length≤room∧(len+l.length)*b≤room) (K (.own id clk 0 (len+l.length)) (dW rows id (some ⟨clk,e,n,r.els.take len++l⟩)) (clk+1))
  | .iR l0=>(∀e∈l0,e.length=n)∧(∀e∈l,∀p∈e,bI p=true)∧aH (l0.length+l.length≤room∧(l0.length+l.length)*b≤room) (K (.sl (l0++l)) rows clk)
  | _=>False
 | _=>False
theorem L8{t t2:TypeId}{x y:Operand}:aM E ops (⟨d, .call { callee:=.builtin .append,args:=⟨[x,y]⟩,argTypes:=⟨[t,t2]⟩ },ty,pos,af,none⟩::os) K ⟨f,rows,clk⟩ =
  aH (t2=t∨slT (E.ty t2)=true) (YH (E.ty t) rows (aP f x) (aP f y) clk (d.getD 0) fun v rows clk=>aM E ops os K ⟨put f d v,rows,clk⟩):=by
 simp only [aM,fD,IA,YH,H9,aH,PS.put]
 congr 1
 generalize E.ty t=T
 generalize aP f x=A
 cases T with
 | slice e n b z =>
  simp only
  congr 1
  funext l
  congr 2
  cases A with
  | nil=>simp only [and_assoc]
  | own id ver off len=>simp only [and_assoc]
  | iR l0=>simp only [and_assoc]
  | _=>rfl
 | _=>rfl
end
def vU(P:Program)(g:FuncId)(args:List PV)(K:PV→Prop):Prop:=∃v,aE P g args v∧K v
@[congr] theorem aja{P:Program}{g:FuncId}{args L9:List PV}{K:PV→Prop}(h:args=L9):vU P g args K=vU P g L9 K:=by rw [h]
def rT(E:Env)(p:PV)(eX:List PV)(rows:Rows)(clk:Nat)(K:PV→Rows→Nat→Prop):Prop:=
 match p with
 | .fn g caps=>if (E.writes g || E.HW g)=true then caps = []∧vO E.P g eX rows clk K else aH ((eX.map (pz rows)).all dA=true∧eU rows (eX.flatMap dV)) (vU E.P g (eX.map (pz rows)++caps) fun v=>K v (FT rows (eX.flatMap dV)) clk)
 | _=>False
@[congr] theorem age{E:Env}{p p':PV}{eX rU:List PV}{rows rows':Rows}{clk gZ:Nat}{K:PV→Rows→Nat→Prop}(h1:p=p')(h2:eX=rU)(h3:rows=rows')(h4:clk=gZ):rT E p eX rows clk K=rT E p' rU rows' gZ K:=by rw [h1,h2,h3,h4]
@[congr] theorem ajb{P:Program}{g:FuncId}{eX rU:List PV}{rows:Rows}{clk:Nat}{K:PV→Rows→Nat→Prop}(h:eX=rU):vO P g eX rows clk K=vO P g rU rows clk K:=by rw [h]
@[congr] theorem ajc{t t':TI}{x x' y y':PV}{K:TypeId→Nat→List PV→Int→Prop}(h1:t=t')(h2:x=x')(h3:y=y'):rS t x y K=rS t' x' y' K:=by rw [h1,h2,h3]
@[congr] theorem alM{t t':TI}{rows rows':Rows}{x x' y y':PV}{clk gZ d d':Nat}{K:PV→Rows→Nat→Prop}(h1:t=t')(h2:rows=rows')(h3:x=x')(h4:y=y')(h5:clk=gZ)(h6:d=d') :
  YH t rows x y clk d K=YH t' rows' x' y' gZ d' K:=by rw [h1,h2,h3,h4,h5,h6]
section
variable {E:Env} {ops os:List Oper} {K:PS→Prop} {f:Nat→PV} {rows:Rows} {clk:Nat} {d:Option Tmp} {ty:TypeId} {pos:String} {af:Array Edge}
theorem YI{fo:Operand}{args:Array Operand}{ts:Array TypeId}:aM E ops (⟨d, .call { callee:=.value fo,args:=args,argTypes:=ts },ty,pos,af,none⟩::os) K ⟨f,rows,clk⟩ =
  rT E (aP f fo) (args.toList.map (aP f)) rows clk fun v rows clk=>aM E ops os K ⟨put f d v,rows,clk⟩:=by
 simp only [aM,fD,yX,rT,QR,aH,vU]
 generalize aP f fo=A
 have e1:(args.toList.map fun x=>pz rows (aP f x))=(args.toList.map (aP f)).map (pz rows):=by rw [List.map_map];rfl
 have e2:(args.toList.flatMap fun x=>dV (aP f x))=(args.toList.map (aP f)).flatMap dV:=by rw [List.flatMap_map]
 rw [e1,e2]
 cases A with
 | fn g caps =>
  have hm:alj E (.fn g caps)=(E.writes g || E.HW g):=rfl
  by_cases hw:(E.writes g || E.HW g)=true
  ·rw [hm,if_pos hw]
   cases caps with
   | nil=>simp [hw]
   | cons x l=>simp [hw]
  rw [hm,if_neg hw]
  simp only [if_neg hw]
  apply propext
  constructor
  ·rintro⟨v,⟨h1,h2⟩,h3,h4⟩;exact⟨⟨h1,h3⟩,v,h2,h4⟩
  ·rintro⟨⟨h1,h3⟩,v,h2,h4⟩;exact⟨v,⟨h1,h2⟩,h3,h4⟩
 | _=>simp [alj]
theorem E5{g:FuncId}{caps:Array Operand}:aM E ops (⟨d, .makeFunc (.func g) ⟨[]⟩ caps,ty,pos,af,none⟩::os) K ⟨f,rows,clk⟩ =
  aH (((caps.toList.map (aP f)).map (pz rows)).all dA=true∧eU rows ((caps.toList.map (aP f)).flatMap dV))
   (aM E ops os K ⟨put f d (.fn g ((caps.toList.map (aP f)).map (pz rows))),FT rows ((caps.toList.map (aP f)).flatMap dV),clk⟩):=by
 simp only [aM,fD,aH,and_assoc]
 have e1:(caps.toList.map fun x=>pz rows (aP f x))=(caps.toList.map (aP f)).map (pz rows):=by rw [List.map_map];rfl
 have e2:(caps.toList.flatMap fun x=>dV (aP f x))=(caps.toList.map (aP f)).flatMap dV:=by rw [List.flatMap_map]
 rw [e1,e2]
def i6(k:Nat)(l:List Nat)(t:Nat→Nat→Prop):Nat→Nat→Prop:=fun k' id=>(true=true∧k'=k∧id∈l)∨t k' id
def nV(k id:Nat)(w:Nat→Nat→Prop):Nat→Nat→Prop:=fun k' i9=>(k'=k∧i9=id)∨w k' i9
variable {k:Nat} {bQ:Nat→Nat→Prop} {aL:Nat→Nat→Prop}
theorem RJ{op:Op}{j:Nat}{want:Bool}:aN E ops clk k (⟨d,op,ty,pos,af,some (j,want)⟩::os) K ⟨f,rows,bQ,aL⟩ =
  match (ops[j]?).bind (·.dst)with
  | none=>False
  | some e=>stepG (f e) want (aN E ops clk k (⟨d,op,ty,pos,af,none⟩::os) K ⟨f,rows,bQ,aL⟩) (aN E ops clk (k+1) os K ⟨put f d (.dU []),rows,bQ,aL⟩):=by
 have e3:app k ⟨d,op,ty,pos,af,some (j,want)⟩ false (.dU []) none ⟨f,rows,bQ,aL⟩=⟨put f d (.dU []),rows,bQ,aL⟩:=by simp [app,eF,wlU]
 simp only [aN,e3]
 cases hx:(ops[j]?).bind (·.dst)with
 | none=>rfl
 | some e=>rfl
theorem dB{o:Oper}{R:PV→Prop}{kk:PV→Prop}{st:ST}(h:∀v,R v↔kk v):(∃v u,(R v∧u=none)∧LX .any ops k u bQ∧aN E ops clk (k+1) os K (app k o true v u st))=aX kk fun v=>aN E ops clk (k+1) os K (app k o true v none st):=by
 apply propext;simp only [aX]
 constructor
 ·rintro⟨v,u,⟨h1,rfl⟩,_,h2⟩;exact⟨v,(h v).1 h1,h2⟩
 ·rintro⟨v,h1,h2⟩;exact⟨v,none,⟨(h v).2 h1,rfl⟩,trivial,h2⟩
theorem fQ{op:Op}{v:PV}(h:iF op (aP f) = []):app k ⟨d,op,ty,pos,af,none⟩ true v none ⟨f,rows,bQ,aL⟩=⟨put f d v,rows,bQ,aL⟩:=by simp [app,eF,wlU,h]
theorem sY{op:Op}{v:PV}{l:List Nat}(h:iF op (aP f)=l):app k ⟨d,op,ty,pos,af,none⟩ true v none ⟨f,rows,bQ,aL⟩=⟨put f d v,rows,i6 k l bQ,aL⟩:=by subst h;rfl
theorem YJ{x:Operand}:aN E ops clk k (⟨d, .move x,ty,pos,af,none⟩::os) K ⟨f,rows,bQ,aL⟩=aN E ops clk (k+1) os K ⟨put f d (aP f x),rows,bQ,aL⟩:=by
 simp only [aN,yn,i5,ys,yv]
 rw [dB (kk:=fun v=>v=aP f x) (fun v=>Iff.rfl),kJ,fQ rfl]
theorem MA{x:Operand}:aN E ops clk k (⟨d, .assign x,ty,pos,af,none⟩::os) K ⟨f,rows,bQ,aL⟩=aN E ops clk (k+1) os K ⟨put f d (aP f x),rows,bQ,aL⟩:=by
 simp only [aN,yn,i5,ys,yv]
 rw [dB (kk:=fun v=>v=aP f x) (fun v=>Iff.rfl),kJ,fQ rfl]
theorem YK{c a b:Operand}:aN E ops clk k (⟨d, .pick c a b,ty,pos,af,none⟩::os) K ⟨f,rows,bQ,aL⟩=iY (aP f c) true (aN E ops clk (k+1) os K ⟨put f d (aP f a),rows,bQ,aL⟩) (aN E ops clk (k+1) os K ⟨put f d (aP f b),rows,bQ,aL⟩):=by
 simp only [aN,yn,i5,ys,yv]
 rw [dB (fun v=>Iff.rfl)]
 apply propext;simp only [aX,iY,fQ (op:=.pick c a b) rfl]
 constructor
 ·rintro⟨v,⟨t,h1,rfl⟩,h2⟩
  refine⟨t,h1,fun h=>?_,fun h=>?_⟩
  ·subst h;exact h2
  ·subst h;exact h2
 ·rintro⟨t,h1,h2,h3⟩
  cases t with
  | true=>exact⟨_,⟨true,h1,rfl⟩,h2 rfl⟩
  | false=>exact⟨_,⟨false,h1,rfl⟩,h3 rfl⟩
theorem ab4{op:BinOp}{t t2:TypeId}{x y:Operand}:aN E ops clk k (⟨d, .binOp op t x y t2,ty,pos,af,none⟩::os) K ⟨f,rows,bQ,aL⟩=aX (fun v=>HX E op t (aP f x) (aP f y) v) fun v=>aN E ops clk (k+1) os K ⟨put f d v,rows,bQ,aL⟩:=by
 simp only [aN,yn,i5,ys,yv];rw [dB (fun v=>Iff.rfl)];simp only [fQ (op:=.binOp op t x y t2) rfl]
theorem agf{op:UnOp}{t:TypeId}{x:Operand}:aN E ops clk k (⟨d, .unOp op t x,ty,pos,af,none⟩::os) K ⟨f,rows,bQ,aL⟩=aX (fun v=>yun op (aP f x) v) fun v=>aN E ops clk (k+1) os K ⟨put f d v,rows,bQ,aL⟩:=by
 simp only [aN,yn,i5,ys,yv];rw [dB (fun v=>Iff.rfl)];simp only [fQ (op:=.unOp op t x) rfl]
theorem YL{s t:TypeId}{x:Operand}:aN E ops clk k (⟨d, .convert s t x,ty,pos,af,none⟩::os) K ⟨f,rows,bQ,aL⟩=aX (fun v=>tU (E.ty s) (E.ty t) (aP f x) v) fun v=>aN E ops clk (k+1) os K ⟨put f d v,rows,bQ,aL⟩:=by
 simp only [aN,yn,i5,ys,yv];rw [dB (fun v=>Iff.rfl)];simp only [fQ (op:=.convert s t x) rfl]
theorem II{i:Nat}{x:Operand}:aN E ops clk k (⟨d, .extract x i,ty,pos,af,none⟩::os) K ⟨f,rows,bQ,aL⟩=aX (fun v=>P9 i (aP f x) v) fun v=>aN E ops clk (k+1) os K ⟨put f d v,rows,bQ,aL⟩:=by
 simp only [aN,yn,i5,ys,yv];rw [dB (fun v=>Iff.rfl)];simp only [fQ (op:=.extract x i) rfl]
theorem YM{t:TypeId}{x:Operand}:aN E ops clk k (⟨d, .load t x,ty,pos,af,none⟩::os) K ⟨f,rows,bQ,aL⟩=aX (fun v=>tS E t (eD .any ops k aL rows) (aP f x) v) fun v=>aN E ops clk (k+1) os K ⟨put f d v,rows,i6 k (aU (aP f x)) bQ,aL⟩:=by
 simp only [aN,yn,i5,ys,yv];rw [dB (fun v=>Iff.rfl)];simp only [sY (op:=.load t x) rfl];rfl
theorem RK{t:TypeId}{i:Nat}{x:Operand}:aN E ops clk k (⟨d, .field t x i,ty,pos,af,none⟩::os) K ⟨f,rows,bQ,aL⟩=aX (fun v=>uJ E t i (aP f x) v) fun v=>aN E ops clk (k+1) os K ⟨put f d v,rows,bQ,aL⟩:=by
 simp only [aN,yn,i5,ys,yv];rw [dB (fun v=>Iff.rfl)];simp only [fQ (op:=.field t x i) rfl]
theorem CI{t:TypeId}{i:Nat}{x:Operand}:aN E ops clk k (⟨d, .fieldAddr t x i,ty,pos,af,none⟩::os) K ⟨f,rows,bQ,aL⟩=aX (fun v=>fV E t (eD .any ops k aL rows) i (aP f x) v) fun v=>aN E ops clk (k+1) os K ⟨put f d v,rows,i6 k (aU (aP f x)) bQ,aL⟩:=by
 simp only [aN,yn,i5,ys,yv];rw [dB (fun v=>Iff.rfl)];simp only [sY (op:=.fieldAddr t x i) rfl];rfl
theorem CJ{t:TypeId}{x y:Operand}:aN E ops clk k (⟨d, .indexAddr t x y,ty,pos,af,none⟩::os) K ⟨f,rows,bQ,aL⟩=aX (fun v=>fW E t (eD .any ops k aL rows) (aP f x) (aP f y) v) fun v=>aN E ops clk (k+1) os K ⟨put f d v,rows,i6 k (aU (aP f x)) bQ,aL⟩:=by
 simp only [aN,yn,i5,ys,yv];rw [dB (fun v=>Iff.rfl)];simp only [sY (op:=.indexAddr t x y) rfl];rfl
theorem RL{t:TypeId}{x:Operand}{lo hi mx:Option Operand}:aN E ops clk k (⟨d, .slice t x lo hi mx,ty,pos,af,none⟩::os) K ⟨f,rows,bQ,aL⟩=aX (fun v=>oP E t (eD .any ops k aL rows) (aP f x) (lo.map (aP f)) (hi.map (aP f)) (mx.map (aP f)) v) fun v=>aN E ops clk (k+1) os K ⟨put f d v,rows,i6 k (aU (aP f x)) bQ,aL⟩:=by
 simp only [aN,yn,i5,ys,yv];rw [dB (fun v=>Iff.rfl)];simp only [sY (op:=.slice t x lo hi mx) rfl];rfl
theorem RM{t:TypeId}{parts:Array (Nat × Operand)}:aN E ops clk k (⟨d, .build t parts,ty,pos,af,none⟩::os) K ⟨f,rows,bQ,aL⟩=aX (fun v=>rJ (E.ty t) (parts.toList.map fun x=>(x.1,aP f x.2)) v) fun v=>aN E ops clk (k+1) os K ⟨put f d v,rows,bQ,aL⟩:=by
 simp only [aN,yn,i5,ys,yv];rw [dB (fun v=>Iff.rfl)];simp only [fQ (op:=.build t parts) rfl]
theorem ab5{t:TypeId}{x:Operand}:aN E ops clk k (⟨d, .call { callee:=.builtin .len,args:=⟨[x]⟩,argTypes:=⟨[t]⟩ },ty,pos,af,none⟩::os) K ⟨f,rows,bQ,aL⟩=aX (fun v=>yS (E.ty t) (eD .any ops k aL rows) (aP f x) v) fun v=>aN E ops clk (k+1) os K ⟨put f d v,rows,i6 k (aU (aP f x)) bQ,aL⟩:=by
 simp only [aN,yn,i5,ys,yv];rw [dB (fun v=>Iff.rfl)];simp only [sY (op:=.call { callee:=.builtin .len,args:=⟨[x]⟩,argTypes:=⟨[t]⟩ }) rfl];rfl
theorem E6{x:Operand}:aN E ops clk k (⟨d, .nilCheck x,ty,pos,af,none⟩::os) K ⟨f,rows,bQ,aL⟩=aX (fun v=>ET (eD .any ops k aL rows) (aP f x) v) fun v=>aN E ops clk (k+1) os K ⟨put f d v,rows,i6 k (aU (aP f x)) bQ,aL⟩:=by
 simp only [aN,yn,i5,ys,yv];rw [dB (fun v=>Iff.rfl)];simp only [sY (op:=.nilCheck x) rfl];rfl
theorem ab6{ts:Array TypeId}{x y:Operand}:aN E ops clk k (⟨d, .call { callee:=.builtin .max,args:=⟨[x,y]⟩,argTypes:=ts },ty,pos,af,none⟩::os) K ⟨f,rows,bQ,aL⟩=aX (fun v=>QC (aP f x) (aP f y) v) fun v=>aN E ops clk (k+1) os K ⟨put f d v,rows,bQ,aL⟩:=by
 simp only [aN,yn,i5,ys,yv];rw [dB (fun v=>Iff.rfl)];simp only [fQ (op:=.call { callee:=.builtin .max,args:=⟨[x,y]⟩,argTypes:=ts }) rfl]
theorem ab7{ts:Array TypeId}{x y:Operand}:aN E ops clk k (⟨d, .call { callee:=.builtin .min,args:=⟨[x,y]⟩,argTypes:=ts },ty,pos,af,none⟩::os) K ⟨f,rows,bQ,aL⟩=aX (fun v=>QD (aP f x) (aP f y) v) fun v=>aN E ops clk (k+1) os K ⟨put f d v,rows,bQ,aL⟩:=by
 simp only [aN,yn,i5,ys,yv];rw [dB (fun v=>Iff.rfl)];simp only [fQ (op:=.call { callee:=.builtin .min,args:=⟨[x,y]⟩,argTypes:=ts }) rfl]
theorem E7{g:FuncId}{caps:Array Operand}:aN E ops clk k (⟨d, .makeFunc (.func g) ⟨[]⟩ caps,ty,pos,af,none⟩::os) K ⟨f,rows,bQ,aL⟩=aH ((caps.toList.map fun x=>aP f x).all dA=true) (aN E ops clk (k+1) os K ⟨put f d (.fn g (caps.toList.map fun x=>aP f x)),rows,bQ,aL⟩):=by
 simp only [aN,yn,i5,ys,yv]
 rw [dB (fun v=>Iff.rfl),j0,kJ];simp only [fQ (op:=.makeFunc (.func g) ⟨[]⟩ caps) rfl]
theorem AD{t:TypeId}{len:Nat}{parts:Array (Nat × Operand)}:aN E ops clk k (⟨d, .buildSlice t len parts,ty,pos,af,none⟩::os) K ⟨f,rows,bQ,aL⟩=aX (fun v=>QQ (E.ty t) (eD .any ops k aL rows) len (parts.toList.map fun x=>(x.1,aP f x.2)) v) fun v=>aN E ops clk (k+1) os K ⟨put f d v,rows,bQ,aL⟩:=by
 simp only [aN,yn,i5,ys];rw [dB (fun v=>Iff.rfl)];simp only [fQ (op:=.buildSlice t len parts) rfl]
theorem RN{t:TypeId}{p x:Operand}:aN E ops clk k (⟨none, .store t p x,ty,pos,af,none⟩::os) K ⟨f,rows,bQ,aL⟩ =
  ∃id r,rN E t (eD .any ops k aL rows) (aP f p) (aP f x) .undef (some (id,r))∧y7 .any ops k id bQ∧aN E ops clk (k+1) os K ⟨f,dW rows id (some r),i6 k (aU (aP f p)++((cE (aP f x)).getD []).flatMap aU) bQ,nV k id aL⟩:=by
 simp only [aN,yn,i5,ys]
 apply propext
 constructor
 ·rintro⟨v,u,h,h1,h2⟩
  have h':=h
  obtain⟨_,rfl,h3⟩:=h
  split at h3
  ·obtain⟨_,_,_,_,_,_,_,_,_,_,rfl⟩:=h3
   exact⟨_,_,h',h1,h2⟩
  ·exact h3.elim
 ·rintro⟨id,r,h,h1,h2⟩;exact⟨.undef,some (id,r),h,h1,h2⟩
theorem ab8{o:Oper}{R:PV→Option (Nat × Row)→Prop}{C:Prop}{v0:PV}{e:Nat}{r0:Row}{st:ST}{gZ:Nat}(h:∀v u,R v u↔(C∧v=v0∧u=some (e,r0))):(∃v u,R v u∧LX .any ops k u bQ∧aN E ops gZ (k+1) os K (app k o true v u st))=aH (C∧y7 .any ops k e bQ) (aN E ops gZ (k+1) os K (app k o true v0 (some (e,r0)) st)):=by
 apply propext;simp only [aH]
 constructor
 ·rintro⟨v,u,h1,h2,h3⟩
  obtain⟨hc,rfl,rfl⟩:=(h v u).1 h1
  exact⟨⟨hc,h2⟩,h3⟩
 ·rintro⟨⟨h1,h2⟩,h3⟩;exact⟨v0,_,(h _ _).2 ⟨h1,rfl,rfl⟩,h2,h3⟩
theorem vV{op:Op}{v:PV}{e:Nat}{r0:Row}(h:iF op (aP f) = []):app k ⟨d,op,ty,pos,af,none⟩ true v (some (e,r0)) ⟨f,rows,bQ,aL⟩=⟨put f d v,dW rows e (some r0),bQ,nV k e aL⟩:=by simp only [app,eF,wlU,h,List.not_mem_nil,and_false,false_or];rfl
theorem RO{t:TypeId}:aN E ops clk k (⟨d, .alloc t,ty,pos,af,none⟩::os) K ⟨f,rows,bQ,aL⟩=aH ((E.ty t).known=true∧y7 .any ops k (d.getD 0) bQ) (aN E ops (clk+1) (k+1) os K ⟨put f d (.ptr (d.getD 0) clk 0 0),dW rows (d.getD 0) (some ⟨clk,t,(E.ty t).size,[(E.ty t).zero]⟩),bQ,nV k (d.getD 0) aL⟩):=by
 simp only [aN,yn,i5]
 rw [ab8 (C:=(E.ty t).known=true) (v0:=.ptr (d.getD 0) clk 0 0) (e:=d.getD 0) (r0:=⟨clk,t,(E.ty t).size,[(E.ty t).zero]⟩) (fun v u=>by simp),vV (op:=.alloc t) rfl]
theorem ab9{t:TypeId}{x:Operand}:aN E ops clk k (⟨d, .box t x,ty,pos,af,none⟩::os) K ⟨f,rows,bQ,aL⟩=aH ((E.ty t).known=true) (∃l,cE (aP f x)=some l∧((∀q∈l,iT (fun _=>none) q)∧l.length=(E.ty t).size∧y7 .any ops k (d.getD 0) bQ) ∧
  aN E ops (clk+1) (k+1) os K ⟨put f d (.ptr (d.getD 0) clk 0 0),dW rows (d.getD 0) (some ⟨clk,t,(E.ty t).size,[l]⟩),bQ,nV k (d.getD 0) aL⟩):=by
 simp only [aN,yn,i5]
 apply propext
 constructor
 ·rintro⟨v,u,⟨h1,l,h2,h3,h4,rfl,rfl⟩,h5,h6⟩
  rw [vV (op:=.box t x) rfl]at h6
  exact⟨h1,l,h2,⟨h3,h4,h5⟩,h6⟩
 ·rintro⟨h1,l,h2,⟨h3,h4,h5⟩,h6⟩
  refine⟨_,_,⟨h1,l,h2,h3,h4,rfl,rfl⟩,h5,?_⟩
  rw [vV (op:=.box t x) rfl];exact h6
theorem CK{t:TypeId}{l c:Operand}:aN E ops clk k (⟨d, .makeSlice t l c,ty,pos,af,none⟩::os) K ⟨f,rows,bQ,aL⟩=rS (E.ty t) (aP f l) (aP f c) fun e n z x=>aH (y7 .any ops k (d.getD 0) bQ) (aN E ops (clk+1) (k+1) os K ⟨put f d (.own (d.getD 0) clk 0 x.toNat),dW rows (d.getD 0) (some ⟨clk,e,n,List.replicate x.toNat z⟩),bQ,nV k (d.getD 0) aL⟩):=by
 have UI:∀ {v e' r0},app k ⟨d, .makeSlice t l c,ty,pos,af,none⟩ true v (some (e',r0)) ⟨f,rows,bQ,aL⟩=⟨put f d v,dW rows e' (some r0),bQ,nV k e' aL⟩:=vV rfl
 simp only [aN,yn,i5,rS]
 generalize E.ty t=T
 generalize aP f l=A
 generalize aP f c=B
 cases T with
 | slice e n b z =>
  cases A with
  | int k1 x =>
   cases B with
   | int k2 y =>
    apply propext
    simp only [aH]
    constructor
    ·rintro⟨v,u,⟨h1,h2,h3,h4,rfl,rfl⟩,h5,h6⟩
     rw [UI]at h6
     exact⟨⟨h1,h2,h3,h4⟩,h5,h6⟩
    ·rintro⟨⟨h1,h2,h3,h4⟩,h5,h6⟩
     refine⟨_,_,⟨h1,h2,h3,h4,rfl,rfl⟩,h5,?_⟩
     rw [UI];exact h6
   | _=>simp
  | _=>simp
 | _=>simp
theorem MB{t t2:TypeId}{x y:Operand}:aN E ops clk k (⟨d, .call { callee:=.builtin .append,args:=⟨[x,y]⟩,argTypes:=⟨[t,t2]⟩ },ty,pos,af,none⟩::os) K ⟨f,rows,bQ,aL⟩ =
  aH (t2=t∨slT (E.ty t2)=true) (∃v u,uA (E.ty t) (eD .any ops k aL rows) (aP f x) (aP f y) clk (d.getD 0) v u∧LX .any ops k u bQ ∧
   aN E ops (clk+1) (k+1) os K ⟨put f d v,eF rows u,i6 k (aU (aP f x)++aU (aP f y)) bQ,wlU k u aL⟩):=by
 have UI:∀ {v u},app k ⟨d, .call { callee:=.builtin .append,args:=⟨[x,y]⟩,argTypes:=⟨[t,t2]⟩ },ty,pos,af,none⟩ true v u ⟨f,rows,bQ,aL⟩=⟨put f d v,eF rows u,i6 k (aU (aP f x)++aU (aP f y)) bQ,wlU k u aL⟩:=rfl
 simp only [aN,yn,i5,aH]
 apply propext
 constructor
 ·rintro⟨v,u,⟨h1,h2⟩,h3,h4⟩
  exact⟨h1,v,u,h2,h3,h4⟩
 ·rintro⟨h1,v,u,h2,h3,h4⟩
  exact⟨v,u,⟨h1,h2⟩,h3,h4⟩
theorem YN{t t2:TypeId}{x y:Operand}:aN E ops clk k (⟨d, .call { callee:=.builtin .copy,args:=⟨[x,y]⟩,argTypes:=⟨[t,t2]⟩ },ty,pos,af,none⟩::os) K ⟨f,rows,bQ,aL⟩ =
  ∃v u,tX (E.ty t) (eD .any ops k aL rows) (aP f x) (aP f y) v u∧LX .any ops k u bQ ∧
   aN E ops clk (k+1) os K ⟨put f d v,eF rows u,i6 k (aU (aP f x)++aU (aP f y)) bQ,wlU k u aL⟩:=rfl
def qA(E:Env)(p:PV)(eX:List PV)(rows:Rows)(K:PV→Prop):Prop:=
 match p with
 | .fn g caps=>aH ((eX.map (pz rows)).all dA=true∧eX.flatMap dV = []) (vU E.P g (eX.map (pz rows)++caps) K)
 | _=>False
@[congr] theorem agh{E:Env}{p p':PV}{eX rU:List PV}{rows rows':Rows}{K:PV→Prop}(h1:p=p')(h2:eX=rU)(h3:rows=rows'):qA E p eX rows K=qA E p' rU rows' K:=by rw [h1,h2,h3]
def qB(E:Env)(p:PV)(eX:List PV)(rows:Rows)(K:PV→Nat→Row→Prop):Prop:=∃v id r,LO E p eX rows v (some (id,r))∧K v id r
@[congr] theorem agi{E:Env}{p p':PV}{eX rU:List PV}{rows rows':Rows}{K:PV→Nat→Row→Prop}(h1:p=p')(h2:eX=rU)(h3:rows=rows'):qB E p eX rows K=qB E p' rU rows' K:=by rw [h1,h2,h3]
theorem F0{fo:Operand}{args:Array Operand}{ts:Array TypeId}(X0:dS E (.call { callee:=.value fo,args:=args,argTypes:=ts })=false):aN E ops clk k (⟨d, .call { callee:=.value fo,args:=args,argTypes:=ts },ty,pos,af,none⟩::os) K ⟨f,rows,bQ,aL⟩ =
  if vN E (aP f fo)=true then qB E (aP f fo) (args.toList.map (aP f)) (eD .any ops k aL rows) (fun v id r=>aH (y7 .any ops k id bQ) (aN E ops clk (k+1) os K ⟨put f d v,dW rows id (some r),i6 k ((args.toList.map (aP f)).flatMap aU) bQ,nV k id aL⟩))
  else qA E (aP f fo) (args.toList.map (aP f)) (eD .any ops k aL rows) fun v=>aN E ops clk (k+1) os K ⟨put f d v,rows,bQ,aL⟩:=by
 simp only [aN]
 rw [B7 X0]
 simp only [B6 X0,ys,yX,qA,aH,vU]
 have e4:(args.toList.map fun x=>aP f x)=args.toList.map (aP f):=rfl
 have e5:(args.toList.flatMap fun x=>aU (aP f x))=(args.toList.map (aP f)).flatMap aU:=by rw [List.flatMap_map]
 by_cases hm:vN E (aP f fo)=true
 ·simp only [if_pos hm,qB]
  have UI:∀ {v e' r0},app k ⟨d, .call { callee:=.value fo,args:=args,argTypes:=ts },ty,pos,af,none⟩ true v (some (e',r0)) ⟨f,rows,bQ,aL⟩=⟨put f d v,dW rows e' (some r0),i6 k ((args.toList.map (aP f)).flatMap aU) bQ,nV k e' aL⟩:=by
   intro v e' r0
   rw [←e5];rfl
  apply propext
  constructor
  ·rintro⟨v,u,h1,h2,h3⟩
   have AO:=h1
   unfold LO at AO
   split at AO
   ·obtain⟨_,_,_,_,_,_,_,_,_,rfl⟩:=AO
    rw [UI]at h3
    exact⟨v,_,_,h1,h2,h3⟩
   ·exact AO.elim
  ·rintro⟨v,id,r,h1,h2,h3⟩
   exact⟨v,some (id,r),h1,h2,by rw [UI];exact h3⟩
 simp only [if_neg hm]
 generalize hA:aP f fo=A
 have e1:(args.toList.map fun x=>pz (eD .any ops k aL rows) (aP f x))=(args.toList.map (aP f)).map (pz (eD .any ops k aL rows)):=by rw [List.map_map];rfl
 have e2:(args.toList.flatMap fun x=>dV (aP f x))=(args.toList.map (aP f)).flatMap dV:=by rw [List.flatMap_map]
 have e3:∀v,(args.toList.flatMap fun x=>dV (aP f x)) = []→app k ⟨d, .call { callee:=.value fo,args:=args,argTypes:=ts },ty,pos,af,none⟩ true v none ⟨f,rows,bQ,aL⟩=⟨put f d v,rows,bQ,aL⟩:=fun v h=>fQ (UO h)
 rw [e1]
 cases A with
 | fn g caps =>
  apply propext
  constructor
  ·rintro⟨v,u,⟨rfl,⟨h1,h2⟩,h3⟩,_,h4⟩;rw [e3 v h3]at h4;exact⟨⟨h1,by rw [←e2];exact h3⟩,v,h2,h4⟩
  ·rintro⟨⟨h1,h3⟩,v,h2,h4⟩;rw [←e2]at h3;exact⟨v,none,⟨rfl,⟨h1,h2⟩,h3⟩,trivial,by rw [e3 v h3];exact h4⟩
 | _=>simp
theorem RQ{g:FuncId}{args:Array Operand}{ts:Array TypeId}(hw:E.writes g=true):aN E ops clk k (⟨d, .call { callee:=.value (.func g),args:=args,argTypes:=ts },ty,pos,af,none⟩::os) K ⟨f,rows,bQ,aL⟩ =
  ∃e n els,((args.toList.map (aP f)).all dA=true∧mD E.P g (args.toList.map (aP f)) e n els∧y7 .any ops k (d.getD 0) bQ)∧aN E ops (clk+1) (k+1) os K ⟨put f d (.own (d.getD 0) clk 0 els.length),dW rows (d.getD 0) (some ⟨clk,e,n,els⟩),bQ,nV k (d.getD 0) aL⟩:=by
 have UI:(args.toList.map (aP f)).all dA=true → ∀ {v e' r0},app k ⟨d, .call { callee:=.value (.func g),args:=args,argTypes:=ts },ty,pos,af,none⟩ true v (some (e',r0)) ⟨f,rows,bQ,aL⟩=⟨put f d v,dW rows e' (some r0),bQ,nV k e' aL⟩:=fun hp=>vV (by simp only [iF];exact UP hp)
 simp only [aN,yn,i5]
 rw [if_pos hw]
 simp only [if_pos hw]
 apply propext
 constructor
 ·rintro⟨v,u,⟨h1,e,n,els,h2,rfl,rfl⟩,h3,h4⟩
  rw [UI h1]at h4
  exact⟨e,n,els,⟨h1,h2,h3⟩,h4⟩
 ·rintro⟨e,n,els,⟨h1,h2,h3⟩,h4⟩
  refine⟨_,_,⟨h1,e,n,els,h2,rfl,rfl⟩,h3,?_⟩
  rw [UI h1];exact h4
@[simp] theorem arQ{md:Region.Mode}{ops:List Oper}{j:Nat}{rows:Rows}:eD md ops j (fun _ _=>False) rows=rows:=by
 funext id;simp [eD]
@[simp] theorem arR{md:Region.Mode}{ops:List Oper}{j k id:Nat}{w:Nat→Nat→Prop}{rows:Rows}:eD md ops j (nV k id w) rows=if q9 md ops j k=true then eD md ops j w rows else dW (eD md ops j w rows) id none:=by
 funext x
 unfold eD nV
 by_cases hd:q9 md ops j k=true
 ·rw [if_pos hd]
  have:(∃k',((k'=k∧x=id)∨w k' x)∧q9 md ops j k'=false) ↔ ∃k',w k' x∧q9 md ops j k'=false:=by
   constructor
   ·rintro⟨k',⟨rfl,_⟩ | h,h2⟩
    ·rw [hd]at h2;cases h2
    ·exact⟨k',h,h2⟩
   ·rintro⟨k',h,h2⟩;exact⟨k', .inr h,h2⟩
  exact(by classical exact ite_congr (propext this) (fun _=>rfl) (fun _=>rfl))
 ·rw [if_neg hd]
  have hd':q9 md ops j k=false:=by simpa using hd
  simp only [dW]
  by_cases hx:x=id
  ·rw [if_pos hx,if_pos ⟨k, .inl ⟨rfl,hx⟩,hd'⟩]
  ·rw [if_neg hx]
   have:(∃k',((k'=k∧x=id)∨w k' x)∧q9 md ops j k'=false) ↔ ∃k',w k' x∧q9 md ops j k'=false:=by
    constructor
    ·rintro⟨k',⟨_,h⟩ | h,h2⟩
     ·exact absurd h hx
     ·exact⟨k',h,h2⟩
    ·rintro⟨k',h,h2⟩;exact⟨k', .inr h,h2⟩
   exact(by classical exact ite_congr (propext this) (fun _=>rfl) (fun _=>rfl))
@[simp] theorem av9{md:Region.Mode}{ops:List Oper}{i id:Nat}:y7 md ops i id (fun _ _=>False)=True:=by simp [y7]
@[simp] theorem awa{md:Region.Mode}{ops:List Oper}{i id k:Nat}{l:List Nat}{t:Nat→Nat→Prop}:y7 md ops i id (i6 k l t)=((id∈l→q9 md ops i k=true)∧y7 md ops i id t):=by
 apply propext
 unfold y7 i6
 constructor
 ·intro h;exact⟨fun hi=>h k (.inl ⟨rfl,rfl,hi⟩),fun k' hk=>h k' (.inr hk)⟩
 ·rintro⟨h1,h2⟩ k' (⟨_,rfl,h⟩ | h)
  ·exact h1 h
  ·exact h2 k' h
end
end Pm
