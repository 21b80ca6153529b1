import Derived.StillTail
import Derived.Deep.LoopGhost
import Derived.Test.YtelhfbikiccfkaaGreatCab
set_option linter.unusedSimpArgs false
set_option linter.unusedVariables false
namespace Pm
open Go Go.RowKit
def iM(P:Program)(f:FuncId)(args:List PV)(e:TypeId)(n:Nat)(els:List (List PV)):Prop:=
 (∃fn c,P.funcs[f]? = some fn∧fn.body=some c∧(fn.name == "runtime.NumGoroutine")=false) ∧
 ∀(w:World) (S:eC) (vs:List Value),(∀b o,S b o→b<w.heap.size)→bU S w args vs →
  Calls P f vs.toArray w fun x w'=>∃(v:Value) (xs:List Value) (S':eC),x = .returned v∧Below w.heap.size w w'∧(∀b o,S b o→S' b o)∧(∀b o,S' b o→S b o∨(w.heap.size≤b∧b<w'.heap.size)) ∧
   w'.ownsRow w.heap.size e n v els.length xs∧bK (dG S' w') els.flatten xs∧(∀y∈xs,y.oneCell'=true)∧(∀x∈els,x.length=n)∧0<n∧(∀g o,v.ownBlock=some g→¬S' g o)
def XZ(md:Region.Mode)(ops:List Oper)(j k:Nat):Bool:=
 match ops[j]? with
 | some o=>o.after.toList.any fun e=>Region.binds md e&&e.on==k
 | none=>false
def pP(md:Region.Mode)(ops:List Oper)(j k:Nat):Bool:=XZ md ops j k || (List.range ops.length).any fun h=>XZ md ops j h&&XZ md ops h k
structure ST where
 f:Nat→PV
 rows:Rows
 b6:Nat→Nat→Prop
 wl:Nat→Nat→Prop
def dQ(E:Env):Op→Bool
 | .alloc _=>true
 | .box _ _=>true
 | .makeSlice _ _ _=>true
 | .call { callee:=.builtin .append,args:=⟨[_,_]⟩,argTypes:=⟨[_,_]⟩ }=>true
 | .call { callee:=.value (.func g),args:=_,argTypes:=_ }=>E.writes g
 | _=>false
def uL(E:Env)(ops:List Oper):Bool:=ops.all fun o => !dQ E o.op || (o.dst.isSome&&o.guard.isNone)
def rk(E:Env)(ops:List Oper)(i:Nat):Nat:=((ops.take i).filter fun o=>dQ E o.op).length
theorem UZ{E:Env}{ops:List Oper}{i:Nat}{o:Oper}(h:ops[i]? = some o):rk E ops (i+1)=rk E ops i+if dQ E o.op=true then 1 else 0:=by
 unfold rk
 rw [List.take_add_one,h]
 simp only [Option.toList_some,List.filter_append,List.length_append]
 congr 1
 cases hn:dQ E o.op<;>simp [hn]
theorem afT{E:Env}{ops:List Oper}{i j:Nat}(h:i≤j):rk E ops i≤rk E ops j:=by
 unfold rk
 have:(ops.take i).Sublist (ops.take j):=by
  have:=List.take_sublist i (ops.take j)
  rwa [List.take_take,Nat.min_eq_left h]at this
 exact(this.filter _).length_le
theorem abf{E:Env}{ops:List Oper}{i j:Nat}{o:Oper}(h:ops[i]? = some o)(hn:dQ E o.op=true)(hij:i<j):rk E ops i<rk E ops j:=by
 have h1:=UZ (E:=E) h
 rw [if_pos hn]at h1
 have:=afT (E:=E) (ops:=ops) (show i+1≤j from hij)
 omega
theorem ak2{E:Env}{ops:List Oper}{i j:Nat}{o o':Oper}(h:ops[i]? = some o)(hn:dQ E o.op=true)(h':ops[j]? = some o')(xW:dQ E o'.op=true)(he:rk E ops i=rk E ops j):i=j:=by
 rcases Nat.lt_trichotomy i j with h1 | h1 | h1
 ·have:=abf h hn h1;omega
 ·exact h1
 ·have:=abf h' xW h1;omega
def rN(t:TI)(rows:Rows)(x y:PV)(c0 d:Nat)(v:PV)(u:Option (Nat × Row)):Prop:=
 match t with
 | .slice e n b _=>∃l,vP rows y l∧(∀e∈l,e.length=n) ∧
  match x with
  | .nil=>l.length≤room∧l.length*b≤room∧v = .own d c0 0 l.length∧u=some (d,⟨c0,e,n,l⟩)
  | .own id ver off len=>∃r,rows id=some r∧r.ver=ver∧off=0∧len=r.els.length∧r.e=e∧r.size=n∧len+l.length≤room∧(len+l.length)*b≤room ∧
    v = .own id c0 0 (len+l.length)∧u=some (id,⟨c0,e,n,r.els++l⟩)
  | _=>False
 | _=>False
def aiN(E:Env)(g:FuncId)(args:List PV)(c0 d:Nat)(v:PV)(u:Option (Nat × Row)):Prop:=
 args.all gI=true ∧ ∃e n els,iM E.P g args e n els∧v = .own d c0 0 els.length∧u=some (d,⟨c0,e,n,els⟩)
def yn(E:Env)(c0:Nat)(d:Option Tmp)(op:Op)(ρ:Operand→PV)(rows:Rows)(v:PV)(u:Option (Nat × Row)):Prop:=
 match op with
 | .alloc t=>(E.ty t).known=true∧v = .ptr (d.getD 0) c0 0 0∧u=some (d.getD 0,⟨c0,t,(E.ty t).size,[(E.ty t).zero]⟩)
 | .box t x=>(E.ty t).known=true ∧ ∃l,cE (ρ x)=some l∧(∀q∈l,i0 (fun _=>none) q)∧l.length=(E.ty t).size∧v = .ptr (d.getD 0) c0 0 0∧u=some (d.getD 0,⟨c0,t,(E.ty t).size,[l]⟩)
 | .makeSlice t l c =>
  match E.ty t,ρ l,ρ c with
  | .slice e n b z, .int _ x, .int _ y=>0≤x∧x≤y∧y.toNat≤room∧y.toNat*b≤room∧v = .own (d.getD 0) c0 0 x.toNat∧u=some (d.getD 0,⟨c0,e,n,List.replicate x.toNat z⟩)
  | _,_,_=>False
 | .call { callee:=.builtin .append,args:=⟨[x,y]⟩,argTypes:=⟨[t,t2]⟩ }=>(t2=t∨slT (E.ty t2)=true)∧rN (E.ty t) rows (ρ x) (ρ y) c0 (d.getD 0) v u
 | .call { callee:=.value (.func g),args:=aGI,argTypes:=ts }=>if E.writes g=true then aiN E g (aGI.toList.map fun x=>ρ x) c0 (d.getD 0) v u else ys E (.call { callee:=.value (.func g),args:=aGI,argTypes:=ts }) ρ rows v u
 | op=>ys E op ρ rows v u
theorem B3{E:Env}{c0:Nat}{d:Option Tmp}{op:Op}{ρ:Operand→PV}{rows:Rows}{v:PV}{u:Option (Nat × Row)}(h:dQ E op=false):yn E c0 d op ρ rows v u=ys E op ρ rows v u:=by
 unfold yn
 split
 all_goals first
  | rfl
  | (simp [dQ]at h;done)
  | (simp only [dQ]at h;rw [if_neg (by rw [h];decide)])
theorem n5{E:Env}{op:Op}{C:Prop}(h:dQ E op=true)(h1:∀t,op = .alloc t→C)(h2:∀t x,op = .box t x→C)(h3:∀t l c,op = .makeSlice t l c→C)
  (h4:∀x y t t2,op = .call { callee:=.builtin .append,args:=⟨[x,y]⟩,argTypes:=⟨[t,t2]⟩ }→C) (h5:∀g aGI ts,op = .call { callee:=.value (.func g),args:=aGI,argTypes:=ts }→E.writes g=true→C):C:=by
 unfold dQ at h
 split at h
 ·exact h1 _ rfl
 ·exact h2 _ _ rfl
 ·exact h3 _ _ _ rfl
 ·exact h4 _ _ _ _ rfl
 ·exact h5 _ _ _ rfl h
 ·cases h
theorem afV{rows rows':Rows}{y:PV}{l:List (List PV)}(h:kB (bJ y) rows rows')(hy:vP rows y l):vP rows' y l ∧ ∀id∈bJ y,∃r,rows id=some r:=by
 unfold vP at *
 cases y with
 | own id ver off len =>
  obtain⟨r,hr,hh⟩:=hy
  exact⟨⟨r,h id (by simp [bJ]) r hr,hh⟩,by simp [bJ];exact⟨r,hr⟩⟩
 | nil=>exact⟨hy,by simp [bJ]⟩
 | sl l=>exact⟨hy,by simp [bJ]⟩
 | j8 l=>exact⟨hy,by simp [bJ]⟩
 | _=>exact hy.elim
theorem abg{t:TI}{rows rows':Rows}{x y v:PV}{c0 d:Nat}{u:Option (Nat × Row)}(h:kB (bJ x++bJ y) rows rows')(hy:rN t rows x y c0 d v u):rN t rows' x y c0 d v u ∧ ∀id∈bJ x++bJ y,∃r,rows id=some r:=by
 unfold rN at *
 cases t with
 | slice e n b z =>
  obtain⟨l,h1,h2,h3⟩:=hy
  obtain⟨g1,g2⟩:=afV (fun id iR=>h id (by simp only [List.mem_append];exact .inr iR)) h1
  cases x with
  | nil=>exact⟨⟨l,g1,h2,h3⟩,fun id iR=>g2 id (by simpa [bJ]using iR)⟩
  | own id ver off len =>
   obtain⟨r,hr,hh⟩:=h3
   refine⟨⟨l,g1,h2,r,h id (by simp [bJ]) r hr,hh⟩,fun j5 iR=>?_⟩
   simp only [bJ,List.mem_append,List.mem_cons,List.not_mem_nil,or_false]at iR
   rcases iR with rfl | iR
   ·exact⟨r,hr⟩
   ·exact g2 j5 iR
  | _=>exact h3.elim
 | _=>exact hy.elim
theorem U0{E:Env}{c0:Nat}{d:Option Tmp}{op:Op}{ρ:Operand→PV}{rows rows':Rows}{v:PV}{u:Option (Nat × Row)}(h:kB (iW op ρ) rows rows')(hy:yn E c0 d op ρ rows v u) :
  yn E c0 d op ρ rows' v u∧(∀id∈iW op ρ,∃r,rows id=some r) ∧ ∀id r,u=some (id,r)→(dQ E op=true∧id=d.getD 0)∨id∈iW op ρ:=by
 cases hn:dQ E op with
 | false =>
  rw [B3 hn]at hy ⊢
  obtain⟨h1,h2,h3⟩:=aiM h hy
  exact⟨h1,h2,fun id r hu => .inr (h3 id r hu)⟩
 | true =>
  refine n5 hn ?_ ?_ ?_ ?_ ?_
  ·rintro t rfl
   refine⟨hy,by simp [iW],fun id r hu => .inl ⟨by first | trivial | rfl,?_⟩⟩
   obtain⟨_,_,rfl⟩:=hy
   simp at hu;exact hu.1.symm
  ·rintro t x rfl
   refine⟨hy,by simp [iW],fun id r hu => .inl ⟨by first | trivial | rfl,?_⟩⟩
   obtain⟨_,_,_,_,_,_,rfl⟩:=hy
   simp at hu;exact hu.1.symm
  ·rintro t l c rfl
   refine⟨hy,by simp [iW],fun id r hu => .inl ⟨by first | trivial | rfl,?_⟩⟩
   simp only [yn]at hy
   split at hy
   ·obtain⟨_,_,_,_,_,rfl⟩:=hy
    simp at hu;exact hu.1.symm
   ·exact hy.elim
  ·rintro x y t t2 rfl
   simp only [yn,iW]at hy h ⊢
   obtain⟨h2,h3⟩:=hy
   obtain⟨g1,g2⟩:=abg h h3
   refine⟨⟨h2,g1⟩,g2,fun id r hu=>?_⟩
   unfold rN at h3
   split at h3
   ·obtain⟨l,_,_,h3⟩:=h3
    split at h3
    ·obtain⟨_,_,_,rfl⟩:=h3
     simp at hu;exact .inl ⟨by first | trivial | rfl,hu.1.symm⟩
    ·rename_i hx
     obtain⟨_,_,_,_,_,_,_,_,_,_,rfl⟩:=h3
     simp at hu
     rw [hx]
     exact .inr (by simp [bJ,hu.1])
    ·exact h3.elim
   ·exact h3.elim
  ·rintro g aGI ts rfl hw
   simp only [yn]at hy ⊢
   rw [if_pos hw]at hy
   rw [if_pos hw]
   refine⟨hy,by simp [iW],fun id r hu => .inl ⟨by first | trivial | exact hw,?_⟩⟩
   obtain⟨_,_,_,_,_,_,rfl⟩:=hy
   simp at hu;exact hu.1.symm
open Classical in
noncomputable def eN(md:Region.Mode)(ops:List Oper)(j:Nat)(wl:Nat→Nat→Prop)(rows:Rows):Rows:=fun id=>if ∃k,wl k id∧pP md ops j k=false then none else rows id
theorem lE{md:Region.Mode}{ops:List Oper}{j id:Nat}{wl:Nat→Nat→Prop}{rows:Rows}{r:Row}:eN md ops j wl rows id=some r↔(∀k,wl k id→pP md ops j k=true)∧rows id=some r:=by
 unfold eN
 split
 ·rename_i h
  obtain⟨k,h1,h2⟩:=h
  simp only [reduceCtorEq,false_iff,not_and]
  intro h3
  rw [h3 k h1]at h2;cases h2
 ·rename_i h
  refine⟨fun h2=>⟨fun k hk=>?_,h2⟩,fun h2=>h2.2⟩
  cases hd:pP md ops j k with
  | true=>rfl
  | false=>exact absurd ⟨k,hk,hd⟩ h
def B4(md:Region.Mode)(ops:List Oper)(i id:Nat)(b6:Nat→Nat→Prop):Prop:=∀k,b6 k id→pP md ops i k=true
def X0(md:Region.Mode)(ops:List Oper)(i:Nat)(u:Option (Nat × Row))(b6:Nat→Nat→Prop):Prop:=
 match u with
 | none=>True
 | some (id,_)=>B4 md ops i id b6
def gOK(ops:Array Oper)(o:Oper)(f:Nat→PV)(b:Bool):Prop:=
 match o.guard with
 | none=>b=true
 | some (j,want)=>∃d,(ops[j]?).bind (·.dst)=some d∧((f d = .bool want∧b=true)∨((f d = .bool (!want)∨f d = .eB [])∧b=false))
def YG(E:Env)(md:Region.Mode)(ops:Array Oper)(c0:Nat)(i:Nat)(o:Oper)(b:Bool)(v:PV)(u:Option (Nat × Row))(st:ST):Prop:=
 gOK ops o st.f b∧if b=true then yn E (c0+rk E ops.toList i) o.dst o.op (aV st.f) (eN md ops.toList i st.wl st.rows) v u else v = .eB []∧u=none
def wlU(i:Nat)(u:Option (Nat × Row))(wl:Nat→Nat→Prop):Nat→Nat→Prop:=
 match u with
 | none=>wl
 | some (id,_)=>fun k j5=>(k=i∧j5=id)∨wl k j5
def app(i:Nat)(o:Oper)(b:Bool)(v:PV)(u:Option (Nat × Row))(st:ST):ST:=
 { f:=put st.f o.dst v,rows:=gO st.rows u,b6:=fun k id=>(b=true∧k=i∧id∈iW o.op (aV st.f))∨st.b6 k id,wl:=wlU i u st.wl }
def iX(E:Env)(op:Op)(clk:Nat):Nat:=
 match op with
 | .alloc _=>clk+1
 | .box _ _=>clk+1
 | .makeSlice _ _ _=>clk+1
 | .call { callee:=.builtin .append,args:=⟨[_,_]⟩,argTypes:=⟨[_,_]⟩ }=>clk+1
 | .call { callee:=.value (.func g),args:=_,argTypes:=_ }=>if E.writes g=true then clk+1 else clk
 | _=>clk
theorem B5{E:Env}{op:Op}{clk:Nat}(h:dQ E op=false):iX E op clk=clk:=by
 unfold iX
 split
 all_goals first
  | rfl
  | (simp [dQ]at h;done)
  | (simp only [dQ]at h;rw [if_neg (by rw [h];decide)])
theorem abh{E:Env}{op:Op}{clk:Nat}(h:dQ E op=true):iX E op clk=clk+1:=by
 refine n5 h ?_ ?_ ?_ ?_ ?_
 ·rintro t rfl;rfl
 ·rintro t x rfl;rfl
 ·rintro t l c rfl;rfl
 ·rintro x y t t2 rfl;rfl
 ·rintro g aGI ts rfl hw;simp only [iX];rw [if_pos hw]
theorem afX{E:Env}{ops:List Oper}{i c0:Nat}{o:Oper}(h:ops[i]? = some o):iX E o.op (c0+rk E ops i)=c0+rk E ops (i+1):=by
 rw [UZ h]
 cases hn:dQ E o.op with
 | false=>rw [B5 hn];simp
 | true=>rw [abh hn];simp;omega
def qOp(E:Env)(md:Region.Mode)(ops:Array Oper)(c0:Nat)(i:Nat)(K:ST→Prop)(st:ST):Prop:=
 match ops[i]? with
 | none=>K st
 | some o=>∃b v u,YG E md ops c0 i o b v u st∧X0 md ops.toList i u st.b6∧K (app i o b v u st)
section
variable {E:Env} {ops:Array Oper} {md:Region.Mode}
theorem abj{c0 i:Nat}{K K':ST→Prop}{st:ST}(h:∀st,K st→K' st)(hh:qOp E md ops c0 i K st):qOp E md ops c0 i K' st:=by
 unfold qOp at *
 split
 ·exact h _ (by simpa [*]using hh)
 ·rename_i o ho
  simp only [ho]at hh
  obtain⟨b,v,u,h1,h2,h3⟩:=hh
  exact⟨b,v,u,h1,h2,h _ h3⟩
theorem U1{f:Nat→PV}{d:Option Tmp}{v:PV}{x:Operand}(h:∀t,d=some t→x ≠ .tmp t):aV (put f d v) x=aV f x:=by
 cases d with
 | none=>rfl
 | some t =>
  cases x with
  | tmp s =>
   have:s≠t:=fun e=>h t rfl (by rw [e])
   simp [aV,put,this]
  | _=>rfl
theorem abk{op:Op}{ρ ρ':Operand→PV}{rows:Rows}{v:PV}{u:Option (Nat × Row)}(h:∀x∈op.operands,ρ x=ρ' x):ys E op ρ rows v u↔ys E op ρ' rows v u:=by
 have parts:∀ps:Array (Nat × Operand),(∀x∈(ps.toList.map (·.2)).toArray,ρ x=ρ' x)→(ps.toList.map fun x=>(x.1,ρ x.2))=ps.toList.map fun x=>(x.1,ρ' x.2):=fun ps hp =>
  List.map_congr_left fun p hm=>by rw [hp p.2 (by simp;exact⟨p.1,by simpa using hm⟩)]
 have args:∀(c:Call),(∀x∈c.operands,ρ x=ρ' x) → ∀x∈c.args.toList,ρ x=ρ' x:=fun c hc x hx=>hc x (by simp [Call.operands];exact .inr (by simpa using hx))
 unfold ys
 split
 ·rename_i t p x
  rw [h p (by simp [Op.operands]),h x (by simp [Op.operands])]
 ·rename_i t len ps
  rw [parts ps (by simpa [Op.operands]using h)]
 ·rename_i f aGI ts
  have ha:=args _ (by simpa [Op.operands]using h)
  simp only at ha
  rw [h f (by simp [Op.operands,Call.operands]),List.map_congr_left (g:=fun x=>pz rows (ρ' x)) fun x hx=>by rw [ha x hx]]
  have:(aGI.toList.flatMap fun x=>eD (ρ x))=aGI.toList.flatMap fun x=>eD (ρ' x):=by
   rw [List.flatMap_def,List.flatMap_def]
   congr 1
   exact List.map_congr_left fun x hx=>by rw [ha x hx]
  rw [this]
 ·suffices hs:yv E op ρ rows v↔yv E op ρ' rows v by rw [hs]
  unfold yv
  split
  case h_12 =>
   rename_i t x lo hi mx _ _ _
   have o1:∀y:Option Operand,(∀z,y=some z→ρ z=ρ' z)→y.map ρ=y.map ρ':=by
    intro y hy;cases y with
    | none=>rfl
    | some z=>simp [hy z rfl]
   rw [h x (by simp [Op.operands]),o1 lo fun z hz=>h z (by subst hz;simp [Op.operands]),o1 hi fun z hz=>h z (by subst hz;simp [Op.operands]),o1 mx fun z hz=>h z (by subst hz;simp [Op.operands])]
  case h_13=>rename_i t ps _ _ _;rw [parts ps (by simpa [Op.operands]using h)]
  case h_15 =>
   rename_i f cI _ _ _
   rw [List.map_congr_left (l:=cI.toList) (f:=fun x=>ρ x) (g:=fun x=>ρ' x) fun x hx=>h x (by simp [Op.operands];simpa using hx)]
  all_goals first
   | rfl
   | (simp only [Op.operands,Call.operands]at h;simp [h])
theorem B6{op:Op}{ρ ρ':Operand→PV}(h:∀x∈op.operands,ρ x=ρ' x):iW op ρ=iW op ρ':=by
 unfold iW
 split
 all_goals first
  | rfl
  | (simp only [Op.operands,Call.operands]at h;simp [h])
theorem LP{c0:Nat}{d:Option Tmp}{op:Op}{ρ ρ':Operand→PV}{rows:Rows}{v:PV}{u:Option (Nat × Row)}(h:∀x∈op.operands,ρ x=ρ' x):yn E c0 d op ρ rows v u↔yn E c0 d op ρ' rows v u:=by
 cases hn:dQ E op with
 | false=>rw [B3 hn,B3 hn];exact abk h
 | true =>
  refine n5 hn ?_ ?_ ?_ ?_ ?_
  ·rintro t rfl;exact Iff.rfl
  ·rintro t x rfl
   simp only [yn]
   rw [h x (by simp [Op.operands])]
  ·rintro t l c rfl
   simp only [yn]
   rw [h l (by simp [Op.operands]),h c (by simp [Op.operands])]
  ·rintro x y t t2 rfl
   simp only [yn]
   rw [h x (by simp [Op.operands,Call.operands]),h y (by simp [Op.operands,Call.operands])]
  ·rintro g aGI ts rfl hw
   simp only [yn]
   rw [if_pos hw,if_pos hw,List.map_congr_left (l:=aGI.toList) (f:=fun x=>ρ x) (g:=fun x=>ρ' x) fun x hx=>h x (by simp [Op.operands,Call.operands];exact .inr (by simpa using hx))]
theorem LQ{o:Oper}{d:Tmp}{x:Operand}(h:d ∉ o.looksAt ops)(hx:x∈o.op.operands):x ≠ .tmp d:=by
 rintro rfl
 exact h (List.mem_append_left _ (List.mem_filterMap.2 ⟨.tmp d,by simpa using hx,rfl⟩))
theorem Q0{c:Cx}:aM c (.eB []) undef:=by
 show dG c.S c.w (.eB []) undef
 simp only [dG]
 exact⟨[],rfl,rfl⟩
theorem iN{c:Cx}{tmps:Array Value}{j:Nat}{d:Tmp}{t:Bool}(h1:(ops[j]?).bind (·.dst)=some d)(h:aM c (.bool t) (tmps.getD d undef)):yielded ops tmps j=some t:=by
 rw [dV]at h
 unfold yielded
 rw [h1]
 simp only [Option.bind_some]
 cases hx:tmps[d]? with
 | none=>simp [hx]at h;cases h
 | some y =>
  have hy:y = .bool t:=by simpa [hx]using h
  rw [hy]
theorem uM{c:Cx}{tmps:Array Value}{j:Nat}{d:Tmp}(h1:(ops[j]?).bind (·.dst)=some d)(h:aM c (.eB []) (tmps.getD d undef)):yielded ops tmps j=none:=by
 have h2:tmps.getD d undef = .tuple #[]:=by
  have h3:dG c.S c.w (.eB []) (tmps.getD d undef):=h
  simp only [dG]at h3
  obtain⟨vs,h4,h5⟩:=h3
  simp only [bU]at h5
  rw [h4,h5]
 unfold yielded
 rw [h1]
 simp only [Option.bind_some]
 cases hx:tmps[d]? with
 | none=>rfl
 | some y =>
  have hy:y = .tuple #[]:=by simpa [hx]using h2
  rw [hy]
theorem U2{o:Oper}{f:Nat→PV}{dd:Option Tmp}{v:PV}{b:Bool}(h:∀d,dd=some d→d ∉ o.looksAt ops):gOK ops o (put f dd v) b↔gOK ops o f b:=by
 unfold gOK
 cases hg:o.guard with
 | none=>rfl
 | some g =>
  obtain⟨j,want⟩:=g
  simp only
  have key:∀d,(ops[j]?).bind (·.dst)=some d→put f dd v d=f d:=by
   intro d h1
   cases dd with
   | none=>rfl
   | some e =>
    have nT:d≠e:=by
     rintro rfl
     exact h d rfl (List.mem_append_right _ (by simp [hg,h1]))
    simp [put,nT]
  constructor
  ·rintro⟨d,h1,h2⟩
   rw [key d h1]at h2
   exact⟨d,h1,h2⟩
  ·rintro⟨d,h1,h2⟩
   rw [←key d h1]at h2
   exact⟨d,h1,h2⟩
theorem put_comm{f:Nat→PV}{x y:Option Tmp}{v u:PV}(h:∀d,x=some d→y≠some d):put (put f x v) y u=put (put f y u) x v:=by
 cases x with
 | none=>rfl
 | some d =>
  cases y with
  | none=>rfl
  | some e =>
   have nT:d≠e:=fun he=>h d rfl (by rw [he])
   funext j
   simp only [put]
   split<;>split<;>simp_all
theorem B7{rows:Rows}{u:Option (Nat × Row)}{j:Nat}(h:∀r,u≠some (j,r)):gO rows u j=rows j:=by
 cases u with
 | none=>rfl
 | some x =>
  obtain⟨i,r⟩:=x
  simp only [gO,eE]
  rw [if_neg]
  rintro rfl
  exact h r rfl
theorem pQ{i:Nat}{u:Option (Nat × Row)}{wl:Nat→Nat→Prop}{k id:Nat}:wlU i u wl k id↔(k=i ∧ ∃r,u=some (id,r))∨wl k id:=by
 cases u with
 | none=>simp [wlU]
 | some x =>
  obtain⟨j5,r⟩:=x
  simp only [wlU,Option.some.injEq,Prod.mk.injEq]
  constructor
  ·rintro(⟨h1,h2⟩ | h)
   ·exact .inl ⟨h1,r,h2.symm,rfl⟩
   ·exact .inr h
  ·rintro(⟨h1,r',h2,_⟩ | h)
   ·exact .inl ⟨h1,h2.symm⟩
   ·exact .inr h
theorem IK{i:Nat}{u:Option (Nat × Row)}{b6:Nat→Nat→Prop}:X0 md ops.toList i u b6 ↔ ∀id r,u=some (id,r) → ∀k,b6 k id→pP md ops.toList i k=true:=by
 cases u with
 | none=>simp [X0]
 | some x =>
  obtain⟨j5,r⟩:=x
  simp only [X0,B4,Option.some.injEq,Prod.mk.injEq]
  constructor
  ·rintro h _ _ ⟨rfl,_⟩;exact h
  ·intro h;exact h _ _ ⟨rfl,rfl⟩
theorem afY{c0 i j:Nat}{oi oj:Oper}{bi:Bool}{vi:PV}{ui:Option (Nat × Row)}(hj:ops[j]? = some oj)(hap:oi.apart ops oj=true)(hds:dQ E oi.op=true→oi.dst.isSome=true)(awS:dQ E oj.op=true→oj.dst.isSome=true)(hdj:pP md ops.toList j i=false){K:ST→Prop}{st:ST}
  (hy:YG E md ops c0 i oi bi vi ui st) (ho:X0 md ops.toList i ui st.b6) (h:qOp E md ops c0 j K (app i oi bi vi ui st)) :
  qOp E md ops c0 j (fun U3=>YG E md ops c0 i oi bi vi ui U3∧X0 md ops.toList i ui U3.b6∧K (app i oi bi vi ui U3)) st:=by
 obtain⟨h1,h2,h3⟩:=Oper.apart_spec hap
 unfold qOp at h ⊢
 simp only [hj]at h ⊢
 obtain⟨bj,vj,uj,⟨hgj,hyj⟩,hoj,hK⟩:=h
 obtain⟨hgi,X1⟩:=hy
 rw [IK]at hoj ho
 have ej:∀x∈oj.op.operands,aV (put st.f oi.dst vi) x=aV st.f x:=fun x hx=>U1 fun t ht=>LQ (h1 t ht) hx
 have ei:∀x∈oi.op.operands,aV (put st.f oj.dst vj) x=aV st.f x:=fun x hx=>U1 fun t ht=>LQ (h3 t ht) hx
 have awT:gOK ops oj st.f bj:=(U2 h1).1 hgj
 have hnw:∀id r,eN md ops.toList j (app i oi bi vi ui st).wl (app i oi bi vi ui st).rows id=some r → ∀r',ui≠some (id,r'):=by
  intro id r hr r' hu
  obtain⟨hw,_⟩:=lE.1 hr
  have:=hw i (pQ.2 (.inl ⟨rfl,r',hu⟩))
  rw [hdj]at this;cases this
 have hle:∀ids,kB ids (eN md ops.toList j (app i oi bi vi ui st).wl (app i oi bi vi ui st).rows) (eN md ops.toList j st.wl st.rows):=by
  intro ids id _ r hr
  have hn:=hnw id r hr
  obtain⟨hw,k8⟩:=lE.1 hr
  simp only [app]at k8 hw
  rw [B7 hn]at k8
  exact lE.2 ⟨fun k hk=>hw k (pQ.2 (.inr hk)),k8⟩
 have awU:(if bj=true then yn E (c0+rk E ops.toList j) oj.dst oj.op (aV st.f) (eN md ops.toList j st.wl st.rows) vj uj else vj = .eB []∧uj=none) ∧
   (bj=true → ∀id∈iW oj.op (aV st.f),∃r,eN md ops.toList j (app i oi bi vi ui st).wl (app i oi bi vi ui st).rows id=some r)∧(∀id r,uj=some (id,r)→bj=true∧((dQ E oj.op=true∧id=oj.dst.getD 0)∨id∈iW oj.op (aV st.f))):=by
  by_cases hb:bj=true
  ·rw [if_pos hb]at hyj ⊢
   have afZ:=(LP ej).1 hyj
   obtain⟨g1,g2,g3⟩:=U0 (hle _) afZ
   exact⟨g1,fun _=>g2,fun id r hu=>⟨hb,g3 id r hu⟩⟩
  ·rw [if_neg hb]at hyj ⊢
   exact⟨hyj,fun h=>absurd h hb,fun id r hu=>by rw [hyj.2]at hu;cases hu⟩
 obtain⟨awV,afZ,awW⟩:=awU
 have awX:X0 md ops.toList j uj st.b6:=IK.2 fun id r hu k hk=>hoj id r hu k (.inr hk)
 have hfi:∀id r,uj=some (id,r)→¬(bi=true∧id∈iW oi.op (aV st.f)):=by
  intro id r hu hh
  have:=hoj id r hu i (.inl ⟨hh.1,rfl,hh.2⟩)
  rw [hdj]at this;cases this
 have hui:∀id r,ui=some (id,r)→bi=true∧((dQ E oi.op=true∧id=oi.dst.getD 0)∨id∈iW oi.op (aV st.f)):=by
  intro id r hu
  by_cases hb:bi=true
  ·rw [if_pos hb]at X1
   exact⟨hb,(U0 (rows':=eN md ops.toList i st.wl st.rows) (fun id _ r hr=>hr) X1).2.2 id r hu⟩
  ·rw [if_neg hb]at X1
   rw [X1.2]at hu;cases hu
 have nT:∀id r r',ui=some (id,r)→uj=some (id,r')→False:=by
  intro id r r' hu1 hu2
  obtain⟨hb,hh⟩:=awW id r' hu2
  rcases hh with hh | hh
  ·obtain⟨IF,hh1⟩:=hui id r hu1
   rcases hh1 with hh1 | hh1
   ·obtain⟨d,hd⟩:=Option.isSome_iff_exists.1 (hds hh1.1)
    have e1:id=d:=by rw [hh1.2,hd];rfl
    cases ak6:oj.dst with
    | none=>exact absurd ak6 (fun he=>by have:=awS hh.1;rw [he]at this;cases this)
    | some d' =>
     have e2:id=d':=by rw [hh.2,ak6];rfl
     exact h2 d hd (by rw [ak6,←e2,e1])
   ·exact hfi id r' hu2 ⟨IF,hh1⟩
  ·obtain⟨r'',awY⟩:=afZ hb id hh
   exact hnw id r'' awY r hu1
 have awZ:bi=true→kB (iW oi.op (aV st.f)) (eN md ops.toList i st.wl st.rows) (eN md ops.toList i (app j oj bj vj uj st).wl (app j oj bj vj uj st).rows):=by
  intro hb id iR r hr
  obtain⟨hw,k8⟩:=lE.1 hr
  have hn:∀r',uj≠some (id,r'):=fun r' hu=>hfi id r' hu ⟨hb,iR⟩
  refine lE.2 ⟨fun k hk=>?_,?_⟩
  ·rcases pQ.1 hk with ⟨_,r',hu⟩ | hk
   ·exact absurd hu (hn r')
   ·exact hw k hk
  ·simp only [app];rw [B7 hn];exact k8
 refine⟨bj,vj,uj,⟨awT,awV⟩,awX,⟨(U2 h3).2 hgi,?_⟩,?_,?_⟩
 ·by_cases hb:bi=true
  ·rw [if_pos hb]at X1 ⊢
   refine(LP ei).2 ?_
   exact(U0 (awZ hb) X1).1
  ·rw [if_neg hb]at X1 ⊢;exact X1
 ·-- i's own row has not aC1 auR
  rw [IK]
  rintro id r hu k (⟨hb,rfl,hh⟩ | hh)
  ·obtain⟨r',k8⟩:=afZ hb id hh
   exact absurd hu (hnw id r' k8 r)
  ·exact ho id r hu k hh
 ·have:app i oi bi vi ui (app j oj bj vj uj st)=app j oj bj vj uj (app i oi bi vi ui st):=by
   simp only [app,ST.mk.injEq]
   refine⟨put_comm fun d hd=>fun hd'=>(h2 d) (by first | exact hd | exact hd') (by first | exact hd' | exact hd),?_,?_,?_⟩
   ·cases ui with
    | none=>rfl
    | some x =>
     cases uj with
     | none=>rfl
     | some y =>
      obtain⟨id,r⟩:=x
      obtain⟨j5,r'⟩:=y
      have:id≠j5:=fun e=>nT id r r' rfl (by rw [e])
      funext k
      simp only [gO,eE]
      split<;>split<;>simp_all
   ·funext k id
    have e1:iW oi.op (aV (put st.f oj.dst vj))=iW oi.op (aV st.f):=B6 ei
    have e2:iW oj.op (aV (put st.f oi.dst vi))=iW oj.op (aV st.f):=B6 ej
    rw [e1,e2]
    apply propext
    constructor
    ·rintro(h | h | h)
     ·exact .inr (.inl h)
     ·exact .inl h
     ·exact .inr (.inr h)
    ·rintro(h | h | h)
     ·exact .inr (.inl h)
     ·exact .inl h
     ·exact .inr (.inr h)
   ·funext k id
    apply propext
    rw [pQ,pQ,pQ,pQ]
    constructor
    ·rintro(h | h | h)
     ·exact .inr (.inl h)
     ·exact .inl h
     ·exact .inr (.inr h)
    ·rintro(h | h | h)
     ·exact .inr (.inl h)
     ·exact .inl h
     ·exact .inr (.inr h)
  rw [this];exact hK
theorem LR{j k:Nat}:XZ md ops.toList j k=true ↔ ∃oj,ops[j]? = some oj ∧ ∃e∈oj.after,Region.binds md e=true∧e.on=k:=by
 unfold XZ
 cases h:ops[j]? with
 | none=>simp [show ops.toList[j]? = none by simpa using h]
 | some oj =>
  rw [show ops.toList[j]? = some oj by simpa using h]
  simp only [List.any_eq_true,Bool.and_eq_true,beq_iff_eq,Option.some.injEq]
  constructor
  ·rintro⟨e,he,h1,h2⟩;exact⟨oj,rfl,e,by simpa using he,h1,h2⟩
  ·rintro⟨_,rfl,e,he,h1,h2⟩;exact⟨e,by simpa using he,h1,h2⟩
theorem af0{n j i:Nat}{oj:Oper}{bH:Array Bool}(hj:ops[j]? = some oj)(inv:HeadInv md ops n bH)(hr:∀e∈oj.after,Region.binds md e=true→bH.getD e.on false=true)(P3:bH.getD i false=false):pP md ops.toList j i=false:=by
 have one:∀k,XZ md ops.toList j k=true→bH.getD k false=true:=fun k hk=>by
  obtain⟨o,ho,e,he,h1,rfl⟩:=LR.1 hk
  rw [hj]at ho;cases ho
  exact hr e he h1
 cases hd:pP md ops.toList j i with
 | false=>rfl
 | true =>
  exfalso
  unfold pP at hd
  rcases Bool.or_eq_true_iff.1 hd with h | h
  ·rw [one i h]at P3;cases P3
  ·obtain⟨k,_,hk⟩:=List.any_eq_true.1 h
   obtain⟨h1,h2⟩:=Bool.and_eq_true_iff.1 hk
   obtain⟨o,ho,e,he,h3,rfl⟩:=LR.1 h2
   rw [inv.closed k o ho (one k h1) e he h3]at P3;cases P3
end
section
variable {E:Env} {ops:Array Oper} {md:Region.Mode}
def LS(E:Env)(md:Region.Mode)(ops:Array Oper)(c0 n:Nat)(L:Array Bool→ST→Prop):Nat→Array Bool→ST→Prop
 | 0,bH,st=>L bH st
 | f+1,bH,st=>Region.ready md ops bH ≠ [] ∧ ∀i∈Region.ready md ops bH,i<n∧qOp E md ops c0 i (LS E md ops c0 n L f (bH.setIfInBounds i true)) st
theorem LU{c0 n i:Nat}{oi:Oper}{b:Bool}{v:PV}{u:Option (Nat × Row)}{L:Array Bool→ST→Prop}(hi:ops[i]? = some oi)(pN:∀i oi,i<n→ops[i]? = some oi→dQ E oi.op=true→oi.dst.isSome=true)
  (B8:∀bH,HeadInv md ops n bH → ∀i,i<n→bH.getD i true=false → ∀t,n≤t→t ∉ Region.ready md ops bH) (hin:i<n)
  (aqK:∀bH st,L bH st → ∀j∈Region.ready md ops bH,n≤j) :
  ∀(f:Nat) (bH:Array Bool) (st:ST),HeadInv md ops n bH →
   (∀j oj,ops[j]? = some oj→j≠i→bH.getD j true=false→(∀e∈oj.after,Region.binds md e=true→e.on≠i)→oi.apart ops oj=true) →
   i∈Region.ready md ops bH→YG E md ops c0 i oi b v u st→X0 md ops.toList i u st.b6 →
   LS E md ops c0 n L f (bH.setIfInBounds i true) (app i oi b v u st)→LS E md ops c0 n L (f+1) bH st:=by
 intro f
 induction f with
 | zero =>
  intro bH st inv _ hr hy ho H
  have P3:=(mem_ready.1 hr).1
  refine⟨fun h=>(by rw [h]at hr;cases hr),fun j hj=>?_⟩
  have hjn:j<n:=by
   rcases Nat.lt_or_ge j n with h | h
   ·exact h
   ·exact absurd hj (B8 bH inv i hin P3 j h)
  refine⟨hjn,?_⟩
  by_cases hji:j=i
  ·subst hji;unfold qOp;simp only [hi];exact⟨b,v,u,hy,ho,H⟩
  ·have:=aqK _ _ H j (ready_mono hj hji)
   omega
 | succ f ih =>
  intro bH st inv aiQ hr hy ho H
  have P3:=(mem_ready.1 hr).1
  refine⟨fun h=>(by rw [h]at hr;cases hr),fun j hj=>?_⟩
  have hjn:j<n:=by
   rcases Nat.lt_or_ge j n with h | h
   ·exact h
   ·exact absurd hj (B8 bH inv i hin P3 j h)
  refine⟨hjn,?_⟩
  by_cases hji:j=i
  ·subst hji;unfold qOp;simp only [hi];exact⟨b,v,u,hy,ho,H⟩
  ·have h1:=(H.2 j (ready_mono hj hji)).2
   obtain⟨aqM,oj,hoj,uN⟩:=mem_ready.1 hj
   have ak7:∀e∈oj.after,Region.binds md e=true→e.on≠i:=fun e he hb heq=>by
    have h1:=uN e he hb
    rw [heq,getD_both P3]at h1
    cases h1
   have h2:=afY hoj (aiQ j oj hoj hji aqM ak7) (pN i oi hin hi) (pN j oj hjn hoj) (af0 hoj inv uN (getD_both P3)) hy ho h1
   have ak8:∀k ok,ops[k]? = some ok→k≠i→(bH.setIfInBounds j true).getD k true=false →
     (∀e∈ok.after,Region.binds md e=true→e.on≠i)→oi.apart ops ok=true:=fun k ok hk hki aqN Q3=>by
    refine aiQ k ok hk hki ?_ Q3
    by_cases hjk:j=k
    ·subst hjk;exact aqM
    ·rw [getD_set_ne true hjk]at aqN;exact aqN
   refine abj (fun U3 h3=>ih (bH.setIfInBounds j true) U3 (inv.set hj hjn) ak8 (ready_mono hr (Ne.symm hji)) h3.1 h3.2.1 ?_) h2
   rw [Array.setIfInBounds_comm _ _ hji]
   exact h3.2.2
def ala(E:Env)(md:Region.Mode)(ops:Array Oper)(c0:Nat)(Lq:ST→Prop):Nat→List Oper→ST→Prop
 | _,[],st=>Lq st
 | k,o::os,st=>∃b v u,YG E md ops c0 k o b v u st∧X0 md ops.toList k u st.b6∧ala E md ops c0 Lq (k+1) os (app k o b v u st)
theorem sW{c0 n g:Nat}{Lq:ST→Prop}(pN:∀i oi,i<n→ops[i]? = some oi→dQ E oi.op=true→oi.dst.isSome=true)(B8:∀bH,HeadInv md ops n bH → ∀i,i<n→bH.getD i true=false → ∀t,n≤t→t ∉ Region.ready md ops bH) :
  ∀(l:List Oper) (k:Nat) (bH:Array Bool) (st:ST),(∀j,j<l.length→l[j]? = ops[k+j]?)→k+l.length=n→HeadInv md ops n bH →
  Region.lexHead md ops g l.length k bH=true→ala E md ops c0 Lq k l st →
  LS E md ops c0 n (fun U4 U3=>Region.seqB md ops g n U4=true∧Lq U3) l.length bH st
 | [],k,bH,st,_,hk,_,hB,h=>by
  have:k=n:=by simpa using hk
  subst this
  exact⟨by simpa [Region.lexHead]using hB,h⟩
 | o::l,k,bH,st,hl,hk,inv,hB,h=>by
  have h0:ops[k]? = some o:=by simpa using(hl 0 (by simp)).symm
  simp only [List.length_cons,Region.lexHead,Bool.and_eq_true]at hB
  obtain⟨⟨hr,hf⟩,hB'⟩:=hB
  have hkn:k<n:=by simp only [List.length_cons]at hk;omega
  have k8:k∈Region.ready md ops bH:=by simpa using hr
  obtain⟨b,v,u,hy,ho,hK⟩:=h
  exact LU h0 pN B8 hkn (fun U4 U3 hL=>seqB_ready hL.1) l.length bH st inv (Region.free_spec h0 hf) k8 hy ho
   (sW pN B8 l (k+1) _ _ (fun j hj=>by have:=hl (j+1) (by simp;omega);simpa [Nat.add_assoc,Nat.add_comm 1 j]using this) (by simp only [List.length_cons]at hk;omega) (inv.set k8 hkn) hB' hK)
variable {w0:World} {S0:eC} {m:Nat} {G:Gs}
theorem Q4{o:Oper}{a:Act}{w:World}{f:Nat→PV}{rows:Rows}{U:Nat→Prop}{c0:Nat}{v:PV}{u:Option (Nat × Row)}(UX:¬U c0){g:FuncId}{aGI:Array Operand}{ts:Array TypeId}(ho:o.op = .call { callee:=.value (.func g),args:=aGI,argTypes:=ts })
  (hy:aiN E g (aGI.toList.map fun x=>aV f x) c0 (o.dst.getD 0) v u) (hR:pO w0 S0 m G U f rows a w) (hd:∀t,o.dst=some t→t<m)
  {K':Act→World→Prop} {Q:Exit→Act→World→Prop} (hK:∀a' w',pO w0 S0 m G (fun v=>v=c0∨U v) (put f o.dst v) (gO rows u) a' w'→K' a' w'):o.wp E.P a w K' Q:=by
 obtain⟨⟨c,rfl,hr,gC,hI,hf,hG⟩,hn,fR⟩:=hR
 have hρ:=mM hf
 have hfu:¬c.used c0:=fun hu=>UX (gC _ hu)
 obtain⟨tU,e,n,els,⟨⟨fn,b,h1,h2,h3⟩,QW⟩,rfl,rfl⟩:=hy
 obtain⟨dst,op,type,pos,after,guard⟩:=o
 simp only at ho hd hK
 subst ho
 have gK:bK (aM c) (aGI.toList.map fun x=>aV f x) (aGI.map a.eval).toList:=by
  refine bK.dU (by simp) fun k p u hp hu=>?_
  simp at hp hu
  obtain⟨x,hx,rfl⟩:=hp
  obtain⟨y,hy,rfl⟩:=hu
  rw [hx]at hy;cases hy
  exact hρ x
 have gN:bU c.S c.w (aGI.toList.map fun x=>aV f x) (aGI.map a.eval).toList:=c8.2 (bK.dU gK.length fun k p u hp hu=>by
  obtain⟨u',q1,q2⟩:=gK.get hp
  rw [hu]at q1;cases q1
  exact q2.rep (List.all_eq_true.1 tU p (List.mem_of_getElem? hp)))
 have rM:=QW c.w c.S _ (fun b o hb=>hI.lt hb) gN
 simp only [Array.toArray_toList]at rM
 have hfo:=hρ (.func g)
 simp only [aV,aM,aU,dG]at hfo
 obtain⟨cs,hfv,K9⟩:=hfo
 simp only [bU]at K9
 subst K9
 unfold Oper.wp
 have kA:(execOp a.eval { dst:=dst,op:=.call { callee:=.value (.func g),args:=aGI,argTypes:=ts },type:=type,pos:=pos,after:=after,guard:=guard }).run E.P c.w = .ok (.enter g (aGI.map a.eval)) c.w:=by
  simp only [execOp,resolve,hfv,Deferred.ofValue,Sem.run_bind,Sem.run_pure,Result.andThen_ok,invoke]
  simpa using m9 h1 h2 h3 (aGI.map a.eval) c.w
 rw [kA]
 refine rM.mono ?_
 rintro x w' ⟨v',xs,S',rfl,hb,g1,g2,g3,g4,g5,g6,g7,g8⟩
 obtain⟨hI2,hA2⟩:=hI.grow hb g1 g2
 obtain⟨hI3,hA3⟩:=hI2.set (w':=w') (ob:=v'.ownBlock) (id:=dst.getD 0) (r':=⟨c0,e,n,els⟩) (v':=v') (xs:=xs) (World.grownBy.refl _ _)
  (fun g hg=>by
   have XR:=(g3.lt g hg).1
   refine⟨by have:=hI.below.size;omega,fun o=>g8 g o hg,fun j5 r hr _ EO=>?_⟩
   obtain⟨⟨ys,q1,_,_⟩,_⟩:=hI.row j5 r hr
   have:=(q1.lt g EO).2
   omega) ⟨g3.1,g3.2.imp id fun⟨g,cap,cur,q1,q2,q3⟩=>⟨g,cap,cur,q1,Nat.le_trans hI.below.size q2,q3⟩⟩ (g4.mono fun _ _ h=>aU.j9 h) g5 g6 g7 (fun g hg => .inl hg) hfu
 refine hK _ _ ?_
 have hf2:∀s,aM { c with S:=S',w:=w' } (f s) (a.tmps.getD s undef):=fun s=>aM.uF hA2 _ _ (hf s)
 have hG2:∀p∈G,aM { c with S:=S',w:=w' } p.1 p.2:=fun p hp=>aM.uF hA2 _ _ (hG p hp)
 refine o0 hf2 hG2 hn fR hA3 hI3 ?_ hd rfl (by simp [gO,hr]) (fun v hv=>hv.imp (fun h=>h) (gC v))
 rcases g3.2 with ⟨rfl,h8⟩ | ⟨g,lA,cur,rfl,_⟩
 ·have:els.length=0:=h8
  rw [this]
  exact lZ (r:=⟨c0,e,n,els⟩) (A:=none) (cap:=0) (by simp [eE]) (by simpa using h8) (Or.inl rfl) (by simp [eE])
 ·exact lZ (r:=⟨c0,e,n,els⟩) (by simp [eE]) rfl (Or.inl rfl) (by simp [eE])
theorem abm{o:Oper}{a:Act}{w:World}{f:Nat→PV}{rows:Rows}{U:Nat→Prop}{c0:Nat}{v:PV}{u:Option (Nat × Row)}(UX:¬U c0)(hn:dQ E o.op=true)(hy:yn E c0 o.dst o.op (aV f) rows v u)(hR:pO w0 S0 m G U f rows a w)(hd:∀t,o.dst=some t→t<m)
  {K':Act→World→Prop} {Q:Exit→Act→World→Prop} (hK:∀a' w',pO w0 S0 m G (fun v=>v=c0∨U v) (put f o.dst v) (gO rows u) a' w'→K' a' w'):o.wp E.P a w K' Q:=by
 by_cases rM:∃g aGI ts,o.op = .call { callee:=.value (.func g),args:=aGI,argTypes:=ts }∧E.writes g=true
 ·obtain⟨g,aGI,ts,ho,hw⟩:=rM
  rw [ho]at hy
  simp only [yn]at hy
  rw [if_pos hw]at hy
  exact Q4 UX ho hy hR hd hK
 refine vR (ver:=c0) UX (K:=fun _ f' rows'=>f'=put f o.dst v∧rows'=gO rows u) ?_ hR hd (fun i f' rows' a' w' h l5=>by
  obtain⟨rfl,rfl⟩:=h
  exact hK a' w' (l5.mono fun v hv=>hv.imp (fun h=>h.2) fun h=>h))
 obtain⟨dst,op,type,pos,after,guard⟩:=o
 simp only at hn hy rM ⊢
 refine n5 hn ?_ ?_ ?_ ?_ ?_
 ·rintro t rfl
  simp only [yn]at hy
  obtain⟨h2,rfl,rfl⟩:=hy
  exact⟨h2,rfl,rfl⟩
 ·rintro t x rfl
  simp only [yn]at hy
  obtain⟨h2,l,h3,h4,h5,rfl,rfl⟩:=hy
  exact⟨h2,l,h3,fun q hq=>IJ (fun id _ r hr=>by cases hr) (h4 q hq),h5,rfl,rfl⟩
 ·rintro t l cc rfl
  simp only [yn]at hy
  simp only [oQ]
  split at hy
  ·rename_i e n b z k1 x k2 y hE hl hc
   obtain⟨g1,g2,g3,g4,rfl,rfl⟩:=hy
   try rw [hE,hl,hc]
   exact⟨g1,g2,g3,g4,rfl,rfl⟩
  ·exact hy.elim
 ·rintro x y t t2 rfl
  simp only [yn]at hy
  obtain⟨h2,hy⟩:=hy
  simp only [oQ]
  refine⟨h2,?_⟩
  unfold rN at hy
  unfold o6
  split at hy
  ·rename_i e n b z hE
   obtain⟨l,g1,g2,g3⟩:=hy
   rw [hE]
   refine⟨l,g1,g2,?_⟩
   split at g3
   ·rename_i hx
    obtain⟨q1,q2,rfl,rfl⟩:=g3
    rw [hx]
    exact⟨q1,q2,rfl,rfl⟩
   ·rename_i id ver off len hx
    obtain⟨r,q1,q2,q3,q4,q5,q6,q7,q8,rfl,rfl⟩:=g3
    rw [hx]
    exact⟨r,q1,q2,q3,q4,q5,q6,q7,q8,rfl,rfl⟩
   ·exact g3.elim
  ·exact hy.elim
 ·rintro g aGI ts rfl hw
  exact absurd ⟨g,aGI,ts,rfl,hw⟩ rM
theorem X3{c0 i:Nat}{st:ST}{K:ST→Prop}{U:Nat→Prop}(UX:∀o,ops[i]? = some o→dQ E o.op=true→¬U (c0+rk E ops.toList i))(h:qOp E md ops c0 i K st){a:Act}{w:World}(hR:pO w0 S0 m G U st.f st.rows a w)(hd:∀o,o∈ops → ∀t,o.dst=some t→t<m)
  {K':Act→World→Prop} {Q:Exit→Act→World→Prop} (hK:∀U3 a' w',K U3→pO w0 S0 m G (fun v=>(v=c0+rk E ops.toList i ∧ ∃o,ops[i]? = some o∧dQ E o.op=true)∨U v) U3.f U3.rows a' w'→K' a' w'):wpOp E.P ops Q i K' a w:=by
 unfold qOp at h
 unfold wpOp
 split at h
 ·rename_i hi;simp only [hi];exact hK _ _ _ h (hR.mono fun v hv => .inr hv)
 ·rename_i o hi
  simp only [hi]
  obtain⟨b,v,u,⟨hg,hy⟩,ho,hk⟩:=h
  have l5:=hR
  obtain⟨⟨c,rfl,hr,gC,hI,hf,hG⟩,hn,fR⟩:=hR
  have hdo:=hd o (Array.mem_of_getElem? hi)
  have aiR:Region.wanted o (yielded ops a.tmps)=b:=by
   unfold gOK at hg
   unfold Region.wanted
   cases hgd:o.guard with
   | none=>rw [hgd]at hg;simp only at hg ⊢;exact hg.symm
   | some x =>
    obtain⟨j,want⟩:=x
    rw [hgd]at hg
    simp only at hg ⊢
    obtain⟨d,h1,h2⟩:=hg
    have hx:=hf d
    rcases h2 with ⟨h2,h3⟩ | ⟨h2 | h2,h3⟩
    ·rw [h2]at hx
     rw [iN h1 hx,h3]
     cases want<;>rfl
    ·rw [h2]at hx
     rw [iN h1 hx,h3]
     cases want<;>rfl
    ·rw [h2]at hx
     rw [uM h1 hx,h3]
     rfl
  by_cases hb:b=true
  ·subst hb
   rw [if_pos rfl]at hy
   rw [aiR,if_pos rfl]
   left
   cases pN:dQ E o.op with
   | true =>
    refine abm (UX o hi pN) pN (U0 (fun id _ r k8=>(lE.1 k8).2) hy).1 l5 hdo fun a' w' hR2=>hK _ _ _ hk ?_
    exact hR2.mono fun v hv=>hv.imp (fun h=>⟨h,o,by first | exact hi | rfl,pN⟩) fun h=>h
   | false =>
    rw [B3 pN]at hy
    have EV:ys E o.op (aV st.f) c.rows v u:=by
     rw [hr]
     exact(aiM (fun id _ r k8=>(lE.1 k8).2) hy).1
    refine LO hI hf EV fun v' c' h1 h2 h3 h4 h5=>hK _ _ _ hk ?_
    refine o0 hf hG hn fR h3 h4 h5 hdo rfl ?_ ?_
    ·simp only [app]
     rw [h1,hr]
    ·rw [h2]
     exact fun v hv => .inr (gC v hv)
  ·rw [if_neg hb]at hy
   obtain⟨rfl,rfl⟩:=hy
   rw [aiR,if_neg hb]
   refine hK _ _ _ hk ?_
   have EO:b=false:=by simpa using hb
   subst EO
   exact o0 hf hG hn fR (uE.refl c) hI Q0 hdo rfl (by rw [hr];rfl) (fun v hv => .inr (gC v hv))
def Ul(E:Env)(ops:Array Oper)(c0 n:Nat)(bH:Array Bool):Nat→Prop:=fun v=>v<c0 ∨ ∃k o,k<n∧ops[k]? = some o∧dQ E o.op=true∧v=c0+rk E ops.toList k∧bH.getD k false=true
theorem Q5{c0 n v:Nat}{bH:Array Bool}(h:Ul E ops c0 n bH v):v<c0+rk E ops.toList n:=by
 rcases h with h | ⟨k,o,hk,ho,hn,rfl,_⟩
 ·omega
 ·have:=abf (ops:=ops.toList) (by simpa using ho) hn hk
  omega
theorem lU{c0 n g:Nat}{L:Array Bool→ST→Prop}{Q:Exit→Act→World→Prop}(hd:∀o,o∈ops → ∀t,o.dst=some t→t<m)
  (hL:∀bH (st:ST) a w,L bH st→pO w0 S0 m G (Ul E ops c0 n bH) st.f st.rows a w→wpAny E.P md ops Q g bH a w) :
  ∀(f:Nat) (bH:Array Bool) (st:ST) (a:Act) (w:World),n≤bH.size→LS E md ops c0 n L f bH st→pO w0 S0 m G (Ul E ops c0 n bH) st.f st.rows a w→wpAny E.P md ops Q (f+g) bH a w
 | 0,bH,st,a,w,_,h,hR=>by rw [Nat.zero_add];exact hL _ _ _ _ h hR
 | f+1,bH,st,a,w,oN,h,hR=>by
  rw [show f+1+g=(f+g)+1 by omega]
  refine⟨fun h0=>absurd h0 h.1,fun i hi=>?_⟩
  have P3:=(mem_ready.1 hi).1
  obtain⟨hin,hq⟩:=h.2 i hi
  refine X3 (fun o ho hn hU=>?_) hq hR hd fun U3 a' w' h' l5=>lU hd hL f _ U3 a' w' (by simpa using oN) h' (l5.mono fun v hv=>?_)
  ·rcases hU with hU | ⟨k,o',hk,ho',xW,he,hl⟩
   ·omega
   ·have:=ak2 (ops:=ops.toList) (by simpa using ho) hn (by simpa using ho') xW (by omega)
    subst this
    rw [getD_both P3]at hl;cases hl
  ·rcases hv with ⟨rfl,o,ho,hn⟩ | hv
   ·exact .inr ⟨i,o,hin,ho,hn,rfl,by simp [show i<bH.size by omega]⟩
   ·rcases hv with hv | ⟨k,o,hk,ho,hn,he,hl⟩
    ·exact .inl hv
    ·refine .inr ⟨k,o,hk,ho,hn,he,?_⟩
     by_cases hki:i=k
     ·subst hki;simp [show i<bH.size by omega]
     ·simpa [Array.getElem?_setIfInBounds_ne hki]using hl
end
def aO(E:Env)(ops:List Oper):List Oper→(PS→Prop)→PS→Prop
 | [],K,σ=>K σ
 | o::os,K,σ =>
  match o.guard with
  | none=>eZ E o (aO E ops os K) σ
  | some (j,want) =>
   match (ops[j]?).bind (·.dst)with
   | none=>False
   | some d=>(σ.f d = .bool want∧eZ E o (aO E ops os K) σ)∨((σ.f d = .bool (!want)∨σ.f d = .eB [])∧aO E ops os K (σ.put o.dst (.eB [])))
def aQ(E:Env)(ops:List Oper)(clk:Nat):Nat→List Oper→(PS→Prop)→ST→Prop
 | _,[],K,st=>K ⟨st.f,st.rows,clk⟩
 | k,o::os,K,st =>
  match o.guard with
  | none=>∃v u,yn E clk o.dst o.op (aV st.f) (eN .any ops k st.wl st.rows) v u∧X0 .any ops k u st.b6∧aQ E ops (iX E o.op clk) (k+1) os K (app k o true v u st)
  | some (j,want) =>
   match (ops[j]?).bind (·.dst)with
   | none=>False
   | some d=>(st.f d = .bool want ∧ ∃v u,yn E clk o.dst o.op (aV st.f) (eN .any ops k st.wl st.rows) v u∧X0 .any ops k u st.b6∧aQ E ops (iX E o.op clk) (k+1) os K (app k o true v u st))∨((st.f d = .bool (!want)∨st.f d = .eB [])∧aQ E ops clk (k+1) os K (app k o false (.eB []) none st))
def gP(E:Env)(tl:Nat)(ops:List Oper)(K:PS→Prop)(σ:PS):Prop:=
 if tl=0 then aQ E ops σ.clock 0 ops K ⟨σ.f,σ.rows,fun _ _=>False,fun _ _=>False⟩
 else aQ E ops σ.clock 0 (ops.take (ops.length-tl)) (aO E ops (ops.drop (ops.length-tl)) K) ⟨σ.f,σ.rows,fun _ _=>False,fun _ _=>False⟩
inductive PX where
 | normal
 | exit (id:Nat)
 | ret
def EY(K:PS→Prop)(Q:PX→PS→Prop):PX→PS→Prop
 | .normal,σ=>K σ
 | .exit id,σ=>Q (.exit id) σ
 | .ret,σ=>Q .ret σ
def EZ(id:Nat)(Q:PX→PS→Prop):PX→PS→Prop
 | .normal,σ=>Q .normal σ
 | .exit j,σ=>if j=id then Q .normal σ else Q (.exit j) σ
 | .ret,σ=>Q .ret σ
def rO(E:Env)(n tl:Nat)(ops:Array Oper)(draw:Bool):Bool:=
 (ops.all fun o=>match o.dst with | some d=>decide (d<n) | none=>true) &&
 (!draw || (uL E (if tl=0 then ops.toList else ops.toList.take (ops.size-tl))&&(if tl=0 then Region.noSelect ops&&Region.lexHead .any ops 0 ops.size 0 (Array.replicate ops.size false)else decide (tl≤ops.size)&&Region.lexTailB .any ops (ops.size-tl))))
def fA(E:Env)(n:Nat)(tl:Nat→Nat):Code→Bool
 | .region id ops draw=>rO E n (tl id) ops draw
 | .seq a b=>fA E n tl a&&fA E n tl b
 | .cond _ t e=>fA E n tl t&&fA E n tl e
 | .block _ c=>fA E n tl c
 | .loop c=>fA E n tl c
 | _=>true
section
variable {E:Env} {w0:World} {S0:eC} {n:Nat} {G:Gs}
theorem iE{ops:Array Oper}{K:PS→Prop}{Q:Exit→Act→World→Prop}(hK:∀σ' a' w',K σ'→Rel w0 S0 n G σ' a' w'→Q .normal a' w') :
  ∀(l:List Oper) (σ:PS) (a:Act) (w:World),(∀o∈l,∀t,o.dst=some t→t<n)→aO E ops.toList l K σ→Rel w0 S0 n G σ a w→wpList E.P ops Q l a w
 | [],σ,a,w,_,h,hR=>hK _ _ _ h hR
 | o::os,σ,a,w,hd,h,hR=>by
  have hdo:=hd o (by simp)
  have hds:∀o∈os,∀t,o.dst=some t→t<n:=fun o ho=>hd o (by simp [ho])
  have wanted:∀ {σ},eZ E o (aO E ops.toList os K) σ→Rel w0 S0 n G σ a w→o.wp E.P a w (wpList E.P ops Q os) Q:=fun hp hR =>
   zA hp hR hdo fun σ' a' w' hk l5=>iE hK os σ' a' w' hds hk l5
  unfold wpList
  simp only [aO]at h
  split at h
  ·rename_i hg
   rw [if_pos (by simp [Region.wanted,hg])]
   exact .inl (wanted h hR)
  ·rename_i j want hg
   split at h
   ·exact h.elim
   ·rename_i d Q6
    have hd3:(ops[j]?).bind (·.dst)=some d:=by simpa using Q6
    have skip:yielded ops a.tmps j≠some want→aO E ops.toList os K (σ.put o.dst (.eB []))→(if Region.wanted o (yielded ops a.tmps)=true then o.wp E.P a w (wpList E.P ops Q os) Q∨(o.asks E.P a w∧LetsOut Q)else wpList E.P ops Q os (a.put o.dst undef) w):=by
     intro hy h2
     rw [if_neg (by simpa [Region.wanted,hg]using hy)]
     refine iE hK os _ _ w hds h2 ?_
     obtain⟨⟨c,rfl,hr,gC,hI,hf,hG⟩,hn,fR⟩:=hR
     exact n4 hf hG hn fR (uE.refl c) hI Q0 hdo rfl (by simp [PS.put,hr]) gC
    obtain⟨c,_,_,_,_,hf,_⟩:=hR.ex
    have hx:=hf d
    rcases h with ⟨h1,h2⟩ | ⟨h1 | h1,h2⟩
    ·rw [h1]at hx
     rw [if_pos (by simp [Region.wanted,hg,iN hd3 hx])]
     exact .inl (wanted h2 hR)
    ·rw [h1]at hx
     exact skip (by rw [iN hd3 hx];cases want<;>simp) h2
    ·rw [h1]at hx
     exact skip (by rw [uM hd3 hx];simp) h2
theorem o7{ops:Array Oper}{c0:Nat}{K:PS→Prop}:∀(l:List Oper) (k clk:Nat) (st:ST),(∀j,j<l.length→l[j]? = ops[k+j]?)→uL E l=true→clk=c0+rk E ops.toList k→aQ E ops.toList clk k l K st→ala E .any ops c0 (fun st=>K ⟨st.f,st.rows,c0+rk E ops.toList (k+l.length)⟩) k l st
 | [],k,clk,st,_,_,hc,h=>by subst hc;exact h
 | o::os,k,clk,st,hl,LV,hc,h=>by
  have alc:uL E os=true:=by simp only [uL,List.all_cons,Bool.and_eq_true]at LV ⊢;exact LV.2
  have aw2:o.guard≠none→dQ E o.op=false:=fun hg=>by
   simp only [uL,List.all_cons,Bool.and_eq_true]at LV
   cases hn:dQ E o.op with
   | false=>rfl
   | true=>have:=LV.1;rw [hn]at this;simp at this;exact absurd this.2 hg
  have h0:ops[k]? = some o:=by simpa using(hl 0 (by simp)).symm
  have vI:iX E o.op clk=c0+rk E ops.toList (k+1):=by rw [hc];exact afX (by simpa using h0)
  have hl1:∀j,j<os.length→os[j]? = ops[k+1+j]? := fun j hj=>by have:=hl (j+1) (by simp;omega);simpa [Nat.add_assoc,Nat.add_comm 1 j]using this
  have e1:k+(o::os).length=k+1+os.length:=by simp only [List.length_cons];omega
  rw [e1]
  simp only [aQ]at h
  split at h
  ·rename_i hg
   obtain⟨v,u,h1,h2,h3⟩:=h
   exact⟨true,v,u,⟨by simp [gOK,hg],by rw [if_pos rfl,←hc];exact h1⟩,h2,o7 os _ _ _ hl1 alc vI h3⟩
  ·rename_i j want hg
   split at h
   ·exact h.elim
   ·rename_i d Q6
    have hd3:(ops[j]?).bind (·.dst)=some d:=by simpa using Q6
    rcases h with ⟨h1,v,u,q1,q2,q3⟩ | ⟨h1,h2⟩
    ·exact⟨true,v,u,⟨by simp only [gOK,hg];exact⟨d,hd3, .inl ⟨h1,trivial⟩⟩,by rw [if_pos rfl,←hc];exact q1⟩,q2,o7 os _ _ _ hl1 alc vI q3⟩
    ·exact⟨false, .eB [],none,⟨by simp only [gOK,hg];exact⟨d,hd3, .inr ⟨h1,trivial⟩⟩,by simp⟩,trivial,o7 os _ _ _ hl1 alc (by rw [←vI,B5 (aw2 (by rw [hg];simp))]) h2⟩
theorem Rel.drew{σ:PS}{a:Act}{w:World}(h:Rel w0 S0 n G σ a w):Rel w0 S0 n G σ a { w with drawn:=w.drawn+1 }:=by
 obtain⟨⟨c,rfl,hr,gC,hI,hf,hG⟩,hn,fR⟩:=h
 obtain⟨xK,hA⟩:=hI.grow (w':={ c.w with drawn:=c.w.drawn+1 }) (S':=c.S) ⟨rfl,rfl,rfl,Nat.le_refl _,fun _ _=>rfl⟩ (fun _ _ h=>h) (fun _ _ h => .inl h)
 exact⟨⟨{ c with w:={ c.w with drawn:=c.w.drawn+1 } },rfl,hr,gC,xK,fun s=>aM.uF hA _ _ (hf s),fun p hp=>aM.uF hA _ _ (hG p hp)⟩,hn,fR⟩
theorem tX{id tl:Nat}{ops:Array Oper}{K:PS→Prop}{Q:Exit→Act→World→Prop}(gT:rO E n tl ops true=true){σ:PS}{a:Act}{w:World}(h:gP E tl ops.toList K σ)(hR:Rel w0 S0 n G σ a w)
  (hK:∀σ' a' w',K σ'→Rel w0 S0 n G σ' a' w'→Q .normal a' w'):(Code.region id ops true).wp E.P Q a w:=by
 simp only [rO,Bool.and_eq_true,Bool.not_true,Bool.false_or]at gT
 obtain⟨ald,tY,gT⟩:=gT
 have hd:∀o,o∈ops → ∀t,o.dst=some t→t<n:=by
  intro o ho t ht
  have:=Array.all_eq_true_iff_forall_mem.1 ald o ho
  simpa [ht]using this
 refine wp_region_any E.mixed ?_
 have LW:=hR.drew
 have hU0:∀k (l:Array Bool),pO w0 S0 n G (Ul E ops σ.clock k l) σ.f σ.rows a { w with drawn:=w.drawn+1 }:=fun k l=>LW.mono fun v hv => .inl hv
 have af3:∀(l:List Oper),uL E l=true → ∀(i:Nat) (oi:Oper),l[i]? = some oi→dQ E oi.op=true→oi.dst.isSome=true:=fun l h i oi hi hn=>by
  have:=List.all_eq_true.1 h oi (List.mem_of_getElem? hi)
  rw [hn]at this;simp at this;exact Option.isSome_iff_exists.2 (by obtain⟨x,hx⟩:=Option.isSome_iff_exists.1 this.1;exact⟨x,hx⟩)
 unfold gP at h
 by_cases htl:tl=0
 ·rw [if_pos htl]at h gT tY
  have pN:∀i oi,i<ops.size→ops[i]? = some oi→dQ E oi.op=true→oi.dst.isSome=true:=fun i oi _ hi=>af3 _ tY i oi (by simpa using hi)
  simp only [Bool.and_eq_true]at gT
  have hl:=o7 (c0:=σ.clock) ops.toList 0 _ _ (by simp) tY (by simp [rk]) h
  have abn:HeadInv .any ops ops.size (Array.replicate ops.size false):=
   ⟨by simp,fun j oj _ hl=>(by rw [getD_replicate_false]at hl;cases hl),fun t h1 h2=>by omega⟩
  have B8:∀bH,HeadInv .any ops ops.size bH → ∀i,i<ops.size→bH.getD i true=false → ∀t,ops.size≤t→t ∉ Region.ready .any ops bH:=by
   intro bH _ i _ _ t ht hr
   obtain⟨_,o,ho,_⟩:=mem_ready.1 hr
   have:=(Array.getElem?_eq_some_iff.1 ho).1
   omega
  have H:=sW (E:=E) (md:=.any) (g:=0) pN B8 ops.toList 0 _ _ (by simp) (by simp) abn (by simpa using gT.2) hl
  have:=lU (E:=E) (md:=.any) (g:=0) (Q:=Q) (m:=n) hd (fun bH st a' w' hL l5=>by
   obtain⟨h1,h2⟩:=hL
   exact⟨by simpa [Region.seqB]using h1,hK _ _ _ h2 (l5.mono fun v hv=>by have:=Q5 hv;simpa using this)⟩) _ _ _ _ _ (by simp) H (hU0 _ _)
  simpa using this
 ·rw [if_neg htl]at h gT tY
  have pN:∀i oi,i<ops.size-tl→ops[i]? = some oi→dQ E oi.op=true→oi.dst.isSome=true:=fun i oi h1 hi=>af3 _ tY i oi (by rw [List.getElem?_take,if_pos h1];simpa using hi)
  simp only [Bool.and_eq_true,decide_eq_true_eq]at gT
  obtain⟨hle,hB⟩:=gT
  simp only [Region.lexTailB,Bool.and_eq_true,decide_eq_true_eq]at hB
  obtain⟨⟨⟨⟨aw3,xW⟩,hs⟩,hc⟩,ale⟩:=hB
  have hlen:ops.toList.length=ops.size:=by simp
  rw [hlen]at h
  have hl:=o7 (c0:=σ.clock) (ops.toList.take (ops.size-tl)) 0 _ _ (fun j hj=>by
   have hj':j<ops.size-tl:=by simpa using hj
   simp [hj']) tY (by simp [rk]) h
  have abn:HeadInv .any ops (ops.size-tl) (Array.replicate ops.size false):=
   ⟨by simp,fun j oj _ hl=>(by rw [getD_replicate_false]at hl;cases hl),fun t _ ht=>getD_in (by simpa using ht) (getD_replicate_false _ _)⟩
  have xL:(ops.toList.take (ops.size-tl)).length=ops.size-tl:=by simp
  have hdl:(ops.toList.drop (ops.size-tl)).length=ops.size-(ops.size-tl):=by simp
  have H:=sW (E:=E) (md:=.any) (n:=ops.size-tl) (g:=ops.size-(ops.size-tl)) pN (fun bH inv i hi P3 t ht=>tail_waits hs hc xW inv _ i rfl hi P3 t ht) (ops.toList.take (ops.size-tl)) 0 _ _ (fun j hj=>by
   rw [xL]at hj
   simp [hj]) (by rw [xL];simp) abn (by rw [xL];exact ale) hl
  have:=lU (E:=E) (md:=.any) (g:=ops.size-(ops.size-tl)) (Q:=Q) (m:=n) hd (fun bH st a' w' hL l5=>by
   obtain⟨h1,h2⟩:=hL
   have h3:=iE (ops:=ops) (Q:=Q) hK (ops.toList.drop (ops.size-tl)) _ a' w' (fun o ho=>hd o (by simpa using List.mem_of_mem_drop ho)) h2 (l5.mono fun v hv=>by have:=Q5 hv;simpa using this)
   have h4:=wpAny_of_seq (md:=.any) (Q':=Q) (ops.toList.drop (ops.size-tl)) (ops.size-tl) bH a' w' (fun j=>by simp [List.getElem?_drop]) (by rw [hdl];exact h1) h3
   rwa [hdl]at h4) _ _ _ _ _ (by simp) H (hU0 _ _)
  rw [xL,show ops.size-tl+(ops.size-(ops.size-tl))=ops.size by omega]at this
  exact this
def alf:PX→Exit
 | .normal => .normal
 | .exit id => .exit id
 | .ret => .ret
end
def qQ(E:Env)(σ:PS):List ResultVar→(List PV→Prop)→Prop
 | [],K=>K []
 | .tmp t::rs,K=>qQ E σ rs fun vs=>K (σ.f t::vs)
 | .cell a t::rs,K=>∃v,tP E t σ.rows (σ.f a) v∧qQ E σ rs fun vs=>K (v::vs)
def LX:List PV→PV
 | [x]=>x
 | l => .eB l
def abp(E:Env)(rs:List ResultVar)(r:PV)(σ:PS):Prop:=
 qQ E σ rs fun vs=>eM σ.rows (vs.flatMap eD)∧(vs.map (pz σ.rows)).all gI=true∧r=LX (vs.map (pz σ.rows))
def abq(E:Env)(rs:List ResultVar)(r:PV):PX→PS→Prop
 | .normal,σ=>abp E rs r σ
 | .ret,σ=>abp E rs r σ
 | .exit _,_=>False
def F4(args:List PV):PS:=⟨fun s=>args.getD s .undef,fun _=>none,0⟩
section
variable {E:Env} {w0:World} {S0:eC} {c:Cx}
theorem sX(hI:Inv w0 S0 c){clk:Nat}{a:Act}{f:Nat→PV}(hf:∀s,aM c (f s) (a.tmps.getD s undef)){g:ResultVar→Sem Value}(hg1:∀t,g (.tmp t)=pure (a.tmps.getD t undef))
  (oO:∀x t,g (.cell x t)=do loadVar t (←asAddr (a.tmps.getD x undef))):∀(rs:List ResultVar) (K:List PV→Prop),qQ E ⟨f,c.rows,clk⟩ rs K →
  ∃vs us,K vs∧bK (aM c) vs us∧(rs.mapM g:Sem (List Value)).run E.P c.w = .ok us c.w
 | [],K,h=>⟨[],[],h,trivial,by simp⟩
 | .tmp t::rs,K,h=>by
  obtain⟨vs,us,h1,h2,h3⟩:=sX hI hf hg1 oO rs _ h
  exact⟨f t::vs,a.tmps.getD t undef::us,h1,⟨hf t,h2⟩,by
   rw [List.mapM_cons,hg1,Sem.run_bind,Sem.run_pure,Result.andThen_ok,Sem.run_bind,h3,Result.andThen_ok,Sem.run_pure]⟩
 | .cell x t::rs,K,h=>by
  obtain⟨v,hv,h⟩:=h
  obtain⟨vs,us,h1,h2,h3⟩:=sX hI hf hg1 oO rs _ h
  obtain⟨u,hu,hr⟩:=FQ hI (hf x) hv
  refine⟨v::vs,u::us,h1,⟨hr,h2⟩,?_⟩
  have PT:(do loadVar t (←asAddr (a.tmps.getD x undef)):Sem Value).run E.P c.w = .ok u c.w:=by
   simp only [Instr.loadAt,Sem.run_bind]at hu ⊢
   cases hx:a.tmps.getD x undef with
   | pointer p =>
    cases p with
    | some ad=>rw [hx]at hu;simpa [Instr.sureAddr,asAddr]using hu
    | none=>rw [hx]at hu;simp [Instr.sureAddr,stuck,Result.andThen]at hu
   | _=>rw [hx]at hu;simp [Instr.sureAddr,stuck,Result.andThen]at hu
  rw [List.mapM_cons,oO]
  simp only [Sem.run_bind]at PT ⊢
  rw [PT,Result.andThen_ok,h3,Result.andThen_ok,Sem.run_pure]
theorem Q7{B9:FuncId}{fn:Func}{code:Code}{args:List PV}{r:PV}(h1:E.P.funcs[B9]? = some fn)(h2:fn.body=some code) (h3:(fn.name == "runtime.NumGoroutine") = false) (gK:args.length≤fn.ntmps)
  (h:∀(w0:World) (S0:eC) (a:Act) (w:World) (Q':Exit→Act→World→Prop),Rel w0 S0 fn.ntmps Gs.none (F4 args) a w→(∀x σ' a' w',abq E fn.results.toList r x σ'→Rel w0 S0 fn.ntmps Gs.none σ' a' w'→Q' (alf x) a' w')→code.wp E.P Q' a w):aD E.P B9 args r:=by
 refine⟨⟨fn,code,h1,h2,h3⟩,fun w S vs hS gN=>?_⟩
 have BT:=c8.1 gN
 refine calls_of_wp h1 h2 ?_
 have QJ:vs.length=args.length:=BT.length.symm
 let c0:Cx:=⟨S,w,fun _ => .slice none 0 0,fun _=>none,fun _=>False⟩
 have hI0:Inv w S c0:=⟨Below.refl _ _,fun _ _ h=>h,fun _ _ h => .inl h,hS,fun _ _ h=>by simp [c0]at h,fun _ _ h=>by simp [c0]at h,fun _ _ _ _ _ h=>by simp [c0]at h⟩
 have LW:Rel w S fn.ntmps Gs.none (F4 args) { tmps:=vs.toArray++Array.replicate (fn.ntmps-vs.toArray.size) undef,defers:=[] } w:=by
  refine⟨⟨c0,rfl,rfl,fun _ h=>h.elim,hI0,fun s=>?_,fun p hp=>(Gs.LK hp).elim⟩,by simp;omega,rfl⟩
  simp only [F4]
  by_cases hs:s<args.length
  ·obtain⟨u,hu,hr⟩:=BT.get (List.getElem?_eq_getElem hs)
   have e1:args.getD s .undef=args[s]:=by simp [List.getD,List.getElem?_eq_getElem hs]
   have e2:(vs.toArray++Array.replicate (fn.ntmps-vs.toArray.size) undef).getD s undef=u:=by
    have:s<vs.length:=by omega
    simp [this]at hu ⊢
    simp [Array.getElem?_append,this,hu]
   rw [e1]
   show aM c0 args[s] ((vs.toArray++Array.replicate (fn.ntmps-vs.toArray.size) undef).getD s undef)
   rw [e2]
   exact aM.j9 hr
  ·have e1:args.getD s .undef = .undef:=by simp [List.getD,List.getElem?_eq_none (show args.length≤s by omega)]
   rw [e1]
   simp [aM,aU]
 refine h _ _ _ _ _ LW ?_
 have fin:∀σ' a' w',abp E fn.results.toList r σ'→Rel w S fn.ntmps Gs.none σ' a' w'→a'.defers = [] ∧ ∃v,(results fn a'.tmps).run E.P w' = .ok v w'∧(∃v',Ending.returned v = .returned v'∧Below w.heap.size w w' ∧
   ∃S':eC,(∀b o,S b o→S' b o)∧(∀b o,S' b o→S b o∨(w.heap.size≤b∧b<w'.heap.size))∧dG S' w' r v'):=by
  rintro σ' a' w' hp ⟨⟨c,rfl,hr,gC,hI,hf,_⟩,hn,fR⟩
  refine⟨fR,?_⟩
  unfold abp at hp
  have xJ:qQ E ⟨σ'.f,c.rows,σ'.clock⟩ fn.results.toList fun vs=>eM c.rows (vs.flatMap eD)∧(vs.map (pz c.rows)).all gI=true∧r=LX (vs.map (pz c.rows)):=by
   rw [hr];exact hp
  have aqQ:∃vs us,(eM c.rows (vs.flatMap eD)∧(vs.map (pz c.rows)).all gI=true∧r=LX (vs.map (pz c.rows)))∧bK (aM c) vs us ∧
    (results fn a'.tmps).run E.P c.w = .ok (if h:us.toArray.size=1 then us.toArray[0]else .tuple us.toArray) c.w:=by
   have key:∀g:ResultVar→Sem Value,(∀t,g (.tmp t)=pure (a'.tmps.getD t undef))→(∀x t,g (.cell x t)=do loadVar t (←asAddr (a'.tmps.getD x undef))) →
     ∃vs us,(eM c.rows (vs.flatMap eD)∧(vs.map (pz c.rows)).all gI=true∧r=LX (vs.map (pz c.rows)))∧bK (aM c) vs us ∧
      (do let vs ←fn.results.mapM g;pure (if h:vs.size=1 then vs[0]else .tuple vs):Sem Value).run E.P c.w = .ok (if h:us.toArray.size=1 then us.toArray[0]else .tuple us.toArray) c.w:=by
    intro g hg1 oO
    obtain⟨vs,us,g1,g4,g5⟩:=sX hI hf hg1 oO _ _ xJ
    refine⟨vs,us,g1,g4,?_⟩
    have:(fn.results.mapM g).run E.P c.w = .ok us.toArray c.w:=by
     rw [Array.mapM_eq_mapM_toList]
     simp [g5]
    rw [Sem.run_bind,this,Result.andThen_ok,Sem.run_pure]
   unfold results
   exact key _ (fun _=>rfl) (fun _ _=>rfl)
  obtain⟨vs,us,⟨g1,g2,g3⟩,g4,kA⟩:=aqQ
  have LN:=hI.freeze (vs.flatMap eD)
  have uN:bK (dG (QS c (vs.flatMap eD)) c.w) (vs.map (pz c.rows)) us:=by
   refine bK.dU (by simp [g4.length]) fun k p u hp hu=>?_
   simp at hp
   obtain⟨q,hq,rfl⟩:=hp
   obtain⟨u',q1,q2⟩:=g4.get hq
   rw [hu]at q1;cases q1
   exact IA hI g1 q2 (fun id iR=>by simp only [List.mem_flatMap];exact⟨q,List.mem_of_getElem? hq,iR⟩) (List.all_eq_true.1 g2 _ (by simp;exact⟨q,List.mem_of_getElem? hq,rfl⟩))
  refine⟨_,kA,_,rfl,hI.below,QS c (vs.flatMap eD),fun b o h=>LN.ext b o h,fun b o h=>LN.new b o h,?_⟩
  rw [g3]
  have hl:=uN.length
  cases hm:vs.map (pz c.rows)with
  | nil =>
   rw [hm]at uN hl
   have:us = []:=List.eq_nil_of_length_eq_zero (by simpa using hl.symm)
   subst this
   simp only [LX,dG]
   exact⟨[],by simp,by simp [bU]⟩
  | cons p ps =>
   rw [hm]at uN hl
   match us,uN with
   | u::us,uN =>
    cases ps with
    | nil =>
     match us,uN with
     | [],uN=>simpa [LX]using uN.1
    | cons q qs =>
     have h2:¬(u::us).toArray.size=1:=by simp at hl ⊢;intro h;subst h;simp at hl
     rw [dif_neg h2]
     simp only [LX,dG]
     exact⟨_,rfl,c8.2 uN⟩
 intro x σ' a' w' hx l5
 cases x with
 | normal=>exact fin σ' a' w' hx l5
 | ret=>exact fin σ' a' w' hx l5
 | exit id=>exact hx.elim
end
section
variable {P:Program} {t:TypeId}
theorem aF{n:Nat}{v:Value}{z:List PV}(h:(P.info? t).bind (fun i=>i.zero.map fun v=>(i.size,v))=some (n,v))(hz:v.cells.toList.map jG=z)(h1:v.cells.all (·.oneCell')=true)(hl:z.length=n)(hp:0<n):mE P t n z:=by
 refine⟨?_,hl,hp⟩
 cases hi:P.info? t with
 | none=>simp [hi]at h
 | some i =>
  cases mJ:i.zero with
  | none=>simp [hi,mJ]at h
  | some v0 =>
   simp [hi,mJ]at h
   obtain⟨rfl,rfl⟩:=h
   exact⟨i,v0,rfl,mJ,rfl,hz,h1⟩
theorem cP{b:Nat}(h:(P.info? t).map (·.bytes)=some b):∃i,P.info? t=some i∧i.bytes=b:=by
 cases hi:P.info? t with
 | none=>simp [hi]at h
 | some i=>exact⟨i,rfl,by simpa [hi]using h⟩
theorem F5{n:Nat}(h:(P.info? t).map (·.size)=some n):∃i,P.info? t=some i∧i.size=n:=by
 cases hi:P.info? t with
 | none=>simp [hi]at h
 | some i=>exact⟨i,rfl,by simpa [hi]using h⟩
theorem abt(h:(P.underlying t).isSome=true):∃d,P.underlying t=some d:=Option.isSome_iff_exists.1 h
def Q8(P:Program)(f:Field)(x:Nat × Nat × Bool):Bool:=
 f.offset==x.1&&(P.info? f.type).map (·.size)==some x.2.1&&decide (0<x.2.1)&&xR P f.type==x.2.2&&(P.underlying f.type).isSome
def sY(P:Program):List Field→List (Nat × Nat × Bool)→Bool
 | [],[]=>true
 | f::fs,x::xs=>Q8 P f x&&sY P fs xs
 | _,_=>false
theorem X4{f:Field}{x:Nat × Nat × Bool}(h:Q8 P f x=true):nZ P f x:=by
 simp only [Q8,Bool.and_eq_true,beq_iff_eq,decide_eq_true_eq]at h
 obtain⟨⟨⟨⟨h1,h2⟩,h3⟩,h4⟩,h5⟩:=h
 exact⟨h1,F5 h2,h3,h4,abt h5⟩
theorem CA:∀ {fs:List Field} {xs:List (Nat × Nat × Bool)},sY P fs xs=true→bK (nZ P) fs xs
 | [],[],_=>trivial
 | f::fs,x::xs,h=>by
  simp only [sY,Bool.and_eq_true]at h
  exact⟨X4 h.1,CA h.2⟩
 | [],_::_,h=>by simp [sY]at h
 | _::_,[],h=>by simp [sY]at h
def U5(P:Program)(t:TypeId)(xs:List (Nat × Nat × Bool)):Bool:=
 match P.underlying t with
 | some (.struct fields)=>sY P fields.toList xs
 | _=>false
theorem bE{xs:List (Nat × Nat × Bool)}(h:U5 P t xs=true):∃fields:Array Field,P.underlying t=some (.struct fields)∧bK (nZ P) fields.toList xs:=by
 unfold U5 at h
 split at h
 ·rename_i fields hu;exact⟨fields,hu,CA h⟩
 ·cases h
end
def W(E:Env)(n:Nat)(tl:Nat→Nat)(c:Code)(Q:PX→PS→Prop)(σ:PS):Prop:=
 fA E n tl c=true → ∀(w0:World) (S0:eC) (G:Gs) (a:Act) (w:World) (Q':Exit→Act→World→Prop),Rel w0 S0 n G σ a w →
  (∀x σ' a' w',Q x σ'→Rel w0 S0 n G σ' a' w'→Q' (alf x) a' w')→c.wp E.P Q' a w
def Gh(n:Nat)(σ σ':PS):Prop:=∀(w0:World) (S0:eC) (G:Gs) (a:Act) (w:World),Rel w0 S0 n G σ a w→Rel w0 S0 n G σ' a w
section
variable {E:Env} {n:Nat} {tl:Nat→Nat} {Q:PX→PS→Prop} {σ:PS}
theorem W.ghost{c:Code}{σ':PS}(h:Gh n σ σ')(hw:W E n tl c Q σ'):W E n tl c Q σ:=fun gT w0 S0 G a w Q' hR hQ=>hw gT w0 S0 G a w Q' (h _ _ _ _ _ hR) hQ
theorem W.mono{c:Code}{Q2:PX→PS→Prop}(hw:W E n tl c Q2 σ)(h:∀x σ,Q2 x σ→Q x σ):W E n tl c Q σ:=fun gT w0 S0 G a w Q' hR hQ=>hw gT w0 S0 G a w Q' hR fun x σ' a' w' hx=>hQ x σ' a' w' (h x σ' hx)
theorem W.skip(h:Q .normal σ):W E n tl .skip Q σ:=fun _ _ _ _ a w _ hR hQ=>wp_skip (hQ .normal σ a w h hR)
theorem W.ret(h:Q .ret σ):W E n tl .ret Q σ:=fun _ _ _ _ a w _ hR hQ=>wp_ret (hQ .ret σ a w h hR)
theorem W.exit{id:Nat}(h:Q (.exit id) σ):W E n tl (.exit id) Q σ:=fun _ _ _ _ a w _ hR hQ=>wp_exit (hQ (.exit id) σ a w h hR)
theorem W.LY{id:Nat}{ops:List Oper}(h:∀K:PS→Prop,(∀σ,Q .normal σ→K σ)→aO E ops ops K σ):W E n tl (.region id ops.toArray false) Q σ:=by
 intro gT w0 S0 G a w Q' hR hQ
 simp only [fA,rO,Bool.and_eq_true]at gT
 refine wp_region_list (iE (fun σ' a' w' hk l5=>hQ .normal σ' a' w' hk l5) _ σ a w (fun o ho t ht=>?_) (h _ fun _ h=>h) hR)
 have:=Array.all_eq_true_iff_forall_mem.1 gT.1 o (by simpa using ho)
 simpa [ht]using this
theorem W.abu{id:Nat}{ops:List Oper}(h:∀K:PS→Prop,(∀σ,Q .normal σ→K σ)→gP E (tl id) ops K σ):W E n tl (.region id ops.toArray true) Q σ:=by
 intro gT w0 S0 G a w Q' hR hQ
 exact tX (by simpa [fA]using gT) (h _ fun _ h=>h) hR fun σ' a' w' hk l5=>hQ .normal σ' a' w' hk l5
theorem W.seq{x y:Code}(h:W E n tl x (EY (W E n tl y Q) Q) σ):W E n tl (.seq x y) Q σ:=by
 intro gT w0 S0 G a w Q' hR hQ
 simp only [fA,Bool.and_eq_true]at gT
 refine wp_seq (h gT.1 w0 S0 G a w _ hR fun x σ' a' w' hx l5=>?_)
 cases x with
 | normal=>exact hx gT.2 w0 S0 G a' w' _ l5 hQ
 | exit id=>exact hQ (.exit id) σ' a' w' hx l5
 | ret=>exact hQ .ret σ' a' w' hx l5
theorem W.Q9{id:Nat}{ops:List Oper}{y:Code}(h:∀K:PS→Prop,(∀σ,W E n tl y Q σ→K σ)→aO E ops ops K σ):W E n tl (.seq (.region id ops.toArray false) y) Q σ:=
 W.seq (W.LY h)
theorem W.abv{id:Nat}{ops:List Oper}{y:Code}(h:∀K:PS→Prop,(∀σ,W E n tl y Q σ→K σ)→gP E (tl id) ops K σ):W E n tl (.seq (.region id ops.toArray true) y) Q σ:=
 W.seq (W.abu h)
theorem W.cond{c:Operand}{t e:Code}(h:∃b,aV σ.f c = .bool b∧(b=true→W E n tl t Q σ)∧(b=false→W E n tl e Q σ)):W E n tl (.cond c t e) Q σ:=by
 intro gT w0 S0 G a w Q' hR hQ
 simp only [fA,Bool.and_eq_true]at gT
 obtain⟨b,hb,h1,h2⟩:=h
 obtain⟨cx,_,_,_,_,hf,_⟩:=hR.ex
 have:=mM hf c
 rw [hb,dV]at this
 refine wp_cond this ?_
 cases b with
 | true=>exact h1 rfl gT.1 w0 S0 G a w Q' hR hQ
 | false=>exact h2 rfl gT.2 w0 S0 G a w Q' hR hQ
theorem W.block{id:Nat}{c:Code}(h:W E n tl c (EZ id Q) σ):W E n tl (.block id c) Q σ:=by
 intro gT w0 S0 G a w Q' hR hQ
 refine wp_block (h gT w0 S0 G a w _ hR fun x σ' a' w' hx l5=>?_)
 cases x with
 | normal=>exact hQ .normal σ' a' w' hx l5
 | exit j =>
  simp only [EZ]at hx
  simp only [alf,Exit.inBlock]
  split at hx
  ·rename_i hj;rw [if_pos hj];exact hQ .normal σ' a' w' hx l5
  ·rename_i hj;rw [if_neg hj];exact hQ (.exit j) σ' a' w' hx l5
 | ret=>exact hQ .ret σ' a' w' hx l5
theorem W.loop{c:Code}(I:Nat→PS→Prop)(k:Nat)(h0:I k σ)(h1:∀k σ,I k σ→W E n tl c (EY (fun σ'=>∃m,m<k∧I m σ') Q) σ):W E n tl (.loop c) Q σ:=by
 intro gT w0 S0 G a w Q' hR hQ
 refine wp_loop_ghost (fun k a w=>∃σ,I k σ∧Rel w0 S0 n G σ a w) k ⟨σ,h0,hR⟩ ?_
 rintro k a w ⟨σ,hI,hR⟩
 refine h1 k σ hI gT w0 S0 G a w _ hR fun x σ' a' w' hx l5=>?_
 cases x with
 | normal=>obtain⟨m,hm,xK⟩:=hx;exact⟨m,hm,σ',xK,l5⟩
 | exit id=>exact hQ (.exit id) σ' a' w' hx l5
 | ret=>exact hQ .ret σ' a' w' hx l5
end
theorem abw{E:Env}{B9:FuncId}{fn:Func}{code:Code}(tl:Nat→Nat){args:List PV}{r:PV}(h1:E.P.funcs[B9]? = some fn)(h2:fn.body=some code) (h3:(fn.name == "runtime.NumGoroutine") = false)
  (gT:fA E fn.ntmps tl code=true) (gK:args.length≤fn.ntmps) (h:W E fn.ntmps tl code (abq E fn.results.toList r) (F4 args)):aD E.P B9 args r:=
 Q7 h1 h2 h3 gK fun w0 S0 a w Q' hR hQ=>h gT w0 S0 Gs.none a w Q' hR hQ
def go(P:Prop):Prop:=P
def aZ(R:PV→Prop)(K:PV→Prop):Prop:=∃v,R v∧K v
def iS(p:PV)(want:Bool)(A B:Prop):Prop:=∃t,p = .bool t∧(t=want→A)∧(t=(!want)→B)
def stepG(p:PV)(want:Bool)(A B:Prop):Prop:=(p = .bool want∧A)∨((p = .bool (!want)∨p = .eB [])∧B)
def aK(A B:Prop):Prop:=A∧B
@[congr] theorem aiS{R R' K:PV→Prop}(h:∀v,R v=R' v):aZ R K=aZ R' K:=by rw [show R=R' from funext h]
@[congr] theorem aiT{p p':PV}{want:Bool}{A B:Prop}(h:p=p'):iS p want A B=iS p' want A B:=by rw [h]
@[congr] theorem aiU{p p':PV}{want:Bool}{A B:Prop}(h:p=p'):stepG p want A B=stepG p' want A B:=by rw [h]
@[congr] theorem aiV{A A' B:Prop}(h:A=A'):aK A B=aK A' B:=by rw [h]
@[congr] theorem alg{E:Env}{ops l:List Oper}{K:PS→Prop}{σ σ':PS}(h:σ=σ'):aO E ops l K σ=aO E ops l K σ':=by rw [h]
@[congr] theorem alh{E:Env}{ops l:List Oper}{clk k k':Nat}{K:PS→Prop}{σ σ':ST}(hk:k=k')(h:σ=σ'):aQ E ops clk k l K σ=aQ E ops clk k' l K σ':=by rw [hk,h]
@[congr] theorem ali{md:Region.Mode}{ops:List Oper}{j j' k k':Nat}(hj:j=j')(hk:k=k'):pP md ops j k=pP md ops j' k':=by rw [hj,hk]
@[congr] theorem aoD{md:Region.Mode}{ops:List Oper}{i i' id j5:Nat}{t t':Nat→Nat→Prop}(hi:i=i')(iR:id=j5)(ht:t=t'):B4 md ops i id t=B4 md ops i' j5 t':=by rw [hi,iR,ht]
@[congr] theorem alj{md:Region.Mode}{ops:List Oper}{i i':Nat}{t t':Nat→Nat→Prop}{rows rows':Rows}(hi:i=i')(ht:t=t')(hr:rows=rows'):eN md ops i t rows=eN md ops i' t' rows':=by rw [hi,ht,hr]
@[congr] theorem afj{E:Env}{tl:Nat}{l:List Oper}{K:PS→Prop}{σ σ':PS}(h:σ=σ'):gP E tl l K σ=gP E tl l K σ':=by rw [h]
@[congr] theorem auU{E:Env}{n:Nat}{tl:Nat→Nat}{c:Code}{Q:PX→PS→Prop}{σ σ':PS}(h:σ=σ'):W E n tl c Q σ=W E n tl c Q σ':=by rw [h]
theorem kC{t:PV}{K:PV→Prop}:aZ (fun v=>v=t) K=K t:=by simp [aZ]
theorem X5{t:PV}{K:PV→Prop}:aZ (fun v=>t=v) K=K t:=by simp [aZ]
theorem jT{c:Prop}{R K:PV→Prop}:aZ (fun v=>c∧R v) K=aK c (aZ R K):=by
 apply propext;simp only [aZ,aK]
 constructor
 ·rintro⟨v,⟨h1,h2⟩,h3⟩;exact⟨h1,v,h2,h3⟩
 ·rintro⟨h1,v,h2,h3⟩;exact⟨v,⟨h1,h2⟩,h3⟩
theorem abx{α:Type}{R:α→PV→Prop}{K:PV→Prop}:aZ (fun v=>∃x,R x v) K = ∃x,aZ (R x) K:=by
 apply propext;simp only [aZ]
 constructor
 ·rintro⟨v,⟨x,h2⟩,h3⟩;exact⟨x,v,h2,h3⟩
 ·rintro⟨x,v,h2,h3⟩;exact⟨v,⟨x,h2⟩,h3⟩
theorem RA{B:Prop}:aK True B=B:=by simp [aK]
theorem aby{A B:Prop}:iS (.bool true) true A B=A:=by simp [iS]
theorem abz{A B:Prop}:iS (.bool true) false A B=B:=by simp [iS]
theorem abA{A B:Prop}:iS (.bool false) true A B=B:=by simp [iS]
theorem abB{A B:Prop}:stepG (.bool true) true A B=A:=by simp [stepG]
theorem abC{A B:Prop}:stepG (.bool true) false A B=B:=by simp [stepG]
theorem abD{A B:Prop}:stepG (.bool false) true A B=B:=by simp [stepG]
theorem abE{A B:Prop}:stepG (.bool false) false A B=A:=by simp [stepG]
theorem abF{w:Bool}{A B:Prop}:stepG (.eB []) w A B=B:=by simp [stepG]
theorem abG{A B:Prop}:iS (.bool false) false A B=A:=by simp [iS]
theorem CB{f:Nat→PV}{d j:Nat}{v:PV}:put f (some d) v j=if j=d then v else f j:=rfl
theorem abH{f:Nat→PV}{v:PV}:put f none v=f:=rfl
theorem alk{α:Type}{f:Nat→α}{i j:Nat}{x:α}:eE f i x j=if j=i then x else f j:=rfl
def fa:List (Nat × PV)→Nat→PV
 | [],_ => .undef
 | (i,v)::l,j=>if j=i then v else fa l j
theorem RB{j:Nat}:fa [] j = .undef:=rfl
theorem IL{i j:Nat}{v:PV}{l:List (Nat × PV)}:fa ((i,v)::l) j=if j=i then v else fa l j:=rfl
section
variable {E:Env} {ops os:List Oper} {K:PS→Prop} {f:Nat→PV} {rows:Rows} {clk:Nat} {d:Option Tmp} {ty:TypeId} {pos:String} {af:Array Edge}
theorem aC(n:Nat)(l:List Nat):Gh n ⟨f,rows,clk⟩ ⟨fa (l.map fun i=>(i,f i)),rows,clk⟩:=by
 rintro w0 S0 G a w ⟨⟨c,h1,h2,h3,h4,h5,h6⟩,h7,h8⟩
 refine⟨⟨c,h1,h2,h3,h4,fun s=>?_,h6⟩,h7,h8⟩
 have:fa (l.map fun i=>(i,f i)) s=f s∨fa (l.map fun i=>(i,f i)) s = .undef:=by
  induction l with
  | nil=>exact .inr rfl
  | cons i l ih =>
   simp only [List.map_cons,fa]
   split
   ·rename_i h;rw [h];exact .inl rfl
   ·exact ih
 rcases this with h | h
 ·simp only;rw [h];exact h5 s
 ·simp only;rw [h];simp [aM,aU]
theorem W.live{n:Nat}{tl:Nat→Nat}{c:Code}{Q:PX→PS→Prop}(l:List Nat)(h:W E n tl c Q ⟨fa (l.map fun i=>(i,f i)),rows,clk⟩):W E n tl c Q ⟨f,rows,clk⟩:=W.ghost (aC n l) h
theorem RC{op:Op}{j:Nat}{want:Bool}:aO E ops (⟨d,op,ty,pos,af,some (j,want)⟩::os) K ⟨f,rows,clk⟩ =
  match (ops[j]?).bind (·.dst)with
  | none=>False
  | some e=>stepG (f e) want (aO E ops (⟨d,op,ty,pos,af,none⟩::os) K ⟨f,rows,clk⟩) (aO E ops os K ⟨put f d (.eB []),rows,clk⟩):=by
 simp only [aO]
 cases hx:(ops[j]?).bind (·.dst)with
 | none=>rfl
 | some e=>rfl
theorem cQ{R:PV→Prop}{k:PV→Prop}(h:∀v,R v↔k v):(∃v u,(R v∧u=none)∧K ⟨put f d v,gO rows u,clk⟩)=aZ k fun v=>K ⟨put f d v,rows,clk⟩:=by
 apply propext;simp only [aZ]
 constructor
 ·rintro⟨v,u,⟨h1,rfl⟩,h2⟩;exact⟨v,(h v).1 h1,h2⟩
 ·rintro⟨v,h1,h2⟩;exact⟨v,none,⟨(h v).2 h1,rfl⟩,h2⟩
theorem X6{x:Operand}:aO E ops (⟨d, .move x,ty,pos,af,none⟩::os) K ⟨f,rows,clk⟩=aO E ops os K ⟨put f d (aV f x),rows,clk⟩:=by
 simp only [aO,eZ,ys,yv]
 rw [cQ (k:=fun v=>v=aV f x) (fun v=>Iff.rfl),kC]
theorem LZ{x:Operand}:aO E ops (⟨d, .assign x,ty,pos,af,none⟩::os) K ⟨f,rows,clk⟩=aO E ops os K ⟨put f d (aV f x),rows,clk⟩:=by
 simp only [aO,eZ,ys,yv]
 rw [cQ (k:=fun v=>v=aV f x) (fun v=>Iff.rfl),kC]
theorem X7{c a b:Operand}:aO E ops (⟨d, .pick c a b,ty,pos,af,none⟩::os) K ⟨f,rows,clk⟩=iS (aV f c) true (aO E ops os K ⟨put f d (aV f a),rows,clk⟩) (aO E ops os K ⟨put f d (aV f b),rows,clk⟩):=by
 simp only [aO,eZ,ys,yv]
 rw [cQ (fun v=>Iff.rfl)]
 apply propext;simp only [aZ,iS]
 constructor
 ·rintro⟨v,⟨t,h1,rfl⟩,h2⟩
  refine⟨t,h1,fun h=>?_,fun h=>?_⟩
  ·subst h;exact h2
  ·subst h;exact h2
 ·rintro⟨t,h1,h2,h3⟩
  cases t with
  | true=>exact⟨_,⟨true,h1,rfl⟩,h2 rfl⟩
  | false=>exact⟨_,⟨false,h1,rfl⟩,h3 rfl⟩
theorem abI{op:BinOp}{t t2:TypeId}{x y:Operand}:aO E ops (⟨d, .binOp op t x y t2,ty,pos,af,none⟩::os) K ⟨f,rows,clk⟩=aZ (fun v=>H4 E op t (aV f x) (aV f y) v) fun v=>aO E ops os K ⟨put f d v,rows,clk⟩:=by
 simp only [aO,eZ,ys,yv]
 rw [cQ (fun v=>Iff.rfl)]
theorem af5{op:UnOp}{t:TypeId}{x:Operand}:aO E ops (⟨d, .unOp op t x,ty,pos,af,none⟩::os) K ⟨f,rows,clk⟩=aZ (fun v=>yun op (aV f x) v) fun v=>aO E ops os K ⟨put f d v,rows,clk⟩:=by
 simp only [aO,eZ,ys,yv]
 rw [cQ (k:=fun v=>yun op (aV f x) v) (fun v=>Iff.rfl)]
theorem X8{s t:TypeId}{x:Operand}:aO E ops (⟨d, .convert s t x,ty,pos,af,none⟩::os) K ⟨f,rows,clk⟩=aZ (fun v=>tR (E.ty s) (E.ty t) (aV f x) v) fun v=>aO E ops os K ⟨put f d v,rows,clk⟩:=by
 simp only [aO,eZ,ys,yv]
 rw [cQ (k:=fun v=>tR (E.ty s) (E.ty t) (aV f x) v) (fun v=>Iff.rfl)]
theorem IM{i:Nat}{x:Operand}:aO E ops (⟨d, .extract x i,ty,pos,af,none⟩::os) K ⟨f,rows,clk⟩=aZ (fun v=>QE i (aV f x) v) fun v=>aO E ops os K ⟨put f d v,rows,clk⟩:=by
 simp only [aO,eZ,ys,yv]
 rw [cQ (k:=fun v=>QE i (aV f x) v) (fun v=>Iff.rfl)]
theorem X9{t:TypeId}{x:Operand}:aO E ops (⟨d, .load t x,ty,pos,af,none⟩::os) K ⟨f,rows,clk⟩=aZ (fun v=>tP E t rows (aV f x) v) fun v=>aO E ops os K ⟨put f d v,rows,clk⟩:=by
 simp only [aO,eZ,ys,yv]
 rw [cQ (fun v=>Iff.rfl)]
theorem RD{t:TypeId}{i:Nat}{x:Operand}:aO E ops (⟨d, .field t x i,ty,pos,af,none⟩::os) K ⟨f,rows,clk⟩=aZ (fun v=>uG E t i (aV f x) v) fun v=>aO E ops os K ⟨put f d v,rows,clk⟩:=by
 simp only [aO,eZ,ys,yv]
 rw [cQ (fun v=>Iff.rfl)]
theorem CC{t:TypeId}{i:Nat}{x:Operand}:aO E ops (⟨d, .fieldAddr t x i,ty,pos,af,none⟩::os) K ⟨f,rows,clk⟩=aZ (fun v=>fO E t rows i (aV f x) v) fun v=>aO E ops os K ⟨put f d v,rows,clk⟩:=by
 simp only [aO,eZ,ys,yv]
 rw [cQ (fun v=>Iff.rfl)]
theorem CD{t:TypeId}{x y:Operand}:aO E ops (⟨d, .indexAddr t x y,ty,pos,af,none⟩::os) K ⟨f,rows,clk⟩=aZ (fun v=>fP E t rows (aV f x) (aV f y) v) fun v=>aO E ops os K ⟨put f d v,rows,clk⟩:=by
 simp only [aO,eZ,ys,yv]
 rw [cQ (fun v=>Iff.rfl)]
theorem RE{t:TypeId}{x:Operand}{lo hi mx:Option Operand}:aO E ops (⟨d, .slice t x lo hi mx,ty,pos,af,none⟩::os) K ⟨f,rows,clk⟩=aZ (fun v=>oM E t rows (aV f x) (lo.map (aV f)) (hi.map (aV f)) (mx.map (aV f)) v) fun v=>aO E ops os K ⟨put f d v,rows,clk⟩:=by
 simp only [aO,eZ,ys,yv]
 rw [cQ (fun v=>Iff.rfl)]
theorem RF{t:TypeId}{parts:Array (Nat × Operand)}:aO E ops (⟨d, .build t parts,ty,pos,af,none⟩::os) K ⟨f,rows,clk⟩=aZ (fun v=>rG (E.ty t) (parts.toList.map fun x=>(x.1,aV f x.2)) v) fun v=>aO E ops os K ⟨put f d v,rows,clk⟩:=by
 simp only [aO,eZ,ys,yv]
 rw [cQ (k:=fun v=>rG (E.ty t) (parts.toList.map fun x=>(x.1,aV f x.2)) v) (fun v=>Iff.rfl)]
theorem RG{t:TypeId}{x y:Operand}:aO E ops (⟨d, .index t x y,ty,pos,af,none⟩::os) K ⟨f,rows,clk⟩=aZ (fun v=>uH (E.ty t) (aV f x) (aV f y) v) fun v=>aO E ops os K ⟨put f d v,rows,clk⟩:=by
 simp only [aO,eZ,ys,yv]
 rw [cQ (k:=fun v=>uH (E.ty t) (aV f x) (aV f y) v) (fun v=>Iff.rfl)]
theorem abJ{t:TypeId}{x:Operand}:aO E ops (⟨d, .call { callee:=.builtin .len,args:=⟨[x]⟩,argTypes:=⟨[t]⟩ },ty,pos,af,none⟩::os) K ⟨f,rows,clk⟩=aZ (fun v=>yU (E.ty t) rows (aV f x) v) fun v=>aO E ops os K ⟨put f d v,rows,clk⟩:=by
 simp only [aO,eZ,ys,yv]
 rw [cQ (k:=fun v=>yU (E.ty t) rows (aV f x) v) (fun v=>Iff.rfl)]
theorem E0{x:Operand}:aO E ops (⟨d, .nilCheck x,ty,pos,af,none⟩::os) K ⟨f,rows,clk⟩=aZ (fun v=>ER rows (aV f x) v) fun v=>aO E ops os K ⟨put f d v,rows,clk⟩:=by
 simp only [aO,eZ,ys,yv]
 rw [cQ (k:=fun v=>ER rows (aV f x) v) (fun v=>Iff.rfl)]
theorem abK{ts:Array TypeId}{x y:Operand}:aO E ops (⟨d, .call { callee:=.builtin .max,args:=⟨[x,y]⟩,argTypes:=ts },ty,pos,af,none⟩::os) K ⟨f,rows,clk⟩=aZ (fun v=>QG (aV f x) (aV f y) v) fun v=>aO E ops os K ⟨put f d v,rows,clk⟩:=by
 simp only [aO,eZ,ys,yv]
 rw [cQ (fun v=>Iff.rfl)]
theorem abL{ts:Array TypeId}{x y:Operand}:aO E ops (⟨d, .call { callee:=.builtin .min,args:=⟨[x,y]⟩,argTypes:=ts },ty,pos,af,none⟩::os) K ⟨f,rows,clk⟩=aZ (fun v=>QH (aV f x) (aV f y) v) fun v=>aO E ops os K ⟨put f d v,rows,clk⟩:=by
 simp only [aO,eZ,ys,yv]
 rw [cQ (fun v=>Iff.rfl)]
theorem AE{t:TypeId}{len:Nat}{parts:Array (Nat × Operand)}:aO E ops (⟨d, .buildSlice t len parts,ty,pos,af,none⟩::os) K ⟨f,rows,clk⟩=aZ (fun v=>QT (E.ty t) rows len (parts.toList.map fun x=>(x.1,aV f x.2)) v) fun v=>aO E ops os K ⟨put f d v,rows,clk⟩:=by
 simp only [aO,eZ,ys]
 rw [cQ (fun v=>Iff.rfl)]
theorem RH{t:TypeId}{p x:Operand}:aO E ops (⟨none, .store t p x,ty,pos,af,none⟩::os) K ⟨f,rows,clk⟩ = ∃id r,rK E t rows (aV f p) (aV f x) .undef (some (id,r))∧aO E ops os K ⟨f,eE rows id (some r),clk⟩:=by
 simp only [aO,eZ,ys]
 apply propext
 constructor
 ·rintro⟨v,u,h,h2⟩
  have h':=h
  obtain⟨_,rfl,h3⟩:=h
  split at h3
  ·obtain⟨_,_,_,_,_,_,_,_,_,_,rfl⟩:=h3
   exact⟨_,_,h',h2⟩
  ·exact h3.elim
 ·rintro⟨id,r,h,h2⟩;exact⟨.undef,some (id,r),h,h2⟩
theorem RJ{t:TypeId}:aO E ops (⟨d, .alloc t,ty,pos,af,none⟩::os) K ⟨f,rows,clk⟩=aK ((E.ty t).known=true) (aO E ops os K ⟨put f d (.ptr (d.getD 0) clk 0 0),eE rows (d.getD 0) (some ⟨clk,t,(E.ty t).size,[(E.ty t).zero]⟩),clk+1⟩):=rfl
theorem abM{t:TypeId}{x:Operand}:aO E ops (⟨d, .box t x,ty,pos,af,none⟩::os) K ⟨f,rows,clk⟩=aK ((E.ty t).known=true) (∃l,cE (aV f x)=some l∧(∀q∈l,i0 rows q)∧l.length=(E.ty t).size∧aO E ops os K ⟨put f d (.ptr (d.getD 0) clk 0 0),eE rows (d.getD 0) (some ⟨clk,t,(E.ty t).size,[l]⟩),clk+1⟩):=rfl
def rP(t:TI)(x y:PV)(K:TypeId→Nat→List PV→Int→Prop):Prop:=
 match t,x,y with
 | .slice e n b z, .int _ x, .int _ y=>aK (0≤x∧x≤y∧y.toNat≤room∧y.toNat*b≤room) (K e n z x)
 | _,_,_=>False
theorem CE{t:TypeId}{l c:Operand}:aO E ops (⟨d, .makeSlice t l c,ty,pos,af,none⟩::os) K ⟨f,rows,clk⟩=rP (E.ty t) (aV f l) (aV f c) fun e n z x=>aO E ops os K ⟨put f d (.own (d.getD 0) clk 0 x.toNat),eE rows (d.getD 0) (some ⟨clk,e,n,List.replicate x.toNat z⟩),clk+1⟩:=by
 simp only [aO,eZ,rP,ID]
 generalize E.ty t=T
 generalize aV f l=A
 generalize aV f c=B
 cases T with
 | slice e n b z =>
  cases A with
  | int k x =>
   cases B with
   | int k2 y=>simp only [aK,and_assoc]
   | _=>rfl
  | _=>rfl
 | _=>rfl
def YA(t:TI)(rows:Rows)(x y:PV)(clk d:Nat)(K:PV→Rows→Nat→Prop):Prop:=
 match t with
 | .slice e n b _ =>
  ∃l,vP rows y l∧(∀e∈l,e.length=n) ∧
  match x with
  | .nil=>aK (l.length≤room∧l.length*b≤room) (K (.own d clk 0 l.length) (eE rows d (some ⟨clk,e,n,l⟩)) (clk+1))
  | .own id ver off len=>∃r,rows id=some r∧r.ver=ver∧off=0∧len=r.els.length∧r.e=e∧r.size=n∧aK (len+l.length≤room∧(len+l.length)*b≤room) (K (.own id clk 0 (len+l.length)) (eE rows id (some ⟨clk,e,n,r.els++l⟩)) (clk+1))
  | .j8 l0=>(∀e∈l0,e.length=n)∧(∀e∈l,∀p∈e,cR p=true)∧aK (l0.length+l.length≤room∧(l0.length+l.length)*b≤room) (K (.sl (l0++l)) rows clk)
  | _=>False
 | _=>False
theorem L3{t t2:TypeId}{x y:Operand}:aO E ops (⟨d, .call { callee:=.builtin .append,args:=⟨[x,y]⟩,argTypes:=⟨[t,t2]⟩ },ty,pos,af,none⟩::os) K ⟨f,rows,clk⟩ =
  aK (t2=t∨slT (E.ty t2)=true) (YA (E.ty t) rows (aV f x) (aV f y) clk (d.getD 0) fun v rows clk=>aO E ops os K ⟨put f d v,rows,clk⟩):=by
 simp only [aO,eZ,IE,YA,ID,aK,PS.put]
 congr 1
 generalize E.ty t=T
 generalize aV f x=A
 cases T with
 | slice e n b z =>
  simp only
  congr 1
  funext l
  congr 2
  cases A with
  | nil=>simp only [and_assoc]
  | own id ver off len=>simp only [and_assoc]
  | j8 l0=>simp only [and_assoc]
  | _=>rfl
 | _=>rfl
end
def vS(P:Program)(g:FuncId)(args:List PV)(K:PV→Prop):Prop:=∃v,aD P g args v∧K v
@[congr] theorem aiW{P:Program}{g:FuncId}{args L4:List PV}{K:PV→Prop}(h:args=L4):vS P g args K=vS P g L4 K:=by rw [h]
def rQ(E:Env)(p:PV)(gU:List PV)(rows:Rows)(clk:Nat)(K:PV→Rows→Nat→Prop):Prop:=
 match p with
 | .fn g cI=>if E.writes g=true then cI = []∧yZ E.P g gU rows clk K else aK ((gU.map (pz rows)).all gI=true∧eM rows (gU.flatMap eD)) (vS E.P g (gU.map (pz rows)++cI) fun v=>K v (FY rows (gU.flatMap eD)) clk)
 | _=>False
@[congr] theorem af6{E:Env}{p p':PV}{gU zB:List PV}{rows rows':Rows}{clk lC:Nat}{K:PV→Rows→Nat→Prop}(h1:p=p')(h2:gU=zB)(h3:rows=rows')(h4:clk=lC):rQ E p gU rows clk K=rQ E p' zB rows' lC K:=by rw [h1,h2,h3,h4]
@[congr] theorem aiX{P:Program}{g:FuncId}{gU zB:List PV}{rows:Rows}{clk:Nat}{K:PV→Rows→Nat→Prop}(h:gU=zB):yZ P g gU rows clk K=yZ P g zB rows clk K:=by rw [h]
@[congr] theorem aiY{t t':TI}{x x' y y':PV}{K:TypeId→Nat→List PV→Int→Prop}(h1:t=t')(h2:x=x')(h3:y=y'):rP t x y K=rP t' x' y' K:=by rw [h1,h2,h3]
@[congr] theorem alm{t t':TI}{rows rows':Rows}{x x' y y':PV}{clk lC d d':Nat}{K:PV→Rows→Nat→Prop}(h1:t=t')(h2:rows=rows')(h3:x=x')(h4:y=y')(h5:clk=lC)(h6:d=d') :
  YA t rows x y clk d K=YA t' rows' x' y' lC d' K:=by rw [h1,h2,h3,h4,h5,h6]
section
variable {E:Env} {ops os:List Oper} {K:PS→Prop} {f:Nat→PV} {rows:Rows} {clk:Nat} {d:Option Tmp} {ty:TypeId} {pos:String} {af:Array Edge}
theorem YB{fo:Operand}{args:Array Operand}{ts:Array TypeId}:aO E ops (⟨d, .call { callee:=.value fo,args:=args,argTypes:=ts },ty,pos,af,none⟩::os) K ⟨f,rows,clk⟩ =
  rQ E (aV f fo) (args.toList.map (aV f)) rows clk fun v rows clk=>aO E ops os K ⟨put f d v,rows,clk⟩:=by
 simp only [aO,eZ,y6,rQ,QU,aK,vS]
 generalize aV f fo=A
 have e1:(args.toList.map fun x=>pz rows (aV f x))=(args.toList.map (aV f)).map (pz rows):=by rw [List.map_map];rfl
 have e2:(args.toList.flatMap fun x=>eD (aV f x))=(args.toList.map (aV f)).flatMap eD:=by rw [List.flatMap_map]
 rw [e1,e2]
 cases A with
 | fn g cI =>
  have hm:akT E (.fn g cI)=E.writes g:=rfl
  by_cases hw:E.writes g=true
  ·rw [hm,if_pos hw]
   cases cI with
   | nil=>simp [hw]
   | cons x l=>simp [hw]
  rw [hm,if_neg hw]
  simp only [if_neg hw]
  apply propext
  constructor
  ·rintro⟨v,⟨h1,h2⟩,h3,h4⟩;exact⟨⟨h1,h3⟩,v,h2,h4⟩
  ·rintro⟨⟨h1,h3⟩,v,h2,h4⟩;exact⟨v,⟨h1,h2⟩,h3,h4⟩
 | _=>simp [akT]
theorem E4{g:FuncId}{cI:Array Operand}:aO E ops (⟨d, .makeFunc (.func g) ⟨[]⟩ cI,ty,pos,af,none⟩::os) K ⟨f,rows,clk⟩ =
  aK (((cI.toList.map (aV f)).map (pz rows)).all gI=true∧eM rows ((cI.toList.map (aV f)).flatMap eD))
   (aO E ops os K ⟨put f d (.fn g ((cI.toList.map (aV f)).map (pz rows))),FY rows ((cI.toList.map (aV f)).flatMap eD),clk⟩):=by
 simp only [aO,eZ,aK,and_assoc]
 have e1:(cI.toList.map fun x=>pz rows (aV f x))=(cI.toList.map (aV f)).map (pz rows):=by rw [List.map_map];rfl
 have e2:(cI.toList.flatMap fun x=>eD (aV f x))=(cI.toList.map (aV f)).flatMap eD:=by rw [List.flatMap_map]
 rw [e1,e2]
def l6(k:Nat)(l:List Nat)(t:Nat→Nat→Prop):Nat→Nat→Prop:=fun k' id=>(true=true∧k'=k∧id∈l)∨t k' id
def pR(k id:Nat)(w:Nat→Nat→Prop):Nat→Nat→Prop:=fun k' j5=>(k'=k∧j5=id)∨w k' j5
variable {k:Nat} {b6:Nat→Nat→Prop} {aR:Nat→Nat→Prop}
theorem RK{op:Op}{j:Nat}{want:Bool}:aQ E ops clk k (⟨d,op,ty,pos,af,some (j,want)⟩::os) K ⟨f,rows,b6,aR⟩ =
  match (ops[j]?).bind (·.dst)with
  | none=>False
  | some e=>stepG (f e) want (aQ E ops clk k (⟨d,op,ty,pos,af,none⟩::os) K ⟨f,rows,b6,aR⟩) (aQ E ops clk (k+1) os K ⟨put f d (.eB []),rows,b6,aR⟩):=by
 have e3:app k ⟨d,op,ty,pos,af,some (j,want)⟩ false (.eB []) none ⟨f,rows,b6,aR⟩=⟨put f d (.eB []),rows,b6,aR⟩:=by simp [app,gO,wlU]
 simp only [aQ,e3]
 cases hx:(ops[j]?).bind (·.dst)with
 | none=>rfl
 | some e=>rfl
theorem dB{o:Oper}{R:PV→Prop}{kk:PV→Prop}{st:ST}(h:∀v,R v↔kk v):(∃v u,(R v∧u=none)∧X0 .any ops k u b6∧aQ E ops clk (k+1) os K (app k o true v u st))=aZ kk fun v=>aQ E ops clk (k+1) os K (app k o true v none st):=by
 apply propext;simp only [aZ]
 constructor
 ·rintro⟨v,u,⟨h1,rfl⟩,_,h2⟩;exact⟨v,(h v).1 h1,h2⟩
 ·rintro⟨v,h1,h2⟩;exact⟨v,none,⟨(h v).2 h1,rfl⟩,trivial,h2⟩
theorem fJ{op:Op}{v:PV}(h:iW op (aV f) = []):app k ⟨d,op,ty,pos,af,none⟩ true v none ⟨f,rows,b6,aR⟩=⟨put f d v,rows,b6,aR⟩:=by simp [app,gO,wlU,h]
theorem sZ{op:Op}{v:PV}{l:List Nat}(h:iW op (aV f)=l):app k ⟨d,op,ty,pos,af,none⟩ true v none ⟨f,rows,b6,aR⟩=⟨put f d v,rows,l6 k l b6,aR⟩:=by subst h;rfl
theorem YC{x:Operand}:aQ E ops clk k (⟨d, .move x,ty,pos,af,none⟩::os) K ⟨f,rows,b6,aR⟩=aQ E ops clk (k+1) os K ⟨put f d (aV f x),rows,b6,aR⟩:=by
 simp only [aQ,yn,iX,ys,yv]
 rw [dB (kk:=fun v=>v=aV f x) (fun v=>Iff.rfl),kC,fJ rfl]
theorem L5{x:Operand}:aQ E ops clk k (⟨d, .assign x,ty,pos,af,none⟩::os) K ⟨f,rows,b6,aR⟩=aQ E ops clk (k+1) os K ⟨put f d (aV f x),rows,b6,aR⟩:=by
 simp only [aQ,yn,iX,ys,yv]
 rw [dB (kk:=fun v=>v=aV f x) (fun v=>Iff.rfl),kC,fJ rfl]
theorem YD{c a b:Operand}:aQ E ops clk k (⟨d, .pick c a b,ty,pos,af,none⟩::os) K ⟨f,rows,b6,aR⟩=iS (aV f c) true (aQ E ops clk (k+1) os K ⟨put f d (aV f a),rows,b6,aR⟩) (aQ E ops clk (k+1) os K ⟨put f d (aV f b),rows,b6,aR⟩):=by
 simp only [aQ,yn,iX,ys,yv]
 rw [dB (fun v=>Iff.rfl)]
 apply propext;simp only [aZ,iS,fJ (op:=.pick c a b) rfl]
 constructor
 ·rintro⟨v,⟨t,h1,rfl⟩,h2⟩
  refine⟨t,h1,fun h=>?_,fun h=>?_⟩
  ·subst h;exact h2
  ·subst h;exact h2
 ·rintro⟨t,h1,h2,h3⟩
  cases t with
  | true=>exact⟨_,⟨true,h1,rfl⟩,h2 rfl⟩
  | false=>exact⟨_,⟨false,h1,rfl⟩,h3 rfl⟩
theorem abN{op:BinOp}{t t2:TypeId}{x y:Operand}:aQ E ops clk k (⟨d, .binOp op t x y t2,ty,pos,af,none⟩::os) K ⟨f,rows,b6,aR⟩=aZ (fun v=>H4 E op t (aV f x) (aV f y) v) fun v=>aQ E ops clk (k+1) os K ⟨put f d v,rows,b6,aR⟩:=by
 simp only [aQ,yn,iX,ys,yv];rw [dB (fun v=>Iff.rfl)];simp only [fJ (op:=.binOp op t x y t2) rfl]
theorem af7{op:UnOp}{t:TypeId}{x:Operand}:aQ E ops clk k (⟨d, .unOp op t x,ty,pos,af,none⟩::os) K ⟨f,rows,b6,aR⟩=aZ (fun v=>yun op (aV f x) v) fun v=>aQ E ops clk (k+1) os K ⟨put f d v,rows,b6,aR⟩:=by
 simp only [aQ,yn,iX,ys,yv];rw [dB (fun v=>Iff.rfl)];simp only [fJ (op:=.unOp op t x) rfl]
theorem YE{s t:TypeId}{x:Operand}:aQ E ops clk k (⟨d, .convert s t x,ty,pos,af,none⟩::os) K ⟨f,rows,b6,aR⟩=aZ (fun v=>tR (E.ty s) (E.ty t) (aV f x) v) fun v=>aQ E ops clk (k+1) os K ⟨put f d v,rows,b6,aR⟩:=by
 simp only [aQ,yn,iX,ys,yv];rw [dB (fun v=>Iff.rfl)];simp only [fJ (op:=.convert s t x) rfl]
theorem IP{i:Nat}{x:Operand}:aQ E ops clk k (⟨d, .extract x i,ty,pos,af,none⟩::os) K ⟨f,rows,b6,aR⟩=aZ (fun v=>QE i (aV f x) v) fun v=>aQ E ops clk (k+1) os K ⟨put f d v,rows,b6,aR⟩:=by
 simp only [aQ,yn,iX,ys,yv];rw [dB (fun v=>Iff.rfl)];simp only [fJ (op:=.extract x i) rfl]
theorem YF{t:TypeId}{x:Operand}:aQ E ops clk k (⟨d, .load t x,ty,pos,af,none⟩::os) K ⟨f,rows,b6,aR⟩=aZ (fun v=>tP E t (eN .any ops k aR rows) (aV f x) v) fun v=>aQ E ops clk (k+1) os K ⟨put f d v,rows,l6 k (bJ (aV f x)) b6,aR⟩:=by
 simp only [aQ,yn,iX,ys,yv];rw [dB (fun v=>Iff.rfl)];simp only [sZ (op:=.load t x) rfl];rfl
theorem RL{t:TypeId}{i:Nat}{x:Operand}:aQ E ops clk k (⟨d, .field t x i,ty,pos,af,none⟩::os) K ⟨f,rows,b6,aR⟩=aZ (fun v=>uG E t i (aV f x) v) fun v=>aQ E ops clk (k+1) os K ⟨put f d v,rows,b6,aR⟩:=by
 simp only [aQ,yn,iX,ys,yv];rw [dB (fun v=>Iff.rfl)];simp only [fJ (op:=.field t x i) rfl]
theorem CF{t:TypeId}{i:Nat}{x:Operand}:aQ E ops clk k (⟨d, .fieldAddr t x i,ty,pos,af,none⟩::os) K ⟨f,rows,b6,aR⟩=aZ (fun v=>fO E t (eN .any ops k aR rows) i (aV f x) v) fun v=>aQ E ops clk (k+1) os K ⟨put f d v,rows,l6 k (bJ (aV f x)) b6,aR⟩:=by
 simp only [aQ,yn,iX,ys,yv];rw [dB (fun v=>Iff.rfl)];simp only [sZ (op:=.fieldAddr t x i) rfl];rfl
theorem CG{t:TypeId}{x y:Operand}:aQ E ops clk k (⟨d, .indexAddr t x y,ty,pos,af,none⟩::os) K ⟨f,rows,b6,aR⟩=aZ (fun v=>fP E t (eN .any ops k aR rows) (aV f x) (aV f y) v) fun v=>aQ E ops clk (k+1) os K ⟨put f d v,rows,l6 k (bJ (aV f x)) b6,aR⟩:=by
 simp only [aQ,yn,iX,ys,yv];rw [dB (fun v=>Iff.rfl)];simp only [sZ (op:=.indexAddr t x y) rfl];rfl
theorem RM{t:TypeId}{x:Operand}{lo hi mx:Option Operand}:aQ E ops clk k (⟨d, .slice t x lo hi mx,ty,pos,af,none⟩::os) K ⟨f,rows,b6,aR⟩=aZ (fun v=>oM E t (eN .any ops k aR rows) (aV f x) (lo.map (aV f)) (hi.map (aV f)) (mx.map (aV f)) v) fun v=>aQ E ops clk (k+1) os K ⟨put f d v,rows,l6 k (bJ (aV f x)) b6,aR⟩:=by
 simp only [aQ,yn,iX,ys,yv];rw [dB (fun v=>Iff.rfl)];simp only [sZ (op:=.slice t x lo hi mx) rfl];rfl
theorem RN{t:TypeId}{parts:Array (Nat × Operand)}:aQ E ops clk k (⟨d, .build t parts,ty,pos,af,none⟩::os) K ⟨f,rows,b6,aR⟩=aZ (fun v=>rG (E.ty t) (parts.toList.map fun x=>(x.1,aV f x.2)) v) fun v=>aQ E ops clk (k+1) os K ⟨put f d v,rows,b6,aR⟩:=by
 simp only [aQ,yn,iX,ys,yv];rw [dB (fun v=>Iff.rfl)];simp only [fJ (op:=.build t parts) rfl]
theorem abO{t:TypeId}{x:Operand}:aQ E ops clk k (⟨d, .call { callee:=.builtin .len,args:=⟨[x]⟩,argTypes:=⟨[t]⟩ },ty,pos,af,none⟩::os) K ⟨f,rows,b6,aR⟩=aZ (fun v=>yU (E.ty t) (eN .any ops k aR rows) (aV f x) v) fun v=>aQ E ops clk (k+1) os K ⟨put f d v,rows,l6 k (bJ (aV f x)) b6,aR⟩:=by
 simp only [aQ,yn,iX,ys,yv];rw [dB (fun v=>Iff.rfl)];simp only [sZ (op:=.call { callee:=.builtin .len,args:=⟨[x]⟩,argTypes:=⟨[t]⟩ }) rfl];rfl
theorem E5{x:Operand}:aQ E ops clk k (⟨d, .nilCheck x,ty,pos,af,none⟩::os) K ⟨f,rows,b6,aR⟩=aZ (fun v=>ER (eN .any ops k aR rows) (aV f x) v) fun v=>aQ E ops clk (k+1) os K ⟨put f d v,rows,l6 k (bJ (aV f x)) b6,aR⟩:=by
 simp only [aQ,yn,iX,ys,yv];rw [dB (fun v=>Iff.rfl)];simp only [sZ (op:=.nilCheck x) rfl];rfl
theorem abP{ts:Array TypeId}{x y:Operand}:aQ E ops clk k (⟨d, .call { callee:=.builtin .max,args:=⟨[x,y]⟩,argTypes:=ts },ty,pos,af,none⟩::os) K ⟨f,rows,b6,aR⟩=aZ (fun v=>QG (aV f x) (aV f y) v) fun v=>aQ E ops clk (k+1) os K ⟨put f d v,rows,b6,aR⟩:=by
 simp only [aQ,yn,iX,ys,yv];rw [dB (fun v=>Iff.rfl)];simp only [fJ (op:=.call { callee:=.builtin .max,args:=⟨[x,y]⟩,argTypes:=ts }) rfl]
theorem abQ{ts:Array TypeId}{x y:Operand}:aQ E ops clk k (⟨d, .call { callee:=.builtin .min,args:=⟨[x,y]⟩,argTypes:=ts },ty,pos,af,none⟩::os) K ⟨f,rows,b6,aR⟩=aZ (fun v=>QH (aV f x) (aV f y) v) fun v=>aQ E ops clk (k+1) os K ⟨put f d v,rows,b6,aR⟩:=by
 simp only [aQ,yn,iX,ys,yv];rw [dB (fun v=>Iff.rfl)];simp only [fJ (op:=.call { callee:=.builtin .min,args:=⟨[x,y]⟩,argTypes:=ts }) rfl]
theorem E6{g:FuncId}{cI:Array Operand}:aQ E ops clk k (⟨d, .makeFunc (.func g) ⟨[]⟩ cI,ty,pos,af,none⟩::os) K ⟨f,rows,b6,aR⟩=aK ((cI.toList.map fun x=>aV f x).all gI=true) (aQ E ops clk (k+1) os K ⟨put f d (.fn g (cI.toList.map fun x=>aV f x)),rows,b6,aR⟩):=by
 simp only [aQ,yn,iX,ys,yv]
 rw [dB (fun v=>Iff.rfl),jT,kC];simp only [fJ (op:=.makeFunc (.func g) ⟨[]⟩ cI) rfl]
theorem AF{t:TypeId}{len:Nat}{parts:Array (Nat × Operand)}:aQ E ops clk k (⟨d, .buildSlice t len parts,ty,pos,af,none⟩::os) K ⟨f,rows,b6,aR⟩=aZ (fun v=>QT (E.ty t) (eN .any ops k aR rows) len (parts.toList.map fun x=>(x.1,aV f x.2)) v) fun v=>aQ E ops clk (k+1) os K ⟨put f d v,rows,b6,aR⟩:=by
 simp only [aQ,yn,iX,ys];rw [dB (fun v=>Iff.rfl)];simp only [fJ (op:=.buildSlice t len parts) rfl]
theorem RO{t:TypeId}{p x:Operand}:aQ E ops clk k (⟨none, .store t p x,ty,pos,af,none⟩::os) K ⟨f,rows,b6,aR⟩ =
  ∃id r,rK E t (eN .any ops k aR rows) (aV f p) (aV f x) .undef (some (id,r))∧B4 .any ops k id b6∧aQ E ops clk (k+1) os K ⟨f,eE rows id (some r),l6 k (bJ (aV f p)++((cE (aV f x)).getD []).flatMap bJ) b6,pR k id aR⟩:=by
 simp only [aQ,yn,iX,ys]
 apply propext
 constructor
 ·rintro⟨v,u,h,h1,h2⟩
  have h':=h
  obtain⟨_,rfl,h3⟩:=h
  split at h3
  ·obtain⟨_,_,_,_,_,_,_,_,_,_,rfl⟩:=h3
   exact⟨_,_,h',h1,h2⟩
  ·exact h3.elim
 ·rintro⟨id,r,h,h1,h2⟩;exact⟨.undef,some (id,r),h,h1,h2⟩
theorem abR{o:Oper}{R:PV→Option (Nat × Row)→Prop}{C:Prop}{v0:PV}{e:Nat}{r0:Row}{st:ST}{lC:Nat}(h:∀v u,R v u↔(C∧v=v0∧u=some (e,r0))):(∃v u,R v u∧X0 .any ops k u b6∧aQ E ops lC (k+1) os K (app k o true v u st))=aK (C∧B4 .any ops k e b6) (aQ E ops lC (k+1) os K (app k o true v0 (some (e,r0)) st)):=by
 apply propext;simp only [aK]
 constructor
 ·rintro⟨v,u,h1,h2,h3⟩
  obtain⟨hc,rfl,rfl⟩:=(h v u).1 h1
  exact⟨⟨hc,h2⟩,h3⟩
 ·rintro⟨⟨h1,h2⟩,h3⟩;exact⟨v0,_,(h _ _).2 ⟨h1,rfl,rfl⟩,h2,h3⟩
theorem vT{op:Op}{v:PV}{e:Nat}{r0:Row}(h:iW op (aV f) = []):app k ⟨d,op,ty,pos,af,none⟩ true v (some (e,r0)) ⟨f,rows,b6,aR⟩=⟨put f d v,eE rows e (some r0),b6,pR k e aR⟩:=by simp only [app,gO,wlU,h,List.not_mem_nil,and_false,false_or];rfl
theorem RQ{t:TypeId}:aQ E ops clk k (⟨d, .alloc t,ty,pos,af,none⟩::os) K ⟨f,rows,b6,aR⟩=aK ((E.ty t).known=true∧B4 .any ops k (d.getD 0) b6) (aQ E ops (clk+1) (k+1) os K ⟨put f d (.ptr (d.getD 0) clk 0 0),eE rows (d.getD 0) (some ⟨clk,t,(E.ty t).size,[(E.ty t).zero]⟩),b6,pR k (d.getD 0) aR⟩):=by
 simp only [aQ,yn,iX]
 rw [abR (C:=(E.ty t).known=true) (v0:=.ptr (d.getD 0) clk 0 0) (e:=d.getD 0) (r0:=⟨clk,t,(E.ty t).size,[(E.ty t).zero]⟩) (fun v u=>by simp),vT (op:=.alloc t) rfl]
theorem abS{t:TypeId}{x:Operand}:aQ E ops clk k (⟨d, .box t x,ty,pos,af,none⟩::os) K ⟨f,rows,b6,aR⟩=aK ((E.ty t).known=true) (∃l,cE (aV f x)=some l∧((∀q∈l,i0 (fun _=>none) q)∧l.length=(E.ty t).size∧B4 .any ops k (d.getD 0) b6) ∧
  aQ E ops (clk+1) (k+1) os K ⟨put f d (.ptr (d.getD 0) clk 0 0),eE rows (d.getD 0) (some ⟨clk,t,(E.ty t).size,[l]⟩),b6,pR k (d.getD 0) aR⟩):=by
 simp only [aQ,yn,iX]
 apply propext
 constructor
 ·rintro⟨v,u,⟨h1,l,h2,h3,h4,rfl,rfl⟩,h5,h6⟩
  rw [vT (op:=.box t x) rfl]at h6
  exact⟨h1,l,h2,⟨h3,h4,h5⟩,h6⟩
 ·rintro⟨h1,l,h2,⟨h3,h4,h5⟩,h6⟩
  refine⟨_,_,⟨h1,l,h2,h3,h4,rfl,rfl⟩,h5,?_⟩
  rw [vT (op:=.box t x) rfl];exact h6
theorem CI{t:TypeId}{l c:Operand}:aQ E ops clk k (⟨d, .makeSlice t l c,ty,pos,af,none⟩::os) K ⟨f,rows,b6,aR⟩=rP (E.ty t) (aV f l) (aV f c) fun e n z x=>aK (B4 .any ops k (d.getD 0) b6) (aQ E ops (clk+1) (k+1) os K ⟨put f d (.own (d.getD 0) clk 0 x.toNat),eE rows (d.getD 0) (some ⟨clk,e,n,List.replicate x.toNat z⟩),b6,pR k (d.getD 0) aR⟩):=by
 have hap:∀ {v e' r0},app k ⟨d, .makeSlice t l c,ty,pos,af,none⟩ true v (some (e',r0)) ⟨f,rows,b6,aR⟩=⟨put f d v,eE rows e' (some r0),b6,pR k e' aR⟩:=vT rfl
 simp only [aQ,yn,iX,rP]
 generalize E.ty t=T
 generalize aV f l=A
 generalize aV f c=B
 cases T with
 | slice e n b z =>
  cases A with
  | int k1 x =>
   cases B with
   | int k2 y =>
    apply propext
    simp only [aK]
    constructor
    ·rintro⟨v,u,⟨h1,h2,h3,h4,rfl,rfl⟩,h5,h6⟩
     rw [hap]at h6
     exact⟨⟨h1,h2,h3,h4⟩,h5,h6⟩
    ·rintro⟨⟨h1,h2,h3,h4⟩,h5,h6⟩
     refine⟨_,_,⟨h1,h2,h3,h4,rfl,rfl⟩,h5,?_⟩
     rw [hap];exact h6
   | _=>simp
  | _=>simp
 | _=>simp
theorem L6{t t2:TypeId}{x y:Operand}:aQ E ops clk k (⟨d, .call { callee:=.builtin .append,args:=⟨[x,y]⟩,argTypes:=⟨[t,t2]⟩ },ty,pos,af,none⟩::os) K ⟨f,rows,b6,aR⟩ =
  aK (t2=t∨slT (E.ty t2)=true) (∃v id r,rN (E.ty t) (eN .any ops k aR rows) (aV f x) (aV f y) clk (d.getD 0) v (some (id,r))∧B4 .any ops k id b6 ∧
   aQ E ops (clk+1) (k+1) os K ⟨put f d v,eE rows id (some r),l6 k (bJ (aV f x)++bJ (aV f y)) b6,pR k id aR⟩):=by
 have hap:∀ {v e' r0},app k ⟨d, .call { callee:=.builtin .append,args:=⟨[x,y]⟩,argTypes:=⟨[t,t2]⟩ },ty,pos,af,none⟩ true v (some (e',r0)) ⟨f,rows,b6,aR⟩=⟨put f d v,eE rows e' (some r0),l6 k (bJ (aV f x)++bJ (aV f y)) b6,pR k e' aR⟩:=rfl
 simp only [aQ,yn,iX,aK]
 apply propext
 constructor
 ·rintro⟨v,u,⟨h1,h2⟩,h3,h4⟩
  refine⟨h1,?_⟩
  have h2':=h2
  unfold rN at h2'
  split at h2'
  ·obtain⟨l,g1,g2,g3⟩:=h2'
   split at g3
   ·obtain⟨_,_,rfl,rfl⟩:=g3
    exact⟨_,_,_,h2,h3,h4⟩
   ·obtain⟨r,_,_,_,_,_,_,_,_,rfl,rfl⟩:=g3
    exact⟨_,_,_,h2,h3,h4⟩
   ·exact g3.elim
  ·exact h2'.elim
 ·rintro⟨h1,v,id,r,h2,h3,h4⟩
  exact⟨v,_,⟨h1,h2⟩,h3,h4⟩
def pS(E:Env)(p:PV)(gU:List PV)(rows:Rows)(K:PV→Prop):Prop:=
 match p with
 | .fn g cI=>aK ((gU.map (pz rows)).all gI=true∧gU.flatMap eD = []) (vS E.P g (gU.map (pz rows)++cI) K)
 | _=>False
@[congr] theorem af8{E:Env}{p p':PV}{gU zB:List PV}{rows rows':Rows}{K:PV→Prop}(h1:p=p')(h2:gU=zB)(h3:rows=rows'):pS E p gU rows K=pS E p' zB rows' K:=by rw [h1,h2,h3]
theorem F6{fo:Operand}{args:Array Operand}{ts:Array TypeId}(hfo:dQ E (.call { callee:=.value fo,args:=args,argTypes:=ts })=false):aQ E ops clk k (⟨d, .call { callee:=.value fo,args:=args,argTypes:=ts },ty,pos,af,none⟩::os) K ⟨f,rows,b6,aR⟩ =
  pS E (aV f fo) (args.toList.map (aV f)) (eN .any ops k aR rows) fun v=>aQ E ops clk (k+1) os K ⟨put f d v,rows,b6,aR⟩:=by
 simp only [aQ]
 rw [B5 hfo]
 simp only [B3 hfo,ys,y6,pS,aK,vS]
 generalize hA:aV f fo=A
 have e1:(args.toList.map fun x=>pz (eN .any ops k aR rows) (aV f x))=(args.toList.map (aV f)).map (pz (eN .any ops k aR rows)):=by rw [List.map_map];rfl
 have e2:(args.toList.flatMap fun x=>eD (aV f x))=(args.toList.map (aV f)).flatMap eD:=by rw [List.flatMap_map]
 rw [e1,e2]
 have e3:∀v,app k ⟨d, .call { callee:=.value fo,args:=args,argTypes:=ts },ty,pos,af,none⟩ true v none ⟨f,rows,b6,aR⟩=⟨put f d v,rows,b6,aR⟩:=fun v=>fJ rfl
 cases A with
 | fn g cI =>
  apply propext
  constructor
  ·rintro⟨v,u,⟨rfl,⟨h1,h2⟩,h3⟩,_,h4⟩;rw [e3]at h4;exact⟨⟨h1,h3⟩,v,h2,h4⟩
  ·rintro⟨⟨h1,h3⟩,v,h2,h4⟩;exact⟨v,none,⟨rfl,⟨h1,h2⟩,h3⟩,trivial,by rw [e3];exact h4⟩
 | _=>simp
theorem RS{g:FuncId}{args:Array Operand}{ts:Array TypeId}(hw:E.writes g=true):aQ E ops clk k (⟨d, .call { callee:=.value (.func g),args:=args,argTypes:=ts },ty,pos,af,none⟩::os) K ⟨f,rows,b6,aR⟩ =
  ∃e n els,((args.toList.map (aV f)).all gI=true∧iM E.P g (args.toList.map (aV f)) e n els∧B4 .any ops k (d.getD 0) b6)∧aQ E ops (clk+1) (k+1) os K ⟨put f d (.own (d.getD 0) clk 0 els.length),eE rows (d.getD 0) (some ⟨clk,e,n,els⟩),b6,pR k (d.getD 0) aR⟩:=by
 have hap:∀ {v e' r0},app k ⟨d, .call { callee:=.value (.func g),args:=args,argTypes:=ts },ty,pos,af,none⟩ true v (some (e',r0)) ⟨f,rows,b6,aR⟩=⟨put f d v,eE rows e' (some r0),b6,pR k e' aR⟩:=vT rfl
 simp only [aQ,yn,iX]
 rw [if_pos hw]
 simp only [if_pos hw]
 apply propext
 constructor
 ·rintro⟨v,u,⟨h1,e,n,els,h2,rfl,rfl⟩,h3,h4⟩
  rw [hap]at h4
  exact⟨e,n,els,⟨h1,h2,h3⟩,h4⟩
 ·rintro⟨e,n,els,⟨h1,h2,h3⟩,h4⟩
  refine⟨_,_,⟨h1,e,n,els,h2,rfl,rfl⟩,h3,?_⟩
  rw [hap];exact h4
@[simp] theorem aqR{md:Region.Mode}{ops:List Oper}{j:Nat}{rows:Rows}:eN md ops j (fun _ _=>False) rows=rows:=by
 funext id;simp [eN]
@[simp] theorem aqS{md:Region.Mode}{ops:List Oper}{j k id:Nat}{w:Nat→Nat→Prop}{rows:Rows}:eN md ops j (pR k id w) rows=if pP md ops j k=true then eN md ops j w rows else eE (eN md ops j w rows) id none:=by
 funext x
 unfold eN pR
 by_cases hd:pP md ops j k=true
 ·rw [if_pos hd]
  have:(∃k',((k'=k∧x=id)∨w k' x)∧pP md ops j k'=false) ↔ ∃k',w k' x∧pP md ops j k'=false:=by
   constructor
   ·rintro⟨k',⟨rfl,_⟩ | h,h2⟩
    ·rw [hd]at h2;cases h2
    ·exact⟨k',h,h2⟩
   ·rintro⟨k',h,h2⟩;exact⟨k', .inr h,h2⟩
  exact(by classical exact ite_congr (propext this) (fun _=>rfl) (fun _=>rfl))
 ·rw [if_neg hd]
  have hd':pP md ops j k=false:=by simpa using hd
  simp only [eE]
  by_cases hx:x=id
  ·rw [if_pos hx,if_pos ⟨k, .inl ⟨rfl,hx⟩,hd'⟩]
  ·rw [if_neg hx]
   have:(∃k',((k'=k∧x=id)∨w k' x)∧pP md ops j k'=false) ↔ ∃k',w k' x∧pP md ops j k'=false:=by
    constructor
    ·rintro⟨k',⟨_,h⟩ | h,h2⟩
     ·exact absurd h hx
     ·exact⟨k',h,h2⟩
    ·rintro⟨k',h,h2⟩;exact⟨k', .inr h,h2⟩
   exact(by classical exact ite_congr (propext this) (fun _=>rfl) (fun _=>rfl))
@[simp] theorem auV{md:Region.Mode}{ops:List Oper}{i id:Nat}:B4 md ops i id (fun _ _=>False)=True:=by simp [B4]
@[simp] theorem auW{md:Region.Mode}{ops:List Oper}{i id k:Nat}{l:List Nat}{t:Nat→Nat→Prop}:B4 md ops i id (l6 k l t)=((id∈l→pP md ops i k=true)∧B4 md ops i id t):=by
 apply propext
 unfold B4 l6
 constructor
 ·intro h;exact⟨fun hi=>h k (.inl ⟨rfl,rfl,hi⟩),fun k' hk=>h k' (.inr hk)⟩
 ·rintro⟨h1,h2⟩ k' (⟨_,rfl,h⟩ | h)
  ·exact h1 h
  ·exact h2 k' h
end
end Pm
