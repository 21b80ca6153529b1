import Derived.StillTail
import Derived.Deep.LoopGhost
import Derived.Test.YtiobceocpabjdaaGreatKab
set_option linter.unusedSimpArgs false
set_option linter.unusedVariables false
namespace Pm
open Go Go.RowKit
def i0(P:Program)(f:FuncId)(args:List PV)(e:TypeId)(n:Nat)(els:List (List PV)):Prop:=
 (∃fn c,P.funcs[f]? = some fn∧fn.body=some c∧(fn.name == "runtime.NumGoroutine")=false) ∧
 ∀(w:World) (S:dF) (vs:List Value),(∀b o,S b o→b<w.heap.size)→bI S w args vs →
  Calls P f vs.toArray w fun x w'=>∃(v:Value) (xs:List Value) (S':dF),x = .returned v∧Below w.heap.size w w'∧(∀b o,S b o→S' b o)∧(∀b o,S' b o→S b o∨(w.heap.size≤b∧b<w'.heap.size)) ∧
   w'.ownsRow w.heap.size e n v els.length xs∧a9 (cN S' w') els.flatten xs∧(∀y∈xs,y.oneCell'=true)∧(∀x∈els,x.length=n)∧0<n∧(∀g o,v.ownBlock=some g→¬S' g o)
def Q5(md:Region.Mode)(ops:List Oper)(j k:Nat):Bool:=
 match ops[j]? with
 | some o=>o.after.toList.any fun e=>Region.binds md e&&e.on==k
 | none=>false
def m7(md:Region.Mode)(ops:List Oper)(j k:Nat):Bool:=Q5 md ops j k || (List.range ops.length).any fun h=>Q5 md ops j h&&Q5 md ops h k
structure ST where
 f:Nat→PV
 rows:Rows
 bL:Nat→Nat→Prop
 wl:Nat→Nat→Prop
def cW(E:Env):Op→Bool
 | .alloc _=>true
 | .box _ _=>true
 | .makeSlice _ _ _=>true
 | .call { callee:=.builtin .append,args:=⟨[_,_]⟩,argTypes:=⟨[_,_]⟩ }=>true
 | .call { callee:=.value (.func g),args:=_,argTypes:=_ }=>E.writes g
 | _=>false
def rF(E:Env)(ops:List Oper):Bool:=ops.all fun o => !cW E o.op || (o.dst.isSome&&o.guard.isNone)
def rk(E:Env)(ops:List Oper)(i:Nat):Nat:=((ops.take i).filter fun o=>cW E o.op).length
theorem OB{E:Env}{ops:List Oper}{i:Nat}{o:Oper}(h:ops[i]? = some o):rk E ops (i+1)=rk E ops i+if cW E o.op=true then 1 else 0:=by
 unfold rk
 rw [List.take_add_one,h]
 simp only [Option.toList_some,List.filter_append,List.length_append]
 congr 1
 cases hn:cW E o.op<;>simp [hn]
theorem abc{E:Env}{ops:List Oper}{i j:Nat}(h:i≤j):rk E ops i≤rk E ops j:=by
 unfold rk
 have:(ops.take i).Sublist (ops.take j):=by
  have:=List.take_sublist i (ops.take j)
  rwa [List.take_take,Nat.min_eq_left h]at this
 exact(this.filter _).length_le
theorem U7{E:Env}{ops:List Oper}{i j:Nat}{o:Oper}(h:ops[i]? = some o)(hn:cW E o.op=true)(T6:i<j):rk E ops i<rk E ops j:=by
 have h1:=OB (E:=E) h
 rw [if_pos hn]at h1
 have:=abc (E:=E) (ops:=ops) (show i+1≤j from T6)
 omega
theorem af7{E:Env}{ops:List Oper}{i j:Nat}{o o':Oper}(h:ops[i]? = some o)(hn:cW E o.op=true)(h':ops[j]? = some o')(AG:cW E o'.op=true)(he:rk E ops i=rk E ops j):i=j:=by
 rcases Nat.lt_trichotomy i j with h1 | h1 | h1
 ·have:=U7 h hn h1;omega
 ·exact h1
 ·have:=U7 h' AG h1;omega
def qS(t:TI)(rows:Rows)(x y:PV)(c0 d:Nat)(v:PV)(u:Option (Nat × Row)):Prop:=
 match t with
 | .slice e n b _=>∃l,qG rows y l∧(∀e∈l,e.length=n) ∧
  match x with
  | .nil=>l.length≤room∧l.length*b≤room∧v = .own d c0 0 l.length∧u=some (d,⟨c0,e,n,l⟩)
  | .own id ver off len=>∃r,rows id=some r∧r.ver=ver∧off=0∧len≤r.els.length∧r.e=e∧r.size=n∧len+l.length≤room∧(len+l.length)*b≤room ∧
    v = .own id c0 0 (len+l.length)∧u=some (id,⟨c0,e,n,r.els.take len++l⟩)
  | .gU l0=>(∀e∈l0,e.length=n)∧(∀e∈l,∀p∈e,bU p=true)∧l0.length+l.length≤room∧(l0.length+l.length)*b≤room∧v = .sl (l0++l)∧u=none
  | _=>False
 | _=>False
def adR(E:Env)(g:FuncId)(args:List PV)(c0 d:Nat)(v:PV)(u:Option (Nat × Row)):Prop:=
 args.all fA=true ∧ ∃e n els,i0 E.P g args e n els∧v = .own d c0 0 els.length∧u=some (d,⟨c0,e,n,els⟩)
def yn(E:Env)(c0:Nat)(d:Option Tmp)(op:Op)(ρ:Operand→PV)(rows:Rows)(v:PV)(u:Option (Nat × Row)):Prop:=
 match op with
 | .alloc t=>(E.ty t).known=true∧v = .ptr (d.getD 0) c0 0 0∧u=some (d.getD 0,⟨c0,t,(E.ty t).size,[(E.ty t).zero]⟩)
 | .box t x=>(E.ty t).known=true ∧ ∃l,bS (ρ x)=some l∧(∀q∈l,gR (fun _=>none) q)∧l.length=(E.ty t).size∧v = .ptr (d.getD 0) c0 0 0∧u=some (d.getD 0,⟨c0,t,(E.ty t).size,[l]⟩)
 | .makeSlice t l c =>
  match E.ty t,ρ l,ρ c with
  | .slice e n b z, .int _ x, .int _ y=>0≤x∧x≤y∧y.toNat≤room∧y.toNat*b≤room∧v = .own (d.getD 0) c0 0 x.toNat∧u=some (d.getD 0,⟨c0,e,n,List.replicate x.toNat z⟩)
  | _,_,_=>False
 | .call { callee:=.builtin .append,args:=⟨[x,y]⟩,argTypes:=⟨[t,t2]⟩ }=>(t2=t∨UY (E.ty t2)=true)∧qS (E.ty t) rows (ρ x) (ρ y) c0 (d.getD 0) v u
 | .call { callee:=.value (.func g),args:=az5,argTypes:=ts }=>if E.writes g=true then adR E g (az5.toList.map fun x=>ρ x) c0 (d.getD 0) v u else ys E (.call { callee:=.value (.func g),args:=az5,argTypes:=ts }) ρ rows v u
 | op=>ys E op ρ rows v u
theorem xV{E:Env}{c0:Nat}{d:Option Tmp}{op:Op}{ρ:Operand→PV}{rows:Rows}{v:PV}{u:Option (Nat × Row)}(h:cW E op=false):yn E c0 d op ρ rows v u=ys E op ρ rows v u:=by
 unfold yn
 split
 all_goals first
  | rfl
  | (simp [cW]at h;done)
  | (simp only [cW]at h;rw [if_neg (by rw [h];decide)])
theorem lA{E:Env}{op:Op}{C:Prop}(h:cW E op=true)(h1:∀t,op = .alloc t→C)(h2:∀t x,op = .box t x→C)(h3:∀t l c,op = .makeSlice t l c→C)
  (h4:∀x y t t2,op = .call { callee:=.builtin .append,args:=⟨[x,y]⟩,argTypes:=⟨[t,t2]⟩ }→C) (h5:∀g az5 ts,op = .call { callee:=.value (.func g),args:=az5,argTypes:=ts }→E.writes g=true→C):C:=by
 unfold cW at h
 split at h
 ·exact h1 _ rfl
 ·exact h2 _ _ rfl
 ·exact h3 _ _ _ rfl
 ·exact h4 _ _ _ _ rfl
 ·exact h5 _ _ _ rfl h
 ·cases h
theorem U8{t:TI}{rows rows':Rows}{x y v:PV}{c0 d:Nat}{u:Option (Nat × Row)}(h:iD (aU x++aU y) rows rows')(hy:qS t rows x y c0 d v u):qS t rows' x y c0 d v u ∧ ∀id∈aU x++aU y,∃r,rows id=some r:=by
 unfold qS at *
 cases t with
 | slice e n b z =>
  obtain⟨l,h1,h2,h3⟩:=hy
  obtain⟨g1,g2⟩:=OA (fun id fI=>h id (by simp only [List.mem_append];exact .inr fI)) h1
  cases x with
  | nil=>exact⟨⟨l,g1,h2,h3⟩,fun id fI=>g2 id (by simpa [aU]using fI)⟩
  | gU l0=>exact⟨⟨l,g1,h2,h3⟩,fun id fI=>g2 id (by simpa [aU]using fI)⟩
  | own id ver off len =>
   obtain⟨r,hr,hh⟩:=h3
   refine⟨⟨l,g1,h2,r,h id (by simp [aU]) r hr,hh⟩,fun gX fI=>?_⟩
   simp only [aU,List.mem_append,List.mem_cons,List.not_mem_nil,or_false]at fI
   rcases fI with rfl | fI
   ·exact⟨r,hr⟩
   ·exact g2 gX fI
  | _=>exact h3.elim
 | _=>exact hy.elim
theorem OC{E:Env}{c0:Nat}{d:Option Tmp}{op:Op}{ρ:Operand→PV}{rows rows':Rows}{v:PV}{u:Option (Nat × Row)}(h:iD (gM op ρ) rows rows')(hy:yn E c0 d op ρ rows v u) :
  yn E c0 d op ρ rows' v u∧(∀id∈gM op ρ,∃r,rows id=some r) ∧ ∀id r,u=some (id,r)→(cW E op=true∧id=d.getD 0)∨id∈gM op ρ:=by
 cases hn:cW E op with
 | false =>
  rw [xV hn]at hy ⊢
  obtain⟨h1,h2,h3⟩:=adQ h hy
  exact⟨h1,h2,fun id r hu => .inr (h3 id r hu)⟩
 | true =>
  refine lA hn ?_ ?_ ?_ ?_ ?_
  ·rintro t rfl
   refine⟨hy,by simp [gM],fun id r hu => .inl ⟨by first | trivial | rfl,?_⟩⟩
   obtain⟨_,_,rfl⟩:=hy
   simp at hu;exact hu.1.symm
  ·rintro t x rfl
   refine⟨hy,by simp [gM],fun id r hu => .inl ⟨by first | trivial | rfl,?_⟩⟩
   obtain⟨_,_,_,_,_,_,rfl⟩:=hy
   simp at hu;exact hu.1.symm
  ·rintro t l c rfl
   refine⟨hy,by simp [gM],fun id r hu => .inl ⟨by first | trivial | rfl,?_⟩⟩
   simp only [yn]at hy
   split at hy
   ·obtain⟨_,_,_,_,_,rfl⟩:=hy
    simp at hu;exact hu.1.symm
   ·exact hy.elim
  ·rintro x y t t2 rfl
   simp only [yn,gM]at hy h ⊢
   obtain⟨h2,h3⟩:=hy
   obtain⟨g1,g2⟩:=U8 h h3
   refine⟨⟨h2,g1⟩,g2,fun id r hu=>?_⟩
   unfold qS at h3
   split at h3
   ·obtain⟨l,_,_,h3⟩:=h3
    split at h3
    ·obtain⟨_,_,_,rfl⟩:=h3
     simp at hu;exact .inl ⟨by first | trivial | rfl,hu.1.symm⟩
    ·rename_i hx
     obtain⟨_,_,_,_,_,_,_,_,_,_,rfl⟩:=h3
     simp at hu
     rw [hx]
     exact .inr (by simp [aU,hu.1])
    ·obtain⟨_,_,_,_,_,rfl⟩:=h3
     cases hu
    ·exact h3.elim
   ·exact h3.elim
  ·rintro g az5 ts rfl hw
   simp only [yn]at hy ⊢
   rw [if_pos hw]at hy
   rw [if_pos hw]
   refine⟨hy,by simp [gM],fun id r hu => .inl ⟨by first | trivial | exact hw,?_⟩⟩
   obtain⟨_,_,_,_,_,_,rfl⟩:=hy
   simp at hu;exact hu.1.symm
open Classical in
noncomputable def dO(md:Region.Mode)(ops:List Oper)(j:Nat)(wl:Nat→Nat→Prop)(rows:Rows):Rows:=fun id=>if ∃k,wl k id∧m7 md ops j k=false then none else rows id
theorem jK{md:Region.Mode}{ops:List Oper}{j id:Nat}{wl:Nat→Nat→Prop}{rows:Rows}{r:Row}:dO md ops j wl rows id=some r↔(∀k,wl k id→m7 md ops j k=true)∧rows id=some r:=by
 unfold dO
 split
 ·rename_i h
  obtain⟨k,h1,h2⟩:=h
  simp only [reduceCtorEq,false_iff,not_and]
  intro h3
  rw [h3 k h1]at h2;cases h2
 ·rename_i h
  refine⟨fun h2=>⟨fun k hk=>?_,h2⟩,fun h2=>h2.2⟩
  cases hd:m7 md ops j k with
  | true=>rfl
  | false=>exact absurd ⟨k,hk,hd⟩ h
def xW(md:Region.Mode)(ops:List Oper)(i id:Nat)(bL:Nat→Nat→Prop):Prop:=∀k,bL k id→m7 md ops i k=true
def GG(md:Region.Mode)(ops:List Oper)(i:Nat)(u:Option (Nat × Row))(bL:Nat→Nat→Prop):Prop:=
 match u with
 | none=>True
 | some (id,_)=>xW md ops i id bL
def gOK(ops:Array Oper)(o:Oper)(f:Nat→PV)(b:Bool):Prop:=
 match o.guard with
 | none=>b=true
 | some (j,want)=>∃d,(ops[j]?).bind (·.dst)=some d∧((f d = .bool want∧b=true)∨((f d = .bool (!want)∨f d = .dX [])∧b=false))
def YG(E:Env)(md:Region.Mode)(ops:Array Oper)(c0:Nat)(i:Nat)(o:Oper)(b:Bool)(v:PV)(u:Option (Nat × Row))(st:ST):Prop:=
 gOK ops o st.f b∧if b=true then yn E (c0+rk E ops.toList i) o.dst o.op (aO st.f) (dO md ops.toList i st.wl st.rows) v u else v = .dX []∧u=none
def T8(i:Nat)(u:Option (Nat × Row))(wl:Nat→Nat→Prop):Nat→Nat→Prop:=
 match u with
 | none=>wl
 | some (id,_)=>fun k gX=>(k=i∧gX=id)∨wl k gX
def app(i:Nat)(o:Oper)(b:Bool)(v:PV)(u:Option (Nat × Row))(st:ST):ST:=
 { f:=put st.f o.dst v,rows:=dQ st.rows u,bL:=fun k id=>(b=true∧k=i∧id∈gM o.op (aO st.f))∨st.bL k id,wl:=T8 i u st.wl }
def gN(E:Env)(op:Op)(clk:Nat):Nat:=
 match op with
 | .alloc _=>clk+1
 | .box _ _=>clk+1
 | .makeSlice _ _ _=>clk+1
 | .call { callee:=.builtin .append,args:=⟨[_,_]⟩,argTypes:=⟨[_,_]⟩ }=>clk+1
 | .call { callee:=.value (.func g),args:=_,argTypes:=_ }=>if E.writes g=true then clk+1 else clk
 | _=>clk
theorem xX{E:Env}{op:Op}{clk:Nat}(h:cW E op=false):gN E op clk=clk:=by
 unfold gN
 split
 all_goals first
  | rfl
  | (simp [cW]at h;done)
  | (simp only [cW]at h;rw [if_neg (by rw [h];decide)])
theorem U9{E:Env}{op:Op}{clk:Nat}(h:cW E op=true):gN E op clk=clk+1:=by
 refine lA h ?_ ?_ ?_ ?_ ?_
 ·rintro t rfl;rfl
 ·rintro t x rfl;rfl
 ·rintro t l c rfl;rfl
 ·rintro x y t t2 rfl;rfl
 ·rintro g az5 ts rfl hw;simp only [gN];rw [if_pos hw]
theorem abe{E:Env}{ops:List Oper}{i c0:Nat}{o:Oper}(h:ops[i]? = some o):gN E o.op (c0+rk E ops i)=c0+rk E ops (i+1):=by
 rw [OB h]
 cases hn:cW E o.op with
 | false=>rw [xX hn];simp
 | true=>rw [U9 hn];simp;omega
def VA(E:Env)(md:Region.Mode)(ops:Array Oper)(c0:Nat)(i:Nat)(K:ST→Prop)(st:ST):Prop:=
 match ops[i]? with
 | none=>K st
 | some o=>∃b v u,YG E md ops c0 i o b v u st∧GG md ops.toList i u st.bL∧K (app i o b v u st)
section
variable {E:Env} {ops:Array Oper} {md:Region.Mode}
theorem VB{c0 i:Nat}{K K':ST→Prop}{st:ST}(h:∀st,K st→K' st)(hh:VA E md ops c0 i K st):VA E md ops c0 i K' st:=by
 unfold VA at *
 split
 ·exact h _ (by simpa [*]using hh)
 ·rename_i o ho
  simp only [ho]at hh
  obtain⟨b,v,u,h1,h2,h3⟩:=hh
  exact⟨b,v,u,h1,h2,h _ h3⟩
theorem OD{f:Nat→PV}{d:Option Tmp}{v:PV}{x:Operand}(h:∀t,d=some t→x ≠ .tmp t):aO (put f d v) x=aO f x:=by
 cases d with
 | none=>rfl
 | some t =>
  cases x with
  | tmp s =>
   have:s≠t:=fun e=>h t rfl (by rw [e])
   simp [aO,put,this]
  | _=>rfl
theorem VC{op:Op}{ρ ρ':Operand→PV}{rows:Rows}{v:PV}{u:Option (Nat × Row)}(h:∀x∈op.operands,ρ x=ρ' x):ys E op ρ rows v u↔ys E op ρ' rows v u:=by
 have parts:∀ps:Array (Nat × Operand),(∀x∈(ps.toList.map (·.2)).toArray,ρ x=ρ' x)→(ps.toList.map fun x=>(x.1,ρ x.2))=ps.toList.map fun x=>(x.1,ρ' x.2):=fun ps hp =>
  List.map_congr_left fun p hm=>by rw [hp p.2 (by simp;exact⟨p.1,by simpa using hm⟩)]
 have args:∀(c:Call),(∀x∈c.operands,ρ x=ρ' x) → ∀x∈c.args.toList,ρ x=ρ' x:=fun c hc x hx=>hc x (by simp [Call.operands];exact .inr (by simpa using hx))
 unfold ys
 split
 ·rename_i x y t t2
  rw [h x (by simp [Op.operands,Call.operands]),h y (by simp [Op.operands,Call.operands])]
 ·rename_i t p x
  rw [h p (by simp [Op.operands]),h x (by simp [Op.operands])]
 ·rename_i t len ps
  rw [parts ps (by simpa [Op.operands]using h)]
 ·rename_i f az5 ts
  have ha:=args _ (by simpa [Op.operands]using h)
  simp only at ha
  rw [h f (by simp [Op.operands,Call.operands]),List.map_congr_left (g:=fun x=>pz rows (ρ' x)) fun x hx=>by rw [ha x hx]]
  have:(az5.toList.flatMap fun x=>dG (ρ x))=az5.toList.flatMap fun x=>dG (ρ' x):=by
   rw [List.flatMap_def,List.flatMap_def]
   congr 1
   exact List.map_congr_left fun x hx=>by rw [ha x hx]
  rw [this]
 ·suffices hs:yv E op ρ rows v↔yv E op ρ' rows v by rw [hs]
  unfold yv
  split
  case h_12 =>
   rename_i t x lo hi mx _ _ _ _
   have o1:∀y:Option Operand,(∀z,y=some z→ρ z=ρ' z)→y.map ρ=y.map ρ':=by
    intro y hy;cases y with
    | none=>rfl
    | some z=>simp [hy z rfl]
   rw [h x (by simp [Op.operands]),o1 lo fun z hz=>h z (by subst hz;simp [Op.operands]),o1 hi fun z hz=>h z (by subst hz;simp [Op.operands]),o1 mx fun z hz=>h z (by subst hz;simp [Op.operands])]
  case h_13=>rename_i t ps _ _ _ _;rw [parts ps (by simpa [Op.operands]using h)]
  case h_15 =>
   rename_i f cB _ _ _ _
   rw [List.map_congr_left (l:=cB.toList) (f:=fun x=>ρ x) (g:=fun x=>ρ' x) fun x hx=>h x (by simp [Op.operands];simpa using hx)]
  all_goals first
   | rfl
   | (simp only [Op.operands,Call.operands]at h;simp [h])
theorem xY{op:Op}{ρ ρ':Operand→PV}(h:∀x∈op.operands,ρ x=ρ' x):gM op ρ=gM op ρ':=by
 unfold gM
 split
 all_goals first
  | rfl
  | (simp only [Op.operands,Call.operands]at h;simp [h])
theorem GH{c0:Nat}{d:Option Tmp}{op:Op}{ρ ρ':Operand→PV}{rows:Rows}{v:PV}{u:Option (Nat × Row)}(h:∀x∈op.operands,ρ x=ρ' x):yn E c0 d op ρ rows v u↔yn E c0 d op ρ' rows v u:=by
 cases hn:cW E op with
 | false=>rw [xV hn,xV hn];exact VC h
 | true =>
  refine lA hn ?_ ?_ ?_ ?_ ?_
  ·rintro t rfl;exact Iff.rfl
  ·rintro t x rfl
   simp only [yn]
   rw [h x (by simp [Op.operands])]
  ·rintro t l c rfl
   simp only [yn]
   rw [h l (by simp [Op.operands]),h c (by simp [Op.operands])]
  ·rintro x y t t2 rfl
   simp only [yn]
   rw [h x (by simp [Op.operands,Call.operands]),h y (by simp [Op.operands,Call.operands])]
  ·rintro g az5 ts rfl hw
   simp only [yn]
   rw [if_pos hw,if_pos hw,List.map_congr_left (l:=az5.toList) (f:=fun x=>ρ x) (g:=fun x=>ρ' x) fun x hx=>h x (by simp [Op.operands,Call.operands];exact .inr (by simpa using hx))]
theorem GI{o:Oper}{d:Tmp}{x:Operand}(h:d ∉ o.looksAt ops)(hx:x∈o.op.operands):x ≠ .tmp d:=by
 rintro rfl
 exact h (List.mem_append_left _ (List.mem_filterMap.2 ⟨.tmp d,by simpa using hx,rfl⟩))
theorem KZ{c:Cx}:aH c (.dX []) undef:=by
 show cN c.S c.w (.dX []) undef
 simp only [cN]
 exact⟨[],rfl,rfl⟩
theorem gG{c:Cx}{tmps:Array Value}{j:Nat}{d:Tmp}{t:Bool}(h1:(ops[j]?).bind (·.dst)=some d)(h:aH c (.bool t) (tmps.getD d undef)):yielded ops tmps j=some t:=by
 rw [cP]at h
 unfold yielded
 rw [h1]
 simp only [Option.bind_some]
 cases hx:tmps[d]? with
 | none=>simp [hx]at h;cases h
 | some y =>
  have hy:y = .bool t:=by simpa [hx]using h
  rw [hy]
theorem rG{c:Cx}{tmps:Array Value}{j:Nat}{d:Tmp}(h1:(ops[j]?).bind (·.dst)=some d)(h:aH c (.dX []) (tmps.getD d undef)):yielded ops tmps j=none:=by
 have h2:tmps.getD d undef = .tuple #[]:=by
  have h3:cN c.S c.w (.dX []) (tmps.getD d undef):=h
  simp only [cN]at h3
  obtain⟨vs,h4,h5⟩:=h3
  simp only [bI]at h5
  rw [h4,h5]
 unfold yielded
 rw [h1]
 simp only [Option.bind_some]
 cases hx:tmps[d]? with
 | none=>rfl
 | some y =>
  have hy:y = .tuple #[]:=by simpa [hx]using h2
  rw [hy]
theorem OE{o:Oper}{f:Nat→PV}{dd:Option Tmp}{v:PV}{b:Bool}(h:∀d,dd=some d→d ∉ o.looksAt ops):gOK ops o (put f dd v) b↔gOK ops o f b:=by
 unfold gOK
 cases hg:o.guard with
 | none=>rfl
 | some g =>
  obtain⟨j,want⟩:=g
  simp only
  have key:∀d,(ops[j]?).bind (·.dst)=some d→put f dd v d=f d:=by
   intro d h1
   cases dd with
   | none=>rfl
   | some e =>
    have qF:d≠e:=by
     rintro rfl
     exact h d rfl (List.mem_append_right _ (by simp [hg,h1]))
    simp [put,qF]
  constructor
  ·rintro⟨d,h1,h2⟩
   rw [key d h1]at h2
   exact⟨d,h1,h2⟩
  ·rintro⟨d,h1,h2⟩
   rw [←key d h1]at h2
   exact⟨d,h1,h2⟩
theorem put_comm{f:Nat→PV}{x y:Option Tmp}{v u:PV}(h:∀d,x=some d→y≠some d):put (put f x v) y u=put (put f y u) x v:=by
 cases x with
 | none=>rfl
 | some d =>
  cases y with
  | none=>rfl
  | some e =>
   have qF:d≠e:=fun he=>h d rfl (by rw [he])
   funext j
   simp only [put]
   split<;>split<;>simp_all
theorem xZ{rows:Rows}{u:Option (Nat × Row)}{j:Nat}(h:∀r,u≠some (j,r)):dQ rows u j=rows j:=by
 cases u with
 | none=>rfl
 | some x =>
  obtain⟨i,r⟩:=x
  simp only [dQ,dH]
  rw [if_neg]
  rintro rfl
  exact h r rfl
theorem m8{i:Nat}{u:Option (Nat × Row)}{wl:Nat→Nat→Prop}{k id:Nat}:T8 i u wl k id↔(k=i ∧ ∃r,u=some (id,r))∨wl k id:=by
 cases u with
 | none=>simp [T8]
 | some x =>
  obtain⟨gX,r⟩:=x
  simp only [T8,Option.some.injEq,Prod.mk.injEq]
  constructor
  ·rintro(⟨h1,h2⟩ | h)
   ·exact .inl ⟨h1,r,h2.symm,rfl⟩
   ·exact .inr h
  ·rintro(⟨h1,r',h2,_⟩ | h)
   ·exact .inl ⟨h1,h2.symm⟩
   ·exact .inr h
theorem DO{i:Nat}{u:Option (Nat × Row)}{bL:Nat→Nat→Prop}:GG md ops.toList i u bL ↔ ∀id r,u=some (id,r) → ∀k,bL k id→m7 md ops.toList i k=true:=by
 cases u with
 | none=>simp [GG]
 | some x =>
  obtain⟨gX,r⟩:=x
  simp only [GG,xW,Option.some.injEq,Prod.mk.injEq]
  constructor
  ·rintro h _ _ ⟨rfl,_⟩;exact h
  ·intro h;exact h _ _ ⟨rfl,rfl⟩
theorem abf{c0 i j:Nat}{oi oj:Oper}{bi:Bool}{vi:PV}{ui:Option (Nat × Row)}(hj:ops[j]? = some oj)(US:oi.apart ops oj=true)(hds:cW E oi.op=true→oi.dst.isSome=true)(arT:cW E oj.op=true→oj.dst.isSome=true)(hdj:m7 md ops.toList j i=false){K:ST→Prop}{st:ST}
  (hy:YG E md ops c0 i oi bi vi ui st) (ho:GG md ops.toList i ui st.bL) (h:VA E md ops c0 j K (app i oi bi vi ui st)) :
  VA E md ops c0 j (fun OG=>YG E md ops c0 i oi bi vi ui OG∧GG md ops.toList i ui OG.bL∧K (app i oi bi vi ui OG)) st:=by
 obtain⟨h1,h2,h3⟩:=Oper.apart_spec US
 unfold VA at h ⊢
 simp only [hj]at h ⊢
 obtain⟨bj,vj,uj,⟨hgj,hyj⟩,hoj,hK⟩:=h
 obtain⟨hgi,Q6⟩:=hy
 rw [DO]at hoj ho
 have ej:∀x∈oj.op.operands,aO (put st.f oi.dst vi) x=aO st.f x:=fun x hx=>OD fun t ht=>GI (h1 t ht) hx
 have ei:∀x∈oi.op.operands,aO (put st.f oj.dst vj) x=aO st.f x:=fun x hx=>OD fun t ht=>GI (h3 t ht) hx
 have arU:gOK ops oj st.f bj:=(OE h1).1 hgj
 have hnw:∀id r,dO md ops.toList j (app i oi bi vi ui st).wl (app i oi bi vi ui st).rows id=some r → ∀r',ui≠some (id,r'):=by
  intro id r hr r' hu
  obtain⟨hw,_⟩:=jK.1 hr
  have:=hw i (m8.2 (.inl ⟨rfl,r',hu⟩))
  rw [hdj]at this;cases this
 have hle:∀ids,iD ids (dO md ops.toList j (app i oi bi vi ui st).wl (app i oi bi vi ui st).rows) (dO md ops.toList j st.wl st.rows):=by
  intro ids id _ r hr
  have hn:=hnw id r hr
  obtain⟨hw,jW⟩:=jK.1 hr
  simp only [app]at jW hw
  rw [xZ hn]at jW
  exact jK.2 ⟨fun k hk=>hw k (m8.2 (.inr hk)),jW⟩
 have arV:(if bj=true then yn E (c0+rk E ops.toList j) oj.dst oj.op (aO st.f) (dO md ops.toList j st.wl st.rows) vj uj else vj = .dX []∧uj=none) ∧
   (bj=true → ∀id∈gM oj.op (aO st.f),∃r,dO md ops.toList j (app i oi bi vi ui st).wl (app i oi bi vi ui st).rows id=some r)∧(∀id r,uj=some (id,r)→bj=true∧((cW E oj.op=true∧id=oj.dst.getD 0)∨id∈gM oj.op (aO st.f))):=by
  by_cases hb:bj=true
  ·rw [if_pos hb]at hyj ⊢
   have abg:=(GH ej).1 hyj
   obtain⟨g1,g2,g3⟩:=OC (hle _) abg
   exact⟨g1,fun _=>g2,fun id r hu=>⟨hb,g3 id r hu⟩⟩
  ·rw [if_neg hb]at hyj ⊢
   exact⟨hyj,fun h=>absurd h hb,fun id r hu=>by rw [hyj.2]at hu;cases hu⟩
 obtain⟨arW,abg,arX⟩:=arV
 have arY:GG md ops.toList j uj st.bL:=DO.2 fun id r hu k hk=>hoj id r hu k (.inr hk)
 have hfi:∀id r,uj=some (id,r)→¬(bi=true∧id∈gM oi.op (aO st.f)):=by
  intro id r hu hh
  have:=hoj id r hu i (.inl ⟨hh.1,rfl,hh.2⟩)
  rw [hdj]at this;cases this
 have hui:∀id r,ui=some (id,r)→bi=true∧((cW E oi.op=true∧id=oi.dst.getD 0)∨id∈gM oi.op (aO st.f)):=by
  intro id r hu
  by_cases hb:bi=true
  ·rw [if_pos hb]at Q6
   exact⟨hb,(OC (rows':=dO md ops.toList i st.wl st.rows) (fun id _ r hr=>hr) Q6).2.2 id r hu⟩
  ·rw [if_neg hb]at Q6
   rw [Q6.2]at hu;cases hu
 have qF:∀id r r',ui=some (id,r)→uj=some (id,r')→False:=by
  intro id r r' hu1 hu2
  obtain⟨hb,hh⟩:=arX id r' hu2
  rcases hh with hh | hh
  ·obtain⟨KY,hh1⟩:=hui id r hu1
   rcases hh1 with hh1 | hh1
   ·obtain⟨d,hd⟩:=Option.isSome_iff_exists.1 (hds hh1.1)
    have e1:id=d:=by rw [hh1.2,hd];rfl
    cases aga:oj.dst with
    | none=>exact absurd aga (fun he=>by have:=arT hh.1;rw [he]at this;cases this)
    | some d' =>
     have e2:id=d':=by rw [hh.2,aga];rfl
     exact h2 d hd (by rw [aga,←e2,e1])
   ·exact hfi id r' hu2 ⟨KY,hh1⟩
  ·obtain⟨r'',arZ⟩:=abg hb id hh
   exact hnw id r'' arZ r hu1
 have ar0:bi=true→iD (gM oi.op (aO st.f)) (dO md ops.toList i st.wl st.rows) (dO md ops.toList i (app j oj bj vj uj st).wl (app j oj bj vj uj st).rows):=by
  intro hb id fI r hr
  obtain⟨hw,jW⟩:=jK.1 hr
  have hn:∀r',uj≠some (id,r'):=fun r' hu=>hfi id r' hu ⟨hb,fI⟩
  refine jK.2 ⟨fun k hk=>?_,?_⟩
  ·rcases m8.1 hk with ⟨_,r',hu⟩ | hk
   ·exact absurd hu (hn r')
   ·exact hw k hk
  ·simp only [app];rw [xZ hn];exact jW
 refine⟨bj,vj,uj,⟨arU,arW⟩,arY,⟨(OE h3).2 hgi,?_⟩,?_,?_⟩
 ·by_cases hb:bi=true
  ·rw [if_pos hb]at Q6 ⊢
   refine(GH ei).2 ?_
   exact(OC (ar0 hb) Q6).1
  ·rw [if_neg hb]at Q6 ⊢;exact Q6
 ·-- i's own row has not axi apW
  rw [DO]
  rintro id r hu k (⟨hb,rfl,hh⟩ | hh)
  ·obtain⟨r',jW⟩:=abg hb id hh
   exact absurd hu (hnw id r' jW r)
  ·exact ho id r hu k hh
 ·have:app i oi bi vi ui (app j oj bj vj uj st)=app j oj bj vj uj (app i oi bi vi ui st):=by
   simp only [app,ST.mk.injEq]
   refine⟨put_comm fun d hd=>fun VD=>(h2 d) (by first | exact hd | exact VD) (by first | exact VD | exact hd),?_,?_,?_⟩
   ·cases ui with
    | none=>rfl
    | some x =>
     cases uj with
     | none=>rfl
     | some y =>
      obtain⟨id,r⟩:=x
      obtain⟨gX,r'⟩:=y
      have:id≠gX:=fun e=>qF id r r' rfl (by rw [e])
      funext k
      simp only [dQ,dH]
      split<;>split<;>simp_all
   ·funext k id
    have e1:gM oi.op (aO (put st.f oj.dst vj))=gM oi.op (aO st.f):=xY ei
    have e2:gM oj.op (aO (put st.f oi.dst vi))=gM oj.op (aO st.f):=xY ej
    rw [e1,e2]
    apply propext
    constructor
    ·rintro(h | h | h)
     ·exact .inr (.inl h)
     ·exact .inl h
     ·exact .inr (.inr h)
    ·rintro(h | h | h)
     ·exact .inr (.inl h)
     ·exact .inl h
     ·exact .inr (.inr h)
   ·funext k id
    apply propext
    rw [m8,m8,m8,m8]
    constructor
    ·rintro(h | h | h)
     ·exact .inr (.inl h)
     ·exact .inl h
     ·exact .inr (.inr h)
    ·rintro(h | h | h)
     ·exact .inr (.inl h)
     ·exact .inl h
     ·exact .inr (.inr h)
  rw [this];exact hK
theorem GJ{j k:Nat}:Q5 md ops.toList j k=true ↔ ∃oj,ops[j]? = some oj ∧ ∃e∈oj.after,Region.binds md e=true∧e.on=k:=by
 unfold Q5
 cases h:ops[j]? with
 | none=>simp [show ops.toList[j]? = none by simpa using h]
 | some oj =>
  rw [show ops.toList[j]? = some oj by simpa using h]
  simp only [List.any_eq_true,Bool.and_eq_true,beq_iff_eq,Option.some.injEq]
  constructor
  ·rintro⟨e,he,h1,h2⟩;exact⟨oj,rfl,e,by simpa using he,h1,h2⟩
  ·rintro⟨_,rfl,e,he,h1,h2⟩;exact⟨e,by simpa using he,h1,h2⟩
theorem abh{n j i:Nat}{oj:Oper}{aZ:Array Bool}(hj:ops[j]? = some oj)(inv:HeadInv md ops n aZ)(hr:∀e∈oj.after,Region.binds md e=true→aZ.getD e.on false=true)(JZ:aZ.getD i false=false):m7 md ops.toList j i=false:=by
 have one:∀k,Q5 md ops.toList j k=true→aZ.getD k false=true:=fun k hk=>by
  obtain⟨o,ho,e,he,h1,rfl⟩:=GJ.1 hk
  rw [hj]at ho;cases ho
  exact hr e he h1
 cases hd:m7 md ops.toList j i with
 | false=>rfl
 | true =>
  exfalso
  unfold m7 at hd
  rcases Bool.or_eq_true_iff.1 hd with h | h
  ·rw [one i h]at JZ;cases JZ
  ·obtain⟨k,_,hk⟩:=List.any_eq_true.1 h
   obtain⟨h1,h2⟩:=Bool.and_eq_true_iff.1 hk
   obtain⟨o,ho,e,he,h3,rfl⟩:=GJ.1 h2
   rw [inv.closed k o ho (one k h1) e he h3]at JZ;cases JZ
end
section
variable {E:Env} {ops:Array Oper} {md:Region.Mode}
def GK(E:Env)(md:Region.Mode)(ops:Array Oper)(c0 n:Nat)(L:Array Bool→ST→Prop):Nat→Array Bool→ST→Prop
 | 0,aZ,st=>L aZ st
 | f+1,aZ,st=>Region.ready md ops aZ ≠ [] ∧ ∀i∈Region.ready md ops aZ,i<n∧VA E md ops c0 i (GK E md ops c0 n L f (aZ.setIfInBounds i true)) st
theorem GL{c0 n i:Nat}{oi:Oper}{b:Bool}{v:PV}{u:Option (Nat × Row)}{L:Array Bool→ST→Prop}(hi:ops[i]? = some oi)(mY:∀i oi,i<n→ops[i]? = some oi→cW E oi.op=true→oi.dst.isSome=true)
  (x6:∀aZ,HeadInv md ops n aZ → ∀i,i<n→aZ.getD i true=false → ∀t,n≤t→t ∉ Region.ready md ops aZ) (hin:i<n)
  (alS:∀aZ st,L aZ st → ∀j∈Region.ready md ops aZ,n≤j) :
  ∀(f:Nat) (aZ:Array Bool) (st:ST),HeadInv md ops n aZ →
   (∀j oj,ops[j]? = some oj→j≠i→aZ.getD j true=false→(∀e∈oj.after,Region.binds md e=true→e.on≠i)→oi.apart ops oj=true) →
   i∈Region.ready md ops aZ→YG E md ops c0 i oi b v u st→GG md ops.toList i u st.bL →
   GK E md ops c0 n L f (aZ.setIfInBounds i true) (app i oi b v u st)→GK E md ops c0 n L (f+1) aZ st:=by
 intro f
 induction f with
 | zero =>
  intro aZ st inv _ hr hy ho H
  have JZ:=(mem_ready.1 hr).1
  refine⟨fun h=>(by rw [h]at hr;cases hr),fun j hj=>?_⟩
  have hjn:j<n:=by
   rcases Nat.lt_or_ge j n with h | h
   ·exact h
   ·exact absurd hj (x6 aZ inv i hin JZ j h)
  refine⟨hjn,?_⟩
  by_cases hji:j=i
  ·subst hji;unfold VA;simp only [hi];exact⟨b,v,u,hy,ho,H⟩
  ·have:=alS _ _ H j (ready_mono hj hji)
   omega
 | succ f ih =>
  intro aZ st inv adU hr hy ho H
  have JZ:=(mem_ready.1 hr).1
  refine⟨fun h=>(by rw [h]at hr;cases hr),fun j hj=>?_⟩
  have hjn:j<n:=by
   rcases Nat.lt_or_ge j n with h | h
   ·exact h
   ·exact absurd hj (x6 aZ inv i hin JZ j h)
  refine⟨hjn,?_⟩
  by_cases hji:j=i
  ·subst hji;unfold VA;simp only [hi];exact⟨b,v,u,hy,ho,H⟩
  ·have h1:=(H.2 j (ready_mono hj hji)).2
   obtain⟨alU,oj,hoj,rH⟩:=mem_ready.1 hj
   have ar1:∀e∈oj.after,Region.binds md e=true→e.on≠i:=fun e he hb heq=>by
    have h1:=rH e he hb
    rw [heq,getD_both JZ]at h1
    cases h1
   have h2:=abf hoj (adU j oj hoj hji alU ar1) (mY i oi hin hi) (mY j oj hjn hoj) (abh hoj inv rH (getD_both JZ)) hy ho h1
   have agb:∀k ok,ops[k]? = some ok→k≠i→(aZ.setIfInBounds j true).getD k true=false →
     (∀e∈ok.after,Region.binds md e=true→e.on≠i)→oi.apart ops ok=true:=fun k ok hk hki alV hno=>by
    refine adU k ok hk hki ?_ hno
    by_cases hjk:j=k
    ·subst hjk;exact alU
    ·rw [getD_set_ne true hjk]at alV;exact alV
   refine VB (fun OG h3=>ih (aZ.setIfInBounds j true) OG (inv.set hj hjn) agb (ready_mono hr (Ne.symm hji)) h3.1 h3.2.1 ?_) h2
   rw [Array.setIfInBounds_comm _ _ hji]
   exact h3.2.2
def agc(E:Env)(md:Region.Mode)(ops:Array Oper)(c0:Nat)(Lq:ST→Prop):Nat→List Oper→ST→Prop
 | _,[],st=>Lq st
 | k,o::os,st=>∃b v u,YG E md ops c0 k o b v u st∧GG md ops.toList k u st.bL∧agc E md ops c0 Lq (k+1) os (app k o b v u st)
theorem pM{c0 n g:Nat}{Lq:ST→Prop}(mY:∀i oi,i<n→ops[i]? = some oi→cW E oi.op=true→oi.dst.isSome=true)(x6:∀aZ,HeadInv md ops n aZ → ∀i,i<n→aZ.getD i true=false → ∀t,n≤t→t ∉ Region.ready md ops aZ) :
  ∀(l:List Oper) (k:Nat) (aZ:Array Bool) (st:ST),(∀j,j<l.length→l[j]? = ops[k+j]?)→k+l.length=n→HeadInv md ops n aZ →
  Region.lexHead md ops g l.length k aZ=true→agc E md ops c0 Lq k l st →
  GK E md ops c0 n (fun OH OG=>Region.seqB md ops g n OH=true∧Lq OG) l.length aZ st
 | [],k,aZ,st,_,hk,_,hB,h=>by
  have:k=n:=by simpa using hk
  subst this
  exact⟨by simpa [Region.lexHead]using hB,h⟩
 | o::l,k,aZ,st,hl,hk,inv,hB,h=>by
  have h0:ops[k]? = some o:=by simpa using(hl 0 (by simp)).symm
  simp only [List.length_cons,Region.lexHead,Bool.and_eq_true]at hB
  obtain⟨⟨hr,hf⟩,hB'⟩:=hB
  have hkn:k<n:=by simp only [List.length_cons]at hk;omega
  have jW:k∈Region.ready md ops aZ:=by simpa using hr
  obtain⟨b,v,u,hy,ho,hK⟩:=h
  exact GL h0 mY x6 hkn (fun OH OG hL=>seqB_ready hL.1) l.length aZ st inv (Region.free_spec h0 hf) jW hy ho
   (pM mY x6 l (k+1) _ _ (fun j hj=>by have:=hl (j+1) (by simp;omega);simpa [Nat.add_assoc,Nat.add_comm 1 j]using this) (by simp only [List.length_cons]at hk;omega) (inv.set jW hkn) hB' hK)
variable {w0:World} {S0:dF} {m:Nat} {G:Gs}
theorem K1{o:Oper}{a:Act}{w:World}{f:Nat→PV}{rows:Rows}{U:Nat→Prop}{c0:Nat}{v:PV}{u:Option (Nat × Row)}(N9:¬U c0){g:FuncId}{az5:Array Operand}{ts:Array TypeId}(ho:o.op = .call { callee:=.value (.func g),args:=az5,argTypes:=ts })
  (hy:adR E g (az5.toList.map fun x=>aO f x) c0 (o.dst.getD 0) v u) (hR:mZ w0 S0 m G U f rows a w) (hd:∀t,o.dst=some t→t<m)
  {K':Act→World→Prop} {Q:Exit→Act→World→Prop} (hK:∀a' w',mZ w0 S0 m G (fun v=>v=c0∨U v) (put f o.dst v) (dQ rows u) a' w'→K' a' w'):o.wp E.P a w K' Q:=by
 obtain⟨⟨c,rfl,hr,eY,hI,hf,hG⟩,hn,eQ⟩:=hR
 have hρ:=kC hf
 have hfu:¬c.used c0:=fun hu=>N9 (eY _ hu)
 obtain⟨qQ,e,n,els,⟨⟨fn,b,h1,h2,h3⟩,KU⟩,rfl,rfl⟩:=hy
 obtain⟨dst,op,type,pos,after,guard⟩:=o
 simp only at ho hd hK
 subst ho
 have eX:a9 (aH c) (az5.toList.map fun x=>aO f x) (az5.map a.eval).toList:=by
  refine a9.dA (by simp) fun k p u hp hu=>?_
  simp at hp hu
  obtain⟨x,hx,rfl⟩:=hp
  obtain⟨y,hy,rfl⟩:=hu
  rw [hx]at hy;cases hy
  exact hρ x
 have fH:bI c.S c.w (az5.toList.map fun x=>aO f x) (az5.map a.eval).toList:=cA.2 (a9.dA eX.length fun k p u hp hu=>by
  obtain⟨u',q1,q2⟩:=eX.get hp
  rw [hu]at q1;cases q1
  exact q2.rep (List.all_eq_true.1 qQ p (List.mem_of_getElem? hp)))
 have oK:=KU c.w c.S _ (fun b o hb=>hI.lt hb) fH
 simp only [Array.toArray_toList]at oK
 have hfo:=hρ (.func g)
 simp only [aO,aH,aN,cN]at hfo
 obtain⟨cs,hfv,KL⟩:=hfo
 simp only [bI]at KL
 subst KL
 unfold Oper.wp
 have iC:(execOp a.eval { dst:=dst,op:=.call { callee:=.value (.func g),args:=az5,argTypes:=ts },type:=type,pos:=pos,after:=after,guard:=guard }).run E.P c.w = .ok (.enter g (az5.map a.eval)) c.w:=by
  simp only [execOp,resolve,hfv,Deferred.ofValue,Sem.run_bind,Sem.run_pure,Result.andThen_ok,invoke]
  simpa using kO h1 h2 h3 (az5.map a.eval) c.w
 rw [iC]
 refine oK.mono ?_
 rintro x w' ⟨v',xs,S',rfl,hb,g1,g2,g3,g4,g5,g6,g7,g8⟩
 obtain⟨hI2,hA2⟩:=hI.grow hb g1 g2
 obtain⟨hI3,hA3⟩:=hI2.set (w':=w') (ob:=v'.ownBlock) (id:=dst.getD 0) (r':=⟨c0,e,n,els⟩) (v':=v') (xs:=xs) (World.grownBy.refl _ _)
  (fun g hg=>by
   have QT:=(g3.lt g hg).1
   refine⟨by have:=hI.below.size;omega,fun o=>g8 g o hg,fun gX r hr _ AK=>?_⟩
   obtain⟨⟨ys,q1,_,_⟩,_⟩:=hI.row gX r hr
   have:=(q1.lt g AK).2
   omega) ⟨g3.1,g3.2.imp id fun⟨g,cap,cur,q1,q2,q3⟩=>⟨g,cap,cur,q1,Nat.le_trans hI.below.size q2,q3⟩⟩ (g4.mono fun _ _ h=>aN.gY h) g5 g6 g7 (fun g hg => .inl hg) hfu
 refine hK _ _ ?_
 have hf2:∀s,aH { c with S:=S',w:=w' } (f s) (a.tmps.getD s undef):=fun s=>aH.qY hA2 _ _ (hf s)
 have hG2:∀p∈G,aH { c with S:=S',w:=w' } p.1 p.2:=fun p hp=>aH.qY hA2 _ _ (hG p hp)
 refine mD hf2 hG2 hn eQ hA3 hI3 ?_ hd rfl (by simp [dQ,hr]) (fun v hv=>hv.imp (fun h=>h) (eY v))
 rcases g3.2 with ⟨rfl,h8⟩ | ⟨g,iB,cur,rfl,_⟩
 ·have:els.length=0:=h8
  rw [this]
  exact jY (r:=⟨c0,e,n,els⟩) (A:=none) (cap:=0) (by simp [dH]) (by simpa using h8) (Or.inl rfl) (by simp [dH])
 ·exact jY (r:=⟨c0,e,n,els⟩) (by simp [dH]) rfl (Or.inl rfl) (by simp [dH])
theorem VE{o:Oper}{a:Act}{w:World}{f:Nat→PV}{rows:Rows}{U:Nat→Prop}{c0:Nat}{v:PV}{u:Option (Nat × Row)}(N9:¬U c0)(hn:cW E o.op=true)(hy:yn E c0 o.dst o.op (aO f) rows v u)(hR:mZ w0 S0 m G U f rows a w)(hd:∀t,o.dst=some t→t<m)
  {K':Act→World→Prop} {Q:Exit→Act→World→Prop} (hK:∀a' w',mZ w0 S0 m G (fun v=>v=c0∨U v) (put f o.dst v) (dQ rows u) a' w'→K' a' w'):o.wp E.P a w K' Q:=by
 by_cases oK:∃g az5 ts,o.op = .call { callee:=.value (.func g),args:=az5,argTypes:=ts }∧E.writes g=true
 ·obtain⟨g,az5,ts,ho,hw⟩:=oK
  rw [ho]at hy
  simp only [yn]at hy
  rw [if_pos hw]at hy
  exact K1 N9 ho hy hR hd hK
 refine sM (ver:=c0) N9 (K:=fun _ f' rows'=>f'=put f o.dst v∧rows'=dQ rows u) ?_ hR hd (fun i f' rows' a' w' h jZ=>by
  obtain⟨rfl,rfl⟩:=h
  exact hK a' w' (jZ.mono fun v hv=>hv.imp (fun h=>h.2) fun h=>h))
 obtain⟨dst,op,type,pos,after,guard⟩:=o
 simp only at hn hy oK ⊢
 refine lA hn ?_ ?_ ?_ ?_ ?_
 ·rintro t rfl
  simp only [yn]at hy
  obtain⟨h2,rfl,rfl⟩:=hy
  exact⟨h2,rfl,rfl⟩
 ·rintro t x rfl
  simp only [yn]at hy
  obtain⟨h2,l,h3,h4,h5,rfl,rfl⟩:=hy
  exact⟨h2,l,h3,fun q hq=>DN (fun id _ r hr=>by cases hr) (h4 q hq),h5,rfl,rfl⟩
 ·rintro t l cc rfl
  simp only [yn]at hy
  simp only [l5]
  split at hy
  ·rename_i e n b z k1 x k2 y hE hl hc
   obtain⟨g1,g2,g3,g4,rfl,rfl⟩:=hy
   try rw [hE,hl,hc]
   exact⟨g1,g2,g3,g4,rfl,rfl⟩
  ·exact hy.elim
 ·rintro x y t t2 rfl
  simp only [yn]at hy
  obtain⟨h2,hy⟩:=hy
  simp only [l5]
  refine⟨h2,?_⟩
  unfold qS at hy
  unfold mF
  split at hy
  ·rename_i e n b z hE
   obtain⟨l,g1,g2,g3⟩:=hy
   rw [hE]
   refine⟨l,g1,g2,?_⟩
   split at g3
   ·rename_i hx
    obtain⟨q1,q2,rfl,rfl⟩:=g3
    rw [hx]
    exact⟨q1,q2,rfl,rfl⟩
   ·rename_i id ver off len hx
    obtain⟨r,q1,q2,q3,q4,q5,q6,q7,q8,rfl,rfl⟩:=g3
    rw [hx]
    exact⟨r,q1,q2,q3,q4,q5,q6,q7,q8,rfl,rfl⟩
   ·rename_i l0 hx
    obtain⟨q1,q2,q3,q4,rfl,rfl⟩:=g3
    rw [hx]
    exact⟨q1,q2,q3,q4,rfl,rfl⟩
   ·exact g3.elim
  ·exact hy.elim
 ·rintro g az5 ts rfl hw
  exact absurd ⟨g,az5,ts,rfl,hw⟩ oK
theorem Q7{c0 i:Nat}{st:ST}{K:ST→Prop}{U:Nat→Prop}(N9:∀o,ops[i]? = some o→cW E o.op=true→¬U (c0+rk E ops.toList i))(h:VA E md ops c0 i K st){a:Act}{w:World}(hR:mZ w0 S0 m G U st.f st.rows a w)(hd:∀o,o∈ops → ∀t,o.dst=some t→t<m)
  {K':Act→World→Prop} {Q:Exit→Act→World→Prop} (hK:∀OG a' w',K OG→mZ w0 S0 m G (fun v=>(v=c0+rk E ops.toList i ∧ ∃o,ops[i]? = some o∧cW E o.op=true)∨U v) OG.f OG.rows a' w'→K' a' w'):wpOp E.P ops Q i K' a w:=by
 unfold VA at h
 unfold wpOp
 split at h
 ·rename_i hi;simp only [hi];exact hK _ _ _ h (hR.mono fun v hv => .inr hv)
 ·rename_i o hi
  simp only [hi]
  obtain⟨b,v,u,⟨hg,hy⟩,ho,hk⟩:=h
  have jZ:=hR
  obtain⟨⟨c,rfl,hr,eY,hI,hf,hG⟩,hn,eQ⟩:=hR
  have hdo:=hd o (Array.mem_of_getElem? hi)
  have adV:Region.wanted o (yielded ops a.tmps)=b:=by
   unfold gOK at hg
   unfold Region.wanted
   cases hgd:o.guard with
   | none=>rw [hgd]at hg;simp only at hg ⊢;exact hg.symm
   | some x =>
    obtain⟨j,want⟩:=x
    rw [hgd]at hg
    simp only at hg ⊢
    obtain⟨d,h1,h2⟩:=hg
    have hx:=hf d
    rcases h2 with ⟨h2,h3⟩ | ⟨h2 | h2,h3⟩
    ·rw [h2]at hx
     rw [gG h1 hx,h3]
     cases want<;>rfl
    ·rw [h2]at hx
     rw [gG h1 hx,h3]
     cases want<;>rfl
    ·rw [h2]at hx
     rw [rG h1 hx,h3]
     rfl
  by_cases hb:b=true
  ·subst hb
   rw [if_pos rfl]at hy
   rw [adV,if_pos rfl]
   left
   cases mY:cW E o.op with
   | true =>
    refine VE (N9 o hi mY) mY (OC (fun id _ r jW=>(jK.1 jW).2) hy).1 jZ hdo fun a' w' hR2=>hK _ _ _ hk ?_
    exact hR2.mono fun v hv=>hv.imp (fun h=>⟨h,o,by first | exact hi | rfl,mY⟩) fun h=>h
   | false =>
    rw [xV mY]at hy
    have JX:ys E o.op (aO st.f) c.rows v u:=by
     rw [hr]
     exact(adQ (fun id _ r jW=>(jK.1 jW).2) hy).1
    refine GF hI hf JX fun v' c' h1 h2 h3 h4 h5=>hK _ _ _ hk ?_
    refine mD hf hG hn eQ h3 h4 h5 hdo rfl ?_ ?_
    ·simp only [app]
     rw [h1,hr]
    ·rw [h2]
     exact fun v hv => .inr (eY v hv)
  ·rw [if_neg hb]at hy
   obtain⟨rfl,rfl⟩:=hy
   rw [adV,if_neg hb]
   refine hK _ _ _ hk ?_
   have AK:b=false:=by simpa using hb
   subst AK
   exact mD hf hG hn eQ (qE.refl c) hI KZ hdo rfl (by rw [hr];rfl) (fun v hv => .inr (eY v hv))
def Ul(E:Env)(ops:Array Oper)(c0 n:Nat)(aZ:Array Bool):Nat→Prop:=fun v=>v<c0 ∨ ∃k o,k<n∧ops[k]? = some o∧cW E o.op=true∧v=c0+rk E ops.toList k∧aZ.getD k false=true
theorem K2{c0 n v:Nat}{aZ:Array Bool}(h:Ul E ops c0 n aZ v):v<c0+rk E ops.toList n:=by
 rcases h with h | ⟨k,o,hk,ho,hn,rfl,_⟩
 ·omega
 ·have:=U7 (ops:=ops.toList) (by simpa using ho) hn hk
  omega
theorem jT{c0 n g:Nat}{L:Array Bool→ST→Prop}{Q:Exit→Act→World→Prop}(hd:∀o,o∈ops → ∀t,o.dst=some t→t<m)
  (hL:∀aZ (st:ST) a w,L aZ st→mZ w0 S0 m G (Ul E ops c0 n aZ) st.f st.rows a w→wpAny E.P md ops Q g aZ a w) :
  ∀(f:Nat) (aZ:Array Bool) (st:ST) (a:Act) (w:World),n≤aZ.size→GK E md ops c0 n L f aZ st→mZ w0 S0 m G (Ul E ops c0 n aZ) st.f st.rows a w→wpAny E.P md ops Q (f+g) aZ a w
 | 0,aZ,st,a,w,_,h,hR=>by rw [Nat.zero_add];exact hL _ _ _ _ h hR
 | f+1,aZ,st,a,w,mV,h,hR=>by
  rw [show f+1+g=(f+g)+1 by omega]
  refine⟨fun h0=>absurd h0 h.1,fun i hi=>?_⟩
  have JZ:=(mem_ready.1 hi).1
  obtain⟨hin,hq⟩:=h.2 i hi
  refine Q7 (fun o ho hn hU=>?_) hq hR hd fun OG a' w' h' jZ=>jT hd hL f _ OG a' w' (by simpa using mV) h' (jZ.mono fun v hv=>?_)
  ·rcases hU with hU | ⟨k,o',hk,ho',AG,he,hl⟩
   ·omega
   ·have:=af7 (ops:=ops.toList) (by simpa using ho) hn (by simpa using ho') AG (by omega)
    subst this
    rw [getD_both JZ]at hl;cases hl
  ·rcases hv with ⟨rfl,o,ho,hn⟩ | hv
   ·exact .inr ⟨i,o,hin,ho,hn,rfl,by simp [show i<aZ.size by omega]⟩
   ·rcases hv with hv | ⟨k,o,hk,ho,hn,he,hl⟩
    ·exact .inl hv
    ·refine .inr ⟨k,o,hk,ho,hn,he,?_⟩
     by_cases hki:i=k
     ·subst hki;simp [show i<aZ.size by omega]
     ·simpa [Array.getElem?_setIfInBounds_ne hki]using hl
end
def aI(E:Env)(ops:List Oper):List Oper→(PS→Prop)→PS→Prop
 | [],K,σ=>K σ
 | o::os,K,σ =>
  match o.guard with
  | none=>dZ E o (aI E ops os K) σ
  | some (j,want) =>
   match (ops[j]?).bind (·.dst)with
   | none=>False
   | some d=>(σ.f d = .bool want∧dZ E o (aI E ops os K) σ)∨((σ.f d = .bool (!want)∨σ.f d = .dX [])∧aI E ops os K (σ.put o.dst (.dX [])))
def aK(E:Env)(ops:List Oper)(clk:Nat):Nat→List Oper→(PS→Prop)→ST→Prop
 | _,[],K,st=>K ⟨st.f,st.rows,clk⟩
 | k,o::os,K,st =>
  match o.guard with
  | none=>∃v u,yn E clk o.dst o.op (aO st.f) (dO .any ops k st.wl st.rows) v u∧GG .any ops k u st.bL∧aK E ops (gN E o.op clk) (k+1) os K (app k o true v u st)
  | some (j,want) =>
   match (ops[j]?).bind (·.dst)with
   | none=>False
   | some d=>(st.f d = .bool want ∧ ∃v u,yn E clk o.dst o.op (aO st.f) (dO .any ops k st.wl st.rows) v u∧GG .any ops k u st.bL∧aK E ops (gN E o.op clk) (k+1) os K (app k o true v u st))∨((st.f d = .bool (!want)∨st.f d = .dX [])∧aK E ops clk (k+1) os K (app k o false (.dX []) none st))
def fB(E:Env)(tl:Nat)(ops:List Oper)(K:PS→Prop)(σ:PS):Prop:=
 if tl=0 then aK E ops σ.clock 0 ops K ⟨σ.f,σ.rows,fun _ _=>False,fun _ _=>False⟩
 else aK E ops σ.clock 0 (ops.take (ops.length-tl)) (aI E ops (ops.drop (ops.length-tl)) K) ⟨σ.f,σ.rows,fun _ _=>False,fun _ _=>False⟩
inductive PX where
 | normal
 | exit (id:Nat)
 | ret
def AS(K:PS→Prop)(Q:PX→PS→Prop):PX→PS→Prop
 | .normal,σ=>K σ
 | .exit id,σ=>Q (.exit id) σ
 | .ret,σ=>Q .ret σ
def AU(id:Nat)(Q:PX→PS→Prop):PX→PS→Prop
 | .normal,σ=>Q .normal σ
 | .exit j,σ=>if j=id then Q .normal σ else Q (.exit j) σ
 | .ret,σ=>Q .ret σ
def oL(E:Env)(n tl:Nat)(ops:Array Oper)(draw:Bool):Bool:=
 (ops.all fun o=>match o.dst with | some d=>decide (d<n) | none=>true) &&
 (!draw || (rF E (if tl=0 then ops.toList else ops.toList.take (ops.size-tl))&&(if tl=0 then Region.noSelect ops&&Region.lexHead .any ops 0 ops.size 0 (Array.replicate ops.size false)else decide (tl≤ops.size)&&Region.lexTailB .any ops (ops.size-tl))))
def eA(E:Env)(n:Nat)(tl:Nat→Nat):Code→Bool
 | .region id ops draw=>oL E n (tl id) ops draw
 | .seq a b=>eA E n tl a&&eA E n tl b
 | .cond _ t e=>eA E n tl t&&eA E n tl e
 | .block _ c=>eA E n tl c
 | .loop c=>eA E n tl c
 | _=>true
section
variable {E:Env} {w0:World} {S0:dF} {n:Nat} {G:Gs}
theorem fV{ops:Array Oper}{K:PS→Prop}{Q:Exit→Act→World→Prop}(hK:∀σ' a' w',K σ'→Rel w0 S0 n G σ' a' w'→Q .normal a' w') :
  ∀(l:List Oper) (σ:PS) (a:Act) (w:World),(∀o∈l,∀t,o.dst=some t→t<n)→aI E ops.toList l K σ→Rel w0 S0 n G σ a w→wpList E.P ops Q l a w
 | [],σ,a,w,_,h,hR=>hK _ _ _ h hR
 | o::os,σ,a,w,hd,h,hR=>by
  have hdo:=hd o (by simp)
  have hds:∀o∈os,∀t,o.dst=some t→t<n:=fun o ho=>hd o (by simp [ho])
  have wanted:∀ {σ},dZ E o (aI E ops.toList os K) σ→Rel w0 S0 n G σ a w→o.wp E.P a w (wpList E.P ops Q os) Q:=fun hp hR =>
   vD hp hR hdo fun σ' a' w' hk jZ=>fV hK os σ' a' w' hds hk jZ
  unfold wpList
  simp only [aI]at h
  split at h
  ·rename_i hg
   rw [if_pos (by simp [Region.wanted,hg])]
   exact .inl (wanted h hR)
  ·rename_i j want hg
   split at h
   ·exact h.elim
   ·rename_i d Q8
    have hd3:(ops[j]?).bind (·.dst)=some d:=by simpa using Q8
    have skip:yielded ops a.tmps j≠some want→aI E ops.toList os K (σ.put o.dst (.dX []))→(if Region.wanted o (yielded ops a.tmps)=true then o.wp E.P a w (wpList E.P ops Q os) Q∨(o.asks E.P a w∧LetsOut Q)else wpList E.P ops Q os (a.put o.dst undef) w):=by
     intro hy h2
     rw [if_neg (by simpa [Region.wanted,hg]using hy)]
     refine fV hK os _ _ w hds h2 ?_
     obtain⟨⟨c,rfl,hr,eY,hI,hf,hG⟩,hn,eQ⟩:=hR
     exact m6 hf hG hn eQ (qE.refl c) hI KZ hdo rfl (by simp [PS.put,hr]) eY
    obtain⟨c,_,_,_,_,hf,_⟩:=hR.ex
    have hx:=hf d
    rcases h with ⟨h1,h2⟩ | ⟨h1 | h1,h2⟩
    ·rw [h1]at hx
     rw [if_pos (by simp [Region.wanted,hg,gG hd3 hx])]
     exact .inl (wanted h2 hR)
    ·rw [h1]at hx
     exact skip (by rw [gG hd3 hx];cases want<;>simp) h2
    ·rw [h1]at hx
     exact skip (by rw [rG hd3 hx];simp) h2
theorem mH{ops:Array Oper}{c0:Nat}{K:PS→Prop}:∀(l:List Oper) (k clk:Nat) (st:ST),(∀j,j<l.length→l[j]? = ops[k+j]?)→rF E l=true→clk=c0+rk E ops.toList k→aK E ops.toList clk k l K st→agc E .any ops c0 (fun st=>K ⟨st.f,st.rows,c0+rk E ops.toList (k+l.length)⟩) k l st
 | [],k,clk,st,_,_,hc,h=>by subst hc;exact h
 | o::os,k,clk,st,hl,GM,hc,h=>by
  have age:rF E os=true:=by simp only [rF,List.all_cons,Bool.and_eq_true]at GM ⊢;exact GM.2
  have ar4:o.guard≠none→cW E o.op=false:=fun hg=>by
   simp only [rF,List.all_cons,Bool.and_eq_true]at GM
   cases hn:cW E o.op with
   | false=>rfl
   | true=>have:=GM.1;rw [hn]at this;simp at this;exact absurd this.2 hg
  have h0:ops[k]? = some o:=by simpa using(hl 0 (by simp)).symm
  have wG:gN E o.op clk=c0+rk E ops.toList (k+1):=by rw [hc];exact abe (by simpa using h0)
  have hl1:∀j,j<os.length→os[j]? = ops[k+1+j]? := fun j hj=>by have:=hl (j+1) (by simp;omega);simpa [Nat.add_assoc,Nat.add_comm 1 j]using this
  have e1:k+(o::os).length=k+1+os.length:=by simp only [List.length_cons];omega
  rw [e1]
  simp only [aK]at h
  split at h
  ·rename_i hg
   obtain⟨v,u,h1,h2,h3⟩:=h
   exact⟨true,v,u,⟨by simp [gOK,hg],by rw [if_pos rfl,←hc];exact h1⟩,h2,mH os _ _ _ hl1 age wG h3⟩
  ·rename_i j want hg
   split at h
   ·exact h.elim
   ·rename_i d Q8
    have hd3:(ops[j]?).bind (·.dst)=some d:=by simpa using Q8
    rcases h with ⟨h1,v,u,q1,q2,q3⟩ | ⟨h1,h2⟩
    ·exact⟨true,v,u,⟨by simp only [gOK,hg];exact⟨d,hd3, .inl ⟨h1,trivial⟩⟩,by rw [if_pos rfl,←hc];exact q1⟩,q2,mH os _ _ _ hl1 age wG q3⟩
    ·exact⟨false, .dX [],none,⟨by simp only [gOK,hg];exact⟨d,hd3, .inr ⟨h1,trivial⟩⟩,by simp⟩,trivial,mH os _ _ _ hl1 age (by rw [←wG,xX (ar4 (by rw [hg];simp))]) h2⟩
theorem Rel.drew{σ:PS}{a:Act}{w:World}(h:Rel w0 S0 n G σ a w):Rel w0 S0 n G σ a { w with drawn:=w.drawn+1 }:=by
 obtain⟨⟨c,rfl,hr,eY,hI,hf,hG⟩,hn,eQ⟩:=h
 obtain⟨tV,hA⟩:=hI.grow (w':={ c.w with drawn:=c.w.drawn+1 }) (S':=c.S) ⟨rfl,rfl,rfl,Nat.le_refl _,fun _ _=>rfl⟩ (fun _ _ h=>h) (fun _ _ h => .inl h)
 exact⟨⟨{ c with w:={ c.w with drawn:=c.w.drawn+1 } },rfl,hr,eY,tV,fun s=>aH.qY hA _ _ (hf s),fun p hp=>aH.qY hA _ _ (hG p hp)⟩,hn,eQ⟩
theorem qT{id tl:Nat}{ops:Array Oper}{K:PS→Prop}{Q:Exit→Act→World→Prop}(fG:oL E n tl ops true=true){σ:PS}{a:Act}{w:World}(h:fB E tl ops.toList K σ)(hR:Rel w0 S0 n G σ a w)
  (hK:∀σ' a' w',K σ'→Rel w0 S0 n G σ' a' w'→Q .normal a' w'):(Code.region id ops true).wp E.P Q a w:=by
 simp only [oL,Bool.and_eq_true,Bool.not_true,Bool.false_or]at fG
 obtain⟨agf,qU,fG⟩:=fG
 have hd:∀o,o∈ops → ∀t,o.dst=some t→t<n:=by
  intro o ho t ht
  have:=Array.all_eq_true_iff_forall_mem.1 agf o ho
  simpa [ht]using this
 refine wp_region_any E.mixed ?_
 have GN:=hR.drew
 have hU0:∀k (l:Array Bool),mZ w0 S0 n G (Ul E ops σ.clock k l) σ.f σ.rows a { w with drawn:=w.drawn+1 }:=fun k l=>GN.mono fun v hv => .inl hv
 have abk:∀(l:List Oper),rF E l=true → ∀(i:Nat) (oi:Oper),l[i]? = some oi→cW E oi.op=true→oi.dst.isSome=true:=fun l h i oi hi hn=>by
  have:=List.all_eq_true.1 h oi (List.mem_of_getElem? hi)
  rw [hn]at this;simp at this;exact Option.isSome_iff_exists.2 (by obtain⟨x,hx⟩:=Option.isSome_iff_exists.1 this.1;exact⟨x,hx⟩)
 unfold fB at h
 by_cases T9:tl=0
 ·rw [if_pos T9]at h fG qU
  have mY:∀i oi,i<ops.size→ops[i]? = some oi→cW E oi.op=true→oi.dst.isSome=true:=fun i oi _ hi=>abk _ qU i oi (by simpa using hi)
  simp only [Bool.and_eq_true]at fG
  have hl:=mH (c0:=σ.clock) ops.toList 0 _ _ (by simp) qU (by simp [rk]) h
  have VF:HeadInv .any ops ops.size (Array.replicate ops.size false):=
   ⟨by simp,fun j oj _ hl=>(by rw [getD_replicate_false]at hl;cases hl),fun t h1 h2=>by omega⟩
  have x6:∀aZ,HeadInv .any ops ops.size aZ → ∀i,i<ops.size→aZ.getD i true=false → ∀t,ops.size≤t→t ∉ Region.ready .any ops aZ:=by
   intro aZ _ i _ _ t ht hr
   obtain⟨_,o,ho,_⟩:=mem_ready.1 hr
   have:=(Array.getElem?_eq_some_iff.1 ho).1
   omega
  have H:=pM (E:=E) (md:=.any) (g:=0) mY x6 ops.toList 0 _ _ (by simp) (by simp) VF (by simpa using fG.2) hl
  have:=jT (E:=E) (md:=.any) (g:=0) (Q:=Q) (m:=n) hd (fun aZ st a' w' hL jZ=>by
   obtain⟨h1,h2⟩:=hL
   exact⟨by simpa [Region.seqB]using h1,hK _ _ _ h2 (jZ.mono fun v hv=>by have:=K2 hv;simpa using this)⟩) _ _ _ _ _ (by simp) H (hU0 _ _)
  simpa using this
 ·rw [if_neg T9]at h fG qU
  have mY:∀i oi,i<ops.size-tl→ops[i]? = some oi→cW E oi.op=true→oi.dst.isSome=true:=fun i oi h1 hi=>abk _ qU i oi (by rw [List.getElem?_take,if_pos h1];simpa using hi)
  simp only [Bool.and_eq_true,decide_eq_true_eq]at fG
  obtain⟨hle,hB⟩:=fG
  simp only [Region.lexTailB,Bool.and_eq_true,decide_eq_true_eq]at hB
  obtain⟨⟨⟨⟨ar5,AG⟩,hs⟩,hc⟩,agh⟩:=hB
  have hlen:ops.toList.length=ops.size:=by simp
  rw [hlen]at h
  have hl:=mH (c0:=σ.clock) (ops.toList.take (ops.size-tl)) 0 _ _ (fun j hj=>by
   have hj':j<ops.size-tl:=by simpa using hj
   simp [hj']) qU (by simp [rk]) h
  have VF:HeadInv .any ops (ops.size-tl) (Array.replicate ops.size false):=
   ⟨by simp,fun j oj _ hl=>(by rw [getD_replicate_false]at hl;cases hl),fun t _ ht=>getD_in (by simpa using ht) (getD_replicate_false _ _)⟩
  have wT:(ops.toList.take (ops.size-tl)).length=ops.size-tl:=by simp
  have VG:(ops.toList.drop (ops.size-tl)).length=ops.size-(ops.size-tl):=by simp
  have H:=pM (E:=E) (md:=.any) (n:=ops.size-tl) (g:=ops.size-(ops.size-tl)) mY (fun aZ inv i hi JZ t ht=>tail_waits hs hc AG inv _ i rfl hi JZ t ht) (ops.toList.take (ops.size-tl)) 0 _ _ (fun j hj=>by
   rw [wT]at hj
   simp [hj]) (by rw [wT];simp) VF (by rw [wT];exact agh) hl
  have:=jT (E:=E) (md:=.any) (g:=ops.size-(ops.size-tl)) (Q:=Q) (m:=n) hd (fun aZ st a' w' hL jZ=>by
   obtain⟨h1,h2⟩:=hL
   have h3:=fV (ops:=ops) (Q:=Q) hK (ops.toList.drop (ops.size-tl)) _ a' w' (fun o ho=>hd o (by simpa using List.mem_of_mem_drop ho)) h2 (jZ.mono fun v hv=>by have:=K2 hv;simpa using this)
   have h4:=wpAny_of_seq (md:=.any) (Q':=Q) (ops.toList.drop (ops.size-tl)) (ops.size-tl) aZ a' w' (fun j=>by simp [List.getElem?_drop]) (by rw [VG];exact h1) h3
   rwa [VG]at h4) _ _ _ _ _ (by simp) H (hU0 _ _)
  rw [wT,show ops.size-tl+(ops.size-(ops.size-tl))=ops.size by omega]at this
  exact this
def agi:PX→Exit
 | .normal => .normal
 | .exit id => .exit id
 | .ret => .ret
end
def nT(E:Env)(σ:PS):List ResultVar→(List PV→Prop)→Prop
 | [],K=>K []
 | .tmp t::rs,K=>nT E σ rs fun vs=>K (σ.f t::vs)
 | .cell a t::rs,K=>∃v,qK E t σ.rows (σ.f a) v∧nT E σ rs fun vs=>K (v::vs)
def GO:List PV→PV
 | [x]=>x
 | l => .dX l
def VH(E:Env)(rs:List ResultVar)(r:PV)(σ:PS):Prop:=
 nT E σ rs fun vs=>dS σ.rows (vs.flatMap dG)∧(vs.map (pz σ.rows)).all fA=true∧r=GO (vs.map (pz σ.rows))
def VI(E:Env)(rs:List ResultVar)(r:PV):PX→PS→Prop
 | .normal,σ=>VH E rs r σ
 | .ret,σ=>VH E rs r σ
 | .exit _,_=>False
def BQ(args:List PV):PS:=⟨fun s=>args.getD s .undef,fun _=>none,0⟩
section
variable {E:Env} {w0:World} {S0:dF} {c:Cx}
theorem pN(hI:Inv w0 S0 c){clk:Nat}{a:Act}{f:Nat→PV}(hf:∀s,aH c (f s) (a.tmps.getD s undef)){g:ResultVar→Sem Value}(VJ:∀t,g (.tmp t)=pure (a.tmps.getD t undef))
  (sI:∀x t,g (.cell x t)=do loadVar t (←asAddr (a.tmps.getD x undef))):∀(rs:List ResultVar) (K:List PV→Prop),nT E ⟨f,c.rows,clk⟩ rs K →
  ∃vs us,K vs∧a9 (aH c) vs us∧(rs.mapM g:Sem (List Value)).run E.P c.w = .ok us c.w
 | [],K,h=>⟨[],[],h,trivial,by simp⟩
 | .tmp t::rs,K,h=>by
  obtain⟨vs,us,h1,h2,h3⟩:=pN hI hf VJ sI rs _ h
  exact⟨f t::vs,a.tmps.getD t undef::us,h1,⟨hf t,h2⟩,by
   rw [List.mapM_cons,VJ,Sem.run_bind,Sem.run_pure,Result.andThen_ok,Sem.run_bind,h3,Result.andThen_ok,Sem.run_pure]⟩
 | .cell x t::rs,K,h=>by
  obtain⟨v,hv,h⟩:=h
  obtain⟨vs,us,h1,h2,h3⟩:=pN hI hf VJ sI rs _ h
  obtain⟨u,hu,hr⟩:=BH hI (hf x) hv
  refine⟨v::vs,u::us,h1,⟨hr,h2⟩,?_⟩
  have QR:(do loadVar t (←asAddr (a.tmps.getD x undef)):Sem Value).run E.P c.w = .ok u c.w:=by
   simp only [Instr.loadAt,Sem.run_bind]at hu ⊢
   cases hx:a.tmps.getD x undef with
   | pointer p =>
    cases p with
    | some ad=>rw [hx]at hu;simpa [Instr.sureAddr,asAddr]using hu
    | none=>rw [hx]at hu;simp [Instr.sureAddr,stuck,Result.andThen]at hu
   | _=>rw [hx]at hu;simp [Instr.sureAddr,stuck,Result.andThen]at hu
  rw [List.mapM_cons,sI]
  simp only [Sem.run_bind]at QR ⊢
  rw [QR,Result.andThen_ok,h3,Result.andThen_ok,Sem.run_pure]
theorem K3{x7:FuncId}{fn:Func}{code:Code}{args:List PV}{r:PV}(h1:E.P.funcs[x7]? = some fn)(h2:fn.body=some code) (h3:(fn.name == "runtime.NumGoroutine") = false) (eX:args.length≤fn.ntmps)
  (h:∀(w0:World) (S0:dF) (a:Act) (w:World) (Q':Exit→Act→World→Prop),Rel w0 S0 fn.ntmps Gs.none (BQ args) a w→(∀x σ' a' w',VI E fn.results.toList r x σ'→Rel w0 S0 fn.ntmps Gs.none σ' a' w'→Q' (agi x) a' w')→code.wp E.P Q' a w):aL E.P x7 args r:=by
 refine⟨⟨fn,code,h1,h2,h3⟩,fun w S vs hS fH=>?_⟩
 have xP:=cA.1 fH
 refine calls_of_wp h1 h2 ?_
 have KB:vs.length=args.length:=xP.length.symm
 let c0:Cx:=⟨S,w,fun _ => .slice none 0 0,fun _=>none,fun _=>False⟩
 have hI0:Inv w S c0:=⟨Below.refl _ _,fun _ _ h=>h,fun _ _ h => .inl h,hS,fun _ _ h=>by simp [c0]at h,fun _ _ h=>by simp [c0]at h,fun _ _ _ _ _ h=>by simp [c0]at h⟩
 have GN:Rel w S fn.ntmps Gs.none (BQ args) { tmps:=vs.toArray++Array.replicate (fn.ntmps-vs.toArray.size) undef,defers:=[] } w:=by
  refine⟨⟨c0,rfl,rfl,fun _ h=>h.elim,hI0,fun s=>?_,fun p hp=>(Gs.F8 hp).elim⟩,by simp;omega,rfl⟩
  simp only [BQ]
  by_cases hs:s<args.length
  ·obtain⟨u,hu,hr⟩:=xP.get (List.getElem?_eq_getElem hs)
   have e1:args.getD s .undef=args[s]:=by simp [List.getD,List.getElem?_eq_getElem hs]
   have e2:(vs.toArray++Array.replicate (fn.ntmps-vs.toArray.size) undef).getD s undef=u:=by
    have:s<vs.length:=by omega
    simp [this]at hu ⊢
    simp [Array.getElem?_append,this,hu]
   rw [e1]
   show aH c0 args[s] ((vs.toArray++Array.replicate (fn.ntmps-vs.toArray.size) undef).getD s undef)
   rw [e2]
   exact aH.gY hr
  ·have e1:args.getD s .undef = .undef:=by simp [List.getD,List.getElem?_eq_none (show args.length≤s by omega)]
   rw [e1]
   simp [aH,aN]
 refine h _ _ _ _ _ GN ?_
 have fin:∀σ' a' w',VH E fn.results.toList r σ'→Rel w S fn.ntmps Gs.none σ' a' w'→a'.defers = [] ∧ ∃v,(results fn a'.tmps).run E.P w' = .ok v w'∧(∃v',Ending.returned v = .returned v'∧Below w.heap.size w w' ∧
   ∃S':dF,(∀b o,S b o→S' b o)∧(∀b o,S' b o→S b o∨(w.heap.size≤b∧b<w'.heap.size))∧cN S' w' r v'):=by
  rintro σ' a' w' hp ⟨⟨c,rfl,hr,eY,hI,hf,_⟩,hn,eQ⟩
  refine⟨eQ,?_⟩
  unfold VH at hp
  have tU:nT E ⟨σ'.f,c.rows,σ'.clock⟩ fn.results.toList fun vs=>dS c.rows (vs.flatMap dG)∧(vs.map (pz c.rows)).all fA=true∧r=GO (vs.map (pz c.rows)):=by
   rw [hr];exact hp
  have alZ:∃vs us,(dS c.rows (vs.flatMap dG)∧(vs.map (pz c.rows)).all fA=true∧r=GO (vs.map (pz c.rows)))∧a9 (aH c) vs us ∧
    (results fn a'.tmps).run E.P c.w = .ok (if h:us.toArray.size=1 then us.toArray[0]else .tuple us.toArray) c.w:=by
   have key:∀g:ResultVar→Sem Value,(∀t,g (.tmp t)=pure (a'.tmps.getD t undef))→(∀x t,g (.cell x t)=do loadVar t (←asAddr (a'.tmps.getD x undef))) →
     ∃vs us,(dS c.rows (vs.flatMap dG)∧(vs.map (pz c.rows)).all fA=true∧r=GO (vs.map (pz c.rows)))∧a9 (aH c) vs us ∧
      (do let vs ←fn.results.mapM g;pure (if h:vs.size=1 then vs[0]else .tuple vs):Sem Value).run E.P c.w = .ok (if h:us.toArray.size=1 then us.toArray[0]else .tuple us.toArray) c.w:=by
    intro g VJ sI
    obtain⟨vs,us,g1,g4,g5⟩:=pN hI hf VJ sI _ _ tU
    refine⟨vs,us,g1,g4,?_⟩
    have:(fn.results.mapM g).run E.P c.w = .ok us.toArray c.w:=by
     rw [Array.mapM_eq_mapM_toList]
     simp [g5]
    rw [Sem.run_bind,this,Result.andThen_ok,Sem.run_pure]
   unfold results
   exact key _ (fun _=>rfl) (fun _ _=>rfl)
  obtain⟨vs,us,⟨g1,g2,g3⟩,g4,iC⟩:=alZ
  have GC:=hI.freeze (vs.flatMap dG)
  have rH:a9 (cN (KO c (vs.flatMap dG)) c.w) (vs.map (pz c.rows)) us:=by
   refine a9.dA (by simp [g4.length]) fun k p u hp hu=>?_
   simp at hp
   obtain⟨q,hq,rfl⟩:=hp
   obtain⟨u',q1,q2⟩:=g4.get hq
   rw [hu]at q1;cases q1
   exact DG hI g1 q2 (fun id fI=>by simp only [List.mem_flatMap];exact⟨q,List.mem_of_getElem? hq,fI⟩) (List.all_eq_true.1 g2 _ (by simp;exact⟨q,List.mem_of_getElem? hq,rfl⟩))
  refine⟨_,iC,_,rfl,hI.below,KO c (vs.flatMap dG),fun b o h=>GC.ext b o h,fun b o h=>GC.new b o h,?_⟩
  rw [g3]
  have hl:=rH.length
  cases hm:vs.map (pz c.rows)with
  | nil =>
   rw [hm]at rH hl
   have:us = []:=List.eq_nil_of_length_eq_zero (by simpa using hl.symm)
   subst this
   simp only [GO,cN]
   exact⟨[],by simp,by simp [bI]⟩
  | cons p ps =>
   rw [hm]at rH hl
   match us,rH with
   | u::us,rH =>
    cases ps with
    | nil =>
     match us,rH with
     | [],rH=>simpa [GO]using rH.1
    | cons q qs =>
     have h2:¬(u::us).toArray.size=1:=by simp at hl ⊢;intro h;subst h;simp at hl
     rw [dif_neg h2]
     simp only [GO,cN]
     exact⟨_,rfl,cA.2 rH⟩
 intro x σ' a' w' hx jZ
 cases x with
 | normal=>exact fin σ' a' w' hx jZ
 | ret=>exact fin σ' a' w' hx jZ
 | exit id=>exact hx.elim
end
section
variable {P:Program} {t:TypeId}
theorem aB{n:Nat}{v:Value}{z:List PV}(h:(P.info? t).bind (fun i=>i.zero.map fun v=>(i.size,v))=some (n,v))(hz:v.cells.toList.map g9=z)(h1:v.cells.all (·.oneCell')=true)(hl:z.length=n)(hp:0<n):j7 P t n z:=by
 refine⟨?_,hl,hp⟩
 cases hi:P.info? t with
 | none=>simp [hi]at h
 | some i =>
  cases rB:i.zero with
  | none=>simp [hi,rB]at h
  | some v0 =>
   simp [hi,rB]at h
   obtain⟨rfl,rfl⟩:=h
   exact⟨i,v0,rfl,rB,rfl,hz,h1⟩
theorem bO{b:Nat}(h:(P.info? t).map (·.bytes)=some b):∃i,P.info? t=some i∧i.bytes=b:=by
 cases hi:P.info? t with
 | none=>simp [hi]at h
 | some i=>exact⟨i,rfl,by simpa [hi]using h⟩
theorem BR{n:Nat}(h:(P.info? t).map (·.size)=some n):∃i,P.info? t=some i∧i.size=n:=by
 cases hi:P.info? t with
 | none=>simp [hi]at h
 | some i=>exact⟨i,rfl,by simpa [hi]using h⟩
theorem VK(h:(P.underlying t).isSome=true):∃d,P.underlying t=some d:=Option.isSome_iff_exists.1 h
def K4(P:Program)(f:Field)(x:Nat × Nat × Bool):Bool:=
 f.offset==x.1&&(P.info? f.type).map (·.size)==some x.2.1&&decide (0<x.2.1)&&uA P f.type==x.2.2&&(P.underlying f.type).isSome
def pO(P:Program):List Field→List (Nat × Nat × Bool)→Bool
 | [],[]=>true
 | f::fs,x::xs=>K4 P f x&&pO P fs xs
 | _,_=>false
theorem Q9{f:Field}{x:Nat × Nat × Bool}(h:K4 P f x=true):k8 P f x:=by
 simp only [K4,Bool.and_eq_true,beq_iff_eq,decide_eq_true_eq]at h
 obtain⟨⟨⟨⟨h1,h2⟩,h3⟩,h4⟩,h5⟩:=h
 exact⟨h1,BR h2,h3,h4,VK h5⟩
theorem x8:∀ {fs:List Field} {xs:List (Nat × Nat × Bool)},pO P fs xs=true→a9 (k8 P) fs xs
 | [],[],_=>trivial
 | f::fs,x::xs,h=>by
  simp only [pO,Bool.and_eq_true]at h
  exact⟨Q9 h.1,x8 h.2⟩
 | [],_::_,h=>by simp [pO]at h
 | _::_,[],h=>by simp [pO]at h
def OI(P:Program)(t:TypeId)(xs:List (Nat × Nat × Bool)):Bool:=
 match P.underlying t with
 | some (.struct fields)=>pO P fields.toList xs
 | _=>false
theorem aP{xs:List (Nat × Nat × Bool)}(h:OI P t xs=true):∃fields:Array Field,P.underlying t=some (.struct fields)∧a9 (k8 P) fields.toList xs:=by
 unfold OI at h
 split at h
 ·rename_i fields hu;exact⟨fields,hu,x8 h⟩
 ·cases h
end
def W(E:Env)(n:Nat)(tl:Nat→Nat)(c:Code)(Q:PX→PS→Prop)(σ:PS):Prop:=
 eA E n tl c=true → ∀(w0:World) (S0:dF) (G:Gs) (a:Act) (w:World) (Q':Exit→Act→World→Prop),Rel w0 S0 n G σ a w →
  (∀x σ' a' w',Q x σ'→Rel w0 S0 n G σ' a' w'→Q' (agi x) a' w')→c.wp E.P Q' a w
def Gh(n:Nat)(σ σ':PS):Prop:=∀(w0:World) (S0:dF) (G:Gs) (a:Act) (w:World),Rel w0 S0 n G σ a w→Rel w0 S0 n G σ' a w
section
variable {E:Env} {n:Nat} {tl:Nat→Nat} {Q:PX→PS→Prop} {σ:PS}
theorem W.ghost{c:Code}{σ':PS}(h:Gh n σ σ')(hw:W E n tl c Q σ'):W E n tl c Q σ:=fun fG w0 S0 G a w Q' hR hQ=>hw fG w0 S0 G a w Q' (h _ _ _ _ _ hR) hQ
theorem W.mono{c:Code}{Q2:PX→PS→Prop}(hw:W E n tl c Q2 σ)(h:∀x σ,Q2 x σ→Q x σ):W E n tl c Q σ:=fun fG w0 S0 G a w Q' hR hQ=>hw fG w0 S0 G a w Q' hR fun x σ' a' w' hx=>hQ x σ' a' w' (h x σ' hx)
theorem W.skip(h:Q .normal σ):W E n tl .skip Q σ:=fun _ _ _ _ a w _ hR hQ=>wp_skip (hQ .normal σ a w h hR)
theorem W.ret(h:Q .ret σ):W E n tl .ret Q σ:=fun _ _ _ _ a w _ hR hQ=>wp_ret (hQ .ret σ a w h hR)
theorem W.exit{id:Nat}(h:Q (.exit id) σ):W E n tl (.exit id) Q σ:=fun _ _ _ _ a w _ hR hQ=>wp_exit (hQ (.exit id) σ a w h hR)
theorem W.GP{id:Nat}{ops:List Oper}(h:∀K:PS→Prop,(∀σ,Q .normal σ→K σ)→aI E ops ops K σ):W E n tl (.region id ops.toArray false) Q σ:=by
 intro fG w0 S0 G a w Q' hR hQ
 simp only [eA,oL,Bool.and_eq_true]at fG
 refine wp_region_list (fV (fun σ' a' w' hk jZ=>hQ .normal σ' a' w' hk jZ) _ σ a w (fun o ho t ht=>?_) (h _ fun _ h=>h) hR)
 have:=Array.all_eq_true_iff_forall_mem.1 fG.1 o (by simpa using ho)
 simpa [ht]using this
theorem W.VL{id:Nat}{ops:List Oper}(h:∀K:PS→Prop,(∀σ,Q .normal σ→K σ)→fB E (tl id) ops K σ):W E n tl (.region id ops.toArray true) Q σ:=by
 intro fG w0 S0 G a w Q' hR hQ
 exact qT (by simpa [eA]using fG) (h _ fun _ h=>h) hR fun σ' a' w' hk jZ=>hQ .normal σ' a' w' hk jZ
theorem W.seq{x y:Code}(h:W E n tl x (AS (W E n tl y Q) Q) σ):W E n tl (.seq x y) Q σ:=by
 intro fG w0 S0 G a w Q' hR hQ
 simp only [eA,Bool.and_eq_true]at fG
 refine wp_seq (h fG.1 w0 S0 G a w _ hR fun x σ' a' w' hx jZ=>?_)
 cases x with
 | normal=>exact hx fG.2 w0 S0 G a' w' _ jZ hQ
 | exit id=>exact hQ (.exit id) σ' a' w' hx jZ
 | ret=>exact hQ .ret σ' a' w' hx jZ
theorem W.K5{id:Nat}{ops:List Oper}{y:Code}(h:∀K:PS→Prop,(∀σ,W E n tl y Q σ→K σ)→aI E ops ops K σ):W E n tl (.seq (.region id ops.toArray false) y) Q σ:=
 W.seq (W.GP h)
theorem W.VM{id:Nat}{ops:List Oper}{y:Code}(h:∀K:PS→Prop,(∀σ,W E n tl y Q σ→K σ)→fB E (tl id) ops K σ):W E n tl (.seq (.region id ops.toArray true) y) Q σ:=
 W.seq (W.VL h)
theorem W.cond{c:Operand}{t e:Code}(h:∃b,aO σ.f c = .bool b∧(b=true→W E n tl t Q σ)∧(b=false→W E n tl e Q σ)):W E n tl (.cond c t e) Q σ:=by
 intro fG w0 S0 G a w Q' hR hQ
 simp only [eA,Bool.and_eq_true]at fG
 obtain⟨b,hb,h1,h2⟩:=h
 obtain⟨cx,_,_,_,_,hf,_⟩:=hR.ex
 have:=kC hf c
 rw [hb,cP]at this
 refine wp_cond this ?_
 cases b with
 | true=>exact h1 rfl fG.1 w0 S0 G a w Q' hR hQ
 | false=>exact h2 rfl fG.2 w0 S0 G a w Q' hR hQ
theorem W.block{id:Nat}{c:Code}(h:W E n tl c (AU id Q) σ):W E n tl (.block id c) Q σ:=by
 intro fG w0 S0 G a w Q' hR hQ
 refine wp_block (h fG w0 S0 G a w _ hR fun x σ' a' w' hx jZ=>?_)
 cases x with
 | normal=>exact hQ .normal σ' a' w' hx jZ
 | exit j =>
  simp only [AU]at hx
  simp only [agi,Exit.inBlock]
  split at hx
  ·rename_i hj;rw [if_pos hj];exact hQ .normal σ' a' w' hx jZ
  ·rename_i hj;rw [if_neg hj];exact hQ (.exit j) σ' a' w' hx jZ
 | ret=>exact hQ .ret σ' a' w' hx jZ
theorem W.loop{c:Code}(I:Nat→PS→Prop)(k:Nat)(h0:I k σ)(h1:∀k σ,I k σ→W E n tl c (AS (fun σ'=>∃m,m<k∧I m σ') Q) σ):W E n tl (.loop c) Q σ:=by
 intro fG w0 S0 G a w Q' hR hQ
 refine wp_loop_ghost (fun k a w=>∃σ,I k σ∧Rel w0 S0 n G σ a w) k ⟨σ,h0,hR⟩ ?_
 rintro k a w ⟨σ,hI,hR⟩
 refine h1 k σ hI fG w0 S0 G a w _ hR fun x σ' a' w' hx jZ=>?_
 cases x with
 | normal=>obtain⟨m,hm,tV⟩:=hx;exact⟨m,hm,σ',tV,jZ⟩
 | exit id=>exact hQ (.exit id) σ' a' w' hx jZ
 | ret=>exact hQ .ret σ' a' w' hx jZ
end
theorem VN{E:Env}{x7:FuncId}{fn:Func}{code:Code}(tl:Nat→Nat){args:List PV}{r:PV}(h1:E.P.funcs[x7]? = some fn)(h2:fn.body=some code) (h3:(fn.name == "runtime.NumGoroutine") = false)
  (fG:eA E fn.ntmps tl code=true) (eX:args.length≤fn.ntmps) (h:W E fn.ntmps tl code (VI E fn.results.toList r) (BQ args)):aL E.P x7 args r:=
 K3 h1 h2 h3 eX fun w0 S0 a w Q' hR hQ=>h fG w0 S0 Gs.none a w Q' hR hQ
def go(P:Prop):Prop:=P
def aT(R:PV→Prop)(K:PV→Prop):Prop:=∃v,R v∧K v
def gL(p:PV)(want:Bool)(A B:Prop):Prop:=∃t,p = .bool t∧(t=want→A)∧(t=(!want)→B)
def stepG(p:PV)(want:Bool)(A B:Prop):Prop:=(p = .bool want∧A)∨((p = .bool (!want)∨p = .dX [])∧B)
def aE(A B:Prop):Prop:=A∧B
@[congr] theorem adW{R R' K:PV→Prop}(h:∀v,R v=R' v):aT R K=aT R' K:=by rw [show R=R' from funext h]
@[congr] theorem adX{p p':PV}{want:Bool}{A B:Prop}(h:p=p'):gL p want A B=gL p' want A B:=by rw [h]
@[congr] theorem adY{p p':PV}{want:Bool}{A B:Prop}(h:p=p'):stepG p want A B=stepG p' want A B:=by rw [h]
@[congr] theorem adZ{A A' B:Prop}(h:A=A'):aE A B=aE A' B:=by rw [h]
@[congr] theorem agj{E:Env}{ops l:List Oper}{K:PS→Prop}{σ σ':PS}(h:σ=σ'):aI E ops l K σ=aI E ops l K σ':=by rw [h]
@[congr] theorem agk{E:Env}{ops l:List Oper}{clk k k':Nat}{K:PS→Prop}{σ σ':ST}(hk:k=k')(h:σ=σ'):aK E ops clk k l K σ=aK E ops clk k' l K σ':=by rw [hk,h]
@[congr] theorem agl{md:Region.Mode}{ops:List Oper}{j j' k k':Nat}(hj:j=j')(hk:k=k'):m7 md ops j k=m7 md ops j' k':=by rw [hj,hk]
@[congr] theorem ajG{md:Region.Mode}{ops:List Oper}{i i' id gX:Nat}{t t':Nat→Nat→Prop}(hi:i=i')(fI:id=gX)(ht:t=t'):xW md ops i id t=xW md ops i' gX t':=by rw [hi,fI,ht]
@[congr] theorem agm{md:Region.Mode}{ops:List Oper}{i i':Nat}{t t':Nat→Nat→Prop}{rows rows':Rows}(hi:i=i')(ht:t=t')(hr:rows=rows'):dO md ops i t rows=dO md ops i' t' rows':=by rw [hi,ht,hr]
@[congr] theorem aaI{E:Env}{tl:Nat}{l:List Oper}{K:PS→Prop}{σ σ':PS}(h:σ=σ'):fB E tl l K σ=fB E tl l K σ':=by rw [h]
@[congr] theorem ap0{E:Env}{n:Nat}{tl:Nat→Nat}{c:Code}{Q:PX→PS→Prop}{σ σ':PS}(h:σ=σ'):W E n tl c Q σ=W E n tl c Q σ':=by rw [h]
theorem i1{t:PV}{K:PV→Prop}:aT (fun v=>v=t) K=K t:=by simp [aT]
theorem RA{t:PV}{K:PV→Prop}:aT (fun v=>t=v) K=K t:=by simp [aT]
theorem iM{c:Prop}{R K:PV→Prop}:aT (fun v=>c∧R v) K=aE c (aT R K):=by
 apply propext;simp only [aT,aE]
 constructor
 ·rintro⟨v,⟨h1,h2⟩,h3⟩;exact⟨h1,v,h2,h3⟩
 ·rintro⟨h1,v,h2,h3⟩;exact⟨v,⟨h1,h2⟩,h3⟩
theorem VO{α:Type}{R:α→PV→Prop}{K:PV→Prop}:aT (fun v=>∃x,R x v) K = ∃x,aT (R x) K:=by
 apply propext;simp only [aT]
 constructor
 ·rintro⟨v,⟨x,h2⟩,h3⟩;exact⟨x,v,h2,h3⟩
 ·rintro⟨x,v,h2,h3⟩;exact⟨v,⟨x,h2⟩,h3⟩
theorem K6{B:Prop}:aE True B=B:=by simp [aE]
theorem VP{A B:Prop}:gL (.bool true) true A B=A:=by simp [gL]
theorem VQ{A B:Prop}:gL (.bool true) false A B=B:=by simp [gL]
theorem VR{A B:Prop}:gL (.bool false) true A B=B:=by simp [gL]
theorem VS{A B:Prop}:stepG (.bool true) true A B=A:=by simp [stepG]
theorem VT{A B:Prop}:stepG (.bool true) false A B=B:=by simp [stepG]
theorem VU{A B:Prop}:stepG (.bool false) true A B=B:=by simp [stepG]
theorem VV{A B:Prop}:stepG (.bool false) false A B=A:=by simp [stepG]
theorem VW{w:Bool}{A B:Prop}:stepG (.dX []) w A B=B:=by simp [stepG]
theorem VX{A B:Prop}:gL (.bool false) false A B=A:=by simp [gL]
theorem x9{f:Nat→PV}{d j:Nat}{v:PV}:put f (some d) v j=if j=d then v else f j:=rfl
theorem VY{f:Nat→PV}{v:PV}:put f none v=f:=rfl
theorem agn{α:Type}{f:Nat→α}{i j:Nat}{x:α}:dH f i x j=if j=i then x else f j:=rfl
def fa:List (Nat × PV)→Nat→PV
 | [],_ => .undef
 | (i,v)::l,j=>if j=i then v else fa l j
theorem K7{j:Nat}:fa [] j = .undef:=rfl
theorem DP{i j:Nat}{v:PV}{l:List (Nat × PV)}:fa ((i,v)::l) j=if j=i then v else fa l j:=rfl
section
variable {E:Env} {ops os:List Oper} {K:PS→Prop} {f:Nat→PV} {rows:Rows} {clk:Nat} {d:Option Tmp} {ty:TypeId} {pos:String} {af:Array Edge}
theorem aD(n:Nat)(l:List Nat):Gh n ⟨f,rows,clk⟩ ⟨fa (l.map fun i=>(i,f i)),rows,clk⟩:=by
 rintro w0 S0 G a w ⟨⟨c,h1,h2,h3,h4,h5,h6⟩,h7,h8⟩
 refine⟨⟨c,h1,h2,h3,h4,fun s=>?_,h6⟩,h7,h8⟩
 have:fa (l.map fun i=>(i,f i)) s=f s∨fa (l.map fun i=>(i,f i)) s = .undef:=by
  induction l with
  | nil=>exact .inr rfl
  | cons i l ih =>
   simp only [List.map_cons,fa]
   split
   ·rename_i h;rw [h];exact .inl rfl
   ·exact ih
 rcases this with h | h
 ·simp only;rw [h];exact h5 s
 ·simp only;rw [h];simp [aH,aN]
theorem W.live{n:Nat}{tl:Nat→Nat}{c:Code}{Q:PX→PS→Prop}(l:List Nat)(h:W E n tl c Q ⟨fa (l.map fun i=>(i,f i)),rows,clk⟩):W E n tl c Q ⟨f,rows,clk⟩:=W.ghost (aD n l) h
theorem K8{op:Op}{j:Nat}{want:Bool}:aI E ops (⟨d,op,ty,pos,af,some (j,want)⟩::os) K ⟨f,rows,clk⟩ =
  match (ops[j]?).bind (·.dst)with
  | none=>False
  | some e=>stepG (f e) want (aI E ops (⟨d,op,ty,pos,af,none⟩::os) K ⟨f,rows,clk⟩) (aI E ops os K ⟨put f d (.dX []),rows,clk⟩):=by
 simp only [aI]
 cases hx:(ops[j]?).bind (·.dst)with
 | none=>rfl
 | some e=>rfl
theorem bY{R:PV→Prop}{k:PV→Prop}(h:∀v,R v↔k v):(∃v u,(R v∧u=none)∧K ⟨put f d v,dQ rows u,clk⟩)=aT k fun v=>K ⟨put f d v,rows,clk⟩:=by
 apply propext;simp only [aT]
 constructor
 ·rintro⟨v,u,⟨h1,rfl⟩,h2⟩;exact⟨v,(h v).1 h1,h2⟩
 ·rintro⟨v,h1,h2⟩;exact⟨v,none,⟨(h v).2 h1,rfl⟩,h2⟩
theorem RB{x:Operand}:aI E ops (⟨d, .move x,ty,pos,af,none⟩::os) K ⟨f,rows,clk⟩=aI E ops os K ⟨put f d (aO f x),rows,clk⟩:=by
 simp only [aI,dZ,ys,yv]
 rw [bY (k:=fun v=>v=aO f x) (fun v=>Iff.rfl),i1]
theorem GQ{x:Operand}:aI E ops (⟨d, .assign x,ty,pos,af,none⟩::os) K ⟨f,rows,clk⟩=aI E ops os K ⟨put f d (aO f x),rows,clk⟩:=by
 simp only [aI,dZ,ys,yv]
 rw [bY (k:=fun v=>v=aO f x) (fun v=>Iff.rfl),i1]
theorem RC{c a b:Operand}:aI E ops (⟨d, .pick c a b,ty,pos,af,none⟩::os) K ⟨f,rows,clk⟩=gL (aO f c) true (aI E ops os K ⟨put f d (aO f a),rows,clk⟩) (aI E ops os K ⟨put f d (aO f b),rows,clk⟩):=by
 simp only [aI,dZ,ys,yv]
 rw [bY (fun v=>Iff.rfl)]
 apply propext;simp only [aT,gL]
 constructor
 ·rintro⟨v,⟨t,h1,rfl⟩,h2⟩
  refine⟨t,h1,fun h=>?_,fun h=>?_⟩
  ·subst h;exact h2
  ·subst h;exact h2
 ·rintro⟨t,h1,h2,h3⟩
  cases t with
  | true=>exact⟨_,⟨true,h1,rfl⟩,h2 rfl⟩
  | false=>exact⟨_,⟨false,h1,rfl⟩,h3 rfl⟩
theorem VZ{op:BinOp}{t t2:TypeId}{x y:Operand}:aI E ops (⟨d, .binOp op t x y t2,ty,pos,af,none⟩::os) K ⟨f,rows,clk⟩=aT (fun v=>C9 E op t (aO f x) (aO f y) v) fun v=>aI E ops os K ⟨put f d v,rows,clk⟩:=by
 simp only [aI,dZ,ys,yv]
 rw [bY (fun v=>Iff.rfl)]
theorem abl{op:UnOp}{t:TypeId}{x:Operand}:aI E ops (⟨d, .unOp op t x,ty,pos,af,none⟩::os) K ⟨f,rows,clk⟩=aT (fun v=>yun op (aO f x) v) fun v=>aI E ops os K ⟨put f d v,rows,clk⟩:=by
 simp only [aI,dZ,ys,yv]
 rw [bY (k:=fun v=>yun op (aO f x) v) (fun v=>Iff.rfl)]
theorem RD{s t:TypeId}{x:Operand}:aI E ops (⟨d, .convert s t x,ty,pos,af,none⟩::os) K ⟨f,rows,clk⟩=aT (fun v=>qM (E.ty s) (E.ty t) (aO f x) v) fun v=>aI E ops os K ⟨put f d v,rows,clk⟩:=by
 simp only [aI,dZ,ys,yv]
 rw [bY (k:=fun v=>qM (E.ty s) (E.ty t) (aO f x) v) (fun v=>Iff.rfl)]
theorem DQ{i:Nat}{x:Operand}:aI E ops (⟨d, .extract x i,ty,pos,af,none⟩::os) K ⟨f,rows,clk⟩=aT (fun v=>J6 i (aO f x) v) fun v=>aI E ops os K ⟨put f d v,rows,clk⟩:=by
 simp only [aI,dZ,ys,yv]
 rw [bY (k:=fun v=>J6 i (aO f x) v) (fun v=>Iff.rfl)]
theorem RE{t:TypeId}{x:Operand}:aI E ops (⟨d, .load t x,ty,pos,af,none⟩::os) K ⟨f,rows,clk⟩=aT (fun v=>qK E t rows (aO f x) v) fun v=>aI E ops os K ⟨put f d v,rows,clk⟩:=by
 simp only [aI,dZ,ys,yv]
 rw [bY (fun v=>Iff.rfl)]
theorem K9{t:TypeId}{i:Nat}{x:Operand}:aI E ops (⟨d, .field t x i,ty,pos,af,none⟩::os) K ⟨f,rows,clk⟩=aT (fun v=>q9 E t i (aO f x) v) fun v=>aI E ops os K ⟨put f d v,rows,clk⟩:=by
 simp only [aI,dZ,ys,yv]
 rw [bY (fun v=>Iff.rfl)]
theorem yA{t:TypeId}{i:Nat}{x:Operand}:aI E ops (⟨d, .fieldAddr t x i,ty,pos,af,none⟩::os) K ⟨f,rows,clk⟩=aT (fun v=>eK E t rows i (aO f x) v) fun v=>aI E ops os K ⟨put f d v,rows,clk⟩:=by
 simp only [aI,dZ,ys,yv]
 rw [bY (fun v=>Iff.rfl)]
theorem yB{t:TypeId}{x y:Operand}:aI E ops (⟨d, .indexAddr t x y,ty,pos,af,none⟩::os) K ⟨f,rows,clk⟩=aT (fun v=>eM E t rows (aO f x) (aO f y) v) fun v=>aI E ops os K ⟨put f d v,rows,clk⟩:=by
 simp only [aI,dZ,ys,yv]
 rw [bY (fun v=>Iff.rfl)]
theorem LA{t:TypeId}{x:Operand}{lo hi mx:Option Operand}:aI E ops (⟨d, .slice t x lo hi mx,ty,pos,af,none⟩::os) K ⟨f,rows,clk⟩=aT (fun v=>lY E t rows (aO f x) (lo.map (aO f)) (hi.map (aO f)) (mx.map (aO f)) v) fun v=>aI E ops os K ⟨put f d v,rows,clk⟩:=by
 simp only [aI,dZ,ys,yv]
 rw [bY (fun v=>Iff.rfl)]
theorem LB{t:TypeId}{parts:Array (Nat × Operand)}:aI E ops (⟨d, .build t parts,ty,pos,af,none⟩::os) K ⟨f,rows,clk⟩=aT (fun v=>oE (E.ty t) (parts.toList.map fun x=>(x.1,aO f x.2)) v) fun v=>aI E ops os K ⟨put f d v,rows,clk⟩:=by
 simp only [aI,dZ,ys,yv]
 rw [bY (k:=fun v=>oE (E.ty t) (parts.toList.map fun x=>(x.1,aO f x.2)) v) (fun v=>Iff.rfl)]
theorem LC{t:TypeId}{x y:Operand}:aI E ops (⟨d, .index t x y,ty,pos,af,none⟩::os) K ⟨f,rows,clk⟩=aT (fun v=>rA E (E.ty t) (aO f x) (aO f y) v) fun v=>aI E ops os K ⟨put f d v,rows,clk⟩:=by
 simp only [aI,dZ,ys,yv]
 rw [bY (k:=fun v=>rA E (E.ty t) (aO f x) (aO f y) v) (fun v=>Iff.rfl)]
theorem V0{t:TypeId}{x:Operand}:aI E ops (⟨d, .call { callee:=.builtin .len,args:=⟨[x]⟩,argTypes:=⟨[t]⟩ },ty,pos,af,none⟩::os) K ⟨f,rows,clk⟩=aT (fun v=>uZ (E.ty t) rows (aO f x) v) fun v=>aI E ops os K ⟨put f d v,rows,clk⟩:=by
 simp only [aI,dZ,ys,yv]
 rw [bY (k:=fun v=>uZ (E.ty t) rows (aO f x) v) (fun v=>Iff.rfl)]
theorem AV{x:Operand}:aI E ops (⟨d, .nilCheck x,ty,pos,af,none⟩::os) K ⟨f,rows,clk⟩=aT (fun v=>AM rows (aO f x) v) fun v=>aI E ops os K ⟨put f d v,rows,clk⟩:=by
 simp only [aI,dZ,ys,yv]
 rw [bY (k:=fun v=>AM rows (aO f x) v) (fun v=>Iff.rfl)]
theorem V1{ts:Array TypeId}{x y:Operand}:aI E ops (⟨d, .call { callee:=.builtin .max,args:=⟨[x,y]⟩,argTypes:=ts },ty,pos,af,none⟩::os) K ⟨f,rows,clk⟩=aT (fun v=>J8 (aO f x) (aO f y) v) fun v=>aI E ops os K ⟨put f d v,rows,clk⟩:=by
 simp only [aI,dZ,ys,yv]
 rw [bY (fun v=>Iff.rfl)]
theorem V2{ts:Array TypeId}{x y:Operand}:aI E ops (⟨d, .call { callee:=.builtin .min,args:=⟨[x,y]⟩,argTypes:=ts },ty,pos,af,none⟩::os) K ⟨f,rows,clk⟩=aT (fun v=>J9 (aO f x) (aO f y) v) fun v=>aI E ops os K ⟨put f d v,rows,clk⟩:=by
 simp only [aI,dZ,ys,yv]
 rw [bY (fun v=>Iff.rfl)]
theorem wI{t:TypeId}{len:Nat}{parts:Array (Nat × Operand)}:aI E ops (⟨d, .buildSlice t len parts,ty,pos,af,none⟩::os) K ⟨f,rows,clk⟩=aT (fun v=>KQ (E.ty t) rows len (parts.toList.map fun x=>(x.1,aO f x.2)) v) fun v=>aI E ops os K ⟨put f d v,rows,clk⟩:=by
 simp only [aI,dZ,ys]
 rw [bY (fun v=>Iff.rfl)]
theorem LD{t:TypeId}{p x:Operand}:aI E ops (⟨none, .store t p x,ty,pos,af,none⟩::os) K ⟨f,rows,clk⟩ = ∃id r,oI E t rows (aO f p) (aO f x) .undef (some (id,r))∧aI E ops os K ⟨f,dH rows id (some r),clk⟩:=by
 simp only [aI,dZ,ys]
 apply propext
 constructor
 ·rintro⟨v,u,h,h2⟩
  have h':=h
  obtain⟨_,rfl,h3⟩:=h
  split at h3
  ·obtain⟨_,_,_,_,_,_,_,_,_,_,rfl⟩:=h3
   exact⟨_,_,h',h2⟩
  ·exact h3.elim
 ·rintro⟨id,r,h,h2⟩;exact⟨.undef,some (id,r),h,h2⟩
theorem LF{t:TypeId}:aI E ops (⟨d, .alloc t,ty,pos,af,none⟩::os) K ⟨f,rows,clk⟩=aE ((E.ty t).known=true) (aI E ops os K ⟨put f d (.ptr (d.getD 0) clk 0 0),dH rows (d.getD 0) (some ⟨clk,t,(E.ty t).size,[(E.ty t).zero]⟩),clk+1⟩):=rfl
theorem V3{t:TypeId}{x:Operand}:aI E ops (⟨d, .box t x,ty,pos,af,none⟩::os) K ⟨f,rows,clk⟩=aE ((E.ty t).known=true) (∃l,bS (aO f x)=some l∧(∀q∈l,gR rows q)∧l.length=(E.ty t).size∧aI E ops os K ⟨put f d (.ptr (d.getD 0) clk 0 0),dH rows (d.getD 0) (some ⟨clk,t,(E.ty t).size,[l]⟩),clk+1⟩):=rfl
def oM(t:TI)(x y:PV)(K:TypeId→Nat→List PV→Int→Prop):Prop:=
 match t,x,y with
 | .slice e n b z, .int _ x, .int _ y=>aE (0≤x∧x≤y∧y.toNat≤room∧y.toNat*b≤room) (K e n z x)
 | _,_,_=>False
theorem yC{t:TypeId}{l c:Operand}:aI E ops (⟨d, .makeSlice t l c,ty,pos,af,none⟩::os) K ⟨f,rows,clk⟩=oM (E.ty t) (aO f l) (aO f c) fun e n z x=>aI E ops os K ⟨put f d (.own (d.getD 0) clk 0 x.toNat),dH rows (d.getD 0) (some ⟨clk,e,n,List.replicate x.toNat z⟩),clk+1⟩:=by
 simp only [aI,dZ,oM,DK]
 generalize E.ty t=T
 generalize aO f l=A
 generalize aO f c=B
 cases T with
 | slice e n b z =>
  cases A with
  | int k x =>
   cases B with
   | int k2 y=>simp only [aE,and_assoc]
   | _=>rfl
  | _=>rfl
 | _=>rfl
def RF(t:TI)(rows:Rows)(x y:PV)(clk d:Nat)(K:PV→Rows→Nat→Prop):Prop:=
 match t with
 | .slice e n b _ =>
  ∃l,qG rows y l∧(∀e∈l,e.length=n) ∧
  match x with
  | .nil=>aE (l.length≤room∧l.length*b≤room) (K (.own d clk 0 l.length) (dH rows d (some ⟨clk,e,n,l⟩)) (clk+1))
  | .own id ver off len=>∃r,rows id=some r∧r.ver=ver∧off=0∧len≤r.els.length∧r.e=e∧r.size=n∧aE (len+l.length≤room∧(len+l.length)*b≤room) (K (.own id clk 0 (len+l.length)) (dH rows id (some ⟨clk,e,n,r.els.take len++l⟩)) (clk+1))
  | .gU l0=>(∀e∈l0,e.length=n)∧(∀e∈l,∀p∈e,bU p=true)∧aE (l0.length+l.length≤room∧(l0.length+l.length)*b≤room) (K (.sl (l0++l)) rows clk)
  | _=>False
 | _=>False
theorem GR{t t2:TypeId}{x y:Operand}:aI E ops (⟨d, .call { callee:=.builtin .append,args:=⟨[x,y]⟩,argTypes:=⟨[t,t2]⟩ },ty,pos,af,none⟩::os) K ⟨f,rows,clk⟩ =
  aE (t2=t∨UY (E.ty t2)=true) (RF (E.ty t) rows (aO f x) (aO f y) clk (d.getD 0) fun v rows clk=>aI E ops os K ⟨put f d v,rows,clk⟩):=by
 simp only [aI,dZ,DL,RF,DK,aE,PS.put]
 congr 1
 generalize E.ty t=T
 generalize aO f x=A
 cases T with
 | slice e n b z =>
  simp only
  congr 1
  funext l
  congr 2
  cases A with
  | nil=>simp only [and_assoc]
  | own id ver off len=>simp only [and_assoc]
  | gU l0=>simp only [and_assoc]
  | _=>rfl
 | _=>rfl
end
def sN(P:Program)(g:FuncId)(args:List PV)(K:PV→Prop):Prop:=∃v,aL P g args v∧K v
@[congr] theorem ad1{P:Program}{g:FuncId}{args GS:List PV}{K:PV→Prop}(h:args=GS):sN P g args K=sN P g GS K:=by rw [h]
def oN(E:Env)(p:PV)(fJ:List PV)(rows:Rows)(clk:Nat)(K:PV→Rows→Nat→Prop):Prop:=
 match p with
 | .fn g cB=>if E.writes g=true then cB = []∧u7 E.P g fJ rows clk K else aE ((fJ.map (pz rows)).all fA=true∧dS rows (fJ.flatMap dG)) (sN E.P g (fJ.map (pz rows)++cB) fun v=>K v (AN rows (fJ.flatMap dG)) clk)
 | _=>False
@[congr] theorem abm{E:Env}{p p':PV}{fJ vE:List PV}{rows rows':Rows}{clk fQ:Nat}{K:PV→Rows→Nat→Prop}(h1:p=p')(h2:fJ=vE)(h3:rows=rows')(h4:clk=fQ):oN E p fJ rows clk K=oN E p' vE rows' fQ K:=by rw [h1,h2,h3,h4]
@[congr] theorem ad2{P:Program}{g:FuncId}{fJ vE:List PV}{rows:Rows}{clk:Nat}{K:PV→Rows→Nat→Prop}(h:fJ=vE):u7 P g fJ rows clk K=u7 P g vE rows clk K:=by rw [h]
@[congr] theorem ad3{t t':TI}{x x' y y':PV}{K:TypeId→Nat→List PV→Int→Prop}(h1:t=t')(h2:x=x')(h3:y=y'):oM t x y K=oM t' x' y' K:=by rw [h1,h2,h3]
@[congr] theorem ago{t t':TI}{rows rows':Rows}{x x' y y':PV}{clk fQ d d':Nat}{K:PV→Rows→Nat→Prop}(h1:t=t')(h2:rows=rows')(h3:x=x')(h4:y=y')(h5:clk=fQ)(h6:d=d') :
  RF t rows x y clk d K=RF t' rows' x' y' fQ d' K:=by rw [h1,h2,h3,h4,h5,h6]
section
variable {E:Env} {ops os:List Oper} {K:PS→Prop} {f:Nat→PV} {rows:Rows} {clk:Nat} {d:Option Tmp} {ty:TypeId} {pos:String} {af:Array Edge}
theorem RG{fo:Operand}{args:Array Operand}{ts:Array TypeId}:aI E ops (⟨d, .call { callee:=.value fo,args:=args,argTypes:=ts },ty,pos,af,none⟩::os) K ⟨f,rows,clk⟩ =
  oN E (aO f fo) (args.toList.map (aO f)) rows clk fun v rows clk=>aI E ops os K ⟨put f d v,rows,clk⟩:=by
 simp only [aI,dZ,u9,oN,KR,aE,sN]
 generalize aO f fo=A
 have e1:(args.toList.map fun x=>pz rows (aO f x))=(args.toList.map (aO f)).map (pz rows):=by rw [List.map_map];rfl
 have e2:(args.toList.flatMap fun x=>dG (aO f x))=(args.toList.map (aO f)).flatMap dG:=by rw [List.flatMap_map]
 rw [e1,e2]
 cases A with
 | fn g cB =>
  have hm:afU E (.fn g cB)=E.writes g:=rfl
  by_cases hw:E.writes g=true
  ·rw [hm,if_pos hw]
   cases cB with
   | nil=>simp [hw]
   | cons x l=>simp [hw]
  rw [hm,if_neg hw]
  simp only [if_neg hw]
  apply propext
  constructor
  ·rintro⟨v,⟨h1,h2⟩,h3,h4⟩;exact⟨⟨h1,h3⟩,v,h2,h4⟩
  ·rintro⟨⟨h1,h3⟩,v,h2,h4⟩;exact⟨v,⟨h1,h2⟩,h3,h4⟩
 | _=>simp [afU]
theorem AW{g:FuncId}{cB:Array Operand}:aI E ops (⟨d, .makeFunc (.func g) ⟨[]⟩ cB,ty,pos,af,none⟩::os) K ⟨f,rows,clk⟩ =
  aE (((cB.toList.map (aO f)).map (pz rows)).all fA=true∧dS rows ((cB.toList.map (aO f)).flatMap dG))
   (aI E ops os K ⟨put f d (.fn g ((cB.toList.map (aO f)).map (pz rows))),AN rows ((cB.toList.map (aO f)).flatMap dG),clk⟩):=by
 simp only [aI,dZ,aE,and_assoc]
 have e1:(cB.toList.map fun x=>pz rows (aO f x))=(cB.toList.map (aO f)).map (pz rows):=by rw [List.map_map];rfl
 have e2:(cB.toList.flatMap fun x=>dG (aO f x))=(cB.toList.map (aO f)).flatMap dG:=by rw [List.flatMap_map]
 rw [e1,e2]
def i2(k:Nat)(l:List Nat)(t:Nat→Nat→Prop):Nat→Nat→Prop:=fun k' id=>(true=true∧k'=k∧id∈l)∨t k' id
def n5(k id:Nat)(w:Nat→Nat→Prop):Nat→Nat→Prop:=fun k' gX=>(k'=k∧gX=id)∨w k' gX
variable {k:Nat} {bL:Nat→Nat→Prop} {aJ:Nat→Nat→Prop}
theorem LG{op:Op}{j:Nat}{want:Bool}:aK E ops clk k (⟨d,op,ty,pos,af,some (j,want)⟩::os) K ⟨f,rows,bL,aJ⟩ =
  match (ops[j]?).bind (·.dst)with
  | none=>False
  | some e=>stepG (f e) want (aK E ops clk k (⟨d,op,ty,pos,af,none⟩::os) K ⟨f,rows,bL,aJ⟩) (aK E ops clk (k+1) os K ⟨put f d (.dX []),rows,bL,aJ⟩):=by
 have e3:app k ⟨d,op,ty,pos,af,some (j,want)⟩ false (.dX []) none ⟨f,rows,bL,aJ⟩=⟨put f d (.dX []),rows,bL,aJ⟩:=by simp [app,dQ,T8]
 simp only [aK,e3]
 cases hx:(ops[j]?).bind (·.dst)with
 | none=>rfl
 | some e=>rfl
theorem cF{o:Oper}{R:PV→Prop}{kk:PV→Prop}{st:ST}(h:∀v,R v↔kk v):(∃v u,(R v∧u=none)∧GG .any ops k u bL∧aK E ops clk (k+1) os K (app k o true v u st))=aT kk fun v=>aK E ops clk (k+1) os K (app k o true v none st):=by
 apply propext;simp only [aT]
 constructor
 ·rintro⟨v,u,⟨h1,rfl⟩,_,h2⟩;exact⟨v,(h v).1 h1,h2⟩
 ·rintro⟨v,h1,h2⟩;exact⟨v,none,⟨(h v).2 h1,rfl⟩,trivial,h2⟩
theorem eG{op:Op}{v:PV}(h:gM op (aO f) = []):app k ⟨d,op,ty,pos,af,none⟩ true v none ⟨f,rows,bL,aJ⟩=⟨put f d v,rows,bL,aJ⟩:=by simp [app,dQ,T8,h]
theorem pP{op:Op}{v:PV}{l:List Nat}(h:gM op (aO f)=l):app k ⟨d,op,ty,pos,af,none⟩ true v none ⟨f,rows,bL,aJ⟩=⟨put f d v,rows,i2 k l bL,aJ⟩:=by subst h;rfl
theorem RH{x:Operand}:aK E ops clk k (⟨d, .move x,ty,pos,af,none⟩::os) K ⟨f,rows,bL,aJ⟩=aK E ops clk (k+1) os K ⟨put f d (aO f x),rows,bL,aJ⟩:=by
 simp only [aK,yn,gN,ys,yv]
 rw [cF (kk:=fun v=>v=aO f x) (fun v=>Iff.rfl),i1,eG rfl]
theorem GU{x:Operand}:aK E ops clk k (⟨d, .assign x,ty,pos,af,none⟩::os) K ⟨f,rows,bL,aJ⟩=aK E ops clk (k+1) os K ⟨put f d (aO f x),rows,bL,aJ⟩:=by
 simp only [aK,yn,gN,ys,yv]
 rw [cF (kk:=fun v=>v=aO f x) (fun v=>Iff.rfl),i1,eG rfl]
theorem RJ{c a b:Operand}:aK E ops clk k (⟨d, .pick c a b,ty,pos,af,none⟩::os) K ⟨f,rows,bL,aJ⟩=gL (aO f c) true (aK E ops clk (k+1) os K ⟨put f d (aO f a),rows,bL,aJ⟩) (aK E ops clk (k+1) os K ⟨put f d (aO f b),rows,bL,aJ⟩):=by
 simp only [aK,yn,gN,ys,yv]
 rw [cF (fun v=>Iff.rfl)]
 apply propext;simp only [aT,gL,eG (op:=.pick c a b) rfl]
 constructor
 ·rintro⟨v,⟨t,h1,rfl⟩,h2⟩
  refine⟨t,h1,fun h=>?_,fun h=>?_⟩
  ·subst h;exact h2
  ·subst h;exact h2
 ·rintro⟨t,h1,h2,h3⟩
  cases t with
  | true=>exact⟨_,⟨true,h1,rfl⟩,h2 rfl⟩
  | false=>exact⟨_,⟨false,h1,rfl⟩,h3 rfl⟩
theorem V4{op:BinOp}{t t2:TypeId}{x y:Operand}:aK E ops clk k (⟨d, .binOp op t x y t2,ty,pos,af,none⟩::os) K ⟨f,rows,bL,aJ⟩=aT (fun v=>C9 E op t (aO f x) (aO f y) v) fun v=>aK E ops clk (k+1) os K ⟨put f d v,rows,bL,aJ⟩:=by
 simp only [aK,yn,gN,ys,yv];rw [cF (fun v=>Iff.rfl)];simp only [eG (op:=.binOp op t x y t2) rfl]
theorem abn{op:UnOp}{t:TypeId}{x:Operand}:aK E ops clk k (⟨d, .unOp op t x,ty,pos,af,none⟩::os) K ⟨f,rows,bL,aJ⟩=aT (fun v=>yun op (aO f x) v) fun v=>aK E ops clk (k+1) os K ⟨put f d v,rows,bL,aJ⟩:=by
 simp only [aK,yn,gN,ys,yv];rw [cF (fun v=>Iff.rfl)];simp only [eG (op:=.unOp op t x) rfl]
theorem RK{s t:TypeId}{x:Operand}:aK E ops clk k (⟨d, .convert s t x,ty,pos,af,none⟩::os) K ⟨f,rows,bL,aJ⟩=aT (fun v=>qM (E.ty s) (E.ty t) (aO f x) v) fun v=>aK E ops clk (k+1) os K ⟨put f d v,rows,bL,aJ⟩:=by
 simp only [aK,yn,gN,ys,yv];rw [cF (fun v=>Iff.rfl)];simp only [eG (op:=.convert s t x) rfl]
theorem DR{i:Nat}{x:Operand}:aK E ops clk k (⟨d, .extract x i,ty,pos,af,none⟩::os) K ⟨f,rows,bL,aJ⟩=aT (fun v=>J6 i (aO f x) v) fun v=>aK E ops clk (k+1) os K ⟨put f d v,rows,bL,aJ⟩:=by
 simp only [aK,yn,gN,ys,yv];rw [cF (fun v=>Iff.rfl)];simp only [eG (op:=.extract x i) rfl]
theorem RL{t:TypeId}{x:Operand}:aK E ops clk k (⟨d, .load t x,ty,pos,af,none⟩::os) K ⟨f,rows,bL,aJ⟩=aT (fun v=>qK E t (dO .any ops k aJ rows) (aO f x) v) fun v=>aK E ops clk (k+1) os K ⟨put f d v,rows,i2 k (aU (aO f x)) bL,aJ⟩:=by
 simp only [aK,yn,gN,ys,yv];rw [cF (fun v=>Iff.rfl)];simp only [pP (op:=.load t x) rfl];rfl
theorem LH{t:TypeId}{i:Nat}{x:Operand}:aK E ops clk k (⟨d, .field t x i,ty,pos,af,none⟩::os) K ⟨f,rows,bL,aJ⟩=aT (fun v=>q9 E t i (aO f x) v) fun v=>aK E ops clk (k+1) os K ⟨put f d v,rows,bL,aJ⟩:=by
 simp only [aK,yn,gN,ys,yv];rw [cF (fun v=>Iff.rfl)];simp only [eG (op:=.field t x i) rfl]
theorem yD{t:TypeId}{i:Nat}{x:Operand}:aK E ops clk k (⟨d, .fieldAddr t x i,ty,pos,af,none⟩::os) K ⟨f,rows,bL,aJ⟩=aT (fun v=>eK E t (dO .any ops k aJ rows) i (aO f x) v) fun v=>aK E ops clk (k+1) os K ⟨put f d v,rows,i2 k (aU (aO f x)) bL,aJ⟩:=by
 simp only [aK,yn,gN,ys,yv];rw [cF (fun v=>Iff.rfl)];simp only [pP (op:=.fieldAddr t x i) rfl];rfl
theorem yE{t:TypeId}{x y:Operand}:aK E ops clk k (⟨d, .indexAddr t x y,ty,pos,af,none⟩::os) K ⟨f,rows,bL,aJ⟩=aT (fun v=>eM E t (dO .any ops k aJ rows) (aO f x) (aO f y) v) fun v=>aK E ops clk (k+1) os K ⟨put f d v,rows,i2 k (aU (aO f x)) bL,aJ⟩:=by
 simp only [aK,yn,gN,ys,yv];rw [cF (fun v=>Iff.rfl)];simp only [pP (op:=.indexAddr t x y) rfl];rfl
theorem LI{t:TypeId}{x:Operand}{lo hi mx:Option Operand}:aK E ops clk k (⟨d, .slice t x lo hi mx,ty,pos,af,none⟩::os) K ⟨f,rows,bL,aJ⟩=aT (fun v=>lY E t (dO .any ops k aJ rows) (aO f x) (lo.map (aO f)) (hi.map (aO f)) (mx.map (aO f)) v) fun v=>aK E ops clk (k+1) os K ⟨put f d v,rows,i2 k (aU (aO f x)) bL,aJ⟩:=by
 simp only [aK,yn,gN,ys,yv];rw [cF (fun v=>Iff.rfl)];simp only [pP (op:=.slice t x lo hi mx) rfl];rfl
theorem LJ{t:TypeId}{parts:Array (Nat × Operand)}:aK E ops clk k (⟨d, .build t parts,ty,pos,af,none⟩::os) K ⟨f,rows,bL,aJ⟩=aT (fun v=>oE (E.ty t) (parts.toList.map fun x=>(x.1,aO f x.2)) v) fun v=>aK E ops clk (k+1) os K ⟨put f d v,rows,bL,aJ⟩:=by
 simp only [aK,yn,gN,ys,yv];rw [cF (fun v=>Iff.rfl)];simp only [eG (op:=.build t parts) rfl]
theorem V5{t:TypeId}{x:Operand}:aK E ops clk k (⟨d, .call { callee:=.builtin .len,args:=⟨[x]⟩,argTypes:=⟨[t]⟩ },ty,pos,af,none⟩::os) K ⟨f,rows,bL,aJ⟩=aT (fun v=>uZ (E.ty t) (dO .any ops k aJ rows) (aO f x) v) fun v=>aK E ops clk (k+1) os K ⟨put f d v,rows,i2 k (aU (aO f x)) bL,aJ⟩:=by
 simp only [aK,yn,gN,ys,yv];rw [cF (fun v=>Iff.rfl)];simp only [pP (op:=.call { callee:=.builtin .len,args:=⟨[x]⟩,argTypes:=⟨[t]⟩ }) rfl];rfl
theorem AX{x:Operand}:aK E ops clk k (⟨d, .nilCheck x,ty,pos,af,none⟩::os) K ⟨f,rows,bL,aJ⟩=aT (fun v=>AM (dO .any ops k aJ rows) (aO f x) v) fun v=>aK E ops clk (k+1) os K ⟨put f d v,rows,i2 k (aU (aO f x)) bL,aJ⟩:=by
 simp only [aK,yn,gN,ys,yv];rw [cF (fun v=>Iff.rfl)];simp only [pP (op:=.nilCheck x) rfl];rfl
theorem V6{ts:Array TypeId}{x y:Operand}:aK E ops clk k (⟨d, .call { callee:=.builtin .max,args:=⟨[x,y]⟩,argTypes:=ts },ty,pos,af,none⟩::os) K ⟨f,rows,bL,aJ⟩=aT (fun v=>J8 (aO f x) (aO f y) v) fun v=>aK E ops clk (k+1) os K ⟨put f d v,rows,bL,aJ⟩:=by
 simp only [aK,yn,gN,ys,yv];rw [cF (fun v=>Iff.rfl)];simp only [eG (op:=.call { callee:=.builtin .max,args:=⟨[x,y]⟩,argTypes:=ts }) rfl]
theorem V7{ts:Array TypeId}{x y:Operand}:aK E ops clk k (⟨d, .call { callee:=.builtin .min,args:=⟨[x,y]⟩,argTypes:=ts },ty,pos,af,none⟩::os) K ⟨f,rows,bL,aJ⟩=aT (fun v=>J9 (aO f x) (aO f y) v) fun v=>aK E ops clk (k+1) os K ⟨put f d v,rows,bL,aJ⟩:=by
 simp only [aK,yn,gN,ys,yv];rw [cF (fun v=>Iff.rfl)];simp only [eG (op:=.call { callee:=.builtin .min,args:=⟨[x,y]⟩,argTypes:=ts }) rfl]
theorem AY{g:FuncId}{cB:Array Operand}:aK E ops clk k (⟨d, .makeFunc (.func g) ⟨[]⟩ cB,ty,pos,af,none⟩::os) K ⟨f,rows,bL,aJ⟩=aE ((cB.toList.map fun x=>aO f x).all fA=true) (aK E ops clk (k+1) os K ⟨put f d (.fn g (cB.toList.map fun x=>aO f x)),rows,bL,aJ⟩):=by
 simp only [aK,yn,gN,ys,yv]
 rw [cF (fun v=>Iff.rfl),iM,i1];simp only [eG (op:=.makeFunc (.func g) ⟨[]⟩ cB) rfl]
theorem wJ{t:TypeId}{len:Nat}{parts:Array (Nat × Operand)}:aK E ops clk k (⟨d, .buildSlice t len parts,ty,pos,af,none⟩::os) K ⟨f,rows,bL,aJ⟩=aT (fun v=>KQ (E.ty t) (dO .any ops k aJ rows) len (parts.toList.map fun x=>(x.1,aO f x.2)) v) fun v=>aK E ops clk (k+1) os K ⟨put f d v,rows,bL,aJ⟩:=by
 simp only [aK,yn,gN,ys];rw [cF (fun v=>Iff.rfl)];simp only [eG (op:=.buildSlice t len parts) rfl]
theorem LK{t:TypeId}{p x:Operand}:aK E ops clk k (⟨none, .store t p x,ty,pos,af,none⟩::os) K ⟨f,rows,bL,aJ⟩ =
  ∃id r,oI E t (dO .any ops k aJ rows) (aO f p) (aO f x) .undef (some (id,r))∧xW .any ops k id bL∧aK E ops clk (k+1) os K ⟨f,dH rows id (some r),i2 k (aU (aO f p)++((bS (aO f x)).getD []).flatMap aU) bL,n5 k id aJ⟩:=by
 simp only [aK,yn,gN,ys]
 apply propext
 constructor
 ·rintro⟨v,u,h,h1,h2⟩
  have h':=h
  obtain⟨_,rfl,h3⟩:=h
  split at h3
  ·obtain⟨_,_,_,_,_,_,_,_,_,_,rfl⟩:=h3
   exact⟨_,_,h',h1,h2⟩
  ·exact h3.elim
 ·rintro⟨id,r,h,h1,h2⟩;exact⟨.undef,some (id,r),h,h1,h2⟩
theorem V8{o:Oper}{R:PV→Option (Nat × Row)→Prop}{C:Prop}{v0:PV}{e:Nat}{r0:Row}{st:ST}{fQ:Nat}(h:∀v u,R v u↔(C∧v=v0∧u=some (e,r0))):(∃v u,R v u∧GG .any ops k u bL∧aK E ops fQ (k+1) os K (app k o true v u st))=aE (C∧xW .any ops k e bL) (aK E ops fQ (k+1) os K (app k o true v0 (some (e,r0)) st)):=by
 apply propext;simp only [aE]
 constructor
 ·rintro⟨v,u,h1,h2,h3⟩
  obtain⟨hc,rfl,rfl⟩:=(h v u).1 h1
  exact⟨⟨hc,h2⟩,h3⟩
 ·rintro⟨⟨h1,h2⟩,h3⟩;exact⟨v0,_,(h _ _).2 ⟨h1,rfl,rfl⟩,h2,h3⟩
theorem sO{op:Op}{v:PV}{e:Nat}{r0:Row}(h:gM op (aO f) = []):app k ⟨d,op,ty,pos,af,none⟩ true v (some (e,r0)) ⟨f,rows,bL,aJ⟩=⟨put f d v,dH rows e (some r0),bL,n5 k e aJ⟩:=by simp only [app,dQ,T8,h,List.not_mem_nil,and_false,false_or];rfl
theorem LM{t:TypeId}:aK E ops clk k (⟨d, .alloc t,ty,pos,af,none⟩::os) K ⟨f,rows,bL,aJ⟩=aE ((E.ty t).known=true∧xW .any ops k (d.getD 0) bL) (aK E ops (clk+1) (k+1) os K ⟨put f d (.ptr (d.getD 0) clk 0 0),dH rows (d.getD 0) (some ⟨clk,t,(E.ty t).size,[(E.ty t).zero]⟩),bL,n5 k (d.getD 0) aJ⟩):=by
 simp only [aK,yn,gN]
 rw [V8 (C:=(E.ty t).known=true) (v0:=.ptr (d.getD 0) clk 0 0) (e:=d.getD 0) (r0:=⟨clk,t,(E.ty t).size,[(E.ty t).zero]⟩) (fun v u=>by simp),sO (op:=.alloc t) rfl]
theorem V9{t:TypeId}{x:Operand}:aK E ops clk k (⟨d, .box t x,ty,pos,af,none⟩::os) K ⟨f,rows,bL,aJ⟩=aE ((E.ty t).known=true) (∃l,bS (aO f x)=some l∧((∀q∈l,gR (fun _=>none) q)∧l.length=(E.ty t).size∧xW .any ops k (d.getD 0) bL) ∧
  aK E ops (clk+1) (k+1) os K ⟨put f d (.ptr (d.getD 0) clk 0 0),dH rows (d.getD 0) (some ⟨clk,t,(E.ty t).size,[l]⟩),bL,n5 k (d.getD 0) aJ⟩):=by
 simp only [aK,yn,gN]
 apply propext
 constructor
 ·rintro⟨v,u,⟨h1,l,h2,h3,h4,rfl,rfl⟩,h5,h6⟩
  rw [sO (op:=.box t x) rfl]at h6
  exact⟨h1,l,h2,⟨h3,h4,h5⟩,h6⟩
 ·rintro⟨h1,l,h2,⟨h3,h4,h5⟩,h6⟩
  refine⟨_,_,⟨h1,l,h2,h3,h4,rfl,rfl⟩,h5,?_⟩
  rw [sO (op:=.box t x) rfl];exact h6
theorem yF{t:TypeId}{l c:Operand}:aK E ops clk k (⟨d, .makeSlice t l c,ty,pos,af,none⟩::os) K ⟨f,rows,bL,aJ⟩=oM (E.ty t) (aO f l) (aO f c) fun e n z x=>aE (xW .any ops k (d.getD 0) bL) (aK E ops (clk+1) (k+1) os K ⟨put f d (.own (d.getD 0) clk 0 x.toNat),dH rows (d.getD 0) (some ⟨clk,e,n,List.replicate x.toNat z⟩),bL,n5 k (d.getD 0) aJ⟩):=by
 have US:∀ {v e' r0},app k ⟨d, .makeSlice t l c,ty,pos,af,none⟩ true v (some (e',r0)) ⟨f,rows,bL,aJ⟩=⟨put f d v,dH rows e' (some r0),bL,n5 k e' aJ⟩:=sO rfl
 simp only [aK,yn,gN,oM]
 generalize E.ty t=T
 generalize aO f l=A
 generalize aO f c=B
 cases T with
 | slice e n b z =>
  cases A with
  | int k1 x =>
   cases B with
   | int k2 y =>
    apply propext
    simp only [aE]
    constructor
    ·rintro⟨v,u,⟨h1,h2,h3,h4,rfl,rfl⟩,h5,h6⟩
     rw [US]at h6
     exact⟨⟨h1,h2,h3,h4⟩,h5,h6⟩
    ·rintro⟨⟨h1,h2,h3,h4⟩,h5,h6⟩
     refine⟨_,_,⟨h1,h2,h3,h4,rfl,rfl⟩,h5,?_⟩
     rw [US];exact h6
   | _=>simp
  | _=>simp
 | _=>simp
theorem GV{t t2:TypeId}{x y:Operand}:aK E ops clk k (⟨d, .call { callee:=.builtin .append,args:=⟨[x,y]⟩,argTypes:=⟨[t,t2]⟩ },ty,pos,af,none⟩::os) K ⟨f,rows,bL,aJ⟩ =
  aE (t2=t∨UY (E.ty t2)=true) (∃v u,qS (E.ty t) (dO .any ops k aJ rows) (aO f x) (aO f y) clk (d.getD 0) v u∧GG .any ops k u bL ∧
   aK E ops (clk+1) (k+1) os K ⟨put f d v,dQ rows u,i2 k (aU (aO f x)++aU (aO f y)) bL,T8 k u aJ⟩):=by
 have US:∀ {v u},app k ⟨d, .call { callee:=.builtin .append,args:=⟨[x,y]⟩,argTypes:=⟨[t,t2]⟩ },ty,pos,af,none⟩ true v u ⟨f,rows,bL,aJ⟩=⟨put f d v,dQ rows u,i2 k (aU (aO f x)++aU (aO f y)) bL,T8 k u aJ⟩:=rfl
 simp only [aK,yn,gN,aE]
 apply propext
 constructor
 ·rintro⟨v,u,⟨h1,h2⟩,h3,h4⟩
  exact⟨h1,v,u,h2,h3,h4⟩
 ·rintro⟨h1,v,u,h2,h3,h4⟩
  exact⟨v,u,⟨h1,h2⟩,h3,h4⟩
theorem RM{t t2:TypeId}{x y:Operand}:aK E ops clk k (⟨d, .call { callee:=.builtin .copy,args:=⟨[x,y]⟩,argTypes:=⟨[t,t2]⟩ },ty,pos,af,none⟩::os) K ⟨f,rows,bL,aJ⟩ =
  ∃v u,qP (E.ty t) (dO .any ops k aJ rows) (aO f x) (aO f y) v u∧GG .any ops k u bL ∧
   aK E ops clk (k+1) os K ⟨put f d v,dQ rows u,i2 k (aU (aO f x)++aU (aO f y)) bL,T8 k u aJ⟩:=rfl
def m9(E:Env)(p:PV)(fJ:List PV)(rows:Rows)(K:PV→Prop):Prop:=
 match p with
 | .fn g cB=>aE ((fJ.map (pz rows)).all fA=true∧fJ.flatMap dG = []) (sN E.P g (fJ.map (pz rows)++cB) K)
 | _=>False
@[congr] theorem abo{E:Env}{p p':PV}{fJ vE:List PV}{rows rows':Rows}{K:PV→Prop}(h1:p=p')(h2:fJ=vE)(h3:rows=rows'):m9 E p fJ rows K=m9 E p' vE rows' K:=by rw [h1,h2,h3]
theorem BS{fo:Operand}{args:Array Operand}{ts:Array TypeId}(hfo:cW E (.call { callee:=.value fo,args:=args,argTypes:=ts })=false):aK E ops clk k (⟨d, .call { callee:=.value fo,args:=args,argTypes:=ts },ty,pos,af,none⟩::os) K ⟨f,rows,bL,aJ⟩ =
  m9 E (aO f fo) (args.toList.map (aO f)) (dO .any ops k aJ rows) fun v=>aK E ops clk (k+1) os K ⟨put f d v,rows,bL,aJ⟩:=by
 simp only [aK]
 rw [xX hfo]
 simp only [xV hfo,ys,u9,m9,aE,sN]
 generalize hA:aO f fo=A
 have e1:(args.toList.map fun x=>pz (dO .any ops k aJ rows) (aO f x))=(args.toList.map (aO f)).map (pz (dO .any ops k aJ rows)):=by rw [List.map_map];rfl
 have e2:(args.toList.flatMap fun x=>dG (aO f x))=(args.toList.map (aO f)).flatMap dG:=by rw [List.flatMap_map]
 rw [e1,e2]
 have e3:∀v,app k ⟨d, .call { callee:=.value fo,args:=args,argTypes:=ts },ty,pos,af,none⟩ true v none ⟨f,rows,bL,aJ⟩=⟨put f d v,rows,bL,aJ⟩:=fun v=>eG rfl
 cases A with
 | fn g cB =>
  apply propext
  constructor
  ·rintro⟨v,u,⟨rfl,⟨h1,h2⟩,h3⟩,_,h4⟩;rw [e3]at h4;exact⟨⟨h1,h3⟩,v,h2,h4⟩
  ·rintro⟨⟨h1,h3⟩,v,h2,h4⟩;exact⟨v,none,⟨rfl,⟨h1,h2⟩,h3⟩,trivial,by rw [e3];exact h4⟩
 | _=>simp
theorem LN{g:FuncId}{args:Array Operand}{ts:Array TypeId}(hw:E.writes g=true):aK E ops clk k (⟨d, .call { callee:=.value (.func g),args:=args,argTypes:=ts },ty,pos,af,none⟩::os) K ⟨f,rows,bL,aJ⟩ =
  ∃e n els,((args.toList.map (aO f)).all fA=true∧i0 E.P g (args.toList.map (aO f)) e n els∧xW .any ops k (d.getD 0) bL)∧aK E ops (clk+1) (k+1) os K ⟨put f d (.own (d.getD 0) clk 0 els.length),dH rows (d.getD 0) (some ⟨clk,e,n,els⟩),bL,n5 k (d.getD 0) aJ⟩:=by
 have US:∀ {v e' r0},app k ⟨d, .call { callee:=.value (.func g),args:=args,argTypes:=ts },ty,pos,af,none⟩ true v (some (e',r0)) ⟨f,rows,bL,aJ⟩=⟨put f d v,dH rows e' (some r0),bL,n5 k e' aJ⟩:=sO rfl
 simp only [aK,yn,gN]
 rw [if_pos hw]
 simp only [if_pos hw]
 apply propext
 constructor
 ·rintro⟨v,u,⟨h1,e,n,els,h2,rfl,rfl⟩,h3,h4⟩
  rw [US]at h4
  exact⟨e,n,els,⟨h1,h2,h3⟩,h4⟩
 ·rintro⟨e,n,els,⟨h1,h2,h3⟩,h4⟩
  refine⟨_,_,⟨h1,e,n,els,h2,rfl,rfl⟩,h3,?_⟩
  rw [US];exact h4
@[simp] theorem al0{md:Region.Mode}{ops:List Oper}{j:Nat}{rows:Rows}:dO md ops j (fun _ _=>False) rows=rows:=by
 funext id;simp [dO]
@[simp] theorem al1{md:Region.Mode}{ops:List Oper}{j k id:Nat}{w:Nat→Nat→Prop}{rows:Rows}:dO md ops j (n5 k id w) rows=if m7 md ops j k=true then dO md ops j w rows else dH (dO md ops j w rows) id none:=by
 funext x
 unfold dO n5
 by_cases hd:m7 md ops j k=true
 ·rw [if_pos hd]
  have:(∃k',((k'=k∧x=id)∨w k' x)∧m7 md ops j k'=false) ↔ ∃k',w k' x∧m7 md ops j k'=false:=by
   constructor
   ·rintro⟨k',⟨rfl,_⟩ | h,h2⟩
    ·rw [hd]at h2;cases h2
    ·exact⟨k',h,h2⟩
   ·rintro⟨k',h,h2⟩;exact⟨k', .inr h,h2⟩
  exact(by classical exact ite_congr (propext this) (fun _=>rfl) (fun _=>rfl))
 ·rw [if_neg hd]
  have VD:m7 md ops j k=false:=by simpa using hd
  simp only [dH]
  by_cases hx:x=id
  ·rw [if_pos hx,if_pos ⟨k, .inl ⟨rfl,hx⟩,VD⟩]
  ·rw [if_neg hx]
   have:(∃k',((k'=k∧x=id)∨w k' x)∧m7 md ops j k'=false) ↔ ∃k',w k' x∧m7 md ops j k'=false:=by
    constructor
    ·rintro⟨k',⟨_,h⟩ | h,h2⟩
     ·exact absurd h hx
     ·exact⟨k',h,h2⟩
    ·rintro⟨k',h,h2⟩;exact⟨k', .inr h,h2⟩
   exact(by classical exact ite_congr (propext this) (fun _=>rfl) (fun _=>rfl))
@[simp] theorem ap1{md:Region.Mode}{ops:List Oper}{i id:Nat}:xW md ops i id (fun _ _=>False)=True:=by simp [xW]
@[simp] theorem ap2{md:Region.Mode}{ops:List Oper}{i id k:Nat}{l:List Nat}{t:Nat→Nat→Prop}:xW md ops i id (i2 k l t)=((id∈l→m7 md ops i k=true)∧xW md ops i id t):=by
 apply propext
 unfold xW i2
 constructor
 ·intro h;exact⟨fun hi=>h k (.inl ⟨rfl,rfl,hi⟩),fun k' hk=>h k' (.inr hk)⟩
 ·rintro⟨h1,h2⟩ k' (⟨_,rfl,h⟩ | h)
  ·exact h1 h
  ·exact h2 k' h
end
end Pm
