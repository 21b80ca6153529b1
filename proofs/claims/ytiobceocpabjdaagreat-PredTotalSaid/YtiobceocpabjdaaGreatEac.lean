import Derived.StillTail
import Derived.Deep.LoopGhost
import Derived.Test.YtiobceocpabjdaaGreatEab
set_option linter.unusedSimpArgs false
set_option linter.unusedVariables false
namespace Pm
open Go Go.RowKit
def oB(P:Program)(f:FuncId)(args:List PV)(e:TypeId)(n:Nat)(els:List (List PV)):Prop:=
 (∃fn c,P.funcs[f]? = some fn∧fn.body=some c∧(fn.name == "runtime.NumGoroutine")=false) ∧
 ∀(w:World) (S:dV) (vs:List Value),(∀b o,S b o→b<w.heap.size)→bH S w args vs →
  Calls P f vs.toArray w fun x w'=>∃(v:Value) (xs:List Value) (S':dV),x = .returned v∧Below w.heap.size w w'∧(∀b o,S b o→S' b o)∧(∀b o,S' b o→S b o∨(w.heap.size≤b∧b<w'.heap.size)) ∧
   w'.ownsRow w.heap.size e n v els.length xs∧bE (dC S' w') els.flatten xs∧(∀y∈xs,y.oneCell'=true)∧(∀x∈els,x.length=n)∧0<n∧(∀g o,v.ownBlock=some g→¬S' g o)
def VR(md:Region.Mode)(ops:List Oper)(j k:Nat):Bool:=
 match ops[j]? with
 | some o=>o.after.toList.any fun e=>Region.binds md e&&e.on==k
 | none=>false
def oT(md:Region.Mode)(ops:List Oper)(j k:Nat):Bool:=VR md ops j k || (List.range ops.length).any fun h=>VR md ops j h&&VR md ops h k
structure ST where
 f:Nat→PV
 rows:Rows
 bV:Nat→Nat→Prop
 wl:Nat→Nat→Prop
def dR(E:Env):Op→Bool
 | .alloc _=>true
 | .box _ _=>true
 | .makeSlice _ _ _=>true
 | .call { callee:=.builtin .append,args:=⟨[_,_]⟩,argTypes:=⟨[_,_]⟩ }=>true
 | .call { callee:=.value (.func g),args:=_,argTypes:=_ }=>E.writes g
 | _=>false
def wX(E:Env)(ops:List Oper):Bool:=ops.all fun o => !dR E o.op || (o.dst.isSome&&o.guard.isNone)
def rk(E:Env)(ops:List Oper)(i:Nat):Nat:=((ops.take i).filter fun o=>dR E o.op).length
theorem SC{E:Env}{ops:List Oper}{i:Nat}{o:Oper}(h:ops[i]? = some o):rk E ops (i+1)=rk E ops i+if dR E o.op=true then 1 else 0:=by
 unfold rk
 rw [List.take_add_one,h]
 simp only [Option.toList_some,List.filter_append,List.length_append]
 congr 1
 cases hn:dR E o.op<;>simp [hn]
theorem aen{E:Env}{ops:List Oper}{i j:Nat}(h:i≤j):rk E ops i≤rk E ops j:=by
 unfold rk
 have:(ops.take i).Sublist (ops.take j):=by
  have:=List.take_sublist i (ops.take j)
  rwa [List.take_take,Nat.min_eq_left h]at this
 exact(this.filter _).length_le
theorem Z2{E:Env}{ops:List Oper}{i j:Nat}{o:Oper}(h:ops[i]? = some o)(hn:dR E o.op=true)(hij:i<j):rk E ops i<rk E ops j:=by
 have h1:=SC (E:=E) h
 rw [if_pos hn]at h1
 have:=aen (E:=E) (ops:=ops) (show i+1≤j from hij)
 omega
theorem ajm{E:Env}{ops:List Oper}{i j:Nat}{o o':Oper}(h:ops[i]? = some o)(hn:dR E o.op=true)(h':ops[j]? = some o')(EL:dR E o'.op=true)(he:rk E ops i=rk E ops j):i=j:=by
 rcases Nat.lt_trichotomy i j with h1 | h1 | h1
 ·have:=Z2 h hn h1;omega
 ·exact h1
 ·have:=Z2 h' EL h1;omega
def qM(t:TI)(rows:Rows)(x y:PV)(c0 d:Nat)(v:PV)(u:Option (Nat × Row)):Prop:=
 match t with
 | .slice e n b _=>∃l,tG rows y l∧(∀e∈l,e.length=n) ∧
  match x with
  | .nil=>l.length≤room∧l.length*b≤room∧v = .own d c0 0 l.length∧u=some (d,⟨c0,e,n,l⟩)
  | .own id ver off len=>∃r,rows id=some r∧r.ver=ver∧off=0∧len≤r.els.length∧r.e=e∧r.size=n∧len+l.length≤room∧(len+l.length)*b≤room ∧
    v = .own id c0 0 (len+l.length)∧u=some (id,⟨c0,e,n,r.els.take len++l⟩)
  | _=>False
 | _=>False
def ag5(E:Env)(g:FuncId)(args:List PV)(c0 d:Nat)(v:PV)(u:Option (Nat × Row)):Prop:=
 args.all fV=true ∧ ∃e n els,oB E.P g args e n els∧v = .own d c0 0 els.length∧u=some (d,⟨c0,e,n,els⟩)
def yn(E:Env)(c0:Nat)(d:Option Tmp)(op:Op)(ρ:Operand→PV)(rows:Rows)(v:PV)(u:Option (Nat × Row)):Prop:=
 match op with
 | .alloc t=>(E.ty t).known=true∧v = .ptr (d.getD 0) c0 0 0∧u=some (d.getD 0,⟨c0,t,(E.ty t).size,[(E.ty t).zero]⟩)
 | .box t x=>(E.ty t).known=true ∧ ∃l,cD (ρ x)=some l∧(∀q∈l,iP (fun _=>none) q)∧l.length=(E.ty t).size∧v = .ptr (d.getD 0) c0 0 0∧u=some (d.getD 0,⟨c0,t,(E.ty t).size,[l]⟩)
 | .makeSlice t l c =>
  match E.ty t,ρ l,ρ c with
  | .slice e n b z, .int _ x, .int _ y=>0≤x∧x≤y∧y.toNat≤room∧y.toNat*b≤room∧v = .own (d.getD 0) c0 0 x.toNat∧u=some (d.getD 0,⟨c0,e,n,List.replicate x.toNat z⟩)
  | _,_,_=>False
 | .call { callee:=.builtin .append,args:=⟨[x,y]⟩,argTypes:=⟨[t,t2]⟩ }=>(t2=t∨ZP (E.ty t2)=true)∧qM (E.ty t) rows (ρ x) (ρ y) c0 (d.getD 0) v u
 | .call { callee:=.value (.func g),args:=aEy,argTypes:=ts }=>if E.writes g=true then ag5 E g (aEy.toList.map fun x=>ρ x) c0 (d.getD 0) v u else ys E (.call { callee:=.value (.func g),args:=aEy,argTypes:=ts }) ρ rows v u
 | op=>ys E op ρ rows v u
theorem AX{E:Env}{c0:Nat}{d:Option Tmp}{op:Op}{ρ:Operand→PV}{rows:Rows}{v:PV}{u:Option (Nat × Row)}(h:dR E op=false):yn E c0 d op ρ rows v u=ys E op ρ rows v u:=by
 unfold yn
 split
 all_goals first
  | rfl
  | (simp [dR]at h;done)
  | (simp only [dR]at h;rw [if_neg (by rw [h];decide)])
theorem mR{E:Env}{op:Op}{C:Prop}(h:dR E op=true)(h1:∀t,op = .alloc t→C)(h2:∀t x,op = .box t x→C)(h3:∀t l c,op = .makeSlice t l c→C)
  (h4:∀x y t t2,op = .call { callee:=.builtin .append,args:=⟨[x,y]⟩,argTypes:=⟨[t,t2]⟩ }→C) (h5:∀g aEy ts,op = .call { callee:=.value (.func g),args:=aEy,argTypes:=ts }→E.writes g=true→C):C:=by
 unfold dR at h
 split at h
 ·exact h1 _ rfl
 ·exact h2 _ _ rfl
 ·exact h3 _ _ _ rfl
 ·exact h4 _ _ _ _ rfl
 ·exact h5 _ _ _ rfl h
 ·cases h
theorem aeo{rows rows':Rows}{y:PV}{l:List (List PV)}(h:jT (a9 y) rows rows')(hy:tG rows y l):tG rows' y l ∧ ∀id∈a9 y,∃r,rows id=some r:=by
 unfold tG at *
 cases y with
 | own id ver off len =>
  obtain⟨r,hr,hh⟩:=hy
  exact⟨⟨r,h id (by simp [a9]) r hr,hh⟩,by simp [a9];exact⟨r,hr⟩⟩
 | nil=>exact⟨hy,by simp [a9]⟩
 | sl l=>exact⟨hy,by simp [a9]⟩
 | jB l=>exact⟨hy,by simp [a9]⟩
 | _=>exact hy.elim
theorem Z3{t:TI}{rows rows':Rows}{x y v:PV}{c0 d:Nat}{u:Option (Nat × Row)}(h:jT (a9 x++a9 y) rows rows')(hy:qM t rows x y c0 d v u):qM t rows' x y c0 d v u ∧ ∀id∈a9 x++a9 y,∃r,rows id=some r:=by
 unfold qM at *
 cases t with
 | slice e n b z =>
  obtain⟨l,h1,h2,h3⟩:=hy
  obtain⟨g1,g2⟩:=aeo (fun id iA=>h id (by simp only [List.mem_append];exact .inr iA)) h1
  cases x with
  | nil=>exact⟨⟨l,g1,h2,h3⟩,fun id iA=>g2 id (by simpa [a9]using iA)⟩
  | own id ver off len =>
   obtain⟨r,hr,hh⟩:=h3
   refine⟨⟨l,g1,h2,r,h id (by simp [a9]) r hr,hh⟩,fun jO iA=>?_⟩
   simp only [a9,List.mem_append,List.mem_cons,List.not_mem_nil,or_false]at iA
   rcases iA with rfl | iA
   ·exact⟨r,hr⟩
   ·exact g2 jO iA
  | _=>exact h3.elim
 | _=>exact hy.elim
theorem SD{E:Env}{c0:Nat}{d:Option Tmp}{op:Op}{ρ:Operand→PV}{rows rows':Rows}{v:PV}{u:Option (Nat × Row)}(h:jT (iK op ρ) rows rows')(hy:yn E c0 d op ρ rows v u) :
  yn E c0 d op ρ rows' v u∧(∀id∈iK op ρ,∃r,rows id=some r) ∧ ∀id r,u=some (id,r)→(dR E op=true∧id=d.getD 0)∨id∈iK op ρ:=by
 cases hn:dR E op with
 | false =>
  rw [AX hn]at hy ⊢
  obtain⟨h1,h2,h3⟩:=ag4 h hy
  exact⟨h1,h2,fun id r hu => .inr (h3 id r hu)⟩
 | true =>
  refine mR hn ?_ ?_ ?_ ?_ ?_
  ·rintro t rfl
   refine⟨hy,by simp [iK],fun id r hu => .inl ⟨by first | trivial | rfl,?_⟩⟩
   obtain⟨_,_,rfl⟩:=hy
   simp at hu;exact hu.1.symm
  ·rintro t x rfl
   refine⟨hy,by simp [iK],fun id r hu => .inl ⟨by first | trivial | rfl,?_⟩⟩
   obtain⟨_,_,_,_,_,_,rfl⟩:=hy
   simp at hu;exact hu.1.symm
  ·rintro t l c rfl
   refine⟨hy,by simp [iK],fun id r hu => .inl ⟨by first | trivial | rfl,?_⟩⟩
   simp only [yn]at hy
   split at hy
   ·obtain⟨_,_,_,_,_,rfl⟩:=hy
    simp at hu;exact hu.1.symm
   ·exact hy.elim
  ·rintro x y t t2 rfl
   simp only [yn,iK]at hy h ⊢
   obtain⟨h2,h3⟩:=hy
   obtain⟨g1,g2⟩:=Z3 h h3
   refine⟨⟨h2,g1⟩,g2,fun id r hu=>?_⟩
   unfold qM at h3
   split at h3
   ·obtain⟨l,_,_,h3⟩:=h3
    split at h3
    ·obtain⟨_,_,_,rfl⟩:=h3
     simp at hu;exact .inl ⟨by first | trivial | rfl,hu.1.symm⟩
    ·rename_i hx
     obtain⟨_,_,_,_,_,_,_,_,_,_,rfl⟩:=h3
     simp at hu
     rw [hx]
     exact .inr (by simp [a9,hu.1])
    ·exact h3.elim
   ·exact h3.elim
  ·rintro g aEy ts rfl hw
   simp only [yn]at hy ⊢
   rw [if_pos hw]at hy
   rw [if_pos hw]
   refine⟨hy,by simp [iK],fun id r hu => .inl ⟨by first | trivial | exact hw,?_⟩⟩
   obtain⟨_,_,_,_,_,_,rfl⟩:=hy
   simp at hu;exact hu.1.symm
open Classical in
noncomputable def eM(md:Region.Mode)(ops:List Oper)(j:Nat)(wl:Nat→Nat→Prop)(rows:Rows):Rows:=fun id=>if ∃k,wl k id∧oT md ops j k=false then none else rows id
theorem kH{md:Region.Mode}{ops:List Oper}{j id:Nat}{wl:Nat→Nat→Prop}{rows:Rows}{r:Row}:eM md ops j wl rows id=some r↔(∀k,wl k id→oT md ops j k=true)∧rows id=some r:=by
 unfold eM
 split
 ·rename_i h
  obtain⟨k,h1,h2⟩:=h
  simp only [reduceCtorEq,false_iff,not_and]
  intro h3
  rw [h3 k h1]at h2;cases h2
 ·rename_i h
  refine⟨fun h2=>⟨fun k hk=>?_,h2⟩,fun h2=>h2.2⟩
  cases hd:oT md ops j k with
  | true=>rfl
  | false=>exact absurd ⟨k,hk,hd⟩ h
def AY(md:Region.Mode)(ops:List Oper)(i id:Nat)(bV:Nat→Nat→Prop):Prop:=∀k,bV k id→oT md ops i k=true
def VS(md:Region.Mode)(ops:List Oper)(i:Nat)(u:Option (Nat × Row))(bV:Nat→Nat→Prop):Prop:=
 match u with
 | none=>True
 | some (id,_)=>AY md ops i id bV
def gOK(ops:Array Oper)(o:Oper)(f:Nat→PV)(b:Bool):Prop:=
 match o.guard with
 | none=>b=true
 | some (j,want)=>∃d,(ops[j]?).bind (·.dst)=some d∧((f d = .bool want∧b=true)∨((f d = .bool (!want)∨f d = .fG [])∧b=false))
def YG(E:Env)(md:Region.Mode)(ops:Array Oper)(c0:Nat)(i:Nat)(o:Oper)(b:Bool)(v:PV)(u:Option (Nat × Row))(st:ST):Prop:=
 gOK ops o st.f b∧if b=true then yn E (c0+rk E ops.toList i) o.dst o.op (aS st.f) (eM md ops.toList i st.wl st.rows) v u else v = .fG []∧u=none
def wlU(i:Nat)(u:Option (Nat × Row))(wl:Nat→Nat→Prop):Nat→Nat→Prop:=
 match u with
 | none=>wl
 | some (id,_)=>fun k jO=>(k=i∧jO=id)∨wl k jO
def app(i:Nat)(o:Oper)(b:Bool)(v:PV)(u:Option (Nat × Row))(st:ST):ST:=
 { f:=put st.f o.dst v,rows:=gB st.rows u,bV:=fun k id=>(b=true∧k=i∧id∈iK o.op (aS st.f))∨st.bV k id,wl:=wlU i u st.wl }
def iL(E:Env)(op:Op)(clk:Nat):Nat:=
 match op with
 | .alloc _=>clk+1
 | .box _ _=>clk+1
 | .makeSlice _ _ _=>clk+1
 | .call { callee:=.builtin .append,args:=⟨[_,_]⟩,argTypes:=⟨[_,_]⟩ }=>clk+1
 | .call { callee:=.value (.func g),args:=_,argTypes:=_ }=>if E.writes g=true then clk+1 else clk
 | _=>clk
theorem AZ{E:Env}{op:Op}{clk:Nat}(h:dR E op=false):iL E op clk=clk:=by
 unfold iL
 split
 all_goals first
  | rfl
  | (simp [dR]at h;done)
  | (simp only [dR]at h;rw [if_neg (by rw [h];decide)])
theorem Z4{E:Env}{op:Op}{clk:Nat}(h:dR E op=true):iL E op clk=clk+1:=by
 refine mR h ?_ ?_ ?_ ?_ ?_
 ·rintro t rfl;rfl
 ·rintro t x rfl;rfl
 ·rintro t l c rfl;rfl
 ·rintro x y t t2 rfl;rfl
 ·rintro g aEy ts rfl hw;simp only [iL];rw [if_pos hw]
theorem aeq{E:Env}{ops:List Oper}{i c0:Nat}{o:Oper}(h:ops[i]? = some o):iL E o.op (c0+rk E ops i)=c0+rk E ops (i+1):=by
 rw [SC h]
 cases hn:dR E o.op with
 | false=>rw [AZ hn];simp
 | true=>rw [Z4 hn];simp;omega
def Z5(E:Env)(md:Region.Mode)(ops:Array Oper)(c0:Nat)(i:Nat)(K:ST→Prop)(st:ST):Prop:=
 match ops[i]? with
 | none=>K st
 | some o=>∃b v u,YG E md ops c0 i o b v u st∧VS md ops.toList i u st.bV∧K (app i o b v u st)
section
variable {E:Env} {ops:Array Oper} {md:Region.Mode}
theorem Z6{c0 i:Nat}{K K':ST→Prop}{st:ST}(h:∀st,K st→K' st)(hh:Z5 E md ops c0 i K st):Z5 E md ops c0 i K' st:=by
 unfold Z5 at *
 split
 ·exact h _ (by simpa [*]using hh)
 ·rename_i o ho
  simp only [ho]at hh
  obtain⟨b,v,u,h1,h2,h3⟩:=hh
  exact⟨b,v,u,h1,h2,h _ h3⟩
theorem SE{f:Nat→PV}{d:Option Tmp}{v:PV}{x:Operand}(h:∀t,d=some t→x ≠ .tmp t):aS (put f d v) x=aS f x:=by
 cases d with
 | none=>rfl
 | some t =>
  cases x with
  | tmp s =>
   have:s≠t:=fun e=>h t rfl (by rw [e])
   simp [aS,put,this]
  | _=>rfl
theorem Z7{op:Op}{ρ ρ':Operand→PV}{rows:Rows}{v:PV}{u:Option (Nat × Row)}(h:∀x∈op.operands,ρ x=ρ' x):ys E op ρ rows v u↔ys E op ρ' rows v u:=by
 have parts:∀ps:Array (Nat × Operand),(∀x∈(ps.toList.map (·.2)).toArray,ρ x=ρ' x)→(ps.toList.map fun x=>(x.1,ρ x.2))=ps.toList.map fun x=>(x.1,ρ' x.2):=fun ps hp =>
  List.map_congr_left fun p hm=>by rw [hp p.2 (by simp;exact⟨p.1,by simpa using hm⟩)]
 have args:∀(c:Call),(∀x∈c.operands,ρ x=ρ' x) → ∀x∈c.args.toList,ρ x=ρ' x:=fun c hc x hx=>hc x (by simp [Call.operands];exact .inr (by simpa using hx))
 unfold ys
 split
 ·rename_i t p x
  rw [h p (by simp [Op.operands]),h x (by simp [Op.operands])]
 ·rename_i t len ps
  rw [parts ps (by simpa [Op.operands]using h)]
 ·rename_i f aEy ts
  have ha:=args _ (by simpa [Op.operands]using h)
  simp only at ha
  rw [h f (by simp [Op.operands,Call.operands]),List.map_congr_left (g:=fun x=>pz rows (ρ' x)) fun x hx=>by rw [ha x hx]]
  have:(aEy.toList.flatMap fun x=>dW (ρ x))=aEy.toList.flatMap fun x=>dW (ρ' x):=by
   rw [List.flatMap_def,List.flatMap_def]
   congr 1
   exact List.map_congr_left fun x hx=>by rw [ha x hx]
  rw [this]
 ·suffices hs:yv E op ρ rows v↔yv E op ρ' rows v by rw [hs]
  unfold yv
  split
  case h_12 =>
   rename_i t x lo hi mx _ _ _
   have o1:∀y:Option Operand,(∀z,y=some z→ρ z=ρ' z)→y.map ρ=y.map ρ':=by
    intro y hy;cases y with
    | none=>rfl
    | some z=>simp [hy z rfl]
   rw [h x (by simp [Op.operands]),o1 lo fun z hz=>h z (by subst hz;simp [Op.operands]),o1 hi fun z hz=>h z (by subst hz;simp [Op.operands]),o1 mx fun z hz=>h z (by subst hz;simp [Op.operands])]
  case h_13=>rename_i t ps _ _ _;rw [parts ps (by simpa [Op.operands]using h)]
  case h_15 =>
   rename_i f cL _ _ _
   rw [List.map_congr_left (l:=cL.toList) (f:=fun x=>ρ x) (g:=fun x=>ρ' x) fun x hx=>h x (by simp [Op.operands];simpa using hx)]
  all_goals first
   | rfl
   | (simp only [Op.operands,Call.operands]at h;simp [h])
theorem A3{op:Op}{ρ ρ':Operand→PV}(h:∀x∈op.operands,ρ x=ρ' x):iK op ρ=iK op ρ':=by
 unfold iK
 split
 all_goals first
  | rfl
  | (simp only [Op.operands,Call.operands]at h;simp [h])
theorem JI{c0:Nat}{d:Option Tmp}{op:Op}{ρ ρ':Operand→PV}{rows:Rows}{v:PV}{u:Option (Nat × Row)}(h:∀x∈op.operands,ρ x=ρ' x):yn E c0 d op ρ rows v u↔yn E c0 d op ρ' rows v u:=by
 cases hn:dR E op with
 | false=>rw [AX hn,AX hn];exact Z7 h
 | true =>
  refine mR hn ?_ ?_ ?_ ?_ ?_
  ·rintro t rfl;exact Iff.rfl
  ·rintro t x rfl
   simp only [yn]
   rw [h x (by simp [Op.operands])]
  ·rintro t l c rfl
   simp only [yn]
   rw [h l (by simp [Op.operands]),h c (by simp [Op.operands])]
  ·rintro x y t t2 rfl
   simp only [yn]
   rw [h x (by simp [Op.operands,Call.operands]),h y (by simp [Op.operands,Call.operands])]
  ·rintro g aEy ts rfl hw
   simp only [yn]
   rw [if_pos hw,if_pos hw,List.map_congr_left (l:=aEy.toList) (f:=fun x=>ρ x) (g:=fun x=>ρ' x) fun x hx=>h x (by simp [Op.operands,Call.operands];exact .inr (by simpa using hx))]
theorem JJ{o:Oper}{d:Tmp}{x:Operand}(h:d ∉ o.looksAt ops)(hx:x∈o.op.operands):x ≠ .tmp d:=by
 rintro rfl
 exact h (List.mem_append_left _ (List.mem_filterMap.2 ⟨.tmp d,by simpa using hx,rfl⟩))
theorem OH{c:Cx}:aK c (.fG []) undef:=by
 show dC c.S c.w (.fG []) undef
 simp only [dC]
 exact⟨[],rfl,rfl⟩
theorem iD{c:Cx}{tmps:Array Value}{j:Nat}{d:Tmp}{t:Bool}(h1:(ops[j]?).bind (·.dst)=some d)(h:aK c (.bool t) (tmps.getD d undef)):yielded ops tmps j=some t:=by
 rw [dP]at h
 unfold yielded
 rw [h1]
 simp only [Option.bind_some]
 cases hx:tmps[d]? with
 | none=>simp [hx]at h;cases h
 | some y =>
  have hy:y = .bool t:=by simpa [hx]using h
  rw [hy]
theorem tI{c:Cx}{tmps:Array Value}{j:Nat}{d:Tmp}(h1:(ops[j]?).bind (·.dst)=some d)(h:aK c (.fG []) (tmps.getD d undef)):yielded ops tmps j=none:=by
 have h2:tmps.getD d undef = .tuple #[]:=by
  have h3:dC c.S c.w (.fG []) (tmps.getD d undef):=h
  simp only [dC]at h3
  obtain⟨vs,h4,h5⟩:=h3
  simp only [bH]at h5
  rw [h4,h5]
 unfold yielded
 rw [h1]
 simp only [Option.bind_some]
 cases hx:tmps[d]? with
 | none=>rfl
 | some y =>
  have hy:y = .tuple #[]:=by simpa [hx]using h2
  rw [hy]
theorem SG{o:Oper}{f:Nat→PV}{dd:Option Tmp}{v:PV}{b:Bool}(h:∀d,dd=some d→d ∉ o.looksAt ops):gOK ops o (put f dd v) b↔gOK ops o f b:=by
 unfold gOK
 cases hg:o.guard with
 | none=>rfl
 | some g =>
  obtain⟨j,want⟩:=g
  simp only
  have key:∀d,(ops[j]?).bind (·.dst)=some d→put f dd v d=f d:=by
   intro d h1
   cases dd with
   | none=>rfl
   | some e =>
    have pS:d≠e:=by
     rintro rfl
     exact h d rfl (List.mem_append_right _ (by simp [hg,h1]))
    simp [put,pS]
  constructor
  ·rintro⟨d,h1,h2⟩
   rw [key d h1]at h2
   exact⟨d,h1,h2⟩
  ·rintro⟨d,h1,h2⟩
   rw [←key d h1]at h2
   exact⟨d,h1,h2⟩
theorem put_comm{f:Nat→PV}{x y:Option Tmp}{v u:PV}(h:∀d,x=some d→y≠some d):put (put f x v) y u=put (put f y u) x v:=by
 cases x with
 | none=>rfl
 | some d =>
  cases y with
  | none=>rfl
  | some e =>
   have pS:d≠e:=fun he=>h d rfl (by rw [he])
   funext j
   simp only [put]
   split<;>split<;>simp_all
theorem A4{rows:Rows}{u:Option (Nat × Row)}{j:Nat}(h:∀r,u≠some (j,r)):gB rows u j=rows j:=by
 cases u with
 | none=>rfl
 | some x =>
  obtain⟨i,r⟩:=x
  simp only [gB,dX]
  rw [if_neg]
  rintro rfl
  exact h r rfl
theorem oU{i:Nat}{u:Option (Nat × Row)}{wl:Nat→Nat→Prop}{k id:Nat}:wlU i u wl k id↔(k=i ∧ ∃r,u=some (id,r))∨wl k id:=by
 cases u with
 | none=>simp [wlU]
 | some x =>
  obtain⟨jO,r⟩:=x
  simp only [wlU,Option.some.injEq,Prod.mk.injEq]
  constructor
  ·rintro(⟨h1,h2⟩ | h)
   ·exact .inl ⟨h1,r,h2.symm,rfl⟩
   ·exact .inr h
  ·rintro(⟨h1,r',h2,_⟩ | h)
   ·exact .inl ⟨h1,h2.symm⟩
   ·exact .inr h
theorem GK{i:Nat}{u:Option (Nat × Row)}{bV:Nat→Nat→Prop}:VS md ops.toList i u bV ↔ ∀id r,u=some (id,r) → ∀k,bV k id→oT md ops.toList i k=true:=by
 cases u with
 | none=>simp [VS]
 | some x =>
  obtain⟨jO,r⟩:=x
  simp only [VS,AY,Option.some.injEq,Prod.mk.injEq]
  constructor
  ·rintro h _ _ ⟨rfl,_⟩;exact h
  ·intro h;exact h _ _ ⟨rfl,rfl⟩
theorem aer{c0 i j:Nat}{oi oj:Oper}{bi:Bool}{vi:PV}{ui:Option (Nat × Row)}(hj:ops[j]? = some oj)(ZK:oi.apart ops oj=true)(hds:dR E oi.op=true→oi.dst.isSome=true)(au8:dR E oj.op=true→oj.dst.isSome=true)(hdj:oT md ops.toList j i=false){K:ST→Prop}{st:ST}
  (hy:YG E md ops c0 i oi bi vi ui st) (ho:VS md ops.toList i ui st.bV) (h:Z5 E md ops c0 j K (app i oi bi vi ui st)) :
  Z5 E md ops c0 j (fun SH=>YG E md ops c0 i oi bi vi ui SH∧VS md ops.toList i ui SH.bV∧K (app i oi bi vi ui SH)) st:=by
 obtain⟨h1,h2,h3⟩:=Oper.apart_spec ZK
 unfold Z5 at h ⊢
 simp only [hj]at h ⊢
 obtain⟨bj,vj,uj,⟨hgj,hyj⟩,hoj,hK⟩:=h
 obtain⟨hgi,NC⟩:=hy
 rw [GK]at hoj ho
 have ej:∀x∈oj.op.operands,aS (put st.f oi.dst vi) x=aS st.f x:=fun x hx=>SE fun t ht=>JJ (h1 t ht) hx
 have ei:∀x∈oi.op.operands,aS (put st.f oj.dst vj) x=aS st.f x:=fun x hx=>SE fun t ht=>JJ (h3 t ht) hx
 have au9:gOK ops oj st.f bj:=(SG h1).1 hgj
 have hnw:∀id r,eM md ops.toList j (app i oi bi vi ui st).wl (app i oi bi vi ui st).rows id=some r → ∀r',ui≠some (id,r'):=by
  intro id r hr r' hu
  obtain⟨hw,_⟩:=kH.1 hr
  have:=hw i (oU.2 (.inl ⟨rfl,r',hu⟩))
  rw [hdj]at this;cases this
 have hle:∀ids,jT ids (eM md ops.toList j (app i oi bi vi ui st).wl (app i oi bi vi ui st).rows) (eM md ops.toList j st.wl st.rows):=by
  intro ids id _ r hr
  have hn:=hnw id r hr
  obtain⟨hw,jP⟩:=kH.1 hr
  simp only [app]at jP hw
  rw [A4 hn]at jP
  exact kH.2 ⟨fun k hk=>hw k (oU.2 (.inr hk)),jP⟩
 have ava:(if bj=true then yn E (c0+rk E ops.toList j) oj.dst oj.op (aS st.f) (eM md ops.toList j st.wl st.rows) vj uj else vj = .fG []∧uj=none) ∧
   (bj=true → ∀id∈iK oj.op (aS st.f),∃r,eM md ops.toList j (app i oi bi vi ui st).wl (app i oi bi vi ui st).rows id=some r)∧(∀id r,uj=some (id,r)→bj=true∧((dR E oj.op=true∧id=oj.dst.getD 0)∨id∈iK oj.op (aS st.f))):=by
  by_cases hb:bj=true
  ·rw [if_pos hb]at hyj ⊢
   have aes:=(JI ej).1 hyj
   obtain⟨g1,g2,g3⟩:=SD (hle _) aes
   exact⟨g1,fun _=>g2,fun id r hu=>⟨hb,g3 id r hu⟩⟩
  ·rw [if_neg hb]at hyj ⊢
   exact⟨hyj,fun h=>absurd h hb,fun id r hu=>by rw [hyj.2]at hu;cases hu⟩
 obtain⟨avb,aes,avc⟩:=ava
 have avd:VS md ops.toList j uj st.bV:=GK.2 fun id r hu k hk=>hoj id r hu k (.inr hk)
 have hfi:∀id r,uj=some (id,r)→¬(bi=true∧id∈iK oi.op (aS st.f)):=by
  intro id r hu hh
  have:=hoj id r hu i (.inl ⟨hh.1,rfl,hh.2⟩)
  rw [hdj]at this;cases this
 have hui:∀id r,ui=some (id,r)→bi=true∧((dR E oi.op=true∧id=oi.dst.getD 0)∨id∈iK oi.op (aS st.f)):=by
  intro id r hu
  by_cases hb:bi=true
  ·rw [if_pos hb]at NC
   exact⟨hb,(SD (rows':=eM md ops.toList i st.wl st.rows) (fun id _ r hr=>hr) NC).2.2 id r hu⟩
  ·rw [if_neg hb]at NC
   rw [NC.2]at hu;cases hu
 have pS:∀id r r',ui=some (id,r)→uj=some (id,r')→False:=by
  intro id r r' hu1 hu2
  obtain⟨hb,hh⟩:=avc id r' hu2
  rcases hh with hh | hh
  ·obtain⟨JF,hh1⟩:=hui id r hu1
   rcases hh1 with hh1 | hh1
   ·obtain⟨d,hd⟩:=Option.isSome_iff_exists.1 (hds hh1.1)
    have e1:id=d:=by rw [hh1.2,hd];rfl
    cases ajq:oj.dst with
    | none=>exact absurd ajq (fun he=>by have:=au8 hh.1;rw [he]at this;cases this)
    | some d' =>
     have e2:id=d':=by rw [hh.2,ajq];rfl
     exact h2 d hd (by rw [ajq,←e2,e1])
   ·exact hfi id r' hu2 ⟨JF,hh1⟩
  ·obtain⟨r'',ave⟩:=aes hb id hh
   exact hnw id r'' ave r hu1
 have avf:bi=true→jT (iK oi.op (aS st.f)) (eM md ops.toList i st.wl st.rows) (eM md ops.toList i (app j oj bj vj uj st).wl (app j oj bj vj uj st).rows):=by
  intro hb id iA r hr
  obtain⟨hw,jP⟩:=kH.1 hr
  have hn:∀r',uj≠some (id,r'):=fun r' hu=>hfi id r' hu ⟨hb,iA⟩
  refine kH.2 ⟨fun k hk=>?_,?_⟩
  ·rcases oU.1 hk with ⟨_,r',hu⟩ | hk
   ·exact absurd hu (hn r')
   ·exact hw k hk
  ·simp only [app];rw [A4 hn];exact jP
 refine⟨bj,vj,uj,⟨au9,avb⟩,avd,⟨(SG h3).2 hgi,?_⟩,?_,?_⟩
 ·by_cases hb:bi=true
  ·rw [if_pos hb]at NC ⊢
   refine(JI ei).2 ?_
   exact(SD (avf hb) NC).1
  ·rw [if_neg hb]at NC ⊢;exact NC
 ·-- i's own row has not aBg ath
  rw [GK]
  rintro id r hu k (⟨hb,rfl,hh⟩ | hh)
  ·obtain⟨r',jP⟩:=aes hb id hh
   exact absurd hu (hnw id r' jP r)
  ·exact ho id r hu k hh
 ·have:app i oi bi vi ui (app j oj bj vj uj st)=app j oj bj vj uj (app i oi bi vi ui st):=by
   simp only [app,ST.mk.injEq]
   refine⟨put_comm fun d hd=>fun Z8=>(h2 d) (by first | exact hd | exact Z8) (by first | exact Z8 | exact hd),?_,?_,?_⟩
   ·cases ui with
    | none=>rfl
    | some x =>
     cases uj with
     | none=>rfl
     | some y =>
      obtain⟨id,r⟩:=x
      obtain⟨jO,r'⟩:=y
      have:id≠jO:=fun e=>pS id r r' rfl (by rw [e])
      funext k
      simp only [gB,dX]
      split<;>split<;>simp_all
   ·funext k id
    have e1:iK oi.op (aS (put st.f oj.dst vj))=iK oi.op (aS st.f):=A3 ei
    have e2:iK oj.op (aS (put st.f oi.dst vi))=iK oj.op (aS st.f):=A3 ej
    rw [e1,e2]
    apply propext
    constructor
    ·rintro(h | h | h)
     ·exact .inr (.inl h)
     ·exact .inl h
     ·exact .inr (.inr h)
    ·rintro(h | h | h)
     ·exact .inr (.inl h)
     ·exact .inl h
     ·exact .inr (.inr h)
   ·funext k id
    apply propext
    rw [oU,oU,oU,oU]
    constructor
    ·rintro(h | h | h)
     ·exact .inr (.inl h)
     ·exact .inl h
     ·exact .inr (.inr h)
    ·rintro(h | h | h)
     ·exact .inr (.inl h)
     ·exact .inl h
     ·exact .inr (.inr h)
  rw [this];exact hK
theorem JK{j k:Nat}:VR md ops.toList j k=true ↔ ∃oj,ops[j]? = some oj ∧ ∃e∈oj.after,Region.binds md e=true∧e.on=k:=by
 unfold VR
 cases h:ops[j]? with
 | none=>simp [show ops.toList[j]? = none by simpa using h]
 | some oj =>
  rw [show ops.toList[j]? = some oj by simpa using h]
  simp only [List.any_eq_true,Bool.and_eq_true,beq_iff_eq,Option.some.injEq]
  constructor
  ·rintro⟨e,he,h1,h2⟩;exact⟨oj,rfl,e,by simpa using he,h1,h2⟩
  ·rintro⟨_,rfl,e,he,h1,h2⟩;exact⟨e,by simpa using he,h1,h2⟩
theorem aet{n j i:Nat}{oj:Oper}{bB:Array Bool}(hj:ops[j]? = some oj)(inv:HeadInv md ops n bB)(hr:∀e∈oj.after,Region.binds md e=true→bB.getD e.on false=true)(SI:bB.getD i false=false):oT md ops.toList j i=false:=by
 have one:∀k,VR md ops.toList j k=true→bB.getD k false=true:=fun k hk=>by
  obtain⟨o,ho,e,he,h1,rfl⟩:=JK.1 hk
  rw [hj]at ho;cases ho
  exact hr e he h1
 cases hd:oT md ops.toList j i with
 | false=>rfl
 | true =>
  exfalso
  unfold oT at hd
  rcases Bool.or_eq_true_iff.1 hd with h | h
  ·rw [one i h]at SI;cases SI
  ·obtain⟨k,_,hk⟩:=List.any_eq_true.1 h
   obtain⟨h1,h2⟩:=Bool.and_eq_true_iff.1 hk
   obtain⟨o,ho,e,he,h3,rfl⟩:=JK.1 h2
   rw [inv.closed k o ho (one k h1) e he h3]at SI;cases SI
end
section
variable {E:Env} {ops:Array Oper} {md:Region.Mode}
def JL(E:Env)(md:Region.Mode)(ops:Array Oper)(c0 n:Nat)(L:Array Bool→ST→Prop):Nat→Array Bool→ST→Prop
 | 0,bB,st=>L bB st
 | f+1,bB,st=>Region.ready md ops bB ≠ [] ∧ ∀i∈Region.ready md ops bB,i<n∧Z5 E md ops c0 i (JL E md ops c0 n L f (bB.setIfInBounds i true)) st
theorem JM{c0 n i:Nat}{oi:Oper}{b:Bool}{v:PV}{u:Option (Nat × Row)}{L:Array Bool→ST→Prop}(hi:ops[i]? = some oi)(qI:∀i oi,i<n→ops[i]? = some oi→dR E oi.op=true→oi.dst.isSome=true)
  (A5:∀bB,HeadInv md ops n bB → ∀i,i<n→bB.getD i true=false → ∀t,n≤t→t ∉ Region.ready md ops bB) (hin:i<n)
  (apb:∀bB st,L bB st → ∀j∈Region.ready md ops bB,n≤j) :
  ∀(f:Nat) (bB:Array Bool) (st:ST),HeadInv md ops n bB →
   (∀j oj,ops[j]? = some oj→j≠i→bB.getD j true=false→(∀e∈oj.after,Region.binds md e=true→e.on≠i)→oi.apart ops oj=true) →
   i∈Region.ready md ops bB→YG E md ops c0 i oi b v u st→VS md ops.toList i u st.bV →
   JL E md ops c0 n L f (bB.setIfInBounds i true) (app i oi b v u st)→JL E md ops c0 n L (f+1) bB st:=by
 intro f
 induction f with
 | zero =>
  intro bB st inv _ hr hy ho H
  have SI:=(mem_ready.1 hr).1
  refine⟨fun h=>(by rw [h]at hr;cases hr),fun j hj=>?_⟩
  have hjn:j<n:=by
   rcases Nat.lt_or_ge j n with h | h
   ·exact h
   ·exact absurd hj (A5 bB inv i hin SI j h)
  refine⟨hjn,?_⟩
  by_cases hji:j=i
  ·subst hji;unfold Z5;simp only [hi];exact⟨b,v,u,hy,ho,H⟩
  ·have:=apb _ _ H j (ready_mono hj hji)
   omega
 | succ f ih =>
  intro bB st inv ag8 hr hy ho H
  have SI:=(mem_ready.1 hr).1
  refine⟨fun h=>(by rw [h]at hr;cases hr),fun j hj=>?_⟩
  have hjn:j<n:=by
   rcases Nat.lt_or_ge j n with h | h
   ·exact h
   ·exact absurd hj (A5 bB inv i hin SI j h)
  refine⟨hjn,?_⟩
  by_cases hji:j=i
  ·subst hji;unfold Z5;simp only [hi];exact⟨b,v,u,hy,ho,H⟩
  ·have h1:=(H.2 j (ready_mono hj hji)).2
   obtain⟨apd,oj,hoj,tJ⟩:=mem_ready.1 hj
   have avg:∀e∈oj.after,Region.binds md e=true→e.on≠i:=fun e he hb heq=>by
    have h1:=tJ e he hb
    rw [heq,getD_both SI]at h1
    cases h1
   have h2:=aer hoj (ag8 j oj hoj hji apd avg) (qI i oi hin hi) (qI j oj hjn hoj) (aet hoj inv tJ (getD_both SI)) hy ho h1
   have ajr:∀k ok,ops[k]? = some ok→k≠i→(bB.setIfInBounds j true).getD k true=false →
     (∀e∈ok.after,Region.binds md e=true→e.on≠i)→oi.apart ops ok=true:=fun k ok hk hki ape hno=>by
    refine ag8 k ok hk hki ?_ hno
    by_cases hjk:j=k
    ·subst hjk;exact apd
    ·rw [getD_set_ne true hjk]at ape;exact ape
   refine Z6 (fun SH h3=>ih (bB.setIfInBounds j true) SH (inv.set hj hjn) ajr (ready_mono hr (Ne.symm hji)) h3.1 h3.2.1 ?_) h2
   rw [Array.setIfInBounds_comm _ _ hji]
   exact h3.2.2
def ajs(E:Env)(md:Region.Mode)(ops:Array Oper)(c0:Nat)(Lq:ST→Prop):Nat→List Oper→ST→Prop
 | _,[],st=>Lq st
 | k,o::os,st=>∃b v u,YG E md ops c0 k o b v u st∧VS md ops.toList k u st.bV∧ajs E md ops c0 Lq (k+1) os (app k o b v u st)
theorem wY{c0 n g:Nat}{Lq:ST→Prop}(qI:∀i oi,i<n→ops[i]? = some oi→dR E oi.op=true→oi.dst.isSome=true)(A5:∀bB,HeadInv md ops n bB → ∀i,i<n→bB.getD i true=false → ∀t,n≤t→t ∉ Region.ready md ops bB) :
  ∀(l:List Oper) (k:Nat) (bB:Array Bool) (st:ST),(∀j,j<l.length→l[j]? = ops[k+j]?)→k+l.length=n→HeadInv md ops n bB →
  Region.lexHead md ops g l.length k bB=true→ajs E md ops c0 Lq k l st →
  JL E md ops c0 n (fun SJ SH=>Region.seqB md ops g n SJ=true∧Lq SH) l.length bB st
 | [],k,bB,st,_,hk,_,hB,h=>by
  have:k=n:=by simpa using hk
  subst this
  exact⟨by simpa [Region.lexHead]using hB,h⟩
 | o::l,k,bB,st,hl,hk,inv,hB,h=>by
  have h0:ops[k]? = some o:=by simpa using(hl 0 (by simp)).symm
  simp only [List.length_cons,Region.lexHead,Bool.and_eq_true]at hB
  obtain⟨⟨hr,hf⟩,hB'⟩:=hB
  have hkn:k<n:=by simp only [List.length_cons]at hk;omega
  have jP:k∈Region.ready md ops bB:=by simpa using hr
  obtain⟨b,v,u,hy,ho,hK⟩:=h
  exact JM h0 qI A5 hkn (fun SJ SH hL=>seqB_ready hL.1) l.length bB st inv (Region.free_spec h0 hf) jP hy ho
   (wY qI A5 l (k+1) _ _ (fun j hj=>by have:=hl (j+1) (by simp;omega);simpa [Nat.add_assoc,Nat.add_comm 1 j]using this) (by simp only [List.length_cons]at hk;omega) (inv.set jP hkn) hB' hK)
variable {w0:World} {S0:dV} {m:Nat} {G:Gs}
theorem OI{o:Oper}{a:Act}{w:World}{f:Nat→PV}{rows:Rows}{U:Nat→Prop}{c0:Nat}{v:PV}{u:Option (Nat × Row)}(SA:¬U c0){g:FuncId}{aEy:Array Operand}{ts:Array TypeId}(ho:o.op = .call { callee:=.value (.func g),args:=aEy,argTypes:=ts })
  (hy:ag5 E g (aEy.toList.map fun x=>aS f x) c0 (o.dst.getD 0) v u) (hR:p7 w0 S0 m G U f rows a w) (hd:∀t,o.dst=some t→t<m)
  {K':Act→World→Prop} {Q:Exit→Act→World→Prop} (hK:∀a' w',p7 w0 S0 m G (fun v=>v=c0∨U v) (put f o.dst v) (gB rows u) a' w'→K' a' w'):o.wp E.P a w K' Q:=by
 obtain⟨⟨c,rfl,hr,fF,hI,hf,hG⟩,hn,fC⟩:=hR
 have hρ:=lJ hf
 have hfu:¬c.used c0:=fun hu=>SA (fF _ hu)
 obtain⟨sY,e,n,els,⟨⟨fn,b,h1,h2,h3⟩,OC⟩,rfl,rfl⟩:=hy
 obtain⟨dst,op,type,pos,after,guard⟩:=o
 simp only at ho hd hK
 subst ho
 have fX:bE (aK c) (aEy.toList.map fun x=>aS f x) (aEy.map a.eval).toList:=by
  refine bE.dO (by simp) fun k p u hp hu=>?_
  simp at hp hu
  obtain⟨x,hx,rfl⟩:=hp
  obtain⟨y,hy,rfl⟩:=hu
  rw [hx]at hy;cases hy
  exact hρ x
 have gI:bH c.S c.w (aEy.toList.map fun x=>aS f x) (aEy.map a.eval).toList:=cZ.2 (bE.dO fX.length fun k p u hp hu=>by
  obtain⟨u',q1,q2⟩:=fX.get hp
  rw [hu]at q1;cases q1
  exact q2.rep (List.all_eq_true.1 sY p (List.mem_of_getElem? hp)))
 have qL:=OC c.w c.S _ (fun b o hb=>hI.lt hb) gI
 simp only [Array.toArray_toList]at qL
 have hfo:=hρ (.func g)
 simp only [aS,aK,aQ,dC]at hfo
 obtain⟨cs,hfv,I0⟩:=hfo
 simp only [bH]at I0
 subst I0
 unfold Oper.wp
 have iZ:(execOp a.eval { dst:=dst,op:=.call { callee:=.value (.func g),args:=aEy,argTypes:=ts },type:=type,pos:=pos,after:=after,guard:=guard }).run E.P c.w = .ok (.enter g (aEy.map a.eval)) c.w:=by
  simp only [execOp,resolve,hfv,Deferred.ofValue,Sem.run_bind,Sem.run_pure,Result.andThen_ok,invoke]
  simpa using lZ h1 h2 h3 (aEy.map a.eval) c.w
 rw [iZ]
 refine qL.mono ?_
 rintro x w' ⟨v',xs,S',rfl,hb,g1,g2,g3,g4,g5,g6,g7,g8⟩
 obtain⟨hI2,hA2⟩:=hI.grow hb g1 g2
 obtain⟨hI3,hA3⟩:=hI2.set (w':=w') (ob:=v'.ownBlock) (id:=dst.getD 0) (r':=⟨c0,e,n,els⟩) (v':=v') (xs:=xs) (World.grownBy.refl _ _)
  (fun g hg=>by
   have VH:=(g3.lt g hg).1
   refine⟨by have:=hI.below.size;omega,fun o=>g8 g o hg,fun jO r hr _ AF=>?_⟩
   obtain⟨⟨ys,q1,_,_⟩,_⟩:=hI.row jO r hr
   have:=(q1.lt g AF).2
   omega) ⟨g3.1,g3.2.imp id fun⟨g,cap,cur,q1,q2,q3⟩=>⟨g,cap,cur,q1,Nat.le_trans hI.below.size q2,q3⟩⟩ (g4.mono fun _ _ h=>aQ.jR h) g5 g6 g7 (fun g hg => .inl hg) hfu
 refine hK _ _ ?_
 have hf2:∀s,aK { c with S:=S',w:=w' } (f s) (a.tmps.getD s undef):=fun s=>aK.tB hA2 _ _ (hf s)
 have hG2:∀p∈G,aK { c with S:=S',w:=w' } p.1 p.2:=fun p hp=>aK.tB hA2 _ _ (hG p hp)
 refine n6 hf2 hG2 hn fC hA3 hI3 ?_ hd rfl (by simp [gB,hr]) (fun v hv=>hv.imp (fun h=>h) (fF v))
 rcases g3.2 with ⟨rfl,h8⟩ | ⟨g,iY,cur,rfl,_⟩
 ·have:els.length=0:=h8
  rw [this]
  exact kU (r:=⟨c0,e,n,els⟩) (A:=none) (cap:=0) (by simp [dX]) (by simpa using h8) (Or.inl rfl) (by simp [dX])
 ·exact kU (r:=⟨c0,e,n,els⟩) (by simp [dX]) rfl (Or.inl rfl) (by simp [dX])
theorem Z9{o:Oper}{a:Act}{w:World}{f:Nat→PV}{rows:Rows}{U:Nat→Prop}{c0:Nat}{v:PV}{u:Option (Nat × Row)}(SA:¬U c0)(hn:dR E o.op=true)(hy:yn E c0 o.dst o.op (aS f) rows v u)(hR:p7 w0 S0 m G U f rows a w)(hd:∀t,o.dst=some t→t<m)
  {K':Act→World→Prop} {Q:Exit→Act→World→Prop} (hK:∀a' w',p7 w0 S0 m G (fun v=>v=c0∨U v) (put f o.dst v) (gB rows u) a' w'→K' a' w'):o.wp E.P a w K' Q:=by
 by_cases qL:∃g aEy ts,o.op = .call { callee:=.value (.func g),args:=aEy,argTypes:=ts }∧E.writes g=true
 ·obtain⟨g,aEy,ts,ho,hw⟩:=qL
  rw [ho]at hy
  simp only [yn]at hy
  rw [if_pos hw]at hy
  exact OI SA ho hy hR hd hK
 refine uT (ver:=c0) SA (K:=fun _ f' rows'=>f'=put f o.dst v∧rows'=gB rows u) ?_ hR hd (fun i f' rows' a' w' h lM=>by
  obtain⟨rfl,rfl⟩:=h
  exact hK a' w' (lM.mono fun v hv=>hv.imp (fun h=>h.2) fun h=>h))
 obtain⟨dst,op,type,pos,after,guard⟩:=o
 simp only at hn hy qL ⊢
 refine mR hn ?_ ?_ ?_ ?_ ?_
 ·rintro t rfl
  simp only [yn]at hy
  obtain⟨h2,rfl,rfl⟩:=hy
  exact⟨h2,rfl,rfl⟩
 ·rintro t x rfl
  simp only [yn]at hy
  obtain⟨h2,l,h3,h4,h5,rfl,rfl⟩:=hy
  exact⟨h2,l,h3,fun q hq=>GJ (fun id _ r hr=>by cases hr) (h4 q hq),h5,rfl,rfl⟩
 ·rintro t l cc rfl
  simp only [yn]at hy
  simp only [nK]
  split at hy
  ·rename_i e n b z k1 x k2 y hE hl hc
   obtain⟨g1,g2,g3,g4,rfl,rfl⟩:=hy
   try rw [hE,hl,hc]
   exact⟨g1,g2,g3,g4,rfl,rfl⟩
  ·exact hy.elim
 ·rintro x y t t2 rfl
  simp only [yn]at hy
  obtain⟨h2,hy⟩:=hy
  simp only [nK]
  refine⟨h2,?_⟩
  unfold qM at hy
  unfold n7
  split at hy
  ·rename_i e n b z hE
   obtain⟨l,g1,g2,g3⟩:=hy
   rw [hE]
   refine⟨l,g1,g2,?_⟩
   split at g3
   ·rename_i hx
    obtain⟨q1,q2,rfl,rfl⟩:=g3
    rw [hx]
    exact⟨q1,q2,rfl,rfl⟩
   ·rename_i id ver off len hx
    obtain⟨r,q1,q2,q3,q4,q5,q6,q7,q8,rfl,rfl⟩:=g3
    rw [hx]
    exact⟨r,q1,q2,q3,q4,q5,q6,q7,q8,rfl,rfl⟩
   ·exact g3.elim
  ·exact hy.elim
 ·rintro g aEy ts rfl hw
  exact absurd ⟨g,aEy,ts,rfl,hw⟩ qL
theorem VT{c0 i:Nat}{st:ST}{K:ST→Prop}{U:Nat→Prop}(SA:∀o,ops[i]? = some o→dR E o.op=true→¬U (c0+rk E ops.toList i))(h:Z5 E md ops c0 i K st){a:Act}{w:World}(hR:p7 w0 S0 m G U st.f st.rows a w)(hd:∀o,o∈ops → ∀t,o.dst=some t→t<m)
  {K':Act→World→Prop} {Q:Exit→Act→World→Prop} (hK:∀SH a' w',K SH→p7 w0 S0 m G (fun v=>(v=c0+rk E ops.toList i ∧ ∃o,ops[i]? = some o∧dR E o.op=true)∨U v) SH.f SH.rows a' w'→K' a' w'):wpOp E.P ops Q i K' a w:=by
 unfold Z5 at h
 unfold wpOp
 split at h
 ·rename_i hi;simp only [hi];exact hK _ _ _ h (hR.mono fun v hv => .inr hv)
 ·rename_i o hi
  simp only [hi]
  obtain⟨b,v,u,⟨hg,hy⟩,ho,hk⟩:=h
  have lM:=hR
  obtain⟨⟨c,rfl,hr,fF,hI,hf,hG⟩,hn,fC⟩:=hR
  have hdo:=hd o (Array.mem_of_getElem? hi)
  have ag9:Region.wanted o (yielded ops a.tmps)=b:=by
   unfold gOK at hg
   unfold Region.wanted
   cases YW:o.guard with
   | none=>rw [YW]at hg;simp only at hg ⊢;exact hg.symm
   | some x =>
    obtain⟨j,want⟩:=x
    rw [YW]at hg
    simp only at hg ⊢
    obtain⟨d,h1,h2⟩:=hg
    have hx:=hf d
    rcases h2 with ⟨h2,h3⟩ | ⟨h2 | h2,h3⟩
    ·rw [h2]at hx
     rw [iD h1 hx,h3]
     cases want<;>rfl
    ·rw [h2]at hx
     rw [iD h1 hx,h3]
     cases want<;>rfl
    ·rw [h2]at hx
     rw [tI h1 hx,h3]
     rfl
  by_cases hb:b=true
  ·subst hb
   rw [if_pos rfl]at hy
   rw [ag9,if_pos rfl]
   left
   cases qI:dR E o.op with
   | true =>
    refine Z9 (SA o hi qI) qI (SD (fun id _ r jP=>(kH.1 jP).2) hy).1 lM hdo fun a' w' hR2=>hK _ _ _ hk ?_
    exact hR2.mono fun v hv=>hv.imp (fun h=>⟨h,o,by first | exact hi | rfl,qI⟩) fun h=>h
   | false =>
    rw [AX qI]at hy
    have NB:ys E o.op (aS st.f) c.rows v u:=by
     rw [hr]
     exact(ag4 (fun id _ r jP=>(kH.1 jP).2) hy).1
    refine JE hI hf NB fun v' c' h1 h2 h3 h4 h5=>hK _ _ _ hk ?_
    refine n6 hf hG hn fC h3 h4 h5 hdo rfl ?_ ?_
    ·simp only [app]
     rw [h1,hr]
    ·rw [h2]
     exact fun v hv => .inr (fF v hv)
  ·rw [if_neg hb]at hy
   obtain⟨rfl,rfl⟩:=hy
   rw [ag9,if_neg hb]
   refine hK _ _ _ hk ?_
   have AF:b=false:=by simpa using hb
   subst AF
   exact n6 hf hG hn fC (sR.refl c) hI OH hdo rfl (by rw [hr];rfl) (fun v hv => .inr (fF v hv))
def Ul(E:Env)(ops:Array Oper)(c0 n:Nat)(bB:Array Bool):Nat→Prop:=fun v=>v<c0 ∨ ∃k o,k<n∧ops[k]? = some o∧dR E o.op=true∧v=c0+rk E ops.toList k∧bB.getD k false=true
theorem aaa{c0 n v:Nat}{bB:Array Bool}(h:Ul E ops c0 n bB v):v<c0+rk E ops.toList n:=by
 rcases h with h | ⟨k,o,hk,ho,hn,rfl,_⟩
 ·omega
 ·have:=Z2 (ops:=ops.toList) (by simpa using ho) hn hk
  omega
theorem nM{c0 n g:Nat}{L:Array Bool→ST→Prop}{Q:Exit→Act→World→Prop}(hd:∀o,o∈ops → ∀t,o.dst=some t→t<m)
  (hL:∀bB (st:ST) a w,L bB st→p7 w0 S0 m G (Ul E ops c0 n bB) st.f st.rows a w→wpAny E.P md ops Q g bB a w) :
  ∀(f:Nat) (bB:Array Bool) (st:ST) (a:Act) (w:World),n≤bB.size→JL E md ops c0 n L f bB st→p7 w0 S0 m G (Ul E ops c0 n bB) st.f st.rows a w→wpAny E.P md ops Q (f+g) bB a w
 | 0,bB,st,a,w,_,h,hR=>by rw [Nat.zero_add];exact hL _ _ _ _ h hR
 | f+1,bB,st,a,w,oP,h,hR=>by
  rw [show f+1+g=(f+g)+1 by omega]
  refine⟨fun h0=>absurd h0 h.1,fun i hi=>?_⟩
  have SI:=(mem_ready.1 hi).1
  obtain⟨hin,hq⟩:=h.2 i hi
  refine VT (fun o ho hn hU=>?_) hq hR hd fun SH a' w' h' lM=>nM hd hL f _ SH a' w' (by simpa using oP) h' (lM.mono fun v hv=>?_)
  ·rcases hU with hU | ⟨k,o',hk,ho',EL,he,hl⟩
   ·omega
   ·have:=ajm (ops:=ops.toList) (by simpa using ho) hn (by simpa using ho') EL (by omega)
    subst this
    rw [getD_both SI]at hl;cases hl
  ·rcases hv with ⟨rfl,o,ho,hn⟩ | hv
   ·exact .inr ⟨i,o,hin,ho,hn,rfl,by simp [show i<bB.size by omega]⟩
   ·rcases hv with hv | ⟨k,o,hk,ho,hn,he,hl⟩
    ·exact .inl hv
    ·refine .inr ⟨k,o,hk,ho,hn,he,?_⟩
     by_cases hki:i=k
     ·subst hki;simp [show i<bB.size by omega]
     ·simpa [Array.getElem?_setIfInBounds_ne hki]using hl
end
def aN(E:Env)(ops:List Oper):List Oper→(PS→Prop)→PS→Prop
 | [],K,σ=>K σ
 | o::os,K,σ =>
  match o.guard with
  | none=>eW E o (aN E ops os K) σ
  | some (j,want) =>
   match (ops[j]?).bind (·.dst)with
   | none=>False
   | some d=>(σ.f d = .bool want∧eW E o (aN E ops os K) σ)∨((σ.f d = .bool (!want)∨σ.f d = .fG [])∧aN E ops os K (σ.put o.dst (.fG [])))
def aP(E:Env)(ops:List Oper)(clk:Nat):Nat→List Oper→(PS→Prop)→ST→Prop
 | _,[],K,st=>K ⟨st.f,st.rows,clk⟩
 | k,o::os,K,st =>
  match o.guard with
  | none=>∃v u,yn E clk o.dst o.op (aS st.f) (eM .any ops k st.wl st.rows) v u∧VS .any ops k u st.bV∧aP E ops (iL E o.op clk) (k+1) os K (app k o true v u st)
  | some (j,want) =>
   match (ops[j]?).bind (·.dst)with
   | none=>False
   | some d=>(st.f d = .bool want ∧ ∃v u,yn E clk o.dst o.op (aS st.f) (eM .any ops k st.wl st.rows) v u∧VS .any ops k u st.bV∧aP E ops (iL E o.op clk) (k+1) os K (app k o true v u st))∨((st.f d = .bool (!want)∨st.f d = .fG [])∧aP E ops clk (k+1) os K (app k o false (.fG []) none st))
def gC(E:Env)(tl:Nat)(ops:List Oper)(K:PS→Prop)(σ:PS):Prop:=
 if tl=0 then aP E ops σ.clock 0 ops K ⟨σ.f,σ.rows,fun _ _=>False,fun _ _=>False⟩
 else aP E ops σ.clock 0 (ops.take (ops.length-tl)) (aN E ops (ops.drop (ops.length-tl)) K) ⟨σ.f,σ.rows,fun _ _=>False,fun _ _=>False⟩
inductive PX where
 | normal
 | exit (id:Nat)
 | ret
def DU(K:PS→Prop)(Q:PX→PS→Prop):PX→PS→Prop
 | .normal,σ=>K σ
 | .exit id,σ=>Q (.exit id) σ
 | .ret,σ=>Q .ret σ
def DV(id:Nat)(Q:PX→PS→Prop):PX→PS→Prop
 | .normal,σ=>Q .normal σ
 | .exit j,σ=>if j=id then Q .normal σ else Q (.exit j) σ
 | .ret,σ=>Q .ret σ
def A6(E:Env)(n tl:Nat)(ops:Array Oper)(draw:Bool):Bool:=
 (ops.all fun o=>match o.dst with | some d=>decide (d<n) | none=>true) &&
 (!draw || (wX E (if tl=0 then ops.toList else ops.toList.take (ops.size-tl))&&(if tl=0 then Region.noSelect ops&&Region.lexHead .any ops 0 ops.size 0 (Array.replicate ops.size false)else decide (tl≤ops.size)&&Region.lexTailB .any ops (ops.size-tl))))
def fB(E:Env)(n:Nat)(tl:Nat→Nat):Code→Bool
 | .region id ops draw=>A6 E n (tl id) ops draw
 | .seq a b=>fB E n tl a&&fB E n tl b
 | .cond _ t e=>fB E n tl t&&fB E n tl e
 | .block _ c=>fB E n tl c
 | .loop c=>fB E n tl c
 | _=>true
section
variable {E:Env} {w0:World} {S0:dV} {n:Nat} {G:Gs}
theorem i0{ops:Array Oper}{K:PS→Prop}{Q:Exit→Act→World→Prop}(hK:∀σ' a' w',K σ'→Rel w0 S0 n G σ' a' w'→Q .normal a' w') :
  ∀(l:List Oper) (σ:PS) (a:Act) (w:World),(∀o∈l,∀t,o.dst=some t→t<n)→aN E ops.toList l K σ→Rel w0 S0 n G σ a w→wpList E.P ops Q l a w
 | [],σ,a,w,_,h,hR=>hK _ _ _ h hR
 | o::os,σ,a,w,hd,h,hR=>by
  have hdo:=hd o (by simp)
  have hds:∀o∈os,∀t,o.dst=some t→t<n:=fun o ho=>hd o (by simp [ho])
  have wanted:∀ {σ},eW E o (aN E ops.toList os K) σ→Rel w0 S0 n G σ a w→o.wp E.P a w (wpList E.P ops Q os) Q:=fun hp hR =>
   yG hp hR hdo fun σ' a' w' hk lM=>i0 hK os σ' a' w' hds hk lM
  unfold wpList
  simp only [aN]at h
  split at h
  ·rename_i hg
   rw [if_pos (by simp [Region.wanted,hg])]
   exact .inl (wanted h hR)
  ·rename_i j want hg
   split at h
   ·exact h.elim
   ·rename_i d I3
    have hd3:(ops[j]?).bind (·.dst)=some d:=by simpa using I3
    have skip:yielded ops a.tmps j≠some want→aN E ops.toList os K (σ.put o.dst (.fG []))→(if Region.wanted o (yielded ops a.tmps)=true then o.wp E.P a w (wpList E.P ops Q os) Q∨(o.asks E.P a w∧LetsOut Q)else wpList E.P ops Q os (a.put o.dst undef) w):=by
     intro hy h2
     rw [if_neg (by simpa [Region.wanted,hg]using hy)]
     refine i0 hK os _ _ w hds h2 ?_
     obtain⟨⟨c,rfl,hr,fF,hI,hf,hG⟩,hn,fC⟩:=hR
     exact lL hf hG hn fC (sR.refl c) hI OH hdo rfl (by simp [PS.put,hr]) fF
    obtain⟨c,_,_,_,_,hf,_⟩:=hR.ex
    have hx:=hf d
    rcases h with ⟨h1,h2⟩ | ⟨h1 | h1,h2⟩
    ·rw [h1]at hx
     rw [if_pos (by simp [Region.wanted,hg,iD hd3 hx])]
     exact .inl (wanted h2 hR)
    ·rw [h1]at hx
     exact skip (by rw [iD hd3 hx];cases want<;>simp) h2
    ·rw [h1]at hx
     exact skip (by rw [tI hd3 hx];simp) h2
theorem qN{ops:Array Oper}{c0:Nat}{K:PS→Prop}:∀(l:List Oper) (k clk:Nat) (st:ST),(∀j,j<l.length→l[j]? = ops[k+j]?)→wX E l=true→clk=c0+rk E ops.toList k→aP E ops.toList clk k l K st→ajs E .any ops c0 (fun st=>K ⟨st.f,st.rows,c0+rk E ops.toList (k+l.length)⟩) k l st
 | [],k,clk,st,_,_,hc,h=>by subst hc;exact h
 | o::os,k,clk,st,hl,YX,hc,h=>by
  have ajt:wX E os=true:=by simp only [wX,List.all_cons,Bool.and_eq_true]at YX ⊢;exact YX.2
  have avk:o.guard≠none→dR E o.op=false:=fun hg=>by
   simp only [wX,List.all_cons,Bool.and_eq_true]at YX
   cases hn:dR E o.op with
   | false=>rfl
   | true=>have:=YX.1;rw [hn]at this;simp at this;exact absurd this.2 hg
  have h0:ops[k]? = some o:=by simpa using(hl 0 (by simp)).symm
  have uP:iL E o.op clk=c0+rk E ops.toList (k+1):=by rw [hc];exact aeq (by simpa using h0)
  have hl1:∀j,j<os.length→os[j]? = ops[k+1+j]? := fun j hj=>by have:=hl (j+1) (by simp;omega);simpa [Nat.add_assoc,Nat.add_comm 1 j]using this
  have e1:k+(o::os).length=k+1+os.length:=by simp only [List.length_cons];omega
  rw [e1]
  simp only [aP]at h
  split at h
  ·rename_i hg
   obtain⟨v,u,h1,h2,h3⟩:=h
   exact⟨true,v,u,⟨by simp [gOK,hg],by rw [if_pos rfl,←hc];exact h1⟩,h2,qN os _ _ _ hl1 ajt uP h3⟩
  ·rename_i j want hg
   split at h
   ·exact h.elim
   ·rename_i d I3
    have hd3:(ops[j]?).bind (·.dst)=some d:=by simpa using I3
    rcases h with ⟨h1,v,u,q1,q2,q3⟩ | ⟨h1,h2⟩
    ·exact⟨true,v,u,⟨by simp only [gOK,hg];exact⟨d,hd3, .inl ⟨h1,trivial⟩⟩,by rw [if_pos rfl,←hc];exact q1⟩,q2,qN os _ _ _ hl1 ajt uP q3⟩
    ·exact⟨false, .fG [],none,⟨by simp only [gOK,hg];exact⟨d,hd3, .inr ⟨h1,trivial⟩⟩,by simp⟩,trivial,qN os _ _ _ hl1 ajt (by rw [←uP,AZ (avk (by rw [hg];simp))]) h2⟩
theorem Rel.drew{σ:PS}{a:Act}{w:World}(h:Rel w0 S0 n G σ a w):Rel w0 S0 n G σ a { w with drawn:=w.drawn+1 }:=by
 obtain⟨⟨c,rfl,hr,fF,hI,hf,hG⟩,hn,fC⟩:=h
 obtain⟨wN,hA⟩:=hI.grow (w':={ c.w with drawn:=c.w.drawn+1 }) (S':=c.S) ⟨rfl,rfl,rfl,Nat.le_refl _,fun _ _=>rfl⟩ (fun _ _ h=>h) (fun _ _ h => .inl h)
 exact⟨⟨{ c with w:={ c.w with drawn:=c.w.drawn+1 } },rfl,hr,fF,wN,fun s=>aK.tB hA _ _ (hf s),fun p hp=>aK.tB hA _ _ (hG p hp)⟩,hn,fC⟩
theorem s5{id tl:Nat}{ops:Array Oper}{K:PS→Prop}{Q:Exit→Act→World→Prop}(iC:A6 E n tl ops true=true){σ:PS}{a:Act}{w:World}(h:gC E tl ops.toList K σ)(hR:Rel w0 S0 n G σ a w)
  (hK:∀σ' a' w',K σ'→Rel w0 S0 n G σ' a' w'→Q .normal a' w'):(Code.region id ops true).wp E.P Q a w:=by
 simp only [A6,Bool.and_eq_true,Bool.not_true,Bool.false_or]at iC
 obtain⟨avl,EM,iC⟩:=iC
 have hd:∀o,o∈ops → ∀t,o.dst=some t→t<n:=by
  intro o ho t ht
  have:=Array.all_eq_true_iff_forall_mem.1 avl o ho
  simpa [ht]using this
 refine wp_region_any E.mixed ?_
 have OJ:=hR.drew
 have hU0:∀k (l:Array Bool),p7 w0 S0 n G (Ul E ops σ.clock k l) σ.f σ.rows a { w with drawn:=w.drawn+1 }:=fun k l=>OJ.mono fun v hv => .inl hv
 have aph:∀(l:List Oper),wX E l=true → ∀(i:Nat) (oi:Oper),l[i]? = some oi→dR E oi.op=true→oi.dst.isSome=true:=fun l h i oi hi hn=>by
  have:=List.all_eq_true.1 h oi (List.mem_of_getElem? hi)
  rw [hn]at this;simp at this;exact Option.isSome_iff_exists.2 (by obtain⟨x,hx⟩:=Option.isSome_iff_exists.1 this.1;exact⟨x,hx⟩)
 unfold gC at h
 by_cases htl:tl=0
 ·rw [if_pos htl]at h iC EM
  have qI:∀i oi,i<ops.size→ops[i]? = some oi→dR E oi.op=true→oi.dst.isSome=true:=fun i oi _ hi=>aph _ EM i oi (by simpa using hi)
  simp only [Bool.and_eq_true]at iC
  have hl:=qN (c0:=σ.clock) ops.toList 0 _ _ (by simp) EM (by simp [rk]) h
  have ajv:HeadInv .any ops ops.size (Array.replicate ops.size false):=
   ⟨by simp,fun j oj _ hl=>(by rw [getD_replicate_false]at hl;cases hl),fun t h1 h2=>by omega⟩
  have A5:∀bB,HeadInv .any ops ops.size bB → ∀i,i<ops.size→bB.getD i true=false → ∀t,ops.size≤t→t ∉ Region.ready .any ops bB:=by
   intro bB _ i _ _ t ht hr
   obtain⟨_,o,ho,_⟩:=mem_ready.1 hr
   have:=(Array.getElem?_eq_some_iff.1 ho).1
   omega
  have H:=wY (E:=E) (md:=.any) (g:=0) qI A5 ops.toList 0 _ _ (by simp) (by simp) ajv (by simpa using iC.2) hl
  have:=nM (E:=E) (md:=.any) (g:=0) (Q:=Q) (m:=n) hd (fun bB st a' w' hL lM=>by
   obtain⟨h1,h2⟩:=hL
   exact⟨by simpa [Region.seqB]using h1,hK _ _ _ h2 (lM.mono fun v hv=>by have:=aaa hv;simpa using this)⟩) _ _ _ _ _ (by simp) H (hU0 _ _)
  simpa using this
 ·rw [if_neg htl]at h iC EM
  have qI:∀i oi,i<ops.size-tl→ops[i]? = some oi→dR E oi.op=true→oi.dst.isSome=true:=fun i oi h1 hi=>aph _ EM i oi (by rw [List.getElem?_take,if_pos h1];simpa using hi)
  simp only [Bool.and_eq_true,decide_eq_true_eq]at iC
  obtain⟨hle,hB⟩:=iC
  simp only [Region.lexTailB,Bool.and_eq_true,decide_eq_true_eq]at hB
  obtain⟨⟨⟨⟨aBk,EL⟩,hs⟩,hc⟩,avm⟩:=hB
  have hlen:ops.toList.length=ops.size:=by simp
  rw [hlen]at h
  have hl:=qN (c0:=σ.clock) (ops.toList.take (ops.size-tl)) 0 _ _ (fun j hj=>by
   have hj':j<ops.size-tl:=by simpa using hj
   simp [hj']) EM (by simp [rk]) h
  have ajv:HeadInv .any ops (ops.size-tl) (Array.replicate ops.size false):=
   ⟨by simp,fun j oj _ hl=>(by rw [getD_replicate_false]at hl;cases hl),fun t _ ht=>getD_in (by simpa using ht) (getD_replicate_false _ _)⟩
  have DW:(ops.toList.take (ops.size-tl)).length=ops.size-tl:=by simp
  have hdl:(ops.toList.drop (ops.size-tl)).length=ops.size-(ops.size-tl):=by simp
  have H:=wY (E:=E) (md:=.any) (n:=ops.size-tl) (g:=ops.size-(ops.size-tl)) qI (fun bB inv i hi SI t ht=>tail_waits hs hc EL inv _ i rfl hi SI t ht) (ops.toList.take (ops.size-tl)) 0 _ _ (fun j hj=>by
   rw [DW]at hj
   simp [hj]) (by rw [DW];simp) ajv (by rw [DW];exact avm) hl
  have:=nM (E:=E) (md:=.any) (g:=ops.size-(ops.size-tl)) (Q:=Q) (m:=n) hd (fun bB st a' w' hL lM=>by
   obtain⟨h1,h2⟩:=hL
   have h3:=i0 (ops:=ops) (Q:=Q) hK (ops.toList.drop (ops.size-tl)) _ a' w' (fun o ho=>hd o (by simpa using List.mem_of_mem_drop ho)) h2 (lM.mono fun v hv=>by have:=aaa hv;simpa using this)
   have h4:=wpAny_of_seq (md:=.any) (Q':=Q) (ops.toList.drop (ops.size-tl)) (ops.size-tl) bB a' w' (fun j=>by simp [List.getElem?_drop]) (by rw [hdl];exact h1) h3
   rwa [hdl]at h4) _ _ _ _ _ (by simp) H (hU0 _ _)
  rw [DW,show ops.size-tl+(ops.size-(ops.size-tl))=ops.size by omega]at this
  exact this
def ajw:PX→Exit
 | .normal => .normal
 | .exit id => .exit id
 | .ret => .ret
end
def pU(E:Env)(σ:PS):List ResultVar→(List PV→Prop)→Prop
 | [],K=>K []
 | .tmp t::rs,K=>pU E σ rs fun vs=>K (σ.f t::vs)
 | .cell a t::rs,K=>∃v,sS E t σ.rows (σ.f a) v∧pU E σ rs fun vs=>K (v::vs)
def JN:List PV→PV
 | [x]=>x
 | l => .fG l
def aab(E:Env)(rs:List ResultVar)(r:PV)(σ:PS):Prop:=
 pU E σ rs fun vs=>eK σ.rows (vs.flatMap dW)∧(vs.map (pz σ.rows)).all fV=true∧r=JN (vs.map (pz σ.rows))
def aac(E:Env)(rs:List ResultVar)(r:PV):PX→PS→Prop
 | .normal,σ=>aab E rs r σ
 | .ret,σ=>aab E rs r σ
 | .exit _,_=>False
def EN(args:List PV):PS:=⟨fun s=>args.getD s .undef,fun _=>none,0⟩
section
variable {E:Env} {w0:World} {S0:dV} {c:Cx}
theorem rS(hI:Inv w0 S0 c){clk:Nat}{a:Act}{f:Nat→PV}(hf:∀s,aK c (f s) (a.tmps.getD s undef)){g:ResultVar→Sem Value}(hg1:∀t,g (.tmp t)=pure (a.tmps.getD t undef))
  (tF:∀x t,g (.cell x t)=do loadVar t (←asAddr (a.tmps.getD x undef))):∀(rs:List ResultVar) (K:List PV→Prop),pU E ⟨f,c.rows,clk⟩ rs K →
  ∃vs us,K vs∧bE (aK c) vs us∧(rs.mapM g:Sem (List Value)).run E.P c.w = .ok us c.w
 | [],K,h=>⟨[],[],h,trivial,by simp⟩
 | .tmp t::rs,K,h=>by
  obtain⟨vs,us,h1,h2,h3⟩:=rS hI hf hg1 tF rs _ h
  exact⟨f t::vs,a.tmps.getD t undef::us,h1,⟨hf t,h2⟩,by
   rw [List.mapM_cons,hg1,Sem.run_bind,Sem.run_pure,Result.andThen_ok,Sem.run_bind,h3,Result.andThen_ok,Sem.run_pure]⟩
 | .cell x t::rs,K,h=>by
  obtain⟨v,hv,h⟩:=h
  obtain⟨vs,us,h1,h2,h3⟩:=rS hI hf hg1 tF rs _ h
  obtain⟨u,hu,hr⟩:=EE hI (hf x) hv
  refine⟨v::vs,u::us,h1,⟨hr,h2⟩,?_⟩
  have VF:(do loadVar t (←asAddr (a.tmps.getD x undef)):Sem Value).run E.P c.w = .ok u c.w:=by
   simp only [Instr.loadAt,Sem.run_bind]at hu ⊢
   cases hx:a.tmps.getD x undef with
   | pointer p =>
    cases p with
    | some ad=>rw [hx]at hu;simpa [Instr.sureAddr,asAddr]using hu
    | none=>rw [hx]at hu;simp [Instr.sureAddr,stuck,Result.andThen]at hu
   | _=>rw [hx]at hu;simp [Instr.sureAddr,stuck,Result.andThen]at hu
  rw [List.mapM_cons,tF]
  simp only [Sem.run_bind]at VF ⊢
  rw [VF,Result.andThen_ok,h3,Result.andThen_ok,Sem.run_pure]
theorem OL{A7:FuncId}{fn:Func}{code:Code}{args:List PV}{r:PV}(h1:E.P.funcs[A7]? = some fn)(h2:fn.body=some code) (h3:(fn.name == "runtime.NumGoroutine") = false) (fX:args.length≤fn.ntmps)
  (h:∀(w0:World) (S0:dV) (a:Act) (w:World) (Q':Exit→Act→World→Prop),Rel w0 S0 fn.ntmps Gs.none (EN args) a w→(∀x σ' a' w',aac E fn.results.toList r x σ'→Rel w0 S0 fn.ntmps Gs.none σ' a' w'→Q' (ajw x) a' w')→code.wp E.P Q' a w):aH E.P A7 args r:=by
 refine⟨⟨fn,code,h1,h2,h3⟩,fun w S vs hS gI=>?_⟩
 have AR:=cZ.1 gI
 refine calls_of_wp h1 h2 ?_
 have NT:vs.length=args.length:=AR.length.symm
 let c0:Cx:=⟨S,w,fun _ => .slice none 0 0,fun _=>none,fun _=>False⟩
 have hI0:Inv w S c0:=⟨Below.refl _ _,fun _ _ h=>h,fun _ _ h => .inl h,hS,fun _ _ h=>by simp [c0]at h,fun _ _ h=>by simp [c0]at h,fun _ _ _ _ _ h=>by simp [c0]at h⟩
 have OJ:Rel w S fn.ntmps Gs.none (EN args) { tmps:=vs.toArray++Array.replicate (fn.ntmps-vs.toArray.size) undef,defers:=[] } w:=by
  refine⟨⟨c0,rfl,rfl,fun _ h=>h.elim,hI0,fun s=>?_,fun p hp=>(Gs.JB hp).elim⟩,by simp;omega,rfl⟩
  simp only [EN]
  by_cases hs:s<args.length
  ·obtain⟨u,hu,hr⟩:=AR.get (List.getElem?_eq_getElem hs)
   have e1:args.getD s .undef=args[s]:=by simp [List.getD,List.getElem?_eq_getElem hs]
   have e2:(vs.toArray++Array.replicate (fn.ntmps-vs.toArray.size) undef).getD s undef=u:=by
    have:s<vs.length:=by omega
    simp [this]at hu ⊢
    simp [Array.getElem?_append,this,hu]
   rw [e1]
   show aK c0 args[s] ((vs.toArray++Array.replicate (fn.ntmps-vs.toArray.size) undef).getD s undef)
   rw [e2]
   exact aK.jR hr
  ·have e1:args.getD s .undef = .undef:=by simp [List.getD,List.getElem?_eq_none (show args.length≤s by omega)]
   rw [e1]
   simp [aK,aQ]
 refine h _ _ _ _ _ OJ ?_
 have fin:∀σ' a' w',aab E fn.results.toList r σ'→Rel w S fn.ntmps Gs.none σ' a' w'→a'.defers = [] ∧ ∃v,(results fn a'.tmps).run E.P w' = .ok v w'∧(∃v',Ending.returned v = .returned v'∧Below w.heap.size w w' ∧
   ∃S':dV,(∀b o,S b o→S' b o)∧(∀b o,S' b o→S b o∨(w.heap.size≤b∧b<w'.heap.size))∧dC S' w' r v'):=by
  rintro σ' a' w' hp ⟨⟨c,rfl,hr,fF,hI,hf,_⟩,hn,fC⟩
  refine⟨fC,?_⟩
  unfold aab at hp
  have uJ:pU E ⟨σ'.f,c.rows,σ'.clock⟩ fn.results.toList fun vs=>eK c.rows (vs.flatMap dW)∧(vs.map (pz c.rows)).all fV=true∧r=JN (vs.map (pz c.rows)):=by
   rw [hr];exact hp
  have apj:∃vs us,(eK c.rows (vs.flatMap dW)∧(vs.map (pz c.rows)).all fV=true∧r=JN (vs.map (pz c.rows)))∧bE (aK c) vs us ∧
    (results fn a'.tmps).run E.P c.w = .ok (if h:us.toArray.size=1 then us.toArray[0]else .tuple us.toArray) c.w:=by
   have key:∀g:ResultVar→Sem Value,(∀t,g (.tmp t)=pure (a'.tmps.getD t undef))→(∀x t,g (.cell x t)=do loadVar t (←asAddr (a'.tmps.getD x undef))) →
     ∃vs us,(eK c.rows (vs.flatMap dW)∧(vs.map (pz c.rows)).all fV=true∧r=JN (vs.map (pz c.rows)))∧bE (aK c) vs us ∧
      (do let vs ←fn.results.mapM g;pure (if h:vs.size=1 then vs[0]else .tuple vs):Sem Value).run E.P c.w = .ok (if h:us.toArray.size=1 then us.toArray[0]else .tuple us.toArray) c.w:=by
    intro g hg1 tF
    obtain⟨vs,us,g1,g4,g5⟩:=rS hI hf hg1 tF _ _ uJ
    refine⟨vs,us,g1,g4,?_⟩
    have:(fn.results.mapM g).run E.P c.w = .ok us.toArray c.w:=by
     rw [Array.mapM_eq_mapM_toList]
     simp [g5]
    rw [Sem.run_bind,this,Result.andThen_ok,Sem.run_pure]
   unfold results
   exact key _ (fun _=>rfl) (fun _ _=>rfl)
  obtain⟨vs,us,⟨g1,g2,g3⟩,g4,iZ⟩:=apj
  have JD:=hI.freeze (vs.flatMap dW)
  have tJ:bE (dC (N7 c (vs.flatMap dW)) c.w) (vs.map (pz c.rows)) us:=by
   refine bE.dO (by simp [g4.length]) fun k p u hp hu=>?_
   simp at hp
   obtain⟨q,hq,rfl⟩:=hp
   obtain⟨u',q1,q2⟩:=g4.get hq
   rw [hu]at q1;cases q1
   exact F9 hI g1 q2 (fun id iA=>by simp only [List.mem_flatMap];exact⟨q,List.mem_of_getElem? hq,iA⟩) (List.all_eq_true.1 g2 _ (by simp;exact⟨q,List.mem_of_getElem? hq,rfl⟩))
  refine⟨_,iZ,_,rfl,hI.below,N7 c (vs.flatMap dW),fun b o h=>JD.ext b o h,fun b o h=>JD.new b o h,?_⟩
  rw [g3]
  have hl:=tJ.length
  cases hm:vs.map (pz c.rows)with
  | nil =>
   rw [hm]at tJ hl
   have:us = []:=List.eq_nil_of_length_eq_zero (by simpa using hl.symm)
   subst this
   simp only [JN,dC]
   exact⟨[],by simp,by simp [bH]⟩
  | cons p ps =>
   rw [hm]at tJ hl
   match us,tJ with
   | u::us,tJ =>
    cases ps with
    | nil =>
     match us,tJ with
     | [],tJ=>simpa [JN]using tJ.1
    | cons q qs =>
     have h2:¬(u::us).toArray.size=1:=by simp at hl ⊢;intro h;subst h;simp at hl
     rw [dif_neg h2]
     simp only [JN,dC]
     exact⟨_,rfl,cZ.2 tJ⟩
 intro x σ' a' w' hx lM
 cases x with
 | normal=>exact fin σ' a' w' hx lM
 | ret=>exact fin σ' a' w' hx lM
 | exit id=>exact hx.elim
end
section
variable {P:Program} {t:TypeId}
theorem aB{n:Nat}{v:Value}{z:List PV}(h:(P.info? t).bind (fun i=>i.zero.map fun v=>(i.size,v))=some (n,v))(hz:v.cells.toList.map iW=z)(h1:v.cells.all (·.oneCell')=true)(hl:z.length=n)(hp:0<n):lB P t n z:=by
 refine⟨?_,hl,hp⟩
 cases hi:P.info? t with
 | none=>simp [hi]at h
 | some i =>
  cases oS:i.zero with
  | none=>simp [hi,oS]at h
  | some v0 =>
   simp [hi,oS]at h
   obtain⟨rfl,rfl⟩:=h
   exact⟨i,v0,rfl,oS,rfl,hz,h1⟩
theorem bW{b:Nat}(h:(P.info? t).map (·.bytes)=some b):∃i,P.info? t=some i∧i.bytes=b:=by
 cases hi:P.info? t with
 | none=>simp [hi]at h
 | some i=>exact⟨i,rfl,by simpa [hi]using h⟩
theorem EO{n:Nat}(h:(P.info? t).map (·.size)=some n):∃i,P.info? t=some i∧i.size=n:=by
 cases hi:P.info? t with
 | none=>simp [hi]at h
 | some i=>exact⟨i,rfl,by simpa [hi]using h⟩
theorem aae(h:(P.underlying t).isSome=true):∃d,P.underlying t=some d:=Option.isSome_iff_exists.1 h
def OM(P:Program)(f:Field)(x:Nat × Nat × Bool):Bool:=
 f.offset==x.1&&(P.info? f.type).map (·.size)==some x.2.1&&decide (0<x.2.1)&&wT P f.type==x.2.2&&(P.underlying f.type).isSome
def rT(P:Program):List Field→List (Nat × Nat × Bool)→Bool
 | [],[]=>true
 | f::fs,x::xs=>OM P f x&&rT P fs xs
 | _,_=>false
theorem VU{f:Field}{x:Nat × Nat × Bool}(h:OM P f x=true):mO P f x:=by
 simp only [OM,Bool.and_eq_true,beq_iff_eq,decide_eq_true_eq]at h
 obtain⟨⟨⟨⟨h1,h2⟩,h3⟩,h4⟩,h5⟩:=h
 exact⟨h1,EO h2,h3,h4,aae h5⟩
theorem A8:∀ {fs:List Field} {xs:List (Nat × Nat × Bool)},rT P fs xs=true→bE (mO P) fs xs
 | [],[],_=>trivial
 | f::fs,x::xs,h=>by
  simp only [rT,Bool.and_eq_true]at h
  exact⟨VU h.1,A8 h.2⟩
 | [],_::_,h=>by simp [rT]at h
 | _::_,[],h=>by simp [rT]at h
def SK(P:Program)(t:TypeId)(xs:List (Nat × Nat × Bool)):Bool:=
 match P.underlying t with
 | some (.struct fields)=>rT P fields.toList xs
 | _=>false
theorem aR{xs:List (Nat × Nat × Bool)}(h:SK P t xs=true):∃fields:Array Field,P.underlying t=some (.struct fields)∧bE (mO P) fields.toList xs:=by
 unfold SK at h
 split at h
 ·rename_i fields hu;exact⟨fields,hu,A8 h⟩
 ·cases h
end
def W(E:Env)(n:Nat)(tl:Nat→Nat)(c:Code)(Q:PX→PS→Prop)(σ:PS):Prop:=
 fB E n tl c=true → ∀(w0:World) (S0:dV) (G:Gs) (a:Act) (w:World) (Q':Exit→Act→World→Prop),Rel w0 S0 n G σ a w →
  (∀x σ' a' w',Q x σ'→Rel w0 S0 n G σ' a' w'→Q' (ajw x) a' w')→c.wp E.P Q' a w
def Gh(n:Nat)(σ σ':PS):Prop:=∀(w0:World) (S0:dV) (G:Gs) (a:Act) (w:World),Rel w0 S0 n G σ a w→Rel w0 S0 n G σ' a w
section
variable {E:Env} {n:Nat} {tl:Nat→Nat} {Q:PX→PS→Prop} {σ:PS}
theorem W.ghost{c:Code}{σ':PS}(h:Gh n σ σ')(hw:W E n tl c Q σ'):W E n tl c Q σ:=fun iC w0 S0 G a w Q' hR hQ=>hw iC w0 S0 G a w Q' (h _ _ _ _ _ hR) hQ
theorem W.mono{c:Code}{Q2:PX→PS→Prop}(hw:W E n tl c Q2 σ)(h:∀x σ,Q2 x σ→Q x σ):W E n tl c Q σ:=fun iC w0 S0 G a w Q' hR hQ=>hw iC w0 S0 G a w Q' hR fun x σ' a' w' hx=>hQ x σ' a' w' (h x σ' hx)
theorem W.skip(h:Q .normal σ):W E n tl .skip Q σ:=fun _ _ _ _ a w _ hR hQ=>wp_skip (hQ .normal σ a w h hR)
theorem W.ret(h:Q .ret σ):W E n tl .ret Q σ:=fun _ _ _ _ a w _ hR hQ=>wp_ret (hQ .ret σ a w h hR)
theorem W.exit{id:Nat}(h:Q (.exit id) σ):W E n tl (.exit id) Q σ:=fun _ _ _ _ a w _ hR hQ=>wp_exit (hQ (.exit id) σ a w h hR)
theorem W.JO{id:Nat}{ops:List Oper}(h:∀K:PS→Prop,(∀σ,Q .normal σ→K σ)→aN E ops ops K σ):W E n tl (.region id ops.toArray false) Q σ:=by
 intro iC w0 S0 G a w Q' hR hQ
 simp only [fB,A6,Bool.and_eq_true]at iC
 refine wp_region_list (i0 (fun σ' a' w' hk lM=>hQ .normal σ' a' w' hk lM) _ σ a w (fun o ho t ht=>?_) (h _ fun _ h=>h) hR)
 have:=Array.all_eq_true_iff_forall_mem.1 iC.1 o (by simpa using ho)
 simpa [ht]using this
theorem W.aaf{id:Nat}{ops:List Oper}(h:∀K:PS→Prop,(∀σ,Q .normal σ→K σ)→gC E (tl id) ops K σ):W E n tl (.region id ops.toArray true) Q σ:=by
 intro iC w0 S0 G a w Q' hR hQ
 exact s5 (by simpa [fB]using iC) (h _ fun _ h=>h) hR fun σ' a' w' hk lM=>hQ .normal σ' a' w' hk lM
theorem W.seq{x y:Code}(h:W E n tl x (DU (W E n tl y Q) Q) σ):W E n tl (.seq x y) Q σ:=by
 intro iC w0 S0 G a w Q' hR hQ
 simp only [fB,Bool.and_eq_true]at iC
 refine wp_seq (h iC.1 w0 S0 G a w _ hR fun x σ' a' w' hx lM=>?_)
 cases x with
 | normal=>exact hx iC.2 w0 S0 G a' w' _ lM hQ
 | exit id=>exact hQ (.exit id) σ' a' w' hx lM
 | ret=>exact hQ .ret σ' a' w' hx lM
theorem W.ON{id:Nat}{ops:List Oper}{y:Code}(h:∀K:PS→Prop,(∀σ,W E n tl y Q σ→K σ)→aN E ops ops K σ):W E n tl (.seq (.region id ops.toArray false) y) Q σ:=
 W.seq (W.JO h)
theorem W.aag{id:Nat}{ops:List Oper}{y:Code}(h:∀K:PS→Prop,(∀σ,W E n tl y Q σ→K σ)→gC E (tl id) ops K σ):W E n tl (.seq (.region id ops.toArray true) y) Q σ:=
 W.seq (W.aaf h)
theorem W.cond{c:Operand}{t e:Code}(h:∃b,aS σ.f c = .bool b∧(b=true→W E n tl t Q σ)∧(b=false→W E n tl e Q σ)):W E n tl (.cond c t e) Q σ:=by
 intro iC w0 S0 G a w Q' hR hQ
 simp only [fB,Bool.and_eq_true]at iC
 obtain⟨b,hb,h1,h2⟩:=h
 obtain⟨cx,_,_,_,_,hf,_⟩:=hR.ex
 have:=lJ hf c
 rw [hb,dP]at this
 refine wp_cond this ?_
 cases b with
 | true=>exact h1 rfl iC.1 w0 S0 G a w Q' hR hQ
 | false=>exact h2 rfl iC.2 w0 S0 G a w Q' hR hQ
theorem W.block{id:Nat}{c:Code}(h:W E n tl c (DV id Q) σ):W E n tl (.block id c) Q σ:=by
 intro iC w0 S0 G a w Q' hR hQ
 refine wp_block (h iC w0 S0 G a w _ hR fun x σ' a' w' hx lM=>?_)
 cases x with
 | normal=>exact hQ .normal σ' a' w' hx lM
 | exit j =>
  simp only [DV]at hx
  simp only [ajw,Exit.inBlock]
  split at hx
  ·rename_i hj;rw [if_pos hj];exact hQ .normal σ' a' w' hx lM
  ·rename_i hj;rw [if_neg hj];exact hQ (.exit j) σ' a' w' hx lM
 | ret=>exact hQ .ret σ' a' w' hx lM
theorem W.loop{c:Code}(I:Nat→PS→Prop)(k:Nat)(h0:I k σ)(h1:∀k σ,I k σ→W E n tl c (DU (fun σ'=>∃m,m<k∧I m σ') Q) σ):W E n tl (.loop c) Q σ:=by
 intro iC w0 S0 G a w Q' hR hQ
 refine wp_loop_ghost (fun k a w=>∃σ,I k σ∧Rel w0 S0 n G σ a w) k ⟨σ,h0,hR⟩ ?_
 rintro k a w ⟨σ,hI,hR⟩
 refine h1 k σ hI iC w0 S0 G a w _ hR fun x σ' a' w' hx lM=>?_
 cases x with
 | normal=>obtain⟨m,hm,wN⟩:=hx;exact⟨m,hm,σ',wN,lM⟩
 | exit id=>exact hQ (.exit id) σ' a' w' hx lM
 | ret=>exact hQ .ret σ' a' w' hx lM
end
theorem aah{E:Env}{A7:FuncId}{fn:Func}{code:Code}(tl:Nat→Nat){args:List PV}{r:PV}(h1:E.P.funcs[A7]? = some fn)(h2:fn.body=some code) (h3:(fn.name == "runtime.NumGoroutine") = false)
  (iC:fB E fn.ntmps tl code=true) (fX:args.length≤fn.ntmps) (h:W E fn.ntmps tl code (aac E fn.results.toList r) (EN args)):aH E.P A7 args r:=
 OL h1 h2 h3 fX fun w0 S0 a w Q' hR hQ=>h iC w0 S0 Gs.none a w Q' hR hQ
def go(P:Prop):Prop:=P
def aX(R:PV→Prop)(K:PV→Prop):Prop:=∃v,R v∧K v
def iH(p:PV)(want:Bool)(A B:Prop):Prop:=∃t,p = .bool t∧(t=want→A)∧(t=(!want)→B)
def stepG(p:PV)(want:Bool)(A B:Prop):Prop:=(p = .bool want∧A)∨((p = .bool (!want)∨p = .fG [])∧B)
def aG(A B:Prop):Prop:=A∧B
@[congr] theorem ahb{R R' K:PV→Prop}(h:∀v,R v=R' v):aX R K=aX R' K:=by rw [show R=R' from funext h]
@[congr] theorem ahc{p p':PV}{want:Bool}{A B:Prop}(h:p=p'):iH p want A B=iH p' want A B:=by rw [h]
@[congr] theorem ahd{p p':PV}{want:Bool}{A B:Prop}(h:p=p'):stepG p want A B=stepG p' want A B:=by rw [h]
@[congr] theorem ahe{A A' B:Prop}(h:A=A'):aG A B=aG A' B:=by rw [h]
@[congr] theorem ajx{E:Env}{ops l:List Oper}{K:PS→Prop}{σ σ':PS}(h:σ=σ'):aN E ops l K σ=aN E ops l K σ':=by rw [h]
@[congr] theorem ajy{E:Env}{ops l:List Oper}{clk k k':Nat}{K:PS→Prop}{σ σ':ST}(hk:k=k')(h:σ=σ'):aP E ops clk k l K σ=aP E ops clk k' l K σ':=by rw [hk,h]
@[congr] theorem ajz{md:Region.Mode}{ops:List Oper}{j j' k k':Nat}(hj:j=j')(hk:k=k'):oT md ops j k=oT md ops j' k':=by rw [hj,hk]
@[congr] theorem ana{md:Region.Mode}{ops:List Oper}{i i' id jO:Nat}{t t':Nat→Nat→Prop}(hi:i=i')(iA:id=jO)(ht:t=t'):AY md ops i id t=AY md ops i' jO t':=by rw [hi,iA,ht]
@[congr] theorem ajA{md:Region.Mode}{ops:List Oper}{i i':Nat}{t t':Nat→Nat→Prop}{rows rows':Rows}(hi:i=i')(ht:t=t')(hr:rows=rows'):eM md ops i t rows=eM md ops i' t' rows':=by rw [hi,ht,hr]
@[congr] theorem adL{E:Env}{tl:Nat}{l:List Oper}{K:PS→Prop}{σ σ':PS}(h:σ=σ'):gC E tl l K σ=gC E tl l K σ':=by rw [h]
@[congr] theorem atj{E:Env}{n:Nat}{tl:Nat→Nat}{c:Code}{Q:PX→PS→Prop}{σ σ':PS}(h:σ=σ'):W E n tl c Q σ=W E n tl c Q σ':=by rw [h]
theorem jU{t:PV}{K:PV→Prop}:aX (fun v=>v=t) K=K t:=by simp [aX]
theorem VV{t:PV}{K:PV→Prop}:aX (fun v=>t=v) K=K t:=by simp [aX]
theorem jE{c:Prop}{R K:PV→Prop}:aX (fun v=>c∧R v) K=aG c (aX R K):=by
 apply propext;simp only [aX,aG]
 constructor
 ·rintro⟨v,⟨h1,h2⟩,h3⟩;exact⟨h1,v,h2,h3⟩
 ·rintro⟨h1,v,h2,h3⟩;exact⟨v,⟨h1,h2⟩,h3⟩
theorem aai{α:Type}{R:α→PV→Prop}{K:PV→Prop}:aX (fun v=>∃x,R x v) K = ∃x,aX (R x) K:=by
 apply propext;simp only [aX]
 constructor
 ·rintro⟨v,⟨x,h2⟩,h3⟩;exact⟨x,v,h2,h3⟩
 ·rintro⟨x,v,h2,h3⟩;exact⟨v,⟨x,h2⟩,h3⟩
theorem OO{B:Prop}:aG True B=B:=by simp [aG]
theorem aaj{A B:Prop}:iH (.bool true) true A B=A:=by simp [iH]
theorem aak{A B:Prop}:iH (.bool true) false A B=B:=by simp [iH]
theorem aal{A B:Prop}:iH (.bool false) true A B=B:=by simp [iH]
theorem aam{A B:Prop}:stepG (.bool true) true A B=A:=by simp [stepG]
theorem aan{A B:Prop}:stepG (.bool true) false A B=B:=by simp [stepG]
theorem aao{A B:Prop}:stepG (.bool false) true A B=B:=by simp [stepG]
theorem aap{A B:Prop}:stepG (.bool false) false A B=A:=by simp [stepG]
theorem aaq{w:Bool}{A B:Prop}:stepG (.fG []) w A B=B:=by simp [stepG]
theorem aar{A B:Prop}:iH (.bool false) false A B=A:=by simp [iH]
theorem A9{f:Nat→PV}{d j:Nat}{v:PV}:put f (some d) v j=if j=d then v else f j:=rfl
theorem aas{f:Nat→PV}{v:PV}:put f none v=f:=rfl
theorem ajB{α:Type}{f:Nat→α}{i j:Nat}{x:α}:dX f i x j=if j=i then x else f j:=rfl
def fa:List (Nat × PV)→Nat→PV
 | [],_ => .undef
 | (i,v)::l,j=>if j=i then v else fa l j
theorem OP{j:Nat}:fa [] j = .undef:=rfl
theorem GL{i j:Nat}{v:PV}{l:List (Nat × PV)}:fa ((i,v)::l) j=if j=i then v else fa l j:=rfl
section
variable {E:Env} {ops os:List Oper} {K:PS→Prop} {f:Nat→PV} {rows:Rows} {clk:Nat} {d:Option Tmp} {ty:TypeId} {pos:String} {af:Array Edge}
theorem aC(n:Nat)(l:List Nat):Gh n ⟨f,rows,clk⟩ ⟨fa (l.map fun i=>(i,f i)),rows,clk⟩:=by
 rintro w0 S0 G a w ⟨⟨c,h1,h2,h3,h4,h5,h6⟩,h7,h8⟩
 refine⟨⟨c,h1,h2,h3,h4,fun s=>?_,h6⟩,h7,h8⟩
 have:fa (l.map fun i=>(i,f i)) s=f s∨fa (l.map fun i=>(i,f i)) s = .undef:=by
  induction l with
  | nil=>exact .inr rfl
  | cons i l ih =>
   simp only [List.map_cons,fa]
   split
   ·rename_i h;rw [h];exact .inl rfl
   ·exact ih
 rcases this with h | h
 ·simp only;rw [h];exact h5 s
 ·simp only;rw [h];simp [aK,aQ]
theorem W.live{n:Nat}{tl:Nat→Nat}{c:Code}{Q:PX→PS→Prop}(l:List Nat)(h:W E n tl c Q ⟨fa (l.map fun i=>(i,f i)),rows,clk⟩):W E n tl c Q ⟨f,rows,clk⟩:=W.ghost (aC n l) h
theorem OQ{op:Op}{j:Nat}{want:Bool}:aN E ops (⟨d,op,ty,pos,af,some (j,want)⟩::os) K ⟨f,rows,clk⟩ =
  match (ops[j]?).bind (·.dst)with
  | none=>False
  | some e=>stepG (f e) want (aN E ops (⟨d,op,ty,pos,af,none⟩::os) K ⟨f,rows,clk⟩) (aN E ops os K ⟨put f d (.fG []),rows,clk⟩):=by
 simp only [aN]
 cases hx:(ops[j]?).bind (·.dst)with
 | none=>rfl
 | some e=>rfl
theorem cT{R:PV→Prop}{k:PV→Prop}(h:∀v,R v↔k v):(∃v u,(R v∧u=none)∧K ⟨put f d v,gB rows u,clk⟩)=aX k fun v=>K ⟨put f d v,rows,clk⟩:=by
 apply propext;simp only [aX]
 constructor
 ·rintro⟨v,u,⟨h1,rfl⟩,h2⟩;exact⟨v,(h v).1 h1,h2⟩
 ·rintro⟨v,h1,h2⟩;exact⟨v,none,⟨(h v).2 h1,rfl⟩,h2⟩
theorem VW{x:Operand}:aN E ops (⟨d, .move x,ty,pos,af,none⟩::os) K ⟨f,rows,clk⟩=aN E ops os K ⟨put f d (aS f x),rows,clk⟩:=by
 simp only [aN,eW,ys,yv]
 rw [cT (k:=fun v=>v=aS f x) (fun v=>Iff.rfl),jU]
theorem JP{x:Operand}:aN E ops (⟨d, .assign x,ty,pos,af,none⟩::os) K ⟨f,rows,clk⟩=aN E ops os K ⟨put f d (aS f x),rows,clk⟩:=by
 simp only [aN,eW,ys,yv]
 rw [cT (k:=fun v=>v=aS f x) (fun v=>Iff.rfl),jU]
theorem VX{c a b:Operand}:aN E ops (⟨d, .pick c a b,ty,pos,af,none⟩::os) K ⟨f,rows,clk⟩=iH (aS f c) true (aN E ops os K ⟨put f d (aS f a),rows,clk⟩) (aN E ops os K ⟨put f d (aS f b),rows,clk⟩):=by
 simp only [aN,eW,ys,yv]
 rw [cT (fun v=>Iff.rfl)]
 apply propext;simp only [aX,iH]
 constructor
 ·rintro⟨v,⟨t,h1,rfl⟩,h2⟩
  refine⟨t,h1,fun h=>?_,fun h=>?_⟩
  ·subst h;exact h2
  ·subst h;exact h2
 ·rintro⟨t,h1,h2,h3⟩
  cases t with
  | true=>exact⟨_,⟨true,h1,rfl⟩,h2 rfl⟩
  | false=>exact⟨_,⟨false,h1,rfl⟩,h3 rfl⟩
theorem aat{op:BinOp}{t t2:TypeId}{x y:Operand}:aN E ops (⟨d, .binOp op t x y t2,ty,pos,af,none⟩::os) K ⟨f,rows,clk⟩=aX (fun v=>F2 E op t (aS f x) (aS f y) v) fun v=>aN E ops os K ⟨put f d v,rows,clk⟩:=by
 simp only [aN,eW,ys,yv]
 rw [cT (fun v=>Iff.rfl)]
theorem aew{op:UnOp}{t:TypeId}{x:Operand}:aN E ops (⟨d, .unOp op t x,ty,pos,af,none⟩::os) K ⟨f,rows,clk⟩=aX (fun v=>yun op (aS f x) v) fun v=>aN E ops os K ⟨put f d v,rows,clk⟩:=by
 simp only [aN,eW,ys,yv]
 rw [cT (k:=fun v=>yun op (aS f x) v) (fun v=>Iff.rfl)]
theorem VY{s t:TypeId}{x:Operand}:aN E ops (⟨d, .convert s t x,ty,pos,af,none⟩::os) K ⟨f,rows,clk⟩=aX (fun v=>sV (E.ty s) (E.ty t) (aS f x) v) fun v=>aN E ops os K ⟨put f d v,rows,clk⟩:=by
 simp only [aN,eW,ys,yv]
 rw [cT (k:=fun v=>sV (E.ty s) (E.ty t) (aS f x) v) (fun v=>Iff.rfl)]
theorem GM{i:Nat}{x:Operand}:aN E ops (⟨d, .extract x i,ty,pos,af,none⟩::os) K ⟨f,rows,clk⟩=aX (fun v=>NO i (aS f x) v) fun v=>aN E ops os K ⟨put f d v,rows,clk⟩:=by
 simp only [aN,eW,ys,yv]
 rw [cT (k:=fun v=>NO i (aS f x) v) (fun v=>Iff.rfl)]
theorem VZ{t:TypeId}{x:Operand}:aN E ops (⟨d, .load t x,ty,pos,af,none⟩::os) K ⟨f,rows,clk⟩=aX (fun v=>sS E t rows (aS f x) v) fun v=>aN E ops os K ⟨put f d v,rows,clk⟩:=by
 simp only [aN,eW,ys,yv]
 rw [cT (fun v=>Iff.rfl)]
theorem OR{t:TypeId}{i:Nat}{x:Operand}:aN E ops (⟨d, .field t x i,ty,pos,af,none⟩::os) K ⟨f,rows,clk⟩=aX (fun v=>tC E t i (aS f x) v) fun v=>aN E ops os K ⟨put f d v,rows,clk⟩:=by
 simp only [aN,eW,ys,yv]
 rw [cT (fun v=>Iff.rfl)]
theorem BA{t:TypeId}{i:Nat}{x:Operand}:aN E ops (⟨d, .fieldAddr t x i,ty,pos,af,none⟩::os) K ⟨f,rows,clk⟩=aX (fun v=>fI E t rows i (aS f x) v) fun v=>aN E ops os K ⟨put f d v,rows,clk⟩:=by
 simp only [aN,eW,ys,yv]
 rw [cT (fun v=>Iff.rfl)]
theorem BB{t:TypeId}{x y:Operand}:aN E ops (⟨d, .indexAddr t x y,ty,pos,af,none⟩::os) K ⟨f,rows,clk⟩=aX (fun v=>fJ E t rows (aS f x) (aS f y) v) fun v=>aN E ops os K ⟨put f d v,rows,clk⟩:=by
 simp only [aN,eW,ys,yv]
 rw [cT (fun v=>Iff.rfl)]
theorem OS{t:TypeId}{x:Operand}{lo hi mx:Option Operand}:aN E ops (⟨d, .slice t x lo hi mx,ty,pos,af,none⟩::os) K ⟨f,rows,clk⟩=aX (fun v=>nI E t rows (aS f x) (lo.map (aS f)) (hi.map (aS f)) (mx.map (aS f)) v) fun v=>aN E ops os K ⟨put f d v,rows,clk⟩:=by
 simp only [aN,eW,ys,yv]
 rw [cT (fun v=>Iff.rfl)]
theorem OT{t:TypeId}{parts:Array (Nat × Operand)}:aN E ops (⟨d, .build t parts,ty,pos,af,none⟩::os) K ⟨f,rows,clk⟩=aX (fun v=>qE (E.ty t) (parts.toList.map fun x=>(x.1,aS f x.2)) v) fun v=>aN E ops os K ⟨put f d v,rows,clk⟩:=by
 simp only [aN,eW,ys,yv]
 rw [cT (k:=fun v=>qE (E.ty t) (parts.toList.map fun x=>(x.1,aS f x.2)) v) (fun v=>Iff.rfl)]
theorem OU{t:TypeId}{x y:Operand}:aN E ops (⟨d, .index t x y,ty,pos,af,none⟩::os) K ⟨f,rows,clk⟩=aX (fun v=>tD (E.ty t) (aS f x) (aS f y) v) fun v=>aN E ops os K ⟨put f d v,rows,clk⟩:=by
 simp only [aN,eW,ys,yv]
 rw [cT (k:=fun v=>tD (E.ty t) (aS f x) (aS f y) v) (fun v=>Iff.rfl)]
theorem aau{t:TypeId}{x:Operand}:aN E ops (⟨d, .call { callee:=.builtin .len,args:=⟨[x]⟩,argTypes:=⟨[t]⟩ },ty,pos,af,none⟩::os) K ⟨f,rows,clk⟩=aX (fun v=>x7 (E.ty t) rows (aS f x) v) fun v=>aN E ops os K ⟨put f d v,rows,clk⟩:=by
 simp only [aN,eW,ys,yv]
 rw [cT (k:=fun v=>x7 (E.ty t) rows (aS f x) v) (fun v=>Iff.rfl)]
theorem DX{x:Operand}:aN E ops (⟨d, .nilCheck x,ty,pos,af,none⟩::os) K ⟨f,rows,clk⟩=aX (fun v=>DP rows (aS f x) v) fun v=>aN E ops os K ⟨put f d v,rows,clk⟩:=by
 simp only [aN,eW,ys,yv]
 rw [cT (k:=fun v=>DP rows (aS f x) v) (fun v=>Iff.rfl)]
theorem aav{ts:Array TypeId}{x y:Operand}:aN E ops (⟨d, .call { callee:=.builtin .max,args:=⟨[x,y]⟩,argTypes:=ts },ty,pos,af,none⟩::os) K ⟨f,rows,clk⟩=aX (fun v=>NQ (aS f x) (aS f y) v) fun v=>aN E ops os K ⟨put f d v,rows,clk⟩:=by
 simp only [aN,eW,ys,yv]
 rw [cT (fun v=>Iff.rfl)]
theorem aaw{ts:Array TypeId}{x y:Operand}:aN E ops (⟨d, .call { callee:=.builtin .min,args:=⟨[x,y]⟩,argTypes:=ts },ty,pos,af,none⟩::os) K ⟨f,rows,clk⟩=aX (fun v=>NR (aS f x) (aS f y) v) fun v=>aN E ops os K ⟨put f d v,rows,clk⟩:=by
 simp only [aN,eW,ys,yv]
 rw [cT (fun v=>Iff.rfl)]
theorem zF{t:TypeId}{len:Nat}{parts:Array (Nat × Operand)}:aN E ops (⟨d, .buildSlice t len parts,ty,pos,af,none⟩::os) K ⟨f,rows,clk⟩=aX (fun v=>N9 (E.ty t) rows len (parts.toList.map fun x=>(x.1,aS f x.2)) v) fun v=>aN E ops os K ⟨put f d v,rows,clk⟩:=by
 simp only [aN,eW,ys]
 rw [cT (fun v=>Iff.rfl)]
theorem OV{t:TypeId}{p x:Operand}:aN E ops (⟨none, .store t p x,ty,pos,af,none⟩::os) K ⟨f,rows,clk⟩ = ∃id r,qJ E t rows (aS f p) (aS f x) .undef (some (id,r))∧aN E ops os K ⟨f,dX rows id (some r),clk⟩:=by
 simp only [aN,eW,ys]
 apply propext
 constructor
 ·rintro⟨v,u,h,h2⟩
  have h':=h
  obtain⟨_,rfl,h3⟩:=h
  split at h3
  ·obtain⟨_,_,_,_,_,_,_,_,_,_,rfl⟩:=h3
   exact⟨_,_,h',h2⟩
  ·exact h3.elim
 ·rintro⟨id,r,h,h2⟩;exact⟨.undef,some (id,r),h,h2⟩
theorem OW{t:TypeId}:aN E ops (⟨d, .alloc t,ty,pos,af,none⟩::os) K ⟨f,rows,clk⟩=aG ((E.ty t).known=true) (aN E ops os K ⟨put f d (.ptr (d.getD 0) clk 0 0),dX rows (d.getD 0) (some ⟨clk,t,(E.ty t).size,[(E.ty t).zero]⟩),clk+1⟩):=rfl
theorem aax{t:TypeId}{x:Operand}:aN E ops (⟨d, .box t x,ty,pos,af,none⟩::os) K ⟨f,rows,clk⟩=aG ((E.ty t).known=true) (∃l,cD (aS f x)=some l∧(∀q∈l,iP rows q)∧l.length=(E.ty t).size∧aN E ops os K ⟨put f d (.ptr (d.getD 0) clk 0 0),dX rows (d.getD 0) (some ⟨clk,t,(E.ty t).size,[l]⟩),clk+1⟩):=rfl
def qO(t:TI)(x y:PV)(K:TypeId→Nat→List PV→Int→Prop):Prop:=
 match t,x,y with
 | .slice e n b z, .int _ x, .int _ y=>aG (0≤x∧x≤y∧y.toNat≤room∧y.toNat*b≤room) (K e n z x)
 | _,_,_=>False
theorem BC{t:TypeId}{l c:Operand}:aN E ops (⟨d, .makeSlice t l c,ty,pos,af,none⟩::os) K ⟨f,rows,clk⟩=qO (E.ty t) (aS f l) (aS f c) fun e n z x=>aN E ops os K ⟨put f d (.own (d.getD 0) clk 0 x.toNat),dX rows (d.getD 0) (some ⟨clk,e,n,List.replicate x.toNat z⟩),clk+1⟩:=by
 simp only [aN,eW,qO,GC]
 generalize E.ty t=T
 generalize aS f l=A
 generalize aS f c=B
 cases T with
 | slice e n b z =>
  cases A with
  | int k x =>
   cases B with
   | int k2 y=>simp only [aG,and_assoc]
   | _=>rfl
  | _=>rfl
 | _=>rfl
def V0(t:TI)(rows:Rows)(x y:PV)(clk d:Nat)(K:PV→Rows→Nat→Prop):Prop:=
 match t with
 | .slice e n b _ =>
  ∃l,tG rows y l∧(∀e∈l,e.length=n) ∧
  match x with
  | .nil=>aG (l.length≤room∧l.length*b≤room) (K (.own d clk 0 l.length) (dX rows d (some ⟨clk,e,n,l⟩)) (clk+1))
  | .own id ver off len=>∃r,rows id=some r∧r.ver=ver∧off=0∧len≤r.els.length∧r.e=e∧r.size=n∧aG (len+l.length≤room∧(len+l.length)*b≤room) (K (.own id clk 0 (len+l.length)) (dX rows id (some ⟨clk,e,n,r.els.take len++l⟩)) (clk+1))
  | .jB l0=>(∀e∈l0,e.length=n)∧(∀e∈l,∀p∈e,cW p=true)∧aG (l0.length+l.length≤room∧(l0.length+l.length)*b≤room) (K (.sl (l0++l)) rows clk)
  | _=>False
 | _=>False
theorem JQ{t t2:TypeId}{x y:Operand}:aN E ops (⟨d, .call { callee:=.builtin .append,args:=⟨[x,y]⟩,argTypes:=⟨[t,t2]⟩ },ty,pos,af,none⟩::os) K ⟨f,rows,clk⟩ =
  aG (t2=t∨ZP (E.ty t2)=true) (V0 (E.ty t) rows (aS f x) (aS f y) clk (d.getD 0) fun v rows clk=>aN E ops os K ⟨put f d v,rows,clk⟩):=by
 simp only [aN,eW,GD,V0,GC,aG,PS.put]
 congr 1
 generalize E.ty t=T
 generalize aS f x=A
 cases T with
 | slice e n b z =>
  simp only
  congr 1
  funext l
  congr 2
  cases A with
  | nil=>simp only [and_assoc]
  | own id ver off len=>simp only [and_assoc]
  | jB l0=>simp only [and_assoc]
  | _=>rfl
 | _=>rfl
end
def uU(P:Program)(g:FuncId)(args:List PV)(K:PV→Prop):Prop:=∃v,aH P g args v∧K v
@[congr] theorem ahf{P:Program}{g:FuncId}{args JR:List PV}{K:PV→Prop}(h:args=JR):uU P g args K=uU P g JR K:=by rw [h]
def qP(E:Env)(p:PV)(gJ:List PV)(rows:Rows)(clk:Nat)(K:PV→Rows→Nat→Prop):Prop:=
 match p with
 | .fn g cL=>if E.writes g=true then cL = []∧yC E.P g gJ rows clk K else aG ((gJ.map (pz rows)).all fV=true∧eK rows (gJ.flatMap dW)) (uU E.P g (gJ.map (pz rows)++cL) fun v=>K v (EI rows (gJ.flatMap dW)) clk)
 | _=>False
@[congr] theorem aex{E:Env}{p p':PV}{gJ yH:List PV}{rows rows':Rows}{clk kG:Nat}{K:PV→Rows→Nat→Prop}(h1:p=p')(h2:gJ=yH)(h3:rows=rows')(h4:clk=kG):qP E p gJ rows clk K=qP E p' yH rows' kG K:=by rw [h1,h2,h3,h4]
@[congr] theorem ahg{P:Program}{g:FuncId}{gJ yH:List PV}{rows:Rows}{clk:Nat}{K:PV→Rows→Nat→Prop}(h:gJ=yH):yC P g gJ rows clk K=yC P g yH rows clk K:=by rw [h]
@[congr] theorem ahh{t t':TI}{x x' y y':PV}{K:TypeId→Nat→List PV→Int→Prop}(h1:t=t')(h2:x=x')(h3:y=y'):qO t x y K=qO t' x' y' K:=by rw [h1,h2,h3]
@[congr] theorem ajC{t t':TI}{rows rows':Rows}{x x' y y':PV}{clk kG d d':Nat}{K:PV→Rows→Nat→Prop}(h1:t=t')(h2:rows=rows')(h3:x=x')(h4:y=y')(h5:clk=kG)(h6:d=d') :
  V0 t rows x y clk d K=V0 t' rows' x' y' kG d' K:=by rw [h1,h2,h3,h4,h5,h6]
section
variable {E:Env} {ops os:List Oper} {K:PS→Prop} {f:Nat→PV} {rows:Rows} {clk:Nat} {d:Option Tmp} {ty:TypeId} {pos:String} {af:Array Edge}
theorem V1{fo:Operand}{args:Array Operand}{ts:Array TypeId}:aN E ops (⟨d, .call { callee:=.value fo,args:=args,argTypes:=ts },ty,pos,af,none⟩::os) K ⟨f,rows,clk⟩ =
  qP E (aS f fo) (args.toList.map (aS f)) rows clk fun v rows clk=>aN E ops os K ⟨put f d v,rows,clk⟩:=by
 simp only [aN,eW,yD,qP,OA,aG,uU]
 generalize aS f fo=A
 have e1:(args.toList.map fun x=>pz rows (aS f x))=(args.toList.map (aS f)).map (pz rows):=by rw [List.map_map];rfl
 have e2:(args.toList.flatMap fun x=>dW (aS f x))=(args.toList.map (aS f)).flatMap dW:=by rw [List.flatMap_map]
 rw [e1,e2]
 cases A with
 | fn g cL =>
  have hm:ajd E (.fn g cL)=E.writes g:=rfl
  by_cases hw:E.writes g=true
  ·rw [hm,if_pos hw]
   cases cL with
   | nil=>simp [hw]
   | cons x l=>simp [hw]
  rw [hm,if_neg hw]
  simp only [if_neg hw]
  apply propext
  constructor
  ·rintro⟨v,⟨h1,h2⟩,h3,h4⟩;exact⟨⟨h1,h3⟩,v,h2,h4⟩
  ·rintro⟨⟨h1,h3⟩,v,h2,h4⟩;exact⟨v,⟨h1,h2⟩,h3,h4⟩
 | _=>simp [ajd]
theorem DY{g:FuncId}{cL:Array Operand}:aN E ops (⟨d, .makeFunc (.func g) ⟨[]⟩ cL,ty,pos,af,none⟩::os) K ⟨f,rows,clk⟩ =
  aG (((cL.toList.map (aS f)).map (pz rows)).all fV=true∧eK rows ((cL.toList.map (aS f)).flatMap dW))
   (aN E ops os K ⟨put f d (.fn g ((cL.toList.map (aS f)).map (pz rows))),EI rows ((cL.toList.map (aS f)).flatMap dW),clk⟩):=by
 simp only [aN,eW,aG,and_assoc]
 have e1:(cL.toList.map fun x=>pz rows (aS f x))=(cL.toList.map (aS f)).map (pz rows):=by rw [List.map_map];rfl
 have e2:(cL.toList.flatMap fun x=>dW (aS f x))=(cL.toList.map (aS f)).flatMap dW:=by rw [List.flatMap_map]
 rw [e1,e2]
def kV(k:Nat)(l:List Nat)(t:Nat→Nat→Prop):Nat→Nat→Prop:=fun k' id=>(true=true∧k'=k∧id∈l)∨t k' id
def oV(k id:Nat)(w:Nat→Nat→Prop):Nat→Nat→Prop:=fun k' jO=>(k'=k∧jO=id)∨w k' jO
variable {k:Nat} {bV:Nat→Nat→Prop} {aO:Nat→Nat→Prop}
theorem OX{op:Op}{j:Nat}{want:Bool}:aP E ops clk k (⟨d,op,ty,pos,af,some (j,want)⟩::os) K ⟨f,rows,bV,aO⟩ =
  match (ops[j]?).bind (·.dst)with
  | none=>False
  | some e=>stepG (f e) want (aP E ops clk k (⟨d,op,ty,pos,af,none⟩::os) K ⟨f,rows,bV,aO⟩) (aP E ops clk (k+1) os K ⟨put f d (.fG []),rows,bV,aO⟩):=by
 have e3:app k ⟨d,op,ty,pos,af,some (j,want)⟩ false (.fG []) none ⟨f,rows,bV,aO⟩=⟨put f d (.fG []),rows,bV,aO⟩:=by simp [app,gB,wlU]
 simp only [aP,e3]
 cases hx:(ops[j]?).bind (·.dst)with
 | none=>rfl
 | some e=>rfl
theorem c8{o:Oper}{R:PV→Prop}{kk:PV→Prop}{st:ST}(h:∀v,R v↔kk v):(∃v u,(R v∧u=none)∧VS .any ops k u bV∧aP E ops clk (k+1) os K (app k o true v u st))=aX kk fun v=>aP E ops clk (k+1) os K (app k o true v none st):=by
 apply propext;simp only [aX]
 constructor
 ·rintro⟨v,u,⟨h1,rfl⟩,_,h2⟩;exact⟨v,(h v).1 h1,h2⟩
 ·rintro⟨v,h1,h2⟩;exact⟨v,none,⟨(h v).2 h1,rfl⟩,trivial,h2⟩
theorem fD{op:Op}{v:PV}(h:iK op (aS f) = []):app k ⟨d,op,ty,pos,af,none⟩ true v none ⟨f,rows,bV,aO⟩=⟨put f d v,rows,bV,aO⟩:=by simp [app,gB,wlU,h]
theorem rU{op:Op}{v:PV}{l:List Nat}(h:iK op (aS f)=l):app k ⟨d,op,ty,pos,af,none⟩ true v none ⟨f,rows,bV,aO⟩=⟨put f d v,rows,kV k l bV,aO⟩:=by subst h;rfl
theorem V2{x:Operand}:aP E ops clk k (⟨d, .move x,ty,pos,af,none⟩::os) K ⟨f,rows,bV,aO⟩=aP E ops clk (k+1) os K ⟨put f d (aS f x),rows,bV,aO⟩:=by
 simp only [aP,yn,iL,ys,yv]
 rw [c8 (kk:=fun v=>v=aS f x) (fun v=>Iff.rfl),jU,fD rfl]
theorem JS{x:Operand}:aP E ops clk k (⟨d, .assign x,ty,pos,af,none⟩::os) K ⟨f,rows,bV,aO⟩=aP E ops clk (k+1) os K ⟨put f d (aS f x),rows,bV,aO⟩:=by
 simp only [aP,yn,iL,ys,yv]
 rw [c8 (kk:=fun v=>v=aS f x) (fun v=>Iff.rfl),jU,fD rfl]
theorem V3{c a b:Operand}:aP E ops clk k (⟨d, .pick c a b,ty,pos,af,none⟩::os) K ⟨f,rows,bV,aO⟩=iH (aS f c) true (aP E ops clk (k+1) os K ⟨put f d (aS f a),rows,bV,aO⟩) (aP E ops clk (k+1) os K ⟨put f d (aS f b),rows,bV,aO⟩):=by
 simp only [aP,yn,iL,ys,yv]
 rw [c8 (fun v=>Iff.rfl)]
 apply propext;simp only [aX,iH,fD (op:=.pick c a b) rfl]
 constructor
 ·rintro⟨v,⟨t,h1,rfl⟩,h2⟩
  refine⟨t,h1,fun h=>?_,fun h=>?_⟩
  ·subst h;exact h2
  ·subst h;exact h2
 ·rintro⟨t,h1,h2,h3⟩
  cases t with
  | true=>exact⟨_,⟨true,h1,rfl⟩,h2 rfl⟩
  | false=>exact⟨_,⟨false,h1,rfl⟩,h3 rfl⟩
theorem aay{op:BinOp}{t t2:TypeId}{x y:Operand}:aP E ops clk k (⟨d, .binOp op t x y t2,ty,pos,af,none⟩::os) K ⟨f,rows,bV,aO⟩=aX (fun v=>F2 E op t (aS f x) (aS f y) v) fun v=>aP E ops clk (k+1) os K ⟨put f d v,rows,bV,aO⟩:=by
 simp only [aP,yn,iL,ys,yv];rw [c8 (fun v=>Iff.rfl)];simp only [fD (op:=.binOp op t x y t2) rfl]
theorem aey{op:UnOp}{t:TypeId}{x:Operand}:aP E ops clk k (⟨d, .unOp op t x,ty,pos,af,none⟩::os) K ⟨f,rows,bV,aO⟩=aX (fun v=>yun op (aS f x) v) fun v=>aP E ops clk (k+1) os K ⟨put f d v,rows,bV,aO⟩:=by
 simp only [aP,yn,iL,ys,yv];rw [c8 (fun v=>Iff.rfl)];simp only [fD (op:=.unOp op t x) rfl]
theorem V4{s t:TypeId}{x:Operand}:aP E ops clk k (⟨d, .convert s t x,ty,pos,af,none⟩::os) K ⟨f,rows,bV,aO⟩=aX (fun v=>sV (E.ty s) (E.ty t) (aS f x) v) fun v=>aP E ops clk (k+1) os K ⟨put f d v,rows,bV,aO⟩:=by
 simp only [aP,yn,iL,ys,yv];rw [c8 (fun v=>Iff.rfl)];simp only [fD (op:=.convert s t x) rfl]
theorem GN{i:Nat}{x:Operand}:aP E ops clk k (⟨d, .extract x i,ty,pos,af,none⟩::os) K ⟨f,rows,bV,aO⟩=aX (fun v=>NO i (aS f x) v) fun v=>aP E ops clk (k+1) os K ⟨put f d v,rows,bV,aO⟩:=by
 simp only [aP,yn,iL,ys,yv];rw [c8 (fun v=>Iff.rfl)];simp only [fD (op:=.extract x i) rfl]
theorem V5{t:TypeId}{x:Operand}:aP E ops clk k (⟨d, .load t x,ty,pos,af,none⟩::os) K ⟨f,rows,bV,aO⟩=aX (fun v=>sS E t (eM .any ops k aO rows) (aS f x) v) fun v=>aP E ops clk (k+1) os K ⟨put f d v,rows,kV k (a9 (aS f x)) bV,aO⟩:=by
 simp only [aP,yn,iL,ys,yv];rw [c8 (fun v=>Iff.rfl)];simp only [rU (op:=.load t x) rfl];rfl
theorem OY{t:TypeId}{i:Nat}{x:Operand}:aP E ops clk k (⟨d, .field t x i,ty,pos,af,none⟩::os) K ⟨f,rows,bV,aO⟩=aX (fun v=>tC E t i (aS f x) v) fun v=>aP E ops clk (k+1) os K ⟨put f d v,rows,bV,aO⟩:=by
 simp only [aP,yn,iL,ys,yv];rw [c8 (fun v=>Iff.rfl)];simp only [fD (op:=.field t x i) rfl]
theorem BD{t:TypeId}{i:Nat}{x:Operand}:aP E ops clk k (⟨d, .fieldAddr t x i,ty,pos,af,none⟩::os) K ⟨f,rows,bV,aO⟩=aX (fun v=>fI E t (eM .any ops k aO rows) i (aS f x) v) fun v=>aP E ops clk (k+1) os K ⟨put f d v,rows,kV k (a9 (aS f x)) bV,aO⟩:=by
 simp only [aP,yn,iL,ys,yv];rw [c8 (fun v=>Iff.rfl)];simp only [rU (op:=.fieldAddr t x i) rfl];rfl
theorem BE{t:TypeId}{x y:Operand}:aP E ops clk k (⟨d, .indexAddr t x y,ty,pos,af,none⟩::os) K ⟨f,rows,bV,aO⟩=aX (fun v=>fJ E t (eM .any ops k aO rows) (aS f x) (aS f y) v) fun v=>aP E ops clk (k+1) os K ⟨put f d v,rows,kV k (a9 (aS f x)) bV,aO⟩:=by
 simp only [aP,yn,iL,ys,yv];rw [c8 (fun v=>Iff.rfl)];simp only [rU (op:=.indexAddr t x y) rfl];rfl
theorem OZ{t:TypeId}{x:Operand}{lo hi mx:Option Operand}:aP E ops clk k (⟨d, .slice t x lo hi mx,ty,pos,af,none⟩::os) K ⟨f,rows,bV,aO⟩=aX (fun v=>nI E t (eM .any ops k aO rows) (aS f x) (lo.map (aS f)) (hi.map (aS f)) (mx.map (aS f)) v) fun v=>aP E ops clk (k+1) os K ⟨put f d v,rows,kV k (a9 (aS f x)) bV,aO⟩:=by
 simp only [aP,yn,iL,ys,yv];rw [c8 (fun v=>Iff.rfl)];simp only [rU (op:=.slice t x lo hi mx) rfl];rfl
theorem O0{t:TypeId}{parts:Array (Nat × Operand)}:aP E ops clk k (⟨d, .build t parts,ty,pos,af,none⟩::os) K ⟨f,rows,bV,aO⟩=aX (fun v=>qE (E.ty t) (parts.toList.map fun x=>(x.1,aS f x.2)) v) fun v=>aP E ops clk (k+1) os K ⟨put f d v,rows,bV,aO⟩:=by
 simp only [aP,yn,iL,ys,yv];rw [c8 (fun v=>Iff.rfl)];simp only [fD (op:=.build t parts) rfl]
theorem aaz{t:TypeId}{x:Operand}:aP E ops clk k (⟨d, .call { callee:=.builtin .len,args:=⟨[x]⟩,argTypes:=⟨[t]⟩ },ty,pos,af,none⟩::os) K ⟨f,rows,bV,aO⟩=aX (fun v=>x7 (E.ty t) (eM .any ops k aO rows) (aS f x) v) fun v=>aP E ops clk (k+1) os K ⟨put f d v,rows,kV k (a9 (aS f x)) bV,aO⟩:=by
 simp only [aP,yn,iL,ys,yv];rw [c8 (fun v=>Iff.rfl)];simp only [rU (op:=.call { callee:=.builtin .len,args:=⟨[x]⟩,argTypes:=⟨[t]⟩ }) rfl];rfl
theorem DZ{x:Operand}:aP E ops clk k (⟨d, .nilCheck x,ty,pos,af,none⟩::os) K ⟨f,rows,bV,aO⟩=aX (fun v=>DP (eM .any ops k aO rows) (aS f x) v) fun v=>aP E ops clk (k+1) os K ⟨put f d v,rows,kV k (a9 (aS f x)) bV,aO⟩:=by
 simp only [aP,yn,iL,ys,yv];rw [c8 (fun v=>Iff.rfl)];simp only [rU (op:=.nilCheck x) rfl];rfl
theorem aaA{ts:Array TypeId}{x y:Operand}:aP E ops clk k (⟨d, .call { callee:=.builtin .max,args:=⟨[x,y]⟩,argTypes:=ts },ty,pos,af,none⟩::os) K ⟨f,rows,bV,aO⟩=aX (fun v=>NQ (aS f x) (aS f y) v) fun v=>aP E ops clk (k+1) os K ⟨put f d v,rows,bV,aO⟩:=by
 simp only [aP,yn,iL,ys,yv];rw [c8 (fun v=>Iff.rfl)];simp only [fD (op:=.call { callee:=.builtin .max,args:=⟨[x,y]⟩,argTypes:=ts }) rfl]
theorem aaB{ts:Array TypeId}{x y:Operand}:aP E ops clk k (⟨d, .call { callee:=.builtin .min,args:=⟨[x,y]⟩,argTypes:=ts },ty,pos,af,none⟩::os) K ⟨f,rows,bV,aO⟩=aX (fun v=>NR (aS f x) (aS f y) v) fun v=>aP E ops clk (k+1) os K ⟨put f d v,rows,bV,aO⟩:=by
 simp only [aP,yn,iL,ys,yv];rw [c8 (fun v=>Iff.rfl)];simp only [fD (op:=.call { callee:=.builtin .min,args:=⟨[x,y]⟩,argTypes:=ts }) rfl]
theorem D0{g:FuncId}{cL:Array Operand}:aP E ops clk k (⟨d, .makeFunc (.func g) ⟨[]⟩ cL,ty,pos,af,none⟩::os) K ⟨f,rows,bV,aO⟩=aG ((cL.toList.map fun x=>aS f x).all fV=true) (aP E ops clk (k+1) os K ⟨put f d (.fn g (cL.toList.map fun x=>aS f x)),rows,bV,aO⟩):=by
 simp only [aP,yn,iL,ys,yv]
 rw [c8 (fun v=>Iff.rfl),jE,jU];simp only [fD (op:=.makeFunc (.func g) ⟨[]⟩ cL) rfl]
theorem zG{t:TypeId}{len:Nat}{parts:Array (Nat × Operand)}:aP E ops clk k (⟨d, .buildSlice t len parts,ty,pos,af,none⟩::os) K ⟨f,rows,bV,aO⟩=aX (fun v=>N9 (E.ty t) (eM .any ops k aO rows) len (parts.toList.map fun x=>(x.1,aS f x.2)) v) fun v=>aP E ops clk (k+1) os K ⟨put f d v,rows,bV,aO⟩:=by
 simp only [aP,yn,iL,ys];rw [c8 (fun v=>Iff.rfl)];simp only [fD (op:=.buildSlice t len parts) rfl]
theorem O1{t:TypeId}{p x:Operand}:aP E ops clk k (⟨none, .store t p x,ty,pos,af,none⟩::os) K ⟨f,rows,bV,aO⟩ =
  ∃id r,qJ E t (eM .any ops k aO rows) (aS f p) (aS f x) .undef (some (id,r))∧AY .any ops k id bV∧aP E ops clk (k+1) os K ⟨f,dX rows id (some r),kV k (a9 (aS f p)++((cD (aS f x)).getD []).flatMap a9) bV,oV k id aO⟩:=by
 simp only [aP,yn,iL,ys]
 apply propext
 constructor
 ·rintro⟨v,u,h,h1,h2⟩
  have h':=h
  obtain⟨_,rfl,h3⟩:=h
  split at h3
  ·obtain⟨_,_,_,_,_,_,_,_,_,_,rfl⟩:=h3
   exact⟨_,_,h',h1,h2⟩
  ·exact h3.elim
 ·rintro⟨id,r,h,h1,h2⟩;exact⟨.undef,some (id,r),h,h1,h2⟩
theorem aaC{o:Oper}{R:PV→Option (Nat × Row)→Prop}{C:Prop}{v0:PV}{e:Nat}{r0:Row}{st:ST}{kG:Nat}(h:∀v u,R v u↔(C∧v=v0∧u=some (e,r0))):(∃v u,R v u∧VS .any ops k u bV∧aP E ops kG (k+1) os K (app k o true v u st))=aG (C∧AY .any ops k e bV) (aP E ops kG (k+1) os K (app k o true v0 (some (e,r0)) st)):=by
 apply propext;simp only [aG]
 constructor
 ·rintro⟨v,u,h1,h2,h3⟩
  obtain⟨hc,rfl,rfl⟩:=(h v u).1 h1
  exact⟨⟨hc,h2⟩,h3⟩
 ·rintro⟨⟨h1,h2⟩,h3⟩;exact⟨v0,_,(h _ _).2 ⟨h1,rfl,rfl⟩,h2,h3⟩
theorem uV{op:Op}{v:PV}{e:Nat}{r0:Row}(h:iK op (aS f) = []):app k ⟨d,op,ty,pos,af,none⟩ true v (some (e,r0)) ⟨f,rows,bV,aO⟩=⟨put f d v,dX rows e (some r0),bV,oV k e aO⟩:=by simp only [app,gB,wlU,h,List.not_mem_nil,and_false,false_or];rfl
theorem O2{t:TypeId}:aP E ops clk k (⟨d, .alloc t,ty,pos,af,none⟩::os) K ⟨f,rows,bV,aO⟩=aG ((E.ty t).known=true∧AY .any ops k (d.getD 0) bV) (aP E ops (clk+1) (k+1) os K ⟨put f d (.ptr (d.getD 0) clk 0 0),dX rows (d.getD 0) (some ⟨clk,t,(E.ty t).size,[(E.ty t).zero]⟩),bV,oV k (d.getD 0) aO⟩):=by
 simp only [aP,yn,iL]
 rw [aaC (C:=(E.ty t).known=true) (v0:=.ptr (d.getD 0) clk 0 0) (e:=d.getD 0) (r0:=⟨clk,t,(E.ty t).size,[(E.ty t).zero]⟩) (fun v u=>by simp),uV (op:=.alloc t) rfl]
theorem aaD{t:TypeId}{x:Operand}:aP E ops clk k (⟨d, .box t x,ty,pos,af,none⟩::os) K ⟨f,rows,bV,aO⟩=aG ((E.ty t).known=true) (∃l,cD (aS f x)=some l∧((∀q∈l,iP (fun _=>none) q)∧l.length=(E.ty t).size∧AY .any ops k (d.getD 0) bV) ∧
  aP E ops (clk+1) (k+1) os K ⟨put f d (.ptr (d.getD 0) clk 0 0),dX rows (d.getD 0) (some ⟨clk,t,(E.ty t).size,[l]⟩),bV,oV k (d.getD 0) aO⟩):=by
 simp only [aP,yn,iL]
 apply propext
 constructor
 ·rintro⟨v,u,⟨h1,l,h2,h3,h4,rfl,rfl⟩,h5,h6⟩
  rw [uV (op:=.box t x) rfl]at h6
  exact⟨h1,l,h2,⟨h3,h4,h5⟩,h6⟩
 ·rintro⟨h1,l,h2,⟨h3,h4,h5⟩,h6⟩
  refine⟨_,_,⟨h1,l,h2,h3,h4,rfl,rfl⟩,h5,?_⟩
  rw [uV (op:=.box t x) rfl];exact h6
theorem BF{t:TypeId}{l c:Operand}:aP E ops clk k (⟨d, .makeSlice t l c,ty,pos,af,none⟩::os) K ⟨f,rows,bV,aO⟩=qO (E.ty t) (aS f l) (aS f c) fun e n z x=>aG (AY .any ops k (d.getD 0) bV) (aP E ops (clk+1) (k+1) os K ⟨put f d (.own (d.getD 0) clk 0 x.toNat),dX rows (d.getD 0) (some ⟨clk,e,n,List.replicate x.toNat z⟩),bV,oV k (d.getD 0) aO⟩):=by
 have ZK:∀ {v e' r0},app k ⟨d, .makeSlice t l c,ty,pos,af,none⟩ true v (some (e',r0)) ⟨f,rows,bV,aO⟩=⟨put f d v,dX rows e' (some r0),bV,oV k e' aO⟩:=uV rfl
 simp only [aP,yn,iL,qO]
 generalize E.ty t=T
 generalize aS f l=A
 generalize aS f c=B
 cases T with
 | slice e n b z =>
  cases A with
  | int k1 x =>
   cases B with
   | int k2 y =>
    apply propext
    simp only [aG]
    constructor
    ·rintro⟨v,u,⟨h1,h2,h3,h4,rfl,rfl⟩,h5,h6⟩
     rw [ZK]at h6
     exact⟨⟨h1,h2,h3,h4⟩,h5,h6⟩
    ·rintro⟨⟨h1,h2,h3,h4⟩,h5,h6⟩
     refine⟨_,_,⟨h1,h2,h3,h4,rfl,rfl⟩,h5,?_⟩
     rw [ZK];exact h6
   | _=>simp
  | _=>simp
 | _=>simp
theorem JT{t t2:TypeId}{x y:Operand}:aP E ops clk k (⟨d, .call { callee:=.builtin .append,args:=⟨[x,y]⟩,argTypes:=⟨[t,t2]⟩ },ty,pos,af,none⟩::os) K ⟨f,rows,bV,aO⟩ =
  aG (t2=t∨ZP (E.ty t2)=true) (∃v id r,qM (E.ty t) (eM .any ops k aO rows) (aS f x) (aS f y) clk (d.getD 0) v (some (id,r))∧AY .any ops k id bV ∧
   aP E ops (clk+1) (k+1) os K ⟨put f d v,dX rows id (some r),kV k (a9 (aS f x)++a9 (aS f y)) bV,oV k id aO⟩):=by
 have ZK:∀ {v e' r0},app k ⟨d, .call { callee:=.builtin .append,args:=⟨[x,y]⟩,argTypes:=⟨[t,t2]⟩ },ty,pos,af,none⟩ true v (some (e',r0)) ⟨f,rows,bV,aO⟩=⟨put f d v,dX rows e' (some r0),kV k (a9 (aS f x)++a9 (aS f y)) bV,oV k e' aO⟩:=rfl
 simp only [aP,yn,iL,aG]
 apply propext
 constructor
 ·rintro⟨v,u,⟨h1,h2⟩,h3,h4⟩
  refine⟨h1,?_⟩
  have h2':=h2
  unfold qM at h2'
  split at h2'
  ·obtain⟨l,g1,g2,g3⟩:=h2'
   split at g3
   ·obtain⟨_,_,rfl,rfl⟩:=g3
    exact⟨_,_,_,h2,h3,h4⟩
   ·obtain⟨r,_,_,_,_,_,_,_,_,rfl,rfl⟩:=g3
    exact⟨_,_,_,h2,h3,h4⟩
   ·exact g3.elim
  ·exact h2'.elim
 ·rintro⟨h1,v,id,r,h2,h3,h4⟩
  exact⟨v,_,⟨h1,h2⟩,h3,h4⟩
def oW(E:Env)(p:PV)(gJ:List PV)(rows:Rows)(K:PV→Prop):Prop:=
 match p with
 | .fn g cL=>aG ((gJ.map (pz rows)).all fV=true∧gJ.flatMap dW = []) (uU E.P g (gJ.map (pz rows)++cL) K)
 | _=>False
@[congr] theorem aez{E:Env}{p p':PV}{gJ yH:List PV}{rows rows':Rows}{K:PV→Prop}(h1:p=p')(h2:gJ=yH)(h3:rows=rows'):oW E p gJ rows K=oW E p' yH rows' K:=by rw [h1,h2,h3]
theorem EP{fo:Operand}{args:Array Operand}{ts:Array TypeId}(hfo:dR E (.call { callee:=.value fo,args:=args,argTypes:=ts })=false):aP E ops clk k (⟨d, .call { callee:=.value fo,args:=args,argTypes:=ts },ty,pos,af,none⟩::os) K ⟨f,rows,bV,aO⟩ =
  oW E (aS f fo) (args.toList.map (aS f)) (eM .any ops k aO rows) fun v=>aP E ops clk (k+1) os K ⟨put f d v,rows,bV,aO⟩:=by
 simp only [aP]
 rw [AZ hfo]
 simp only [AX hfo,ys,yD,oW,aG,uU]
 generalize hA:aS f fo=A
 have e1:(args.toList.map fun x=>pz (eM .any ops k aO rows) (aS f x))=(args.toList.map (aS f)).map (pz (eM .any ops k aO rows)):=by rw [List.map_map];rfl
 have e2:(args.toList.flatMap fun x=>dW (aS f x))=(args.toList.map (aS f)).flatMap dW:=by rw [List.flatMap_map]
 rw [e1,e2]
 have e3:∀v,app k ⟨d, .call { callee:=.value fo,args:=args,argTypes:=ts },ty,pos,af,none⟩ true v none ⟨f,rows,bV,aO⟩=⟨put f d v,rows,bV,aO⟩:=fun v=>fD rfl
 cases A with
 | fn g cL =>
  apply propext
  constructor
  ·rintro⟨v,u,⟨rfl,⟨h1,h2⟩,h3⟩,_,h4⟩;rw [e3]at h4;exact⟨⟨h1,h3⟩,v,h2,h4⟩
  ·rintro⟨⟨h1,h3⟩,v,h2,h4⟩;exact⟨v,none,⟨rfl,⟨h1,h2⟩,h3⟩,trivial,by rw [e3];exact h4⟩
 | _=>simp
theorem O3{g:FuncId}{args:Array Operand}{ts:Array TypeId}(hw:E.writes g=true):aP E ops clk k (⟨d, .call { callee:=.value (.func g),args:=args,argTypes:=ts },ty,pos,af,none⟩::os) K ⟨f,rows,bV,aO⟩ =
  ∃e n els,((args.toList.map (aS f)).all fV=true∧oB E.P g (args.toList.map (aS f)) e n els∧AY .any ops k (d.getD 0) bV)∧aP E ops (clk+1) (k+1) os K ⟨put f d (.own (d.getD 0) clk 0 els.length),dX rows (d.getD 0) (some ⟨clk,e,n,els⟩),bV,oV k (d.getD 0) aO⟩:=by
 have ZK:∀ {v e' r0},app k ⟨d, .call { callee:=.value (.func g),args:=args,argTypes:=ts },ty,pos,af,none⟩ true v (some (e',r0)) ⟨f,rows,bV,aO⟩=⟨put f d v,dX rows e' (some r0),bV,oV k e' aO⟩:=uV rfl
 simp only [aP,yn,iL]
 rw [if_pos hw]
 simp only [if_pos hw]
 apply propext
 constructor
 ·rintro⟨v,u,⟨h1,e,n,els,h2,rfl,rfl⟩,h3,h4⟩
  rw [ZK]at h4
  exact⟨e,n,els,⟨h1,h2,h3⟩,h4⟩
 ·rintro⟨e,n,els,⟨h1,h2,h3⟩,h4⟩
  refine⟨_,_,⟨h1,e,n,els,h2,rfl,rfl⟩,h3,?_⟩
  rw [ZK];exact h4
@[simp] theorem apk{md:Region.Mode}{ops:List Oper}{j:Nat}{rows:Rows}:eM md ops j (fun _ _=>False) rows=rows:=by
 funext id;simp [eM]
@[simp] theorem apl{md:Region.Mode}{ops:List Oper}{j k id:Nat}{w:Nat→Nat→Prop}{rows:Rows}:eM md ops j (oV k id w) rows=if oT md ops j k=true then eM md ops j w rows else dX (eM md ops j w rows) id none:=by
 funext x
 unfold eM oV
 by_cases hd:oT md ops j k=true
 ·rw [if_pos hd]
  have:(∃k',((k'=k∧x=id)∨w k' x)∧oT md ops j k'=false) ↔ ∃k',w k' x∧oT md ops j k'=false:=by
   constructor
   ·rintro⟨k',⟨rfl,_⟩ | h,h2⟩
    ·rw [hd]at h2;cases h2
    ·exact⟨k',h,h2⟩
   ·rintro⟨k',h,h2⟩;exact⟨k', .inr h,h2⟩
  exact(by classical exact ite_congr (propext this) (fun _=>rfl) (fun _=>rfl))
 ·rw [if_neg hd]
  have Z8:oT md ops j k=false:=by simpa using hd
  simp only [dX]
  by_cases hx:x=id
  ·rw [if_pos hx,if_pos ⟨k, .inl ⟨rfl,hx⟩,Z8⟩]
  ·rw [if_neg hx]
   have:(∃k',((k'=k∧x=id)∨w k' x)∧oT md ops j k'=false) ↔ ∃k',w k' x∧oT md ops j k'=false:=by
    constructor
    ·rintro⟨k',⟨_,h⟩ | h,h2⟩
     ·exact absurd h hx
     ·exact⟨k',h,h2⟩
    ·rintro⟨k',h,h2⟩;exact⟨k', .inr h,h2⟩
   exact(by classical exact ite_congr (propext this) (fun _=>rfl) (fun _=>rfl))
@[simp] theorem atk{md:Region.Mode}{ops:List Oper}{i id:Nat}:AY md ops i id (fun _ _=>False)=True:=by simp [AY]
@[simp] theorem atl{md:Region.Mode}{ops:List Oper}{i id k:Nat}{l:List Nat}{t:Nat→Nat→Prop}:AY md ops i id (kV k l t)=((id∈l→oT md ops i k=true)∧AY md ops i id t):=by
 apply propext
 unfold AY kV
 constructor
 ·intro h;exact⟨fun hi=>h k (.inl ⟨rfl,rfl,hi⟩),fun k' hk=>h k' (.inr hk)⟩
 ·rintro⟨h1,h2⟩ k' (⟨_,rfl,h⟩ | h)
  ·exact h1 h
  ·exact h2 k' h
end
end Pm
