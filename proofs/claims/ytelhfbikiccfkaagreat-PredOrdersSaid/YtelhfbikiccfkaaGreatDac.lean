import Derived.StillTail
import Derived.Deep.LoopGhost
import Derived.Test.YtelhfbikiccfkaaGreatDab
set_option linter.unusedSimpArgs false
set_option linter.unusedVariables false
namespace Pm
open Go Go.RowKit
def iX(P:Program)(f:FuncId)(args:List PV)(e:TypeId)(n:Nat)(els:List (List PV)):Prop:=
 (∃fn c,P.funcs[f]? = some fn∧fn.body=some c∧(fn.name == "runtime.NumGoroutine")=false) ∧
 ∀(w:World) (S:eG) (vs:List Value),(∀b o,S b o→b<w.heap.size)→bR S w args vs →
  Calls P f vs.toArray w fun x w'=>∃(v:Value) (xs:List Value) (S':eG),x = .returned v∧Below w.heap.size w w'∧(∀b o,S b o→S' b o)∧(∀b o,S' b o→S b o∨(w.heap.size≤b∧b<w'.heap.size)) ∧
   w'.ownsRow w.heap.size e n v els.length xs∧bO (dS S' w') els.flatten xs∧(∀y∈xs,y.oneCell'=true)∧(∀x∈els,x.length=n)∧0<n∧(∀g o,v.ownBlock=some g→¬S' g o)
def aad(md:Region.Mode)(ops:List Oper)(j k:Nat):Bool:=
 match ops[j]? with
 | some o=>o.after.toList.any fun e=>Region.binds md e&&e.on==k
 | none=>false
def qM(md:Region.Mode)(ops:List Oper)(j k:Nat):Bool:=aad md ops j k || (List.range ops.length).any fun h=>aad md ops j h&&aad md ops h k
structure ST where
 f:Nat→PV
 rows:Rows
 cI:Nat→Nat→Prop
 wl:Nat→Nat→Prop
def eA(E:Env):Op→Bool
 | .alloc _=>true
 | .box _ _=>true
 | .makeSlice _ _ _=>true
 | .call { callee:=.builtin .append,args:=⟨[_,_]⟩,argTypes:=⟨[_,_]⟩ }=>true
 | .call { callee:=.value (.func g),args:=_,argTypes:=_ }=>E.writes g
 | _=>false
def wB(E:Env)(ops:List Oper):Bool:=ops.all fun o => !eA E o.op || (o.dst.isSome&&o.guard.isNone)
def rk(E:Env)(ops:List Oper)(i:Nat):Nat:=((ops.take i).filter fun o=>eA E o.op).length
theorem W2{E:Env}{ops:List Oper}{i:Nat}{o:Oper}(h:ops[i]? = some o):rk E ops (i+1)=rk E ops i+if eA E o.op=true then 1 else 0:=by
 unfold rk
 rw [List.take_add_one,h]
 simp only [Option.toList_some,List.filter_append,List.length_append]
 congr 1
 cases hn:eA E o.op<;>simp [hn]
theorem ahf{E:Env}{ops:List Oper}{i j:Nat}(h:i≤j):rk E ops i≤rk E ops j:=by
 unfold rk
 have:(ops.take i).Sublist (ops.take j):=by
  have:=List.take_sublist i (ops.take j)
  rwa [List.take_take,Nat.min_eq_left h]at this
 exact(this.filter _).length_le
theorem acH{E:Env}{ops:List Oper}{i j:Nat}{o:Oper}(h:ops[i]? = some o)(hn:eA E o.op=true)(hij:i<j):rk E ops i<rk E ops j:=by
 have h1:=W2 (E:=E) h
 rw [if_pos hn]at h1
 have:=ahf (E:=E) (ops:=ops) (show i+1≤j from hij)
 omega
theorem ams{E:Env}{ops:List Oper}{i j:Nat}{o o':Oper}(h:ops[i]? = some o)(hn:eA E o.op=true)(h':ops[j]? = some o')(xL:eA E o'.op=true)(he:rk E ops i=rk E ops j):i=j:=by
 rcases Nat.lt_trichotomy i j with h1 | h1 | h1
 ·have:=acH h hn h1;omega
 ·exact h1
 ·have:=acH h' xL h1;omega
def s5(t:TI)(rows:Rows)(x y:PV)(c0 d:Nat)(v:PV)(u:Option (Nat × Row)):Prop:=
 match t with
 | .slice e n b _=>∃l,xJ rows y l∧(∀e∈l,e.length=n) ∧
  match x with
  | .nil=>l.length≤room∧l.length*b≤room∧v = .own d c0 0 l.length∧u=some (d,⟨c0,e,n,l⟩)
  | .own id ver off len=>∃r,rows id=some r∧r.ver=ver∧off=0∧len=r.els.length∧r.e=e∧r.size=n∧len+l.length≤room∧(len+l.length)*b≤room ∧
    v = .own id c0 0 (len+l.length)∧u=some (id,⟨c0,e,n,r.els++l⟩)
  | _=>False
 | _=>False
def aj0(E:Env)(g:FuncId)(args:List PV)(c0 d:Nat)(v:PV)(u:Option (Nat × Row)):Prop:=
 args.all gX=true ∧ ∃e n els,iX E.P g args e n els∧v = .own d c0 0 els.length∧u=some (d,⟨c0,e,n,els⟩)
def yn(E:Env)(c0:Nat)(d:Option Tmp)(op:Op)(ρ:Operand→PV)(rows:Rows)(v:PV)(u:Option (Nat × Row)):Prop:=
 match op with
 | .alloc t=>(E.ty t).known=true∧v = .ptr (d.getD 0) c0 0 0∧u=some (d.getD 0,⟨c0,t,(E.ty t).size,[(E.ty t).zero]⟩)
 | .box t x=>(E.ty t).known=true ∧ ∃l,cU (ρ x)=some l∧(∀q∈l,jF (fun _=>none) q)∧l.length=(E.ty t).size∧v = .ptr (d.getD 0) c0 0 0∧u=some (d.getD 0,⟨c0,t,(E.ty t).size,[l]⟩)
 | .makeSlice t l c =>
  match E.ty t,ρ l,ρ c with
  | .slice e n b z, .int _ x, .int _ y=>0≤x∧x≤y∧y.toNat≤room∧y.toNat*b≤room∧v = .own (d.getD 0) c0 0 x.toNat∧u=some (d.getD 0,⟨c0,e,n,List.replicate x.toNat z⟩)
  | _,_,_=>False
 | .call { callee:=.builtin .append,args:=⟨[x,y]⟩,argTypes:=⟨[t,t2]⟩ }=>(t2=t∨slT (E.ty t2)=true)∧s5 (E.ty t) rows (ρ x) (ρ y) c0 (d.getD 0) v u
 | .call { callee:=.value (.func g),args:=aIa,argTypes:=ts }=>if E.writes g=true then aj0 E g (aIa.toList.map fun x=>ρ x) c0 (d.getD 0) v u else ys E (.call { callee:=.value (.func g),args:=aIa,argTypes:=ts }) ρ rows v u
 | op=>ys E op ρ rows v u
theorem DY{E:Env}{c0:Nat}{d:Option Tmp}{op:Op}{ρ:Operand→PV}{rows:Rows}{v:PV}{u:Option (Nat × Row)}(h:eA E op=false):yn E c0 d op ρ rows v u=ys E op ρ rows v u:=by
 unfold yn
 split
 all_goals first
  | rfl
  | (simp [eA]at h;done)
  | (simp only [eA]at h;rw [if_neg (by rw [h];decide)])
theorem oV{E:Env}{op:Op}{C:Prop}(h:eA E op=true)(h1:∀t,op = .alloc t→C)(h2:∀t x,op = .box t x→C)(h3:∀t l c,op = .makeSlice t l c→C)
  (h4:∀x y t t2,op = .call { callee:=.builtin .append,args:=⟨[x,y]⟩,argTypes:=⟨[t,t2]⟩ }→C) (h5:∀g aIa ts,op = .call { callee:=.value (.func g),args:=aIa,argTypes:=ts }→E.writes g=true→C):C:=by
 unfold eA at h
 split at h
 ·exact h1 _ rfl
 ·exact h2 _ _ rfl
 ·exact h3 _ _ _ rfl
 ·exact h4 _ _ _ _ rfl
 ·exact h5 _ _ _ rfl h
 ·cases h
theorem ahg{rows rows':Rows}{y:PV}{l:List (List PV)}(h:kT (bM y) rows rows')(hy:xJ rows y l):xJ rows' y l ∧ ∀id∈bM y,∃r,rows id=some r:=by
 unfold xJ at *
 cases y with
 | own id ver off len =>
  obtain⟨r,hr,hh⟩:=hy
  exact⟨⟨r,h id (by simp [bM]) r hr,hh⟩,by simp [bM];exact⟨r,hr⟩⟩
 | nil=>exact⟨hy,by simp [bM]⟩
 | sl l=>exact⟨hy,by simp [bM]⟩
 | kO l=>exact⟨hy,by simp [bM]⟩
 | _=>exact hy.elim
theorem acI{t:TI}{rows rows':Rows}{x y v:PV}{c0 d:Nat}{u:Option (Nat × Row)}(h:kT (bM x++bM y) rows rows')(hy:s5 t rows x y c0 d v u):s5 t rows' x y c0 d v u ∧ ∀id∈bM x++bM y,∃r,rows id=some r:=by
 unfold s5 at *
 cases t with
 | slice e n b z =>
  obtain⟨l,h1,h2,h3⟩:=hy
  obtain⟨g1,g2⟩:=ahg (fun id iV=>h id (by simp only [List.mem_append];exact .inr iV)) h1
  cases x with
  | nil=>exact⟨⟨l,g1,h2,h3⟩,fun id iV=>g2 id (by simpa [bM]using iV)⟩
  | own id ver off len =>
   obtain⟨r,hr,hh⟩:=h3
   refine⟨⟨l,g1,h2,r,h id (by simp [bM]) r hr,hh⟩,fun kJ iV=>?_⟩
   simp only [bM,List.mem_append,List.mem_cons,List.not_mem_nil,or_false]at iV
   rcases iV with rfl | iV
   ·exact⟨r,hr⟩
   ·exact g2 kJ iV
  | _=>exact h3.elim
 | _=>exact hy.elim
theorem W3{E:Env}{c0:Nat}{d:Option Tmp}{op:Op}{ρ:Operand→PV}{rows rows':Rows}{v:PV}{u:Option (Nat × Row)}(h:kT (i9 op ρ) rows rows')(hy:yn E c0 d op ρ rows v u) :
  yn E c0 d op ρ rows' v u∧(∀id∈i9 op ρ,∃r,rows id=some r) ∧ ∀id r,u=some (id,r)→(eA E op=true∧id=d.getD 0)∨id∈i9 op ρ:=by
 cases hn:eA E op with
 | false =>
  rw [DY hn]at hy ⊢
  obtain⟨h1,h2,h3⟩:=ajZ h hy
  exact⟨h1,h2,fun id r hu => .inr (h3 id r hu)⟩
 | true =>
  refine oV hn ?_ ?_ ?_ ?_ ?_
  ·rintro t rfl
   refine⟨hy,by simp [i9],fun id r hu => .inl ⟨by first | trivial | rfl,?_⟩⟩
   obtain⟨_,_,rfl⟩:=hy
   simp at hu;exact hu.1.symm
  ·rintro t x rfl
   refine⟨hy,by simp [i9],fun id r hu => .inl ⟨by first | trivial | rfl,?_⟩⟩
   obtain⟨_,_,_,_,_,_,rfl⟩:=hy
   simp at hu;exact hu.1.symm
  ·rintro t l c rfl
   refine⟨hy,by simp [i9],fun id r hu => .inl ⟨by first | trivial | rfl,?_⟩⟩
   simp only [yn]at hy
   split at hy
   ·obtain⟨_,_,_,_,_,rfl⟩:=hy
    simp at hu;exact hu.1.symm
   ·exact hy.elim
  ·rintro x y t t2 rfl
   simp only [yn,i9]at hy h ⊢
   obtain⟨h2,h3⟩:=hy
   obtain⟨g1,g2⟩:=acI h h3
   refine⟨⟨h2,g1⟩,g2,fun id r hu=>?_⟩
   unfold s5 at h3
   split at h3
   ·obtain⟨l,_,_,h3⟩:=h3
    split at h3
    ·obtain⟨_,_,_,rfl⟩:=h3
     simp at hu;exact .inl ⟨by first | trivial | rfl,hu.1.symm⟩
    ·rename_i hx
     obtain⟨_,_,_,_,_,_,_,_,_,_,rfl⟩:=h3
     simp at hu
     rw [hx]
     exact .inr (by simp [bM,hu.1])
    ·exact h3.elim
   ·exact h3.elim
  ·rintro g aIa ts rfl hw
   simp only [yn]at hy ⊢
   rw [if_pos hw]at hy
   rw [if_pos hw]
   refine⟨hy,by simp [i9],fun id r hu => .inl ⟨by first | trivial | exact hw,?_⟩⟩
   obtain⟨_,_,_,_,_,_,rfl⟩:=hy
   simp at hu;exact hu.1.symm
open Classical in
noncomputable def fC(md:Region.Mode)(ops:List Oper)(j:Nat)(wl:Nat→Nat→Prop)(rows:Rows):Rows:=fun id=>if ∃k,wl k id∧qM md ops j k=false then none else rows id
theorem l5{md:Region.Mode}{ops:List Oper}{j id:Nat}{wl:Nat→Nat→Prop}{rows:Rows}{r:Row}:fC md ops j wl rows id=some r↔(∀k,wl k id→qM md ops j k=true)∧rows id=some r:=by
 unfold fC
 split
 ·rename_i h
  obtain⟨k,h1,h2⟩:=h
  simp only [reduceCtorEq,false_iff,not_and]
  intro h3
  rw [h3 k h1]at h2;cases h2
 ·rename_i h
  refine⟨fun h2=>⟨fun k hk=>?_,h2⟩,fun h2=>h2.2⟩
  cases hd:qM md ops j k with
  | true=>rfl
  | false=>exact absurd ⟨k,hk,hd⟩ h
def DZ(md:Region.Mode)(ops:List Oper)(i id:Nat)(cI:Nat→Nat→Prop):Prop:=∀k,cI k id→qM md ops i k=true
def okU(md:Region.Mode)(ops:List Oper)(i:Nat)(u:Option (Nat × Row))(cI:Nat→Nat→Prop):Prop:=
 match u with
 | none=>True
 | some (id,_)=>DZ md ops i id cI
def gOK(ops:Array Oper)(o:Oper)(f:Nat→PV)(b:Bool):Prop:=
 match o.guard with
 | none=>b=true
 | some (j,want)=>∃d,(ops[j]?).bind (·.dst)=some d∧((f d = .bool want∧b=true)∨((f d = .bool (!want)∨f d = .fE [])∧b=false))
def YG(E:Env)(md:Region.Mode)(ops:Array Oper)(c0:Nat)(i:Nat)(o:Oper)(b:Bool)(v:PV)(u:Option (Nat × Row))(st:ST):Prop:=
 gOK ops o st.f b∧if b=true then yn E (c0+rk E ops.toList i) o.dst o.op (aX st.f) (fC md ops.toList i st.wl st.rows) v u else v = .fE []∧u=none
def wlU(i:Nat)(u:Option (Nat × Row))(wl:Nat→Nat→Prop):Nat→Nat→Prop:=
 match u with
 | none=>wl
 | some (id,_)=>fun k kJ=>(k=i∧kJ=id)∨wl k kJ
def app(i:Nat)(o:Oper)(b:Bool)(v:PV)(u:Option (Nat × Row))(st:ST):ST:=
 { f:=put st.f o.dst v,rows:=iD st.rows u,cI:=fun k id=>(b=true∧k=i∧id∈i9 o.op (aX st.f))∨st.cI k id,wl:=wlU i u st.wl }
def jA(E:Env)(op:Op)(clk:Nat):Nat:=
 match op with
 | .alloc _=>clk+1
 | .box _ _=>clk+1
 | .makeSlice _ _ _=>clk+1
 | .call { callee:=.builtin .append,args:=⟨[_,_]⟩,argTypes:=⟨[_,_]⟩ }=>clk+1
 | .call { callee:=.value (.func g),args:=_,argTypes:=_ }=>if E.writes g=true then clk+1 else clk
 | _=>clk
theorem D0{E:Env}{op:Op}{clk:Nat}(h:eA E op=false):jA E op clk=clk:=by
 unfold jA
 split
 all_goals first
  | rfl
  | (simp [eA]at h;done)
  | (simp only [eA]at h;rw [if_neg (by rw [h];decide)])
theorem acJ{E:Env}{op:Op}{clk:Nat}(h:eA E op=true):jA E op clk=clk+1:=by
 refine oV h ?_ ?_ ?_ ?_ ?_
 ·rintro t rfl;rfl
 ·rintro t x rfl;rfl
 ·rintro t l c rfl;rfl
 ·rintro x y t t2 rfl;rfl
 ·rintro g aIa ts rfl hw;simp only [jA];rw [if_pos hw]
theorem ahj{E:Env}{ops:List Oper}{i c0:Nat}{o:Oper}(h:ops[i]? = some o):jA E o.op (c0+rk E ops i)=c0+rk E ops (i+1):=by
 rw [W2 h]
 cases hn:eA E o.op with
 | false=>rw [D0 hn];simp
 | true=>rw [acJ hn];simp;omega
def qOp(E:Env)(md:Region.Mode)(ops:Array Oper)(c0:Nat)(i:Nat)(K:ST→Prop)(st:ST):Prop:=
 match ops[i]? with
 | none=>K st
 | some o=>∃b v u,YG E md ops c0 i o b v u st∧okU md ops.toList i u st.cI∧K (app i o b v u st)
section
variable {E:Env} {ops:Array Oper} {md:Region.Mode}
theorem acL{c0 i:Nat}{K K':ST→Prop}{st:ST}(h:∀st,K st→K' st)(hh:qOp E md ops c0 i K st):qOp E md ops c0 i K' st:=by
 unfold qOp at *
 split
 ·exact h _ (by simpa [*]using hh)
 ·rename_i o ho
  simp only [ho]at hh
  obtain⟨b,v,u,h1,h2,h3⟩:=hh
  exact⟨b,v,u,h1,h2,h _ h3⟩
theorem W4{f:Nat→PV}{d:Option Tmp}{v:PV}{x:Operand}(h:∀t,d=some t→x ≠ .tmp t):aX (put f d v) x=aX f x:=by
 cases d with
 | none=>rfl
 | some t =>
  cases x with
  | tmp s =>
   have:s≠t:=fun e=>h t rfl (by rw [e])
   simp [aX,put,this]
  | _=>rfl
theorem acM{op:Op}{ρ ρ':Operand→PV}{rows:Rows}{v:PV}{u:Option (Nat × Row)}(h:∀x∈op.operands,ρ x=ρ' x):ys E op ρ rows v u↔ys E op ρ' rows v u:=by
 have parts:∀ps:Array (Nat × Operand),(∀x∈(ps.toList.map (·.2)).toArray,ρ x=ρ' x)→(ps.toList.map fun x=>(x.1,ρ x.2))=ps.toList.map fun x=>(x.1,ρ' x.2):=fun ps hp =>
  List.map_congr_left fun p hm=>by rw [hp p.2 (by simp;exact⟨p.1,by simpa using hm⟩)]
 have args:∀(c:Call),(∀x∈c.operands,ρ x=ρ' x) → ∀x∈c.args.toList,ρ x=ρ' x:=fun c hc x hx=>hc x (by simp [Call.operands];exact .inr (by simpa using hx))
 unfold ys
 split
 ·rename_i t p x
  rw [h p (by simp [Op.operands]),h x (by simp [Op.operands])]
 ·rename_i t len ps
  rw [parts ps (by simpa [Op.operands]using h)]
 ·rename_i f aIa ts
  have ha:=args _ (by simpa [Op.operands]using h)
  simp only at ha
  rw [h f (by simp [Op.operands,Call.operands]),List.map_congr_left (g:=fun x=>pz rows (ρ' x)) fun x hx=>by rw [ha x hx]]
  have:(aIa.toList.flatMap fun x=>eI (ρ x))=aIa.toList.flatMap fun x=>eI (ρ' x):=by
   rw [List.flatMap_def,List.flatMap_def]
   congr 1
   exact List.map_congr_left fun x hx=>by rw [ha x hx]
  rw [this]
 ·suffices hs:yv E op ρ rows v↔yv E op ρ' rows v by rw [hs]
  unfold yv
  split
  case h_12 =>
   rename_i t x lo hi mx _ _ _
   have o1:∀y:Option Operand,(∀z,y=some z→ρ z=ρ' z)→y.map ρ=y.map ρ':=by
    intro y hy;cases y with
    | none=>rfl
    | some z=>simp [hy z rfl]
   rw [h x (by simp [Op.operands]),o1 lo fun z hz=>h z (by subst hz;simp [Op.operands]),o1 hi fun z hz=>h z (by subst hz;simp [Op.operands]),o1 mx fun z hz=>h z (by subst hz;simp [Op.operands])]
  case h_13=>rename_i t ps _ _ _;rw [parts ps (by simpa [Op.operands]using h)]
  case h_15 =>
   rename_i f cV _ _ _
   rw [List.map_congr_left (l:=cV.toList) (f:=fun x=>ρ x) (g:=fun x=>ρ' x) fun x hx=>h x (by simp [Op.operands];simpa using hx)]
  all_goals first
   | rfl
   | (simp only [Op.operands,Call.operands]at h;simp [h])
theorem D2{op:Op}{ρ ρ':Operand→PV}(h:∀x∈op.operands,ρ x=ρ' x):i9 op ρ=i9 op ρ':=by
 unfold i9
 split
 all_goals first
  | rfl
  | (simp only [Op.operands,Call.operands]at h;simp [h])
theorem ND{c0:Nat}{d:Option Tmp}{op:Op}{ρ ρ':Operand→PV}{rows:Rows}{v:PV}{u:Option (Nat × Row)}(h:∀x∈op.operands,ρ x=ρ' x):yn E c0 d op ρ rows v u↔yn E c0 d op ρ' rows v u:=by
 cases hn:eA E op with
 | false=>rw [DY hn,DY hn];exact acM h
 | true =>
  refine oV hn ?_ ?_ ?_ ?_ ?_
  ·rintro t rfl;exact Iff.rfl
  ·rintro t x rfl
   simp only [yn]
   rw [h x (by simp [Op.operands])]
  ·rintro t l c rfl
   simp only [yn]
   rw [h l (by simp [Op.operands]),h c (by simp [Op.operands])]
  ·rintro x y t t2 rfl
   simp only [yn]
   rw [h x (by simp [Op.operands,Call.operands]),h y (by simp [Op.operands,Call.operands])]
  ·rintro g aIa ts rfl hw
   simp only [yn]
   rw [if_pos hw,if_pos hw,List.map_congr_left (l:=aIa.toList) (f:=fun x=>ρ x) (g:=fun x=>ρ' x) fun x hx=>h x (by simp [Op.operands,Call.operands];exact .inr (by simpa using hx))]
theorem NF{o:Oper}{d:Tmp}{x:Operand}(h:d ∉ o.looksAt ops)(hx:x∈o.op.operands):x ≠ .tmp d:=by
 rintro rfl
 exact h (List.mem_append_left _ (List.mem_filterMap.2 ⟨.tmp d,by simpa using hx,rfl⟩))
theorem S9{c:Cx}:aO c (.fE []) undef:=by
 show dS c.S c.w (.fE []) undef
 simp only [dS]
 exact⟨[],rfl,rfl⟩
theorem iY{c:Cx}{tmps:Array Value}{j:Nat}{d:Tmp}{t:Bool}(h1:(ops[j]?).bind (·.dst)=some d)(h:aO c (.bool t) (tmps.getD d undef)):yielded ops tmps j=some t:=by
 rw [eD]at h
 unfold yielded
 rw [h1]
 simp only [Option.bind_some]
 cases hx:tmps[d]? with
 | none=>simp [hx]at h;cases h
 | some y =>
  have hy:y = .bool t:=by simpa [hx]using h
  rw [hy]
theorem wC{c:Cx}{tmps:Array Value}{j:Nat}{d:Tmp}(h1:(ops[j]?).bind (·.dst)=some d)(h:aO c (.fE []) (tmps.getD d undef)):yielded ops tmps j=none:=by
 have h2:tmps.getD d undef = .tuple #[]:=by
  have h3:dS c.S c.w (.fE []) (tmps.getD d undef):=h
  simp only [dS]at h3
  obtain⟨vs,h4,h5⟩:=h3
  simp only [bR]at h5
  rw [h4,h5]
 unfold yielded
 rw [h1]
 simp only [Option.bind_some]
 cases hx:tmps[d]? with
 | none=>rfl
 | some y =>
  have hy:y = .tuple #[]:=by simpa [hx]using h2
  rw [hy]
theorem W5{o:Oper}{f:Nat→PV}{dd:Option Tmp}{v:PV}{b:Bool}(h:∀d,dd=some d→d ∉ o.looksAt ops):gOK ops o (put f dd v) b↔gOK ops o f b:=by
 unfold gOK
 cases hg:o.guard with
 | none=>rfl
 | some g =>
  obtain⟨j,want⟩:=g
  simp only
  have key:∀d,(ops[j]?).bind (·.dst)=some d→put f dd v d=f d:=by
   intro d h1
   cases dd with
   | none=>rfl
   | some e =>
    have kQ:d≠e:=by
     rintro rfl
     exact h d rfl (List.mem_append_right _ (by simp [hg,h1]))
    simp [put,kQ]
  constructor
  ·rintro⟨d,h1,h2⟩
   rw [key d h1]at h2
   exact⟨d,h1,h2⟩
  ·rintro⟨d,h1,h2⟩
   rw [←key d h1]at h2
   exact⟨d,h1,h2⟩
theorem put_comm{f:Nat→PV}{x y:Option Tmp}{v u:PV}(h:∀d,x=some d→y≠some d):put (put f x v) y u=put (put f y u) x v:=by
 cases x with
 | none=>rfl
 | some d =>
  cases y with
  | none=>rfl
  | some e =>
   have kQ:d≠e:=fun he=>h d rfl (by rw [he])
   funext j
   simp only [put]
   split<;>split<;>simp_all
theorem D3{rows:Rows}{u:Option (Nat × Row)}{j:Nat}(h:∀r,u≠some (j,r)):iD rows u j=rows j:=by
 cases u with
 | none=>rfl
 | some x =>
  obtain⟨i,r⟩:=x
  simp only [iD,eQ]
  rw [if_neg]
  rintro rfl
  exact h r rfl
theorem qN{i:Nat}{u:Option (Nat × Row)}{wl:Nat→Nat→Prop}{k id:Nat}:wlU i u wl k id↔(k=i ∧ ∃r,u=some (id,r))∨wl k id:=by
 cases u with
 | none=>simp [wlU]
 | some x =>
  obtain⟨kJ,r⟩:=x
  simp only [wlU,Option.some.injEq,Prod.mk.injEq]
  constructor
  ·rintro(⟨h1,h2⟩ | h)
   ·exact .inl ⟨h1,r,h2.symm,rfl⟩
   ·exact .inr h
  ·rintro(⟨h1,r',h2,_⟩ | h)
   ·exact .inl ⟨h1,h2.symm⟩
   ·exact .inr h
theorem KA{i:Nat}{u:Option (Nat × Row)}{cI:Nat→Nat→Prop}:okU md ops.toList i u cI ↔ ∀id r,u=some (id,r) → ∀k,cI k id→qM md ops.toList i k=true:=by
 cases u with
 | none=>simp [okU]
 | some x =>
  obtain⟨kJ,r⟩:=x
  simp only [okU,DZ,Option.some.injEq,Prod.mk.injEq]
  constructor
  ·rintro h _ _ ⟨rfl,_⟩;exact h
  ·intro h;exact h _ _ ⟨rfl,rfl⟩
theorem ahk{c0 i j:Nat}{oi oj:Oper}{bi:Bool}{vi:PV}{ui:Option (Nat × Row)}(hj:ops[j]? = some oj)(hap:oi.apart ops oj=true)(hds:eA E oi.op=true→oi.dst.isSome=true)(ayg:eA E oj.op=true→oj.dst.isSome=true)(hdj:qM md ops.toList j i=false){K:ST→Prop}{st:ST}
  (hy:YG E md ops c0 i oi bi vi ui st) (ho:okU md ops.toList i ui st.cI) (h:qOp E md ops c0 j K (app i oi bi vi ui st)) :
  qOp E md ops c0 j (fun W6=>YG E md ops c0 i oi bi vi ui W6∧okU md ops.toList i ui W6.cI∧K (app i oi bi vi ui W6)) st:=by
 obtain⟨h1,h2,h3⟩:=Oper.apart_spec hap
 unfold qOp at h ⊢
 simp only [hj]at h ⊢
 obtain⟨bj,vj,uj,⟨hgj,hyj⟩,hoj,hK⟩:=h
 obtain⟨hgi,R5⟩:=hy
 rw [KA]at hoj ho
 have ej:∀x∈oj.op.operands,aX (put st.f oi.dst vi) x=aX st.f x:=fun x hx=>W4 fun t ht=>NF (h1 t ht) hx
 have ei:∀x∈oi.op.operands,aX (put st.f oj.dst vj) x=aX st.f x:=fun x hx=>W4 fun t ht=>NF (h3 t ht) hx
 have ayh:gOK ops oj st.f bj:=(W5 h1).1 hgj
 have hnw:∀id r,fC md ops.toList j (app i oi bi vi ui st).wl (app i oi bi vi ui st).rows id=some r → ∀r',ui≠some (id,r'):=by
  intro id r hr r' hu
  obtain⟨hw,_⟩:=l5.1 hr
  have:=hw i (qN.2 (.inl ⟨rfl,r',hu⟩))
  rw [hdj]at this;cases this
 have hle:∀ids,kT ids (fC md ops.toList j (app i oi bi vi ui st).wl (app i oi bi vi ui st).rows) (fC md ops.toList j st.wl st.rows):=by
  intro ids id _ r hr
  have hn:=hnw id r hr
  obtain⟨hw,jR⟩:=l5.1 hr
  simp only [app]at jR hw
  rw [D3 hn]at jR
  exact l5.2 ⟨fun k hk=>hw k (qN.2 (.inr hk)),jR⟩
 have ayi:(if bj=true then yn E (c0+rk E ops.toList j) oj.dst oj.op (aX st.f) (fC md ops.toList j st.wl st.rows) vj uj else vj = .fE []∧uj=none) ∧
   (bj=true → ∀id∈i9 oj.op (aX st.f),∃r,fC md ops.toList j (app i oi bi vi ui st).wl (app i oi bi vi ui st).rows id=some r)∧(∀id r,uj=some (id,r)→bj=true∧((eA E oj.op=true∧id=oj.dst.getD 0)∨id∈i9 oj.op (aX st.f))):=by
  by_cases hb:bj=true
  ·rw [if_pos hb]at hyj ⊢
   have ahl:=(ND ej).1 hyj
   obtain⟨g1,g2,g3⟩:=W3 (hle _) ahl
   exact⟨g1,fun _=>g2,fun id r hu=>⟨hb,g3 id r hu⟩⟩
  ·rw [if_neg hb]at hyj ⊢
   exact⟨hyj,fun h=>absurd h hb,fun id r hu=>by rw [hyj.2]at hu;cases hu⟩
 obtain⟨ayj,ahl,ayk⟩:=ayi
 have ayl:okU md ops.toList j uj st.cI:=KA.2 fun id r hu k hk=>hoj id r hu k (.inr hk)
 have hfi:∀id r,uj=some (id,r)→¬(bi=true∧id∈i9 oi.op (aX st.f)):=by
  intro id r hu hh
  have:=hoj id r hu i (.inl ⟨hh.1,rfl,hh.2⟩)
  rw [hdj]at this;cases this
 have hui:∀id r,ui=some (id,r)→bi=true∧((eA E oi.op=true∧id=oi.dst.getD 0)∨id∈i9 oi.op (aX st.f)):=by
  intro id r hu
  by_cases hb:bi=true
  ·rw [if_pos hb]at R5
   exact⟨hb,(W3 (rows':=fC md ops.toList i st.wl st.rows) (fun id _ r hr=>hr) R5).2.2 id r hu⟩
  ·rw [if_neg hb]at R5
   rw [R5.2]at hu;cases hu
 have kQ:∀id r r',ui=some (id,r)→uj=some (id,r')→False:=by
  intro id r r' hu1 hu2
  obtain⟨hb,hh⟩:=ayk id r' hu2
  rcases hh with hh | hh
  ·obtain⟨J6,hh1⟩:=hui id r hu1
   rcases hh1 with hh1 | hh1
   ·obtain⟨d,hd⟩:=Option.isSome_iff_exists.1 (hds hh1.1)
    have e1:id=d:=by rw [hh1.2,hd];rfl
    cases amw:oj.dst with
    | none=>exact absurd amw (fun he=>by have:=ayg hh.1;rw [he]at this;cases this)
    | some d' =>
     have e2:id=d':=by rw [hh.2,amw];rfl
     exact h2 d hd (by rw [amw,←e2,e1])
   ·exact hfi id r' hu2 ⟨J6,hh1⟩
  ·obtain⟨r'',aym⟩:=ahl hb id hh
   exact hnw id r'' aym r hu1
 have ayn:bi=true→kT (i9 oi.op (aX st.f)) (fC md ops.toList i st.wl st.rows) (fC md ops.toList i (app j oj bj vj uj st).wl (app j oj bj vj uj st).rows):=by
  intro hb id iV r hr
  obtain⟨hw,jR⟩:=l5.1 hr
  have hn:∀r',uj≠some (id,r'):=fun r' hu=>hfi id r' hu ⟨hb,iV⟩
  refine l5.2 ⟨fun k hk=>?_,?_⟩
  ·rcases qN.1 hk with ⟨_,r',hu⟩ | hk
   ·exact absurd hu (hn r')
   ·exact hw k hk
  ·simp only [app];rw [D3 hn];exact jR
 refine⟨bj,vj,uj,⟨ayh,ayj⟩,ayl,⟨(W5 h3).2 hgi,?_⟩,?_,?_⟩
 ·by_cases hb:bi=true
  ·rw [if_pos hb]at R5 ⊢
   refine(ND ei).2 ?_
   exact(W3 (ayn hb) R5).1
  ·rw [if_neg hb]at R5 ⊢;exact R5
 ·-- i's own row has not aEt awq
  rw [KA]
  rintro id r hu k (⟨hb,rfl,hh⟩ | hh)
  ·obtain⟨r',jR⟩:=ahl hb id hh
   exact absurd hu (hnw id r' jR r)
  ·exact ho id r hu k hh
 ·have:app i oi bi vi ui (app j oj bj vj uj st)=app j oj bj vj uj (app i oi bi vi ui st):=by
   simp only [app,ST.mk.injEq]
   refine⟨put_comm fun d hd=>fun hd'=>(h2 d) (by first | exact hd | exact hd') (by first | exact hd' | exact hd),?_,?_,?_⟩
   ·cases ui with
    | none=>rfl
    | some x =>
     cases uj with
     | none=>rfl
     | some y =>
      obtain⟨id,r⟩:=x
      obtain⟨kJ,r'⟩:=y
      have:id≠kJ:=fun e=>kQ id r r' rfl (by rw [e])
      funext k
      simp only [iD,eQ]
      split<;>split<;>simp_all
   ·funext k id
    have e1:i9 oi.op (aX (put st.f oj.dst vj))=i9 oi.op (aX st.f):=D2 ei
    have e2:i9 oj.op (aX (put st.f oi.dst vi))=i9 oj.op (aX st.f):=D2 ej
    rw [e1,e2]
    apply propext
    constructor
    ·rintro(h | h | h)
     ·exact .inr (.inl h)
     ·exact .inl h
     ·exact .inr (.inr h)
    ·rintro(h | h | h)
     ·exact .inr (.inl h)
     ·exact .inl h
     ·exact .inr (.inr h)
   ·funext k id
    apply propext
    rw [qN,qN,qN,qN]
    constructor
    ·rintro(h | h | h)
     ·exact .inr (.inl h)
     ·exact .inl h
     ·exact .inr (.inr h)
    ·rintro(h | h | h)
     ·exact .inr (.inl h)
     ·exact .inl h
     ·exact .inr (.inr h)
  rw [this];exact hK
theorem NG{j k:Nat}:aad md ops.toList j k=true ↔ ∃oj,ops[j]? = some oj ∧ ∃e∈oj.after,Region.binds md e=true∧e.on=k:=by
 unfold aad
 cases h:ops[j]? with
 | none=>simp [show ops.toList[j]? = none by simpa using h]
 | some oj =>
  rw [show ops.toList[j]? = some oj by simpa using h]
  simp only [List.any_eq_true,Bool.and_eq_true,beq_iff_eq,Option.some.injEq]
  constructor
  ·rintro⟨e,he,h1,h2⟩;exact⟨oj,rfl,e,by simpa using he,h1,h2⟩
  ·rintro⟨_,rfl,e,he,h1,h2⟩;exact⟨e,by simpa using he,h1,h2⟩
theorem ahm{n j i:Nat}{oj:Oper}{bL:Array Bool}(hj:ops[j]? = some oj)(inv:HeadInv md ops n bL)(hr:∀e∈oj.after,Region.binds md e=true→bL.getD e.on false=true)(R6:bL.getD i false=false):qM md ops.toList j i=false:=by
 have one:∀k,aad md ops.toList j k=true→bL.getD k false=true:=fun k hk=>by
  obtain⟨o,ho,e,he,h1,rfl⟩:=NG.1 hk
  rw [hj]at ho;cases ho
  exact hr e he h1
 cases hd:qM md ops.toList j i with
 | false=>rfl
 | true =>
  exfalso
  unfold qM at hd
  rcases Bool.or_eq_true_iff.1 hd with h | h
  ·rw [one i h]at R6;cases R6
  ·obtain⟨k,_,hk⟩:=List.any_eq_true.1 h
   obtain⟨h1,h2⟩:=Bool.and_eq_true_iff.1 hk
   obtain⟨o,ho,e,he,h3,rfl⟩:=NG.1 h2
   rw [inv.closed k o ho (one k h1) e he h3]at R6;cases R6
end
section
variable {E:Env} {ops:Array Oper} {md:Region.Mode}
def NH(E:Env)(md:Region.Mode)(ops:Array Oper)(c0 n:Nat)(L:Array Bool→ST→Prop):Nat→Array Bool→ST→Prop
 | 0,bL,st=>L bL st
 | f+1,bL,st=>Region.ready md ops bL ≠ [] ∧ ∀i∈Region.ready md ops bL,i<n∧qOp E md ops c0 i (NH E md ops c0 n L f (bL.setIfInBounds i true)) st
theorem NI{c0 n i:Nat}{oi:Oper}{b:Bool}{v:PV}{u:Option (Nat × Row)}{L:Array Bool→ST→Prop}(hi:ops[i]? = some oi)(qK:∀i oi,i<n→ops[i]? = some oi→eA E oi.op=true→oi.dst.isSome=true)
  (D4:∀bL,HeadInv md ops n bL → ∀i,i<n→bL.getD i true=false → ∀t,n≤t→t ∉ Region.ready md ops bL) (hin:i<n)
  (asf:∀bL st,L bL st → ∀j∈Region.ready md ops bL,n≤j) :
  ∀(f:Nat) (bL:Array Bool) (st:ST),HeadInv md ops n bL →
   (∀j oj,ops[j]? = some oj→j≠i→bL.getD j true=false→(∀e∈oj.after,Region.binds md e=true→e.on≠i)→oi.apart ops oj=true) →
   i∈Region.ready md ops bL→YG E md ops c0 i oi b v u st→okU md ops.toList i u st.cI →
   NH E md ops c0 n L f (bL.setIfInBounds i true) (app i oi b v u st)→NH E md ops c0 n L (f+1) bL st:=by
 intro f
 induction f with
 | zero =>
  intro bL st inv _ hr hy ho H
  have R6:=(mem_ready.1 hr).1
  refine⟨fun h=>(by rw [h]at hr;cases hr),fun j hj=>?_⟩
  have hjn:j<n:=by
   rcases Nat.lt_or_ge j n with h | h
   ·exact h
   ·exact absurd hj (D4 bL inv i hin R6 j h)
  refine⟨hjn,?_⟩
  by_cases hji:j=i
  ·subst hji;unfold qOp;simp only [hi];exact⟨b,v,u,hy,ho,H⟩
  ·have:=asf _ _ H j (ready_mono hj hji)
   omega
 | succ f ih =>
  intro bL st inv aj3 hr hy ho H
  have R6:=(mem_ready.1 hr).1
  refine⟨fun h=>(by rw [h]at hr;cases hr),fun j hj=>?_⟩
  have hjn:j<n:=by
   rcases Nat.lt_or_ge j n with h | h
   ·exact h
   ·exact absurd hj (D4 bL inv i hin R6 j h)
  refine⟨hjn,?_⟩
  by_cases hji:j=i
  ·subst hji;unfold qOp;simp only [hi];exact⟨b,v,u,hy,ho,H⟩
  ·have h1:=(H.2 j (ready_mono hj hji)).2
   obtain⟨ash,oj,hoj,wD⟩:=mem_ready.1 hj
   have ayo:∀e∈oj.after,Region.binds md e=true→e.on≠i:=fun e he hb heq=>by
    have h1:=wD e he hb
    rw [heq,getD_both R6]at h1
    cases h1
   have h2:=ahk hoj (aj3 j oj hoj hji ash ayo) (qK i oi hin hi) (qK j oj hjn hoj) (ahm hoj inv wD (getD_both R6)) hy ho h1
   have amx:∀k ok,ops[k]? = some ok→k≠i→(bL.setIfInBounds j true).getD k true=false →
     (∀e∈ok.after,Region.binds md e=true→e.on≠i)→oi.apart ops ok=true:=fun k ok hk hki asi HT=>by
    refine aj3 k ok hk hki ?_ HT
    by_cases hjk:j=k
    ·subst hjk;exact ash
    ·rw [getD_set_ne true hjk]at asi;exact asi
   refine acL (fun W6 h3=>ih (bL.setIfInBounds j true) W6 (inv.set hj hjn) amx (ready_mono hr (Ne.symm hji)) h3.1 h3.2.1 ?_) h2
   rw [Array.setIfInBounds_comm _ _ hji]
   exact h3.2.2
def amz(E:Env)(md:Region.Mode)(ops:Array Oper)(c0:Nat)(Lq:ST→Prop):Nat→List Oper→ST→Prop
 | _,[],st=>Lq st
 | k,o::os,st=>∃b v u,YG E md ops c0 k o b v u st∧okU md ops.toList k u st.cI∧amz E md ops c0 Lq (k+1) os (app k o b v u st)
theorem uE{c0 n g:Nat}{Lq:ST→Prop}(qK:∀i oi,i<n→ops[i]? = some oi→eA E oi.op=true→oi.dst.isSome=true)(D4:∀bL,HeadInv md ops n bL → ∀i,i<n→bL.getD i true=false → ∀t,n≤t→t ∉ Region.ready md ops bL) :
  ∀(l:List Oper) (k:Nat) (bL:Array Bool) (st:ST),(∀j,j<l.length→l[j]? = ops[k+j]?)→k+l.length=n→HeadInv md ops n bL →
  Region.lexHead md ops g l.length k bL=true→amz E md ops c0 Lq k l st →
  NH E md ops c0 n (fun W7 W6=>Region.seqB md ops g n W7=true∧Lq W6) l.length bL st
 | [],k,bL,st,_,hk,_,hB,h=>by
  have:k=n:=by simpa using hk
  subst this
  exact⟨by simpa [Region.lexHead]using hB,h⟩
 | o::l,k,bL,st,hl,hk,inv,hB,h=>by
  have h0:ops[k]? = some o:=by simpa using(hl 0 (by simp)).symm
  simp only [List.length_cons,Region.lexHead,Bool.and_eq_true]at hB
  obtain⟨⟨hr,hf⟩,hB'⟩:=hB
  have hkn:k<n:=by simp only [List.length_cons]at hk;omega
  have jR:k∈Region.ready md ops bL:=by simpa using hr
  obtain⟨b,v,u,hy,ho,hK⟩:=h
  exact NI h0 qK D4 hkn (fun W7 W6 hL=>seqB_ready hL.1) l.length bL st inv (Region.free_spec h0 hf) jR hy ho
   (uE qK D4 l (k+1) _ _ (fun j hj=>by have:=hl (j+1) (by simp;omega);simpa [Nat.add_assoc,Nat.add_comm 1 j]using this) (by simp only [List.length_cons]at hk;omega) (inv.set jR hkn) hB' hK)
variable {w0:World} {S0:eG} {m:Nat} {G:Gs}
theorem TA{o:Oper}{a:Act}{w:World}{f:Nat→PV}{rows:Rows}{U:Nat→Prop}{c0:Nat}{v:PV}{u:Option (Nat × Row)}(WY:¬U c0){g:FuncId}{aIa:Array Operand}{ts:Array TypeId}(ho:o.op = .call { callee:=.value (.func g),args:=aIa,argTypes:=ts })
  (hy:aj0 E g (aIa.toList.map fun x=>aX f x) c0 (o.dst.getD 0) v u) (hR:qL w0 S0 m G U f rows a w) (hd:∀t,o.dst=some t→t<m)
  {K':Act→World→Prop} {Q:Exit→Act→World→Prop} (hK:∀a' w',qL w0 S0 m G (fun v=>v=c0∨U v) (put f o.dst v) (iD rows u) a' w'→K' a' w'):o.wp E.P a w K' Q:=by
 obtain⟨⟨c,rfl,hr,gH,hI,hf,hG⟩,hn,gG⟩:=hR
 have hρ:=nI hf
 have hfu:¬c.used c0:=fun hu=>WY (gH _ hu)
 obtain⟨vI,e,n,els,⟨⟨fn,b,h1,h2,h3⟩,S5⟩,rfl,rfl⟩:=hy
 obtain⟨dst,op,type,pos,after,guard⟩:=o
 simp only at ho hd hK
 subst ho
 have gZ:bO (aO c) (aIa.toList.map fun x=>aX f x) (aIa.map a.eval).toList:=by
  refine bO.eC (by simp) fun k p u hp hu=>?_
  simp at hp hu
  obtain⟨x,hx,rfl⟩:=hp
  obtain⟨y,hy,rfl⟩:=hu
  rw [hx]at hy;cases hy
  exact hρ x
 have iC:bR c.S c.w (aIa.toList.map fun x=>aX f x) (aIa.map a.eval).toList:=dM.2 (bO.eC gZ.length fun k p u hp hu=>by
  obtain⟨u',q1,q2⟩:=gZ.get hp
  rw [hu]at q1;cases q1
  exact q2.rep (List.all_eq_true.1 vI p (List.mem_of_getElem? hp)))
 have sZ:=S5 c.w c.S _ (fun b o hb=>hI.lt hb) iC
 simp only [Array.toArray_toList]at sZ
 have hfo:=hρ (.func g)
 simp only [aX,aO,aV,dS]at hfo
 obtain⟨cs,hfv,MX⟩:=hfo
 simp only [bR]at MX
 subst MX
 unfold Oper.wp
 have kS:(execOp a.eval { dst:=dst,op:=.call { callee:=.value (.func g),args:=aIa,argTypes:=ts },type:=type,pos:=pos,after:=after,guard:=guard }).run E.P c.w = .ok (.enter g (aIa.map a.eval)) c.w:=by
  simp only [execOp,resolve,hfv,Deferred.ofValue,Sem.run_bind,Sem.run_pure,Result.andThen_ok,invoke]
  simpa using n4 h1 h2 h3 (aIa.map a.eval) c.w
 rw [kS]
 refine sZ.mono ?_
 rintro x w' ⟨v',xs,S',rfl,hb,g1,g2,g3,g4,g5,g6,g7,g8⟩
 obtain⟨hI2,hA2⟩:=hI.grow hb g1 g2
 obtain⟨hI3,hA3⟩:=hI2.set (w':=w') (ob:=v'.ownBlock) (id:=dst.getD 0) (r':=⟨c0,e,n,els⟩) (v':=v') (xs:=xs) (World.grownBy.refl _ _)
  (fun g hg=>by
   have Z5:=(g3.lt g hg).1
   refine⟨by have:=hI.below.size;omega,fun o=>g8 g o hg,fun kJ r hr _ GO=>?_⟩
   obtain⟨⟨ys,q1,_,_⟩,_⟩:=hI.row kJ r hr
   have:=(q1.lt g GO).2
   omega) ⟨g3.1,g3.2.imp id fun⟨g,cap,cur,q1,q2,q3⟩=>⟨g,cap,cur,q1,Nat.le_trans hI.below.size q2,q3⟩⟩ (g4.mono fun _ _ h=>aV.kP h) g5 g6 g7 (fun g hg => .inl hg) hfu
 refine hK _ _ ?_
 have hf2:∀s,aO { c with S:=S',w:=w' } (f s) (a.tmps.getD s undef):=fun s=>aO.vU hA2 _ _ (hf s)
 have hG2:∀p∈G,aO { c with S:=S',w:=w' } p.1 p.2:=fun p hp=>aO.vU hA2 _ _ (hG p hp)
 refine pW hf2 hG2 hn gG hA3 hI3 ?_ hd rfl (by simp [iD,hr]) (fun v hv=>hv.imp (fun h=>h) (gH v))
 rcases g3.2 with ⟨rfl,h8⟩ | ⟨g,lV,cur,rfl,_⟩
 ·have:els.length=0:=h8
  rw [this]
  exact mL (r:=⟨c0,e,n,els⟩) (A:=none) (cap:=0) (by simp [eQ]) (by simpa using h8) (Or.inl rfl) (by simp [eQ])
 ·exact mL (r:=⟨c0,e,n,els⟩) (by simp [eQ]) rfl (Or.inl rfl) (by simp [eQ])
theorem acO{o:Oper}{a:Act}{w:World}{f:Nat→PV}{rows:Rows}{U:Nat→Prop}{c0:Nat}{v:PV}{u:Option (Nat × Row)}(WY:¬U c0)(hn:eA E o.op=true)(hy:yn E c0 o.dst o.op (aX f) rows v u)(hR:qL w0 S0 m G U f rows a w)(hd:∀t,o.dst=some t→t<m)
  {K':Act→World→Prop} {Q:Exit→Act→World→Prop} (hK:∀a' w',qL w0 S0 m G (fun v=>v=c0∨U v) (put f o.dst v) (iD rows u) a' w'→K' a' w'):o.wp E.P a w K' Q:=by
 by_cases sZ:∃g aIa ts,o.op = .call { callee:=.value (.func g),args:=aIa,argTypes:=ts }∧E.writes g=true
 ·obtain⟨g,aIa,ts,ho,hw⟩:=sZ
  rw [ho]at hy
  simp only [yn]at hy
  rw [if_pos hw]at hy
  exact TA WY ho hy hR hd hK
 refine xM (ver:=c0) WY (K:=fun _ f' rows'=>f'=put f o.dst v∧rows'=iD rows u) ?_ hR hd (fun i f' rows' a' w' h mM=>by
  obtain⟨rfl,rfl⟩:=h
  exact hK a' w' (mM.mono fun v hv=>hv.imp (fun h=>h.2) fun h=>h))
 obtain⟨dst,op,type,pos,after,guard⟩:=o
 simp only at hn hy sZ ⊢
 refine oV hn ?_ ?_ ?_ ?_ ?_
 ·rintro t rfl
  simp only [yn]at hy
  obtain⟨h2,rfl,rfl⟩:=hy
  exact⟨h2,rfl,rfl⟩
 ·rintro t x rfl
  simp only [yn]at hy
  obtain⟨h2,l,h3,h4,h5,rfl,rfl⟩:=hy
  exact⟨h2,l,h3,fun q hq=>J9 (fun id _ r hr=>by cases hr) (h4 q hq),h5,rfl,rfl⟩
 ·rintro t l cc rfl
  simp only [yn]at hy
  simp only [pI]
  split at hy
  ·rename_i e n b z k1 x k2 y hE hl hc
   obtain⟨g1,g2,g3,g4,rfl,rfl⟩:=hy
   try rw [hE,hl,hc]
   exact⟨g1,g2,g3,g4,rfl,rfl⟩
  ·exact hy.elim
 ·rintro x y t t2 rfl
  simp only [yn]at hy
  obtain⟨h2,hy⟩:=hy
  simp only [pI]
  refine⟨h2,?_⟩
  unfold s5 at hy
  unfold pY
  split at hy
  ·rename_i e n b z hE
   obtain⟨l,g1,g2,g3⟩:=hy
   rw [hE]
   refine⟨l,g1,g2,?_⟩
   split at g3
   ·rename_i hx
    obtain⟨q1,q2,rfl,rfl⟩:=g3
    rw [hx]
    exact⟨q1,q2,rfl,rfl⟩
   ·rename_i id ver off len hx
    obtain⟨r,q1,q2,q3,q4,q5,q6,q7,q8,rfl,rfl⟩:=g3
    rw [hx]
    exact⟨r,q1,q2,q3,q4,q5,q6,q7,q8,rfl,rfl⟩
   ·exact g3.elim
  ·exact hy.elim
 ·rintro g aIa ts rfl hw
  exact absurd ⟨g,aIa,ts,rfl,hw⟩ sZ
theorem aaf{c0 i:Nat}{st:ST}{K:ST→Prop}{U:Nat→Prop}(WY:∀o,ops[i]? = some o→eA E o.op=true→¬U (c0+rk E ops.toList i))(h:qOp E md ops c0 i K st){a:Act}{w:World}(hR:qL w0 S0 m G U st.f st.rows a w)(hd:∀o,o∈ops → ∀t,o.dst=some t→t<m)
  {K':Act→World→Prop} {Q:Exit→Act→World→Prop} (hK:∀W6 a' w',K W6→qL w0 S0 m G (fun v=>(v=c0+rk E ops.toList i ∧ ∃o,ops[i]? = some o∧eA E o.op=true)∨U v) W6.f W6.rows a' w'→K' a' w'):wpOp E.P ops Q i K' a w:=by
 unfold qOp at h
 unfold wpOp
 split at h
 ·rename_i hi;simp only [hi];exact hK _ _ _ h (hR.mono fun v hv => .inr hv)
 ·rename_i o hi
  simp only [hi]
  obtain⟨b,v,u,⟨hg,hy⟩,ho,hk⟩:=h
  have mM:=hR
  obtain⟨⟨c,rfl,hr,gH,hI,hf,hG⟩,hn,gG⟩:=hR
  have hdo:=hd o (Array.mem_of_getElem? hi)
  have aj4:Region.wanted o (yielded ops a.tmps)=b:=by
   unfold gOK at hg
   unfold Region.wanted
   cases hgd:o.guard with
   | none=>rw [hgd]at hg;simp only at hg ⊢;exact hg.symm
   | some x =>
    obtain⟨j,want⟩:=x
    rw [hgd]at hg
    simp only at hg ⊢
    obtain⟨d,h1,h2⟩:=hg
    have hx:=hf d
    rcases h2 with ⟨h2,h3⟩ | ⟨h2 | h2,h3⟩
    ·rw [h2]at hx
     rw [iY h1 hx,h3]
     cases want<;>rfl
    ·rw [h2]at hx
     rw [iY h1 hx,h3]
     cases want<;>rfl
    ·rw [h2]at hx
     rw [wC h1 hx,h3]
     rfl
  by_cases hb:b=true
  ·subst hb
   rw [if_pos rfl]at hy
   rw [aj4,if_pos rfl]
   left
   cases qK:eA E o.op with
   | true =>
    refine acO (WY o hi qK) qK (W3 (fun id _ r jR=>(l5.1 jR).2) hy).1 mM hdo fun a' w' hR2=>hK _ _ _ hk ?_
    exact hR2.mono fun v hv=>hv.imp (fun h=>⟨h,o,by first | exact hi | rfl,qK⟩) fun h=>h
   | false =>
    rw [DY qK]at hy
    have GU:ys E o.op (aX st.f) c.rows v u:=by
     rw [hr]
     exact(ajZ (fun id _ r jR=>(l5.1 jR).2) hy).1
    refine NC hI hf GU fun v' c' h1 h2 h3 h4 h5=>hK _ _ _ hk ?_
    refine pW hf hG hn gG h3 h4 h5 hdo rfl ?_ ?_
    ·simp only [app]
     rw [h1,hr]
    ·rw [h2]
     exact fun v hv => .inr (gH v hv)
  ·rw [if_neg hb]at hy
   obtain⟨rfl,rfl⟩:=hy
   rw [aj4,if_neg hb]
   refine hK _ _ _ hk ?_
   have GO:b=false:=by simpa using hb
   subst GO
   exact pW hf hG hn gG (vT.refl c) hI S9 hdo rfl (by rw [hr];rfl) (fun v hv => .inr (gH v hv))
def Ul(E:Env)(ops:Array Oper)(c0 n:Nat)(bL:Array Bool):Nat→Prop:=fun v=>v<c0 ∨ ∃k o,k<n∧ops[k]? = some o∧eA E o.op=true∧v=c0+rk E ops.toList k∧bL.getD k false=true
theorem TB{c0 n v:Nat}{bL:Array Bool}(h:Ul E ops c0 n bL v):v<c0+rk E ops.toList n:=by
 rcases h with h | ⟨k,o,hk,ho,hn,rfl,_⟩
 ·omega
 ·have:=acH (ops:=ops.toList) (by simpa using ho) hn hk
  omega
theorem mH{c0 n g:Nat}{L:Array Bool→ST→Prop}{Q:Exit→Act→World→Prop}(hd:∀o,o∈ops → ∀t,o.dst=some t→t<m)
  (hL:∀bL (st:ST) a w,L bL st→qL w0 S0 m G (Ul E ops c0 n bL) st.f st.rows a w→wpAny E.P md ops Q g bL a w) :
  ∀(f:Nat) (bL:Array Bool) (st:ST) (a:Act) (w:World),n≤bL.size→NH E md ops c0 n L f bL st→qL w0 S0 m G (Ul E ops c0 n bL) st.f st.rows a w→wpAny E.P md ops Q (f+g) bL a w
 | 0,bL,st,a,w,_,h,hR=>by rw [Nat.zero_add];exact hL _ _ _ _ h hR
 | f+1,bL,st,a,w,pF,h,hR=>by
  rw [show f+1+g=(f+g)+1 by omega]
  refine⟨fun h0=>absurd h0 h.1,fun i hi=>?_⟩
  have R6:=(mem_ready.1 hi).1
  obtain⟨hin,hq⟩:=h.2 i hi
  refine aaf (fun o ho hn hU=>?_) hq hR hd fun W6 a' w' h' mM=>mH hd hL f _ W6 a' w' (by simpa using pF) h' (mM.mono fun v hv=>?_)
  ·rcases hU with hU | ⟨k,o',hk,ho',xL,he,hl⟩
   ·omega
   ·have:=ams (ops:=ops.toList) (by simpa using ho) hn (by simpa using ho') xL (by omega)
    subst this
    rw [getD_both R6]at hl;cases hl
  ·rcases hv with ⟨rfl,o,ho,hn⟩ | hv
   ·exact .inr ⟨i,o,hin,ho,hn,rfl,by simp [show i<bL.size by omega]⟩
   ·rcases hv with hv | ⟨k,o,hk,ho,hn,he,hl⟩
    ·exact .inl hv
    ·refine .inr ⟨k,o,hk,ho,hn,he,?_⟩
     by_cases hki:i=k
     ·subst hki;simp [show i<bL.size by omega]
     ·simpa [Array.getElem?_setIfInBounds_ne hki]using hl
end
def aQ(E:Env)(ops:List Oper):List Oper→(PS→Prop)→PS→Prop
 | [],K,σ=>K σ
 | o::os,K,σ =>
  match o.guard with
  | none=>fN E o (aQ E ops os K) σ
  | some (j,want) =>
   match (ops[j]?).bind (·.dst)with
   | none=>False
   | some d=>(σ.f d = .bool want∧fN E o (aQ E ops os K) σ)∨((σ.f d = .bool (!want)∨σ.f d = .fE [])∧aQ E ops os K (σ.put o.dst (.fE [])))
def aT(E:Env)(ops:List Oper)(clk:Nat):Nat→List Oper→(PS→Prop)→ST→Prop
 | _,[],K,st=>K ⟨st.f,st.rows,clk⟩
 | k,o::os,K,st =>
  match o.guard with
  | none=>∃v u,yn E clk o.dst o.op (aX st.f) (fC .any ops k st.wl st.rows) v u∧okU .any ops k u st.cI∧aT E ops (jA E o.op clk) (k+1) os K (app k o true v u st)
  | some (j,want) =>
   match (ops[j]?).bind (·.dst)with
   | none=>False
   | some d=>(st.f d = .bool want ∧ ∃v u,yn E clk o.dst o.op (aX st.f) (fC .any ops k st.wl st.rows) v u∧okU .any ops k u st.cI∧aT E ops (jA E o.op clk) (k+1) os K (app k o true v u st))∨((st.f d = .bool (!want)∨st.f d = .fE [])∧aT E ops clk (k+1) os K (app k o false (.fE []) none st))
def iE(E:Env)(tl:Nat)(ops:List Oper)(K:PS→Prop)(σ:PS):Prop:=
 if tl=0 then aT E ops σ.clock 0 ops K ⟨σ.f,σ.rows,fun _ _=>False,fun _ _=>False⟩
 else aT E ops σ.clock 0 (ops.take (ops.length-tl)) (aQ E ops (ops.drop (ops.length-tl)) K) ⟨σ.f,σ.rows,fun _ _=>False,fun _ _=>False⟩
inductive PX where
 | normal
 | exit (id:Nat)
 | ret
def GX(K:PS→Prop)(Q:PX→PS→Prop):PX→PS→Prop
 | .normal,σ=>K σ
 | .exit id,σ=>Q (.exit id) σ
 | .ret,σ=>Q .ret σ
def GY(id:Nat)(Q:PX→PS→Prop):PX→PS→Prop
 | .normal,σ=>Q .normal σ
 | .exit j,σ=>if j=id then Q .normal σ else Q (.exit j) σ
 | .ret,σ=>Q .ret σ
def s6(E:Env)(n tl:Nat)(ops:Array Oper)(draw:Bool):Bool:=
 (ops.all fun o=>match o.dst with | some d=>decide (d<n) | none=>true) &&
 (!draw || (wB E (if tl=0 then ops.toList else ops.toList.take (ops.size-tl))&&(if tl=0 then Region.noSelect ops&&Region.lexHead .any ops 0 ops.size 0 (Array.replicate ops.size false)else decide (tl≤ops.size)&&Region.lexTailB .any ops (ops.size-tl))))
def fO(E:Env)(n:Nat)(tl:Nat→Nat):Code→Bool
 | .region id ops draw=>s6 E n (tl id) ops draw
 | .seq a b=>fO E n tl a&&fO E n tl b
 | .cond _ t e=>fO E n tl t&&fO E n tl e
 | .block _ c=>fO E n tl c
 | .loop c=>fO E n tl c
 | _=>true
section
variable {E:Env} {w0:World} {S0:eG} {n:Nat} {G:Gs}
theorem iT{ops:Array Oper}{K:PS→Prop}{Q:Exit→Act→World→Prop}(hK:∀σ' a' w',K σ'→Rel w0 S0 n G σ' a' w'→Q .normal a' w') :
  ∀(l:List Oper) (σ:PS) (a:Act) (w:World),(∀o∈l,∀t,o.dst=some t→t<n)→aQ E ops.toList l K σ→Rel w0 S0 n G σ a w→wpList E.P ops Q l a w
 | [],σ,a,w,_,h,hR=>hK _ _ _ h hR
 | o::os,σ,a,w,hd,h,hR=>by
  have hdo:=hd o (by simp)
  have hds:∀o∈os,∀t,o.dst=some t→t<n:=fun o ho=>hd o (by simp [ho])
  have wanted:∀ {σ},fN E o (aQ E ops.toList os K) σ→Rel w0 S0 n G σ a w→o.wp E.P a w (wpList E.P ops Q os) Q:=fun hp hR =>
   A9 hp hR hdo fun σ' a' w' hk mM=>iT hK os σ' a' w' hds hk mM
  unfold wpList
  simp only [aQ]at h
  split at h
  ·rename_i hg
   rw [if_pos (by simp [Region.wanted,hg])]
   exact .inl (wanted h hR)
  ·rename_i j want hg
   split at h
   ·exact h.elim
   ·rename_i d M0
    have hd3:(ops[j]?).bind (·.dst)=some d:=by simpa using M0
    have skip:yielded ops a.tmps j≠some want→aQ E ops.toList os K (σ.put o.dst (.fE []))→(if Region.wanted o (yielded ops a.tmps)=true then o.wp E.P a w (wpList E.P ops Q os) Q∨(o.asks E.P a w∧LetsOut Q)else wpList E.P ops Q os (a.put o.dst undef) w):=by
     intro hy h2
     rw [if_neg (by simpa [Region.wanted,hg]using hy)]
     refine iT hK os _ _ w hds h2 ?_
     obtain⟨⟨c,rfl,hr,gH,hI,hf,hG⟩,hn,gG⟩:=hR
     exact oU hf hG hn gG (vT.refl c) hI S9 hdo rfl (by simp [PS.put,hr]) gH
    obtain⟨c,_,_,_,_,hf,_⟩:=hR.ex
    have hx:=hf d
    rcases h with ⟨h1,h2⟩ | ⟨h1 | h1,h2⟩
    ·rw [h1]at hx
     rw [if_pos (by simp [Region.wanted,hg,iY hd3 hx])]
     exact .inl (wanted h2 hR)
    ·rw [h1]at hx
     exact skip (by rw [iY hd3 hx];cases want<;>simp) h2
    ·rw [h1]at hx
     exact skip (by rw [wC hd3 hx];simp) h2
theorem pZ{ops:Array Oper}{c0:Nat}{K:PS→Prop}:∀(l:List Oper) (k clk:Nat) (st:ST),(∀j,j<l.length→l[j]? = ops[k+j]?)→wB E l=true→clk=c0+rk E ops.toList k→aT E ops.toList clk k l K st→amz E .any ops c0 (fun st=>K ⟨st.f,st.rows,c0+rk E ops.toList (k+l.length)⟩) k l st
 | [],k,clk,st,_,_,hc,h=>by subst hc;exact h
 | o::os,k,clk,st,hl,NJ,hc,h=>by
  have amB:wB E os=true:=by simp only [wB,List.all_cons,Bool.and_eq_true]at NJ ⊢;exact NJ.2
  have ays:o.guard≠none→eA E o.op=false:=fun hg=>by
   simp only [wB,List.all_cons,Bool.and_eq_true]at NJ
   cases hn:eA E o.op with
   | false=>rfl
   | true=>have:=NJ.1;rw [hn]at this;simp at this;exact absurd this.2 hg
  have h0:ops[k]? = some o:=by simpa using(hl 0 (by simp)).symm
  have xI:jA E o.op clk=c0+rk E ops.toList (k+1):=by rw [hc];exact ahj (by simpa using h0)
  have WZ:∀j,j<os.length→os[j]? = ops[k+1+j]? := fun j hj=>by have:=hl (j+1) (by simp;omega);simpa [Nat.add_assoc,Nat.add_comm 1 j]using this
  have e1:k+(o::os).length=k+1+os.length:=by simp only [List.length_cons];omega
  rw [e1]
  simp only [aT]at h
  split at h
  ·rename_i hg
   obtain⟨v,u,h1,h2,h3⟩:=h
   exact⟨true,v,u,⟨by simp [gOK,hg],by rw [if_pos rfl,←hc];exact h1⟩,h2,pZ os _ _ _ WZ amB xI h3⟩
  ·rename_i j want hg
   split at h
   ·exact h.elim
   ·rename_i d M0
    have hd3:(ops[j]?).bind (·.dst)=some d:=by simpa using M0
    rcases h with ⟨h1,v,u,q1,q2,q3⟩ | ⟨h1,h2⟩
    ·exact⟨true,v,u,⟨by simp only [gOK,hg];exact⟨d,hd3, .inl ⟨h1,trivial⟩⟩,by rw [if_pos rfl,←hc];exact q1⟩,q2,pZ os _ _ _ WZ amB xI q3⟩
    ·exact⟨false, .fE [],none,⟨by simp only [gOK,hg];exact⟨d,hd3, .inr ⟨h1,trivial⟩⟩,by simp⟩,trivial,pZ os _ _ _ WZ amB (by rw [←xI,D0 (ays (by rw [hg];simp))]) h2⟩
theorem Rel.drew{σ:PS}{a:Act}{w:World}(h:Rel w0 S0 n G σ a w):Rel w0 S0 n G σ a { w with drawn:=w.drawn+1 }:=by
 obtain⟨⟨c,rfl,hr,gH,hI,hf,hG⟩,hn,gG⟩:=h
 obtain⟨zE,hA⟩:=hI.grow (w':={ c.w with drawn:=c.w.drawn+1 }) (S':=c.S) ⟨rfl,rfl,rfl,Nat.le_refl _,fun _ _=>rfl⟩ (fun _ _ h=>h) (fun _ _ h => .inl h)
 exact⟨⟨{ c with w:={ c.w with drawn:=c.w.drawn+1 } },rfl,hr,gH,zE,fun s=>aO.vU hA _ _ (hf s),fun p hp=>aO.vU hA _ _ (hG p hp)⟩,hn,gG⟩
theorem vK{id tl:Nat}{ops:Array Oper}{K:PS→Prop}{Q:Exit→Act→World→Prop}(iI:s6 E n tl ops true=true){σ:PS}{a:Act}{w:World}(h:iE E tl ops.toList K σ)(hR:Rel w0 S0 n G σ a w)
  (hK:∀σ' a' w',K σ'→Rel w0 S0 n G σ' a' w'→Q .normal a' w'):(Code.region id ops true).wp E.P Q a w:=by
 simp only [s6,Bool.and_eq_true,Bool.not_true,Bool.false_or]at iI
 obtain⟨amC,vL,iI⟩:=iI
 have hd:∀o,o∈ops → ∀t,o.dst=some t→t<n:=by
  intro o ho t ht
  have:=Array.all_eq_true_iff_forall_mem.1 amC o ho
  simpa [ht]using this
 refine wp_region_any E.mixed ?_
 have NK:=hR.drew
 have hU0:∀k (l:Array Bool),qL w0 S0 n G (Ul E ops σ.clock k l) σ.f σ.rows a { w with drawn:=w.drawn+1 }:=fun k l=>NK.mono fun v hv => .inl hv
 have ahp:∀(l:List Oper),wB E l=true → ∀(i:Nat) (oi:Oper),l[i]? = some oi→eA E oi.op=true→oi.dst.isSome=true:=fun l h i oi hi hn=>by
  have:=List.all_eq_true.1 h oi (List.mem_of_getElem? hi)
  rw [hn]at this;simp at this;exact Option.isSome_iff_exists.2 (by obtain⟨x,hx⟩:=Option.isSome_iff_exists.1 this.1;exact⟨x,hx⟩)
 unfold iE at h
 by_cases htl:tl=0
 ·rw [if_pos htl]at h iI vL
  have qK:∀i oi,i<ops.size→ops[i]? = some oi→eA E oi.op=true→oi.dst.isSome=true:=fun i oi _ hi=>ahp _ vL i oi (by simpa using hi)
  simp only [Bool.and_eq_true]at iI
  have hl:=pZ (c0:=σ.clock) ops.toList 0 _ _ (by simp) vL (by simp [rk]) h
  have acP:HeadInv .any ops ops.size (Array.replicate ops.size false):=
   ⟨by simp,fun j oj _ hl=>(by rw [getD_replicate_false]at hl;cases hl),fun t h1 h2=>by omega⟩
  have D4:∀bL,HeadInv .any ops ops.size bL → ∀i,i<ops.size→bL.getD i true=false → ∀t,ops.size≤t→t ∉ Region.ready .any ops bL:=by
   intro bL _ i _ _ t ht hr
   obtain⟨_,o,ho,_⟩:=mem_ready.1 hr
   have:=(Array.getElem?_eq_some_iff.1 ho).1
   omega
  have H:=uE (E:=E) (md:=.any) (g:=0) qK D4 ops.toList 0 _ _ (by simp) (by simp) acP (by simpa using iI.2) hl
  have:=mH (E:=E) (md:=.any) (g:=0) (Q:=Q) (m:=n) hd (fun bL st a' w' hL mM=>by
   obtain⟨h1,h2⟩:=hL
   exact⟨by simpa [Region.seqB]using h1,hK _ _ _ h2 (mM.mono fun v hv=>by have:=TB hv;simpa using this)⟩) _ _ _ _ _ (by simp) H (hU0 _ _)
  simpa using this
 ·rw [if_neg htl]at h iI vL
  have qK:∀i oi,i<ops.size-tl→ops[i]? = some oi→eA E oi.op=true→oi.dst.isSome=true:=fun i oi h1 hi=>ahp _ vL i oi (by rw [List.getElem?_take,if_pos h1];simpa using hi)
  simp only [Bool.and_eq_true,decide_eq_true_eq]at iI
  obtain⟨hle,hB⟩:=iI
  simp only [Region.lexTailB,Bool.and_eq_true,decide_eq_true_eq]at hB
  obtain⟨⟨⟨⟨ayt,xL⟩,hs⟩,hc⟩,amD⟩:=hB
  have hlen:ops.toList.length=ops.size:=by simp
  rw [hlen]at h
  have hl:=pZ (c0:=σ.clock) (ops.toList.take (ops.size-tl)) 0 _ _ (fun j hj=>by
   have hj':j<ops.size-tl:=by simpa using hj
   simp [hj']) vL (by simp [rk]) h
  have acP:HeadInv .any ops (ops.size-tl) (Array.replicate ops.size false):=
   ⟨by simp,fun j oj _ hl=>(by rw [getD_replicate_false]at hl;cases hl),fun t _ ht=>getD_in (by simpa using ht) (getD_replicate_false _ _)⟩
  have zF:(ops.toList.take (ops.size-tl)).length=ops.size-tl:=by simp
  have hdl:(ops.toList.drop (ops.size-tl)).length=ops.size-(ops.size-tl):=by simp
  have H:=uE (E:=E) (md:=.any) (n:=ops.size-tl) (g:=ops.size-(ops.size-tl)) qK (fun bL inv i hi R6 t ht=>tail_waits hs hc xL inv _ i rfl hi R6 t ht) (ops.toList.take (ops.size-tl)) 0 _ _ (fun j hj=>by
   rw [zF]at hj
   simp [hj]) (by rw [zF];simp) acP (by rw [zF];exact amD) hl
  have:=mH (E:=E) (md:=.any) (g:=ops.size-(ops.size-tl)) (Q:=Q) (m:=n) hd (fun bL st a' w' hL mM=>by
   obtain⟨h1,h2⟩:=hL
   have h3:=iT (ops:=ops) (Q:=Q) hK (ops.toList.drop (ops.size-tl)) _ a' w' (fun o ho=>hd o (by simpa using List.mem_of_mem_drop ho)) h2 (mM.mono fun v hv=>by have:=TB hv;simpa using this)
   have h4:=wpAny_of_seq (md:=.any) (Q':=Q) (ops.toList.drop (ops.size-tl)) (ops.size-tl) bL a' w' (fun j=>by simp [List.getElem?_drop]) (by rw [hdl];exact h1) h3
   rwa [hdl]at h4) _ _ _ _ _ (by simp) H (hU0 _ _)
  rw [zF,show ops.size-tl+(ops.size-(ops.size-tl))=ops.size by omega]at this
  exact this
def amF:PX→Exit
 | .normal => .normal
 | .exit id => .exit id
 | .ret => .ret
end
def rV(E:Env)(σ:PS):List ResultVar→(List PV→Prop)→Prop
 | [],K=>K []
 | .tmp t::rs,K=>rV E σ rs fun vs=>K (σ.f t::vs)
 | .cell a t::rs,K=>∃v,vD E t σ.rows (σ.f a) v∧rV E σ rs fun vs=>K (v::vs)
def NL:List PV→PV
 | [x]=>x
 | l => .fE l
def acR(E:Env)(rs:List ResultVar)(r:PV)(σ:PS):Prop:=
 rV E σ rs fun vs=>fB σ.rows (vs.flatMap eI)∧(vs.map (pz σ.rows)).all gX=true∧r=NL (vs.map (pz σ.rows))
def acS(E:Env)(rs:List ResultVar)(r:PV):PX→PS→Prop
 | .normal,σ=>acR E rs r σ
 | .ret,σ=>acR E rs r σ
 | .exit _,_=>False
def HU(args:List PV):PS:=⟨fun s=>args.getD s .undef,fun _=>none,0⟩
section
variable {E:Env} {w0:World} {S0:eG} {c:Cx}
theorem uF(hI:Inv w0 S0 c){clk:Nat}{a:Act}{f:Nat→PV}(hf:∀s,aO c (f s) (a.tmps.getD s undef)){g:ResultVar→Sem Value}(hg1:∀t,g (.tmp t)=pure (a.tmps.getD t undef))
  (pV:∀x t,g (.cell x t)=do loadVar t (←asAddr (a.tmps.getD x undef))):∀(rs:List ResultVar) (K:List PV→Prop),rV E ⟨f,c.rows,clk⟩ rs K →
  ∃vs us,K vs∧bO (aO c) vs us∧(rs.mapM g:Sem (List Value)).run E.P c.w = .ok us c.w
 | [],K,h=>⟨[],[],h,trivial,by simp⟩
 | .tmp t::rs,K,h=>by
  obtain⟨vs,us,h1,h2,h3⟩:=uF hI hf hg1 pV rs _ h
  exact⟨f t::vs,a.tmps.getD t undef::us,h1,⟨hf t,h2⟩,by
   rw [List.mapM_cons,hg1,Sem.run_bind,Sem.run_pure,Result.andThen_ok,Sem.run_bind,h3,Result.andThen_ok,Sem.run_pure]⟩
 | .cell x t::rs,K,h=>by
  obtain⟨v,hv,h⟩:=h
  obtain⟨vs,us,h1,h2,h3⟩:=uF hI hf hg1 pV rs _ h
  obtain⟨u,hu,hr⟩:=HK hI (hf x) hv
  refine⟨v::vs,u::us,h1,⟨hr,h2⟩,?_⟩
  have Z4:(do loadVar t (←asAddr (a.tmps.getD x undef)):Sem Value).run E.P c.w = .ok u c.w:=by
   simp only [Instr.loadAt,Sem.run_bind]at hu ⊢
   cases hx:a.tmps.getD x undef with
   | pointer p =>
    cases p with
    | some ad=>rw [hx]at hu;simpa [Instr.sureAddr,asAddr]using hu
    | none=>rw [hx]at hu;simp [Instr.sureAddr,stuck,Result.andThen]at hu
   | _=>rw [hx]at hu;simp [Instr.sureAddr,stuck,Result.andThen]at hu
  rw [List.mapM_cons,pV]
  simp only [Sem.run_bind]at Z4 ⊢
  rw [Z4,Result.andThen_ok,h3,Result.andThen_ok,Sem.run_pure]
theorem TC{D5:FuncId}{fn:Func}{code:Code}{args:List PV}{r:PV}(h1:E.P.funcs[D5]? = some fn)(h2:fn.body=some code) (h3:(fn.name == "runtime.NumGoroutine") = false) (gZ:args.length≤fn.ntmps)
  (h:∀(w0:World) (S0:eG) (a:Act) (w:World) (Q':Exit→Act→World→Prop),Rel w0 S0 fn.ntmps Gs.none (HU args) a w→(∀x σ' a' w',acS E fn.results.toList r x σ'→Rel w0 S0 fn.ntmps Gs.none σ' a' w'→Q' (amF x) a' w')→code.wp E.P Q' a w):aD E.P D5 args r:=by
 refine⟨⟨fn,code,h1,h2,h3⟩,fun w S vs hS iC=>?_⟩
 have DR:=dM.1 iC
 refine calls_of_wp h1 h2 ?_
 have SN:vs.length=args.length:=DR.length.symm
 let c0:Cx:=⟨S,w,fun _ => .slice none 0 0,fun _=>none,fun _=>False⟩
 have hI0:Inv w S c0:=⟨Below.refl _ _,fun _ _ h=>h,fun _ _ h => .inl h,hS,fun _ _ h=>by simp [c0]at h,fun _ _ h=>by simp [c0]at h,fun _ _ _ _ _ h=>by simp [c0]at h⟩
 have NK:Rel w S fn.ntmps Gs.none (HU args) { tmps:=vs.toArray++Array.replicate (fn.ntmps-vs.toArray.size) undef,defers:=[] } w:=by
  refine⟨⟨c0,rfl,rfl,fun _ h=>h.elim,hI0,fun s=>?_,fun p hp=>(Gs.M9 hp).elim⟩,by simp;omega,rfl⟩
  simp only [HU]
  by_cases hs:s<args.length
  ·obtain⟨u,hu,hr⟩:=DR.get (List.getElem?_eq_getElem hs)
   have e1:args.getD s .undef=args[s]:=by simp [List.getD,List.getElem?_eq_getElem hs]
   have e2:(vs.toArray++Array.replicate (fn.ntmps-vs.toArray.size) undef).getD s undef=u:=by
    have:s<vs.length:=by omega
    simp [this]at hu ⊢
    simp [Array.getElem?_append,this,hu]
   rw [e1]
   show aO c0 args[s] ((vs.toArray++Array.replicate (fn.ntmps-vs.toArray.size) undef).getD s undef)
   rw [e2]
   exact aO.kP hr
  ·have e1:args.getD s .undef = .undef:=by simp [List.getD,List.getElem?_eq_none (show args.length≤s by omega)]
   rw [e1]
   simp [aO,aV]
 refine h _ _ _ _ _ NK ?_
 have fin:∀σ' a' w',acR E fn.results.toList r σ'→Rel w S fn.ntmps Gs.none σ' a' w'→a'.defers = [] ∧ ∃v,(results fn a'.tmps).run E.P w' = .ok v w'∧(∃v',Ending.returned v = .returned v'∧Below w.heap.size w w' ∧
   ∃S':eG,(∀b o,S b o→S' b o)∧(∀b o,S' b o→S b o∨(w.heap.size≤b∧b<w'.heap.size))∧dS S' w' r v'):=by
  rintro σ' a' w' hp ⟨⟨c,rfl,hr,gH,hI,hf,_⟩,hn,gG⟩
  refine⟨gG,?_⟩
  unfold acR at hp
  have xA:rV E ⟨σ'.f,c.rows,σ'.clock⟩ fn.results.toList fun vs=>fB c.rows (vs.flatMap eI)∧(vs.map (pz c.rows)).all gX=true∧r=NL (vs.map (pz c.rows)):=by
   rw [hr];exact hp
  have asl:∃vs us,(fB c.rows (vs.flatMap eI)∧(vs.map (pz c.rows)).all gX=true∧r=NL (vs.map (pz c.rows)))∧bO (aO c) vs us ∧
    (results fn a'.tmps).run E.P c.w = .ok (if h:us.toArray.size=1 then us.toArray[0]else .tuple us.toArray) c.w:=by
   have key:∀g:ResultVar→Sem Value,(∀t,g (.tmp t)=pure (a'.tmps.getD t undef))→(∀x t,g (.cell x t)=do loadVar t (←asAddr (a'.tmps.getD x undef))) →
     ∃vs us,(fB c.rows (vs.flatMap eI)∧(vs.map (pz c.rows)).all gX=true∧r=NL (vs.map (pz c.rows)))∧bO (aO c) vs us ∧
      (do let vs ←fn.results.mapM g;pure (if h:vs.size=1 then vs[0]else .tuple vs):Sem Value).run E.P c.w = .ok (if h:us.toArray.size=1 then us.toArray[0]else .tuple us.toArray) c.w:=by
    intro g hg1 pV
    obtain⟨vs,us,g1,g4,g5⟩:=uF hI hf hg1 pV _ _ xA
    refine⟨vs,us,g1,g4,?_⟩
    have:(fn.results.mapM g).run E.P c.w = .ok us.toArray c.w:=by
     rw [Array.mapM_eq_mapM_toList]
     simp [g5]
    rw [Sem.run_bind,this,Result.andThen_ok,Sem.run_pure]
   unfold results
   exact key _ (fun _=>rfl) (fun _ _=>rfl)
  obtain⟨vs,us,⟨g1,g2,g3⟩,g4,kS⟩:=asl
  have NB:=hI.freeze (vs.flatMap eI)
  have wD:bO (dS (SY c (vs.flatMap eI)) c.w) (vs.map (pz c.rows)) us:=by
   refine bO.eC (by simp [g4.length]) fun k p u hp hu=>?_
   simp at hp
   obtain⟨q,hq,rfl⟩:=hp
   obtain⟨u',q1,q2⟩:=g4.get hq
   rw [hu]at q1;cases q1
   exact JX hI g1 q2 (fun id iV=>by simp only [List.mem_flatMap];exact⟨q,List.mem_of_getElem? hq,iV⟩) (List.all_eq_true.1 g2 _ (by simp;exact⟨q,List.mem_of_getElem? hq,rfl⟩))
  refine⟨_,kS,_,rfl,hI.below,SY c (vs.flatMap eI),fun b o h=>NB.ext b o h,fun b o h=>NB.new b o h,?_⟩
  rw [g3]
  have hl:=wD.length
  cases hm:vs.map (pz c.rows)with
  | nil =>
   rw [hm]at wD hl
   have:us = []:=List.eq_nil_of_length_eq_zero (by simpa using hl.symm)
   subst this
   simp only [NL,dS]
   exact⟨[],by simp,by simp [bR]⟩
  | cons p ps =>
   rw [hm]at wD hl
   match us,wD with
   | u::us,wD =>
    cases ps with
    | nil =>
     match us,wD with
     | [],wD=>simpa [NL]using wD.1
    | cons q qs =>
     have h2:¬(u::us).toArray.size=1:=by simp at hl ⊢;intro h;subst h;simp at hl
     rw [dif_neg h2]
     simp only [NL,dS]
     exact⟨_,rfl,dM.2 wD⟩
 intro x σ' a' w' hx mM
 cases x with
 | normal=>exact fin σ' a' w' hx mM
 | ret=>exact fin σ' a' w' hx mM
 | exit id=>exact hx.elim
end
section
variable {P:Program} {t:TypeId}
theorem aF{n:Nat}{v:Value}{z:List PV}(h:(P.info? t).bind (fun i=>i.zero.map fun v=>(i.size,v))=some (n,v))(hz:v.cells.toList.map jS=z)(h1:v.cells.all (·.oneCell')=true)(hl:z.length=n)(hp:0<n):mV P t n z:=by
 refine⟨?_,hl,hp⟩
 cases hi:P.info? t with
 | none=>simp [hi]at h
 | some i =>
  cases pG:i.zero with
  | none=>simp [hi,pG]at h
  | some v0 =>
   simp [hi,pG]at h
   obtain⟨rfl,rfl⟩:=h
   exact⟨i,v0,rfl,pG,rfl,hz,h1⟩
theorem c9{b:Nat}(h:(P.info? t).map (·.bytes)=some b):∃i,P.info? t=some i∧i.bytes=b:=by
 cases hi:P.info? t with
 | none=>simp [hi]at h
 | some i=>exact⟨i,rfl,by simpa [hi]using h⟩
theorem HV{n:Nat}(h:(P.info? t).map (·.size)=some n):∃i,P.info? t=some i∧i.size=n:=by
 cases hi:P.info? t with
 | none=>simp [hi]at h
 | some i=>exact⟨i,rfl,by simpa [hi]using h⟩
theorem acU(h:(P.underlying t).isSome=true):∃d,P.underlying t=some d:=Option.isSome_iff_exists.1 h
def TD(P:Program)(f:Field)(x:Nat × Nat × Bool):Bool:=
 f.offset==x.1&&(P.info? f.type).map (·.size)==some x.2.1&&decide (0<x.2.1)&&zL P f.type==x.2.2&&(P.underlying f.type).isSome
def uG(P:Program):List Field→List (Nat × Nat × Bool)→Bool
 | [],[]=>true
 | f::fs,x::xs=>TD P f x&&uG P fs xs
 | _,_=>false
theorem aag{f:Field}{x:Nat × Nat × Bool}(h:TD P f x=true):oS P f x:=by
 simp only [TD,Bool.and_eq_true,beq_iff_eq,decide_eq_true_eq]at h
 obtain⟨⟨⟨⟨h1,h2⟩,h3⟩,h4⟩,h5⟩:=h
 exact⟨h1,HV h2,h3,h4,acU h5⟩
theorem D6:∀ {fs:List Field} {xs:List (Nat × Nat × Bool)},uG P fs xs=true→bO (oS P) fs xs
 | [],[],_=>trivial
 | f::fs,x::xs,h=>by
  simp only [uG,Bool.and_eq_true]at h
  exact⟨aag h.1,D6 h.2⟩
 | [],_::_,h=>by simp [uG]at h
 | _::_,[],h=>by simp [uG]at h
def W8(P:Program)(t:TypeId)(xs:List (Nat × Nat × Bool)):Bool:=
 match P.underlying t with
 | some (.struct fields)=>uG P fields.toList xs
 | _=>false
theorem bI{xs:List (Nat × Nat × Bool)}(h:W8 P t xs=true):∃fields:Array Field,P.underlying t=some (.struct fields)∧bO (oS P) fields.toList xs:=by
 unfold W8 at h
 split at h
 ·rename_i fields hu;exact⟨fields,hu,D6 h⟩
 ·cases h
end
def W(E:Env)(n:Nat)(tl:Nat→Nat)(c:Code)(Q:PX→PS→Prop)(σ:PS):Prop:=
 fO E n tl c=true → ∀(w0:World) (S0:eG) (G:Gs) (a:Act) (w:World) (Q':Exit→Act→World→Prop),Rel w0 S0 n G σ a w →
  (∀x σ' a' w',Q x σ'→Rel w0 S0 n G σ' a' w'→Q' (amF x) a' w')→c.wp E.P Q' a w
def Gh(n:Nat)(σ σ':PS):Prop:=∀(w0:World) (S0:eG) (G:Gs) (a:Act) (w:World),Rel w0 S0 n G σ a w→Rel w0 S0 n G σ' a w
section
variable {E:Env} {n:Nat} {tl:Nat→Nat} {Q:PX→PS→Prop} {σ:PS}
theorem W.ghost{c:Code}{σ':PS}(h:Gh n σ σ')(hw:W E n tl c Q σ'):W E n tl c Q σ:=fun iI w0 S0 G a w Q' hR hQ=>hw iI w0 S0 G a w Q' (h _ _ _ _ _ hR) hQ
theorem W.mono{c:Code}{Q2:PX→PS→Prop}(hw:W E n tl c Q2 σ)(h:∀x σ,Q2 x σ→Q x σ):W E n tl c Q σ:=fun iI w0 S0 G a w Q' hR hQ=>hw iI w0 S0 G a w Q' hR fun x σ' a' w' hx=>hQ x σ' a' w' (h x σ' hx)
theorem W.skip(h:Q .normal σ):W E n tl .skip Q σ:=fun _ _ _ _ a w _ hR hQ=>wp_skip (hQ .normal σ a w h hR)
theorem W.ret(h:Q .ret σ):W E n tl .ret Q σ:=fun _ _ _ _ a w _ hR hQ=>wp_ret (hQ .ret σ a w h hR)
theorem W.exit{id:Nat}(h:Q (.exit id) σ):W E n tl (.exit id) Q σ:=fun _ _ _ _ a w _ hR hQ=>wp_exit (hQ (.exit id) σ a w h hR)
theorem W.NM{id:Nat}{ops:List Oper}(h:∀K:PS→Prop,(∀σ,Q .normal σ→K σ)→aQ E ops ops K σ):W E n tl (.region id ops.toArray false) Q σ:=by
 intro iI w0 S0 G a w Q' hR hQ
 simp only [fO,s6,Bool.and_eq_true]at iI
 refine wp_region_list (iT (fun σ' a' w' hk mM=>hQ .normal σ' a' w' hk mM) _ σ a w (fun o ho t ht=>?_) (h _ fun _ h=>h) hR)
 have:=Array.all_eq_true_iff_forall_mem.1 iI.1 o (by simpa using ho)
 simpa [ht]using this
theorem W.acV{id:Nat}{ops:List Oper}(h:∀K:PS→Prop,(∀σ,Q .normal σ→K σ)→iE E (tl id) ops K σ):W E n tl (.region id ops.toArray true) Q σ:=by
 intro iI w0 S0 G a w Q' hR hQ
 exact vK (by simpa [fO]using iI) (h _ fun _ h=>h) hR fun σ' a' w' hk mM=>hQ .normal σ' a' w' hk mM
theorem W.seq{x y:Code}(h:W E n tl x (GX (W E n tl y Q) Q) σ):W E n tl (.seq x y) Q σ:=by
 intro iI w0 S0 G a w Q' hR hQ
 simp only [fO,Bool.and_eq_true]at iI
 refine wp_seq (h iI.1 w0 S0 G a w _ hR fun x σ' a' w' hx mM=>?_)
 cases x with
 | normal=>exact hx iI.2 w0 S0 G a' w' _ mM hQ
 | exit id=>exact hQ (.exit id) σ' a' w' hx mM
 | ret=>exact hQ .ret σ' a' w' hx mM
theorem W.TE{id:Nat}{ops:List Oper}{y:Code}(h:∀K:PS→Prop,(∀σ,W E n tl y Q σ→K σ)→aQ E ops ops K σ):W E n tl (.seq (.region id ops.toArray false) y) Q σ:=
 W.seq (W.NM h)
theorem W.acW{id:Nat}{ops:List Oper}{y:Code}(h:∀K:PS→Prop,(∀σ,W E n tl y Q σ→K σ)→iE E (tl id) ops K σ):W E n tl (.seq (.region id ops.toArray true) y) Q σ:=
 W.seq (W.acV h)
theorem W.cond{c:Operand}{t e:Code}(h:∃b,aX σ.f c = .bool b∧(b=true→W E n tl t Q σ)∧(b=false→W E n tl e Q σ)):W E n tl (.cond c t e) Q σ:=by
 intro iI w0 S0 G a w Q' hR hQ
 simp only [fO,Bool.and_eq_true]at iI
 obtain⟨b,hb,h1,h2⟩:=h
 obtain⟨cx,_,_,_,_,hf,_⟩:=hR.ex
 have:=nI hf c
 rw [hb,eD]at this
 refine wp_cond this ?_
 cases b with
 | true=>exact h1 rfl iI.1 w0 S0 G a w Q' hR hQ
 | false=>exact h2 rfl iI.2 w0 S0 G a w Q' hR hQ
theorem W.block{id:Nat}{c:Code}(h:W E n tl c (GY id Q) σ):W E n tl (.block id c) Q σ:=by
 intro iI w0 S0 G a w Q' hR hQ
 refine wp_block (h iI w0 S0 G a w _ hR fun x σ' a' w' hx mM=>?_)
 cases x with
 | normal=>exact hQ .normal σ' a' w' hx mM
 | exit j =>
  simp only [GY]at hx
  simp only [amF,Exit.inBlock]
  split at hx
  ·rename_i hj;rw [if_pos hj];exact hQ .normal σ' a' w' hx mM
  ·rename_i hj;rw [if_neg hj];exact hQ (.exit j) σ' a' w' hx mM
 | ret=>exact hQ .ret σ' a' w' hx mM
theorem W.loop{c:Code}(I:Nat→PS→Prop)(k:Nat)(h0:I k σ)(h1:∀k σ,I k σ→W E n tl c (GX (fun σ'=>∃m,m<k∧I m σ') Q) σ):W E n tl (.loop c) Q σ:=by
 intro iI w0 S0 G a w Q' hR hQ
 refine wp_loop_ghost (fun k a w=>∃σ,I k σ∧Rel w0 S0 n G σ a w) k ⟨σ,h0,hR⟩ ?_
 rintro k a w ⟨σ,hI,hR⟩
 refine h1 k σ hI iI w0 S0 G a w _ hR fun x σ' a' w' hx mM=>?_
 cases x with
 | normal=>obtain⟨m,hm,zE⟩:=hx;exact⟨m,hm,σ',zE,mM⟩
 | exit id=>exact hQ (.exit id) σ' a' w' hx mM
 | ret=>exact hQ .ret σ' a' w' hx mM
end
theorem acX{E:Env}{D5:FuncId}{fn:Func}{code:Code}(tl:Nat→Nat){args:List PV}{r:PV}(h1:E.P.funcs[D5]? = some fn)(h2:fn.body=some code) (h3:(fn.name == "runtime.NumGoroutine") = false)
  (iI:fO E fn.ntmps tl code=true) (gZ:args.length≤fn.ntmps) (h:W E fn.ntmps tl code (acS E fn.results.toList r) (HU args)):aD E.P D5 args r:=
 TC h1 h2 h3 gZ fun w0 S0 a w Q' hR hQ=>h iI w0 S0 Gs.none a w Q' hR hQ
def go(P:Prop):Prop:=P
def bA(R:PV→Prop)(K:PV→Prop):Prop:=∃v,R v∧K v
def i3(p:PV)(want:Bool)(A B:Prop):Prop:=∃t,p = .bool t∧(t=want→A)∧(t=(!want)→B)
def stepG(p:PV)(want:Bool)(A B:Prop):Prop:=(p = .bool want∧A)∨((p = .bool (!want)∨p = .fE [])∧B)
def aK(A B:Prop):Prop:=A∧B
@[congr] theorem aj5{R R' K:PV→Prop}(h:∀v,R v=R' v):bA R K=bA R' K:=by rw [show R=R' from funext h]
@[congr] theorem aj6{p p':PV}{want:Bool}{A B:Prop}(h:p=p'):i3 p want A B=i3 p' want A B:=by rw [h]
@[congr] theorem aj7{p p':PV}{want:Bool}{A B:Prop}(h:p=p'):stepG p want A B=stepG p' want A B:=by rw [h]
@[congr] theorem aj8{A A' B:Prop}(h:A=A'):aK A B=aK A' B:=by rw [h]
@[congr] theorem amG{E:Env}{ops l:List Oper}{K:PS→Prop}{σ σ':PS}(h:σ=σ'):aQ E ops l K σ=aQ E ops l K σ':=by rw [h]
@[congr] theorem amH{E:Env}{ops l:List Oper}{clk k k':Nat}{K:PS→Prop}{σ σ':ST}(hk:k=k')(h:σ=σ'):aT E ops clk k l K σ=aT E ops clk k' l K σ':=by rw [hk,h]
@[congr] theorem amI{md:Region.Mode}{ops:List Oper}{j j' k k':Nat}(hj:j=j')(hk:k=k'):qM md ops j k=qM md ops j' k':=by rw [hj,hk]
@[congr] theorem ap9{md:Region.Mode}{ops:List Oper}{i i' id kJ:Nat}{t t':Nat→Nat→Prop}(hi:i=i')(iV:id=kJ)(ht:t=t'):DZ md ops i id t=DZ md ops i' kJ t':=by rw [hi,iV,ht]
@[congr] theorem amJ{md:Region.Mode}{ops:List Oper}{i i':Nat}{t t':Nat→Nat→Prop}{rows rows':Rows}(hi:i=i')(ht:t=t')(hr:rows=rows'):fC md ops i t rows=fC md ops i' t' rows':=by rw [hi,ht,hr]
@[congr] theorem agJ{E:Env}{tl:Nat}{l:List Oper}{K:PS→Prop}{σ σ':PS}(h:σ=σ'):iE E tl l K σ=iE E tl l K σ':=by rw [h]
@[congr] theorem aws{E:Env}{n:Nat}{tl:Nat→Nat}{c:Code}{Q:PX→PS→Prop}{σ σ':PS}(h:σ=σ'):W E n tl c Q σ=W E n tl c Q σ':=by rw [h]
theorem kU{t:PV}{K:PV→Prop}:bA (fun v=>v=t) K=K t:=by simp [bA]
theorem aah{t:PV}{K:PV→Prop}:bA (fun v=>t=v) K=K t:=by simp [bA]
theorem j7{c:Prop}{R K:PV→Prop}:bA (fun v=>c∧R v) K=aK c (bA R K):=by
 apply propext;simp only [bA,aK]
 constructor
 ·rintro⟨v,⟨h1,h2⟩,h3⟩;exact⟨h1,v,h2,h3⟩
 ·rintro⟨h1,v,h2,h3⟩;exact⟨v,⟨h1,h2⟩,h3⟩
theorem acY{α:Type}{R:α→PV→Prop}{K:PV→Prop}:bA (fun v=>∃x,R x v) K = ∃x,bA (R x) K:=by
 apply propext;simp only [bA]
 constructor
 ·rintro⟨v,⟨x,h2⟩,h3⟩;exact⟨x,v,h2,h3⟩
 ·rintro⟨x,v,h2,h3⟩;exact⟨v,⟨x,h2⟩,h3⟩
theorem TF{B:Prop}:aK True B=B:=by simp [aK]
theorem acZ{A B:Prop}:i3 (.bool true) true A B=A:=by simp [i3]
theorem ac0{A B:Prop}:i3 (.bool true) false A B=B:=by simp [i3]
theorem ac1{A B:Prop}:i3 (.bool false) true A B=B:=by simp [i3]
theorem ac2{A B:Prop}:stepG (.bool true) true A B=A:=by simp [stepG]
theorem ac3{A B:Prop}:stepG (.bool true) false A B=B:=by simp [stepG]
theorem ac4{A B:Prop}:stepG (.bool false) true A B=B:=by simp [stepG]
theorem ac5{A B:Prop}:stepG (.bool false) false A B=A:=by simp [stepG]
theorem ac6{w:Bool}{A B:Prop}:stepG (.fE []) w A B=B:=by simp [stepG]
theorem ac7{A B:Prop}:i3 (.bool false) false A B=A:=by simp [i3]
theorem D7{f:Nat→PV}{d j:Nat}{v:PV}:put f (some d) v j=if j=d then v else f j:=rfl
theorem ac8{f:Nat→PV}{v:PV}:put f none v=f:=rfl
theorem amK{α:Type}{f:Nat→α}{i j:Nat}{x:α}:eQ f i x j=if j=i then x else f j:=rfl
def fa:List (Nat × PV)→Nat→PV
 | [],_ => .undef
 | (i,v)::l,j=>if j=i then v else fa l j
theorem TG{j:Nat}:fa [] j = .undef:=rfl
theorem KB{i j:Nat}{v:PV}{l:List (Nat × PV)}:fa ((i,v)::l) j=if j=i then v else fa l j:=rfl
section
variable {E:Env} {ops os:List Oper} {K:PS→Prop} {f:Nat→PV} {rows:Rows} {clk:Nat} {d:Option Tmp} {ty:TypeId} {pos:String} {af:Array Edge}
theorem aC(n:Nat)(l:List Nat):Gh n ⟨f,rows,clk⟩ ⟨fa (l.map fun i=>(i,f i)),rows,clk⟩:=by
 rintro w0 S0 G a w ⟨⟨c,h1,h2,h3,h4,h5,h6⟩,h7,h8⟩
 refine⟨⟨c,h1,h2,h3,h4,fun s=>?_,h6⟩,h7,h8⟩
 have:fa (l.map fun i=>(i,f i)) s=f s∨fa (l.map fun i=>(i,f i)) s = .undef:=by
  induction l with
  | nil=>exact .inr rfl
  | cons i l ih =>
   simp only [List.map_cons,fa]
   split
   ·rename_i h;rw [h];exact .inl rfl
   ·exact ih
 rcases this with h | h
 ·simp only;rw [h];exact h5 s
 ·simp only;rw [h];simp [aO,aV]
theorem W.live{n:Nat}{tl:Nat→Nat}{c:Code}{Q:PX→PS→Prop}(l:List Nat)(h:W E n tl c Q ⟨fa (l.map fun i=>(i,f i)),rows,clk⟩):W E n tl c Q ⟨f,rows,clk⟩:=W.ghost (aC n l) h
theorem TH{op:Op}{j:Nat}{want:Bool}:aQ E ops (⟨d,op,ty,pos,af,some (j,want)⟩::os) K ⟨f,rows,clk⟩ =
  match (ops[j]?).bind (·.dst)with
  | none=>False
  | some e=>stepG (f e) want (aQ E ops (⟨d,op,ty,pos,af,none⟩::os) K ⟨f,rows,clk⟩) (aQ E ops os K ⟨put f d (.fE []),rows,clk⟩):=by
 simp only [aQ]
 cases hx:(ops[j]?).bind (·.dst)with
 | none=>rfl
 | some e=>rfl
theorem dA{R:PV→Prop}{k:PV→Prop}(h:∀v,R v↔k v):(∃v u,(R v∧u=none)∧K ⟨put f d v,iD rows u,clk⟩)=bA k fun v=>K ⟨put f d v,rows,clk⟩:=by
 apply propext;simp only [bA]
 constructor
 ·rintro⟨v,u,⟨h1,rfl⟩,h2⟩;exact⟨v,(h v).1 h1,h2⟩
 ·rintro⟨v,h1,h2⟩;exact⟨v,none,⟨(h v).2 h1,rfl⟩,h2⟩
theorem aai{x:Operand}:aQ E ops (⟨d, .move x,ty,pos,af,none⟩::os) K ⟨f,rows,clk⟩=aQ E ops os K ⟨put f d (aX f x),rows,clk⟩:=by
 simp only [aQ,fN,ys,yv]
 rw [dA (k:=fun v=>v=aX f x) (fun v=>Iff.rfl),kU]
theorem NN{x:Operand}:aQ E ops (⟨d, .assign x,ty,pos,af,none⟩::os) K ⟨f,rows,clk⟩=aQ E ops os K ⟨put f d (aX f x),rows,clk⟩:=by
 simp only [aQ,fN,ys,yv]
 rw [dA (k:=fun v=>v=aX f x) (fun v=>Iff.rfl),kU]
theorem aaj{c a b:Operand}:aQ E ops (⟨d, .pick c a b,ty,pos,af,none⟩::os) K ⟨f,rows,clk⟩=i3 (aX f c) true (aQ E ops os K ⟨put f d (aX f a),rows,clk⟩) (aQ E ops os K ⟨put f d (aX f b),rows,clk⟩):=by
 simp only [aQ,fN,ys,yv]
 rw [dA (fun v=>Iff.rfl)]
 apply propext;simp only [bA,i3]
 constructor
 ·rintro⟨v,⟨t,h1,rfl⟩,h2⟩
  refine⟨t,h1,fun h=>?_,fun h=>?_⟩
  ·subst h;exact h2
  ·subst h;exact h2
 ·rintro⟨t,h1,h2,h3⟩
  cases t with
  | true=>exact⟨_,⟨true,h1,rfl⟩,h2 rfl⟩
  | false=>exact⟨_,⟨false,h1,rfl⟩,h3 rfl⟩
theorem ac9{op:BinOp}{t t2:TypeId}{x y:Operand}:aQ E ops (⟨d, .binOp op t x y t2,ty,pos,af,none⟩::os) K ⟨f,rows,clk⟩=bA (fun v=>JR E op t (aX f x) (aX f y) v) fun v=>aQ E ops os K ⟨put f d v,rows,clk⟩:=by
 simp only [aQ,fN,ys,yv]
 rw [dA (fun v=>Iff.rfl)]
theorem ahr{op:UnOp}{t:TypeId}{x:Operand}:aQ E ops (⟨d, .unOp op t x,ty,pos,af,none⟩::os) K ⟨f,rows,clk⟩=bA (fun v=>yun op (aX f x) v) fun v=>aQ E ops os K ⟨put f d v,rows,clk⟩:=by
 simp only [aQ,fN,ys,yv]
 rw [dA (k:=fun v=>yun op (aX f x) v) (fun v=>Iff.rfl)]
theorem aak{s t:TypeId}{x:Operand}:aQ E ops (⟨d, .convert s t x,ty,pos,af,none⟩::os) K ⟨f,rows,clk⟩=bA (fun v=>vF (E.ty s) (E.ty t) (aX f x) v) fun v=>aQ E ops os K ⟨put f d v,rows,clk⟩:=by
 simp only [aQ,fN,ys,yv]
 rw [dA (k:=fun v=>vF (E.ty s) (E.ty t) (aX f x) v) (fun v=>Iff.rfl)]
theorem KC{i:Nat}{x:Operand}:aQ E ops (⟨d, .extract x i,ty,pos,af,none⟩::os) K ⟨f,rows,clk⟩=bA (fun v=>SI i (aX f x) v) fun v=>aQ E ops os K ⟨put f d v,rows,clk⟩:=by
 simp only [aQ,fN,ys,yv]
 rw [dA (k:=fun v=>SI i (aX f x) v) (fun v=>Iff.rfl)]
theorem aal{t:TypeId}{x:Operand}:aQ E ops (⟨d, .load t x,ty,pos,af,none⟩::os) K ⟨f,rows,clk⟩=bA (fun v=>vD E t rows (aX f x) v) fun v=>aQ E ops os K ⟨put f d v,rows,clk⟩:=by
 simp only [aQ,fN,ys,yv]
 rw [dA (fun v=>Iff.rfl)]
theorem TJ{t:TypeId}{i:Nat}{x:Operand}:aQ E ops (⟨d, .field t x i,ty,pos,af,none⟩::os) K ⟨f,rows,clk⟩=bA (fun v=>vV E t i (aX f x) v) fun v=>aQ E ops os K ⟨put f d v,rows,clk⟩:=by
 simp only [aQ,fN,ys,yv]
 rw [dA (fun v=>Iff.rfl)]
theorem D8{t:TypeId}{i:Nat}{x:Operand}:aQ E ops (⟨d, .fieldAddr t x i,ty,pos,af,none⟩::os) K ⟨f,rows,clk⟩=bA (fun v=>gD E t rows i (aX f x) v) fun v=>aQ E ops os K ⟨put f d v,rows,clk⟩:=by
 simp only [aQ,fN,ys,yv]
 rw [dA (fun v=>Iff.rfl)]
theorem D9{t:TypeId}{x y:Operand}:aQ E ops (⟨d, .indexAddr t x y,ty,pos,af,none⟩::os) K ⟨f,rows,clk⟩=bA (fun v=>gE E t rows (aX f x) (aX f y) v) fun v=>aQ E ops os K ⟨put f d v,rows,clk⟩:=by
 simp only [aQ,fN,ys,yv]
 rw [dA (fun v=>Iff.rfl)]
theorem TL{t:TypeId}{x:Operand}{lo hi mx:Option Operand}:aQ E ops (⟨d, .slice t x lo hi mx,ty,pos,af,none⟩::os) K ⟨f,rows,clk⟩=bA (fun v=>pE E t rows (aX f x) (lo.map (aX f)) (hi.map (aX f)) (mx.map (aX f)) v) fun v=>aQ E ops os K ⟨put f d v,rows,clk⟩:=by
 simp only [aQ,fN,ys,yv]
 rw [dA (fun v=>Iff.rfl)]
theorem TM{t:TypeId}{parts:Array (Nat × Operand)}:aQ E ops (⟨d, .build t parts,ty,pos,af,none⟩::os) K ⟨f,rows,clk⟩=bA (fun v=>sS (E.ty t) (parts.toList.map fun x=>(x.1,aX f x.2)) v) fun v=>aQ E ops os K ⟨put f d v,rows,clk⟩:=by
 simp only [aQ,fN,ys,yv]
 rw [dA (k:=fun v=>sS (E.ty t) (parts.toList.map fun x=>(x.1,aX f x.2)) v) (fun v=>Iff.rfl)]
theorem TN{t:TypeId}{x y:Operand}:aQ E ops (⟨d, .index t x y,ty,pos,af,none⟩::os) K ⟨f,rows,clk⟩=bA (fun v=>vW (E.ty t) (aX f x) (aX f y) v) fun v=>aQ E ops os K ⟨put f d v,rows,clk⟩:=by
 simp only [aQ,fN,ys,yv]
 rw [dA (k:=fun v=>vW (E.ty t) (aX f x) (aX f y) v) (fun v=>Iff.rfl)]
theorem ada{t:TypeId}{x:Operand}:aQ E ops (⟨d, .call { callee:=.builtin .len,args:=⟨[x]⟩,argTypes:=⟨[t]⟩ },ty,pos,af,none⟩::os) K ⟨f,rows,clk⟩=bA (fun v=>AX (E.ty t) rows (aX f x) v) fun v=>aQ E ops os K ⟨put f d v,rows,clk⟩:=by
 simp only [aQ,fN,ys,yv]
 rw [dA (k:=fun v=>AX (E.ty t) rows (aX f x) v) (fun v=>Iff.rfl)]
theorem GZ{x:Operand}:aQ E ops (⟨d, .nilCheck x,ty,pos,af,none⟩::os) K ⟨f,rows,clk⟩=bA (fun v=>GQ rows (aX f x) v) fun v=>aQ E ops os K ⟨put f d v,rows,clk⟩:=by
 simp only [aQ,fN,ys,yv]
 rw [dA (k:=fun v=>GQ rows (aX f x) v) (fun v=>Iff.rfl)]
theorem adb{ts:Array TypeId}{x y:Operand}:aQ E ops (⟨d, .call { callee:=.builtin .max,args:=⟨[x,y]⟩,argTypes:=ts },ty,pos,af,none⟩::os) K ⟨f,rows,clk⟩=bA (fun v=>SK (aX f x) (aX f y) v) fun v=>aQ E ops os K ⟨put f d v,rows,clk⟩:=by
 simp only [aQ,fN,ys,yv]
 rw [dA (fun v=>Iff.rfl)]
theorem ade{ts:Array TypeId}{x y:Operand}:aQ E ops (⟨d, .call { callee:=.builtin .min,args:=⟨[x,y]⟩,argTypes:=ts },ty,pos,af,none⟩::os) K ⟨f,rows,clk⟩=bA (fun v=>SL (aX f x) (aX f y) v) fun v=>aQ E ops os K ⟨put f d v,rows,clk⟩:=by
 simp only [aQ,fN,ys,yv]
 rw [dA (fun v=>Iff.rfl)]
theorem CD{t:TypeId}{len:Nat}{parts:Array (Nat × Operand)}:aQ E ops (⟨d, .buildSlice t len parts,ty,pos,af,none⟩::os) K ⟨f,rows,clk⟩=bA (fun v=>SZ (E.ty t) rows len (parts.toList.map fun x=>(x.1,aX f x.2)) v) fun v=>aQ E ops os K ⟨put f d v,rows,clk⟩:=by
 simp only [aQ,fN,ys]
 rw [dA (fun v=>Iff.rfl)]
theorem TO{t:TypeId}{p x:Operand}:aQ E ops (⟨none, .store t p x,ty,pos,af,none⟩::os) K ⟨f,rows,clk⟩ = ∃id r,sX E t rows (aX f p) (aX f x) .undef (some (id,r))∧aQ E ops os K ⟨f,eQ rows id (some r),clk⟩:=by
 simp only [aQ,fN,ys]
 apply propext
 constructor
 ·rintro⟨v,u,h,h2⟩
  have h':=h
  obtain⟨_,rfl,h3⟩:=h
  split at h3
  ·obtain⟨_,_,_,_,_,_,_,_,_,_,rfl⟩:=h3
   exact⟨_,_,h',h2⟩
  ·exact h3.elim
 ·rintro⟨id,r,h,h2⟩;exact⟨.undef,some (id,r),h,h2⟩
theorem TP{t:TypeId}:aQ E ops (⟨d, .alloc t,ty,pos,af,none⟩::os) K ⟨f,rows,clk⟩=aK ((E.ty t).known=true) (aQ E ops os K ⟨put f d (.ptr (d.getD 0) clk 0 0),eQ rows (d.getD 0) (some ⟨clk,t,(E.ty t).size,[(E.ty t).zero]⟩),clk+1⟩):=rfl
theorem adf{t:TypeId}{x:Operand}:aQ E ops (⟨d, .box t x,ty,pos,af,none⟩::os) K ⟨f,rows,clk⟩=aK ((E.ty t).known=true) (∃l,cU (aX f x)=some l∧(∀q∈l,jF rows q)∧l.length=(E.ty t).size∧aQ E ops os K ⟨put f d (.ptr (d.getD 0) clk 0 0),eQ rows (d.getD 0) (some ⟨clk,t,(E.ty t).size,[l]⟩),clk+1⟩):=rfl
def s7(t:TI)(x y:PV)(K:TypeId→Nat→List PV→Int→Prop):Prop:=
 match t,x,y with
 | .slice e n b z, .int _ x, .int _ y=>aK (0≤x∧x≤y∧y.toNat≤room∧y.toNat*b≤room) (K e n z x)
 | _,_,_=>False
theorem EA{t:TypeId}{l c:Operand}:aQ E ops (⟨d, .makeSlice t l c,ty,pos,af,none⟩::os) K ⟨f,rows,clk⟩=s7 (E.ty t) (aX f l) (aX f c) fun e n z x=>aQ E ops os K ⟨put f d (.own (d.getD 0) clk 0 x.toNat),eQ rows (d.getD 0) (some ⟨clk,e,n,List.replicate x.toNat z⟩),clk+1⟩:=by
 simp only [aQ,fN,s7,J0]
 generalize E.ty t=T
 generalize aX f l=A
 generalize aX f c=B
 cases T with
 | slice e n b z =>
  cases A with
  | int k x =>
   cases B with
   | int k2 y=>simp only [aK,and_assoc]
   | _=>rfl
  | _=>rfl
 | _=>rfl
def aam(t:TI)(rows:Rows)(x y:PV)(clk d:Nat)(K:PV→Rows→Nat→Prop):Prop:=
 match t with
 | .slice e n b _ =>
  ∃l,xJ rows y l∧(∀e∈l,e.length=n) ∧
  match x with
  | .nil=>aK (l.length≤room∧l.length*b≤room) (K (.own d clk 0 l.length) (eQ rows d (some ⟨clk,e,n,l⟩)) (clk+1))
  | .own id ver off len=>∃r,rows id=some r∧r.ver=ver∧off=0∧len=r.els.length∧r.e=e∧r.size=n∧aK (len+l.length≤room∧(len+l.length)*b≤room) (K (.own id clk 0 (len+l.length)) (eQ rows id (some ⟨clk,e,n,r.els++l⟩)) (clk+1))
  | .kO l0=>(∀e∈l0,e.length=n)∧(∀e∈l,∀p∈e,dB p=true)∧aK (l0.length+l.length≤room∧(l0.length+l.length)*b≤room) (K (.sl (l0++l)) rows clk)
  | _=>False
 | _=>False
theorem NO{t t2:TypeId}{x y:Operand}:aQ E ops (⟨d, .call { callee:=.builtin .append,args:=⟨[x,y]⟩,argTypes:=⟨[t,t2]⟩ },ty,pos,af,none⟩::os) K ⟨f,rows,clk⟩ =
  aK (t2=t∨slT (E.ty t2)=true) (aam (E.ty t) rows (aX f x) (aX f y) clk (d.getD 0) fun v rows clk=>aQ E ops os K ⟨put f d v,rows,clk⟩):=by
 simp only [aQ,fN,J5,aam,J0,aK,PS.put]
 congr 1
 generalize E.ty t=T
 generalize aX f x=A
 cases T with
 | slice e n b z =>
  simp only
  congr 1
  funext l
  congr 2
  cases A with
  | nil=>simp only [and_assoc]
  | own id ver off len=>simp only [and_assoc]
  | kO l0=>simp only [and_assoc]
  | _=>rfl
 | _=>rfl
end
def xN(P:Program)(g:FuncId)(args:List PV)(K:PV→Prop):Prop:=∃v,aD P g args v∧K v
@[congr] theorem aj9{P:Program}{g:FuncId}{args NP:List PV}{K:PV→Prop}(h:args=NP):xN P g args K=xN P g NP K:=by rw [h]
def s8(E:Env)(p:PV)(iJ:List PV)(rows:Rows)(clk:Nat)(K:PV→Rows→Nat→Prop):Prop:=
 match p with
 | .fn g cV=>if E.writes g=true then cV = []∧A5 E.P g iJ rows clk K else aK ((iJ.map (pz rows)).all gX=true∧fB rows (iJ.flatMap eI)) (xN E.P g (iJ.map (pz rows)++cV) fun v=>K v (HQ rows (iJ.flatMap eI)) clk)
 | _=>False
@[congr] theorem aht{E:Env}{p p':PV}{iJ BA:List PV}{rows rows':Rows}{clk lZ:Nat}{K:PV→Rows→Nat→Prop}(h1:p=p')(h2:iJ=BA)(h3:rows=rows')(h4:clk=lZ):s8 E p iJ rows clk K=s8 E p' BA rows' lZ K:=by rw [h1,h2,h3,h4]
@[congr] theorem aka{P:Program}{g:FuncId}{iJ BA:List PV}{rows:Rows}{clk:Nat}{K:PV→Rows→Nat→Prop}(h:iJ=BA):A5 P g iJ rows clk K=A5 P g BA rows clk K:=by rw [h]
@[congr] theorem akb{t t':TI}{x x' y y':PV}{K:TypeId→Nat→List PV→Int→Prop}(h1:t=t')(h2:x=x')(h3:y=y'):s7 t x y K=s7 t' x' y' K:=by rw [h1,h2,h3]
@[congr] theorem amL{t t':TI}{rows rows':Rows}{x x' y y':PV}{clk lZ d d':Nat}{K:PV→Rows→Nat→Prop}(h1:t=t')(h2:rows=rows')(h3:x=x')(h4:y=y')(h5:clk=lZ)(h6:d=d') :
  aam t rows x y clk d K=aam t' rows' x' y' lZ d' K:=by rw [h1,h2,h3,h4,h5,h6]
section
variable {E:Env} {ops os:List Oper} {K:PS→Prop} {f:Nat→PV} {rows:Rows} {clk:Nat} {d:Option Tmp} {ty:TypeId} {pos:String} {af:Array Edge}
theorem aan{fo:Operand}{args:Array Operand}{ts:Array TypeId}:aQ E ops (⟨d, .call { callee:=.value fo,args:=args,argTypes:=ts },ty,pos,af,none⟩::os) K ⟨f,rows,clk⟩ =
  s8 E (aX f fo) (args.toList.map (aX f)) rows clk fun v rows clk=>aQ E ops os K ⟨put f d v,rows,clk⟩:=by
 simp only [aQ,fN,A6,s8,S3,aK,xN]
 generalize aX f fo=A
 have e1:(args.toList.map fun x=>pz rows (aX f x))=(args.toList.map (aX f)).map (pz rows):=by rw [List.map_map];rfl
 have e2:(args.toList.flatMap fun x=>eI (aX f x))=(args.toList.map (aX f)).flatMap eI:=by rw [List.flatMap_map]
 rw [e1,e2]
 cases A with
 | fn g cV =>
  have hm:amk E (.fn g cV)=E.writes g:=rfl
  by_cases hw:E.writes g=true
  ·rw [hm,if_pos hw]
   cases cV with
   | nil=>simp [hw]
   | cons x l=>simp [hw]
  rw [hm,if_neg hw]
  simp only [if_neg hw]
  apply propext
  constructor
  ·rintro⟨v,⟨h1,h2⟩,h3,h4⟩;exact⟨⟨h1,h3⟩,v,h2,h4⟩
  ·rintro⟨⟨h1,h3⟩,v,h2,h4⟩;exact⟨v,⟨h1,h2⟩,h3,h4⟩
 | _=>simp [amk]
theorem G0{g:FuncId}{cV:Array Operand}:aQ E ops (⟨d, .makeFunc (.func g) ⟨[]⟩ cV,ty,pos,af,none⟩::os) K ⟨f,rows,clk⟩ =
  aK (((cV.toList.map (aX f)).map (pz rows)).all gX=true∧fB rows ((cV.toList.map (aX f)).flatMap eI))
   (aQ E ops os K ⟨put f d (.fn g ((cV.toList.map (aX f)).map (pz rows))),HQ rows ((cV.toList.map (aX f)).flatMap eI),clk⟩):=by
 simp only [aQ,fN,aK,and_assoc]
 have e1:(cV.toList.map fun x=>pz rows (aX f x))=(cV.toList.map (aX f)).map (pz rows):=by rw [List.map_map];rfl
 have e2:(cV.toList.flatMap fun x=>eI (aX f x))=(cV.toList.map (aX f)).flatMap eI:=by rw [List.flatMap_map]
 rw [e1,e2]
def mN(k:Nat)(l:List Nat)(t:Nat→Nat→Prop):Nat→Nat→Prop:=fun k' id=>(true=true∧k'=k∧id∈l)∨t k' id
def qO(k id:Nat)(w:Nat→Nat→Prop):Nat→Nat→Prop:=fun k' kJ=>(k'=k∧kJ=id)∨w k' kJ
variable {k:Nat} {cI:Nat→Nat→Prop} {aU:Nat→Nat→Prop}
theorem TQ{op:Op}{j:Nat}{want:Bool}:aT E ops clk k (⟨d,op,ty,pos,af,some (j,want)⟩::os) K ⟨f,rows,cI,aU⟩ =
  match (ops[j]?).bind (·.dst)with
  | none=>False
  | some e=>stepG (f e) want (aT E ops clk k (⟨d,op,ty,pos,af,none⟩::os) K ⟨f,rows,cI,aU⟩) (aT E ops clk (k+1) os K ⟨put f d (.fE []),rows,cI,aU⟩):=by
 have e3:app k ⟨d,op,ty,pos,af,some (j,want)⟩ false (.fE []) none ⟨f,rows,cI,aU⟩=⟨put f d (.fE []),rows,cI,aU⟩:=by simp [app,iD,wlU]
 simp only [aT,e3]
 cases hx:(ops[j]?).bind (·.dst)with
 | none=>rfl
 | some e=>rfl
theorem dO{o:Oper}{R:PV→Prop}{kk:PV→Prop}{st:ST}(h:∀v,R v↔kk v):(∃v u,(R v∧u=none)∧okU .any ops k u cI∧aT E ops clk (k+1) os K (app k o true v u st))=bA kk fun v=>aT E ops clk (k+1) os K (app k o true v none st):=by
 apply propext;simp only [bA]
 constructor
 ·rintro⟨v,u,⟨h1,rfl⟩,_,h2⟩;exact⟨v,(h v).1 h1,h2⟩
 ·rintro⟨v,h1,h2⟩;exact⟨v,none,⟨(h v).2 h1,rfl⟩,trivial,h2⟩
theorem fX{op:Op}{v:PV}(h:i9 op (aX f) = []):app k ⟨d,op,ty,pos,af,none⟩ true v none ⟨f,rows,cI,aU⟩=⟨put f d v,rows,cI,aU⟩:=by simp [app,iD,wlU,h]
theorem uH{op:Op}{v:PV}{l:List Nat}(h:i9 op (aX f)=l):app k ⟨d,op,ty,pos,af,none⟩ true v none ⟨f,rows,cI,aU⟩=⟨put f d v,rows,mN k l cI,aU⟩:=by subst h;rfl
theorem aao{x:Operand}:aT E ops clk k (⟨d, .move x,ty,pos,af,none⟩::os) K ⟨f,rows,cI,aU⟩=aT E ops clk (k+1) os K ⟨put f d (aX f x),rows,cI,aU⟩:=by
 simp only [aT,yn,jA,ys,yv]
 rw [dO (kk:=fun v=>v=aX f x) (fun v=>Iff.rfl),kU,fX rfl]
theorem NQ{x:Operand}:aT E ops clk k (⟨d, .assign x,ty,pos,af,none⟩::os) K ⟨f,rows,cI,aU⟩=aT E ops clk (k+1) os K ⟨put f d (aX f x),rows,cI,aU⟩:=by
 simp only [aT,yn,jA,ys,yv]
 rw [dO (kk:=fun v=>v=aX f x) (fun v=>Iff.rfl),kU,fX rfl]
theorem aap{c a b:Operand}:aT E ops clk k (⟨d, .pick c a b,ty,pos,af,none⟩::os) K ⟨f,rows,cI,aU⟩=i3 (aX f c) true (aT E ops clk (k+1) os K ⟨put f d (aX f a),rows,cI,aU⟩) (aT E ops clk (k+1) os K ⟨put f d (aX f b),rows,cI,aU⟩):=by
 simp only [aT,yn,jA,ys,yv]
 rw [dO (fun v=>Iff.rfl)]
 apply propext;simp only [bA,i3,fX (op:=.pick c a b) rfl]
 constructor
 ·rintro⟨v,⟨t,h1,rfl⟩,h2⟩
  refine⟨t,h1,fun h=>?_,fun h=>?_⟩
  ·subst h;exact h2
  ·subst h;exact h2
 ·rintro⟨t,h1,h2,h3⟩
  cases t with
  | true=>exact⟨_,⟨true,h1,rfl⟩,h2 rfl⟩
  | false=>exact⟨_,⟨false,h1,rfl⟩,h3 rfl⟩
theorem adg{op:BinOp}{t t2:TypeId}{x y:Operand}:aT E ops clk k (⟨d, .binOp op t x y t2,ty,pos,af,none⟩::os) K ⟨f,rows,cI,aU⟩=bA (fun v=>JR E op t (aX f x) (aX f y) v) fun v=>aT E ops clk (k+1) os K ⟨put f d v,rows,cI,aU⟩:=by
 simp only [aT,yn,jA,ys,yv];rw [dO (fun v=>Iff.rfl)];simp only [fX (op:=.binOp op t x y t2) rfl]
theorem ahu{op:UnOp}{t:TypeId}{x:Operand}:aT E ops clk k (⟨d, .unOp op t x,ty,pos,af,none⟩::os) K ⟨f,rows,cI,aU⟩=bA (fun v=>yun op (aX f x) v) fun v=>aT E ops clk (k+1) os K ⟨put f d v,rows,cI,aU⟩:=by
 simp only [aT,yn,jA,ys,yv];rw [dO (fun v=>Iff.rfl)];simp only [fX (op:=.unOp op t x) rfl]
theorem aaq{s t:TypeId}{x:Operand}:aT E ops clk k (⟨d, .convert s t x,ty,pos,af,none⟩::os) K ⟨f,rows,cI,aU⟩=bA (fun v=>vF (E.ty s) (E.ty t) (aX f x) v) fun v=>aT E ops clk (k+1) os K ⟨put f d v,rows,cI,aU⟩:=by
 simp only [aT,yn,jA,ys,yv];rw [dO (fun v=>Iff.rfl)];simp only [fX (op:=.convert s t x) rfl]
theorem KE{i:Nat}{x:Operand}:aT E ops clk k (⟨d, .extract x i,ty,pos,af,none⟩::os) K ⟨f,rows,cI,aU⟩=bA (fun v=>SI i (aX f x) v) fun v=>aT E ops clk (k+1) os K ⟨put f d v,rows,cI,aU⟩:=by
 simp only [aT,yn,jA,ys,yv];rw [dO (fun v=>Iff.rfl)];simp only [fX (op:=.extract x i) rfl]
theorem aar{t:TypeId}{x:Operand}:aT E ops clk k (⟨d, .load t x,ty,pos,af,none⟩::os) K ⟨f,rows,cI,aU⟩=bA (fun v=>vD E t (fC .any ops k aU rows) (aX f x) v) fun v=>aT E ops clk (k+1) os K ⟨put f d v,rows,mN k (bM (aX f x)) cI,aU⟩:=by
 simp only [aT,yn,jA,ys,yv];rw [dO (fun v=>Iff.rfl)];simp only [uH (op:=.load t x) rfl];rfl
theorem TR{t:TypeId}{i:Nat}{x:Operand}:aT E ops clk k (⟨d, .field t x i,ty,pos,af,none⟩::os) K ⟨f,rows,cI,aU⟩=bA (fun v=>vV E t i (aX f x) v) fun v=>aT E ops clk (k+1) os K ⟨put f d v,rows,cI,aU⟩:=by
 simp only [aT,yn,jA,ys,yv];rw [dO (fun v=>Iff.rfl)];simp only [fX (op:=.field t x i) rfl]
theorem EC{t:TypeId}{i:Nat}{x:Operand}:aT E ops clk k (⟨d, .fieldAddr t x i,ty,pos,af,none⟩::os) K ⟨f,rows,cI,aU⟩=bA (fun v=>gD E t (fC .any ops k aU rows) i (aX f x) v) fun v=>aT E ops clk (k+1) os K ⟨put f d v,rows,mN k (bM (aX f x)) cI,aU⟩:=by
 simp only [aT,yn,jA,ys,yv];rw [dO (fun v=>Iff.rfl)];simp only [uH (op:=.fieldAddr t x i) rfl];rfl
theorem ED{t:TypeId}{x y:Operand}:aT E ops clk k (⟨d, .indexAddr t x y,ty,pos,af,none⟩::os) K ⟨f,rows,cI,aU⟩=bA (fun v=>gE E t (fC .any ops k aU rows) (aX f x) (aX f y) v) fun v=>aT E ops clk (k+1) os K ⟨put f d v,rows,mN k (bM (aX f x)) cI,aU⟩:=by
 simp only [aT,yn,jA,ys,yv];rw [dO (fun v=>Iff.rfl)];simp only [uH (op:=.indexAddr t x y) rfl];rfl
theorem TS{t:TypeId}{x:Operand}{lo hi mx:Option Operand}:aT E ops clk k (⟨d, .slice t x lo hi mx,ty,pos,af,none⟩::os) K ⟨f,rows,cI,aU⟩=bA (fun v=>pE E t (fC .any ops k aU rows) (aX f x) (lo.map (aX f)) (hi.map (aX f)) (mx.map (aX f)) v) fun v=>aT E ops clk (k+1) os K ⟨put f d v,rows,mN k (bM (aX f x)) cI,aU⟩:=by
 simp only [aT,yn,jA,ys,yv];rw [dO (fun v=>Iff.rfl)];simp only [uH (op:=.slice t x lo hi mx) rfl];rfl
theorem TT{t:TypeId}{parts:Array (Nat × Operand)}:aT E ops clk k (⟨d, .build t parts,ty,pos,af,none⟩::os) K ⟨f,rows,cI,aU⟩=bA (fun v=>sS (E.ty t) (parts.toList.map fun x=>(x.1,aX f x.2)) v) fun v=>aT E ops clk (k+1) os K ⟨put f d v,rows,cI,aU⟩:=by
 simp only [aT,yn,jA,ys,yv];rw [dO (fun v=>Iff.rfl)];simp only [fX (op:=.build t parts) rfl]
theorem adh{t:TypeId}{x:Operand}:aT E ops clk k (⟨d, .call { callee:=.builtin .len,args:=⟨[x]⟩,argTypes:=⟨[t]⟩ },ty,pos,af,none⟩::os) K ⟨f,rows,cI,aU⟩=bA (fun v=>AX (E.ty t) (fC .any ops k aU rows) (aX f x) v) fun v=>aT E ops clk (k+1) os K ⟨put f d v,rows,mN k (bM (aX f x)) cI,aU⟩:=by
 simp only [aT,yn,jA,ys,yv];rw [dO (fun v=>Iff.rfl)];simp only [uH (op:=.call { callee:=.builtin .len,args:=⟨[x]⟩,argTypes:=⟨[t]⟩ }) rfl];rfl
theorem G1{x:Operand}:aT E ops clk k (⟨d, .nilCheck x,ty,pos,af,none⟩::os) K ⟨f,rows,cI,aU⟩=bA (fun v=>GQ (fC .any ops k aU rows) (aX f x) v) fun v=>aT E ops clk (k+1) os K ⟨put f d v,rows,mN k (bM (aX f x)) cI,aU⟩:=by
 simp only [aT,yn,jA,ys,yv];rw [dO (fun v=>Iff.rfl)];simp only [uH (op:=.nilCheck x) rfl];rfl
theorem adi{ts:Array TypeId}{x y:Operand}:aT E ops clk k (⟨d, .call { callee:=.builtin .max,args:=⟨[x,y]⟩,argTypes:=ts },ty,pos,af,none⟩::os) K ⟨f,rows,cI,aU⟩=bA (fun v=>SK (aX f x) (aX f y) v) fun v=>aT E ops clk (k+1) os K ⟨put f d v,rows,cI,aU⟩:=by
 simp only [aT,yn,jA,ys,yv];rw [dO (fun v=>Iff.rfl)];simp only [fX (op:=.call { callee:=.builtin .max,args:=⟨[x,y]⟩,argTypes:=ts }) rfl]
theorem adj{ts:Array TypeId}{x y:Operand}:aT E ops clk k (⟨d, .call { callee:=.builtin .min,args:=⟨[x,y]⟩,argTypes:=ts },ty,pos,af,none⟩::os) K ⟨f,rows,cI,aU⟩=bA (fun v=>SL (aX f x) (aX f y) v) fun v=>aT E ops clk (k+1) os K ⟨put f d v,rows,cI,aU⟩:=by
 simp only [aT,yn,jA,ys,yv];rw [dO (fun v=>Iff.rfl)];simp only [fX (op:=.call { callee:=.builtin .min,args:=⟨[x,y]⟩,argTypes:=ts }) rfl]
theorem G2{g:FuncId}{cV:Array Operand}:aT E ops clk k (⟨d, .makeFunc (.func g) ⟨[]⟩ cV,ty,pos,af,none⟩::os) K ⟨f,rows,cI,aU⟩=aK ((cV.toList.map fun x=>aX f x).all gX=true) (aT E ops clk (k+1) os K ⟨put f d (.fn g (cV.toList.map fun x=>aX f x)),rows,cI,aU⟩):=by
 simp only [aT,yn,jA,ys,yv]
 rw [dO (fun v=>Iff.rfl),j7,kU];simp only [fX (op:=.makeFunc (.func g) ⟨[]⟩ cV) rfl]
theorem CE{t:TypeId}{len:Nat}{parts:Array (Nat × Operand)}:aT E ops clk k (⟨d, .buildSlice t len parts,ty,pos,af,none⟩::os) K ⟨f,rows,cI,aU⟩=bA (fun v=>SZ (E.ty t) (fC .any ops k aU rows) len (parts.toList.map fun x=>(x.1,aX f x.2)) v) fun v=>aT E ops clk (k+1) os K ⟨put f d v,rows,cI,aU⟩:=by
 simp only [aT,yn,jA,ys];rw [dO (fun v=>Iff.rfl)];simp only [fX (op:=.buildSlice t len parts) rfl]
theorem TU{t:TypeId}{p x:Operand}:aT E ops clk k (⟨none, .store t p x,ty,pos,af,none⟩::os) K ⟨f,rows,cI,aU⟩ =
  ∃id r,sX E t (fC .any ops k aU rows) (aX f p) (aX f x) .undef (some (id,r))∧DZ .any ops k id cI∧aT E ops clk (k+1) os K ⟨f,eQ rows id (some r),mN k (bM (aX f p)++((cU (aX f x)).getD []).flatMap bM) cI,qO k id aU⟩:=by
 simp only [aT,yn,jA,ys]
 apply propext
 constructor
 ·rintro⟨v,u,h,h1,h2⟩
  have h':=h
  obtain⟨_,rfl,h3⟩:=h
  split at h3
  ·obtain⟨_,_,_,_,_,_,_,_,_,_,rfl⟩:=h3
   exact⟨_,_,h',h1,h2⟩
  ·exact h3.elim
 ·rintro⟨id,r,h,h1,h2⟩;exact⟨.undef,some (id,r),h,h1,h2⟩
theorem adk{o:Oper}{R:PV→Option (Nat × Row)→Prop}{C:Prop}{v0:PV}{e:Nat}{r0:Row}{st:ST}{lZ:Nat}(h:∀v u,R v u↔(C∧v=v0∧u=some (e,r0))):(∃v u,R v u∧okU .any ops k u cI∧aT E ops lZ (k+1) os K (app k o true v u st))=aK (C∧DZ .any ops k e cI) (aT E ops lZ (k+1) os K (app k o true v0 (some (e,r0)) st)):=by
 apply propext;simp only [aK]
 constructor
 ·rintro⟨v,u,h1,h2,h3⟩
  obtain⟨hc,rfl,rfl⟩:=(h v u).1 h1
  exact⟨⟨hc,h2⟩,h3⟩
 ·rintro⟨⟨h1,h2⟩,h3⟩;exact⟨v0,_,(h _ _).2 ⟨h1,rfl,rfl⟩,h2,h3⟩
theorem xO{op:Op}{v:PV}{e:Nat}{r0:Row}(h:i9 op (aX f) = []):app k ⟨d,op,ty,pos,af,none⟩ true v (some (e,r0)) ⟨f,rows,cI,aU⟩=⟨put f d v,eQ rows e (some r0),cI,qO k e aU⟩:=by simp only [app,iD,wlU,h,List.not_mem_nil,and_false,false_or];rfl
theorem TV{t:TypeId}:aT E ops clk k (⟨d, .alloc t,ty,pos,af,none⟩::os) K ⟨f,rows,cI,aU⟩=aK ((E.ty t).known=true∧DZ .any ops k (d.getD 0) cI) (aT E ops (clk+1) (k+1) os K ⟨put f d (.ptr (d.getD 0) clk 0 0),eQ rows (d.getD 0) (some ⟨clk,t,(E.ty t).size,[(E.ty t).zero]⟩),cI,qO k (d.getD 0) aU⟩):=by
 simp only [aT,yn,jA]
 rw [adk (C:=(E.ty t).known=true) (v0:=.ptr (d.getD 0) clk 0 0) (e:=d.getD 0) (r0:=⟨clk,t,(E.ty t).size,[(E.ty t).zero]⟩) (fun v u=>by simp),xO (op:=.alloc t) rfl]
theorem adl{t:TypeId}{x:Operand}:aT E ops clk k (⟨d, .box t x,ty,pos,af,none⟩::os) K ⟨f,rows,cI,aU⟩=aK ((E.ty t).known=true) (∃l,cU (aX f x)=some l∧((∀q∈l,jF (fun _=>none) q)∧l.length=(E.ty t).size∧DZ .any ops k (d.getD 0) cI) ∧
  aT E ops (clk+1) (k+1) os K ⟨put f d (.ptr (d.getD 0) clk 0 0),eQ rows (d.getD 0) (some ⟨clk,t,(E.ty t).size,[l]⟩),cI,qO k (d.getD 0) aU⟩):=by
 simp only [aT,yn,jA]
 apply propext
 constructor
 ·rintro⟨v,u,⟨h1,l,h2,h3,h4,rfl,rfl⟩,h5,h6⟩
  rw [xO (op:=.box t x) rfl]at h6
  exact⟨h1,l,h2,⟨h3,h4,h5⟩,h6⟩
 ·rintro⟨h1,l,h2,⟨h3,h4,h5⟩,h6⟩
  refine⟨_,_,⟨h1,l,h2,h3,h4,rfl,rfl⟩,h5,?_⟩
  rw [xO (op:=.box t x) rfl];exact h6
theorem EE{t:TypeId}{l c:Operand}:aT E ops clk k (⟨d, .makeSlice t l c,ty,pos,af,none⟩::os) K ⟨f,rows,cI,aU⟩=s7 (E.ty t) (aX f l) (aX f c) fun e n z x=>aK (DZ .any ops k (d.getD 0) cI) (aT E ops (clk+1) (k+1) os K ⟨put f d (.own (d.getD 0) clk 0 x.toNat),eQ rows (d.getD 0) (some ⟨clk,e,n,List.replicate x.toNat z⟩),cI,qO k (d.getD 0) aU⟩):=by
 have hap:∀ {v e' r0},app k ⟨d, .makeSlice t l c,ty,pos,af,none⟩ true v (some (e',r0)) ⟨f,rows,cI,aU⟩=⟨put f d v,eQ rows e' (some r0),cI,qO k e' aU⟩:=xO rfl
 simp only [aT,yn,jA,s7]
 generalize E.ty t=T
 generalize aX f l=A
 generalize aX f c=B
 cases T with
 | slice e n b z =>
  cases A with
  | int k1 x =>
   cases B with
   | int k2 y =>
    apply propext
    simp only [aK]
    constructor
    ·rintro⟨v,u,⟨h1,h2,h3,h4,rfl,rfl⟩,h5,h6⟩
     rw [hap]at h6
     exact⟨⟨h1,h2,h3,h4⟩,h5,h6⟩
    ·rintro⟨⟨h1,h2,h3,h4⟩,h5,h6⟩
     refine⟨_,_,⟨h1,h2,h3,h4,rfl,rfl⟩,h5,?_⟩
     rw [hap];exact h6
   | _=>simp
  | _=>simp
 | _=>simp
theorem NR{t t2:TypeId}{x y:Operand}:aT E ops clk k (⟨d, .call { callee:=.builtin .append,args:=⟨[x,y]⟩,argTypes:=⟨[t,t2]⟩ },ty,pos,af,none⟩::os) K ⟨f,rows,cI,aU⟩ =
  aK (t2=t∨slT (E.ty t2)=true) (∃v id r,s5 (E.ty t) (fC .any ops k aU rows) (aX f x) (aX f y) clk (d.getD 0) v (some (id,r))∧DZ .any ops k id cI ∧
   aT E ops (clk+1) (k+1) os K ⟨put f d v,eQ rows id (some r),mN k (bM (aX f x)++bM (aX f y)) cI,qO k id aU⟩):=by
 have hap:∀ {v e' r0},app k ⟨d, .call { callee:=.builtin .append,args:=⟨[x,y]⟩,argTypes:=⟨[t,t2]⟩ },ty,pos,af,none⟩ true v (some (e',r0)) ⟨f,rows,cI,aU⟩=⟨put f d v,eQ rows e' (some r0),mN k (bM (aX f x)++bM (aX f y)) cI,qO k e' aU⟩:=rfl
 simp only [aT,yn,jA,aK]
 apply propext
 constructor
 ·rintro⟨v,u,⟨h1,h2⟩,h3,h4⟩
  refine⟨h1,?_⟩
  have h2':=h2
  unfold s5 at h2'
  split at h2'
  ·obtain⟨l,g1,g2,g3⟩:=h2'
   split at g3
   ·obtain⟨_,_,rfl,rfl⟩:=g3
    exact⟨_,_,_,h2,h3,h4⟩
   ·obtain⟨r,_,_,_,_,_,_,_,_,rfl,rfl⟩:=g3
    exact⟨_,_,_,h2,h3,h4⟩
   ·exact g3.elim
  ·exact h2'.elim
 ·rintro⟨h1,v,id,r,h2,h3,h4⟩
  exact⟨v,_,⟨h1,h2⟩,h3,h4⟩
def qP(E:Env)(p:PV)(iJ:List PV)(rows:Rows)(K:PV→Prop):Prop:=
 match p with
 | .fn g cV=>aK ((iJ.map (pz rows)).all gX=true∧iJ.flatMap eI = []) (xN E.P g (iJ.map (pz rows)++cV) K)
 | _=>False
@[congr] theorem ahw{E:Env}{p p':PV}{iJ BA:List PV}{rows rows':Rows}{K:PV→Prop}(h1:p=p')(h2:iJ=BA)(h3:rows=rows'):qP E p iJ rows K=qP E p' BA rows' K:=by rw [h1,h2,h3]
theorem HW{fo:Operand}{args:Array Operand}{ts:Array TypeId}(hfo:eA E (.call { callee:=.value fo,args:=args,argTypes:=ts })=false):aT E ops clk k (⟨d, .call { callee:=.value fo,args:=args,argTypes:=ts },ty,pos,af,none⟩::os) K ⟨f,rows,cI,aU⟩ =
  qP E (aX f fo) (args.toList.map (aX f)) (fC .any ops k aU rows) fun v=>aT E ops clk (k+1) os K ⟨put f d v,rows,cI,aU⟩:=by
 simp only [aT]
 rw [D0 hfo]
 simp only [DY hfo,ys,A6,qP,aK,xN]
 generalize hA:aX f fo=A
 have e1:(args.toList.map fun x=>pz (fC .any ops k aU rows) (aX f x))=(args.toList.map (aX f)).map (pz (fC .any ops k aU rows)):=by rw [List.map_map];rfl
 have e2:(args.toList.flatMap fun x=>eI (aX f x))=(args.toList.map (aX f)).flatMap eI:=by rw [List.flatMap_map]
 rw [e1,e2]
 have e3:∀v,app k ⟨d, .call { callee:=.value fo,args:=args,argTypes:=ts },ty,pos,af,none⟩ true v none ⟨f,rows,cI,aU⟩=⟨put f d v,rows,cI,aU⟩:=fun v=>fX rfl
 cases A with
 | fn g cV =>
  apply propext
  constructor
  ·rintro⟨v,u,⟨rfl,⟨h1,h2⟩,h3⟩,_,h4⟩;rw [e3]at h4;exact⟨⟨h1,h3⟩,v,h2,h4⟩
  ·rintro⟨⟨h1,h3⟩,v,h2,h4⟩;exact⟨v,none,⟨rfl,⟨h1,h2⟩,h3⟩,trivial,by rw [e3];exact h4⟩
 | _=>simp
theorem TW{g:FuncId}{args:Array Operand}{ts:Array TypeId}(hw:E.writes g=true):aT E ops clk k (⟨d, .call { callee:=.value (.func g),args:=args,argTypes:=ts },ty,pos,af,none⟩::os) K ⟨f,rows,cI,aU⟩ =
  ∃e n els,((args.toList.map (aX f)).all gX=true∧iX E.P g (args.toList.map (aX f)) e n els∧DZ .any ops k (d.getD 0) cI)∧aT E ops (clk+1) (k+1) os K ⟨put f d (.own (d.getD 0) clk 0 els.length),eQ rows (d.getD 0) (some ⟨clk,e,n,els⟩),cI,qO k (d.getD 0) aU⟩:=by
 have hap:∀ {v e' r0},app k ⟨d, .call { callee:=.value (.func g),args:=args,argTypes:=ts },ty,pos,af,none⟩ true v (some (e',r0)) ⟨f,rows,cI,aU⟩=⟨put f d v,eQ rows e' (some r0),cI,qO k e' aU⟩:=xO rfl
 simp only [aT,yn,jA]
 rw [if_pos hw]
 simp only [if_pos hw]
 apply propext
 constructor
 ·rintro⟨v,u,⟨h1,e,n,els,h2,rfl,rfl⟩,h3,h4⟩
  rw [hap]at h4
  exact⟨e,n,els,⟨h1,h2,h3⟩,h4⟩
 ·rintro⟨e,n,els,⟨h1,h2,h3⟩,h4⟩
  refine⟨_,_,⟨h1,e,n,els,h2,rfl,rfl⟩,h3,?_⟩
  rw [hap];exact h4
@[simp] theorem asm{md:Region.Mode}{ops:List Oper}{j:Nat}{rows:Rows}:fC md ops j (fun _ _=>False) rows=rows:=by
 funext id;simp [fC]
@[simp] theorem asn{md:Region.Mode}{ops:List Oper}{j k id:Nat}{w:Nat→Nat→Prop}{rows:Rows}:fC md ops j (qO k id w) rows=if qM md ops j k=true then fC md ops j w rows else eQ (fC md ops j w rows) id none:=by
 funext x
 unfold fC qO
 by_cases hd:qM md ops j k=true
 ·rw [if_pos hd]
  have:(∃k',((k'=k∧x=id)∨w k' x)∧qM md ops j k'=false) ↔ ∃k',w k' x∧qM md ops j k'=false:=by
   constructor
   ·rintro⟨k',⟨rfl,_⟩ | h,h2⟩
    ·rw [hd]at h2;cases h2
    ·exact⟨k',h,h2⟩
   ·rintro⟨k',h,h2⟩;exact⟨k', .inr h,h2⟩
  exact(by classical exact ite_congr (propext this) (fun _=>rfl) (fun _=>rfl))
 ·rw [if_neg hd]
  have hd':qM md ops j k=false:=by simpa using hd
  simp only [eQ]
  by_cases hx:x=id
  ·rw [if_pos hx,if_pos ⟨k, .inl ⟨rfl,hx⟩,hd'⟩]
  ·rw [if_neg hx]
   have:(∃k',((k'=k∧x=id)∨w k' x)∧qM md ops j k'=false) ↔ ∃k',w k' x∧qM md ops j k'=false:=by
    constructor
    ·rintro⟨k',⟨_,h⟩ | h,h2⟩
     ·exact absurd h hx
     ·exact⟨k',h,h2⟩
    ·rintro⟨k',h,h2⟩;exact⟨k', .inr h,h2⟩
   exact(by classical exact ite_congr (propext this) (fun _=>rfl) (fun _=>rfl))
@[simp] theorem awt{md:Region.Mode}{ops:List Oper}{i id:Nat}:DZ md ops i id (fun _ _=>False)=True:=by simp [DZ]
@[simp] theorem awu{md:Region.Mode}{ops:List Oper}{i id k:Nat}{l:List Nat}{t:Nat→Nat→Prop}:DZ md ops i id (mN k l t)=((id∈l→qM md ops i k=true)∧DZ md ops i id t):=by
 apply propext
 unfold DZ mN
 constructor
 ·intro h;exact⟨fun hi=>h k (.inl ⟨rfl,rfl,hi⟩),fun k' hk=>h k' (.inr hk)⟩
 ·rintro⟨h1,h2⟩ k' (⟨_,rfl,h⟩ | h)
  ·exact h1 h
  ·exact h2 k' h
end
end Pm
