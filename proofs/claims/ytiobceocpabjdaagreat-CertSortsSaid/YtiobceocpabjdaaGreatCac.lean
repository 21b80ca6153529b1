import Derived.StillTail
import Derived.Deep.LoopGhost
import Derived.Test.YtiobceocpabjdaaGreatCab
set_option linter.unusedSimpArgs false
set_option linter.unusedVariables false
namespace Pm
open Go Go.RowKit
def uJ(P:Program)(f:FuncId)(args:List PV)(e:TypeId)(n:Nat)(els:List (List PV)):Prop:=
 (∃fn c,P.funcs[f]? = some fn∧fn.body=some c∧(fn.name == "runtime.NumGoroutine")=false) ∧
 ∀(w:World) (S:cY) (vs:List Value),(∀b o,S b o→b<w.heap.size)→a7 S w args vs →
  Calls P f vs.toArray w fun x w'=>∃(v:Value) (xs:List Value) (S':cY),x = .returned v∧Below w.heap.size w w'∧(∀b o,S b o→S' b o)∧(∀b o,S' b o→S b o∨(w.heap.size≤b∧b<w'.heap.size)) ∧
   w'.ownsRow w.heap.size e n v els.length xs∧a6 (cG S' w') els.flatten xs∧(∀y∈xs,y.oneCell'=true)∧(∀x∈els,x.length=n)∧0<n∧(∀g o,v.ownBlock=some g→¬S' g o)
def K2(md:Region.Mode)(ops:List Oper)(j k:Nat):Bool:=
 match ops[j]? with
 | some o=>o.after.toList.any fun e=>Region.binds md e&&e.on==k
 | none=>false
def lI(md:Region.Mode)(ops:List Oper)(j k:Nat):Bool:=K2 md ops j k || (List.range ops.length).any fun h=>K2 md ops j h&&K2 md ops h k
structure ST where
 f:Nat→PV
 rows:Rows
 bI:Nat→Nat→Prop
 wl:Nat→Nat→Prop
def cT(E:Env):Op→Bool
 | .alloc _=>true
 | .box _ _=>true
 | .makeSlice _ _ _=>true
 | .call { callee:=.builtin .append,args:=⟨[_,_]⟩,argTypes:=⟨[_,_]⟩ }=>true
 | .call { callee:=.value (.func g),args:=_,argTypes:=_ }=>E.writes g
 | _=>false
def rG(E:Env)(ops:List Oper):Bool:=ops.all fun o => !cT E o.op || (o.dst.isSome&&o.guard.isNone)
def rk(E:Env)(ops:List Oper)(i:Nat):Nat:=((ops.take i).filter fun o=>cT E o.op).length
theorem IL{E:Env}{ops:List Oper}{i:Nat}{o:Oper}(h:ops[i]? = some o):rk E ops (i+1)=rk E ops i+if cT E o.op=true then 1 else 0:=by
 unfold rk
 rw [List.take_add_one,h]
 simp only [Option.toList_some,List.filter_append,List.length_append]
 congr 1
 cases hn:cT E o.op<;>simp [hn]
theorem VW{E:Env}{ops:List Oper}{i j:Nat}(h:i≤j):rk E ops i≤rk E ops j:=by
 unfold rk
 have:(ops.take i).Sublist (ops.take j):=by
  have:=List.take_sublist i (ops.take j)
  rwa [List.take_take,Nat.min_eq_left h]at this
 exact(this.filter _).length_le
theorem O4{E:Env}{ops:List Oper}{i j:Nat}{o:Oper}(h:ops[i]? = some o)(hn:cT E o.op=true)(hij:i<j):rk E ops i<rk E ops j:=by
 have h1:=IL (E:=E) h
 rw [if_pos hn]at h1
 have:=VW (E:=E) (ops:=ops) (show i+1≤j from hij)
 omega
theorem ab5{E:Env}{ops:List Oper}{i j:Nat}{o o':Oper}(h:ops[i]? = some o)(hn:cT E o.op=true)(h':ops[j]? = some o')(U1:cT E o'.op=true)(he:rk E ops i=rk E ops j):i=j:=by
 rcases Nat.lt_trichotomy i j with h1 | h1 | h1
 ·have:=O4 h hn h1;omega
 ·exact h1
 ·have:=O4 h' U1 h1;omega
def oT(t:TI)(rows:Rows)(x y:PV)(c0 d:Nat)(v:PV)(u:Option (Nat × Row)):Prop:=
 match t with
 | .slice e n b _=>∃l,mT rows y l∧(∀e∈l,e.length=n) ∧
  match x with
  | .nil=>l.length≤room∧l.length*b≤room∧v = .own d c0 0 l.length∧u=some (d,⟨c0,e,n,l⟩)
  | .own id ver off len=>∃r,rows id=some r∧r.ver=ver∧off=0∧len≤r.els.length∧r.e=e∧r.size=n∧len+l.length≤room∧(len+l.length)*b≤room ∧
    v = .own id c0 0 (len+l.length)∧u=some (id,⟨c0,e,n,r.els.take len++l⟩)
  | .fX l0=>(∀e∈l0,e.length=n)∧(∀e∈l,∀p∈e,bL p=true)∧l0.length+l.length≤room∧(l0.length+l.length)*b≤room∧v = .sl (l0++l)∧u=none
  | _=>False
 | _=>False
def Z7(E:Env)(g:FuncId)(args:List PV)(c0 d:Nat)(v:PV)(u:Option (Nat × Row)):Prop:=
 args.all eR=true ∧ ∃e n els,uJ E.P g args e n els∧v = .own d c0 0 els.length∧u=some (d,⟨c0,e,n,els⟩)
def yn(E:Env)(c0:Nat)(d:Option Tmp)(op:Op)(ρ:Operand→PV)(rows:Rows)(v:PV)(u:Option (Nat × Row)):Prop:=
 match op with
 | .alloc t=>(E.ty t).known=true∧v = .ptr (d.getD 0) c0 0 0∧u=some (d.getD 0,⟨c0,t,(E.ty t).size,[(E.ty t).zero]⟩)
 | .box t x=>(E.ty t).known=true ∧ ∃l,bP (ρ x)=some l∧(∀q∈l,eZ (fun _=>none) q)∧l.length=(E.ty t).size∧v = .ptr (d.getD 0) c0 0 0∧u=some (d.getD 0,⟨c0,t,(E.ty t).size,[l]⟩)
 | .makeSlice t l c =>
  match E.ty t,ρ l,ρ c with
  | .slice e n b z, .int _ x, .int _ y=>0≤x∧x≤y∧y.toNat≤room∧y.toNat*b≤room∧v = .own (d.getD 0) c0 0 x.toNat∧u=some (d.getD 0,⟨c0,e,n,List.replicate x.toNat z⟩)
  | _,_,_=>False
 | .call { callee:=.builtin .append,args:=⟨[x,y]⟩,argTypes:=⟨[t,t2]⟩ }=>(t2=t∨OV (E.ty t2)=true)∧oT (E.ty t) rows (ρ x) (ρ y) c0 (d.getD 0) v u
 | .call { callee:=.value (.func g),args:=avs,argTypes:=ts }=>if E.writes g=true then Z7 E g (avs.toList.map fun x=>ρ x) c0 (d.getD 0) v u else ys E (.call { callee:=.value (.func g),args:=avs,argTypes:=ts }) ρ rows v u
 | op=>ys E op ρ rows v u
theorem uK{E:Env}{c0:Nat}{d:Option Tmp}{op:Op}{ρ:Operand→PV}{rows:Rows}{v:PV}{u:Option (Nat × Row)}(h:cT E op=false):yn E c0 d op ρ rows v u=ys E op ρ rows v u:=by
 unfold yn
 split
 all_goals first
  | rfl
  | (simp [cT]at h;done)
  | (simp only [cT]at h;rw [if_neg (by rw [h];decide)])
theorem kB{E:Env}{op:Op}{C:Prop}(h:cT E op=true)(h1:∀t,op = .alloc t→C)(h2:∀t x,op = .box t x→C)(h3:∀t l c,op = .makeSlice t l c→C)
  (h4:∀x y t t2,op = .call { callee:=.builtin .append,args:=⟨[x,y]⟩,argTypes:=⟨[t,t2]⟩ }→C) (h5:∀g avs ts,op = .call { callee:=.value (.func g),args:=avs,argTypes:=ts }→E.writes g=true→C):C:=by
 unfold cT at h
 split at h
 ·exact h1 _ rfl
 ·exact h2 _ _ rfl
 ·exact h3 _ _ _ rfl
 ·exact h4 _ _ _ _ rfl
 ·exact h5 _ _ _ rfl h
 ·cases h
theorem O5{t:TI}{rows rows':Rows}{x y v:PV}{c0 d:Nat}{u:Option (Nat × Row)}(h:gH (aS x++aS y) rows rows')(hy:oT t rows x y c0 d v u):oT t rows' x y c0 d v u ∧ ∀id∈aS x++aS y,∃r,rows id=some r:=by
 unfold oT at *
 cases t with
 | slice e n b z =>
  obtain⟨l,h1,h2,h3⟩:=hy
  obtain⟨g1,g2⟩:=IK (fun id eT=>h id (by simp only [List.mem_append];exact .inr eT)) h1
  cases x with
  | nil=>exact⟨⟨l,g1,h2,h3⟩,fun id eT=>g2 id (by simpa [aS]using eT)⟩
  | fX l0=>exact⟨⟨l,g1,h2,h3⟩,fun id eT=>g2 id (by simpa [aS]using eT)⟩
  | own id ver off len =>
   obtain⟨r,hr,hh⟩:=h3
   refine⟨⟨l,g1,h2,r,h id (by simp [aS]) r hr,hh⟩,fun fZ eT=>?_⟩
   simp only [aS,List.mem_append,List.mem_cons,List.not_mem_nil,or_false]at eT
   rcases eT with rfl | eT
   ·exact⟨r,hr⟩
   ·exact g2 fZ eT
  | _=>exact h3.elim
 | _=>exact hy.elim
theorem IM{E:Env}{c0:Nat}{d:Option Tmp}{op:Op}{ρ:Operand→PV}{rows rows':Rows}{v:PV}{u:Option (Nat × Row)}(h:gH (fQ op ρ) rows rows')(hy:yn E c0 d op ρ rows v u) :
  yn E c0 d op ρ rows' v u∧(∀id∈fQ op ρ,∃r,rows id=some r) ∧ ∀id r,u=some (id,r)→(cT E op=true∧id=d.getD 0)∨id∈fQ op ρ:=by
 cases hn:cT E op with
 | false =>
  rw [uK hn]at hy ⊢
  obtain⟨h1,h2,h3⟩:=Z6 h hy
  exact⟨h1,h2,fun id r hu => .inr (h3 id r hu)⟩
 | true =>
  refine kB hn ?_ ?_ ?_ ?_ ?_
  ·rintro t rfl
   refine⟨hy,by simp [fQ],fun id r hu => .inl ⟨by first | trivial | rfl,?_⟩⟩
   obtain⟨_,_,rfl⟩:=hy
   simp at hu;exact hu.1.symm
  ·rintro t x rfl
   refine⟨hy,by simp [fQ],fun id r hu => .inl ⟨by first | trivial | rfl,?_⟩⟩
   obtain⟨_,_,_,_,_,_,rfl⟩:=hy
   simp at hu;exact hu.1.symm
  ·rintro t l c rfl
   refine⟨hy,by simp [fQ],fun id r hu => .inl ⟨by first | trivial | rfl,?_⟩⟩
   simp only [yn]at hy
   split at hy
   ·obtain⟨_,_,_,_,_,rfl⟩:=hy
    simp at hu;exact hu.1.symm
   ·exact hy.elim
  ·rintro x y t t2 rfl
   simp only [yn,fQ]at hy h ⊢
   obtain⟨h2,h3⟩:=hy
   obtain⟨g1,g2⟩:=O5 h h3
   refine⟨⟨h2,g1⟩,g2,fun id r hu=>?_⟩
   unfold oT at h3
   split at h3
   ·obtain⟨l,_,_,h3⟩:=h3
    split at h3
    ·obtain⟨_,_,_,rfl⟩:=h3
     simp at hu;exact .inl ⟨by first | trivial | rfl,hu.1.symm⟩
    ·rename_i hx
     obtain⟨_,_,_,_,_,_,_,_,_,_,rfl⟩:=h3
     simp at hu
     rw [hx]
     exact .inr (by simp [aS,hu.1])
    ·obtain⟨_,_,_,_,_,rfl⟩:=h3
     cases hu
    ·exact h3.elim
   ·exact h3.elim
  ·rintro g avs ts rfl hw
   simp only [yn]at hy ⊢
   rw [if_pos hw]at hy
   rw [if_pos hw]
   refine⟨hy,by simp [fQ],fun id r hu => .inl ⟨by first | trivial | exact hw,?_⟩⟩
   obtain⟨_,_,_,_,_,_,rfl⟩:=hy
   simp at hu;exact hu.1.symm
open Classical in
noncomputable def dC(md:Region.Mode)(ops:List Oper)(j:Nat)(wl:Nat→Nat→Prop)(rows:Rows):Rows:=fun id=>if ∃k,wl k id∧lI md ops j k=false then none else rows id
theorem iX{md:Region.Mode}{ops:List Oper}{j id:Nat}{wl:Nat→Nat→Prop}{rows:Rows}{r:Row}:dC md ops j wl rows id=some r↔(∀k,wl k id→lI md ops j k=true)∧rows id=some r:=by
 unfold dC
 split
 ·rename_i h
  obtain⟨k,h1,h2⟩:=h
  simp only [reduceCtorEq,false_iff,not_and]
  intro h3
  rw [h3 k h1]at h2;cases h2
 ·rename_i h
  refine⟨fun h2=>⟨fun k hk=>?_,h2⟩,fun h2=>h2.2⟩
  cases hd:lI md ops j k with
  | true=>rfl
  | false=>exact absurd ⟨k,hk,hd⟩ h
def uL(md:Region.Mode)(ops:List Oper)(i id:Nat)(bI:Nat→Nat→Prop):Prop:=∀k,bI k id→lI md ops i k=true
def BU(md:Region.Mode)(ops:List Oper)(i:Nat)(u:Option (Nat × Row))(bI:Nat→Nat→Prop):Prop:=
 match u with
 | none=>True
 | some (id,_)=>uL md ops i id bI
def VX(ops:Array Oper)(o:Oper)(f:Nat→PV)(b:Bool):Prop:=
 match o.guard with
 | none=>b=true
 | some (j,want)=>∃d,(ops[j]?).bind (·.dst)=some d∧((f d = .bool want∧b=true)∨((f d = .bool (!want)∨f d = .eQ [])∧b=false))
def YG(E:Env)(md:Region.Mode)(ops:Array Oper)(c0:Nat)(i:Nat)(o:Oper)(b:Bool)(v:PV)(u:Option (Nat × Row))(st:ST):Prop:=
 VX ops o st.f b∧if b=true then yn E (c0+rk E ops.toList i) o.dst o.op (aN st.f) (dC md ops.toList i st.wl st.rows) v u else v = .eQ []∧u=none
def N3(i:Nat)(u:Option (Nat × Row))(wl:Nat→Nat→Prop):Nat→Nat→Prop:=
 match u with
 | none=>wl
 | some (id,_)=>fun k fZ=>(k=i∧fZ=id)∨wl k fZ
def app(i:Nat)(o:Oper)(b:Bool)(v:PV)(u:Option (Nat × Row))(st:ST):ST:=
 { f:=put st.f o.dst v,rows:=dE st.rows u,bI:=fun k id=>(b=true∧k=i∧id∈fQ o.op (aN st.f))∨st.bI k id,wl:=N3 i u st.wl }
def fR(E:Env)(op:Op)(clk:Nat):Nat:=
 match op with
 | .alloc _=>clk+1
 | .box _ _=>clk+1
 | .makeSlice _ _ _=>clk+1
 | .call { callee:=.builtin .append,args:=⟨[_,_]⟩,argTypes:=⟨[_,_]⟩ }=>clk+1
 | .call { callee:=.value (.func g),args:=_,argTypes:=_ }=>if E.writes g=true then clk+1 else clk
 | _=>clk
theorem uM{E:Env}{op:Op}{clk:Nat}(h:cT E op=false):fR E op clk=clk:=by
 unfold fR
 split
 all_goals first
  | rfl
  | (simp [cT]at h;done)
  | (simp only [cT]at h;rw [if_neg (by rw [h];decide)])
theorem O6{E:Env}{op:Op}{clk:Nat}(h:cT E op=true):fR E op clk=clk+1:=by
 refine kB h ?_ ?_ ?_ ?_ ?_
 ·rintro t rfl;rfl
 ·rintro t x rfl;rfl
 ·rintro t l c rfl;rfl
 ·rintro x y t t2 rfl;rfl
 ·rintro g avs ts rfl hw;simp only [fR];rw [if_pos hw]
theorem VY{E:Env}{ops:List Oper}{i c0:Nat}{o:Oper}(h:ops[i]? = some o):fR E o.op (c0+rk E ops i)=c0+rk E ops (i+1):=by
 rw [IL h]
 cases hn:cT E o.op with
 | false=>rw [uM hn];simp
 | true=>rw [O6 hn];simp;omega
def O7(E:Env)(md:Region.Mode)(ops:Array Oper)(c0:Nat)(i:Nat)(K:ST→Prop)(st:ST):Prop:=
 match ops[i]? with
 | none=>K st
 | some o=>∃b v u,YG E md ops c0 i o b v u st∧BU md ops.toList i u st.bI∧K (app i o b v u st)
section
variable {E:Env} {ops:Array Oper} {md:Region.Mode}
theorem O8{c0 i:Nat}{K K':ST→Prop}{st:ST}(h:∀st,K st→K' st)(hh:O7 E md ops c0 i K st):O7 E md ops c0 i K' st:=by
 unfold O7 at *
 split
 ·exact h _ (by simpa [*]using hh)
 ·rename_i o ho
  simp only [ho]at hh
  obtain⟨b,v,u,h1,h2,h3⟩:=hh
  exact⟨b,v,u,h1,h2,h _ h3⟩
theorem IP{f:Nat→PV}{d:Option Tmp}{v:PV}{x:Operand}(h:∀t,d=some t→x ≠ .tmp t):aN (put f d v) x=aN f x:=by
 cases d with
 | none=>rfl
 | some t =>
  cases x with
  | tmp s =>
   have:s≠t:=fun e=>h t rfl (by rw [e])
   simp [aN,put,this]
  | _=>rfl
theorem O9{op:Op}{ρ ρ':Operand→PV}{rows:Rows}{v:PV}{u:Option (Nat × Row)}(h:∀x∈op.operands,ρ x=ρ' x):ys E op ρ rows v u↔ys E op ρ' rows v u:=by
 have parts:∀ps:Array (Nat × Operand),(∀x∈(ps.toList.map (·.2)).toArray,ρ x=ρ' x)→(ps.toList.map fun x=>(x.1,ρ x.2))=ps.toList.map fun x=>(x.1,ρ' x.2):=fun ps hp =>
  List.map_congr_left fun p hm=>by rw [hp p.2 (by simp;exact⟨p.1,by simpa using hm⟩)]
 have args:∀(c:Call),(∀x∈c.operands,ρ x=ρ' x) → ∀x∈c.args.toList,ρ x=ρ' x:=fun c hc x hx=>hc x (by simp [Call.operands];exact .inr (by simpa using hx))
 unfold ys
 split
 ·rename_i x y t t2
  rw [h x (by simp [Op.operands,Call.operands]),h y (by simp [Op.operands,Call.operands])]
 ·rename_i t p x
  rw [h p (by simp [Op.operands]),h x (by simp [Op.operands])]
 ·rename_i t len ps
  rw [parts ps (by simpa [Op.operands]using h)]
 ·rename_i f avs ts
  have ha:=args _ (by simpa [Op.operands]using h)
  simp only at ha
  rw [h f (by simp [Op.operands,Call.operands]),List.map_congr_left (g:=fun x=>pz rows (ρ' x)) fun x hx=>by rw [ha x hx]]
  have:(avs.toList.flatMap fun x=>cW (ρ x))=avs.toList.flatMap fun x=>cW (ρ' x):=by
   rw [List.flatMap_def,List.flatMap_def]
   congr 1
   exact List.map_congr_left fun x hx=>by rw [ha x hx]
  rw [this]
 ·suffices hs:yv E op ρ rows v↔yv E op ρ' rows v by rw [hs]
  unfold yv
  split
  case h_12 =>
   rename_i t x lo hi mx _ _ _ _
   have o1:∀y:Option Operand,(∀z,y=some z→ρ z=ρ' z)→y.map ρ=y.map ρ':=by
    intro y hy;cases y with
    | none=>rfl
    | some z=>simp [hy z rfl]
   rw [h x (by simp [Op.operands]),o1 lo fun z hz=>h z (by subst hz;simp [Op.operands]),o1 hi fun z hz=>h z (by subst hz;simp [Op.operands]),o1 mx fun z hz=>h z (by subst hz;simp [Op.operands])]
  case h_13=>rename_i t ps _ _ _ _;rw [parts ps (by simpa [Op.operands]using h)]
  case h_15 =>
   rename_i f b8 _ _ _ _
   rw [List.map_congr_left (l:=b8.toList) (f:=fun x=>ρ x) (g:=fun x=>ρ' x) fun x hx=>h x (by simp [Op.operands];simpa using hx)]
  all_goals first
   | rfl
   | (simp only [Op.operands,Call.operands]at h;simp [h])
theorem uN{op:Op}{ρ ρ':Operand→PV}(h:∀x∈op.operands,ρ x=ρ' x):fQ op ρ=fQ op ρ':=by
 unfold fQ
 split
 all_goals first
  | rfl
  | (simp only [Op.operands,Call.operands]at h;simp [h])
theorem BV{c0:Nat}{d:Option Tmp}{op:Op}{ρ ρ':Operand→PV}{rows:Rows}{v:PV}{u:Option (Nat × Row)}(h:∀x∈op.operands,ρ x=ρ' x):yn E c0 d op ρ rows v u↔yn E c0 d op ρ' rows v u:=by
 cases hn:cT E op with
 | false=>rw [uK hn,uK hn];exact O9 h
 | true =>
  refine kB hn ?_ ?_ ?_ ?_ ?_
  ·rintro t rfl;exact Iff.rfl
  ·rintro t x rfl
   simp only [yn]
   rw [h x (by simp [Op.operands])]
  ·rintro t l c rfl
   simp only [yn]
   rw [h l (by simp [Op.operands]),h c (by simp [Op.operands])]
  ·rintro x y t t2 rfl
   simp only [yn]
   rw [h x (by simp [Op.operands,Call.operands]),h y (by simp [Op.operands,Call.operands])]
  ·rintro g avs ts rfl hw
   simp only [yn]
   rw [if_pos hw,if_pos hw,List.map_congr_left (l:=avs.toList) (f:=fun x=>ρ x) (g:=fun x=>ρ' x) fun x hx=>h x (by simp [Op.operands,Call.operands];exact .inr (by simpa using hx))]
theorem BW{o:Oper}{d:Tmp}{x:Operand}(h:d ∉ o.looksAt ops)(hx:x∈o.op.operands):x ≠ .tmp d:=by
 rintro rfl
 exact h (List.mem_append_left _ (List.mem_filterMap.2 ⟨.tmp d,by simpa using hx,rfl⟩))
theorem F4{c:Cx}:aF c (.eQ []) undef:=by
 show cG c.S c.w (.eQ []) undef
 simp only [cG]
 exact⟨[],rfl,rfl⟩
theorem fM{c:Cx}{tmps:Array Value}{j:Nat}{d:Tmp}{t:Bool}(h1:(ops[j]?).bind (·.dst)=some d)(h:aF c (.bool t) (tmps.getD d undef)):yielded ops tmps j=some t:=by
 rw [cJ]at h
 unfold yielded
 rw [h1]
 simp only [Option.bind_some]
 cases hx:tmps[d]? with
 | none=>simp [hx]at h;cases h
 | some y =>
  have hy:y = .bool t:=by simpa [hx]using h
  rw [hy]
theorem pC{c:Cx}{tmps:Array Value}{j:Nat}{d:Tmp}(h1:(ops[j]?).bind (·.dst)=some d)(h:aF c (.eQ []) (tmps.getD d undef)):yielded ops tmps j=none:=by
 have h2:tmps.getD d undef = .tuple #[]:=by
  have h3:cG c.S c.w (.eQ []) (tmps.getD d undef):=h
  simp only [cG]at h3
  obtain⟨vs,h4,h5⟩:=h3
  simp only [a7]at h5
  rw [h4,h5]
 unfold yielded
 rw [h1]
 simp only [Option.bind_some]
 cases hx:tmps[d]? with
 | none=>rfl
 | some y =>
  have hy:y = .tuple #[]:=by simpa [hx]using h2
  rw [hy]
theorem IQ{o:Oper}{f:Nat→PV}{dd:Option Tmp}{v:PV}{b:Bool}(h:∀d,dd=some d→d ∉ o.looksAt ops):VX ops o (put f dd v) b↔VX ops o f b:=by
 unfold VX
 cases hg:o.guard with
 | none=>rfl
 | some g =>
  obtain⟨j,want⟩:=g
  simp only
  have key:∀d,(ops[j]?).bind (·.dst)=some d→put f dd v d=f d:=by
   intro d h1
   cases dd with
   | none=>rfl
   | some e =>
    have wV:d≠e:=by
     rintro rfl
     exact h d rfl (List.mem_append_right _ (by simp [hg,h1]))
    simp [put,wV]
  constructor
  ·rintro⟨d,h1,h2⟩
   rw [key d h1]at h2
   exact⟨d,h1,h2⟩
  ·rintro⟨d,h1,h2⟩
   rw [←key d h1]at h2
   exact⟨d,h1,h2⟩
theorem put_comm{f:Nat→PV}{x y:Option Tmp}{v u:PV}(h:∀d,x=some d→y≠some d):put (put f x v) y u=put (put f y u) x v:=by
 cases x with
 | none=>rfl
 | some d =>
  cases y with
  | none=>rfl
  | some e =>
   have wV:d≠e:=fun he=>h d rfl (by rw [he])
   funext j
   simp only [put]
   split<;>split<;>simp_all
theorem uO{rows:Rows}{u:Option (Nat × Row)}{j:Nat}(h:∀r,u≠some (j,r)):dE rows u j=rows j:=by
 cases u with
 | none=>rfl
 | some x =>
  obtain⟨i,r⟩:=x
  simp only [dE,c4]
  rw [if_neg]
  rintro rfl
  exact h r rfl
theorem lJ{i:Nat}{u:Option (Nat × Row)}{wl:Nat→Nat→Prop}{k id:Nat}:N3 i u wl k id↔(k=i ∧ ∃r,u=some (id,r))∨wl k id:=by
 cases u with
 | none=>simp [N3]
 | some x =>
  obtain⟨fZ,r⟩:=x
  simp only [N3,Option.some.injEq,Prod.mk.injEq]
  constructor
  ·rintro(⟨h1,h2⟩ | h)
   ·exact .inl ⟨h1,r,h2.symm,rfl⟩
   ·exact .inr h
  ·rintro(⟨h1,r',h2,_⟩ | h)
   ·exact .inl ⟨h1,h2.symm⟩
   ·exact .inr h
theorem zH{i:Nat}{u:Option (Nat × Row)}{bI:Nat→Nat→Prop}:BU md ops.toList i u bI ↔ ∀id r,u=some (id,r) → ∀k,bI k id→lI md ops.toList i k=true:=by
 cases u with
 | none=>simp [BU]
 | some x =>
  obtain⟨fZ,r⟩:=x
  simp only [BU,uL,Option.some.injEq,Prod.mk.injEq]
  constructor
  ·rintro h _ _ ⟨rfl,_⟩;exact h
  ·intro h;exact h _ _ ⟨rfl,rfl⟩
theorem VZ{c0 i j:Nat}{oi oj:Oper}{bi:Bool}{vi:PV}{ui:Option (Nat × Row)}(hj:ops[j]? = some oj)(VJ:oi.apart ops oj=true)(hds:cT E oi.op=true→oi.dst.isSome=true)(ang:cT E oj.op=true→oj.dst.isSome=true)(hdj:lI md ops.toList j i=false){K:ST→Prop}{st:ST}
  (hy:YG E md ops c0 i oi bi vi ui st) (ho:BU md ops.toList i ui st.bI) (h:O7 E md ops c0 j K (app i oi bi vi ui st)) :
  O7 E md ops c0 j (fun IU=>YG E md ops c0 i oi bi vi ui IU∧BU md ops.toList i ui IU.bI∧K (app i oi bi vi ui IU)) st:=by
 obtain⟨h1,h2,h3⟩:=Oper.apart_spec VJ
 unfold O7 at h ⊢
 simp only [hj]at h ⊢
 obtain⟨bj,vj,uj,⟨hgj,hyj⟩,Z8,hK⟩:=h
 obtain⟨hgi,E6⟩:=hy
 rw [zH]at Z8 ho
 have ej:∀x∈oj.op.operands,aN (put st.f oi.dst vi) x=aN st.f x:=fun x hx=>IP fun t ht=>BW (h1 t ht) hx
 have ei:∀x∈oi.op.operands,aN (put st.f oj.dst vj) x=aN st.f x:=fun x hx=>IP fun t ht=>BW (h3 t ht) hx
 have ani:VX ops oj st.f bj:=(IQ h1).1 hgj
 have hnw:∀id r,dC md ops.toList j (app i oi bi vi ui st).wl (app i oi bi vi ui st).rows id=some r → ∀r',ui≠some (id,r'):=by
  intro id r hr r' hu
  obtain⟨hw,_⟩:=iX.1 hr
  have:=hw i (lJ.2 (.inl ⟨rfl,r',hu⟩))
  rw [hdj]at this;cases this
 have hle:∀ids,gH ids (dC md ops.toList j (app i oi bi vi ui st).wl (app i oi bi vi ui st).rows) (dC md ops.toList j st.wl st.rows):=by
  intro ids id _ r hr
  have hn:=hnw id r hr
  obtain⟨hw,i7⟩:=iX.1 hr
  simp only [app]at i7 hw
  rw [uO hn]at i7
  exact iX.2 ⟨fun k hk=>hw k (lJ.2 (.inr hk)),i7⟩
 have anj:(if bj=true then yn E (c0+rk E ops.toList j) oj.dst oj.op (aN st.f) (dC md ops.toList j st.wl st.rows) vj uj else vj = .eQ []∧uj=none) ∧
   (bj=true → ∀id∈fQ oj.op (aN st.f),∃r,dC md ops.toList j (app i oi bi vi ui st).wl (app i oi bi vi ui st).rows id=some r)∧(∀id r,uj=some (id,r)→bj=true∧((cT E oj.op=true∧id=oj.dst.getD 0)∨id∈fQ oj.op (aN st.f))):=by
  by_cases hb:bj=true
  ·rw [if_pos hb]at hyj ⊢
   have V0:=(BV ej).1 hyj
   obtain⟨g1,g2,g3⟩:=IM (hle _) V0
   exact⟨g1,fun _=>g2,fun id r hu=>⟨hb,g3 id r hu⟩⟩
  ·rw [if_neg hb]at hyj ⊢
   exact⟨hyj,fun h=>absurd h hb,fun id r hu=>by rw [hyj.2]at hu;cases hu⟩
 obtain⟨ank,V0,anl⟩:=anj
 have anm:BU md ops.toList j uj st.bI:=zH.2 fun id r hu k hk=>Z8 id r hu k (.inr hk)
 have hfi:∀id r,uj=some (id,r)→¬(bi=true∧id∈fQ oi.op (aN st.f)):=by
  intro id r hu hh
  have:=Z8 id r hu i (.inl ⟨hh.1,rfl,hh.2⟩)
  rw [hdj]at this;cases this
 have hui:∀id r,ui=some (id,r)→bi=true∧((cT E oi.op=true∧id=oi.dst.getD 0)∨id∈fQ oi.op (aN st.f)):=by
  intro id r hu
  by_cases hb:bi=true
  ·rw [if_pos hb]at E6
   exact⟨hb,(IM (rows':=dC md ops.toList i st.wl st.rows) (fun id _ r hr=>hr) E6).2.2 id r hu⟩
  ·rw [if_neg hb]at E6
   rw [E6.2]at hu;cases hu
 have wV:∀id r r',ui=some (id,r)→uj=some (id,r')→False:=by
  intro id r r' Z3 VL
  obtain⟨hb,hh⟩:=anl id r' VL
  rcases hh with hh | hh
  ·obtain⟨KW,Z5⟩:=hui id r Z3
   rcases Z5 with Z5 | Z5
   ·obtain⟨d,hd⟩:=Option.isSome_iff_exists.1 (hds Z5.1)
    have e1:id=d:=by rw [Z5.2,hd];rfl
    cases ab8:oj.dst with
    | none=>exact absurd ab8 (fun he=>by have:=ang hh.1;rw [he]at this;cases this)
    | some d' =>
     have e2:id=d':=by rw [hh.2,ab8];rfl
     exact h2 d hd (by rw [ab8,←e2,e1])
   ·exact hfi id r' VL ⟨KW,Z5⟩
  ·obtain⟨r'',ano⟩:=V0 hb id hh
   exact hnw id r'' ano r Z3
 have anp:bi=true→gH (fQ oi.op (aN st.f)) (dC md ops.toList i st.wl st.rows) (dC md ops.toList i (app j oj bj vj uj st).wl (app j oj bj vj uj st).rows):=by
  intro hb id eT r hr
  obtain⟨hw,i7⟩:=iX.1 hr
  have hn:∀r',uj≠some (id,r'):=fun r' hu=>hfi id r' hu ⟨hb,eT⟩
  refine iX.2 ⟨fun k hk=>?_,?_⟩
  ·rcases lJ.1 hk with ⟨_,r',hu⟩ | hk
   ·exact absurd hu (hn r')
   ·exact hw k hk
  ·simp only [app];rw [uO hn];exact i7
 refine⟨bj,vj,uj,⟨ani,ank⟩,anm,⟨(IQ h3).2 hgi,?_⟩,?_,?_⟩
 ·by_cases hb:bi=true
  ·rw [if_pos hb]at E6 ⊢
   refine(BV ei).2 ?_
   exact(IM (anp hb) E6).1
  ·rw [if_neg hb]at E6 ⊢;exact E6
 ·-- i's own row has not asX als
  rw [zH]
  rintro id r hu k (⟨hb,rfl,hh⟩ | hh)
  ·obtain⟨r',i7⟩:=V0 hb id hh
   exact absurd hu (hnw id r' i7 r)
  ·exact ho id r hu k hh
 ·have:app i oi bi vi ui (app j oj bj vj uj st)=app j oj bj vj uj (app i oi bi vi ui st):=by
   simp only [app,ST.mk.injEq]
   refine⟨put_comm fun d hd=>fun PA=>(h2 d) (by first | exact hd | exact PA) (by first | exact PA | exact hd),?_,?_,?_⟩
   ·cases ui with
    | none=>rfl
    | some x =>
     cases uj with
     | none=>rfl
     | some y =>
      obtain⟨id,r⟩:=x
      obtain⟨fZ,r'⟩:=y
      have:id≠fZ:=fun e=>wV id r r' rfl (by rw [e])
      funext k
      simp only [dE,c4]
      split<;>split<;>simp_all
   ·funext k id
    have e1:fQ oi.op (aN (put st.f oj.dst vj))=fQ oi.op (aN st.f):=uN ei
    have e2:fQ oj.op (aN (put st.f oi.dst vi))=fQ oj.op (aN st.f):=uN ej
    rw [e1,e2]
    apply propext
    constructor
    ·rintro(h | h | h)
     ·exact .inr (.inl h)
     ·exact .inl h
     ·exact .inr (.inr h)
    ·rintro(h | h | h)
     ·exact .inr (.inl h)
     ·exact .inl h
     ·exact .inr (.inr h)
   ·funext k id
    apply propext
    rw [lJ,lJ,lJ,lJ]
    constructor
    ·rintro(h | h | h)
     ·exact .inr (.inl h)
     ·exact .inl h
     ·exact .inr (.inr h)
    ·rintro(h | h | h)
     ·exact .inr (.inl h)
     ·exact .inl h
     ·exact .inr (.inr h)
  rw [this];exact hK
theorem BX{j k:Nat}:K2 md ops.toList j k=true ↔ ∃oj,ops[j]? = some oj ∧ ∃e∈oj.after,Region.binds md e=true∧e.on=k:=by
 unfold K2
 cases h:ops[j]? with
 | none=>simp [show ops.toList[j]? = none by simpa using h]
 | some oj =>
  rw [show ops.toList[j]? = some oj by simpa using h]
  simp only [List.any_eq_true,Bool.and_eq_true,beq_iff_eq,Option.some.injEq]
  constructor
  ·rintro⟨e,he,h1,h2⟩;exact⟨oj,rfl,e,by simpa using he,h1,h2⟩
  ·rintro⟨_,rfl,e,he,h1,h2⟩;exact⟨e,by simpa using he,h1,h2⟩
theorem V1{n j i:Nat}{oj:Oper}{aY:Array Bool}(hj:ops[j]? = some oj)(inv:HeadInv md ops n aY)(hr:∀e∈oj.after,Region.binds md e=true→aY.getD e.on false=true)(IW:aY.getD i false=false):lI md ops.toList j i=false:=by
 have one:∀k,K2 md ops.toList j k=true→aY.getD k false=true:=fun k hk=>by
  obtain⟨o,ho,e,he,h1,rfl⟩:=BX.1 hk
  rw [hj]at ho;cases ho
  exact hr e he h1
 cases hd:lI md ops.toList j i with
 | false=>rfl
 | true =>
  exfalso
  unfold lI at hd
  rcases Bool.or_eq_true_iff.1 hd with h | h
  ·rw [one i h]at IW;cases IW
  ·obtain⟨k,_,hk⟩:=List.any_eq_true.1 h
   obtain⟨h1,h2⟩:=Bool.and_eq_true_iff.1 hk
   obtain⟨o,ho,e,he,h3,rfl⟩:=BX.1 h2
   rw [inv.closed k o ho (one k h1) e he h3]at IW;cases IW
end
section
variable {E:Env} {ops:Array Oper} {md:Region.Mode}
def B0(E:Env)(md:Region.Mode)(ops:Array Oper)(c0 n:Nat)(L:Array Bool→ST→Prop):Nat→Array Bool→ST→Prop
 | 0,aY,st=>L aY st
 | f+1,aY,st=>Region.ready md ops aY ≠ [] ∧ ∀i∈Region.ready md ops aY,i<n∧O7 E md ops c0 i (B0 E md ops c0 n L f (aY.setIfInBounds i true)) st
theorem B1{c0 n i:Nat}{oi:Oper}{b:Bool}{v:PV}{u:Option (Nat × Row)}{L:Array Bool→ST→Prop}(hi:ops[i]? = some oi)(mQ:∀i oi,i<n→ops[i]? = some oi→cT E oi.op=true→oi.dst.isSome=true)
  (uP:∀aY,HeadInv md ops n aY → ∀i,i<n→aY.getD i true=false → ∀t,n≤t→t ∉ Region.ready md ops aY) (hin:i<n)
  (ahB:∀aY st,L aY st → ∀j∈Region.ready md ops aY,n≤j) :
  ∀(f:Nat) (aY:Array Bool) (st:ST),HeadInv md ops n aY →
   (∀j oj,ops[j]? = some oj→j≠i→aY.getD j true=false→(∀e∈oj.after,Region.binds md e=true→e.on≠i)→oi.apart ops oj=true) →
   i∈Region.ready md ops aY→YG E md ops c0 i oi b v u st→BU md ops.toList i u st.bI →
   B0 E md ops c0 n L f (aY.setIfInBounds i true) (app i oi b v u st)→B0 E md ops c0 n L (f+1) aY st:=by
 intro f
 induction f with
 | zero =>
  intro aY st inv _ hr hy ho H
  have IW:=(mem_ready.1 hr).1
  refine⟨fun h=>(by rw [h]at hr;cases hr),fun j hj=>?_⟩
  have hjn:j<n:=by
   rcases Nat.lt_or_ge j n with h | h
   ·exact h
   ·exact absurd hj (uP aY inv i hin IW j h)
  refine⟨hjn,?_⟩
  by_cases U2:j=i
  ·subst U2;unfold O7;simp only [hi];exact⟨b,v,u,hy,ho,H⟩
  ·have:=ahB _ _ H j (ready_mono hj U2)
   omega
 | succ f ih =>
  intro aY st inv Z9 hr hy ho H
  have IW:=(mem_ready.1 hr).1
  refine⟨fun h=>(by rw [h]at hr;cases hr),fun j hj=>?_⟩
  have hjn:j<n:=by
   rcases Nat.lt_or_ge j n with h | h
   ·exact h
   ·exact absurd hj (uP aY inv i hin IW j h)
  refine⟨hjn,?_⟩
  by_cases U2:j=i
  ·subst U2;unfold O7;simp only [hi];exact⟨b,v,u,hy,ho,H⟩
  ·have h1:=(H.2 j (ready_mono hj U2)).2
   obtain⟨ahD,oj,Z8,pD⟩:=mem_ready.1 hj
   have anq:∀e∈oj.after,Region.binds md e=true→e.on≠i:=fun e he hb heq=>by
    have h1:=pD e he hb
    rw [heq,getD_both IW]at h1
    cases h1
   have h2:=VZ Z8 (Z9 j oj Z8 U2 ahD anq) (mQ i oi hin hi) (mQ j oj hjn Z8) (V1 Z8 inv pD (getD_both IW)) hy ho h1
   have ab9:∀k ok,ops[k]? = some ok→k≠i→(aY.setIfInBounds j true).getD k true=false →
     (∀e∈ok.after,Region.binds md e=true→e.on≠i)→oi.apart ops ok=true:=fun k ok hk V2 ahE hno=>by
    refine Z9 k ok hk V2 ?_ hno
    by_cases hjk:j=k
    ·subst hjk;exact ahD
    ·rw [getD_set_ne true hjk]at ahE;exact ahE
   refine O8 (fun IU h3=>ih (aY.setIfInBounds j true) IU (inv.set hj hjn) ab9 (ready_mono hr (Ne.symm U2)) h3.1 h3.2.1 ?_) h2
   rw [Array.setIfInBounds_comm _ _ U2]
   exact h3.2.2
def aca(E:Env)(md:Region.Mode)(ops:Array Oper)(c0:Nat)(Lq:ST→Prop):Nat→List Oper→ST→Prop
 | _,[],st=>Lq st
 | k,o::os,st=>∃b v u,YG E md ops c0 k o b v u st∧BU md ops.toList k u st.bI∧aca E md ops c0 Lq (k+1) os (app k o b v u st)
theorem rH{c0 n g:Nat}{Lq:ST→Prop}(mQ:∀i oi,i<n→ops[i]? = some oi→cT E oi.op=true→oi.dst.isSome=true)(uP:∀aY,HeadInv md ops n aY → ∀i,i<n→aY.getD i true=false → ∀t,n≤t→t ∉ Region.ready md ops aY) :
  ∀(l:List Oper) (k:Nat) (aY:Array Bool) (st:ST),(∀j,j<l.length→l[j]? = ops[k+j]?)→k+l.length=n→HeadInv md ops n aY →
  Region.lexHead md ops g l.length k aY=true→aca E md ops c0 Lq k l st →
  B0 E md ops c0 n (fun IX IU=>Region.seqB md ops g n IX=true∧Lq IU) l.length aY st
 | [],k,aY,st,_,hk,_,hB,h=>by
  have:k=n:=by simpa using hk
  subst this
  exact⟨by simpa [Region.lexHead]using hB,h⟩
 | o::l,k,aY,st,hl,hk,inv,hB,h=>by
  have h0:ops[k]? = some o:=by simpa using(hl 0 (by simp)).symm
  simp only [List.length_cons,Region.lexHead,Bool.and_eq_true]at hB
  obtain⟨⟨hr,hf⟩,hB'⟩:=hB
  have hkn:k<n:=by simp only [List.length_cons]at hk;omega
  have i7:k∈Region.ready md ops aY:=by simpa using hr
  obtain⟨b,v,u,hy,ho,hK⟩:=h
  exact B1 h0 mQ uP hkn (fun IX IU hL=>seqB_ready hL.1) l.length aY st inv (Region.free_spec h0 hf) i7 hy ho
   (rH mQ uP l (k+1) _ _ (fun j hj=>by have:=hl (j+1) (by simp;omega);simpa [Nat.add_assoc,Nat.add_comm 1 j]using this) (by simp only [List.length_cons]at hk;omega) (inv.set i7 hkn) hB' hK)
variable {w0:World} {S0:cY} {m:Nat} {G:Gs}
theorem F5{o:Oper}{a:Act}{w:World}{f:Nat→PV}{rows:Rows}{U:Nat→Prop}{c0:Nat}{v:PV}{u:Option (Nat × Row)}(IJ:¬U c0){g:FuncId}{avs:Array Operand}{ts:Array TypeId}(ho:o.op = .call { callee:=.value (.func g),args:=avs,argTypes:=ts })
  (hy:Z7 E g (avs.toList.map fun x=>aN f x) c0 (o.dst.getD 0) v u) (hR:mD w0 S0 m G U f rows a w) (hd:∀t,o.dst=some t→t<m)
  {K':Act→World→Prop} {Q:Exit→Act→World→Prop} (hK:∀a' w',mD w0 S0 m G (fun v=>v=c0∨U v) (put f o.dst v) (dE rows u) a' w'→K' a' w'):o.wp E.P a w K' Q:=by
 obtain⟨⟨c,rfl,hr,eX,hI,hf,hG⟩,hn,eC⟩:=hR
 have hρ:=jN hf
 have hfu:¬c.used c0:=fun hu=>IJ (eX _ hu)
 obtain⟨oR,e,n,els,⟨⟨fn,b,h1,h2,h3⟩,FY⟩,rfl,rfl⟩:=hy
 obtain⟨dst,op,type,pos,after,guard⟩:=o
 simp only at ho hd hK
 subst ho
 have eI:a6 (aF c) (avs.toList.map fun x=>aN f x) (avs.map a.eval).toList:=by
  refine a6.cO (by simp) fun k p u hp hu=>?_
  simp at hp hu
  obtain⟨x,hx,rfl⟩:=hp
  obtain⟨y,hy,rfl⟩:=hu
  rw [hx]at hy;cases hy
  exact hρ x
 have eS:a7 c.S c.w (avs.toList.map fun x=>aN f x) (avs.map a.eval).toList:=b5.2 (a6.cO eI.length fun k p u hp hu=>by
  obtain⟨u',q1,q2⟩:=eI.get hp
  rw [hu]at q1;cases q1
  exact q2.rep (List.all_eq_true.1 oR p (List.mem_of_getElem? hp)))
 have mV:=FY c.w c.S _ (fun b o hb=>hI.lt hb) eS
 simp only [Array.toArray_toList]at mV
 have VS:=hρ (.func g)
 simp only [aN,aF,aM,cG]at VS
 obtain⟨cs,hfv,FO⟩:=VS
 simp only [a7]at FO
 subst FO
 unfold Oper.wp
 have gG:(execOp a.eval { dst:=dst,op:=.call { callee:=.value (.func g),args:=avs,argTypes:=ts },type:=type,pos:=pos,after:=after,guard:=guard }).run E.P c.w = .ok (.enter g (avs.map a.eval)) c.w:=by
  simp only [execOp,resolve,hfv,Deferred.ofValue,Sem.run_bind,Sem.run_pure,Result.andThen_ok,invoke]
  simpa using jZ h1 h2 h3 (avs.map a.eval) c.w
 rw [gG]
 refine mV.mono ?_
 rintro x w' ⟨v',xs,S',rfl,hb,g1,g2,g3,g4,g5,g6,g7,g8⟩
 obtain⟨UZ,hA2⟩:=hI.grow hb g1 g2
 obtain⟨hI3,hA3⟩:=UZ.set (w':=w') (ob:=v'.ownBlock) (id:=dst.getD 0) (r':=⟨c0,e,n,els⟩) (v':=v') (xs:=xs) (World.grownBy.refl _ _)
  (fun g hg=>by
   have UX:=(g3.lt g hg).1
   refine⟨by have:=hI.below.size;omega,fun o=>g8 g o hg,fun fZ r hr _ wS=>?_⟩
   obtain⟨⟨ys,q1,_,_⟩,_⟩:=hI.row fZ r hr
   have:=(q1.lt g wS).2
   omega) ⟨g3.1,g3.2.imp id fun⟨g,cap,cur,q1,q2,q3⟩=>⟨g,cap,cur,q1,Nat.le_trans hI.below.size q2,q3⟩⟩ (g4.mono fun _ _ h=>aM.gB h) g5 g6 g7 (fun g hg => .inl hg) hfu
 refine hK _ _ ?_
 have hf2:∀s,aF { c with S:=S',w:=w' } (f s) (a.tmps.getD s undef):=fun s=>aF.o6 hA2 _ _ (hf s)
 have hG2:∀p∈G,aF { c with S:=S',w:=w' } p.1 p.2:=fun p hp=>aF.o6 hA2 _ _ (hG p hp)
 refine kU hf2 hG2 hn eC hA3 hI3 ?_ hd rfl (by simp [dE,hr]) (fun v hv=>hv.imp (fun h=>h) (eX v))
 rcases g3.2 with ⟨rfl,h8⟩ | ⟨g,gE,cur,rfl,_⟩
 ·have:els.length=0:=h8
  rw [this]
  exact jA (r:=⟨c0,e,n,els⟩) (A:=none) (cap:=0) (by simp [c4]) (by simpa using h8) (Or.inl rfl) (by simp [c4])
 ·exact jA (r:=⟨c0,e,n,els⟩) (by simp [c4]) rfl (Or.inl rfl) (by simp [c4])
theorem PC{o:Oper}{a:Act}{w:World}{f:Nat→PV}{rows:Rows}{U:Nat→Prop}{c0:Nat}{v:PV}{u:Option (Nat × Row)}(IJ:¬U c0)(hn:cT E o.op=true)(hy:yn E c0 o.dst o.op (aN f) rows v u)(hR:mD w0 S0 m G U f rows a w)(hd:∀t,o.dst=some t→t<m)
  {K':Act→World→Prop} {Q:Exit→Act→World→Prop} (hK:∀a' w',mD w0 S0 m G (fun v=>v=c0∨U v) (put f o.dst v) (dE rows u) a' w'→K' a' w'):o.wp E.P a w K' Q:=by
 by_cases mV:∃g avs ts,o.op = .call { callee:=.value (.func g),args:=avs,argTypes:=ts }∧E.writes g=true
 ·obtain⟨g,avs,ts,ho,hw⟩:=mV
  rw [ho]at hy
  simp only [yn]at hy
  rw [if_pos hw]at hy
  exact F5 IJ ho hy hR hd hK
 refine pZ (ver:=c0) IJ (K:=fun _ f' rows'=>f'=put f o.dst v∧rows'=dE rows u) ?_ hR hd (fun i f' rows' a' w' h jP=>by
  obtain⟨rfl,rfl⟩:=h
  exact hK a' w' (jP.mono fun v hv=>hv.imp (fun h=>h.2) fun h=>h))
 obtain⟨dst,op,type,pos,after,guard⟩:=o
 simp only at hn hy mV ⊢
 refine kB hn ?_ ?_ ?_ ?_ ?_
 ·rintro t rfl
  simp only [yn]at hy
  obtain⟨h2,rfl,rfl⟩:=hy
  exact⟨h2,rfl,rfl⟩
 ·rintro t x rfl
  simp only [yn]at hy
  obtain⟨h2,l,h3,h4,h5,rfl,rfl⟩:=hy
  exact⟨h2,l,h3,fun q hq=>zG (fun id _ r hr=>by cases hr) (h4 q hq),h5,rfl,rfl⟩
 ·rintro t l cc rfl
  simp only [yn]at hy
  simp only [kO]
  split at hy
  ·rename_i e n b z k1 x k2 y hE hl hc
   obtain⟨g1,g2,g3,g4,rfl,rfl⟩:=hy
   try rw [hE,hl,hc]
   exact⟨g1,g2,g3,g4,rfl,rfl⟩
  ·exact hy.elim
 ·rintro x y t t2 rfl
  simp only [yn]at hy
  obtain⟨h2,hy⟩:=hy
  simp only [kO]
  refine⟨h2,?_⟩
  unfold oT at hy
  unfold kW
  split at hy
  ·rename_i e n b z hE
   obtain⟨l,g1,g2,g3⟩:=hy
   rw [hE]
   refine⟨l,g1,g2,?_⟩
   split at g3
   ·rename_i hx
    obtain⟨q1,q2,rfl,rfl⟩:=g3
    rw [hx]
    exact⟨q1,q2,rfl,rfl⟩
   ·rename_i id ver off len hx
    obtain⟨r,q1,q2,q3,q4,q5,q6,q7,q8,rfl,rfl⟩:=g3
    rw [hx]
    exact⟨r,q1,q2,q3,q4,q5,q6,q7,q8,rfl,rfl⟩
   ·rename_i l0 hx
    obtain⟨q1,q2,q3,q4,rfl,rfl⟩:=g3
    rw [hx]
    exact⟨q1,q2,q3,q4,rfl,rfl⟩
   ·exact g3.elim
  ·exact hy.elim
 ·rintro g avs ts rfl hw
  exact absurd ⟨g,avs,ts,rfl,hw⟩ mV
theorem K3{c0 i:Nat}{st:ST}{K:ST→Prop}{U:Nat→Prop}(IJ:∀o,ops[i]? = some o→cT E o.op=true→¬U (c0+rk E ops.toList i))(h:O7 E md ops c0 i K st){a:Act}{w:World}(hR:mD w0 S0 m G U st.f st.rows a w)(hd:∀o,o∈ops → ∀t,o.dst=some t→t<m)
  {K':Act→World→Prop} {Q:Exit→Act→World→Prop} (hK:∀IU a' w',K IU→mD w0 S0 m G (fun v=>(v=c0+rk E ops.toList i ∧ ∃o,ops[i]? = some o∧cT E o.op=true)∨U v) IU.f IU.rows a' w'→K' a' w'):wpOp E.P ops Q i K' a w:=by
 unfold O7 at h
 unfold wpOp
 split at h
 ·rename_i hi;simp only [hi];exact hK _ _ _ h (hR.mono fun v hv => .inr hv)
 ·rename_i o hi
  simp only [hi]
  obtain⟨b,v,u,⟨hg,hy⟩,ho,hk⟩:=h
  have jP:=hR
  obtain⟨⟨c,rfl,hr,eX,hI,hf,hG⟩,hn,eC⟩:=hR
  have V3:=hd o (Array.mem_of_getElem? hi)
  have aaa:Region.wanted o (yielded ops a.tmps)=b:=by
   unfold VX at hg
   unfold Region.wanted
   cases V4:o.guard with
   | none=>rw [V4]at hg;simp only at hg ⊢;exact hg.symm
   | some x =>
    obtain⟨j,want⟩:=x
    rw [V4]at hg
    simp only at hg ⊢
    obtain⟨d,h1,h2⟩:=hg
    have hx:=hf d
    rcases h2 with ⟨h2,h3⟩ | ⟨h2 | h2,h3⟩
    ·rw [h2]at hx
     rw [fM h1 hx,h3]
     cases want<;>rfl
    ·rw [h2]at hx
     rw [fM h1 hx,h3]
     cases want<;>rfl
    ·rw [h2]at hx
     rw [pC h1 hx,h3]
     rfl
  by_cases hb:b=true
  ·subst hb
   rw [if_pos rfl]at hy
   rw [aaa,if_pos rfl]
   left
   cases mQ:cT E o.op with
   | true =>
    refine PC (IJ o hi mQ) mQ (IM (fun id _ r i7=>(iX.1 i7).2) hy).1 jP V3 fun a' w' hR2=>hK _ _ _ hk ?_
    exact hR2.mono fun v hv=>hv.imp (fun h=>⟨h,o,by first | exact hi | rfl,mQ⟩) fun h=>h
   | false =>
    rw [uK mQ]at hy
    have E4:ys E o.op (aN st.f) c.rows v u:=by
     rw [hr]
     exact(Z6 (fun id _ r i7=>(iX.1 i7).2) hy).1
    refine BT hI hf E4 fun v' c' h1 h2 h3 h4 h5=>hK _ _ _ hk ?_
    refine kU hf hG hn eC h3 h4 h5 V3 rfl ?_ ?_
    ·simp only [app]
     rw [h1,hr]
    ·rw [h2]
     exact fun v hv => .inr (eX v hv)
  ·rw [if_neg hb]at hy
   obtain⟨rfl,rfl⟩:=hy
   rw [aaa,if_neg hb]
   refine hK _ _ _ hk ?_
   have wS:b=false:=by simpa using hb
   subst wS
   exact kU hf hG hn eC (oF.refl c) hI F4 V3 rfl (by rw [hr];rfl) (fun v hv => .inr (eX v hv))
def Ul(E:Env)(ops:Array Oper)(c0 n:Nat)(aY:Array Bool):Nat→Prop:=fun v=>v<c0 ∨ ∃k o,k<n∧ops[k]? = some o∧cT E o.op=true∧v=c0+rk E ops.toList k∧aY.getD k false=true
theorem PE{c0 n v:Nat}{aY:Array Bool}(h:Ul E ops c0 n aY v):v<c0+rk E ops.toList n:=by
 rcases h with h | ⟨k,o,hk,ho,hn,rfl,_⟩
 ·omega
 ·have:=O4 (ops:=ops.toList) (by simpa using ho) hn hk
  omega
theorem kP{c0 n g:Nat}{L:Array Bool→ST→Prop}{Q:Exit→Act→World→Prop}(hd:∀o,o∈ops → ∀t,o.dst=some t→t<m)
  (hL:∀aY (st:ST) a w,L aY st→mD w0 S0 m G (Ul E ops c0 n aY) st.f st.rows a w→wpAny E.P md ops Q g aY a w) :
  ∀(f:Nat) (aY:Array Bool) (st:ST) (a:Act) (w:World),n≤aY.size→B0 E md ops c0 n L f aY st→mD w0 S0 m G (Ul E ops c0 n aY) st.f st.rows a w→wpAny E.P md ops Q (f+g) aY a w
 | 0,aY,st,a,w,_,h,hR=>by rw [Nat.zero_add];exact hL _ _ _ _ h hR
 | f+1,aY,st,a,w,lF,h,hR=>by
  rw [show f+1+g=(f+g)+1 by omega]
  refine⟨fun h0=>absurd h0 h.1,fun i hi=>?_⟩
  have IW:=(mem_ready.1 hi).1
  obtain⟨hin,hq⟩:=h.2 i hi
  refine K3 (fun o ho hn hU=>?_) hq hR hd fun IU a' w' h' jP=>kP hd hL f _ IU a' w' (by simpa using lF) h' (jP.mono fun v hv=>?_)
  ·rcases hU with hU | ⟨k,o',hk,ho',U1,he,hl⟩
   ·omega
   ·have:=ab5 (ops:=ops.toList) (by simpa using ho) hn (by simpa using ho') U1 (by omega)
    subst this
    rw [getD_both IW]at hl;cases hl
  ·rcases hv with ⟨rfl,o,ho,hn⟩ | hv
   ·exact .inr ⟨i,o,hin,ho,hn,rfl,by simp [show i<aY.size by omega]⟩
   ·rcases hv with hv | ⟨k,o,hk,ho,hn,he,hl⟩
    ·exact .inl hv
    ·refine .inr ⟨k,o,hk,ho,hn,he,?_⟩
     by_cases V2:i=k
     ·subst V2;simp [show i<aY.size by omega]
     ·simpa [Array.getElem?_setIfInBounds_ne V2]using hl
end
def aH(E:Env)(ops:List Oper):List Oper→(PS→Prop)→PS→Prop
 | [],K,σ=>K σ
 | o::os,K,σ =>
  match o.guard with
  | none=>dO E o (aH E ops os K) σ
  | some (j,want) =>
   match (ops[j]?).bind (·.dst)with
   | none=>False
   | some d=>(σ.f d = .bool want∧dO E o (aH E ops os K) σ)∨((σ.f d = .bool (!want)∨σ.f d = .eQ [])∧aH E ops os K (σ.put o.dst (.eQ [])))
def aJ(E:Env)(ops:List Oper)(clk:Nat):Nat→List Oper→(PS→Prop)→ST→Prop
 | _,[],K,st=>K ⟨st.f,st.rows,clk⟩
 | k,o::os,K,st =>
  match o.guard with
  | none=>∃v u,yn E clk o.dst o.op (aN st.f) (dC .any ops k st.wl st.rows) v u∧BU .any ops k u st.bI∧aJ E ops (fR E o.op clk) (k+1) os K (app k o true v u st)
  | some (j,want) =>
   match (ops[j]?).bind (·.dst)with
   | none=>False
   | some d=>(st.f d = .bool want ∧ ∃v u,yn E clk o.dst o.op (aN st.f) (dC .any ops k st.wl st.rows) v u∧BU .any ops k u st.bI∧aJ E ops (fR E o.op clk) (k+1) os K (app k o true v u st))∨((st.f d = .bool (!want)∨st.f d = .eQ [])∧aJ E ops clk (k+1) os K (app k o false (.eQ []) none st))
def eJ(E:Env)(tl:Nat)(ops:List Oper)(K:PS→Prop)(σ:PS):Prop:=
 if tl=0 then aJ E ops σ.clock 0 ops K ⟨σ.f,σ.rows,fun _ _=>False,fun _ _=>False⟩
 else aJ E ops σ.clock 0 (ops.take (ops.length-tl)) (aH E ops (ops.drop (ops.length-tl)) K) ⟨σ.f,σ.rows,fun _ _=>False,fun _ _=>False⟩
inductive PX where
 | normal
 | exit (id:Nat)
 | ret
def wZ(K:PS→Prop)(Q:PX→PS→Prop):PX→PS→Prop
 | .normal,σ=>K σ
 | .exit id,σ=>Q (.exit id) σ
 | .ret,σ=>Q .ret σ
def w5(id:Nat)(Q:PX→PS→Prop):PX→PS→Prop
 | .normal,σ=>Q .normal σ
 | .exit j,σ=>if j=id then Q .normal σ else Q (.exit j) σ
 | .ret,σ=>Q .ret σ
def uQ(E:Env)(n tl:Nat)(ops:Array Oper)(draw:Bool):Bool:=
 (ops.all fun o=>match o.dst with | some d=>decide (d<n) | none=>true) &&
 (!draw || (rG E (if tl=0 then ops.toList else ops.toList.take (ops.size-tl))&&(if tl=0 then Region.noSelect ops&&Region.lexHead .any ops 0 ops.size 0 (Array.replicate ops.size false)else decide (tl≤ops.size)&&Region.lexTailB .any ops (ops.size-tl))))
def dU(E:Env)(n:Nat)(tl:Nat→Nat):Code→Bool
 | .region id ops draw=>uQ E n (tl id) ops draw
 | .seq a b=>dU E n tl a&&dU E n tl b
 | .cond _ t e=>dU E n tl t&&dU E n tl e
 | .block _ c=>dU E n tl c
 | .loop c=>dU E n tl c
 | _=>true
section
variable {E:Env} {w0:World} {S0:cY} {n:Nat} {G:Gs}
theorem gI{ops:Array Oper}{K:PS→Prop}{Q:Exit→Act→World→Prop}(hK:∀σ' a' w',K σ'→Rel w0 S0 n G σ' a' w'→Q .normal a' w') :
  ∀(l:List Oper) (σ:PS) (a:Act) (w:World),(∀o∈l,∀t,o.dst=some t→t<n)→aH E ops.toList l K σ→Rel w0 S0 n G σ a w→wpList E.P ops Q l a w
 | [],σ,a,w,_,h,hR=>hK _ _ _ h hR
 | o::os,σ,a,w,hd,h,hR=>by
  have V3:=hd o (by simp)
  have hds:∀o∈os,∀t,o.dst=some t→t<n:=fun o ho=>hd o (by simp [ho])
  have wanted:∀ {σ},dO E o (aH E ops.toList os K) σ→Rel w0 S0 n G σ a w→o.wp E.P a w (wpList E.P ops Q os) Q:=fun hp hR =>
   r7 hp hR V3 fun σ' a' w' hk jP=>gI hK os σ' a' w' hds hk jP
  unfold wpList
  simp only [aH]at h
  split at h
  ·rename_i hg
   rw [if_pos (by simp [Region.wanted,hg])]
   exact .inl (wanted h hR)
  ·rename_i j want hg
   split at h
   ·exact h.elim
   ·rename_i d K4
    have U3:(ops[j]?).bind (·.dst)=some d:=by simpa using K4
    have skip:yielded ops a.tmps j≠some want→aH E ops.toList os K (σ.put o.dst (.eQ []))→(if Region.wanted o (yielded ops a.tmps)=true then o.wp E.P a w (wpList E.P ops Q os) Q∨(o.asks E.P a w∧LetsOut Q)else wpList E.P ops Q os (a.put o.dst undef) w):=by
     intro hy h2
     rw [if_neg (by simpa [Region.wanted,hg]using hy)]
     refine gI hK os _ _ w hds h2 ?_
     obtain⟨⟨c,rfl,hr,eX,hI,hf,hG⟩,hn,eC⟩:=hR
     exact lH hf hG hn eC (oF.refl c) hI F4 V3 rfl (by simp [PS.put,hr]) eX
    obtain⟨c,_,_,_,_,hf,_⟩:=hR.ex
    have hx:=hf d
    rcases h with ⟨h1,h2⟩ | ⟨h1 | h1,h2⟩
    ·rw [h1]at hx
     rw [if_pos (by simp [Region.wanted,hg,fM U3 hx])]
     exact .inl (wanted h2 hR)
    ·rw [h1]at hx
     exact skip (by rw [fM U3 hx];cases want<;>simp) h2
    ·rw [h1]at hx
     exact skip (by rw [pC U3 hx];simp) h2
theorem mW{ops:Array Oper}{c0:Nat}{K:PS→Prop}:∀(l:List Oper) (k clk:Nat) (st:ST),(∀j,j<l.length→l[j]? = ops[k+j]?)→rG E l=true→clk=c0+rk E ops.toList k→aJ E ops.toList clk k l K st→aca E .any ops c0 (fun st=>K ⟨st.f,st.rows,c0+rk E ops.toList (k+l.length)⟩) k l st
 | [],k,clk,st,_,_,hc,h=>by subst hc;exact h
 | o::os,k,clk,st,hl,hnd,hc,h=>by
  have acb:rG E os=true:=by simp only [rG,List.all_cons,Bool.and_eq_true]at hnd ⊢;exact hnd.2
  have anu:o.guard≠none→cT E o.op=false:=fun hg=>by
   simp only [rG,List.all_cons,Bool.and_eq_true]at hnd
   cases hn:cT E o.op with
   | false=>rfl
   | true=>have:=hnd.1;rw [hn]at this;simp at this;exact absurd this.2 hg
  have h0:ops[k]? = some o:=by simpa using(hl 0 (by simp)).symm
  have wP:fR E o.op clk=c0+rk E ops.toList (k+1):=by rw [hc];exact VY (by simpa using h0)
  have hl1:∀j,j<os.length→os[j]? = ops[k+1+j]? := fun j hj=>by have:=hl (j+1) (by simp;omega);simpa [Nat.add_assoc,Nat.add_comm 1 j]using this
  have e1:k+(o::os).length=k+1+os.length:=by simp only [List.length_cons];omega
  rw [e1]
  simp only [aJ]at h
  split at h
  ·rename_i hg
   obtain⟨v,u,h1,h2,h3⟩:=h
   exact⟨true,v,u,⟨by simp [VX,hg],by rw [if_pos rfl,←hc];exact h1⟩,h2,mW os _ _ _ hl1 acb wP h3⟩
  ·rename_i j want hg
   split at h
   ·exact h.elim
   ·rename_i d K4
    have U3:(ops[j]?).bind (·.dst)=some d:=by simpa using K4
    rcases h with ⟨h1,v,u,q1,q2,q3⟩ | ⟨h1,h2⟩
    ·exact⟨true,v,u,⟨by simp only [VX,hg];exact⟨d,U3, .inl ⟨h1,trivial⟩⟩,by rw [if_pos rfl,←hc];exact q1⟩,q2,mW os _ _ _ hl1 acb wP q3⟩
    ·exact⟨false, .eQ [],none,⟨by simp only [VX,hg];exact⟨d,U3, .inr ⟨h1,trivial⟩⟩,by simp⟩,trivial,mW os _ _ _ hl1 acb (by rw [←wP,uM (anu (by rw [hg];simp))]) h2⟩
theorem Rel.drew{σ:PS}{a:Act}{w:World}(h:Rel w0 S0 n G σ a w):Rel w0 S0 n G σ a { w with drawn:=w.drawn+1 }:=by
 obtain⟨⟨c,rfl,hr,eX,hI,hf,hG⟩,hn,eC⟩:=h
 obtain⟨rB,hA⟩:=hI.grow (w':={ c.w with drawn:=c.w.drawn+1 }) (S':=c.S) ⟨rfl,rfl,rfl,Nat.le_refl _,fun _ _=>rfl⟩ (fun _ _ h=>h) (fun _ _ h => .inl h)
 exact⟨⟨{ c with w:={ c.w with drawn:=c.w.drawn+1 } },rfl,hr,eX,rB,fun s=>aF.o6 hA _ _ (hf s),fun p hp=>aF.o6 hA _ _ (hG p hp)⟩,hn,eC⟩
theorem oU{id tl:Nat}{ops:Array Oper}{K:PS→Prop}{Q:Exit→Act→World→Prop}(fD:uQ E n tl ops true=true){σ:PS}{a:Act}{w:World}(h:eJ E tl ops.toList K σ)(hR:Rel w0 S0 n G σ a w)
  (hK:∀σ' a' w',K σ'→Rel w0 S0 n G σ' a' w'→Q .normal a' w'):(Code.region id ops true).wp E.P Q a w:=by
 simp only [uQ,Bool.and_eq_true,Bool.not_true,Bool.false_or]at fD
 obtain⟨anv,xS,fD⟩:=fD
 have hd:∀o,o∈ops → ∀t,o.dst=some t→t<n:=by
  intro o ho t ht
  have:=Array.all_eq_true_iff_forall_mem.1 anv o ho
  simpa [ht]using this
 refine wp_region_any E.mixed ?_
 have F6:=hR.drew
 have hU0:∀k (l:Array Bool),mD w0 S0 n G (Ul E ops σ.clock k l) σ.f σ.rows a { w with drawn:=w.drawn+1 }:=fun k l=>F6.mono fun v hv => .inl hv
 have ahG:∀(l:List Oper),rG E l=true → ∀(i:Nat) (oi:Oper),l[i]? = some oi→cT E oi.op=true→oi.dst.isSome=true:=fun l h i oi hi hn=>by
  have:=List.all_eq_true.1 h oi (List.mem_of_getElem? hi)
  rw [hn]at this;simp at this;exact Option.isSome_iff_exists.2 (by obtain⟨x,hx⟩:=Option.isSome_iff_exists.1 this.1;exact⟨x,hx⟩)
 unfold eJ at h
 by_cases htl:tl=0
 ·rw [if_pos htl]at h fD xS
  have mQ:∀i oi,i<ops.size→ops[i]? = some oi→cT E oi.op=true→oi.dst.isSome=true:=fun i oi _ hi=>ahG _ xS i oi (by simpa using hi)
  simp only [Bool.and_eq_true]at fD
  have hl:=mW (c0:=σ.clock) ops.toList 0 _ _ (by simp) xS (by simp [rk]) h
  have ace:HeadInv .any ops ops.size (Array.replicate ops.size false):=
   ⟨by simp,fun j oj _ hl=>(by rw [getD_replicate_false]at hl;cases hl),fun t h1 h2=>by omega⟩
  have uP:∀aY,HeadInv .any ops ops.size aY → ∀i,i<ops.size→aY.getD i true=false → ∀t,ops.size≤t→t ∉ Region.ready .any ops aY:=by
   intro aY _ i _ _ t ht hr
   obtain⟨_,o,ho,_⟩:=mem_ready.1 hr
   have:=(Array.getElem?_eq_some_iff.1 ho).1
   omega
  have H:=rH (E:=E) (md:=.any) (g:=0) mQ uP ops.toList 0 _ _ (by simp) (by simp) ace (by simpa using fD.2) hl
  have:=kP (E:=E) (md:=.any) (g:=0) (Q:=Q) (m:=n) hd (fun aY st a' w' hL jP=>by
   obtain⟨h1,h2⟩:=hL
   exact⟨by simpa [Region.seqB]using h1,hK _ _ _ h2 (jP.mono fun v hv=>by have:=PE hv;simpa using this)⟩) _ _ _ _ _ (by simp) H (hU0 _ _)
  simpa using this
 ·rw [if_neg htl]at h fD xS
  have mQ:∀i oi,i<ops.size-tl→ops[i]? = some oi→cT E oi.op=true→oi.dst.isSome=true:=fun i oi h1 hi=>ahG _ xS i oi (by rw [List.getElem?_take,if_pos h1];simpa using hi)
  simp only [Bool.and_eq_true,decide_eq_true_eq]at fD
  obtain⟨hle,hB⟩:=fD
  simp only [Region.lexTailB,Bool.and_eq_true,decide_eq_true_eq]at hB
  obtain⟨⟨⟨⟨as2,U1⟩,hs⟩,hc⟩,anw⟩:=hB
  have hlen:ops.toList.length=ops.size:=by simp
  rw [hlen]at h
  have hl:=mW (c0:=σ.clock) (ops.toList.take (ops.size-tl)) 0 _ _ (fun j hj=>by
   have hj':j<ops.size-tl:=by simpa using hj
   simp [hj']) xS (by simp [rk]) h
  have ace:HeadInv .any ops (ops.size-tl) (Array.replicate ops.size false):=
   ⟨by simp,fun j oj _ hl=>(by rw [getD_replicate_false]at hl;cases hl),fun t _ ht=>getD_in (by simpa using ht) (getD_replicate_false _ _)⟩
  have K5:(ops.toList.take (ops.size-tl)).length=ops.size-tl:=by simp
  have hdl:(ops.toList.drop (ops.size-tl)).length=ops.size-(ops.size-tl):=by simp
  have H:=rH (E:=E) (md:=.any) (n:=ops.size-tl) (g:=ops.size-(ops.size-tl)) mQ (fun aY inv i hi IW t ht=>tail_waits hs hc U1 inv _ i rfl hi IW t ht) (ops.toList.take (ops.size-tl)) 0 _ _ (fun j hj=>by
   rw [K5]at hj
   simp [hj]) (by rw [K5];simp) ace (by rw [K5];exact anw) hl
  have:=kP (E:=E) (md:=.any) (g:=ops.size-(ops.size-tl)) (Q:=Q) (m:=n) hd (fun aY st a' w' hL jP=>by
   obtain⟨h1,h2⟩:=hL
   have h3:=gI (ops:=ops) (Q:=Q) hK (ops.toList.drop (ops.size-tl)) _ a' w' (fun o ho=>hd o (by simpa using List.mem_of_mem_drop ho)) h2 (jP.mono fun v hv=>by have:=PE hv;simpa using this)
   have h4:=wpAny_of_seq (md:=.any) (Q':=Q) (ops.toList.drop (ops.size-tl)) (ops.size-tl) aY a' w' (fun j=>by simp [List.getElem?_drop]) (by rw [hdl];exact h1) h3
   rwa [hdl]at h4) _ _ _ _ _ (by simp) H (hU0 _ _)
  rw [K5,show ops.size-tl+(ops.size-(ops.size-tl))=ops.size by omega]at this
  exact this
def acf:PX→Exit
 | .normal => .normal
 | .exit id => .exit id
 | .ret => .ret
end
def l4(E:Env)(σ:PS):List ResultVar→(List PV→Prop)→Prop
 | [],K=>K []
 | .tmp t::rs,K=>l4 E σ rs fun vs=>K (σ.f t::vs)
 | .cell a t::rs,K=>∃v,oK E t σ.rows (σ.f a) v∧l4 E σ rs fun vs=>K (v::vs)
def B2:List PV→PV
 | [x]=>x
 | l => .eQ l
def PF(E:Env)(rs:List ResultVar)(r:PV)(σ:PS):Prop:=
 l4 E σ rs fun vs=>dG σ.rows (vs.flatMap cW)∧(vs.map (pz σ.rows)).all eR=true∧r=B2 (vs.map (pz σ.rows))
def PG(E:Env)(rs:List ResultVar)(r:PV):PX→PS→Prop
 | .normal,σ=>PF E rs r σ
 | .ret,σ=>PF E rs r σ
 | .exit _,_=>False
def xT(args:List PV):PS:=⟨fun s=>args.getD s .undef,fun _=>none,0⟩
section
variable {E:Env} {w0:World} {S0:cY} {c:Cx}
theorem nX(hI:Inv w0 S0 c){clk:Nat}{a:Act}{f:Nat→PV}(hf:∀s,aF c (f s) (a.tmps.getD s undef)){g:ResultVar→Sem Value}(PH:∀t,g (.tmp t)=pure (a.tmps.getD t undef))
  (s0:∀x t,g (.cell x t)=do loadVar t (←asAddr (a.tmps.getD x undef))):∀(rs:List ResultVar) (K:List PV→Prop),l4 E ⟨f,c.rows,clk⟩ rs K →
  ∃vs us,K vs∧a6 (aF c) vs us∧(rs.mapM g:Sem (List Value)).run E.P c.w = .ok us c.w
 | [],K,h=>⟨[],[],h,trivial,by simp⟩
 | .tmp t::rs,K,h=>by
  obtain⟨vs,us,h1,h2,h3⟩:=nX hI hf PH s0 rs _ h
  exact⟨f t::vs,a.tmps.getD t undef::us,h1,⟨hf t,h2⟩,by
   rw [List.mapM_cons,PH,Sem.run_bind,Sem.run_pure,Result.andThen_ok,Sem.run_bind,h3,Result.andThen_ok,Sem.run_pure]⟩
 | .cell x t::rs,K,h=>by
  obtain⟨v,hv,h⟩:=h
  obtain⟨vs,us,h1,h2,h3⟩:=nX hI hf PH s0 rs _ h
  obtain⟨u,hu,hr⟩:=xK hI (hf x) hv
  refine⟨v::vs,u::us,h1,⟨hr,h2⟩,?_⟩
  have ON:(do loadVar t (←asAddr (a.tmps.getD x undef)):Sem Value).run E.P c.w = .ok u c.w:=by
   simp only [Instr.loadAt,Sem.run_bind]at hu ⊢
   cases hx:a.tmps.getD x undef with
   | pointer p =>
    cases p with
    | some ad=>rw [hx]at hu;simpa [Instr.sureAddr,asAddr]using hu
    | none=>rw [hx]at hu;simp [Instr.sureAddr,stuck,Result.andThen]at hu
   | _=>rw [hx]at hu;simp [Instr.sureAddr,stuck,Result.andThen]at hu
  rw [List.mapM_cons,s0]
  simp only [Sem.run_bind]at ON ⊢
  rw [ON,Result.andThen_ok,h3,Result.andThen_ok,Sem.run_pure]
theorem F7{uR:FuncId}{fn:Func}{code:Code}{args:List PV}{r:PV}(h1:E.P.funcs[uR]? = some fn)(h2:fn.body=some code) (h3:(fn.name == "runtime.NumGoroutine") = false) (eI:args.length≤fn.ntmps)
  (h:∀(w0:World) (S0:cY) (a:Act) (w:World) (Q':Exit→Act→World→Prop),Rel w0 S0 fn.ntmps Gs.none (xT args) a w→(∀x σ' a' w',PG E fn.results.toList r x σ'→Rel w0 S0 fn.ntmps Gs.none σ' a' w'→Q' (acf x) a' w')→code.wp E.P Q' a w):aZ E.P uR args r:=by
 refine⟨⟨fn,code,h1,h2,h3⟩,fun w S vs hS eS=>?_⟩
 have uD:=b5.1 eS
 refine calls_of_wp h1 h2 ?_
 have FG:vs.length=args.length:=uD.length.symm
 let c0:Cx:=⟨S,w,fun _ => .slice none 0 0,fun _=>none,fun _=>False⟩
 have hI0:Inv w S c0:=⟨Below.refl _ _,fun _ _ h=>h,fun _ _ h => .inl h,hS,fun _ _ h=>by simp [c0]at h,fun _ _ h=>by simp [c0]at h,fun _ _ _ _ _ h=>by simp [c0]at h⟩
 have F6:Rel w S fn.ntmps Gs.none (xT args) { tmps:=vs.toArray++Array.replicate (fn.ntmps-vs.toArray.size) undef,defers:=[] } w:=by
  refine⟨⟨c0,rfl,rfl,fun _ h=>h.elim,hI0,fun s=>?_,fun p hp=>(Gs.BQ hp).elim⟩,by simp;omega,rfl⟩
  simp only [xT]
  by_cases hs:s<args.length
  ·obtain⟨u,hu,hr⟩:=uD.get (List.getElem?_eq_getElem hs)
   have e1:args.getD s .undef=args[s]:=by simp [List.getD,List.getElem?_eq_getElem hs]
   have e2:(vs.toArray++Array.replicate (fn.ntmps-vs.toArray.size) undef).getD s undef=u:=by
    have:s<vs.length:=by omega
    simp [this]at hu ⊢
    simp [Array.getElem?_append,this,hu]
   rw [e1]
   show aF c0 args[s] ((vs.toArray++Array.replicate (fn.ntmps-vs.toArray.size) undef).getD s undef)
   rw [e2]
   exact aF.gB hr
  ·have e1:args.getD s .undef = .undef:=by simp [List.getD,List.getElem?_eq_none (show args.length≤s by omega)]
   rw [e1]
   simp [aF,aM]
 refine h _ _ _ _ _ F6 ?_
 have fin:∀σ' a' w',PF E fn.results.toList r σ'→Rel w S fn.ntmps Gs.none σ' a' w'→a'.defers = [] ∧ ∃v,(results fn a'.tmps).run E.P w' = .ok v w'∧(∃v',Ending.returned v = .returned v'∧Below w.heap.size w w' ∧
   ∃S':cY,(∀b o,S b o→S' b o)∧(∀b o,S' b o→S b o∨(w.heap.size≤b∧b<w'.heap.size))∧cG S' w' r v'):=by
  rintro σ' a' w' hp ⟨⟨c,rfl,hr,eX,hI,hf,_⟩,hn,eC⟩
  refine⟨eC,?_⟩
  unfold PF at hp
  have sZ:l4 E ⟨σ'.f,c.rows,σ'.clock⟩ fn.results.toList fun vs=>dG c.rows (vs.flatMap cW)∧(vs.map (pz c.rows)).all eR=true∧r=B2 (vs.map (pz c.rows)):=by
   rw [hr];exact hp
  have ahI:∃vs us,(dG c.rows (vs.flatMap cW)∧(vs.map (pz c.rows)).all eR=true∧r=B2 (vs.map (pz c.rows)))∧a6 (aF c) vs us ∧
    (results fn a'.tmps).run E.P c.w = .ok (if h:us.toArray.size=1 then us.toArray[0]else .tuple us.toArray) c.w:=by
   have key:∀g:ResultVar→Sem Value,(∀t,g (.tmp t)=pure (a'.tmps.getD t undef))→(∀x t,g (.cell x t)=do loadVar t (←asAddr (a'.tmps.getD x undef))) →
     ∃vs us,(dG c.rows (vs.flatMap cW)∧(vs.map (pz c.rows)).all eR=true∧r=B2 (vs.map (pz c.rows)))∧a6 (aF c) vs us ∧
      (do let vs ←fn.results.mapM g;pure (if h:vs.size=1 then vs[0]else .tuple vs):Sem Value).run E.P c.w = .ok (if h:us.toArray.size=1 then us.toArray[0]else .tuple us.toArray) c.w:=by
    intro g PH s0
    obtain⟨vs,us,g1,g4,g5⟩:=nX hI hf PH s0 _ _ sZ
    refine⟨vs,us,g1,g4,?_⟩
    have:(fn.results.mapM g).run E.P c.w = .ok us.toArray c.w:=by
     rw [Array.mapM_eq_mapM_toList]
     simp [g5]
    rw [Sem.run_bind,this,Result.andThen_ok,Sem.run_pure]
   unfold results
   exact key _ (fun _=>rfl) (fun _ _=>rfl)
  obtain⟨vs,us,⟨g1,g2,g3⟩,g4,gG⟩:=ahI
  have BS:=hI.freeze (vs.flatMap cW)
  have pD:a6 (cG (FR c (vs.flatMap cW)) c.w) (vs.map (pz c.rows)) us:=by
   refine a6.cO (by simp [g4.length]) fun k p u hp hu=>?_
   simp at hp
   obtain⟨q,hq,rfl⟩:=hp
   obtain⟨u',q1,q2⟩:=g4.get hq
   rw [hu]at q1;cases q1
   exact y8 hI g1 q2 (fun id eT=>by simp only [List.mem_flatMap];exact⟨q,List.mem_of_getElem? hq,eT⟩) (List.all_eq_true.1 g2 _ (by simp;exact⟨q,List.mem_of_getElem? hq,rfl⟩))
  refine⟨_,gG,_,rfl,hI.below,FR c (vs.flatMap cW),fun b o h=>BS.ext b o h,fun b o h=>BS.new b o h,?_⟩
  rw [g3]
  have hl:=pD.length
  cases hm:vs.map (pz c.rows)with
  | nil =>
   rw [hm]at pD hl
   have:us = []:=List.eq_nil_of_length_eq_zero (by simpa using hl.symm)
   subst this
   simp only [B2,cG]
   exact⟨[],by simp,by simp [a7]⟩
  | cons p ps =>
   rw [hm]at pD hl
   match us,pD with
   | u::us,pD =>
    cases ps with
    | nil =>
     match us,pD with
     | [],pD=>simpa [B2]using pD.1
    | cons q qs =>
     have h2:¬(u::us).toArray.size=1:=by simp at hl ⊢;intro h;subst h;simp at hl
     rw [dif_neg h2]
     simp only [B2,cG]
     exact⟨_,rfl,b5.2 pD⟩
 intro x σ' a' w' hx jP
 cases x with
 | normal=>exact fin σ' a' w' hx jP
 | ret=>exact fin σ' a' w' hx jP
 | exit id=>exact hx.elim
end
section
variable {P:Program} {t:TypeId}
theorem aA{n:Nat}{v:Value}{z:List PV}(h:(P.info? t).bind (fun i=>i.zero.map fun v=>(i.size,v))=some (n,v))(hz:v.cells.toList.map gC=z)(h1:v.cells.all (·.oneCell')=true)(hl:z.length=n)(hp:0<n):jG P t n z:=by
 refine⟨?_,hl,hp⟩
 cases hi:P.info? t with
 | none=>simp [hi]at h
 | some i =>
  cases o9:i.zero with
  | none=>simp [hi,o9]at h
  | some v0 =>
   simp [hi,o9]at h
   obtain⟨rfl,rfl⟩:=h
   exact⟨i,v0,rfl,o9,rfl,hz,h1⟩
theorem bJ{b:Nat}(h:(P.info? t).map (·.bytes)=some b):∃i,P.info? t=some i∧i.bytes=b:=by
 cases hi:P.info? t with
 | none=>simp [hi]at h
 | some i=>exact⟨i,rfl,by simpa [hi]using h⟩
theorem xU{n:Nat}(h:(P.info? t).map (·.size)=some n):∃i,P.info? t=some i∧i.size=n:=by
 cases hi:P.info? t with
 | none=>simp [hi]at h
 | some i=>exact⟨i,rfl,by simpa [hi]using h⟩
theorem PJ(h:(P.underlying t).isSome=true):∃d,P.underlying t=some d:=Option.isSome_iff_exists.1 h
def F8(P:Program)(f:Field)(x:Nat × Nat × Bool):Bool:=
 f.offset==x.1&&(P.info? f.type).map (·.size)==some x.2.1&&decide (0<x.2.1)&&mJ P f.type==x.2.2&&(P.underlying f.type).isSome
def nY(P:Program):List Field→List (Nat × Nat × Bool)→Bool
 | [],[]=>true
 | f::fs,x::xs=>F8 P f x&&nY P fs xs
 | _,_=>false
theorem K6{f:Field}{x:Nat × Nat × Bool}(h:F8 P f x=true):j9 P f x:=by
 simp only [F8,Bool.and_eq_true,beq_iff_eq,decide_eq_true_eq]at h
 obtain⟨⟨⟨⟨h1,h2⟩,h3⟩,h4⟩,h5⟩:=h
 exact⟨h1,xU h2,h3,h4,PJ h5⟩
theorem uS:∀ {fs:List Field} {xs:List (Nat × Nat × Bool)},nY P fs xs=true→a6 (j9 P) fs xs
 | [],[],_=>trivial
 | f::fs,x::xs,h=>by
  simp only [nY,Bool.and_eq_true]at h
  exact⟨K6 h.1,uS h.2⟩
 | [],_::_,h=>by simp [nY]at h
 | _::_,[],h=>by simp [nY]at h
def IY(P:Program)(t:TypeId)(xs:List (Nat × Nat × Bool)):Bool:=
 match P.underlying t with
 | some (.struct fields)=>nY P fields.toList xs
 | _=>false
theorem aP{xs:List (Nat × Nat × Bool)}(h:IY P t xs=true):∃fields:Array Field,P.underlying t=some (.struct fields)∧a6 (j9 P) fields.toList xs:=by
 unfold IY at h
 split at h
 ·rename_i fields hu;exact⟨fields,hu,uS h⟩
 ·cases h
end
def W(E:Env)(n:Nat)(tl:Nat→Nat)(c:Code)(Q:PX→PS→Prop)(σ:PS):Prop:=
 dU E n tl c=true → ∀(w0:World) (S0:cY) (G:Gs) (a:Act) (w:World) (Q':Exit→Act→World→Prop),Rel w0 S0 n G σ a w →
  (∀x σ' a' w',Q x σ'→Rel w0 S0 n G σ' a' w'→Q' (acf x) a' w')→c.wp E.P Q' a w
def Gh(n:Nat)(σ σ':PS):Prop:=∀(w0:World) (S0:cY) (G:Gs) (a:Act) (w:World),Rel w0 S0 n G σ a w→Rel w0 S0 n G σ' a w
section
variable {E:Env} {n:Nat} {tl:Nat→Nat} {Q:PX→PS→Prop} {σ:PS}
theorem W.ghost{c:Code}{σ':PS}(h:Gh n σ σ')(hw:W E n tl c Q σ'):W E n tl c Q σ:=fun fD w0 S0 G a w Q' hR hQ=>hw fD w0 S0 G a w Q' (h _ _ _ _ _ hR) hQ
theorem W.mono{c:Code}{Q2:PX→PS→Prop}(hw:W E n tl c Q2 σ)(h:∀x σ,Q2 x σ→Q x σ):W E n tl c Q σ:=fun fD w0 S0 G a w Q' hR hQ=>hw fD w0 S0 G a w Q' hR fun x σ' a' w' hx=>hQ x σ' a' w' (h x σ' hx)
theorem W.skip(h:Q .normal σ):W E n tl .skip Q σ:=fun _ _ _ _ a w _ hR hQ=>wp_skip (hQ .normal σ a w h hR)
theorem W.ret(h:Q .ret σ):W E n tl .ret Q σ:=fun _ _ _ _ a w _ hR hQ=>wp_ret (hQ .ret σ a w h hR)
theorem W.exit{id:Nat}(h:Q (.exit id) σ):W E n tl (.exit id) Q σ:=fun _ _ _ _ a w _ hR hQ=>wp_exit (hQ (.exit id) σ a w h hR)
theorem W.B3{id:Nat}{ops:List Oper}(h:∀K:PS→Prop,(∀σ,Q .normal σ→K σ)→aH E ops ops K σ):W E n tl (.region id ops.toArray false) Q σ:=by
 intro fD w0 S0 G a w Q' hR hQ
 simp only [dU,uQ,Bool.and_eq_true]at fD
 refine wp_region_list (gI (fun σ' a' w' hk jP=>hQ .normal σ' a' w' hk jP) _ σ a w (fun o ho t ht=>?_) (h _ fun _ h=>h) hR)
 have:=Array.all_eq_true_iff_forall_mem.1 fD.1 o (by simpa using ho)
 simpa [ht]using this
theorem W.PK{id:Nat}{ops:List Oper}(h:∀K:PS→Prop,(∀σ,Q .normal σ→K σ)→eJ E (tl id) ops K σ):W E n tl (.region id ops.toArray true) Q σ:=by
 intro fD w0 S0 G a w Q' hR hQ
 exact oU (by simpa [dU]using fD) (h _ fun _ h=>h) hR fun σ' a' w' hk jP=>hQ .normal σ' a' w' hk jP
theorem W.seq{x y:Code}(h:W E n tl x (wZ (W E n tl y Q) Q) σ):W E n tl (.seq x y) Q σ:=by
 intro fD w0 S0 G a w Q' hR hQ
 simp only [dU,Bool.and_eq_true]at fD
 refine wp_seq (h fD.1 w0 S0 G a w _ hR fun x σ' a' w' hx jP=>?_)
 cases x with
 | normal=>exact hx fD.2 w0 S0 G a' w' _ jP hQ
 | exit id=>exact hQ (.exit id) σ' a' w' hx jP
 | ret=>exact hQ .ret σ' a' w' hx jP
theorem W.F9{id:Nat}{ops:List Oper}{y:Code}(h:∀K:PS→Prop,(∀σ,W E n tl y Q σ→K σ)→aH E ops ops K σ):W E n tl (.seq (.region id ops.toArray false) y) Q σ:=
 W.seq (W.B3 h)
theorem W.PL{id:Nat}{ops:List Oper}{y:Code}(h:∀K:PS→Prop,(∀σ,W E n tl y Q σ→K σ)→eJ E (tl id) ops K σ):W E n tl (.seq (.region id ops.toArray true) y) Q σ:=
 W.seq (W.PK h)
theorem W.cond{c:Operand}{t e:Code}(h:∃b,aN σ.f c = .bool b∧(b=true→W E n tl t Q σ)∧(b=false→W E n tl e Q σ)):W E n tl (.cond c t e) Q σ:=by
 intro fD w0 S0 G a w Q' hR hQ
 simp only [dU,Bool.and_eq_true]at fD
 obtain⟨b,hb,h1,h2⟩:=h
 obtain⟨cx,_,_,_,_,hf,_⟩:=hR.ex
 have:=jN hf c
 rw [hb,cJ]at this
 refine wp_cond this ?_
 cases b with
 | true=>exact h1 rfl fD.1 w0 S0 G a w Q' hR hQ
 | false=>exact h2 rfl fD.2 w0 S0 G a w Q' hR hQ
theorem W.block{id:Nat}{c:Code}(h:W E n tl c (w5 id Q) σ):W E n tl (.block id c) Q σ:=by
 intro fD w0 S0 G a w Q' hR hQ
 refine wp_block (h fD w0 S0 G a w _ hR fun x σ' a' w' hx jP=>?_)
 cases x with
 | normal=>exact hQ .normal σ' a' w' hx jP
 | exit j =>
  simp only [w5]at hx
  simp only [acf,Exit.inBlock]
  split at hx
  ·rename_i hj;rw [if_pos hj];exact hQ .normal σ' a' w' hx jP
  ·rename_i hj;rw [if_neg hj];exact hQ (.exit j) σ' a' w' hx jP
 | ret=>exact hQ .ret σ' a' w' hx jP
theorem W.loop{c:Code}(I:Nat→PS→Prop)(k:Nat)(h0:I k σ)(h1:∀k σ,I k σ→W E n tl c (wZ (fun σ'=>∃m,m<k∧I m σ') Q) σ):W E n tl (.loop c) Q σ:=by
 intro fD w0 S0 G a w Q' hR hQ
 refine wp_loop_ghost (fun k a w=>∃σ,I k σ∧Rel w0 S0 n G σ a w) k ⟨σ,h0,hR⟩ ?_
 rintro k a w ⟨σ,hI,hR⟩
 refine h1 k σ hI fD w0 S0 G a w _ hR fun x σ' a' w' hx jP=>?_
 cases x with
 | normal=>obtain⟨m,hm,rB⟩:=hx;exact⟨m,hm,σ',rB,jP⟩
 | exit id=>exact hQ (.exit id) σ' a' w' hx jP
 | ret=>exact hQ .ret σ' a' w' hx jP
end
theorem PM{E:Env}{uR:FuncId}{fn:Func}{code:Code}(tl:Nat→Nat){args:List PV}{r:PV}(h1:E.P.funcs[uR]? = some fn)(h2:fn.body=some code) (h3:(fn.name == "runtime.NumGoroutine") = false)
  (fD:dU E fn.ntmps tl code=true) (eI:args.length≤fn.ntmps) (h:W E fn.ntmps tl code (PG E fn.results.toList r) (xT args)):aZ E.P uR args r:=
 F7 h1 h2 h3 eI fun w0 S0 a w Q' hR hQ=>h fD w0 S0 Gs.none a w Q' hR hQ
def go(P:Prop):Prop:=P
def aT(R:PV→Prop)(K:PV→Prop):Prop:=∃v,R v∧K v
def fN(p:PV)(want:Bool)(A B:Prop):Prop:=∃t,p = .bool t∧(t=want→A)∧(t=(!want)→B)
def stepG(p:PV)(want:Bool)(A B:Prop):Prop:=(p = .bool want∧A)∨((p = .bool (!want)∨p = .eQ [])∧B)
def aE(A B:Prop):Prop:=A∧B
@[congr] theorem aad{R R' K:PV→Prop}(h:∀v,R v=R' v):aT R K=aT R' K:=by rw [show R=R' from funext h]
@[congr] theorem aae{p p':PV}{want:Bool}{A B:Prop}(h:p=p'):fN p want A B=fN p' want A B:=by rw [h]
@[congr] theorem aaf{p p':PV}{want:Bool}{A B:Prop}(h:p=p'):stepG p want A B=stepG p' want A B:=by rw [h]
@[congr] theorem aag{A A' B:Prop}(h:A=A'):aE A B=aE A' B:=by rw [h]
@[congr] theorem acg{E:Env}{ops l:List Oper}{K:PS→Prop}{σ σ':PS}(h:σ=σ'):aH E ops l K σ=aH E ops l K σ':=by rw [h]
@[congr] theorem ach{E:Env}{ops l:List Oper}{clk k k':Nat}{K:PS→Prop}{σ σ':ST}(hk:k=k')(h:σ=σ'):aJ E ops clk k l K σ=aJ E ops clk k' l K σ':=by rw [hk,h]
@[congr] theorem aci{md:Region.Mode}{ops:List Oper}{j j' k k':Nat}(hj:j=j')(hk:k=k'):lI md ops j k=lI md ops j' k':=by rw [hj,hk]
@[congr] theorem afv{md:Region.Mode}{ops:List Oper}{i i' id fZ:Nat}{t t':Nat→Nat→Prop}(hi:i=i')(eT:id=fZ)(ht:t=t'):uL md ops i id t=uL md ops i' fZ t':=by rw [hi,eT,ht]
@[congr] theorem acj{md:Region.Mode}{ops:List Oper}{i i':Nat}{t t':Nat→Nat→Prop}{rows rows':Rows}(hi:i=i')(ht:t=t')(hr:rows=rows'):dC md ops i t rows=dC md ops i' t' rows':=by rw [hi,ht,hr]
@[congr] theorem U4{E:Env}{tl:Nat}{l:List Oper}{K:PS→Prop}{σ σ':PS}(h:σ=σ'):eJ E tl l K σ=eJ E tl l K σ':=by rw [h]
@[congr] theorem alu{E:Env}{n:Nat}{tl:Nat→Nat}{c:Code}{Q:PX→PS→Prop}{σ σ':PS}(h:σ=σ'):W E n tl c Q σ=W E n tl c Q σ':=by rw [h]
theorem iA{t:PV}{K:PV→Prop}:aT (fun v=>v=t) K=K t:=by simp [aT]
theorem K7{t:PV}{K:PV→Prop}:aT (fun v=>t=v) K=K t:=by simp [aT]
theorem gR{c:Prop}{R K:PV→Prop}:aT (fun v=>c∧R v) K=aE c (aT R K):=by
 apply propext;simp only [aT,aE]
 constructor
 ·rintro⟨v,⟨h1,h2⟩,h3⟩;exact⟨h1,v,h2,h3⟩
 ·rintro⟨h1,v,h2,h3⟩;exact⟨v,⟨h1,h2⟩,h3⟩
theorem PN{α:Type}{R:α→PV→Prop}{K:PV→Prop}:aT (fun v=>∃x,R x v) K = ∃x,aT (R x) K:=by
 apply propext;simp only [aT]
 constructor
 ·rintro⟨v,⟨x,h2⟩,h3⟩;exact⟨x,v,h2,h3⟩
 ·rintro⟨x,v,h2,h3⟩;exact⟨v,⟨x,h2⟩,h3⟩
theorem GA{B:Prop}:aE True B=B:=by simp [aE]
theorem PO{A B:Prop}:fN (.bool true) true A B=A:=by simp [fN]
theorem PQ{A B:Prop}:fN (.bool true) false A B=B:=by simp [fN]
theorem PR{A B:Prop}:fN (.bool false) true A B=B:=by simp [fN]
theorem PU{A B:Prop}:stepG (.bool true) true A B=A:=by simp [stepG]
theorem PW{A B:Prop}:stepG (.bool true) false A B=B:=by simp [stepG]
theorem PY{A B:Prop}:stepG (.bool false) true A B=B:=by simp [stepG]
theorem PZ{A B:Prop}:stepG (.bool false) false A B=A:=by simp [stepG]
theorem P0{w:Bool}{A B:Prop}:stepG (.eQ []) w A B=B:=by simp [stepG]
theorem P1{A B:Prop}:fN (.bool false) false A B=A:=by simp [fN]
theorem uT{f:Nat→PV}{d j:Nat}{v:PV}:put f (some d) v j=if j=d then v else f j:=rfl
theorem P3{f:Nat→PV}{v:PV}:put f none v=f:=rfl
theorem ack{α:Type}{f:Nat→α}{i j:Nat}{x:α}:c4 f i x j=if j=i then x else f j:=rfl
def fa:List (Nat × PV)→Nat→PV
 | [],_ => .undef
 | (i,v)::l,j=>if j=i then v else fa l j
theorem GB{j:Nat}:fa [] j = .undef:=rfl
theorem zI{i j:Nat}{v:PV}{l:List (Nat × PV)}:fa ((i,v)::l) j=if j=i then v else fa l j:=rfl
section
variable {E:Env} {ops os:List Oper} {K:PS→Prop} {f:Nat→PV} {rows:Rows} {clk:Nat} {d:Option Tmp} {ty:TypeId} {pos:String} {af:Array Edge}
theorem aC(n:Nat)(l:List Nat):Gh n ⟨f,rows,clk⟩ ⟨fa (l.map fun i=>(i,f i)),rows,clk⟩:=by
 rintro w0 S0 G a w ⟨⟨c,h1,h2,h3,h4,h5,h6⟩,h7,h8⟩
 refine⟨⟨c,h1,h2,h3,h4,fun s=>?_,h6⟩,h7,h8⟩
 have:fa (l.map fun i=>(i,f i)) s=f s∨fa (l.map fun i=>(i,f i)) s = .undef:=by
  induction l with
  | nil=>exact .inr rfl
  | cons i l ih =>
   simp only [List.map_cons,fa]
   split
   ·rename_i h;rw [h];exact .inl rfl
   ·exact ih
 rcases this with h | h
 ·simp only;rw [h];exact h5 s
 ·simp only;rw [h];simp [aF,aM]
theorem W.live{n:Nat}{tl:Nat→Nat}{c:Code}{Q:PX→PS→Prop}(l:List Nat)(h:W E n tl c Q ⟨fa (l.map fun i=>(i,f i)),rows,clk⟩):W E n tl c Q ⟨f,rows,clk⟩:=W.ghost (aC n l) h
theorem GC{op:Op}{j:Nat}{want:Bool}:aH E ops (⟨d,op,ty,pos,af,some (j,want)⟩::os) K ⟨f,rows,clk⟩ =
  match (ops[j]?).bind (·.dst)with
  | none=>False
  | some e=>stepG (f e) want (aH E ops (⟨d,op,ty,pos,af,none⟩::os) K ⟨f,rows,clk⟩) (aH E ops os K ⟨put f d (.eQ []),rows,clk⟩):=by
 simp only [aH]
 cases hx:(ops[j]?).bind (·.dst)with
 | none=>rfl
 | some e=>rfl
theorem bW{R:PV→Prop}{k:PV→Prop}(h:∀v,R v↔k v):(∃v u,(R v∧u=none)∧K ⟨put f d v,dE rows u,clk⟩)=aT k fun v=>K ⟨put f d v,rows,clk⟩:=by
 apply propext;simp only [aT]
 constructor
 ·rintro⟨v,u,⟨h1,rfl⟩,h2⟩;exact⟨v,(h v).1 h1,h2⟩
 ·rintro⟨v,h1,h2⟩;exact⟨v,none,⟨(h v).2 h1,rfl⟩,h2⟩
theorem K8{x:Operand}:aH E ops (⟨d, .move x,ty,pos,af,none⟩::os) K ⟨f,rows,clk⟩=aH E ops os K ⟨put f d (aN f x),rows,clk⟩:=by
 simp only [aH,dO,ys,yv]
 rw [bW (k:=fun v=>v=aN f x) (fun v=>Iff.rfl),iA]
theorem B4{x:Operand}:aH E ops (⟨d, .assign x,ty,pos,af,none⟩::os) K ⟨f,rows,clk⟩=aH E ops os K ⟨put f d (aN f x),rows,clk⟩:=by
 simp only [aH,dO,ys,yv]
 rw [bW (k:=fun v=>v=aN f x) (fun v=>Iff.rfl),iA]
theorem K9{c a b:Operand}:aH E ops (⟨d, .pick c a b,ty,pos,af,none⟩::os) K ⟨f,rows,clk⟩=fN (aN f c) true (aH E ops os K ⟨put f d (aN f a),rows,clk⟩) (aH E ops os K ⟨put f d (aN f b),rows,clk⟩):=by
 simp only [aH,dO,ys,yv]
 rw [bW (fun v=>Iff.rfl)]
 apply propext;simp only [aT,fN]
 constructor
 ·rintro⟨v,⟨t,h1,rfl⟩,h2⟩
  refine⟨t,h1,fun h=>?_,fun h=>?_⟩
  ·subst h;exact h2
  ·subst h;exact h2
 ·rintro⟨t,h1,h2,h3⟩
  cases t with
  | true=>exact⟨_,⟨true,h1,rfl⟩,h2 rfl⟩
  | false=>exact⟨_,⟨false,h1,rfl⟩,h3 rfl⟩
theorem P4{op:BinOp}{t t2:TypeId}{x y:Operand}:aH E ops (⟨d, .binOp op t x y t2,ty,pos,af,none⟩::os) K ⟨f,rows,clk⟩=aT (fun v=>yZ E op t (aN f x) (aN f y) v) fun v=>aH E ops os K ⟨put f d v,rows,clk⟩:=by
 simp only [aH,dO,ys,yv]
 rw [bW (fun v=>Iff.rfl)]
theorem V5{op:UnOp}{t:TypeId}{x:Operand}:aH E ops (⟨d, .unOp op t x,ty,pos,af,none⟩::os) K ⟨f,rows,clk⟩=aT (fun v=>ZT op (aN f x) v) fun v=>aH E ops os K ⟨put f d v,rows,clk⟩:=by
 simp only [aH,dO,ys,yv]
 rw [bW (k:=fun v=>ZT op (aN f x) v) (fun v=>Iff.rfl)]
theorem LA{s t:TypeId}{x:Operand}:aH E ops (⟨d, .convert s t x,ty,pos,af,none⟩::os) K ⟨f,rows,clk⟩=aT (fun v=>oM (E.ty s) (E.ty t) (aN f x) v) fun v=>aH E ops os K ⟨put f d v,rows,clk⟩:=by
 simp only [aH,dO,ys,yv]
 rw [bW (k:=fun v=>oM (E.ty s) (E.ty t) (aN f x) v) (fun v=>Iff.rfl)]
theorem zJ{i:Nat}{x:Operand}:aH E ops (⟨d, .extract x i,ty,pos,af,none⟩::os) K ⟨f,rows,clk⟩=aT (fun v=>FB i (aN f x) v) fun v=>aH E ops os K ⟨put f d v,rows,clk⟩:=by
 simp only [aH,dO,ys,yv]
 rw [bW (k:=fun v=>FB i (aN f x) v) (fun v=>Iff.rfl)]
theorem LB{t:TypeId}{x:Operand}:aH E ops (⟨d, .load t x,ty,pos,af,none⟩::os) K ⟨f,rows,clk⟩=aT (fun v=>oK E t rows (aN f x) v) fun v=>aH E ops os K ⟨put f d v,rows,clk⟩:=by
 simp only [aH,dO,ys,yv]
 rw [bW (fun v=>Iff.rfl)]
theorem GD{t:TypeId}{i:Nat}{x:Operand}:aH E ops (⟨d, .field t x i,ty,pos,af,none⟩::os) K ⟨f,rows,clk⟩=aT (fun v=>o7 E t i (aN f x) v) fun v=>aH E ops os K ⟨put f d v,rows,clk⟩:=by
 simp only [aH,dO,ys,yv]
 rw [bW (fun v=>Iff.rfl)]
theorem uU{t:TypeId}{i:Nat}{x:Operand}:aH E ops (⟨d, .fieldAddr t x i,ty,pos,af,none⟩::os) K ⟨f,rows,clk⟩=aT (fun v=>dY E t rows i (aN f x) v) fun v=>aH E ops os K ⟨put f d v,rows,clk⟩:=by
 simp only [aH,dO,ys,yv]
 rw [bW (fun v=>Iff.rfl)]
theorem uV{t:TypeId}{x y:Operand}:aH E ops (⟨d, .indexAddr t x y,ty,pos,af,none⟩::os) K ⟨f,rows,clk⟩=aT (fun v=>dZ E t rows (aN f x) (aN f y) v) fun v=>aH E ops os K ⟨put f d v,rows,clk⟩:=by
 simp only [aH,dO,ys,yv]
 rw [bW (fun v=>Iff.rfl)]
theorem GF{t:TypeId}{x:Operand}{lo hi mx:Option Operand}:aH E ops (⟨d, .slice t x lo hi mx,ty,pos,af,none⟩::os) K ⟨f,rows,clk⟩=aT (fun v=>kM E t rows (aN f x) (lo.map (aN f)) (hi.map (aN f)) (mx.map (aN f)) v) fun v=>aH E ops os K ⟨put f d v,rows,clk⟩:=by
 simp only [aH,dO,ys,yv]
 rw [bW (fun v=>Iff.rfl)]
theorem GG{t:TypeId}{parts:Array (Nat × Operand)}:aH E ops (⟨d, .build t parts,ty,pos,af,none⟩::os) K ⟨f,rows,clk⟩=aT (fun v=>mL (E.ty t) (parts.toList.map fun x=>(x.1,aN f x.2)) v) fun v=>aH E ops os K ⟨put f d v,rows,clk⟩:=by
 simp only [aH,dO,ys,yv]
 rw [bW (k:=fun v=>mL (E.ty t) (parts.toList.map fun x=>(x.1,aN f x.2)) v) (fun v=>Iff.rfl)]
theorem GH{t:TypeId}{x y:Operand}:aH E ops (⟨d, .index t x y,ty,pos,af,none⟩::os) K ⟨f,rows,clk⟩=aT (fun v=>o8 E (E.ty t) (aN f x) (aN f y) v) fun v=>aH E ops os K ⟨put f d v,rows,clk⟩:=by
 simp only [aH,dO,ys,yv]
 rw [bW (k:=fun v=>o8 E (E.ty t) (aN f x) (aN f y) v) (fun v=>Iff.rfl)]
theorem P5{t:TypeId}{x:Operand}:aH E ops (⟨d, .call { callee:=.builtin .len,args:=⟨[x]⟩,argTypes:=⟨[t]⟩ },ty,pos,af,none⟩::os) K ⟨f,rows,clk⟩=aT (fun v=>rT (E.ty t) rows (aN f x) v) fun v=>aH E ops os K ⟨put f d v,rows,clk⟩:=by
 simp only [aH,dO,ys,yv]
 rw [bW (k:=fun v=>rT (E.ty t) rows (aN f x) v) (fun v=>Iff.rfl)]
theorem w6{x:Operand}:aH E ops (⟨d, .nilCheck x,ty,pos,af,none⟩::os) K ⟨f,rows,clk⟩=aT (fun v=>wU rows (aN f x) v) fun v=>aH E ops os K ⟨put f d v,rows,clk⟩:=by
 simp only [aH,dO,ys,yv]
 rw [bW (k:=fun v=>wU rows (aN f x) v) (fun v=>Iff.rfl)]
theorem P6{ts:Array TypeId}{x y:Operand}:aH E ops (⟨d, .call { callee:=.builtin .max,args:=⟨[x,y]⟩,argTypes:=ts },ty,pos,af,none⟩::os) K ⟨f,rows,clk⟩=aT (fun v=>FD (aN f x) (aN f y) v) fun v=>aH E ops os K ⟨put f d v,rows,clk⟩:=by
 simp only [aH,dO,ys,yv]
 rw [bW (fun v=>Iff.rfl)]
theorem P7{ts:Array TypeId}{x y:Operand}:aH E ops (⟨d, .call { callee:=.builtin .min,args:=⟨[x,y]⟩,argTypes:=ts },ty,pos,af,none⟩::os) K ⟨f,rows,clk⟩=aT (fun v=>FE (aN f x) (aN f y) v) fun v=>aH E ops os K ⟨put f d v,rows,clk⟩:=by
 simp only [aH,dO,ys,yv]
 rw [bW (fun v=>Iff.rfl)]
theorem s7{t:TypeId}{len:Nat}{parts:Array (Nat × Operand)}:aH E ops (⟨d, .buildSlice t len parts,ty,pos,af,none⟩::os) K ⟨f,rows,clk⟩=aT (fun v=>FU (E.ty t) rows len (parts.toList.map fun x=>(x.1,aN f x.2)) v) fun v=>aH E ops os K ⟨put f d v,rows,clk⟩:=by
 simp only [aH,dO,ys]
 rw [bW (fun v=>Iff.rfl)]
theorem GI{t:TypeId}{p x:Operand}:aH E ops (⟨none, .store t p x,ty,pos,af,none⟩::os) K ⟨f,rows,clk⟩ = ∃id r,mS E t rows (aN f p) (aN f x) .undef (some (id,r))∧aH E ops os K ⟨f,c4 rows id (some r),clk⟩:=by
 simp only [aH,dO,ys]
 apply propext
 constructor
 ·rintro⟨v,u,h,h2⟩
  have h':=h
  obtain⟨_,rfl,h3⟩:=h
  split at h3
  ·obtain⟨_,_,_,_,_,_,_,_,_,_,rfl⟩:=h3
   exact⟨_,_,h',h2⟩
  ·exact h3.elim
 ·rintro⟨id,r,h,h2⟩;exact⟨.undef,some (id,r),h,h2⟩
theorem GJ{t:TypeId}:aH E ops (⟨d, .alloc t,ty,pos,af,none⟩::os) K ⟨f,rows,clk⟩=aE ((E.ty t).known=true) (aH E ops os K ⟨put f d (.ptr (d.getD 0) clk 0 0),c4 rows (d.getD 0) (some ⟨clk,t,(E.ty t).size,[(E.ty t).zero]⟩),clk+1⟩):=rfl
theorem P8{t:TypeId}{x:Operand}:aH E ops (⟨d, .box t x,ty,pos,af,none⟩::os) K ⟨f,rows,clk⟩=aE ((E.ty t).known=true) (∃l,bP (aN f x)=some l∧(∀q∈l,eZ rows q)∧l.length=(E.ty t).size∧aH E ops os K ⟨put f d (.ptr (d.getD 0) clk 0 0),c4 rows (d.getD 0) (some ⟨clk,t,(E.ty t).size,[l]⟩),clk+1⟩):=rfl
def mX(t:TI)(x y:PV)(K:TypeId→Nat→List PV→Int→Prop):Prop:=
 match t,x,y with
 | .slice e n b z, .int _ x, .int _ y=>aE (0≤x∧x≤y∧y.toNat≤room∧y.toNat*b≤room) (K e n z x)
 | _,_,_=>False
theorem uW{t:TypeId}{l c:Operand}:aH E ops (⟨d, .makeSlice t l c,ty,pos,af,none⟩::os) K ⟨f,rows,clk⟩=mX (E.ty t) (aN f l) (aN f c) fun e n z x=>aH E ops os K ⟨put f d (.own (d.getD 0) clk 0 x.toNat),c4 rows (d.getD 0) (some ⟨clk,e,n,List.replicate x.toNat z⟩),clk+1⟩:=by
 simp only [aH,dO,mX,zD]
 generalize E.ty t=T
 generalize aN f l=A
 generalize aN f c=B
 cases T with
 | slice e n b z =>
  cases A with
  | int k x =>
   cases B with
   | int k2 y=>simp only [aE,and_assoc]
   | _=>rfl
  | _=>rfl
 | _=>rfl
def LC(t:TI)(rows:Rows)(x y:PV)(clk d:Nat)(K:PV→Rows→Nat→Prop):Prop:=
 match t with
 | .slice e n b _ =>
  ∃l,mT rows y l∧(∀e∈l,e.length=n) ∧
  match x with
  | .nil=>aE (l.length≤room∧l.length*b≤room) (K (.own d clk 0 l.length) (c4 rows d (some ⟨clk,e,n,l⟩)) (clk+1))
  | .own id ver off len=>∃r,rows id=some r∧r.ver=ver∧off=0∧len≤r.els.length∧r.e=e∧r.size=n∧aE (len+l.length≤room∧(len+l.length)*b≤room) (K (.own id clk 0 (len+l.length)) (c4 rows id (some ⟨clk,e,n,r.els.take len++l⟩)) (clk+1))
  | .fX l0=>(∀e∈l0,e.length=n)∧(∀e∈l,∀p∈e,bL p=true)∧aE (l0.length+l.length≤room∧(l0.length+l.length)*b≤room) (K (.sl (l0++l)) rows clk)
  | _=>False
 | _=>False
theorem B5{t t2:TypeId}{x y:Operand}:aH E ops (⟨d, .call { callee:=.builtin .append,args:=⟨[x,y]⟩,argTypes:=⟨[t,t2]⟩ },ty,pos,af,none⟩::os) K ⟨f,rows,clk⟩ =
  aE (t2=t∨OV (E.ty t2)=true) (LC (E.ty t) rows (aN f x) (aN f y) clk (d.getD 0) fun v rows clk=>aH E ops os K ⟨put f d v,rows,clk⟩):=by
 simp only [aH,dO,zE,LC,zD,aE,PS.put]
 congr 1
 generalize E.ty t=T
 generalize aN f x=A
 cases T with
 | slice e n b z =>
  simp only
  congr 1
  funext l
  congr 2
  cases A with
  | nil=>simp only [and_assoc]
  | own id ver off len=>simp only [and_assoc]
  | fX l0=>simp only [and_assoc]
  | _=>rfl
 | _=>rfl
end
def p0(P:Program)(g:FuncId)(args:List PV)(K:PV→Prop):Prop:=∃v,aZ P g args v∧K v
@[congr] theorem aah{P:Program}{g:FuncId}{args B6:List PV}{K:PV→Prop}(h:args=B6):p0 P g args K=p0 P g B6 K:=by rw [h]
def mY(E:Env)(p:PV)(eU:List PV)(rows:Rows)(clk:Nat)(K:PV→Rows→Nat→Prop):Prop:=
 match p with
 | .fn g b8=>if E.writes g=true then b8 = []∧rZ E.P g eU rows clk K else aE ((eU.map (pz rows)).all eR=true∧dG rows (eU.flatMap cW)) (p0 E.P g (eU.map (pz rows)++b8) fun v=>K v (xP rows (eU.flatMap cW)) clk)
 | _=>False
@[congr] theorem V6{E:Env}{p p':PV}{eU r8:List PV}{rows rows':Rows}{clk gF:Nat}{K:PV→Rows→Nat→Prop}(h1:p=p')(h2:eU=r8)(h3:rows=rows')(h4:clk=gF):mY E p eU rows clk K=mY E p' r8 rows' gF K:=by rw [h1,h2,h3,h4]
@[congr] theorem aai{P:Program}{g:FuncId}{eU r8:List PV}{rows:Rows}{clk:Nat}{K:PV→Rows→Nat→Prop}(h:eU=r8):rZ P g eU rows clk K=rZ P g r8 rows clk K:=by rw [h]
@[congr] theorem aaj{t t':TI}{x x' y y':PV}{K:TypeId→Nat→List PV→Int→Prop}(h1:t=t')(h2:x=x')(h3:y=y'):mX t x y K=mX t' x' y' K:=by rw [h1,h2,h3]
@[congr] theorem acm{t t':TI}{rows rows':Rows}{x x' y y':PV}{clk gF d d':Nat}{K:PV→Rows→Nat→Prop}(h1:t=t')(h2:rows=rows')(h3:x=x')(h4:y=y')(h5:clk=gF)(h6:d=d') :
  LC t rows x y clk d K=LC t' rows' x' y' gF d' K:=by rw [h1,h2,h3,h4,h5,h6]
section
variable {E:Env} {ops os:List Oper} {K:PS→Prop} {f:Nat→PV} {rows:Rows} {clk:Nat} {d:Option Tmp} {ty:TypeId} {pos:String} {af:Array Edge}
theorem LD{fo:Operand}{args:Array Operand}{ts:Array TypeId}:aH E ops (⟨d, .call { callee:=.value fo,args:=args,argTypes:=ts },ty,pos,af,none⟩::os) K ⟨f,rows,clk⟩ =
  mY E (aN f fo) (args.toList.map (aN f)) rows clk fun v rows clk=>aH E ops os K ⟨put f d v,rows,clk⟩:=by
 simp only [aH,dO,r3,mY,FV,aE,p0]
 generalize aN f fo=A
 have e1:(args.toList.map fun x=>pz rows (aN f x))=(args.toList.map (aN f)).map (pz rows):=by rw [List.map_map];rfl
 have e2:(args.toList.flatMap fun x=>cW (aN f x))=(args.toList.map (aN f)).flatMap cW:=by rw [List.flatMap_map]
 rw [e1,e2]
 cases A with
 | fn g b8 =>
  have hm:abU E (.fn g b8)=E.writes g:=rfl
  by_cases hw:E.writes g=true
  ·rw [hm,if_pos hw]
   cases b8 with
   | nil=>simp [hw]
   | cons x l=>simp [hw]
  rw [hm,if_neg hw]
  simp only [if_neg hw]
  apply propext
  constructor
  ·rintro⟨v,⟨h1,h2⟩,h3,h4⟩;exact⟨⟨h1,h3⟩,v,h2,h4⟩
  ·rintro⟨⟨h1,h3⟩,v,h2,h4⟩;exact⟨v,⟨h1,h2⟩,h3,h4⟩
 | _=>simp [abU]
theorem w7{g:FuncId}{b8:Array Operand}:aH E ops (⟨d, .makeFunc (.func g) ⟨[]⟩ b8,ty,pos,af,none⟩::os) K ⟨f,rows,clk⟩ =
  aE (((b8.toList.map (aN f)).map (pz rows)).all eR=true∧dG rows ((b8.toList.map (aN f)).flatMap cW))
   (aH E ops os K ⟨put f d (.fn g ((b8.toList.map (aN f)).map (pz rows))),xP rows ((b8.toList.map (aN f)).flatMap cW),clk⟩):=by
 simp only [aH,dO,aE,and_assoc]
 have e1:(b8.toList.map fun x=>pz rows (aN f x))=(b8.toList.map (aN f)).map (pz rows):=by rw [List.map_map];rfl
 have e2:(b8.toList.flatMap fun x=>cW (aN f x))=(b8.toList.map (aN f)).flatMap cW:=by rw [List.flatMap_map]
 rw [e1,e2]
def iB(k:Nat)(l:List Nat)(t:Nat→Nat→Prop):Nat→Nat→Prop:=fun k' id=>(true=true∧k'=k∧id∈l)∨t k' id
def mE(k id:Nat)(w:Nat→Nat→Prop):Nat→Nat→Prop:=fun k' fZ=>(k'=k∧fZ=id)∨w k' fZ
variable {k:Nat} {bI:Nat→Nat→Prop} {aI:Nat→Nat→Prop}
theorem GK{op:Op}{j:Nat}{want:Bool}:aJ E ops clk k (⟨d,op,ty,pos,af,some (j,want)⟩::os) K ⟨f,rows,bI,aI⟩ =
  match (ops[j]?).bind (·.dst)with
  | none=>False
  | some e=>stepG (f e) want (aJ E ops clk k (⟨d,op,ty,pos,af,none⟩::os) K ⟨f,rows,bI,aI⟩) (aJ E ops clk (k+1) os K ⟨put f d (.eQ []),rows,bI,aI⟩):=by
 have e3:app k ⟨d,op,ty,pos,af,some (j,want)⟩ false (.eQ []) none ⟨f,rows,bI,aI⟩=⟨put f d (.eQ []),rows,bI,aI⟩:=by simp [app,dE,N3]
 simp only [aJ,e3]
 cases hx:(ops[j]?).bind (·.dst)with
 | none=>rfl
 | some e=>rfl
theorem cF{o:Oper}{R:PV→Prop}{kk:PV→Prop}{st:ST}(h:∀v,R v↔kk v):(∃v u,(R v∧u=none)∧BU .any ops k u bI∧aJ E ops clk (k+1) os K (app k o true v u st))=aT kk fun v=>aJ E ops clk (k+1) os K (app k o true v none st):=by
 apply propext;simp only [aT]
 constructor
 ·rintro⟨v,u,⟨h1,rfl⟩,_,h2⟩;exact⟨v,(h v).1 h1,h2⟩
 ·rintro⟨v,h1,h2⟩;exact⟨v,none,⟨(h v).2 h1,rfl⟩,trivial,h2⟩
theorem dV{op:Op}{v:PV}(h:fQ op (aN f) = []):app k ⟨d,op,ty,pos,af,none⟩ true v none ⟨f,rows,bI,aI⟩=⟨put f d v,rows,bI,aI⟩:=by simp [app,dE,N3,h]
theorem nZ{op:Op}{v:PV}{l:List Nat}(h:fQ op (aN f)=l):app k ⟨d,op,ty,pos,af,none⟩ true v none ⟨f,rows,bI,aI⟩=⟨put f d v,rows,iB k l bI,aI⟩:=by subst h;rfl
theorem LF{x:Operand}:aJ E ops clk k (⟨d, .move x,ty,pos,af,none⟩::os) K ⟨f,rows,bI,aI⟩=aJ E ops clk (k+1) os K ⟨put f d (aN f x),rows,bI,aI⟩:=by
 simp only [aJ,yn,fR,ys,yv]
 rw [cF (kk:=fun v=>v=aN f x) (fun v=>Iff.rfl),iA,dV rfl]
theorem B7{x:Operand}:aJ E ops clk k (⟨d, .assign x,ty,pos,af,none⟩::os) K ⟨f,rows,bI,aI⟩=aJ E ops clk (k+1) os K ⟨put f d (aN f x),rows,bI,aI⟩:=by
 simp only [aJ,yn,fR,ys,yv]
 rw [cF (kk:=fun v=>v=aN f x) (fun v=>Iff.rfl),iA,dV rfl]
theorem LG{c a b:Operand}:aJ E ops clk k (⟨d, .pick c a b,ty,pos,af,none⟩::os) K ⟨f,rows,bI,aI⟩=fN (aN f c) true (aJ E ops clk (k+1) os K ⟨put f d (aN f a),rows,bI,aI⟩) (aJ E ops clk (k+1) os K ⟨put f d (aN f b),rows,bI,aI⟩):=by
 simp only [aJ,yn,fR,ys,yv]
 rw [cF (fun v=>Iff.rfl)]
 apply propext;simp only [aT,fN,dV (op:=.pick c a b) rfl]
 constructor
 ·rintro⟨v,⟨t,h1,rfl⟩,h2⟩
  refine⟨t,h1,fun h=>?_,fun h=>?_⟩
  ·subst h;exact h2
  ·subst h;exact h2
 ·rintro⟨t,h1,h2,h3⟩
  cases t with
  | true=>exact⟨_,⟨true,h1,rfl⟩,h2 rfl⟩
  | false=>exact⟨_,⟨false,h1,rfl⟩,h3 rfl⟩
theorem P9{op:BinOp}{t t2:TypeId}{x y:Operand}:aJ E ops clk k (⟨d, .binOp op t x y t2,ty,pos,af,none⟩::os) K ⟨f,rows,bI,aI⟩=aT (fun v=>yZ E op t (aN f x) (aN f y) v) fun v=>aJ E ops clk (k+1) os K ⟨put f d v,rows,bI,aI⟩:=by
 simp only [aJ,yn,fR,ys,yv];rw [cF (fun v=>Iff.rfl)];simp only [dV (op:=.binOp op t x y t2) rfl]
theorem V7{op:UnOp}{t:TypeId}{x:Operand}:aJ E ops clk k (⟨d, .unOp op t x,ty,pos,af,none⟩::os) K ⟨f,rows,bI,aI⟩=aT (fun v=>ZT op (aN f x) v) fun v=>aJ E ops clk (k+1) os K ⟨put f d v,rows,bI,aI⟩:=by
 simp only [aJ,yn,fR,ys,yv];rw [cF (fun v=>Iff.rfl)];simp only [dV (op:=.unOp op t x) rfl]
theorem LH{s t:TypeId}{x:Operand}:aJ E ops clk k (⟨d, .convert s t x,ty,pos,af,none⟩::os) K ⟨f,rows,bI,aI⟩=aT (fun v=>oM (E.ty s) (E.ty t) (aN f x) v) fun v=>aJ E ops clk (k+1) os K ⟨put f d v,rows,bI,aI⟩:=by
 simp only [aJ,yn,fR,ys,yv];rw [cF (fun v=>Iff.rfl)];simp only [dV (op:=.convert s t x) rfl]
theorem zK{i:Nat}{x:Operand}:aJ E ops clk k (⟨d, .extract x i,ty,pos,af,none⟩::os) K ⟨f,rows,bI,aI⟩=aT (fun v=>FB i (aN f x) v) fun v=>aJ E ops clk (k+1) os K ⟨put f d v,rows,bI,aI⟩:=by
 simp only [aJ,yn,fR,ys,yv];rw [cF (fun v=>Iff.rfl)];simp only [dV (op:=.extract x i) rfl]
theorem LI{t:TypeId}{x:Operand}:aJ E ops clk k (⟨d, .load t x,ty,pos,af,none⟩::os) K ⟨f,rows,bI,aI⟩=aT (fun v=>oK E t (dC .any ops k aI rows) (aN f x) v) fun v=>aJ E ops clk (k+1) os K ⟨put f d v,rows,iB k (aS (aN f x)) bI,aI⟩:=by
 simp only [aJ,yn,fR,ys,yv];rw [cF (fun v=>Iff.rfl)];simp only [nZ (op:=.load t x) rfl];rfl
theorem GL{t:TypeId}{i:Nat}{x:Operand}:aJ E ops clk k (⟨d, .field t x i,ty,pos,af,none⟩::os) K ⟨f,rows,bI,aI⟩=aT (fun v=>o7 E t i (aN f x) v) fun v=>aJ E ops clk (k+1) os K ⟨put f d v,rows,bI,aI⟩:=by
 simp only [aJ,yn,fR,ys,yv];rw [cF (fun v=>Iff.rfl)];simp only [dV (op:=.field t x i) rfl]
theorem uX{t:TypeId}{i:Nat}{x:Operand}:aJ E ops clk k (⟨d, .fieldAddr t x i,ty,pos,af,none⟩::os) K ⟨f,rows,bI,aI⟩=aT (fun v=>dY E t (dC .any ops k aI rows) i (aN f x) v) fun v=>aJ E ops clk (k+1) os K ⟨put f d v,rows,iB k (aS (aN f x)) bI,aI⟩:=by
 simp only [aJ,yn,fR,ys,yv];rw [cF (fun v=>Iff.rfl)];simp only [nZ (op:=.fieldAddr t x i) rfl];rfl
theorem uY{t:TypeId}{x y:Operand}:aJ E ops clk k (⟨d, .indexAddr t x y,ty,pos,af,none⟩::os) K ⟨f,rows,bI,aI⟩=aT (fun v=>dZ E t (dC .any ops k aI rows) (aN f x) (aN f y) v) fun v=>aJ E ops clk (k+1) os K ⟨put f d v,rows,iB k (aS (aN f x)) bI,aI⟩:=by
 simp only [aJ,yn,fR,ys,yv];rw [cF (fun v=>Iff.rfl)];simp only [nZ (op:=.indexAddr t x y) rfl];rfl
theorem GM{t:TypeId}{x:Operand}{lo hi mx:Option Operand}:aJ E ops clk k (⟨d, .slice t x lo hi mx,ty,pos,af,none⟩::os) K ⟨f,rows,bI,aI⟩=aT (fun v=>kM E t (dC .any ops k aI rows) (aN f x) (lo.map (aN f)) (hi.map (aN f)) (mx.map (aN f)) v) fun v=>aJ E ops clk (k+1) os K ⟨put f d v,rows,iB k (aS (aN f x)) bI,aI⟩:=by
 simp only [aJ,yn,fR,ys,yv];rw [cF (fun v=>Iff.rfl)];simp only [nZ (op:=.slice t x lo hi mx) rfl];rfl
theorem GN{t:TypeId}{parts:Array (Nat × Operand)}:aJ E ops clk k (⟨d, .build t parts,ty,pos,af,none⟩::os) K ⟨f,rows,bI,aI⟩=aT (fun v=>mL (E.ty t) (parts.toList.map fun x=>(x.1,aN f x.2)) v) fun v=>aJ E ops clk (k+1) os K ⟨put f d v,rows,bI,aI⟩:=by
 simp only [aJ,yn,fR,ys,yv];rw [cF (fun v=>Iff.rfl)];simp only [dV (op:=.build t parts) rfl]
theorem QA{t:TypeId}{x:Operand}:aJ E ops clk k (⟨d, .call { callee:=.builtin .len,args:=⟨[x]⟩,argTypes:=⟨[t]⟩ },ty,pos,af,none⟩::os) K ⟨f,rows,bI,aI⟩=aT (fun v=>rT (E.ty t) (dC .any ops k aI rows) (aN f x) v) fun v=>aJ E ops clk (k+1) os K ⟨put f d v,rows,iB k (aS (aN f x)) bI,aI⟩:=by
 simp only [aJ,yn,fR,ys,yv];rw [cF (fun v=>Iff.rfl)];simp only [nZ (op:=.call { callee:=.builtin .len,args:=⟨[x]⟩,argTypes:=⟨[t]⟩ }) rfl];rfl
theorem w8{x:Operand}:aJ E ops clk k (⟨d, .nilCheck x,ty,pos,af,none⟩::os) K ⟨f,rows,bI,aI⟩=aT (fun v=>wU (dC .any ops k aI rows) (aN f x) v) fun v=>aJ E ops clk (k+1) os K ⟨put f d v,rows,iB k (aS (aN f x)) bI,aI⟩:=by
 simp only [aJ,yn,fR,ys,yv];rw [cF (fun v=>Iff.rfl)];simp only [nZ (op:=.nilCheck x) rfl];rfl
theorem QB{ts:Array TypeId}{x y:Operand}:aJ E ops clk k (⟨d, .call { callee:=.builtin .max,args:=⟨[x,y]⟩,argTypes:=ts },ty,pos,af,none⟩::os) K ⟨f,rows,bI,aI⟩=aT (fun v=>FD (aN f x) (aN f y) v) fun v=>aJ E ops clk (k+1) os K ⟨put f d v,rows,bI,aI⟩:=by
 simp only [aJ,yn,fR,ys,yv];rw [cF (fun v=>Iff.rfl)];simp only [dV (op:=.call { callee:=.builtin .max,args:=⟨[x,y]⟩,argTypes:=ts }) rfl]
theorem QC{ts:Array TypeId}{x y:Operand}:aJ E ops clk k (⟨d, .call { callee:=.builtin .min,args:=⟨[x,y]⟩,argTypes:=ts },ty,pos,af,none⟩::os) K ⟨f,rows,bI,aI⟩=aT (fun v=>FE (aN f x) (aN f y) v) fun v=>aJ E ops clk (k+1) os K ⟨put f d v,rows,bI,aI⟩:=by
 simp only [aJ,yn,fR,ys,yv];rw [cF (fun v=>Iff.rfl)];simp only [dV (op:=.call { callee:=.builtin .min,args:=⟨[x,y]⟩,argTypes:=ts }) rfl]
theorem w9{g:FuncId}{b8:Array Operand}:aJ E ops clk k (⟨d, .makeFunc (.func g) ⟨[]⟩ b8,ty,pos,af,none⟩::os) K ⟨f,rows,bI,aI⟩=aE ((b8.toList.map fun x=>aN f x).all eR=true) (aJ E ops clk (k+1) os K ⟨put f d (.fn g (b8.toList.map fun x=>aN f x)),rows,bI,aI⟩):=by
 simp only [aJ,yn,fR,ys,yv]
 rw [cF (fun v=>Iff.rfl),gR,iA];simp only [dV (op:=.makeFunc (.func g) ⟨[]⟩ b8) rfl]
theorem s8{t:TypeId}{len:Nat}{parts:Array (Nat × Operand)}:aJ E ops clk k (⟨d, .buildSlice t len parts,ty,pos,af,none⟩::os) K ⟨f,rows,bI,aI⟩=aT (fun v=>FU (E.ty t) (dC .any ops k aI rows) len (parts.toList.map fun x=>(x.1,aN f x.2)) v) fun v=>aJ E ops clk (k+1) os K ⟨put f d v,rows,bI,aI⟩:=by
 simp only [aJ,yn,fR,ys];rw [cF (fun v=>Iff.rfl)];simp only [dV (op:=.buildSlice t len parts) rfl]
theorem GO{t:TypeId}{p x:Operand}:aJ E ops clk k (⟨none, .store t p x,ty,pos,af,none⟩::os) K ⟨f,rows,bI,aI⟩ =
  ∃id r,mS E t (dC .any ops k aI rows) (aN f p) (aN f x) .undef (some (id,r))∧uL .any ops k id bI∧aJ E ops clk (k+1) os K ⟨f,c4 rows id (some r),iB k (aS (aN f p)++((bP (aN f x)).getD []).flatMap aS) bI,mE k id aI⟩:=by
 simp only [aJ,yn,fR,ys]
 apply propext
 constructor
 ·rintro⟨v,u,h,h1,h2⟩
  have h':=h
  obtain⟨_,rfl,h3⟩:=h
  split at h3
  ·obtain⟨_,_,_,_,_,_,_,_,_,_,rfl⟩:=h3
   exact⟨_,_,h',h1,h2⟩
  ·exact h3.elim
 ·rintro⟨id,r,h,h1,h2⟩;exact⟨.undef,some (id,r),h,h1,h2⟩
theorem QD{o:Oper}{R:PV→Option (Nat × Row)→Prop}{C:Prop}{v0:PV}{e:Nat}{r0:Row}{st:ST}{gF:Nat}(h:∀v u,R v u↔(C∧v=v0∧u=some (e,r0))):(∃v u,R v u∧BU .any ops k u bI∧aJ E ops gF (k+1) os K (app k o true v u st))=aE (C∧uL .any ops k e bI) (aJ E ops gF (k+1) os K (app k o true v0 (some (e,r0)) st)):=by
 apply propext;simp only [aE]
 constructor
 ·rintro⟨v,u,h1,h2,h3⟩
  obtain⟨hc,rfl,rfl⟩:=(h v u).1 h1
  exact⟨⟨hc,h2⟩,h3⟩
 ·rintro⟨⟨h1,h2⟩,h3⟩;exact⟨v0,_,(h _ _).2 ⟨h1,rfl,rfl⟩,h2,h3⟩
theorem p5{op:Op}{v:PV}{e:Nat}{r0:Row}(h:fQ op (aN f) = []):app k ⟨d,op,ty,pos,af,none⟩ true v (some (e,r0)) ⟨f,rows,bI,aI⟩=⟨put f d v,c4 rows e (some r0),bI,mE k e aI⟩:=by simp only [app,dE,N3,h,List.not_mem_nil,and_false,false_or];rfl
theorem GP{t:TypeId}:aJ E ops clk k (⟨d, .alloc t,ty,pos,af,none⟩::os) K ⟨f,rows,bI,aI⟩=aE ((E.ty t).known=true∧uL .any ops k (d.getD 0) bI) (aJ E ops (clk+1) (k+1) os K ⟨put f d (.ptr (d.getD 0) clk 0 0),c4 rows (d.getD 0) (some ⟨clk,t,(E.ty t).size,[(E.ty t).zero]⟩),bI,mE k (d.getD 0) aI⟩):=by
 simp only [aJ,yn,fR]
 rw [QD (C:=(E.ty t).known=true) (v0:=.ptr (d.getD 0) clk 0 0) (e:=d.getD 0) (r0:=⟨clk,t,(E.ty t).size,[(E.ty t).zero]⟩) (fun v u=>by simp),p5 (op:=.alloc t) rfl]
theorem QE{t:TypeId}{x:Operand}:aJ E ops clk k (⟨d, .box t x,ty,pos,af,none⟩::os) K ⟨f,rows,bI,aI⟩=aE ((E.ty t).known=true) (∃l,bP (aN f x)=some l∧((∀q∈l,eZ (fun _=>none) q)∧l.length=(E.ty t).size∧uL .any ops k (d.getD 0) bI) ∧
  aJ E ops (clk+1) (k+1) os K ⟨put f d (.ptr (d.getD 0) clk 0 0),c4 rows (d.getD 0) (some ⟨clk,t,(E.ty t).size,[l]⟩),bI,mE k (d.getD 0) aI⟩):=by
 simp only [aJ,yn,fR]
 apply propext
 constructor
 ·rintro⟨v,u,⟨h1,l,h2,h3,h4,rfl,rfl⟩,h5,h6⟩
  rw [p5 (op:=.box t x) rfl]at h6
  exact⟨h1,l,h2,⟨h3,h4,h5⟩,h6⟩
 ·rintro⟨h1,l,h2,⟨h3,h4,h5⟩,h6⟩
  refine⟨_,_,⟨h1,l,h2,h3,h4,rfl,rfl⟩,h5,?_⟩
  rw [p5 (op:=.box t x) rfl];exact h6
theorem uZ{t:TypeId}{l c:Operand}:aJ E ops clk k (⟨d, .makeSlice t l c,ty,pos,af,none⟩::os) K ⟨f,rows,bI,aI⟩=mX (E.ty t) (aN f l) (aN f c) fun e n z x=>aE (uL .any ops k (d.getD 0) bI) (aJ E ops (clk+1) (k+1) os K ⟨put f d (.own (d.getD 0) clk 0 x.toNat),c4 rows (d.getD 0) (some ⟨clk,e,n,List.replicate x.toNat z⟩),bI,mE k (d.getD 0) aI⟩):=by
 have VJ:∀ {v e' r0},app k ⟨d, .makeSlice t l c,ty,pos,af,none⟩ true v (some (e',r0)) ⟨f,rows,bI,aI⟩=⟨put f d v,c4 rows e' (some r0),bI,mE k e' aI⟩:=p5 rfl
 simp only [aJ,yn,fR,mX]
 generalize E.ty t=T
 generalize aN f l=A
 generalize aN f c=B
 cases T with
 | slice e n b z =>
  cases A with
  | int k1 x =>
   cases B with
   | int k2 y =>
    apply propext
    simp only [aE]
    constructor
    ·rintro⟨v,u,⟨h1,h2,h3,h4,rfl,rfl⟩,h5,h6⟩
     rw [VJ]at h6
     exact⟨⟨h1,h2,h3,h4⟩,h5,h6⟩
    ·rintro⟨⟨h1,h2,h3,h4⟩,h5,h6⟩
     refine⟨_,_,⟨h1,h2,h3,h4,rfl,rfl⟩,h5,?_⟩
     rw [VJ];exact h6
   | _=>simp
  | _=>simp
 | _=>simp
theorem B8{t t2:TypeId}{x y:Operand}:aJ E ops clk k (⟨d, .call { callee:=.builtin .append,args:=⟨[x,y]⟩,argTypes:=⟨[t,t2]⟩ },ty,pos,af,none⟩::os) K ⟨f,rows,bI,aI⟩ =
  aE (t2=t∨OV (E.ty t2)=true) (∃v u,oT (E.ty t) (dC .any ops k aI rows) (aN f x) (aN f y) clk (d.getD 0) v u∧BU .any ops k u bI ∧
   aJ E ops (clk+1) (k+1) os K ⟨put f d v,dE rows u,iB k (aS (aN f x)++aS (aN f y)) bI,N3 k u aI⟩):=by
 have VJ:∀ {v u},app k ⟨d, .call { callee:=.builtin .append,args:=⟨[x,y]⟩,argTypes:=⟨[t,t2]⟩ },ty,pos,af,none⟩ true v u ⟨f,rows,bI,aI⟩=⟨put f d v,dE rows u,iB k (aS (aN f x)++aS (aN f y)) bI,N3 k u aI⟩:=rfl
 simp only [aJ,yn,fR,aE]
 apply propext
 constructor
 ·rintro⟨v,u,⟨h1,h2⟩,h3,h4⟩
  exact⟨h1,v,u,h2,h3,h4⟩
 ·rintro⟨h1,v,u,h2,h3,h4⟩
  exact⟨v,u,⟨h1,h2⟩,h3,h4⟩
theorem LJ{t t2:TypeId}{x y:Operand}:aJ E ops clk k (⟨d, .call { callee:=.builtin .copy,args:=⟨[x,y]⟩,argTypes:=⟨[t,t2]⟩ },ty,pos,af,none⟩::os) K ⟨f,rows,bI,aI⟩ =
  ∃v u,oQ (E.ty t) (dC .any ops k aI rows) (aN f x) (aN f y) v u∧BU .any ops k u bI ∧
   aJ E ops clk (k+1) os K ⟨put f d v,dE rows u,iB k (aS (aN f x)++aS (aN f y)) bI,N3 k u aI⟩:=rfl
def lK(E:Env)(p:PV)(eU:List PV)(rows:Rows)(K:PV→Prop):Prop:=
 match p with
 | .fn g b8=>aE ((eU.map (pz rows)).all eR=true∧eU.flatMap cW = []) (p0 E.P g (eU.map (pz rows)++b8) K)
 | _=>False
@[congr] theorem V8{E:Env}{p p':PV}{eU r8:List PV}{rows rows':Rows}{K:PV→Prop}(h1:p=p')(h2:eU=r8)(h3:rows=rows'):lK E p eU rows K=lK E p' r8 rows' K:=by rw [h1,h2,h3]
theorem xV{fo:Operand}{args:Array Operand}{ts:Array TypeId}(VS:cT E (.call { callee:=.value fo,args:=args,argTypes:=ts })=false):aJ E ops clk k (⟨d, .call { callee:=.value fo,args:=args,argTypes:=ts },ty,pos,af,none⟩::os) K ⟨f,rows,bI,aI⟩ =
  lK E (aN f fo) (args.toList.map (aN f)) (dC .any ops k aI rows) fun v=>aJ E ops clk (k+1) os K ⟨put f d v,rows,bI,aI⟩:=by
 simp only [aJ]
 rw [uM VS]
 simp only [uK VS,ys,r3,lK,aE,p0]
 generalize hA:aN f fo=A
 have e1:(args.toList.map fun x=>pz (dC .any ops k aI rows) (aN f x))=(args.toList.map (aN f)).map (pz (dC .any ops k aI rows)):=by rw [List.map_map];rfl
 have e2:(args.toList.flatMap fun x=>cW (aN f x))=(args.toList.map (aN f)).flatMap cW:=by rw [List.flatMap_map]
 rw [e1,e2]
 have e3:∀v,app k ⟨d, .call { callee:=.value fo,args:=args,argTypes:=ts },ty,pos,af,none⟩ true v none ⟨f,rows,bI,aI⟩=⟨put f d v,rows,bI,aI⟩:=fun v=>dV rfl
 cases A with
 | fn g b8 =>
  apply propext
  constructor
  ·rintro⟨v,u,⟨rfl,⟨h1,h2⟩,h3⟩,_,h4⟩;rw [e3]at h4;exact⟨⟨h1,h3⟩,v,h2,h4⟩
  ·rintro⟨⟨h1,h3⟩,v,h2,h4⟩;exact⟨v,none,⟨rfl,⟨h1,h2⟩,h3⟩,trivial,by rw [e3];exact h4⟩
 | _=>simp
theorem GQ{g:FuncId}{args:Array Operand}{ts:Array TypeId}(hw:E.writes g=true):aJ E ops clk k (⟨d, .call { callee:=.value (.func g),args:=args,argTypes:=ts },ty,pos,af,none⟩::os) K ⟨f,rows,bI,aI⟩ =
  ∃e n els,((args.toList.map (aN f)).all eR=true∧uJ E.P g (args.toList.map (aN f)) e n els∧uL .any ops k (d.getD 0) bI)∧aJ E ops (clk+1) (k+1) os K ⟨put f d (.own (d.getD 0) clk 0 els.length),c4 rows (d.getD 0) (some ⟨clk,e,n,els⟩),bI,mE k (d.getD 0) aI⟩:=by
 have VJ:∀ {v e' r0},app k ⟨d, .call { callee:=.value (.func g),args:=args,argTypes:=ts },ty,pos,af,none⟩ true v (some (e',r0)) ⟨f,rows,bI,aI⟩=⟨put f d v,c4 rows e' (some r0),bI,mE k e' aI⟩:=p5 rfl
 simp only [aJ,yn,fR]
 rw [if_pos hw]
 simp only [if_pos hw]
 apply propext
 constructor
 ·rintro⟨v,u,⟨h1,e,n,els,h2,rfl,rfl⟩,h3,h4⟩
  rw [VJ]at h4
  exact⟨e,n,els,⟨h1,h2,h3⟩,h4⟩
 ·rintro⟨e,n,els,⟨h1,h2,h3⟩,h4⟩
  refine⟨_,_,⟨h1,e,n,els,h2,rfl,rfl⟩,h3,?_⟩
  rw [VJ];exact h4
@[simp] theorem ahJ{md:Region.Mode}{ops:List Oper}{j:Nat}{rows:Rows}:dC md ops j (fun _ _=>False) rows=rows:=by
 funext id;simp [dC]
@[simp] theorem ahK{md:Region.Mode}{ops:List Oper}{j k id:Nat}{w:Nat→Nat→Prop}{rows:Rows}:dC md ops j (mE k id w) rows=if lI md ops j k=true then dC md ops j w rows else c4 (dC md ops j w rows) id none:=by
 funext x
 unfold dC mE
 by_cases hd:lI md ops j k=true
 ·rw [if_pos hd]
  have:(∃k',((k'=k∧x=id)∨w k' x)∧lI md ops j k'=false) ↔ ∃k',w k' x∧lI md ops j k'=false:=by
   constructor
   ·rintro⟨k',⟨rfl,_⟩ | h,h2⟩
    ·rw [hd]at h2;cases h2
    ·exact⟨k',h,h2⟩
   ·rintro⟨k',h,h2⟩;exact⟨k', .inr h,h2⟩
  exact(by classical exact ite_congr (propext this) (fun _=>rfl) (fun _=>rfl))
 ·rw [if_neg hd]
  have PA:lI md ops j k=false:=by simpa using hd
  simp only [c4]
  by_cases hx:x=id
  ·rw [if_pos hx,if_pos ⟨k, .inl ⟨rfl,hx⟩,PA⟩]
  ·rw [if_neg hx]
   have:(∃k',((k'=k∧x=id)∨w k' x)∧lI md ops j k'=false) ↔ ∃k',w k' x∧lI md ops j k'=false:=by
    constructor
    ·rintro⟨k',⟨_,h⟩ | h,h2⟩
     ·exact absurd h hx
     ·exact⟨k',h,h2⟩
    ·rintro⟨k',h,h2⟩;exact⟨k', .inr h,h2⟩
   exact(by classical exact ite_congr (propext this) (fun _=>rfl) (fun _=>rfl))
@[simp] theorem alv{md:Region.Mode}{ops:List Oper}{i id:Nat}:uL md ops i id (fun _ _=>False)=True:=by simp [uL]
@[simp] theorem alw{md:Region.Mode}{ops:List Oper}{i id k:Nat}{l:List Nat}{t:Nat→Nat→Prop}:uL md ops i id (iB k l t)=((id∈l→lI md ops i k=true)∧uL md ops i id t):=by
 apply propext
 unfold uL iB
 constructor
 ·intro h;exact⟨fun hi=>h k (.inl ⟨rfl,rfl,hi⟩),fun k' hk=>h k' (.inr hk)⟩
 ·rintro⟨h1,h2⟩ k' (⟨_,rfl,h⟩ | h)
  ·exact h1 h
  ·exact h2 k' h
end
end Pm
