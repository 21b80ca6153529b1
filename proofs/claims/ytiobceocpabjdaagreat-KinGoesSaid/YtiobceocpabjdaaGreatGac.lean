import Derived.StillTail
import Derived.Deep.LoopGhost
import Derived.Test.YtiobceocpabjdaaGreatGab
set_option linter.unusedSimpArgs false
set_option linter.unusedVariables false
namespace Pm
open Go Go.RowKit List
variable {E:Env}{ops l:List Oper}{i j c0 id clk k n tl e k' i' len bV:Nat}{o oi oj:Oper}{d:Option Tmp}{op:Op}{ρ ρ':Operand->PV}{rows rows':Rows}{v r p p' x' y':PV}{u:Option (Nat × Row)}{C A B:Prop}{t t2 s:TypeId}{x y fo:Operand}{md:Region.Mode}{K':Act->World->Prop}{f:Nat->PV}{c code:Code}{tmps:Array Value}{b want:Bool}{ao:Array Bool}{a:Act}{w:World}{U:Nat->Prop}{g tG:FuncId}{ts:Array TypeId}{Q:Exit->Act->World->Prop}{σ σ':PS}{fn:Func}{args dD nu:List PV}{R:PV->Prop}{t':Nat->Nat->Prop}{lo hi mx:Option Operand}{parts:Array (Nat × Operand)}{P:Program}{r0:Row}
def gS(P:Program)(f:FuncId)(args:List PV)(e:TypeId)(n:Nat)(els:List (List PV)):Prop:=
 (∃fn c,P.funcs[f]? = some fn∧fn.body=some c∧(fn.name == "runtime.NumGoroutine")=false) ∧
 ∀(w:World) (S:dz) (vs:List Value),(∀b o,S b o->b<w.heap.size)->bO S w args vs ->
  Calls P f vs.toArray w fun x w'=>∃(v:Value) (xs:List Value) (S':dz),x = .returned v∧Below w.heap.size w w'∧(∀b o,S b o->S' b o)∧(∀b o,S' b o->S b o∨(w.heap.size<=b∧b<w'.heap.size)) ∧
   w'.ownsRow w.heap.size e n v els.length xs∧aN (de S' w') els.flatten xs∧(∀y∈xs,y.oneCell'=true)∧(∀x∈els,x.length=n)∧0<n∧(∀g o,v.ownBlock=some g->¬S' g o)
def Cl(md:Region.Mode)(ops:List Oper):Nat->Nat->Nat->Bool
 | 0,_,_=>false
 | f+1,j,k=>match ops[j]? with
  | some o=>o.after.toList.any fun e=>Region.binds md e&&(e.on==k || Cl md ops f e.on k)
  | none=>false
def lB(md:Region.Mode)(ops:List Oper)(j k:Nat):Bool:=Cl md ops 12 j k
structure ST where
 f:Nat->PV
 rows:Rows
 cG:Nat->Nat->Prop
 wl:Nat->Nat->Prop
def dC(E:Env):Op->Bool
 | .alloc _=>true
 | .box _ _=>true
 | .makeSlice _ _ _=>true
 | .call { callee:=.builtin .append,args:=⟨[_,_]⟩,argTypes:=⟨[_,_]⟩ }=>true
 | .call { callee:=.value (.func g),args:=_,argTypes:=_ }=>E.writes g
 | _=>false
def tS(E:Env)(ops:List Oper):Bool:=ops.all fun o => !dC E o.op || (o.dst.isSome&&o.guard.isNone)
def rk(E:Env)(ops:List Oper)(i:Nat):Nat:=((ops.take i).filter fun o=>dC E o.op).length
theorem ML(h:ops[i]? = some o):rk E ops (i+1)=rk E ops i+if dC E o.op=true then 1 else 0:=by unfold rk;rw [take_add_one,h];simp only [Option.toList_some,filter_append,length_append];congr 1;cases hn:dC E o.op<;>simp [hn]
theorem Yf(h:i<=j):rk E ops i<=rk E ops j:=by
 unfold rk;have:(ops.take i).Sublist (ops.take j):=by have:=take_sublist i (ops.take j);rwa [take_take,Nat.min_eq_left h]at this
 exact(this.filter _).length_le
theorem GN(h:ops[i]? = some o)(hn:dC E o.op=true)(qy:i<j):rk E ops i<rk E ops j:=by have h1:=ML (E:=E) h;rw [if_pos hn]at h1;have:=Yf (E:=E) (ops:=ops) (show i+1<=j from qy);omega
theorem aea{o':Oper}(h:ops[i]? = some o)(hn:dC E o.op=true)(h':ops[j]? = some o')(wX:dC E o'.op=true)(he:rk E ops i=rk E ops j):i=j:=by
 rcases Nat.lt_trichotomy i j with h1 | h1 | h1
 ·have:=GN h hn h1;omega
 ·exact h1
 ·have:=GN h' wX h1;omega
def tD(t:TI)(rows:Rows)(x y:PV)(c0 d:Nat)(v:PV)(u:Option (Nat × Row)):Prop:=
 match t with
 | .slice e n b _=>∃l,qP rows y l∧(∀e∈l,e.length=n) ∧
  match x with
  | .nil=>l.length<=room∧l.length*b<=room∧v = .own d c0 0 l.length∧u=some (d,⟨c0,e,n,l⟩)
  | .own id ver off len=>∃r,rows id=some r∧r.ver=ver∧off=0∧len<=r.els.length∧r.e=e∧r.size=n∧len+l.length<=room∧(len+l.length)*b<=room ∧
    v = .own id c0 0 (len+l.length)∧u=some (id,⟨c0,e,n,r.els.take len++l⟩)
  | .iE l0=>(∀e∈l0,e.length=n)∧(∀e∈l,∀p∈e,aF p=true)∧l0.length+l.length<=room∧(l0.length+l.length)*b<=room∧v = .sl (l0++l)∧u=none
  | _=>False
 | _=>False
def abA(E:Env)(g:FuncId)(args:List PV)(c0 d:Nat)(v:PV)(u:Option (Nat × Row)):Prop:=
 args.all cB=true ∧ ∃e n els,gS E.P g args e n els∧v = .own d c0 0 els.length∧u=some (d,⟨c0,e,n,els⟩)
def yn(E:Env)(c0:Nat)(d:Option Tmp)(op:Op)(ρ:Operand->PV)(rows:Rows)(v:PV)(u:Option (Nat × Row)):Prop:=
 match op with
 | .alloc t=>(E.ty t).known=true∧v = .ptr (d.getD 0) c0 0 0∧u=some (d.getD 0,⟨c0,t,(E.ty t).size,[(E.ty t).zero]⟩)
 | .box t x=>(E.ty t).known=true ∧ ∃l,cD (ρ x)=some l∧(∀q∈l,ib (fun _=>none) q)∧l.length=(E.ty t).size∧v = .ptr (d.getD 0) c0 0 0∧u=some (d.getD 0,⟨c0,t,(E.ty t).size,[l]⟩)
 | .makeSlice t l c =>
  match E.ty t,ρ l,ρ c with
  | .slice e n b z, .int _ x, .int _ y=>0<=x∧x<=y∧y.toNat<=room∧y.toNat*b<=room∧v = .own (d.getD 0) c0 0 x.toNat∧u=some (d.getD 0,⟨c0,e,n,replicate x.toNat z⟩)
  | _,_,_=>False
 | .call { callee:=.builtin .append,args:=⟨[x,y]⟩,argTypes:=⟨[t,t2]⟩ }=>(t2=t∨SU (E.ty t2)=true)∧tD (E.ty t) rows (ρ x) (ρ y) c0 (d.getD 0) v u
 | .call { callee:=.value (.func g),args:=aBq,argTypes:=ts }=>if E.writes g=true then abA E g (aBq.toList.map fun x=>ρ x) c0 (d.getD 0) v u else ys E (.call { callee:=.value (.func g),args:=aBq,argTypes:=ts }) ρ rows v u
 | op=>ys E op ρ rows v u
theorem Aj(h:dC E op=false):yn E c0 d op ρ rows v u=ys E op ρ rows v u:=by
 unfold yn;split
 all_goals first
  | rfl
  | (simp [dC]at h;done)
  | (simp only [dC]at h;rw [if_neg (by rw [h];decide)])
theorem ns(h:dC E op=true)(h1:∀t,op = .alloc t->C)(h2:∀t x,op = .box t x->C)(h3:∀t l c,op = .makeSlice t l c->C)
  (h4:∀x y t t2,op = .call { callee:=.builtin .append,args:=⟨[x,y]⟩,argTypes:=⟨[t,t2]⟩ }->C) (h5:∀g aBq ts,op = .call { callee:=.value (.func g),args:=aBq,argTypes:=ts }->E.writes g=true->C):C:=by
 unfold dC at h
 split at h
 ·exact h1 _ rfl
 ·exact h2 _ _ rfl
 ·exact h3 _ _ _ rfl
 ·exact h4 _ _ _ _ rfl
 ·exact h5 _ _ _ rfl h
 ·cases h
theorem S6{t:TI}{x y:PV}{d:Nat}(h:iP (aL x++aL y) rows rows')(hy:tD t rows x y c0 d v u):tD t rows' x y c0 d v u ∧ ∀id∈aL x++aL y,∃r,rows id=some r:=by
 unfold tD at *;cases t with
 | slice e n b z =>
  obtain⟨l,h1,h2,h3⟩:=hy;obtain⟨g1,g2⟩:=MJ (fun id fp=>h id (by simp only [mem_append];exact .inr fp)) h1;cases x with
  | nil=>exact⟨⟨l,g1,h2,h3⟩,fun id fp=>g2 id (by simpa [aL]using fp)⟩
  | iE l0=>exact⟨⟨l,g1,h2,h3⟩,fun id fp=>g2 id (by simpa [aL]using fp)⟩
  | own id ver off len =>
   obtain⟨r,hr,hh⟩:=h3;refine⟨⟨l,g1,h2,r,h id (by simp [aL]) r hr,hh⟩,fun iX fp=>?_⟩;simp only [aL,mem_append,mem_cons,not_mem_nil,or_false]at fp
   rcases fp with rfl | fp
   ·exact⟨r,hr⟩
   ·exact g2 iX fp
  | _=>exact h3.elim
 | _=>exact hy.elim
theorem MM(h:iP (ij op ρ) rows rows')(hy:yn E c0 d op ρ rows v u) :
  yn E c0 d op ρ rows' v u∧(∀id∈ij op ρ,∃r,rows id=some r) ∧ ∀id r,u=some (id,r)->(dC E op=true∧id=d.getD 0)∨id∈ij op ρ:=by
 cases hn:dC E op with
 | false =>
  rw [Aj hn]at hy |-;obtain⟨h1,h2,h3⟩:=abz h hy;exact⟨h1,h2,fun id r hu => .inr (h3 id r hu)⟩
 | true =>
  refine ns hn ?_ ?_ ?_ ?_ ?_
  ·rintro t rfl;refine⟨hy,by simp [ij],fun id r hu => .inl ⟨by first | trivial | rfl,?_⟩⟩;obtain⟨_,_,rfl⟩:=hy;simp at hu;exact hu.1.symm
  ·rintro t x rfl;refine⟨hy,by simp [ij],fun id r hu => .inl ⟨by first | trivial | rfl,?_⟩⟩;obtain⟨_,_,_,_,_,_,rfl⟩:=hy;simp at hu;exact hu.1.symm
  ·rintro t l c rfl;refine⟨hy,by simp [ij],fun id r hu => .inl ⟨by first | trivial | rfl,?_⟩⟩;simp only [yn]at hy
   split at hy
   ·obtain⟨_,_,_,_,_,rfl⟩:=hy;simp at hu;exact hu.1.symm
   ·exact hy.elim
  ·rintro x y t t2 rfl;simp only [yn,ij]at hy h |-;obtain⟨h2,h3⟩:=hy;obtain⟨g1,g2⟩:=S6 h h3;refine⟨⟨h2,g1⟩,g2,fun id r hu=>?_⟩;unfold tD at h3
   split at h3
   ·obtain⟨l,_,_,h3⟩:=h3
    split at h3
    ·obtain⟨_,_,_,rfl⟩:=h3;simp at hu;exact .inl ⟨by first | trivial | rfl,hu.1.symm⟩
    ·rename_i hx;obtain⟨_,_,_,_,_,_,_,_,_,_,rfl⟩:=h3;simp at hu;rw [hx];exact .inr (by simp [aL,hu.1])
    ·obtain⟨_,_,_,_,_,rfl⟩:=h3;cases hu
    ·exact h3.elim
   ·exact h3.elim
  ·rintro g aBq ts rfl hw;simp only [yn]at hy |-;rw [if_pos hw]at hy;rw [if_pos hw];refine⟨hy,by simp only [ij];rw [MI hy.1];simp,fun id r hu => .inl ⟨by first | trivial | exact hw,?_⟩⟩;obtain⟨_,_,_,_,_,_,rfl⟩:=hy;simp at hu;exact hu.1.symm
open Classical in
noncomputable def ee(md:Region.Mode)(ops:List Oper)(j:Nat)(wl:Nat->Nat->Prop)(rows:Rows):Rows:=fun id=>if ∃k,wl k id∧lB md ops j k=false then none else rows id
theorem kn{wl:Nat->Nat->Prop}{r:Row}:ee md ops j wl rows id=some r↔(∀k,wl k id->lB md ops j k=true)∧rows id=some r:=by
 unfold ee
 split
 ·rename_i h;obtain⟨k,h1,h2⟩:=h;simp only [reduceCtorEq,false_iff,not_and];intro h3;rw [h3 k h1]at h2;cases h2
 ·rename_i h;refine⟨fun h2=>⟨fun k hk=>?_,h2⟩,fun h2=>h2.2⟩;cases hd:lB md ops j k with
  | true=>rfl
  | false=>exact absurd ⟨k,hk,hd⟩ h
def Cm(md:Region.Mode)(ops:List Oper)(i id:Nat)(cG:Nat->Nat->Prop):Prop:=∀k,cG k id->lB md ops i k=true
def GO(md:Region.Mode)(ops:List Oper)(i:Nat)(u:Option (Nat × Row))(cG:Nat->Nat->Prop):Prop:=
 match u with
 | none=>True
 | some (id,_)=>Cm md ops i id cG
def Yg(ops:Array Oper)(o:Oper)(f:Nat->PV)(b:Bool):Prop:=
 match o.guard with
 | none=>b=true
 | some (j,want)=>∃d,(ops[j]?).bind (·.dst)=some d∧((f d = .bool want∧b=true)∨((f d = .bool (!want)∨f d = .cW [])∧b=false))
def YG(E:Env)(md:Region.Mode)(ops:Array Oper)(c0:Nat)(i:Nat)(o:Oper)(b:Bool)(v:PV)(u:Option (Nat × Row))(st:ST):Prop:=
 Yg ops o st.f b∧if b=true then yn E (c0+rk E ops.toList i) o.dst o.op (aJ st.f) (ee md ops.toList i st.wl st.rows) v u else v = .cW []∧u=none
def Sc(i:Nat)(u:Option (Nat × Row))(wl:Nat->Nat->Prop):Nat->Nat->Prop:=
 match u with
 | none=>wl
 | some (id,_)=>fun k iX=>(k=i∧iX=id)∨wl k iX
def app(i:Nat)(o:Oper)(b:Bool)(v:PV)(u:Option (Nat × Row))(st:ST):ST:=
 { f:=put st.f o.dst v,rows:=dP st.rows u,cG:=fun k id=>(b=true∧k=i∧id∈ij o.op (aJ st.f))∨st.cG k id,wl:=Sc i u st.wl }
def ko(E:Env)(op:Op)(clk:Nat):Nat:=
 match op with
 | .alloc _=>clk+1
 | .box _ _=>clk+1
 | .makeSlice _ _ _=>clk+1
 | .call { callee:=.builtin .append,args:=⟨[_,_]⟩,argTypes:=⟨[_,_]⟩ }=>clk+1
 | .call { callee:=.value (.func g),args:=_,argTypes:=_ }=>if E.writes g=true then clk+1 else clk
 | _=>clk
theorem Ak(h:dC E op=false):ko E op clk=clk:=by
 unfold ko;split
 all_goals first
  | rfl
  | (simp [dC]at h;done)
  | (simp only [dC]at h;rw [if_neg (by rw [h];decide)])
theorem S7(h:dC E op=true):ko E op clk=clk+1:=by
 refine ns h ?_ ?_ ?_ ?_ ?_
 ·rintro t rfl;rfl
 ·rintro t x rfl;rfl
 ·rintro t l c rfl;rfl
 ·rintro x y t t2 rfl;rfl
 ·rintro g aBq ts rfl hw;simp only [ko];rw [if_pos hw]
theorem Yh(h:ops[i]? = some o):ko E o.op (c0+rk E ops i)=c0+rk E ops (i+1):=by
 rw [ML h];cases hn:dC E o.op with
 | false=>rw [Ak hn];simp
 | true=>rw [S7 hn];simp;omega
def S8(E:Env)(md:Region.Mode)(ops:Array Oper)(c0:Nat)(i:Nat)(K:ST->Prop)(st:ST):Prop:=
 match ops[i]? with
 | none=>K st
 | some o=>∃b v u,YG E md ops c0 i o b v u st∧GO md ops.toList i u st.cG∧K (app i o b v u st)
section
variable {E:Env} {ops:Array Oper} {md:Region.Mode}
theorem S9{K K':ST->Prop}{st:ST}(h:∀st,K st->K' st)(hh:S8 E md ops c0 i K st):S8 E md ops c0 i K' st:=by
 unfold S8 at *
 split
 ·exact h _ (by simpa [*]using hh)
 ·rename_i o ho;simp only [ho]at hh;obtain⟨b,v,u,h1,h2,h3⟩:=hh;exact⟨b,v,u,h1,h2,h _ h3⟩
theorem MN(h:∀t,d=some t->x ≠ .tmp t):aJ (put f d v) x=aJ f x:=by
 cases d with
 | none=>rfl
 | some t =>
  cases x with
  | tmp s =>
   have:s≠t:=fun e=>h t rfl (by rw [e]);simp [aJ,put,this]
  | _=>rfl
theorem oA(h:∀x∈op.operands,ρ x=ρ' x):ys E op ρ rows v u↔ys E op ρ' rows v u:=by
 have parts:∀ps:Array (Nat × Operand),(∀x∈(ps.toList.map (·.2)).toArray,ρ x=ρ' x)->(ps.toList.map fun x=>(x.1,ρ x.2))=ps.toList.map fun x=>(x.1,ρ' x.2):=fun ps hp =>
  map_congr_left fun p hm=>by rw [hp p.2 (by simp;exact⟨p.1,au hm⟩)]
 have args:∀(c:Call),(∀x∈c.operands,ρ x=ρ' x) -> ∀x∈c.args.toList,ρ x=ρ' x:=fun c hc x hx=>hc x (by simp [Call.operands];exact .inr (au hx));unfold ys
 split
 ·rename_i x y t t2;rw [h x (by simp [Op.operands,Call.operands]),h y (by simp [Op.operands,Call.operands])]
 ·rename_i t p x;rw [h p (by simp [Op.operands]),h x (by simp [Op.operands])]
 ·rename_i t len ps;rw [parts ps (by simpa [Op.operands]using h)]
 ·rename_i f aBq ts;have ha:=args _ (by simpa [Op.operands]using h);simp only at ha;have e1:(aBq.toList.map fun x=>pz rows (ρ x))=aBq.toList.map fun x=>pz rows (ρ' x):=map_congr_left fun x hx=>by rw [ha x hx]
  have e2:(aBq.toList.map fun x=>ρ x)=aBq.toList.map fun x=>ρ' x:=map_congr_left fun x hx=>ha x hx;rw [h f (by simp [Op.operands,Call.operands]),e1,e2];have:(aBq.toList.flatMap fun x=>dA (ρ x))=aBq.toList.flatMap fun x=>dA (ρ' x):=by rw [flatMap_def,flatMap_def];congr 1;exact map_congr_left fun x hx=>by rw [ha x hx]
  rw [this]
 ·suffices hs:yv E op ρ rows v↔yv E op ρ' rows v by rw [hs]
  unfold yv;split
  case h_12 =>
   rename_i t x lo hi mx _ _ _ _
   have o1:∀y:Option Operand,(∀z,y=some z->ρ z=ρ' z)->y.map ρ=y.map ρ':=by
    intro y hy;cases y with
    | none=>rfl
    | some z=>simp [hy z rfl]
   rw [h x (by simp [Op.operands]),o1 lo fun z hz=>h z (by subst hz;simp [Op.operands]),o1 hi fun z hz=>h z (by subst hz;simp [Op.operands]),o1 mx fun z hz=>h z (by subst hz;simp [Op.operands])]
  case h_13=>rename_i t ps _ _ _ _;rw [parts ps (by simpa [Op.operands]using h)]
  case h_15 =>
   rename_i f fs bF _ _ _ _;rw [map_congr_left (l:=bF.toList) (f:=fun x=>ρ x) (g:=fun x=>ρ' x) fun x hx=>h x (by simp [Op.operands];exact .inr (au hx)),map_congr_left (l:=fs.toList) (f:=fun x=>ρ x) (g:=fun x=>ρ' x) fun x hx=>h x (by simp [Op.operands];exact .inl (au hx))]
  all_goals first
   | rfl
   | (simp only [Op.operands,Call.operands]at h;simp [h])
theorem Al(h:∀x∈op.operands,ρ x=ρ' x):ij op ρ=ij op ρ':=by
 unfold ij;split
 all_goals first
  | rfl
  | (rw [flatMap_def,flatMap_def];congr 1;exact map_congr_left fun x hx=>by rw [h x (by simp [Op.operands,Call.operands];exact .inr (au hx))])
  | (simp only [Op.operands,Call.operands]at h;simp [h])
theorem GP(h:∀x∈op.operands,ρ x=ρ' x):yn E c0 d op ρ rows v u↔yn E c0 d op ρ' rows v u:=by
 cases hn:dC E op with
 | false=>rw [Aj hn,Aj hn];exact oA h
 | true =>
  refine ns hn ?_ ?_ ?_ ?_ ?_
  ·rintro t rfl;exact Iff.rfl
  ·rintro t x rfl;simp only [yn];rw [h x (by simp [Op.operands])]
  ·rintro t l c rfl;simp only [yn];rw [h l (by simp [Op.operands]),h c (by simp [Op.operands])]
  ·rintro x y t t2 rfl;simp only [yn];rw [h x (by simp [Op.operands,Call.operands]),h y (by simp [Op.operands,Call.operands])]
  ·rintro g aBq ts rfl hw;simp only [yn];rw [if_pos hw,if_pos hw,map_congr_left (l:=aBq.toList) (f:=fun x=>ρ x) (g:=fun x=>ρ' x) fun x hx=>h x (by simp [Op.operands,Call.operands];exact .inr (au hx))]
theorem GQ{d:Tmp}(h:d ∉ o.looksAt ops)(hx:x∈o.op.operands):x ≠ .tmp d:=by rintro rfl;exact h (mem_append_left _ (mem_filterMap.2 ⟨.tmp d,au hx,rfl⟩))
theorem JW{c:Cx}:az c (.cW []) undef:=by exact⟨[],rfl,trivial⟩
theorem iG{c:Cx}{d:Tmp}{t:Bool}(h1:(ops[j]?).bind (·.dst)=some d)(h:az c (.bool t) (tmps.getD d undef)):yielded ops tmps j=some t:=by
 rw [dm]at h;unfold yielded;rw [h1];simp only [Option.bind_some];cases hx:tmps[d]? with
 | none=>simp [hx]at h;cases h
 | some y =>
  have hy:y = .bool t:=by simpa [hx]using h
  rw [hy]
theorem tT{c:Cx}{d:Tmp}(h1:(ops[j]?).bind (·.dst)=some d)(h:az c (.cW []) (tmps.getD d undef)):yielded ops tmps j=none:=by
 have h2:tmps.getD d undef = .tuple #[]:=by
  obtain⟨vs,h4,h5⟩:=h;cases vs with
  | nil=>exact h4
  | cons=>exact h5.elim
 unfold yielded;rw [h1];simp only [Option.bind_some];cases hx:tmps[d]? with
 | none=>rfl
 | some y =>
  have hy:y = .tuple #[]:=by simpa [hx]using h2
  rw [hy]
theorem MO{dd:Option Tmp}(h:∀d,dd=some d->d ∉ o.looksAt ops):Yg ops o (put f dd v) b↔Yg ops o f b:=by
 unfold Yg;cases hg:o.guard with
 | none=>rfl
 | some g =>
  obtain⟨j,want⟩:=g;simp only
  have key:∀d,(ops[j]?).bind (·.dst)=some d->put f dd v d=f d:=by
   intro d h1;cases dd with
   | none=>rfl
   | some e =>
    have km:d≠e:=(by rintro rfl;exact h d rfl (mem_append_right _ (by simp [hg,h1])));simp [put,km]
  constructor
  ·rintro⟨d,h1,h2⟩;rw [key d h1]at h2;exact⟨d,h1,h2⟩
  ·rintro⟨d,h1,h2⟩;rw [<-key d h1]at h2;exact⟨d,h1,h2⟩
theorem put_comm{x y:Option Tmp}{u:PV}(h:∀d,x=some d->y≠some d):put (put f x v) y u=put (put f y u) x v:=by
 cases x with
 | none=>rfl
 | some d =>
  cases y with
  | none=>rfl
  | some e =>
   have km:d≠e:=fun he=>h d rfl (by rw [he]);funext j;simp only [put];split<;>split<;>simp_all
theorem Am(h:∀r,u≠some (j,r)):dP rows u j=rows j:=by
 cases u with
 | none=>rfl
 | some x =>
  obtain⟨i,r⟩:=x;simp only [dP,dH];rw [if_neg];rintro rfl;exact h r rfl
theorem oW{wl:Nat->Nat->Prop}:Sc i u wl k id↔(k=i ∧ ∃r,u=some (id,r))∨wl k id:=by
 cases u with
 | none=>simp [Sc]
 | some x =>
  obtain⟨iX,r⟩:=x;simp only [Sc,Option.some.injEq,Prod.mk.injEq]
  constructor
  ·rintro(⟨h1,h2⟩ | h)
   ·exact .inl ⟨h1,r,h2.symm,rfl⟩
   ·exact .inr h
  ·rintro(⟨h1,r',h2,_⟩ | h)
   ·exact .inl ⟨h1,h2.symm⟩
   ·exact .inr h
theorem EA{cG:Nat->Nat->Prop}:GO md ops.toList i u cG ↔ ∀id r,u=some (id,r) -> ∀k,cG k id->lB md ops.toList i k=true:=by
 cases u with
 | none=>simp [GO]
 | some x =>
  obtain⟨iX,r⟩:=x;simp only [GO,Cm,Option.some.injEq,Prod.mk.injEq]
  constructor
  ·rintro h _ _ ⟨rfl,_⟩;exact h
  ·intro h;exact h _ _ ⟨rfl,rfl⟩
theorem Yi{bi:Bool}{vi:PV}{ui:Option (Nat × Row)}(hj:ops[j]? = some oj)(SH:oi.apart ops oj=true)(yW:dC E oi.op=true->oi.dst.isSome=true)(aqQ:dC E oj.op=true->oj.dst.isSome=true)(hdj:lB md ops.toList j i=false){K:ST->Prop}{st:ST}
  (hy:YG E md ops c0 i oi bi vi ui st) (ho:GO md ops.toList i ui st.cG) (h:S8 E md ops c0 j K (app i oi bi vi ui st)) :
  S8 E md ops c0 j (fun MP=>YG E md ops c0 i oi bi vi ui MP∧GO md ops.toList i ui MP.cG∧K (app i oi bi vi ui MP)) st:=by
 obtain⟨h1,h2,h3⟩:=Oper.apart_spec SH;unfold S8 at h |-;simp only [hj]at h |-;obtain⟨bj,vj,uj,⟨hgj,hyj⟩,EB,hK⟩:=h;obtain⟨hgi,Pv⟩:=hy;rw [EA]at EB ho;have ej:∀x∈oj.op.operands,aJ (put st.f oi.dst vi) x=aJ st.f x:=fun x hx=>MN fun t ht=>GQ (h1 t ht) hx;have ei:∀x∈oi.op.operands,aJ (put st.f oj.dst vj) x=aJ st.f x:=fun x hx=>MN fun t ht=>GQ (h3 t ht) hx;have aqR:Yg ops oj st.f bj:=(MO h1).1 hgj;have hnw:∀id r,ee md ops.toList j (app i oi bi vi ui st).wl (app i oi bi vi ui st).rows id=some r -> ∀r',ui≠some (id,r'):=by intro id r hr r' hu;obtain⟨hw,_⟩:=kn.1 hr;have:=hw i (oW.2 (.inl ⟨rfl,r',hu⟩));rw [hdj]at this;cases this
 have hle:∀ids,iP ids (ee md ops.toList j (app i oi bi vi ui st).wl (app i oi bi vi ui st).rows) (ee md ops.toList j st.wl st.rows):=by intro ids id _ r hr;have hn:=hnw id r hr;obtain⟨hw,gI⟩:=kn.1 hr;simp only [app]at gI hw;rw [Am hn]at gI;exact kn.2 ⟨fun k hk=>hw k (oW.2 (.inr hk)),gI⟩
 have aqS:(if bj=true then yn E (c0+rk E ops.toList j) oj.dst oj.op (aJ st.f) (ee md ops.toList j st.wl st.rows) vj uj else vj = .cW []∧uj=none) ∧
   (bj=true -> ∀id∈ij oj.op (aJ st.f),∃r,ee md ops.toList j (app i oi bi vi ui st).wl (app i oi bi vi ui st).rows id=some r)∧(∀id r,uj=some (id,r)->bj=true∧((dC E oj.op=true∧id=oj.dst.getD 0)∨id∈ij oj.op (aJ st.f))):=by
  by_cases hb:bj=true
  ·rw [if_pos hb]at hyj |-;have Yj:=(GP ej).1 hyj;obtain⟨g1,g2,g3⟩:=MM (hle _) Yj;exact⟨g1,fun _=>g2,fun id r hu=>⟨hb,g3 id r hu⟩⟩
  ·rw [if_neg hb]at hyj |-;exact⟨hyj,fun h=>absurd h hb,fun id r hu=>by rw [hyj.2]at hu;cases hu⟩
 obtain⟨aqT,Yj,aqU⟩:=aqS;have aqV:GO md ops.toList j uj st.cG:=EA.2 fun id r hu k hk=>EB id r hu k (.inr hk);have hfi:∀id r,uj=some (id,r)->¬(bi=true∧id∈ij oi.op (aJ st.f)):=by intro id r hu hh;have:=EB id r hu i (.inl ⟨hh.1,rfl,hh.2⟩);rw [hdj]at this;cases this
 have hui:∀id r,ui=some (id,r)->bi=true∧((dC E oi.op=true∧id=oi.dst.getD 0)∨id∈ij oi.op (aJ st.f)):=by
  intro id r hu
  by_cases hb:bi=true
  ·rw [if_pos hb]at Pv;exact⟨hb,(MM (rows':=ee md ops.toList i st.wl st.rows) (fun id _ r hr=>hr) Pv).2.2 id r hu⟩
  ·rw [if_neg hb]at Pv;rw [Pv.2]at hu;cases hu
 have km:∀id r r',ui=some (id,r)->uj=some (id,r')->False:=by
  intro id r r' hu1 X1;obtain⟨hb,hh⟩:=aqU id r' X1
  rcases hh with hh | hh
  ·obtain⟨Ey,hh1⟩:=hui id r hu1
   rcases hh1 with hh1 | hh1
   ·obtain⟨d,hd⟩:=Option.isSome_iff_exists.1 (yW hh1.1);have e1:id=d:=(by rw [hh1.2,hd];rfl);cases aec:oj.dst with
    | none=>exact absurd aec (fun he=>by have:=aqQ hh.1;rw [he]at this;cases this)
    | some d' =>
     have e2:id=d':=(by rw [hh.2,aec];rfl);exact h2 d hd (by rw [aec,<-e2,e1])
   ·exact hfi id r' X1 ⟨Ey,hh1⟩
  ·obtain⟨r'',aqX⟩:=Yj hb id hh;exact hnw id r'' aqX r hu1
 have aqY:bi=true->iP (ij oi.op (aJ st.f)) (ee md ops.toList i st.wl st.rows) (ee md ops.toList i (app j oj bj vj uj st).wl (app j oj bj vj uj st).rows):=by
  intro hb id fp r hr;obtain⟨hw,gI⟩:=kn.1 hr;have hn:∀r',uj≠some (id,r'):=fun r' hu=>hfi id r' hu ⟨hb,fp⟩
  refine kn.2 ⟨fun k hk=>?_,?_⟩
  ·rcases oW.1 hk with ⟨_,r',hu⟩ | hk
   ·exact absurd hu (hn r')
   ·exact hw k hk
  ·simp only [app];rw [Am hn];exact gI
 refine⟨bj,vj,uj,⟨aqR,aqT⟩,aqV,⟨(MO h3).2 hgi,?_⟩,?_,?_⟩
 ·by_cases hb:bi=true
  ·rw [if_pos hb]at Pv |-;refine(GP ei).2 ?_;exact(MM (aqY hb) Pv).1
  ·rw [if_neg hb]at Pv |-;exact Pv
 ·-- i's own row has not axp aoD
  rw [EA]
  rintro id r hu k (⟨hb,rfl,hh⟩ | hh)
  ·obtain⟨r',gI⟩:=Yj hb id hh;exact absurd hu (hnw id r' gI r)
  ·exact ho id r hu k hh
 ·have:app i oi bi vi ui (app j oj bj vj uj st)=app j oj bj vj uj (app i oi bi vi ui st):=by
   simp only [app,ST.mk.injEq]
   refine⟨put_comm fun d hd=>fun MQ=>(h2 d) (by first | exact hd | exact MQ) (by first | exact MQ | exact hd),?_,?_,?_⟩
   ·cases ui with
    | none=>rfl
    | some x =>
     cases uj with
     | none=>rfl
     | some y =>
      obtain⟨id,r⟩:=x;obtain⟨iX,r'⟩:=y;have:id≠iX:=fun e=>km id r r' rfl (by rw [e]);funext k;simp only [dP,dH];split<;>split<;>simp_all
   ·funext k id;have e1:ij oi.op (aJ (put st.f oj.dst vj))=ij oi.op (aJ st.f):=Al ei;have e2:ij oj.op (aJ (put st.f oi.dst vi))=ij oj.op (aJ st.f):=Al ej;rw [e1,e2];apply propext
    constructor
    ·rintro(h | h | h)
     ·exact .inr (.inl h)
     ·exact .inl h
     ·exact .inr (.inr h)
    ·rintro(h | h | h)
     ·exact .inr (.inl h)
     ·exact .inl h
     ·exact .inr (.inr h)
   ·funext k id;apply propext;rw [oW,oW,oW,oW]
    constructor
    ·rintro(h | h | h)
     ·exact .inr (.inl h)
     ·exact .inl h
     ·exact .inr (.inr h)
    ·rintro(h | h | h)
     ·exact .inr (.inl h)
     ·exact .inl h
     ·exact .inr (.inr h)
  rw [this];exact hK
theorem An{f:Nat}:Cl md ops.toList (f+1) j k=true ↔ ∃oj,ops[j]? = some oj ∧ ∃e∈oj.after,Region.binds md e=true∧(e.on=k∨Cl md ops.toList f e.on k=true):=by
 rw [Cl];cases h:ops[j]? with
 | none=>simp [show ops.toList[j]? = none by simpa using h]
 | some oj =>
  rw [show ops.toList[j]? = some oj by simpa using h];simp only [any_eq_true,Bool.and_eq_true,Bool.or_eq_true,beq_iff_eq,Option.some.injEq]
  constructor
  ·rintro⟨e,he,h1,h2⟩;exact⟨oj,rfl,e,au he,h1,h2⟩
  ·rintro⟨_,rfl,e,he,h1,h2⟩;exact⟨e,au he,h1,h2⟩
theorem nt(inv:HeadInv md ops n ao):∀(f j:Nat) (oj:Oper),ops[j]? = some oj->(∀e∈oj.after,Region.binds md e=true->ao.getD e.on false=true)->Cl md ops.toList f j i=true->ao.getD i false=true:=by
 intro f
 induction f with
 | zero=>intro j oj _ _ h;rw [Cl]at h;cases h
 | succ f ih =>
  intro j oj hj hr h;obtain⟨o,ho,e,he,h1,h2⟩:=An.1 h;rw [hj]at ho;cases ho;have h3:=hr e he h1
  rcases h2 with rfl | h2
  ·exact h3
  ·cases f with
   | zero=>rw [Cl]at h2;cases h2
   | succ f =>
    obtain⟨o',tq,_⟩:=An.1 h2;exact ih e.on o' tq (fun e' oU gC=>inv.closed e.on o' tq h3 e' oU gC) h2
theorem Yk(hj:ops[j]? = some oj)(inv:HeadInv md ops n ao)(hr:∀e∈oj.after,Region.binds md e=true->ao.getD e.on false=true)(mY:ao.getD i false=false):lB md ops.toList j i=false:=by
 cases hd:lB md ops.toList j i with
 | false=>rfl
 | true=>rw [nt inv 12 j oj hj hr hd]at mY;cases mY
end
section
variable {E:Env} {ops:Array Oper} {md:Region.Mode}
def GR(E:Env)(md:Region.Mode)(ops:Array Oper)(c0 n:Nat)(L:Array Bool->ST->Prop):Nat->Array Bool->ST->Prop
 | 0,ao,st=>L ao st
 | f+1,ao,st=>Region.ready md ops ao ≠ [] ∧ ∀i∈Region.ready md ops ao,i<n∧S8 E md ops c0 i (GR E md ops c0 n L f (ao.setIfInBounds i true)) st
theorem GS{L:Array Bool->ST->Prop}(hi:ops[i]? = some oi)(oT:∀i oi,i<n->ops[i]? = some oi->dC E oi.op=true->oi.dst.isSome=true)
  (Ao:∀ao,HeadInv md ops n ao -> ∀i,i<n->ao.getD i true=false -> ∀t,n<=t->t ∉ Region.ready md ops ao) (wY:i<n)
  (akd:∀ao st,L ao st -> ∀j∈Region.ready md ops ao,n<=j) :
  ∀(f:Nat) (ao:Array Bool) (st:ST),HeadInv md ops n ao ->
   (∀j oj,ops[j]? = some oj->j≠i->ao.getD j true=false->(∀e∈oj.after,Region.binds md e=true->e.on≠i)->oi.apart ops oj=true) ->
   i∈Region.ready md ops ao->YG E md ops c0 i oi b v u st->GO md ops.toList i u st.cG ->
   GR E md ops c0 n L f (ao.setIfInBounds i true) (app i oi b v u st)->GR E md ops c0 n L (f+1) ao st:=by
 intro f
 induction f with
 | zero =>
  intro ao st inv _ hr hy ho H;have mY:=(mem_ready.1 hr).1;refine⟨fun h=>(by rw [h]at hr;cases hr),fun j hj=>?_⟩
  have hjn:j<n:=by
   rcases Nat.lt_or_ge j n with h | h
   ·exact h
   ·exact absurd hj (Ao ao inv i wY mY j h)
  refine⟨hjn,?_⟩
  by_cases B9:j=i
  ·subst B9;unfold S8;simp only [hi];exact⟨b,v,u,hy,ho,H⟩
  ·have:=akd _ _ H j (ready_mono hj B9);omega
 | succ f ih =>
  intro ao st inv abB hr hy ho H;have mY:=(mem_ready.1 hr).1;refine⟨fun h=>(by rw [h]at hr;cases hr),fun j hj=>?_⟩
  have hjn:j<n:=by
   rcases Nat.lt_or_ge j n with h | h
   ·exact h
   ·exact absurd hj (Ao ao inv i wY mY j h)
  refine⟨hjn,?_⟩
  by_cases B9:j=i
  ·subst B9;unfold S8;simp only [hi];exact⟨b,v,u,hy,ho,H⟩
  ·have h1:=(H.2 j (ready_mono hj B9)).2;obtain⟨Ym,oj,EB,oX⟩:=mem_ready.1 hj;have aed:∀e∈oj.after,Region.binds md e=true->e.on≠i:=fun e he hb heq=>by have h1:=oX e he hb;rw [heq,getD_both mY]at h1;cases h1
   have h2:=Yi EB (abB j oj EB B9 Ym aed) (oT i oi wY hi) (oT j oj hjn EB) (Yk EB inv oX (getD_both mY)) hy ho h1
   have aee:∀k ok,ops[k]? = some ok->k≠i->(ao.setIfInBounds j true).getD k true=false ->
     (∀e∈ok.after,Region.binds md e=true->e.on≠i)->oi.apart ops ok=true:=fun k ok hk mZ akf wZ=>by
    refine abB k ok hk mZ ?_ wZ
    by_cases Ta:j=k
    ·subst Ta;exact Ym
    ·rw [getD_set_ne true Ta]at akf;exact akf
   refine S9 (fun MP h3=>ih (ao.setIfInBounds j true) MP (inv.set hj hjn) aee (ready_mono hr (Ne.symm B9)) h3.1 h3.2.1 ?_) h2;rw [Array.setIfInBounds_comm _ _ B9];exact h3.2.2
def aef(E:Env)(md:Region.Mode)(ops:Array Oper)(c0:Nat)(Lq:ST->Prop):Nat->List Oper->ST->Prop
 | _,[],st=>Lq st
 | k,o::os,st=>∃b v u,YG E md ops c0 k o b v u st∧GO md ops.toList k u st.cG∧aef E md ops c0 Lq (k+1) os (app k o b v u st)
theorem ss{c0 n g:Nat}{Lq:ST->Prop}(oT:∀i oi,i<n->ops[i]? = some oi->dC E oi.op=true->oi.dst.isSome=true)(Ao:∀ao,HeadInv md ops n ao -> ∀i,i<n->ao.getD i true=false -> ∀t,n<=t->t ∉ Region.ready md ops ao) :
  ∀(l:List Oper) (k:Nat) (ao:Array Bool) (st:ST),(∀j,j<l.length->l[j]? = ops[k+j]?)->k+l.length=n->HeadInv md ops n ao ->
  Region.lexHead md ops g l.length k ao=true->aef E md ops c0 Lq k l st ->
  GR E md ops c0 n (fun MR MP=>Region.seqB md ops g n MR=true∧Lq MP) l.length ao st
 | [],k,ao,st,_,hk,_,hB,h=>by have:k=n:=au hk;subst this;exact⟨by simpa [Region.lexHead]using hB,h⟩
 | o::l,k,ao,st,hl,hk,inv,hB,h=>by
  have h0:ops[k]? = some o:=by simpa using(hl 0 av).symm
  simp only [length_cons,Region.lexHead,Bool.and_eq_true]at hB;obtain⟨⟨hr,hf⟩,Gm⟩:=hB;have hkn:k<n:=by simp only [length_cons]at hk;omega
  have gI:k∈Region.ready md ops ao:=au hr;obtain⟨b,v,u,hy,ho,hK⟩:=h
  exact GS h0 oT Ao hkn (fun MR MP hL=>seqB_ready hL.1) l.length ao st inv (Region.free_spec h0 hf) gI hy ho
   (ss oT Ao l (k+1) _ _ (fun j hj=>by have:=hl (j+1) (by simp;omega);simpa [Nat.add_assoc,Nat.add_comm 1 j]using this) (by simp only [length_cons]at hk;omega) (inv.set gI hkn) Gm hK)
variable {w0:World} {S0:dz} {m:Nat} {G:Gs}
theorem JX(eJ:¬U c0){aBq:Array Operand}(ho:o.op = .call { callee:=.value (.func g),args:=aBq,argTypes:=ts })
  (hy:abA E g (aBq.toList.map fun x=>aJ f x) c0 (o.dst.getD 0) v u) (hR:ou w0 S0 m G U f rows a w) (hd:∀t,o.dst=some t->t<m)
 (hK:∀a' w',ou w0 S0 m G (fun v=>v=c0∨U v) (put f o.dst v) (dP rows u) a' w'->K' a' w'):o.wp E.P a w K' Q:=by
 obtain⟨⟨c,rfl,hr,eB,hI,hf,hG⟩,hn,eW⟩:=hR;have hρ:=lS hf;have hfu:¬c.used c0:=fun hu=>eJ (eB _ hu);obtain⟨tx,e,n,els,⟨⟨fn,b,h1,h2,h3⟩,Ag⟩,rfl,rfl⟩:=hy;obtain⟨dst,op,type,pos,after,guard⟩:=o;simp only at ho hd hK;subst ho;have di:aN (az c) (aBq.toList.map fun x=>aJ f x) (aBq.map a.eval).toList:=by refine aN.bT av fun k p u hp hu=>?_;simp at hp hu;obtain⟨x,hx,rfl⟩:=hp;obtain⟨y,hy,rfl⟩:=hu;rw [hx]at hy;cases hy;exact hρ x
 have fh:bO c.S c.w (aBq.toList.map fun x=>aJ f x) (aBq.map a.eval).toList:=cI.2 (aN.bT di.length fun k p u hp hu=>by obtain⟨u',q1,q2⟩:=di.get hp;rw [hu]at q1;cases q1;exact q2.rep (all_eq_true.1 tx p (mem_of_getElem? hp)));have iL:=Ag c.w c.S _ (fun b o hb=>hI.lt hb) fh;simp only [Array.toArray_toList]at iL;have Ev:=hρ (.func g);simp only [aJ,az,aB,de]at Ev;obtain⟨cs,X6,z6⟩:=Ev;simp only [bO]at z6;subst z6;unfold Oper.wp;have gQ:(execOp a.eval { dst:=dst,op:=.call { callee:=.value (.func g),args:=aBq,argTypes:=ts },type:=type,pos:=pos,after:=after,guard:=guard }).run E.P c.w = .ok (.enter g (aBq.map a.eval)) c.w:=by simp only [execOp,resolve,X6,Deferred.ofValue,Sem.run_bind,Sem.run_pure,Result.andThen_ok,invoke];simpa using gb h1 h2 h3 (aBq.map a.eval) c.w
 rw [gQ];refine iL.mono ?_;rintro x w' ⟨v',xs,S',rfl,hb,g1,g2,g3,g4,g5,g6,g7,g8⟩;obtain⟨Xz,hA2⟩:=hI.grow hb g1 g2
 obtain⟨hI3,hA3⟩:=Xz.set (w':=w') (ob:=v'.ownBlock) (id:=dst.getD 0) (r':=⟨c0,e,n,els⟩) (v':=v') (xs:=xs) (World.grownBy.refl _ _)
  (fun g hg=>by have Pf:=(g3.lt g hg).1;refine⟨by have:=hI.below.size;omega,fun o=>g8 g o hg,fun iX r hr _ gC=>?_⟩;obtain⟨⟨ys,q1,_,_⟩,_⟩:=hI.row iX r hr;have:=(q1.lt g gC).2;omega) ⟨g3.1,g3.2.imp id fun⟨g,cap,cur,q1,q2,q3⟩=>⟨g,cap,cur,q1,Nat.le_trans hI.below.size q2,q3⟩⟩ (g4.mono fun _ _ h=>aB.ia h) g5 g6 g7 (fun g hg => .inl hg) hfu
 refine hK _ _ ?_;have hf2:∀s,az { c with S:=S',w:=w' } (f s) (a.tmps.getD s undef):=fun s=>az.pM hA2 _ _ (hf s);have hG2:∀p∈G,az { c with S:=S',w:=w' } p.1 p.2:=fun p hp=>az.pM hA2 _ _ (hG p hp);refine qR hf2 hG2 hn eW hA3 hI3 ?_ hd rfl (by simp [dP,hr]) (fun v hv=>hv.imp (fun h=>h) (eB v))
 rcases g3.2 with ⟨rfl,h8⟩ | ⟨g,jj,cur,rfl,_⟩
 ·have:els.length=0:=h8;rw [this];exact kV (r:=⟨c0,e,n,els⟩) (A:=none) (cap:=0) (by simp [dH]) (au h8) (Or.inl rfl) (by simp [dH])
 ·exact kV (r:=⟨c0,e,n,els⟩) (by simp [dH]) rfl (Or.inl rfl) (by simp [dH])
theorem Tb(eJ:¬U c0)(hn:dC E o.op=true)(hy:yn E c0 o.dst o.op (aJ f) rows v u)(hR:ou w0 S0 m G U f rows a w)(hd:∀t,o.dst=some t->t<m)
 (hK:∀a' w',ou w0 S0 m G (fun v=>v=c0∨U v) (put f o.dst v) (dP rows u) a' w'->K' a' w'):o.wp E.P a w K' Q:=by
 by_cases iL:∃g aBq ts,o.op = .call { callee:=.value (.func g),args:=aBq,argTypes:=ts }∧E.writes g=true
 ·obtain⟨g,aBq,ts,ho,hw⟩:=iL;rw [ho]at hy;simp only [yn]at hy;rw [if_pos hw]at hy;exact JX eJ ho hy hR hd hK
 refine u0 (ver:=c0) eJ (K:=fun _ f' rows'=>f'=put f o.dst v∧rows'=dP rows u) ?_ hR hd (fun i f' rows' a' w' h gR=>by obtain⟨rfl,rfl⟩:=h;exact hK a' w' (gR.mono fun v hv=>hv.imp (fun h=>h.2) fun h=>h));obtain⟨dst,op,type,pos,after,guard⟩:=o;simp only at hn hy iL |-
 refine ns hn ?_ ?_ ?_ ?_ ?_
 ·rintro t rfl;simp only [yn]at hy;obtain⟨h2,rfl,rfl⟩:=hy;exact⟨h2,rfl,rfl⟩
 ·rintro t x rfl;simp only [yn]at hy;obtain⟨h2,l,h3,h4,h5,rfl,rfl⟩:=hy;exact⟨h2,l,h3,fun q hq=>Ez (fun id _ r hr=>by cases hr) (h4 q hq),h5,rfl,rfl⟩
 ·rintro t l cc rfl;simp only [yn]at hy;simp only [nY]
  split at hy
  ·rename_i e n b z k1 x k2 y hE hl hc;obtain⟨g1,g2,g3,g4,rfl,rfl⟩:=hy
   try rw [hE,hl,hc]
   exact⟨g1,g2,g3,g4,rfl,rfl⟩
  ·exact hy.elim
 ·rintro x y t t2 rfl;simp only [yn]at hy;obtain⟨h2,hy⟩:=hy;simp only [nY];refine⟨h2,?_⟩;unfold tD at hy;unfold ow
  split at hy
  ·rename_i e n b z hE;obtain⟨l,g1,g2,g3⟩:=hy;rw [hE];refine⟨l,g1,g2,?_⟩
   split at g3
   ·rename_i hx;obtain⟨q1,q2,rfl,rfl⟩:=g3;rw [hx];exact⟨q1,q2,rfl,rfl⟩
   ·rename_i id ver off len hx;obtain⟨r,q1,q2,q3,q4,q5,q6,q7,q8,rfl,rfl⟩:=g3;rw [hx];exact⟨r,q1,q2,q3,q4,q5,q6,q7,q8,rfl,rfl⟩
   ·rename_i l0 hx;obtain⟨q1,q2,q3,q4,rfl,rfl⟩:=g3;rw [hx];exact⟨q1,q2,q3,q4,rfl,rfl⟩
   ·exact g3.elim
  ·exact hy.elim
 ·rintro g aBq ts rfl hw;exact absurd ⟨g,aBq,ts,rfl,hw⟩ iL
theorem Pw{st:ST}{K:ST->Prop}(eJ:∀o,ops[i]? = some o->dC E o.op=true->¬U (c0+rk E ops.toList i))(h:S8 E md ops c0 i K st)(hR:ou w0 S0 m G U st.f st.rows a w)(hd:∀o,o∈ops -> ∀t,o.dst=some t->t<m)
 (hK:∀MP a' w',K MP->ou w0 S0 m G (fun v=>(v=c0+rk E ops.toList i ∧ ∃o,ops[i]? = some o∧dC E o.op=true)∨U v) MP.f MP.rows a' w'->K' a' w'):wpOp E.P ops Q i K' a w:=by
 unfold S8 at h;unfold wpOp
 split at h
 ·rename_i hi;simp only [hi];exact hK _ _ _ h (hR.mono fun v hv => .inr hv)
 ·rename_i o hi;simp only [hi];obtain⟨b,v,u,⟨hg,hy⟩,ho,hk⟩:=h;have gR:=hR;obtain⟨⟨c,rfl,hr,eB,hI,hf,hG⟩,hn,eW⟩:=hR;have Yn:=hd o (Array.mem_of_getElem? hi)
  have abC:Region.wanted o (yielded ops a.tmps)=b:=by
   unfold Yg at hg;unfold Region.wanted;cases hgd:o.guard with
   | none=>rw [hgd]at hg;simp only at hg |-;exact hg.symm
   | some x =>
    obtain⟨j,want⟩:=x;rw [hgd]at hg;simp only at hg |-;obtain⟨d,h1,h2⟩:=hg;have hx:=hf d
    rcases h2 with ⟨h2,h3⟩ | ⟨h2 | h2,h3⟩
    ·rw [h2]at hx;rw [iG h1 hx,h3];cases want<;>rfl
    ·rw [h2]at hx;rw [iG h1 hx,h3];cases want<;>rfl
    ·rw [h2]at hx;rw [tT h1 hx,h3];rfl
  by_cases hb:b=true
  ·subst hb;rw [if_pos rfl]at hy;rw [abC,if_pos rfl];left;cases oT:dC E o.op with
   | true =>
    refine Tb (eJ o hi oT) oT (MM (fun id _ r gI=>(kn.1 gI).2) hy).1 gR Yn fun a' w' JY=>hK _ _ _ hk ?_;exact JY.mono fun v hv=>hv.imp (fun h=>⟨h,o,by first | exact hi | rfl,oT⟩) fun h=>h
   | false =>
    rw [Aj oT]at hy;have tz:ys E o.op (aJ st.f) c.rows v u:=(by rw [hr];exact(abz (fun id _ r gI=>(kn.1 gI).2) hy).1);refine GL hI hf tz fun v' c' h1 h2 h3 h4 h5=>hK _ _ _ hk ?_
    refine Pn hf hG hn eW h3 h4 h5 Yn rfl ?_ ?_
    ·simp only [app];rw [h1,hr]
    ·rw [h2];exact fun v hv => .inr (eB v hv)
  ·rw [if_neg hb]at hy;obtain⟨rfl,rfl⟩:=hy;rw [abC,if_neg hb];refine hK _ _ _ hk ?_;have gC:b=false:=au hb;subst gC;exact qR hf hG hn eW (so.refl c) hI JW Yn rfl (by rw [hr];rfl) (fun v hv => .inr (eB v hv))
def Ul(E:Env)(ops:Array Oper)(c0 n:Nat)(ao:Array Bool):Nat->Prop:=fun v=>v<c0 ∨ ∃k o,k<n∧ops[k]? = some o∧dC E o.op=true∧v=c0+rk E ops.toList k∧ao.getD k false=true
theorem JZ{v:Nat}(h:Ul E ops c0 n ao v):v<c0+rk E ops.toList n:=by
 rcases h with h | ⟨k,o,hk,ho,hn,rfl,_⟩
 ·omega
 ·have:=GN (ops:=ops.toList) (au ho) hn hk;omega
theorem kI{c0 n g:Nat}{L:Array Bool->ST->Prop}{Q:Exit->Act->World->Prop}(hd:∀o,o∈ops -> ∀t,o.dst=some t->t<m)
  (hL:∀ao (st:ST) a w,L ao st->ou w0 S0 m G (Ul E ops c0 n ao) st.f st.rows a w->wpAny E.P md ops Q g ao a w) :
  ∀(f:Nat) (ao:Array Bool) (st:ST) (a:Act) (w:World),n<=ao.size->GR E md ops c0 n L f ao st->ou w0 S0 m G (Ul E ops c0 n ao) st.f st.rows a w->wpAny E.P md ops Q (f+g) ao a w
 | 0,ao,st,a,w,_,h,hR=>by rw [Nat.zero_add];exact hL _ _ _ _ h hR
 | f+1,ao,st,a,w,mr,h,hR=>by
  rw [show f+1+g=(f+g)+1 by omega];refine⟨fun h0=>absurd h0 h.1,fun i hi=>?_⟩;have mY:=(mem_ready.1 hi).1;obtain⟨wY,hq⟩:=h.2 i hi
  refine Pw (fun o ho hn hU=>?_) hq hR hd fun MP a' w' h' gR=>kI hd hL f _ MP a' w' (au mr) h' (gR.mono fun v hv=>?_)
  ·rcases hU with hU | ⟨k,o',hk,tq,wX,he,hl⟩
   ·omega
   ·have:=aea (ops:=ops.toList) (au ho) hn (au tq) wX aa;subst this;rw [getD_both mY]at hl;cases hl
  ·rcases hv with ⟨rfl,o,ho,hn⟩ | hv
   ·exact .inr ⟨i,o,wY,ho,hn,rfl,by simp [show i<ao.size by omega]⟩
   ·rcases hv with hv | ⟨k,o,hk,ho,hn,he,hl⟩
    ·exact .inl hv
    ·refine .inr ⟨k,o,hk,ho,hn,he,?_⟩
     by_cases mZ:i=k
     ·subst mZ;simp [show i<ao.size by omega]
     ·simpa [Array.getElem?_setIfInBounds_ne mZ]using hl
end
def aC(E:Env)(ops:List Oper):List Oper->(PS->Prop)->PS->Prop
 | [],K,σ=>K σ
 | o::os,K,σ =>
  match o.guard with
  | none=>dJ E o (aC E ops os K) σ
  | some (j,want) =>
   match (ops[j]?).bind (·.dst)with
   | none=>False
   | some d=>(σ.f d = .bool want∧dJ E o (aC E ops os K) σ)∨((σ.f d = .bool (!want)∨σ.f d = .cW [])∧aC E ops os K (σ.put o.dst (.cW [])))
def aV(E:Env)(ops:List Oper)(clk:Nat):Nat->List Oper->(PS->Prop)->ST->Prop
 | _,[],K,st=>K ⟨st.f,st.rows,clk⟩
 | k,o::os,K,st =>
  match o.guard with
  | none=>∃v u,yn E clk o.dst o.op (aJ st.f) (ee .any ops k st.wl st.rows) v u∧GO .any ops k u st.cG∧aV E ops (ko E o.op clk) (k+1) os K (app k o true v u st)
  | some (j,want) =>
   match (ops[j]?).bind (·.dst)with
   | none=>False
   | some d=>(st.f d = .bool want ∧ ∃v u,yn E clk o.dst o.op (aJ st.f) (ee .any ops k st.wl st.rows) v u∧GO .any ops k u st.cG∧aV E ops (ko E o.op clk) (k+1) os K (app k o true v u st))∨((st.f d = .bool (!want)∨st.f d = .cW [])∧aV E ops clk (k+1) os K (app k o false (.cW []) none st))
def gF(E:Env)(tl:Nat)(ops:List Oper)(K:PS->Prop)(σ:PS):Prop:=
 if tl=0 then aV E ops σ.clock 0 ops K ⟨σ.f,σ.rows,fun _ _=>False,fun _ _=>False⟩
 else aV E ops σ.clock 0 (ops.take (ops.length-tl)) (aC E ops (ops.drop (ops.length-tl)) K) ⟨σ.f,σ.rows,fun _ _=>False,fun _ _=>False⟩
inductive PX where
 | normal
 | exit (id:Nat)
 | ret
def Co(K:PS->Prop)(Q:PX->PS->Prop):PX->PS->Prop
 | .normal,σ=>K σ
 | .exit id,σ=>Q (.exit id) σ
 | .ret,σ=>Q .ret σ
def Cp(id:Nat)(Q:PX->PS->Prop):PX->PS->Prop
 | .normal,σ=>Q .normal σ
 | .exit j,σ=>if j=id then Q .normal σ else Q (.exit j) σ
 | .ret,σ=>Q .ret σ
def pS(E:Env)(n tl:Nat)(ops:Array Oper)(draw:Bool):Bool:=
 (ops.all fun o=>match o.dst with | some d=>decide (d<n) | none=>true) &&
 (!draw || (tS E (if tl=0 then ops.toList else ops.toList.take (ops.size-tl))&&(if tl=0 then Region.noSelect ops&&Region.lexHead .any ops 0 ops.size 0 (Array.replicate ops.size false)else decide (tl<=ops.size)&&Region.lexTailB .any ops (ops.size-tl))))
def dQ(E:Env)(n:Nat)(tl:Nat->Nat):Code->Bool
 | .region id ops draw=>pS E n (tl id) ops draw
 | .seq a b=>dQ E n tl a&&dQ E n tl b
 | .cond _ t e=>dQ E n tl t&&dQ E n tl e
 | .block _ c=>dQ E n tl c
 | .loop c=>dQ E n tl c
 | _=>true
section
variable {E:Env} {w0:World} {S0:dz} {n:Nat} {G:Gs}
theorem ik{ops:Array Oper}{K:PS->Prop}{Q:Exit->Act->World->Prop}(hK:∀σ' a' w',K σ'->Rel w0 S0 n G σ' a' w'->Q .normal a' w') :
  ∀(l:List Oper) (σ:PS) (a:Act) (w:World),(∀o∈l,∀t,o.dst=some t->t<n)->aC E ops.toList l K σ->Rel w0 S0 n G σ a w->wpList E.P ops Q l a w
 | [],σ,a,w,_,h,hR=>hK _ _ _ h hR
 | o::os,σ,a,w,hd,h,hR=>by
  have Yn:=hd o av;have yW:∀o∈os,∀t,o.dst=some t->t<n:=fun o ho=>hd o (by simp [ho])
  have wanted:∀ {σ},dJ E o (aC E ops.toList os K) σ->Rel w0 S0 n G σ a w->o.wp E.P a w (wpList E.P ops Q os) Q:=fun hp hR =>
   nr hp hR Yn fun σ' a' w' hk gR=>ik hK os σ' a' w' yW hk gR
  unfold wpList;simp only [aC]at h
  split at h
  ·rename_i hg;rw [if_pos (by simp [Region.wanted,hg])];exact .inl (wanted h hR)
  ·rename_i j want hg
   split at h
   ·exact h.elim
   ·rename_i d GU;have XA:(ops[j]?).bind (·.dst)=some d:=au GU;have skip:yielded ops a.tmps j≠some want->aC E ops.toList os K (σ.put o.dst (.cW []))->(if Region.wanted o (yielded ops a.tmps)=true then o.wp E.P a w (wpList E.P ops Q os) Q∨(o.asks E.P a w∧LetsOut Q)else wpList E.P ops Q os (a.put o.dst undef) w):=(by intro hy h2;rw [if_neg (by simpa [Region.wanted,hg]using hy)];refine ik hK os _ _ w yW h2 ?_;obtain⟨⟨c,rfl,hr,eB,hI,hf,hG⟩,hn,eW⟩:=hR;exact oV hf hG hn eW (so.refl c) hI JW Yn rfl (by simp [PS.put,hr]) eB);obtain⟨c,_,_,_,_,hf,_⟩:=hR.ex;have hx:=hf d
    rcases h with ⟨h1,h2⟩ | ⟨h1 | h1,h2⟩
    ·rw [h1]at hx;rw [if_pos (by simp [Region.wanted,hg,iG XA hx])];exact .inl (wanted h2 hR)
    ·rw [h1]at hx;exact skip (by rw [iG XA hx];cases want<;>simp) h2
    ·rw [h1]at hx;exact skip (by rw [tT XA hx];simp) h2
theorem oB{ops:Array Oper}{c0:Nat}{K:PS->Prop}:∀(l:List Oper) (k clk:Nat) (st:ST),(∀j,j<l.length->l[j]? = ops[k+j]?)->tS E l=true->clk=c0+rk E ops.toList k->aV E ops.toList clk k l K st->aef E .any ops c0 (fun st=>K ⟨st.f,st.rows,c0+rk E ops.toList (k+l.length)⟩) k l st
 | [],k,clk,st,_,_,hc,h=>by subst hc;exact h
 | o::os,k,clk,st,hl,GV,hc,h=>by
  have aeg:tS E os=true:=by simp only [tS,all_cons,Bool.and_eq_true]at GV |-;exact GV.2
  have aq1:o.guard≠none->dC E o.op=false:=fun hg=>by
   simp only [tS,all_cons,Bool.and_eq_true]at GV;cases hn:dC E o.op with
   | false=>rfl
   | true=>have:=GV.1;rw [hn]at this;simp at this;exact absurd this.2 hg
  have h0:ops[k]? = some o:=by simpa using(hl 0 av).symm
  have qQ:ko E o.op clk=c0+rk E ops.toList (k+1):=by rw [hc];exact Yh (au h0)
  have MF:∀j,j<os.length->os[j]? = ops[k+1+j]? := fun j hj=>by have:=hl (j+1) (by simp;omega);simpa [Nat.add_assoc,Nat.add_comm 1 j]using this
  have e1:k+(o::os).length=k+1+os.length:=by simp only [length_cons];omega
  rw [e1];simp only [aV]at h
  split at h
  ·rename_i hg;obtain⟨v,u,h1,h2,h3⟩:=h;exact⟨true,v,u,⟨by simp [Yg,hg],by rw [if_pos rfl,<-hc];exact h1⟩,h2,oB os _ _ _ MF aeg qQ h3⟩
  ·rename_i j want hg
   split at h
   ·exact h.elim
   ·rename_i d GU;have XA:(ops[j]?).bind (·.dst)=some d:=au GU
    rcases h with ⟨h1,v,u,q1,q2,q3⟩ | ⟨h1,h2⟩
    ·exact⟨true,v,u,⟨by simp only [Yg,hg];exact⟨d,XA, .inl ⟨h1,trivial⟩⟩,by rw [if_pos rfl,<-hc];exact q1⟩,q2,oB os _ _ _ MF aeg qQ q3⟩
    ·exact⟨false, .cW [],none,⟨by simp only [Yg,hg];exact⟨d,XA, .inr ⟨h1,trivial⟩⟩,av⟩,trivial,oB os _ _ _ MF aeg (by rw [<-qQ,Ak (aq1 (by rw [hg];simp))]) h2⟩
theorem Rel.drew(h:Rel w0 S0 n G σ a w):Rel w0 S0 n G σ a { w with drawn:=w.drawn+1 }:=by obtain⟨⟨c,rfl,hr,eB,hI,hf,hG⟩,hn,eW⟩:=h;obtain⟨mh,hA⟩:=hI.grow (w':={ c.w with drawn:=c.w.drawn+1 }) (S':=c.S) ⟨rfl,rfl,rfl,Nat.le_refl _,fun _ _=>rfl⟩ (fun _ _ h=>h) (fun _ _ h => .inl h);exact⟨⟨{ c with w:={ c.w with drawn:=c.w.drawn+1 } },rfl,hr,eB,mh,fun s=>az.pM hA _ _ (hf s),fun p hp=>az.pM hA _ _ (hG p hp)⟩,hn,eW⟩
theorem tE{ops:Array Oper}{K:PS->Prop}(ec:pS E n tl ops true=true)(h:gF E tl ops.toList K σ)(hR:Rel w0 S0 n G σ a w)
  (hK:∀σ' a' w',K σ'->Rel w0 S0 n G σ' a' w'->Q .normal a' w'):(Code.region id ops true).wp E.P Q a w:=by
 simp only [pS,Bool.and_eq_true,Bool.not_true,Bool.false_or]at ec;obtain⟨yF,tF,ec⟩:=ec;have hd:∀o,o∈ops -> ∀t,o.dst=some t->t<n:=by intro o ho t ht;have:=Array.all_eq_true_iff_forall_mem.1 yF o ho;simpa [ht]using this
 refine wp_region_any E.mixed ?_;have Ap:=hR.drew;have hU0:∀k (l:Array Bool),ou w0 S0 n G (Ul E ops σ.clock k l) σ.f σ.rows a { w with drawn:=w.drawn+1 }:=fun k l=>Ap.mono fun v hv => .inl hv;have Yo:∀(l:List Oper),tS E l=true -> ∀(i:Nat) (oi:Oper),l[i]? = some oi->dC E oi.op=true->oi.dst.isSome=true:=fun l h i oi hi hn=>by have:=all_eq_true.1 h oi (mem_of_getElem? hi);rw [hn]at this;simp at this;exact Option.isSome_iff_exists.2 (by obtain⟨x,hx⟩:=Option.isSome_iff_exists.1 this.1;exact⟨x,hx⟩)
 unfold gF at h
 by_cases Yp:tl=0
 ·rw [if_pos Yp]at h ec tF;have oT:∀i oi,i<ops.size->ops[i]? = some oi->dC E oi.op=true->oi.dst.isSome=true:=fun i oi _ hi=>Yo _ tF i oi (au hi);simp only [Bool.and_eq_true]at ec;have hl:=oB (c0:=σ.clock) ops.toList 0 _ _ av tF (by simp [rk]) h
  have J0:HeadInv .any ops ops.size (Array.replicate ops.size false):=
   ⟨av,fun j oj _ hl=>(by rw [getD_replicate_false]at hl;cases hl),fun t h1 h2=>by omega⟩
  have Ao:∀ao,HeadInv .any ops ops.size ao -> ∀i,i<ops.size->ao.getD i true=false -> ∀t,ops.size<=t->t ∉ Region.ready .any ops ao:=by intro ao _ i _ _ t ht hr;obtain⟨_,o,ho,_⟩:=mem_ready.1 hr;have:=(Array.getElem?_eq_some_iff.1 ho).1;omega
  have H:=ss (E:=E) (md:=.any) (g:=0) oT Ao ops.toList 0 _ _ av av J0 (au ec.2) hl;have:=kI (E:=E) (md:=.any) (g:=0) (Q:=Q) (m:=n) hd (fun ao st a' w' hL gR=>by obtain⟨h1,h2⟩:=hL;exact⟨by simpa [Region.seqB]using h1,hK _ _ _ h2 (gR.mono fun v hv=>by have:=JZ hv;simpa using this)⟩) _ _ _ _ _ av H (hU0 _ _);simpa using this
 ·rw [if_neg Yp]at h ec tF;have oT:∀i oi,i<ops.size-tl->ops[i]? = some oi->dC E oi.op=true->oi.dst.isSome=true:=fun i oi h1 hi=>Yo _ tF i oi (by rw [getElem?_take,if_pos h1];simpa using hi);simp only [Bool.and_eq_true,decide_eq_true_eq]at ec;obtain⟨hle,hB⟩:=ec;simp only [Region.lexTailB,Bool.and_eq_true,decide_eq_true_eq]at hB;obtain⟨⟨⟨⟨aq2,wX⟩,hs⟩,hc⟩,aeh⟩:=hB;have hlen:ops.toList.length=ops.size:=av;rw [hlen]at h;have hl:=oB (c0:=σ.clock) (ops.toList.take (ops.size-tl)) 0 _ _ (fun j hj=>by have JP:j<ops.size-tl:=au hj;simp [JP]) tF (by simp [rk]) h
  have J0:HeadInv .any ops (ops.size-tl) (Array.replicate ops.size false):=
   ⟨av,fun j oj _ hl=>(by rw [getD_replicate_false]at hl;cases hl),fun t _ ht=>getD_in (au ht) (getD_replicate_false _ _)⟩
  have wH:(ops.toList.take (ops.size-tl)).length=ops.size-tl:=av;have Tc:(ops.toList.drop (ops.size-tl)).length=ops.size-(ops.size-tl):=av;have H:=ss (E:=E) (md:=.any) (n:=ops.size-tl) (g:=ops.size-(ops.size-tl)) oT (fun ao inv i hi mY t ht=>tail_waits hs hc wX inv _ i rfl hi mY t ht) (ops.toList.take (ops.size-tl)) 0 _ _ (fun j hj=>by rw [wH]at hj;simp [hj]) (by rw [wH];simp) J0 (by rw [wH];exact aeh) hl;have:=kI (E:=E) (md:=.any) (g:=ops.size-(ops.size-tl)) (Q:=Q) (m:=n) hd (fun ao st a' w' hL gR=>by obtain⟨h1,h2⟩:=hL;have h3:=ik (ops:=ops) (Q:=Q) hK (ops.toList.drop (ops.size-tl)) _ a' w' (fun o ho=>hd o (by simpa using mem_of_mem_drop ho)) h2 (gR.mono fun v hv=>by have:=JZ hv;simpa using this);have h4:=wpAny_of_seq (md:=.any) (Q':=Q) (ops.toList.drop (ops.size-tl)) (ops.size-tl) ao a' w' (fun j=>by simp [getElem?_drop]) (by rw [Tc];exact h1) h3;rwa [Tc]at h4) _ _ _ _ _ av H (hU0 _ _);rw [wH,show ops.size-tl+(ops.size-(ops.size-tl))=ops.size by omega]at this;exact this
def aei:PX->Exit
 | .normal => .normal
 | .exit id => .exit id
 | .ret => .ret
end
def gU(E:Env)(σ:PS):List ResultVar->(List PV->Prop)->Prop
 | [],K=>K []
 | .tmp t::rs,K=>gU E σ rs fun vs=>K (σ.f t::vs)
 | .cell a t::rs,K=>∃v,qG E t σ.rows (σ.f a) v∧gU E σ rs fun vs=>K (v::vs)
def kW:List PV->PV
 | [x]=>x
 | l => .cW l
def Td(E:Env)(rs:List ResultVar)(r:PV)(σ:PS):Prop:=
 gU E σ rs fun vs=>eX σ.rows (vs.flatMap dA)∧(vs.map (pz σ.rows)).all cB=true∧r=kW (vs.map (pz σ.rows))
def Te(E:Env)(rs:List ResultVar)(r:PV):PX->PS->Prop
 | .normal,σ=>Td E rs r σ
 | .ret,σ=>Td E rs r σ
 | .exit _,_=>False
def C4(args:List PV):PS:=⟨fun s=>args.getD s .undef,fun _=>none,0⟩
section
variable {E:Env} {w0:World} {S0:dz} {c:Cx}
theorem su(hI:Inv w0 S0 c){clk:Nat}{a:Act}{f:Nat->PV}(hf:∀s,az c (f s) (a.tmps.getD s undef)){g:ResultVar->Sem Value}(Tf:∀t,g (.tmp t)=pure (a.tmps.getD t undef))
  (nW:∀x t,g (.cell x t)=do loadVar t (<-asAddr (a.tmps.getD x undef))):∀(rs:List ResultVar) (K:List PV->Prop),gU E ⟨f,c.rows,clk⟩ rs K ->
  ∃vs us,K vs∧aN (az c) vs us∧(rs.mapM g:Sem (List Value)).run E.P c.w = .ok us c.w
 | [],K,h=>⟨[],[],h,trivial,av⟩
 | .tmp t::rs,K,h=>by obtain⟨vs,us,h1,h2,h3⟩:=su hI hf Tf nW rs _ h;exact⟨f t::vs,a.tmps.getD t undef::us,h1,⟨hf t,h2⟩,by rw [mapM_cons,Tf,Sem.run_bind,Sem.run_pure,Result.andThen_ok,Sem.run_bind,h3,Result.andThen_ok,Sem.run_pure]⟩
 | .cell x t::rs,K,h=>by
  obtain⟨v,hv,h⟩:=h;obtain⟨vs,us,h1,h2,h3⟩:=su hI hf Tf nW rs _ h;obtain⟨u,hu,hr⟩:=CR hI (hf x) hv;refine⟨v::vs,u::us,h1,⟨hr,h2⟩,?_⟩
  have GD:(do loadVar t (<-asAddr (a.tmps.getD x undef)):Sem Value).run E.P c.w = .ok u c.w:=by
   simp only [Instr.loadAt,Sem.run_bind]at hu |-;cases hx:a.tmps.getD x undef with
   | pointer p =>
    cases p with
    | some ad=>rw [hx]at hu;simpa [Instr.sureAddr,asAddr]using hu
    | none=>rw [hx]at hu;simp [Instr.sureAddr,stuck,Result.andThen]at hu
   | _=>rw [hx]at hu;simp [Instr.sureAddr,stuck,Result.andThen]at hu
  rw [mapM_cons,nW];simp only [Sem.run_bind]at GD |-;rw [GD,Result.andThen_ok,h3,Result.andThen_ok,Sem.run_pure]
theorem J5(h1:E.P.funcs[tG]? = some fn)(h2:fn.body=some code) (h3:(fn.name == "runtime.NumGoroutine") = false) (di:args.length<=fn.ntmps)
  (h:∀(w0:World) (S0:dz) (a:Act) (w:World) (Q':Exit->Act->World->Prop),Rel w0 S0 fn.ntmps Gs.none (C4 args) a w->(∀x σ' a' w',Te E fn.results.toList r x σ'->Rel w0 S0 fn.ntmps Gs.none σ' a' w'->Q' (aei x) a' w')->code.wp E.P Q' a w):Xr E.P tG args r:=by
 refine⟨⟨fn,code,h1,h2,h3⟩,fun w S vs hS fh=>?_⟩;have Ad:=cI.1 fh;refine calls_of_wp h1 h2 ?_;have Gj:vs.length=args.length:=Ad.length.symm
 let c0:Cx:=⟨S,w,fun _ => .slice none 0 0,fun _=>none,fun _=>False⟩
 have hI0:Inv w S c0:=⟨Below.refl _ _,fun _ _ h=>h,fun _ _ h => .inl h,hS,fun _ _ h=>by simp [c0]at h,fun _ _ h=>by simp [c0]at h,fun _ _ _ _ _ h=>by simp [c0]at h,⟨0,fun _ h=>h.elim⟩⟩
 have Ap:Rel w S fn.ntmps Gs.none (C4 args) { tmps:=vs.toArray++Array.replicate (fn.ntmps-vs.toArray.size) undef,defers:=[] } w:=by
  refine⟨⟨c0,rfl,rfl,fun _ h=>h.elim,hI0,fun s=>?_,fun p hp=>(Gs.GF hp).elim⟩,by simp;omega,rfl⟩;simp only [C4]
  by_cases hs:s<args.length
  ·obtain⟨u,hu,hr⟩:=Ad.get (getElem?_eq_getElem hs);have e1:args.getD s .undef=args[s]:=(by simp [getD,getElem?_eq_getElem hs]);have e2:(vs.toArray++Array.replicate (fn.ntmps-vs.toArray.size) undef).getD s undef=u:=(by have:s<vs.length:=aa;simp [this]at hu |-;simp [Array.getElem?_append,this,hu]);rw [e1];show az c0 args[s] ((vs.toArray++Array.replicate (fn.ntmps-vs.toArray.size) undef).getD s undef);rw [e2];exact az.ia hr
  ·have e1:args.getD s .undef = .undef:=(by simp [getD,getElem?_eq_none (show args.length<=s by omega)]);rw [e1];simp [az,aB]
 refine h _ _ _ _ _ Ap ?_
 have fin:∀σ' a' w',Td E fn.results.toList r σ'->Rel w S fn.ntmps Gs.none σ' a' w'->a'.defers = [] ∧ ∃v,(results fn a'.tmps).run E.P w' = .ok v w'∧(∃v',Ending.returned v = .returned v'∧Below w.heap.size w w' ∧
   ∃S':dz,(∀b o,S b o->S' b o)∧(∀b o,S' b o->S b o∨(w.heap.size<=b∧b<w'.heap.size))∧de S' w' r v'):=by
  rintro σ' a' w' hp ⟨⟨c,rfl,hr,eB,hI,hf,_⟩,hn,eW⟩;refine⟨eW,?_⟩;unfold Td at hp;have lU:gU E ⟨σ'.f,c.rows,σ'.clock⟩ fn.results.toList fun vs=>eX c.rows (vs.flatMap dA)∧(vs.map (pz c.rows)).all cB=true∧r=kW (vs.map (pz c.rows)):=by rw [hr];exact hp
  have aki:∃vs us,(eX c.rows (vs.flatMap dA)∧(vs.map (pz c.rows)).all cB=true∧r=kW (vs.map (pz c.rows)))∧aN (az c) vs us ∧
    (results fn a'.tmps).run E.P c.w = .ok (if h:us.toArray.size=1 then us.toArray[0]else .tuple us.toArray) c.w:=by
   have key:∀g:ResultVar->Sem Value,(∀t,g (.tmp t)=pure (a'.tmps.getD t undef))->(∀x t,g (.cell x t)=do loadVar t (<-asAddr (a'.tmps.getD x undef))) ->
     ∃vs us,(eX c.rows (vs.flatMap dA)∧(vs.map (pz c.rows)).all cB=true∧r=kW (vs.map (pz c.rows)))∧aN (az c) vs us ∧
      (do let vs <-fn.results.mapM g;pure (if h:vs.size=1 then vs[0]else .tuple vs):Sem Value).run E.P c.w = .ok (if h:us.toArray.size=1 then us.toArray[0]else .tuple us.toArray) c.w:=by
    intro g Tf nW;obtain⟨vs,us,g1,g4,g5⟩:=su hI hf Tf nW _ _ lU;refine⟨vs,us,g1,g4,?_⟩;have:(fn.results.mapM g).run E.P c.w = .ok us.toArray c.w:=(by rw [Array.mapM_eq_mapM_toList];simp [g5]);rw [Sem.run_bind,this,Result.andThen_ok,Sem.run_pure]
   unfold results;exact key _ (fun _=>rfl) (fun _ _=>rfl)
  obtain⟨vs,us,⟨g1,g2,g3⟩,g4,gQ⟩:=aki;have Gl:=hI.freeze (vs.flatMap dA);have oX:aN (de (JL c (vs.flatMap dA)) c.w) (vs.map (pz c.rows)) us:=by refine aN.bT (by simp [g4.length]) fun k p u hp hu=>?_;simp at hp;obtain⟨q,hq,rfl⟩:=hp;obtain⟨u',q1,q2⟩:=g4.get hq;rw [hu]at q1;cases q1;exact En hI g1 q2 (fun id fp=>by simp only [mem_flatMap];exact⟨q,mem_of_getElem? hq,fp⟩) (all_eq_true.1 g2 _ (by simp;exact⟨q,mem_of_getElem? hq,rfl⟩))
  refine⟨_,gQ,_,rfl,hI.below,JL c (vs.flatMap dA),fun b o h=>Gl.ext b o h,fun b o h=>Gl.new b o h,?_⟩;rw [g3];have hl:=oX.length;cases hm:vs.map (pz c.rows)with
  | nil =>
   rw [hm]at oX hl;have:us = []:=eq_nil_of_length_eq_zero (au hl.symm);subst this;simp only [kW,de];exact⟨[],av,by simp [bO]⟩
  | cons p ps =>
   rw [hm]at oX hl
   match us,oX with
   | u::us,oX =>
    cases ps with
    | nil =>
     match us,oX with
     | [],oX=>simpa [kW]using oX.1
    | cons q qs =>
     have h2:¬(u::us).toArray.size=1:=(by simp at hl |-;intro h;subst h;simp at hl);rw [dif_neg h2];simp only [kW,de];exact⟨_,rfl,cI.2 oX⟩
 intro x σ' a' w' hx gR;cases x with
 | normal=>exact fin σ' a' w' hx gR
 | ret=>exact fin σ' a' w' hx gR
 | exit id=>exact hx.elim
end
section
variable {P:Program} {t:TypeId}
theorem aD{v:Value}{z:List PV}(h:(P.info? t).bind (fun i=>i.zero.map fun v=>(i.size,v))=some (n,v))(hz:v.cells.toList.map jh=z)(h1:v.cells.all (·.oneCell')=true)(hl:z.length=n)(hp:0<n):lu P t n z:=by
 refine⟨?_,hl,hp⟩;cases hi:P.info? t with
 | none=>simp [hi]at h
 | some i =>
  cases lT:i.zero with
  | none=>simp [hi,lT]at h
  | some v0 =>
   simp [hi,lT]at h;obtain⟨rfl,rfl⟩:=h;exact⟨i,v0,rfl,lT,rfl,hz,h1⟩
theorem df{b:Nat}(h:(P.info? t).map (·.bytes)=some b):∃i,P.info? t=some i∧i.bytes=b:=by
 cases hi:P.info? t with
 | none=>simp [hi]at h
 | some i=>exact⟨i,rfl,by simpa [hi]using h⟩
theorem C5(h:(P.info? t).map (·.size)=some n):∃i,P.info? t=some i∧i.size=n:=by
 cases hi:P.info? t with
 | none=>simp [hi]at h
 | some i=>exact⟨i,rfl,by simpa [hi]using h⟩
theorem Th(h:(P.underlying t).isSome=true):∃d,P.underlying t=some d:=Option.isSome_iff_exists.1 h
def J6(P:Program)(f:Field)(x:Nat × Nat × Bool):Bool:=
 f.offset==x.1&&(P.info? f.type).map (·.size)==some x.2.1&&decide (0<x.2.1)&&qD P f.type==x.2.2&&(P.underlying f.type).isSome
def sv(P:Program):List Field->List (Nat × Nat × Bool)->Bool
 | [],[]=>true
 | f::fs,x::xs=>J6 P f x&&sv P fs xs
 | _,_=>false
theorem Px{f:Field}{x:Nat × Nat × Bool}(h:J6 P f x=true):nm P f x:=by simp only [J6,Bool.and_eq_true,beq_iff_eq,decide_eq_true_eq]at h;obtain⟨⟨⟨⟨h1,h2⟩,h3⟩,h4⟩,h5⟩:=h;exact⟨h1,C5 h2,h3,h4,Th h5⟩
theorem Aq:∀ {fs:List Field} {xs:List (Nat × Nat × Bool)},sv P fs xs=true->aN (nm P) fs xs
 | [],[],_=>trivial
 | f::fs,x::xs,h=>by simp only [sv,Bool.and_eq_true]at h;exact⟨Px h.1,Aq h.2⟩
 | [],_::_,h=>by simp [sv]at h
 | _::_,[],h=>by simp [sv]at h
def MS(P:Program)(t:TypeId)(xs:List (Nat × Nat × Bool)):Bool:=
 match P.underlying t with
 | some (.struct fields)=>sv P fields.toList xs
 | _=>false
theorem dE{xs:List (Nat × Nat × Bool)}(h:MS P t xs=true):∃fields:Array Field,P.underlying t=some (.struct fields)∧aN (nm P) fields.toList xs:=by
 unfold MS at h
 split at h
 ·rename_i fields hu;exact⟨fields,hu,Aq h⟩
 ·cases h
end
def W(E:Env)(n:Nat)(tl:Nat->Nat)(c:Code)(Q:PX->PS->Prop)(σ:PS):Prop:=
 dQ E n tl c=true -> ∀(w0:World) (S0:dz) (G:Gs) (a:Act) (w:World) (Q':Exit->Act->World->Prop),Rel w0 S0 n G σ a w ->
  (∀x σ' a' w',Q x σ'->Rel w0 S0 n G σ' a' w'->Q' (aei x) a' w')->c.wp E.P Q' a w
def Gh(n:Nat)(σ σ':PS):Prop:=∀(w0:World) (S0:dz) (G:Gs) (a:Act) (w:World),Rel w0 S0 n G σ a w->Rel w0 S0 n G σ' a w
section
variable {E:Env} {n:Nat} {tl:Nat->Nat} {Q:PX->PS->Prop} {σ:PS}
theorem W.ghost(h:Gh n σ σ')(hw:W E n tl c Q σ'):W E n tl c Q σ:=fun ec w0 S0 G a w Q' hR hQ=>hw ec w0 S0 G a w Q' (h _ _ _ _ _ hR) hQ
theorem W.mono{Q2:PX->PS->Prop}(hw:W E n tl c Q2 σ)(h:∀x σ,Q2 x σ->Q x σ):W E n tl c Q σ:=fun ec w0 S0 G a w Q' hR hQ=>hw ec w0 S0 G a w Q' hR fun x σ' a' w' hx=>hQ x σ' a' w' (h x σ' hx)
theorem W.skip(h:Q .normal σ):W E n tl .skip Q σ:=fun _ _ _ _ a w _ hR hQ=>wp_skip (hQ .normal σ a w h hR)
theorem W.ret(h:Q .ret σ):W E n tl .ret Q σ:=fun _ _ _ _ a w _ hR hQ=>wp_ret (hQ .ret σ a w h hR)
theorem W.exit{id:Nat}(h:Q (.exit id) σ):W E n tl (.exit id) Q σ:=fun _ _ _ _ a w _ hR hQ=>wp_exit (hQ (.exit id) σ a w h hR)
theorem W.GW(h:∀K:PS->Prop,(∀σ,Q .normal σ->K σ)->aC E ops ops K σ):W E n tl (.region id ops.toArray false) Q σ:=by intro ec w0 S0 G a w Q' hR hQ;simp only [dQ,pS,Bool.and_eq_true]at ec;refine wp_region_list (ik (fun σ' a' w' hk gR=>hQ .normal σ' a' w' hk gR) _ σ a w (fun o ho t ht=>?_) (h _ fun _ h=>h) hR);have:=Array.all_eq_true_iff_forall_mem.1 ec.1 o (au ho);simpa [ht]using this
theorem W.Ti(h:∀K:PS->Prop,(∀σ,Q .normal σ->K σ)->gF E (tl id) ops K σ):W E n tl (.region id ops.toArray true) Q σ:=by intro ec w0 S0 G a w Q' hR hQ;exact tE (by simpa [dQ]using ec) (h _ fun _ h=>h) hR fun σ' a' w' hk gR=>hQ .normal σ' a' w' hk gR
theorem W.seq{x y:Code}(h:W E n tl x (Co (W E n tl y Q) Q) σ):W E n tl (.seq x y) Q σ:=by
 intro ec w0 S0 G a w Q' hR hQ;simp only [dQ,Bool.and_eq_true]at ec;refine wp_seq (h ec.1 w0 S0 G a w _ hR fun x σ' a' w' hx gR=>?_);cases x with
 | normal=>exact hx ec.2 w0 S0 G a' w' _ gR hQ
 | exit id=>exact hQ (.exit id) σ' a' w' hx gR
 | ret=>exact hQ .ret σ' a' w' hx gR
theorem W.J7{y:Code}(h:∀K:PS->Prop,(∀σ,W E n tl y Q σ->K σ)->aC E ops ops K σ):W E n tl (.seq (.region id ops.toArray false) y) Q σ:=
 W.seq (W.GW h)
theorem W.Tj{y:Code}(h:∀K:PS->Prop,(∀σ,W E n tl y Q σ->K σ)->gF E (tl id) ops K σ):W E n tl (.seq (.region id ops.toArray true) y) Q σ:=
 W.seq (W.Ti h)
theorem W.cond{c:Operand}{t e:Code}(h:∃b,aJ σ.f c = .bool b∧(b=true->W E n tl t Q σ)∧(b=false->W E n tl e Q σ)):W E n tl (.cond c t e) Q σ:=by
 intro ec w0 S0 G a w Q' hR hQ;simp only [dQ,Bool.and_eq_true]at ec;obtain⟨b,hb,h1,h2⟩:=h;obtain⟨cx,_,_,_,_,hf,_⟩:=hR.ex;have:=lS hf c;rw [hb,dm]at this;refine wp_cond this ?_;cases b with
 | true=>exact h1 rfl ec.1 w0 S0 G a w Q' hR hQ
 | false=>exact h2 rfl ec.2 w0 S0 G a w Q' hR hQ
theorem W.block(h:W E n tl c (Cp id Q) σ):W E n tl (.block id c) Q σ:=by
 intro ec w0 S0 G a w Q' hR hQ;refine wp_block (h ec w0 S0 G a w _ hR fun x σ' a' w' hx gR=>?_);cases x with
 | normal=>exact hQ .normal σ' a' w' hx gR
 | exit j =>
  simp only [Cp]at hx;simp only [aei,Exit.inBlock]
  split at hx
  ·rename_i hj;rw [if_pos hj];exact hQ .normal σ' a' w' hx gR
  ·rename_i hj;rw [if_neg hj];exact hQ (.exit j) σ' a' w' hx gR
 | ret=>exact hQ .ret σ' a' w' hx gR
theorem W.loop(I:Nat->PS->Prop)(k:Nat)(h0:I k σ)(h1:∀k σ,I k σ->W E n tl c (Co (fun σ'=>∃m,m<k∧I m σ') Q) σ):W E n tl (.loop c) Q σ:=by
 intro ec w0 S0 G a w Q' hR hQ;refine wp_loop_ghost (fun k a w=>∃σ,I k σ∧Rel w0 S0 n G σ a w) k ⟨σ,h0,hR⟩ ?_;rintro k a w ⟨σ,hI,hR⟩;refine h1 k σ hI ec w0 S0 G a w _ hR fun x σ' a' w' hx gR=>?_;cases x with
 | normal=>obtain⟨m,hm,mh⟩:=hx;exact⟨m,hm,σ',mh,gR⟩
 | exit id=>exact hQ (.exit id) σ' a' w' hx gR
 | ret=>exact hQ .ret σ' a' w' hx gR
end
theorem Tk(tl:Nat->Nat)(h1:E.P.funcs[tG]? = some fn)(h2:fn.body=some code) (h3:(fn.name == "runtime.NumGoroutine") = false)
  (ec:dQ E fn.ntmps tl code=true) (di:args.length<=fn.ntmps) (h:W E fn.ntmps tl code (Te E fn.results.toList r) (C4 args)):Xr E.P tG args r:=
 J5 h1 h2 h3 di fun w0 S0 a w Q' hR hQ=>h ec w0 S0 Gs.none a w Q' hR hQ
def go(P:Prop):Prop:=P
def bu(R:PV->Prop)(K:PV->Prop):Prop:=∃v,R v∧K v
def lM(p:PV)(want:Bool)(A B:Prop):Prop:=∃t,p = .bool t∧(t=want->A)∧(t=(!want)->B)
def stepG(p:PV)(want:Bool)(A B:Prop):Prop:=(p = .bool want∧A)∨((p = .bool (!want)∨p = .cW [])∧B)
def aA(A B:Prop):Prop:=A∧B
@[congr] theorem abD{R' K:PV->Prop}(h:∀v,R v=R' v):bu R K=bu R' K:=by rw [show R=R' from funext h]
@[congr] theorem abE(h:p=p'):lM p want A B=lM p' want A B:=by rw [h]
@[congr] theorem abF(h:p=p'):stepG p want A B=stepG p' want A B:=by rw [h]
@[congr] theorem abG{A':Prop}(h:A=A'):aA A B=aA A' B:=by rw [h]
@[congr] theorem aej{K:PS->Prop}(h:σ=σ'):aC E ops l K σ=aC E ops l K σ':=by rw [h]
@[congr] theorem aek{K:PS->Prop}{σ σ':ST}(hk:k=k')(h:σ=σ'):aV E ops clk k l K σ=aV E ops clk k' l K σ':=by rw [hk,h]
@[congr] theorem ael{j':Nat}(hj:j=j')(hk:k=k'):lB md ops j k=lB md ops j' k':=by rw [hj,hk]
@[congr] theorem ahR{iX:Nat}{t:Nat->Nat->Prop}(hi:i=i')(fp:id=iX)(ht:t=t'):Cm md ops i id t=Cm md ops i' iX t':=by rw [hi,fp,ht]
@[congr] theorem aem{t:Nat->Nat->Prop}(hi:i=i')(ht:t=t')(hr:rows=rows'):ee md ops i t rows=ee md ops i' t' rows':=by rw [hi,ht,hr]
@[congr] theorem XB{K:PS->Prop}(h:σ=σ'):gF E tl l K σ=gF E tl l K σ':=by rw [h]
@[congr] theorem aoG{tl:Nat->Nat}{Q:PX->PS->Prop}(h:σ=σ'):W E n tl c Q σ=W E n tl c Q σ':=by rw [h]
theorem kX{t:PV}{K:PV->Prop}:bu (fun v=>v=t) K=K t:=by simp [bu]
theorem kq{c:Prop}{K:PV->Prop}:bu (fun v=>c∧R v) K=aA c (bu R K):=by
 apply propext;simp only [bu,aA]
 constructor
 ·rintro⟨v,⟨h1,h2⟩,h3⟩;exact⟨h1,v,h2,h3⟩
 ·rintro⟨h1,v,h2,h3⟩;exact⟨v,⟨h1,h2⟩,h3⟩
theorem J8:aA True B=B:=by simp [aA]
theorem Tl:lM (.bool true) true A B=A:=by simp [lM]
theorem Tm:lM (.bool false) true A B=B:=by simp [lM]
theorem Tn:stepG (.bool true) true A B=A:=by simp [stepG]
theorem To:stepG (.bool true) false A B=B:=by simp [stepG]
theorem Tp:stepG (.bool false) true A B=B:=by simp [stepG]
theorem Tq:stepG (.bool false) false A B=A:=by simp [stepG]
theorem Tr{w:Bool}:stepG (.cW []) w A B=B:=by simp [stepG]
theorem Ar{d:Nat}:put f (some d) v j=if j=d then v else f j:=rfl
theorem Ts:put f none v=f:=rfl
theorem aen{α:Type}{f:Nat->α}{x:α}:dH f i x j=if j=i then x else f j:=rfl
def fa:List (Nat × PV)->Nat->PV
 | [],_ => .undef
 | (i,v)::l,j=>if j=i then v else fa l j
theorem J9:fa [] j = .undef:=rfl
theorem EC{l:List (Nat × PV)}:fa ((i,v)::l) j=if j=i then v else fa l j:=rfl
section
variable {E:Env} {ops os:List Oper} {K:PS->Prop} {f:Nat->PV} {rows:Rows} {clk:Nat} {d:Option Tmp} {ty:TypeId} {pos:String} {af:Array Edge}
theorem ak(n:Nat)(l:List Nat):Gh n ⟨f,rows,clk⟩ ⟨fa (l.map fun i=>(i,f i)),rows,clk⟩:=by
 rintro w0 S0 G a w ⟨⟨c,h1,h2,h3,h4,h5,h6⟩,h7,h8⟩;refine⟨⟨c,h1,h2,h3,h4,fun s=>?_,h6⟩,h7,h8⟩
 have:fa (l.map fun i=>(i,f i)) s=f s∨fa (l.map fun i=>(i,f i)) s = .undef:=by
  induction l with
  | nil=>exact .inr rfl
  | cons i l ih =>
   simp only [map_cons,fa]
   split
   ·rename_i h;rw [h];exact .inl rfl
   ·exact ih
 rcases this with h | h
 ·simp only;rw [h];exact h5 s
 ·simp only;rw [h];simp [az,aB]
theorem W.live{tl:Nat->Nat}{Q:PX->PS->Prop}(l:List Nat)(h:W E n tl c Q ⟨fa (l.map fun i=>(i,f i)),rows,clk⟩):W E n tl c Q ⟨f,rows,clk⟩:=W.ghost (ak n l) h
theorem Ka:aC E ops (⟨d,op,ty,pos,af,some (j,want)⟩::os) K ⟨f,rows,clk⟩ =
  match (ops[j]?).bind (·.dst)with
  | none=>False
  | some e=>stepG (f e) want (aC E ops (⟨d,op,ty,pos,af,none⟩::os) K ⟨f,rows,clk⟩) (aC E ops os K ⟨put f d (.cW []),rows,clk⟩):=by
 simp only [aC];cases hx:(ops[j]?).bind (·.dst)with
 | none=>rfl
 | some e=>rfl
theorem cQ{k:PV->Prop}(h:∀v,R v↔k v):(∃v u,(R v∧u=none)∧K ⟨put f d v,dP rows u,clk⟩)=bu k fun v=>K ⟨put f d v,rows,clk⟩:=by
 apply propext;simp only [bu]
 constructor
 ·rintro⟨v,u,⟨h1,rfl⟩,h2⟩;exact⟨v,(h v).1 h1,h2⟩
 ·rintro⟨v,h1,h2⟩;exact⟨v,none,⟨(h v).2 h1,rfl⟩,h2⟩
theorem Py:aC E ops (⟨d, .move x,ty,pos,af,none⟩::os) K ⟨f,rows,clk⟩=aC E ops os K ⟨put f d (aJ f x),rows,clk⟩:=by simp only [aC,dJ,ys,yv];rw [cQ (k:=fun v=>v=aJ f x) (fun v=>Iff.rfl),kX]
theorem GX:aC E ops (⟨d, .assign x,ty,pos,af,none⟩::os) K ⟨f,rows,clk⟩=aC E ops os K ⟨put f d (aJ f x),rows,clk⟩:=by simp only [aC,dJ,ys,yv];rw [cQ (k:=fun v=>v=aJ f x) (fun v=>Iff.rfl),kX]
theorem Pz{c a b:Operand}:aC E ops (⟨d, .pick c a b,ty,pos,af,none⟩::os) K ⟨f,rows,clk⟩=lM (aJ f c) true (aC E ops os K ⟨put f d (aJ f a),rows,clk⟩) (aC E ops os K ⟨put f d (aJ f b),rows,clk⟩):=by
 simp only [aC,dJ,ys,yv];rw [cQ (fun v=>Iff.rfl)];apply propext;simp only [bu,lM]
 constructor
 ·rintro⟨v,⟨t,h1,rfl⟩,h2⟩
  refine⟨t,h1,fun h=>?_,fun h=>?_⟩
  ·subst h;exact h2
  ·subst h;exact h2
 ·rintro⟨t,h1,h2,h3⟩;cases t with
  | true=>exact⟨_,⟨true,h1,rfl⟩,h2 rfl⟩
  | false=>exact⟨_,⟨false,h1,rfl⟩,h3 rfl⟩
theorem Tt{op:BinOp}:aC E ops (⟨d, .binOp op t x y t2,ty,pos,af,none⟩::os) K ⟨f,rows,clk⟩=bu (fun v=>Eg E op t (aJ f x) (aJ f y) v) fun v=>aC E ops os K ⟨put f d v,rows,clk⟩:=by simp only [aC,dJ,ys,yv];rw [cQ (fun v=>Iff.rfl)]
theorem Yq{op:UnOp}:aC E ops (⟨d, .unOp op t x,ty,pos,af,none⟩::os) K ⟨f,rows,clk⟩=bu (fun v=>yun op (aJ f x) v) fun v=>aC E ops os K ⟨put f d v,rows,clk⟩:=by simp only [aC,dJ,ys,yv];rw [cQ (k:=fun v=>yun op (aJ f x) v) (fun v=>Iff.rfl)]
theorem PA:aC E ops (⟨d, .convert s t x,ty,pos,af,none⟩::os) K ⟨f,rows,clk⟩=bu (fun v=>tj (E.ty s) (E.ty t) (aJ f x) v) fun v=>aC E ops os K ⟨put f d v,rows,clk⟩:=by simp only [aC,dJ,ys,yv];rw [cQ (k:=fun v=>tj (E.ty s) (E.ty t) (aJ f x) v) (fun v=>Iff.rfl)]
theorem ED:aC E ops (⟨d, .extract x i,ty,pos,af,none⟩::os) K ⟨f,rows,clk⟩=bu (fun v=>Jy i (aJ f x) v) fun v=>aC E ops os K ⟨put f d v,rows,clk⟩:=by simp only [aC,dJ,ys,yv];rw [cQ (k:=fun v=>Jy i (aJ f x) v) (fun v=>Iff.rfl)]
theorem PC:aC E ops (⟨d, .load t x,ty,pos,af,none⟩::os) K ⟨f,rows,clk⟩=bu (fun v=>qG E t rows (aJ f x) v) fun v=>aC E ops os K ⟨put f d v,rows,clk⟩:=by simp only [aC,dJ,ys,yv];rw [cQ (fun v=>Iff.rfl)]
theorem Kb:aC E ops (⟨d, .field t x i,ty,pos,af,none⟩::os) K ⟨f,rows,clk⟩=bu (fun v=>wP E t i (aJ f x) v) fun v=>aC E ops os K ⟨put f d v,rows,clk⟩:=by simp only [aC,dJ,ys,yv];rw [cQ (fun v=>Iff.rfl)]
theorem As:aC E ops (⟨d, .fieldAddr t x i,ty,pos,af,none⟩::os) K ⟨f,rows,clk⟩=bu (fun v=>dO E t rows i (aJ f x) v) fun v=>aC E ops os K ⟨put f d v,rows,clk⟩:=by simp only [aC,dJ,ys,yv];rw [cQ (fun v=>Iff.rfl)]
theorem At:aC E ops (⟨d, .indexAddr t x y,ty,pos,af,none⟩::os) K ⟨f,rows,clk⟩=bu (fun v=>eG E t rows (aJ f x) (aJ f y) v) fun v=>aC E ops os K ⟨put f d v,rows,clk⟩:=by simp only [aC,dJ,ys,yv];rw [cQ (fun v=>Iff.rfl)]
theorem Kc:aC E ops (⟨d, .slice t x lo hi mx,ty,pos,af,none⟩::os) K ⟨f,rows,clk⟩=bu (fun v=>nU E t rows (aJ f x) (lo.map (aJ f)) (hi.map (aJ f)) (mx.map (aJ f)) v) fun v=>aC E ops os K ⟨put f d v,rows,clk⟩:=by simp only [aC,dJ,ys,yv];rw [cQ (fun v=>Iff.rfl)]
theorem Kd:aC E ops (⟨d, .build t parts,ty,pos,af,none⟩::os) K ⟨f,rows,clk⟩=bu (fun v=>qH (E.ty t) (parts.toList.map fun x=>(x.1,aJ f x.2)) v) fun v=>aC E ops os K ⟨put f d v,rows,clk⟩:=by simp only [aC,dJ,ys,yv];rw [cQ (k:=fun v=>qH (E.ty t) (parts.toList.map fun x=>(x.1,aJ f x.2)) v) (fun v=>Iff.rfl)]
theorem Ke:aC E ops (⟨d, .index t x y,ty,pos,af,none⟩::os) K ⟨f,rows,clk⟩=bu (fun v=>tN E (E.ty t) (aJ f x) (aJ f y) v) fun v=>aC E ops os K ⟨put f d v,rows,clk⟩:=by simp only [aC,dJ,ys,yv];rw [cQ (k:=fun v=>tN E (E.ty t) (aJ f x) (aJ f y) v) (fun v=>Iff.rfl)]
theorem Tu:aC E ops (⟨d, .call { callee:=.builtin .len,args:=⟨[x]⟩,argTypes:=⟨[t]⟩ },ty,pos,af,none⟩::os) K ⟨f,rows,clk⟩=bu (fun v=>xH (E.ty t) rows (aJ f x) v) fun v=>aC E ops os K ⟨put f d v,rows,clk⟩:=by simp only [aC,dJ,ys,yv];rw [cQ (k:=fun v=>xH (E.ty t) rows (aJ f x) v) (fun v=>Iff.rfl)]
theorem Cq:aC E ops (⟨d, .nilCheck x,ty,pos,af,none⟩::os) K ⟨f,rows,clk⟩=bu (fun v=>wQ rows (aJ f x) v) fun v=>aC E ops os K ⟨put f d v,rows,clk⟩:=by simp only [aC,dJ,ys,yv];rw [cQ (k:=fun v=>wQ rows (aJ f x) v) (fun v=>Iff.rfl)]
theorem Tv:aC E ops (⟨d, .call { callee:=.builtin .max,args:=⟨[x,y]⟩,argTypes:=ts },ty,pos,af,none⟩::os) K ⟨f,rows,clk⟩=bu (fun v=>Sx (aJ f x) (aJ f y) v) fun v=>aC E ops os K ⟨put f d v,rows,clk⟩:=by simp only [aC,dJ,ys,yv];rw [cQ (fun v=>Iff.rfl)]
theorem Tw:aC E ops (⟨d, .call { callee:=.builtin .min,args:=⟨[x,y]⟩,argTypes:=ts },ty,pos,af,none⟩::os) K ⟨f,rows,clk⟩=bu (fun v=>Sy (aJ f x) (aJ f y) v) fun v=>aC E ops os K ⟨put f d v,rows,clk⟩:=by simp only [aC,dJ,ys,yv];rw [cQ (fun v=>Iff.rfl)]
theorem yG:aC E ops (⟨d, .buildSlice t len parts,ty,pos,af,none⟩::os) K ⟨f,rows,clk⟩=bu (fun v=>JM (E.ty t) rows len (parts.toList.map fun x=>(x.1,aJ f x.2)) v) fun v=>aC E ops os K ⟨put f d v,rows,clk⟩:=by simp only [aC,dJ,ys];rw [cQ (fun v=>Iff.rfl)]
theorem Kf{p:Operand}:aC E ops (⟨none, .store t p x,ty,pos,af,none⟩::os) K ⟨f,rows,clk⟩ = ∃id r,qL E t rows (aJ f p) (aJ f x) .undef (some (id,r))∧aC E ops os K ⟨f,dH rows id (some r),clk⟩:=by
 simp only [aC,dJ,ys];apply propext
 constructor
 ·rintro⟨v,u,h,h2⟩;have h':=h;obtain⟨_,rfl,h3⟩:=h
  split at h3
  ·obtain⟨_,_,_,_,_,_,_,_,_,_,rfl⟩:=h3;exact⟨_,_,h',h2⟩
  ·exact h3.elim
 ·rintro⟨id,r,h,h2⟩;exact⟨.undef,some (id,r),h,h2⟩
theorem Kg:aC E ops (⟨d, .alloc t,ty,pos,af,none⟩::os) K ⟨f,rows,clk⟩=aA ((E.ty t).known=true) (aC E ops os K ⟨put f d (.ptr (d.getD 0) clk 0 0),dH rows (d.getD 0) (some ⟨clk,t,(E.ty t).size,[(E.ty t).zero]⟩),clk+1⟩):=rfl
theorem Tx:aC E ops (⟨d, .box t x,ty,pos,af,none⟩::os) K ⟨f,rows,clk⟩=aA ((E.ty t).known=true) (∃l,cD (aJ f x)=some l∧(∀q∈l,ib rows q)∧l.length=(E.ty t).size∧aC E ops os K ⟨put f d (.ptr (d.getD 0) clk 0 0),dH rows (d.getD 0) (some ⟨clk,t,(E.ty t).size,[l]⟩),clk+1⟩):=rfl
def xQ(t:TI)(x y:PV)(K:TypeId->Nat->List PV->Int->Prop):Prop:=
 match t,x,y with
 | .slice e n b z, .int _ x, .int _ y=>aA (0<=x∧x<=y∧y.toNat<=room∧y.toNat*b<=room) (K e n z x)
 | _,_,_=>False
theorem Au{l c:Operand}:aC E ops (⟨d, .makeSlice t l c,ty,pos,af,none⟩::os) K ⟨f,rows,clk⟩=xQ (E.ty t) (aJ f l) (aJ f c) fun e n z x=>aC E ops os K ⟨put f d (.own (d.getD 0) clk 0 x.toNat),dH rows (d.getD 0) (some ⟨clk,e,n,replicate x.toNat z⟩),clk+1⟩:=by
 simp only [aC,dJ,xQ,Ew];generalize E.ty t=T;generalize aJ f l=A;generalize aJ f c=B;cases T with
 | slice e n b z =>
  cases A with
  | int k x =>
   cases B with
   | int k2 y=>simp only [aA,and_assoc]
   | _=>rfl
  | _=>rfl
 | _=>rfl
def PE(t:TI)(rows:Rows)(x y:PV)(clk d:Nat)(K:PV->Rows->Nat->Prop):Prop:=
 match t with
 | .slice e n b _ =>
  ∃l,qP rows y l∧(∀e∈l,e.length=n) ∧
  match x with
  | .nil=>aA (l.length<=room∧l.length*b<=room) (K (.own d clk 0 l.length) (dH rows d (some ⟨clk,e,n,l⟩)) (clk+1))
  | .own id ver off len=>∃r,rows id=some r∧r.ver=ver∧off=0∧len<=r.els.length∧r.e=e∧r.size=n∧aA (len+l.length<=room∧(len+l.length)*b<=room) (K (.own id clk 0 (len+l.length)) (dH rows id (some ⟨clk,e,n,r.els.take len++l⟩)) (clk+1))
  | .iE l0=>(∀e∈l0,e.length=n)∧(∀e∈l,∀p∈e,aF p=true)∧aA (l0.length+l.length<=room∧(l0.length+l.length)*b<=room) (K (.sl (l0++l)) rows clk)
  | _=>False
 | _=>False
theorem GY:aC E ops (⟨d, .call { callee:=.builtin .append,args:=⟨[x,y]⟩,argTypes:=⟨[t,t2]⟩ },ty,pos,af,none⟩::os) K ⟨f,rows,clk⟩ =
  aA (t2=t∨SU (E.ty t2)=true) (PE (E.ty t) rows (aJ f x) (aJ f y) clk (d.getD 0) fun v rows clk=>aC E ops os K ⟨put f d v,rows,clk⟩):=by
 simp only [aC,dJ,yU,PE,Ew,aA,PS.put];congr 1;generalize E.ty t=T;generalize aJ f x=A;cases T with
 | slice e n b z =>
  simp only;congr 1;funext l;congr 2;cases A with
  | nil=>simp only [and_assoc]
  | own id ver off len=>simp only [and_assoc]
  | iE l0=>simp only [and_assoc]
  | _=>rfl
 | _=>rfl
end
def u3(P:Program)(g:FuncId)(args:List PV)(K:PV->Prop):Prop:=∃v,Xr P g args v∧K v
@[congr] theorem abH{GZ:List PV}{K:PV->Prop}(h:args=GZ):u3 P g args K=u3 P g GZ K:=by rw [h]
def qT(E:Env)(p:PV)(dD:List PV)(rows:Rows)(clk:Nat)(K:PV->Rows->Nat->Prop):Prop:=
 match p with
 | .fn g bF=>if (E.writes g || E.uN g)=true then bF = []∧jQ E.P g dD rows clk K else aA ((dD.map (pz rows)).all cB=true∧eX rows (dD.flatMap dA)) (u3 E.P g (dD.map (pz rows)++bF) fun v=>K v (CY rows (dD.flatMap dA)) clk)
 | .lR g fs bF=>jQ E.P g (fs++dD++bF) rows clk K
 | _=>False
def MT(E:Env)(p:PV)(name:String)(dD:List PV)(rows:Rows)(clk:Nat)(K:PV->Rows->Nat->Prop):Prop:=
 ∃t id ver g,p = .m7 t id ver∧(∃r,rows id=some r∧r.ver=ver)∧SN E.P t name g∧jQ E.P g (.ptr id ver 0 0::dD) rows clk K
@[congr] theorem abI{name:String}{K:PV->Rows->Nat->Prop}(h1:p=p')(h2:dD=nu):MT E p name dD rows clk K=MT E p' name nu rows clk K:=by rw [h1,h2]
@[congr] theorem Yr{K:PV->Rows->Nat->Prop}(h1:p=p')(h2:dD=nu)(h3:rows=rows')(h4:clk=bV):qT E p dD rows clk K=qT E p' nu rows' bV K:=by rw [h1,h2,h3,h4]
@[congr] theorem abJ{K:PV->Rows->Nat->Prop}(h:dD=nu):jQ P g dD rows clk K=jQ P g nu rows clk K:=by rw [h]
@[congr] theorem abK{t t':TI}{x y:PV}{K:TypeId->Nat->List PV->Int->Prop}(h1:t=t')(h2:x=x')(h3:y=y'):xQ t x y K=xQ t' x' y' K:=by rw [h1,h2,h3]
@[congr] theorem aeo{t t':TI}{x y:PV}{d d':Nat}{K:PV->Rows->Nat->Prop}(h1:t=t')(h2:rows=rows')(h3:x=x')(h4:y=y')(h5:clk=bV)(h6:d=d') :
  PE t rows x y clk d K=PE t' rows' x' y' bV d' K:=by rw [h1,h2,h3,h4,h5,h6]
section
variable {E:Env} {ops os:List Oper} {K:PS->Prop} {f:Nat->PV} {rows:Rows} {clk:Nat} {d:Option Tmp} {ty:TypeId} {pos:String} {af:Array Edge}
theorem PF{args:Array Operand}:aC E ops (⟨d, .call { callee:=.value fo,args:=args,argTypes:=ts },ty,pos,af,none⟩::os) K ⟨f,rows,clk⟩ =
  qT E (aJ f fo) (args.toList.map (aJ f)) rows clk fun v rows clk=>aC E ops os K ⟨put f d v,rows,clk⟩:=by
 simp only [aC,dJ,xN,qT,Eo,aA,u3];generalize aJ f fo=A;have e1:(args.toList.map fun x=>pz rows (aJ f x))=(args.toList.map (aJ f)).map (pz rows):=by rw [map_map];rfl
 have e2:(args.toList.flatMap fun x=>dA (aJ f x))=(args.toList.map (aJ f)).flatMap dA:=by rw [flatMap_map]
 rw [e1,e2];cases A with
 | fn g bF =>
  have hm:X0 E (.fn g bF)=(E.writes g || E.uN g):=rfl
  by_cases hw:(E.writes g || E.uN g)=true
  ·rw [hm,if_pos hw];cases bF with
   | nil=>simp [hw]
   | cons x l=>simp [hw]
  rw [hm,if_neg hw];simp only [if_neg hw];apply propext
  constructor
  ·rintro⟨v,⟨h1,h2⟩,h3,h4⟩;exact⟨⟨h1,h3⟩,v,h2,h4⟩
  ·rintro⟨⟨h1,h3⟩,v,h2,h4⟩;exact⟨v,⟨h1,h2⟩,h3,h4⟩
 | lR g fs bF=>simp [X0]
 | _=>simp [X0]
theorem Cr{fs bF:Array Operand}:aC E ops (⟨d, .makeFunc (.func g) fs bF,ty,pos,af,none⟩::os) K ⟨f,rows,clk⟩ =
  if E.uN g=true then aA ((fs.toList.map (aJ f)).all pO=true∧(bF.toList.map (aJ f)).all pO=true) (aC E ops os K ⟨put f d (.lR g (fs.toList.map (aJ f)) (bF.toList.map (aJ f))),rows,clk⟩)
  else aA (fs.toList = []∧((bF.toList.map (aJ f)).map (pz rows)).all cB=true∧eX rows ((bF.toList.map (aJ f)).flatMap dA))
   (aC E ops os K ⟨put f d (.fn g ((bF.toList.map (aJ f)).map (pz rows))),CY rows ((bF.toList.map (aJ f)).flatMap dA),clk⟩):=by
 simp only [aC,dJ,aA,and_assoc];have e1:(bF.toList.map fun x=>pz rows (aJ f x))=(bF.toList.map (aJ f)).map (pz rows):=by rw [map_map];rfl
 have e2:(bF.toList.flatMap fun x=>dA (aJ f x))=(bF.toList.map (aJ f)).flatMap dA:=by rw [flatMap_map]
 rw [e1,e2]
def i5(k:Nat)(l:List Nat)(t:Nat->Nat->Prop):Nat->Nat->Prop:=fun k' id=>(true=true∧k'=k∧id∈l)∨t k' id
def s7(k id:Nat)(w:Nat->Nat->Prop):Nat->Nat->Prop:=fun k' iX=>(k'=k∧iX=id)∨w k' iX
variable {k:Nat} {cG:Nat->Nat->Prop} {aP:Nat->Nat->Prop}
theorem Kh:aV E ops clk k (⟨d,op,ty,pos,af,some (j,want)⟩::os) K ⟨f,rows,cG,aP⟩ =
  match (ops[j]?).bind (·.dst)with
  | none=>False
  | some e=>stepG (f e) want (aV E ops clk k (⟨d,op,ty,pos,af,none⟩::os) K ⟨f,rows,cG,aP⟩) (aV E ops clk (k+1) os K ⟨put f d (.cW []),rows,cG,aP⟩):=by
 have e3:app k ⟨d,op,ty,pos,af,some (j,want)⟩ false (.cW []) none ⟨f,rows,cG,aP⟩=⟨put f d (.cW []),rows,cG,aP⟩:=by simp [app,dP,Sc]
 simp only [aV,e3];cases hx:(ops[j]?).bind (·.dst)with
 | none=>rfl
 | some e=>rfl
theorem dR{kk:PV->Prop}{st:ST}(h:∀v,R v↔kk v):(∃v u,(R v∧u=none)∧GO .any ops k u cG∧aV E ops clk (k+1) os K (app k o true v u st))=bu kk fun v=>aV E ops clk (k+1) os K (app k o true v none st):=by
 apply propext;simp only [bu]
 constructor
 ·rintro⟨v,u,⟨h1,rfl⟩,_,h2⟩;exact⟨v,(h v).1 h1,h2⟩
 ·rintro⟨v,h1,h2⟩;exact⟨v,none,⟨(h v).2 h1,rfl⟩,trivial,h2⟩
theorem i6(h:ij op (aJ f) = []):app k ⟨d,op,ty,pos,af,none⟩ true v none ⟨f,rows,cG,aP⟩=⟨put f d v,rows,cG,aP⟩:=by simp [app,dP,Sc,h]
theorem sA{l:List Nat}(h:ij op (aJ f)=l):app k ⟨d,op,ty,pos,af,none⟩ true v none ⟨f,rows,cG,aP⟩=⟨put f d v,rows,i5 k l cG,aP⟩:=by subst h;rfl
theorem PG:aV E ops clk k (⟨d, .move x,ty,pos,af,none⟩::os) K ⟨f,rows,cG,aP⟩=aV E ops clk (k+1) os K ⟨put f d (aJ f x),rows,cG,aP⟩:=by simp only [aV,yn,ko,ys,yv];rw [dR (kk:=fun v=>v=aJ f x) (fun v=>Iff.rfl),kX,i6 rfl]
theorem G0:aV E ops clk k (⟨d, .assign x,ty,pos,af,none⟩::os) K ⟨f,rows,cG,aP⟩=aV E ops clk (k+1) os K ⟨put f d (aJ f x),rows,cG,aP⟩:=by simp only [aV,yn,ko,ys,yv];rw [dR (kk:=fun v=>v=aJ f x) (fun v=>Iff.rfl),kX,i6 rfl]
theorem PH{c a b:Operand}:aV E ops clk k (⟨d, .pick c a b,ty,pos,af,none⟩::os) K ⟨f,rows,cG,aP⟩=lM (aJ f c) true (aV E ops clk (k+1) os K ⟨put f d (aJ f a),rows,cG,aP⟩) (aV E ops clk (k+1) os K ⟨put f d (aJ f b),rows,cG,aP⟩):=by
 simp only [aV,yn,ko,ys,yv];rw [dR (fun v=>Iff.rfl)];apply propext;simp only [bu,lM,i6 (op:=.pick c a b) rfl]
 constructor
 ·rintro⟨v,⟨t,h1,rfl⟩,h2⟩
  refine⟨t,h1,fun h=>?_,fun h=>?_⟩
  ·subst h;exact h2
  ·subst h;exact h2
 ·rintro⟨t,h1,h2,h3⟩;cases t with
  | true=>exact⟨_,⟨true,h1,rfl⟩,h2 rfl⟩
  | false=>exact⟨_,⟨false,h1,rfl⟩,h3 rfl⟩
theorem Ty{op:BinOp}:aV E ops clk k (⟨d, .binOp op t x y t2,ty,pos,af,none⟩::os) K ⟨f,rows,cG,aP⟩=bu (fun v=>Eg E op t (aJ f x) (aJ f y) v) fun v=>aV E ops clk (k+1) os K ⟨put f d v,rows,cG,aP⟩:=by simp only [aV,yn,ko,ys,yv];rw [dR (fun v=>Iff.rfl)];simp only [i6 (op:=.binOp op t x y t2) rfl]
theorem Ys{op:UnOp}:aV E ops clk k (⟨d, .unOp op t x,ty,pos,af,none⟩::os) K ⟨f,rows,cG,aP⟩=bu (fun v=>yun op (aJ f x) v) fun v=>aV E ops clk (k+1) os K ⟨put f d v,rows,cG,aP⟩:=by simp only [aV,yn,ko,ys,yv];rw [dR (fun v=>Iff.rfl)];simp only [i6 (op:=.unOp op t x) rfl]
theorem PK:aV E ops clk k (⟨d, .convert s t x,ty,pos,af,none⟩::os) K ⟨f,rows,cG,aP⟩=bu (fun v=>tj (E.ty s) (E.ty t) (aJ f x) v) fun v=>aV E ops clk (k+1) os K ⟨put f d v,rows,cG,aP⟩:=by simp only [aV,yn,ko,ys,yv];rw [dR (fun v=>Iff.rfl)];simp only [i6 (op:=.convert s t x) rfl]
theorem EE:aV E ops clk k (⟨d, .extract x i,ty,pos,af,none⟩::os) K ⟨f,rows,cG,aP⟩=bu (fun v=>Jy i (aJ f x) v) fun v=>aV E ops clk (k+1) os K ⟨put f d v,rows,cG,aP⟩:=by simp only [aV,yn,ko,ys,yv];rw [dR (fun v=>Iff.rfl)];simp only [i6 (op:=.extract x i) rfl]
theorem PM:aV E ops clk k (⟨d, .load t x,ty,pos,af,none⟩::os) K ⟨f,rows,cG,aP⟩=bu (fun v=>qG E t (ee .any ops k aP rows) (aJ f x) v) fun v=>aV E ops clk (k+1) os K ⟨put f d v,rows,i5 k (aL (aJ f x)) cG,aP⟩:=by simp only [aV,yn,ko,ys,yv];rw [dR (fun v=>Iff.rfl)];simp only [sA (op:=.load t x) rfl];rfl
theorem Av:aV E ops clk k (⟨d, .fieldAddr t x i,ty,pos,af,none⟩::os) K ⟨f,rows,cG,aP⟩=bu (fun v=>dO E t (ee .any ops k aP rows) i (aJ f x) v) fun v=>aV E ops clk (k+1) os K ⟨put f d v,rows,i5 k (aL (aJ f x)) cG,aP⟩:=by simp only [aV,yn,ko,ys,yv];rw [dR (fun v=>Iff.rfl)];simp only [sA (op:=.fieldAddr t x i) rfl];rfl
theorem Aw:aV E ops clk k (⟨d, .indexAddr t x y,ty,pos,af,none⟩::os) K ⟨f,rows,cG,aP⟩=bu (fun v=>eG E t (ee .any ops k aP rows) (aJ f x) (aJ f y) v) fun v=>aV E ops clk (k+1) os K ⟨put f d v,rows,i5 k (aL (aJ f x)) cG,aP⟩:=by simp only [aV,yn,ko,ys,yv];rw [dR (fun v=>Iff.rfl)];simp only [sA (op:=.indexAddr t x y) rfl];rfl
theorem Ki:aV E ops clk k (⟨d, .slice t x lo hi mx,ty,pos,af,none⟩::os) K ⟨f,rows,cG,aP⟩=bu (fun v=>nU E t (ee .any ops k aP rows) (aJ f x) (lo.map (aJ f)) (hi.map (aJ f)) (mx.map (aJ f)) v) fun v=>aV E ops clk (k+1) os K ⟨put f d v,rows,i5 k (aL (aJ f x)) cG,aP⟩:=by simp only [aV,yn,ko,ys,yv];rw [dR (fun v=>Iff.rfl)];simp only [sA (op:=.slice t x lo hi mx) rfl];rfl
theorem Kj:aV E ops clk k (⟨d, .build t parts,ty,pos,af,none⟩::os) K ⟨f,rows,cG,aP⟩=bu (fun v=>qH (E.ty t) (parts.toList.map fun x=>(x.1,aJ f x.2)) v) fun v=>aV E ops clk (k+1) os K ⟨put f d v,rows,cG,aP⟩:=by simp only [aV,yn,ko,ys,yv];rw [dR (fun v=>Iff.rfl)];simp only [i6 (op:=.build t parts) rfl]
theorem Tz:aV E ops clk k (⟨d, .call { callee:=.builtin .len,args:=⟨[x]⟩,argTypes:=⟨[t]⟩ },ty,pos,af,none⟩::os) K ⟨f,rows,cG,aP⟩=bu (fun v=>xH (E.ty t) (ee .any ops k aP rows) (aJ f x) v) fun v=>aV E ops clk (k+1) os K ⟨put f d v,rows,i5 k (aL (aJ f x)) cG,aP⟩:=by simp only [aV,yn,ko,ys,yv];rw [dR (fun v=>Iff.rfl)];simp only [sA (op:=.call { callee:=.builtin .len,args:=⟨[x]⟩,argTypes:=⟨[t]⟩ }) rfl];rfl
theorem Cs:aV E ops clk k (⟨d, .nilCheck x,ty,pos,af,none⟩::os) K ⟨f,rows,cG,aP⟩=bu (fun v=>wQ (ee .any ops k aP rows) (aJ f x) v) fun v=>aV E ops clk (k+1) os K ⟨put f d v,rows,i5 k (aL (aJ f x)) cG,aP⟩:=by simp only [aV,yn,ko,ys,yv];rw [dR (fun v=>Iff.rfl)];simp only [sA (op:=.nilCheck x) rfl];rfl
theorem yH:aV E ops clk k (⟨d, .buildSlice t len parts,ty,pos,af,none⟩::os) K ⟨f,rows,cG,aP⟩=bu (fun v=>JM (E.ty t) (ee .any ops k aP rows) len (parts.toList.map fun x=>(x.1,aJ f x.2)) v) fun v=>aV E ops clk (k+1) os K ⟨put f d v,rows,cG,aP⟩:=by simp only [aV,yn,ko,ys];rw [dR (fun v=>Iff.rfl)];simp only [i6 (op:=.buildSlice t len parts) rfl]
theorem Kk{p:Operand}:aV E ops clk k (⟨none, .store t p x,ty,pos,af,none⟩::os) K ⟨f,rows,cG,aP⟩ =
  ∃id r,qL E t (ee .any ops k aP rows) (aJ f p) (aJ f x) .undef (some (id,r))∧Cm .any ops k id cG∧aV E ops clk (k+1) os K ⟨f,dH rows id (some r),i5 k (aL (aJ f p)++((cD (aJ f x)).getD []).flatMap aL) cG,s7 k id aP⟩:=by
 simp only [aV,yn,ko,ys];apply propext
 constructor
 ·rintro⟨v,u,h,h1,h2⟩;have h':=h;obtain⟨_,rfl,h3⟩:=h
  split at h3
  ·obtain⟨_,_,_,_,_,_,_,_,_,_,rfl⟩:=h3;exact⟨_,_,h',h1,h2⟩
  ·exact h3.elim
 ·rintro⟨id,r,h,h1,h2⟩;exact⟨.undef,some (id,r),h,h1,h2⟩
theorem TA{R:PV->Option (Nat × Row)->Prop}{v0:PV}{st:ST}(h:∀v u,R v u↔(C∧v=v0∧u=some (e,r0))):(∃v u,R v u∧GO .any ops k u cG∧aV E ops bV (k+1) os K (app k o true v u st))=aA (C∧Cm .any ops k e cG) (aV E ops bV (k+1) os K (app k o true v0 (some (e,r0)) st)):=by
 apply propext;simp only [aA]
 constructor
 ·rintro⟨v,u,h1,h2,h3⟩;obtain⟨hc,rfl,rfl⟩:=(h v u).1 h1;exact⟨⟨hc,h2⟩,h3⟩
 ·rintro⟨⟨h1,h2⟩,h3⟩;exact⟨v0,_,(h _ _).2 ⟨h1,rfl,rfl⟩,h2,h3⟩
theorem MU(h:ij op (aJ f) = []):app k ⟨d,op,ty,pos,af,none⟩ true v (some (e,r0)) ⟨f,rows,cG,aP⟩=⟨put f d v,dH rows e (some r0),cG,s7 k e aP⟩:=by simp only [app,dP,Sc,h,not_mem_nil,and_false,false_or];rfl
theorem Kl:aV E ops clk k (⟨d, .alloc t,ty,pos,af,none⟩::os) K ⟨f,rows,cG,aP⟩=aA ((E.ty t).known=true∧Cm .any ops k (d.getD 0) cG) (aV E ops (clk+1) (k+1) os K ⟨put f d (.ptr (d.getD 0) clk 0 0),dH rows (d.getD 0) (some ⟨clk,t,(E.ty t).size,[(E.ty t).zero]⟩),cG,s7 k (d.getD 0) aP⟩):=by simp only [aV,yn,ko];rw [TA (C:=(E.ty t).known=true) (v0:=.ptr (d.getD 0) clk 0 0) (e:=d.getD 0) (r0:=⟨clk,t,(E.ty t).size,[(E.ty t).zero]⟩) (fun v u=>by simp),MU (op:=.alloc t) rfl]
theorem G1:aV E ops clk k (⟨d, .call { callee:=.builtin .append,args:=⟨[x,y]⟩,argTypes:=⟨[t,t2]⟩ },ty,pos,af,none⟩::os) K ⟨f,rows,cG,aP⟩ =
  aA (t2=t∨SU (E.ty t2)=true) (∃v u,tD (E.ty t) (ee .any ops k aP rows) (aJ f x) (aJ f y) clk (d.getD 0) v u∧GO .any ops k u cG ∧
   aV E ops (clk+1) (k+1) os K ⟨put f d v,dP rows u,i5 k (aL (aJ f x)++aL (aJ f y)) cG,Sc k u aP⟩):=by
 have SH:∀ {v u},app k ⟨d, .call { callee:=.builtin .append,args:=⟨[x,y]⟩,argTypes:=⟨[t,t2]⟩ },ty,pos,af,none⟩ true v u ⟨f,rows,cG,aP⟩=⟨put f d v,dP rows u,i5 k (aL (aJ f x)++aL (aJ f y)) cG,Sc k u aP⟩:=rfl;simp only [aV,yn,ko,aA];apply propext
 constructor
 ·rintro⟨v,u,⟨h1,h2⟩,h3,h4⟩;exact⟨h1,v,u,h2,h3,h4⟩
 ·rintro⟨h1,v,u,h2,h3,h4⟩;exact⟨v,u,⟨h1,h2⟩,h3,h4⟩
theorem PN:aV E ops clk k (⟨d, .call { callee:=.builtin .copy,args:=⟨[x,y]⟩,argTypes:=⟨[t,t2]⟩ },ty,pos,af,none⟩::os) K ⟨f,rows,cG,aP⟩ =
  ∃v u,tv (E.ty t) (ee .any ops k aP rows) (aJ f x) (aJ f y) v u∧GO .any ops k u cG ∧
   aV E ops clk (k+1) os K ⟨put f d v,dP rows u,i5 k (aL (aJ f x)++aL (aJ f y)) cG,Sc k u aP⟩:=rfl
def qU(E:Env)(p:PV)(dD:List PV)(rows:Rows)(K:PV->Prop):Prop:=
 match p with
 | .fn g bF=>aA ((dD.map (pz rows)).all cB=true∧dD.flatMap dA = []) (u3 E.P g (dD.map (pz rows)++bF) K)
 | _=>False
@[congr] theorem Yt{E:Env}{rows:Rows}{K:PV->Prop}(h1:p=p')(h2:dD=nu)(h3:rows=rows'):qU E p dD rows K=qU E p' nu rows' K:=by rw [h1,h2,h3]
def qV(E:Env)(p:PV)(dD:List PV)(rows:Rows)(K:PV->Nat->Row->Prop):Prop:=∃v id r,GH E p dD rows v (some (id,r))∧K v id r
@[congr] theorem Yv{E:Env}{rows:Rows}{K:PV->Nat->Row->Prop}(h1:p=p')(h2:dD=nu)(h3:rows=rows'):qV E p dD rows K=qV E p' nu rows' K:=by rw [h1,h2,h3]
theorem PO{args:Array Operand}(Ev:dC E (.call { callee:=.value fo,args:=args,argTypes:=ts })=false):aV E ops clk k (⟨d, .call { callee:=.value fo,args:=args,argTypes:=ts },ty,pos,af,none⟩::os) K ⟨f,rows,cG,aP⟩ =
  if Ac E (aJ f fo)=true then qV E (aJ f fo) (args.toList.map (aJ f)) (ee .any ops k aP rows) (fun v id r=>aA (Cm .any ops k id cG) (aV E ops clk (k+1) os K ⟨put f d v,dH rows id (some r),i5 k ((args.toList.map (aJ f)).flatMap aL) cG,s7 k id aP⟩))
  else qU E (aJ f fo) (args.toList.map (aJ f)) (ee .any ops k aP rows) fun v=>aV E ops clk (k+1) os K ⟨put f d v,rows,cG,aP⟩:=by
 simp only [aV];rw [Ak Ev];simp only [Aj Ev,ys,xN,qU,aA,u3];have e4:(args.toList.map fun x=>aJ f x)=args.toList.map (aJ f):=rfl;have e5:(args.toList.flatMap fun x=>aL (aJ f x))=(args.toList.map (aJ f)).flatMap aL:=by rw [flatMap_map]
 by_cases hm:Ac E (aJ f fo)=true
 ·simp only [if_pos hm,qV];have SH:∀ {v e' r0},app k ⟨d, .call { callee:=.value fo,args:=args,argTypes:=ts },ty,pos,af,none⟩ true v (some (e',r0)) ⟨f,rows,cG,aP⟩=⟨put f d v,dH rows e' (some r0),i5 k ((args.toList.map (aJ f)).flatMap aL) cG,s7 k e' aP⟩:=by intro v e' r0;rw [<-e5];rfl
  apply propext
  constructor
  ·rintro⟨v,u,h1,h2,h3⟩;have JK:=h1;unfold GH at JK
   split at JK
   ·obtain⟨_,_,_,_,_,_,_,_,_,_,_,_,_,rfl⟩:=JK;rw [SH]at h3;exact⟨v,_,_,h1,h2,h3⟩
   ·exact JK.elim
  ·rintro⟨v,id,r,h1,h2,h3⟩;exact⟨v,some (id,r),h1,h2,by rw [SH];exact h3⟩
 simp only [if_neg hm];generalize hA:aJ f fo=A;have e1:(args.toList.map fun x=>pz (ee .any ops k aP rows) (aJ f x))=(args.toList.map (aJ f)).map (pz (ee .any ops k aP rows)):=by rw [map_map];rfl
 have e2:(args.toList.flatMap fun x=>dA (aJ f x))=(args.toList.map (aJ f)).flatMap dA:=by rw [flatMap_map]
 have e3:∀v,(args.toList.flatMap fun x=>dA (aJ f x)) = []->app k ⟨d, .call { callee:=.value fo,args:=args,argTypes:=ts },ty,pos,af,none⟩ true v none ⟨f,rows,cG,aP⟩=⟨put f d v,rows,cG,aP⟩:=fun v h=>i6 (MH h);rw [e1];cases A with
 | fn g bF =>
  apply propext
  constructor
  ·rintro⟨v,u,⟨rfl,⟨h1,h2⟩,h3⟩,_,h4⟩;rw [e3 v h3]at h4;exact⟨⟨h1,by rw [<-e2];exact h3⟩,v,h2,h4⟩
  ·rintro⟨⟨h1,h3⟩,v,h2,h4⟩;rw [<-e2]at h3;exact⟨v,none,⟨rfl,⟨h1,h2⟩,h3⟩,trivial,by rw [e3 v h3];exact h4⟩
 | _=>simp
theorem Km{args:Array Operand}(hw:E.writes g=true):aV E ops clk k (⟨d, .call { callee:=.value (.func g),args:=args,argTypes:=ts },ty,pos,af,none⟩::os) K ⟨f,rows,cG,aP⟩ =
  ∃e n els,((args.toList.map (aJ f)).all cB=true∧gS E.P g (args.toList.map (aJ f)) e n els∧Cm .any ops k (d.getD 0) cG)∧aV E ops (clk+1) (k+1) os K ⟨put f d (.own (d.getD 0) clk 0 els.length),dH rows (d.getD 0) (some ⟨clk,e,n,els⟩),cG,s7 k (d.getD 0) aP⟩:=by
 have SH:(args.toList.map (aJ f)).all cB=true -> ∀ {v e' r0},app k ⟨d, .call { callee:=.value (.func g),args:=args,argTypes:=ts },ty,pos,af,none⟩ true v (some (e',r0)) ⟨f,rows,cG,aP⟩=⟨put f d v,dH rows e' (some r0),cG,s7 k e' aP⟩:=fun hp=>MU (by simp only [ij];exact MI hp);simp only [aV,yn,ko];rw [if_pos hw];simp only [if_pos hw];apply propext
 constructor
 ·rintro⟨v,u,⟨h1,e,n,els,h2,rfl,rfl⟩,h3,h4⟩;rw [SH h1]at h4;exact⟨e,n,els,⟨h1,h2,h3⟩,h4⟩
 ·rintro⟨e,n,els,⟨h1,h2,h3⟩,h4⟩;refine⟨_,_,⟨h1,e,n,els,h2,rfl,rfl⟩,h3,?_⟩;rw [SH h1];exact h4
@[simp] theorem akj{ops:List Oper}{rows:Rows}:ee md ops j (fun _ _=>False) rows=rows:=by funext id;simp [ee]
@[simp] theorem akk{ops:List Oper}{k:Nat}{w:Nat->Nat->Prop}{rows:Rows}:ee md ops j (s7 k id w) rows=if lB md ops j k=true then ee md ops j w rows else dH (ee md ops j w rows) id none:=by
 funext x;unfold ee s7
 by_cases hd:lB md ops j k=true
 ·rw [if_pos hd]
  have:(∃k',((k'=k∧x=id)∨w k' x)∧lB md ops j k'=false) ↔ ∃k',w k' x∧lB md ops j k'=false:=by
   constructor
   ·rintro⟨k',⟨rfl,_⟩ | h,h2⟩
    ·rw [hd]at h2;cases h2
    ·exact⟨k',h,h2⟩
   ·rintro⟨k',h,h2⟩;exact⟨k', .inr h,h2⟩
  exact(by classical exact ite_congr (propext this) (fun _=>rfl) (fun _=>rfl))
 ·rw [if_neg hd];have MQ:lB md ops j k=false:=au hd;simp only [dH]
  by_cases hx:x=id
  ·rw [if_pos hx,if_pos ⟨k, .inl ⟨rfl,hx⟩,MQ⟩]
  ·rw [if_neg hx]
   have:(∃k',((k'=k∧x=id)∨w k' x)∧lB md ops j k'=false) ↔ ∃k',w k' x∧lB md ops j k'=false:=by
    constructor
    ·rintro⟨k',⟨_,h⟩ | h,h2⟩
     ·exact absurd h hx
     ·exact⟨k',h,h2⟩
    ·rintro⟨k',h,h2⟩;exact⟨k', .inr h,h2⟩
   exact(by classical exact ite_congr (propext this) (fun _=>rfl) (fun _=>rfl))
@[simp] theorem aoH{ops:List Oper}:Cm md ops i id (fun _ _=>False)=True:=by simp [Cm]
@[simp] theorem aoI{ops:List Oper}{k:Nat}{l:List Nat}{t:Nat->Nat->Prop}:Cm md ops i id (i5 k l t)=((id∈l->lB md ops i k=true)∧Cm md ops i id t):=by
 apply propext;unfold Cm i5
 constructor
 ·intro h;exact⟨fun hi=>h k (.inl ⟨rfl,rfl,hi⟩),fun k' hk=>h k' (.inr hk)⟩
 ·rintro⟨h1,h2⟩ k' (⟨_,rfl,h⟩ | h)
  ·exact h1 h
  ·exact h2 k' h
end
end Pm
