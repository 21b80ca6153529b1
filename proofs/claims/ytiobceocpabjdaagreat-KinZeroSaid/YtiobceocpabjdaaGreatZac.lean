import Derived.StillTail
import Derived.Deep.LoopGhost
import Derived.Test.YtiobceocpabjdaaGreatZab
set_option linter.unusedSimpArgs false
set_option linter.unusedVariables false
namespace Pm
open Go Go.RowKit
def lY(P:Program)(f:FuncId)(args:List PV)(e:TypeId)(n:Nat)(els:List (List PV)):Prop:=
 (∃fn c,P.funcs[f]? = some fn∧fn.body=some c∧(fn.name == "runtime.NumGoroutine")=false) ∧
 ∀(w:World) (S:dX) (vs:List Value),(∀b o,S b o→b<w.heap.size)→bO S w args vs →
  Calls P f vs.toArray w fun x w'=>∃(v:Value) (xs:List Value) (S':dX),x = .returned v∧Below w.heap.size w w'∧(∀b o,S b o→S' b o)∧(∀b o,S' b o→S b o∨(w.heap.size≤b∧b<w'.heap.size)) ∧
   w'.ownsRow w.heap.size e n v els.length xs∧bB (dC S' w') els.flatten xs∧(∀y∈xs,y.oneCell'=true)∧(∀x∈els,x.length=n)∧0<n∧(∀g o,v.ownBlock=some g→¬S' g o)
def KZ(md:Region.Mode)(ops:List Oper):Nat→Nat→Nat→Bool
 | 0,_,_=>false
 | f+1,j,k=>match ops[j]? with
  | some o=>o.after.toList.any fun e=>Region.binds md e&&(e.on==k || KZ md ops f e.on k)
  | none=>false
def qE(md:Region.Mode)(ops:List Oper)(j k:Nat):Bool:=KZ md ops 12 j k
structure ST where
 f:Nat→PV
 rows:Rows
 bP:Nat→Nat→Prop
 wl:Nat→Nat→Prop
def dO(E:Env):Op→Bool
 | .alloc _=>true
 | .box _ _=>true
 | .makeSlice _ _ _=>true
 | .call { callee:=.builtin .append,args:=⟨[_,_]⟩,argTypes:=⟨[_,_]⟩ }=>true
 | .call { callee:=.value (.func g),args:=_,argTypes:=_ }=>E.writes g
 | _=>false
def tU(E:Env)(ops:List Oper):Bool:=ops.all fun o => !dO E o.op || (o.dst.isSome&&o.guard.isNone)
def rk(E:Env)(ops:List Oper)(i:Nat):Nat:=((ops.take i).filter fun o=>dO E o.op).length
theorem TX{E:Env}{ops:List Oper}{i:Nat}{o:Oper}(h:ops[i]? = some o):rk E ops (i+1)=rk E ops i+if dO E o.op=true then 1 else 0:=by
 unfold rk
 rw [List.take_add_one,h]
 simp only [Option.toList_some,List.filter_append,List.length_append]
 congr 1
 cases hn:dO E o.op<;>simp [hn]
theorem afn{E:Env}{ops:List Oper}{i j:Nat}(h:i≤j):rk E ops i≤rk E ops j:=by
 unfold rk
 have:(ops.take i).Sublist (ops.take j):=by
  have:=List.take_sublist i (ops.take j)
  rwa [List.take_take,Nat.min_eq_left h]at this
 exact(this.filter _).length_le
theorem aaX{E:Env}{ops:List Oper}{i j:Nat}{o:Oper}(h:ops[i]? = some o)(hn:dO E o.op=true)(hij:i<j):rk E ops i<rk E ops j:=by
 have h1:=TX (E:=E) h
 rw [if_pos hn]at h1
 have:=afn (E:=E) (ops:=ops) (show i+1≤j from hij)
 omega
theorem akR{E:Env}{ops:List Oper}{i j:Nat}{o o':Oper}(h:ops[i]? = some o)(hn:dO E o.op=true)(h':ops[j]? = some o')(BL:dO E o'.op=true)(he:rk E ops i=rk E ops j):i=j:=by
 rcases Nat.lt_trichotomy i j with h1 | h1 | h1
 ·have:=aaX h hn h1;omega
 ·exact h1
 ·have:=aaX h' BL h1;omega
def tI(t:TI)(rows:Rows)(x y:PV)(c0 d:Nat)(v:PV)(u:Option (Nat × Row)):Prop:=
 match t with
 | .slice e n b _=>∃l,qS rows y l∧(∀e∈l,e.length=n) ∧
  match x with
  | .nil=>l.length≤room∧l.length*b≤room∧v = .own d c0 0 l.length∧u=some (d,⟨c0,e,n,l⟩)
  | .own id ver off len=>∃r,rows id=some r∧r.ver=ver∧off=0∧len≤r.els.length∧r.e=e∧r.size=n∧len+l.length≤room∧(len+l.length)*b≤room ∧
    v = .own id c0 0 (len+l.length)∧u=some (id,⟨c0,e,n,r.els.take len++l⟩)
  | .iK l0=>(∀e∈l0,e.length=n)∧(∀e∈l,∀p∈e,bI p=true)∧l0.length+l.length≤room∧(l0.length+l.length)*b≤room∧v = .sl (l0++l)∧u=none
  | _=>False
 | _=>False
def aiq(E:Env)(g:FuncId)(args:List PV)(c0 d:Nat)(v:PV)(u:Option (Nat × Row)):Prop:=
 args.all dB=true ∧ ∃e n els,lY E.P g args e n els∧v = .own d c0 0 els.length∧u=some (d,⟨c0,e,n,els⟩)
def yn(E:Env)(c0:Nat)(d:Option Tmp)(op:Op)(ρ:Operand→PV)(rows:Rows)(v:PV)(u:Option (Nat × Row)):Prop:=
 match op with
 | .alloc t=>(E.ty t).known=true∧v = .ptr (d.getD 0) c0 0 0∧u=some (d.getD 0,⟨c0,t,(E.ty t).size,[(E.ty t).zero]⟩)
 | .box t x=>(E.ty t).known=true ∧ ∃l,cE (ρ x)=some l∧(∀q∈l,iM (fun _=>none) q)∧l.length=(E.ty t).size∧v = .ptr (d.getD 0) c0 0 0∧u=some (d.getD 0,⟨c0,t,(E.ty t).size,[l]⟩)
 | .makeSlice t l c =>
  match E.ty t,ρ l,ρ c with
  | .slice e n b z, .int _ x, .int _ y=>0≤x∧x≤y∧y.toNat≤room∧y.toNat*b≤room∧v = .own (d.getD 0) c0 0 x.toNat∧u=some (d.getD 0,⟨c0,e,n,List.replicate x.toNat z⟩)
  | _,_,_=>False
 | .call { callee:=.builtin .append,args:=⟨[x,y]⟩,argTypes:=⟨[t,t2]⟩ }=>(t2=t∨slT (E.ty t2)=true)∧tI (E.ty t) rows (ρ x) (ρ y) c0 (d.getD 0) v u
 | .call { callee:=.value (.func g),args:=aGE,argTypes:=ts }=>if E.writes g=true then aiq E g (aGE.toList.map fun x=>ρ x) c0 (d.getD 0) v u else ys E (.call { callee:=.value (.func g),args:=aGE,argTypes:=ts }) ρ rows v u
 | op=>ys E op ρ rows v u
theorem BM{E:Env}{c0:Nat}{d:Option Tmp}{op:Op}{ρ:Operand→PV}{rows:Rows}{v:PV}{u:Option (Nat × Row)}(h:dO E op=false):yn E c0 d op ρ rows v u=ys E op ρ rows v u:=by
 unfold yn
 split
 all_goals first
  | rfl
  | (simp [dO]at h;done)
  | (simp only [dO]at h;rw [if_neg (by rw [h];decide)])
theorem nU{E:Env}{op:Op}{C:Prop}(h:dO E op=true)(h1:∀t,op = .alloc t→C)(h2:∀t x,op = .box t x→C)(h3:∀t l c,op = .makeSlice t l c→C)
  (h4:∀x y t t2,op = .call { callee:=.builtin .append,args:=⟨[x,y]⟩,argTypes:=⟨[t,t2]⟩ }→C) (h5:∀g aGE ts,op = .call { callee:=.value (.func g),args:=aGE,argTypes:=ts }→E.writes g=true→C):C:=by
 unfold dO at h
 split at h
 ·exact h1 _ rfl
 ·exact h2 _ _ rfl
 ·exact h3 _ _ _ rfl
 ·exact h4 _ _ _ _ rfl
 ·exact h5 _ _ _ rfl h
 ·cases h
theorem aaY{t:TI}{rows rows':Rows}{x y v:PV}{c0 d:Nat}{u:Option (Nat × Row)}(h:jN (aT x++aT y) rows rows')(hy:tI t rows x y c0 d v u):tI t rows' x y c0 d v u ∧ ∀id∈aT x++aT y,∃r,rows id=some r:=by
 unfold tI at *
 cases t with
 | slice e n b z =>
  obtain⟨l,h1,h2,h3⟩:=hy
  obtain⟨g1,g2⟩:=TW (fun id gD=>h id (by simp only [List.mem_append];exact .inr gD)) h1
  cases x with
  | nil=>exact⟨⟨l,g1,h2,h3⟩,fun id gD=>g2 id (by simpa [aT]using gD)⟩
  | iK l0=>exact⟨⟨l,g1,h2,h3⟩,fun id gD=>g2 id (by simpa [aT]using gD)⟩
  | own id ver off len =>
   obtain⟨r,hr,hh⟩:=h3
   refine⟨⟨l,g1,h2,r,h id (by simp [aT]) r hr,hh⟩,fun i0 gD=>?_⟩
   simp only [aT,List.mem_append,List.mem_cons,List.not_mem_nil,or_false]at gD
   rcases gD with rfl | gD
   ·exact⟨r,hr⟩
   ·exact g2 i0 gD
  | _=>exact h3.elim
 | _=>exact hy.elim
theorem TY{E:Env}{c0:Nat}{d:Option Tmp}{op:Op}{ρ:Operand→PV}{rows rows':Rows}{v:PV}{u:Option (Nat × Row)}(h:jN (iB op ρ) rows rows')(hy:yn E c0 d op ρ rows v u) :
  yn E c0 d op ρ rows' v u∧(∀id∈iB op ρ,∃r,rows id=some r) ∧ ∀id r,u=some (id,r)→(dO E op=true∧id=d.getD 0)∨id∈iB op ρ:=by
 cases hn:dO E op with
 | false =>
  rw [BM hn]at hy ⊢
  obtain⟨h1,h2,h3⟩:=aip h hy
  exact⟨h1,h2,fun id r hu => .inr (h3 id r hu)⟩
 | true =>
  refine nU hn ?_ ?_ ?_ ?_ ?_
  ·rintro t rfl
   refine⟨hy,by simp [iB],fun id r hu => .inl ⟨by first | trivial | rfl,?_⟩⟩
   obtain⟨_,_,rfl⟩:=hy
   simp at hu;exact hu.1.symm
  ·rintro t x rfl
   refine⟨hy,by simp [iB],fun id r hu => .inl ⟨by first | trivial | rfl,?_⟩⟩
   obtain⟨_,_,_,_,_,_,rfl⟩:=hy
   simp at hu;exact hu.1.symm
  ·rintro t l c rfl
   refine⟨hy,by simp [iB],fun id r hu => .inl ⟨by first | trivial | rfl,?_⟩⟩
   simp only [yn]at hy
   split at hy
   ·obtain⟨_,_,_,_,_,rfl⟩:=hy
    simp at hu;exact hu.1.symm
   ·exact hy.elim
  ·rintro x y t t2 rfl
   simp only [yn,iB]at hy h ⊢
   obtain⟨h2,h3⟩:=hy
   obtain⟨g1,g2⟩:=aaY h h3
   refine⟨⟨h2,g1⟩,g2,fun id r hu=>?_⟩
   unfold tI at h3
   split at h3
   ·obtain⟨l,_,_,h3⟩:=h3
    split at h3
    ·obtain⟨_,_,_,rfl⟩:=h3
     simp at hu;exact .inl ⟨by first | trivial | rfl,hu.1.symm⟩
    ·rename_i hx
     obtain⟨_,_,_,_,_,_,_,_,_,_,rfl⟩:=h3
     simp at hu
     rw [hx]
     exact .inr (by simp [aT,hu.1])
    ·obtain⟨_,_,_,_,_,rfl⟩:=h3
     cases hu
    ·exact h3.elim
   ·exact h3.elim
  ·rintro g aGE ts rfl hw
   simp only [yn]at hy ⊢
   rw [if_pos hw]at hy
   rw [if_pos hw]
   refine⟨hy,by simp only [iB];rw [TV hy.1];simp,fun id r hu => .inl ⟨by first | trivial | exact hw,?_⟩⟩
   obtain⟨_,_,_,_,_,_,rfl⟩:=hy
   simp at hu;exact hu.1.symm
open Classical in
noncomputable def eC(md:Region.Mode)(ops:List Oper)(j:Nat)(wl:Nat→Nat→Prop)(rows:Rows):Rows:=fun id=>if ∃k,wl k id∧qE md ops j k=false then none else rows id
theorem lE{md:Region.Mode}{ops:List Oper}{j id:Nat}{wl:Nat→Nat→Prop}{rows:Rows}{r:Row}:eC md ops j wl rows id=some r↔(∀k,wl k id→qE md ops j k=true)∧rows id=some r:=by
 unfold eC
 split
 ·rename_i h
  obtain⟨k,h1,h2⟩:=h
  simp only [reduceCtorEq,false_iff,not_and]
  intro h3
  rw [h3 k h1]at h2;cases h2
 ·rename_i h
  refine⟨fun h2=>⟨fun k hk=>?_,h2⟩,fun h2=>h2.2⟩
  cases hd:qE md ops j k with
  | true=>rfl
  | false=>exact absurd ⟨k,hk,hd⟩ h
def yL(md:Region.Mode)(ops:List Oper)(i id:Nat)(bP:Nat→Nat→Prop):Prop:=∀k,bP k id→qE md ops i k=true
def K1(md:Region.Mode)(ops:List Oper)(i:Nat)(u:Option (Nat × Row))(bP:Nat→Nat→Prop):Prop:=
 match u with
 | none=>True
 | some (id,_)=>yL md ops i id bP
def gOK(ops:Array Oper)(o:Oper)(f:Nat→PV)(b:Bool):Prop:=
 match o.guard with
 | none=>b=true
 | some (j,want)=>∃d,(ops[j]?).bind (·.dst)=some d∧((f d = .bool want∧b=true)∨((f d = .bool (!want)∨f d = .dU [])∧b=false))
def YG(E:Env)(md:Region.Mode)(ops:Array Oper)(c0:Nat)(i:Nat)(o:Oper)(b:Bool)(v:PV)(u:Option (Nat × Row))(st:ST):Prop:=
 gOK ops o st.f b∧if b=true then yn E (c0+rk E ops.toList i) o.dst o.op (aO st.f) (eC md ops.toList i st.wl st.rows) v u else v = .dU []∧u=none
def wlU(i:Nat)(u:Option (Nat × Row))(wl:Nat→Nat→Prop):Nat→Nat→Prop:=
 match u with
 | none=>wl
 | some (id,_)=>fun k i0=>(k=i∧i0=id)∨wl k i0
def app(i:Nat)(o:Oper)(b:Bool)(v:PV)(u:Option (Nat × Row))(st:ST):ST:=
 { f:=put st.f o.dst v,rows:=eF st.rows u,bP:=fun k id=>(b=true∧k=i∧id∈iB o.op (aO st.f))∨st.bP k id,wl:=wlU i u st.wl }
def iW(E:Env)(op:Op)(clk:Nat):Nat:=
 match op with
 | .alloc _=>clk+1
 | .box _ _=>clk+1
 | .makeSlice _ _ _=>clk+1
 | .call { callee:=.builtin .append,args:=⟨[_,_]⟩,argTypes:=⟨[_,_]⟩ }=>clk+1
 | .call { callee:=.value (.func g),args:=_,argTypes:=_ }=>if E.writes g=true then clk+1 else clk
 | _=>clk
theorem BN{E:Env}{op:Op}{clk:Nat}(h:dO E op=false):iW E op clk=clk:=by
 unfold iW
 split
 all_goals first
  | rfl
  | (simp [dO]at h;done)
  | (simp only [dO]at h;rw [if_neg (by rw [h];decide)])
theorem aaZ{E:Env}{op:Op}{clk:Nat}(h:dO E op=true):iW E op clk=clk+1:=by
 refine nU h ?_ ?_ ?_ ?_ ?_
 ·rintro t rfl;rfl
 ·rintro t x rfl;rfl
 ·rintro t l c rfl;rfl
 ·rintro x y t t2 rfl;rfl
 ·rintro g aGE ts rfl hw;simp only [iW];rw [if_pos hw]
theorem afp{E:Env}{ops:List Oper}{i c0:Nat}{o:Oper}(h:ops[i]? = some o):iW E o.op (c0+rk E ops i)=c0+rk E ops (i+1):=by
 rw [TX h]
 cases hn:dO E o.op with
 | false=>rw [BN hn];simp
 | true=>rw [aaZ hn];simp;omega
def qOp(E:Env)(md:Region.Mode)(ops:Array Oper)(c0:Nat)(i:Nat)(K:ST→Prop)(st:ST):Prop:=
 match ops[i]? with
 | none=>K st
 | some o=>∃b v u,YG E md ops c0 i o b v u st∧K1 md ops.toList i u st.bP∧K (app i o b v u st)
section
variable {E:Env} {ops:Array Oper} {md:Region.Mode}
theorem aa1{c0 i:Nat}{K K':ST→Prop}{st:ST}(h:∀st,K st→K' st)(hh:qOp E md ops c0 i K st):qOp E md ops c0 i K' st:=by
 unfold qOp at *
 split
 ·exact h _ (by simpa [*]using hh)
 ·rename_i o ho
  simp only [ho]at hh
  obtain⟨b,v,u,h1,h2,h3⟩:=hh
  exact⟨b,v,u,h1,h2,h _ h3⟩
theorem TZ{f:Nat→PV}{d:Option Tmp}{v:PV}{x:Operand}(h:∀t,d=some t→x ≠ .tmp t):aO (put f d v) x=aO f x:=by
 cases d with
 | none=>rfl
 | some t =>
  cases x with
  | tmp s =>
   have:s≠t:=fun e=>h t rfl (by rw [e])
   simp [aO,put,this]
  | _=>rfl
theorem aa2{op:Op}{ρ ρ':Operand→PV}{rows:Rows}{v:PV}{u:Option (Nat × Row)}(h:∀x∈op.operands,ρ x=ρ' x):ys E op ρ rows v u↔ys E op ρ' rows v u:=by
 have parts:∀ps:Array (Nat × Operand),(∀x∈(ps.toList.map (·.2)).toArray,ρ x=ρ' x)→(ps.toList.map fun x=>(x.1,ρ x.2))=ps.toList.map fun x=>(x.1,ρ' x.2):=fun ps hp =>
  List.map_congr_left fun p hm=>by rw [hp p.2 (by simp;exact⟨p.1,by simpa using hm⟩)]
 have args:∀(c:Call),(∀x∈c.operands,ρ x=ρ' x) → ∀x∈c.args.toList,ρ x=ρ' x:=fun c hc x hx=>hc x (by simp [Call.operands];exact .inr (by simpa using hx))
 unfold ys
 split
 ·rename_i x y t t2
  rw [h x (by simp [Op.operands,Call.operands]),h y (by simp [Op.operands,Call.operands])]
 ·rename_i t p x
  rw [h p (by simp [Op.operands]),h x (by simp [Op.operands])]
 ·rename_i t len ps
  rw [parts ps (by simpa [Op.operands]using h)]
 ·rename_i f aGE ts
  have ha:=args _ (by simpa [Op.operands]using h)
  simp only at ha
  have e1:(aGE.toList.map fun x=>pz rows (ρ x))=aGE.toList.map fun x=>pz rows (ρ' x):=List.map_congr_left fun x hx=>by rw [ha x hx]
  have e2:(aGE.toList.map fun x=>ρ x)=aGE.toList.map fun x=>ρ' x:=List.map_congr_left fun x hx=>ha x hx
  rw [h f (by simp [Op.operands,Call.operands]),e1,e2]
  have:(aGE.toList.flatMap fun x=>dQ (ρ x))=aGE.toList.flatMap fun x=>dQ (ρ' x):=by
   rw [List.flatMap_def,List.flatMap_def]
   congr 1
   exact List.map_congr_left fun x hx=>by rw [ha x hx]
  rw [this]
 ·suffices hs:yv E op ρ rows v↔yv E op ρ' rows v by rw [hs]
  unfold yv
  split
  case h_12 =>
   rename_i t x lo hi mx _ _ _ _
   have o1:∀y:Option Operand,(∀z,y=some z→ρ z=ρ' z)→y.map ρ=y.map ρ':=by
    intro y hy;cases y with
    | none=>rfl
    | some z=>simp [hy z rfl]
   rw [h x (by simp [Op.operands]),o1 lo fun z hz=>h z (by subst hz;simp [Op.operands]),o1 hi fun z hz=>h z (by subst hz;simp [Op.operands]),o1 mx fun z hz=>h z (by subst hz;simp [Op.operands])]
  case h_13=>rename_i t ps _ _ _ _;rw [parts ps (by simpa [Op.operands]using h)]
  case h_15 =>
   rename_i f bW _ _ _ _
   rw [List.map_congr_left (l:=bW.toList) (f:=fun x=>ρ x) (g:=fun x=>ρ' x) fun x hx=>h x (by simp [Op.operands];simpa using hx)]
  all_goals first
   | rfl
   | (simp only [Op.operands,Call.operands]at h;simp [h])
theorem BO{op:Op}{ρ ρ':Operand→PV}(h:∀x∈op.operands,ρ x=ρ' x):iB op ρ=iB op ρ':=by
 unfold iB
 split
 all_goals first
  | rfl
  | (rw [List.flatMap_def,List.flatMap_def];congr 1;exact List.map_congr_left fun x hx=>by rw [h x (by simp [Op.operands,Call.operands];exact .inr (by simpa using hx))])
  | (simp only [Op.operands,Call.operands]at h;simp [h])
theorem K2{c0:Nat}{d:Option Tmp}{op:Op}{ρ ρ':Operand→PV}{rows:Rows}{v:PV}{u:Option (Nat × Row)}(h:∀x∈op.operands,ρ x=ρ' x):yn E c0 d op ρ rows v u↔yn E c0 d op ρ' rows v u:=by
 cases hn:dO E op with
 | false=>rw [BM hn,BM hn];exact aa2 h
 | true =>
  refine nU hn ?_ ?_ ?_ ?_ ?_
  ·rintro t rfl;exact Iff.rfl
  ·rintro t x rfl
   simp only [yn]
   rw [h x (by simp [Op.operands])]
  ·rintro t l c rfl
   simp only [yn]
   rw [h l (by simp [Op.operands]),h c (by simp [Op.operands])]
  ·rintro x y t t2 rfl
   simp only [yn]
   rw [h x (by simp [Op.operands,Call.operands]),h y (by simp [Op.operands,Call.operands])]
  ·rintro g aGE ts rfl hw
   simp only [yn]
   rw [if_pos hw,if_pos hw,List.map_congr_left (l:=aGE.toList) (f:=fun x=>ρ x) (g:=fun x=>ρ' x) fun x hx=>h x (by simp [Op.operands,Call.operands];exact .inr (by simpa using hx))]
theorem K3{o:Oper}{d:Tmp}{x:Operand}(h:d ∉ o.looksAt ops)(hx:x∈o.op.operands):x ≠ .tmp d:=by
 rintro rfl
 exact h (List.mem_append_left _ (List.mem_filterMap.2 ⟨.tmp d,by simpa using hx,rfl⟩))
theorem P7{c:Cx}:aG c (.dU []) undef:=by
 show dC c.S c.w (.dU []) undef
 simp only [dC]
 exact⟨[],rfl,rfl⟩
theorem iN{c:Cx}{tmps:Array Value}{j:Nat}{d:Tmp}{t:Bool}(h1:(ops[j]?).bind (·.dst)=some d)(h:aG c (.bool t) (tmps.getD d undef)):yielded ops tmps j=some t:=by
 rw [dF]at h
 unfold yielded
 rw [h1]
 simp only [Option.bind_some]
 cases hx:tmps[d]? with
 | none=>simp [hx]at h;cases h
 | some y =>
  have hy:y = .bool t:=by simpa [hx]using h
  rw [hy]
theorem tV{c:Cx}{tmps:Array Value}{j:Nat}{d:Tmp}(h1:(ops[j]?).bind (·.dst)=some d)(h:aG c (.dU []) (tmps.getD d undef)):yielded ops tmps j=none:=by
 have h2:tmps.getD d undef = .tuple #[]:=by
  have h3:dC c.S c.w (.dU []) (tmps.getD d undef):=h
  simp only [dC]at h3
  obtain⟨vs,h4,h5⟩:=h3
  simp only [bO]at h5
  rw [h4,h5]
 unfold yielded
 rw [h1]
 simp only [Option.bind_some]
 cases hx:tmps[d]? with
 | none=>rfl
 | some y =>
  have hy:y = .tuple #[]:=by simpa [hx]using h2
  rw [hy]
theorem T0{o:Oper}{f:Nat→PV}{dd:Option Tmp}{v:PV}{b:Bool}(h:∀d,dd=some d→d ∉ o.looksAt ops):gOK ops o (put f dd v) b↔gOK ops o f b:=by
 unfold gOK
 cases hg:o.guard with
 | none=>rfl
 | some g =>
  obtain⟨j,want⟩:=g
  simp only
  have key:∀d,(ops[j]?).bind (·.dst)=some d→put f dd v d=f d:=by
   intro d h1
   cases dd with
   | none=>rfl
   | some e =>
    have nJ:d≠e:=by
     rintro rfl
     exact h d rfl (List.mem_append_right _ (by simp [hg,h1]))
    simp [put,nJ]
  constructor
  ·rintro⟨d,h1,h2⟩
   rw [key d h1]at h2
   exact⟨d,h1,h2⟩
  ·rintro⟨d,h1,h2⟩
   rw [←key d h1]at h2
   exact⟨d,h1,h2⟩
theorem put_comm{f:Nat→PV}{x y:Option Tmp}{v u:PV}(h:∀d,x=some d→y≠some d):put (put f x v) y u=put (put f y u) x v:=by
 cases x with
 | none=>rfl
 | some d =>
  cases y with
  | none=>rfl
  | some e =>
   have nJ:d≠e:=fun he=>h d rfl (by rw [he])
   funext j
   simp only [put]
   split<;>split<;>simp_all
theorem BP{rows:Rows}{u:Option (Nat × Row)}{j:Nat}(h:∀r,u≠some (j,r)):eF rows u j=rows j:=by
 cases u with
 | none=>rfl
 | some x =>
  obtain⟨i,r⟩:=x
  simp only [eF,dR]
  rw [if_neg]
  rintro rfl
  exact h r rfl
theorem pM{i:Nat}{u:Option (Nat × Row)}{wl:Nat→Nat→Prop}{k id:Nat}:wlU i u wl k id↔(k=i ∧ ∃r,u=some (id,r))∨wl k id:=by
 cases u with
 | none=>simp [wlU]
 | some x =>
  obtain⟨i0,r⟩:=x
  simp only [wlU,Option.some.injEq,Prod.mk.injEq]
  constructor
  ·rintro(⟨h1,h2⟩ | h)
   ·exact .inl ⟨h1,r,h2.symm,rfl⟩
   ·exact .inr h
  ·rintro(⟨h1,r',h2,_⟩ | h)
   ·exact .inl ⟨h1,h2.symm⟩
   ·exact .inr h
theorem HS{i:Nat}{u:Option (Nat × Row)}{bP:Nat→Nat→Prop}:K1 md ops.toList i u bP ↔ ∀id r,u=some (id,r) → ∀k,bP k id→qE md ops.toList i k=true:=by
 cases u with
 | none=>simp [K1]
 | some x =>
  obtain⟨i0,r⟩:=x
  simp only [K1,yL,Option.some.injEq,Prod.mk.injEq]
  constructor
  ·rintro h _ _ ⟨rfl,_⟩;exact h
  ·intro h;exact h _ _ ⟨rfl,rfl⟩
theorem afq{c0 i j:Nat}{oi oj:Oper}{bi:Bool}{vi:PV}{ui:Option (Nat × Row)}(hj:ops[j]? = some oj)(TO:oi.apart ops oj=true)(hds:dO E oi.op=true→oi.dst.isSome=true)(aw3:dO E oj.op=true→oj.dst.isSome=true)(hdj:qE md ops.toList j i=false){K:ST→Prop}{st:ST}
  (hy:YG E md ops c0 i oi bi vi ui st) (ho:K1 md ops.toList i ui st.bP) (h:qOp E md ops c0 j K (app i oi bi vi ui st)) :
  qOp E md ops c0 j (fun T1=>YG E md ops c0 i oi bi vi ui T1∧K1 md ops.toList i ui T1.bP∧K (app i oi bi vi ui T1)) st:=by
 obtain⟨h1,h2,h3⟩:=Oper.apart_spec TO
 unfold qOp at h ⊢
 simp only [hj]at h ⊢
 obtain⟨bj,vj,uj,⟨hgj,hyj⟩,hoj,hK⟩:=h
 obtain⟨hgi,W7⟩:=hy
 rw [HS]at hoj ho
 have ej:∀x∈oj.op.operands,aO (put st.f oi.dst vi) x=aO st.f x:=fun x hx=>TZ fun t ht=>K3 (h1 t ht) hx
 have ei:∀x∈oi.op.operands,aO (put st.f oj.dst vj) x=aO st.f x:=fun x hx=>TZ fun t ht=>K3 (h3 t ht) hx
 have aw4:gOK ops oj st.f bj:=(T0 h1).1 hgj
 have hnw:∀id r,eC md ops.toList j (app i oi bi vi ui st).wl (app i oi bi vi ui st).rows id=some r → ∀r',ui≠some (id,r'):=by
  intro id r hr r' hu
  obtain⟨hw,_⟩:=lE.1 hr
  have:=hw i (pM.2 (.inl ⟨rfl,r',hu⟩))
  rw [hdj]at this;cases this
 have hle:∀ids,jN ids (eC md ops.toList j (app i oi bi vi ui st).wl (app i oi bi vi ui st).rows) (eC md ops.toList j st.wl st.rows):=by
  intro ids id _ r hr
  have hn:=hnw id r hr
  obtain⟨hw,j9⟩:=lE.1 hr
  simp only [app]at j9 hw
  rw [BP hn]at j9
  exact lE.2 ⟨fun k hk=>hw k (pM.2 (.inr hk)),j9⟩
 have aw5:(if bj=true then yn E (c0+rk E ops.toList j) oj.dst oj.op (aO st.f) (eC md ops.toList j st.wl st.rows) vj uj else vj = .dU []∧uj=none) ∧
   (bj=true → ∀id∈iB oj.op (aO st.f),∃r,eC md ops.toList j (app i oi bi vi ui st).wl (app i oi bi vi ui st).rows id=some r)∧(∀id r,uj=some (id,r)→bj=true∧((dO E oj.op=true∧id=oj.dst.getD 0)∨id∈iB oj.op (aO st.f))):=by
  by_cases hb:bj=true
  ·rw [if_pos hb]at hyj ⊢
   have afr:=(K2 ej).1 hyj
   obtain⟨g1,g2,g3⟩:=TY (hle _) afr
   exact⟨g1,fun _=>g2,fun id r hu=>⟨hb,g3 id r hu⟩⟩
  ·rw [if_neg hb]at hyj ⊢
   exact⟨hyj,fun h=>absurd h hb,fun id r hu=>by rw [hyj.2]at hu;cases hu⟩
 obtain⟨aw6,afr,aw7⟩:=aw5
 have aw8:K1 md ops.toList j uj st.bP:=HS.2 fun id r hu k hk=>hoj id r hu k (.inr hk)
 have hfi:∀id r,uj=some (id,r)→¬(bi=true∧id∈iB oi.op (aO st.f)):=by
  intro id r hu hh
  have:=hoj id r hu i (.inl ⟨hh.1,rfl,hh.2⟩)
  rw [hdj]at this;cases this
 have hui:∀id r,ui=some (id,r)→bi=true∧((dO E oi.op=true∧id=oi.dst.getD 0)∨id∈iB oi.op (aO st.f)):=by
  intro id r hu
  by_cases hb:bi=true
  ·rw [if_pos hb]at W7
   exact⟨hb,(TY (rows':=eC md ops.toList i st.wl st.rows) (fun id _ r hr=>hr) W7).2.2 id r hu⟩
  ·rw [if_neg hb]at W7
   rw [W7.2]at hu;cases hu
 have nJ:∀id r r',ui=some (id,r)→uj=some (id,r')→False:=by
  intro id r r' hu1 hu2
  obtain⟨hb,hh⟩:=aw7 id r' hu2
  rcases hh with hh | hh
  ·obtain⟨P6,hh1⟩:=hui id r hu1
   rcases hh1 with hh1 | hh1
   ·obtain⟨d,hd⟩:=Option.isSome_iff_exists.1 (hds hh1.1)
    have e1:id=d:=by rw [hh1.2,hd];rfl
    cases akU:oj.dst with
    | none=>exact absurd akU (fun he=>by have:=aw3 hh.1;rw [he]at this;cases this)
    | some d' =>
     have e2:id=d':=by rw [hh.2,akU];rfl
     exact h2 d hd (by rw [akU,←e2,e1])
   ·exact hfi id r' hu2 ⟨P6,hh1⟩
  ·obtain⟨r'',aw9⟩:=afr hb id hh
   exact hnw id r'' aw9 r hu1
 have axa:bi=true→jN (iB oi.op (aO st.f)) (eC md ops.toList i st.wl st.rows) (eC md ops.toList i (app j oj bj vj uj st).wl (app j oj bj vj uj st).rows):=by
  intro hb id gD r hr
  obtain⟨hw,j9⟩:=lE.1 hr
  have hn:∀r',uj≠some (id,r'):=fun r' hu=>hfi id r' hu ⟨hb,gD⟩
  refine lE.2 ⟨fun k hk=>?_,?_⟩
  ·rcases pM.1 hk with ⟨_,r',hu⟩ | hk
   ·exact absurd hu (hn r')
   ·exact hw k hk
  ·simp only [app];rw [BP hn];exact j9
 refine⟨bj,vj,uj,⟨aw4,aw6⟩,aw8,⟨(T0 h3).2 hgi,?_⟩,?_,?_⟩
 ·by_cases hb:bi=true
  ·rw [if_pos hb]at W7 ⊢
   refine(K2 ei).2 ?_
   exact(TY (axa hb) W7).1
  ·rw [if_neg hb]at W7 ⊢;exact W7
 ·-- i's own row has not aC5 au6
  rw [HS]
  rintro id r hu k (⟨hb,rfl,hh⟩ | hh)
  ·obtain⟨r',j9⟩:=afr hb id hh
   exact absurd hu (hnw id r' j9 r)
  ·exact ho id r hu k hh
 ·have:app i oi bi vi ui (app j oj bj vj uj st)=app j oj bj vj uj (app i oi bi vi ui st):=by
   simp only [app,ST.mk.injEq]
   refine⟨put_comm fun d hd=>fun hd'=>(h2 d) (by first | exact hd | exact hd') (by first | exact hd' | exact hd),?_,?_,?_⟩
   ·cases ui with
    | none=>rfl
    | some x =>
     cases uj with
     | none=>rfl
     | some y =>
      obtain⟨id,r⟩:=x
      obtain⟨i0,r'⟩:=y
      have:id≠i0:=fun e=>nJ id r r' rfl (by rw [e])
      funext k
      simp only [eF,dR]
      split<;>split<;>simp_all
   ·funext k id
    have e1:iB oi.op (aO (put st.f oj.dst vj))=iB oi.op (aO st.f):=BO ei
    have e2:iB oj.op (aO (put st.f oi.dst vi))=iB oj.op (aO st.f):=BO ej
    rw [e1,e2]
    apply propext
    constructor
    ·rintro(h | h | h)
     ·exact .inr (.inl h)
     ·exact .inl h
     ·exact .inr (.inr h)
    ·rintro(h | h | h)
     ·exact .inr (.inl h)
     ·exact .inl h
     ·exact .inr (.inr h)
   ·funext k id
    apply propext
    rw [pM,pM,pM,pM]
    constructor
    ·rintro(h | h | h)
     ·exact .inr (.inl h)
     ·exact .inl h
     ·exact .inr (.inr h)
    ·rintro(h | h | h)
     ·exact .inr (.inl h)
     ·exact .inl h
     ·exact .inr (.inr h)
  rw [this];exact hK
theorem K4{f j k:Nat}:KZ md ops.toList (f+1) j k=true ↔ ∃oj,ops[j]? = some oj ∧ ∃e∈oj.after,Region.binds md e=true∧(e.on=k∨KZ md ops.toList f e.on k=true):=by
 rw [KZ]
 cases h:ops[j]? with
 | none=>simp [show ops.toList[j]? = none by simpa using h]
 | some oj =>
  rw [show ops.toList[j]? = some oj by simpa using h]
  simp only [List.any_eq_true,Bool.and_eq_true,Bool.or_eq_true,beq_iff_eq,Option.some.injEq]
  constructor
  ·rintro⟨e,he,h1,h2⟩;exact⟨oj,rfl,e,by simpa using he,h1,h2⟩
  ·rintro⟨_,rfl,e,he,h1,h2⟩;exact⟨e,by simpa using he,h1,h2⟩
theorem K5{n i:Nat}{aZ:Array Bool}(inv:HeadInv md ops n aZ):∀(f j:Nat) (oj:Oper),ops[j]? = some oj→(∀e∈oj.after,Region.binds md e=true→aZ.getD e.on false=true)→KZ md ops.toList f j i=true→aZ.getD i false=true:=by
 intro f
 induction f with
 | zero=>intro j oj _ _ h;rw [KZ]at h;cases h
 | succ f ih =>
  intro j oj hj hr h
  obtain⟨o,ho,e,he,h1,h2⟩:=K4.1 h
  rw [hj]at ho;cases ho
  have h3:=hr e he h1
  rcases h2 with rfl | h2
  ·exact h3
  ·cases f with
   | zero=>rw [KZ]at h2;cases h2
   | succ f =>
    obtain⟨o',ho',_⟩:=K4.1 h2
    exact ih e.on o' ho' (fun e' qJ j8=>inv.closed e.on o' ho' h3 e' qJ j8) h2
theorem afs{n j i:Nat}{oj:Oper}{aZ:Array Bool}(hj:ops[j]? = some oj)(inv:HeadInv md ops n aZ)(hr:∀e∈oj.after,Region.binds md e=true→aZ.getD e.on false=true)(T3:aZ.getD i false=false):qE md ops.toList j i=false:=by
 cases hd:qE md ops.toList j i with
 | false=>rfl
 | true=>rw [K5 inv 12 j oj hj hr hd]at T3;cases T3
end
section
variable {E:Env} {ops:Array Oper} {md:Region.Mode}
def K6(E:Env)(md:Region.Mode)(ops:Array Oper)(c0 n:Nat)(L:Array Bool→ST→Prop):Nat→Array Bool→ST→Prop
 | 0,aZ,st=>L aZ st
 | f+1,aZ,st=>Region.ready md ops aZ ≠ [] ∧ ∀i∈Region.ready md ops aZ,i<n∧qOp E md ops c0 i (K6 E md ops c0 n L f (aZ.setIfInBounds i true)) st
theorem K7{c0 n i:Nat}{oi:Oper}{b:Bool}{v:PV}{u:Option (Nat × Row)}{L:Array Bool→ST→Prop}(hi:ops[i]? = some oi)(pK:∀i oi,i<n→ops[i]? = some oi→dO E oi.op=true→oi.dst.isSome=true)
  (BQ:∀aZ,HeadInv md ops n aZ → ∀i,i<n→aZ.getD i true=false → ∀t,n≤t→t ∉ Region.ready md ops aZ) (hin:i<n)
  (aqP:∀aZ st,L aZ st → ∀j∈Region.ready md ops aZ,n≤j) :
  ∀(f:Nat) (aZ:Array Bool) (st:ST),HeadInv md ops n aZ →
   (∀j oj,ops[j]? = some oj→j≠i→aZ.getD j true=false→(∀e∈oj.after,Region.binds md e=true→e.on≠i)→oi.apart ops oj=true) →
   i∈Region.ready md ops aZ→YG E md ops c0 i oi b v u st→K1 md ops.toList i u st.bP →
   K6 E md ops c0 n L f (aZ.setIfInBounds i true) (app i oi b v u st)→K6 E md ops c0 n L (f+1) aZ st:=by
 intro f
 induction f with
 | zero =>
  intro aZ st inv _ hr hy ho H
  have T3:=(mem_ready.1 hr).1
  refine⟨fun h=>(by rw [h]at hr;cases hr),fun j hj=>?_⟩
  have hjn:j<n:=by
   rcases Nat.lt_or_ge j n with h | h
   ·exact h
   ·exact absurd hj (BQ aZ inv i hin T3 j h)
  refine⟨hjn,?_⟩
  by_cases EF:j=i
  ·subst EF;unfold qOp;simp only [hi];exact⟨b,v,u,hy,ho,H⟩
  ·have:=aqP _ _ H j (ready_mono hj EF)
   omega
 | succ f ih =>
  intro aZ st inv ais hr hy ho H
  have T3:=(mem_ready.1 hr).1
  refine⟨fun h=>(by rw [h]at hr;cases hr),fun j hj=>?_⟩
  have hjn:j<n:=by
   rcases Nat.lt_or_ge j n with h | h
   ·exact h
   ·exact absurd hj (BQ aZ inv i hin T3 j h)
  refine⟨hjn,?_⟩
  by_cases EF:j=i
  ·subst EF;unfold qOp;simp only [hi];exact⟨b,v,u,hy,ho,H⟩
  ·have h1:=(H.2 j (ready_mono hj EF)).2
   obtain⟨aqR,oj,hoj,tW⟩:=mem_ready.1 hj
   have axb:∀e∈oj.after,Region.binds md e=true→e.on≠i:=fun e he hb heq=>by
    have h1:=tW e he hb
    rw [heq,getD_both T3]at h1
    cases h1
   have h2:=afq hoj (ais j oj hoj EF aqR axb) (pK i oi hin hi) (pK j oj hjn hoj) (afs hoj inv tW (getD_both T3)) hy ho h1
   have akV:∀k ok,ops[k]? = some ok→k≠i→(aZ.setIfInBounds j true).getD k true=false →
     (∀e∈ok.after,Region.binds md e=true→e.on≠i)→oi.apart ops ok=true:=fun k ok hk hki aqS hno=>by
    refine ais k ok hk hki ?_ hno
    by_cases hjk:j=k
    ·subst hjk;exact aqR
    ·rw [getD_set_ne true hjk]at aqS;exact aqS
   refine aa1 (fun T1 h3=>ih (aZ.setIfInBounds j true) T1 (inv.set hj hjn) akV (ready_mono hr (Ne.symm EF)) h3.1 h3.2.1 ?_) h2
   rw [Array.setIfInBounds_comm _ _ EF]
   exact h3.2.2
def akW(E:Env)(md:Region.Mode)(ops:Array Oper)(c0:Nat)(Lq:ST→Prop):Nat→List Oper→ST→Prop
 | _,[],st=>Lq st
 | k,o::os,st=>∃b v u,YG E md ops c0 k o b v u st∧K1 md ops.toList k u st.bP∧akW E md ops c0 Lq (k+1) os (app k o b v u st)
theorem r9{c0 n g:Nat}{Lq:ST→Prop}(pK:∀i oi,i<n→ops[i]? = some oi→dO E oi.op=true→oi.dst.isSome=true)(BQ:∀aZ,HeadInv md ops n aZ → ∀i,i<n→aZ.getD i true=false → ∀t,n≤t→t ∉ Region.ready md ops aZ) :
  ∀(l:List Oper) (k:Nat) (aZ:Array Bool) (st:ST),(∀j,j<l.length→l[j]? = ops[k+j]?)→k+l.length=n→HeadInv md ops n aZ →
  Region.lexHead md ops g l.length k aZ=true→akW E md ops c0 Lq k l st →
  K6 E md ops c0 n (fun T4 T1=>Region.seqB md ops g n T4=true∧Lq T1) l.length aZ st
 | [],k,aZ,st,_,hk,_,hB,h=>by
  have:k=n:=by simpa using hk
  subst this
  exact⟨by simpa [Region.lexHead]using hB,h⟩
 | o::l,k,aZ,st,hl,hk,inv,hB,h=>by
  have h0:ops[k]? = some o:=by simpa using(hl 0 (by simp)).symm
  simp only [List.length_cons,Region.lexHead,Bool.and_eq_true]at hB
  obtain⟨⟨hr,hf⟩,hB'⟩:=hB
  have hkn:k<n:=by simp only [List.length_cons]at hk;omega
  have j9:k∈Region.ready md ops aZ:=by simpa using hr
  obtain⟨b,v,u,hy,ho,hK⟩:=h
  exact K7 h0 pK BQ hkn (fun T4 T1 hL=>seqB_ready hL.1) l.length aZ st inv (Region.free_spec h0 hf) j9 hy ho
   (r9 pK BQ l (k+1) _ _ (fun j hj=>by have:=hl (j+1) (by simp;omega);simpa [Nat.add_assoc,Nat.add_comm 1 j]using this) (by simp only [List.length_cons]at hk;omega) (inv.set j9 hkn) hB' hK)
variable {w0:World} {S0:dX} {m:Nat} {G:Gs}
theorem P8{o:Oper}{a:Act}{w:World}{f:Nat→PV}{rows:Rows}{U:Nat→Prop}{c0:Nat}{v:PV}{u:Option (Nat × Row)}(kX:¬U c0){g:FuncId}{aGE:Array Operand}{ts:Array TypeId}(ho:o.op = .call { callee:=.value (.func g),args:=aGE,argTypes:=ts })
  (hy:aiq E g (aGE.toList.map fun x=>aO f x) c0 (o.dst.getD 0) v u) (hR:oT w0 S0 m G U f rows a w) (hd:∀t,o.dst=some t→t<m)
  {K':Act→World→Prop} {Q:Exit→Act→World→Prop} (hK:∀a' w',oT w0 S0 m G (fun v=>v=c0∨U v) (put f o.dst v) (eF rows u) a' w'→K' a' w'):o.wp E.P a w K' Q:=by
 obtain⟨⟨c,rfl,hr,gC,hI,hf,hG⟩,hn,fL⟩:=hR
 have hρ:=mH hf
 have hfu:¬c.used c0:=fun hu=>kX (gC _ hu)
 obtain⟨tG,e,n,els,⟨⟨fn,b,h1,h2,h3⟩,PZ⟩,rfl,rfl⟩:=hy
 obtain⟨dst,op,type,pos,after,guard⟩:=o
 simp only at ho hd hK
 subst ho
 have eQ:bB (aG c) (aGE.toList.map fun x=>aO f x) (aGE.map a.eval).toList:=by
  refine bB.cS (by simp) fun k p u hp hu=>?_
  simp at hp hu
  obtain⟨x,hx,rfl⟩:=hp
  obtain⟨y,hy,rfl⟩:=hu
  rw [hx]at hy;cases hy
  exact hρ x
 have fN:bO c.S c.w (aGE.toList.map fun x=>aO f x) (aGE.map a.eval).toList:=cM.2 (bB.cS eQ.length fun k p u hp hu=>by
  obtain⟨u',q1,q2⟩:=eQ.get hp
  rw [hu]at q1;cases q1
  exact q2.rep (List.all_eq_true.1 tG p (List.mem_of_getElem? hp)))
 have mE:=PZ c.w c.S _ (fun b o hb=>hI.lt hb) fN
 simp only [Array.toArray_toList]at mE
 have W1:=hρ (.func g)
 simp only [aO,aG,aJ,dC]at W1
 obtain⟨cs,hfv,ED⟩:=W1
 simp only [bO]at ED
 subst ED
 unfold Oper.wp
 have iU:(execOp a.eval { dst:=dst,op:=.call { callee:=.value (.func g),args:=aGE,argTypes:=ts },type:=type,pos:=pos,after:=after,guard:=guard }).run E.P c.w = .ok (.enter g (aGE.map a.eval)) c.w:=by
  simp only [execOp,resolve,hfv,Deferred.ofValue,Sem.run_bind,Sem.run_pure,Result.andThen_ok,invoke]
  simpa using kB h1 h2 h3 (aGE.map a.eval) c.w
 rw [iU]
 refine mE.mono ?_
 rintro x w' ⟨v',xs,S',rfl,hb,g1,g2,g3,g4,g5,g6,g7,g8⟩
 obtain⟨hI2,hA2⟩:=hI.grow hb g1 g2
 obtain⟨hI3,hA3⟩:=hI2.set (w':=w') (ob:=v'.ownBlock) (id:=dst.getD 0) (r':=⟨c0,e,n,els⟩) (v':=v') (xs:=xs) (World.grownBy.refl _ _)
  (fun g hg=>by
   have WT:=(g3.lt g hg).1
   refine⟨by have:=hI.below.size;omega,fun o=>g8 g o hg,fun i0 r hr _ j8=>?_⟩
   obtain⟨⟨ys,q1,_,_⟩,_⟩:=hI.row i0 r hr
   have:=(q1.lt g j8).2
   omega) ⟨g3.1,g3.2.imp id fun⟨g,cap,cur,q1,q2,q3⟩=>⟨g,cap,cur,q1,Nat.le_trans hI.below.size q2,q3⟩⟩ (g4.mono fun _ _ h=>aJ.jI h) g5 g6 g7 (fun g hg => .inl hg) hfu
 refine hK _ _ ?_
 have hf2:∀s,aG { c with S:=S',w:=w' } (f s) (a.tmps.getD s undef):=fun s=>aG.s9 hA2 _ _ (hf s)
 have hG2:∀p∈G,aG { c with S:=S',w:=w' } p.1 p.2:=fun p hp=>aG.s9 hA2 _ _ (hG p hp)
 refine qU hf2 hG2 hn fL hA3 hI3 ?_ hd rfl (by simp [eF,hr]) (fun v hv=>hv.imp (fun h=>h) (gC v))
 rcases g3.2 with ⟨rfl,h8⟩ | ⟨g,jL,cur,rfl,_⟩
 ·have:els.length=0:=h8
  rw [this]
  exact lW (r:=⟨c0,e,n,els⟩) (A:=none) (cap:=0) (by simp [dR]) (by simpa using h8) (Or.inl rfl) (by simp [dR])
 ·exact lW (r:=⟨c0,e,n,els⟩) (by simp [dR]) rfl (Or.inl rfl) (by simp [dR])
theorem aa4{o:Oper}{a:Act}{w:World}{f:Nat→PV}{rows:Rows}{U:Nat→Prop}{c0:Nat}{v:PV}{u:Option (Nat × Row)}(kX:¬U c0)(hn:dO E o.op=true)(hy:yn E c0 o.dst o.op (aO f) rows v u)(hR:oT w0 S0 m G U f rows a w)(hd:∀t,o.dst=some t→t<m)
  {K':Act→World→Prop} {Q:Exit→Act→World→Prop} (hK:∀a' w',oT w0 S0 m G (fun v=>v=c0∨U v) (put f o.dst v) (eF rows u) a' w'→K' a' w'):o.wp E.P a w K' Q:=by
 by_cases mE:∃g aGE ts,o.op = .call { callee:=.value (.func g),args:=aGE,argTypes:=ts }∧E.writes g=true
 ·obtain⟨g,aGE,ts,ho,hw⟩:=mE
  rw [ho]at hy
  simp only [yn]at hy
  rw [if_pos hw]at hy
  exact P8 kX ho hy hR hd hK
 refine vB (ver:=c0) kX (K:=fun _ f' rows'=>f'=put f o.dst v∧rows'=eF rows u) ?_ hR hd (fun i f' rows' a' w' h k8=>by
  obtain⟨rfl,rfl⟩:=h
  exact hK a' w' (k8.mono fun v hv=>hv.imp (fun h=>h.2) fun h=>h))
 obtain⟨dst,op,type,pos,after,guard⟩:=o
 simp only at hn hy mE ⊢
 refine nU hn ?_ ?_ ?_ ?_ ?_
 ·rintro t rfl
  simp only [yn]at hy
  obtain⟨h2,rfl,rfl⟩:=hy
  exact⟨h2,rfl,rfl⟩
 ·rintro t x rfl
  simp only [yn]at hy
  obtain⟨h2,l,h3,h4,h5,rfl,rfl⟩:=hy
  exact⟨h2,l,h3,fun q hq=>HR (fun id _ r hr=>by cases hr) (h4 q hq),h5,rfl,rfl⟩
 ·rintro t l cc rfl
  simp only [yn]at hy
  simp only [oH]
  split at hy
  ·rename_i e n b z k1 x k2 y hE hl hc
   obtain⟨g1,g2,g3,g4,rfl,rfl⟩:=hy
   try rw [hE,hl,hc]
   exact⟨g1,g2,g3,g4,rfl,rfl⟩
  ·exact hy.elim
 ·rintro x y t t2 rfl
  simp only [yn]at hy
  obtain⟨h2,hy⟩:=hy
  simp only [oH]
  refine⟨h2,?_⟩
  unfold tI at hy
  unfold oV
  split at hy
  ·rename_i e n b z hE
   obtain⟨l,g1,g2,g3⟩:=hy
   rw [hE]
   refine⟨l,g1,g2,?_⟩
   split at g3
   ·rename_i hx
    obtain⟨q1,q2,rfl,rfl⟩:=g3
    rw [hx]
    exact⟨q1,q2,rfl,rfl⟩
   ·rename_i id ver off len hx
    obtain⟨r,q1,q2,q3,q4,q5,q6,q7,q8,rfl,rfl⟩:=g3
    rw [hx]
    exact⟨r,q1,q2,q3,q4,q5,q6,q7,q8,rfl,rfl⟩
   ·rename_i l0 hx
    obtain⟨q1,q2,q3,q4,rfl,rfl⟩:=g3
    rw [hx]
    exact⟨q1,q2,q3,q4,rfl,rfl⟩
   ·exact g3.elim
  ·exact hy.elim
 ·rintro g aGE ts rfl hw
  exact absurd ⟨g,aGE,ts,rfl,hw⟩ mE
theorem W8{c0 i:Nat}{st:ST}{K:ST→Prop}{U:Nat→Prop}(kX:∀o,ops[i]? = some o→dO E o.op=true→¬U (c0+rk E ops.toList i))(h:qOp E md ops c0 i K st){a:Act}{w:World}(hR:oT w0 S0 m G U st.f st.rows a w)(hd:∀o,o∈ops → ∀t,o.dst=some t→t<m)
  {K':Act→World→Prop} {Q:Exit→Act→World→Prop} (hK:∀T1 a' w',K T1→oT w0 S0 m G (fun v=>(v=c0+rk E ops.toList i ∧ ∃o,ops[i]? = some o∧dO E o.op=true)∨U v) T1.f T1.rows a' w'→K' a' w'):wpOp E.P ops Q i K' a w:=by
 unfold qOp at h
 unfold wpOp
 split at h
 ·rename_i hi;simp only [hi];exact hK _ _ _ h (hR.mono fun v hv => .inr hv)
 ·rename_i o hi
  simp only [hi]
  obtain⟨b,v,u,⟨hg,hy⟩,ho,hk⟩:=h
  have k8:=hR
  obtain⟨⟨c,rfl,hr,gC,hI,hf,hG⟩,hn,fL⟩:=hR
  have hdo:=hd o (Array.mem_of_getElem? hi)
  have ait:Region.wanted o (yielded ops a.tmps)=b:=by
   unfold gOK at hg
   unfold Region.wanted
   cases hgd:o.guard with
   | none=>rw [hgd]at hg;simp only at hg ⊢;exact hg.symm
   | some x =>
    obtain⟨j,want⟩:=x
    rw [hgd]at hg
    simp only at hg ⊢
    obtain⟨d,h1,h2⟩:=hg
    have hx:=hf d
    rcases h2 with ⟨h2,h3⟩ | ⟨h2 | h2,h3⟩
    ·rw [h2]at hx
     rw [iN h1 hx,h3]
     cases want<;>rfl
    ·rw [h2]at hx
     rw [iN h1 hx,h3]
     cases want<;>rfl
    ·rw [h2]at hx
     rw [tV h1 hx,h3]
     rfl
  by_cases hb:b=true
  ·subst hb
   rw [if_pos rfl]at hy
   rw [ait,if_pos rfl]
   left
   cases pK:dO E o.op with
   | true =>
    refine aa4 (kX o hi pK) pK (TY (fun id _ r j9=>(lE.1 j9).2) hy).1 k8 hdo fun a' w' hR2=>hK _ _ _ hk ?_
    exact hR2.mono fun v hv=>hv.imp (fun h=>⟨h,o,by first | exact hi | rfl,pK⟩) fun h=>h
   | false =>
    rw [BM pK]at hy
    have xA:ys E o.op (aO st.f) c.rows v u:=by
     rw [hr]
     exact(aip (fun id _ r j9=>(lE.1 j9).2) hy).1
    refine KY hI hf xA fun v' c' h1 h2 h3 h4 h5=>hK _ _ _ hk ?_
    refine WX hf hG hn fL h3 h4 h5 hdo rfl ?_ ?_
    ·simp only [app]
     rw [h1,hr]
    ·rw [h2]
     exact fun v hv => .inr (gC v hv)
  ·rw [if_neg hb]at hy
   obtain⟨rfl,rfl⟩:=hy
   rw [ait,if_neg hb]
   refine hK _ _ _ hk ?_
   have j8:b=false:=by simpa using hb
   subst j8
   exact qU hf hG hn fL (sX.refl c) hI P7 hdo rfl (by rw [hr];rfl) (fun v hv => .inr (gC v hv))
def Ul(E:Env)(ops:Array Oper)(c0 n:Nat)(aZ:Array Bool):Nat→Prop:=fun v=>v<c0 ∨ ∃k o,k<n∧ops[k]? = some o∧dO E o.op=true∧v=c0+rk E ops.toList k∧aZ.getD k false=true
theorem P9{c0 n v:Nat}{aZ:Array Bool}(h:Ul E ops c0 n aZ v):v<c0+rk E ops.toList n:=by
 rcases h with h | ⟨k,o,hk,ho,hn,rfl,_⟩
 ·omega
 ·have:=aaX (ops:=ops.toList) (by simpa using ho) hn hk
  omega
theorem lP{c0 n g:Nat}{L:Array Bool→ST→Prop}{Q:Exit→Act→World→Prop}(hd:∀o,o∈ops → ∀t,o.dst=some t→t<m)
  (hL:∀aZ (st:ST) a w,L aZ st→oT w0 S0 m G (Ul E ops c0 n aZ) st.f st.rows a w→wpAny E.P md ops Q g aZ a w) :
  ∀(f:Nat) (aZ:Array Bool) (st:ST) (a:Act) (w:World),n≤aZ.size→K6 E md ops c0 n L f aZ st→oT w0 S0 m G (Ul E ops c0 n aZ) st.f st.rows a w→wpAny E.P md ops Q (f+g) aZ a w
 | 0,aZ,st,a,w,_,h,hR=>by rw [Nat.zero_add];exact hL _ _ _ _ h hR
 | f+1,aZ,st,a,w,pG,h,hR=>by
  rw [show f+1+g=(f+g)+1 by omega]
  refine⟨fun h0=>absurd h0 h.1,fun i hi=>?_⟩
  have T3:=(mem_ready.1 hi).1
  obtain⟨hin,hq⟩:=h.2 i hi
  refine W8 (fun o ho hn hU=>?_) hq hR hd fun T1 a' w' h' k8=>lP hd hL f _ T1 a' w' (by simpa using pG) h' (k8.mono fun v hv=>?_)
  ·rcases hU with hU | ⟨k,o',hk,ho',BL,he,hl⟩
   ·omega
   ·have:=akR (ops:=ops.toList) (by simpa using ho) hn (by simpa using ho') BL (by omega)
    subst this
    rw [getD_both T3]at hl;cases hl
  ·rcases hv with ⟨rfl,o,ho,hn⟩ | hv
   ·exact .inr ⟨i,o,hin,ho,hn,rfl,by simp [show i<aZ.size by omega]⟩
   ·rcases hv with hv | ⟨k,o,hk,ho,hn,he,hl⟩
    ·exact .inl hv
    ·refine .inr ⟨k,o,hk,ho,hn,he,?_⟩
     by_cases hki:i=k
     ·subst hki;simp [show i<aZ.size by omega]
     ·simpa [Array.getElem?_setIfInBounds_ne hki]using hl
end
def aL(E:Env)(ops:List Oper):List Oper→(PS→Prop)→PS→Prop
 | [],K,σ=>K σ
 | o::os,K,σ =>
  match o.guard with
  | none=>eZ E o (aL E ops os K) σ
  | some (j,want) =>
   match (ops[j]?).bind (·.dst)with
   | none=>False
   | some d=>(σ.f d = .bool want∧eZ E o (aL E ops os K) σ)∨((σ.f d = .bool (!want)∨σ.f d = .dU [])∧aL E ops os K (σ.put o.dst (.dU [])))
def aM(E:Env)(ops:List Oper)(clk:Nat):Nat→List Oper→(PS→Prop)→ST→Prop
 | _,[],K,st=>K ⟨st.f,st.rows,clk⟩
 | k,o::os,K,st =>
  match o.guard with
  | none=>∃v u,yn E clk o.dst o.op (aO st.f) (eC .any ops k st.wl st.rows) v u∧K1 .any ops k u st.bP∧aM E ops (iW E o.op clk) (k+1) os K (app k o true v u st)
  | some (j,want) =>
   match (ops[j]?).bind (·.dst)with
   | none=>False
   | some d=>(st.f d = .bool want ∧ ∃v u,yn E clk o.dst o.op (aO st.f) (eC .any ops k st.wl st.rows) v u∧K1 .any ops k u st.bP∧aM E ops (iW E o.op clk) (k+1) os K (app k o true v u st))∨((st.f d = .bool (!want)∨st.f d = .dU [])∧aM E ops clk (k+1) os K (app k o false (.dU []) none st))
def gS(E:Env)(tl:Nat)(ops:List Oper)(K:PS→Prop)(σ:PS):Prop:=
 if tl=0 then aM E ops σ.clock 0 ops K ⟨σ.f,σ.rows,fun _ _=>False,fun _ _=>False⟩
 else aM E ops σ.clock 0 (ops.take (ops.length-tl)) (aL E ops (ops.drop (ops.length-tl)) K) ⟨σ.f,σ.rows,fun _ _=>False,fun _ _=>False⟩
inductive PX where
 | normal
 | exit (id:Nat)
 | ret
def EJ(K:PS→Prop)(Q:PX→PS→Prop):PX→PS→Prop
 | .normal,σ=>K σ
 | .exit id,σ=>Q (.exit id) σ
 | .ret,σ=>Q .ret σ
def EK(id:Nat)(Q:PX→PS→Prop):PX→PS→Prop
 | .normal,σ=>Q .normal σ
 | .exit j,σ=>if j=id then Q .normal σ else Q (.exit j) σ
 | .ret,σ=>Q .ret σ
def qW(E:Env)(n tl:Nat)(ops:Array Oper)(draw:Bool):Bool:=
 (ops.all fun o=>match o.dst with | some d=>decide (d<n) | none=>true) &&
 (!draw || (tU E (if tl=0 then ops.toList else ops.toList.take (ops.size-tl))&&(if tl=0 then Region.noSelect ops&&Region.lexHead .any ops 0 ops.size 0 (Array.replicate ops.size false)else decide (tl≤ops.size)&&Region.lexTailB .any ops (ops.size-tl))))
def eV(E:Env)(n:Nat)(tl:Nat→Nat):Code→Bool
 | .region id ops draw=>qW E n (tl id) ops draw
 | .seq a b=>eV E n tl a&&eV E n tl b
 | .cond _ t e=>eV E n tl t&&eV E n tl e
 | .block _ c=>eV E n tl c
 | .loop c=>eV E n tl c
 | _=>true
section
variable {E:Env} {w0:World} {S0:dX} {n:Nat} {G:Gs}
theorem iC{ops:Array Oper}{K:PS→Prop}{Q:Exit→Act→World→Prop}(hK:∀σ' a' w',K σ'→Rel w0 S0 n G σ' a' w'→Q .normal a' w') :
  ∀(l:List Oper) (σ:PS) (a:Act) (w:World),(∀o∈l,∀t,o.dst=some t→t<n)→aL E ops.toList l K σ→Rel w0 S0 n G σ a w→wpList E.P ops Q l a w
 | [],σ,a,w,_,h,hR=>hK _ _ _ h hR
 | o::os,σ,a,w,hd,h,hR=>by
  have hdo:=hd o (by simp)
  have hds:∀o∈os,∀t,o.dst=some t→t<n:=fun o ho=>hd o (by simp [ho])
  have wanted:∀ {σ},eZ E o (aL E ops.toList os K) σ→Rel w0 S0 n G σ a w→o.wp E.P a w (wpList E.P ops Q os) Q:=fun hp hR =>
   yK hp hR hdo fun σ' a' w' hk k8=>iC hK os σ' a' w' hds hk k8
  unfold wpList
  simp only [aL]at h
  split at h
  ·rename_i hg
   rw [if_pos (by simp [Region.wanted,hg])]
   exact .inl (wanted h hR)
  ·rename_i j want hg
   split at h
   ·exact h.elim
   ·rename_i d QB
    have hd3:(ops[j]?).bind (·.dst)=some d:=by simpa using QB
    have skip:yielded ops a.tmps j≠some want→aL E ops.toList os K (σ.put o.dst (.dU []))→(if Region.wanted o (yielded ops a.tmps)=true then o.wp E.P a w (wpList E.P ops Q os) Q∨(o.asks E.P a w∧LetsOut Q)else wpList E.P ops Q os (a.put o.dst undef) w):=by
     intro hy h2
     rw [if_neg (by simpa [Region.wanted,hg]using hy)]
     refine iC hK os _ _ w hds h2 ?_
     obtain⟨⟨c,rfl,hr,gC,hI,hf,hG⟩,hn,fL⟩:=hR
     exact r7 hf hG hn fL (sX.refl c) hI P7 hdo rfl (by simp [PS.put,hr]) gC
    obtain⟨c,_,_,_,_,hf,_⟩:=hR.ex
    have hx:=hf d
    rcases h with ⟨h1,h2⟩ | ⟨h1 | h1,h2⟩
    ·rw [h1]at hx
     rw [if_pos (by simp [Region.wanted,hg,iN hd3 hx])]
     exact .inl (wanted h2 hR)
    ·rw [h1]at hx
     exact skip (by rw [iN hd3 hx];cases want<;>simp) h2
    ·rw [h1]at hx
     exact skip (by rw [tV hd3 hx];simp) h2
theorem oX{ops:Array Oper}{c0:Nat}{K:PS→Prop}:∀(l:List Oper) (k clk:Nat) (st:ST),(∀j,j<l.length→l[j]? = ops[k+j]?)→tU E l=true→clk=c0+rk E ops.toList k→aM E ops.toList clk k l K st→akW E .any ops c0 (fun st=>K ⟨st.f,st.rows,c0+rk E ops.toList (k+l.length)⟩) k l st
 | [],k,clk,st,_,_,hc,h=>by subst hc;exact h
 | o::os,k,clk,st,hl,K8,hc,h=>by
  have akY:tU E os=true:=by simp only [tU,List.all_cons,Bool.and_eq_true]at K8 ⊢;exact K8.2
  have axe:o.guard≠none→dO E o.op=false:=fun hg=>by
   simp only [tU,List.all_cons,Bool.and_eq_true]at K8
   cases hn:dO E o.op with
   | false=>rfl
   | true=>have:=K8.1;rw [hn]at this;simp at this;exact absurd this.2 hg
  have h0:ops[k]? = some o:=by simpa using(hl 0 (by simp)).symm
  have uW:iW E o.op clk=c0+rk E ops.toList (k+1):=by rw [hc];exact afp (by simpa using h0)
  have hl1:∀j,j<os.length→os[j]? = ops[k+1+j]? := fun j hj=>by have:=hl (j+1) (by simp;omega);simpa [Nat.add_assoc,Nat.add_comm 1 j]using this
  have e1:k+(o::os).length=k+1+os.length:=by simp only [List.length_cons];omega
  rw [e1]
  simp only [aM]at h
  split at h
  ·rename_i hg
   obtain⟨v,u,h1,h2,h3⟩:=h
   exact⟨true,v,u,⟨by simp [gOK,hg],by rw [if_pos rfl,←hc];exact h1⟩,h2,oX os _ _ _ hl1 akY uW h3⟩
  ·rename_i j want hg
   split at h
   ·exact h.elim
   ·rename_i d QB
    have hd3:(ops[j]?).bind (·.dst)=some d:=by simpa using QB
    rcases h with ⟨h1,v,u,q1,q2,q3⟩ | ⟨h1,h2⟩
    ·exact⟨true,v,u,⟨by simp only [gOK,hg];exact⟨d,hd3, .inl ⟨h1,trivial⟩⟩,by rw [if_pos rfl,←hc];exact q1⟩,q2,oX os _ _ _ hl1 akY uW q3⟩
    ·exact⟨false, .dU [],none,⟨by simp only [gOK,hg];exact⟨d,hd3, .inr ⟨h1,trivial⟩⟩,by simp⟩,trivial,oX os _ _ _ hl1 akY (by rw [←uW,BN (axe (by rw [hg];simp))]) h2⟩
theorem Rel.drew{σ:PS}{a:Act}{w:World}(h:Rel w0 S0 n G σ a w):Rel w0 S0 n G σ a { w with drawn:=w.drawn+1 }:=by
 obtain⟨⟨c,rfl,hr,gC,hI,hf,hG⟩,hn,fL⟩:=h
 obtain⟨pL,hA⟩:=hI.grow (w':={ c.w with drawn:=c.w.drawn+1 }) (S':=c.S) ⟨rfl,rfl,rfl,Nat.le_refl _,fun _ _=>rfl⟩ (fun _ _ h=>h) (fun _ _ h => .inl h)
 exact⟨⟨{ c with w:={ c.w with drawn:=c.w.drawn+1 } },rfl,hr,gC,pL,fun s=>aG.s9 hA _ _ (hf s),fun p hp=>aG.s9 hA _ _ (hG p hp)⟩,hn,fL⟩
theorem tJ{id tl:Nat}{ops:Array Oper}{K:PS→Prop}{Q:Exit→Act→World→Prop}(gO:qW E n tl ops true=true){σ:PS}{a:Act}{w:World}(h:gS E tl ops.toList K σ)(hR:Rel w0 S0 n G σ a w)
  (hK:∀σ' a' w',K σ'→Rel w0 S0 n G σ' a' w'→Q .normal a' w'):(Code.region id ops true).wp E.P Q a w:=by
 simp only [qW,Bool.and_eq_true,Bool.not_true,Bool.false_or]at gO
 obtain⟨akZ,tK,gO⟩:=gO
 have hd:∀o,o∈ops → ∀t,o.dst=some t→t<n:=by
  intro o ho t ht
  have:=Array.all_eq_true_iff_forall_mem.1 akZ o ho
  simpa [ht]using this
 refine wp_region_any E.mixed ?_
 have HT:=hR.drew
 have hU0:∀k (l:Array Bool),oT w0 S0 n G (Ul E ops σ.clock k l) σ.f σ.rows a { w with drawn:=w.drawn+1 }:=fun k l=>HT.mono fun v hv => .inl hv
 have afw:∀(l:List Oper),tU E l=true → ∀(i:Nat) (oi:Oper),l[i]? = some oi→dO E oi.op=true→oi.dst.isSome=true:=fun l h i oi hi hn=>by
  have:=List.all_eq_true.1 h oi (List.mem_of_getElem? hi)
  rw [hn]at this;simp at this;exact Option.isSome_iff_exists.2 (by obtain⟨x,hx⟩:=Option.isSome_iff_exists.1 this.1;exact⟨x,hx⟩)
 unfold gS at h
 by_cases htl:tl=0
 ·rw [if_pos htl]at h gO tK
  have pK:∀i oi,i<ops.size→ops[i]? = some oi→dO E oi.op=true→oi.dst.isSome=true:=fun i oi _ hi=>afw _ tK i oi (by simpa using hi)
  simp only [Bool.and_eq_true]at gO
  have hl:=oX (c0:=σ.clock) ops.toList 0 _ _ (by simp) tK (by simp [rk]) h
  have aa5:HeadInv .any ops ops.size (Array.replicate ops.size false):=
   ⟨by simp,fun j oj _ hl=>(by rw [getD_replicate_false]at hl;cases hl),fun t h1 h2=>by omega⟩
  have BQ:∀aZ,HeadInv .any ops ops.size aZ → ∀i,i<ops.size→aZ.getD i true=false → ∀t,ops.size≤t→t ∉ Region.ready .any ops aZ:=by
   intro aZ _ i _ _ t ht hr
   obtain⟨_,o,ho,_⟩:=mem_ready.1 hr
   have:=(Array.getElem?_eq_some_iff.1 ho).1
   omega
  have H:=r9 (E:=E) (md:=.any) (g:=0) pK BQ ops.toList 0 _ _ (by simp) (by simp) aa5 (by simpa using gO.2) hl
  have:=lP (E:=E) (md:=.any) (g:=0) (Q:=Q) (m:=n) hd (fun aZ st a' w' hL k8=>by
   obtain⟨h1,h2⟩:=hL
   exact⟨by simpa [Region.seqB]using h1,hK _ _ _ h2 (k8.mono fun v hv=>by have:=P9 hv;simpa using this)⟩) _ _ _ _ _ (by simp) H (hU0 _ _)
  simpa using this
 ·rw [if_neg htl]at h gO tK
  have pK:∀i oi,i<ops.size-tl→ops[i]? = some oi→dO E oi.op=true→oi.dst.isSome=true:=fun i oi h1 hi=>afw _ tK i oi (by rw [List.getElem?_take,if_pos h1];simpa using hi)
  simp only [Bool.and_eq_true,decide_eq_true_eq]at gO
  obtain⟨hle,hB⟩:=gO
  simp only [Region.lexTailB,Bool.and_eq_true,decide_eq_true_eq]at hB
  obtain⟨⟨⟨⟨axf,BL⟩,hs⟩,hc⟩,ak0⟩:=hB
  have hlen:ops.toList.length=ops.size:=by simp
  rw [hlen]at h
  have hl:=oX (c0:=σ.clock) (ops.toList.take (ops.size-tl)) 0 _ _ (fun j hj=>by
   have hj':j<ops.size-tl:=by simpa using hj
   simp [hj']) tK (by simp [rk]) h
  have aa5:HeadInv .any ops (ops.size-tl) (Array.replicate ops.size false):=
   ⟨by simp,fun j oj _ hl=>(by rw [getD_replicate_false]at hl;cases hl),fun t _ ht=>getD_in (by simpa using ht) (getD_replicate_false _ _)⟩
  have wZ:(ops.toList.take (ops.size-tl)).length=ops.size-tl:=by simp
  have hdl:(ops.toList.drop (ops.size-tl)).length=ops.size-(ops.size-tl):=by simp
  have H:=r9 (E:=E) (md:=.any) (n:=ops.size-tl) (g:=ops.size-(ops.size-tl)) pK (fun aZ inv i hi T3 t ht=>tail_waits hs hc BL inv _ i rfl hi T3 t ht) (ops.toList.take (ops.size-tl)) 0 _ _ (fun j hj=>by
   rw [wZ]at hj
   simp [hj]) (by rw [wZ];simp) aa5 (by rw [wZ];exact ak0) hl
  have:=lP (E:=E) (md:=.any) (g:=ops.size-(ops.size-tl)) (Q:=Q) (m:=n) hd (fun aZ st a' w' hL k8=>by
   obtain⟨h1,h2⟩:=hL
   have h3:=iC (ops:=ops) (Q:=Q) hK (ops.toList.drop (ops.size-tl)) _ a' w' (fun o ho=>hd o (by simpa using List.mem_of_mem_drop ho)) h2 (k8.mono fun v hv=>by have:=P9 hv;simpa using this)
   have h4:=wpAny_of_seq (md:=.any) (Q':=Q) (ops.toList.drop (ops.size-tl)) (ops.size-tl) aZ a' w' (fun j=>by simp [List.getElem?_drop]) (by rw [hdl];exact h1) h3
   rwa [hdl]at h4) _ _ _ _ _ (by simp) H (hU0 _ _)
  rw [wZ,show ops.size-tl+(ops.size-(ops.size-tl))=ops.size by omega]at this
  exact this
def ak1:PX→Exit
 | .normal => .normal
 | .exit id => .exit id
 | .ret => .ret
end
def mX(E:Env)(σ:PS):List ResultVar→(List PV→Prop)→Prop
 | [],K=>K []
 | .tmp t::rs,K=>mX E σ rs fun vs=>K (σ.f t::vs)
 | .cell a t::rs,K=>∃v,tA E t σ.rows (σ.f a) v∧mX E σ rs fun vs=>K (v::vs)
def vC:List PV→PV
 | [x]=>x
 | l => .dU l
def aa7(E:Env)(rs:List ResultVar)(r:PV)(σ:PS):Prop:=
 mX E σ rs fun vs=>eS σ.rows (vs.flatMap dQ)∧(vs.map (pz σ.rows)).all dB=true∧r=vC (vs.map (pz σ.rows))
def aa8(E:Env)(rs:List ResultVar)(r:PV):PX→PS→Prop
 | .normal,σ=>aa7 E rs r σ
 | .ret,σ=>aa7 E rs r σ
 | .exit _,_=>False
def FH(args:List PV):PS:=⟨fun s=>args.getD s .undef,fun _=>none,0⟩
section
variable {E:Env} {w0:World} {S0:dX} {c:Cx}
theorem sA(hI:Inv w0 S0 c){clk:Nat}{a:Act}{f:Nat→PV}(hf:∀s,aG c (f s) (a.tmps.getD s undef)){g:ResultVar→Sem Value}(hg1:∀t,g (.tmp t)=pure (a.tmps.getD t undef))
  (qT:∀x t,g (.cell x t)=do loadVar t (←asAddr (a.tmps.getD x undef))):∀(rs:List ResultVar) (K:List PV→Prop),mX E ⟨f,c.rows,clk⟩ rs K →
  ∃vs us,K vs∧bB (aG c) vs us∧(rs.mapM g:Sem (List Value)).run E.P c.w = .ok us c.w
 | [],K,h=>⟨[],[],h,trivial,by simp⟩
 | .tmp t::rs,K,h=>by
  obtain⟨vs,us,h1,h2,h3⟩:=sA hI hf hg1 qT rs _ h
  exact⟨f t::vs,a.tmps.getD t undef::us,h1,⟨hf t,h2⟩,by
   rw [List.mapM_cons,hg1,Sem.run_bind,Sem.run_pure,Result.andThen_ok,Sem.run_bind,h3,Result.andThen_ok,Sem.run_pure]⟩
 | .cell x t::rs,K,h=>by
  obtain⟨v,hv,h⟩:=h
  obtain⟨vs,us,h1,h2,h3⟩:=sA hI hf hg1 qT rs _ h
  obtain⟨u,hu,hr⟩:=E5 hI (hf x) hv
  refine⟨v::vs,u::us,h1,⟨hr,h2⟩,?_⟩
  have WS:(do loadVar t (←asAddr (a.tmps.getD x undef)):Sem Value).run E.P c.w = .ok u c.w:=by
   simp only [Instr.loadAt,Sem.run_bind]at hu ⊢
   cases hx:a.tmps.getD x undef with
   | pointer p =>
    cases p with
    | some ad=>rw [hx]at hu;simpa [Instr.sureAddr,asAddr]using hu
    | none=>rw [hx]at hu;simp [Instr.sureAddr,stuck,Result.andThen]at hu
   | _=>rw [hx]at hu;simp [Instr.sureAddr,stuck,Result.andThen]at hu
  rw [List.mapM_cons,qT]
  simp only [Sem.run_bind]at WS ⊢
  rw [WS,Result.andThen_ok,h3,Result.andThen_ok,Sem.run_pure]
theorem QC{yM:FuncId}{fn:Func}{code:Code}{args:List PV}{r:PV}(h1:E.P.funcs[yM]? = some fn)(h2:fn.body=some code) (h3:(fn.name == "runtime.NumGoroutine") = false) (eQ:args.length≤fn.ntmps)
  (h:∀(w0:World) (S0:dX) (a:Act) (w:World) (Q':Exit→Act→World→Prop),Rel w0 S0 fn.ntmps Gs.none (FH args) a w→(∀x σ' a' w',aa8 E fn.results.toList r x σ'→Rel w0 S0 fn.ntmps Gs.none σ' a' w'→Q' (ak1 x) a' w')→code.wp E.P Q' a w):aF E.P yM args r:=by
 refine⟨⟨fn,code,h1,h2,h3⟩,fun w S vs hS fN=>?_⟩
 have BF:=cM.1 fN
 refine calls_of_wp h1 h2 ?_
 have KO:vs.length=args.length:=BF.length.symm
 let c0:Cx:=⟨S,w,fun _ => .slice none 0 0,fun _=>none,fun _=>False⟩
 have hI0:Inv w S c0:=⟨Below.refl _ _,fun _ _ h=>h,fun _ _ h => .inl h,hS,fun _ _ h=>by simp [c0]at h,fun _ _ h=>by simp [c0]at h,fun _ _ _ _ _ h=>by simp [c0]at h,⟨0,fun _ h=>h.elim⟩⟩
 have HT:Rel w S fn.ntmps Gs.none (FH args) { tmps:=vs.toArray++Array.replicate (fn.ntmps-vs.toArray.size) undef,defers:=[] } w:=by
  refine⟨⟨c0,rfl,rfl,fun _ h=>h.elim,hI0,fun s=>?_,fun p hp=>(Gs.KP hp).elim⟩,by simp;omega,rfl⟩
  simp only [FH]
  by_cases hs:s<args.length
  ·obtain⟨u,hu,hr⟩:=BF.get (List.getElem?_eq_getElem hs)
   have e1:args.getD s .undef=args[s]:=by simp [List.getD,List.getElem?_eq_getElem hs]
   have e2:(vs.toArray++Array.replicate (fn.ntmps-vs.toArray.size) undef).getD s undef=u:=by
    have:s<vs.length:=by omega
    simp [this]at hu ⊢
    simp [Array.getElem?_append,this,hu]
   rw [e1]
   show aG c0 args[s] ((vs.toArray++Array.replicate (fn.ntmps-vs.toArray.size) undef).getD s undef)
   rw [e2]
   exact aG.jI hr
  ·have e1:args.getD s .undef = .undef:=by simp [List.getD,List.getElem?_eq_none (show args.length≤s by omega)]
   rw [e1]
   simp [aG,aJ]
 refine h _ _ _ _ _ HT ?_
 have fin:∀σ' a' w',aa7 E fn.results.toList r σ'→Rel w S fn.ntmps Gs.none σ' a' w'→a'.defers = [] ∧ ∃v,(results fn a'.tmps).run E.P w' = .ok v w'∧(∃v',Ending.returned v = .returned v'∧Below w.heap.size w w' ∧
   ∃S':dX,(∀b o,S b o→S' b o)∧(∀b o,S' b o→S b o∨(w.heap.size≤b∧b<w'.heap.size))∧dC S' w' r v'):=by
  rintro σ' a' w' hp ⟨⟨c,rfl,hr,gC,hI,hf,_⟩,hn,fL⟩
  refine⟨fL,?_⟩
  unfold aa7 at hp
  have wY:mX E ⟨σ'.f,c.rows,σ'.clock⟩ fn.results.toList fun vs=>eS c.rows (vs.flatMap dQ)∧(vs.map (pz c.rows)).all dB=true∧r=vC (vs.map (pz c.rows)):=by
   rw [hr];exact hp
  have aqV:∃vs us,(eS c.rows (vs.flatMap dQ)∧(vs.map (pz c.rows)).all dB=true∧r=vC (vs.map (pz c.rows)))∧bB (aG c) vs us ∧
    (results fn a'.tmps).run E.P c.w = .ok (if h:us.toArray.size=1 then us.toArray[0]else .tuple us.toArray) c.w:=by
   have key:∀g:ResultVar→Sem Value,(∀t,g (.tmp t)=pure (a'.tmps.getD t undef))→(∀x t,g (.cell x t)=do loadVar t (←asAddr (a'.tmps.getD x undef))) →
     ∃vs us,(eS c.rows (vs.flatMap dQ)∧(vs.map (pz c.rows)).all dB=true∧r=vC (vs.map (pz c.rows)))∧bB (aG c) vs us ∧
      (do let vs ←fn.results.mapM g;pure (if h:vs.size=1 then vs[0]else .tuple vs):Sem Value).run E.P c.w = .ok (if h:us.toArray.size=1 then us.toArray[0]else .tuple us.toArray) c.w:=by
    intro g hg1 qT
    obtain⟨vs,us,g1,g4,g5⟩:=sA hI hf hg1 qT _ _ wY
    refine⟨vs,us,g1,g4,?_⟩
    have:(fn.results.mapM g).run E.P c.w = .ok us.toArray c.w:=by
     rw [Array.mapM_eq_mapM_toList]
     simp [g5]
    rw [Sem.run_bind,this,Result.andThen_ok,Sem.run_pure]
   unfold results
   exact key _ (fun _=>rfl) (fun _ _=>rfl)
  obtain⟨vs,us,⟨g1,g2,g3⟩,g4,iU⟩:=aqV
  have KE:=hI.freeze (vs.flatMap dQ)
  have tW:bB (dC (PT c (vs.flatMap dQ)) c.w) (vs.map (pz c.rows)) us:=by
   refine bB.cS (by simp [g4.length]) fun k p u hp hu=>?_
   simp at hp
   obtain⟨q,hq,rfl⟩:=hp
   obtain⟨u',q1,q2⟩:=g4.get hq
   rw [hu]at q1;cases q1
   exact HK hI g1 q2 (fun id gD=>by simp only [List.mem_flatMap];exact⟨q,List.mem_of_getElem? hq,gD⟩) (List.all_eq_true.1 g2 _ (by simp;exact⟨q,List.mem_of_getElem? hq,rfl⟩))
  refine⟨_,iU,_,rfl,hI.below,PT c (vs.flatMap dQ),fun b o h=>KE.ext b o h,fun b o h=>KE.new b o h,?_⟩
  rw [g3]
  have hl:=tW.length
  cases hm:vs.map (pz c.rows)with
  | nil =>
   rw [hm]at tW hl
   have:us = []:=List.eq_nil_of_length_eq_zero (by simpa using hl.symm)
   subst this
   simp only [vC,dC]
   exact⟨[],by simp,by simp [bO]⟩
  | cons p ps =>
   rw [hm]at tW hl
   match us,tW with
   | u::us,tW =>
    cases ps with
    | nil =>
     match us,tW with
     | [],tW=>simpa [vC]using tW.1
    | cons q qs =>
     have h2:¬(u::us).toArray.size=1:=by simp at hl ⊢;intro h;subst h;simp at hl
     rw [dif_neg h2]
     simp only [vC,dC]
     exact⟨_,rfl,cM.2 tW⟩
 intro x σ' a' w' hx k8
 cases x with
 | normal=>exact fin σ' a' w' hx k8
 | ret=>exact fin σ' a' w' hx k8
 | exit id=>exact hx.elim
end
section
variable {P:Program} {t:TypeId}
theorem aD{n:Nat}{v:Value}{z:List PV}(h:(P.info? t).bind (fun i=>i.zero.map fun v=>(i.size,v))=some (n,v))(hz:v.cells.toList.map jJ=z)(h1:v.cells.all (·.oneCell')=true)(hl:z.length=n)(hp:0<n):l9 P t n z:=by
 refine⟨?_,hl,hp⟩
 cases hi:P.info? t with
 | none=>simp [hi]at h
 | some i =>
  cases nT:i.zero with
  | none=>simp [hi,nT]at h
  | some v0 =>
   simp [hi,nT]at h
   obtain⟨rfl,rfl⟩:=h
   exact⟨i,v0,rfl,nT,rfl,hz,h1⟩
theorem bY{b:Nat}(h:(P.info? t).map (·.bytes)=some b):∃i,P.info? t=some i∧i.bytes=b:=by
 cases hi:P.info? t with
 | none=>simp [hi]at h
 | some i=>exact⟨i,rfl,by simpa [hi]using h⟩
theorem FI{n:Nat}(h:(P.info? t).map (·.size)=some n):∃i,P.info? t=some i∧i.size=n:=by
 cases hi:P.info? t with
 | none=>simp [hi]at h
 | some i=>exact⟨i,rfl,by simpa [hi]using h⟩
theorem aba(h:(P.underlying t).isSome=true):∃d,P.underlying t=some d:=Option.isSome_iff_exists.1 h
def QD(P:Program)(f:Field)(x:Nat × Nat × Bool):Bool:=
 f.offset==x.1&&(P.info? f.type).map (·.size)==some x.2.1&&decide (0<x.2.1)&&w7 P f.type==x.2.2&&(P.underlying f.type).isSome
def sB(P:Program):List Field→List (Nat × Nat × Bool)→Bool
 | [],[]=>true
 | f::fs,x::xs=>QD P f x&&sB P fs xs
 | _,_=>false
theorem W9{f:Field}{x:Nat × Nat × Bool}(h:QD P f x=true):nR P f x:=by
 simp only [QD,Bool.and_eq_true,beq_iff_eq,decide_eq_true_eq]at h
 obtain⟨⟨⟨⟨h1,h2⟩,h3⟩,h4⟩,h5⟩:=h
 exact⟨h1,FI h2,h3,h4,aba h5⟩
theorem BR:∀ {fs:List Field} {xs:List (Nat × Nat × Bool)},sB P fs xs=true→bB (nR P) fs xs
 | [],[],_=>trivial
 | f::fs,x::xs,h=>by
  simp only [sB,Bool.and_eq_true]at h
  exact⟨W9 h.1,BR h.2⟩
 | [],_::_,h=>by simp [sB]at h
 | _::_,[],h=>by simp [sB]at h
def T5(P:Program)(t:TypeId)(xs:List (Nat × Nat × Bool)):Bool:=
 match P.underlying t with
 | some (.struct fields)=>sB P fields.toList xs
 | _=>false
theorem aS{xs:List (Nat × Nat × Bool)}(h:T5 P t xs=true):∃fields:Array Field,P.underlying t=some (.struct fields)∧bB (nR P) fields.toList xs:=by
 unfold T5 at h
 split at h
 ·rename_i fields hu;exact⟨fields,hu,BR h⟩
 ·cases h
end
def W(E:Env)(n:Nat)(tl:Nat→Nat)(c:Code)(Q:PX→PS→Prop)(σ:PS):Prop:=
 eV E n tl c=true → ∀(w0:World) (S0:dX) (G:Gs) (a:Act) (w:World) (Q':Exit→Act→World→Prop),Rel w0 S0 n G σ a w →
  (∀x σ' a' w',Q x σ'→Rel w0 S0 n G σ' a' w'→Q' (ak1 x) a' w')→c.wp E.P Q' a w
def Gh(n:Nat)(σ σ':PS):Prop:=∀(w0:World) (S0:dX) (G:Gs) (a:Act) (w:World),Rel w0 S0 n G σ a w→Rel w0 S0 n G σ' a w
section
variable {E:Env} {n:Nat} {tl:Nat→Nat} {Q:PX→PS→Prop} {σ:PS}
theorem W.ghost{c:Code}{σ':PS}(h:Gh n σ σ')(hw:W E n tl c Q σ'):W E n tl c Q σ:=fun gO w0 S0 G a w Q' hR hQ=>hw gO w0 S0 G a w Q' (h _ _ _ _ _ hR) hQ
theorem W.mono{c:Code}{Q2:PX→PS→Prop}(hw:W E n tl c Q2 σ)(h:∀x σ,Q2 x σ→Q x σ):W E n tl c Q σ:=fun gO w0 S0 G a w Q' hR hQ=>hw gO w0 S0 G a w Q' hR fun x σ' a' w' hx=>hQ x σ' a' w' (h x σ' hx)
theorem W.skip(h:Q .normal σ):W E n tl .skip Q σ:=fun _ _ _ _ a w _ hR hQ=>wp_skip (hQ .normal σ a w h hR)
theorem W.ret(h:Q .ret σ):W E n tl .ret Q σ:=fun _ _ _ _ a w _ hR hQ=>wp_ret (hQ .ret σ a w h hR)
theorem W.exit{id:Nat}(h:Q (.exit id) σ):W E n tl (.exit id) Q σ:=fun _ _ _ _ a w _ hR hQ=>wp_exit (hQ (.exit id) σ a w h hR)
theorem W.K9{id:Nat}{ops:List Oper}(h:∀K:PS→Prop,(∀σ,Q .normal σ→K σ)→aL E ops ops K σ):W E n tl (.region id ops.toArray false) Q σ:=by
 intro gO w0 S0 G a w Q' hR hQ
 simp only [eV,qW,Bool.and_eq_true]at gO
 refine wp_region_list (iC (fun σ' a' w' hk k8=>hQ .normal σ' a' w' hk k8) _ σ a w (fun o ho t ht=>?_) (h _ fun _ h=>h) hR)
 have:=Array.all_eq_true_iff_forall_mem.1 gO.1 o (by simpa using ho)
 simpa [ht]using this
theorem W.abb{id:Nat}{ops:List Oper}(h:∀K:PS→Prop,(∀σ,Q .normal σ→K σ)→gS E (tl id) ops K σ):W E n tl (.region id ops.toArray true) Q σ:=by
 intro gO w0 S0 G a w Q' hR hQ
 exact tJ (by simpa [eV]using gO) (h _ fun _ h=>h) hR fun σ' a' w' hk k8=>hQ .normal σ' a' w' hk k8
theorem W.seq{x y:Code}(h:W E n tl x (EJ (W E n tl y Q) Q) σ):W E n tl (.seq x y) Q σ:=by
 intro gO w0 S0 G a w Q' hR hQ
 simp only [eV,Bool.and_eq_true]at gO
 refine wp_seq (h gO.1 w0 S0 G a w _ hR fun x σ' a' w' hx k8=>?_)
 cases x with
 | normal=>exact hx gO.2 w0 S0 G a' w' _ k8 hQ
 | exit id=>exact hQ (.exit id) σ' a' w' hx k8
 | ret=>exact hQ .ret σ' a' w' hx k8
theorem W.QE{id:Nat}{ops:List Oper}{y:Code}(h:∀K:PS→Prop,(∀σ,W E n tl y Q σ→K σ)→aL E ops ops K σ):W E n tl (.seq (.region id ops.toArray false) y) Q σ:=
 W.seq (W.K9 h)
theorem W.abc{id:Nat}{ops:List Oper}{y:Code}(h:∀K:PS→Prop,(∀σ,W E n tl y Q σ→K σ)→gS E (tl id) ops K σ):W E n tl (.seq (.region id ops.toArray true) y) Q σ:=
 W.seq (W.abb h)
theorem W.cond{c:Operand}{t e:Code}(h:∃b,aO σ.f c = .bool b∧(b=true→W E n tl t Q σ)∧(b=false→W E n tl e Q σ)):W E n tl (.cond c t e) Q σ:=by
 intro gO w0 S0 G a w Q' hR hQ
 simp only [eV,Bool.and_eq_true]at gO
 obtain⟨b,hb,h1,h2⟩:=h
 obtain⟨cx,_,_,_,_,hf,_⟩:=hR.ex
 have:=mH hf c
 rw [hb,dF]at this
 refine wp_cond this ?_
 cases b with
 | true=>exact h1 rfl gO.1 w0 S0 G a w Q' hR hQ
 | false=>exact h2 rfl gO.2 w0 S0 G a w Q' hR hQ
theorem W.block{id:Nat}{c:Code}(h:W E n tl c (EK id Q) σ):W E n tl (.block id c) Q σ:=by
 intro gO w0 S0 G a w Q' hR hQ
 refine wp_block (h gO w0 S0 G a w _ hR fun x σ' a' w' hx k8=>?_)
 cases x with
 | normal=>exact hQ .normal σ' a' w' hx k8
 | exit j =>
  simp only [EK]at hx
  simp only [ak1,Exit.inBlock]
  split at hx
  ·rename_i hj;rw [if_pos hj];exact hQ .normal σ' a' w' hx k8
  ·rename_i hj;rw [if_neg hj];exact hQ (.exit j) σ' a' w' hx k8
 | ret=>exact hQ .ret σ' a' w' hx k8
theorem W.loop{c:Code}(I:Nat→PS→Prop)(k:Nat)(h0:I k σ)(h1:∀k σ,I k σ→W E n tl c (EJ (fun σ'=>∃m,m<k∧I m σ') Q) σ):W E n tl (.loop c) Q σ:=by
 intro gO w0 S0 G a w Q' hR hQ
 refine wp_loop_ghost (fun k a w=>∃σ,I k σ∧Rel w0 S0 n G σ a w) k ⟨σ,h0,hR⟩ ?_
 rintro k a w ⟨σ,hI,hR⟩
 refine h1 k σ hI gO w0 S0 G a w _ hR fun x σ' a' w' hx k8=>?_
 cases x with
 | normal=>obtain⟨m,hm,pL⟩:=hx;exact⟨m,hm,σ',pL,k8⟩
 | exit id=>exact hQ (.exit id) σ' a' w' hx k8
 | ret=>exact hQ .ret σ' a' w' hx k8
end
theorem abd{E:Env}{yM:FuncId}{fn:Func}{code:Code}(tl:Nat→Nat){args:List PV}{r:PV}(h1:E.P.funcs[yM]? = some fn)(h2:fn.body=some code) (h3:(fn.name == "runtime.NumGoroutine") = false)
  (gO:eV E fn.ntmps tl code=true) (eQ:args.length≤fn.ntmps) (h:W E fn.ntmps tl code (aa8 E fn.results.toList r) (FH args)):aF E.P yM args r:=
 QC h1 h2 h3 eQ fun w0 S0 a w Q' hR hQ=>h gO w0 S0 Gs.none a w Q' hR hQ
def go(P:Prop):Prop:=P
def aX(R:PV→Prop)(K:PV→Prop):Prop:=∃v,R v∧K v
def iR(p:PV)(want:Bool)(A B:Prop):Prop:=∃t,p = .bool t∧(t=want→A)∧(t=(!want)→B)
def stepG(p:PV)(want:Bool)(A B:Prop):Prop:=(p = .bool want∧A)∨((p = .bool (!want)∨p = .dU [])∧B)
def aH(A B:Prop):Prop:=A∧B
@[congr] theorem aiu{R R' K:PV→Prop}(h:∀v,R v=R' v):aX R K=aX R' K:=by rw [show R=R' from funext h]
@[congr] theorem aiv{p p':PV}{want:Bool}{A B:Prop}(h:p=p'):iR p want A B=iR p' want A B:=by rw [h]
@[congr] theorem aiw{p p':PV}{want:Bool}{A B:Prop}(h:p=p'):stepG p want A B=stepG p' want A B:=by rw [h]
@[congr] theorem aix{A A' B:Prop}(h:A=A'):aH A B=aH A' B:=by rw [h]
@[congr] theorem ak2{E:Env}{ops l:List Oper}{K:PS→Prop}{σ σ':PS}(h:σ=σ'):aL E ops l K σ=aL E ops l K σ':=by rw [h]
@[congr] theorem ak3{E:Env}{ops l:List Oper}{clk k k':Nat}{K:PS→Prop}{σ σ':ST}(hk:k=k')(h:σ=σ'):aM E ops clk k l K σ=aM E ops clk k' l K σ':=by rw [hk,h]
@[congr] theorem ak4{md:Region.Mode}{ops:List Oper}{j j' k k':Nat}(hj:j=j')(hk:k=k'):qE md ops j k=qE md ops j' k':=by rw [hj,hk]
@[congr] theorem aoF{md:Region.Mode}{ops:List Oper}{i i' id i0:Nat}{t t':Nat→Nat→Prop}(hi:i=i')(gD:id=i0)(ht:t=t'):yL md ops i id t=yL md ops i' i0 t':=by rw [hi,gD,ht]
@[congr] theorem ak5{md:Region.Mode}{ops:List Oper}{i i':Nat}{t t':Nat→Nat→Prop}{rows rows':Rows}(hi:i=i')(ht:t=t')(hr:rows=rows'):eC md ops i t rows=eC md ops i' t' rows':=by rw [hi,ht,hr]
@[congr] theorem aeR{E:Env}{tl:Nat}{l:List Oper}{K:PS→Prop}{σ σ':PS}(h:σ=σ'):gS E tl l K σ=gS E tl l K σ':=by rw [h]
@[congr] theorem au9{E:Env}{n:Nat}{tl:Nat→Nat}{c:Code}{Q:PX→PS→Prop}{σ σ':PS}(h:σ=σ'):W E n tl c Q σ=W E n tl c Q σ':=by rw [h]
theorem kC{t:PV}{K:PV→Prop}:aX (fun v=>v=t) K=K t:=by simp [aX]
theorem XA{t:PV}{K:PV→Prop}:aX (fun v=>t=v) K=K t:=by simp [aX]
theorem jU{c:Prop}{R K:PV→Prop}:aX (fun v=>c∧R v) K=aH c (aX R K):=by
 apply propext;simp only [aX,aH]
 constructor
 ·rintro⟨v,⟨h1,h2⟩,h3⟩;exact⟨h1,v,h2,h3⟩
 ·rintro⟨h1,v,h2,h3⟩;exact⟨v,⟨h1,h2⟩,h3⟩
theorem abe{α:Type}{R:α→PV→Prop}{K:PV→Prop}:aX (fun v=>∃x,R x v) K = ∃x,aX (R x) K:=by
 apply propext;simp only [aX]
 constructor
 ·rintro⟨v,⟨x,h2⟩,h3⟩;exact⟨x,v,h2,h3⟩
 ·rintro⟨x,v,h2,h3⟩;exact⟨v,⟨x,h2⟩,h3⟩
theorem QF{B:Prop}:aH True B=B:=by simp [aH]
theorem abf{A B:Prop}:iR (.bool true) true A B=A:=by simp [iR]
theorem abg{A B:Prop}:iR (.bool true) false A B=B:=by simp [iR]
theorem abh{A B:Prop}:iR (.bool false) true A B=B:=by simp [iR]
theorem abi{A B:Prop}:stepG (.bool true) true A B=A:=by simp [stepG]
theorem abj{A B:Prop}:stepG (.bool true) false A B=B:=by simp [stepG]
theorem abk{A B:Prop}:stepG (.bool false) true A B=B:=by simp [stepG]
theorem abl{A B:Prop}:stepG (.bool false) false A B=A:=by simp [stepG]
theorem abm{w:Bool}{A B:Prop}:stepG (.dU []) w A B=B:=by simp [stepG]
theorem abn{A B:Prop}:iR (.bool false) false A B=A:=by simp [iR]
theorem BS{f:Nat→PV}{d j:Nat}{v:PV}:put f (some d) v j=if j=d then v else f j:=rfl
theorem abo{f:Nat→PV}{v:PV}:put f none v=f:=rfl
theorem ak6{α:Type}{f:Nat→α}{i j:Nat}{x:α}:dR f i x j=if j=i then x else f j:=rfl
def fa:List (Nat × PV)→Nat→PV
 | [],_ => .undef
 | (i,v)::l,j=>if j=i then v else fa l j
theorem QG{j:Nat}:fa [] j = .undef:=rfl
theorem HU{i j:Nat}{v:PV}{l:List (Nat × PV)}:fa ((i,v)::l) j=if j=i then v else fa l j:=rfl
section
variable {E:Env} {ops os:List Oper} {K:PS→Prop} {f:Nat→PV} {rows:Rows} {clk:Nat} {d:Option Tmp} {ty:TypeId} {pos:String} {af:Array Edge}
theorem aB(n:Nat)(l:List Nat):Gh n ⟨f,rows,clk⟩ ⟨fa (l.map fun i=>(i,f i)),rows,clk⟩:=by
 rintro w0 S0 G a w ⟨⟨c,h1,h2,h3,h4,h5,h6⟩,h7,h8⟩
 refine⟨⟨c,h1,h2,h3,h4,fun s=>?_,h6⟩,h7,h8⟩
 have:fa (l.map fun i=>(i,f i)) s=f s∨fa (l.map fun i=>(i,f i)) s = .undef:=by
  induction l with
  | nil=>exact .inr rfl
  | cons i l ih =>
   simp only [List.map_cons,fa]
   split
   ·rename_i h;rw [h];exact .inl rfl
   ·exact ih
 rcases this with h | h
 ·simp only;rw [h];exact h5 s
 ·simp only;rw [h];simp [aG,aJ]
theorem W.live{n:Nat}{tl:Nat→Nat}{c:Code}{Q:PX→PS→Prop}(l:List Nat)(h:W E n tl c Q ⟨fa (l.map fun i=>(i,f i)),rows,clk⟩):W E n tl c Q ⟨f,rows,clk⟩:=W.ghost (aB n l) h
theorem QH{op:Op}{j:Nat}{want:Bool}:aL E ops (⟨d,op,ty,pos,af,some (j,want)⟩::os) K ⟨f,rows,clk⟩ =
  match (ops[j]?).bind (·.dst)with
  | none=>False
  | some e=>stepG (f e) want (aL E ops (⟨d,op,ty,pos,af,none⟩::os) K ⟨f,rows,clk⟩) (aL E ops os K ⟨put f d (.dU []),rows,clk⟩):=by
 simp only [aL]
 cases hx:(ops[j]?).bind (·.dst)with
 | none=>rfl
 | some e=>rfl
theorem cP{R:PV→Prop}{k:PV→Prop}(h:∀v,R v↔k v):(∃v u,(R v∧u=none)∧K ⟨put f d v,eF rows u,clk⟩)=aX k fun v=>K ⟨put f d v,rows,clk⟩:=by
 apply propext;simp only [aX]
 constructor
 ·rintro⟨v,u,⟨h1,rfl⟩,h2⟩;exact⟨v,(h v).1 h1,h2⟩
 ·rintro⟨v,h1,h2⟩;exact⟨v,none,⟨(h v).2 h1,rfl⟩,h2⟩
theorem XB{x:Operand}:aL E ops (⟨d, .move x,ty,pos,af,none⟩::os) K ⟨f,rows,clk⟩=aL E ops os K ⟨put f d (aO f x),rows,clk⟩:=by
 simp only [aL,eZ,ys,yv]
 rw [cP (k:=fun v=>v=aO f x) (fun v=>Iff.rfl),kC]
theorem LA{x:Operand}:aL E ops (⟨d, .assign x,ty,pos,af,none⟩::os) K ⟨f,rows,clk⟩=aL E ops os K ⟨put f d (aO f x),rows,clk⟩:=by
 simp only [aL,eZ,ys,yv]
 rw [cP (k:=fun v=>v=aO f x) (fun v=>Iff.rfl),kC]
theorem XC{c a b:Operand}:aL E ops (⟨d, .pick c a b,ty,pos,af,none⟩::os) K ⟨f,rows,clk⟩=iR (aO f c) true (aL E ops os K ⟨put f d (aO f a),rows,clk⟩) (aL E ops os K ⟨put f d (aO f b),rows,clk⟩):=by
 simp only [aL,eZ,ys,yv]
 rw [cP (fun v=>Iff.rfl)]
 apply propext;simp only [aX,iR]
 constructor
 ·rintro⟨v,⟨t,h1,rfl⟩,h2⟩
  refine⟨t,h1,fun h=>?_,fun h=>?_⟩
  ·subst h;exact h2
  ·subst h;exact h2
 ·rintro⟨t,h1,h2,h3⟩
  cases t with
  | true=>exact⟨_,⟨true,h1,rfl⟩,h2 rfl⟩
  | false=>exact⟨_,⟨false,h1,rfl⟩,h3 rfl⟩
theorem abp{op:BinOp}{t t2:TypeId}{x y:Operand}:aL E ops (⟨d, .binOp op t x y t2,ty,pos,af,none⟩::os) K ⟨f,rows,clk⟩=aX (fun v=>HE E op t (aO f x) (aO f y) v) fun v=>aL E ops os K ⟨put f d v,rows,clk⟩:=by
 simp only [aL,eZ,ys,yv]
 rw [cP (fun v=>Iff.rfl)]
theorem afy{op:UnOp}{t:TypeId}{x:Operand}:aL E ops (⟨d, .unOp op t x,ty,pos,af,none⟩::os) K ⟨f,rows,clk⟩=aX (fun v=>yun op (aO f x) v) fun v=>aL E ops os K ⟨put f d v,rows,clk⟩:=by
 simp only [aL,eZ,ys,yv]
 rw [cP (k:=fun v=>yun op (aO f x) v) (fun v=>Iff.rfl)]
theorem XD{s t:TypeId}{x:Operand}:aL E ops (⟨d, .convert s t x,ty,pos,af,none⟩::os) K ⟨f,rows,clk⟩=aX (fun v=>tC (E.ty s) (E.ty t) (aO f x) v) fun v=>aL E ops os K ⟨put f d v,rows,clk⟩:=by
 simp only [aL,eZ,ys,yv]
 rw [cP (k:=fun v=>tC (E.ty s) (E.ty t) (aO f x) v) (fun v=>Iff.rfl)]
theorem HV{i:Nat}{x:Operand}:aL E ops (⟨d, .extract x i,ty,pos,af,none⟩::os) K ⟨f,rows,clk⟩=aX (fun v=>O8 i (aO f x) v) fun v=>aL E ops os K ⟨put f d v,rows,clk⟩:=by
 simp only [aL,eZ,ys,yv]
 rw [cP (k:=fun v=>O8 i (aO f x) v) (fun v=>Iff.rfl)]
theorem XE{t:TypeId}{x:Operand}:aL E ops (⟨d, .load t x,ty,pos,af,none⟩::os) K ⟨f,rows,clk⟩=aX (fun v=>tA E t rows (aO f x) v) fun v=>aL E ops os K ⟨put f d v,rows,clk⟩:=by
 simp only [aL,eZ,ys,yv]
 rw [cP (fun v=>Iff.rfl)]
theorem QI{t:TypeId}{i:Nat}{x:Operand}:aL E ops (⟨d, .field t x i,ty,pos,af,none⟩::os) K ⟨f,rows,clk⟩=aX (fun v=>tQ E t i (aO f x) v) fun v=>aL E ops os K ⟨put f d v,rows,clk⟩:=by
 simp only [aL,eZ,ys,yv]
 rw [cP (fun v=>Iff.rfl)]
theorem BT{t:TypeId}{i:Nat}{x:Operand}:aL E ops (⟨d, .fieldAddr t x i,ty,pos,af,none⟩::os) K ⟨f,rows,clk⟩=aX (fun v=>fV E t rows i (aO f x) v) fun v=>aL E ops os K ⟨put f d v,rows,clk⟩:=by
 simp only [aL,eZ,ys,yv]
 rw [cP (fun v=>Iff.rfl)]
theorem BU{t:TypeId}{x y:Operand}:aL E ops (⟨d, .indexAddr t x y,ty,pos,af,none⟩::os) K ⟨f,rows,clk⟩=aX (fun v=>fW E t rows (aO f x) (aO f y) v) fun v=>aL E ops os K ⟨put f d v,rows,clk⟩:=by
 simp only [aL,eZ,ys,yv]
 rw [cP (fun v=>Iff.rfl)]
theorem QJ{t:TypeId}{x:Operand}{lo hi mx:Option Operand}:aL E ops (⟨d, .slice t x lo hi mx,ty,pos,af,none⟩::os) K ⟨f,rows,clk⟩=aX (fun v=>oF E t rows (aO f x) (lo.map (aO f)) (hi.map (aO f)) (mx.map (aO f)) v) fun v=>aL E ops os K ⟨put f d v,rows,clk⟩:=by
 simp only [aL,eZ,ys,yv]
 rw [cP (fun v=>Iff.rfl)]
theorem QK{t:TypeId}{parts:Array (Nat × Operand)}:aL E ops (⟨d, .build t parts,ty,pos,af,none⟩::os) K ⟨f,rows,clk⟩=aX (fun v=>qN (E.ty t) (parts.toList.map fun x=>(x.1,aO f x.2)) v) fun v=>aL E ops os K ⟨put f d v,rows,clk⟩:=by
 simp only [aL,eZ,ys,yv]
 rw [cP (k:=fun v=>qN (E.ty t) (parts.toList.map fun x=>(x.1,aO f x.2)) v) (fun v=>Iff.rfl)]
theorem QL{t:TypeId}{x y:Operand}:aL E ops (⟨d, .index t x y,ty,pos,af,none⟩::os) K ⟨f,rows,clk⟩=aX (fun v=>tR E (E.ty t) (aO f x) (aO f y) v) fun v=>aL E ops os K ⟨put f d v,rows,clk⟩:=by
 simp only [aL,eZ,ys,yv]
 rw [cP (k:=fun v=>tR E (E.ty t) (aO f x) (aO f y) v) (fun v=>Iff.rfl)]
theorem abq{t:TypeId}{x:Operand}:aL E ops (⟨d, .call { callee:=.builtin .len,args:=⟨[x]⟩,argTypes:=⟨[t]⟩ },ty,pos,af,none⟩::os) K ⟨f,rows,clk⟩=aX (fun v=>yC (E.ty t) rows (aO f x) v) fun v=>aL E ops os K ⟨put f d v,rows,clk⟩:=by
 simp only [aL,eZ,ys,yv]
 rw [cP (k:=fun v=>yC (E.ty t) rows (aO f x) v) (fun v=>Iff.rfl)]
theorem EL{x:Operand}:aL E ops (⟨d, .nilCheck x,ty,pos,af,none⟩::os) K ⟨f,rows,clk⟩=aX (fun v=>EA rows (aO f x) v) fun v=>aL E ops os K ⟨put f d v,rows,clk⟩:=by
 simp only [aL,eZ,ys,yv]
 rw [cP (k:=fun v=>EA rows (aO f x) v) (fun v=>Iff.rfl)]
theorem abr{ts:Array TypeId}{x y:Operand}:aL E ops (⟨d, .call { callee:=.builtin .max,args:=⟨[x,y]⟩,argTypes:=ts },ty,pos,af,none⟩::os) K ⟨f,rows,clk⟩=aX (fun v=>PA (aO f x) (aO f y) v) fun v=>aL E ops os K ⟨put f d v,rows,clk⟩:=by
 simp only [aL,eZ,ys,yv]
 rw [cP (fun v=>Iff.rfl)]
theorem abt{ts:Array TypeId}{x y:Operand}:aL E ops (⟨d, .call { callee:=.builtin .min,args:=⟨[x,y]⟩,argTypes:=ts },ty,pos,af,none⟩::os) K ⟨f,rows,clk⟩=aX (fun v=>PC (aO f x) (aO f y) v) fun v=>aL E ops os K ⟨put f d v,rows,clk⟩:=by
 simp only [aL,eZ,ys,yv]
 rw [cP (fun v=>Iff.rfl)]
theorem zL{t:TypeId}{len:Nat}{parts:Array (Nat × Operand)}:aL E ops (⟨d, .buildSlice t len parts,ty,pos,af,none⟩::os) K ⟨f,rows,clk⟩=aX (fun v=>PU (E.ty t) rows len (parts.toList.map fun x=>(x.1,aO f x.2)) v) fun v=>aL E ops os K ⟨put f d v,rows,clk⟩:=by
 simp only [aL,eZ,ys]
 rw [cP (fun v=>Iff.rfl)]
theorem QM{t:TypeId}{p x:Operand}:aL E ops (⟨none, .store t p x,ty,pos,af,none⟩::os) K ⟨f,rows,clk⟩ = ∃id r,qR E t rows (aO f p) (aO f x) .undef (some (id,r))∧aL E ops os K ⟨f,dR rows id (some r),clk⟩:=by
 simp only [aL,eZ,ys]
 apply propext
 constructor
 ·rintro⟨v,u,h,h2⟩
  have h':=h
  obtain⟨_,rfl,h3⟩:=h
  split at h3
  ·obtain⟨_,_,_,_,_,_,_,_,_,_,rfl⟩:=h3
   exact⟨_,_,h',h2⟩
  ·exact h3.elim
 ·rintro⟨id,r,h,h2⟩;exact⟨.undef,some (id,r),h,h2⟩
theorem QN{t:TypeId}:aL E ops (⟨d, .alloc t,ty,pos,af,none⟩::os) K ⟨f,rows,clk⟩=aH ((E.ty t).known=true) (aL E ops os K ⟨put f d (.ptr (d.getD 0) clk 0 0),dR rows (d.getD 0) (some ⟨clk,t,(E.ty t).size,[(E.ty t).zero]⟩),clk+1⟩):=rfl
theorem abu{t:TypeId}{x:Operand}:aL E ops (⟨d, .box t x,ty,pos,af,none⟩::os) K ⟨f,rows,clk⟩=aH ((E.ty t).known=true) (∃l,cE (aO f x)=some l∧(∀q∈l,iM rows q)∧l.length=(E.ty t).size∧aL E ops os K ⟨put f d (.ptr (d.getD 0) clk 0 0),dR rows (d.getD 0) (some ⟨clk,t,(E.ty t).size,[l]⟩),clk+1⟩):=rfl
def qX(t:TI)(x y:PV)(K:TypeId→Nat→List PV→Int→Prop):Prop:=
 match t,x,y with
 | .slice e n b z, .int _ x, .int _ y=>aH (0≤x∧x≤y∧y.toNat≤room∧y.toNat*b≤room) (K e n z x)
 | _,_,_=>False
theorem BV{t:TypeId}{l c:Operand}:aL E ops (⟨d, .makeSlice t l c,ty,pos,af,none⟩::os) K ⟨f,rows,clk⟩=qX (E.ty t) (aO f l) (aO f c) fun e n z x=>aL E ops os K ⟨put f d (.own (d.getD 0) clk 0 x.toNat),dR rows (d.getD 0) (some ⟨clk,e,n,List.replicate x.toNat z⟩),clk+1⟩:=by
 simp only [aL,eZ,qX,HO]
 generalize E.ty t=T
 generalize aO f l=A
 generalize aO f c=B
 cases T with
 | slice e n b z =>
  cases A with
  | int k x =>
   cases B with
   | int k2 y=>simp only [aH,and_assoc]
   | _=>rfl
  | _=>rfl
 | _=>rfl
def XF(t:TI)(rows:Rows)(x y:PV)(clk d:Nat)(K:PV→Rows→Nat→Prop):Prop:=
 match t with
 | .slice e n b _ =>
  ∃l,qS rows y l∧(∀e∈l,e.length=n) ∧
  match x with
  | .nil=>aH (l.length≤room∧l.length*b≤room) (K (.own d clk 0 l.length) (dR rows d (some ⟨clk,e,n,l⟩)) (clk+1))
  | .own id ver off len=>∃r,rows id=some r∧r.ver=ver∧off=0∧len≤r.els.length∧r.e=e∧r.size=n∧aH (len+l.length≤room∧(len+l.length)*b≤room) (K (.own id clk 0 (len+l.length)) (dR rows id (some ⟨clk,e,n,r.els.take len++l⟩)) (clk+1))
  | .iK l0=>(∀e∈l0,e.length=n)∧(∀e∈l,∀p∈e,bI p=true)∧aH (l0.length+l.length≤room∧(l0.length+l.length)*b≤room) (K (.sl (l0++l)) rows clk)
  | _=>False
 | _=>False
theorem LB{t t2:TypeId}{x y:Operand}:aL E ops (⟨d, .call { callee:=.builtin .append,args:=⟨[x,y]⟩,argTypes:=⟨[t,t2]⟩ },ty,pos,af,none⟩::os) K ⟨f,rows,clk⟩ =
  aH (t2=t∨slT (E.ty t2)=true) (XF (E.ty t) rows (aO f x) (aO f y) clk (d.getD 0) fun v rows clk=>aL E ops os K ⟨put f d v,rows,clk⟩):=by
 simp only [aL,eZ,HP,XF,HO,aH,PS.put]
 congr 1
 generalize E.ty t=T
 generalize aO f x=A
 cases T with
 | slice e n b z =>
  simp only
  congr 1
  funext l
  congr 2
  cases A with
  | nil=>simp only [and_assoc]
  | own id ver off len=>simp only [and_assoc]
  | iK l0=>simp only [and_assoc]
  | _=>rfl
 | _=>rfl
end
def vD(P:Program)(g:FuncId)(args:List PV)(K:PV→Prop):Prop:=∃v,aF P g args v∧K v
@[congr] theorem aiy{P:Program}{g:FuncId}{args LC:List PV}{K:PV→Prop}(h:args=LC):vD P g args K=vD P g LC K:=by rw [h]
def qY(E:Env)(p:PV)(eU:List PV)(rows:Rows)(clk:Nat)(K:PV→Rows→Nat→Prop):Prop:=
 match p with
 | .fn g bW=>if (E.writes g || E.HD g)=true then bW = []∧u7 E.P g eU rows clk K else aH ((eU.map (pz rows)).all dB=true∧eS rows (eU.flatMap dQ)) (vD E.P g (eU.map (pz rows)++bW) fun v=>K v (FC rows (eU.flatMap dQ)) clk)
 | _=>False
@[congr] theorem afz{E:Env}{p p':PV}{eU qZ:List PV}{rows rows':Rows}{clk gY:Nat}{K:PV→Rows→Nat→Prop}(h1:p=p')(h2:eU=qZ)(h3:rows=rows')(h4:clk=gY):qY E p eU rows clk K=qY E p' qZ rows' gY K:=by rw [h1,h2,h3,h4]
@[congr] theorem aiz{P:Program}{g:FuncId}{eU qZ:List PV}{rows:Rows}{clk:Nat}{K:PV→Rows→Nat→Prop}(h:eU=qZ):u7 P g eU rows clk K=u7 P g qZ rows clk K:=by rw [h]
@[congr] theorem aiA{t t':TI}{x x' y y':PV}{K:TypeId→Nat→List PV→Int→Prop}(h1:t=t')(h2:x=x')(h3:y=y'):qX t x y K=qX t' x' y' K:=by rw [h1,h2,h3]
@[congr] theorem ak7{t t':TI}{rows rows':Rows}{x x' y y':PV}{clk gY d d':Nat}{K:PV→Rows→Nat→Prop}(h1:t=t')(h2:rows=rows')(h3:x=x')(h4:y=y')(h5:clk=gY)(h6:d=d') :
  XF t rows x y clk d K=XF t' rows' x' y' gY d' K:=by rw [h1,h2,h3,h4,h5,h6]
section
variable {E:Env} {ops os:List Oper} {K:PS→Prop} {f:Nat→PV} {rows:Rows} {clk:Nat} {d:Option Tmp} {ty:TypeId} {pos:String} {af:Array Edge}
theorem XG{fo:Operand}{args:Array Operand}{ts:Array TypeId}:aL E ops (⟨d, .call { callee:=.value fo,args:=args,argTypes:=ts },ty,pos,af,none⟩::os) K ⟨f,rows,clk⟩ =
  qY E (aO f fo) (args.toList.map (aO f)) rows clk fun v rows clk=>aL E ops os K ⟨put f d v,rows,clk⟩:=by
 simp only [aL,eZ,yH,qY,PW,aH,vD]
 generalize aO f fo=A
 have e1:(args.toList.map fun x=>pz rows (aO f x))=(args.toList.map (aO f)).map (pz rows):=by rw [List.map_map];rfl
 have e2:(args.toList.flatMap fun x=>dQ (aO f x))=(args.toList.map (aO f)).flatMap dQ:=by rw [List.flatMap_map]
 rw [e1,e2]
 cases A with
 | fn g bW =>
  have hm:akH E (.fn g bW)=(E.writes g || E.HD g):=rfl
  by_cases hw:(E.writes g || E.HD g)=true
  ·rw [hm,if_pos hw]
   cases bW with
   | nil=>simp [hw]
   | cons x l=>simp [hw]
  rw [hm,if_neg hw]
  simp only [if_neg hw]
  apply propext
  constructor
  ·rintro⟨v,⟨h1,h2⟩,h3,h4⟩;exact⟨⟨h1,h3⟩,v,h2,h4⟩
  ·rintro⟨⟨h1,h3⟩,v,h2,h4⟩;exact⟨v,⟨h1,h2⟩,h3,h4⟩
 | _=>simp [akH]
theorem EM{g:FuncId}{bW:Array Operand}:aL E ops (⟨d, .makeFunc (.func g) ⟨[]⟩ bW,ty,pos,af,none⟩::os) K ⟨f,rows,clk⟩ =
  aH (((bW.toList.map (aO f)).map (pz rows)).all dB=true∧eS rows ((bW.toList.map (aO f)).flatMap dQ))
   (aL E ops os K ⟨put f d (.fn g ((bW.toList.map (aO f)).map (pz rows))),FC rows ((bW.toList.map (aO f)).flatMap dQ),clk⟩):=by
 simp only [aL,eZ,aH,and_assoc]
 have e1:(bW.toList.map fun x=>pz rows (aO f x))=(bW.toList.map (aO f)).map (pz rows):=by rw [List.map_map];rfl
 have e2:(bW.toList.flatMap fun x=>dQ (aO f x))=(bW.toList.map (aO f)).flatMap dQ:=by rw [List.flatMap_map]
 rw [e1,e2]
def iX(k:Nat)(l:List Nat)(t:Nat→Nat→Prop):Nat→Nat→Prop:=fun k' id=>(true=true∧k'=k∧id∈l)∨t k' id
def nM(k id:Nat)(w:Nat→Nat→Prop):Nat→Nat→Prop:=fun k' i0=>(k'=k∧i0=id)∨w k' i0
variable {k:Nat} {bP:Nat→Nat→Prop} {aK:Nat→Nat→Prop}
theorem QO{op:Op}{j:Nat}{want:Bool}:aM E ops clk k (⟨d,op,ty,pos,af,some (j,want)⟩::os) K ⟨f,rows,bP,aK⟩ =
  match (ops[j]?).bind (·.dst)with
  | none=>False
  | some e=>stepG (f e) want (aM E ops clk k (⟨d,op,ty,pos,af,none⟩::os) K ⟨f,rows,bP,aK⟩) (aM E ops clk (k+1) os K ⟨put f d (.dU []),rows,bP,aK⟩):=by
 have e3:app k ⟨d,op,ty,pos,af,some (j,want)⟩ false (.dU []) none ⟨f,rows,bP,aK⟩=⟨put f d (.dU []),rows,bP,aK⟩:=by simp [app,eF,wlU]
 simp only [aM,e3]
 cases hx:(ops[j]?).bind (·.dst)with
 | none=>rfl
 | some e=>rfl
theorem c9{o:Oper}{R:PV→Prop}{kk:PV→Prop}{st:ST}(h:∀v,R v↔kk v):(∃v u,(R v∧u=none)∧K1 .any ops k u bP∧aM E ops clk (k+1) os K (app k o true v u st))=aX kk fun v=>aM E ops clk (k+1) os K (app k o true v none st):=by
 apply propext;simp only [aX]
 constructor
 ·rintro⟨v,u,⟨h1,rfl⟩,_,h2⟩;exact⟨v,(h v).1 h1,h2⟩
 ·rintro⟨v,h1,h2⟩;exact⟨v,none,⟨(h v).2 h1,rfl⟩,trivial,h2⟩
theorem fQ{op:Op}{v:PV}(h:iB op (aO f) = []):app k ⟨d,op,ty,pos,af,none⟩ true v none ⟨f,rows,bP,aK⟩=⟨put f d v,rows,bP,aK⟩:=by simp [app,eF,wlU,h]
theorem sC{op:Op}{v:PV}{l:List Nat}(h:iB op (aO f)=l):app k ⟨d,op,ty,pos,af,none⟩ true v none ⟨f,rows,bP,aK⟩=⟨put f d v,rows,iX k l bP,aK⟩:=by subst h;rfl
theorem XH{x:Operand}:aM E ops clk k (⟨d, .move x,ty,pos,af,none⟩::os) K ⟨f,rows,bP,aK⟩=aM E ops clk (k+1) os K ⟨put f d (aO f x),rows,bP,aK⟩:=by
 simp only [aM,yn,iW,ys,yv]
 rw [c9 (kk:=fun v=>v=aO f x) (fun v=>Iff.rfl),kC,fQ rfl]
theorem LD{x:Operand}:aM E ops clk k (⟨d, .assign x,ty,pos,af,none⟩::os) K ⟨f,rows,bP,aK⟩=aM E ops clk (k+1) os K ⟨put f d (aO f x),rows,bP,aK⟩:=by
 simp only [aM,yn,iW,ys,yv]
 rw [c9 (kk:=fun v=>v=aO f x) (fun v=>Iff.rfl),kC,fQ rfl]
theorem XI{c a b:Operand}:aM E ops clk k (⟨d, .pick c a b,ty,pos,af,none⟩::os) K ⟨f,rows,bP,aK⟩=iR (aO f c) true (aM E ops clk (k+1) os K ⟨put f d (aO f a),rows,bP,aK⟩) (aM E ops clk (k+1) os K ⟨put f d (aO f b),rows,bP,aK⟩):=by
 simp only [aM,yn,iW,ys,yv]
 rw [c9 (fun v=>Iff.rfl)]
 apply propext;simp only [aX,iR,fQ (op:=.pick c a b) rfl]
 constructor
 ·rintro⟨v,⟨t,h1,rfl⟩,h2⟩
  refine⟨t,h1,fun h=>?_,fun h=>?_⟩
  ·subst h;exact h2
  ·subst h;exact h2
 ·rintro⟨t,h1,h2,h3⟩
  cases t with
  | true=>exact⟨_,⟨true,h1,rfl⟩,h2 rfl⟩
  | false=>exact⟨_,⟨false,h1,rfl⟩,h3 rfl⟩
theorem abv{op:BinOp}{t t2:TypeId}{x y:Operand}:aM E ops clk k (⟨d, .binOp op t x y t2,ty,pos,af,none⟩::os) K ⟨f,rows,bP,aK⟩=aX (fun v=>HE E op t (aO f x) (aO f y) v) fun v=>aM E ops clk (k+1) os K ⟨put f d v,rows,bP,aK⟩:=by
 simp only [aM,yn,iW,ys,yv];rw [c9 (fun v=>Iff.rfl)];simp only [fQ (op:=.binOp op t x y t2) rfl]
theorem afA{op:UnOp}{t:TypeId}{x:Operand}:aM E ops clk k (⟨d, .unOp op t x,ty,pos,af,none⟩::os) K ⟨f,rows,bP,aK⟩=aX (fun v=>yun op (aO f x) v) fun v=>aM E ops clk (k+1) os K ⟨put f d v,rows,bP,aK⟩:=by
 simp only [aM,yn,iW,ys,yv];rw [c9 (fun v=>Iff.rfl)];simp only [fQ (op:=.unOp op t x) rfl]
theorem XJ{s t:TypeId}{x:Operand}:aM E ops clk k (⟨d, .convert s t x,ty,pos,af,none⟩::os) K ⟨f,rows,bP,aK⟩=aX (fun v=>tC (E.ty s) (E.ty t) (aO f x) v) fun v=>aM E ops clk (k+1) os K ⟨put f d v,rows,bP,aK⟩:=by
 simp only [aM,yn,iW,ys,yv];rw [c9 (fun v=>Iff.rfl)];simp only [fQ (op:=.convert s t x) rfl]
theorem HW{i:Nat}{x:Operand}:aM E ops clk k (⟨d, .extract x i,ty,pos,af,none⟩::os) K ⟨f,rows,bP,aK⟩=aX (fun v=>O8 i (aO f x) v) fun v=>aM E ops clk (k+1) os K ⟨put f d v,rows,bP,aK⟩:=by
 simp only [aM,yn,iW,ys,yv];rw [c9 (fun v=>Iff.rfl)];simp only [fQ (op:=.extract x i) rfl]
theorem XK{t:TypeId}{x:Operand}:aM E ops clk k (⟨d, .load t x,ty,pos,af,none⟩::os) K ⟨f,rows,bP,aK⟩=aX (fun v=>tA E t (eC .any ops k aK rows) (aO f x) v) fun v=>aM E ops clk (k+1) os K ⟨put f d v,rows,iX k (aT (aO f x)) bP,aK⟩:=by
 simp only [aM,yn,iW,ys,yv];rw [c9 (fun v=>Iff.rfl)];simp only [sC (op:=.load t x) rfl];rfl
theorem QP{t:TypeId}{i:Nat}{x:Operand}:aM E ops clk k (⟨d, .field t x i,ty,pos,af,none⟩::os) K ⟨f,rows,bP,aK⟩=aX (fun v=>tQ E t i (aO f x) v) fun v=>aM E ops clk (k+1) os K ⟨put f d v,rows,bP,aK⟩:=by
 simp only [aM,yn,iW,ys,yv];rw [c9 (fun v=>Iff.rfl)];simp only [fQ (op:=.field t x i) rfl]
theorem BW{t:TypeId}{i:Nat}{x:Operand}:aM E ops clk k (⟨d, .fieldAddr t x i,ty,pos,af,none⟩::os) K ⟨f,rows,bP,aK⟩=aX (fun v=>fV E t (eC .any ops k aK rows) i (aO f x) v) fun v=>aM E ops clk (k+1) os K ⟨put f d v,rows,iX k (aT (aO f x)) bP,aK⟩:=by
 simp only [aM,yn,iW,ys,yv];rw [c9 (fun v=>Iff.rfl)];simp only [sC (op:=.fieldAddr t x i) rfl];rfl
theorem BX{t:TypeId}{x y:Operand}:aM E ops clk k (⟨d, .indexAddr t x y,ty,pos,af,none⟩::os) K ⟨f,rows,bP,aK⟩=aX (fun v=>fW E t (eC .any ops k aK rows) (aO f x) (aO f y) v) fun v=>aM E ops clk (k+1) os K ⟨put f d v,rows,iX k (aT (aO f x)) bP,aK⟩:=by
 simp only [aM,yn,iW,ys,yv];rw [c9 (fun v=>Iff.rfl)];simp only [sC (op:=.indexAddr t x y) rfl];rfl
theorem QQ{t:TypeId}{x:Operand}{lo hi mx:Option Operand}:aM E ops clk k (⟨d, .slice t x lo hi mx,ty,pos,af,none⟩::os) K ⟨f,rows,bP,aK⟩=aX (fun v=>oF E t (eC .any ops k aK rows) (aO f x) (lo.map (aO f)) (hi.map (aO f)) (mx.map (aO f)) v) fun v=>aM E ops clk (k+1) os K ⟨put f d v,rows,iX k (aT (aO f x)) bP,aK⟩:=by
 simp only [aM,yn,iW,ys,yv];rw [c9 (fun v=>Iff.rfl)];simp only [sC (op:=.slice t x lo hi mx) rfl];rfl
theorem QR{t:TypeId}{parts:Array (Nat × Operand)}:aM E ops clk k (⟨d, .build t parts,ty,pos,af,none⟩::os) K ⟨f,rows,bP,aK⟩=aX (fun v=>qN (E.ty t) (parts.toList.map fun x=>(x.1,aO f x.2)) v) fun v=>aM E ops clk (k+1) os K ⟨put f d v,rows,bP,aK⟩:=by
 simp only [aM,yn,iW,ys,yv];rw [c9 (fun v=>Iff.rfl)];simp only [fQ (op:=.build t parts) rfl]
theorem abw{t:TypeId}{x:Operand}:aM E ops clk k (⟨d, .call { callee:=.builtin .len,args:=⟨[x]⟩,argTypes:=⟨[t]⟩ },ty,pos,af,none⟩::os) K ⟨f,rows,bP,aK⟩=aX (fun v=>yC (E.ty t) (eC .any ops k aK rows) (aO f x) v) fun v=>aM E ops clk (k+1) os K ⟨put f d v,rows,iX k (aT (aO f x)) bP,aK⟩:=by
 simp only [aM,yn,iW,ys,yv];rw [c9 (fun v=>Iff.rfl)];simp only [sC (op:=.call { callee:=.builtin .len,args:=⟨[x]⟩,argTypes:=⟨[t]⟩ }) rfl];rfl
theorem EN{x:Operand}:aM E ops clk k (⟨d, .nilCheck x,ty,pos,af,none⟩::os) K ⟨f,rows,bP,aK⟩=aX (fun v=>EA (eC .any ops k aK rows) (aO f x) v) fun v=>aM E ops clk (k+1) os K ⟨put f d v,rows,iX k (aT (aO f x)) bP,aK⟩:=by
 simp only [aM,yn,iW,ys,yv];rw [c9 (fun v=>Iff.rfl)];simp only [sC (op:=.nilCheck x) rfl];rfl
theorem abx{ts:Array TypeId}{x y:Operand}:aM E ops clk k (⟨d, .call { callee:=.builtin .max,args:=⟨[x,y]⟩,argTypes:=ts },ty,pos,af,none⟩::os) K ⟨f,rows,bP,aK⟩=aX (fun v=>PA (aO f x) (aO f y) v) fun v=>aM E ops clk (k+1) os K ⟨put f d v,rows,bP,aK⟩:=by
 simp only [aM,yn,iW,ys,yv];rw [c9 (fun v=>Iff.rfl)];simp only [fQ (op:=.call { callee:=.builtin .max,args:=⟨[x,y]⟩,argTypes:=ts }) rfl]
theorem aby{ts:Array TypeId}{x y:Operand}:aM E ops clk k (⟨d, .call { callee:=.builtin .min,args:=⟨[x,y]⟩,argTypes:=ts },ty,pos,af,none⟩::os) K ⟨f,rows,bP,aK⟩=aX (fun v=>PC (aO f x) (aO f y) v) fun v=>aM E ops clk (k+1) os K ⟨put f d v,rows,bP,aK⟩:=by
 simp only [aM,yn,iW,ys,yv];rw [c9 (fun v=>Iff.rfl)];simp only [fQ (op:=.call { callee:=.builtin .min,args:=⟨[x,y]⟩,argTypes:=ts }) rfl]
theorem EO{g:FuncId}{bW:Array Operand}:aM E ops clk k (⟨d, .makeFunc (.func g) ⟨[]⟩ bW,ty,pos,af,none⟩::os) K ⟨f,rows,bP,aK⟩=aH ((bW.toList.map fun x=>aO f x).all dB=true) (aM E ops clk (k+1) os K ⟨put f d (.fn g (bW.toList.map fun x=>aO f x)),rows,bP,aK⟩):=by
 simp only [aM,yn,iW,ys,yv]
 rw [c9 (fun v=>Iff.rfl),jU,kC];simp only [fQ (op:=.makeFunc (.func g) ⟨[]⟩ bW) rfl]
theorem zM{t:TypeId}{len:Nat}{parts:Array (Nat × Operand)}:aM E ops clk k (⟨d, .buildSlice t len parts,ty,pos,af,none⟩::os) K ⟨f,rows,bP,aK⟩=aX (fun v=>PU (E.ty t) (eC .any ops k aK rows) len (parts.toList.map fun x=>(x.1,aO f x.2)) v) fun v=>aM E ops clk (k+1) os K ⟨put f d v,rows,bP,aK⟩:=by
 simp only [aM,yn,iW,ys];rw [c9 (fun v=>Iff.rfl)];simp only [fQ (op:=.buildSlice t len parts) rfl]
theorem QS{t:TypeId}{p x:Operand}:aM E ops clk k (⟨none, .store t p x,ty,pos,af,none⟩::os) K ⟨f,rows,bP,aK⟩ =
  ∃id r,qR E t (eC .any ops k aK rows) (aO f p) (aO f x) .undef (some (id,r))∧yL .any ops k id bP∧aM E ops clk (k+1) os K ⟨f,dR rows id (some r),iX k (aT (aO f p)++((cE (aO f x)).getD []).flatMap aT) bP,nM k id aK⟩:=by
 simp only [aM,yn,iW,ys]
 apply propext
 constructor
 ·rintro⟨v,u,h,h1,h2⟩
  have h':=h
  obtain⟨_,rfl,h3⟩:=h
  split at h3
  ·obtain⟨_,_,_,_,_,_,_,_,_,_,rfl⟩:=h3
   exact⟨_,_,h',h1,h2⟩
  ·exact h3.elim
 ·rintro⟨id,r,h,h1,h2⟩;exact⟨.undef,some (id,r),h,h1,h2⟩
theorem abz{o:Oper}{R:PV→Option (Nat × Row)→Prop}{C:Prop}{v0:PV}{e:Nat}{r0:Row}{st:ST}{gY:Nat}(h:∀v u,R v u↔(C∧v=v0∧u=some (e,r0))):(∃v u,R v u∧K1 .any ops k u bP∧aM E ops gY (k+1) os K (app k o true v u st))=aH (C∧yL .any ops k e bP) (aM E ops gY (k+1) os K (app k o true v0 (some (e,r0)) st)):=by
 apply propext;simp only [aH]
 constructor
 ·rintro⟨v,u,h1,h2,h3⟩
  obtain⟨hc,rfl,rfl⟩:=(h v u).1 h1
  exact⟨⟨hc,h2⟩,h3⟩
 ·rintro⟨⟨h1,h2⟩,h3⟩;exact⟨v0,_,(h _ _).2 ⟨h1,rfl,rfl⟩,h2,h3⟩
theorem vE{op:Op}{v:PV}{e:Nat}{r0:Row}(h:iB op (aO f) = []):app k ⟨d,op,ty,pos,af,none⟩ true v (some (e,r0)) ⟨f,rows,bP,aK⟩=⟨put f d v,dR rows e (some r0),bP,nM k e aK⟩:=by simp only [app,eF,wlU,h,List.not_mem_nil,and_false,false_or];rfl
theorem QT{t:TypeId}:aM E ops clk k (⟨d, .alloc t,ty,pos,af,none⟩::os) K ⟨f,rows,bP,aK⟩=aH ((E.ty t).known=true∧yL .any ops k (d.getD 0) bP) (aM E ops (clk+1) (k+1) os K ⟨put f d (.ptr (d.getD 0) clk 0 0),dR rows (d.getD 0) (some ⟨clk,t,(E.ty t).size,[(E.ty t).zero]⟩),bP,nM k (d.getD 0) aK⟩):=by
 simp only [aM,yn,iW]
 rw [abz (C:=(E.ty t).known=true) (v0:=.ptr (d.getD 0) clk 0 0) (e:=d.getD 0) (r0:=⟨clk,t,(E.ty t).size,[(E.ty t).zero]⟩) (fun v u=>by simp),vE (op:=.alloc t) rfl]
theorem abA{t:TypeId}{x:Operand}:aM E ops clk k (⟨d, .box t x,ty,pos,af,none⟩::os) K ⟨f,rows,bP,aK⟩=aH ((E.ty t).known=true) (∃l,cE (aO f x)=some l∧((∀q∈l,iM (fun _=>none) q)∧l.length=(E.ty t).size∧yL .any ops k (d.getD 0) bP) ∧
  aM E ops (clk+1) (k+1) os K ⟨put f d (.ptr (d.getD 0) clk 0 0),dR rows (d.getD 0) (some ⟨clk,t,(E.ty t).size,[l]⟩),bP,nM k (d.getD 0) aK⟩):=by
 simp only [aM,yn,iW]
 apply propext
 constructor
 ·rintro⟨v,u,⟨h1,l,h2,h3,h4,rfl,rfl⟩,h5,h6⟩
  rw [vE (op:=.box t x) rfl]at h6
  exact⟨h1,l,h2,⟨h3,h4,h5⟩,h6⟩
 ·rintro⟨h1,l,h2,⟨h3,h4,h5⟩,h6⟩
  refine⟨_,_,⟨h1,l,h2,h3,h4,rfl,rfl⟩,h5,?_⟩
  rw [vE (op:=.box t x) rfl];exact h6
theorem B2{t:TypeId}{l c:Operand}:aM E ops clk k (⟨d, .makeSlice t l c,ty,pos,af,none⟩::os) K ⟨f,rows,bP,aK⟩=qX (E.ty t) (aO f l) (aO f c) fun e n z x=>aH (yL .any ops k (d.getD 0) bP) (aM E ops (clk+1) (k+1) os K ⟨put f d (.own (d.getD 0) clk 0 x.toNat),dR rows (d.getD 0) (some ⟨clk,e,n,List.replicate x.toNat z⟩),bP,nM k (d.getD 0) aK⟩):=by
 have TO:∀ {v e' r0},app k ⟨d, .makeSlice t l c,ty,pos,af,none⟩ true v (some (e',r0)) ⟨f,rows,bP,aK⟩=⟨put f d v,dR rows e' (some r0),bP,nM k e' aK⟩:=vE rfl
 simp only [aM,yn,iW,qX]
 generalize E.ty t=T
 generalize aO f l=A
 generalize aO f c=B
 cases T with
 | slice e n b z =>
  cases A with
  | int k1 x =>
   cases B with
   | int k2 y =>
    apply propext
    simp only [aH]
    constructor
    ·rintro⟨v,u,⟨h1,h2,h3,h4,rfl,rfl⟩,h5,h6⟩
     rw [TO]at h6
     exact⟨⟨h1,h2,h3,h4⟩,h5,h6⟩
    ·rintro⟨⟨h1,h2,h3,h4⟩,h5,h6⟩
     refine⟨_,_,⟨h1,h2,h3,h4,rfl,rfl⟩,h5,?_⟩
     rw [TO];exact h6
   | _=>simp
  | _=>simp
 | _=>simp
theorem LF{t t2:TypeId}{x y:Operand}:aM E ops clk k (⟨d, .call { callee:=.builtin .append,args:=⟨[x,y]⟩,argTypes:=⟨[t,t2]⟩ },ty,pos,af,none⟩::os) K ⟨f,rows,bP,aK⟩ =
  aH (t2=t∨slT (E.ty t2)=true) (∃v u,tI (E.ty t) (eC .any ops k aK rows) (aO f x) (aO f y) clk (d.getD 0) v u∧K1 .any ops k u bP ∧
   aM E ops (clk+1) (k+1) os K ⟨put f d v,eF rows u,iX k (aT (aO f x)++aT (aO f y)) bP,wlU k u aK⟩):=by
 have TO:∀ {v u},app k ⟨d, .call { callee:=.builtin .append,args:=⟨[x,y]⟩,argTypes:=⟨[t,t2]⟩ },ty,pos,af,none⟩ true v u ⟨f,rows,bP,aK⟩=⟨put f d v,eF rows u,iX k (aT (aO f x)++aT (aO f y)) bP,wlU k u aK⟩:=rfl
 simp only [aM,yn,iW,aH]
 apply propext
 constructor
 ·rintro⟨v,u,⟨h1,h2⟩,h3,h4⟩
  exact⟨h1,v,u,h2,h3,h4⟩
 ·rintro⟨h1,v,u,h2,h3,h4⟩
  exact⟨v,u,⟨h1,h2⟩,h3,h4⟩
theorem XL{t t2:TypeId}{x y:Operand}:aM E ops clk k (⟨d, .call { callee:=.builtin .copy,args:=⟨[x,y]⟩,argTypes:=⟨[t,t2]⟩ },ty,pos,af,none⟩::os) K ⟨f,rows,bP,aK⟩ =
  ∃v u,tF (E.ty t) (eC .any ops k aK rows) (aO f x) (aO f y) v u∧K1 .any ops k u bP ∧
   aM E ops clk (k+1) os K ⟨put f d v,eF rows u,iX k (aT (aO f x)++aT (aO f y)) bP,wlU k u aK⟩:=rfl
def pN(E:Env)(p:PV)(eU:List PV)(rows:Rows)(K:PV→Prop):Prop:=
 match p with
 | .fn g bW=>aH ((eU.map (pz rows)).all dB=true∧eU.flatMap dQ = []) (vD E.P g (eU.map (pz rows)++bW) K)
 | _=>False
@[congr] theorem afB{E:Env}{p p':PV}{eU qZ:List PV}{rows rows':Rows}{K:PV→Prop}(h1:p=p')(h2:eU=qZ)(h3:rows=rows'):pN E p eU rows K=pN E p' qZ rows' K:=by rw [h1,h2,h3]
def pO(E:Env)(p:PV)(eU:List PV)(rows:Rows)(K:PV→Nat→Row→Prop):Prop:=∃v id r,KS E p eU rows v (some (id,r))∧K v id r
@[congr] theorem afC{E:Env}{p p':PV}{eU qZ:List PV}{rows rows':Rows}{K:PV→Nat→Row→Prop}(h1:p=p')(h2:eU=qZ)(h3:rows=rows'):pO E p eU rows K=pO E p' qZ rows' K:=by rw [h1,h2,h3]
theorem FJ{fo:Operand}{args:Array Operand}{ts:Array TypeId}(W1:dO E (.call { callee:=.value fo,args:=args,argTypes:=ts })=false):aM E ops clk k (⟨d, .call { callee:=.value fo,args:=args,argTypes:=ts },ty,pos,af,none⟩::os) K ⟨f,rows,bP,aK⟩ =
  if u6 E (aO f fo)=true then pO E (aO f fo) (args.toList.map (aO f)) (eC .any ops k aK rows) (fun v id r=>aH (yL .any ops k id bP) (aM E ops clk (k+1) os K ⟨put f d v,dR rows id (some r),iX k ((args.toList.map (aO f)).flatMap aT) bP,nM k id aK⟩))
  else pN E (aO f fo) (args.toList.map (aO f)) (eC .any ops k aK rows) fun v=>aM E ops clk (k+1) os K ⟨put f d v,rows,bP,aK⟩:=by
 simp only [aM]
 rw [BN W1]
 simp only [BM W1,ys,yH,pN,aH,vD]
 have e4:(args.toList.map fun x=>aO f x)=args.toList.map (aO f):=rfl
 have e5:(args.toList.flatMap fun x=>aT (aO f x))=(args.toList.map (aO f)).flatMap aT:=by rw [List.flatMap_map]
 by_cases hm:u6 E (aO f fo)=true
 ·simp only [if_pos hm,pO]
  have TO:∀ {v e' r0},app k ⟨d, .call { callee:=.value fo,args:=args,argTypes:=ts },ty,pos,af,none⟩ true v (some (e',r0)) ⟨f,rows,bP,aK⟩=⟨put f d v,dR rows e' (some r0),iX k ((args.toList.map (aO f)).flatMap aT) bP,nM k e' aK⟩:=by
   intro v e' r0
   rw [←e5];rfl
  apply propext
  constructor
  ·rintro⟨v,u,h1,h2,h3⟩
   have PR:=h1
   unfold KS at PR
   split at PR
   ·obtain⟨_,_,_,_,_,_,_,_,_,rfl⟩:=PR
    rw [TO]at h3
    exact⟨v,_,_,h1,h2,h3⟩
   ·exact PR.elim
  ·rintro⟨v,id,r,h1,h2,h3⟩
   exact⟨v,some (id,r),h1,h2,by rw [TO];exact h3⟩
 simp only [if_neg hm]
 generalize hA:aO f fo=A
 have e1:(args.toList.map fun x=>pz (eC .any ops k aK rows) (aO f x))=(args.toList.map (aO f)).map (pz (eC .any ops k aK rows)):=by rw [List.map_map];rfl
 have e2:(args.toList.flatMap fun x=>dQ (aO f x))=(args.toList.map (aO f)).flatMap dQ:=by rw [List.flatMap_map]
 have e3:∀v,(args.toList.flatMap fun x=>dQ (aO f x)) = []→app k ⟨d, .call { callee:=.value fo,args:=args,argTypes:=ts },ty,pos,af,none⟩ true v none ⟨f,rows,bP,aK⟩=⟨put f d v,rows,bP,aK⟩:=fun v h=>fQ (TU h)
 rw [e1]
 cases A with
 | fn g bW =>
  apply propext
  constructor
  ·rintro⟨v,u,⟨rfl,⟨h1,h2⟩,h3⟩,_,h4⟩;rw [e3 v h3]at h4;exact⟨⟨h1,by rw [←e2];exact h3⟩,v,h2,h4⟩
  ·rintro⟨⟨h1,h3⟩,v,h2,h4⟩;rw [←e2]at h3;exact⟨v,none,⟨rfl,⟨h1,h2⟩,h3⟩,trivial,by rw [e3 v h3];exact h4⟩
 | _=>simp
theorem QU{g:FuncId}{args:Array Operand}{ts:Array TypeId}(hw:E.writes g=true):aM E ops clk k (⟨d, .call { callee:=.value (.func g),args:=args,argTypes:=ts },ty,pos,af,none⟩::os) K ⟨f,rows,bP,aK⟩ =
  ∃e n els,((args.toList.map (aO f)).all dB=true∧lY E.P g (args.toList.map (aO f)) e n els∧yL .any ops k (d.getD 0) bP)∧aM E ops (clk+1) (k+1) os K ⟨put f d (.own (d.getD 0) clk 0 els.length),dR rows (d.getD 0) (some ⟨clk,e,n,els⟩),bP,nM k (d.getD 0) aK⟩:=by
 have TO:(args.toList.map (aO f)).all dB=true → ∀ {v e' r0},app k ⟨d, .call { callee:=.value (.func g),args:=args,argTypes:=ts },ty,pos,af,none⟩ true v (some (e',r0)) ⟨f,rows,bP,aK⟩=⟨put f d v,dR rows e' (some r0),bP,nM k e' aK⟩:=fun hp=>vE (by simp only [iB];exact TV hp)
 simp only [aM,yn,iW]
 rw [if_pos hw]
 simp only [if_pos hw]
 apply propext
 constructor
 ·rintro⟨v,u,⟨h1,e,n,els,h2,rfl,rfl⟩,h3,h4⟩
  rw [TO h1]at h4
  exact⟨e,n,els,⟨h1,h2,h3⟩,h4⟩
 ·rintro⟨e,n,els,⟨h1,h2,h3⟩,h4⟩
  refine⟨_,_,⟨h1,e,n,els,h2,rfl,rfl⟩,h3,?_⟩
  rw [TO h1];exact h4
@[simp] theorem aqW{md:Region.Mode}{ops:List Oper}{j:Nat}{rows:Rows}:eC md ops j (fun _ _=>False) rows=rows:=by
 funext id;simp [eC]
@[simp] theorem aqX{md:Region.Mode}{ops:List Oper}{j k id:Nat}{w:Nat→Nat→Prop}{rows:Rows}:eC md ops j (nM k id w) rows=if qE md ops j k=true then eC md ops j w rows else dR (eC md ops j w rows) id none:=by
 funext x
 unfold eC nM
 by_cases hd:qE md ops j k=true
 ·rw [if_pos hd]
  have:(∃k',((k'=k∧x=id)∨w k' x)∧qE md ops j k'=false) ↔ ∃k',w k' x∧qE md ops j k'=false:=by
   constructor
   ·rintro⟨k',⟨rfl,_⟩ | h,h2⟩
    ·rw [hd]at h2;cases h2
    ·exact⟨k',h,h2⟩
   ·rintro⟨k',h,h2⟩;exact⟨k', .inr h,h2⟩
  exact(by classical exact ite_congr (propext this) (fun _=>rfl) (fun _=>rfl))
 ·rw [if_neg hd]
  have hd':qE md ops j k=false:=by simpa using hd
  simp only [dR]
  by_cases hx:x=id
  ·rw [if_pos hx,if_pos ⟨k, .inl ⟨rfl,hx⟩,hd'⟩]
  ·rw [if_neg hx]
   have:(∃k',((k'=k∧x=id)∨w k' x)∧qE md ops j k'=false) ↔ ∃k',w k' x∧qE md ops j k'=false:=by
    constructor
    ·rintro⟨k',⟨_,h⟩ | h,h2⟩
     ·exact absurd h hx
     ·exact⟨k',h,h2⟩
    ·rintro⟨k',h,h2⟩;exact⟨k', .inr h,h2⟩
   exact(by classical exact ite_congr (propext this) (fun _=>rfl) (fun _=>rfl))
@[simp] theorem ava{md:Region.Mode}{ops:List Oper}{i id:Nat}:yL md ops i id (fun _ _=>False)=True:=by simp [yL]
@[simp] theorem avb{md:Region.Mode}{ops:List Oper}{i id k:Nat}{l:List Nat}{t:Nat→Nat→Prop}:yL md ops i id (iX k l t)=((id∈l→qE md ops i k=true)∧yL md ops i id t):=by
 apply propext
 unfold yL iX
 constructor
 ·intro h;exact⟨fun hi=>h k (.inl ⟨rfl,rfl,hi⟩),fun k' hk=>h k' (.inr hk)⟩
 ·rintro⟨h1,h2⟩ k' (⟨_,rfl,h⟩ | h)
  ·exact h1 h
  ·exact h2 k' h
end
end Pm
