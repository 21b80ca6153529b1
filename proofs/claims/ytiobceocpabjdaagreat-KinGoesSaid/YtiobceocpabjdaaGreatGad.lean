import Derived.Test.YtiobceocpabjdaaGreatGac
set_option linter.unusedSimpArgs false
set_option linter.unusedVariables false
namespace Pm
open Go Go.RowKit List
variable {o ver i e n j m id a d off len clk v:Nat}{r:Row}{l l' z args rest core fD:List PV}{α:Type}{t t2:TypeId}{t' ti:TI}{k:IntKind}{b w want:Bool}{fs:List (Nat × Nat × Bool)}{E:Env}{rows rows':Rows}{p p' x' y':PV}{x y:Operand}{lo hi mx:Option Operand}{c c' A B:Prop}{els gY:List (List PV)}{f g:FuncId}{ids:List Nat}{M0:List (Nat × PV)}{op:Op}{os ops:List Oper}{s:ByteArray}{parts:Array (Nat × Operand)}{ts:Array TypeId}{P:Program}{σ:PS}
def emap{α:Type}(g:α->List PV)(l:List α):List (List PV):=l.map g
def aw{α:Type}(g:α->List PV)(l:List α):PV:=.sl (emap g l)
def nth{α:Type}[Inhabited α](l:List α)(i:Nat):α:=l[i]?.getD default
def Enc{α:Type}(g:α->List PV)(n:Nat):Prop:=∀x,(g x).length=n
def akl{α:Type}(g:α->List PV):Prop:=∀x,(g x).all aF=true
def bP(o:Option Row)(ver:Nat)(K:Row->Prop):Prop:=∃r,o=some r∧r.ver=ver∧K r
@[congr] theorem XC{o o':Option Row}{K:Row->Prop}(h:o=o'):bP o ver K=bP o' ver K:=by rw [h]
@[simp] theorem Yw{K:Row->Prop}:bP (some r) ver K=aA (r.ver=ver) (K r):=by simp [bP,aA]
def G2(els:List (List PV))(i:Nat)(K:List PV->Prop):Prop:=∃el,els[i]? = some el∧K el
@[congr] theorem ahS{l l':List (List PV)}{i':Nat}{K:List PV->Prop}(h:l=l')(hi:i=i'):G2 l i K=G2 l' i' K:=by rw [h,hi]
@[simp] theorem G3[Inhabited α]{g:α->List PV}{l:List α}{K:List PV->Prop}:G2 (emap g l) i K=aA (i<l.length) (K (g (nth l i))):=by
 simp only [G2,emap,aA,nth];apply propext
 constructor
 ·rintro⟨el,h1,h2⟩;simp at h1;obtain⟨x,h1,rfl⟩:=h1;have:=(List.getElem?_eq_some_iff.1 h1).1;rw [h1];exact⟨this,h2⟩
 ·rintro⟨h1,h2⟩;rw [getElem?_eq_getElem h1]at h2;exact⟨g l[i],by simp [h1],h2⟩
@[simp] theorem akm{e:List PV}{es:List (List PV)}{K:List PV->Prop}:G2 (e::es) 0 K=go (K e):=by show _=K e;simp [G2]
def m9{α:Type}(l:List α)(i:Nat):Option α:=l[i]?
@[simp] theorem ahT{x:α}{l:List α}:m9 (x::l) 0=some x:=rfl
@[simp] theorem ahU{x:α}{l:List α}:m9 (x::l) (n+1)=m9 l n:=rfl
def gJ{α:Type}(o:Option α)(K:α->Prop):Prop:=∃v,o=some v∧K v
@[congr] theorem aep{o o':Option α}{K:α->Prop}(h:o=o'):gJ o K=gJ o' K:=by rw [h]
@[simp] theorem ahV{x:α}{K:α->Prop}:gJ (some x) K=go (K x):=by show _=K x;simp [gJ]
def C6(ti:TI)(l:List PV)(j:Nat)(K:PV->Prop):Prop:=if ti.agg=true then aA (j+ti.size<=l.length) (K (.ag ((l.drop j).take ti.size)))else gJ (m9 l j) K
@[congr] theorem ahW{t:TI}{K:PV->Prop}(h1:t=t')(h2:l=l'):C6 t l j K=C6 t' l' j K:=by rw [h1,h2]
@[simp] theorem aoJ{K:PV->Prop}:C6 (.int k) l j K=gJ (m9 l j) K:=by simp [C6,TI.agg]
@[simp] theorem akn{K:PV->Prop}:C6 .bool l j K=gJ (m9 l j) K:=by simp [C6,TI.agg]
@[simp] theorem ahX{b:Nat}{K:PV->Prop}:C6 (.slice e n b z) l j K=gJ (m9 l j) K:=by simp [C6,TI.agg]
@[simp] theorem aoK{K:PV->Prop}:C6 (.arr e m n z) l j K=aA (j+z.length<=l.length) (K (.ag ((l.drop j).take z.length))):=by simp [C6,TI.agg,TI.size,TI.zero]
@[simp] theorem aeq{K:PV->Prop}:C6 (.struct fs z) l j K=aA (j+z.length<=l.length) (K (.ag ((l.drop j).take z.length))):=by simp [C6,TI.agg,TI.size,TI.zero]
def kr(E:Env)(t:TypeId)(rows:Rows)(p:PV)(K:PV->Prop):Prop:=
 aA ((E.ty t).known=true) (match p with
 | .rd l=>C6 (E.ty t) l 0 K
 | .ptr id ver i j=>bP (rows id) ver fun r=>G2 r.els i fun el=>C6 (E.ty t) el j K
 | _=>False)
@[congr] theorem Yx{K:PV->Prop}(h:p=p'):kr E t rows p K=kr E t rows p' K:=by rw [h]
@[simp] theorem ahY{K:PV->Prop}:kr E t rows (.rd l) K=aA ((E.ty t).known=true) (C6 (E.ty t) l 0 K):=rfl
@[simp] theorem aer{K:PV->Prop}:kr E t rows (.ptr id ver i j) K=aA ((E.ty t).known=true) (bP (rows id) ver fun r=>G2 r.els i fun el=>C6 (E.ty t) el j K):=rfl
theorem G4{K:PV->Prop}:bu (fun v=>if ti.agg=true then j+ti.size<=l.length∧v = .ag ((l.drop j).take ti.size)else l[j]? = some v) K=C6 ti l j K:=by
 simp only [C6,gJ]
 split
 ·rw [kq,kX]
 ·rfl
theorem tU{K:PV->Prop}:bu (fun v=>qG E t rows p v) K=kr E t rows p K:=by
 simp only [qG,kr];rw [kq];congr 1;cases p with
 | rd l=>dsimp only;rw [<-G4];simp [go]
 | ptr id ver i j =>
  simp only [bP,G2,<-G4];apply propext;simp only [bu]
  constructor
  ·rintro⟨v,⟨r,h1,h2,el,h3,h4⟩,h5⟩;exact⟨r,h1,h2,el,h3,v,h4,h5⟩
  ·rintro⟨r,h1,h2,el,h3,v,h4,h5⟩;exact⟨v,⟨r,h1,h2,el,h3,h4⟩,h5⟩
 | _=>simp [bu]
def lV(ti:TI)(i:Nat)(x:PV)(K:PV->Prop):Prop:=
 match ti with
 | .struct fs _=>gJ (m9 fs i) fun p=>match x with
  | .ag l=>if p.2.2=true then K (.ag ((l.drop p.1).take p.2.1))else gJ (m9 l p.1) K
  | _=>False
 | _=>False
@[congr] theorem XD{t:TI}{x:PV}{K:PV->Prop}(h:t=t')(h2:x=x'):lV t i x K=lV t' i x' K:=by rw [h,h2]
def Kn(p:Nat × Nat × Bool)(l:List PV)(K:PV->Prop):Prop:=if p.2.2=true then K (.ag ((l.drop p.1).take p.2.1))else gJ (m9 l p.1) K
@[simp] theorem aes{K:PV->Prop}:Kn (o,n,false) l K=gJ (m9 l o) K:=by simp [Kn]
@[congr] theorem aet{p p':Nat × Nat × Bool}{K:PV->Prop}(h:p=p')(h2:l=l'):Kn p l K=Kn p' l' K:=by rw [h,h2]
@[simp] theorem aeu{K:PV->Prop}:lV (.struct fs z) i (.ag l) K=gJ (m9 fs i) fun p=>Kn p l K:=rfl
theorem G5{x:PV}{K:PV->Prop}:bu (fun v=>wP E t i x v) K=lV (E.ty t) i x K:=by
 simp only [wP,lV];cases E.ty t with
 | struct fs z =>
  simp only [gJ];apply propext;simp only [bu];cases x with
  | ag l =>
   simp only
   constructor
   ·rintro⟨v,⟨o,n,b,h1,h2⟩,h3⟩;refine⟨_,h1,?_⟩;simp only
    split at h2
    ·rename_i hb;rw [if_pos hb,<-h2];exact h3
    ·rename_i hb;rw [if_neg hb];exact⟨v,h2,h3⟩
   ·rintro⟨⟨o,n,b⟩,h1,h2⟩;simp only at h2
    split at h2
    ·rename_i hb;exact⟨_,⟨o,n,b,h1,by rw [if_pos hb]⟩,h2⟩
    ·rename_i hb;obtain⟨v,h3,h4⟩:=h2;exact⟨v,⟨o,n,b,h1,by rw [if_neg hb];exact h3⟩,h4⟩
  | _=>simp
 | _=>simp [bu]
def dF(ti:TI)(rows:Rows)(i:Nat)(x:PV)(K:PV->Prop):Prop:=
 match ti with
 | .struct fs _=>gJ (m9 fs i) fun p=>match x with
  | .rd l=>aA (p.1<=l.length) (K (.rd (l.drop p.1)))
  | .ptr id ver a j=>bP (rows id) ver fun _=>K (.ptr id ver a (j+p.1))
  | _=>False
 | _=>False
@[congr] theorem MV{t:TI}{x:PV}{K:PV->Prop}(h:t=t')(h2:x=x'):dF t rows i x K=dF t' rows i x' K:=by rw [h,h2]
@[simp] theorem TB{K:PV->Prop}:dF (.struct fs z) rows i (.rd l) K=gJ (m9 fs i) fun p=>aA (p.1<=l.length) (K (.rd (l.drop p.1))):=rfl
@[simp] theorem Sd{K:PV->Prop}:dF (.struct fs z) rows i (.ptr id ver a j) K=gJ (m9 fs i) fun p=>bP (rows id) ver fun _=>K (.ptr id ver a (j+p.1)):=rfl
theorem pU{x:PV}{K:PV->Prop}:bu (fun v=>dO E t rows i x v) K=dF (E.ty t) rows i x K:=by
 simp only [dO,dF];cases E.ty t with
 | struct fs z =>
  simp only [gJ];apply propext;simp only [bu];cases x with
  | rd l =>
   simp only [aA]
   constructor
   ·rintro⟨v,⟨o,n,b,h1,h2,rfl⟩,h3⟩;exact⟨_,h1,h2,h3⟩
   ·rintro⟨⟨o,n,b⟩,h1,h2,h3⟩;exact⟨_,⟨o,n,b,h1,h2,rfl⟩,h3⟩
  | ptr id ver a j =>
   simp only [bP]
   constructor
   ·rintro⟨v,⟨o,n,b,h1,⟨r,h2,h3⟩,rfl⟩,h4⟩;exact⟨_,h1,r,h2,h3,h4⟩
   ·rintro⟨⟨o,n,b⟩,h1,r,h2,h3,h4⟩;exact⟨_,⟨o,n,b,h1,⟨r,h2,h3⟩,rfl⟩,h4⟩
  | _=>simp
 | _=>simp [bu]
def bC(n:Nat)(l:List (List PV)):Prop:=∀e∈l,e.length=n
@[simp] theorem cE{g:α->List PV}{l:List α}:(Enc g n)->bC n (emap g l)=True:=by intro h;simp only [bC,emap,mem_map,eq_iff_iff,iff_true];rintro e ⟨x,_,rfl⟩;exact h x
@[simp] theorem aev:bC n []=True:=by simp [bC]
@[simp] theorem abL{e:List PV}{l:List (List PV)}:bC n (e::l)=(e.length=n∧bC n l):=by simp [bC]
def cL(ti:TI)(rows:Rows)(x ix:PV)(K:PV->Prop):Prop:=
 match ti,ix with
 | .slice _ n _ _, .int _ k=>aA (0<=k) (match x with
  | .sl l=>aA (bC n l) (G2 l k.toNat fun el=>K (.rd el))
  | .iE l=>aA (bC n l) (G2 l k.toNat fun el=>K (.rd el))
  | .own id ver off len=>bP (rows id) ver fun r=>aA (r.size=n∧k.toNat<len) (K (.ptr id ver (off+k.toNat) 0))
  | _=>False)
 | .arr _ m n _, .int _ k=>aA (0<=k∧k.toNat<m) (match x with
  | .rd l=>aA (k.toNat*n<=l.length) (K (.rd (l.drop (k.toNat*n))))
  | .ptr id ver a j=>bP (rows id) ver fun _=>K (.ptr id ver a (j+k.toNat*n))
  | _=>False)
 | _,_=>False
@[congr] theorem MW{t:TI}{x y:PV}{K:PV->Prop}(h:t=t')(h2:x=x')(h3:y=y'):cL t rows x y K=cL t' rows x' y' K:=by rw [h,h2,h3]
section
variable {α:Type} [Inhabited α] {g:α->List PV} {l:List α} {e n b:Nat} {z:List PV} {rows:Rows} {kk:IntKind} {k:Int} {K:PV->Prop} {els:List (List PV)} {id ver off len:Nat}
@[simp] theorem Se:cL (.slice e n b z) rows (aw g l) (.int kk k) K=aA (0<=k∧k.toNat<l.length) (aA (bC n (emap g l)) (K (.rd (g (nth l k.toNat))))):=by
 simp only [cL,aw,G3,aA,and_assoc];apply propext
 constructor
 ·rintro⟨h1,h2,h3,h4⟩;exact⟨h1,h3,h2,h4⟩
 ·rintro⟨h1,h2,h3,h4⟩;exact⟨h1,h3,h2,h4⟩
@[simp] theorem TC:cL (.slice e n b z) rows (.sl els) (.int kk k) K=aA (0<=k) (aA (bC n els) (G2 els k.toNat fun el=>K (.rd el))):=rfl
@[simp] theorem Sj:cL (.slice e n b z) rows (.iE els) (.int kk k) K=aA (0<=k) (aA (bC n els) (G2 els k.toNat fun el=>K (.rd el))):=rfl
@[simp] theorem Sk{l:List PV}:cL (.arr e m n z) rows (.rd l) (.int kk k) K=aA (0<=k∧k.toNat<m) (aA (k.toNat*n<=l.length) (K (.rd (l.drop (k.toNat*n))))):=rfl
@[simp] theorem PQ:cL (.arr e m n z) rows (.ptr id ver a j) (.int kk k) K=aA (0<=k∧k.toNat<m) (bP (rows id) ver fun _=>K (.ptr id ver a (j+k.toNat*n))):=rfl
@[simp] theorem Sm:cL (.slice e n b z) rows (.own id ver off len) (.int kk k) K=aA (0<=k) (bP (rows id) ver fun r=>aA (r.size=n∧k.toNat<len) (K (.ptr id ver (off+k.toNat) 0))):=rfl
end
theorem pV{x ix:PV}{K:PV->Prop}:bu (fun v=>eG E t rows x ix v) K=cL (E.ty t) rows x ix K:=by
 simp only [eG,cL];cases E.ty t with
 | slice e n b z =>
  cases ix with
  | int kk k =>
   simp only;rw [kq];congr 1;cases x with
   | sl l =>
    simp only [aA,G2,bC];apply propext;simp only [bu]
    constructor
    ·rintro⟨v,⟨el,h1,h2,rfl⟩,h4⟩;exact⟨h2,el,h1,h4⟩
    ·rintro⟨h2,el,h1,h4⟩;exact⟨_,⟨el,h1,h2,rfl⟩,h4⟩
   | iE l =>
    simp only [aA,G2,bC];apply propext;simp only [bu]
    constructor
    ·rintro⟨v,⟨el,h1,h2,rfl⟩,h4⟩;exact⟨h2,el,h1,h4⟩
    ·rintro⟨h2,el,h1,h4⟩;exact⟨_,⟨el,h1,h2,rfl⟩,h4⟩
   | own id ver off len =>
    simp only [aA,bP];apply propext;simp only [bu]
    constructor
    ·rintro⟨v,⟨r,h1,h2,h3,h4,rfl⟩,h5⟩;exact⟨r,h1,h2,⟨h3,h4⟩,h5⟩
    ·rintro⟨r,h1,h2,⟨h3,h4⟩,h5⟩;exact⟨_,⟨r,h1,h2,h3,h4,rfl⟩,h5⟩
   | _=>simp [bu]
  | _=>simp [bu]
 | arr e m n z =>
  cases ix with
  | int kk k =>
   simp only;rw [kq];congr 1;cases x with
   | rd l =>
    simp only;rw [kq,kX]
   | ptr id ver a j =>
    simp only [bP];apply propext;simp only [bu]
    constructor
    ·rintro⟨v,⟨⟨r,h1,h2⟩,rfl⟩,h3⟩;exact⟨r,h1,h2,h3⟩
    ·rintro⟨r,h1,h2,h3⟩;exact⟨_,⟨⟨r,h1,h2⟩,rfl⟩,h3⟩
   | _=>simp [bu]
  | _=>simp [bu]
 | _=>simp [bu]
def xR(d:Nat)(o:Option PV)(K:Nat->Prop):Prop:=
 match o with
 | none=>K d
 | some (.int _ k)=>aA (0<=k) (K k.toNat)
 | some _=>False
@[congr] theorem ahZ{d':Nat}{o o':Option PV}{K:Nat->Prop}(h:d=d')(h2:o=o'):xR d o K=xR d' o' K:=by rw [h,h2]
@[simp] theorem ako{K:Nat->Prop}:xR d none K=go (K d):=rfl
@[simp] theorem akp{kk:IntKind}{k:Int}{K:Nat->Prop}:xR d (some (.int kk k)) K=aA (0<=k) (K k.toNat):=rfl
theorem Ko{o:Option PV}{K:Nat->Prop}:xR d o K ↔ ∃n,uH d o n∧K n:=by
 cases o with
 | none=>simp [xR,uH]
 | some p =>
  cases p with
  | int kk k =>
   simp only [xR,uH,aA]
   constructor
   ·rintro⟨h1,h2⟩;exact⟨_,⟨h1,rfl⟩,h2⟩
   ·rintro⟨n,⟨h1,rfl⟩,h2⟩;exact⟨h1,h2⟩
  | _=>simp [xR,uH]
def PR{α:Type}(mk mkx:List α->PV)(n:Nat)(l:List α)(ok:Prop)(lo hi mx:Option PV)(K:PV->Prop):Prop:=
 xR 0 lo fun a=>xR l.length hi fun b=>aA (a<=b∧b<=l.length) (aA ok (match mx with
  | none=>K (mk ((l.take b).drop a))
  | some m=>xR 0 (some m) fun c=>aA (b=c∧hi.isSome=true) (K (mkx ((l.take b).drop a)))))
def fT(ti:TI)(rows:Rows)(x:PV)(lo hi mx:Option PV)(K:PV->Prop):Prop:=
 match ti with
 | .slice _ n _ _ =>
  match x with
  | .nil=>xR 0 lo fun a=>xR 0 hi fun b=>aA (a=0∧b=0∧mx.isNone=true) (K .nil)
  | .sl l=>PR .sl .iE n l (bC n l) lo hi mx K
  | .iE l=>PR .sl .iE n l (bC n l) lo hi mx K
  | .own id ver off len=>bP (rows id) ver fun r=>aA (r.size=n) (xR 0 lo fun a=>xR len hi fun b=>aA (a<=b∧b<=len∧mx.isNone=true) (K (.own id ver (off+a) (b-a))))
  | _=>False
 | _=>False
@[congr] theorem XE{t:TI}{x:PV}{lo iQ hi iK mx mx':Option PV}{K:PV->Prop}(h:t=t')(h2:x=x')(h3:lo=iQ)(h4:hi=iK)(h5:mx=mx'):fT t rows x lo hi mx K=fT t' rows x' iQ iK mx' K:=by rw [h,h2,h3,h4,h5]
section
variable {α:Type} {g:α->List PV} {l:List α} {e n b:Nat} {z:List PV} {rows:Rows} {lo hi mx:Option PV} {K:PV->Prop} {els:List (List PV)} {id ver off len:Nat}
theorem G6{b:Nat}:((emap g l).take b).drop a=emap g ((l.take b).drop a):=by simp [emap]
@[simp] theorem abM:fT (.slice e n b z) rows (aw g l) lo hi none K=xR 0 lo fun a=>xR l.length hi fun b=>aA (a<=b∧b<=l.length) (aA (bC n (emap g l)) (K (aw g ((l.take b).drop a)))):=by simp only [fT,aw,PR,G6];simp [emap]
theorem EF{m:PV}:fT (.slice e n b z) rows (aw g l) lo hi (some m) K=xR 0 lo fun a=>xR l.length hi fun b=>aA (a<=b∧b<=l.length) (aA (bC n (emap g l)) (xR 0 (some m) fun c=>aA (b=c∧hi.isSome=true) (K (.iE (emap g ((l.take b).drop a)))))):=by simp only [fT,aw,PR,G6];simp [emap]
@[simp] theorem abN:fT (.slice e n b z) rows .nil lo hi mx K=xR 0 lo fun a=>xR 0 hi fun b=>aA (a=0∧b=0∧mx.isNone=true) (K .nil):=rfl
@[simp] theorem abO:fT (.slice e n b z) rows (.own id ver off len) lo hi mx K=bP (rows id) ver fun r=>aA (r.size=n) (xR 0 lo fun a=>xR len hi fun b=>aA (a<=b∧b<=len∧mx.isNone=true) (K (.own id ver (off+a) (b-a)))):=rfl
end
theorem MX{l:List (List PV)}{lo hi mx:Option PV}{K:PV->Prop}:(∃v,(∃a b,uH 0 lo a∧uH l.length hi b∧a<=b∧b<=l.length∧(∀e∈l,e.length=n)∧Jx l a b hi mx v)∧K v)↔PR .sl .iE n l (bC n l) lo hi mx K:=by
 simp only [PR,Ko,aA,bC,Jx]
 constructor
 ·rintro⟨v,⟨a,b,h1,h2,h3,h4,h5,h6⟩,h7⟩;refine⟨a,h1,b,h2,⟨h3,h4⟩,h5,?_⟩;cases mx with
  | none=>simp only at h6 |-;rw [<-h6];exact h7
  | some m=>obtain⟨c,q1,q2,q3,rfl⟩:=h6;exact⟨c,q1,⟨q2,q3⟩,h7⟩
 ·rintro⟨a,h1,b,h2,⟨h3,h4⟩,h5,h6⟩;cases mx with
  | none=>exact⟨_,⟨a,b,h1,h2,h3,h4,h5,rfl⟩,h6⟩
  | some m=>obtain⟨c,q1,⟨q2,q3⟩,h7⟩:=h6;exact⟨_,⟨a,b,h1,h2,h3,h4,h5,c,q1,q2,q3,rfl⟩,h7⟩
theorem xS{x:PV}{lo hi mx:Option PV}{K:PV->Prop}:bu (fun v=>nU E t rows x lo hi mx v) K=fT (E.ty t) rows x lo hi mx K:=by
 simp only [nU,fT];cases E.ty t with
 | slice e n b z =>
  cases x with
  | sl l=>exact propext MX
  | iE l=>exact propext MX
  | nil =>
   simp only [Ko,aA];apply propext;simp only [bu]
   constructor
   ·rintro⟨v,⟨a,b,h1,h2,h3,h4,h5,rfl⟩,h6⟩;exact⟨a,h1,b,h2,⟨h3,h4,h5⟩,h6⟩
   ·rintro⟨a,h1,b,h2,⟨h3,h4,h5⟩,h6⟩;exact⟨_,⟨a,b,h1,h2,h3,h4,h5,rfl⟩,h6⟩
  | own id ver off len =>
   simp only [Ko,aA,bP];apply propext;simp only [bu]
   constructor
   ·rintro⟨v,⟨r,q1,q2,q3,a,b,h1,h2,h3,h4,h5,rfl⟩,h6⟩;exact⟨r,q1,q2,q3,a,h1,b,h2,⟨h3,h4,h5⟩,h6⟩
   ·rintro⟨r,q1,q2,q3,a,h1,b,h2,⟨h3,h4,h5⟩,h6⟩;exact⟨_,⟨r,q1,q2,q3,a,b,h1,h2,h3,h4,h5,rfl⟩,h6⟩
  | _=>simp [bu]
 | _=>simp [bu]
def tH(rows:Rows)(x:PV)(K:PV->Prop):Prop:=
 match x with
 | .rd l=>K (.rd l)
 | .ptr id ver i j=>bP (rows id) ver fun _=>K (.ptr id ver i j)
 | _=>False
@[congr] theorem abP{x:PV}{K:PV->Prop}(h:x=x'):tH rows x K=tH rows x' K:=by rw [h]
@[simp] theorem akq{K:PV->Prop}:tH rows (.rd l) K=go (K (.rd l)):=rfl
@[simp] theorem ah0{K:PV->Prop}:tH rows (.ptr id ver i j) K=bP (rows id) ver fun _=>K (.ptr id ver i j):=rfl
theorem C7{x:PV}{K:PV->Prop}:bu (fun v=>wQ rows x v) K=tH rows x K:=by
 simp only [wQ,tH];cases x with
 | rd l=>dsimp only;rw [kX]
 | ptr id ver i j =>
  simp only [bP];apply propext;simp only [bu]
  constructor
  ·rintro⟨v,⟨⟨r,h1,h2⟩,rfl⟩,h3⟩;exact⟨r,h1,h2,h3⟩
  ·rintro⟨r,h1,h2,h3⟩;exact⟨_,⟨⟨r,h1,h2⟩,rfl⟩,h3⟩
 | _=>simp [bu]
def lN(ti:TI)(rows:Rows)(x:PV)(K:PV->Prop):Prop:=
 match ti with
 | .slice _ _ _ _=>match x with
  | .nil=>K (.int .i64 0)
  | .sl l=>K (.int .i64 l.length)
  | .iE l=>K (.int .i64 l.length)
  | .own id ver _ len=>bP (rows id) ver fun _=>K (.int .i64 len)
  | _=>False
 | _=>False
@[congr] theorem abQ{t:TI}{x:PV}{K:PV->Prop}(h:t=t')(h2:x=x'):lN t rows x K=lN t' rows x' K:=by rw [h,h2]
section
variable {α:Type} {g:α->List PV} {l:List α} {e n b:Nat} {z:List PV} {rows:Rows} {K:PV->Prop} {els:List (List PV)} {id ver off len:Nat}
@[simp] theorem ah1:lN (.slice e n b z) rows (aw g l) K=go (K (.int .i64 l.length)):=by show _=K _;simp [lN,aw,emap]
@[simp] theorem ah2:lN (.slice e n b z) rows .nil K=go (K (.int .i64 0)):=rfl
@[simp] theorem akr:lN (.slice e n b z) rows (.sl els) K=go (K (.int .i64 els.length)):=rfl
@[simp] theorem ah3:lN (.slice e n b z) rows (.iE els) K=go (K (.int .i64 els.length)):=rfl
@[simp] theorem ah4:lN (.slice e n b z) rows (.own id ver off len) K=bP (rows id) ver fun _=>K (.int .i64 len):=rfl
end
theorem C8{x:PV}{K:PV->Prop}:bu (fun v=>xH ti rows x v) K=lN ti rows x K:=by
 simp only [xH,lN];cases ti with
 | slice e n b z =>
  apply propext;simp only [bu,Pc];cases x with
  | own id ver off len =>
   simp only [bP]
   constructor
   ·rintro⟨v,⟨n,⟨⟨r,h1,h2⟩,rfl⟩,rfl⟩,h4⟩;exact⟨r,h1,h2,h4⟩
   ·rintro⟨r,h1,h2,h4⟩;exact⟨_,⟨_,⟨⟨r,h1,h2⟩,rfl⟩,rfl⟩,h4⟩
  | _=>simp
 | _=>simp [bu]
def fQ(els:List (List PV))(i j:Nat)(l:List PV):List (List PV):=els.set i (((els[i]?).getD []).take j++l++((els[i]?).getD []).drop (j+l.length))
def tI(els:List (List PV))(i n:Nat):Prop:=∃el,els[i]? = some el∧n<=el.length
def jk(rows:Rows)(l:List PV):Prop:=∀q∈l,ib rows q
@[simp] theorem aew:jk rows []=True:=by simp [jk]
@[simp] theorem abR:jk rows (p::l)=(ib rows p∧jk rows l):=by simp [jk]
@[simp] theorem aex[Inhabited α]{g:α->List PV}{l:List α}:tI (emap g l) i n=(i<l.length∧n<=(g (nth l i)).length):=by exact G3 (g:=g) (l:=l) (i:=i) (K:=fun el=>n<=el.length)
def jR(E:Env)(t:TypeId)(rows:Rows)(p x:PV)(K:Nat->Row->Prop):Prop:=
 aA ((E.ty t).known=true) (match p with
 | .ptr id ver i j=>bP (rows id) ver fun r=>gJ (cD x) fun l=>aA (tI r.els i (j+l.length)∧jk rows l∧l.length=(E.ty t).size) (K id ⟨ver,r.e,r.size,fQ r.els i j l⟩)
 | _=>False)
@[congr] theorem XF{x:PV}{K:Nat->Row->Prop}(h1:p=p')(h2:x=x'):jR E t rows p x K=jR E t rows p' x' K:=by rw [h1,h2]
@[simp] theorem abS{x:PV}{K:Nat->Row->Prop}:jR E t rows (.ptr id ver i j) x K=aA ((E.ty t).known=true) (bP (rows id) ver fun r=>gJ (cD x) fun l=>aA (tI r.els i (j+l.length)∧jk rows l∧l.length=(E.ty t).size) (K id ⟨ver,r.e,r.size,fQ r.els i j l⟩)):=rfl
theorem C9{x:PV}{K:Nat->Row->Prop}:(∃id r,qL E t rows p x .undef (some (id,r))∧K id r)=jR E t rows p x K:=by
 simp only [qL,jR,aA,bP,gJ,tI,jk];apply propext
 constructor
 ·rintro⟨id,r,⟨h1,_,h2⟩,h3⟩;refine⟨h1,?_⟩
  split at h2
  ·obtain⟨r0,q1,q2,el,q3,l,q4,q5,q6,q7,q8⟩:=h2;simp only [Option.some.injEq,Prod.mk.injEq]at q8;obtain⟨rfl,rfl⟩:=q8;refine⟨r0,q1,q2,l,q4,⟨⟨el,q3,q7⟩,q5,q6⟩,?_⟩;simp only [fQ,q3,Option.getD_some];rw [q2]at h3;exact h3
  ·exact h2.elim
 ·rintro⟨h1,h2⟩
  split at h2
  ·obtain⟨r0,q1,q2,l,q4,⟨⟨el,q3,q7⟩,q5,q6⟩,h3⟩:=h2;simp only [fQ,q3,Option.getD_some]at h3;refine⟨_,_,⟨h1,trivial,r0,q1,q2,el,q3,l,q4,q5,q6,q7,rfl⟩,?_⟩;rw [<-q2]at h3;exact h3
  ·exact h2.elim
def jS(rows:Rows)(y:PV)(K:List (List PV)->Prop):Prop:=
 match y with
 | .nil=>K []
 | .sl k=>K k
 | .iE k=>K k
 | .own id ver off len=>bP (rows id) ver fun r=>K ((r.els.drop off).take len)
 | _=>False
@[congr] theorem abT{y:PV}{K:List (List PV)->Prop}(h:y=y'):jS rows y K=jS rows y' K:=by rw [h]
@[simp] theorem ah5{K:List (List PV)->Prop}:jS rows .nil K=go (K []):=rfl
@[simp] theorem aks{l:List (List PV)}{K:List (List PV)->Prop}:jS rows (.sl l) K=go (K l):=rfl
@[simp] theorem ah6{g:α->List PV}{l:List α}{K:List (List PV)->Prop}:jS rows (aw g l) K=go (K (emap g l)):=rfl
@[simp] theorem ah7{l:List (List PV)}{K:List (List PV)->Prop}:jS rows (.iE l) K=go (K l):=rfl
@[simp] theorem ah8{K:List (List PV)->Prop}:jS rows (.own id ver off len) K=bP (rows id) ver fun r=>K ((r.els.drop off).take len):=rfl
theorem MY{y:PV}{K:List (List PV)->Prop}:(∃l,qP rows y l∧K l)=jS rows y K:=by
 simp only [qP,jS];apply propext;cases y with
 | own id ver off len =>
  simp only [bP]
  constructor
  ·rintro⟨l,⟨r,h1,h2,rfl⟩,h3⟩;exact⟨r,h1,h2,h3⟩
  ·rintro⟨r,h1,h2,h3⟩;exact⟨_,⟨r,h1,h2,rfl⟩,h3⟩
 | _=>simp
def iH(c:Prop)(len:Nat)(els:List (List PV))(K:List (List PV)->Prop):Prop:=(c∧K els)∨(¬c∧len<=els.length∧K (els.take len))
@[congr] theorem XG{aey:Nat}{K:List (List PV)->Prop}(h:c=c')(h1:len=aey)(h2:els=gY):iH c len els K=iH c' aey gY K:=by rw [h,h1,h2]
theorem EG{K:List (List PV)->Prop}:iH True len els K=K els:=by simp [iH]
theorem MZ{K:List (List PV)->Prop}:iH (len=els.length) len els K=(len<=els.length∧K (els.take len)):=by
 apply propext
 constructor
 ·rintro(⟨h,hK⟩ | ⟨_,h,hK⟩)
  ·exact⟨aa,by rw [take_of_length_le aa];exact hK⟩
  ·exact⟨h,hK⟩
 ·rintro⟨h,hK⟩
  by_cases hc:len=els.length
  ·exact .inl ⟨hc,by rw [take_of_length_le aa]at hK;exact hK⟩
  ·exact .inr ⟨hc,h,hK⟩
theorem aq4{K:List (List PV)->Prop}(hc:c->len=els.length)(hl:len<=els.length)(hK:go (K (els.take len))):iH c len els K:=by
 by_cases h:c
 ·exact .inl ⟨h,by rw [take_of_length_le (by rw [hc h];omega)]at hK;exact hK⟩
 ·exact .inr ⟨h,hl,hK⟩
def qW(t:TI)(rows:Rows)(x y:PV)(clk d:Nat)(K:PV->Rows->Nat->Prop):Prop:=
 match t with
 | .slice e n b _=>jS rows y fun l=>aA (bC n l) (match x with
  | .nil=>aA (l.length<=room∧l.length*b<=room) (K (.own d clk 0 l.length) (dH rows d (some ⟨clk,e,n,l⟩)) (clk+1))
  | .own id ver off len=>bP (rows id) ver fun r=>aA (off=0∧r.e=e∧r.size=n) (iH (len=r.els.length) len r.els fun els=>aA (len+l.length<=room∧(len+l.length)*b<=room) (K (.own id clk 0 (len+l.length)) (dH rows id (some ⟨clk,e,n,els++l⟩)) (clk+1)))
  | .iE l0=>aA (bC n l0 ∧ ∀e∈l,∀p∈e,aF p=true) (aA (l0.length+l.length<=room∧(l0.length+l.length)*b<=room) (K (.sl (l0++l)) rows clk))
  | _=>False)
 | _=>False
@[congr] theorem abU{t:TI}{x y:PV}{K:PV->Rows->Nat->Prop}(h1:t=t')(h3:x=x')(h4:y=y') :
  qW t rows x y clk d K=qW t' rows x' y' clk d K:=by rw [h1,h3,h4]
section
variable {e n b clk d id ver off len:Nat} {z:List PV} {rows:Rows} {y:PV} {K:PV->Rows->Nat->Prop} {l0:List (List PV)}
@[simp] theorem ah9:qW (.slice e n b z) rows .nil y clk d K=jS rows y fun l=>aA (bC n l) (aA (l.length<=room∧l.length*b<=room) (K (.own d clk 0 l.length) (dH rows d (some ⟨clk,e,n,l⟩)) (clk+1))):=rfl
@[simp] theorem aia:qW (.slice e n b z) rows (.own id ver off len) y clk d K=jS rows y fun l=>aA (bC n l) (bP (rows id) ver fun r=>aA (off=0∧r.e=e∧r.size=n) (iH (len=r.els.length) len r.els fun els=>aA (len+l.length<=room∧(len+l.length)*b<=room) (K (.own id clk 0 (len+l.length)) (dH rows id (some ⟨clk,e,n,els++l⟩)) (clk+1)))):=rfl
@[simp] theorem aib:qW (.slice e n b z) rows (.iE l0) y clk d K=jS rows y fun l=>aA (bC n l) (aA (bC n l0 ∧ ∀e∈l,∀p∈e,aF p=true) (aA (l0.length+l.length<=room∧(l0.length+l.length)*b<=room) (K (.sl (l0++l)) rows clk))):=rfl
end
theorem Yy{t:TI}{x y:PV}{K:PV->Rows->Nat->Prop}:PE t rows x y clk d K=qW t rows x y clk d K:=by
 unfold PE qW;cases t with
 | slice e n b z =>
  dsimp only;rw [<-MY];congr 1;funext l;congr 1;simp only [aA,bC];congr 1;cases x with
  | own id ver off len =>
   simp only [bP,MZ];apply propext
   constructor
   ·rintro⟨r,h1,h2,h3,h4,h5,h6,h7⟩;exact⟨r,h1,h2,⟨h3,h5,h6⟩,h4,h7⟩
   ·rintro⟨r,h1,h2,⟨h3,h5,h6⟩,h4,h7⟩;exact⟨r,h1,h2,h3,h4,h5,h6,h7⟩
  | iE l0=>simp only [bC,and_assoc]
  | _=>rfl
 | _=>rfl
def fzR(o:Option Row)(ver off len:Nat):PV:=
 match o with
 | some r=>if r.ver=ver then .sl ((r.els.drop off).take len)else .undef
 | none => .undef
@[simp] theorem aq5:fz rows (.own id ver off len)=fzR (rows id) ver off len:=rfl
@[simp] theorem akt{g:α->List PV}{l:List α}:fzR (some ⟨ver,e,n,emap g l⟩) ver off len=aw g ((l.drop off).take len):=by simp [fzR,aw,emap]
@[simp] theorem aq6:fz rows .nil = .sl []:=rfl
@[simp] theorem aq7{l:List (List PV)}:fz rows (.iE l) = .sl l:=rfl
@[simp] theorem auy{l:List (List PV)}:fz rows (.sl l) = .sl l:=rfl
@[simp] theorem aq8{g:α->List PV}{l:List α}:fz rows (aw g l)=aw g l:=rfl
@[simp] theorem aq9{n:Int}:fz rows (.int k n) = .int k n:=rfl
@[simp] theorem aoL:fz rows (.bool b) = .bool b:=rfl
@[simp] theorem auz:fz rows (.fn f l) = .fn f l:=rfl
@[simp] theorem ara:pz rows (.own id ver off len)=fzR (rows id) ver off len:=rfl
@[simp] theorem arb:pz rows .nil = .sl []:=rfl
@[simp] theorem arc{l:List (List PV)}:pz rows (.iE l) = .sl l:=rfl
@[simp] theorem auA{l:List (List PV)}:pz rows (.sl l) = .sl l:=rfl
@[simp] theorem ard{g:α->List PV}{l:List α}:pz rows (aw g l)=aw g l:=rfl
@[simp] theorem arf{n:Int}:pz rows (.int k n) = .int k n:=rfl
@[simp] theorem aoM:pz rows (.bool b) = .bool b:=rfl
@[simp] theorem auB:pz rows (.fn f l) = .fn f l:=rfl
@[simp] theorem auC:pz rows (.ag l) = .ag (l.map (fz rows)):=rfl
@[simp] theorem aku{g:α->List PV}{l:List α}:cB (aw g l)=true:=rfl
@[simp] theorem aid{g:α->List PV}{l:List α}:aF (aw g l)=true:=rfl
@[simp] theorem aoN{g:α->List PV}{l:List α}:aL (aw g l) = []:=rfl
@[simp] theorem akv{g:α->List PV}{l:List α}:dA (aw g l) = []:=rfl
@[simp] theorem aoO{l:List (List PV)}:dA (.sl l) = []:=rfl
@[simp] theorem akw{l:List (List PV)}:dA (.iE l) = []:=rfl
@[simp] theorem akx{n:Int}:dA (.int k n) = []:=rfl
@[simp] theorem aie:dA (.bool b) = []:=rfl
@[simp] theorem aoP:dA (.fn f l) = []:=rfl
@[simp] theorem aky:dA .nil = []:=rfl
@[simp] theorem akz:dA (.own id ver off len) = [id]:=rfl
@[simp] theorem aoQ:dA (.ag l)=l.flatMap aL:=rfl
@[simp] theorem akA{g:α->List PV}{l:List α}:ib rows (aw g l)=True:=rfl
@[simp] theorem aez{g:α->List PV}{l:List α}:cD (aw g l)=some [aw g l]:=rfl
@[simp] theorem aeA{g:α->List PV}{l:List α}:eH (aw g l)=some [aw g l]:=rfl
def da(o:Option Row):Prop:=∀r,o=some r -> ∀e∈r.els,∀p∈e,aF p=true
@[simp] theorem Yz:eX rows []=True:=by simp [eX]
@[simp] theorem XH:eX rows (id::ids)=(da (rows id)∧eX rows ids):=by simp [eX,da]
@[simp] theorem ck{g:α->List PV}{l:List α}(h:akl g):da (some ⟨ver,e,n,emap g l⟩)=True:=by simp only [da,emap,Option.some.injEq,eq_iff_iff,iff_true];rintro r rfl e he p hp;simp at he;obtain⟨x,_,rfl⟩:=he;exact all_eq_true.1 (h x) p hp
@[simp] theorem aoR:CY rows []=rows:=by funext j;simp [CY]
@[simp] theorem arh:CY rows ids j=if j∈ids then none else rows j:=rfl
def mw(fs:List (Nat × Nat × Bool)):List (Nat × PV)->List PV->(List PV->Prop)->Prop
 | [],z,K=>K z
 | (i,p)::ps,z,K=>gJ (m9 fs i) fun q=>gJ (eH p) fun l=>aA (l.length=q.2.1∧q.1+q.2.1<=z.length) (mw fs ps (z.take q.1++l++z.drop (q.1+q.2.1)) K)
@[congr] theorem abV{ps:List (Nat × PV)}{z':List PV}{K:List PV->Prop}(h:ps=M0)(h2:z=z'):mw fs ps z K=mw fs M0 z' K:=by rw [h,h2]
@[simp] theorem aif{K:List PV->Prop}:mw fs [] z K=go (K z):=rfl
@[simp] theorem aeB{ps:List (Nat × PV)}{K:List PV->Prop}:mw fs ((i,p)::ps) z K=gJ (m9 fs i) fun q=>gJ (eH p) fun l=>aA (l.length=q.2.1∧q.1+q.2.1<=z.length) (mw fs ps (z.take q.1++l++z.drop (q.1+q.2.1)) K):=rfl
theorem Ax{fs:List (Nat × Nat × Bool)}:∀ {ps:List (Nat × PV)} {z:List PV} {K:List PV->Prop},(∃l,th fs ps z=some l∧K l)↔mw fs ps z K
 | [],z,K=>by simp [th,mw]
 | (i,p)::ps,z,K=>by
  simp only [th,mw,gJ,aA,m9];cases h1:fs[i]? with
  | none=>simp
  | some q =>
   obtain⟨o,n,b⟩:=q;cases h2:eH p with
   | none=>simp
   | some l =>
    simp only [Option.some.injEq,exists_eq_left'];rw [<-Ax]
    split
    ·rename_i h;simp [h]
    ·rename_i h;simp [h]
def kJ(ti:TI)(ps:List (Nat × PV))(K:PV->Prop):Prop:=
 match ti with
 | .struct fs z=>mw fs ps z fun l=>K (.ag l)
 | .arr _ k n z=>mw (Jz k n) ps z fun l=>K (.ag l)
 | _=>False
@[congr] theorem XI{t:TI}{ps:List (Nat × PV)}{K:PV->Prop}(h:t=t')(h2:ps=M0):kJ t ps K=kJ t' M0 K:=by rw [h,h2]
@[simp] theorem TD{ps:List (Nat × PV)}{K:PV->Prop}:kJ (.struct fs z) ps K=mw fs ps z fun l=>K (.ag l):=rfl
@[simp] theorem abW{k:Nat}{ps:List (Nat × PV)}{K:PV->Prop}:kJ (.arr e k n z) ps K=mw (Jz k n) ps z fun l=>K (.ag l):=rfl
@[simp] theorem aih{k:Nat}:m9 (Jz k n) i=if i<k then some (i*n,n,false)else none:=by
 unfold m9 Jz;rw [getElem?_map]
 split
 ·rename_i h;rw [getElem?_range h];rfl
 ·rename_i h;rw [getElem?_eq_none (au h)];rfl
theorem xT{ps:List (Nat × PV)}{K:PV->Prop}:bu (fun v=>qH ti ps v) K=kJ ti ps K:=by
 simp only [qH,kJ];cases ti with
 | struct fs z =>
  apply propext;simp only [bu];rw [<-Ax]
  constructor
  ·rintro⟨v,⟨l,h1,rfl⟩,h2⟩;exact⟨l,h1,h2⟩
  ·rintro⟨l,h1,h2⟩;exact⟨_,⟨l,h1,rfl⟩,h2⟩
 | arr e k n z =>
  apply propext;simp only [bu];rw [<-Ax]
  constructor
  ·rintro⟨v,⟨l,h1,rfl⟩,h2⟩;exact⟨l,h1,h2⟩
  ·rintro⟨l,h1,h2⟩;exact⟨_,⟨l,h1,rfl⟩,h2⟩
 | _=>simp [bu]
def jl(n:Nat):Nat->List (Nat × PV)->(List (List PV)->Prop)->Prop
 | _,[],K=>K []
 | k,(i,p)::ps,K=>gJ (cD p) fun l=>aA (i=k∧l.length=n) (jl n (k+1) ps fun els=>K (l::els))
@[congr] theorem YA{k:Nat}{ps:List (Nat × PV)}{K:List (List PV)->Prop}(h:ps=M0):jl n k ps K=jl n k M0 K:=by rw [h]
@[simp] theorem aeC{k:Nat}{K:List (List PV)->Prop}:jl n k [] K=go (K []):=rfl
@[simp] theorem abX{k:Nat}{ps:List (Nat × PV)}{K:List (List PV)->Prop}:jl n k ((i,p)::ps) K=gJ (cD p) fun l=>aA (i=k∧l.length=n) (jl n (k+1) ps fun els=>K (l::els)):=rfl
theorem w5{n:Nat}:∀ {ps:List (Nat × PV)} {k:Nat} {K:List (List PV)->Prop},(∃l,ig n k ps=some l∧K l)↔jl n k ps K
 | [],k,K=>by simp [ig,jl]
 | (i,p)::ps,k,K=>by
  simp only [ig,jl,gJ,aA];cases h2:cD p with
  | none=>simp
  | some l =>
   simp only [Option.some.injEq,exists_eq_left'];rw [<-w5]
   by_cases h:i=k∧l.length=n
   ·rw [if_pos h]
    constructor
    ·rintro⟨e,h1,h3⟩;obtain⟨e',h4,rfl⟩:=Option.map_eq_some_iff.1 h1;exact⟨h,e',h4,h3⟩
    ·rintro⟨_,e',h4,h3⟩;exact⟨_,by rw [h4];rfl,h3⟩
   ·rw [if_neg h];simp [h]
def Ay(rows:Rows)(els:List (List PV)):Prop:=(∀e∈els,∀p∈e,aF (fz rows p)=true∧ib rows p)∧(∀e∈els,∀p∈e,aL p = [])
@[simp] theorem aii:Ay rows []=True:=by simp [Ay]
@[simp] theorem aeD{e:List PV}:Ay rows (e::els)=((∀p∈e,aF (fz rows p)=true∧ib rows p∧aL p = [])∧Ay rows els):=by
 simp only [Ay,mem_cons,forall_eq_or_imp,eq_iff_iff]
 constructor
 ·rintro⟨⟨h1,h2⟩,h3,h4⟩;exact⟨fun p hp=>⟨(h1 p hp).1,(h1 p hp).2,h3 p hp⟩,h2,h4⟩
 ·rintro⟨h1,h2,h4⟩;exact⟨⟨fun p hp=>⟨(h1 p hp).1,(h1 p hp).2.1⟩,h2⟩,fun p hp=>(h1 p hp).2.2,h4⟩
def u4(ti:TI)(rows:Rows)(len:Nat)(ps:List (Nat × PV))(K:PV->Prop):Prop:=
 match ti with
 | .slice _ n _ _=>jl n 0 ps fun els=>aA (len=els.length∧len<=4096∧n<=4096∧Ay rows els) (K (.iE (els.map fun e=>e.map (fz rows))))
 | _=>False
@[congr] theorem abY{t:TI}{ps:List (Nat × PV)}{K:PV->Prop}(h:t=t')(h2:ps=M0):u4 t rows len ps K=u4 t' rows len M0 K:=by rw [h,h2]
@[simp] theorem abZ{b:Nat}{ps:List (Nat × PV)}{K:PV->Prop}:u4 (.slice e n b z) rows len ps K=jl n 0 ps fun els=>aA (len=els.length∧len<=4096∧n<=4096∧Ay rows els) (K (.iE (els.map fun e=>e.map (fz rows)))):=rfl
theorem Da{ps:List (Nat × PV)}{K:PV->Prop}:bu (fun v=>JM ti rows len ps v) K=u4 ti rows len ps K:=by
 simp only [JM,u4];cases ti with
 | slice e n b z =>
  apply propext;simp only [bu];rw [<-w5]
  constructor
  ·rintro⟨v,⟨l,h1,h2,h3,h4,h5,h6,rfl⟩,h7⟩;exact⟨l,h1,⟨h2,h3,h4,h5,h6⟩,h7⟩
  ·rintro⟨l,h1,⟨h2,h3,h4,h5,h6⟩,h7⟩;exact⟨_,⟨l,h1,h2,h3,h4,h5,h6,rfl⟩,h7⟩
 | _=>simp [bu]
def u5(i:Nat)(x:PV)(K:PV->Prop):Prop:=
 match x with
 | .cW l=>gJ (m9 l i) K
 | _=>False
@[congr] theorem ab0{x:PV}{K:PV->Prop}(h:x=x'):u5 i x K=u5 i x' K:=by rw [h]
@[simp] theorem aij{K:PV->Prop}:u5 i (.cW l) K=gJ (m9 l i) K:=rfl
theorem Db{x:PV}{K:PV->Prop}:bu (fun v=>Jy i x v) K=u5 i x K:=by simp only [Jy,u5];cases x<;>first | rfl | simp [bu]
def Ct:List Oper->Nat->Option Tmp
 | [],_=>none
 | o::_,0=>o.dst
 | _::os,n+1=>Ct os n
theorem EH:∀(ops:List Oper) (j:Nat),Ct ops j=(ops[j]?).bind (·.dst)
 | [],j=>by simp [Ct]
 | o::os,0=>by simp [Ct]
 | o::os,n+1=>by simp [Ct,EH os n]
@[simp] theorem aik{d:Option Tmp}{ty:TypeId}{pos:String}{af:Array Edge}{g:Option (Nat × Bool)}:Ct (⟨d,op,ty,pos,af,g⟩::os) 0=d:=rfl
@[simp] theorem ail{o:Oper}:Ct (o::os) (n+1)=Ct os n:=rfl
def oY(o:Option Tmp)(f:Nat->PV)(w:Bool)(A B:Prop):Prop:=
 match o with
 | none=>False
 | some e=>stepG (f e) w A B
@[congr] theorem YB{o o':Option Tmp}{f:Nat->PV}(h:o=o'):oY o f w A B=oY o' f w A B:=by rw [h]
@[simp] theorem ab3{e:Tmp}{f:Nat->PV}:oY (some e) f w A B=stepG (f e) w A B:=rfl
@[simp] theorem aim{o:Option Tmp}{f:Nat->PV}:go (oY o f w A B)=oY o f w A B:=rfl
section
variable {E:Env} {ops os:List Oper} {K:PS->Prop} {f:Nat->PV} {rows:Rows} {clk:Nat} {d:Option Tmp} {ty:TypeId} {pos:String} {af:Array Edge} {k:Nat} {cG:Nat->Nat->Prop} {aP:Nat->Nat->Prop}
theorem G7:aC E ops (⟨d,op,ty,pos,af,some (j,want)⟩::os) K ⟨f,rows,clk⟩=oY ((ops[j]?).bind (·.dst)) f want (aC E ops (⟨d,op,ty,pos,af,none⟩::os) K ⟨f,rows,clk⟩) (aC E ops os K ⟨put f d (.cW []),rows,clk⟩):=Ka
theorem G8:aV E ops clk k (⟨d,op,ty,pos,af,some (j,want)⟩::os) K ⟨f,rows,cG,aP⟩=oY ((ops[j]?).bind (·.dst)) f want (aV E ops clk k (⟨d,op,ty,pos,af,none⟩::os) K ⟨f,rows,cG,aP⟩) (aV E ops clk (k+1) os K ⟨put f d (.cW []),rows,cG,aP⟩):=Kh
end
section
variable {E:Env} {ops os:List Oper} {K:PS->Prop} {f:Nat->PV} {rows:Rows} {clk:Nat} {d:Option Tmp} {ty:TypeId} {pos:String} {af:Array Edge} {k:Nat} {cG:Nat->Nat->Prop} {aP:Nat->Nat->Prop}
theorem Kp:aC E ops (⟨d, .load t x,ty,pos,af,none⟩::os) K ⟨f,rows,clk⟩=kr E t rows (aJ f x) fun v=>aC E ops os K ⟨put f d v,rows,clk⟩:=by rw [PC,tU]
theorem Ha:aC E ops (⟨d, .field t x i,ty,pos,af,none⟩::os) K ⟨f,rows,clk⟩=lV (E.ty t) i (aJ f x) fun v=>aC E ops os K ⟨put f d v,rows,clk⟩:=by rw [Kb,G5]
theorem yI:aC E ops (⟨d, .fieldAddr t x i,ty,pos,af,none⟩::os) K ⟨f,rows,clk⟩=dF (E.ty t) rows i (aJ f x) fun v=>aC E ops os K ⟨put f d v,rows,clk⟩:=by rw [As,pU]
theorem yJ:aC E ops (⟨d, .indexAddr t x y,ty,pos,af,none⟩::os) K ⟨f,rows,clk⟩=cL (E.ty t) rows (aJ f x) (aJ f y) fun v=>aC E ops os K ⟨put f d v,rows,clk⟩:=by rw [At,pV]
theorem Hb:aC E ops (⟨d, .slice t x lo hi mx,ty,pos,af,none⟩::os) K ⟨f,rows,clk⟩=fT (E.ty t) rows (aJ f x) (lo.map (aJ f)) (hi.map (aJ f)) (mx.map (aJ f)) fun v=>aC E ops os K ⟨put f d v,rows,clk⟩:=by rw [Kc,xS]
theorem PT:aC E ops (⟨d, .call { callee:=.builtin .len,args:=⟨[x]⟩,argTypes:=⟨[t]⟩ },ty,pos,af,none⟩::os) K ⟨f,rows,clk⟩=lN (E.ty t) rows (aJ f x) fun v=>aC E ops os K ⟨put f d v,rows,clk⟩:=by rw [Tu,C8]
theorem Hc{p:Operand}:aC E ops (⟨none, .store t p x,ty,pos,af,none⟩::os) K ⟨f,rows,clk⟩=jR E t rows (aJ f p) (aJ f x) fun id r=>aC E ops os K ⟨f,dH rows id (some r),clk⟩:=by rw [Kf,C9]
theorem EI:aC E ops (⟨d, .call { callee:=.builtin .append,args:=⟨[x,y]⟩,argTypes:=⟨[t,t2]⟩ },ty,pos,af,none⟩::os) K ⟨f,rows,clk⟩ =
  aA (t2=t∨SU (E.ty t2)=true) (qW (E.ty t) rows (aJ f x) (aJ f y) clk (d.getD 0) fun v rows clk=>aC E ops os K ⟨put f d v,rows,clk⟩):=by rw [GY,Yy]
theorem Kq:aV E ops clk k (⟨d, .load t x,ty,pos,af,none⟩::os) K ⟨f,rows,cG,aP⟩=kr E t (ee .any ops k aP rows) (aJ f x) fun v=>aV E ops clk (k+1) os K ⟨put f d v,rows,i5 k (aL (aJ f x)) cG,aP⟩:=by rw [PM,tU]
theorem yK:aV E ops clk k (⟨d, .fieldAddr t x i,ty,pos,af,none⟩::os) K ⟨f,rows,cG,aP⟩=dF (E.ty t) (ee .any ops k aP rows) i (aJ f x) fun v=>aV E ops clk (k+1) os K ⟨put f d v,rows,i5 k (aL (aJ f x)) cG,aP⟩:=by rw [Av,pU]
theorem yL:aV E ops clk k (⟨d, .indexAddr t x y,ty,pos,af,none⟩::os) K ⟨f,rows,cG,aP⟩=cL (E.ty t) (ee .any ops k aP rows) (aJ f x) (aJ f y) fun v=>aV E ops clk (k+1) os K ⟨put f d v,rows,i5 k (aL (aJ f x)) cG,aP⟩:=by rw [Aw,pV]
theorem Hd:aV E ops clk k (⟨d, .slice t x lo hi mx,ty,pos,af,none⟩::os) K ⟨f,rows,cG,aP⟩=fT (E.ty t) (ee .any ops k aP rows) (aJ f x) (lo.map (aJ f)) (hi.map (aJ f)) (mx.map (aJ f)) fun v=>aV E ops clk (k+1) os K ⟨put f d v,rows,i5 k (aL (aJ f x)) cG,aP⟩:=by rw [Ki,xS]
theorem PU:aV E ops clk k (⟨d, .call { callee:=.builtin .len,args:=⟨[x]⟩,argTypes:=⟨[t]⟩ },ty,pos,af,none⟩::os) K ⟨f,rows,cG,aP⟩=lN (E.ty t) (ee .any ops k aP rows) (aJ f x) fun v=>aV E ops clk (k+1) os K ⟨put f d v,rows,i5 k (aL (aJ f x)) cG,aP⟩:=by rw [Tz,C8]
theorem He{p:Operand}:aV E ops clk k (⟨none, .store t p x,ty,pos,af,none⟩::os) K ⟨f,rows,cG,aP⟩ =
  jR E t (ee .any ops k aP rows) (aJ f p) (aJ f x) fun id r=>aA (Cm .any ops k id cG) (aV E ops clk (k+1) os K ⟨f,dH rows id (some r),i5 k (aL (aJ f p)++((cD (aJ f x)).getD []).flatMap aL) cG,s7 k id aP⟩):=by rw [Kk,<-C9];rfl
theorem M3:go (aC E ops (⟨d, .move x,ty,pos,af,none⟩::os) K ⟨f,rows,clk⟩)=go (aC E ops os K ⟨put f d (aJ f x),rows,clk⟩):=Py
theorem Dc:go (aC E ops (⟨d, .assign x,ty,pos,af,none⟩::os) K ⟨f,rows,clk⟩)=go (aC E ops os K ⟨put f d (aJ f x),rows,clk⟩):=GX
theorem YC{c a b:Operand}:go (aC E ops (⟨d, .pick c a b,ty,pos,af,none⟩::os) K ⟨f,rows,clk⟩)=lM (aJ f c) true (aC E ops os K ⟨put f d (aJ f a),rows,clk⟩) (aC E ops os K ⟨put f d (aJ f b),rows,clk⟩):=Pz
theorem TE{op:BinOp}:go (aC E ops (⟨d, .binOp op t x y t2,ty,pos,af,none⟩::os) K ⟨f,rows,clk⟩)=bu (fun v=>Eg E op t (aJ f x) (aJ f y) v) fun v=>aC E ops os K ⟨put f d v,rows,clk⟩:=Tt
theorem akB{op:UnOp}:go (aC E ops (⟨d, .unOp op t x,ty,pos,af,none⟩::os) K ⟨f,rows,clk⟩)=bu (fun v=>yun op (aJ f x) v) fun v=>aC E ops os K ⟨put f d v,rows,clk⟩:=Yq
theorem EJ{s:TypeId}:go (aC E ops (⟨d, .convert s t x,ty,pos,af,none⟩::os) K ⟨f,rows,clk⟩)=bu (fun v=>tj (E.ty s) (E.ty t) (aJ f x) v) fun v=>aC E ops os K ⟨put f d v,rows,clk⟩:=PA
theorem Kr:go (aC E ops (⟨d, .extract x i,ty,pos,af,none⟩::os) K ⟨f,rows,clk⟩)=u5 i (aJ f x) fun v=>aC E ops os K ⟨put f d v,rows,clk⟩:=by show aC E ops (⟨d, .extract x i,ty,pos,af,none⟩::os) K ⟨f,rows,clk⟩=_;rw [ED,Db]
theorem YD:go (aC E ops (⟨d, .load t x,ty,pos,af,none⟩::os) K ⟨f,rows,clk⟩)=kr E t rows (aJ f x) fun v=>aC E ops os K ⟨put f d v,rows,clk⟩:=Kp
theorem TF:go (aC E ops (⟨d, .field t x i,ty,pos,af,none⟩::os) K ⟨f,rows,clk⟩)=lV (E.ty t) i (aJ f x) fun v=>aC E ops os K ⟨put f d v,rows,clk⟩:=Ha
theorem EK:go (aC E ops (⟨d, .fieldAddr t x i,ty,pos,af,none⟩::os) K ⟨f,rows,clk⟩)=dF (E.ty t) rows i (aJ f x) fun v=>aC E ops os K ⟨put f d v,rows,clk⟩:=yI
theorem EL:go (aC E ops (⟨d, .indexAddr t x y,ty,pos,af,none⟩::os) K ⟨f,rows,clk⟩)=cL (E.ty t) rows (aJ f x) (aJ f y) fun v=>aC E ops os K ⟨put f d v,rows,clk⟩:=yJ
theorem TG:go (aC E ops (⟨d, .slice t x lo hi mx,ty,pos,af,none⟩::os) K ⟨f,rows,clk⟩)=fT (E.ty t) rows (aJ f x) (lo.map (aJ f)) (hi.map (aJ f)) (mx.map (aJ f)) fun v=>aC E ops os K ⟨put f d v,rows,clk⟩:=Hb
theorem TH:go (aC E ops (⟨d, .build t parts,ty,pos,af,none⟩::os) K ⟨f,rows,clk⟩)=kJ (E.ty t) (parts.toList.map fun x=>(x.1,aJ f x.2)) fun v=>aC E ops os K ⟨put f d v,rows,clk⟩:=by show aC E ops (⟨d, .build t parts,ty,pos,af,none⟩::os) K ⟨f,rows,clk⟩=_;rw [Kd,xT]
theorem Hf:go (aC E ops (⟨d, .index t x y,ty,pos,af,none⟩::os) K ⟨f,rows,clk⟩)=bu (fun v=>tN E (E.ty t) (aJ f x) (aJ f y) v) fun v=>aC E ops os K ⟨put f d v,rows,clk⟩:=Ke
theorem Hg:go (aC E ops (⟨d, .nilCheck x,ty,pos,af,none⟩::os) K ⟨f,rows,clk⟩)=tH rows (aJ f x) fun v=>aC E ops os K ⟨put f d v,rows,clk⟩:=by show aC E ops _ K _=_;rw [Cq,C7]
theorem aeE:go (aC E ops (⟨d, .call { callee:=.builtin .len,args:=⟨[x]⟩,argTypes:=⟨[t]⟩ },ty,pos,af,none⟩::os) K ⟨f,rows,clk⟩)=lN (E.ty t) rows (aJ f x) fun v=>aC E ops os K ⟨put f d v,rows,clk⟩:=PT
theorem aeF:go (aC E ops (⟨d, .call { callee:=.builtin .max,args:=⟨[x,y]⟩,argTypes:=ts },ty,pos,af,none⟩::os) K ⟨f,rows,clk⟩)=bu (fun v=>Sx (aJ f x) (aJ f y) v) fun v=>aC E ops os K ⟨put f d v,rows,clk⟩:=Tv
theorem aeG:go (aC E ops (⟨d, .call { callee:=.builtin .min,args:=⟨[x,y]⟩,argTypes:=ts },ty,pos,af,none⟩::os) K ⟨f,rows,clk⟩)=bu (fun v=>Sy (aJ f x) (aJ f y) v) fun v=>aC E ops os K ⟨put f d v,rows,clk⟩:=Tw
theorem Cu:go (aC E ops (⟨d, .buildSlice t len parts,ty,pos,af,none⟩::os) K ⟨f,rows,clk⟩)=u4 (E.ty t) rows len (parts.toList.map fun x=>(x.1,aJ f x.2)) fun v=>aC E ops os K ⟨put f d v,rows,clk⟩:=by show aC E ops (⟨d, .buildSlice t len parts,ty,pos,af,none⟩::os) K ⟨f,rows,clk⟩=_;rw [yG,Da]
theorem TJ{p:Operand}:go (aC E ops (⟨none, .store t p x,ty,pos,af,none⟩::os) K ⟨f,rows,clk⟩)=jR E t rows (aJ f p) (aJ f x) fun id r=>aC E ops os K ⟨f,dH rows id (some r),clk⟩:=Hc
theorem TK:go (aC E ops (⟨d, .alloc t,ty,pos,af,none⟩::os) K ⟨f,rows,clk⟩)=aA ((E.ty t).known=true) (aC E ops os K ⟨put f d (.ptr (d.getD 0) clk 0 0),dH rows (d.getD 0) (some ⟨clk,t,(E.ty t).size,[(E.ty t).zero]⟩),clk+1⟩):=Kg
theorem aeH:go (aC E ops (⟨d, .box t x,ty,pos,af,none⟩::os) K ⟨f,rows,clk⟩)=aA ((E.ty t).known=true) (gJ (cD (aJ f x)) fun l=>aA (jk rows l∧l.length=(E.ty t).size) (aC E ops os K ⟨put f d (.ptr (d.getD 0) clk 0 0),dH rows (d.getD 0) (some ⟨clk,t,(E.ty t).size,[l]⟩),clk+1⟩)):=by show aC E ops (⟨d, .box t x,ty,pos,af,none⟩::os) K ⟨f,rows,clk⟩=_;rw [Tx];simp only [aA,gJ,jk,and_assoc]
theorem EM{l c:Operand}:go (aC E ops (⟨d, .makeSlice t l c,ty,pos,af,none⟩::os) K ⟨f,rows,clk⟩)=xQ (E.ty t) (aJ f l) (aJ f c) fun e n z x=>aC E ops os K ⟨put f d (.own (d.getD 0) clk 0 x.toNat),dH rows (d.getD 0) (some ⟨clk,e,n,replicate x.toNat z⟩),clk+1⟩:=Au
theorem PW:go (aC E ops (⟨d, .call { callee:=.builtin .append,args:=⟨[x,y]⟩,argTypes:=⟨[t,t2]⟩ },ty,pos,af,none⟩::os) K ⟨f,rows,clk⟩)=aA (t2=t∨SU (E.ty t2)=true) (qW (E.ty t) rows (aJ f x) (aJ f y) clk (d.getD 0) fun v rows clk=>aC E ops os K ⟨put f d v,rows,clk⟩):=EI
theorem YE{fo:Operand}{args:Array Operand}:go (aC E ops (⟨d, .call { callee:=.value fo,args:=args,argTypes:=ts },ty,pos,af,none⟩::os) K ⟨f,rows,clk⟩)=qT E (aJ f fo) (args.toList.map (aJ f)) rows clk fun v rows clk=>aC E ops os K ⟨put f d v,rows,clk⟩:=PF
theorem Hh{fs bF:Array Operand}:go (aC E ops (⟨d, .makeFunc (.func g) fs bF,ty,pos,af,none⟩::os) K ⟨f,rows,clk⟩) =
  if E.uN g=true then aA ((fs.toList.map (aJ f)).all pO=true∧(bF.toList.map (aJ f)).all pO=true) (aC E ops os K ⟨put f d (.lR g (fs.toList.map (aJ f)) (bF.toList.map (aJ f))),rows,clk⟩)
  else aA (fs.toList = []∧((bF.toList.map (aJ f)).map (pz rows)).all cB=true∧eX rows ((bF.toList.map (aJ f)).flatMap dA))
   (aC E ops os K ⟨put f d (.fn g ((bF.toList.map (aJ f)).map (pz rows))),CY rows ((bF.toList.map (aJ f)).flatMap dA),clk⟩):=Cr
def TL(t:TI)(n:TypeId)(x:PV)(K:PV->Prop):Prop:=
 match x with
 | .ptr id ver 0 0=>aA (t = .wO) (K (.m7 n id ver))
 | _=>False
@[congr] theorem aeI{t:TI}{n:TypeId}{x:PV}{K:PV->Prop}(h1:t=t')(h2:x=x'):TL t n x K=TL t' n x' K:=by rw [h1,h2]
@[simp] theorem aoS(t:TI)(n:TypeId)(x:PV)(K:PV->Prop):go (TL t n x K)=TL t n x K:=rfl
@[simp] theorem akC{t:TI}{K:PV->Prop}:TL t n (.ptr id ver 0 0) K=aA (t = .wO) (K (.m7 n id ver)):=rfl
theorem TM:go (aC E ops (⟨d,op,ty,pos,af,some (j,want)⟩::os) K ⟨f,rows,clk⟩)=oY (Ct ops j) f want (aC E ops (⟨d,op,ty,pos,af,none⟩::os) K ⟨f,rows,clk⟩) (aC E ops os K ⟨put f d (.cW []),rows,clk⟩):=by rw [EH,<-G7];rfl
theorem YF:go (aV E ops clk k (⟨d, .move x,ty,pos,af,none⟩::os) K ⟨f,rows,cG,aP⟩)=go (aV E ops clk (k+1) os K ⟨put f d (aJ f x),rows,cG,aP⟩):=PG
theorem PY:go (aV E ops clk k (⟨d, .assign x,ty,pos,af,none⟩::os) K ⟨f,rows,cG,aP⟩)=go (aV E ops clk (k+1) os K ⟨put f d (aJ f x),rows,cG,aP⟩):=G0
theorem YH{c a b:Operand}:go (aV E ops clk k (⟨d, .pick c a b,ty,pos,af,none⟩::os) K ⟨f,rows,cG,aP⟩)=lM (aJ f c) true (aV E ops clk (k+1) os K ⟨put f d (aJ f a),rows,cG,aP⟩) (aV E ops clk (k+1) os K ⟨put f d (aJ f b),rows,cG,aP⟩):=PH
theorem aeJ{op:BinOp}:go (aV E ops clk k (⟨d, .binOp op t x y t2,ty,pos,af,none⟩::os) K ⟨f,rows,cG,aP⟩)=bu (fun v=>Eg E op t (aJ f x) (aJ f y) v) fun v=>aV E ops clk (k+1) os K ⟨put f d v,rows,cG,aP⟩:=Ty
theorem akD{op:UnOp}:go (aV E ops clk k (⟨d, .unOp op t x,ty,pos,af,none⟩::os) K ⟨f,rows,cG,aP⟩)=bu (fun v=>yun op (aJ f x) v) fun v=>aV E ops clk (k+1) os K ⟨put f d v,rows,cG,aP⟩:=Ys
theorem YI{s:TypeId}:go (aV E ops clk k (⟨d, .convert s t x,ty,pos,af,none⟩::os) K ⟨f,rows,cG,aP⟩)=bu (fun v=>tj (E.ty s) (E.ty t) (aJ f x) v) fun v=>aV E ops clk (k+1) os K ⟨put f d v,rows,cG,aP⟩:=PK
theorem Ks:go (aV E ops clk k (⟨d, .extract x i,ty,pos,af,none⟩::os) K ⟨f,rows,cG,aP⟩)=u5 i (aJ f x) fun v=>aV E ops clk (k+1) os K ⟨put f d v,rows,cG,aP⟩:=by show aV E ops clk k (⟨d, .extract x i,ty,pos,af,none⟩::os) K ⟨f,rows,cG,aP⟩=_;rw [EE,Db]
theorem YJ:go (aV E ops clk k (⟨d, .load t x,ty,pos,af,none⟩::os) K ⟨f,rows,cG,aP⟩)=kr E t (ee .any ops k aP rows) (aJ f x) fun v=>aV E ops clk (k+1) os K ⟨put f d v,rows,i5 k (aL (aJ f x)) cG,aP⟩:=Kq
theorem EN:go (aV E ops clk k (⟨d, .fieldAddr t x i,ty,pos,af,none⟩::os) K ⟨f,rows,cG,aP⟩)=dF (E.ty t) (ee .any ops k aP rows) i (aJ f x) fun v=>aV E ops clk (k+1) os K ⟨put f d v,rows,i5 k (aL (aJ f x)) cG,aP⟩:=yK
theorem EO:go (aV E ops clk k (⟨d, .indexAddr t x y,ty,pos,af,none⟩::os) K ⟨f,rows,cG,aP⟩)=cL (E.ty t) (ee .any ops k aP rows) (aJ f x) (aJ f y) fun v=>aV E ops clk (k+1) os K ⟨put f d v,rows,i5 k (aL (aJ f x)) cG,aP⟩:=yL
theorem TN:go (aV E ops clk k (⟨d, .slice t x lo hi mx,ty,pos,af,none⟩::os) K ⟨f,rows,cG,aP⟩)=fT (E.ty t) (ee .any ops k aP rows) (aJ f x) (lo.map (aJ f)) (hi.map (aJ f)) (mx.map (aJ f)) fun v=>aV E ops clk (k+1) os K ⟨put f d v,rows,i5 k (aL (aJ f x)) cG,aP⟩:=Hd
theorem TO:go (aV E ops clk k (⟨d, .build t parts,ty,pos,af,none⟩::os) K ⟨f,rows,cG,aP⟩)=kJ (E.ty t) (parts.toList.map fun x=>(x.1,aJ f x.2)) fun v=>aV E ops clk (k+1) os K ⟨put f d v,rows,cG,aP⟩:=by show aV E ops clk k (⟨d, .build t parts,ty,pos,af,none⟩::os) K ⟨f,rows,cG,aP⟩=_;rw [Kj,xT]
theorem Hi:go (aV E ops clk k (⟨d, .nilCheck x,ty,pos,af,none⟩::os) K ⟨f,rows,cG,aP⟩)=tH (ee .any ops k aP rows) (aJ f x) fun v=>aV E ops clk (k+1) os K ⟨put f d v,rows,i5 k (aL (aJ f x)) cG,aP⟩:=by show aV E ops clk k _ K _=_;rw [Cs,C7]
theorem aeK:go (aV E ops clk k (⟨d, .call { callee:=.builtin .len,args:=⟨[x]⟩,argTypes:=⟨[t]⟩ },ty,pos,af,none⟩::os) K ⟨f,rows,cG,aP⟩)=lN (E.ty t) (ee .any ops k aP rows) (aJ f x) fun v=>aV E ops clk (k+1) os K ⟨put f d v,rows,i5 k (aL (aJ f x)) cG,aP⟩:=PU
theorem Cv:go (aV E ops clk k (⟨d, .buildSlice t len parts,ty,pos,af,none⟩::os) K ⟨f,rows,cG,aP⟩)=u4 (E.ty t) (ee .any ops k aP rows) len (parts.toList.map fun x=>(x.1,aJ f x.2)) fun v=>aV E ops clk (k+1) os K ⟨put f d v,rows,cG,aP⟩:=by show aV E ops clk k (⟨d, .buildSlice t len parts,ty,pos,af,none⟩::os) K ⟨f,rows,cG,aP⟩=_;rw [yH,Da]
theorem TP{p:Operand}:go (aV E ops clk k (⟨none, .store t p x,ty,pos,af,none⟩::os) K ⟨f,rows,cG,aP⟩)=jR E t (ee .any ops k aP rows) (aJ f p) (aJ f x) fun id r=>aA (Cm .any ops k id cG) (aV E ops clk (k+1) os K ⟨f,dH rows id (some r),i5 k (aL (aJ f p)++((cD (aJ f x)).getD []).flatMap aL) cG,s7 k id aP⟩):=He
theorem TQ:go (aV E ops clk k (⟨d, .alloc t,ty,pos,af,none⟩::os) K ⟨f,rows,cG,aP⟩)=aA ((E.ty t).known=true∧Cm .any ops k (d.getD 0) cG) (aV E ops (clk+1) (k+1) os K ⟨put f d (.ptr (d.getD 0) clk 0 0),dH rows (d.getD 0) (some ⟨clk,t,(E.ty t).size,[(E.ty t).zero]⟩),cG,s7 k (d.getD 0) aP⟩):=Kl
def qX(t:TI)(rows:Rows)(x y:PV)(clk d:Nat)(K:PV->Nat->Row->Prop)(K0:PV->Prop):Prop:=
 match t with
 | .slice e n b _=>jS rows y fun l=>aA (bC n l) (match x with
  | .nil=>aA (l.length<=room∧l.length*b<=room) (K (.own d clk 0 l.length) d ⟨clk,e,n,l⟩)
  | .own id ver off len=>bP (rows id) ver fun r=>aA (off=0∧r.e=e∧r.size=n) (iH (len=r.els.length) len r.els fun els=>aA (len+l.length<=room∧(len+l.length)*b<=room) (K (.own id clk 0 (len+l.length)) id ⟨clk,e,n,els++l⟩))
  | .iE l0=>aA (bC n l0 ∧ ∀e∈l,∀p∈e,aF p=true) (aA (l0.length+l.length<=room∧(l0.length+l.length)*b<=room) (K0 (.sl (l0++l))))
  | _=>False)
 | _=>False
@[congr] theorem ab4{t:TI}{rows:Rows}{x y:PV}{clk d:Nat}{K:PV->Nat->Row->Prop}{K0:PV->Prop}(h1:t=t')(h2:rows=rows')(h3:x=x')(h4:y=y') :
  qX t rows x y clk d K K0=qX t' rows' x' y' clk d K K0:=by rw [h1,h2,h3,h4]
section
variable {e:TypeId} {n b:Nat} {z:List PV} {rows:Rows} {y:PV} {clk d id ver off len:Nat} {K:PV->Nat->Row->Prop} {K0:PV->Prop}
@[simp] theorem ain:qX (.slice e n b z) rows .nil y clk d K K0=jS rows y fun l=>aA (bC n l) (aA (l.length<=room∧l.length*b<=room) (K (.own d clk 0 l.length) d ⟨clk,e,n,l⟩)):=rfl
@[simp] theorem aio:qX (.slice e n b z) rows (.own id ver off len) y clk d K K0=jS rows y fun l=>aA (bC n l) (bP (rows id) ver fun r=>aA (off=0∧r.e=e∧r.size=n) (iH (len=r.els.length) len r.els fun els=>aA (len+l.length<=room∧(len+l.length)*b<=room) (K (.own id clk 0 (len+l.length)) id ⟨clk,e,n,els++l⟩))):=rfl
@[simp] theorem aip{l0:List (List PV)}:qX (.slice e n b z) rows (.iE l0) y clk d K K0=jS rows y fun l=>aA (bC n l) (aA (bC n l0 ∧ ∀e∈l,∀p∈e,aF p=true) (aA (l0.length+l.length<=room∧(l0.length+l.length)*b<=room) (K0 (.sl (l0++l))))):=rfl
end
@[simp] theorem akE(t:TI)(r:Rows)(x y:PV)(c d:Nat)(K:PV->Nat->Row->Prop)(K0:PV->Prop):go (qX t r x y c d K K0)=qX t r x y c d K K0:=rfl
theorem TR{t:TI}{rows:Rows}{x y:PV}{clk d:Nat}{K:PV->Option (Nat × Row)->Prop}:(∃v u,tD t rows x y clk d v u∧K v u)=qX t rows x y clk d (fun v id r=>K v (some (id,r))) (fun v=>K v none):=by
 cases t with
 | slice e n b z =>
  simp only [qX,tD];rw [<-MY];apply propext;cases x with
  | nil =>
   simp only [aA,bC]
   constructor
   ·rintro⟨v,u,⟨l,h1,h2,h3,h4,rfl,rfl⟩,h6⟩;exact⟨l,h1,h2,⟨h3,h4⟩,h6⟩
   ·rintro⟨l,h1,h2,⟨h3,h4⟩,h6⟩;exact⟨_,_,⟨l,h1,h2,h3,h4,rfl,rfl⟩,h6⟩
  | iE l0 =>
   simp only [aA,bC]
   constructor
   ·rintro⟨v,u,⟨l,h1,h2,h3,h4,h5,h6,rfl,rfl⟩,h7⟩;exact⟨l,h1,h2,⟨h3,h4⟩,⟨h5,h6⟩,h7⟩
   ·rintro⟨l,h1,h2,⟨h3,h4⟩,⟨h5,h6⟩,h7⟩;exact⟨_,_,⟨l,h1,h2,h3,h4,h5,h6,rfl,rfl⟩,h7⟩
  | own id ver off len =>
   simp only [aA,bC,bP,MZ]
   constructor
   ·rintro⟨v,u,⟨l,h1,h2,r,h3,h4,h5,h6,h7,h8,h9,h10,rfl,rfl⟩,h12⟩;exact⟨l,h1,h2,r,h3,h4,⟨h5,h7,h8⟩,h6,⟨h9,h10⟩,h12⟩
   ·rintro⟨l,h1,h2,r,h3,h4,⟨h5,h7,h8⟩,h6,⟨h9,h10⟩,h12⟩;exact⟨_,_,⟨l,h1,h2,r,h3,h4,h5,h6,h7,h8,h9,h10,rfl,rfl⟩,h12⟩
  | _=>simp [aA]
 | _=>simp [qX,tD]
theorem PZ:go (aV E ops clk k (⟨d, .call { callee:=.builtin .append,args:=⟨[x,y]⟩,argTypes:=⟨[t,t2]⟩ },ty,pos,af,none⟩::os) K ⟨f,rows,cG,aP⟩) =
  aA (t2=t∨SU (E.ty t2)=true) (qX (E.ty t) (ee .any ops k aP rows) (aJ f x) (aJ f y) clk (d.getD 0) (fun v id r=>aA (Cm .any ops k id cG) (aV E ops (clk+1) (k+1) os K ⟨put f d v,dH rows id (some r),i5 k (aL (aJ f x)++aL (aJ f y)) cG,s7 k id aP⟩))
   (fun v=>aV E ops (clk+1) (k+1) os K ⟨put f d v,rows,i5 k (aL (aJ f x)++aL (aJ f y)) cG,aP⟩)):=by
 show aV E ops clk k (⟨d, .call { callee:=.builtin .append,args:=⟨[x,y]⟩,argTypes:=⟨[t,t2]⟩ },ty,pos,af,none⟩::os) K ⟨f,rows,cG,aP⟩=_;rw [G1];congr 1;rw [TR];simp only [GO,Sc,dP,true_and];rfl
def qY(t:TI)(rows:Rows)(x y:PV)(K:PV->Nat->Row->Prop):Prop:=
 match t,x with
 | .slice _ n _ _, .own id ver off len=>∃r,rows id=some r∧r.ver=ver∧r.size=n∧off+len<=r.els.length ∧ ∃l,qP rows y l∧(∀e∈l,e.length=n) ∧
   K (.int .i64 (min l.length len)) id { r with els:=r.els.take off++l.take len++r.els.drop (off+min l.length len) }
 | _,_=>False
@[congr] theorem YK{t:TI}{rows:Rows}{x y:PV}{K:PV->Nat->Row->Prop}(h1:t=t')(h2:rows=rows')(h3:x=x')(h4:y=y'):qY t rows x y K=qY t' rows' x' y' K:=by rw [h1,h2,h3,h4]
@[simp] theorem aiq(t:TI)(r:Rows)(x y:PV)(K:PV->Nat->Row->Prop):go (qY t r x y K)=qY t r x y K:=rfl
theorem Qa{t:TI}{rows:Rows}{x y:PV}{K:PV->Option (Nat × Row)->Prop}:(∃v u,tv t rows x y v u∧K v u)=qY t rows x y fun v id r=>K v (some (id,r)):=by
 apply propext;unfold tv qY
 constructor
 ·rintro⟨v,u,h,hK⟩
  split at h
  ·obtain⟨r,h1,h2,h3,h4,l,h5,h6,rfl,rfl⟩:=h;exact⟨r,h1,h2,h3,h4,l,h5,h6,hK⟩
  ·exact h.elim
 ·intro h
  split at h
  ·obtain⟨r,h1,h2,h3,h4,l,h5,h6,hK⟩:=h;exact⟨_,_,⟨r,h1,h2,h3,h4,l,h5,h6,rfl,rfl⟩,hK⟩
  ·exact h.elim
theorem YL:go (aV E ops clk k (⟨d, .call { callee:=.builtin .copy,args:=⟨[x,y]⟩,argTypes:=⟨[t,t2]⟩ },ty,pos,af,none⟩::os) K ⟨f,rows,cG,aP⟩) =
  qY (E.ty t) (ee .any ops k aP rows) (aJ f x) (aJ f y) fun v id r=>aA (Cm .any ops k id cG) (aV E ops clk (k+1) os K ⟨put f d v,dH rows id (some r),i5 k (aL (aJ f x)++aL (aJ f y)) cG,s7 k id aP⟩):=by
 show aV E ops clk k (⟨d, .call { callee:=.builtin .copy,args:=⟨[x,y]⟩,argTypes:=⟨[t,t2]⟩ },ty,pos,af,none⟩::os) K ⟨f,rows,cG,aP⟩=_;rw [PN,Qa];simp only [GO,Sc,dP];rfl
theorem akG{e e':TypeId}{b:Nat}{rows:Rows}{y:PV}{K:PV->Nat->Row->Prop}{l:List (List PV)}(hr:rows id=some ⟨ver,e',n,els⟩)(hl:off+len<=els.length)(hy:qP rows y l)(h1:∀e∈l,e.length=n)
  (hK:go (K (.int .i64 (min l.length len)) id ⟨ver,e',n,els.take off++l.take len++els.drop (off+min l.length len)⟩)):qY (.slice e n b z) rows (.own id ver off len) y K:=
 ⟨_,hr,rfl,rfl,hl,l,hy,h1,hK⟩
@[simp] theorem air{E:Env}{dD:List PV}{rows:Rows}{K:PV->Nat->Row->Prop}:go (qV E p dD rows K)=qV E p dD rows K:=rfl
@[simp] theorem ais{E:Env}:Ac E (.fn g [])=E.uN g:=rfl
@[simp] theorem aeM{E:Env}{x:PV}:Ac E (.fn g (x::l))=false:=rfl
theorem lC{E:Env}{e:TypeId}{v:PV}{rows:Rows}{K:PV->Nat->Row->Prop}(h:yD E.P g rest e n core fD v)(hp:rest.all cB=true)(hv:cB v=true)(hc:∀p∈core,aF p=true)(uP:∀p∈fD,aF p=true)
  (gq:rows id=some ⟨ver,e,n,[core]⟩) (hK:go (K v id ⟨ver,e,n,[fD]⟩)):qV E (.fn g []) (.ptr id ver 0 0::rest) rows K:=⟨v,id,_,⟨none,id,ver,rfl,⟨hp,hv⟩,e,n,[core],[fD],gq,h.x,uW hc,uW uP,rfl⟩,hK⟩
theorem Kt{e:TypeId}{v:PV}{rows:Rows}{clk:Nat}{K:PV->Rows->Nat->Prop}(h:wT P g (some (off,len)) rest e n els gY v)(hp:rest.all cB=true)(hv:cB v=true)(hc:∀x∈els,∀p∈x,aF p=true)(uP:∀x∈gY,∀p∈x,aF p=true)
  (gq:rows id=some ⟨ver,e,n,els⟩) (hK:go (K v (dH rows id (some ⟨ver,e,n,gY⟩)) clk)):jQ P g (.own id ver off len::rest) rows clk K:=
 ⟨_,h.XZ hp hv hc uP gq,by rintro r rows' bV ⟨rfl,rfl,rfl⟩;exact hK⟩
theorem oZ{e:TypeId}{v:PV}{rows:Rows}{clk:Nat}{K:PV->Rows->Nat->Prop}(h:yD P g rest e n core fD v)(hp:rest.all cB=true)(hv:cB v=true)(hc:∀p∈core,aF p=true)(uP:∀p∈fD,aF p=true)
  (gq:rows id=some ⟨ver,e,n,[core]⟩) (hK:go (K v (dH rows id (some ⟨ver,e,n,[fD]⟩)) clk)):jQ P g (.ptr id ver 0 0::rest) rows clk K:=
 ⟨_,h.XZ hp hv hc uP gq,by rintro r rows' bV ⟨rfl,rfl,rfl⟩;exact hK⟩
def sB(P:Program)(g:FuncId)(args:List PV)(c:Prop)(K:TypeId->Nat->List (List PV)->Prop):Prop:=∃e n els,(args.all cB=true∧gS P g args e n els∧c)∧K e n els
@[congr] theorem XJ{GZ:List PV}{K:TypeId->Nat->List (List PV)->Prop}(h:args=GZ)(hc:c=c'):sB P g args c K=sB P g GZ c' K:=by rw [h,hc]
@[simp] theorem aeN{K:TypeId->Nat->List (List PV)->Prop}:go (sB P g args c K)=sB P g args c K:=rfl
theorem xU{K:TypeId->Nat->List (List PV)->Prop}{e:TypeId}(h:gS P g args e n els)(hp:args.all cB=true)(hc:c)(hK:go (K e n els)):sB P g args c K:=⟨e,n,els,⟨hp,h,hc⟩,hK⟩
theorem TS{args:Array Operand}:go (aV E ops clk k (⟨d, .call { callee:=.value (.func g),args:=args,argTypes:=ts },ty,pos,af,none⟩::os) K ⟨f,rows,cG,aP⟩) =
  if E.writes g=true then sB E.P g (args.toList.map (aJ f)) (Cm .any ops k (d.getD 0) cG) (fun e n els=>aV E ops (clk+1) (k+1) os K ⟨put f d (.own (d.getD 0) clk 0 els.length),dH rows (d.getD 0) (some ⟨clk,e,n,els⟩),cG,s7 k (d.getD 0) aP⟩)
  else if E.uN g=true then qV E (.fn g []) (args.toList.map (aJ f)) (ee .any ops k aP rows) (fun v id r=>aA (Cm .any ops k id cG) (aV E ops clk (k+1) os K ⟨put f d v,dH rows id (some r),i5 k ((args.toList.map (aJ f)).flatMap aL) cG,s7 k id aP⟩))
  else qU E (.fn g []) (args.toList.map (aJ f)) (ee .any ops k aP rows) fun v=>aV E ops clk (k+1) os K ⟨put f d v,rows,cG,aP⟩:=by
 split
 ·rename_i hw;exact Km hw
 ·rename_i hw;exact PO (by simpa [dC]using hw)
@[simp] theorem akH{t:Nat}:cB (.m7 t id v)=false:=rfl
@[simp] theorem ait{t:Nat}:aF (.m7 t id v)=false:=rfl
@[simp] theorem akI{t:Nat}:aL (.m7 t id v) = [id]:=rfl
@[simp] theorem aeO{t:Nat}:cD (.m7 t id v)=some [.m7 t id v]:=rfl
@[simp] theorem aeP{t:Nat}:eH (.m7 t id v)=some [.m7 t id v]:=rfl
@[simp] theorem aeQ:eH (.ptr id v i j)=some [.ptr id v i j]:=rfl
@[simp] theorem akJ{m:List PV}:cB (.lR g l m)=false:=rfl
attribute [simp] pO
theorem TU:go (aV E ops clk k (⟨d,op,ty,pos,af,some (j,want)⟩::os) K ⟨f,rows,cG,aP⟩)=oY (Ct ops j) f want (aV E ops clk k (⟨d,op,ty,pos,af,none⟩::os) K ⟨f,rows,cG,aP⟩) (aV E ops clk (k+1) os K ⟨put f d (.cW []),rows,cG,aP⟩):=by rw [EH,<-G8];rfl
theorem TV:go (aC E ops [] K σ)=K σ:=rfl
theorem aeR{st:ST}:go (aV E ops clk k [] K st)=go (K ⟨st.f,st.rows,clk⟩):=rfl
@[simp] theorem M4{s:Nat}:aJ f (.tmp s)=f s:=rfl
@[simp] theorem akK:aJ f (.func g) = .fn g []:=rfl
@[simp] theorem Qb{v:Value}:aJ f (.const v)=nT v:=rfl
end
@[simp] theorem aeS{n:Int}:nT (.int k n) = .int k n:=rfl
@[simp] theorem ab5:nT (.bool b) = .bool b:=rfl
@[simp] theorem Ku:nT (.string s) = .str s:=rfl
@[simp] theorem ab6:nT (.pointer none) = .kg:=rfl
@[simp] theorem ab7:jh (.pointer none) = .kg:=rfl
@[simp] theorem aeT:nT (.slice none 0 0) = .nil:=rfl
@[simp] theorem aeU{cs:List Value}:nT (.agg ⟨cs⟩) = .ag (cs.map jh):=rfl
@[simp] theorem aeV{n:Int}:jh (.int k n) = .int k n:=rfl
@[simp] theorem ab8:jh (.bool b) = .bool b:=rfl
@[simp] theorem aeW:jh (.string s) = .str s:=rfl
@[simp] theorem aeX:jh (.slice none 0 0) = .nil:=rfl
@[simp] theorem akL(R K:PV->Prop):go (bu R K)=bu R K:=rfl
@[simp] theorem akM(p:PV)(w:Bool)(A B:Prop):go (stepG p w A B)=stepG p w A B:=rfl
@[simp] theorem akN(p:PV)(w:Bool)(A B:Prop):go (lM p w A B)=lM p w A B:=rfl
@[simp] theorem akO(A B:Prop):go (aA A B)=aA A B:=rfl
@[simp] theorem aeY(c:Prop)(len:Nat)(els:List (List PV))(K:List (List PV)->Prop):go (iH c len els K)=iH c len els K:=rfl
@[simp] theorem akP(P:Program)(g:FuncId)(l:List PV)(K:PV->Prop):go (u3 P g l K)=u3 P g l K:=rfl
@[simp] theorem aeZ(o:Option Row)(v:Nat)(K:Row->Prop):go (bP o v K)=bP o v K:=rfl
@[simp] theorem ari(l:List (List PV))(i:Nat)(K:List PV->Prop):go (G2 l i K)=G2 l i K:=rfl
@[simp] theorem arj(t:TI)(l:List PV)(j:Nat)(K:PV->Prop):go (C6 t l j K)=C6 t l j K:=rfl
@[simp] theorem aiu(E:Env)(t:TypeId)(r:Rows)(p:PV)(K:PV->Prop):go (kr E t r p K)=kr E t r p K:=rfl
@[simp] theorem ae0(t:TI)(i:Nat)(x:PV)(K:PV->Prop):go (lV t i x K)=lV t i x K:=rfl
@[simp] theorem aoT(p:Nat × Nat × Bool)(l:List PV)(K:PV->Prop):go (Kn p l K)=Kn p l K:=rfl
@[simp] theorem akQ(r:Rows)(x:PV)(K:PV->Prop):go (tH r x K)=tH r x K:=rfl
@[simp] theorem TW(t:TI)(r:Rows)(i:Nat)(x:PV)(K:PV->Prop):go (dF t r i x K)=dF t r i x K:=rfl
@[simp] theorem TX(t:TI)(r:Rows)(x y:PV)(K:PV->Prop):go (cL t r x y K)=cL t r x y K:=rfl
@[simp] theorem ark(d:Nat)(o:Option PV)(K:Nat->Prop):go (xR d o K)=xR d o K:=rfl
@[simp] theorem ae1(t:TI)(r:Rows)(x:PV)(a b c:Option PV)(K:PV->Prop):go (fT t r x a b c K)=fT t r x a b c K:=rfl
@[simp] theorem akR(t:TI)(r:Rows)(x:PV)(K:PV->Prop):go (lN t r x K)=lN t r x K:=rfl
@[simp] theorem ae2(E:Env)(t:TypeId)(r:Rows)(p x:PV)(K:Nat->Row->Prop):go (jR E t r p x K)=jR E t r p x K:=rfl
@[simp] theorem akS(r:Rows)(y:PV)(K:List (List PV)->Prop):go (jS r y K)=jS r y K:=rfl
@[simp] theorem akT(t:TI)(r:Rows)(x y:PV)(c d:Nat)(K:PV->Rows->Nat->Prop):go (qW t r x y c d K)=qW t r x y c d K:=rfl
@[simp] theorem akU(t:TI)(x y:PV)(K:TypeId->Nat->List PV->Int->Prop):go (xQ t x y K)=xQ t x y K:=rfl
@[simp] theorem akV(E:Env)(p:PV)(name:String)(l:List PV)(r:Rows)(clk:Nat)(K:PV->Rows->Nat->Prop):go (MT E p name l r clk K)=MT E p name l r clk K:=rfl
@[simp] theorem aiv(E:Env)(p:PV)(l:List PV)(r:Rows)(clk:Nat)(K:PV->Rows->Nat->Prop):go (qT E p l r clk K)=qT E p l r clk K:=rfl
@[simp] theorem akW(P:Program)(g:FuncId)(l:List PV)(r:Rows)(clk:Nat)(K:PV->Rows->Nat->Prop):go (jQ P g l r clk K)=jQ P g l r clk K:=rfl
@[simp] theorem aiw(E:Env)(p:PV)(l:List PV)(r:Rows)(K:PV->Prop):go (qU E p l r K)=qU E p l r K:=rfl
@[simp] theorem akX{ps:List (Nat × PV)}{K:List PV->Prop}:go (mw fs ps z K)=mw fs ps z K:=rfl
@[simp] theorem ae3{t:TI}{ps:List (Nat × PV)}{K:PV->Prop}:go (kJ t ps K)=kJ t ps K:=rfl
@[simp] theorem aix{k:Nat}{ps:List (Nat × PV)}{K:List (List PV)->Prop}:go (jl n k ps K)=jl n k ps K:=rfl
@[simp] theorem akY{t:TI}{ps:List (Nat × PV)}{K:PV->Prop}:go (u4 t rows len ps K)=u4 t rows len ps K:=rfl
@[simp] theorem akZ{x:PV}{K:PV->Prop}:go (u5 i x K)=u5 i x K:=rfl
@[simp] theorem aoU(o:Option α)(K:α->Prop):go (gJ o K)=gJ o K:=rfl
@[simp] theorem auD(p:α->Prop):go (∃x,p x) = ∃x,go (p x):=rfl
@[simp] theorem ak0:go False=False:=rfl
@[simp] theorem auE{p:Prop}:go (go p)=go p:=rfl
@[simp] theorem ab9{t:PV}{K:PV->Prop}:bu (fun v=>v=t) K=go (K t):=kX
@[simp] theorem YM:aA True B=go B:=J8
@[simp] theorem aoV{K:List (List PV)->Prop}:iH True len els K=go (K els):=EG
@[simp] theorem auF:stepG (.bool true) true A B=go A:=Tn
@[simp] theorem auG:stepG (.bool true) false A B=go B:=To
@[simp] theorem auH:stepG (.bool false) true A B=go B:=Tp
@[simp] theorem auI:stepG (.bool false) false A B=go A:=Tq
@[simp] theorem auJ:stepG (.cW []) w A B=go B:=Tr
@[simp] theorem auK:lM (.bool true) true A B=go A:=Tl
@[simp] theorem auL:lM (.bool false) true A B=go B:=Tm
theorem gA(h:c):aA c B=go B:=by simp [aA,go,h]
attribute [simp] kq Ar Ts aen J9 EC M3 Dc YC TE akB EJ Kr YD TF EK EL TG TH Hf Hg Hi aeE aeF aeG Cu TJ TK aeH EM PW YE Hh TM YF PY YL YH aeJ akD YI Ks YJ EN EO TN TO aeK Cv TP TQ PZ TS TU TV aeR
attribute [simp] SU Eg yun tj tN Sx Sy xQ qT qU th TI.known TI.size TI.zero TI.agg Td Te kW room
theorem Cw{K:PS->Prop}{f:Nat->PV}:gF E 0 ops K ⟨f,rows,clk⟩=aV E ops clk 0 ops K ⟨f,rows,fun _ _=>False,fun _ _=>False⟩:=by simp [gF]
@[simp] theorem aiy:cB (.bool b)=true:=rfl
@[simp] theorem ae4:aF (.bool b)=true:=rfl
@[simp] theorem aiz:aL (.bool b) = []:=rfl
@[simp] theorem aiA:ib rows (.bool b)=True:=rfl
@[simp] theorem aca:cD (.bool b)=some [.bool b]:=rfl
@[simp] theorem acb:eH (.bool b)=some [.bool b]:=rfl
@[simp] theorem ak1{n:Int}:cB (.int k n)=true:=rfl
@[simp] theorem aiB{n:Int}:aF (.int k n)=true:=rfl
@[simp] theorem ak2{n:Int}:aL (.int k n) = []:=rfl
@[simp] theorem ak3{n:Int}:ib rows (.int k n)=True:=rfl
@[simp] theorem ae5{n:Int}:cD (.int k n)=some [.int k n]:=rfl
@[simp] theorem ae6{n:Int}:eH (.int k n)=some [.int k n]:=rfl
@[simp] theorem ak4:cB (.str s)=true:=rfl
@[simp] theorem aiC:aF (.str s)=true:=rfl
@[simp] theorem ak5:aL (.str s) = []:=rfl
@[simp] theorem ak6:ib rows (.str s)=True:=rfl
@[simp] theorem ae7:cD (.str s)=some [.str s]:=rfl
@[simp] theorem ae8:eH (.str s)=some [.str s]:=rfl
@[simp] theorem aiD  : cB .kg=true:=rfl
@[simp] theorem ae9  : aF .kg=true:=rfl
@[simp] theorem aiE  : aL .kg = []:=rfl
@[simp] theorem aiF  : dA .kg = []:=rfl
@[simp] theorem aoW:fz rows .kg = .kg:=rfl
@[simp] theorem aoX:pz rows .kg = .kg:=rfl
@[simp] theorem aiG  : ib rows .kg=True:=rfl
@[simp] theorem acd  : cD .kg=some [.kg]:=rfl
@[simp] theorem ace  : eH .kg=some [.kg]:=rfl
@[simp] theorem ak7  : cB .nil=true:=rfl
@[simp] theorem aiH  : aF .nil=true:=rfl
@[simp] theorem ak8  : aL .nil = []:=rfl
@[simp] theorem ak9  : ib rows .nil=True:=rfl
@[simp] theorem afa  : cD .nil=some [.nil]:=rfl
@[simp] theorem afb  : eH .nil=some [.nil]:=rfl
@[simp] theorem aoY{l:List (List PV)}:cB (.sl l)=true:=rfl
@[simp] theorem ala{l:List (List PV)}:aF (.sl l)=true:=rfl
@[simp] theorem aoZ{l:List (List PV)}:aL (.sl l) = []:=rfl
@[simp] theorem ao0{l:List (List PV)}:ib rows (.sl l)=True:=rfl
@[simp] theorem aiI{l:List (List PV)}:cD (.sl l)=some [.sl l]:=rfl
@[simp] theorem aiJ{l:List (List PV)}:eH (.sl l)=some [.sl l]:=rfl
@[simp] theorem alb{l:List (List PV)}:cB (.iE l)=true:=rfl
@[simp] theorem aiK{l:List (List PV)}:aF (.iE l)=true:=rfl
@[simp] theorem alc{l:List (List PV)}:aL (.iE l) = []:=rfl
@[simp] theorem ald{l:List (List PV)}:ib rows (.iE l)=True:=rfl
@[simp] theorem afc{l:List (List PV)}:cD (.iE l)=some [.iE l]:=rfl
@[simp] theorem afd{l:List (List PV)}:eH (.iE l)=some [.iE l]:=rfl
@[simp] theorem YN:cB (.rd l)=true:=rfl
@[simp] theorem TY:aF (.rd l)=true:=rfl
@[simp] theorem YO:aL (.rd l) = []:=rfl
@[simp] theorem ao1:ib rows (.rd l)=True:=rfl
@[simp] theorem aiL:cD (.rd l)=some [.rd l]:=rfl
@[simp] theorem aiM:eH (.rd l)=some [.rd l]:=rfl
@[simp] theorem ao2:cB (.fn f l)=true:=rfl
@[simp] theorem ale:aF (.fn f l)=true:=rfl
@[simp] theorem ao3:aL (.fn f l) = []:=rfl
@[simp] theorem ao4:ib rows (.fn f l)=True:=rfl
@[simp] theorem aiN:cD (.fn f l)=some [.fn f l]:=rfl
@[simp] theorem aiO:eH (.fn f l)=some [.fn f l]:=rfl
@[simp] theorem ao5:cB (.ag l)=l.all aF:=rfl
@[simp] theorem alf:cB (.cW l)=l.all aF:=rfl
@[simp] theorem aiP:cD (.ag l)=some l:=rfl
@[simp] theorem aiQ:eH (.ag l)=some l:=rfl
@[simp] theorem alg{l:Nat}:aL (.own id v o l) = [id]:=rfl
@[simp] theorem alh{l:Nat}:aL (.ptr id v o l) = [id]:=rfl
@[simp] theorem afe{l:Nat}:cD (.own id v o l)=some [.own id v o l]:=rfl
@[simp] theorem aff{l:Nat}:cD (.ptr id v o l)=some [.ptr id v o l]:=rfl
def rowAt(o:Option Row)(ver:Nat):Prop:=∃r,o=some r∧r.ver=ver
@[simp] theorem afg:rowAt (some r) ver=(r.ver=ver):=by simp [rowAt]
@[simp] theorem ali{l:Nat}:ib rows (.own id v o l)=rowAt (rows id) v:=rfl
@[simp] theorem alj{t:Nat}:ib rows (.m7 t id v)=rowAt (rows id) v:=rfl
@[simp] theorem alk{l:Nat}:ib rows (.ptr id v o l)=rowAt (rows id) v:=rfl
@[simp] theorem aiR{e:List PV}:fQ [e] 0 j l = [e.take j++l++e.drop (j+l.length)]:=by simp [fQ]
@[simp] theorem aiS{e:List PV}:tI [e] 0 n=(n<=e.length):=by simp [tI]
@[simp] theorem aiT{t:Tmp}{rs:List ResultVar}{K:List PV->Prop}:gU E σ (.tmp t::rs) K=gU E σ rs fun vs=>K (σ.f t::vs):=rfl
@[simp] theorem aiU{K:List PV->Prop}:gU E σ [] K=K []:=rfl
@[simp] theorem afh{a:Tmp}{rs:List ResultVar}{K:List PV->Prop}:gU E σ (.cell a t::rs) K=kr E t σ.rows (σ.f a) fun v=>gU E σ rs fun vs=>K (v::vs):=by show(∃v,qG E t σ.rows (σ.f a) v∧gU E σ rs fun vs=>K (v::vs))=_;rw [<-tU];rfl
@[simp] theorem YP{K:PS->Prop}{f:Nat->PV}:go (gF E 0 ops K ⟨f,rows,clk⟩)=go (aV E ops clk 0 ops K ⟨f,rows,fun _ _=>False,fun _ _=>False⟩):=Cw
theorem wrap_i64{n:Int}(h1 : -9223372036854775808<=n)(h2:n<9223372036854775808):IntKind.i64.wrap n=n:=by
 have e:IntKind.i64.wrap n=if n%18446744073709551616>=9223372036854775808 then n%18446744073709551616-18446744073709551616 else n%18446744073709551616:=by simp [IntKind.wrap,IntKind.bits,IntKind.signed]
 rw [e];split<;>omega
theorem wrap_u64{n:Int}(h1:0<=n)(h2:n<18446744073709551616):IntKind.u64.wrap n=n:=by simp only [IntKind.wrap,IntKind.bits,IntKind.signed,Bool.false_and,Bool.false_eq_true,if_false];omega
theorem wrap_u32{n:Int}(h1:0<=n)(h2:n<4294967296):IntKind.u32.wrap n=n:=by simp only [IntKind.wrap,IntKind.bits,IntKind.signed,Bool.false_and,Bool.false_eq_true,if_false];omega
theorem wA:(∀n:Int, -9223372036854775808<=n->n<9223372036854775808->IntKind.i64.wrap n=n)∧(∀n:Int,0<=n->n<18446744073709551616->IntKind.u64.wrap n=n)∧(∀n:Int,0<=n->n<4294967296->IntKind.u32.wrap n=n) ∧
  (∀a b:Int,0<=a->a.tdiv b=a/b)∧(∀a b:Int,0<=a->a.tmod b=a%b):=⟨fun _=>wrap_i64,fun _=>wrap_u64,fun _=>wrap_u32,fun _ _ h=>Int.tdiv_eq_ediv_of_nonneg h,fun _ _ h=>Int.tmod_eq_emod_of_nonneg h⟩
theorem gw:(∀ {c B:Prop},c->aA c B=go B)∧(∀n:Int, -9223372036854775808<=n->n<9223372036854775808->IntKind.i64.wrap n=n)∧(∀n:Int,0<=n->n<18446744073709551616->IntKind.u64.wrap n=n)∧(∀n:Int,0<=n->n<4294967296->IntKind.u32.wrap n=n) ∧
  (∀a b:Int,0<=a->a.tdiv b=a/b)∧(∀a b:Int,0<=a->a.tmod b=a%b):=⟨gA,wA⟩
theorem wrap_u8{n:Int}(h1:0<=n)(h2:n<256):IntKind.u8.wrap n=n:=by simp only [IntKind.wrap,IntKind.bits,IntKind.signed,Bool.false_and,Bool.false_eq_true,if_false];omega
theorem jw{n:Int}:IntKind.u64.wrap n=n%18446744073709551616:=by simp only [IntKind.wrap,IntKind.bits,IntKind.signed,Bool.false_and,Bool.false_eq_true,if_false];rfl
theorem wrap_u32'{n:Int}:IntKind.u32.wrap n=n%4294967296:=by simp only [IntKind.wrap,IntKind.bits,IntKind.signed,Bool.false_and,Bool.false_eq_true,if_false];rfl
section
variable {E:Env} {n:Nat} {tl:Nat->Nat} {Q:PX->PS->Prop} {σ:PS}
theorem W.wI(h:∀K:PS->Prop,(∀σ,Q .normal σ->K σ)->go (aC E ops ops K σ)):W E n tl (.region id ops.toArray false) Q σ:=W.GW h
theorem W.Dd(h:∀K:PS->Prop,(∀σ,Q .normal σ->K σ)->go (gF E (tl id) ops K σ)):W E n tl (.region id ops.toArray true) Q σ:=W.Ti h
theorem W.EP{y:Code}(h:∀K:PS->Prop,(∀σ,W E n tl y Q σ->K σ)->go (aC E ops ops K σ)):W E n tl (.seq (.region id ops.toArray false) y) Q σ:=W.J7 h
theorem W.TZ{y:Code}(h:∀K:PS->Prop,(∀σ,W E n tl y Q σ->K σ)->go (gF E (tl id) ops K σ)):W E n tl (.seq (.region id ops.toArray true) y) Q σ:=W.Tj h
end
section
variable {E:Env} {n:Nat} {tl:Nat->Nat} {Q:PX->PS->Prop} {σ:PS}
theorem W.aO{c:Code}(I:Nat->PS->Prop)(k:Nat)(h0:∃σ0,Gh n σ σ0∧I k σ0)(h1:∀k σ,I k σ->W E n tl c (Co (fun σ'=>∃m YQ,Gh n σ' YQ∧m<k∧I m YQ) Q) σ):W E n tl (.loop c) Q σ:=by
 obtain⟨σ0,hg,h0⟩:=h0;refine W.ghost hg ?_;refine W.loop (fun k σ=>∃σ',Gh n σ σ'∧I k σ') k ⟨σ0,fun _ _ _ _ _ h=>h,h0⟩ ?_;rintro k σ ⟨σ',hg,hI⟩;refine W.ghost hg (W.mono (h1 k σ' hI) fun x τ hx=>?_);cases x with
 | normal=>obtain⟨m,YQ,h2,h3,h4⟩:=hx;exact⟨m,h3,YQ,h2,h4⟩
 | exit id=>exact hx
 | ret=>exact hx
theorem Gh.refl:Gh n σ σ:=fun _ _ _ _ _ h=>h
theorem W.T0{c:Operand}{t e:Code}(b:Prop)[Decidable b](hc:aJ σ.f c = .bool (decide b))(h1:b->W E n tl t Q σ)(h2:¬b->W E n tl e Q σ):W E n tl (.cond c t e) Q σ:=W.cond ⟨_,hc,fun h=>h1 (of_decide_eq_true h),fun h=>h2 (of_decide_eq_false h)⟩
theorem W.ghf{f:Nat->PV}{c:Code}(l:List (Nat × PV))(hl:∀p∈l,f p.1=p.2)(h:W E n tl c Q ⟨fa l,rows,clk⟩):W E n tl c Q ⟨f,rows,clk⟩:=by
 have:=ak (f:=f) (rows:=rows) (clk:=clk) n (l.map (·.1))
 have e:((l.map (·.1)).map fun i=>(i,f i))=l:=by
  rw [map_map]
  conv=>rhs;rw [<-map_id l]
  exact map_congr_left fun p hp=>by simp [hl p hp]
 rw [e]at this;exact W.ghost this h
theorem Gh.fr{f:Nat->PV}(l:List (Nat × PV))(hl:∀p∈l,f p.1=p.2):Gh n ⟨f,rows,clk⟩ ⟨fa l,rows,clk⟩:=by
 have:=ak (f:=f) (rows:=rows) (clk:=clk) n (l.map (·.1))
 have e:((l.map (·.1)).map fun i=>(i,f i))=l:=by
  rw [map_map]
  conv=>rhs;rw [<-map_id l]
  exact map_congr_left fun p hp=>by simp [hl p hp]
 rw [e]at this;exact this
end
theorem jx{tG:FuncId}{fn:Func}{code:Code}(tl:Nat->Nat){r:PV}(l:List (Nat × PV))(h1:E.P.funcs[tG]? = some fn)(h2:fn.body=some code) (h3:(fn.name == "runtime.NumGoroutine") = false)
  (ec:dQ E fn.ntmps tl code=true) (di:args.length<=fn.ntmps) (hl:∀p∈l,args.getD p.1 .undef=p.2) (h:W E fn.ntmps tl code (Te E fn.results.toList r) ⟨fa l,fun _=>none,0⟩):Xr E.P tG args r:=
 Tk tl h1 h2 h3 ec di (W.ghf l (au hl) h)
end Pm
namespace Pm
variable {a:Int}
@[simp] theorem ao6:Int.fdiv a 4294967296=a/4294967296:=Int.fdiv_eq_ediv_of_nonneg a ar
@[simp] theorem ao7:Int.fdiv a 9223372036854775808=a/9223372036854775808:=Int.fdiv_eq_ediv_of_nonneg a ar
attribute [simp] Go.IntKind.bits
end Pm
namespace Pm
open Go Go.RowKit
variable {x y:Code}{id:Nat}{ops:List Oper}{J:PS->Prop}
section
variable {E:Env} {n:Nat} {tl:Nat->Nat} {Q:PX->PS->Prop} {σ:PS}
theorem W.fR(J:PS->Prop)(h:W E n tl x (Co (fun σ=>∃σ',Gh n σ σ'∧J σ') Q) σ)(hy:∀σ,J σ->W E n tl y Q σ):W E n tl (.seq x y) Q σ:=
 W.seq (W.mono h fun x σ hx=>by
  cases x with
  | normal=>obtain⟨σ',hg,hJ⟩:=hx;exact W.ghost hg (hy σ' hJ)
  | exit id=>exact hx
  | ret=>exact hx)
def Kv(J:PS->Prop)(Q:PX->PS->Prop):PX->PS->Prop
 | .normal,σ=>J σ
 | .exit id,σ=>Q (.exit id) σ
 | .ret,σ=>Q .ret σ
theorem W.dh(J:PS->Prop)(h:W E n tl x (Cp id (Kv (fun σ=>∃σ',Gh n σ σ'∧J σ') Q)) σ)(hy:∀σ,J σ->W E n tl y Q σ):W E n tl (.seq (.block id x) y) Q σ:=
 W.seq (W.block (W.mono h fun x σ hx=>by
  cases x with
  | normal=>obtain⟨σ',hg,hJ⟩:=hx;exact W.ghost hg (hy σ' hJ)
  | exit j =>
   simp only [Cp]at hx |-
   split
   ·rename_i hj;rw [if_pos hj]at hx;obtain⟨σ',hg,hJ⟩:=hx;exact W.ghost hg (hy σ' hJ)
   ·rename_i hj;rw [if_neg hj]at hx;exact hx
  | ret=>exact hx))
theorem W.dx(J:PS->Prop)(h:∀K:PS->Prop,(∀σ σ',Gh n σ σ'->J σ'->K σ)->go (aC E ops ops K σ))(hy:∀σ,J σ->W E n tl y Q σ):W E n tl (.seq (.region id ops.toArray false) y) Q σ:=
 W.EP fun K hK=>h K fun σ _ hg hJ=>hK σ (W.ghost hg (hy _ hJ))
theorem W.De(J:PS->Prop)(h:∀K:PS->Prop,(∀σ σ',Gh n σ σ'->J σ'->K σ)->go (gF E (tl id) ops K σ))(hy:∀σ,J σ->W E n tl y Q σ):W E n tl (.seq (.region id ops.toArray true) y) Q σ:=
 W.TZ fun K hK=>h K fun σ _ hg hJ=>hK σ (W.ghost hg (hy _ hJ))
@[simp] theorem acf:Kv J Q .normal σ=J σ:=rfl
@[simp] theorem aln:Kv J Q .ret σ=Q .ret σ:=rfl
@[simp] theorem aiV:Kv J Q (.exit id) σ=Q (.exit id) σ:=rfl
@[simp] theorem acg:Co J Q .normal σ=J σ:=rfl
@[simp] theorem alp:Co J Q .ret σ=Q .ret σ:=rfl
@[simp] theorem aiW:Co J Q (.exit id) σ=Q (.exit id) σ:=rfl
@[simp] theorem ach:Cp id Q .normal σ=Q .normal σ:=rfl
@[simp] theorem alq:Cp id Q .ret σ=Q .ret σ:=rfl
@[simp] theorem aiX{j:Nat}:Cp id Q (.exit j) σ=if j=id then Q .normal σ else Q (.exit j) σ:=rfl
theorem pX:(∀(Q:PX->PS->Prop) (σ:PS) (id j:Nat),Cp id Q (.exit j) σ=if j=id then Q .normal σ else Q (.exit j) σ)∧(∀(Q:PX->PS->Prop) (σ:PS) (id:Nat),Cp id Q .normal σ=Q .normal σ)∧(∀(Q:PX->PS->Prop) (σ:PS) (id:Nat),Cp id Q .ret σ=Q .ret σ) ∧
  (∀(J:PS->Prop) (Q:PX->PS->Prop) (σ:PS) (id:Nat),Co J Q (.exit id) σ=Q (.exit id) σ)∧(∀(J:PS->Prop) (Q:PX->PS->Prop) (σ:PS),Co J Q .normal σ=J σ)∧(∀(J:PS->Prop) (Q:PX->PS->Prop) (σ:PS),Co J Q .ret σ=Q .ret σ) ∧
  (∀(J:PS->Prop) (Q:PX->PS->Prop) (σ:PS) (id:Nat),Kv J Q (.exit id) σ=Q (.exit id) σ)∧(∀(J:PS->Prop) (Q:PX->PS->Prop) (σ:PS),Kv J Q .normal σ=J σ)∧(∀(J:PS->Prop) (Q:PX->PS->Prop) (σ:PS),Kv J Q .ret σ=Q .ret σ):=
 ⟨fun _ _ _ _=>rfl,fun _ _ _=>rfl,fun _ _ _=>rfl,fun _ _ _ _=>rfl,fun _ _ _=>rfl,fun _ _ _=>rfl,fun _ _ _ _=>rfl,fun _ _ _=>rfl,fun _ _ _=>rfl⟩
end
end Pm
namespace Pm
open Go
variable {P:Program}{g:FuncId}{rows:Rows}{clk n id:Nat}{E:Env}{tl:Nat->Nat}{c y:Code}{Q:PX->PS->Prop}{f:Nat->PV}{K0:PS->Prop}{σ:PS}{ops:List Oper}
theorem alr{dD:List PV}{K:PV->Rows->Nat->Prop}{R:PV->Rows->Nat->Prop}(h:nV P g dD rows clk R)(hK:∀r rows' bV,R r rows' bV->go (K r rows' bV)):jQ P g dD rows clk K:=⟨R,h,hK⟩
theorem aU{args:List PV}{K:PV->Prop}{v:PV}(h:Xr P g args v)(hK:go (K v)):u3 P g args K:=⟨v,h,hK⟩
theorem W.T1(l:List Nat)(h:∀K:PS->Prop,(∀σ,W E n tl c Q σ->K σ)->K ⟨fa (l.map fun i=>(i,f i)),rows,clk⟩):W E n tl c Q ⟨f,rows,clk⟩:=W.live l (h _ fun _ h=>h)
theorem W.lv(l:List Nat)(hK:∀σ,W E n tl c Q σ->K0 σ)(h:∀K:PS->Prop,(∀σ,W E n tl c Q σ->K σ)->K ⟨fa (l.map fun i=>(i,f i)),rows,clk⟩):K0 ⟨f,rows,clk⟩:=hK _ (W.T1 l h)
inductive Bx(P:PS->Prop):Type
  | mk
def aW{P:PS->Prop}(_:Bx P)(σ:PS):Prop:=P σ
theorem W.lw(l:List Nat)(hK:∀σ,W E n tl c Q σ->K0 σ)(h:aW (Bx.mk (P:=W E n tl c Q)) ⟨fa (l.map fun i=>(i,f i)),rows,clk⟩):K0 ⟨f,rows,clk⟩:=hK _ (W.T1 l fun _ q=>q _ h)
theorem W.lx(l:List Nat)(h:aW (Bx.mk (P:=W E n tl c Q)) ⟨fa (l.map fun i=>(i,f i)),rows,clk⟩):aW (Bx.mk (P:=W E n tl c Q)) ⟨f,rows,clk⟩:=W.T1 l fun _ q=>q _ h
structure il(l:List Nat):Prop
theorem W.ly{l:List Nat}(_:il l)(h:aW (Bx.mk (P:=W E n tl c Q)) ⟨fa (l.map fun i=>(i,f i)),rows,clk⟩):aW (Bx.mk (P:=W E n tl c Q)) ⟨f,rows,clk⟩:=W.lx l h
theorem W.sr(h:go (aC E ops ops (aW (Bx.mk (P:=W E n tl y Q))) σ)):W E n tl (.seq (.region id ops.toArray false) y) Q σ:=by refine W.seq ?_;intro ec w0 S0 G a w Q' hR hQ;simp only [dQ,pS,Bool.and_eq_true]at ec;refine wp_region_list (ik (fun σ' a' w' hk gR=>hQ .normal σ' a' w' hk gR) _ σ a w (fun o ho t ht=>?_) h hR);have:=Array.all_eq_true_iff_forall_mem.1 ec.1 o (au ho);simpa [ht]using this
theorem W.sd(h:go (gF E (tl id) ops (aW (Bx.mk (P:=W E n tl y Q))) σ)):W E n tl (.seq (.region id ops.toArray true) y) Q σ:=by refine W.seq ?_;intro ec w0 S0 G a w Q' hR hQ;exact tE (by simpa [dQ]using ec) h hR fun σ' a' w' hk gR=>hQ .normal σ' a' w' hk gR
end Pm
namespace Pm
open Go Go.RowKit List
variable {n id ver e m clk i j:Nat}{f:Nat->PV}{rows:Rows}{els:List (List PV)}{el:List PV}
def Wk(p q:PV):Prop:=q=p∨(p = .nil∧q = .sl [])
theorem Wk.rep{c:Cx}{p q:PV}{v:Value}(h:Wk p q)(hr:aB c p v):aB c q v:=by
 rcases h with rfl | ⟨rfl,rfl⟩
 ·exact hr
 ·simp only [aB,de]at hr |-;exact⟨none,0,au hr,av,av, .inl trivial⟩
theorem aN.flat{α β:Type}{R:α->β->Prop}:∀ {l:List (List α)} {m:List (List β)},aN (aN R) l m->aN R l.flatten m.flatten
 | [],[],_=>trivial
 | a::l,b::m,h=>by
  obtain⟨h1,h2⟩:=h;have ih:=aN.flat h2;clear h2
  induction a generalizing b with
  | nil=>cases b with
   | nil=>exact ih
   | cons=>exact h1.elim
  | cons x a iha=>cases b with
   | nil=>exact h1.elim
   | cons y b=>exact⟨h1.1,iha b h1.2⟩
theorem afi{gY:List (List PV)}(hr:rows id=some ⟨ver,e,m,els⟩)(hw:aN (aN fun q p=>Wk p q) gY els):Gh n ⟨f,rows,clk⟩ ⟨f,dH rows id (some ⟨ver,e,m,gY⟩),clk⟩:=by
 rintro w0 S0 G a w ⟨⟨c,rfl,gq,eB,hI,hf,hG⟩,h7,h8⟩;have gI:c.rows id=some ⟨ver,e,m,els⟩:=by rw [gq];exact hr
 obtain⟨⟨xs,g1,g2,g3⟩,g4,g5,g6⟩:=hI.row id _ gI;have hlen:gY.length=els.length:=hw.length
 obtain⟨mh,hA⟩:=hI.dH (w':=c.w) (r':=⟨ver,e,m,gY⟩) (xs:=xs) gI (World.grownBy.refl _ _) (by simp only [hlen];exact g1)
  (by
   have h1:=aN.flat hw
   have:∀ {l:List PV} {k:List PV} {vs:List Value},aN (fun q p=>Wk p q) l k->aN (aB c) k vs->aN (aB c) l vs:=by
    intro l
    induction l with
    | nil=>intro k vs h h';cases k with
     | nil=>exact h'
     | cons=>exact h.elim
    | cons x l ih=>intro k vs h h';cases k with
     | nil=>exact h.elim
     | cons y k=>cases vs with
      | nil=>exact h'.elim
      | cons v vs=>exact⟨h.1.rep h'.1,ih h.2 h'.2⟩
   exact this h1 g2) g3 (fun el mg=>by
   obtain⟨k,hk⟩:=getElem?_of_mem mg;obtain⟨b,hb,h1⟩:=hw.get hk;rw [h1.length];exact g4 b (mem_of_getElem? hb)) rfl rfl hlen
 refine⟨⟨{ c with rows:=dH c.rows id (some ⟨ver,e,m,gY⟩) },rfl,by simp [gq],eB,mh,fun s=>az.pM hA _ _ (hf s),fun p hp=>az.pM hA _ _ (hG p hp)⟩,h7,h8⟩
theorem afj{s:Nat}(hs:f s = .nil)(hm:0<m):Gh n ⟨f,rows,clk⟩ ⟨put f (some s) (.own id clk 0 0),dH rows id (some ⟨clk,e,m,[]⟩),clk+1⟩:=by
 rintro w0 S0 G a w ⟨⟨c,rfl,gq,eB,hI,hf,hG⟩,h7,h8⟩;obtain⟨mh,hA⟩:=hI.set (w':=c.w) (ob:=none) (id:=id) (r':=⟨clk,e,m,[]⟩) (v':=.slice none 0 0) (xs:=[]) (World.grownBy.refl _ _) av ⟨av, .inl ⟨rfl,rfl⟩⟩ (by simp [aN]) av av hm (by simp [Value.ownBlock]) (fun hu=>Nat.lt_irrefl _ (eB _ hu))
 refine⟨⟨{ c with β:=dH c.β id (.slice none 0 0),rows:=dH c.rows id (some ⟨clk,e,m,[]⟩),used:=fun v=>v=clk∨c.used v },rfl,by simp [gq],fun v hv=>by
  show v<clk+1
  rcases hv with rfl | hv
  ·omega
  ·have:v<clk:=eB v hv;omega,mh,fun t=>?_,fun p hp=>az.pM hA _ _ (hG p hp)⟩,h7,h8⟩
 simp only [put]
 split
 ·rename_i ht;subst ht;have h1:=hf t;simp only at h1;rw [hs]at h1;simp only [az,aB,de]at h1;simp only [az,aB];refine⟨.inl (by first | rfl | trivial),fun r hr hv=>?_⟩;simp only [fG,Option.some.injEq]at hr;subst hr;exact⟨av, .inl ⟨trivial,none,0,0,by simp [dH],h1⟩⟩
 ·exact az.pM hA _ _ (hf t)
theorem Hj{α β:Type}{R:α->β->Prop}{x:α}{y:β}(h:R x y):∀k:Nat,aN R (replicate k x) (replicate k y)
 | 0=>trivial
 | k+1=>⟨h,Hj h k⟩
section
variable {E:Env} {n:Nat} {tl:Nat->Nat} {Q:PX->PS->Prop} {c:Code} {f:Nat->PV} {rows:Rows} {clk:Nat}
theorem W.row(gY:List (List PV))(hr:rows id=some ⟨ver,e,m,els⟩)(hw:aN (aN fun q p=>Wk p q) gY els)(h:W E n tl c Q ⟨f,dH rows id (some ⟨ver,e,m,gY⟩),clk⟩):W E n tl c Q ⟨f,rows,clk⟩:=W.ghost (afi hr hw) h
theorem W.nil(s id e m:Nat)(hs:f s = .nil)(hm:0<m)(h:∀K:PS->Prop,(∀σ,W E n tl c Q σ->K σ)->K ⟨put f (some s) (.own id clk 0 0),dH rows id (some ⟨clk,e,m,[]⟩),clk+1⟩):W E n tl c Q ⟨f,rows,clk⟩:=W.ghost (afj hs hm) (h _ fun _ h=>h)
end
def fzP(o:Option Row)(ver i j:Nat):PV:=
 match o with
 | some r=>if r.ver=ver then .rd ((r.els.getD i []).drop j)else .undef
 | none => .undef
@[simp] theorem arl:fz rows (.ptr id ver i j)=fzP (rows id) ver i j:=rfl
@[simp] theorem arn:pz rows (.ptr id ver i j)=fzP (rows id) ver i j:=rfl
@[simp] theorem ao8:fzP (some ⟨ver,e,n,[el]⟩) ver 0 0 = .rd el:=by simp [fzP]
@[simp] theorem als:dA (.ptr id ver i j) = [id]:=rfl
@[simp] theorem aci:da (some ⟨ver,e,n,[el]⟩) = ∀p∈el,aF p=true:=by simp [da]
end Pm
namespace Pm
open Go
theorem fc{E:Env}{m:Nat}{ops:List Oper}{K:PS->Prop}{f:Nat->PV}{rows:Rows}{clk:Nat}:go (gF E (m+1) ops K ⟨f,rows,clk⟩)=go (aV E ops clk 0 (ops.take (ops.length-(m+1))) (aC E ops (ops.drop (ops.length-(m+1))) K) ⟨f,rows,fun _ _=>False,fun _ _=>False⟩):=by simp [gF]
end Pm
namespace Pm
open Go Go.RowKit List
variable {w0:World}{S0:dz}{c:Code}{id n clk i ver off len a j s:Nat}{p:PV}{v:Value}{rows:Rows}{l:List (Nat × PV)}{E:Env}{tl:Nat->Nat}{Q:PX->PS->Prop}{α:Type}{k:IntKind}{b:Bool}{f:Nat->PV}
def Gn(rows:Rows)(id:Nat):PV->PV
 | .own i ver off len=>if i=id then fz rows (.own i ver off len)else .own i ver off len
 | .ptr i ver a j=>if i=id then fz rows (.ptr i ver a j)else .ptr i ver a j
 | p=>p
def ER(rows:Rows)(id:Nat):PV->PV
 | .ag l => .ag (l.map (Gn rows id))
 | p=>Gn rows id p
theorem ES{c:Cx}(hI:Inv w0 S0 c)(hp:∀r,c.rows id=some r -> ∀e∈r.els,∀p∈e,aF p=true)(h:aB c p v):aB (B7 c [id]) (Gn c.rows id p) v:=by
 have lU:∀i ∈ [id],∀r,c.rows i=some r -> ∀e∈r.els,∀p∈e,aF p=true:=by intro i hi;simp at hi;subst hi;exact hp
 have key:∀q:PV,aB c q v->(∀i∈aL q,i ∈ [id])->(fz c.rows q = .undef∨aF (fz c.rows q)=true)->aB (B7 c [id]) (fz c.rows q) v:=by
  intro q hq hi ho
  rcases ho with ho | ho
  ·rw [ho];simp [aB]
  ·exact aB.ia (Aa hI lU hq hi ho)
 cases p with
 | own i ver off len =>
  simp only [Gn]
  split
  ·rename_i hi;subst hi;refine key _ h (by simp [aL]) ?_;simp only [fz];cases c.rows i with
   | none=>exact .inl rfl
   | some r =>
    simp only
    split
    ·exact .inr rfl
    ·exact .inl rfl
  ·exact aB.pM (jf c [id]) _ _ h
 | ptr i ver a j =>
  simp only [Gn]
  split
  ·rename_i hi;subst hi;refine key _ h (by simp [aL]) ?_;simp only [fz];cases c.rows i with
   | none=>exact .inl rfl
   | some r =>
    simp only
    split
    ·exact .inr rfl
    ·exact .inl rfl
  ·exact aB.pM (jf c [id]) _ _ h
 | _=>exact aB.pM (jf c [id]) _ _ h
theorem M5{c:Cx}(hI:Inv w0 S0 c)(hp:∀r,c.rows id=some r -> ∀e∈r.els,∀p∈e,aF p=true)(h:az c p v):az (B7 c [id]) (ER c.rows id p) v:=by
 cases p with
 | ag l =>
  obtain⟨vs,h1,h2⟩:=h;refine⟨vs,h1,aN.bT (by simp [h2.length]) fun k a b ha hb=>?_⟩;simp at ha;obtain⟨q,hq,rfl⟩:=ha;obtain⟨b',gC,hr⟩:=h2.get hq;rw [hb]at gC;cases gC;exact ES hI hp hr
 | cW l =>
  obtain⟨vs,h1,h2⟩:=h;exact⟨vs,h1,h2.mono (aB.pM (jf c [id]))⟩
 | lR f fs bF =>
  obtain⟨us,cs,h1,h2,h3⟩:=h;exact⟨us,cs,h1,h2.mono (aB.pM (jf c [id])),h3.mono (aB.pM (jf c [id]))⟩
 | _ =>
  simp only [az]at h;have:=ES hI hp h;simp only [ER]
  exact(by
   first
    | (simp only [Gn,az]at this |-;exact this)
    | (simp only [Gn]at this |-
       split
       · rename_i hi;rw [if_pos hi]at this;simp only [fz]at this |-;revert this;split<;>(try split)<;>exact fun h=>h
       · rename_i hi;rw [if_neg hi]at this;exact this))
theorem Df:ER rows id .undef = .undef:=rfl
theorem T3{g:PV->PV}(hg:g .undef = .undef):(fun s=>g (fa l s))=fa (l.map fun p=>(p.1,g p.2)):=by
 funext s
 induction l with
 | nil=>exact hg
 | cons p l ih =>
  obtain⟨i,v⟩:=p;simp only [fa,map_cons]
  split
  ·rfl
  ·exact ih
theorem Qc(id:Nat)(hp:da (rows id)):Gh n ⟨fa l,rows,clk⟩ ⟨fa (l.map fun p=>(p.1,ER rows id p.2)),CY rows [id],clk⟩:=by rintro w0 S0 G a w ⟨⟨c,rfl,gq,eB,hI,hf,hG⟩,h7,h8⟩;have T4:c.rows=rows:=gq;subst T4;refine⟨⟨B7 c [id],rfl,rfl,eB,hI.freeze [id],fun s=>?_,fun p hp=>az.pM (jf c [id]) _ _ (hG p hp)⟩,h7,h8⟩;rw [<-T3 (g:=ER c.rows id) Df];exact M5 hI hp (hf s)
theorem W.freeze(id:Nat)(hp:da (rows id))(h:∀K:PS->Prop,(∀σ,W E n tl c Q σ->K σ)->K ⟨fa (l.map fun p=>(p.1,ER rows id p.2)),CY rows [id],clk⟩):W E n tl c Q ⟨fa l,rows,clk⟩:=W.ghost (Qc id hp) (h _ fun _ h=>h)
@[simp] theorem ao9:ER rows id (.own i ver off len)=if i=id then fzR (rows i) ver off len else .own i ver off len:=rfl
@[simp] theorem apa:ER rows id (.ptr i ver a j)=if i=id then fzP (rows i) ver a j else .ptr i ver a j:=rfl
@[simp] theorem apb{g:α->List PV}{l:List α}:ER rows id (aw g l)=aw g l:=rfl
@[simp] theorem apc{n:Int}:ER rows id (.int k n) = .int k n:=rfl
@[simp] theorem alu:ER rows id (.bool b) = .bool b:=rfl
@[simp] theorem apd:ER rows id .nil = .nil:=rfl
@[simp] theorem aro{l:List (List PV)}:ER rows id (.sl l) = .sl l:=rfl
@[simp] theorem ape{l:List (List PV)}:ER rows id (.iE l) = .iE l:=rfl
@[simp] theorem arp{l:List PV}:ER rows id (.ag l) = .ag (l.map (Gn rows id)):=rfl
@[simp] theorem apf{n:Int}:Gn rows id (.int k n) = .int k n:=rfl
@[simp] theorem alv:Gn rows id (.bool b) = .bool b:=rfl
@[simp] theorem apg:Gn rows id .nil = .nil:=rfl
@[simp] theorem aph{g:α->List PV}{l:List α}:Gn rows id (aw g l)=aw g l:=rfl
theorem YR(q:PV)(hs:f s = .nil)(hq:q = .sl []):Gh n ⟨f,rows,clk⟩ ⟨put f (some s) q,rows,clk⟩:=by
 rintro w0 S0 G a w ⟨⟨c,rfl,gq,eB,hI,hf,hG⟩,h7,h8⟩;refine⟨⟨c,rfl,gq,eB,hI,fun t=>?_,hG⟩,h7,h8⟩;simp only [put]
 split
 ·rename_i ht;subst ht;have h1:=hf t;simp only at h1;rw [hs]at h1;subst hq;simp only [az]at h1 |-;exact Wk.rep (.inr ⟨rfl,rfl⟩) h1
 ·exact hf t
theorem W.Kw(s:Nat)(q:PV)(hs:f s = .nil)(hq:q = .sl [])(h:∀K:PS->Prop,(∀σ,W E n tl c Q σ->K σ)->K ⟨put f (some s) q,rows,clk⟩):W E n tl c Q ⟨f,rows,clk⟩:=W.ghost (YR q hs hq) (h _ fun _ h=>h)
theorem M6{c:Cx}{l:List (List PV)}(hr:aB c (.iE l) v):aB c (.sl l) v:=by simp only [aB,de]at hr |-;obtain⟨a,h1,h2,h3⟩:=hr;exact⟨a,l.length,h1,Nat.le_refl _,h2,h3⟩
theorem YS(l:List (List PV))(q:PV)(hs:f s = .iE l)(hq:q = .sl l):Gh n ⟨f,rows,clk⟩ ⟨put f (some s) q,rows,clk⟩:=by
 rintro w0 S0 G a w ⟨⟨c,rfl,gq,eB,hI,hf,hG⟩,h7,h8⟩;refine⟨⟨c,rfl,gq,eB,hI,fun t=>?_,hG⟩,h7,h8⟩;simp only [put]
 split
 ·rename_i ht;subst ht;have h1:=hf t;simp only at h1;rw [hs]at h1;subst hq;simp only [az]at h1 |-;exact M6 h1
 ·exact hf t
theorem W.arq(s:Nat)(l:List (List PV))(q:PV)(hs:f s = .iE l)(hq:q = .sl l)(h:∀K:PS->Prop,(∀σ,W E n tl c Q σ->K σ)->K ⟨put f (some s) q,rows,clk⟩):W E n tl c Q ⟨f,rows,clk⟩:=W.ghost (YS l q hs hq) (h _ fun _ h=>h)
def Az(rows:Rows)(id:Nat):Option Row->Option Row
 | some r=>some { r with els:=r.els.map fun e=>e.map (Gn rows id) }
 | none=>none
def Cy(rows:Rows)(id:Nat):Rows:=fun j=>if j=id then none else Az rows id (rows j)
@[simp] theorem api:Cy rows id j=if j=id then none else Az rows id (rows j):=rfl
@[simp] theorem acj{v e:Nat}{els:List (List PV)}:Az rows id (some ⟨v,e,n,els⟩)=some ⟨v,e,n,els.map fun e=>e.map (Gn rows id)⟩:=rfl
@[simp] theorem ack:Az rows id none=none:=rfl
@[simp] theorem apj:Gn rows id (.own i ver off len)=if i=id then fzR (rows i) ver off len else .own i ver off len:=rfl
@[simp] theorem apk:Gn rows id (.ptr i ver a j)=if i=id then fzP (rows i) ver a j else .ptr i ver a j:=rfl
theorem Kx(id:Nat)(hp:da (rows id)):Gh n ⟨fa l,rows,clk⟩ ⟨fa (l.map fun p=>(p.1,ER rows id p.2)),Cy rows id,clk⟩:=by
 rintro w0 S0 G a w ⟨⟨c,rfl,gq,eB,hI,hf,hG⟩,h7,h8⟩;have T4:c.rows=rows:=gq;subst T4;have Gl:=hI.freeze [id]
 have live:∀ {j:Nat} {r':Row},Cy c.rows id j=some r'->j≠id ∧ ∃r,c.rows j=some r∧r' = { r with els:=r.els.map fun e=>e.map (Gn c.rows id) }:=by
  intro j r' h;simp only [Cy]at h
  split at h
  ·cases h
  ·rename_i hj;cases hr:c.rows j with
   | none=>rw [hr]at h;cases h
   | some r=>rw [hr]at h;simp only [Az,Option.some.injEq]at h;exact⟨hj,r,rfl,h.symm⟩
 have hA:so (B7 c [id]) { B7 c [id]with rows:=Cy c.rows id }:=by refine⟨fun _ _ h=>h,fun _ _ _=>rfl,fun _ h=>h,fun j r' h=>?_⟩;obtain⟨hj,r,hr,rfl⟩:=live h;exact .inr ⟨r,by simp [B7,CY,hj,hr],rfl,rfl,av,rfl⟩
 have Xz:Inv w0 S0 { B7 c [id]with rows:=Cy c.rows id }:=by
  refine⟨Gl.below,Gl.ext,Gl.new,Gl.XV,fun j r' h=>?_,fun j r' h=>?_,fun i j r s g hr hs=>?_,Gl.fin⟩
  ·obtain⟨hj,r,hr,rfl⟩:=live h;exact hI.clock j r hr
  ·obtain⟨hj,r,hr,rfl⟩:=live h;obtain⟨⟨xs,g1,g2,g3⟩,g4,g5,g6⟩:=hI.row j r hr;obtain⟨_,_,f5,_⟩:=Gl.row j r (by simp [B7,CY,hj,hr])
   refine⟨⟨xs,by rw [length_map];exact g1,?_,g3⟩,fun e he=>?_,f5,g6⟩
   ·show aN _ (flatten (r.els.map fun e=>e.map (Gn c.rows id))) xs;rw [<-map_flatten];refine aN.bT (by rw [length_map];exact g2.length) fun k p u lU hu=>?_;rw [getElem?_map]at lU;obtain⟨q,hq,rfl⟩:=Option.map_eq_some_iff.1 lU;obtain⟨u',GD,gI⟩:=g2.get hq;rw [hu]at GD;cases GD;exact aB.pM hA _ _ (ES hI hp gI)
   ·simp only [mem_map]at he;obtain⟨e',oU,rfl⟩:=he;simpa using g4 e' oU
  ·obtain⟨hi,r1,tB,rfl⟩:=live hr;obtain⟨hj,r2,bE,rfl⟩:=live hs;exact hI.apart i j r1 r2 g tB bE
 refine⟨⟨{ B7 c [id]with rows:=Cy c.rows id },rfl,rfl,eB,Xz,fun s=>?_,fun p hp=>az.pM hA _ _ (az.pM (jf c [id]) _ _ (hG p hp))⟩,h7,h8⟩;show az _ (fa (l.map fun p=>(p.1,ER c.rows id p.2)) s) _;rw [<-T3 (g:=ER c.rows id) Df];exact az.pM hA _ _ (M5 hI hp (hf s))
theorem W.ET(id:Nat)(hp:da (rows id))(h:∀K:PS->Prop,(∀σ,W E n tl c Q σ->K σ)->K ⟨fa (l.map fun p=>(p.1,ER rows id p.2)),Cy rows id,clk⟩):W E n tl c Q ⟨fa l,rows,clk⟩:=W.ghost (Kx id hp) (h _ fun _ h=>h)
end Pm

namespace Pm
open Go
variable {X G P1 P2 P3 P4 P5 P6 P7 P8 P9 P10 P11 P12:Prop}{E:Env}{n id:Nat}{tl:Nat->Nat}{Q:PX->PS->Prop}{σ:PS}{ops:List Oper}
theorem bM(a1:List Nat)(hX:X)(h:il a1->X->G:=by intro a1 hX;simp (disch:=omega) [gw];refine W.ly a1 ?_;simp;exact hX):G:=h ⟨⟩ hX
theorem aR(a1:List Nat)(hX:X)(h:il a1->X->G:=by intro a1 hX;refine W.sr ?_;simp (disch:=omega) [gw];refine W.ly a1 ?_;simp;exact hX):G:=h ⟨⟩ hX
theorem jK(a1:P1)(hX:X)(h:P1->X->G:=by intro a1 hX;simp (disch:=omega) [gw];refine aU a1 ?_;exact hX):G:=h a1 hX
theorem bB{X:(PS->Prop)->Prop}(hX:∀K,(∀σ,Q .normal σ->K σ)->X K)(h:∀K,X K->go (aC E ops ops K σ):=by intro K hX;simp (disch:=omega) [gw];exact hX):W E n tl (.region id ops.toArray false) Q σ:=W.wI fun K hK=>h K (hX K hK)
theorem fi{Y:Prop}(a1:List Nat)(hX:X)(hY:Y)(h:il a1->X->Y->G:=by intro a1 hX hY;refine W.sr ?_;simp (disch:=omega) [gw];refine W.ly a1 ?_;simp;refine W.cond ⟨_,rfl,?_,?_⟩;exact hX;exact hY):G:=h ⟨⟩ hX hY
theorem lE(a1:P1)(hX:X)(h:P1->X->G:=by intro a1 hX;refine W.sr ?_;simp (disch:=omega) [gw];refine aU a1 ?_;exact hX):G:=h a1 hX
theorem u6(a1:P1)(a2:List Nat)(hX:X)(h:P1->il a2->X->G:=by intro a1 a2 hX;simp (disch:=omega) [gw,a1];refine W.ly a2 ?_;simp;exact hX):G:=h a1 ⟨⟩ hX
theorem kt{Y:Prop}(a1:List Nat)(hX:X)(hY:Y)(h:il a1->X->Y->G:=by intro a1 hX hY;simp (disch:=omega) [gw];refine W.ly a1 ?_;simp;refine W.cond ⟨_,rfl,?_,?_⟩;exact hX;exact hY):G:=h ⟨⟩ hX hY
theorem iq(hX:X)(h:X->G:=by intro hX;refine W.exit ?_;simp only [pX,if_true,if_false,reduceIte,Nat.reduceEqDiff];refine W.sr ?_;exact hX):G:=h hX
theorem qZ(a1:List Nat)(hX:X)(h:il a1->X->G:=by intro a1 hX;refine W.exit ?_;simp only [pX,if_true,if_false,reduceIte,Nat.reduceEqDiff];refine W.sr ?_;simp (disch:=omega) [gw];refine W.ly a1 ?_;simp;exact hX):G:=h ⟨⟩ hX
theorem iR(hX:X)(h:X->G:=by intro hX;refine W.seq ?_;refine W.block ?_;exact hX):G:=h hX
theorem eK(a1:List Nat)(h:il a1->G:=by intro a1;simp (disch:=omega) [gw];refine W.ly a1 ?_;simp;refine W.ret ?_;simp [go]):G:=h ⟨⟩
theorem iI(a1:P1)(a2:P2)(hX:X)(h:P1->P2->X->G:=by intro a1 a2 hX;simp (disch:=omega) [gw,a1];refine aU a2 ?_;exact hX):G:=h a1 a2 hX
theorem iS(a1:P1)(a2:P2)(a3:P3)(hX:X)(h:P1->P2->P3->X->G:=by intro a1 a2 a3 hX;simp (disch:=omega) [gw,a1,a2];refine aU a3 ?_;exact hX):G:=h a1 a2 a3 hX
theorem dS(a1:List Nat)(h:il a1->G:=by intro a1;refine W.sr ?_;simp (disch:=omega) [gw];refine W.ly a1 ?_;simp;refine W.ret ?_;simp [go]):G:=h ⟨⟩
theorem AA(a1:P1)(a2:P2)(a3:List Nat)(hX:X)(h:P1->P2->il a3->X->G:=by intro a1 a2 a3 hX;simp (disch:=omega) [gw,a1,a2];refine W.ly a3 ?_;simp;exact hX):G:=h a1 a2 ⟨⟩ hX
theorem fB(a1:List Nat)(hX:X)(h:il a1->X->G:=by intro a1 hX;refine W.sr ?_;simp (disch:=omega) [gw];refine W.ly a1 ?_;simp;refine W.seq ?_;exact hX):G:=h ⟨⟩ hX
theorem ft(hX:X)(h:X->G:=by intro hX;refine W.skip ?_;refine W.seq ?_;refine W.block ?_;exact hX):G:=h hX
theorem my(a1:P1)(hX:X)(h:P1->X->G:=by intro a1 hX;simp (disch:=omega) [gw];refine aU a1 ?_;simp (disch:=omega) [gw];exact hX):G:=h a1 hX
theorem Ky(a1:P1)(a2:P2)(a3:P3)(a4:P4)(a5:P5)(a6:P6)(a7:P7)(a8:P8)(a9:P9)(YT:P10)(YU:P11)(YV:P12)(hX:X)(h:P1->P2->P3->P4->P5->P6->P7->P8->P9->P10->P11->P12->X->G:=by intro a1 a2 a3 a4 a5 a6 a7 a8 a9 YT YU YV hX;simp (disch:=omega) [gw,a1,a2,a3,a4,a5,a6];(try (refine aM (by decide +kernel) ?_));(try simp (disch:=omega) [gw,a7,a8,a9,YT,YU,YV]);(repeat (first | rw [if_pos (by decide +kernel)] | rw [if_neg (by decide +kernel)]));(try simp (disch:=omega) [gw,a7,a8,a9,YT,YU,YV]);exact hX):G:=h a1 a2 a3 a4 a5 a6 a7 a8 a9 YT YU YV hX
theorem yM(a1:List Nat)(hX:X)(h:il a1->X->G:=by intro a1 hX;refine W.sr ?_;simp (disch:=omega) [gw];refine W.ly a1 ?_;simp;refine W.block ?_;exact hX):G:=h ⟨⟩ hX
theorem KA{P13 P14:Prop}(a1:P1)(a2:P2)(a3:P3)(a4:P4)(a5:P5)(a6:P6)(a7:P7)(a8:P8)(a9:P9)(YT:P10)(YU:P11)(YV:P12)(a13:P13)(a14:P14)(hX:X)(h:P1->P2->P3->P4->P5->P6->P7->P8->P9->P10->P11->P12->P13->P14->X->G:=by intro a1 a2 a3 a4 a5 a6 a7 a8 a9 YT YU YV a13 a14 hX;simp (disch:=omega) [gw,a1,a2,a3,a4,a5,a6,a7];(try (refine aM (by decide +kernel) ?_));(try simp (disch:=omega) [gw,a8,a9,YT,YU,YV,a13,a14]);(repeat (first | rw [if_pos (by decide +kernel)] | rw [if_neg (by decide +kernel)]));(try simp (disch:=omega) [gw,a8,a9,YT,YU,YV,a13,a14]);exact hX):G:=h a1 a2 a3 a4 a5 a6 a7 a8 a9 YT YU YV a13 a14 hX
theorem s8{Y:Prop}(a1:P1)(a2:List Nat)(hX:X)(hY:Y)(h:P1->il a2->X->Y->G:=by intro a1 a2 hX hY;simp (disch:=omega) [gw,a1];refine W.ly a2 ?_;simp;refine W.cond ⟨_,rfl,?_,?_⟩;exact hX;exact hY):G:=h a1 ⟨⟩ hX hY
theorem gT(a1:P1)(a2:List Nat)(hX:X)(h:P1->il a2->X->G:=by intro a1 a2 hX;refine W.sr ?_;simp (disch:=omega) [gw];refine aU a1 ?_;simp (disch:=omega) [gw];refine W.ly a2 ?_;simp;exact hX):G:=h a1 ⟨⟩ hX
theorem cS{Y:Prop}(a1:List Nat)(hX:X)(hY:Y)(h:il a1->X->Y->G:=by intro a1 hX hY;refine W.seq ?_;refine W.sr ?_;simp (disch:=omega) [gw];refine W.ly a1 ?_;simp;refine W.cond ⟨_,rfl,?_,?_⟩;exact hX;exact hY):G:=h ⟨⟩ hX hY
theorem T5(a1:P1)(a2:P2)(a3:P3)(hX:X)(h:P1->P2->P3->X->G:=by intro a1 a2 a3 hX;simp (disch:=omega) [gw];(try (refine aM (by decide +kernel) ?_));(try simp (disch:=omega) [gw,a1,a2,a3]);(repeat (first | rw [if_pos (by decide +kernel)] | rw [if_neg (by decide +kernel)]));(try simp (disch:=omega) [gw,a1,a2,a3]);exact hX):G:=h a1 a2 a3 hX
theorem u7{Y:Prop}(a1:List Nat)(hX:X)(hY:Y)(h:il a1->X->Y->G:=by intro a1 hX hY;refine W.ly a1 ?_;simp;refine W.cond ⟨_,rfl,?_,?_⟩;exact hX;exact hY):G:=h ⟨⟩ hX hY
theorem q9{X:(PS->Prop)->Prop}(a1:P1)(hX:∀K,(∀σ,Q .normal σ->K σ)->X K)(h:P1 -> ∀K,X K->go (aC E ops ops K σ):=by intro a1 K hX;simp (disch:=omega) [gw,a1];exact hX):W E n tl (.region id ops.toArray false) Q σ:=W.wI fun K hK=>h a1 K (hX K hK)
theorem jm(hX:X)(h:X->G:=by intro hX;refine W.skip ?_;refine W.seq ?_;exact hX):G:=h hX
theorem qi(a1:List Nat)(h:il a1->G:=by intro a1;refine W.ly a1 ?_;simp;refine W.ret ?_;simp [go]):G:=h ⟨⟩
theorem eO(a1:P1)(a2:P2)(hX:X)(h:P1->P2->X->G:=by intro a1 a2 hX;simp (disch:=omega) [gw];refine aU a1 ?_;simp (disch:=omega) [gw];refine aU a2 ?_;exact hX):G:=h a1 a2 hX
theorem oC(hX:X)(h:X->G:=by intro hX;refine W.sr ?_;simp (disch:=omega) [gw];exact hX):G:=h hX
theorem fj(a1:P1)(a2:List Nat)(hX:X)(h:P1->il a2->X->G:=by intro a1 a2 hX;refine W.sr ?_;simp (disch:=omega) [gw,a1];refine W.ly a2 ?_;simp;exact hX):G:=h a1 ⟨⟩ hX
theorem gr(a1:List Nat)(hX:X)(h:il a1->X->G:=by intro a1 hX;refine W.sr ?_;simp (disch:=omega) [gw];refine W.ly a1 ?_;simp;refine W.sd ?_;exact hX):G:=h ⟨⟩ hX
theorem ef{Y:Prop}(a1:List Nat)(hX:X)(hY:Y)(h:il a1->X->Y->G:=by intro a1 hX hY;refine W.sr ?_;simp (disch:=omega) [gw];refine W.ly a1 ?_;simp;refine W.seq ?_;refine W.cond ⟨_,rfl,?_,?_⟩;exact hX;exact hY):G:=h ⟨⟩ hX hY
theorem dU(a1:List Nat)(hX:X)(h:il a1->X->G:=by intro a1 hX;refine W.seq ?_;refine W.sr ?_;simp (disch:=omega) [gw];refine W.ly a1 ?_;simp;refine W.block ?_;exact hX):G:=h ⟨⟩ hX
theorem eQ(a1:List Nat)(a2:List Nat)(hX:X)(h:il a1->il a2->X->G:=by intro a1 a2 hX;refine W.sr ?_;simp (disch:=omega) [gw];refine W.ly a1 ?_;simp;refine W.sr ?_;simp (disch:=omega) [gw];refine W.ly a2 ?_;simp;exact hX):G:=h ⟨⟩ ⟨⟩ hX
theorem fH{Y:Prop}(a1:P1)(a2:List Nat)(hX:X)(hY:Y)(h:P1->il a2->X->Y->G:=by intro a1 a2 hX hY;refine W.sr ?_;simp (disch:=omega) [gw];refine aU a1 ?_;simp (disch:=omega) [gw];refine W.ly a2 ?_;simp;refine W.cond ⟨_,rfl,?_,?_⟩;exact hX;exact hY):G:=h a1 ⟨⟩ hX hY
theorem ra(a1:P1)(a2:P2)(a3:P3)(a4:P4)(hX:X)(h:P1->P2->P3->P4->X->G:=by intro a1 a2 a3 a4 hX;simp (disch:=omega) [gw,a1,a2,a3];refine aU a4 ?_;exact hX):G:=h a1 a2 a3 a4 hX
theorem qj(hX:X)(h:X->G:=by intro hX;refine W.skip ?_;refine W.block ?_;exact hX):G:=h hX
theorem lF(a1:P1)(a2:P2)(hX:X)(h:P1->P2->X->G:=by intro a1 a2 hX;refine W.sr ?_;simp (disch:=omega) [gw,a1];refine aU a2 ?_;exact hX):G:=h a1 a2 hX
theorem lG(a1:P1)(a2:P2)(a3:P3)(hX:X)(h:P1->P2->P3->X->G:=by intro a1 a2 a3 hX;refine W.sr ?_;simp (disch:=omega) [gw,a1,a2];refine aU a3 ?_;exact hX):G:=h a1 a2 a3 hX
theorem AB(a1:P1)(a2:P2)(a3:List Nat)(h:P1->P2->il a3->G:=by intro a1 a2 a3;simp (disch:=omega) [gw,a1,a2];refine W.ly a3 ?_;simp;refine W.ret ?_;simp [go]):G:=h a1 a2 ⟨⟩
theorem rb(a1:List Nat)(h:il a1->G:=by intro a1;refine W.exit ?_;simp only [pX,if_true,if_false,reduceIte,Nat.reduceEqDiff];refine W.sr ?_;simp (disch:=omega) [gw];refine W.ly a1 ?_;simp;refine W.ret ?_;simp [go]):G:=h ⟨⟩
theorem mz(a1:List Nat)(hX:X)(h:il a1->X->G:=by intro a1 hX;refine W.sr ?_;simp (disch:=omega) [gw];refine W.ly a1 ?_;simp;refine W.sr ?_;exact hX):G:=h ⟨⟩ hX
theorem u9{X:(PS->Prop)->Prop}(a1:P1)(hX:∀K,(∀σ,Q .normal σ->K σ)->X K)(h:P1 -> ∀K,X K->go (aC E ops ops K σ):=by intro a1 K hX;simp (disch:=omega) [gw];refine aU a1 ?_;simp (disch:=omega) [gw];exact hX):W E n tl (.region id ops.toArray false) Q σ:=W.wI fun K hK=>h a1 K (hX K hK)
theorem kh(a1:P1)(a2:P2)(hX:X)(h:P1->P2->X->G:=by intro a1 a2 hX;refine W.sr ?_;simp (disch:=omega) [gw];refine aU a1 ?_;simp (disch:=omega) [gw];refine aU a2 ?_;exact hX):G:=h a1 a2 hX
theorem fk(a1:List Nat)(a2:P2)(a3:List Nat)(hX:X)(h:il a1->P2->il a3->X->G:=by intro a1 a2 a3 hX;refine W.sr ?_;simp (disch:=omega) [gw];refine W.ly a1 ?_;simp;refine W.sr ?_;simp (disch:=omega) [gw];refine aU a2 ?_;simp (disch:=omega) [gw];refine W.ly a3 ?_;simp;exact hX):G:=h ⟨⟩ a2 ⟨⟩ hX
theorem AD{X:(PS->Prop)->Prop}(a1:P1)(a2:P2)(hX:∀K,(∀σ,Q .normal σ->K σ)->X K)(h:P1->P2 -> ∀K,X K->go (aC E ops ops K σ):=by intro a1 a2 K hX;simp (disch:=omega) [gw,a1];refine aU a2 ?_;exact hX):W E n tl (.region id ops.toArray false) Q σ:=W.wI fun K hK=>h a1 a2 K (hX K hK)
theorem AE{X:(PS->Prop)->Prop}(a1:P1)(hX:∀K,(∀σ,Q .normal σ->K σ)->X K)(h:P1 -> ∀K,X K->go (aC E ops ops K σ):=by intro a1 K hX;simp (disch:=omega) [gw];refine aU a1 ?_;exact hX):W E n tl (.region id ops.toArray false) Q σ:=W.wI fun K hK=>h a1 K (hX K hK)
theorem oD(a1:P1)(a2:P2)(a3:List Nat)(hX:X)(h:P1->P2->il a3->X->G:=by intro a1 a2 a3 hX;refine W.sr ?_;simp (disch:=omega) [gw,a1,a2];refine W.ly a3 ?_;simp;exact hX):G:=h a1 a2 ⟨⟩ hX
theorem yN(a1:P1)(a2:List Nat)(h:P1->il a2->G:=by intro a1 a2;refine W.sr ?_;simp (disch:=omega) [gw];refine aU a1 ?_;simp (disch:=omega) [gw];refine W.ly a2 ?_;simp;refine W.ret ?_;simp [go]):G:=h a1 ⟨⟩
theorem lW(a1:List Nat)(hX:X)(h:il a1->X->G:=by intro a1 hX;refine W.skip ?_;refine W.seq ?_;refine W.block ?_;refine W.sr ?_;simp (disch:=omega) [gw];refine W.ly a1 ?_;simp;exact hX):G:=h ⟨⟩ hX
theorem rf(a1:P1)(a2:List Nat)(hX:X)(h:P1->il a2->X->G:=by intro a1 a2 hX;refine W.skip ?_;refine W.sr ?_;simp (disch:=omega) [gw];refine aU a1 ?_;simp (disch:=omega) [gw];refine W.ly a2 ?_;simp;exact hX):G:=h a1 ⟨⟩ hX
theorem EU(a1:P1)(a2:List Nat)(h:P1->il a2->G:=by intro a1 a2;simp (disch:=omega) [gw,a1];refine W.ly a2 ?_;simp;refine W.ret ?_;simp [go]):G:=h a1 ⟨⟩
theorem cp(hX:X)(h:X->G:=by intro hX;simp (disch:=omega) [gw];exact hX):G:=h hX
theorem dB(a1:P1)(hX:X)(h:P1->X->G:=by intro a1 hX;simp (disch:=omega) [gw,a1];exact hX):G:=h a1 hX
theorem fN(a1:P1)(a2:P2)(hX:X)(h:P1->P2->X->G:=by intro a1 a2 hX;simp (disch:=omega) [gw,a1,a2];exact hX):G:=h a1 a2 hX
theorem qk(a1:P1)(a2:P2)(a3:P3)(hX:X)(h:P1->P2->P3->X->G:=by intro a1 a2 a3 hX;simp (disch:=omega) [gw,a1,a2,a3];exact hX):G:=h a1 a2 a3 hX
theorem EV(a1:P1)(a2:P2)(a3:P3)(a4:P4)(hX:X)(h:P1->P2->P3->P4->X->G:=by intro a1 a2 a3 a4 hX;simp (disch:=omega) [gw,a1,a2,a3,a4];exact hX):G:=h a1 a2 a3 a4 hX
theorem ey(hX:X)(h:X->G:=by intro hX;refine W.exit ?_;simp only [pX,if_true,if_false,reduceIte,Nat.reduceEqDiff];exact hX):G:=h hX
theorem gK(h:G:=by refine W.ret ?_;simp [go]):G:=h
theorem dI{Y:Prop}(hX:X)(hY:Y)(h:X->Y->G:=by intro hX hY;refine W.cond ⟨_,rfl,?_,?_⟩;exact hX;exact hY):G:=h hX hY
theorem c9(a1:List Nat)(hX:X)(h:il a1->X->G:=by intro a1 hX;refine W.ly a1 ?_;simp;exact hX):G:=h ⟨⟩ hX
theorem cT(a1:P1)(hX:X)(h:P1->X->G:=by intro a1 hX;refine aU a1 ?_;exact hX):G:=h a1 hX
abbrev ae(n:Int):PV:=.int .i64 n
@[simp] theorem auO(n:Int):ae n = .int .i64 n:=rfl
abbrev aQ(σ:PS)(l:List (Nat × PV))(P:Rows->Nat->Prop):Prop:=∃rows clk,σ=⟨fa l,rows,clk⟩∧P rows clk
end Pm
