import Derived.Test.YtiobceocpabjdaaGreatNac
set_option linter.unusedSimpArgs false
set_option linter.unusedVariables false
namespace Pm
open Go Go.RowKit
variable {o ver i n j m id a d off len clk v:Nat}{r:Row}{l l' e z rest core iC:List PV}{α:Type}{es els i5:List (List PV)}{t t2:TypeId}{t' ti:TI}{k:IntKind}{b w want:Bool}{fs:List (Nat × Nat × Bool)}{E:Env}{rows rows':Rows}{p p' x' y':PV}{x y fo:Operand}{lo hi mx:Option Operand}{c c' A B:Prop}{f g:FuncId}{ids:List Nat}{ps':List (Nat × PV)}{op:Op}{os ops:List Oper}{s:ByteArray}{parts:Array (Nat × Operand)}{ts:Array TypeId}{args bR:Array Operand}{P:Program}{σ:PS}
def emap{α:Type}(g:α->List PV)(l:List α):List (List PV):=l.map g
def aJ{α:Type}(g:α->List PV)(l:List α):PV:=.sl (emap g l)
def nth{α:Type}[Inhabited α](l:List α)(i:Nat):α:=l[i]?.getD default
def Enc{α:Type}(g:α->List PV)(n:Nat):Prop:=∀x,(g x).length=n
def awv{α:Type}(g:α->List PV):Prop:=∀x,(g x).all bE=true
def cE(o:Option Row)(ver:Nat)(K:Row->Prop):Prop:=∃r,o=some r∧r.ver=ver∧K r
@[congr] theorem ake{o o':Option Row}{K:Row->Prop}(h:o=o'):cE o ver K=cE o' ver K:=by rw [h]
@[simp] theorem ak0{K:Row->Prop}:cE (some r) ver K=aL (r.ver=ver) (K r):=by simp [cE,aL]
def LY(els:List (List PV))(i:Nat)(K:List PV->Prop):Prop:=∃el,els[i]? = some el∧K el
@[congr] theorem at7{l l':List (List PV)}{i':Nat}{K:List PV->Prop}(h:l=l')(hi:i=i'):LY l i K=LY l' i' K:=by rw [h,hi]
@[simp] theorem SU[Inhabited α]{g:α->List PV}{l:List α}{K:List PV->Prop}:LY (emap g l) i K=aL (i<l.length) (K (g (nth l i))):=by
 simp only [LY,emap,aL,nth]
 apply propext
 constructor
 ·rintro⟨el,h1,h2⟩
  simp at h1
  obtain⟨x,h1,rfl⟩:=h1
  have:=(List.getElem?_eq_some_iff.1 h1).1
  rw [h1]
  exact⟨this,h2⟩
 ·rintro⟨h1,h2⟩
  rw [List.getElem?_eq_getElem h1]at h2
  exact⟨g l[i],by simp [h1],h2⟩
@[simp] theorem aww{K:List PV->Prop}:LY (e::es) 0 K=go (K e):=by show _=K e;simp [LY]
@[simp] theorem awx{K:List PV->Prop}:LY (e::es) (i+1) K=LY es i K:=by simp [LY]
def o8{α:Type}(l:List α)(i:Nat):Option α:=l[i]?
@[simp] theorem at8{x:α}{l:List α}:o8 (x::l) 0=some x:=rfl
@[simp] theorem at9{x:α}{l:List α}:o8 (x::l) (n+1)=o8 l n:=rfl
def iN{α:Type}(o:Option α)(K:α->Prop):Prop:=∃v,o=some v∧K v
@[congr] theorem aqy{o o':Option α}{K:α->Prop}(h:o=o'):iN o K=iN o' K:=by rw [h]
@[simp] theorem aua{x:α}{K:α->Prop}:iN (some x) K=go (K x):=by show _=K x;simp [iN]
def EG(ti:TI)(l:List PV)(j:Nat)(K:PV->Prop):Prop:=if ti.agg=true then aL (j+ti.size<=l.length) (K (.ag ((l.drop j).take ti.size)))else iN (o8 l j) K
@[congr] theorem aub{t:TI}{K:PV->Prop}(h1:t=t')(h2:l=l'):EG t l j K=EG t' l' j K:=by rw [h1,h2]
@[simp] theorem aAx{K:PV->Prop}:EG (.int k) l j K=iN (o8 l j) K:=by simp [EG,TI.agg]
@[simp] theorem awy{K:PV->Prop}:EG .bool l j K=iN (o8 l j) K:=by simp [EG,TI.agg]
@[simp] theorem aAy{K:PV->Prop}:EG .str l j K=iN (o8 l j) K:=by simp [EG,TI.agg]
@[simp] theorem auc{e b:Nat}{K:PV->Prop}:EG (.slice e n b z) l j K=iN (o8 l j) K:=by simp [EG,TI.agg]
@[simp] theorem aAz{e:Nat}{K:PV->Prop}:EG (.arr e m n z) l j K=aL (j+z.length<=l.length) (K (.ag ((l.drop j).take z.length))):=by simp [EG,TI.agg,TI.size,TI.zero]
@[simp] theorem awz{K:PV->Prop}:EG .yW l j K=iN (o8 l j) K:=by simp [EG,TI.agg]
@[simp] theorem aAA{K:PV->Prop}:EG .fnT l j K=iN (o8 l j) K:=by simp [EG,TI.agg]
@[simp] theorem aqz{K:PV->Prop}:EG (.struct fs z) l j K=aL (j+z.length<=l.length) (K (.ag ((l.drop j).take z.length))):=by simp [EG,TI.agg,TI.size,TI.zero]
def n5(E:Env)(t:TypeId)(rows:Rows)(p:PV)(K:PV->Prop):Prop:=
 aL ((E.ty t).known=true) (match p with
 | .rd l=>EG (E.ty t) l 0 K
 | .ptr id ver i j=>cE (rows id) ver fun r=>LY r.els i fun el=>EG (E.ty t) el j K
 | _=>False)
@[congr] theorem ak1{K:PV->Prop}(h:p=p'):n5 E t rows p K=n5 E t rows p' K:=by rw [h]
@[simp] theorem aud{K:PV->Prop}:n5 E t rows (.rd l) K=aL ((E.ty t).known=true) (EG (E.ty t) l 0 K):=rfl
@[simp] theorem aqA{K:PV->Prop}:n5 E t rows (.ptr id ver i j) K=aL ((E.ty t).known=true) (cE (rows id) ver fun r=>LY r.els i fun el=>EG (E.ty t) el j K):=rfl
theorem SV{K:PV->Prop}:bH (fun v=>if ti.agg=true then j+ti.size<=l.length∧v = .ag ((l.drop j).take ti.size)else l[j]? = some v) K=EG ti l j K:=by
 simp only [EG,iN]
 split
 ·rw [kP,lK]
 ·rfl
theorem zB{K:PV->Prop}:bH (fun v=>x9 E t rows p v) K=n5 E t rows p K:=by
 simp only [x9,n5]
 rw [kP]
 congr 1
 cases p with
 | rd l=>dsimp only;rw [<-SV];simp [go]
 | ptr id ver i j =>
  simp only [cE,LY,<-SV]
  apply propext;simp only [bH]
  constructor
  ·rintro⟨v,⟨r,h1,h2,el,h3,h4⟩,h5⟩;exact⟨r,h1,h2,el,h3,v,h4,h5⟩
  ·rintro⟨r,h1,h2,el,h3,v,h4,h5⟩;exact⟨v,⟨r,h1,h2,el,h3,h4⟩,h5⟩
 | _=>simp [bH]
def mZ(ti:TI)(i:Nat)(x:PV)(K:PV->Prop):Prop:=
 match ti with
 | .struct fs _=>iN (o8 fs i) fun p=>match x with
  | .ag l=>if p.2.2=true then K (.ag ((l.drop p.1).take p.2.1))else iN (o8 l p.1) K
  | _=>False
 | _=>False
@[congr] theorem akf{t:TI}{x:PV}{K:PV->Prop}(h:t=t')(h2:x=x'):mZ t i x K=mZ t' i x' K:=by rw [h,h2]
def OK(p:Nat × Nat × Bool)(l:List PV)(K:PV->Prop):Prop:=if p.2.2=true then K (.ag ((l.drop p.1).take p.2.1))else iN (o8 l p.1) K
@[simp] theorem aue{K:PV->Prop}:OK (o,n,true) l K=go (K (.ag ((l.drop o).take n))):=by show _=K _;simp [OK]
@[simp] theorem aqB{K:PV->Prop}:OK (o,n,false) l K=iN (o8 l o) K:=by simp [OK]
@[congr] theorem aqC{p p':Nat × Nat × Bool}{K:PV->Prop}(h:p=p')(h2:l=l'):OK p l K=OK p' l' K:=by rw [h,h2]
@[simp] theorem aqD{K:PV->Prop}:mZ (.struct fs z) i (.ag l) K=iN (o8 fs i) fun p=>OK p l K:=rfl
theorem EH{x:PV}{K:PV->Prop}:bH (fun v=>yX E t i x v) K=mZ (E.ty t) i x K:=by
 simp only [yX,mZ]
 cases E.ty t with
 | struct fs z =>
  simp only [iN]
  apply propext;simp only [bH]
  cases x with
  | ag l =>
   simp only
   constructor
   ·rintro⟨v,⟨o,n,b,h1,h2⟩,h3⟩
    refine⟨_,h1,?_⟩
    simp only
    split at h2
    ·rename_i hb;rw [if_pos hb,<-h2];exact h3
    ·rename_i hb;rw [if_neg hb];exact⟨v,h2,h3⟩
   ·rintro⟨⟨o,n,b⟩,h1,h2⟩
    simp only at h2
    split at h2
    ·rename_i hb;exact⟨_,⟨o,n,b,h1,by rw [if_pos hb]⟩,h2⟩
    ·rename_i hb;obtain⟨v,h3,h4⟩:=h2;exact⟨v,⟨o,n,b,h1,by rw [if_neg hb];exact h3⟩,h4⟩
  | _=>simp
 | _=>simp [bH]
def eW(ti:TI)(rows:Rows)(i:Nat)(x:PV)(K:PV->Prop):Prop:=
 match ti with
 | .struct fs _=>iN (o8 fs i) fun p=>match x with
  | .rd l=>aL (p.1<=l.length) (K (.rd (l.drop p.1)))
  | .ptr id ver a j=>cE (rows id) ver fun _=>K (.ptr id ver a (j+p.1))
  | _=>False
 | _=>False
@[congr] theorem aa4{t:TI}{x:PV}{K:PV->Prop}(h:t=t')(h2:x=x'):eW t rows i x K=eW t' rows i x' K:=by rw [h,h2]
@[simp] theorem agz{K:PV->Prop}:eW (.struct fs z) rows i (.rd l) K=iN (o8 fs i) fun p=>aL (p.1<=l.length) (K (.rd (l.drop p.1))):=rfl
@[simp] theorem afh{K:PV->Prop}:eW (.struct fs z) rows i (.ptr id ver a j) K=iN (o8 fs i) fun p=>cE (rows id) ver fun _=>K (.ptr id ver a (j+p.1)):=rfl
theorem uL{x:PV}{K:PV->Prop}:bH (fun v=>iK E t rows i x v) K=eW (E.ty t) rows i x K:=by
 simp only [iK,eW]
 cases E.ty t with
 | struct fs z =>
  simp only [iN]
  apply propext;simp only [bH]
  cases x with
  | rd l =>
   simp only [aL]
   constructor
   ·rintro⟨v,⟨o,n,b,h1,h2,rfl⟩,h3⟩;exact⟨_,h1,h2,h3⟩
   ·rintro⟨⟨o,n,b⟩,h1,h2,h3⟩;exact⟨_,⟨o,n,b,h1,h2,rfl⟩,h3⟩
  | ptr id ver a j =>
   simp only [cE]
   constructor
   ·rintro⟨v,⟨o,n,b,h1,⟨r,h2,h3⟩,rfl⟩,h4⟩;exact⟨_,h1,r,h2,h3,h4⟩
   ·rintro⟨⟨o,n,b⟩,h1,r,h2,h3,h4⟩;exact⟨_,⟨o,n,b,h1,⟨r,h2,h3⟩,rfl⟩,h4⟩
  | _=>simp
 | _=>simp [bH]
def bP(n:Nat)(l:List (List PV)):Prop:=∀e∈l,e.length=n
@[simp] theorem cS{g:α->List PV}{l:List α}:(Enc g n)->bP n (emap g l)=True:=by
 intro h
 simp only [bP,emap,List.mem_map,eq_iff_iff,iff_true]
 rintro e ⟨x,_,rfl⟩
 exact h x
@[simp] theorem aqE:bP n []=True:=by simp [bP]
@[simp] theorem anW{l:List (List PV)}:bP n (e::l)=(e.length=n∧bP n l):=by simp [bP]
def c9(ti:TI)(rows:Rows)(x ix:PV)(K:PV->Prop):Prop:=
 match ti,ix with
 | .slice _ n _ _, .int _ k=>aL (0<=k) (match x with
  | .sl l=>aL (bP n l) (LY l k.toNat fun el=>K (.rd el))
  | .kJ l=>aL (bP n l) (LY l k.toNat fun el=>K (.rd el))
  | .own id ver off len=>cE (rows id) ver fun r=>aL (r.size=n∧k.toNat<len) (K (.ptr id ver (off+k.toNat) 0))
  | _=>False)
 | .arr _ m n _, .int _ k=>aL (0<=k∧k.toNat<m) (match x with
  | .rd l=>aL (k.toNat*n<=l.length) (K (.rd (l.drop (k.toNat*n))))
  | .ptr id ver a j=>cE (rows id) ver fun _=>K (.ptr id ver a (j+k.toNat*n))
  | _=>False)
 | _,_=>False
@[congr] theorem aa5{t:TI}{x y:PV}{K:PV->Prop}(h:t=t')(h2:x=x')(h3:y=y'):c9 t rows x y K=c9 t' rows x' y' K:=by rw [h,h2,h3]
section
variable {α:Type} [Inhabited α] {g:α->List PV} {l:List α} {e n b:Nat} {z:List PV} {rows:Rows} {kk:IntKind} {k:Int} {K:PV->Prop} {els:List (List PV)} {id ver off len:Nat}
@[simp] theorem afi:c9 (.slice e n b z) rows (aJ g l) (.int kk k) K=aL (0<=k∧k.toNat<l.length) (aL (bP n (emap g l)) (K (.rd (g (nth l k.toNat))))):=by
 simp only [c9,aJ,SU,aL,and_assoc]
 apply propext
 constructor
 ·rintro⟨h1,h2,h3,h4⟩;exact⟨h1,h3,h2,h4⟩
 ·rintro⟨h1,h2,h3,h4⟩;exact⟨h1,h3,h2,h4⟩
@[simp] theorem agA:c9 (.slice e n b z) rows (.sl els) (.int kk k) K=aL (0<=k) (aL (bP n els) (LY els k.toNat fun el=>K (.rd el))):=rfl
@[simp] theorem afj:c9 (.slice e n b z) rows (.kJ els) (.int kk k) K=aL (0<=k) (aL (bP n els) (LY els k.toNat fun el=>K (.rd el))):=rfl
@[simp] theorem afk{l:List PV}:c9 (.arr e m n z) rows (.rd l) (.int kk k) K=aL (0<=k∧k.toNat<m) (aL (k.toNat*n<=l.length) (K (.rd (l.drop (k.toNat*n))))):=rfl
@[simp] theorem adi:c9 (.arr e m n z) rows (.ptr id ver a j) (.int kk k) K=aL (0<=k∧k.toNat<m) (cE (rows id) ver fun _=>K (.ptr id ver a (j+k.toNat*n))):=rfl
@[simp] theorem afl:c9 (.slice e n b z) rows (.own id ver off len) (.int kk k) K=aL (0<=k) (cE (rows id) ver fun r=>aL (r.size=n∧k.toNat<len) (K (.ptr id ver (off+k.toNat) 0))):=rfl
end
theorem uM{x ix:PV}{K:PV->Prop}:bH (fun v=>iL E t rows x ix v) K=c9 (E.ty t) rows x ix K:=by
 simp only [iL,c9]
 cases E.ty t with
 | slice e n b z =>
  cases ix with
  | int kk k =>
   simp only
   rw [kP]
   congr 1
   cases x with
   | sl l =>
    simp only [aL,LY,bP]
    apply propext;simp only [bH]
    constructor
    ·rintro⟨v,⟨el,h1,h2,rfl⟩,h4⟩;exact⟨h2,el,h1,h4⟩
    ·rintro⟨h2,el,h1,h4⟩;exact⟨_,⟨el,h1,h2,rfl⟩,h4⟩
   | kJ l =>
    simp only [aL,LY,bP]
    apply propext;simp only [bH]
    constructor
    ·rintro⟨v,⟨el,h1,h2,rfl⟩,h4⟩;exact⟨h2,el,h1,h4⟩
    ·rintro⟨h2,el,h1,h4⟩;exact⟨_,⟨el,h1,h2,rfl⟩,h4⟩
   | own id ver off len =>
    simp only [aL,cE]
    apply propext;simp only [bH]
    constructor
    ·rintro⟨v,⟨r,h1,h2,h3,h4,rfl⟩,h5⟩;exact⟨r,h1,h2,⟨h3,h4⟩,h5⟩
    ·rintro⟨r,h1,h2,⟨h3,h4⟩,h5⟩;exact⟨_,⟨r,h1,h2,h3,h4,rfl⟩,h5⟩
   | _=>simp [bH]
  | _=>simp [bH]
 | arr e m n z =>
  cases ix with
  | int kk k =>
   simp only
   rw [kP]
   congr 1
   cases x with
   | rd l =>
    simp only
    rw [kP,lK]
   | ptr id ver a j =>
    simp only [cE]
    apply propext;simp only [bH]
    constructor
    ·rintro⟨v,⟨⟨r,h1,h2⟩,rfl⟩,h3⟩;exact⟨r,h1,h2,h3⟩
    ·rintro⟨r,h1,h2,h3⟩;exact⟨_,⟨⟨r,h1,h2⟩,rfl⟩,h3⟩
   | _=>simp [bH]
  | _=>simp [bH]
 | _=>simp [bH]
def EI(d:Nat)(o:Option PV)(K:Nat->Prop):Prop:=
 match o with
 | none=>K d
 | some (.int _ k)=>aL (0<=k) (K k.toNat)
 | some _=>False
@[congr] theorem auf{d':Nat}{o o':Option PV}{K:Nat->Prop}(h:d=d')(h2:o=o'):EI d o K=EI d' o' K:=by rw [h,h2]
@[simp] theorem awA{K:Nat->Prop}:EI d none K=go (K d):=rfl
@[simp] theorem awB{kk:IntKind}{k:Int}{K:Nat->Prop}:EI d (some (.int kk k)) K=aL (0<=k) (K k.toNat):=rfl
theorem X6{o:Option PV}{K:Nat->Prop}:EI d o K ↔ ∃n,AD d o n∧K n:=by
 cases o with
 | none=>simp [EI,AD]
 | some p =>
  cases p with
  | int kk k =>
   simp only [EI,AD,aL]
   constructor
   ·rintro⟨h1,h2⟩;exact⟨_,⟨h1,rfl⟩,h2⟩
   ·rintro⟨n,⟨h1,rfl⟩,h2⟩;exact⟨h1,h2⟩
  | _=>simp [EI,AD]
def adj{α:Type}(mk mkx:List α->PV)(n:Nat)(l:List α)(ok:Prop)(lo hi mx:Option PV)(K:PV->Prop):Prop:=
 EI 0 lo fun a=>EI l.length hi fun b=>aL (a<=b∧b<=l.length) (aL ok (match mx with
  | none=>K (mk ((l.take b).drop a))
  | some m=>EI 0 (some m) fun c=>aL (b=c∧hi.isSome=true) (K (mkx ((l.take b).drop a)))))
def iW(ti:TI)(rows:Rows)(x:PV)(lo hi mx:Option PV)(K:PV->Prop):Prop:=
 match ti with
 | .slice _ n _ _ =>
  match x with
  | .nil=>EI 0 lo fun a=>EI 0 hi fun b=>aL (a=0∧b=0∧mx.isNone=true) (K .nil)
  | .sl l=>adj .sl .kJ n l (bP n l) lo hi mx K
  | .kJ l=>adj .sl .kJ n l (bP n l) lo hi mx K
  | .own id ver off len=>cE (rows id) ver fun r=>aL (r.size=n) (EI 0 lo fun a=>EI len hi fun b=>aL (a<=b∧b<=len∧mx.isNone=true) (K (.own id ver (off+a) (b-a))))
  | _=>False
 | _=>False
@[congr] theorem akg{t:TI}{x:PV}{lo WJ hi jF mx mx':Option PV}{K:PV->Prop}(h:t=t')(h2:x=x')(h3:lo=WJ)(h4:hi=jF)(h5:mx=mx'):iW t rows x lo hi mx K=iW t' rows x' WJ jF mx' K:=by rw [h,h2,h3,h4,h5]
section
variable {α:Type} {g:α->List PV} {l:List α} {e n b:Nat} {z:List PV} {rows:Rows} {lo hi mx:Option PV} {K:PV->Prop} {els:List (List PV)} {id ver off len:Nat}
theorem SW{b:Nat}:((emap g l).take b).drop a=emap g ((l.take b).drop a):=by simp [emap]
@[simp] theorem anX:iW (.slice e n b z) rows (aJ g l) lo hi none K=EI 0 lo fun a=>EI l.length hi fun b=>aL (a<=b∧b<=l.length) (aL (bP n (emap g l)) (K (aJ g ((l.take b).drop a)))):=by
 simp only [iW,aJ,adj,SW]
 simp [emap]
theorem OL{m:PV}:iW (.slice e n b z) rows (aJ g l) lo hi (some m) K=EI 0 lo fun a=>EI l.length hi fun b=>aL (a<=b∧b<=l.length) (aL (bP n (emap g l)) (EI 0 (some m) fun c=>aL (b=c∧hi.isSome=true) (K (.kJ (emap g ((l.take b).drop a)))))):=by
 simp only [iW,aJ,adj,SW]
 simp [emap]
@[simp] theorem anY:iW (.slice e n b z) rows .nil lo hi mx K=EI 0 lo fun a=>EI 0 hi fun b=>aL (a=0∧b=0∧mx.isNone=true) (K .nil):=rfl
@[simp] theorem anZ:iW (.slice e n b z) rows (.own id ver off len) lo hi mx K=cE (rows id) ver fun r=>aL (r.size=n) (EI 0 lo fun a=>EI len hi fun b=>aL (a<=b∧b<=len∧mx.isNone=true) (K (.own id ver (off+a) (b-a)))):=rfl
end
theorem aa6{l:List (List PV)}{lo hi mx:Option PV}{K:PV->Prop}:(∃v,(∃a b,AD 0 lo a∧AD l.length hi b∧a<=b∧b<=l.length∧(∀e∈l,e.length=n)∧WS l a b hi mx v)∧K v)↔adj .sl .kJ n l (bP n l) lo hi mx K:=by
 simp only [adj,X6,aL,bP,WS]
 constructor
 ·rintro⟨v,⟨a,b,h1,h2,h3,h4,h5,h6⟩,h7⟩
  refine⟨a,h1,b,h2,⟨h3,h4⟩,h5,?_⟩
  cases mx with
  | none=>simp only at h6 |-;rw [<-h6];exact h7
  | some m=>obtain⟨c,q1,q2,q3,rfl⟩:=h6;exact⟨c,q1,⟨q2,q3⟩,h7⟩
 ·rintro⟨a,h1,b,h2,⟨h3,h4⟩,h5,h6⟩
  cases mx with
  | none=>exact⟨_,⟨a,b,h1,h2,h3,h4,h5,rfl⟩,h6⟩
  | some m=>obtain⟨c,q1,⟨q2,q3⟩,h7⟩:=h6;exact⟨_,⟨a,b,h1,h2,h3,h4,h5,c,q1,q2,q3,rfl⟩,h7⟩
theorem EJ{x:PV}{lo hi mx:Option PV}{K:PV->Prop}:bH (fun v=>rZ E t rows x lo hi mx v) K=iW (E.ty t) rows x lo hi mx K:=by
 simp only [rZ,iW]
 cases E.ty t with
 | slice e n b z =>
  cases x with
  | sl l=>exact propext aa6
  | kJ l=>exact propext aa6
  | nil =>
   simp only [X6,aL]
   apply propext;simp only [bH]
   constructor
   ·rintro⟨v,⟨a,b,h1,h2,h3,h4,h5,rfl⟩,h6⟩;exact⟨a,h1,b,h2,⟨h3,h4,h5⟩,h6⟩
   ·rintro⟨a,h1,b,h2,⟨h3,h4,h5⟩,h6⟩;exact⟨_,⟨a,b,h1,h2,h3,h4,h5,rfl⟩,h6⟩
  | own id ver off len =>
   simp only [X6,aL,cE]
   apply propext;simp only [bH]
   constructor
   ·rintro⟨v,⟨r,q1,q2,q3,a,b,h1,h2,h3,h4,h5,rfl⟩,h6⟩;exact⟨r,q1,q2,q3,a,h1,b,h2,⟨h3,h4,h5⟩,h6⟩
   ·rintro⟨r,q1,q2,q3,a,h1,b,h2,⟨h3,h4,h5⟩,h6⟩;exact⟨_,⟨r,q1,q2,q3,a,b,h1,h2,h3,h4,h5,rfl⟩,h6⟩
  | _=>simp [bH]
 | _=>simp [bH]
def yN(rows:Rows)(x:PV)(K:PV->Prop):Prop:=
 match x with
 | .rd l=>K (.rd l)
 | .ptr id ver i j=>cE (rows id) ver fun _=>K (.ptr id ver i j)
 | _=>False
@[congr] theorem an0{x:PV}{K:PV->Prop}(h:x=x'):yN rows x K=yN rows x' K:=by rw [h]
@[simp] theorem awC{K:PV->Prop}:yN rows (.rd l) K=go (K (.rd l)):=rfl
@[simp] theorem aug{K:PV->Prop}:yN rows (.ptr id ver i j) K=cE (rows id) ver fun _=>K (.ptr id ver i j):=rfl
theorem LZ{x:PV}{K:PV->Prop}:bH (fun v=>KI rows x v) K=yN rows x K:=by
 simp only [KI,yN]
 cases x with
 | rd l=>dsimp only;rw [lK]
 | ptr id ver i j =>
  simp only [cE]
  apply propext;simp only [bH]
  constructor
  ·rintro⟨v,⟨⟨r,h1,h2⟩,rfl⟩,h3⟩;exact⟨r,h1,h2,h3⟩
  ·rintro⟨r,h1,h2,h3⟩;exact⟨_,⟨⟨r,h1,h2⟩,rfl⟩,h3⟩
 | _=>simp [bH]
def pF(ti:TI)(rows:Rows)(x:PV)(K:PV->Prop):Prop:=
 match ti with
 | .slice _ _ _ _=>match x with
  | .nil=>K (.int .i64 0)
  | .sl l=>K (.int .i64 l.length)
  | .kJ l=>K (.int .i64 l.length)
  | .own id ver _ len=>cE (rows id) ver fun _=>K (.int .i64 len)
  | _=>False
 | _=>False
@[congr] theorem an1{t:TI}{x:PV}{K:PV->Prop}(h:t=t')(h2:x=x'):pF t rows x K=pF t' rows x' K:=by rw [h,h2]
section
variable {α:Type} {g:α->List PV} {l:List α} {e n b:Nat} {z:List PV} {rows:Rows} {K:PV->Prop} {els:List (List PV)} {id ver off len:Nat}
@[simp] theorem auh:pF (.slice e n b z) rows (aJ g l) K=go (K (.int .i64 l.length)):=by show _=K _;simp [pF,aJ,emap]
@[simp] theorem aui:pF (.slice e n b z) rows .nil K=go (K (.int .i64 0)):=rfl
@[simp] theorem awD:pF (.slice e n b z) rows (.sl els) K=go (K (.int .i64 els.length)):=rfl
@[simp] theorem auj:pF (.slice e n b z) rows (.kJ els) K=go (K (.int .i64 els.length)):=rfl
@[simp] theorem auk:pF (.slice e n b z) rows (.own id ver off len) K=cE (rows id) ver fun _=>K (.int .i64 len):=rfl
end
theorem L2{x:PV}{K:PV->Prop}:bH (fun v=>D3 ti rows x v) K=pF ti rows x K:=by
 simp only [D3,pF]
 cases ti with
 | slice e n b z =>
  apply propext;simp only [bH,acO]
  cases x with
  | own id ver off len =>
   simp only [cE]
   constructor
   ·rintro⟨v,⟨n,⟨⟨r,h1,h2⟩,rfl⟩,rfl⟩,h4⟩;exact⟨r,h1,h2,h4⟩
   ·rintro⟨r,h1,h2,h4⟩;exact⟨_,⟨_,⟨⟨r,h1,h2⟩,rfl⟩,rfl⟩,h4⟩
  | _=>simp
 | _=>simp [bH]
def iP(els:List (List PV))(i j:Nat)(l:List PV):List (List PV):=els.set i (((els[i]?).getD []).take j++l++((els[i]?).getD []).drop (j+l.length))
def yO(els:List (List PV))(i n:Nat):Prop:=∃el,els[i]? = some el∧n<=el.length
def j6(rows:Rows)(l:List PV):Prop:=∀q∈l,jT rows q
@[simp] theorem aqF:j6 rows []=True:=by simp [j6]
@[simp] theorem an2:j6 rows (p::l)=(jT rows p∧j6 rows l):=by simp [j6]
@[simp] theorem aqG[Inhabited α]{g:α->List PV}{l:List α}:yO (emap g l) i n=(i<l.length∧n<=(g (nth l i)).length):=by
 exact SU (g:=g) (l:=l) (i:=i) (K:=fun el=>n<=el.length)
def m7(E:Env)(t:TypeId)(rows:Rows)(p x:PV)(K:Nat->Row->Prop):Prop:=
 aL ((E.ty t).known=true) (match p with
 | .ptr id ver i j=>cE (rows id) ver fun r=>iN (cR x) fun l=>aL (yO r.els i (j+l.length)∧j6 rows l∧l.length=(E.ty t).size) (K id ⟨ver,r.e,r.size,iP r.els i j l⟩)
 | _=>False)
@[congr] theorem akh{x:PV}{K:Nat->Row->Prop}(h1:p=p')(h2:x=x'):m7 E t rows p x K=m7 E t rows p' x' K:=by rw [h1,h2]
@[simp] theorem an3{x:PV}{K:Nat->Row->Prop}:m7 E t rows (.ptr id ver i j) x K=aL ((E.ty t).known=true) (cE (rows id) ver fun r=>iN (cR x) fun l=>aL (yO r.els i (j+l.length)∧j6 rows l∧l.length=(E.ty t).size) (K id ⟨ver,r.e,r.size,iP r.els i j l⟩)):=rfl
theorem L3{x:PV}{K:Nat->Row->Prop}:(∃id r,vC E t rows p x .undef (some (id,r))∧K id r)=m7 E t rows p x K:=by
 simp only [vC,m7,aL,cE,iN,yO,j6]
 apply propext
 constructor
 ·rintro⟨id,r,⟨h1,_,h2⟩,h3⟩
  refine⟨h1,?_⟩
  split at h2
  ·obtain⟨r0,q1,q2,el,q3,l,q4,q5,q6,q7,q8⟩:=h2
   simp only [Option.some.injEq,Prod.mk.injEq]at q8
   obtain⟨rfl,rfl⟩:=q8
   refine⟨r0,q1,q2,l,q4,⟨⟨el,q3,q7⟩,q5,q6⟩,?_⟩
   simp only [iP,q3,Option.getD_some]
   rw [q2]at h3
   exact h3
  ·exact h2.elim
 ·rintro⟨h1,h2⟩
  split at h2
  ·obtain⟨r0,q1,q2,l,q4,⟨⟨el,q3,q7⟩,q5,q6⟩,h3⟩:=h2
   simp only [iP,q3,Option.getD_some]at h3
   refine⟨_,_,⟨h1,trivial,r0,q1,q2,el,q3,l,q4,q5,q6,q7,rfl⟩,?_⟩
   rw [<-q2]at h3
   exact h3
  ·exact h2.elim
def m9(rows:Rows)(y:PV)(K:List (List PV)->Prop):Prop:=
 match y with
 | .nil=>K []
 | .sl k=>K k
 | .kJ k=>K k
 | .own id ver off len=>cE (rows id) ver fun r=>K ((r.els.drop off).take len)
 | _=>False
@[congr] theorem an4{y:PV}{K:List (List PV)->Prop}(h:y=y'):m9 rows y K=m9 rows y' K:=by rw [h]
@[simp] theorem aul{K:List (List PV)->Prop}:m9 rows .nil K=go (K []):=rfl
@[simp] theorem awE{l:List (List PV)}{K:List (List PV)->Prop}:m9 rows (.sl l) K=go (K l):=rfl
@[simp] theorem aum{g:α->List PV}{l:List α}{K:List (List PV)->Prop}:m9 rows (aJ g l) K=go (K (emap g l)):=rfl
@[simp] theorem aun{l:List (List PV)}{K:List (List PV)->Prop}:m9 rows (.kJ l) K=go (K l):=rfl
@[simp] theorem auo{K:List (List PV)->Prop}:m9 rows (.own id ver off len) K=cE (rows id) ver fun r=>K ((r.els.drop off).take len):=rfl
theorem aa7{y:PV}{K:List (List PV)->Prop}:(∃l,vG rows y l∧K l)=m9 rows y K:=by
 simp only [vG,m9]
 apply propext
 cases y with
 | own id ver off len =>
  simp only [cE]
  constructor
  ·rintro⟨l,⟨r,h1,h2,rfl⟩,h3⟩;exact⟨r,h1,h2,h3⟩
  ·rintro⟨r,h1,h2,h3⟩;exact⟨_,⟨r,h1,h2,rfl⟩,h3⟩
 | _=>simp
def kQ(c:Prop)(len:Nat)(els:List (List PV))(K:List (List PV)->Prop):Prop:=(c∧K els)∨(¬c∧len<=els.length∧K (els.take len))
@[congr] theorem aki{aqH:Nat}{K:List (List PV)->Prop}(h:c=c')(h1:len=aqH)(h2:els=i5):kQ c len els K=kQ c' aqH i5 K:=by rw [h,h1,h2]
theorem OM{K:List (List PV)->Prop}:kQ True len els K=K els:=by simp [kQ]
theorem aa8{K:List (List PV)->Prop}:kQ (len=els.length) len els K=(len<=els.length∧K (els.take len)):=by
 apply propext
 constructor
 ·rintro(⟨h,hK⟩ | ⟨_,h,hK⟩)
  ·exact⟨aA,by rw [List.take_of_length_le aA];exact hK⟩
  ·exact⟨h,hK⟩
 ·rintro⟨h,hK⟩
  by_cases hc:len=els.length
  ·exact .inl ⟨hc,by rw [List.take_of_length_le aA]at hK;exact hK⟩
  ·exact .inr ⟨hc,h,hK⟩
theorem aCT{K:List (List PV)->Prop}(hc:c->len=els.length)(hl:len<=els.length)(hK:go (K (els.take len))):kQ c len els K:=by
 by_cases h:c
 ·exact .inl ⟨h,by rw [List.take_of_length_le (by rw [hc h];omega)]at hK;exact hK⟩
 ·exact .inr ⟨h,hl,hK⟩
def vM(t:TI)(rows:Rows)(x y:PV)(clk d:Nat)(K:PV->Rows->Nat->Prop):Prop:=
 match t with
 | .slice e n b _=>m9 rows y fun l=>aL (bP n l) (match x with
  | .nil=>aL (l.length<=room∧l.length*b<=room) (K (.own d clk 0 l.length) (eO rows d (some ⟨clk,e,n,l⟩)) (clk+1))
  | .own id ver off len=>cE (rows id) ver fun r=>aL (off=0∧r.e=e∧r.size=n) (kQ (len=r.els.length) len r.els fun els=>aL (len+l.length<=room∧(len+l.length)*b<=room) (K (.own id clk 0 (len+l.length)) (eO rows id (some ⟨clk,e,n,els++l⟩)) (clk+1)))
  | .kJ l0=>aL (bP n l0 ∧ ∀e∈l,∀p∈e,bE p=true) (aL (l0.length+l.length<=room∧(l0.length+l.length)*b<=room) (K (.sl (l0++l)) rows clk))
  | _=>False)
 | _=>False
@[congr] theorem an5{t:TI}{x y:PV}{K:PV->Rows->Nat->Prop}(h1:t=t')(h3:x=x')(h4:y=y') :
  vM t rows x y clk d K=vM t' rows x' y' clk d K:=by rw [h1,h3,h4]
section
variable {e n b clk d id ver off len:Nat} {z:List PV} {rows:Rows} {y:PV} {K:PV->Rows->Nat->Prop} {l0:List (List PV)}
@[simp] theorem aup:vM (.slice e n b z) rows .nil y clk d K=m9 rows y fun l=>aL (bP n l) (aL (l.length<=room∧l.length*b<=room) (K (.own d clk 0 l.length) (eO rows d (some ⟨clk,e,n,l⟩)) (clk+1))):=rfl
@[simp] theorem auq:vM (.slice e n b z) rows (.own id ver off len) y clk d K=m9 rows y fun l=>aL (bP n l) (cE (rows id) ver fun r=>aL (off=0∧r.e=e∧r.size=n) (kQ (len=r.els.length) len r.els fun els=>aL (len+l.length<=room∧(len+l.length)*b<=room) (K (.own id clk 0 (len+l.length)) (eO rows id (some ⟨clk,e,n,els++l⟩)) (clk+1)))):=rfl
@[simp] theorem aur:vM (.slice e n b z) rows (.kJ l0) y clk d K=m9 rows y fun l=>aL (bP n l) (aL (bP n l0 ∧ ∀e∈l,∀p∈e,bE p=true) (aL (l0.length+l.length<=room∧(l0.length+l.length)*b<=room) (K (.sl (l0++l)) rows clk))):=rfl
end
theorem ak2{t:TI}{x y:PV}{K:PV->Rows->Nat->Prop}:ac9 t rows x y clk d K=vM t rows x y clk d K:=by
 unfold ac9 vM
 cases t with
 | slice e n b z =>
  dsimp only
  rw [<-aa7]
  congr 1;funext l;congr 1
  simp only [aL,bP]
  congr 1
  cases x with
  | own id ver off len =>
   simp only [cE,aa8]
   apply propext
   constructor
   ·rintro⟨r,h1,h2,h3,h4,h5,h6,h7⟩;exact⟨r,h1,h2,⟨h3,h5,h6⟩,h4,h7⟩
   ·rintro⟨r,h1,h2,⟨h3,h5,h6⟩,h4,h7⟩;exact⟨r,h1,h2,h3,h4,h5,h6,h7⟩
  | kJ l0=>simp only [bP,and_assoc]
  | _=>rfl
 | _=>rfl
def fzR(o:Option Row)(ver off len:Nat):PV:=
 match o with
 | some r=>if r.ver=ver then .sl ((r.els.drop off).take len)else .undef
 | none => .undef
@[simp] theorem aCU:fz rows (.own id ver off len)=fzR (rows id) ver off len:=rfl
@[simp] theorem awF{g:α->List PV}{l:List α}{e:Nat}:fzR (some ⟨ver,e,n,emap g l⟩) ver off len=aJ g ((l.drop off).take len):=by simp [fzR,aJ,emap]
@[simp] theorem aCV:fz rows .nil = .sl []:=rfl
@[simp] theorem aCW{l:List (List PV)}:fz rows (.kJ l) = .sl l:=rfl
@[simp] theorem aGa{l:List (List PV)}:fz rows (.sl l) = .sl l:=rfl
@[simp] theorem aCX{g:α->List PV}{l:List α}:fz rows (aJ g l)=aJ g l:=rfl
@[simp] theorem aCY{n:Int}:fz rows (.int k n) = .int k n:=rfl
@[simp] theorem aAB:fz rows (.bool b) = .bool b:=rfl
@[simp] theorem aGb:fz rows (.fn f l) = .fn f l:=rfl
@[simp] theorem aCZ:pz rows (.own id ver off len)=fzR (rows id) ver off len:=rfl
@[simp] theorem aC0:pz rows .nil = .sl []:=rfl
@[simp] theorem aC1{l:List (List PV)}:pz rows (.kJ l) = .sl l:=rfl
@[simp] theorem aGc{l:List (List PV)}:pz rows (.sl l) = .sl l:=rfl
@[simp] theorem aC2{g:α->List PV}{l:List α}:pz rows (aJ g l)=aJ g l:=rfl
@[simp] theorem aC3{n:Int}:pz rows (.int k n) = .int k n:=rfl
@[simp] theorem aAC:pz rows (.bool b) = .bool b:=rfl
@[simp] theorem aGd:pz rows (.fn f l) = .fn f l:=rfl
@[simp] theorem aGe:pz rows (.ag l) = .ag (l.map (fz rows)):=rfl
@[simp] theorem awG{g:α->List PV}{l:List α}:cY (aJ g l)=true:=rfl
@[simp] theorem aut{g:α->List PV}{l:List α}:bE (aJ g l)=true:=rfl
@[simp] theorem aAD{g:α->List PV}{l:List α}:a9 (aJ g l) = []:=rfl
@[simp] theorem awH{g:α->List PV}{l:List α}:eK (aJ g l) = []:=rfl
@[simp] theorem aAE{l:List (List PV)}:eK (.sl l) = []:=rfl
@[simp] theorem awI{l:List (List PV)}:eK (.kJ l) = []:=rfl
@[simp] theorem awJ{n:Int}:eK (.int k n) = []:=rfl
@[simp] theorem auu:eK (.bool b) = []:=rfl
@[simp] theorem aAF:eK (.fn f l) = []:=rfl
@[simp] theorem awK:eK .nil = []:=rfl
@[simp] theorem awL:eK (.own id ver off len) = [id]:=rfl
@[simp] theorem aAG:eK (.ag l)=l.flatMap a9:=rfl
@[simp] theorem awM{g:α->List PV}{l:List α}:jT rows (aJ g l)=True:=rfl
@[simp] theorem aqI{g:α->List PV}{l:List α}:cR (aJ g l)=some [aJ g l]:=rfl
@[simp] theorem aqJ{g:α->List PV}{l:List α}:gB (aJ g l)=some [aJ g l]:=rfl
def dG(o:Option Row):Prop:=∀r,o=some r -> ∀e∈r.els,∀p∈e,bE p=true
@[simp] theorem ak3:gG rows []=True:=by simp [gG]
@[simp] theorem akj:gG rows (id::ids)=(dG (rows id)∧gG rows ids):=by simp [gG,dG]
@[simp] theorem ak4:dG none=True:=by simp [dG]
@[simp] theorem cM{g:α->List PV}{l:List α}{e:Nat}(h:awv g):dG (some ⟨ver,e,n,emap g l⟩)=True:=by
 simp only [dG,emap,Option.some.injEq,eq_iff_iff,iff_true]
 rintro r rfl e he p hp
 simp at he
 obtain⟨x,_,rfl⟩:=he
 exact List.all_eq_true.1 (h x) p hp
@[simp] theorem aAH:LN rows []=rows:=by funext j;simp [LN]
@[simp] theorem aC4:LN rows ids j=if j∈ids then none else rows j:=rfl
def qD(fs:List (Nat × Nat × Bool)):List (Nat × PV)->List PV->(List PV->Prop)->Prop
 | [],z,K=>K z
 | (i,p)::ps,z,K=>iN (o8 fs i) fun q=>iN (gB p) fun l=>aL (l.length=q.2.1∧q.1+q.2.1<=z.length) (qD fs ps (z.take q.1++l++z.drop (q.1+q.2.1)) K)
@[congr] theorem an6{ps:List (Nat × PV)}{z':List PV}{K:List PV->Prop}(h:ps=ps')(h2:z=z'):qD fs ps z K=qD fs ps' z' K:=by rw [h,h2]
@[simp] theorem auv{K:List PV->Prop}:qD fs [] z K=go (K z):=rfl
@[simp] theorem aqK{ps:List (Nat × PV)}{K:List PV->Prop}:qD fs ((i,p)::ps) z K=iN (o8 fs i) fun q=>iN (gB p) fun l=>aL (l.length=q.2.1∧q.1+q.2.1<=z.length) (qD fs ps (z.take q.1++l++z.drop (q.1+q.2.1)) K):=rfl
theorem HP{fs:List (Nat × Nat × Bool)}:∀ {ps:List (Nat × PV)} {z:List PV} {K:List PV->Prop},(∃l,yA fs ps z=some l∧K l)↔qD fs ps z K
 | [],z,K=>by simp [yA,qD]
 | (i,p)::ps,z,K=>by
  simp only [yA,qD,iN,aL,o8]
  cases h1:fs[i]? with
  | none=>simp
  | some q =>
   obtain⟨o,n,b⟩:=q
   cases h2:gB p with
   | none=>simp
   | some l =>
    simp only [Option.some.injEq,exists_eq_left']
    rw [<-HP]
    split
    ·rename_i h;simp [h]
    ·rename_i h;simp [h]
def oL(ti:TI)(ps:List (Nat × PV))(K:PV->Prop):Prop:=
 match ti with
 | .struct fs z=>qD fs ps z fun l=>K (.ag l)
 | .arr _ k n z=>qD (WU k n) ps z fun l=>K (.ag l)
 | _=>False
@[congr] theorem akk{t:TI}{ps:List (Nat × PV)}{K:PV->Prop}(h:t=t')(h2:ps=ps'):oL t ps K=oL t' ps' K:=by rw [h,h2]
@[simp] theorem agB{ps:List (Nat × PV)}{K:PV->Prop}:oL (.struct fs z) ps K=qD fs ps z fun l=>K (.ag l):=rfl
@[simp] theorem an7{e k:Nat}{ps:List (Nat × PV)}{K:PV->Prop}:oL (.arr e k n z) ps K=qD (WU k n) ps z fun l=>K (.ag l):=rfl
@[simp] theorem auw{k:Nat}:o8 (WU k n) i=if i<k then some (i*n,n,false)else none:=by
 unfold o8 WU
 rw [List.getElem?_map]
 split
 ·rename_i h;rw [List.getElem?_range h];rfl
 ·rename_i h;rw [List.getElem?_eq_none (by simpa using h)];rfl
theorem EK{ps:List (Nat × PV)}{K:PV->Prop}:bH (fun v=>u7 ti ps v) K=oL ti ps K:=by
 simp only [u7,oL]
 cases ti with
 | struct fs z =>
  apply propext;simp only [bH]
  rw [<-HP]
  constructor
  ·rintro⟨v,⟨l,h1,rfl⟩,h2⟩;exact⟨l,h1,h2⟩
  ·rintro⟨l,h1,h2⟩;exact⟨_,⟨l,h1,rfl⟩,h2⟩
 | arr e k n z =>
  apply propext;simp only [bH]
  rw [<-HP]
  constructor
  ·rintro⟨v,⟨l,h1,rfl⟩,h2⟩;exact⟨l,h1,h2⟩
  ·rintro⟨l,h1,h2⟩;exact⟨_,⟨l,h1,rfl⟩,h2⟩
 | _=>simp [bH]
def l9(n:Nat):Nat->List (Nat × PV)->(List (List PV)->Prop)->Prop
 | _,[],K=>K []
 | k,(i,p)::ps,K=>iN (cR p) fun l=>aL (i=k∧l.length=n) (l9 n (k+1) ps fun els=>K (l::els))
@[congr] theorem ak5{k:Nat}{ps:List (Nat × PV)}{K:List (List PV)->Prop}(h:ps=ps'):l9 n k ps K=l9 n k ps' K:=by rw [h]
@[simp] theorem aqL{k:Nat}{K:List (List PV)->Prop}:l9 n k [] K=go (K []):=rfl
@[simp] theorem an8{k:Nat}{ps:List (Nat × PV)}{K:List (List PV)->Prop}:l9 n k ((i,p)::ps) K=iN (cR p) fun l=>aL (i=k∧l.length=n) (l9 n (k+1) ps fun els=>K (l::els)):=rfl
theorem C5{n:Nat}:∀ {ps:List (Nat × PV)} {k:Nat} {K:List (List PV)->Prop},(∃l,j3 n k ps=some l∧K l)↔l9 n k ps K
 | [],k,K=>by simp [j3,l9]
 | (i,p)::ps,k,K=>by
  simp only [j3,l9,iN,aL]
  cases h2:cR p with
  | none=>simp
  | some l =>
   simp only [Option.some.injEq,exists_eq_left']
   rw [<-C5]
   by_cases h:i=k∧l.length=n
   ·rw [if_pos h]
    constructor
    ·rintro⟨e,h1,h3⟩
     obtain⟨e',h4,rfl⟩:=Option.map_eq_some_iff.1 h1
     exact⟨h,e',h4,h3⟩
    ·rintro⟨_,e',h4,h3⟩
     exact⟨_,by rw [h4];rfl,h3⟩
   ·rw [if_neg h];simp [h]
def HQ(rows:Rows)(els:List (List PV)):Prop:=(∀e∈els,∀p∈e,bE (fz rows p)=true∧jT rows p)∧(∀e∈els,∀p∈e,a9 p = [])
@[simp] theorem auy:HQ rows []=True:=by simp [HQ]
@[simp] theorem aqM:HQ rows (e::els)=((∀p∈e,bE (fz rows p)=true∧jT rows p∧a9 p = [])∧HQ rows els):=by
 simp only [HQ,List.mem_cons,forall_eq_or_imp,eq_iff_iff]
 constructor
 ·rintro⟨⟨h1,h2⟩,h3,h4⟩;exact⟨fun p hp=>⟨(h1 p hp).1,(h1 p hp).2,h3 p hp⟩,h2,h4⟩
 ·rintro⟨h1,h2,h4⟩;exact⟨⟨fun p hp=>⟨(h1 p hp).1,(h1 p hp).2.1⟩,h2⟩,fun p hp=>(h1 p hp).2.2,h4⟩
def A6(ti:TI)(rows:Rows)(len:Nat)(ps:List (Nat × PV))(K:PV->Prop):Prop:=
 match ti with
 | .slice _ n _ _=>l9 n 0 ps fun els=>aL (len=els.length∧len<=4096∧n<=4096∧HQ rows els) (K (.kJ (els.map fun e=>e.map (fz rows))))
 | _=>False
@[congr] theorem an9{t:TI}{ps:List (Nat × PV)}{K:PV->Prop}(h:t=t')(h2:ps=ps'):A6 t rows len ps K=A6 t' rows len ps' K:=by rw [h,h2]
@[simp] theorem aoa{e b:Nat}{ps:List (Nat × PV)}{K:PV->Prop}:A6 (.slice e n b z) rows len ps K=l9 n 0 ps fun els=>aL (len=els.length∧len<=4096∧n<=4096∧HQ rows els) (K (.kJ (els.map fun e=>e.map (fz rows)))):=rfl
theorem L4{ps:List (Nat × PV)}{K:PV->Prop}:bH (fun v=>XA ti rows len ps v) K=A6 ti rows len ps K:=by
 simp only [XA,A6]
 cases ti with
 | slice e n b z =>
  apply propext;simp only [bH]
  rw [<-C5]
  constructor
  ·rintro⟨v,⟨l,h1,h2,h3,h4,h5,h6,rfl⟩,h7⟩;exact⟨l,h1,⟨h2,h3,h4,h5,h6⟩,h7⟩
  ·rintro⟨l,h1,⟨h2,h3,h4,h5,h6⟩,h7⟩;exact⟨_,⟨l,h1,h2,h3,h4,h5,h6,rfl⟩,h7⟩
 | _=>simp [bH]
def A7(i:Nat)(x:PV)(K:PV->Prop):Prop:=
 match x with
 | .dK l=>iN (o8 l i) K
 | _=>False
@[congr] theorem aob{x:PV}{K:PV->Prop}(h:x=x'):A7 i x K=A7 i x' K:=by rw [h]
@[simp] theorem auz{K:PV->Prop}:A7 i (.dK l) K=iN (o8 l i) K:=rfl
theorem L5{x:PV}{K:PV->Prop}:bH (fun v=>WT i x v) K=A7 i x K:=by
 simp only [WT,A7]
 cases x<;>first | rfl | simp [bH]
def KW:List Oper->Nat->Option Tmp
 | [],_=>none
 | o::_,0=>o.dst
 | _::os,n+1=>KW os n
theorem ON:∀(ops:List Oper) (j:Nat),KW ops j=(ops[j]?).bind (·.dst)
 | [],j=>by simp [KW]
 | o::os,0=>by simp [KW]
 | o::os,n+1=>by simp [KW,ON os n]
@[simp] theorem auA{d:Option Tmp}{ty:TypeId}{pos:String}{af:Array Edge}{g:Option (Nat × Bool)}:KW (⟨d,op,ty,pos,af,g⟩::os) 0=d:=rfl
@[simp] theorem auB{o:Oper}:KW (o::os) (n+1)=KW os n:=rfl
def tH(o:Option Tmp)(f:Nat->PV)(w:Bool)(A B:Prop):Prop:=
 match o with
 | none=>False
 | some e=>stepG (f e) w A B
@[congr] theorem ak6{o o':Option Tmp}{f:Nat->PV}(h:o=o'):tH o f w A B=tH o' f w A B:=by rw [h]
@[simp] theorem aoc{e:Tmp}{f:Nat->PV}:tH (some e) f w A B=stepG (f e) w A B:=rfl
@[simp] theorem auC{o:Option Tmp}{f:Nat->PV}:go (tH o f w A B)=tH o f w A B:=rfl
section
variable {E:Env} {ops os:List Oper} {K:PS->Prop} {f:Nat->PV} {rows:Rows} {clk:Nat} {d:Option Tmp} {ty:TypeId} {pos:String} {af:Array Edge} {k:Nat} {b8:Nat->Nat->Prop} {aU:Nat->Nat->Prop}
theorem SX:aP E ops (⟨d,op,ty,pos,af,some (j,want)⟩::os) K ⟨f,rows,clk⟩=tH ((ops[j]?).bind (·.dst)) f want (aP E ops (⟨d,op,ty,pos,af,none⟩::os) K ⟨f,rows,clk⟩) (aP E ops os K ⟨put f d (.dK []),rows,clk⟩):=XR
theorem SY:aX E ops clk k (⟨d,op,ty,pos,af,some (j,want)⟩::os) K ⟨f,rows,b8,aU⟩=tH ((ops[j]?).bind (·.dst)) f want (aX E ops clk k (⟨d,op,ty,pos,af,none⟩::os) K ⟨f,rows,b8,aU⟩) (aX E ops clk (k+1) os K ⟨put f d (.dK []),rows,b8,aU⟩):=XY
end
section
variable {E:Env} {ops os:List Oper} {K:PS->Prop} {f:Nat->PV} {rows:Rows} {clk:Nat} {d:Option Tmp} {ty:TypeId} {pos:String} {af:Array Edge} {k:Nat} {b8:Nat->Nat->Prop} {aU:Nat->Nat->Prop}
theorem X7:aP E ops (⟨d, .load t x,ty,pos,af,none⟩::os) K ⟨f,rows,clk⟩=n5 E t rows (aR f x) fun v=>aP E ops os K ⟨put f d v,rows,clk⟩:=by rw [ac8,zB]
theorem SZ:aP E ops (⟨d, .field t x i,ty,pos,af,none⟩::os) K ⟨f,rows,clk⟩=mZ (E.ty t) i (aR f x) fun v=>aP E ops os K ⟨put f d v,rows,clk⟩:=by rw [XS,EH]
theorem FH:aP E ops (⟨d, .fieldAddr t x i,ty,pos,af,none⟩::os) K ⟨f,rows,clk⟩=eW (E.ty t) rows i (aR f x) fun v=>aP E ops os K ⟨put f d v,rows,clk⟩:=by rw [HJ,uL]
theorem FI:aP E ops (⟨d, .indexAddr t x y,ty,pos,af,none⟩::os) K ⟨f,rows,clk⟩=c9 (E.ty t) rows (aR f x) (aR f y) fun v=>aP E ops os K ⟨put f d v,rows,clk⟩:=by rw [HK,uM]
theorem S3:aP E ops (⟨d, .slice t x lo hi mx,ty,pos,af,none⟩::os) K ⟨f,rows,clk⟩=iW (E.ty t) rows (aR f x) (lo.map (aR f)) (hi.map (aR f)) (mx.map (aR f)) fun v=>aP E ops os K ⟨put f d v,rows,clk⟩:=by rw [XT,EJ]
theorem adk:aP E ops (⟨d, .call { callee:=.builtin .len,args:=⟨[x]⟩,argTypes:=⟨[t]⟩ },ty,pos,af,none⟩::os) K ⟨f,rows,clk⟩=pF (E.ty t) rows (aR f x) fun v=>aP E ops os K ⟨put f d v,rows,clk⟩:=by rw [agp,L2]
theorem S4{p:Operand}:aP E ops (⟨none, .store t p x,ty,pos,af,none⟩::os) K ⟨f,rows,clk⟩=m7 E t rows (aR f p) (aR f x) fun id r=>aP E ops os K ⟨f,eO rows id (some r),clk⟩:=by rw [XW,L3]
theorem OO:aP E ops (⟨d, .call { callee:=.builtin .append,args:=⟨[x,y]⟩,argTypes:=⟨[t,t2]⟩ },ty,pos,af,none⟩::os) K ⟨f,rows,clk⟩ =
  aL (t2=t∨slT (E.ty t2)=true) (vM (E.ty t) rows (aR f x) (aR f y) clk (d.getD 0) fun v rows clk=>aP E ops os K ⟨put f d v,rows,clk⟩):=by rw [SN,ak2]
theorem X8:aX E ops clk k (⟨d, .load t x,ty,pos,af,none⟩::os) K ⟨f,rows,b8,aU⟩=n5 E t (fE .any ops k aU rows) (aR f x) fun v=>aX E ops clk (k+1) os K ⟨put f d v,rows,kY k (a9 (aR f x)) b8,aU⟩:=by rw [adg,zB]
theorem S5:aX E ops clk k (⟨d, .field t x i,ty,pos,af,none⟩::os) K ⟨f,rows,b8,aU⟩=mZ (E.ty t) i (aR f x) fun v=>aX E ops clk (k+1) os K ⟨put f d v,rows,b8,aU⟩:=by rw [XZ,EH]
theorem FJ:aX E ops clk k (⟨d, .fieldAddr t x i,ty,pos,af,none⟩::os) K ⟨f,rows,b8,aU⟩=eW (E.ty t) (fE .any ops k aU rows) i (aR f x) fun v=>aX E ops clk (k+1) os K ⟨put f d v,rows,kY k (a9 (aR f x)) b8,aU⟩:=by rw [HM,uL]
theorem FK:aX E ops clk k (⟨d, .indexAddr t x y,ty,pos,af,none⟩::os) K ⟨f,rows,b8,aU⟩=c9 (E.ty t) (fE .any ops k aU rows) (aR f x) (aR f y) fun v=>aX E ops clk (k+1) os K ⟨put f d v,rows,kY k (a9 (aR f x)) b8,aU⟩:=by rw [HN,uM]
theorem S6:aX E ops clk k (⟨d, .slice t x lo hi mx,ty,pos,af,none⟩::os) K ⟨f,rows,b8,aU⟩=iW (E.ty t) (fE .any ops k aU rows) (aR f x) (lo.map (aR f)) (hi.map (aR f)) (mx.map (aR f)) fun v=>aX E ops clk (k+1) os K ⟨put f d v,rows,kY k (a9 (aR f x)) b8,aU⟩:=by rw [X0,EJ]
theorem adl:aX E ops clk k (⟨d, .call { callee:=.builtin .len,args:=⟨[x]⟩,argTypes:=⟨[t]⟩ },ty,pos,af,none⟩::os) K ⟨f,rows,b8,aU⟩=pF (E.ty t) (fE .any ops k aU rows) (aR f x) fun v=>aX E ops clk (k+1) os K ⟨put f d v,rows,kY k (a9 (aR f x)) b8,aU⟩:=by rw [agu,L2]
theorem S7{p:Operand}:aX E ops clk k (⟨none, .store t p x,ty,pos,af,none⟩::os) K ⟨f,rows,b8,aU⟩ =
  m7 E t (fE .any ops k aU rows) (aR f p) (aR f x) fun id r=>aL (EF .any ops k id b8) (aX E ops clk (k+1) os K ⟨f,eO rows id (some r),kY k (a9 (aR f p)++((cR (aR f x)).getD []).flatMap a9) b8,qX k id aU⟩):=by rw [X3,<-L3];rfl
theorem aba:go (aP E ops (⟨d, .move x,ty,pos,af,none⟩::os) K ⟨f,rows,clk⟩)=go (aP E ops os K ⟨put f d (aR f x),rows,clk⟩):=ac5
theorem L6:go (aP E ops (⟨d, .assign x,ty,pos,af,none⟩::os) K ⟨f,rows,clk⟩)=go (aP E ops os K ⟨put f d (aR f x),rows,clk⟩):=SM
theorem ak7{c a b:Operand}:go (aP E ops (⟨d, .pick c a b,ty,pos,af,none⟩::os) K ⟨f,rows,clk⟩)=kW (aR f c) true (aP E ops os K ⟨put f d (aR f a),rows,clk⟩) (aP E ops os K ⟨put f d (aR f b),rows,clk⟩):=ac6
theorem agC{op:BinOp}:go (aP E ops (⟨d, .binOp op t x y t2,ty,pos,af,none⟩::os) K ⟨f,rows,clk⟩)=bH (fun v=>NU E op t (aR f x) (aR f y) v) fun v=>aP E ops os K ⟨put f d v,rows,clk⟩:=ago
theorem awN{op:UnOp}:go (aP E ops (⟨d, .unOp op t x,ty,pos,af,none⟩::os) K ⟨f,rows,clk⟩)=bH (fun v=>yun op (aR f x) v) fun v=>aP E ops os K ⟨put f d v,rows,clk⟩:=akV
theorem OP{s:TypeId}:go (aP E ops (⟨d, .convert s t x,ty,pos,af,none⟩::os) K ⟨f,rows,clk⟩)=bH (fun v=>yB (E.ty s) (E.ty t) (aR f x) v) fun v=>aP E ops os K ⟨put f d v,rows,clk⟩:=ac7
theorem X9:go (aP E ops (⟨d, .extract x i,ty,pos,af,none⟩::os) K ⟨f,rows,clk⟩)=A7 i (aR f x) fun v=>aP E ops os K ⟨put f d v,rows,clk⟩:=by
 show aP E ops (⟨d, .extract x i,ty,pos,af,none⟩::os) K ⟨f,rows,clk⟩=_
 rw [OI,L5]
theorem ak8:go (aP E ops (⟨d, .load t x,ty,pos,af,none⟩::os) K ⟨f,rows,clk⟩)=n5 E t rows (aR f x) fun v=>aP E ops os K ⟨put f d v,rows,clk⟩:=X7
theorem agD:go (aP E ops (⟨d, .field t x i,ty,pos,af,none⟩::os) K ⟨f,rows,clk⟩)=mZ (E.ty t) i (aR f x) fun v=>aP E ops os K ⟨put f d v,rows,clk⟩:=SZ
theorem OQ:go (aP E ops (⟨d, .fieldAddr t x i,ty,pos,af,none⟩::os) K ⟨f,rows,clk⟩)=eW (E.ty t) rows i (aR f x) fun v=>aP E ops os K ⟨put f d v,rows,clk⟩:=FH
theorem OR:go (aP E ops (⟨d, .indexAddr t x y,ty,pos,af,none⟩::os) K ⟨f,rows,clk⟩)=c9 (E.ty t) rows (aR f x) (aR f y) fun v=>aP E ops os K ⟨put f d v,rows,clk⟩:=FI
theorem agE:go (aP E ops (⟨d, .slice t x lo hi mx,ty,pos,af,none⟩::os) K ⟨f,rows,clk⟩)=iW (E.ty t) rows (aR f x) (lo.map (aR f)) (hi.map (aR f)) (mx.map (aR f)) fun v=>aP E ops os K ⟨put f d v,rows,clk⟩:=S3
theorem agF:go (aP E ops (⟨d, .build t parts,ty,pos,af,none⟩::os) K ⟨f,rows,clk⟩)=oL (E.ty t) (parts.toList.map fun x=>(x.1,aR f x.2)) fun v=>aP E ops os K ⟨put f d v,rows,clk⟩:=by
 show aP E ops (⟨d, .build t parts,ty,pos,af,none⟩::os) K ⟨f,rows,clk⟩=_
 rw [XU,EK]
theorem S8:go (aP E ops (⟨d, .index t x y,ty,pos,af,none⟩::os) K ⟨f,rows,clk⟩)=bH (fun v=>yY E (E.ty t) (aR f x) (aR f y) v) fun v=>aP E ops os K ⟨put f d v,rows,clk⟩:=XV
theorem S9:go (aP E ops (⟨d, .nilCheck x,ty,pos,af,none⟩::os) K ⟨f,rows,clk⟩)=yN rows (aR f x) fun v=>aP E ops os K ⟨put f d v,rows,clk⟩:=by show aP E ops _ K _=_;rw [KS,LZ]
theorem aqN:go (aP E ops (⟨d, .call { callee:=.builtin .len,args:=⟨[x]⟩,argTypes:=⟨[t]⟩ },ty,pos,af,none⟩::os) K ⟨f,rows,clk⟩)=pF (E.ty t) rows (aR f x) fun v=>aP E ops os K ⟨put f d v,rows,clk⟩:=adk
theorem aqO:go (aP E ops (⟨d, .call { callee:=.builtin .max,args:=⟨[x,y]⟩,argTypes:=ts },ty,pos,af,none⟩::os) K ⟨f,rows,clk⟩)=bH (fun v=>WV (aR f x) (aR f y) v) fun v=>aP E ops os K ⟨put f d v,rows,clk⟩:=agq
theorem aqP:go (aP E ops (⟨d, .call { callee:=.builtin .min,args:=⟨[x,y]⟩,argTypes:=ts },ty,pos,af,none⟩::os) K ⟨f,rows,clk⟩)=bH (fun v=>WW (aR f x) (aR f y) v) fun v=>aP E ops os K ⟨put f d v,rows,clk⟩:=agr
theorem KX:go (aP E ops (⟨d, .buildSlice t len parts,ty,pos,af,none⟩::os) K ⟨f,rows,clk⟩)=A6 (E.ty t) rows len (parts.toList.map fun x=>(x.1,aR f x.2)) fun v=>aP E ops os K ⟨put f d v,rows,clk⟩:=by
 show aP E ops (⟨d, .buildSlice t len parts,ty,pos,af,none⟩::os) K ⟨f,rows,clk⟩=_
 rw [FF,L4]
theorem agG{p:Operand}:go (aP E ops (⟨none, .store t p x,ty,pos,af,none⟩::os) K ⟨f,rows,clk⟩)=m7 E t rows (aR f p) (aR f x) fun id r=>aP E ops os K ⟨f,eO rows id (some r),clk⟩:=S4
theorem agH:go (aP E ops (⟨d, .alloc t,ty,pos,af,none⟩::os) K ⟨f,rows,clk⟩)=aL ((E.ty t).known=true) (aP E ops os K ⟨put f d (.ptr (d.getD 0) clk 0 0),eO rows (d.getD 0) (some ⟨clk,t,(E.ty t).size,[(E.ty t).zero]⟩),clk+1⟩):=XX
theorem aqQ:go (aP E ops (⟨d, .box t x,ty,pos,af,none⟩::os) K ⟨f,rows,clk⟩)=aL ((E.ty t).known=true) (iN (cR (aR f x)) fun l=>aL (j6 rows l∧l.length=(E.ty t).size) (aP E ops os K ⟨put f d (.ptr (d.getD 0) clk 0 0),eO rows (d.getD 0) (some ⟨clk,t,(E.ty t).size,[l]⟩),clk+1⟩)):=by
 show aP E ops (⟨d, .box t x,ty,pos,af,none⟩::os) K ⟨f,rows,clk⟩=_
 rw [ags]
 simp only [aL,iN,j6,and_assoc]
theorem OS{l c:Operand}:go (aP E ops (⟨d, .makeSlice t l c,ty,pos,af,none⟩::os) K ⟨f,rows,clk⟩)=vK (E.ty t) (aR f l) (aR f c) fun e n z x=>aP E ops os K ⟨put f d (.own (d.getD 0) clk 0 x.toNat),eO rows (d.getD 0) (some ⟨clk,e,n,List.replicate x.toNat z⟩),clk+1⟩:=HL
theorem adm:go (aP E ops (⟨d, .call { callee:=.builtin .append,args:=⟨[x,y]⟩,argTypes:=⟨[t,t2]⟩ },ty,pos,af,none⟩::os) K ⟨f,rows,clk⟩)=aL (t2=t∨slT (E.ty t2)=true) (vM (E.ty t) rows (aR f x) (aR f y) clk (d.getD 0) fun v rows clk=>aP E ops os K ⟨put f d v,rows,clk⟩):=OO
theorem ak9:go (aP E ops (⟨d, .call { callee:=.value fo,args:=args,argTypes:=ts },ty,pos,af,none⟩::os) K ⟨f,rows,clk⟩)=vL E (aR f fo) (args.toList.map (aR f)) rows clk fun v rows clk=>aP E ops os K ⟨put f d v,rows,clk⟩:=ada
theorem TA{fs:Array Operand}:go (aP E ops (⟨d, .makeFunc (.func g) fs bR,ty,pos,af,none⟩::os) K ⟨f,rows,clk⟩) =
  if E.uT g=true then aL ((fs.toList.map (aR f)).all pE=true∧(bR.toList.map (aR f)).all pE=true) (aP E ops os K ⟨put f d (.rC g (fs.toList.map (aR f)) (bR.toList.map (aR f))),rows,clk⟩)
  else aL (fs.toList = []∧((bR.toList.map (aR f)).map (pz rows)).all cY=true∧gG rows ((bR.toList.map (aR f)).flatMap eK))
   (aP E ops os K ⟨put f d (.fn g ((bR.toList.map (aR f)).map (pz rows))),LN rows ((bR.toList.map (aR f)).flatMap eK),clk⟩):=KT
theorem adn{name:String}:go (aP E ops (⟨d, .call { callee:=.invoke fo name,args:=args,argTypes:=ts },ty,pos,af,none⟩::os) K ⟨f,rows,clk⟩)=LW E (aR f fo) name (args.toList.map (aR f)) rows clk fun v rows clk=>aP E ops os K ⟨put f d v,rows,clk⟩:=SP
def OT(t:TI)(n:TypeId)(x:PV)(K:PV->Prop):Prop:=
 match x with
 | .ptr id ver 0 0=>aL (t = .yW) (K (.sL n id ver))
 | _=>False
@[congr] theorem aqR{t:TI}{n:TypeId}{x:PV}{K:PV->Prop}(h1:t=t')(h2:x=x'):OT t n x K=OT t' n x' K:=by rw [h1,h2]
@[simp] theorem aAI(t:TI)(n:TypeId)(x:PV)(K:PV->Prop):go (OT t n x K)=OT t n x K:=rfl
@[simp] theorem awO{t:TI}{K:PV->Prop}:OT t n (.ptr id ver 0 0) K=aL (t = .yW) (K (.sL n id ver)):=rfl
theorem abb{t:TI}{n:TypeId}{x:PV}{K:PV->Prop}:(∃v,(t = .yW ∧ ∃id ver,x = .ptr id ver 0 0∧v = .sL n id ver)∧K v)=OT t n x K:=by
 apply propext
 unfold OT
 constructor
 ·rintro⟨v,⟨h1,id,ver,rfl,rfl⟩,h2⟩
  exact⟨h1,h2⟩
 ·intro h
  split at h
  ·exact⟨_,⟨h.1,_,_,rfl,rfl⟩,h.2⟩
  ·exact h.elim
theorem aqS:go (aP E ops (⟨d, .makeInterface t x,ty,pos,af,none⟩::os) K ⟨f,rows,clk⟩)=OT (E.ty t) t (aR f x) fun v=>aP E ops os K ⟨put f d v,rows,clk⟩:=by
 rw [<-abb]
 apply propext
 show(∃v u,(_∧u=none)∧_)↔_
 constructor
 ·rintro⟨v,u,⟨h,rfl⟩,hK⟩;exact⟨v,h,hK⟩
 ·rintro⟨v,h,hK⟩;exact⟨v,none,⟨h,rfl⟩,hK⟩
theorem agI:go (aP E ops (⟨d,op,ty,pos,af,some (j,want)⟩::os) K ⟨f,rows,clk⟩)=tH (KW ops j) f want (aP E ops (⟨d,op,ty,pos,af,none⟩::os) K ⟨f,rows,clk⟩) (aP E ops os K ⟨put f d (.dK []),rows,clk⟩):=by
 rw [ON,<-SX];rfl
theorem ala:go (aX E ops clk k (⟨d, .move x,ty,pos,af,none⟩::os) K ⟨f,rows,b8,aU⟩)=go (aX E ops clk (k+1) os K ⟨put f d (aR f x),rows,b8,aU⟩):=adb
theorem ado:go (aX E ops clk k (⟨d, .assign x,ty,pos,af,none⟩::os) K ⟨f,rows,b8,aU⟩)=go (aX E ops clk (k+1) os K ⟨put f d (aR f x),rows,b8,aU⟩):=SR
theorem alb{c a b:Operand}:go (aX E ops clk k (⟨d, .pick c a b,ty,pos,af,none⟩::os) K ⟨f,rows,b8,aU⟩)=kW (aR f c) true (aX E ops clk (k+1) os K ⟨put f d (aR f a),rows,b8,aU⟩) (aX E ops clk (k+1) os K ⟨put f d (aR f b),rows,b8,aU⟩):=ade
theorem aqT{op:BinOp}:go (aX E ops clk k (⟨d, .binOp op t x y t2,ty,pos,af,none⟩::os) K ⟨f,rows,b8,aU⟩)=bH (fun v=>NU E op t (aR f x) (aR f y) v) fun v=>aX E ops clk (k+1) os K ⟨put f d v,rows,b8,aU⟩:=agt
theorem awP{op:UnOp}:go (aX E ops clk k (⟨d, .unOp op t x,ty,pos,af,none⟩::os) K ⟨f,rows,b8,aU⟩)=bH (fun v=>yun op (aR f x) v) fun v=>aX E ops clk (k+1) os K ⟨put f d v,rows,b8,aU⟩:=akX
theorem alc{s:TypeId}:go (aX E ops clk k (⟨d, .convert s t x,ty,pos,af,none⟩::os) K ⟨f,rows,b8,aU⟩)=bH (fun v=>yB (E.ty s) (E.ty t) (aR f x) v) fun v=>aX E ops clk (k+1) os K ⟨put f d v,rows,b8,aU⟩:=adf
theorem YA:go (aX E ops clk k (⟨d, .extract x i,ty,pos,af,none⟩::os) K ⟨f,rows,b8,aU⟩)=A7 i (aR f x) fun v=>aX E ops clk (k+1) os K ⟨put f d v,rows,b8,aU⟩:=by
 show aX E ops clk k (⟨d, .extract x i,ty,pos,af,none⟩::os) K ⟨f,rows,b8,aU⟩=_
 rw [OJ,L5]
theorem ald:go (aX E ops clk k (⟨d, .load t x,ty,pos,af,none⟩::os) K ⟨f,rows,b8,aU⟩)=n5 E t (fE .any ops k aU rows) (aR f x) fun v=>aX E ops clk (k+1) os K ⟨put f d v,rows,kY k (a9 (aR f x)) b8,aU⟩:=X8
theorem agJ:go (aX E ops clk k (⟨d, .field t x i,ty,pos,af,none⟩::os) K ⟨f,rows,b8,aU⟩)=mZ (E.ty t) i (aR f x) fun v=>aX E ops clk (k+1) os K ⟨put f d v,rows,b8,aU⟩:=S5
theorem OU:go (aX E ops clk k (⟨d, .fieldAddr t x i,ty,pos,af,none⟩::os) K ⟨f,rows,b8,aU⟩)=eW (E.ty t) (fE .any ops k aU rows) i (aR f x) fun v=>aX E ops clk (k+1) os K ⟨put f d v,rows,kY k (a9 (aR f x)) b8,aU⟩:=FJ
theorem OV:go (aX E ops clk k (⟨d, .indexAddr t x y,ty,pos,af,none⟩::os) K ⟨f,rows,b8,aU⟩)=c9 (E.ty t) (fE .any ops k aU rows) (aR f x) (aR f y) fun v=>aX E ops clk (k+1) os K ⟨put f d v,rows,kY k (a9 (aR f x)) b8,aU⟩:=FK
theorem agK:go (aX E ops clk k (⟨d, .slice t x lo hi mx,ty,pos,af,none⟩::os) K ⟨f,rows,b8,aU⟩)=iW (E.ty t) (fE .any ops k aU rows) (aR f x) (lo.map (aR f)) (hi.map (aR f)) (mx.map (aR f)) fun v=>aX E ops clk (k+1) os K ⟨put f d v,rows,kY k (a9 (aR f x)) b8,aU⟩:=S6
theorem agL:go (aX E ops clk k (⟨d, .build t parts,ty,pos,af,none⟩::os) K ⟨f,rows,b8,aU⟩)=oL (E.ty t) (parts.toList.map fun x=>(x.1,aR f x.2)) fun v=>aX E ops clk (k+1) os K ⟨put f d v,rows,b8,aU⟩:=by
 show aX E ops clk k (⟨d, .build t parts,ty,pos,af,none⟩::os) K ⟨f,rows,b8,aU⟩=_
 rw [X1,EK]
theorem TB:go (aX E ops clk k (⟨d, .nilCheck x,ty,pos,af,none⟩::os) K ⟨f,rows,b8,aU⟩)=yN (fE .any ops k aU rows) (aR f x) fun v=>aX E ops clk (k+1) os K ⟨put f d v,rows,kY k (a9 (aR f x)) b8,aU⟩:=by show aX E ops clk k _ K _=_;rw [KU,LZ]
theorem aqU:go (aX E ops clk k (⟨d, .call { callee:=.builtin .len,args:=⟨[x]⟩,argTypes:=⟨[t]⟩ },ty,pos,af,none⟩::os) K ⟨f,rows,b8,aU⟩)=pF (E.ty t) (fE .any ops k aU rows) (aR f x) fun v=>aX E ops clk (k+1) os K ⟨put f d v,rows,kY k (a9 (aR f x)) b8,aU⟩:=adl
theorem aqV:go (aX E ops clk k (⟨d, .call { callee:=.builtin .max,args:=⟨[x,y]⟩,argTypes:=ts },ty,pos,af,none⟩::os) K ⟨f,rows,b8,aU⟩)=bH (fun v=>WV (aR f x) (aR f y) v) fun v=>aX E ops clk (k+1) os K ⟨put f d v,rows,b8,aU⟩:=agv
theorem aqW:go (aX E ops clk k (⟨d, .call { callee:=.builtin .min,args:=⟨[x,y]⟩,argTypes:=ts },ty,pos,af,none⟩::os) K ⟨f,rows,b8,aU⟩)=bH (fun v=>WW (aR f x) (aR f y) v) fun v=>aX E ops clk (k+1) os K ⟨put f d v,rows,b8,aU⟩:=agw
theorem KY:go (aX E ops clk k (⟨d, .buildSlice t len parts,ty,pos,af,none⟩::os) K ⟨f,rows,b8,aU⟩)=A6 (E.ty t) (fE .any ops k aU rows) len (parts.toList.map fun x=>(x.1,aR f x.2)) fun v=>aX E ops clk (k+1) os K ⟨put f d v,rows,b8,aU⟩:=by
 show aX E ops clk k (⟨d, .buildSlice t len parts,ty,pos,af,none⟩::os) K ⟨f,rows,b8,aU⟩=_
 rw [FG,L4]
theorem agM{p:Operand}:go (aX E ops clk k (⟨none, .store t p x,ty,pos,af,none⟩::os) K ⟨f,rows,b8,aU⟩)=m7 E t (fE .any ops k aU rows) (aR f p) (aR f x) fun id r=>aL (EF .any ops k id b8) (aX E ops clk (k+1) os K ⟨f,eO rows id (some r),kY k (a9 (aR f p)++((cR (aR f x)).getD []).flatMap a9) b8,qX k id aU⟩):=S7
theorem agN:go (aX E ops clk k (⟨d, .alloc t,ty,pos,af,none⟩::os) K ⟨f,rows,b8,aU⟩)=aL ((E.ty t).known=true∧EF .any ops k (d.getD 0) b8) (aX E ops (clk+1) (k+1) os K ⟨put f d (.ptr (d.getD 0) clk 0 0),eO rows (d.getD 0) (some ⟨clk,t,(E.ty t).size,[(E.ty t).zero]⟩),b8,qX k (d.getD 0) aU⟩):=X4
theorem aqX:go (aX E ops clk k (⟨d, .box t x,ty,pos,af,none⟩::os) K ⟨f,rows,b8,aU⟩)=aL ((E.ty t).known=true) (iN (cR (aR f x)) fun l=>aL (j6 (fun _=>none) l∧l.length=(E.ty t).size∧EF .any ops k (d.getD 0) b8) (aX E ops (clk+1) (k+1) os K ⟨put f d (.ptr (d.getD 0) clk 0 0),eO rows (d.getD 0) (some ⟨clk,t,(E.ty t).size,[l]⟩),b8,qX k (d.getD 0) aU⟩)):=by
 show aX E ops clk k (⟨d, .box t x,ty,pos,af,none⟩::os) K ⟨f,rows,b8,aU⟩=_
 rw [agy]
 simp only [aL,iN,j6]
theorem OW{l c:Operand}:go (aX E ops clk k (⟨d, .makeSlice t l c,ty,pos,af,none⟩::os) K ⟨f,rows,b8,aU⟩)=vK (E.ty t) (aR f l) (aR f c) fun e n z x=>aL (EF .any ops k (d.getD 0) b8) (aX E ops (clk+1) (k+1) os K ⟨put f d (.own (d.getD 0) clk 0 x.toNat),eO rows (d.getD 0) (some ⟨clk,e,n,List.replicate x.toNat z⟩),b8,qX k (d.getD 0) aU⟩):=HO
def vN(t:TI)(rows:Rows)(x y:PV)(clk d:Nat)(K:PV->Nat->Row->Prop)(K0:PV->Prop):Prop:=
 match t with
 | .slice e n b _=>m9 rows y fun l=>aL (bP n l) (match x with
  | .nil=>aL (l.length<=room∧l.length*b<=room) (K (.own d clk 0 l.length) d ⟨clk,e,n,l⟩)
  | .own id ver off len=>cE (rows id) ver fun r=>aL (off=0∧r.e=e∧r.size=n) (kQ (len=r.els.length) len r.els fun els=>aL (len+l.length<=room∧(len+l.length)*b<=room) (K (.own id clk 0 (len+l.length)) id ⟨clk,e,n,els++l⟩))
  | .kJ l0=>aL (bP n l0 ∧ ∀e∈l,∀p∈e,bE p=true) (aL (l0.length+l.length<=room∧(l0.length+l.length)*b<=room) (K0 (.sl (l0++l))))
  | _=>False)
 | _=>False
@[congr] theorem aod{t:TI}{rows:Rows}{x y:PV}{clk d:Nat}{K:PV->Nat->Row->Prop}{K0:PV->Prop}(h1:t=t')(h2:rows=rows')(h3:x=x')(h4:y=y') :
  vN t rows x y clk d K K0=vN t' rows' x' y' clk d K K0:=by rw [h1,h2,h3,h4]
section
variable {e:TypeId} {n b:Nat} {z:List PV} {rows:Rows} {y:PV} {clk d id ver off len:Nat} {K:PV->Nat->Row->Prop} {K0:PV->Prop}
@[simp] theorem auD:vN (.slice e n b z) rows .nil y clk d K K0=m9 rows y fun l=>aL (bP n l) (aL (l.length<=room∧l.length*b<=room) (K (.own d clk 0 l.length) d ⟨clk,e,n,l⟩)):=rfl
@[simp] theorem auE:vN (.slice e n b z) rows (.own id ver off len) y clk d K K0=m9 rows y fun l=>aL (bP n l) (cE (rows id) ver fun r=>aL (off=0∧r.e=e∧r.size=n) (kQ (len=r.els.length) len r.els fun els=>aL (len+l.length<=room∧(len+l.length)*b<=room) (K (.own id clk 0 (len+l.length)) id ⟨clk,e,n,els++l⟩))):=rfl
@[simp] theorem auF{l0:List (List PV)}:vN (.slice e n b z) rows (.kJ l0) y clk d K K0=m9 rows y fun l=>aL (bP n l) (aL (bP n l0 ∧ ∀e∈l,∀p∈e,bE p=true) (aL (l0.length+l.length<=room∧(l0.length+l.length)*b<=room) (K0 (.sl (l0++l))))):=rfl
end
@[simp] theorem awQ(t:TI)(r:Rows)(x y:PV)(c d:Nat)(K:PV->Nat->Row->Prop)(K0:PV->Prop):go (vN t r x y c d K K0)=vN t r x y c d K K0:=rfl
theorem agO{t:TI}{rows:Rows}{x y:PV}{clk d:Nat}{K:PV->Option (Nat × Row)->Prop}:(∃v u,yJ t rows x y clk d v u∧K v u)=vN t rows x y clk d (fun v id r=>K v (some (id,r))) (fun v=>K v none):=by
 cases t with
 | slice e n b z =>
  simp only [vN,yJ]
  rw [<-aa7]
  apply propext
  cases x with
  | nil =>
   simp only [aL,bP]
   constructor
   ·rintro⟨v,u,⟨l,h1,h2,h3,h4,rfl,rfl⟩,h6⟩
    exact⟨l,h1,h2,⟨h3,h4⟩,h6⟩
   ·rintro⟨l,h1,h2,⟨h3,h4⟩,h6⟩
    exact⟨_,_,⟨l,h1,h2,h3,h4,rfl,rfl⟩,h6⟩
  | kJ l0 =>
   simp only [aL,bP]
   constructor
   ·rintro⟨v,u,⟨l,h1,h2,h3,h4,h5,h6,rfl,rfl⟩,h7⟩
    exact⟨l,h1,h2,⟨h3,h4⟩,⟨h5,h6⟩,h7⟩
   ·rintro⟨l,h1,h2,⟨h3,h4⟩,⟨h5,h6⟩,h7⟩
    exact⟨_,_,⟨l,h1,h2,h3,h4,h5,h6,rfl,rfl⟩,h7⟩
  | own id ver off len =>
   simp only [aL,bP,cE,aa8]
   constructor
   ·rintro⟨v,u,⟨l,h1,h2,r,h3,h4,h5,h6,h7,h8,h9,h10,rfl,rfl⟩,h12⟩
    exact⟨l,h1,h2,r,h3,h4,⟨h5,h7,h8⟩,h6,⟨h9,h10⟩,h12⟩
   ·rintro⟨l,h1,h2,r,h3,h4,⟨h5,h7,h8⟩,h6,⟨h9,h10⟩,h12⟩
    exact⟨_,_,⟨l,h1,h2,r,h3,h4,h5,h6,h7,h8,h9,h10,rfl,rfl⟩,h12⟩
  | _=>simp [aL]
 | _=>simp [vN,yJ]
theorem adp:go (aX E ops clk k (⟨d, .call { callee:=.builtin .append,args:=⟨[x,y]⟩,argTypes:=⟨[t,t2]⟩ },ty,pos,af,none⟩::os) K ⟨f,rows,b8,aU⟩) =
  aL (t2=t∨slT (E.ty t2)=true) (vN (E.ty t) (fE .any ops k aU rows) (aR f x) (aR f y) clk (d.getD 0) (fun v id r=>aL (EF .any ops k id b8) (aX E ops (clk+1) (k+1) os K ⟨put f d v,eO rows id (some r),kY k (a9 (aR f x)++a9 (aR f y)) b8,qX k id aU⟩))
   (fun v=>aX E ops (clk+1) (k+1) os K ⟨put f d v,rows,kY k (a9 (aR f x)++a9 (aR f y)) b8,aU⟩)):=by
 show aX E ops clk k (⟨d, .call { callee:=.builtin .append,args:=⟨[x,y]⟩,argTypes:=⟨[t,t2]⟩ },ty,pos,af,none⟩::os) K ⟨f,rows,b8,aU⟩=_
 rw [SS]
 congr 1
 rw [agO]
 simp only [SB,wlU,fP,true_and]
 rfl
def vO(t:TI)(rows:Rows)(x y:PV)(K:PV->Nat->Row->Prop):Prop:=
 match t,x with
 | .slice _ n _ _, .own id ver off len=>∃r,rows id=some r∧r.ver=ver∧r.size=n∧off+len<=r.els.length ∧ ∃l,vG rows y l∧(∀e∈l,e.length=n) ∧
   K (.int .i64 (min l.length len)) id { r with els:=r.els.take off++l.take len++r.els.drop (off+min l.length len) }
 | _,_=>False
@[congr] theorem ale{t:TI}{rows:Rows}{x y:PV}{K:PV->Nat->Row->Prop}(h1:t=t')(h2:rows=rows')(h3:x=x')(h4:y=y'):vO t rows x y K=vO t' rows' x' y' K:=by rw [h1,h2,h3,h4]
@[simp] theorem auG(t:TI)(r:Rows)(x y:PV)(K:PV->Nat->Row->Prop):go (vO t r x y K)=vO t r x y K:=rfl
theorem adq{t:TI}{rows:Rows}{x y:PV}{K:PV->Option (Nat × Row)->Prop}:(∃v u,yF t rows x y v u∧K v u)=vO t rows x y fun v id r=>K v (some (id,r)):=by
 apply propext
 unfold yF vO
 constructor
 ·rintro⟨v,u,h,hK⟩
  split at h
  ·obtain⟨r,h1,h2,h3,h4,l,h5,h6,rfl,rfl⟩:=h
   exact⟨r,h1,h2,h3,h4,l,h5,h6,hK⟩
  ·exact h.elim
 ·intro h
  split at h
  ·obtain⟨r,h1,h2,h3,h4,l,h5,h6,hK⟩:=h
   exact⟨_,_,⟨r,h1,h2,h3,h4,l,h5,h6,rfl,rfl⟩,hK⟩
  ·exact h.elim
theorem alf:go (aX E ops clk k (⟨d, .call { callee:=.builtin .copy,args:=⟨[x,y]⟩,argTypes:=⟨[t,t2]⟩ },ty,pos,af,none⟩::os) K ⟨f,rows,b8,aU⟩) =
  vO (E.ty t) (fE .any ops k aU rows) (aR f x) (aR f y) fun v id r=>aL (EF .any ops k id b8) (aX E ops clk (k+1) os K ⟨put f d v,eO rows id (some r),kY k (a9 (aR f x)++a9 (aR f y)) b8,qX k id aU⟩):=by
 show aX E ops clk k (⟨d, .call { callee:=.builtin .copy,args:=⟨[x,y]⟩,argTypes:=⟨[t,t2]⟩ },ty,pos,af,none⟩::os) K ⟨f,rows,b8,aU⟩=_
 rw [adh,adq]
 simp only [SB,wlU,fP]
 rfl
theorem awS{e e':TypeId}{b:Nat}{rows:Rows}{y:PV}{K:PV->Nat->Row->Prop}{l:List (List PV)}(hr:rows id=some ⟨ver,e',n,els⟩)(hl:off+len<=els.length)(hy:vG rows y l)(h1:∀e∈l,e.length=n)
  (hK:go (K (.int .i64 (min l.length len)) id ⟨ver,e',n,els.take off++l.take len++els.drop (off+min l.length len)⟩)):vO (.slice e n b z) rows (.own id ver off len) y K:=
 ⟨_,hr,rfl,rfl,hl,l,hy,h1,hK⟩
@[simp] theorem auH{E:Env}{eQ:List PV}{rows:Rows}{K:PV->Nat->Row->Prop}:go (r8 E p eQ rows K)=r8 E p eQ rows K:=rfl
@[simp] theorem auI{E:Env}:EA E (.fn g [])=E.uT g:=rfl
@[simp] theorem aqZ{E:Env}{x:PV}:EA E (.fn g (x::l))=false:=rfl
theorem OX{E:Env}{e:TypeId}{v:PV}{rows:Rows}{K:PV->Nat->Row->Prop}(h:FD E.P g rest e n core iC v)(hp:rest.all cY=true)(hv:cY v=true)(hc:∀p∈core,bE p=true)(CX:∀p∈iC,bE p=true)
  (iQ:rows id=some ⟨ver,e,n,[core]⟩) (hK:go (K v id ⟨ver,e,n,[iC]⟩)):r8 E (.fn g []) (.ptr id ver 0 0::rest) rows K:=⟨v,id,_,⟨none,id,ver,rfl,⟨hp,hv⟩,e,n,[core],[iC],iQ,h.x,AU hc,AU CX,rfl⟩,hK⟩
theorem aq0{E:Env}{e:TypeId}{v:PV}{rows:Rows}{K:PV->Nat->Row->Prop}(h:AK E.P g (some (off,len)) rest e n els i5 v)(hp:rest.all cY=true)(hv:cY v=true)(hc:∀x∈els,∀p∈x,bE p=true)(CX:∀x∈i5,∀p∈x,bE p=true)
  (iQ:rows id=some ⟨ver,e,n,els⟩) (hK:go (K v id ⟨ver,e,n,i5⟩)):r8 E (.fn g []) (.own id ver off len::rest) rows K:=⟨v,id,_,⟨some (off,len),id,ver,rfl,⟨hp,hv⟩,e,n,els,i5,iQ,h,hc,CX,rfl⟩,hK⟩
theorem agP{e:TypeId}{v:PV}{rows:Rows}{clk:Nat}{K:PV->Rows->Nat->Prop}(h:AK P g (some (off,len)) rest e n els i5 v)(hp:rest.all cY=true)(hv:cY v=true)(hc:∀x∈els,∀p∈x,bE p=true)(CX:∀x∈i5,∀p∈x,bE p=true)
  (iQ:rows id=some ⟨ver,e,n,els⟩) (hK:go (K v (eO rows id (some ⟨ver,e,n,i5⟩)) clk)):qA P g (.own id ver off len::rest) rows clk K:=
 ⟨_,h.akz hp hv hc CX iQ,by rintro r rows' fD ⟨rfl,rfl,rfl⟩;exact hK⟩
theorem n6{e:TypeId}{v:PV}{rows:Rows}{clk:Nat}{K:PV->Rows->Nat->Prop}(h:FD P g rest e n core iC v)(hp:rest.all cY=true)(hv:cY v=true)(hc:∀p∈core,bE p=true)(CX:∀p∈iC,bE p=true)
  (iQ:rows id=some ⟨ver,e,n,[core]⟩) (hK:go (K v (eO rows id (some ⟨ver,e,n,[iC]⟩)) clk)):qA P g (.ptr id ver 0 0::rest) rows clk K:=
 ⟨_,h.akz hp hv hc CX iQ,by rintro r rows' fD ⟨rfl,rfl,rfl⟩;exact hK⟩
theorem agQ{s:Tmp}:go (aX E ops clk k (⟨d, .call { callee:=.value (.tmp s),args:=args,argTypes:=ts },ty,pos,af,none⟩::os) K ⟨f,rows,b8,aU⟩) =
  if EA E (f s)=true then r8 E (f s) (args.toList.map (aR f)) (fE .any ops k aU rows) (fun v id r=>aL (EF .any ops k id b8) (aX E ops clk (k+1) os K ⟨put f d v,eO rows id (some r),kY k ((args.toList.map (aR f)).flatMap a9) b8,qX k id aU⟩))
  else tG E (f s) (args.toList.map (aR f)) (fE .any ops k aU rows) fun v=>aX E ops clk (k+1) os K ⟨put f d v,rows,b8,aU⟩:=LX rfl
def xC(P:Program)(g:FuncId)(args:List PV)(c:Prop)(K:TypeId->Nat->List (List PV)->Prop):Prop:=∃e n els,(args.all cY=true∧jZ P g args e n els∧c)∧K e n els
@[congr] theorem akl{args SO:List PV}{K:TypeId->Nat->List (List PV)->Prop}(h:args=SO)(hc:c=c'):xC P g args c K=xC P g SO c' K:=by rw [h,hc]
@[simp] theorem aq1{args:List PV}{K:TypeId->Nat->List (List PV)->Prop}:go (xC P g args c K)=xC P g args c K:=rfl
theorem L7{args:List PV}{K:TypeId->Nat->List (List PV)->Prop}{e:TypeId}(h:jZ P g args e n els)(hp:args.all cY=true)(hc:c)(hK:go (K e n els)):xC P g args c K:=⟨e,n,els,⟨hp,h,hc⟩,hK⟩
theorem agR:go (aX E ops clk k (⟨d, .call { callee:=.value (.func g),args:=args,argTypes:=ts },ty,pos,af,none⟩::os) K ⟨f,rows,b8,aU⟩) =
  if E.writes g=true then xC E.P g (args.toList.map (aR f)) (EF .any ops k (d.getD 0) b8) (fun e n els=>aX E ops (clk+1) (k+1) os K ⟨put f d (.own (d.getD 0) clk 0 els.length),eO rows (d.getD 0) (some ⟨clk,e,n,els⟩),b8,qX k (d.getD 0) aU⟩)
  else if E.uT g=true then r8 E (.fn g []) (args.toList.map (aR f)) (fE .any ops k aU rows) (fun v id r=>aL (EF .any ops k id b8) (aX E ops clk (k+1) os K ⟨put f d v,eO rows id (some r),kY k ((args.toList.map (aR f)).flatMap a9) b8,qX k id aU⟩))
  else tG E (.fn g []) (args.toList.map (aR f)) (fE .any ops k aU rows) fun v=>aX E ops clk (k+1) os K ⟨put f d v,rows,b8,aU⟩:=by
 split
 ·rename_i hw;exact X5 hw
 ·rename_i hw;exact LX (by simpa [eM]using hw)
theorem TC{fs:Array Operand}:go (aX E ops clk k (⟨d, .makeFunc (.func g) fs bR,ty,pos,af,none⟩::os) K ⟨f,rows,b8,aU⟩) =
  if E.uT g=true then aL ((fs.toList.map fun x=>aR f x).all pE=true∧(bR.toList.map fun x=>aR f x).all pE=true) (aX E ops clk (k+1) os K ⟨put f d (.rC g (fs.toList.map fun x=>aR f x) (bR.toList.map fun x=>aR f x)),rows,b8,aU⟩)
  else aL (fs.toList = []∧(bR.toList.map fun x=>aR f x).all cY=true) (aX E ops clk (k+1) os K ⟨put f d (.fn g (bR.toList.map fun x=>aR f x)),rows,b8,aU⟩):=KV
theorem aq2:go (aX E ops clk k (⟨d, .makeInterface t x,ty,pos,af,none⟩::os) K ⟨f,rows,b8,aU⟩)=OT (E.ty t) t (aR f x) fun v=>aX E ops clk (k+1) os K ⟨put f d v,rows,b8,aU⟩:=by
 rw [<-abb]
 show aX E ops clk k (⟨d, .makeInterface t x,ty,pos,af,none⟩::os) K ⟨f,rows,b8,aU⟩=_
 simp only [aX,yn,kN,ys,yv]
 rw [dI (fun v=>Iff.rfl)]
 simp only [gH (op:=.makeInterface t x) rfl]
 rfl
@[simp] theorem awT{t:Nat}:cY (.sL t id v)=false:=rfl
@[simp] theorem auJ{t:Nat}:bE (.sL t id v)=false:=rfl
@[simp] theorem awU{t:Nat}:a9 (.sL t id v) = [id]:=rfl
@[simp] theorem aq3{t:Nat}:cR (.sL t id v)=some [.sL t id v]:=rfl
@[simp] theorem aq4{t:Nat}:gB (.sL t id v)=some [.sL t id v]:=rfl
@[simp] theorem aq5:gB (.ptr id v i j)=some [.ptr id v i j]:=rfl
@[simp] theorem awV{m:List PV}:cY (.rC g l m)=false:=rfl
attribute [simp] pE
theorem agS:go (aX E ops clk k (⟨d,op,ty,pos,af,some (j,want)⟩::os) K ⟨f,rows,b8,aU⟩)=tH (KW ops j) f want (aX E ops clk k (⟨d,op,ty,pos,af,none⟩::os) K ⟨f,rows,b8,aU⟩) (aX E ops clk (k+1) os K ⟨put f d (.dK []),rows,b8,aU⟩):=by
 rw [ON,<-SY];rfl
theorem agT:go (aP E ops [] K σ)=K σ:=rfl
theorem aq6{st:ST}:go (aX E ops clk k [] K st)=go (K ⟨st.f,st.rows,clk⟩):=rfl
@[simp] theorem abc{s:Nat}:aR f (.tmp s)=f s:=rfl
@[simp] theorem awW:aR f (.func g) = .fn g []:=rfl
@[simp] theorem adr{v:Value}:aR f (.const v)=rY v:=rfl
end
@[simp] theorem aq7{n:Int}:rY (.int k n) = .int k n:=rfl
@[simp] theorem aoe:rY (.bool b) = .bool b:=rfl
@[simp] theorem YB:rY (.string s) = .str s:=rfl
@[simp] theorem aof:rY (.pointer none) = .nW:=rfl
@[simp] theorem aog:l5 (.pointer none) = .nW:=rfl
@[simp] theorem aq8:rY (.slice none 0 0) = .nil:=rfl
@[simp] theorem aq9{cs:List Value}:rY (.agg ⟨cs⟩) = .ag (cs.map l5):=rfl
@[simp] theorem ara{n:Int}:l5 (.int k n) = .int k n:=rfl
@[simp] theorem aoh:l5 (.bool b) = .bool b:=rfl
@[simp] theorem arb:l5 (.string s) = .str s:=rfl
@[simp] theorem arc:l5 (.slice none 0 0) = .nil:=rfl
@[simp] theorem awX(R K:PV->Prop):go (bH R K)=bH R K:=rfl
@[simp] theorem awY(p:PV)(w:Bool)(A B:Prop):go (stepG p w A B)=stepG p w A B:=rfl
@[simp] theorem awZ(p:PV)(w:Bool)(A B:Prop):go (kW p w A B)=kW p w A B:=rfl
@[simp] theorem aw0(A B:Prop):go (aL A B)=aL A B:=rfl
@[simp] theorem ard(c:Prop)(len:Nat)(els:List (List PV))(K:List (List PV)->Prop):go (kQ c len els K)=kQ c len els K:=rfl
@[simp] theorem aw1(P:Program)(g:FuncId)(l:List PV)(K:PV->Prop):go (A4 P g l K)=A4 P g l K:=rfl
@[simp] theorem arf(o:Option Row)(v:Nat)(K:Row->Prop):go (cE o v K)=cE o v K:=rfl
@[simp] theorem aC5(l:List (List PV))(i:Nat)(K:List PV->Prop):go (LY l i K)=LY l i K:=rfl
@[simp] theorem aC6(t:TI)(l:List PV)(j:Nat)(K:PV->Prop):go (EG t l j K)=EG t l j K:=rfl
@[simp] theorem auK(E:Env)(t:TypeId)(r:Rows)(p:PV)(K:PV->Prop):go (n5 E t r p K)=n5 E t r p K:=rfl
@[simp] theorem arh(t:TI)(i:Nat)(x:PV)(K:PV->Prop):go (mZ t i x K)=mZ t i x K:=rfl
@[simp] theorem aAJ(p:Nat × Nat × Bool)(l:List PV)(K:PV->Prop):go (OK p l K)=OK p l K:=rfl
@[simp] theorem aw2(r:Rows)(x:PV)(K:PV->Prop):go (yN r x K)=yN r x K:=rfl
@[simp] theorem agU(t:TI)(r:Rows)(i:Nat)(x:PV)(K:PV->Prop):go (eW t r i x K)=eW t r i x K:=rfl
@[simp] theorem agV(t:TI)(r:Rows)(x y:PV)(K:PV->Prop):go (c9 t r x y K)=c9 t r x y K:=rfl
@[simp] theorem aC7(d:Nat)(o:Option PV)(K:Nat->Prop):go (EI d o K)=EI d o K:=rfl
@[simp] theorem ari(t:TI)(r:Rows)(x:PV)(a b c:Option PV)(K:PV->Prop):go (iW t r x a b c K)=iW t r x a b c K:=rfl
@[simp] theorem aw3(t:TI)(r:Rows)(x:PV)(K:PV->Prop):go (pF t r x K)=pF t r x K:=rfl
@[simp] theorem arj(E:Env)(t:TypeId)(r:Rows)(p x:PV)(K:Nat->Row->Prop):go (m7 E t r p x K)=m7 E t r p x K:=rfl
@[simp] theorem aw4(r:Rows)(y:PV)(K:List (List PV)->Prop):go (m9 r y K)=m9 r y K:=rfl
@[simp] theorem aw5(t:TI)(r:Rows)(x y:PV)(c d:Nat)(K:PV->Rows->Nat->Prop):go (vM t r x y c d K)=vM t r x y c d K:=rfl
@[simp] theorem aw6(t:TI)(x y:PV)(K:TypeId->Nat->List PV->Int->Prop):go (vK t x y K)=vK t x y K:=rfl
@[simp] theorem aw7(E:Env)(p:PV)(name:String)(l:List PV)(r:Rows)(clk:Nat)(K:PV->Rows->Nat->Prop):go (LW E p name l r clk K)=LW E p name l r clk K:=rfl
@[simp] theorem auL(E:Env)(p:PV)(l:List PV)(r:Rows)(clk:Nat)(K:PV->Rows->Nat->Prop):go (vL E p l r clk K)=vL E p l r clk K:=rfl
@[simp] theorem aw8(P:Program)(g:FuncId)(l:List PV)(r:Rows)(clk:Nat)(K:PV->Rows->Nat->Prop):go (qA P g l r clk K)=qA P g l r clk K:=rfl
@[simp] theorem auM(E:Env)(p:PV)(l:List PV)(r:Rows)(K:PV->Prop):go (tG E p l r K)=tG E p l r K:=rfl
@[simp] theorem aw9{ps:List (Nat × PV)}{K:List PV->Prop}:go (qD fs ps z K)=qD fs ps z K:=rfl
@[simp] theorem ark{t:TI}{ps:List (Nat × PV)}{K:PV->Prop}:go (oL t ps K)=oL t ps K:=rfl
@[simp] theorem auN{k:Nat}{ps:List (Nat × PV)}{K:List (List PV)->Prop}:go (l9 n k ps K)=l9 n k ps K:=rfl
@[simp] theorem axa{t:TI}{ps:List (Nat × PV)}{K:PV->Prop}:go (A6 t rows len ps K)=A6 t rows len ps K:=rfl
@[simp] theorem axb{x:PV}{K:PV->Prop}:go (A7 i x K)=A7 i x K:=rfl
@[simp] theorem aAK(o:Option α)(K:α->Prop):go (iN o K)=iN o K:=rfl
@[simp] theorem aGf(p:α->Prop):go (∃x,p x) = ∃x,go (p x):=rfl
@[simp] theorem axc:go False=False:=rfl
@[simp] theorem aGg{p:Prop}:go (go p)=go p:=rfl
@[simp] theorem aoi{t:PV}{K:PV->Prop}:bH (fun v=>v=t) K=go (K t):=lK
@[simp] theorem aC8{t:PV}{K:PV->Prop}:bH (fun v=>t=v) K=go (K t):=ac4
@[simp] theorem alg:aL True B=go B:=XP
@[simp] theorem aAL{K:List (List PV)->Prop}:kQ True len els K=go (K els):=OM
@[simp] theorem aGh:stepG (.bool true) true A B=go A:=agh
@[simp] theorem aGi:stepG (.bool true) false A B=go B:=agi
@[simp] theorem aGj:stepG (.bool false) true A B=go B:=agj
@[simp] theorem aGk:stepG (.bool false) false A B=go A:=agk
@[simp] theorem aGl:stepG (.dK []) w A B=go B:=agl
@[simp] theorem aGm:kW (.bool true) true A B=go A:=agd
@[simp] theorem aGn:kW (.bool true) false A B=go B:=age
@[simp] theorem aGo:kW (.bool false) true A B=go B:=agf
@[simp] theorem aGp:kW (.bool false) false A B=go A:=agm
theorem gA(h:c):aL c B=go B:=by simp [aL,go,h]
attribute [simp] kP agc HI agn aqw XQ OH aba L6 ak7 agC awN OP X9 ak8 agD OQ OR agE agF S8 S9 TB aqN aqO aqP KX agG agH aqQ OS adm ak9 TA adn aqS aq2 agI ala ado alf alb aqT awP alc YA ald agJ OU OV agK agL aqU aqV aqW KY agM agN aqX OW adp agQ agR TC agS agT aq6
attribute [simp] slT NU yun yB yY WV WW vK vL tG yA TI.known TI.size TI.zero TI.agg af5 af6 qC room
theorem KZ{K:PS->Prop}{f:Nat->PV}:jK E 0 ops K ⟨f,rows,clk⟩=aX E ops clk 0 ops K ⟨f,rows,fun _ _=>False,fun _ _=>False⟩:=by simp [jK]
@[simp] theorem auO:cY (.bool b)=true:=rfl
@[simp] theorem arl:bE (.bool b)=true:=rfl
@[simp] theorem auP:a9 (.bool b) = []:=rfl
@[simp] theorem auQ:jT rows (.bool b)=True:=rfl
@[simp] theorem aoj:cR (.bool b)=some [.bool b]:=rfl
@[simp] theorem aol:gB (.bool b)=some [.bool b]:=rfl
@[simp] theorem axd{n:Int}:cY (.int k n)=true:=rfl
@[simp] theorem auR{n:Int}:bE (.int k n)=true:=rfl
@[simp] theorem axe{n:Int}:a9 (.int k n) = []:=rfl
@[simp] theorem axf{n:Int}:jT rows (.int k n)=True:=rfl
@[simp] theorem arn{n:Int}:cR (.int k n)=some [.int k n]:=rfl
@[simp] theorem aro{n:Int}:gB (.int k n)=some [.int k n]:=rfl
@[simp] theorem axg:cY (.str s)=true:=rfl
@[simp] theorem auS:bE (.str s)=true:=rfl
@[simp] theorem axh:a9 (.str s) = []:=rfl
@[simp] theorem axi:jT rows (.str s)=True:=rfl
@[simp] theorem arp:cR (.str s)=some [.str s]:=rfl
@[simp] theorem arq:gB (.str s)=some [.str s]:=rfl
@[simp] theorem auT  : cY .nW=true:=rfl
@[simp] theorem ars  : bE .nW=true:=rfl
@[simp] theorem auU  : a9 .nW = []:=rfl
@[simp] theorem auV  : eK .nW = []:=rfl
@[simp] theorem aAM:fz rows .nW = .nW:=rfl
@[simp] theorem aAN:pz rows .nW = .nW:=rfl
@[simp] theorem auW  : jT rows .nW=True:=rfl
@[simp] theorem aom  : cR .nW=some [.nW]:=rfl
@[simp] theorem aon  : gB .nW=some [.nW]:=rfl
@[simp] theorem axj  : cY .nil=true:=rfl
@[simp] theorem auX  : bE .nil=true:=rfl
@[simp] theorem axk  : a9 .nil = []:=rfl
@[simp] theorem axl  : jT rows .nil=True:=rfl
@[simp] theorem art  : cR .nil=some [.nil]:=rfl
@[simp] theorem aru  : gB .nil=some [.nil]:=rfl
@[simp] theorem aAO{l:List (List PV)}:cY (.sl l)=true:=rfl
@[simp] theorem axm{l:List (List PV)}:bE (.sl l)=true:=rfl
@[simp] theorem aAP{l:List (List PV)}:a9 (.sl l) = []:=rfl
@[simp] theorem aAQ{l:List (List PV)}:jT rows (.sl l)=True:=rfl
@[simp] theorem auY{l:List (List PV)}:cR (.sl l)=some [.sl l]:=rfl
@[simp] theorem auZ{l:List (List PV)}:gB (.sl l)=some [.sl l]:=rfl
@[simp] theorem axn{l:List (List PV)}:cY (.kJ l)=true:=rfl
@[simp] theorem au0{l:List (List PV)}:bE (.kJ l)=true:=rfl
@[simp] theorem axo{l:List (List PV)}:a9 (.kJ l) = []:=rfl
@[simp] theorem axp{l:List (List PV)}:jT rows (.kJ l)=True:=rfl
@[simp] theorem arv{l:List (List PV)}:cR (.kJ l)=some [.kJ l]:=rfl
@[simp] theorem arw{l:List (List PV)}:gB (.kJ l)=some [.kJ l]:=rfl
@[simp] theorem alh:cY (.rd l)=true:=rfl
@[simp] theorem agW:bE (.rd l)=true:=rfl
@[simp] theorem ali:a9 (.rd l) = []:=rfl
@[simp] theorem aAR:jT rows (.rd l)=True:=rfl
@[simp] theorem au1:cR (.rd l)=some [.rd l]:=rfl
@[simp] theorem au2:gB (.rd l)=some [.rd l]:=rfl
@[simp] theorem aAS:cY (.fn f l)=true:=rfl
@[simp] theorem axq:bE (.fn f l)=true:=rfl
@[simp] theorem aAT:a9 (.fn f l) = []:=rfl
@[simp] theorem aAU:jT rows (.fn f l)=True:=rfl
@[simp] theorem au3:cR (.fn f l)=some [.fn f l]:=rfl
@[simp] theorem au4:gB (.fn f l)=some [.fn f l]:=rfl
@[simp] theorem aAV:cY (.ag l)=l.all bE:=rfl
@[simp] theorem axr:cY (.dK l)=l.all bE:=rfl
@[simp] theorem au5:cR (.ag l)=some l:=rfl
@[simp] theorem au6:gB (.ag l)=some l:=rfl
@[simp] theorem axs{l:Nat}:a9 (.own id v o l) = [id]:=rfl
@[simp] theorem axt{l:Nat}:a9 (.ptr id v o l) = [id]:=rfl
@[simp] theorem arx{l:Nat}:cR (.own id v o l)=some [.own id v o l]:=rfl
@[simp] theorem ary{l:Nat}:cR (.ptr id v o l)=some [.ptr id v o l]:=rfl
def rowAt(o:Option Row)(ver:Nat):Prop:=∃r,o=some r∧r.ver=ver
@[simp] theorem arz:rowAt (some r) ver=(r.ver=ver):=by simp [rowAt]
@[simp] theorem axu{l:Nat}:jT rows (.own id v o l)=rowAt (rows id) v:=rfl
@[simp] theorem axv{t:Nat}:jT rows (.sL t id v)=rowAt (rows id) v:=rfl
@[simp] theorem axw{l:Nat}:jT rows (.ptr id v o l)=rowAt (rows id) v:=rfl
@[simp] theorem au7:iP [e] 0 j l = [e.take j++l++e.drop (j+l.length)]:=by simp [iP]
@[simp] theorem au8:yO [e] 0 n=(n<=e.length):=by simp [yO]
@[simp] theorem au9{t:Tmp}{rs:List ResultVar}{K:List PV->Prop}:lJ E σ (.tmp t::rs) K=lJ E σ rs fun vs=>K (σ.f t::vs):=rfl
@[simp] theorem ava{K:List PV->Prop}:lJ E σ [] K=K []:=rfl
@[simp] theorem arA{a:Tmp}{rs:List ResultVar}{K:List PV->Prop}:lJ E σ (.cell a t::rs) K=n5 E t σ.rows (σ.f a) fun v=>lJ E σ rs fun vs=>K (v::vs):=by
 show(∃v,x9 E t σ.rows (σ.f a) v∧lJ E σ rs fun vs=>K (v::vs))=_
 rw [<-zB];rfl
@[simp] theorem alj{K:PS->Prop}{f:Nat->PV}:go (jK E 0 ops K ⟨f,rows,clk⟩)=go (aX E ops clk 0 ops K ⟨f,rows,fun _ _=>False,fun _ _=>False⟩):=KZ
theorem wrap_i64{n:Int}(h1 : -9223372036854775808<=n)(h2:n<9223372036854775808):IntKind.i64.wrap n=n:=by
 have e:IntKind.i64.wrap n=if n%18446744073709551616>=9223372036854775808 then n%18446744073709551616-18446744073709551616 else n%18446744073709551616:=by
  simp [IntKind.wrap,IntKind.bits,IntKind.signed]
 rw [e]
 split<;>omega
theorem wrap_u64{n:Int}(h1:0<=n)(h2:n<18446744073709551616):IntKind.u64.wrap n=n:=by
 simp only [IntKind.wrap,IntKind.bits,IntKind.signed,Bool.false_and,Bool.false_eq_true,if_false]
 omega
theorem wrap_u32{n:Int}(h1:0<=n)(h2:n<4294967296):IntKind.u32.wrap n=n:=by
 simp only [IntKind.wrap,IntKind.bits,IntKind.signed,Bool.false_and,Bool.false_eq_true,if_false]
 omega
theorem wA:(∀n:Int, -9223372036854775808<=n->n<9223372036854775808->IntKind.i64.wrap n=n)∧(∀n:Int,0<=n->n<18446744073709551616->IntKind.u64.wrap n=n)∧(∀n:Int,0<=n->n<4294967296->IntKind.u32.wrap n=n) ∧
  (∀a b:Int,0<=a->a.tdiv b=a/b)∧(∀a b:Int,0<=a->a.tmod b=a%b):=⟨fun _=>wrap_i64,fun _=>wrap_u64,fun _=>wrap_u32,fun _ _ h=>Int.tdiv_eq_ediv_of_nonneg h,fun _ _ h=>Int.tmod_eq_emod_of_nonneg h⟩
theorem gw:(∀ {c B:Prop},c->aL c B=go B)∧(∀n:Int, -9223372036854775808<=n->n<9223372036854775808->IntKind.i64.wrap n=n)∧(∀n:Int,0<=n->n<18446744073709551616->IntKind.u64.wrap n=n)∧(∀n:Int,0<=n->n<4294967296->IntKind.u32.wrap n=n) ∧
  (∀a b:Int,0<=a->a.tdiv b=a/b)∧(∀a b:Int,0<=a->a.tmod b=a%b):=⟨gA,wA⟩
theorem wrap_u8{n:Int}(h1:0<=n)(h2:n<256):IntKind.u8.wrap n=n:=by
 simp only [IntKind.wrap,IntKind.bits,IntKind.signed,Bool.false_and,Bool.false_eq_true,if_false]
 omega
theorem mG{n:Int}:IntKind.u64.wrap n=n%18446744073709551616:=by
 simp only [IntKind.wrap,IntKind.bits,IntKind.signed,Bool.false_and,Bool.false_eq_true,if_false]
 rfl
theorem wrap_u32'{n:Int}:IntKind.u32.wrap n=n%4294967296:=by
 simp only [IntKind.wrap,IntKind.bits,IntKind.signed,Bool.false_and,Bool.false_eq_true,if_false]
 rfl
section
variable {E:Env} {n:Nat} {tl:Nat->Nat} {Q:PX->PS->Prop} {σ:PS}
theorem W.bY(h:∀K:PS->Prop,(∀σ,Q .normal σ->K σ)->go (aP E ops ops K σ)):W E n tl (.region id ops.toArray false) Q σ:=W.SL h
theorem W.K1(h:∀K:PS->Prop,(∀σ,Q .normal σ->K σ)->go (jK E (tl id) ops K σ)):W E n tl (.region id ops.toArray true) Q σ:=W.af9 h
theorem W.fF{y:Code}(h:∀K:PS->Prop,(∀σ,W E n tl y Q σ->K σ)->go (aP E ops ops K σ)):W E n tl (.seq (.region id ops.toArray false) y) Q σ:=W.XO h
theorem W.agX{y:Code}(h:∀K:PS->Prop,(∀σ,W E n tl y Q σ->K σ)->go (jK E (tl id) ops K σ)):W E n tl (.seq (.region id ops.toArray true) y) Q σ:=W.aga h
end
section
variable {E:Env} {n:Nat} {tl:Nat->Nat} {Q:PX->PS->Prop} {σ:PS}
theorem W.bB{c:Code}(I:Nat->PS->Prop)(k:Nat)(h0:∃σ0,Gh n σ σ0∧I k σ0)(h1:∀k σ,I k σ->W E n tl c (KP (fun σ'=>∃m σ'',Gh n σ' σ''∧m<k∧I m σ'') Q) σ):W E n tl (.loop c) Q σ:=by
 obtain⟨σ0,hg,h0⟩:=h0
 refine W.ghost hg ?_
 refine W.loop (fun k σ=>∃σ',Gh n σ σ'∧I k σ') k ⟨σ0,fun _ _ _ _ _ h=>h,h0⟩ ?_
 rintro k σ ⟨σ',hg,hI⟩
 refine W.ghost hg (W.mono (h1 k σ' hI) fun x τ hx=>?_)
 cases x with
 | normal=>obtain⟨m,σ'',h2,h3,h4⟩:=hx;exact⟨m,h3,σ'',h2,h4⟩
 | exit id=>exact hx
 | ret=>exact hx
theorem Gh.refl:Gh n σ σ:=fun _ _ _ _ _ h=>h
theorem W.agY{c:Operand}{t e:Code}(b:Prop)[Decidable b](hc:aR σ.f c = .bool (decide b))(h1:b->W E n tl t Q σ)(h2:¬b->W E n tl e Q σ):W E n tl (.cond c t e) Q σ:=W.cond ⟨_,hc,fun h=>h1 (of_decide_eq_true h),fun h=>h2 (of_decide_eq_false h)⟩
theorem W.ghf{f:Nat->PV}{c:Code}(l:List (Nat × PV))(hl:∀p∈l,f p.1=p.2)(h:W E n tl c Q ⟨fa l,rows,clk⟩):W E n tl c Q ⟨f,rows,clk⟩:=by
 have:=aD (f:=f) (rows:=rows) (clk:=clk) n (l.map (·.1))
 have e:((l.map (·.1)).map fun i=>(i,f i))=l:=by
  rw [List.map_map]
  conv=>rhs;rw [<-List.map_id l]
  exact List.map_congr_left fun p hp=>by simp [hl p hp]
 rw [e]at this
 exact W.ghost this h
theorem Gh.fr{f:Nat->PV}(l:List (Nat × PV))(hl:∀p∈l,f p.1=p.2):Gh n ⟨f,rows,clk⟩ ⟨fa l,rows,clk⟩:=by
 have:=aD (f:=f) (rows:=rows) (clk:=clk) n (l.map (·.1))
 have e:((l.map (·.1)).map fun i=>(i,f i))=l:=by
  rw [List.map_map]
  conv=>rhs;rw [<-List.map_id l]
  exact List.map_congr_left fun p hp=>by simp [hl p hp]
 rw [e]at this
 exact this
end
theorem dJ{yM:FuncId}{fn:Func}{code:Code}(tl:Nat->Nat){args:List PV}{r:PV}(l:List (Nat × PV))(h1:E.P.funcs[yM]? = some fn)(h2:fn.body=some code) (h3:(fn.name == "runtime.NumGoroutine") = false)
  (iD:fQ E fn.ntmps tl code=true) (dQ:args.length<=fn.ntmps) (hl:∀p∈l,args.getD p.1 .undef=p.2) (h:W E fn.ntmps tl code (af6 E fn.results.toList r) ⟨fa l,fun _=>none,0⟩):AB E.P yM args r:=
 agb tl h1 h2 h3 iD dQ (W.ghf l (by simpa using hl) h)
end Pm
namespace Pm
variable {a:Int}
@[simp] theorem aAW:Int.fdiv a 4294967296=a/4294967296:=Int.fdiv_eq_ediv_of_nonneg a aF
@[simp] theorem aAX:Int.fdiv a 9223372036854775808=a/9223372036854775808:=Int.fdiv_eq_ediv_of_nonneg a aF
attribute [simp] Go.IntKind.bits
end Pm
namespace Pm
open Go Go.RowKit
variable {x y:Code}{id:Nat}{ops:List Oper}{J:PS->Prop}
section
variable {E:Env} {n:Nat} {tl:Nat->Nat} {Q:PX->PS->Prop} {σ:PS}
theorem W.iS(J:PS->Prop)(h:W E n tl x (KP (fun σ=>∃σ',Gh n σ σ'∧J σ') Q) σ)(hy:∀σ,J σ->W E n tl y Q σ):W E n tl (.seq x y) Q σ:=
 W.seq (W.mono h fun x σ hx=>by
  cases x with
  | normal=>obtain⟨σ',hg,hJ⟩:=hx;exact W.ghost hg (hy σ' hJ)
  | exit id=>exact hx
  | ret=>exact hx)
def YC(J:PS->Prop)(Q:PX->PS->Prop):PX->PS->Prop
 | .normal,σ=>J σ
 | .exit id,σ=>Q (.exit id) σ
 | .ret,σ=>Q .ret σ
theorem W.dS(J:PS->Prop)(h:W E n tl x (KQ id (YC (fun σ=>∃σ',Gh n σ σ'∧J σ') Q)) σ)(hy:∀σ,J σ->W E n tl y Q σ):W E n tl (.seq (.block id x) y) Q σ:=
 W.seq (W.block (W.mono h fun x σ hx=>by
  cases x with
  | normal=>obtain⟨σ',hg,hJ⟩:=hx;exact W.ghost hg (hy σ' hJ)
  | exit j =>
   simp only [KQ]at hx |-
   split
   ·rename_i hj;rw [if_pos hj]at hx;obtain⟨σ',hg,hJ⟩:=hx;exact W.ghost hg (hy σ' hJ)
   ·rename_i hj;rw [if_neg hj]at hx;exact hx
  | ret=>exact hx))
theorem W.fI(J:PS->Prop)(h:∀K:PS->Prop,(∀σ σ',Gh n σ σ'->J σ'->K σ)->go (aP E ops ops K σ))(hy:∀σ,J σ->W E n tl y Q σ):W E n tl (.seq (.region id ops.toArray false) y) Q σ:=
 W.fF fun K hK=>h K fun σ _ hg hJ=>hK σ (W.ghost hg (hy _ hJ))
theorem W.TD(J:PS->Prop)(h:∀K:PS->Prop,(∀σ σ',Gh n σ σ'->J σ'->K σ)->go (jK E (tl id) ops K σ))(hy:∀σ,J σ->W E n tl y Q σ):W E n tl (.seq (.region id ops.toArray true) y) Q σ:=
 W.agX fun K hK=>h K fun σ _ hg hJ=>hK σ (W.ghost hg (hy _ hJ))
@[simp] theorem aoo:YC J Q .normal σ=J σ:=rfl
@[simp] theorem axy:YC J Q .ret σ=Q .ret σ:=rfl
@[simp] theorem avb:YC J Q (.exit id) σ=Q (.exit id) σ:=rfl
@[simp] theorem aop:KP J Q .normal σ=J σ:=rfl
@[simp] theorem axz:KP J Q .ret σ=Q .ret σ:=rfl
@[simp] theorem avc:KP J Q (.exit id) σ=Q (.exit id) σ:=rfl
@[simp] theorem aoq:KQ id Q .normal σ=Q .normal σ:=rfl
@[simp] theorem axA:KQ id Q .ret σ=Q .ret σ:=rfl
@[simp] theorem avd{j:Nat}:KQ id Q (.exit j) σ=if j=id then Q .normal σ else Q (.exit j) σ:=rfl
theorem pX:(∀(Q:PX->PS->Prop) (σ:PS) (id j:Nat),KQ id Q (.exit j) σ=if j=id then Q .normal σ else Q (.exit j) σ)∧(∀(Q:PX->PS->Prop) (σ:PS) (id:Nat),KQ id Q .normal σ=Q .normal σ)∧(∀(Q:PX->PS->Prop) (σ:PS) (id:Nat),KQ id Q .ret σ=Q .ret σ) ∧
  (∀(J:PS->Prop) (Q:PX->PS->Prop) (σ:PS) (id:Nat),KP J Q (.exit id) σ=Q (.exit id) σ)∧(∀(J:PS->Prop) (Q:PX->PS->Prop) (σ:PS),KP J Q .normal σ=J σ)∧(∀(J:PS->Prop) (Q:PX->PS->Prop) (σ:PS),KP J Q .ret σ=Q .ret σ) ∧
  (∀(J:PS->Prop) (Q:PX->PS->Prop) (σ:PS) (id:Nat),YC J Q (.exit id) σ=Q (.exit id) σ)∧(∀(J:PS->Prop) (Q:PX->PS->Prop) (σ:PS),YC J Q .normal σ=J σ)∧(∀(J:PS->Prop) (Q:PX->PS->Prop) (σ:PS),YC J Q .ret σ=Q .ret σ):=
 ⟨fun _ _ _ _=>rfl,fun _ _ _=>rfl,fun _ _ _=>rfl,fun _ _ _ _=>rfl,fun _ _ _=>rfl,fun _ _ _=>rfl,fun _ _ _ _=>rfl,fun _ _ _=>rfl,fun _ _ _=>rfl⟩
end
end Pm
namespace Pm
open Go
variable {P:Program}{g:FuncId}{rows:Rows}{clk n id:Nat}{E:Env}{tl:Nat->Nat}{c y:Code}{Q:PX->PS->Prop}{f:Nat->PV}{K0:PS->Prop}{σ:PS}{ops:List Oper}
theorem axB{eQ:List PV}{K:PV->Rows->Nat->Prop}{R:PV->Rows->Nat->Prop}(h:yZ P g eQ rows clk R)(hK:∀r rows' fD,R r rows' fD->go (K r rows' fD)):qA P g eQ rows clk K:=⟨R,h,hK⟩
theorem bC{args:List PV}{K:PV->Prop}{v:PV}(h:AB P g args v)(hK:go (K v)):A4 P g args K:=⟨v,h,hK⟩
theorem W.agZ(l:List Nat)(h:∀K:PS->Prop,(∀σ,W E n tl c Q σ->K σ)->K ⟨fa (l.map fun i=>(i,f i)),rows,clk⟩):W E n tl c Q ⟨f,rows,clk⟩:=W.live l (h _ fun _ h=>h)
theorem W.lv(l:List Nat)(hK:∀σ,W E n tl c Q σ->K0 σ)(h:∀K:PS->Prop,(∀σ,W E n tl c Q σ->K σ)->K ⟨fa (l.map fun i=>(i,f i)),rows,clk⟩):K0 ⟨f,rows,clk⟩:=hK _ (W.agZ l h)
inductive Bx(P:PS->Prop):Type
  | mk
def aW{P:PS->Prop}(_:Bx P)(σ:PS):Prop:=P σ
theorem W.lw(l:List Nat)(hK:∀σ,W E n tl c Q σ->K0 σ)(h:aW (Bx.mk (P:=W E n tl c Q)) ⟨fa (l.map fun i=>(i,f i)),rows,clk⟩):K0 ⟨f,rows,clk⟩:=hK _ (W.agZ l fun _ q=>q _ h)
theorem W.lx(l:List Nat)(h:aW (Bx.mk (P:=W E n tl c Q)) ⟨fa (l.map fun i=>(i,f i)),rows,clk⟩):aW (Bx.mk (P:=W E n tl c Q)) ⟨f,rows,clk⟩:=W.agZ l fun _ q=>q _ h
structure oP(l:List Nat):Prop
theorem W.ly{l:List Nat}(_:oP l)(h:aW (Bx.mk (P:=W E n tl c Q)) ⟨fa (l.map fun i=>(i,f i)),rows,clk⟩):aW (Bx.mk (P:=W E n tl c Q)) ⟨f,rows,clk⟩:=W.lx l h
theorem W.sr(h:go (aP E ops ops (aW (Bx.mk (P:=W E n tl y Q))) σ)):W E n tl (.seq (.region id ops.toArray false) y) Q σ:=by
  refine W.seq ?_
  intro iD w0 S0 G a w Q' hR hQ
  simp only [fQ,vJ,Bool.and_eq_true]at iD
  refine wp_region_list (j5 (fun σ' a' w' hk lE=>hQ .normal σ' a' w' hk lE) _ σ a w (fun o ho t ht=>?_) h hR)
  have:=Array.all_eq_true_iff_forall_mem.1 iD.1 o (by simpa using ho)
  simpa [ht]using this
theorem W.sd(h:go (jK E (tl id) ops (aW (Bx.mk (P:=W E n tl y Q))) σ)):W E n tl (.seq (.region id ops.toArray true) y) Q σ:=by
  refine W.seq ?_
  intro iD w0 S0 G a w Q' hR hQ
  exact yK (by simpa [fQ]using iD) h hR fun σ' a' w' hk lE=>hQ .normal σ' a' w' hk lE
end Pm
namespace Pm
open Go Go.RowKit
variable {n id ver e m clk i j:Nat}{f:Nat->PV}{rows:Rows}{els:List (List PV)}{el:List PV}
def Wk(p q:PV):Prop:=q=p∨(p = .nil∧q = .sl [])
theorem Wk.rep{c:Cx}{p q:PV}{v:Value}(h:Wk p q)(hr:aM c p v):aM c q v:=by
 rcases h with rfl | ⟨rfl,rfl⟩
 ·exact hr
 ·simp only [aM,dY]at hr |-
  exact⟨none,0,by simpa using hr,aG,aG, .inl trivial⟩
theorem bA.flat{α β:Type}{R:α->β->Prop}:∀ {l:List (List α)} {m:List (List β)},bA (bA R) l m->bA R l.flatten m.flatten
 | [],[],_=>trivial
 | a::l,b::m,h=>by
  obtain⟨h1,h2⟩:=h
  have ih:=bA.flat h2
  clear h2
  induction a generalizing b with
  | nil=>cases b with
   | nil=>exact ih
   | cons=>exact h1.elim
  | cons x a iha=>cases b with
   | nil=>exact h1.elim
   | cons y b=>exact⟨h1.1,iha b h1.2⟩
theorem arB{i5:List (List PV)}(hr:rows id=some ⟨ver,e,m,els⟩)(hw:bA (bA fun q p=>Wk p q) i5 els):Gh n ⟨f,rows,clk⟩ ⟨f,eO rows id (some ⟨ver,e,m,i5⟩),clk⟩:=by
 rintro w0 S0 G a w ⟨⟨c,rfl,iQ,gS,hI,hf,hG⟩,h7,h8⟩
 have jO:c.rows id=some ⟨ver,e,m,els⟩:=by rw [iQ];exact hr
 obtain⟨⟨xs,g1,g2,g3⟩,g4,g5,g6⟩:=hI.row id _ jO
 have hlen:i5.length=els.length:=hw.length
 obtain⟨pU,hA⟩:=hI.eO (w':=c.w) (r':=⟨ver,e,m,i5⟩) (xs:=xs) jO (World.grownBy.refl _ _) (by simp only [hlen];exact g1)
  (by
   have h1:=bA.flat hw
   have:∀ {l:List PV} {k:List PV} {vs:List Value},bA (fun q p=>Wk p q) l k->bA (aM c) k vs->bA (aM c) l vs:=by
    intro l
    induction l with
    | nil=>intro k vs h h';cases k with
     | nil=>exact h'
     | cons=>exact h.elim
    | cons x l ih=>intro k vs h h';cases k with
     | nil=>exact h.elim
     | cons y k=>cases vs with
      | nil=>exact h'.elim
      | cons v vs=>exact⟨h.1.rep h'.1,ih h.2 h'.2⟩
   exact this h1 g2) g3 (fun el pS=>by
   obtain⟨k,hk⟩:=List.getElem?_of_mem pS
   obtain⟨b,hb,h1⟩:=hw.get hk
   rw [h1.length]
   exact g4 b (List.mem_of_getElem? hb)) rfl rfl hlen
 refine⟨⟨{ c with rows:=eO c.rows id (some ⟨ver,e,m,i5⟩) },rfl,by simp [iQ],gS,pU,fun s=>aK.tB hA _ _ (hf s),fun p hp=>aK.tB hA _ _ (hG p hp)⟩,h7,h8⟩
theorem arC{s:Nat}(hs:f s = .nil)(hm:0<m):Gh n ⟨f,rows,clk⟩ ⟨put f (some s) (.own id clk 0 0),eO rows id (some ⟨clk,e,m,[]⟩),clk+1⟩:=by
 rintro w0 S0 G a w ⟨⟨c,rfl,iQ,gS,hI,hf,hG⟩,h7,h8⟩
 obtain⟨pU,hA⟩:=hI.set (w':=c.w) (ob:=none) (id:=id) (r':=⟨clk,e,m,[]⟩) (v':=.slice none 0 0) (xs:=[]) (World.grownBy.refl _ _) aG ⟨aG, .inl ⟨rfl,rfl⟩⟩ (by simp [bA]) aG aG hm (by simp [Value.ownBlock]) (fun hu=>Nat.lt_irrefl _ (gS _ hu))
 refine⟨⟨{ c with β:=eO c.β id (.slice none 0 0),rows:=eO c.rows id (some ⟨clk,e,m,[]⟩),used:=fun v=>v=clk∨c.used v },rfl,by simp [iQ],fun v hv=>by
  show v<clk+1
  rcases hv with rfl | hv
  ·omega
  ·have:v<clk:=gS v hv
   omega,pU,fun t=>?_,fun p hp=>aK.tB hA _ _ (hG p hp)⟩,h7,h8⟩
 simp only [put]
 split
 ·rename_i ht
  subst ht
  have h1:=hf t
  simp only at h1
  rw [hs]at h1
  simp only [aK,aM,dY]at h1
  simp only [aK,aM]
  refine⟨.inl (by first | rfl | trivial),fun r hr hv=>?_⟩
  simp only [iG,Option.some.injEq]at hr
  subst hr
  exact⟨aG, .inl ⟨trivial,none,0,0,by simp [eO],h1⟩⟩
 ·exact aK.tB hA _ _ (hf t)
theorem TE{α β:Type}{R:α->β->Prop}{x:α}{y:β}(h:R x y):∀k:Nat,bA R (List.replicate k x) (List.replicate k y)
 | 0=>trivial
 | k+1=>⟨h,TE h k⟩
section
variable {E:Env} {n:Nat} {tl:Nat->Nat} {Q:PX->PS->Prop} {c:Code} {f:Nat->PV} {rows:Rows} {clk:Nat}
theorem W.row(i5:List (List PV))(hr:rows id=some ⟨ver,e,m,els⟩)(hw:bA (bA fun q p=>Wk p q) i5 els)(h:W E n tl c Q ⟨f,eO rows id (some ⟨ver,e,m,i5⟩),clk⟩):W E n tl c Q ⟨f,rows,clk⟩:=W.ghost (arB hr hw) h
theorem W.nil(s id e m:Nat)(hs:f s = .nil)(hm:0<m)(h:∀K:PS->Prop,(∀σ,W E n tl c Q σ->K σ)->K ⟨put f (some s) (.own id clk 0 0),eO rows id (some ⟨clk,e,m,[]⟩),clk+1⟩):W E n tl c Q ⟨f,rows,clk⟩:=W.ghost (arC hs hm) (h _ fun _ h=>h)
end
def fzP(o:Option Row)(ver i j:Nat):PV:=
 match o with
 | some r=>if r.ver=ver then .rd ((r.els.getD i []).drop j)else .undef
 | none => .undef
@[simp] theorem aC9:fz rows (.ptr id ver i j)=fzP (rows id) ver i j:=rfl
@[simp] theorem aDa:pz rows (.ptr id ver i j)=fzP (rows id) ver i j:=rfl
@[simp] theorem aAY:fzP (some ⟨ver,e,n,[el]⟩) ver 0 0 = .rd el:=by simp [fzP]
@[simp] theorem axC:eK (.ptr id ver i j) = [id]:=rfl
@[simp] theorem aor:dG (some ⟨ver,e,n,[el]⟩) = ∀p∈el,bE p=true:=by simp [dG]
end Pm
namespace Pm
open Go
theorem gO{E:Env}{m:Nat}{ops:List Oper}{K:PS->Prop}{f:Nat->PV}{rows:Rows}{clk:Nat}:go (jK E (m+1) ops K ⟨f,rows,clk⟩)=go (aX E ops clk 0 (ops.take (ops.length-(m+1))) (aP E ops (ops.drop (ops.length-(m+1))) K) ⟨f,rows,fun _ _=>False,fun _ _=>False⟩):=by
 simp [jK]
end Pm
namespace Pm
open Go Go.RowKit
variable {w0:World}{S0:eU}{c:Code}{id n clk i ver off len a j s:Nat}{p:PV}{v:Value}{rows:Rows}{l:List (Nat × PV)}{E:Env}{tl:Nat->Nat}{Q:PX->PS->Prop}{α:Type}{k:IntKind}{b:Bool}{f:Nat->PV}
def RU(rows:Rows)(id:Nat):PV->PV
 | .own i ver off len=>if i=id then fz rows (.own i ver off len)else .own i ver off len
 | .ptr i ver a j=>if i=id then fz rows (.ptr i ver a j)else .ptr i ver a j
 | p=>p
def OY(rows:Rows)(id:Nat):PV->PV
 | .ag l => .ag (l.map (RU rows id))
 | p=>RU rows id p
theorem OZ{c:Cx}(hI:Inv w0 S0 c)(hp:∀r,c.rows id=some r -> ∀e∈r.els,∀p∈e,bE p=true)(h:aM c p v):aM (J5 c [id]) (RU c.rows id p) v:=by
 have pT:∀i ∈ [id],∀r,c.rows i=some r -> ∀e∈r.els,∀p∈e,bE p=true:=by intro i hi;simp at hi;subst hi;exact hp
 have key:∀q:PV,aM c q v->(∀i∈a9 q,i ∈ [id])->(fz c.rows q = .undef∨bE (fz c.rows q)=true)->aM (J5 c [id]) (fz c.rows q) v:=by
  intro q hq hi ho
  rcases ho with ho | ho
  ·rw [ho];simp [aM]
  ·exact aM.jS (G2 hI pT hq hi ho)
 cases p with
 | own i ver off len =>
  simp only [RU]
  split
  ·rename_i hi
   subst hi
   refine key _ h (by simp [a9]) ?_
   simp only [fz]
   cases c.rows i with
   | none=>exact .inl rfl
   | some r =>
    simp only
    split
    ·exact .inr rfl
    ·exact .inl rfl
  ·exact aM.tB (lV c [id]) _ _ h
 | ptr i ver a j =>
  simp only [RU]
  split
  ·rename_i hi
   subst hi
   refine key _ h (by simp [a9]) ?_
   simp only [fz]
   cases c.rows i with
   | none=>exact .inl rfl
   | some r =>
    simp only
    split
    ·exact .inr rfl
    ·exact .inl rfl
  ·exact aM.tB (lV c [id]) _ _ h
 | _=>exact aM.tB (lV c [id]) _ _ h
theorem abd{c:Cx}(hI:Inv w0 S0 c)(hp:∀r,c.rows id=some r -> ∀e∈r.els,∀p∈e,bE p=true)(h:aK c p v):aK (J5 c [id]) (OY c.rows id p) v:=by
 cases p with
 | ag l =>
  obtain⟨vs,h1,h2⟩:=h
  refine⟨vs,h1,bA.cI (by simp [h2.length]) fun k a b ha hb=>?_⟩
  simp at ha
  obtain⟨q,hq,rfl⟩:=ha
  obtain⟨b',jH,hr⟩:=h2.get hq
  rw [hb]at jH;cases jH
  exact OZ hI hp hr
 | dK l =>
  obtain⟨vs,h1,h2⟩:=h
  exact⟨vs,h1,h2.mono (aM.tB (lV c [id]))⟩
 | rC f fs bR =>
  obtain⟨us,cs,h1,h2,h3⟩:=h
  exact⟨us,cs,h1,h2.mono (aM.tB (lV c [id])),h3.mono (aM.tB (lV c [id]))⟩
 | _ =>
  simp only [aK]at h
  have:=OZ hI hp h
  simp only [OY]
  exact(by
   first
    | (simp only [RU,aK]at this |-;exact this)
    | (simp only [RU]at this |-
       split
       · rename_i hi;rw [if_pos hi]at this;simp only [fz]at this |-;revert this;split<;>(try split)<;>exact fun h=>h
       · rename_i hi;rw [if_neg hi]at this;exact this))
theorem L8:OY rows id .undef = .undef:=rfl
theorem ag0{g:PV->PV}(hg:g .undef = .undef):(fun s=>g (fa l s))=fa (l.map fun p=>(p.1,g p.2)):=by
 funext s
 induction l with
 | nil=>exact hg
 | cons p l ih =>
  obtain⟨i,v⟩:=p
  simp only [fa,List.map_cons]
  split
  ·rfl
  ·exact ih
theorem ads(id:Nat)(hp:dG (rows id)):Gh n ⟨fa l,rows,clk⟩ ⟨fa (l.map fun p=>(p.1,OY rows id p.2)),LN rows [id],clk⟩:=by
 rintro w0 S0 G a w ⟨⟨c,rfl,iQ,gS,hI,hf,hG⟩,h7,h8⟩
 have ag1:c.rows=rows:=iQ
 subst ag1
 refine⟨⟨J5 c [id],rfl,rfl,gS,hI.freeze [id],fun s=>?_,fun p hp=>aK.tB (lV c [id]) _ _ (hG p hp)⟩,h7,h8⟩
 rw [<-ag0 (g:=OY c.rows id) L8]
 exact abd hI hp (hf s)
theorem W.freeze(id:Nat)(hp:dG (rows id))(h:∀K:PS->Prop,(∀σ,W E n tl c Q σ->K σ)->K ⟨fa (l.map fun p=>(p.1,OY rows id p.2)),LN rows [id],clk⟩):W E n tl c Q ⟨fa l,rows,clk⟩:=W.ghost (ads id hp) (h _ fun _ h=>h)
@[simp] theorem aAZ:OY rows id (.own i ver off len)=if i=id then fzR (rows i) ver off len else .own i ver off len:=rfl
@[simp] theorem aA0:OY rows id (.ptr i ver a j)=if i=id then fzP (rows i) ver a j else .ptr i ver a j:=rfl
@[simp] theorem aA1{g:α->List PV}{l:List α}:OY rows id (aJ g l)=aJ g l:=rfl
@[simp] theorem aA2{n:Int}:OY rows id (.int k n) = .int k n:=rfl
@[simp] theorem axD:OY rows id (.bool b) = .bool b:=rfl
@[simp] theorem aA3:OY rows id .nil = .nil:=rfl
@[simp] theorem aDb{l:List (List PV)}:OY rows id (.sl l) = .sl l:=rfl
@[simp] theorem aA4{l:List (List PV)}:OY rows id (.kJ l) = .kJ l:=rfl
@[simp] theorem aDc{l:List PV}:OY rows id (.ag l) = .ag (l.map (RU rows id)):=rfl
@[simp] theorem aA5{n:Int}:RU rows id (.int k n) = .int k n:=rfl
@[simp] theorem axE:RU rows id (.bool b) = .bool b:=rfl
@[simp] theorem aA6:RU rows id .nil = .nil:=rfl
@[simp] theorem aA7{g:α->List PV}{l:List α}:RU rows id (aJ g l)=aJ g l:=rfl
theorem alm(q:PV)(hs:f s = .nil)(hq:q = .sl []):Gh n ⟨f,rows,clk⟩ ⟨put f (some s) q,rows,clk⟩:=by
 rintro w0 S0 G a w ⟨⟨c,rfl,iQ,gS,hI,hf,hG⟩,h7,h8⟩
 refine⟨⟨c,rfl,iQ,gS,hI,fun t=>?_,hG⟩,h7,h8⟩
 simp only [put]
 split
 ·rename_i ht
  subst ht
  have h1:=hf t
  simp only at h1
  rw [hs]at h1
  subst hq
  simp only [aK]at h1 |-
  exact Wk.rep (.inr ⟨rfl,rfl⟩) h1
 ·exact hf t
theorem W.TF(s:Nat)(q:PV)(hs:f s = .nil)(hq:q = .sl [])(h:∀K:PS->Prop,(∀σ,W E n tl c Q σ->K σ)->K ⟨put f (some s) q,rows,clk⟩):W E n tl c Q ⟨f,rows,clk⟩:=W.ghost (alm q hs hq) (h _ fun _ h=>h)
theorem abe{c:Cx}{l:List (List PV)}(hr:aM c (.kJ l) v):aM c (.sl l) v:=by
 simp only [aM,dY]at hr |-
 obtain⟨a,h1,h2,h3⟩:=hr
 exact⟨a,l.length,h1,Nat.le_refl _,h2,h3⟩
theorem aln(l:List (List PV))(q:PV)(hs:f s = .kJ l)(hq:q = .sl l):Gh n ⟨f,rows,clk⟩ ⟨put f (some s) q,rows,clk⟩:=by
 rintro w0 S0 G a w ⟨⟨c,rfl,iQ,gS,hI,hf,hG⟩,h7,h8⟩
 refine⟨⟨c,rfl,iQ,gS,hI,fun t=>?_,hG⟩,h7,h8⟩
 simp only [put]
 split
 ·rename_i ht
  subst ht
  have h1:=hf t
  simp only at h1
  rw [hs]at h1
  subst hq
  simp only [aK]at h1 |-
  exact abe h1
 ·exact hf t
theorem W.aDd(s:Nat)(l:List (List PV))(q:PV)(hs:f s = .kJ l)(hq:q = .sl l)(h:∀K:PS->Prop,(∀σ,W E n tl c Q σ->K σ)->K ⟨put f (some s) q,rows,clk⟩):W E n tl c Q ⟨f,rows,clk⟩:=W.ghost (aln l q hs hq) (h _ fun _ h=>h)
def HR(rows:Rows)(id:Nat):Option Row->Option Row
 | some r=>some { r with els:=r.els.map fun e=>e.map (RU rows id) }
 | none=>none
def K2(rows:Rows)(id:Nat):Rows:=fun j=>if j=id then none else HR rows id (rows j)
@[simp] theorem aA8:K2 rows id j=if j=id then none else HR rows id (rows j):=rfl
@[simp] theorem aos{v e:Nat}{els:List (List PV)}:HR rows id (some ⟨v,e,n,els⟩)=some ⟨v,e,n,els.map fun e=>e.map (RU rows id)⟩:=rfl
@[simp] theorem aot:HR rows id none=none:=rfl
@[simp] theorem aA9:RU rows id (.own i ver off len)=if i=id then fzR (rows i) ver off len else .own i ver off len:=rfl
@[simp] theorem aBa:RU rows id (.ptr i ver a j)=if i=id then fzP (rows i) ver a j else .ptr i ver a j:=rfl
theorem YD(id:Nat)(hp:dG (rows id)):Gh n ⟨fa l,rows,clk⟩ ⟨fa (l.map fun p=>(p.1,OY rows id p.2)),K2 rows id,clk⟩:=by
 rintro w0 S0 G a w ⟨⟨c,rfl,iQ,gS,hI,hf,hG⟩,h7,h8⟩
 have ag1:c.rows=rows:=iQ
 subst ag1
 have RS:=hI.freeze [id]
 have live:∀ {j:Nat} {r':Row},K2 c.rows id j=some r'->j≠id ∧ ∃r,c.rows j=some r∧r' = { r with els:=r.els.map fun e=>e.map (RU c.rows id) }:=by
  intro j r' h
  simp only [K2]at h
  split at h
  ·cases h
  ·rename_i hj
   cases hr:c.rows j with
   | none=>rw [hr]at h;cases h
   | some r=>rw [hr]at h;simp only [HR,Option.some.injEq]at h;exact⟨hj,r,rfl,h.symm⟩
 have hA:xW (J5 c [id]) { J5 c [id]with rows:=K2 c.rows id }:=by
  refine⟨fun _ _ h=>h,fun _ _ _=>rfl,fun _ h=>h,fun j r' h=>?_⟩
  obtain⟨hj,r,hr,rfl⟩:=live h
  exact .inr ⟨r,by simp [J5,LN,hj,hr],rfl,rfl,aG,rfl⟩
 have hI2:Inv w0 S0 { J5 c [id]with rows:=K2 c.rows id }:=by
  refine⟨RS.below,RS.ext,RS.new,RS.lt0,fun j r' h=>?_,fun j r' h=>?_,fun i j r s g hr hs=>?_,RS.fin⟩
  ·obtain⟨hj,r,hr,rfl⟩:=live h
   exact hI.clock j r hr
  ·obtain⟨hj,r,hr,rfl⟩:=live h
   obtain⟨⟨xs,g1,g2,g3⟩,g4,g5,g6⟩:=hI.row j r hr
   obtain⟨_,_,f5,_⟩:=RS.row j r (by simp [J5,LN,hj,hr])
   refine⟨⟨xs,by rw [List.length_map];exact g1,?_,g3⟩,fun e he=>?_,f5,g6⟩
   ·show bA _ (List.flatten (r.els.map fun e=>e.map (RU c.rows id))) xs
    rw [<-List.map_flatten]
    refine bA.cI (by rw [List.length_map];exact g2.length) fun k p u pT hu=>?_
    rw [List.getElem?_map]at pT
    obtain⟨q,hq,rfl⟩:=Option.map_eq_some_iff.1 pT
    obtain⟨u',hu',jO⟩:=g2.get hq
    rw [hu]at hu';cases hu'
    exact aM.tB hA _ _ (OZ hI hp jO)
   ·simp only [List.mem_map]at he
    obtain⟨e',tE,rfl⟩:=he
    simpa using g4 e' tE
  ·obtain⟨hi,r1,yI,rfl⟩:=live hr
   obtain⟨hj,r2,bS,rfl⟩:=live hs
   exact hI.apart i j r1 r2 g yI bS
 refine⟨⟨{ J5 c [id]with rows:=K2 c.rows id },rfl,rfl,gS,hI2,fun s=>?_,fun p hp=>aK.tB hA _ _ (aK.tB (lV c [id]) _ _ (hG p hp))⟩,h7,h8⟩
 show aK _ (fa (l.map fun p=>(p.1,OY c.rows id p.2)) s) _
 rw [<-ag0 (g:=OY c.rows id) L8]
 exact aK.tB hA _ _ (abd hI hp (hf s))
theorem W.O0(id:Nat)(hp:dG (rows id))(h:∀K:PS->Prop,(∀σ,W E n tl c Q σ->K σ)->K ⟨fa (l.map fun p=>(p.1,OY rows id p.2)),K2 rows id,clk⟩):W E n tl c Q ⟨fa l,rows,clk⟩:=W.ghost (YD id hp) (h _ fun _ h=>h)
end Pm

namespace Pm
open Go
variable {X G P1 P2 P3:Prop}
theorem bT(a1:List Nat)(hX:X)(h:oP a1->X->G:=by intro a1 hX;simp (disch:=omega) [gw];refine W.ly a1 ?_;simp;exact hX):G:=h ⟨⟩ hX
theorem aQ(a1:List Nat)(hX:X)(h:oP a1->X->G:=by intro a1 hX;refine W.sr ?_;simp (disch:=omega) [gw];refine W.ly a1 ?_;simp;exact hX):G:=h ⟨⟩ hX
theorem kZ(a1:P1)(hX:X)(h:P1->X->G:=by intro a1 hX;simp (disch:=omega) [gw];refine bC a1 ?_;exact hX):G:=h a1 hX
theorem nB(a1:P1)(hX:X)(h:P1->X->G:=by intro a1 hX;refine W.sr ?_;simp (disch:=omega) [gw];refine bC a1 ?_;exact hX):G:=h a1 hX
theorem sS(a1:P1)(a2:List Nat)(hX:X)(h:P1->oP a2->X->G:=by intro a1 a2 hX;simp (disch:=omega) [gw,a1];refine W.ly a2 ?_;simp;exact hX):G:=h a1 ⟨⟩ hX
theorem jV(hX:X)(h:X->G:=by intro hX;refine W.exit ?_;simp only [pX,if_true,if_false,reduceIte,Nat.reduceEqDiff];refine W.sr ?_;exact hX):G:=h hX
theorem xY(a1:List Nat)(hX:X)(h:oP a1->X->G:=by intro a1 hX;refine W.exit ?_;simp only [pX,if_true,if_false,reduceIte,Nat.reduceEqDiff];refine W.sr ?_;simp (disch:=omega) [gw];refine W.ly a1 ?_;simp;exact hX):G:=h ⟨⟩ hX
theorem cQ(a1:List Nat)(hX:X)(h:oP a1->X->G:=by intro a1 hX;refine W.seq ?_;refine W.sr ?_;simp (disch:=omega) [gw];refine W.ly a1 ?_;simp;exact hX):G:=h ⟨⟩ hX
theorem nC(hX:X)(h:X->G:=by intro hX;refine W.seq ?_;refine W.block ?_;exact hX):G:=h hX
theorem gI(a1:List Nat)(h:oP a1->G:=by intro a1;simp (disch:=omega) [gw];refine W.ly a1 ?_;simp;refine W.ret ?_;simp [go]):G:=h ⟨⟩
theorem j0(a1:P1)(a2:P2)(hX:X)(h:P1->P2->X->G:=by intro a1 a2 hX;simp (disch:=omega) [gw,a1];refine bC a2 ?_;exact hX):G:=h a1 a2 hX
theorem j7(a1:P1)(a2:P2)(a3:P3)(hX:X)(h:P1->P2->P3->X->G:=by intro a1 a2 a3 hX;simp (disch:=omega) [gw,a1,a2];refine bC a3 ?_;exact hX):G:=h a1 a2 a3 hX
theorem HS(a1:P1)(a2:P2)(a3:List Nat)(hX:X)(h:P1->P2->oP a3->X->G:=by intro a1 a2 a3 hX;simp (disch:=omega) [gw,a1,a2];refine W.ly a3 ?_;simp;exact hX):G:=h a1 a2 ⟨⟩ hX
theorem cK(a1:P1)(a2:List Nat)(hX:X)(h:P1->oP a2->X->G:=by intro a1 a2 hX;refine W.sr ?_;simp (disch:=omega) [gw];refine bC a1 ?_;simp (disch:=omega) [gw];refine W.ly a2 ?_;simp;exact hX):G:=h a1 ⟨⟩ hX
theorem eY(a1:List Nat)(h:oP a1->G:=by intro a1;refine W.sr ?_;simp (disch:=omega) [gw];refine W.ly a1 ?_;simp;refine W.ret ?_;simp [go]):G:=h ⟨⟩
theorem cN(a1:List Nat)(hX:X)(h:oP a1->X->G:=by intro a1 hX;refine W.sr ?_;simp (disch:=omega) [gw];refine W.ly a1 ?_;simp;refine W.seq ?_;exact hX):G:=h ⟨⟩ hX
theorem iE(hX:X)(h:X->G:=by intro hX;refine W.skip ?_;refine W.seq ?_;refine W.block ?_;exact hX):G:=h hX
theorem o9(a1:P1)(hX:X)(h:P1->X->G:=by intro a1 hX;simp (disch:=omega) [gw];refine bC a1 ?_;simp (disch:=omega) [gw];exact hX):G:=h a1 hX
theorem eE(a1:List Nat)(hX:X)(h:oP a1->X->G:=by intro a1 hX;refine W.seq ?_;refine W.sr ?_;simp (disch:=omega) [gw];refine W.ly a1 ?_;simp;refine W.block ?_;exact hX):G:=h ⟨⟩ hX
theorem fJ(a1:P1)(a2:List Nat)(hX:X)(h:P1->oP a2->X->G:=by intro a1 a2 hX;refine W.sr ?_;simp (disch:=omega) [gw,a1];refine W.ly a2 ?_;simp;exact hX):G:=h a1 ⟨⟩ hX
theorem fK(a1:List Nat)(a2:List Nat)(hX:X)(h:oP a1->oP a2->X->G:=by intro a1 a2 hX;refine W.sr ?_;simp (disch:=omega) [gw];refine W.ly a1 ?_;simp;refine W.sr ?_;simp (disch:=omega) [gw];refine W.ly a2 ?_;simp;exact hX):G:=h ⟨⟩ ⟨⟩ hX
theorem pJ(a1:List Nat)(h:oP a1->G:=by intro a1;refine W.ly a1 ?_;simp;refine W.ret ?_;simp [go]):G:=h ⟨⟩
theorem fV(a1:P1)(a2:P2)(hX:X)(h:P1->P2->X->G:=by intro a1 a2 hX;simp (disch:=omega) [gw];refine bC a1 ?_;simp (disch:=omega) [gw];refine bC a2 ?_;exact hX):G:=h a1 a2 hX
theorem tI(hX:X)(h:X->G:=by intro hX;refine W.sr ?_;simp (disch:=omega) [gw];exact hX):G:=h hX
theorem pK(hX:X)(h:X->G:=by intro hX;refine W.skip ?_;refine W.seq ?_;exact hX):G:=h hX
theorem kR(a1:List Nat)(hX:X)(h:oP a1->X->G:=by intro a1 hX;refine W.sr ?_;simp (disch:=omega) [gw];refine W.ly a1 ?_;simp;refine W.sd ?_;exact hX):G:=h ⟨⟩ hX
theorem uV(hX:X)(h:X->G:=by intro hX;refine W.skip ?_;refine W.block ?_;exact hX):G:=h hX
theorem FL(a1:P1)(a2:P2)(a3:List Nat)(h:P1->P2->oP a3->G:=by intro a1 a2 a3;simp (disch:=omega) [gw,a1,a2];refine W.ly a3 ?_;simp;refine W.ret ?_;simp [go]):G:=h a1 a2 ⟨⟩
theorem oQ(a1:P1)(a2:P2)(hX:X)(h:P1->P2->X->G:=by intro a1 a2 hX;refine W.sr ?_;simp (disch:=omega) [gw,a1];refine bC a2 ?_;exact hX):G:=h a1 a2 hX
theorem uW(a1:List Nat)(h:oP a1->G:=by intro a1;refine W.exit ?_;simp only [pX,if_true,if_false,reduceIte,Nat.reduceEqDiff];refine W.sr ?_;simp (disch:=omega) [gw];refine W.ly a1 ?_;simp;refine W.ret ?_;simp [go]):G:=h ⟨⟩
theorem C6{P4:Prop}(a1:P1)(a2:P2)(a3:P3)(a4:P4)(hX:X)(h:P1->P2->P3->P4->X->G:=by intro a1 a2 a3 a4 hX;simp (disch:=omega) [gw,a1,a2,a3];refine bC a4 ?_;exact hX):G:=h a1 a2 a3 a4 hX
theorem qE(a1:P1)(a2:P2)(a3:P3)(hX:X)(h:P1->P2->P3->X->G:=by intro a1 a2 a3 hX;refine W.sr ?_;simp (disch:=omega) [gw,a1,a2];refine bC a3 ?_;exact hX):G:=h a1 a2 a3 hX
theorem gJ(a1:List Nat)(a2:P2)(a3:List Nat)(hX:X)(h:oP a1->P2->oP a3->X->G:=by intro a1 a2 a3 hX;refine W.sr ?_;simp (disch:=omega) [gw];refine W.ly a1 ?_;simp;refine W.sr ?_;simp (disch:=omega) [gw];refine bC a2 ?_;simp (disch:=omega) [gw];refine W.ly a3 ?_;simp;exact hX):G:=h ⟨⟩ a2 ⟨⟩ hX
theorem FM(a1:P1)(a2:List Nat)(h:P1->oP a2->G:=by intro a1 a2;simp (disch:=omega) [gw,a1];refine W.ly a2 ?_;simp;refine W.ret ?_;simp [go]):G:=h a1 ⟨⟩
theorem jW(a1:P1)(hX:X)(h:P1->X->G:=by intro a1 hX;refine bC a1 ?_;simp (disch:=omega) [gw];exact hX):G:=h a1 hX
theorem n7(a1:P1)(a2:P2)(hX:X)(h:P1->P2->X->G:=by intro a1 a2 hX;refine W.sr ?_;simp (disch:=omega) [gw];refine bC a1 ?_;simp (disch:=omega) [gw];refine bC a2 ?_;exact hX):G:=h a1 a2 hX
theorem qY(a1:P1)(a2:P2)(a3:List Nat)(hX:X)(h:P1->P2->oP a3->X->G:=by intro a1 a2 a3 hX;refine W.sr ?_;simp (disch:=omega) [gw,a1,a2];refine W.ly a3 ?_;simp;exact hX):G:=h a1 a2 ⟨⟩ hX
theorem HT(hX:X)(h:X->G:=by intro hX;refine W.skip ?_;refine W.sd ?_;exact hX):G:=h hX
theorem oR(a1:List Nat)(hX:X)(h:oP a1->X->G:=by intro a1 hX;refine W.skip ?_;refine W.seq ?_;refine W.block ?_;refine W.sr ?_;simp (disch:=omega) [gw];refine W.ly a1 ?_;simp;exact hX):G:=h ⟨⟩ hX
theorem C7(a1:P1)(a2:List Nat)(h:P1->oP a2->G:=by intro a1 a2;refine W.sr ?_;simp (disch:=omega) [gw];refine bC a1 ?_;simp (disch:=omega) [gw];refine W.ly a2 ?_;simp;refine W.ret ?_;simp [go]):G:=h a1 ⟨⟩
theorem TG(a1:P1)(hX:X)(h:P1->X->G:=by intro a1 hX;refine W.sr ?_;simp (disch:=omega) [gw,a1];exact hX):G:=h a1 hX
theorem O1(a1:P1)(a2:P2)(hX:X)(h:P1->P2->X->G:=by intro a1 a2 hX;simp (disch:=omega) [gw,a1];refine bC a2 ?_;simp (disch:=omega) [gw];exact hX):G:=h a1 a2 hX
theorem eV(a1:P1)(hX:X)(h:P1->X->G:=by intro a1 hX;simp (disch:=omega) [gw,a1];exact hX):G:=h a1 hX
theorem j1(a1:P1)(a2:P2)(hX:X)(h:P1->P2->X->G:=by intro a1 a2 hX;simp (disch:=omega) [gw,a1,a2];exact hX):G:=h a1 a2 hX
theorem zD(a1:P1)(a2:P2)(a3:P3)(hX:X)(h:P1->P2->P3->X->G:=by intro a1 a2 a3 hX;simp (disch:=omega) [gw,a1,a2,a3];exact hX):G:=h a1 a2 a3 hX
theorem cV(hX:X)(h:X->G:=by intro hX;simp (disch:=omega) [gw];exact hX):G:=h hX
theorem gK(hX:X)(h:X->G:=by intro hX;refine W.exit ?_;simp only [pX,if_true,if_false,reduceIte,Nat.reduceEqDiff];exact hX):G:=h hX
theorem j8(h:G:=by refine W.ret ?_;simp [go]):G:=h
theorem arD{Y:Prop}(hX:X)(hY:Y)(h:X->Y->G:=by intro hX hY;refine W.cond ⟨_,rfl,?_,?_⟩;exact hX;exact hY):G:=h hX hY
theorem cO(a1:List Nat)(hX:X)(h:oP a1->X->G:=by intro a1 hX;refine W.ly a1 ?_;simp;exact hX):G:=h ⟨⟩ hX
theorem j9(a1:P1)(hX:X)(h:P1->X->G:=by intro a1 hX;refine bC a1 ?_;exact hX):G:=h a1 hX
abbrev aB(n:Int):PV:=.int .i64 n
@[simp] theorem aGq(n:Int):aB n = .int .i64 n:=rfl
abbrev bF(σ:PS)(l:List (Nat × PV))(P:Rows->Nat->Prop):Prop:=∃rows clk,σ=⟨fa l,rows,clk⟩∧P rows clk
end Pm
