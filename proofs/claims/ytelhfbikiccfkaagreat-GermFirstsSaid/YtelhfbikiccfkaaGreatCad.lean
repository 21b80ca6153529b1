import Derived.Test.YtelhfbikiccfkaaGreatCac
set_option linter.unusedSimpArgs false
set_option linter.unusedVariables false
namespace Pm
open Go Go.RowKit
def emap{α:Type}(g:α→List PV)(l:List α):List (List PV):=l.map g
def aI{α:Type}(g:α→List PV)(l:List α):PV:=.sl (emap g l)
def nth{α:Type}[Inhabited α](l:List α)(i:Nat):α:=l[i]?.getD default
def Enc{α:Type}(g:α→List PV)(n:Nat):Prop:=∀x,(g x).length=n
def aqT{α:Type}(g:α→List PV):Prop:=∀x,(g x).all cR=true
def bW(o:Option Row)(ver:Nat)(K:Row→Prop):Prop:=∃r,o=some r∧r.ver=ver∧K r
@[congr] theorem afl{o o':Option Row}{ver:Nat}{K:Row→Prop}(h:o=o'):bW o ver K=bW o' ver K:=by rw [h]
@[simp] theorem af9{r:Row}{ver:Nat}{K:Row→Prop}:bW (some r) ver K=aK (r.ver=ver) (K r):=by simp [bW,aK]
def F7(els:List (List PV))(i:Nat)(K:List PV→Prop):Prop:=∃el,els[i]? = some el∧K el
@[congr] theorem aoE{l l':List (List PV)}{i i':Nat}{K:List PV→Prop}(h:l=l')(hi:i=i'):F7 l i K=F7 l' i' K:=by rw [h,hi]
@[simp] theorem L7{α:Type}[Inhabited α]{g:α→List PV}{l:List α}{i:Nat}{K:List PV→Prop}:F7 (emap g l) i K=aK (i<l.length) (K (g (nth l i))):=by
 simp only [F7,emap,aK,nth]
 apply propext
 constructor
 ·rintro⟨el,h1,h2⟩
  simp at h1
  obtain⟨x,h1,rfl⟩:=h1
  have:=(List.getElem?_eq_some_iff.1 h1).1
  rw [h1]
  exact⟨this,h2⟩
 ·rintro⟨h1,h2⟩
  rw [List.getElem?_eq_getElem h1]at h2
  exact⟨g l[i],by simp [h1],h2⟩
@[simp] theorem aqU{e:List PV}{es:List (List PV)}{K:List PV→Prop}:F7 (e::es) 0 K=go (K e):=by show _=K e;simp [F7]
@[simp] theorem aqV{e:List PV}{es:List (List PV)}{i:Nat}{K:List PV→Prop}:F7 (e::es) (i+1) K=F7 es i K:=by simp [F7]
def mF{α:Type}(l:List α)(i:Nat):Option α:=l[i]?
@[simp] theorem aoF{α:Type}{x:α}{l:List α}:mF (x::l) 0=some x:=rfl
@[simp] theorem aoG{α:Type}{x:α}{l:List α}{n:Nat}:mF (x::l) (n+1)=mF l n:=rfl
def fS{α:Type}(o:Option α)(K:α→Prop):Prop:=∃v,o=some v∧K v
@[congr] theorem aln{α:Type}{o o':Option α}{K:α→Prop}(h:o=o'):fS o K=fS o' K:=by rw [h]
@[simp] theorem aoH{α:Type}{x:α}{K:α→Prop}:fS (some x) K=go (K x):=by show _=K x;simp [fS]
def zC(ti:TI)(l:List PV)(j:Nat)(K:PV→Prop):Prop:=if ti.agg=true then aK (j+ti.size≤l.length) (K (.ag ((l.drop j).take ti.size)))else fS (mF l j) K
@[congr] theorem aoI{t t':TI}{l l':List PV}{j:Nat}{K:PV→Prop}(h1:t=t')(h2:l=l'):zC t l j K=zC t' l' j K:=by rw [h1,h2]
@[simp] theorem auX{k:IntKind}{l:List PV}{j:Nat}{K:PV→Prop}:zC (.int k) l j K=fS (mF l j) K:=by simp [zC,TI.agg]
@[simp] theorem aqW{l:List PV}{j:Nat}{K:PV→Prop}:zC .bool l j K=fS (mF l j) K:=by simp [zC,TI.agg]
@[simp] theorem auY{l:List PV}{j:Nat}{K:PV→Prop}:zC .str l j K=fS (mF l j) K:=by simp [zC,TI.agg]
@[simp] theorem aoJ{e n b:Nat}{z:List PV}{l:List PV}{j:Nat}{K:PV→Prop}:zC (.slice e n b z) l j K=fS (mF l j) K:=by simp [zC,TI.agg]
@[simp] theorem auZ{e m n:Nat}{z:List PV}{l:List PV}{j:Nat}{K:PV→Prop}:zC (.arr e m n z) l j K=aK (j+z.length≤l.length) (K (.ag ((l.drop j).take z.length))):=by simp [zC,TI.agg,TI.size,TI.zero]
@[simp] theorem aqX{l:List PV}{j:Nat}{K:PV→Prop}:zC .BL l j K=fS (mF l j) K:=by simp [zC,TI.agg]
@[simp] theorem au0{l:List PV}{j:Nat}{K:PV→Prop}:zC .fnT l j K=fS (mF l j) K:=by simp [zC,TI.agg]
@[simp] theorem alp{fs:List (Nat × Nat × Bool)}{z:List PV}{l:List PV}{j:Nat}{K:PV→Prop}:zC (.struct fs z) l j K=aK (j+z.length≤l.length) (K (.ag ((l.drop j).take z.length))):=by simp [zC,TI.agg,TI.size,TI.zero]
def lF(E:Env)(t:TypeId)(rows:Rows)(p:PV)(K:PV→Prop):Prop:=
 aK ((E.ty t).known=true) (match p with
 | .rd l=>zC (E.ty t) l 0 K
 | .ptr id ver i j=>bW (rows id) ver fun r=>F7 r.els i fun el=>zC (E.ty t) el j K
 | _=>False)
@[congr] theorem aga{E:Env}{t:TypeId}{rows:Rows}{p p':PV}{K:PV→Prop}(h:p=p'):lF E t rows p K=lF E t rows p' K:=by rw [h]
@[simp] theorem aoK{E:Env}{t:TypeId}{rows:Rows}{l:List PV}{K:PV→Prop}:lF E t rows (.rd l) K=aK ((E.ty t).known=true) (zC (E.ty t) l 0 K):=rfl
@[simp] theorem alq{E:Env}{t:TypeId}{rows:Rows}{id ver i j:Nat}{K:PV→Prop}:lF E t rows (.ptr id ver i j) K=aK ((E.ty t).known=true) (bW (rows id) ver fun r=>F7 r.els i fun el=>zC (E.ty t) el j K):=rfl
theorem L8{ti:TI}{l:List PV}{j:Nat}{K:PV→Prop}:aZ (fun v=>if ti.agg=true then j+ti.size≤l.length∧v = .ag ((l.drop j).take ti.size)else l[j]? = some v) K=zC ti l j K:=by
 simp only [zC,fS]
 split
 ·rw [jT,kC]
 ·rfl
theorem uO{E:Env}{t:TypeId}{rows:Rows}{p:PV}{K:PV→Prop}:aZ (fun v=>tP E t rows p v) K=lF E t rows p K:=by
 simp only [tP,lF]
 rw [jT]
 congr 1
 cases p with
 | rd l=>dsimp only;rw [←L8];simp [go]
 | ptr id ver i j =>
  simp only [bW,F7,←L8]
  apply propext;simp only [aZ]
  constructor
  ·rintro⟨v,⟨r,h1,h2,el,h3,h4⟩,h5⟩;exact⟨r,h1,h2,el,h3,v,h4,h5⟩
  ·rintro⟨r,h1,h2,el,h3,v,h4,h5⟩;exact⟨v,⟨r,h1,h2,el,h3,h4⟩,h5⟩
 | _=>simp [aZ]
def kE(ti:TI)(i:Nat)(x:PV)(K:PV→Prop):Prop:=
 match ti with
 | .struct fs _=>fS (mF fs i) fun p=>match x with
  | .ag l=>if p.2.2=true then K (.ag ((l.drop p.1).take p.2.1))else fS (mF l p.1) K
  | _=>False
 | _=>False
@[congr] theorem afm{t t':TI}{i:Nat}{x x':PV}{K:PV→Prop}(h:t=t')(h2:x=x'):kE t i x K=kE t' i x' K:=by rw [h,h2]
def IQ(p:Nat × Nat × Bool)(l:List PV)(K:PV→Prop):Prop:=if p.2.2=true then K (.ag ((l.drop p.1).take p.2.1))else fS (mF l p.1) K
@[simp] theorem aoL{o n:Nat}{l:List PV}{K:PV→Prop}:IQ (o,n,true) l K=go (K (.ag ((l.drop o).take n))):=by show _=K _;simp [IQ]
@[simp] theorem alr{o n:Nat}{l:List PV}{K:PV→Prop}:IQ (o,n,false) l K=fS (mF l o) K:=by simp [IQ]
@[congr] theorem als{p p':Nat × Nat × Bool}{l l':List PV}{K:PV→Prop}(h:p=p')(h2:l=l'):IQ p l K=IQ p' l' K:=by rw [h,h2]
@[simp] theorem alu{fs:List (Nat × Nat × Bool)}{z:List PV}{i:Nat}{l:List PV}{K:PV→Prop}:kE (.struct fs z) i (.ag l) K=fS (mF fs i) fun p=>IQ p l K:=rfl
theorem zD{E:Env}{t:TypeId}{i:Nat}{x:PV}{K:PV→Prop}:aZ (fun v=>uG E t i x v) K=kE (E.ty t) i x K:=by
 simp only [uG,kE]
 cases E.ty t with
 | struct fs z =>
  simp only [fS]
  apply propext;simp only [aZ]
  cases x with
  | ag l =>
   simp only
   constructor
   ·rintro⟨v,⟨o,n,b,h1,h2⟩,h3⟩
    refine⟨_,h1,?_⟩
    simp only
    split at h2
    ·rename_i hb;rw [if_pos hb,←h2];exact h3
    ·rename_i hb;rw [if_neg hb];exact⟨v,h2,h3⟩
   ·rintro⟨⟨o,n,b⟩,h1,h2⟩
    simp only at h2
    split at h2
    ·rename_i hb;exact⟨_,⟨o,n,b,h1,by rw [if_pos hb]⟩,h2⟩
    ·rename_i hb;obtain⟨v,h3,h4⟩:=h2;exact⟨v,⟨o,n,b,h1,by rw [if_neg hb];exact h3⟩,h4⟩
  | _=>simp
 | _=>simp [aZ]
def dW(ti:TI)(rows:Rows)(i:Nat)(x:PV)(K:PV→Prop):Prop:=
 match ti with
 | .struct fs _=>fS (mF fs i) fun p=>match x with
  | .rd l=>aK (p.1≤l.length) (K (.rd (l.drop p.1)))
  | .ptr id ver a j=>bW (rows id) ver fun _=>K (.ptr id ver a (j+p.1))
  | _=>False
 | _=>False
@[congr] theorem U6{t t':TI}{rows:Rows}{i:Nat}{x x':PV}{K:PV→Prop}(h:t=t')(h2:x=x'):dW t rows i x K=dW t' rows i x' K:=by rw [h,h2]
@[simp] theorem abT{fs:List (Nat × Nat × Bool)}{z:List PV}{rows:Rows}{i:Nat}{l:List PV}{K:PV→Prop}:dW (.struct fs z) rows i (.rd l) K=fS (mF fs i) fun p=>aK (p.1≤l.length) (K (.rd (l.drop p.1))):=rfl
@[simp] theorem aaN{fs:List (Nat × Nat × Bool)}{z:List PV}{rows:Rows}{i id ver a j:Nat}{K:PV→Prop}:dW (.struct fs z) rows i (.ptr id ver a j) K=fS (mF fs i) fun p=>bW (rows id) ver fun _=>K (.ptr id ver a (j+p.1)):=rfl
theorem qR{E:Env}{t:TypeId}{rows:Rows}{i:Nat}{x:PV}{K:PV→Prop}:aZ (fun v=>fO E t rows i x v) K=dW (E.ty t) rows i x K:=by
 simp only [fO,dW]
 cases E.ty t with
 | struct fs z =>
  simp only [fS]
  apply propext;simp only [aZ]
  cases x with
  | rd l =>
   simp only [aK]
   constructor
   ·rintro⟨v,⟨o,n,b,h1,h2,rfl⟩,h3⟩;exact⟨_,h1,h2,h3⟩
   ·rintro⟨⟨o,n,b⟩,h1,h2,h3⟩;exact⟨_,⟨o,n,b,h1,h2,rfl⟩,h3⟩
  | ptr id ver a j =>
   simp only [bW]
   constructor
   ·rintro⟨v,⟨o,n,b,h1,⟨r,h2,h3⟩,rfl⟩,h4⟩;exact⟨_,h1,r,h2,h3,h4⟩
   ·rintro⟨⟨o,n,b⟩,h1,r,h2,h3,h4⟩;exact⟨_,⟨o,n,b,h1,⟨r,h2,h3⟩,rfl⟩,h4⟩
  | _=>simp
 | _=>simp [aZ]
def bM(n:Nat)(l:List (List PV)):Prop:=∀e∈l,e.length=n
@[simp] theorem dO{α:Type}{g:α→List PV}{n:Nat}{l:List α}:(Enc g n)→bM n (emap g l)=True:=by
 intro h
 simp only [bM,emap,List.mem_map,eq_iff_iff,iff_true]
 rintro e ⟨x,_,rfl⟩
 exact h x
@[simp] theorem alv{n:Nat}:bM n []=True:=by simp [bM]
@[simp] theorem aiZ{n:Nat}{e:List PV}{l:List (List PV)}:bM n (e::l)=(e.length=n∧bM n l):=by simp [bM]
def cL(ti:TI)(rows:Rows)(x ix:PV)(K:PV→Prop):Prop:=
 match ti,ix with
 | .slice _ n _ _, .int _ k=>aK (0≤k) (match x with
  | .sl l=>aK (bM n l) (F7 l k.toNat fun el=>K (.rd el))
  | .j8 l=>aK (bM n l) (F7 l k.toNat fun el=>K (.rd el))
  | .own id ver off len=>bW (rows id) ver fun r=>aK (r.size=n∧k.toNat<len) (K (.ptr id ver (off+k.toNat) 0))
  | _=>False)
 | .arr _ m n _, .int _ k=>aK (0≤k∧k.toNat<m) (match x with
  | .rd l=>aK (k.toNat*n≤l.length) (K (.rd (l.drop (k.toNat*n))))
  | .ptr id ver a j=>bW (rows id) ver fun _=>K (.ptr id ver a (j+k.toNat*n))
  | _=>False)
 | _,_=>False
@[congr] theorem U7{t t':TI}{rows:Rows}{x x' y y':PV}{K:PV→Prop}(h:t=t')(h2:x=x')(h3:y=y'):cL t rows x y K=cL t' rows x' y' K:=by rw [h,h2,h3]
section
variable {α:Type} [Inhabited α] {g:α→List PV} {l:List α} {e n b:Nat} {z:List PV} {rows:Rows} {kk:IntKind} {k:Int} {K:PV→Prop} {els:List (List PV)} {id ver off len:Nat}
@[simp] theorem aaO:cL (.slice e n b z) rows (aI g l) (.int kk k) K=aK (0≤k∧k.toNat<l.length) (aK (bM n (emap g l)) (K (.rd (g (nth l k.toNat))))):=by
 simp only [cL,aI,L7,aK,and_assoc]
 apply propext
 constructor
 ·rintro⟨h1,h2,h3,h4⟩;exact⟨h1,h3,h2,h4⟩
 ·rintro⟨h1,h2,h3,h4⟩;exact⟨h1,h3,h2,h4⟩
@[simp] theorem abU:cL (.slice e n b z) rows (.sl els) (.int kk k) K=aK (0≤k) (aK (bM n els) (F7 els k.toNat fun el=>K (.rd el))):=rfl
@[simp] theorem aaP:cL (.slice e n b z) rows (.j8 els) (.int kk k) K=aK (0≤k) (aK (bM n els) (F7 els k.toNat fun el=>K (.rd el))):=rfl
@[simp] theorem aaQ{m:Nat}{l:List PV}:cL (.arr e m n z) rows (.rd l) (.int kk k) K=aK (0≤k∧k.toNat<m) (aK (k.toNat*n≤l.length) (K (.rd (l.drop (k.toNat*n))))):=rfl
@[simp] theorem YH{m a j:Nat}:cL (.arr e m n z) rows (.ptr id ver a j) (.int kk k) K=aK (0≤k∧k.toNat<m) (bW (rows id) ver fun _=>K (.ptr id ver a (j+k.toNat*n))):=rfl
@[simp] theorem aaR:cL (.slice e n b z) rows (.own id ver off len) (.int kk k) K=aK (0≤k) (bW (rows id) ver fun r=>aK (r.size=n∧k.toNat<len) (K (.ptr id ver (off+k.toNat) 0))):=rfl
end
theorem qS{E:Env}{t:TypeId}{rows:Rows}{x ix:PV}{K:PV→Prop}:aZ (fun v=>fP E t rows x ix v) K=cL (E.ty t) rows x ix K:=by
 simp only [fP,cL]
 cases E.ty t with
 | slice e n b z =>
  cases ix with
  | int kk k =>
   simp only
   rw [jT]
   congr 1
   cases x with
   | sl l =>
    simp only [aK,F7,bM]
    apply propext;simp only [aZ]
    constructor
    ·rintro⟨v,⟨el,h1,h2,rfl⟩,h4⟩;exact⟨h2,el,h1,h4⟩
    ·rintro⟨h2,el,h1,h4⟩;exact⟨_,⟨el,h1,h2,rfl⟩,h4⟩
   | j8 l =>
    simp only [aK,F7,bM]
    apply propext;simp only [aZ]
    constructor
    ·rintro⟨v,⟨el,h1,h2,rfl⟩,h4⟩;exact⟨h2,el,h1,h4⟩
    ·rintro⟨h2,el,h1,h4⟩;exact⟨_,⟨el,h1,h2,rfl⟩,h4⟩
   | own id ver off len =>
    simp only [aK,bW]
    apply propext;simp only [aZ]
    constructor
    ·rintro⟨v,⟨r,h1,h2,h3,h4,rfl⟩,h5⟩;exact⟨r,h1,h2,⟨h3,h4⟩,h5⟩
    ·rintro⟨r,h1,h2,⟨h3,h4⟩,h5⟩;exact⟨_,⟨r,h1,h2,h3,h4,rfl⟩,h5⟩
   | _=>simp [aZ]
  | _=>simp [aZ]
 | arr e m n z =>
  cases ix with
  | int kk k =>
   simp only
   rw [jT]
   congr 1
   cases x with
   | rd l =>
    simp only
    rw [jT,kC]
   | ptr id ver a j =>
    simp only [bW]
    apply propext;simp only [aZ]
    constructor
    ·rintro⟨v,⟨⟨r,h1,h2⟩,rfl⟩,h3⟩;exact⟨r,h1,h2,h3⟩
    ·rintro⟨r,h1,h2,h3⟩;exact⟨_,⟨⟨r,h1,h2⟩,rfl⟩,h3⟩
   | _=>simp [aZ]
  | _=>simp [aZ]
 | _=>simp [aZ]
def zE(d:Nat)(o:Option PV)(K:Nat→Prop):Prop:=
 match o with
 | none=>K d
 | some (.int _ k)=>aK (0≤k) (K k.toNat)
 | some _=>False
@[congr] theorem aoM{d d':Nat}{o o':Option PV}{K:Nat→Prop}(h:d=d')(h2:o=o'):zE d o K=zE d' o' K:=by rw [h,h2]
@[simp] theorem aqY{d:Nat}{K:Nat→Prop}:zE d none K=go (K d):=rfl
@[simp] theorem aqZ{d:Nat}{kk:IntKind}{k:Int}{K:Nat→Prop}:zE d (some (.int kk k)) K=aK (0≤k) (K k.toNat):=rfl
theorem RU{d:Nat}{o:Option PV}{K:Nat→Prop}:zE d o K ↔ ∃n,vG d o n∧K n:=by
 cases o with
 | none=>simp [zE,vG]
 | some p =>
  cases p with
  | int kk k =>
   simp only [zE,vG,aK]
   constructor
   ·rintro⟨h1,h2⟩;exact⟨_,⟨h1,rfl⟩,h2⟩
   ·rintro⟨n,⟨h1,rfl⟩,h2⟩;exact⟨h1,h2⟩
  | _=>simp [zE,vG]
def YI{α:Type}(mk mkx:List α→PV)(n:Nat)(l:List α)(ok:Prop)(lo hi mx:Option PV)(K:PV→Prop):Prop:=
 zE 0 lo fun a=>zE l.length hi fun b=>aK (a≤b∧b≤l.length) (aK ok (match mx with
  | none=>K (mk ((l.take b).drop a))
  | some m=>zE 0 (some m) fun c=>aK (b=c∧hi.isSome=true) (K (mkx ((l.take b).drop a)))))
def fW(ti:TI)(rows:Rows)(x:PV)(lo hi mx:Option PV)(K:PV→Prop):Prop:=
 match ti with
 | .slice _ n _ _ =>
  match x with
  | .nil=>zE 0 lo fun a=>zE 0 hi fun b=>aK (a=0∧b=0∧mx.isNone=true) (K .nil)
  | .sl l=>YI .sl .j8 n l (bM n l) lo hi mx K
  | .j8 l=>YI .sl .j8 n l (bM n l) lo hi mx K
  | .own id ver off len=>bW (rows id) ver fun r=>aK (r.size=n) (zE 0 lo fun a=>zE len hi fun b=>aK (a≤b∧b≤len∧mx.isNone=true) (K (.own id ver (off+a) (b-a))))
  | _=>False
 | _=>False
@[congr] theorem afn{t t':TI}{rows:Rows}{x x':PV}{lo P4 hi lT mx mx':Option PV}{K:PV→Prop}(h:t=t')(h2:x=x')(h3:lo=P4)(h4:hi=lT)(h5:mx=mx'):fW t rows x lo hi mx K=fW t' rows x' P4 lT mx' K:=by rw [h,h2,h3,h4,h5]
section
variable {α:Type} {g:α→List PV} {l:List α} {e n b:Nat} {z:List PV} {rows:Rows} {lo hi mx:Option PV} {K:PV→Prop} {els:List (List PV)} {id ver off len:Nat}
theorem L9{a b:Nat}:((emap g l).take b).drop a=emap g ((l.take b).drop a):=by simp [emap]
@[simp] theorem ai0:fW (.slice e n b z) rows (aI g l) lo hi none K=zE 0 lo fun a=>zE l.length hi fun b=>aK (a≤b∧b≤l.length) (aK (bM n (emap g l)) (K (aI g ((l.take b).drop a)))):=by
 simp only [fW,aI,YI,L9]
 simp [emap]
theorem IU{m:PV}:fW (.slice e n b z) rows (aI g l) lo hi (some m) K=zE 0 lo fun a=>zE l.length hi fun b=>aK (a≤b∧b≤l.length) (aK (bM n (emap g l)) (zE 0 (some m) fun c=>aK (b=c∧hi.isSome=true) (K (.j8 (emap g ((l.take b).drop a)))))):=by
 simp only [fW,aI,YI,L9]
 simp [emap]
@[simp] theorem ai1:fW (.slice e n b z) rows .nil lo hi mx K=zE 0 lo fun a=>zE 0 hi fun b=>aK (a=0∧b=0∧mx.isNone=true) (K .nil):=rfl
@[simp] theorem ai2:fW (.slice e n b z) rows (.own id ver off len) lo hi mx K=bW (rows id) ver fun r=>aK (r.size=n) (zE 0 lo fun a=>zE len hi fun b=>aK (a≤b∧b≤len∧mx.isNone=true) (K (.own id ver (off+a) (b-a)))):=rfl
end
theorem U8{l:List (List PV)}{n:Nat}{lo hi mx:Option PV}{K:PV→Prop}:(∃v,(∃a b,vG 0 lo a∧vG l.length hi b∧a≤b∧b≤l.length∧(∀e∈l,e.length=n)∧QD l a b hi mx v)∧K v)↔YI .sl .j8 n l (bM n l) lo hi mx K:=by
 simp only [YI,RU,aK,bM,QD]
 constructor
 ·rintro⟨v,⟨a,b,h1,h2,h3,h4,h5,h6⟩,h7⟩
  refine⟨a,h1,b,h2,⟨h3,h4⟩,h5,?_⟩
  cases mx with
  | none=>simp only at h6 ⊢;rw [←h6];exact h7
  | some m=>obtain⟨c,q1,q2,q3,rfl⟩:=h6;exact⟨c,q1,⟨q2,q3⟩,h7⟩
 ·rintro⟨a,h1,b,h2,⟨h3,h4⟩,h5,h6⟩
  cases mx with
  | none=>exact⟨_,⟨a,b,h1,h2,h3,h4,h5,rfl⟩,h6⟩
  | some m=>obtain⟨c,q1,⟨q2,q3⟩,h7⟩:=h6;exact⟨_,⟨a,b,h1,h2,h3,h4,h5,c,q1,q2,q3,rfl⟩,h7⟩
theorem zF{E:Env}{t:TypeId}{rows:Rows}{x:PV}{lo hi mx:Option PV}{K:PV→Prop}:aZ (fun v=>oM E t rows x lo hi mx v) K=fW (E.ty t) rows x lo hi mx K:=by
 simp only [oM,fW]
 cases E.ty t with
 | slice e n b z =>
  cases x with
  | sl l=>exact propext U8
  | j8 l=>exact propext U8
  | nil =>
   simp only [RU,aK]
   apply propext;simp only [aZ]
   constructor
   ·rintro⟨v,⟨a,b,h1,h2,h3,h4,h5,rfl⟩,h6⟩;exact⟨a,h1,b,h2,⟨h3,h4,h5⟩,h6⟩
   ·rintro⟨a,h1,b,h2,⟨h3,h4,h5⟩,h6⟩;exact⟨_,⟨a,b,h1,h2,h3,h4,h5,rfl⟩,h6⟩
  | own id ver off len =>
   simp only [RU,aK,bW]
   apply propext;simp only [aZ]
   constructor
   ·rintro⟨v,⟨r,q1,q2,q3,a,b,h1,h2,h3,h4,h5,rfl⟩,h6⟩;exact⟨r,q1,q2,q3,a,h1,b,h2,⟨h3,h4,h5⟩,h6⟩
   ·rintro⟨r,q1,q2,q3,a,h1,b,h2,⟨h3,h4,h5⟩,h6⟩;exact⟨_,⟨r,q1,q2,q3,a,b,h1,h2,h3,h4,h5,rfl⟩,h6⟩
  | _=>simp [aZ]
 | _=>simp [aZ]
def tZ(rows:Rows)(x:PV)(K:PV→Prop):Prop:=
 match x with
 | .rd l=>K (.rd l)
 | .ptr id ver i j=>bW (rows id) ver fun _=>K (.ptr id ver i j)
 | _=>False
@[congr] theorem ai3{rows:Rows}{x x':PV}{K:PV→Prop}(h:x=x'):tZ rows x K=tZ rows x' K:=by rw [h]
@[simp] theorem aq0{rows:Rows}{l:List PV}{K:PV→Prop}:tZ rows (.rd l) K=go (K (.rd l)):=rfl
@[simp] theorem aoN{rows:Rows}{id ver i j:Nat}{K:PV→Prop}:tZ rows (.ptr id ver i j) K=bW (rows id) ver fun _=>K (.ptr id ver i j):=rfl
theorem F8{rows:Rows}{x:PV}{K:PV→Prop}:aZ (fun v=>ER rows x v) K=tZ rows x K:=by
 simp only [ER,tZ]
 cases x with
 | rd l=>dsimp only;rw [kC]
 | ptr id ver i j =>
  simp only [bW]
  apply propext;simp only [aZ]
  constructor
  ·rintro⟨v,⟨⟨r,h1,h2⟩,rfl⟩,h3⟩;exact⟨r,h1,h2,h3⟩
  ·rintro⟨r,h1,h2,h3⟩;exact⟨_,⟨⟨r,h1,h2⟩,rfl⟩,h3⟩
 | _=>simp [aZ]
def mK(ti:TI)(rows:Rows)(x:PV)(K:PV→Prop):Prop:=
 match ti with
 | .slice _ _ _ _=>match x with
  | .nil=>K (.int .i64 0)
  | .sl l=>K (.int .i64 l.length)
  | .j8 l=>K (.int .i64 l.length)
  | .own id ver _ len=>bW (rows id) ver fun _=>K (.int .i64 len)
  | _=>False
 | _=>False
@[congr] theorem ai4{t t':TI}{rows:Rows}{x x':PV}{K:PV→Prop}(h:t=t')(h2:x=x'):mK t rows x K=mK t' rows x' K:=by rw [h,h2]
section
variable {α:Type} {g:α→List PV} {l:List α} {e n b:Nat} {z:List PV} {rows:Rows} {K:PV→Prop} {els:List (List PV)} {id ver off len:Nat}
@[simp] theorem aoO:mK (.slice e n b z) rows (aI g l) K=go (K (.int .i64 l.length)):=by show _=K _;simp [mK,aI,emap]
@[simp] theorem aoP:mK (.slice e n b z) rows .nil K=go (K (.int .i64 0)):=rfl
@[simp] theorem aq1:mK (.slice e n b z) rows (.sl els) K=go (K (.int .i64 els.length)):=rfl
@[simp] theorem aoQ:mK (.slice e n b z) rows (.j8 els) K=go (K (.int .i64 els.length)):=rfl
@[simp] theorem aoR:mK (.slice e n b z) rows (.own id ver off len) K=bW (rows id) ver fun _=>K (.int .i64 len):=rfl
end
theorem F9{ti:TI}{rows:Rows}{x:PV}{K:PV→Prop}:aZ (fun v=>yU ti rows x v) K=mK ti rows x K:=by
 simp only [yU,mK]
 cases ti with
 | slice e n b z =>
  apply propext;simp only [aZ,XQ]
  cases x with
  | own id ver off len =>
   simp only [bW]
   constructor
   ·rintro⟨v,⟨n,⟨⟨r,h1,h2⟩,rfl⟩,rfl⟩,h4⟩;exact⟨r,h1,h2,h4⟩
   ·rintro⟨r,h1,h2,h4⟩;exact⟨_,⟨_,⟨⟨r,h1,h2⟩,rfl⟩,rfl⟩,h4⟩
  | _=>simp
 | _=>simp [aZ]
def iT(els:List (List PV))(i j:Nat)(l:List PV):List (List PV):=els.set i (((els[i]?).getD []).take j++l++((els[i]?).getD []).drop (j+l.length))
def uA(els:List (List PV))(i n:Nat):Prop:=∃el,els[i]? = some el∧n≤el.length
def iF(rows:Rows)(l:List PV):Prop:=∀q∈l,i0 rows q
@[simp] theorem alw{rows:Rows}:iF rows []=True:=by simp [iF]
@[simp] theorem ai5{rows:Rows}{p:PV}{l:List PV}:iF rows (p::l)=(i0 rows p∧iF rows l):=by simp [iF]
@[simp] theorem alx{α:Type}[Inhabited α]{g:α→List PV}{l:List α}{i n:Nat}:uA (emap g l) i n=(i<l.length∧n≤(g (nth l i)).length):=by
 exact L7 (g:=g) (l:=l) (i:=i) (K:=fun el=>n≤el.length)
def kF(E:Env)(t:TypeId)(rows:Rows)(p x:PV)(K:Nat→Row→Prop):Prop:=
 aK ((E.ty t).known=true) (match p with
 | .ptr id ver i j=>bW (rows id) ver fun r=>fS (cE x) fun l=>aK (uA r.els i (j+l.length)∧iF rows l∧l.length=(E.ty t).size) (K id ⟨ver,r.e,r.size,iT r.els i j l⟩)
 | _=>False)
@[congr] theorem afo{E:Env}{t:TypeId}{rows:Rows}{p p' x x':PV}{K:Nat→Row→Prop}(h1:p=p')(h2:x=x'):kF E t rows p x K=kF E t rows p' x' K:=by rw [h1,h2]
@[simp] theorem ai6{E:Env}{t:TypeId}{rows:Rows}{id ver i j:Nat}{x:PV}{K:Nat→Row→Prop}:kF E t rows (.ptr id ver i j) x K=aK ((E.ty t).known=true) (bW (rows id) ver fun r=>fS (cE x) fun l=>aK (uA r.els i (j+l.length)∧iF rows l∧l.length=(E.ty t).size) (K id ⟨ver,r.e,r.size,iT r.els i j l⟩)):=rfl
theorem GB{E:Env}{t:TypeId}{rows:Rows}{p x:PV}{K:Nat→Row→Prop}:(∃id r,rK E t rows p x .undef (some (id,r))∧K id r)=kF E t rows p x K:=by
 simp only [rK,kF,aK,bW,fS,uA,iF]
 apply propext
 constructor
 ·rintro⟨id,r,⟨h1,_,h2⟩,h3⟩
  refine⟨h1,?_⟩
  split at h2
  ·obtain⟨r0,q1,q2,el,q3,l,q4,q5,q6,q7,q8⟩:=h2
   simp only [Option.some.injEq,Prod.mk.injEq]at q8
   obtain⟨rfl,rfl⟩:=q8
   refine⟨r0,q1,q2,l,q4,⟨⟨el,q3,q7⟩,q5,q6⟩,?_⟩
   simp only [iT,q3,Option.getD_some]
   rw [q2]at h3
   exact h3
  ·exact h2.elim
 ·rintro⟨h1,h2⟩
  split at h2
  ·obtain⟨r0,q1,q2,l,q4,⟨⟨el,q3,q7⟩,q5,q6⟩,h3⟩:=h2
   simp only [iT,q3,Option.getD_some]at h3
   refine⟨_,_,⟨h1,trivial,r0,q1,q2,el,q3,l,q4,q5,q6,q7,rfl⟩,?_⟩
   rw [←q2]at h3
   exact h3
  ·exact h2.elim
def kY(rows:Rows)(y:PV)(K:List (List PV)→Prop):Prop:=
 match y with
 | .nil=>K []
 | .sl k=>K k
 | .j8 k=>K k
 | .own id ver off len=>bW (rows id) ver fun r=>K ((r.els.drop off).take len)
 | _=>False
@[congr] theorem ai7{rows:Rows}{y y':PV}{K:List (List PV)→Prop}(h:y=y'):kY rows y K=kY rows y' K:=by rw [h]
@[simp] theorem aoS{rows:Rows}{K:List (List PV)→Prop}:kY rows .nil K=go (K []):=rfl
@[simp] theorem aq2{rows:Rows}{l:List (List PV)}{K:List (List PV)→Prop}:kY rows (.sl l) K=go (K l):=rfl
@[simp] theorem aoT{α:Type}{g:α→List PV}{rows:Rows}{l:List α}{K:List (List PV)→Prop}:kY rows (aI g l) K=go (K (emap g l)):=rfl
@[simp] theorem aoU{rows:Rows}{l:List (List PV)}{K:List (List PV)→Prop}:kY rows (.j8 l) K=go (K l):=rfl
@[simp] theorem aoV{rows:Rows}{id ver off len:Nat}{K:List (List PV)→Prop}:kY rows (.own id ver off len) K=bW (rows id) ver fun r=>K ((r.els.drop off).take len):=rfl
theorem U9{rows:Rows}{y:PV}{K:List (List PV)→Prop}:(∃l,vP rows y l∧K l)=kY rows y K:=by
 simp only [vP,kY]
 apply propext
 cases y with
 | own id ver off len =>
  simp only [bW]
  constructor
  ·rintro⟨l,⟨r,h1,h2,rfl⟩,h3⟩;exact⟨r,h1,h2,h3⟩
  ·rintro⟨r,h1,h2,h3⟩;exact⟨_,⟨r,h1,h2,rfl⟩,h3⟩
 | _=>simp
def rR(t:TI)(rows:Rows)(x y:PV)(clk d:Nat)(K:PV→Rows→Nat→Prop):Prop:=
 match t with
 | .slice e n b _=>kY rows y fun l=>aK (bM n l) (match x with
  | .nil=>aK (l.length≤room∧l.length*b≤room) (K (.own d clk 0 l.length) (eE rows d (some ⟨clk,e,n,l⟩)) (clk+1))
  | .own id ver off len=>bW (rows id) ver fun r=>aK (off=0∧len=r.els.length∧r.e=e∧r.size=n) (aK (len+l.length≤room∧(len+l.length)*b≤room) (K (.own id clk 0 (len+l.length)) (eE rows id (some ⟨clk,e,n,r.els++l⟩)) (clk+1)))
  | .j8 l0=>aK (bM n l0 ∧ ∀e∈l,∀p∈e,cR p=true) (aK (l0.length+l.length≤room∧(l0.length+l.length)*b≤room) (K (.sl (l0++l)) rows clk))
  | _=>False)
 | _=>False
@[congr] theorem ai8{t t':TI}{rows:Rows}{x x' y y':PV}{clk d:Nat}{K:PV→Rows→Nat→Prop}(h1:t=t')(h3:x=x')(h4:y=y') :
  rR t rows x y clk d K=rR t' rows x' y' clk d K:=by rw [h1,h3,h4]
section
variable {e n b clk d id ver off len:Nat} {z:List PV} {rows:Rows} {y:PV} {K:PV→Rows→Nat→Prop} {l0:List (List PV)}
@[simp] theorem aoW:rR (.slice e n b z) rows .nil y clk d K=kY rows y fun l=>aK (bM n l) (aK (l.length≤room∧l.length*b≤room) (K (.own d clk 0 l.length) (eE rows d (some ⟨clk,e,n,l⟩)) (clk+1))):=rfl
@[simp] theorem aoX:rR (.slice e n b z) rows (.own id ver off len) y clk d K=kY rows y fun l=>aK (bM n l) (bW (rows id) ver fun r=>aK (off=0∧len=r.els.length∧r.e=e∧r.size=n) (aK (len+l.length≤room∧(len+l.length)*b≤room) (K (.own id clk 0 (len+l.length)) (eE rows id (some ⟨clk,e,n,r.els++l⟩)) (clk+1)))):=rfl
@[simp] theorem aoY:rR (.slice e n b z) rows (.j8 l0) y clk d K=kY rows y fun l=>aK (bM n l) (aK (bM n l0 ∧ ∀e∈l,∀p∈e,cR p=true) (aK (l0.length+l.length≤room∧(l0.length+l.length)*b≤room) (K (.sl (l0++l)) rows clk))):=rfl
end
theorem agb{t:TI}{rows:Rows}{x y:PV}{clk d:Nat}{K:PV→Rows→Nat→Prop}:YA t rows x y clk d K=rR t rows x y clk d K:=by
 unfold YA rR
 cases t with
 | slice e n b z =>
  dsimp only
  rw [←U9]
  congr 1;funext l;congr 1
  simp only [aK,bM]
  congr 1
  cases x with
  | own id ver off len=>simp only [bW,and_assoc]
  | j8 l0=>simp only [bM,and_assoc]
  | _=>rfl
 | _=>rfl
def fzR(o:Option Row)(ver off len:Nat):PV:=
 match o with
 | some r=>if r.ver=ver then .sl ((r.els.drop off).take len)else .undef
 | none => .undef
@[simp] theorem aw5{rows:Rows}{id ver off len:Nat}:fz rows (.own id ver off len)=fzR (rows id) ver off len:=rfl
@[simp] theorem aq3{α:Type}{g:α→List PV}{l:List α}{ver e n off len:Nat}:fzR (some ⟨ver,e,n,emap g l⟩) ver off len=aI g ((l.drop off).take len):=by simp [fzR,aI,emap]
@[simp] theorem aw6{rows:Rows}:fz rows .nil = .sl []:=rfl
@[simp] theorem aw7{rows:Rows}{l:List (List PV)}:fz rows (.j8 l) = .sl l:=rfl
@[simp] theorem aAj{rows:Rows}{l:List (List PV)}:fz rows (.sl l) = .sl l:=rfl
@[simp] theorem aw8{α:Type}{g:α→List PV}{rows:Rows}{l:List α}:fz rows (aI g l)=aI g l:=rfl
@[simp] theorem aw9{rows:Rows}{k:IntKind}{n:Int}:fz rows (.int k n) = .int k n:=rfl
@[simp] theorem au1{rows:Rows}{b:Bool}:fz rows (.bool b) = .bool b:=rfl
@[simp] theorem aAk{rows:Rows}{f:FuncId}{l:List PV}:fz rows (.fn f l) = .fn f l:=rfl
@[simp] theorem axa{rows:Rows}{id ver off len:Nat}:pz rows (.own id ver off len)=fzR (rows id) ver off len:=rfl
@[simp] theorem axb{rows:Rows}:pz rows .nil = .sl []:=rfl
@[simp] theorem axc{rows:Rows}{l:List (List PV)}:pz rows (.j8 l) = .sl l:=rfl
@[simp] theorem aAl{rows:Rows}{l:List (List PV)}:pz rows (.sl l) = .sl l:=rfl
@[simp] theorem axd{α:Type}{g:α→List PV}{rows:Rows}{l:List α}:pz rows (aI g l)=aI g l:=rfl
@[simp] theorem axe{rows:Rows}{k:IntKind}{n:Int}:pz rows (.int k n) = .int k n:=rfl
@[simp] theorem au2{rows:Rows}{b:Bool}:pz rows (.bool b) = .bool b:=rfl
@[simp] theorem aAm{rows:Rows}{f:FuncId}{l:List PV}:pz rows (.fn f l) = .fn f l:=rfl
@[simp] theorem aAn{rows:Rows}{l:List PV}:pz rows (.ag l) = .ag (l.map (fz rows)):=rfl
@[simp] theorem aq4{α:Type}{g:α→List PV}{l:List α}:gI (aI g l)=true:=rfl
@[simp] theorem ao0{α:Type}{g:α→List PV}{l:List α}:cR (aI g l)=true:=rfl
@[simp] theorem au3{α:Type}{g:α→List PV}{l:List α}:bJ (aI g l) = []:=rfl
@[simp] theorem aq5{α:Type}{g:α→List PV}{l:List α}:eD (aI g l) = []:=rfl
@[simp] theorem au4{l:List (List PV)}:eD (.sl l) = []:=rfl
@[simp] theorem aq6{l:List (List PV)}:eD (.j8 l) = []:=rfl
@[simp] theorem aq7{k:IntKind}{n:Int}:eD (.int k n) = []:=rfl
@[simp] theorem ao1{b:Bool}:eD (.bool b) = []:=rfl
@[simp] theorem au5{f:FuncId}{l:List PV}:eD (.fn f l) = []:=rfl
@[simp] theorem aq8:eD .nil = []:=rfl
@[simp] theorem aq9{id ver off len:Nat}:eD (.own id ver off len) = [id]:=rfl
@[simp] theorem au6{l:List PV}:eD (.ag l)=l.flatMap bJ:=rfl
@[simp] theorem ara{α:Type}{g:α→List PV}{rows:Rows}{l:List α}:i0 rows (aI g l)=True:=rfl
@[simp] theorem aly{α:Type}{g:α→List PV}{l:List α}:cE (aI g l)=some [aI g l]:=rfl
@[simp] theorem alz{α:Type}{g:α→List PV}{l:List α}:fH (aI g l)=some [aI g l]:=rfl
def dJ(o:Option Row):Prop:=∀r,o=some r → ∀e∈r.els,∀p∈e,cR p=true
@[simp] theorem agc{rows:Rows}:eM rows []=True:=by simp [eM]
@[simp] theorem afp{rows:Rows}{id:Nat}{ids:List Nat}:eM rows (id::ids)=(dJ (rows id)∧eM rows ids):=by simp [eM,dJ]
@[simp] theorem agd:dJ none=True:=by simp [dJ]
@[simp] theorem dC{α:Type}{g:α→List PV}{l:List α}{ver e n:Nat}(h:aqT g):dJ (some ⟨ver,e,n,emap g l⟩)=True:=by
 simp only [dJ,emap,Option.some.injEq,eq_iff_iff,iff_true]
 rintro r rfl e he p hp
 simp at he
 obtain⟨x,_,rfl⟩:=he
 exact List.all_eq_true.1 (h x) p hp
@[simp] theorem au7{rows:Rows}:FY rows []=rows:=by funext j;simp [FY]
@[simp] theorem axf{rows:Rows}{ids:List Nat}{j:Nat}:FY rows ids j=if j∈ids then none else rows j:=rfl
def nB(fs:List (Nat × Nat × Bool)):List (Nat × PV)→List PV→(List PV→Prop)→Prop
 | [],z,K=>K z
 | (i,p)::ps,z,K=>fS (mF fs i) fun q=>fS (fH p) fun l=>aK (l.length=q.2.1∧q.1+q.2.1≤z.length) (nB fs ps (z.take q.1++l++z.drop (q.1+q.2.1)) K)
@[congr] theorem ai9{fs:List (Nat × Nat × Bool)}{ps VA:List (Nat × PV)}{z z':List PV}{K:List PV→Prop}(h:ps=VA)(h2:z=z'):nB fs ps z K=nB fs VA z' K:=by rw [h,h2]
@[simp] theorem ao2{fs:List (Nat × Nat × Bool)}{z:List PV}{K:List PV→Prop}:nB fs [] z K=go (K z):=rfl
@[simp] theorem alA{fs:List (Nat × Nat × Bool)}{i:Nat}{p:PV}{ps:List (Nat × PV)}{z:List PV}{K:List PV→Prop}:nB fs ((i,p)::ps) z K=fS (mF fs i) fun q=>fS (fH p) fun l=>aK (l.length=q.2.1∧q.1+q.2.1≤z.length) (nB fs ps (z.take q.1++l++z.drop (q.1+q.2.1)) K):=rfl
theorem CJ{fs:List (Nat × Nat × Bool)}:∀ {ps:List (Nat × PV)} {z:List PV} {K:List PV→Prop},(∃l,tQ fs ps z=some l∧K l)↔nB fs ps z K
 | [],z,K=>by simp [tQ,nB]
 | (i,p)::ps,z,K=>by
  simp only [tQ,nB,fS,aK,mF]
  cases h1:fs[i]? with
  | none=>simp
  | some q =>
   obtain⟨o,n,b⟩:=q
   cases h2:fH p with
   | none=>simp
   | some l =>
    simp only [Option.some.injEq,exists_eq_left']
    rw [←CJ]
    split
    ·rename_i h;simp [h]
    ·rename_i h;simp [h]
def lV(ti:TI)(ps:List (Nat × PV))(K:PV→Prop):Prop:=
 match ti with
 | .struct fs z=>nB fs ps z fun l=>K (.ag l)
 | .arr _ k n z=>nB (QF k n) ps z fun l=>K (.ag l)
 | _=>False
@[congr] theorem afq{t t':TI}{ps VA:List (Nat × PV)}{K:PV→Prop}(h:t=t')(h2:ps=VA):lV t ps K=lV t' VA K:=by rw [h,h2]
@[simp] theorem abV{fs:List (Nat × Nat × Bool)}{z:List PV}{ps:List (Nat × PV)}{K:PV→Prop}:lV (.struct fs z) ps K=nB fs ps z fun l=>K (.ag l):=rfl
@[simp] theorem aja{e k n:Nat}{z:List PV}{ps:List (Nat × PV)}{K:PV→Prop}:lV (.arr e k n z) ps K=nB (QF k n) ps z fun l=>K (.ag l):=rfl
@[simp] theorem ao3{k n i:Nat}:mF (QF k n) i=if i<k then some (i*n,n,false)else none:=by
 unfold mF QF
 rw [List.getElem?_map]
 split
 ·rename_i h;rw [List.getElem?_range h];rfl
 ·rename_i h;rw [List.getElem?_eq_none (by simpa using h)];rfl
theorem zG{ti:TI}{ps:List (Nat × PV)}{K:PV→Prop}:aZ (fun v=>rG ti ps v) K=lV ti ps K:=by
 simp only [rG,lV]
 cases ti with
 | struct fs z =>
  apply propext;simp only [aZ]
  rw [←CJ]
  constructor
  ·rintro⟨v,⟨l,h1,rfl⟩,h2⟩;exact⟨l,h1,h2⟩
  ·rintro⟨l,h1,h2⟩;exact⟨_,⟨l,h1,rfl⟩,h2⟩
 | arr e k n z =>
  apply propext;simp only [aZ]
  rw [←CJ]
  constructor
  ·rintro⟨v,⟨l,h1,rfl⟩,h2⟩;exact⟨l,h1,h2⟩
  ·rintro⟨l,h1,h2⟩;exact⟨_,⟨l,h1,rfl⟩,h2⟩
 | _=>simp [aZ]
def jI(n:Nat):Nat→List (Nat × PV)→(List (List PV)→Prop)→Prop
 | _,[],K=>K []
 | k,(i,p)::ps,K=>fS (cE p) fun l=>aK (i=k∧l.length=n) (jI n (k+1) ps fun els=>K (l::els))
@[congr] theorem age{n k:Nat}{ps VA:List (Nat × PV)}{K:List (List PV)→Prop}(h:ps=VA):jI n k ps K=jI n k VA K:=by rw [h]
@[simp] theorem alB{n k:Nat}{K:List (List PV)→Prop}:jI n k [] K=go (K []):=rfl
@[simp] theorem ajb{n k i:Nat}{p:PV}{ps:List (Nat × PV)}{K:List (List PV)→Prop}:jI n k ((i,p)::ps) K=fS (cE p) fun l=>aK (i=k∧l.length=n) (jI n (k+1) ps fun els=>K (l::els)):=rfl
theorem xY{n:Nat}:∀ {ps:List (Nat × PV)} {k:Nat} {K:List (List PV)→Prop},(∃l,iD n k ps=some l∧K l)↔jI n k ps K
 | [],k,K=>by simp [iD,jI]
 | (i,p)::ps,k,K=>by
  simp only [iD,jI,fS,aK]
  cases h2:cE p with
  | none=>simp
  | some l =>
   simp only [Option.some.injEq,exists_eq_left']
   rw [←xY]
   by_cases h:i=k∧l.length=n
   ·rw [if_pos h]
    constructor
    ·rintro⟨e,h1,h3⟩
     obtain⟨e',h4,rfl⟩:=Option.map_eq_some_iff.1 h1
     exact⟨h,e',h4,h3⟩
    ·rintro⟨_,e',h4,h3⟩
     exact⟨_,by rw [h4];rfl,h3⟩
   ·rw [if_neg h];simp [h]
def CK(rows:Rows)(els:List (List PV)):Prop:=(∀e∈els,∀p∈e,cR (fz rows p)=true∧i0 rows p)∧(∀e∈els,∀p∈e,bJ p = [])
@[simp] theorem ao4{rows:Rows}:CK rows []=True:=by simp [CK]
@[simp] theorem alC{rows:Rows}{e:List PV}{els:List (List PV)}:CK rows (e::els)=((∀p∈e,cR (fz rows p)=true∧i0 rows p∧bJ p = [])∧CK rows els):=by
 simp only [CK,List.mem_cons,forall_eq_or_imp,eq_iff_iff]
 constructor
 ·rintro⟨⟨h1,h2⟩,h3,h4⟩;exact⟨fun p hp=>⟨(h1 p hp).1,(h1 p hp).2,h3 p hp⟩,h2,h4⟩
 ·rintro⟨h1,h2,h4⟩;exact⟨⟨fun p hp=>⟨(h1 p hp).1,(h1 p hp).2.1⟩,h2⟩,fun p hp=>(h1 p hp).2.2,h4⟩
def vU(ti:TI)(rows:Rows)(len:Nat)(ps:List (Nat × PV))(K:PV→Prop):Prop:=
 match ti with
 | .slice _ n _ _=>jI n 0 ps fun els=>aK (len=els.length∧len≤4096∧n≤4096∧CK rows els) (K (.j8 (els.map fun e=>e.map (fz rows))))
 | _=>False
@[congr] theorem ajc{t t':TI}{rows:Rows}{len:Nat}{ps VA:List (Nat × PV)}{K:PV→Prop}(h:t=t')(h2:ps=VA):vU t rows len ps K=vU t' rows len VA K:=by rw [h,h2]
@[simp] theorem ajd{e n b:Nat}{z:List PV}{rows:Rows}{len:Nat}{ps:List (Nat × PV)}{K:PV→Prop}:vU (.slice e n b z) rows len ps K=jI n 0 ps fun els=>aK (len=els.length∧len≤4096∧n≤4096∧CK rows els) (K (.j8 (els.map fun e=>e.map (fz rows)))):=rfl
theorem GC{ti:TI}{rows:Rows}{len:Nat}{ps:List (Nat × PV)}{K:PV→Prop}:aZ (fun v=>QT ti rows len ps v) K=vU ti rows len ps K:=by
 simp only [QT,vU]
 cases ti with
 | slice e n b z =>
  apply propext;simp only [aZ]
  rw [←xY]
  constructor
  ·rintro⟨v,⟨l,h1,h2,h3,h4,h5,h6,rfl⟩,h7⟩;exact⟨l,h1,⟨h2,h3,h4,h5,h6⟩,h7⟩
  ·rintro⟨l,h1,⟨h2,h3,h4,h5,h6⟩,h7⟩;exact⟨_,⟨l,h1,h2,h3,h4,h5,h6,rfl⟩,h7⟩
 | _=>simp [aZ]
def vV(i:Nat)(x:PV)(K:PV→Prop):Prop:=
 match x with
 | .eB l=>fS (mF l i) K
 | _=>False
@[congr] theorem aje{i:Nat}{x x':PV}{K:PV→Prop}(h:x=x'):vV i x K=vV i x' K:=by rw [h]
@[simp] theorem ao5{i:Nat}{l:List PV}{K:PV→Prop}:vV i (.eB l) K=fS (mF l i) K:=rfl
theorem GD{i:Nat}{x:PV}{K:PV→Prop}:aZ (fun v=>QE i x v) K=vV i x K:=by
 simp only [QE,vV]
 cases x<;>first | rfl | simp [aZ]
def E7:List Oper→Nat→Option Tmp
 | [],_=>none
 | o::_,0=>o.dst
 | _::os,n+1=>E7 os n
theorem IW:∀(ops:List Oper) (j:Nat),E7 ops j=(ops[j]?).bind (·.dst)
 | [],j=>by simp [E7]
 | o::os,0=>by simp [E7]
 | o::os,n+1=>by simp [E7,IW os n]
@[simp] theorem ao6{d:Option Tmp}{op:Op}{ty:TypeId}{pos:String}{af:Array Edge}{g:Option (Nat × Bool)}{os:List Oper}:E7 (⟨d,op,ty,pos,af,g⟩::os) 0=d:=rfl
@[simp] theorem ao7{o:Oper}{os:List Oper}{n:Nat}:E7 (o::os) (n+1)=E7 os n:=rfl
def pT(o:Option Tmp)(f:Nat→PV)(w:Bool)(A B:Prop):Prop:=
 match o with
 | none=>False
 | some e=>stepG (f e) w A B
@[congr] theorem agf{o o':Option Tmp}{f:Nat→PV}{w:Bool}{A B:Prop}(h:o=o'):pT o f w A B=pT o' f w A B:=by rw [h]
@[simp] theorem ajf{e:Tmp}{f:Nat→PV}{w:Bool}{A B:Prop}:pT (some e) f w A B=stepG (f e) w A B:=rfl
@[simp] theorem ao8{o:Option Tmp}{f:Nat→PV}{w:Bool}{A B:Prop}:go (pT o f w A B)=pT o f w A B:=rfl
section
variable {E:Env} {ops os:List Oper} {K:PS→Prop} {f:Nat→PV} {rows:Rows} {clk:Nat} {d:Option Tmp} {ty:TypeId} {pos:String} {af:Array Edge} {k:Nat} {b6:Nat→Nat→Prop} {aR:Nat→Nat→Prop}
theorem MA{op:Op}{j:Nat}{want:Bool}:aO E ops (⟨d,op,ty,pos,af,some (j,want)⟩::os) K ⟨f,rows,clk⟩=pT ((ops[j]?).bind (·.dst)) f want (aO E ops (⟨d,op,ty,pos,af,none⟩::os) K ⟨f,rows,clk⟩) (aO E ops os K ⟨put f d (.eB []),rows,clk⟩):=RC
theorem MB{op:Op}{j:Nat}{want:Bool}:aQ E ops clk k (⟨d,op,ty,pos,af,some (j,want)⟩::os) K ⟨f,rows,b6,aR⟩=pT ((ops[j]?).bind (·.dst)) f want (aQ E ops clk k (⟨d,op,ty,pos,af,none⟩::os) K ⟨f,rows,b6,aR⟩) (aQ E ops clk (k+1) os K ⟨put f d (.eB []),rows,b6,aR⟩):=RK
end
section
variable {E:Env} {ops os:List Oper} {K:PS→Prop} {f:Nat→PV} {rows:Rows} {clk:Nat} {d:Option Tmp} {ty:TypeId} {pos:String} {af:Array Edge} {k:Nat} {b6:Nat→Nat→Prop} {aR:Nat→Nat→Prop}
theorem RV{t:TypeId}{x:Operand}:aO E ops (⟨d, .load t x,ty,pos,af,none⟩::os) K ⟨f,rows,clk⟩=lF E t rows (aV f x) fun v=>aO E ops os K ⟨put f d v,rows,clk⟩:=by rw [X9,uO]
theorem MC{t:TypeId}{i:Nat}{x:Operand}:aO E ops (⟨d, .field t x i,ty,pos,af,none⟩::os) K ⟨f,rows,clk⟩=kE (E.ty t) i (aV f x) fun v=>aO E ops os K ⟨put f d v,rows,clk⟩:=by rw [RD,zD]
theorem AG{t:TypeId}{i:Nat}{x:Operand}:aO E ops (⟨d, .fieldAddr t x i,ty,pos,af,none⟩::os) K ⟨f,rows,clk⟩=dW (E.ty t) rows i (aV f x) fun v=>aO E ops os K ⟨put f d v,rows,clk⟩:=by rw [CC,qR]
theorem AH{t:TypeId}{x y:Operand}:aO E ops (⟨d, .indexAddr t x y,ty,pos,af,none⟩::os) K ⟨f,rows,clk⟩=cL (E.ty t) rows (aV f x) (aV f y) fun v=>aO E ops os K ⟨put f d v,rows,clk⟩:=by rw [CD,qS]
theorem MD{t:TypeId}{x:Operand}{lo hi mx:Option Operand}:aO E ops (⟨d, .slice t x lo hi mx,ty,pos,af,none⟩::os) K ⟨f,rows,clk⟩=fW (E.ty t) rows (aV f x) (lo.map (aV f)) (hi.map (aV f)) (mx.map (aV f)) fun v=>aO E ops os K ⟨put f d v,rows,clk⟩:=by rw [RE,zF]
theorem YJ{t:TypeId}{x:Operand}:aO E ops (⟨d, .call { callee:=.builtin .len,args:=⟨[x]⟩,argTypes:=⟨[t]⟩ },ty,pos,af,none⟩::os) K ⟨f,rows,clk⟩=mK (E.ty t) rows (aV f x) fun v=>aO E ops os K ⟨put f d v,rows,clk⟩:=by rw [abJ,F9]
theorem ME{t:TypeId}{p x:Operand}:aO E ops (⟨none, .store t p x,ty,pos,af,none⟩::os) K ⟨f,rows,clk⟩=kF E t rows (aV f p) (aV f x) fun id r=>aO E ops os K ⟨f,eE rows id (some r),clk⟩:=by rw [RH,GB]
theorem IX{t t2:TypeId}{x y:Operand}:aO E ops (⟨d, .call { callee:=.builtin .append,args:=⟨[x,y]⟩,argTypes:=⟨[t,t2]⟩ },ty,pos,af,none⟩::os) K ⟨f,rows,clk⟩ =
  aK (t2=t∨slT (E.ty t2)=true) (rR (E.ty t) rows (aV f x) (aV f y) clk (d.getD 0) fun v rows clk=>aO E ops os K ⟨put f d v,rows,clk⟩):=by rw [L3,agb]
theorem RW{t:TypeId}{x:Operand}:aQ E ops clk k (⟨d, .load t x,ty,pos,af,none⟩::os) K ⟨f,rows,b6,aR⟩=lF E t (eN .any ops k aR rows) (aV f x) fun v=>aQ E ops clk (k+1) os K ⟨put f d v,rows,l6 k (bJ (aV f x)) b6,aR⟩:=by rw [YF,uO]
theorem MF{t:TypeId}{i:Nat}{x:Operand}:aQ E ops clk k (⟨d, .field t x i,ty,pos,af,none⟩::os) K ⟨f,rows,b6,aR⟩=kE (E.ty t) i (aV f x) fun v=>aQ E ops clk (k+1) os K ⟨put f d v,rows,b6,aR⟩:=by rw [RL,zD]
theorem AJ{t:TypeId}{i:Nat}{x:Operand}:aQ E ops clk k (⟨d, .fieldAddr t x i,ty,pos,af,none⟩::os) K ⟨f,rows,b6,aR⟩=dW (E.ty t) (eN .any ops k aR rows) i (aV f x) fun v=>aQ E ops clk (k+1) os K ⟨put f d v,rows,l6 k (bJ (aV f x)) b6,aR⟩:=by rw [CF,qR]
theorem AK{t:TypeId}{x y:Operand}:aQ E ops clk k (⟨d, .indexAddr t x y,ty,pos,af,none⟩::os) K ⟨f,rows,b6,aR⟩=cL (E.ty t) (eN .any ops k aR rows) (aV f x) (aV f y) fun v=>aQ E ops clk (k+1) os K ⟨put f d v,rows,l6 k (bJ (aV f x)) b6,aR⟩:=by rw [CG,qS]
theorem MG{t:TypeId}{x:Operand}{lo hi mx:Option Operand}:aQ E ops clk k (⟨d, .slice t x lo hi mx,ty,pos,af,none⟩::os) K ⟨f,rows,b6,aR⟩=fW (E.ty t) (eN .any ops k aR rows) (aV f x) (lo.map (aV f)) (hi.map (aV f)) (mx.map (aV f)) fun v=>aQ E ops clk (k+1) os K ⟨put f d v,rows,l6 k (bJ (aV f x)) b6,aR⟩:=by rw [RM,zF]
theorem YK{t:TypeId}{x:Operand}:aQ E ops clk k (⟨d, .call { callee:=.builtin .len,args:=⟨[x]⟩,argTypes:=⟨[t]⟩ },ty,pos,af,none⟩::os) K ⟨f,rows,b6,aR⟩=mK (E.ty t) (eN .any ops k aR rows) (aV f x) fun v=>aQ E ops clk (k+1) os K ⟨put f d v,rows,l6 k (bJ (aV f x)) b6,aR⟩:=by rw [abO,F9]
theorem MH{t:TypeId}{p x:Operand}:aQ E ops clk k (⟨none, .store t p x,ty,pos,af,none⟩::os) K ⟨f,rows,b6,aR⟩ =
  kF E t (eN .any ops k aR rows) (aV f p) (aV f x) fun id r=>aK (B4 .any ops k id b6) (aQ E ops clk (k+1) os K ⟨f,eE rows id (some r),l6 k (bJ (aV f p)++((cE (aV f x)).getD []).flatMap bJ) b6,pR k id aR⟩):=by rw [RO,←GB];rfl
theorem VB{x:Operand}:go (aO E ops (⟨d, .move x,ty,pos,af,none⟩::os) K ⟨f,rows,clk⟩)=go (aO E ops os K ⟨put f d (aV f x),rows,clk⟩):=X6
theorem GF{x:Operand}:go (aO E ops (⟨d, .assign x,ty,pos,af,none⟩::os) K ⟨f,rows,clk⟩)=go (aO E ops os K ⟨put f d (aV f x),rows,clk⟩):=LZ
theorem agh{c a b:Operand}:go (aO E ops (⟨d, .pick c a b,ty,pos,af,none⟩::os) K ⟨f,rows,clk⟩)=iS (aV f c) true (aO E ops os K ⟨put f d (aV f a),rows,clk⟩) (aO E ops os K ⟨put f d (aV f b),rows,clk⟩):=X7
theorem abW{op:BinOp}{t t2:TypeId}{x y:Operand}:go (aO E ops (⟨d, .binOp op t x y t2,ty,pos,af,none⟩::os) K ⟨f,rows,clk⟩)=aZ (fun v=>H4 E op t (aV f x) (aV f y) v) fun v=>aO E ops os K ⟨put f d v,rows,clk⟩:=abI
theorem arb{op:UnOp}{t:TypeId}{x:Operand}:go (aO E ops (⟨d, .unOp op t x,ty,pos,af,none⟩::os) K ⟨f,rows,clk⟩)=aZ (fun v=>yun op (aV f x) v) fun v=>aO E ops os K ⟨put f d v,rows,clk⟩:=af5
theorem IY{s t:TypeId}{x:Operand}:go (aO E ops (⟨d, .convert s t x,ty,pos,af,none⟩::os) K ⟨f,rows,clk⟩)=aZ (fun v=>tR (E.ty s) (E.ty t) (aV f x) v) fun v=>aO E ops os K ⟨put f d v,rows,clk⟩:=X8
theorem RX{i:Nat}{x:Operand}:go (aO E ops (⟨d, .extract x i,ty,pos,af,none⟩::os) K ⟨f,rows,clk⟩)=vV i (aV f x) fun v=>aO E ops os K ⟨put f d v,rows,clk⟩:=by
 show aO E ops (⟨d, .extract x i,ty,pos,af,none⟩::os) K ⟨f,rows,clk⟩=_
 rw [IM,GD]
theorem agi{t:TypeId}{x:Operand}:go (aO E ops (⟨d, .load t x,ty,pos,af,none⟩::os) K ⟨f,rows,clk⟩)=lF E t rows (aV f x) fun v=>aO E ops os K ⟨put f d v,rows,clk⟩:=RV
theorem abX{t:TypeId}{i:Nat}{x:Operand}:go (aO E ops (⟨d, .field t x i,ty,pos,af,none⟩::os) K ⟨f,rows,clk⟩)=kE (E.ty t) i (aV f x) fun v=>aO E ops os K ⟨put f d v,rows,clk⟩:=MC
theorem IZ{t:TypeId}{i:Nat}{x:Operand}:go (aO E ops (⟨d, .fieldAddr t x i,ty,pos,af,none⟩::os) K ⟨f,rows,clk⟩)=dW (E.ty t) rows i (aV f x) fun v=>aO E ops os K ⟨put f d v,rows,clk⟩:=AG
theorem I0{t:TypeId}{x y:Operand}:go (aO E ops (⟨d, .indexAddr t x y,ty,pos,af,none⟩::os) K ⟨f,rows,clk⟩)=cL (E.ty t) rows (aV f x) (aV f y) fun v=>aO E ops os K ⟨put f d v,rows,clk⟩:=AH
theorem abY{t:TypeId}{x:Operand}{lo hi mx:Option Operand}:go (aO E ops (⟨d, .slice t x lo hi mx,ty,pos,af,none⟩::os) K ⟨f,rows,clk⟩)=fW (E.ty t) rows (aV f x) (lo.map (aV f)) (hi.map (aV f)) (mx.map (aV f)) fun v=>aO E ops os K ⟨put f d v,rows,clk⟩:=MD
theorem abZ{t:TypeId}{parts:Array (Nat × Operand)}:go (aO E ops (⟨d, .build t parts,ty,pos,af,none⟩::os) K ⟨f,rows,clk⟩)=lV (E.ty t) (parts.toList.map fun x=>(x.1,aV f x.2)) fun v=>aO E ops os K ⟨put f d v,rows,clk⟩:=by
 show aO E ops (⟨d, .build t parts,ty,pos,af,none⟩::os) K ⟨f,rows,clk⟩=_
 rw [RF,zG]
theorem MI{t:TypeId}{x y:Operand}:go (aO E ops (⟨d, .index t x y,ty,pos,af,none⟩::os) K ⟨f,rows,clk⟩)=aZ (fun v=>uH (E.ty t) (aV f x) (aV f y) v) fun v=>aO E ops os K ⟨put f d v,rows,clk⟩:=RG
theorem MJ{x:Operand}:go (aO E ops (⟨d, .nilCheck x,ty,pos,af,none⟩::os) K ⟨f,rows,clk⟩)=tZ rows (aV f x) fun v=>aO E ops os K ⟨put f d v,rows,clk⟩:=by show aO E ops _ K _=_;rw [E0,F8]
theorem alD{t:TypeId}{x:Operand}:go (aO E ops (⟨d, .call { callee:=.builtin .len,args:=⟨[x]⟩,argTypes:=⟨[t]⟩ },ty,pos,af,none⟩::os) K ⟨f,rows,clk⟩)=mK (E.ty t) rows (aV f x) fun v=>aO E ops os K ⟨put f d v,rows,clk⟩:=YJ
theorem alE{ts:Array TypeId}{x y:Operand}:go (aO E ops (⟨d, .call { callee:=.builtin .max,args:=⟨[x,y]⟩,argTypes:=ts },ty,pos,af,none⟩::os) K ⟨f,rows,clk⟩)=aZ (fun v=>QG (aV f x) (aV f y) v) fun v=>aO E ops os K ⟨put f d v,rows,clk⟩:=abK
theorem alF{ts:Array TypeId}{x y:Operand}:go (aO E ops (⟨d, .call { callee:=.builtin .min,args:=⟨[x,y]⟩,argTypes:=ts },ty,pos,af,none⟩::os) K ⟨f,rows,clk⟩)=aZ (fun v=>QH (aV f x) (aV f y) v) fun v=>aO E ops os K ⟨put f d v,rows,clk⟩:=abL
theorem E8{t:TypeId}{len:Nat}{parts:Array (Nat × Operand)}:go (aO E ops (⟨d, .buildSlice t len parts,ty,pos,af,none⟩::os) K ⟨f,rows,clk⟩)=vU (E.ty t) rows len (parts.toList.map fun x=>(x.1,aV f x.2)) fun v=>aO E ops os K ⟨put f d v,rows,clk⟩:=by
 show aO E ops (⟨d, .buildSlice t len parts,ty,pos,af,none⟩::os) K ⟨f,rows,clk⟩=_
 rw [AE,GC]
theorem ab0{t:TypeId}{p x:Operand}:go (aO E ops (⟨none, .store t p x,ty,pos,af,none⟩::os) K ⟨f,rows,clk⟩)=kF E t rows (aV f p) (aV f x) fun id r=>aO E ops os K ⟨f,eE rows id (some r),clk⟩:=ME
theorem ab3{t:TypeId}:go (aO E ops (⟨d, .alloc t,ty,pos,af,none⟩::os) K ⟨f,rows,clk⟩)=aK ((E.ty t).known=true) (aO E ops os K ⟨put f d (.ptr (d.getD 0) clk 0 0),eE rows (d.getD 0) (some ⟨clk,t,(E.ty t).size,[(E.ty t).zero]⟩),clk+1⟩):=RJ
theorem alG{t:TypeId}{x:Operand}:go (aO E ops (⟨d, .box t x,ty,pos,af,none⟩::os) K ⟨f,rows,clk⟩)=aK ((E.ty t).known=true) (fS (cE (aV f x)) fun l=>aK (iF rows l∧l.length=(E.ty t).size) (aO E ops os K ⟨put f d (.ptr (d.getD 0) clk 0 0),eE rows (d.getD 0) (some ⟨clk,t,(E.ty t).size,[l]⟩),clk+1⟩)):=by
 show aO E ops (⟨d, .box t x,ty,pos,af,none⟩::os) K ⟨f,rows,clk⟩=_
 rw [abM]
 simp only [aK,fS,iF,and_assoc]
theorem I3{t:TypeId}{l c:Operand}:go (aO E ops (⟨d, .makeSlice t l c,ty,pos,af,none⟩::os) K ⟨f,rows,clk⟩)=rP (E.ty t) (aV f l) (aV f c) fun e n z x=>aO E ops os K ⟨put f d (.own (d.getD 0) clk 0 x.toNat),eE rows (d.getD 0) (some ⟨clk,e,n,List.replicate x.toNat z⟩),clk+1⟩:=CE
theorem YL{t t2:TypeId}{x y:Operand}:go (aO E ops (⟨d, .call { callee:=.builtin .append,args:=⟨[x,y]⟩,argTypes:=⟨[t,t2]⟩ },ty,pos,af,none⟩::os) K ⟨f,rows,clk⟩)=aK (t2=t∨slT (E.ty t2)=true) (rR (E.ty t) rows (aV f x) (aV f y) clk (d.getD 0) fun v rows clk=>aO E ops os K ⟨put f d v,rows,clk⟩):=IX
theorem agj{fo:Operand}{args:Array Operand}{ts:Array TypeId}:go (aO E ops (⟨d, .call { callee:=.value fo,args:=args,argTypes:=ts },ty,pos,af,none⟩::os) K ⟨f,rows,clk⟩)=rQ E (aV f fo) (args.toList.map (aV f)) rows clk fun v rows clk=>aO E ops os K ⟨put f d v,rows,clk⟩:=YB
theorem ML{g:FuncId}{cI:Array Operand}:go (aO E ops (⟨d, .makeFunc (.func g) ⟨[]⟩ cI,ty,pos,af,none⟩::os) K ⟨f,rows,clk⟩)=aK (((cI.toList.map (aV f)).map (pz rows)).all gI=true∧eM rows ((cI.toList.map (aV f)).flatMap eD))
      (aO E ops os K ⟨put f d (.fn g ((cI.toList.map (aV f)).map (pz rows))),FY rows ((cI.toList.map (aV f)).flatMap eD),clk⟩):=E4
theorem ab4{op:Op}{j:Nat}{want:Bool}:go (aO E ops (⟨d,op,ty,pos,af,some (j,want)⟩::os) K ⟨f,rows,clk⟩)=pT (E7 ops j) f want (aO E ops (⟨d,op,ty,pos,af,none⟩::os) K ⟨f,rows,clk⟩) (aO E ops os K ⟨put f d (.eB []),rows,clk⟩):=by
 rw [IW,←MA];rfl
theorem agk{x:Operand}:go (aQ E ops clk k (⟨d, .move x,ty,pos,af,none⟩::os) K ⟨f,rows,b6,aR⟩)=go (aQ E ops clk (k+1) os K ⟨put f d (aV f x),rows,b6,aR⟩):=YC
theorem YM{x:Operand}:go (aQ E ops clk k (⟨d, .assign x,ty,pos,af,none⟩::os) K ⟨f,rows,b6,aR⟩)=go (aQ E ops clk (k+1) os K ⟨put f d (aV f x),rows,b6,aR⟩):=L5
theorem agl{c a b:Operand}:go (aQ E ops clk k (⟨d, .pick c a b,ty,pos,af,none⟩::os) K ⟨f,rows,b6,aR⟩)=iS (aV f c) true (aQ E ops clk (k+1) os K ⟨put f d (aV f a),rows,b6,aR⟩) (aQ E ops clk (k+1) os K ⟨put f d (aV f b),rows,b6,aR⟩):=YD
theorem alH{op:BinOp}{t t2:TypeId}{x y:Operand}:go (aQ E ops clk k (⟨d, .binOp op t x y t2,ty,pos,af,none⟩::os) K ⟨f,rows,b6,aR⟩)=aZ (fun v=>H4 E op t (aV f x) (aV f y) v) fun v=>aQ E ops clk (k+1) os K ⟨put f d v,rows,b6,aR⟩:=abN
theorem arc{op:UnOp}{t:TypeId}{x:Operand}:go (aQ E ops clk k (⟨d, .unOp op t x,ty,pos,af,none⟩::os) K ⟨f,rows,b6,aR⟩)=aZ (fun v=>yun op (aV f x) v) fun v=>aQ E ops clk (k+1) os K ⟨put f d v,rows,b6,aR⟩:=af7
theorem agm{s t:TypeId}{x:Operand}:go (aQ E ops clk k (⟨d, .convert s t x,ty,pos,af,none⟩::os) K ⟨f,rows,b6,aR⟩)=aZ (fun v=>tR (E.ty s) (E.ty t) (aV f x) v) fun v=>aQ E ops clk (k+1) os K ⟨put f d v,rows,b6,aR⟩:=YE
theorem RY{i:Nat}{x:Operand}:go (aQ E ops clk k (⟨d, .extract x i,ty,pos,af,none⟩::os) K ⟨f,rows,b6,aR⟩)=vV i (aV f x) fun v=>aQ E ops clk (k+1) os K ⟨put f d v,rows,b6,aR⟩:=by
 show aQ E ops clk k (⟨d, .extract x i,ty,pos,af,none⟩::os) K ⟨f,rows,b6,aR⟩=_
 rw [IP,GD]
theorem agn{t:TypeId}{x:Operand}:go (aQ E ops clk k (⟨d, .load t x,ty,pos,af,none⟩::os) K ⟨f,rows,b6,aR⟩)=lF E t (eN .any ops k aR rows) (aV f x) fun v=>aQ E ops clk (k+1) os K ⟨put f d v,rows,l6 k (bJ (aV f x)) b6,aR⟩:=RW
theorem ab5{t:TypeId}{i:Nat}{x:Operand}:go (aQ E ops clk k (⟨d, .field t x i,ty,pos,af,none⟩::os) K ⟨f,rows,b6,aR⟩)=kE (E.ty t) i (aV f x) fun v=>aQ E ops clk (k+1) os K ⟨put f d v,rows,b6,aR⟩:=MF
theorem I4{t:TypeId}{i:Nat}{x:Operand}:go (aQ E ops clk k (⟨d, .fieldAddr t x i,ty,pos,af,none⟩::os) K ⟨f,rows,b6,aR⟩)=dW (E.ty t) (eN .any ops k aR rows) i (aV f x) fun v=>aQ E ops clk (k+1) os K ⟨put f d v,rows,l6 k (bJ (aV f x)) b6,aR⟩:=AJ
theorem I5{t:TypeId}{x y:Operand}:go (aQ E ops clk k (⟨d, .indexAddr t x y,ty,pos,af,none⟩::os) K ⟨f,rows,b6,aR⟩)=cL (E.ty t) (eN .any ops k aR rows) (aV f x) (aV f y) fun v=>aQ E ops clk (k+1) os K ⟨put f d v,rows,l6 k (bJ (aV f x)) b6,aR⟩:=AK
theorem ab6{t:TypeId}{x:Operand}{lo hi mx:Option Operand}:go (aQ E ops clk k (⟨d, .slice t x lo hi mx,ty,pos,af,none⟩::os) K ⟨f,rows,b6,aR⟩)=fW (E.ty t) (eN .any ops k aR rows) (aV f x) (lo.map (aV f)) (hi.map (aV f)) (mx.map (aV f)) fun v=>aQ E ops clk (k+1) os K ⟨put f d v,rows,l6 k (bJ (aV f x)) b6,aR⟩:=MG
theorem ab7{t:TypeId}{parts:Array (Nat × Operand)}:go (aQ E ops clk k (⟨d, .build t parts,ty,pos,af,none⟩::os) K ⟨f,rows,b6,aR⟩)=lV (E.ty t) (parts.toList.map fun x=>(x.1,aV f x.2)) fun v=>aQ E ops clk (k+1) os K ⟨put f d v,rows,b6,aR⟩:=by
 show aQ E ops clk k (⟨d, .build t parts,ty,pos,af,none⟩::os) K ⟨f,rows,b6,aR⟩=_
 rw [RN,zG]
theorem MM{x:Operand}:go (aQ E ops clk k (⟨d, .nilCheck x,ty,pos,af,none⟩::os) K ⟨f,rows,b6,aR⟩)=tZ (eN .any ops k aR rows) (aV f x) fun v=>aQ E ops clk (k+1) os K ⟨put f d v,rows,l6 k (bJ (aV f x)) b6,aR⟩:=by show aQ E ops clk k _ K _=_;rw [E5,F8]
theorem alI{t:TypeId}{x:Operand}:go (aQ E ops clk k (⟨d, .call { callee:=.builtin .len,args:=⟨[x]⟩,argTypes:=⟨[t]⟩ },ty,pos,af,none⟩::os) K ⟨f,rows,b6,aR⟩)=mK (E.ty t) (eN .any ops k aR rows) (aV f x) fun v=>aQ E ops clk (k+1) os K ⟨put f d v,rows,l6 k (bJ (aV f x)) b6,aR⟩:=YK
theorem alJ{ts:Array TypeId}{x y:Operand}:go (aQ E ops clk k (⟨d, .call { callee:=.builtin .max,args:=⟨[x,y]⟩,argTypes:=ts },ty,pos,af,none⟩::os) K ⟨f,rows,b6,aR⟩)=aZ (fun v=>QG (aV f x) (aV f y) v) fun v=>aQ E ops clk (k+1) os K ⟨put f d v,rows,b6,aR⟩:=abP
theorem alK{ts:Array TypeId}{x y:Operand}:go (aQ E ops clk k (⟨d, .call { callee:=.builtin .min,args:=⟨[x,y]⟩,argTypes:=ts },ty,pos,af,none⟩::os) K ⟨f,rows,b6,aR⟩)=aZ (fun v=>QH (aV f x) (aV f y) v) fun v=>aQ E ops clk (k+1) os K ⟨put f d v,rows,b6,aR⟩:=abQ
theorem E9{t:TypeId}{len:Nat}{parts:Array (Nat × Operand)}:go (aQ E ops clk k (⟨d, .buildSlice t len parts,ty,pos,af,none⟩::os) K ⟨f,rows,b6,aR⟩)=vU (E.ty t) (eN .any ops k aR rows) len (parts.toList.map fun x=>(x.1,aV f x.2)) fun v=>aQ E ops clk (k+1) os K ⟨put f d v,rows,b6,aR⟩:=by
 show aQ E ops clk k (⟨d, .buildSlice t len parts,ty,pos,af,none⟩::os) K ⟨f,rows,b6,aR⟩=_
 rw [AF,GC]
theorem ab8{t:TypeId}{p x:Operand}:go (aQ E ops clk k (⟨none, .store t p x,ty,pos,af,none⟩::os) K ⟨f,rows,b6,aR⟩)=kF E t (eN .any ops k aR rows) (aV f p) (aV f x) fun id r=>aK (B4 .any ops k id b6) (aQ E ops clk (k+1) os K ⟨f,eE rows id (some r),l6 k (bJ (aV f p)++((cE (aV f x)).getD []).flatMap bJ) b6,pR k id aR⟩):=MH
theorem ab9{t:TypeId}:go (aQ E ops clk k (⟨d, .alloc t,ty,pos,af,none⟩::os) K ⟨f,rows,b6,aR⟩)=aK ((E.ty t).known=true∧B4 .any ops k (d.getD 0) b6) (aQ E ops (clk+1) (k+1) os K ⟨put f d (.ptr (d.getD 0) clk 0 0),eE rows (d.getD 0) (some ⟨clk,t,(E.ty t).size,[(E.ty t).zero]⟩),b6,pR k (d.getD 0) aR⟩):=RQ
theorem alL{t:TypeId}{x:Operand}:go (aQ E ops clk k (⟨d, .box t x,ty,pos,af,none⟩::os) K ⟨f,rows,b6,aR⟩)=aK ((E.ty t).known=true) (fS (cE (aV f x)) fun l=>aK (iF (fun _=>none) l∧l.length=(E.ty t).size∧B4 .any ops k (d.getD 0) b6) (aQ E ops (clk+1) (k+1) os K ⟨put f d (.ptr (d.getD 0) clk 0 0),eE rows (d.getD 0) (some ⟨clk,t,(E.ty t).size,[l]⟩),b6,pR k (d.getD 0) aR⟩)):=by
 show aQ E ops clk k (⟨d, .box t x,ty,pos,af,none⟩::os) K ⟨f,rows,b6,aR⟩=_
 rw [abS]
 simp only [aK,fS,iF]
theorem I6{t:TypeId}{l c:Operand}:go (aQ E ops clk k (⟨d, .makeSlice t l c,ty,pos,af,none⟩::os) K ⟨f,rows,b6,aR⟩)=rP (E.ty t) (aV f l) (aV f c) fun e n z x=>aK (B4 .any ops k (d.getD 0) b6) (aQ E ops (clk+1) (k+1) os K ⟨put f d (.own (d.getD 0) clk 0 x.toNat),eE rows (d.getD 0) (some ⟨clk,e,n,List.replicate x.toNat z⟩),b6,pR k (d.getD 0) aR⟩):=CI
def uB(t:TI)(rows:Rows)(x y:PV)(clk d:Nat)(K:PV→Nat→Row→Prop):Prop:=
 match t with
 | .slice e n b _=>kY rows y fun l=>aK (bM n l) (match x with
  | .nil=>aK (l.length≤room∧l.length*b≤room) (K (.own d clk 0 l.length) d ⟨clk,e,n,l⟩)
  | .own id ver off len=>bW (rows id) ver fun r=>aK (off=0∧len=r.els.length∧r.e=e∧r.size=n) (aK (len+l.length≤room∧(len+l.length)*b≤room) (K (.own id clk 0 (len+l.length)) id ⟨clk,e,n,r.els++l⟩))
  | _=>False)
 | _=>False
@[congr] theorem ajg{t t':TI}{rows rows':Rows}{x x' y y':PV}{clk d:Nat}{K:PV→Nat→Row→Prop}(h1:t=t')(h2:rows=rows')(h3:x=x')(h4:y=y') :
  uB t rows x y clk d K=uB t' rows' x' y' clk d K:=by rw [h1,h2,h3,h4]
@[simp] theorem ao9{e:TypeId}{n b:Nat}{z:List PV}{rows:Rows}{y:PV}{clk d:Nat}{K:PV→Nat→Row→Prop}:uB (.slice e n b z) rows .nil y clk d K=kY rows y fun l=>aK (bM n l) (aK (l.length≤room∧l.length*b≤room) (K (.own d clk 0 l.length) d ⟨clk,e,n,l⟩)):=rfl
@[simp] theorem apa{e:TypeId}{n b:Nat}{z:List PV}{rows:Rows}{y:PV}{clk d id ver off len:Nat}{K:PV→Nat→Row→Prop}:uB (.slice e n b z) rows (.own id ver off len) y clk d K=kY rows y fun l=>aK (bM n l) (bW (rows id) ver fun r=>aK (off=0∧len=r.els.length∧r.e=e∧r.size=n) (aK (len+l.length≤room∧(len+l.length)*b≤room) (K (.own id clk 0 (len+l.length)) id ⟨clk,e,n,r.els++l⟩))):=rfl
@[simp] theorem ard(t:TI)(r:Rows)(x y:PV)(c d:Nat)(K:PV→Nat→Row→Prop):go (uB t r x y c d K)=uB t r x y c d K:=rfl
theorem aca{t:TI}{rows:Rows}{x y:PV}{clk d:Nat}{K:PV→Nat→Row→Prop}:(∃v id r,rN t rows x y clk d v (some (id,r))∧K v id r)=uB t rows x y clk d K:=by
 cases t with
 | slice e n b z =>
  simp only [uB,rN]
  rw [←U9]
  apply propext
  cases x with
  | nil =>
   simp only [aK,bM]
   constructor
   ·rintro⟨v,id,r,⟨l,h1,h2,h3,h4,rfl,h5⟩,h6⟩
    cases h5
    exact⟨l,h1,h2,⟨h3,h4⟩,h6⟩
   ·rintro⟨l,h1,h2,⟨h3,h4⟩,h6⟩
    exact⟨_,_,_,⟨l,h1,h2,h3,h4,rfl,rfl⟩,h6⟩
  | own id ver off len =>
   simp only [aK,bM,bW]
   constructor
   ·rintro⟨v,j5,r',⟨l,h1,h2,r,h3,h4,h5,h6,h7,h8,h9,h10,rfl,h11⟩,h12⟩
    cases h11
    exact⟨l,h1,h2,r,h3,h4,⟨h5,h6,h7,h8⟩,⟨h9,h10⟩,h12⟩
   ·rintro⟨l,h1,h2,r,h3,h4,⟨h5,h6,h7,h8⟩,⟨h9,h10⟩,h12⟩
    exact⟨_,_,_,⟨l,h1,h2,r,h3,h4,h5,h6,h7,h8,h9,h10,rfl,rfl⟩,h12⟩
  | _=>simp [aK]
 | _=>simp [uB,rN]
theorem YN{t t2:TypeId}{x y:Operand}:go (aQ E ops clk k (⟨d, .call { callee:=.builtin .append,args:=⟨[x,y]⟩,argTypes:=⟨[t,t2]⟩ },ty,pos,af,none⟩::os) K ⟨f,rows,b6,aR⟩) =
  aK (t2=t∨slT (E.ty t2)=true) (uB (E.ty t) (eN .any ops k aR rows) (aV f x) (aV f y) clk (d.getD 0) fun v id r=>aK (B4 .any ops k id b6) (aQ E ops (clk+1) (k+1) os K ⟨put f d v,eE rows id (some r),l6 k (bJ (aV f x)++bJ (aV f y)) b6,pR k id aR⟩)):=by
 show aQ E ops clk k (⟨d, .call { callee:=.builtin .append,args:=⟨[x,y]⟩,argTypes:=⟨[t,t2]⟩ },ty,pos,af,none⟩::os) K ⟨f,rows,b6,aR⟩=_
 rw [L6]
 congr 1
 exact aca
theorem acb{s:Tmp}{args:Array Operand}{ts:Array TypeId}:go (aQ E ops clk k (⟨d, .call { callee:=.value (.tmp s),args:=args,argTypes:=ts },ty,pos,af,none⟩::os) K ⟨f,rows,b6,aR⟩)=pS E (f s) (args.toList.map (aV f)) (eN .any ops k aR rows) fun v=>aQ E ops clk (k+1) os K ⟨put f d v,rows,b6,aR⟩:=F6 rfl
def s5(P:Program)(g:FuncId)(args:List PV)(c:Prop)(K:TypeId→Nat→List (List PV)→Prop):Prop:=∃e n els,(args.all gI=true∧iM P g args e n els∧c)∧K e n els
@[congr] theorem afr{P:Program}{g:FuncId}{args L4:List PV}{c c':Prop}{K:TypeId→Nat→List (List PV)→Prop}(h:args=L4)(hc:c=c'):s5 P g args c K=s5 P g L4 c' K:=by rw [h,hc]
@[simp] theorem alN{P:Program}{g:FuncId}{args:List PV}{c:Prop}{K:TypeId→Nat→List (List PV)→Prop}:go (s5 P g args c K)=s5 P g args c K:=rfl
theorem GG{P:Program}{g:FuncId}{args:List PV}{c:Prop}{K:TypeId→Nat→List (List PV)→Prop}{e:TypeId}{n:Nat}{els:List (List PV)}(h:iM P g args e n els)(hp:args.all gI=true)(hc:c)(hK:go (K e n els)):s5 P g args c K:=⟨e,n,els,⟨hp,h,hc⟩,hK⟩
theorem acd{g:FuncId}{args:Array Operand}{ts:Array TypeId}:go (aQ E ops clk k (⟨d, .call { callee:=.value (.func g),args:=args,argTypes:=ts },ty,pos,af,none⟩::os) K ⟨f,rows,b6,aR⟩) =
  if E.writes g=true then s5 E.P g (args.toList.map (aV f)) (B4 .any ops k (d.getD 0) b6) (fun e n els=>aQ E ops (clk+1) (k+1) os K ⟨put f d (.own (d.getD 0) clk 0 els.length),eE rows (d.getD 0) (some ⟨clk,e,n,els⟩),b6,pR k (d.getD 0) aR⟩)
  else pS E (.fn g []) (args.toList.map (aV f)) (eN .any ops k aR rows) fun v=>aQ E ops clk (k+1) os K ⟨put f d v,rows,b6,aR⟩:=by
 split
 ·rename_i hw;exact RS hw
 ·rename_i hw;exact F6 (by simpa [dQ]using hw)
theorem MN{g:FuncId}{cI:Array Operand}:go (aQ E ops clk k (⟨d, .makeFunc (.func g) ⟨[]⟩ cI,ty,pos,af,none⟩::os) K ⟨f,rows,b6,aR⟩)=aK ((cI.toList.map fun x=>aV f x).all gI=true) (aQ E ops clk (k+1) os K ⟨put f d (.fn g (cI.toList.map fun x=>aV f x)),rows,b6,aR⟩):=E6
theorem ace{op:Op}{j:Nat}{want:Bool}:go (aQ E ops clk k (⟨d,op,ty,pos,af,some (j,want)⟩::os) K ⟨f,rows,b6,aR⟩)=pT (E7 ops j) f want (aQ E ops clk k (⟨d,op,ty,pos,af,none⟩::os) K ⟨f,rows,b6,aR⟩) (aQ E ops clk (k+1) os K ⟨put f d (.eB []),rows,b6,aR⟩):=by
 rw [IW,←MB];rfl
theorem acf{σ:PS}:go (aO E ops [] K σ)=K σ:=rfl
theorem alO{st:ST}:go (aQ E ops clk k [] K st)=go (K ⟨st.f,st.rows,clk⟩):=rfl
@[simp] theorem VC{s:Nat}:aV f (.tmp s)=f s:=rfl
@[simp] theorem arh{g:FuncId}:aV f (.func g) = .fn g []:=rfl
@[simp] theorem YO{v:Value}:aV f (.const v)=oL v:=rfl
end
@[simp] theorem alP{k:IntKind}{n:Int}:oL (.int k n) = .int k n:=rfl
@[simp] theorem ajh{b:Bool}:oL (.bool b) = .bool b:=rfl
@[simp] theorem RZ{s:ByteArray}:oL (.string s) = .str s:=rfl
@[simp] theorem aji:oL (.pointer none) = .jF:=rfl
@[simp] theorem ajj:jG (.pointer none) = .jF:=rfl
@[simp] theorem alQ:oL (.slice none 0 0) = .nil:=rfl
@[simp] theorem alR{cs:List Value}:oL (.agg ⟨cs⟩) = .ag (cs.map jG):=rfl
@[simp] theorem alS{k:IntKind}{n:Int}:jG (.int k n) = .int k n:=rfl
@[simp] theorem ajk{b:Bool}:jG (.bool b) = .bool b:=rfl
@[simp] theorem alT{s:ByteArray}:jG (.string s) = .str s:=rfl
@[simp] theorem alU:jG (.slice none 0 0) = .nil:=rfl
@[simp] theorem ari(R K:PV→Prop):go (aZ R K)=aZ R K:=rfl
@[simp] theorem arj(p:PV)(w:Bool)(A B:Prop):go (stepG p w A B)=stepG p w A B:=rfl
@[simp] theorem ark(p:PV)(w:Bool)(A B:Prop):go (iS p w A B)=iS p w A B:=rfl
@[simp] theorem arl(A B:Prop):go (aK A B)=aK A B:=rfl
@[simp] theorem arn(P:Program)(g:FuncId)(l:List PV)(K:PV→Prop):go (vS P g l K)=vS P g l K:=rfl
@[simp] theorem alV(o:Option Row)(v:Nat)(K:Row→Prop):go (bW o v K)=bW o v K:=rfl
@[simp] theorem axh(l:List (List PV))(i:Nat)(K:List PV→Prop):go (F7 l i K)=F7 l i K:=rfl
@[simp] theorem axi(t:TI)(l:List PV)(j:Nat)(K:PV→Prop):go (zC t l j K)=zC t l j K:=rfl
@[simp] theorem apb(E:Env)(t:TypeId)(r:Rows)(p:PV)(K:PV→Prop):go (lF E t r p K)=lF E t r p K:=rfl
@[simp] theorem alW(t:TI)(i:Nat)(x:PV)(K:PV→Prop):go (kE t i x K)=kE t i x K:=rfl
@[simp] theorem au8(p:Nat × Nat × Bool)(l:List PV)(K:PV→Prop):go (IQ p l K)=IQ p l K:=rfl
@[simp] theorem aro(r:Rows)(x:PV)(K:PV→Prop):go (tZ r x K)=tZ r x K:=rfl
@[simp] theorem acg(t:TI)(r:Rows)(i:Nat)(x:PV)(K:PV→Prop):go (dW t r i x K)=dW t r i x K:=rfl
@[simp] theorem ach(t:TI)(r:Rows)(x y:PV)(K:PV→Prop):go (cL t r x y K)=cL t r x y K:=rfl
@[simp] theorem axj(d:Nat)(o:Option PV)(K:Nat→Prop):go (zE d o K)=zE d o K:=rfl
@[simp] theorem alX(t:TI)(r:Rows)(x:PV)(a b c:Option PV)(K:PV→Prop):go (fW t r x a b c K)=fW t r x a b c K:=rfl
@[simp] theorem arp(t:TI)(r:Rows)(x:PV)(K:PV→Prop):go (mK t r x K)=mK t r x K:=rfl
@[simp] theorem alY(E:Env)(t:TypeId)(r:Rows)(p x:PV)(K:Nat→Row→Prop):go (kF E t r p x K)=kF E t r p x K:=rfl
@[simp] theorem arq(r:Rows)(y:PV)(K:List (List PV)→Prop):go (kY r y K)=kY r y K:=rfl
@[simp] theorem ars(t:TI)(r:Rows)(x y:PV)(c d:Nat)(K:PV→Rows→Nat→Prop):go (rR t r x y c d K)=rR t r x y c d K:=rfl
@[simp] theorem art(t:TI)(x y:PV)(K:TypeId→Nat→List PV→Int→Prop):go (rP t x y K)=rP t x y K:=rfl
@[simp] theorem apc(E:Env)(p:PV)(l:List PV)(r:Rows)(clk:Nat)(K:PV→Rows→Nat→Prop):go (rQ E p l r clk K)=rQ E p l r clk K:=rfl
@[simp] theorem aru(P:Program)(g:FuncId)(l:List PV)(r:Rows)(clk:Nat)(K:PV→Rows→Nat→Prop):go (yZ P g l r clk K)=yZ P g l r clk K:=rfl
@[simp] theorem apd(E:Env)(p:PV)(l:List PV)(r:Rows)(K:PV→Prop):go (pS E p l r K)=pS E p l r K:=rfl
@[simp] theorem arv{fs:List (Nat × Nat × Bool)}{ps:List (Nat × PV)}{z:List PV}{K:List PV→Prop}:go (nB fs ps z K)=nB fs ps z K:=rfl
@[simp] theorem alZ{t:TI}{ps:List (Nat × PV)}{K:PV→Prop}:go (lV t ps K)=lV t ps K:=rfl
@[simp] theorem ape{n k:Nat}{ps:List (Nat × PV)}{K:List (List PV)→Prop}:go (jI n k ps K)=jI n k ps K:=rfl
@[simp] theorem arw{t:TI}{rows:Rows}{len:Nat}{ps:List (Nat × PV)}{K:PV→Prop}:go (vU t rows len ps K)=vU t rows len ps K:=rfl
@[simp] theorem arx{i:Nat}{x:PV}{K:PV→Prop}:go (vV i x K)=vV i x K:=rfl
@[simp] theorem au9{α:Type}(o:Option α)(K:α→Prop):go (fS o K)=fS o K:=rfl
@[simp] theorem aAo{α:Type}(p:α→Prop):go (∃x,p x) = ∃x,go (p x):=rfl
@[simp] theorem ary:go False=False:=rfl
@[simp] theorem aAp{p:Prop}:go (go p)=go p:=rfl
@[simp] theorem ajl{t:PV}{K:PV→Prop}:aZ (fun v=>v=t) K=go (K t):=kC
@[simp] theorem axk{t:PV}{K:PV→Prop}:aZ (fun v=>t=v) K=go (K t):=X5
@[simp] theorem ago{B:Prop}:aK True B=go B:=RA
@[simp] theorem aAq{A B:Prop}:stepG (.bool true) true A B=go A:=abB
@[simp] theorem aAr{A B:Prop}:stepG (.bool true) false A B=go B:=abC
@[simp] theorem aAs{A B:Prop}:stepG (.bool false) true A B=go B:=abD
@[simp] theorem aAt{A B:Prop}:stepG (.bool false) false A B=go A:=abE
@[simp] theorem aAu{w:Bool}{A B:Prop}:stepG (.eB []) w A B=go B:=abF
@[simp] theorem aAv{A B:Prop}:iS (.bool true) true A B=go A:=aby
@[simp] theorem aAw{A B:Prop}:iS (.bool true) false A B=go B:=abz
@[simp] theorem aAx{A B:Prop}:iS (.bool false) true A B=go B:=abA
@[simp] theorem aAy{A B:Prop}:iS (.bool false) false A B=go A:=abG
theorem gA{c B:Prop}(h:c):aK c B=go B:=by simp [aK,go,h]
attribute [simp] jT abx CB abH alk RB IL VB GF agh abW arb IY RX agi abX IZ I0 abY abZ MI MJ MM alD alE alF E8 ab0 ab3 alG I3 YL agj ML ab4 agk YM agl alH arc agm RY agn ab5 I4 I5 ab6 ab7 alI alJ alK E9 ab8 ab9 alL I6 YN acb acd MN ace acf alO
attribute [simp] slT H4 yun tR uH QG QH rP rQ pS tQ TI.known TI.size TI.zero TI.agg abp abq LX room
theorem FB{E:Env}{ops:List Oper}{K:PS→Prop}{f:Nat→PV}{rows:Rows}{clk:Nat}:gP E 0 ops K ⟨f,rows,clk⟩=aQ E ops clk 0 ops K ⟨f,rows,fun _ _=>False,fun _ _=>False⟩:=by simp [gP]
@[simp] theorem apf{b:Bool}:gI (.bool b)=true:=rfl
@[simp] theorem al0{b:Bool}:cR (.bool b)=true:=rfl
@[simp] theorem apg{b:Bool}:bJ (.bool b) = []:=rfl
@[simp] theorem aph{rows:Rows}{b:Bool}:i0 rows (.bool b)=True:=rfl
@[simp] theorem ajm{b:Bool}:cE (.bool b)=some [.bool b]:=rfl
@[simp] theorem ajn{b:Bool}:fH (.bool b)=some [.bool b]:=rfl
@[simp] theorem arz{k:IntKind}{n:Int}:gI (.int k n)=true:=rfl
@[simp] theorem api{k:IntKind}{n:Int}:cR (.int k n)=true:=rfl
@[simp] theorem arA{k:IntKind}{n:Int}:bJ (.int k n) = []:=rfl
@[simp] theorem arB{rows:Rows}{k:IntKind}{n:Int}:i0 rows (.int k n)=True:=rfl
@[simp] theorem al1{k:IntKind}{n:Int}:cE (.int k n)=some [.int k n]:=rfl
@[simp] theorem al2{k:IntKind}{n:Int}:fH (.int k n)=some [.int k n]:=rfl
@[simp] theorem arC{s:ByteArray}:gI (.str s)=true:=rfl
@[simp] theorem apj{s:ByteArray}:cR (.str s)=true:=rfl
@[simp] theorem arD{s:ByteArray}:bJ (.str s) = []:=rfl
@[simp] theorem arE{rows:Rows}{s:ByteArray}:i0 rows (.str s)=True:=rfl
@[simp] theorem al3{s:ByteArray}:cE (.str s)=some [.str s]:=rfl
@[simp] theorem al4{s:ByteArray}:fH (.str s)=some [.str s]:=rfl
@[simp] theorem apk  : gI .jF=true:=rfl
@[simp] theorem al5  : cR .jF=true:=rfl
@[simp] theorem apl  : bJ .jF = []:=rfl
@[simp] theorem apm  : eD .jF = []:=rfl
@[simp] theorem ava{rows:Rows}:fz rows .jF = .jF:=rfl
@[simp] theorem avb{rows:Rows}:pz rows .jF = .jF:=rfl
@[simp] theorem apn{rows:Rows}  : i0 rows .jF=True:=rfl
@[simp] theorem ajo  : cE .jF=some [.jF]:=rfl
@[simp] theorem ajp  : fH .jF=some [.jF]:=rfl
@[simp] theorem arF  : gI .nil=true:=rfl
@[simp] theorem apo  : cR .nil=true:=rfl
@[simp] theorem arG  : bJ .nil = []:=rfl
@[simp] theorem arH{rows:Rows}  : i0 rows .nil=True:=rfl
@[simp] theorem al6  : cE .nil=some [.nil]:=rfl
@[simp] theorem al7  : fH .nil=some [.nil]:=rfl
@[simp] theorem avc{l:List (List PV)}:gI (.sl l)=true:=rfl
@[simp] theorem arI{l:List (List PV)}:cR (.sl l)=true:=rfl
@[simp] theorem avd{l:List (List PV)}:bJ (.sl l) = []:=rfl
@[simp] theorem ave{rows:Rows}{l:List (List PV)}:i0 rows (.sl l)=True:=rfl
@[simp] theorem apq{l:List (List PV)}:cE (.sl l)=some [.sl l]:=rfl
@[simp] theorem apr{l:List (List PV)}:fH (.sl l)=some [.sl l]:=rfl
@[simp] theorem arJ{l:List (List PV)}:gI (.j8 l)=true:=rfl
@[simp] theorem aps{l:List (List PV)}:cR (.j8 l)=true:=rfl
@[simp] theorem arK{l:List (List PV)}:bJ (.j8 l) = []:=rfl
@[simp] theorem arL{rows:Rows}{l:List (List PV)}:i0 rows (.j8 l)=True:=rfl
@[simp] theorem al8{l:List (List PV)}:cE (.j8 l)=some [.j8 l]:=rfl
@[simp] theorem al9{l:List (List PV)}:fH (.j8 l)=some [.j8 l]:=rfl
@[simp] theorem agp{l:List PV}:gI (.rd l)=true:=rfl
@[simp] theorem aci{l:List PV}:cR (.rd l)=true:=rfl
@[simp] theorem agq{l:List PV}:bJ (.rd l) = []:=rfl
@[simp] theorem avf{rows:Rows}{l:List PV}:i0 rows (.rd l)=True:=rfl
@[simp] theorem apt{l:List PV}:cE (.rd l)=some [.rd l]:=rfl
@[simp] theorem apu{l:List PV}:fH (.rd l)=some [.rd l]:=rfl
@[simp] theorem avg{f:FuncId}{l:List PV}:gI (.fn f l)=true:=rfl
@[simp] theorem arM{f:FuncId}{l:List PV}:cR (.fn f l)=true:=rfl
@[simp] theorem avh{f:FuncId}{l:List PV}:bJ (.fn f l) = []:=rfl
@[simp] theorem avi{rows:Rows}{f:FuncId}{l:List PV}:i0 rows (.fn f l)=True:=rfl
@[simp] theorem apv{f:FuncId}{l:List PV}:cE (.fn f l)=some [.fn f l]:=rfl
@[simp] theorem apw{f:FuncId}{l:List PV}:fH (.fn f l)=some [.fn f l]:=rfl
@[simp] theorem avj{l:List PV}:gI (.ag l)=l.all cR:=rfl
@[simp] theorem arN{l:List PV}:gI (.eB l)=true:=rfl
@[simp] theorem apx{l:List PV}:cE (.ag l)=some l:=rfl
@[simp] theorem apy{l:List PV}:fH (.ag l)=some l:=rfl
@[simp] theorem arO{id v o l:Nat}:bJ (.own id v o l) = [id]:=rfl
@[simp] theorem arP{id v o l:Nat}:bJ (.ptr id v o l) = [id]:=rfl
@[simp] theorem ama{id v o l:Nat}:cE (.own id v o l)=some [.own id v o l]:=rfl
@[simp] theorem amb{id v o l:Nat}:cE (.ptr id v o l)=some [.ptr id v o l]:=rfl
def rowAt(o:Option Row)(ver:Nat):Prop:=∃r,o=some r∧r.ver=ver
@[simp] theorem amc{r:Row}{ver:Nat}:rowAt (some r) ver=(r.ver=ver):=by simp [rowAt]
@[simp] theorem arQ{rows:Rows}{id v o l:Nat}:i0 rows (.own id v o l)=rowAt (rows id) v:=rfl
@[simp] theorem arR{rows:Rows}{id v o l:Nat}:i0 rows (.ptr id v o l)=rowAt (rows id) v:=rfl
@[simp] theorem apz{e l:List PV}{j:Nat}:iT [e] 0 j l = [e.take j++l++e.drop (j+l.length)]:=by simp [iT]
@[simp] theorem apA{e:List PV}{n:Nat}:uA [e] 0 n=(n≤e.length):=by simp [uA]
@[simp] theorem apB{E:Env}{σ:PS}{t:Tmp}{rs:List ResultVar}{K:List PV→Prop}:qQ E σ (.tmp t::rs) K=qQ E σ rs fun vs=>K (σ.f t::vs):=rfl
@[simp] theorem apC{E:Env}{σ:PS}{K:List PV→Prop}:qQ E σ [] K=K []:=rfl
@[simp] theorem amd{E:Env}{σ:PS}{a:Tmp}{t:TypeId}{rs:List ResultVar}{K:List PV→Prop}:qQ E σ (.cell a t::rs) K=lF E t σ.rows (σ.f a) fun v=>qQ E σ rs fun vs=>K (v::vs):=by
 show(∃v,tP E t σ.rows (σ.f a) v∧qQ E σ rs fun vs=>K (v::vs))=_
 rw [←uO];rfl
@[simp] theorem agr{E:Env}{ops:List Oper}{K:PS→Prop}{f:Nat→PV}{rows:Rows}{clk:Nat}:go (gP E 0 ops K ⟨f,rows,clk⟩)=go (aQ E ops clk 0 ops K ⟨f,rows,fun _ _=>False,fun _ _=>False⟩):=FB
theorem wrap_i64{n:Int}(h1 : -9223372036854775808≤n)(h2:n<9223372036854775808):IntKind.i64.wrap n=n:=by
 have e:IntKind.i64.wrap n=if n%18446744073709551616≥9223372036854775808 then n%18446744073709551616-18446744073709551616 else n%18446744073709551616:=by
  simp [IntKind.wrap,IntKind.bits,IntKind.signed]
 rw [e]
 split<;>omega
theorem wrap_u64{n:Int}(h1:0≤n)(h2:n<18446744073709551616):IntKind.u64.wrap n=n:=by
 simp only [IntKind.wrap,IntKind.bits,IntKind.signed,Bool.false_and,Bool.false_eq_true,if_false]
 omega
theorem wrap_u32{n:Int}(h1:0≤n)(h2:n<4294967296):IntKind.u32.wrap n=n:=by
 simp only [IntKind.wrap,IntKind.bits,IntKind.signed,Bool.false_and,Bool.false_eq_true,if_false]
 omega
theorem wA:(∀n:Int, -9223372036854775808≤n→n<9223372036854775808→IntKind.i64.wrap n=n)∧(∀n:Int,0≤n→n<18446744073709551616→IntKind.u64.wrap n=n)∧(∀n:Int,0≤n→n<4294967296→IntKind.u32.wrap n=n) ∧
  (∀a b:Int,0≤a→a.tdiv b=a/b)∧(∀a b:Int,0≤a→a.tmod b=a%b):=⟨fun _=>wrap_i64,fun _=>wrap_u64,fun _=>wrap_u32,fun _ _ h=>Int.tdiv_eq_ediv_of_nonneg h,fun _ _ h=>Int.tmod_eq_emod_of_nonneg h⟩
theorem gw:(∀ {c B:Prop},c→aK c B=go B)∧(∀n:Int, -9223372036854775808≤n→n<9223372036854775808→IntKind.i64.wrap n=n)∧(∀n:Int,0≤n→n<18446744073709551616→IntKind.u64.wrap n=n)∧(∀n:Int,0≤n→n<4294967296→IntKind.u32.wrap n=n) ∧
  (∀a b:Int,0≤a→a.tdiv b=a/b)∧(∀a b:Int,0≤a→a.tmod b=a%b):=⟨gA,wA⟩
theorem wrap_u8{n:Int}(h1:0≤n)(h2:n<256):IntKind.u8.wrap n=n:=by
 simp only [IntKind.wrap,IntKind.bits,IntKind.signed,Bool.false_and,Bool.false_eq_true,if_false]
 omega
theorem jU{n:Int}:IntKind.u64.wrap n=n%18446744073709551616:=by
 simp only [IntKind.wrap,IntKind.bits,IntKind.signed,Bool.false_and,Bool.false_eq_true,if_false]
 rfl
theorem wrap_u32'{n:Int}:IntKind.u32.wrap n=n%4294967296:=by
 simp only [IntKind.wrap,IntKind.bits,IntKind.signed,Bool.false_and,Bool.false_eq_true,if_false]
 rfl
section
variable {E:Env} {n:Nat} {tl:Nat→Nat} {Q:PX→PS→Prop} {σ:PS}
theorem W.cC{id:Nat}{ops:List Oper}(h:∀K:PS→Prop,(∀σ,Q .normal σ→K σ)→go (aO E ops ops K σ)):W E n tl (.region id ops.toArray false) Q σ:=W.LY h
theorem W.P5{id:Nat}{ops:List Oper}(h:∀K:PS→Prop,(∀σ,Q .normal σ→K σ)→go (gP E (tl id) ops K σ)):W E n tl (.region id ops.toArray true) Q σ:=W.abu h
theorem W.dY{id:Nat}{ops:List Oper}{y:Code}(h:∀K:PS→Prop,(∀σ,W E n tl y Q σ→K σ)→go (aO E ops ops K σ)):W E n tl (.seq (.region id ops.toArray false) y) Q σ:=W.Q9 h
theorem W.acj{id:Nat}{ops:List Oper}{y:Code}(h:∀K:PS→Prop,(∀σ,W E n tl y Q σ→K σ)→go (gP E (tl id) ops K σ)):W E n tl (.seq (.region id ops.toArray true) y) Q σ:=W.abv h
end
section
variable {E:Env} {n:Nat} {tl:Nat→Nat} {Q:PX→PS→Prop} {σ:PS}
theorem W.bG{c:Code}(I:Nat→PS→Prop)(k:Nat)(h0:∃σ0,Gh n σ σ0∧I k σ0)(h1:∀k σ,I k σ→W E n tl c (EY (fun σ'=>∃m σ'',Gh n σ' σ''∧m<k∧I m σ'') Q) σ):W E n tl (.loop c) Q σ:=by
 obtain⟨σ0,hg,h0⟩:=h0
 refine W.ghost hg ?_
 refine W.loop (fun k σ=>∃σ',Gh n σ σ'∧I k σ') k ⟨σ0,fun _ _ _ _ _ h=>h,h0⟩ ?_
 rintro k σ ⟨σ',hg,hI⟩
 refine W.ghost hg (W.mono (h1 k σ' hI) fun x τ hx=>?_)
 cases x with
 | normal=>obtain⟨m,σ'',h2,h3,h4⟩:=hx;exact⟨m,h3,σ'',h2,h4⟩
 | exit id=>exact hx
 | ret=>exact hx
theorem Gh.refl:Gh n σ σ:=fun _ _ _ _ _ h=>h
theorem W.ack{c:Operand}{t e:Code}(b:Prop)[Decidable b](hc:aV σ.f c = .bool (decide b))(h1:b→W E n tl t Q σ)(h2:¬b→W E n tl e Q σ):W E n tl (.cond c t e) Q σ:=W.cond ⟨_,hc,fun h=>h1 (of_decide_eq_true h),fun h=>h2 (of_decide_eq_false h)⟩
theorem W.ghf{f:Nat→PV}{rows:Rows}{clk:Nat}{c:Code}(l:List (Nat × PV))(hl:∀p∈l,f p.1=p.2)(h:W E n tl c Q ⟨fa l,rows,clk⟩):W E n tl c Q ⟨f,rows,clk⟩:=by
 have:=aC (f:=f) (rows:=rows) (clk:=clk) n (l.map (·.1))
 have e:((l.map (·.1)).map fun i=>(i,f i))=l:=by
  rw [List.map_map]
  conv=>rhs;rw [←List.map_id l]
  exact List.map_congr_left fun p hp=>by simp [hl p hp]
 rw [e]at this
 exact W.ghost this h
theorem Gh.fr{f:Nat→PV}{rows:Rows}{clk:Nat}(l:List (Nat × PV))(hl:∀p∈l,f p.1=p.2):Gh n ⟨f,rows,clk⟩ ⟨fa l,rows,clk⟩:=by
 have:=aC (f:=f) (rows:=rows) (clk:=clk) n (l.map (·.1))
 have e:((l.map (·.1)).map fun i=>(i,f i))=l:=by
  rw [List.map_map]
  conv=>rhs;rw [←List.map_id l]
  exact List.map_congr_left fun p hp=>by simp [hl p hp]
 rw [e]at this
 exact this
end
theorem cY{E:Env}{B9:FuncId}{fn:Func}{code:Code}(tl:Nat→Nat){args:List PV}{r:PV}(l:List (Nat × PV))(h1:E.P.funcs[B9]? = some fn)(h2:fn.body=some code) (h3:(fn.name == "runtime.NumGoroutine") = false)
  (gT:fA E fn.ntmps tl code=true) (gK:args.length≤fn.ntmps) (hl:∀p∈l,args.getD p.1 .undef=p.2) (h:W E fn.ntmps tl code (abq E fn.results.toList r) ⟨fa l,fun _=>none,0⟩):aD E.P B9 args r:=
 abw tl h1 h2 h3 gT gK (W.ghf l (by simpa using hl) h)
end Pm
namespace Pm
@[simp] theorem avk{a:Int}:Int.fdiv a 4294967296=a/4294967296:=Int.fdiv_eq_ediv_of_nonneg a (by decide)
@[simp] theorem avl{a:Int}:Int.fdiv a 9223372036854775808=a/9223372036854775808:=Int.fdiv_eq_ediv_of_nonneg a (by decide)
attribute [simp] Go.IntKind.bits
end Pm
namespace Pm
open Go Go.RowKit
section
variable {E:Env} {n:Nat} {tl:Nat→Nat} {Q:PX→PS→Prop} {σ:PS}
theorem W.gD{x y:Code}(J:PS→Prop)(h:W E n tl x (EY (fun σ=>∃σ',Gh n σ σ'∧J σ') Q) σ)(hy:∀σ,J σ→W E n tl y Q σ):W E n tl (.seq x y) Q σ:=
 W.seq (W.mono h fun x σ hx=>by
  cases x with
  | normal=>obtain⟨σ',hg,hJ⟩:=hx;exact W.ghost hg (hy σ' hJ)
  | exit id=>exact hx
  | ret=>exact hx)
def R3(J:PS→Prop)(Q:PX→PS→Prop):PX→PS→Prop
 | .normal,σ=>J σ
 | .exit id,σ=>Q (.exit id) σ
 | .ret,σ=>Q .ret σ
theorem W.dK{id:Nat}{x y:Code}(J:PS→Prop)(h:W E n tl x (EZ id (R3 (fun σ=>∃σ',Gh n σ σ'∧J σ') Q)) σ)(hy:∀σ,J σ→W E n tl y Q σ):W E n tl (.seq (.block id x) y) Q σ:=
 W.seq (W.block (W.mono h fun x σ hx=>by
  cases x with
  | normal=>obtain⟨σ',hg,hJ⟩:=hx;exact W.ghost hg (hy σ' hJ)
  | exit j =>
   simp only [EZ]at hx ⊢
   split
   ·rename_i hj;rw [if_pos hj]at hx;obtain⟨σ',hg,hJ⟩:=hx;exact W.ghost hg (hy σ' hJ)
   ·rename_i hj;rw [if_neg hj]at hx;exact hx
  | ret=>exact hx))
theorem W.fG{id:Nat}{ops:List Oper}{y:Code}(J:PS→Prop)(h:∀K:PS→Prop,(∀σ σ',Gh n σ σ'→J σ'→K σ)→go (aO E ops ops K σ))(hy:∀σ,J σ→W E n tl y Q σ):W E n tl (.seq (.region id ops.toArray false) y) Q σ:=
 W.dY fun K hK=>h K fun σ _ hg hJ=>hK σ (W.ghost hg (hy _ hJ))
theorem W.arS{id:Nat}{ops:List Oper}{y:Code}(J:PS→Prop)(h:∀K:PS→Prop,(∀σ σ',Gh n σ σ'→J σ'→K σ)→go (gP E (tl id) ops K σ))(hy:∀σ,J σ→W E n tl y Q σ):W E n tl (.seq (.region id ops.toArray true) y) Q σ:=
 W.acj fun K hK=>h K fun σ _ hg hJ=>hK σ (W.ghost hg (hy _ hJ))
@[simp] theorem ajq{J:PS→Prop}:R3 J Q .normal σ=J σ:=rfl
@[simp] theorem arT{J:PS→Prop}:R3 J Q .ret σ=Q .ret σ:=rfl
@[simp] theorem apD{J:PS→Prop}{id:Nat}:R3 J Q (.exit id) σ=Q (.exit id) σ:=rfl
@[simp] theorem ajr{J:PS→Prop}:EY J Q .normal σ=J σ:=rfl
@[simp] theorem arU{J:PS→Prop}:EY J Q .ret σ=Q .ret σ:=rfl
@[simp] theorem apE{J:PS→Prop}{id:Nat}:EY J Q (.exit id) σ=Q (.exit id) σ:=rfl
@[simp] theorem ajs{id:Nat}:EZ id Q .normal σ=Q .normal σ:=rfl
@[simp] theorem arV{id:Nat}:EZ id Q .ret σ=Q .ret σ:=rfl
@[simp] theorem apF{id j:Nat}:EZ id Q (.exit j) σ=if j=id then Q .normal σ else Q (.exit j) σ:=rfl
theorem pX:(∀(Q:PX→PS→Prop) (σ:PS) (id j:Nat),EZ id Q (.exit j) σ=if j=id then Q .normal σ else Q (.exit j) σ)∧(∀(Q:PX→PS→Prop) (σ:PS) (id:Nat),EZ id Q .normal σ=Q .normal σ)∧(∀(Q:PX→PS→Prop) (σ:PS) (id:Nat),EZ id Q .ret σ=Q .ret σ) ∧
  (∀(J:PS→Prop) (Q:PX→PS→Prop) (σ:PS) (id:Nat),EY J Q (.exit id) σ=Q (.exit id) σ)∧(∀(J:PS→Prop) (Q:PX→PS→Prop) (σ:PS),EY J Q .normal σ=J σ)∧(∀(J:PS→Prop) (Q:PX→PS→Prop) (σ:PS),EY J Q .ret σ=Q .ret σ) ∧
  (∀(J:PS→Prop) (Q:PX→PS→Prop) (σ:PS) (id:Nat),R3 J Q (.exit id) σ=Q (.exit id) σ)∧(∀(J:PS→Prop) (Q:PX→PS→Prop) (σ:PS),R3 J Q .normal σ=J σ)∧(∀(J:PS→Prop) (Q:PX→PS→Prop) (σ:PS),R3 J Q .ret σ=Q .ret σ):=
 ⟨fun _ _ _ _=>rfl,fun _ _ _=>rfl,fun _ _ _=>rfl,fun _ _ _ _=>rfl,fun _ _ _=>rfl,fun _ _ _=>rfl,fun _ _ _ _=>rfl,fun _ _ _=>rfl,fun _ _ _=>rfl⟩
end
end Pm
namespace Pm
open Go
theorem arW{P:Program}{g:FuncId}{gU:List PV}{rows:Rows}{clk:Nat}{K:PV→Rows→Nat→Prop}{R:PV→Rows→Nat→Prop}(h:XT P g gU rows clk R)(hK:∀r rows' lC,R r rows' lC→go (K r rows' lC)):yZ P g gU rows clk K:=⟨R,h,hK⟩
theorem aB{P:Program}{g:FuncId}{args:List PV}{K:PV→Prop}{v:PV}(h:aD P g args v)(hK:go (K v)):vS P g args K:=⟨v,h,hK⟩
theorem W.acm{E:Env}{n:Nat}{tl:Nat→Nat}{c:Code}{Q:PX→PS→Prop}{f:Nat→PV}{rows:Rows}{clk:Nat}(l:List Nat)(h:∀K:PS→Prop,(∀σ,W E n tl c Q σ→K σ)→K ⟨fa (l.map fun i=>(i,f i)),rows,clk⟩):W E n tl c Q ⟨f,rows,clk⟩:=W.live l (h _ fun _ h=>h)
theorem W.lv{E:Env}{n:Nat}{tl:Nat→Nat}{c:Code}{Q:PX→PS→Prop}{f:Nat→PV}{rows:Rows}{clk:Nat}{K0:PS→Prop}(l:List Nat)(hK:∀σ,W E n tl c Q σ→K0 σ)(h:∀K:PS→Prop,(∀σ,W E n tl c Q σ→K σ)→K ⟨fa (l.map fun i=>(i,f i)),rows,clk⟩):K0 ⟨f,rows,clk⟩:=hK _ (W.acm l h)
inductive Bx(P:PS→Prop):Type
  | mk
def aW{P:PS→Prop}(_:Bx P)(σ:PS):Prop:=P σ
theorem W.lw{E:Env}{n:Nat}{tl:Nat→Nat}{c:Code}{Q:PX→PS→Prop}{f:Nat→PV}{rows:Rows}{clk:Nat}{K0:PS→Prop}(l:List Nat)(hK:∀σ,W E n tl c Q σ→K0 σ)(h:aW (Bx.mk (P:=W E n tl c Q)) ⟨fa (l.map fun i=>(i,f i)),rows,clk⟩):K0 ⟨f,rows,clk⟩:=hK _ (W.acm l fun _ q=>q _ h)
theorem W.lx{E:Env}{n:Nat}{tl:Nat→Nat}{c:Code}{Q:PX→PS→Prop}{f:Nat→PV}{rows:Rows}{clk:Nat}(l:List Nat)(h:aW (Bx.mk (P:=W E n tl c Q)) ⟨fa (l.map fun i=>(i,f i)),rows,clk⟩):aW (Bx.mk (P:=W E n tl c Q)) ⟨f,rows,clk⟩:=W.acm l fun _ q=>q _ h
theorem W.sr{E:Env}{n:Nat}{tl:Nat→Nat}{Q:PX→PS→Prop}{σ:PS}{id:Nat}{ops:List Oper}{y:Code}(h:go (aO E ops ops (aW (Bx.mk (P:=W E n tl y Q))) σ)):W E n tl (.seq (.region id ops.toArray false) y) Q σ:=by
  refine W.seq ?_
  intro gT w0 S0 G a w Q' hR hQ
  simp only [fA,rO,Bool.and_eq_true]at gT
  refine wp_region_list (iE (fun σ' a' w' hk l5=>hQ .normal σ' a' w' hk l5) _ σ a w (fun o ho t ht=>?_) h hR)
  have:=Array.all_eq_true_iff_forall_mem.1 gT.1 o (by simpa using ho)
  simpa [ht]using this
theorem W.sd{E:Env}{n:Nat}{tl:Nat→Nat}{Q:PX→PS→Prop}{σ:PS}{id:Nat}{ops:List Oper}{y:Code}(h:go (gP E (tl id) ops (aW (Bx.mk (P:=W E n tl y Q))) σ)):W E n tl (.seq (.region id ops.toArray true) y) Q σ:=by
  refine W.seq ?_
  intro gT w0 S0 G a w Q' hR hQ
  exact tX (by simpa [fA]using gT) h hR fun σ' a' w' hk l5=>hQ .normal σ' a' w' hk l5
end Pm
namespace Pm
open Go Go.RowKit
def Wk(p q:PV):Prop:=q=p∨(p = .nil∧q = .sl [])
theorem Wk.rep{c:Cx}{p q:PV}{v:Value}(h:Wk p q)(hr:aU c p v):aU c q v:=by
 rcases h with rfl | ⟨rfl,rfl⟩
 ·exact hr
 ·simp only [aU,dG]at hr ⊢
  exact⟨none,0,by simpa using hr,by simp,by simp, .inl trivial⟩
theorem bK.flat{α β:Type}{R:α→β→Prop}:∀ {l:List (List α)} {m:List (List β)},bK (bK R) l m→bK R l.flatten m.flatten
 | [],[],_=>trivial
 | a::l,b::m,h=>by
  obtain⟨h1,h2⟩:=h
  have ih:=bK.flat h2
  clear h2
  induction a generalizing b with
  | nil=>cases b with
   | nil=>exact ih
   | cons=>exact h1.elim
  | cons x a iha=>cases b with
   | nil=>exact h1.elim
   | cons y b=>exact⟨h1.1,iha b h1.2⟩
theorem ame{n id ver e m clk:Nat}{f:Nat→PV}{rows:Rows}{els IB:List (List PV)}(hr:rows id=some ⟨ver,e,m,els⟩)(hw:bK (bK fun q p=>Wk p q) IB els):Gh n ⟨f,rows,clk⟩ ⟨f,eE rows id (some ⟨ver,e,m,IB⟩),clk⟩:=by
 rintro w0 S0 G a w ⟨⟨c,rfl,vW,gC,hI,hf,hG⟩,h7,h8⟩
 have k8:c.rows id=some ⟨ver,e,m,els⟩:=by rw [vW];exact hr
 obtain⟨⟨xs,g1,g2,g3⟩,g4,g5,g6⟩:=hI.row id _ k8
 have hlen:IB.length=els.length:=hw.length
 obtain⟨xK,hA⟩:=hI.eE (w':=c.w) (r':=⟨ver,e,m,IB⟩) (xs:=xs) k8 (World.grownBy.refl _ _) (by simp only [hlen];exact g1)
  (by
   have h1:=bK.flat hw
   have:∀ {l:List PV} {k:List PV} {vs:List Value},bK (fun q p=>Wk p q) l k→bK (aU c) k vs→bK (aU c) l vs:=by
    intro l
    induction l with
    | nil=>intro k vs h h';cases k with
     | nil=>exact h'
     | cons=>exact h.elim
    | cons x l ih=>intro k vs h h';cases k with
     | nil=>exact h.elim
     | cons y k=>cases vs with
      | nil=>exact h'.elim
      | cons v vs=>exact⟨h.1.rep h'.1,ih h.2 h'.2⟩
   exact this h1 g2) g3 (fun el mW=>by
   obtain⟨k,hk⟩:=List.getElem?_of_mem mW
   obtain⟨b,hb,h1⟩:=hw.get hk
   rw [h1.length]
   exact g4 b (List.mem_of_getElem? hb)) rfl rfl hlen
 refine⟨⟨{ c with rows:=eE c.rows id (some ⟨ver,e,m,IB⟩) },rfl,by simp [vW],gC,xK,fun s=>aM.uF hA _ _ (hf s),fun p hp=>aM.uF hA _ _ (hG p hp)⟩,h7,h8⟩
theorem amf{n s id e m clk:Nat}{f:Nat→PV}{rows:Rows}(hs:f s = .nil)(hm:0<m):Gh n ⟨f,rows,clk⟩ ⟨put f (some s) (.own id clk 0 0),eE rows id (some ⟨clk,e,m,[]⟩),clk+1⟩:=by
 rintro w0 S0 G a w ⟨⟨c,rfl,vW,gC,hI,hf,hG⟩,h7,h8⟩
 obtain⟨xK,hA⟩:=hI.set (w':=c.w) (ob:=none) (id:=id) (r':=⟨clk,e,m,[]⟩) (v':=.slice none 0 0) (xs:=[]) (World.grownBy.refl _ _) (by simp) ⟨by simp, .inl ⟨rfl,rfl⟩⟩ (by simp [bK]) (by simp) (by simp) hm (by simp [Value.ownBlock]) (fun hu=>Nat.lt_irrefl _ (gC _ hu))
 refine⟨⟨{ c with β:=eE c.β id (.slice none 0 0),rows:=eE c.rows id (some ⟨clk,e,m,[]⟩),used:=fun v=>v=clk∨c.used v },rfl,by simp [vW],fun v hv=>by
  show v<clk+1
  rcases hv with rfl | hv
  ·omega
  ·have:v<clk:=gC v hv
   omega,xK,fun t=>?_,fun p hp=>aM.uF hA _ _ (hG p hp)⟩,h7,h8⟩
 simp only [put]
 split
 ·rename_i ht
  subst ht
  have h1:=hf t
  simp only at h1
  rw [hs]at h1
  simp only [aM,aU,dG]at h1
  simp only [aM,aU]
  refine⟨.inl (by first | rfl | trivial),fun r hr hv=>?_⟩
  simp only [iC,Option.some.injEq]at hr
  subst hr
  exact⟨by simp, .inl ⟨trivial,none,0,0,by simp [eE],h1⟩⟩
 ·exact aM.uF hA _ _ (hf t)
theorem MO{α β:Type}{R:α→β→Prop}{x:α}{y:β}(h:R x y):∀k:Nat,bK R (List.replicate k x) (List.replicate k y)
 | 0=>trivial
 | k+1=>⟨h,MO h k⟩
section
variable {E:Env} {n:Nat} {tl:Nat→Nat} {Q:PX→PS→Prop} {c:Code} {f:Nat→PV} {rows:Rows} {clk:Nat}
theorem W.row{id ver e m:Nat}{els:List (List PV)}(IB:List (List PV))(hr:rows id=some ⟨ver,e,m,els⟩)(hw:bK (bK fun q p=>Wk p q) IB els)(h:W E n tl c Q ⟨f,eE rows id (some ⟨ver,e,m,IB⟩),clk⟩):W E n tl c Q ⟨f,rows,clk⟩:=W.ghost (ame hr hw) h
theorem W.nil(s id e m:Nat)(hs:f s = .nil)(hm:0<m)(h:∀K:PS→Prop,(∀σ,W E n tl c Q σ→K σ)→K ⟨put f (some s) (.own id clk 0 0),eE rows id (some ⟨clk,e,m,[]⟩),clk+1⟩):W E n tl c Q ⟨f,rows,clk⟩:=W.ghost (amf hs hm) (h _ fun _ h=>h)
end
def fzP(o:Option Row)(ver i j:Nat):PV:=
 match o with
 | some r=>if r.ver=ver then .rd ((r.els.getD i []).drop j)else .undef
 | none => .undef
@[simp] theorem axm{rows:Rows}{id ver i j:Nat}:fz rows (.ptr id ver i j)=fzP (rows id) ver i j:=rfl
@[simp] theorem axn{rows:Rows}{id ver i j:Nat}:pz rows (.ptr id ver i j)=fzP (rows id) ver i j:=rfl
@[simp] theorem avm{ver e n:Nat}{el:List PV}:fzP (some ⟨ver,e,n,[el]⟩) ver 0 0 = .rd el:=by simp [fzP]
@[simp] theorem arX{id ver i j:Nat}:eD (.ptr id ver i j) = [id]:=rfl
@[simp] theorem ajt{ver e n:Nat}{el:List PV}:dJ (some ⟨ver,e,n,[el]⟩) = ∀p∈el,cR p=true:=by simp [dJ]
end Pm
namespace Pm
open Go
theorem eQ{E:Env}{m:Nat}{ops:List Oper}{K:PS→Prop}{f:Nat→PV}{rows:Rows}{clk:Nat}:go (gP E (m+1) ops K ⟨f,rows,clk⟩)=go (aQ E ops clk 0 (ops.take (ops.length-(m+1))) (aO E ops (ops.drop (ops.length-(m+1))) K) ⟨f,rows,fun _ _=>False,fun _ _=>False⟩):=by
 simp [gP]
end Pm
namespace Pm
open Go Go.RowKit
def LB(rows:Rows)(id:Nat):PV→PV
 | .own i ver off len=>if i=id then fz rows (.own i ver off len)else .own i ver off len
 | .ptr i ver a j=>if i=id then fz rows (.ptr i ver a j)else .ptr i ver a j
 | p=>p
def I7(rows:Rows)(id:Nat):PV→PV
 | .ag l => .ag (l.map (LB rows id))
 | p=>LB rows id p
theorem I8{w0:World}{S0:eC}{c:Cx}(hI:Inv w0 S0 c){id:Nat}(hp:∀r,c.rows id=some r → ∀e∈r.els,∀p∈e,cR p=true){p:PV}{v:Value}(h:aU c p v):aU (EI c [id]) (LB c.rows id p) v:=by
 have xJ:∀i ∈ [id],∀r,c.rows i=some r → ∀e∈r.els,∀p∈e,cR p=true:=by intro i hi;simp at hi;subst hi;exact hp
 have key:∀q:PV,aU c q v→(∀i∈bJ q,i ∈ [id])→(fz c.rows q = .undef∨cR (fz c.rows q)=true)→aU (EI c [id]) (fz c.rows q) v:=by
  intro q hq hi ho
  rcases ho with ho | ho
  ·rw [ho];simp [aU]
  ·exact aU.j9 (H9 hI xJ hq hi ho)
 cases p with
 | own i ver off len =>
  simp only [LB]
  split
  ·rename_i hi
   subst hi
   refine key _ h (by simp [bJ]) ?_
   simp only [fz]
   cases c.rows i with
   | none=>exact .inl rfl
   | some r =>
    simp only
    split
    ·exact .inr rfl
    ·exact .inl rfl
  ·exact aU.uF (mN c [id]) _ _ h
 | ptr i ver a j =>
  simp only [LB]
  split
  ·rename_i hi
   subst hi
   refine key _ h (by simp [bJ]) ?_
   simp only [fz]
   cases c.rows i with
   | none=>exact .inl rfl
   | some r =>
    simp only
    split
    ·exact .inr rfl
    ·exact .inl rfl
  ·exact aU.uF (mN c [id]) _ _ h
 | _=>exact aU.uF (mN c [id]) _ _ h
theorem VD{w0:World}{S0:eC}{c:Cx}(hI:Inv w0 S0 c){id:Nat}(hp:∀r,c.rows id=some r → ∀e∈r.els,∀p∈e,cR p=true){p:PV}{v:Value}(h:aM c p v):aM (EI c [id]) (I7 c.rows id p) v:=by
 cases p with
 | ag l =>
  obtain⟨vs,h1,h2⟩:=h
  refine⟨vs,h1,bK.dU (by simp [h2.length]) fun k a b ha hb=>?_⟩
  simp at ha
  obtain⟨q,hq,rfl⟩:=ha
  obtain⟨b',EO,hr⟩:=h2.get hq
  rw [hb]at EO;cases EO
  exact I8 hI hp hr
 | _ =>
  simp only [aM]at h
  have:=I8 hI hp h
  simp only [I7]
  exact(by
   first
    | (simp only [LB,aM]at this ⊢;exact this)
    | (simp only [LB]at this ⊢
       split
       · rename_i hi;rw [if_pos hi]at this;simp only [fz]at this ⊢;revert this;split<;>(try split)<;>exact fun h=>h
       · rename_i hi;rw [if_neg hi]at this;exact this))
theorem GH{rows:Rows}{id:Nat}:I7 rows id .undef = .undef:=rfl
theorem acn{l:List (Nat × PV)}{g:PV→PV}(hg:g .undef = .undef):(fun s=>g (fa l s))=fa (l.map fun p=>(p.1,g p.2)):=by
 funext s
 induction l with
 | nil=>exact hg
 | cons p l ih =>
  obtain⟨i,v⟩:=p
  simp only [fa,List.map_cons]
  split
  ·rfl
  ·exact ih
theorem YP{n clk:Nat}{l:List (Nat × PV)}{rows:Rows}(id:Nat)(hp:dJ (rows id)):Gh n ⟨fa l,rows,clk⟩ ⟨fa (l.map fun p=>(p.1,I7 rows id p.2)),FY rows [id],clk⟩:=by
 rintro w0 S0 G a w ⟨⟨c,rfl,vW,gC,hI,hf,hG⟩,h7,h8⟩
 have aco:c.rows=rows:=vW
 subst aco
 refine⟨⟨EI c [id],rfl,rfl,gC,hI.freeze [id],fun s=>?_,fun p hp=>aM.uF (mN c [id]) _ _ (hG p hp)⟩,h7,h8⟩
 rw [←acn (g:=I7 c.rows id) GH]
 exact VD hI hp (hf s)
theorem W.freeze{E:Env}{n:Nat}{tl:Nat→Nat}{Q:PX→PS→Prop}{c:Code}{l:List (Nat × PV)}{rows:Rows}{clk:Nat}(id:Nat)(hp:dJ (rows id))(h:∀K:PS→Prop,(∀σ,W E n tl c Q σ→K σ)→K ⟨fa (l.map fun p=>(p.1,I7 rows id p.2)),FY rows [id],clk⟩):W E n tl c Q ⟨fa l,rows,clk⟩:=W.ghost (YP id hp) (h _ fun _ h=>h)
@[simp] theorem avn{rows:Rows}{id i ver off len:Nat}:I7 rows id (.own i ver off len)=if i=id then fzR (rows i) ver off len else .own i ver off len:=rfl
@[simp] theorem avo{rows:Rows}{id i ver a j:Nat}:I7 rows id (.ptr i ver a j)=if i=id then fzP (rows i) ver a j else .ptr i ver a j:=rfl
@[simp] theorem avp{α:Type}{g:α→List PV}{rows:Rows}{id:Nat}{l:List α}:I7 rows id (aI g l)=aI g l:=rfl
@[simp] theorem avq{rows:Rows}{id:Nat}{k:IntKind}{n:Int}:I7 rows id (.int k n) = .int k n:=rfl
@[simp] theorem arY{rows:Rows}{id:Nat}{b:Bool}:I7 rows id (.bool b) = .bool b:=rfl
@[simp] theorem avr{rows:Rows}{id:Nat}:I7 rows id .nil = .nil:=rfl
@[simp] theorem axo{rows:Rows}{id:Nat}{l:List (List PV)}:I7 rows id (.sl l) = .sl l:=rfl
@[simp] theorem avs{rows:Rows}{id:Nat}{l:List (List PV)}:I7 rows id (.j8 l) = .j8 l:=rfl
@[simp] theorem axp{rows:Rows}{id:Nat}{l:List PV}:I7 rows id (.ag l) = .ag (l.map (LB rows id)):=rfl
@[simp] theorem avt{rows:Rows}{id:Nat}{k:IntKind}{n:Int}:LB rows id (.int k n) = .int k n:=rfl
@[simp] theorem arZ{rows:Rows}{id:Nat}{b:Bool}:LB rows id (.bool b) = .bool b:=rfl
@[simp] theorem avu{rows:Rows}{id:Nat}:LB rows id .nil = .nil:=rfl
@[simp] theorem avv{α:Type}{g:α→List PV}{rows:Rows}{id:Nat}{l:List α}:LB rows id (aI g l)=aI g l:=rfl
theorem agt{n s clk:Nat}{f:Nat→PV}{rows:Rows}(q:PV)(hs:f s = .nil)(hq:q = .sl []):Gh n ⟨f,rows,clk⟩ ⟨put f (some s) q,rows,clk⟩:=by
 rintro w0 S0 G a w ⟨⟨c,rfl,vW,gC,hI,hf,hG⟩,h7,h8⟩
 refine⟨⟨c,rfl,vW,gC,hI,fun t=>?_,hG⟩,h7,h8⟩
 simp only [put]
 split
 ·rename_i ht
  subst ht
  have h1:=hf t
  simp only at h1
  rw [hs]at h1
  subst hq
  simp only [aM]at h1 ⊢
  exact Wk.rep (.inr ⟨rfl,rfl⟩) h1
 ·exact hf t
theorem W.R4{E:Env}{n:Nat}{tl:Nat→Nat}{Q:PX→PS→Prop}{c:Code}{f:Nat→PV}{rows:Rows}{clk:Nat}(s:Nat)(q:PV)(hs:f s = .nil)(hq:q = .sl [])(h:∀K:PS→Prop,(∀σ,W E n tl c Q σ→K σ)→K ⟨put f (some s) q,rows,clk⟩):W E n tl c Q ⟨f,rows,clk⟩:=W.ghost (agt q hs hq) (h _ fun _ h=>h)
theorem agu{c:Cx}{l:List (List PV)}{v:Value}(hr:aU c (.j8 l) v):aU c (.sl l) v:=by
 simp only [aU,dG]at hr ⊢
 obtain⟨a,h1,h2,h3⟩:=hr
 exact⟨a,l.length,h1,Nat.le_refl _,h2,h3⟩
theorem agv{n s clk:Nat}{f:Nat→PV}{rows:Rows}(l:List (List PV))(q:PV)(hs:f s = .j8 l)(hq:q = .sl l):Gh n ⟨f,rows,clk⟩ ⟨put f (some s) q,rows,clk⟩:=by
 rintro w0 S0 G a w ⟨⟨c,rfl,vW,gC,hI,hf,hG⟩,h7,h8⟩
 refine⟨⟨c,rfl,vW,gC,hI,fun t=>?_,hG⟩,h7,h8⟩
 simp only [put]
 split
 ·rename_i ht
  subst ht
  have h1:=hf t
  simp only at h1
  rw [hs]at h1
  subst hq
  simp only [aM]at h1 ⊢
  exact agu h1
 ·exact hf t
theorem W.axq{E:Env}{n:Nat}{tl:Nat→Nat}{Q:PX→PS→Prop}{c:Code}{f:Nat→PV}{rows:Rows}{clk:Nat}(s:Nat)(l:List (List PV))(q:PV)(hs:f s = .j8 l)(hq:q = .sl l)(h:∀K:PS→Prop,(∀σ,W E n tl c Q σ→K σ)→K ⟨put f (some s) q,rows,clk⟩):W E n tl c Q ⟨f,rows,clk⟩:=W.ghost (agv l q hs hq) (h _ fun _ h=>h)
def CL(rows:Rows)(id:Nat):Option Row→Option Row
 | some r=>some { r with els:=r.els.map fun e=>e.map (LB rows id) }
 | none=>none
def FC(rows:Rows)(id:Nat):Rows:=fun j=>if j=id then none else CL rows id (rows j)
@[simp] theorem avw{rows:Rows}{id j:Nat}:FC rows id j=if j=id then none else CL rows id (rows j):=rfl
@[simp] theorem aju{rows:Rows}{id v e n:Nat}{els:List (List PV)}:CL rows id (some ⟨v,e,n,els⟩)=some ⟨v,e,n,els.map fun e=>e.map (LB rows id)⟩:=rfl
@[simp] theorem ajv{rows:Rows}{id:Nat}:CL rows id none=none:=rfl
@[simp] theorem avx{rows:Rows}{id i ver off len:Nat}:LB rows id (.own i ver off len)=if i=id then fzR (rows i) ver off len else .own i ver off len:=rfl
@[simp] theorem avy{rows:Rows}{id i ver a j:Nat}:LB rows id (.ptr i ver a j)=if i=id then fzP (rows i) ver a j else .ptr i ver a j:=rfl
theorem R5{n clk:Nat}{l:List (Nat × PV)}{rows:Rows}(id:Nat)(hp:dJ (rows id)):Gh n ⟨fa l,rows,clk⟩ ⟨fa (l.map fun p=>(p.1,I7 rows id p.2)),FC rows id,clk⟩:=by
 rintro w0 S0 G a w ⟨⟨c,rfl,vW,gC,hI,hf,hG⟩,h7,h8⟩
 have aco:c.rows=rows:=vW
 subst aco
 have LN:=hI.freeze [id]
 have live:∀ {j:Nat} {r':Row},FC c.rows id j=some r'→j≠id ∧ ∃r,c.rows j=some r∧r' = { r with els:=r.els.map fun e=>e.map (LB c.rows id) }:=by
  intro j r' h
  simp only [FC]at h
  split at h
  ·cases h
  ·rename_i hj
   cases hr:c.rows j with
   | none=>rw [hr]at h;cases h
   | some r=>rw [hr]at h;simp only [CL,Option.some.injEq]at h;exact⟨hj,r,rfl,h.symm⟩
 have hA:uE (EI c [id]) { EI c [id]with rows:=FC c.rows id }:=by
  refine⟨fun _ _ h=>h,fun _ _ _=>rfl,fun _ h=>h,fun j r' h=>?_⟩
  obtain⟨hj,r,hr,rfl⟩:=live h
  exact .inr ⟨r,by simp [EI,FY,hj,hr],rfl,rfl,by simp,rfl⟩
 have hI2:Inv w0 S0 { EI c [id]with rows:=FC c.rows id }:=by
  refine⟨LN.below,LN.ext,LN.new,LN.lt0,fun j r' h=>?_,fun j r' h=>?_,fun i j r s g hr hs=>?_⟩
  ·obtain⟨hj,r,hr,rfl⟩:=live h
   exact hI.clock j r hr
  ·obtain⟨hj,r,hr,rfl⟩:=live h
   obtain⟨⟨xs,g1,g2,g3⟩,g4,g5,g6⟩:=hI.row j r hr
   obtain⟨_,_,f5,_⟩:=LN.row j r (by simp [EI,FY,hj,hr])
   refine⟨⟨xs,by rw [List.length_map];exact g1,?_,g3⟩,fun e he=>?_,f5,g6⟩
   ·show bK _ (List.flatten (r.els.map fun e=>e.map (LB c.rows id))) xs
    rw [←List.map_flatten]
    refine bK.dU (by rw [List.length_map];exact g2.length) fun k p u xJ hu=>?_
    rw [List.getElem?_map]at xJ
    obtain⟨q,hq,rfl⟩:=Option.map_eq_some_iff.1 xJ
    obtain⟨u',PT,k8⟩:=g2.get hq
    rw [hu]at PT;cases PT
    exact aU.uF hA _ _ (I8 hI hp k8)
   ·simp only [List.mem_map]at he
    obtain⟨e',mO,rfl⟩:=he
    simpa using g4 e' mO
  ·obtain⟨hi,r1,vX,rfl⟩:=live hr
   obtain⟨hj,r2,bR,rfl⟩:=live hs
   exact hI.apart i j r1 r2 g vX bR
 refine⟨⟨{ EI c [id]with rows:=FC c.rows id },rfl,rfl,gC,hI2,fun s=>?_,fun p hp=>aM.uF hA _ _ (aM.uF (mN c [id]) _ _ (hG p hp))⟩,h7,h8⟩
 show aM _ (fa (l.map fun p=>(p.1,I7 c.rows id p.2)) s) _
 rw [←acn (g:=I7 c.rows id) GH]
 exact aM.uF hA _ _ (VD hI hp (hf s))
theorem W.I9{E:Env}{n:Nat}{tl:Nat→Nat}{Q:PX→PS→Prop}{c:Code}{l:List (Nat × PV)}{rows:Rows}{clk:Nat}(id:Nat)(hp:dJ (rows id))(h:∀K:PS→Prop,(∀σ,W E n tl c Q σ→K σ)→K ⟨fa (l.map fun p=>(p.1,I7 rows id p.2)),FC rows id,clk⟩):W E n tl c Q ⟨fa l,rows,clk⟩:=W.ghost (R5 id hp) (h _ fun _ h=>h)
end Pm

namespace Pm
open Go
theorem bL(l:List Nat){E:Env}{n:Nat}{tl:Nat→Nat}{c:Code}{Q:PX→PS→Prop}{f:Nat→PV}{rows:Rows}{clk:Nat}{X:Prop}(hX:X)(h:X→aW (Bx.mk (P:=W E n tl c Q)) ⟨fa (l.map fun i=>(i,f i)),rows,clk⟩:=by intro hX;simp;exact hX):aW (Bx.mk (P:=W E n tl c Q)) ⟨f,rows,clk⟩:=W.lx l (h hX)
theorem iB{X G:Prop}(hX:X)(h:X→G:=by intro hX;refine W.sr ?_;simp (disch:=omega) [gw];exact hX):G:=h hX
theorem mP{X G:Prop}(hX:X)(h:X→G:=by intro hX;refine W.sd ?_;simp (disch:=omega) [gw];exact hX):G:=h hX
theorem cB{P X G:Prop}(hP:P)(hX:X)(h:P→X→G:=by intro hP hX;refine aB hP ?_;simp (disch:=omega) [gw];exact hX):G:=h hP hX
section
variable (l:List Nat) {E:Env} {n:Nat} {tl:Nat→Nat} {c:Code} {Q:PX→PS→Prop} {f:Nat→PV} {rows:Rows} {clk:Nat} {P X G:Prop}
theorem aA(hX:X)(h1:aW (Bx.mk (P:=W E n tl c Q)) ⟨f,rows,clk⟩→G:=by intro hY;refine W.sr ?_;simp (disch:=omega) [gw];exact hY)(h2:X→aW (Bx.mk (P:=W E n tl c Q)) ⟨fa (l.map fun i=>(i,f i)),rows,clk⟩:=by intro hX;simp;exact hX):G:=h1 (W.lx l (h2 hX))
theorem aL(hX:X)(h1:aW (Bx.mk (P:=W E n tl c Q)) ⟨f,rows,clk⟩→G:=by intro hY;refine W.seq ?_;refine W.sr ?_;simp (disch:=omega) [gw];exact hY)(h2:X→aW (Bx.mk (P:=W E n tl c Q)) ⟨fa (l.map fun i=>(i,f i)),rows,clk⟩:=by intro hX;simp;exact hX):G:=h1 (W.lx l (h2 hX))
theorem b9(hX:X)(h1:aW (Bx.mk (P:=W E n tl c Q)) ⟨f,rows,clk⟩→G:=by intro hY;refine W.sr ?_;simp (disch:=omega) [gw];exact hY)(h2:X→aW (Bx.mk (P:=W E n tl c Q)) ⟨fa (l.map fun i=>(i,f i)),rows,clk⟩:=by intro hX;simp;refine W.seq ?_;exact hX):G:=h1 (W.lx l (h2 hX))
theorem aJ(hP:P)(hX:X)(h1:P→aW (Bx.mk (P:=W E n tl c Q)) ⟨f,rows,clk⟩→G:=by intro hP hY;refine W.sr ?_;simp (disch:=omega) [gw];refine aB hP ?_;simp (disch:=omega) [gw];exact hY)(h2:X→aW (Bx.mk (P:=W E n tl c Q)) ⟨fa (l.map fun i=>(i,f i)),rows,clk⟩:=by intro hX;simp;exact hX):G:=h1 hP (W.lx l (h2 hX))
theorem bS(hP:P)(hX:X)(h1:P→aW (Bx.mk (P:=W E n tl c Q)) ⟨f,rows,clk⟩→G:=by intro hP hY;refine aB hP ?_;simp (disch:=omega) [gw];exact hY)(h2:X→aW (Bx.mk (P:=W E n tl c Q)) ⟨fa (l.map fun i=>(i,f i)),rows,clk⟩:=by intro hX;simp;exact hX):G:=h1 hP (W.lx l (h2 hX))
end
theorem bC{X Y G:Prop}(hX:X)(hY:Y)(h:X→Y→G:=by intro hX hY;refine W.cond ⟨_,rfl,?_,?_⟩;exact hX;exact hY):G:=h hX hY
theorem eV{X G:Prop}(hX:X)(h:X→G:=by intro hX;refine W.exit ?_;simp only [pX,if_true,if_false,reduceIte,Nat.reduceEqDiff];exact hX):G:=h hX
theorem bV{G:Prop}(h:G:=by refine W.ret ?_;simp [go]):G:=h
theorem kW{X G:Prop}(hX:X)(h:X→G:=by intro hX;refine W.skip ?_;refine W.seq ?_;refine W.block ?_;exact hX):G:=h hX
end Pm
