import Derived.Test.YtiobceocpabjdaaGreatOac
set_option linter.unusedSimpArgs false
set_option linter.unusedVariables false
namespace Pm
open Go Go.RowKit
def emap{α:Type}(g:α→List PV)(l:List α):List (List PV):=l.map g
def aJ{α:Type}(g:α→List PV)(l:List α):PV:=.sl (emap g l)
def nth{α:Type}[Inhabited α](l:List α)(i:Nat):α:=l[i]?.getD default
def Enc{α:Type}(g:α→List PV)(n:Nat):Prop:=∀x,(g x).length=n
def arS{α:Type}(g:α→List PV):Prop:=∀x,(g x).all bI=true
def bS(o:Option Row)(ver:Nat)(K:Row→Prop):Prop:=∃r,o=some r∧r.ver=ver∧K r
@[congr] theorem afz{o o':Option Row}{ver:Nat}{K:Row→Prop}(h:o=o'):bS o ver K=bS o' ver K:=by rw [h]
@[simp] theorem agj{r:Row}{ver:Nat}{K:Row→Prop}:bS (some r) ver K=aH (r.ver=ver) (K r):=by simp [bS,aH]
def F2(els:List (List PV))(i:Nat)(K:List PV→Prop):Prop:=∃el,els[i]? = some el∧K el
@[congr] theorem apu{l l':List (List PV)}{i i':Nat}{K:List PV→Prop}(h:l=l')(hi:i=i'):F2 l i K=F2 l' i' K:=by rw [h,hi]
@[simp] theorem MC{α:Type}[Inhabited α]{g:α→List PV}{l:List α}{i:Nat}{K:List PV→Prop}:F2 (emap g l) i K=aH (i<l.length) (K (g (nth l i))):=by
 simp only [F2,emap,aH,nth]
 apply propext
 constructor
 ·rintro⟨el,h1,h2⟩
  simp at h1
  obtain⟨x,h1,rfl⟩:=h1
  have:=(List.getElem?_eq_some_iff.1 h1).1
  rw [h1]
  exact⟨this,h2⟩
 ·rintro⟨h1,h2⟩
  rw [List.getElem?_eq_getElem h1]at h2
  exact⟨g l[i],by simp [h1],h2⟩
@[simp] theorem arT{e:List PV}{es:List (List PV)}{K:List PV→Prop}:F2 (e::es) 0 K=go (K e):=by show _=K e;simp [F2]
@[simp] theorem arU{e:List PV}{es:List (List PV)}{i:Nat}{K:List PV→Prop}:F2 (e::es) (i+1) K=F2 es i K:=by simp [F2]
def mK{α:Type}(l:List α)(i:Nat):Option α:=l[i]?
@[simp] theorem apv{α:Type}{x:α}{l:List α}:mK (x::l) 0=some x:=rfl
@[simp] theorem apw{α:Type}{x:α}{l:List α}{n:Nat}:mK (x::l) (n+1)=mK l n:=rfl
def fY{α:Type}(o:Option α)(K:α→Prop):Prop:=∃v,o=some v∧K v
@[congr] theorem alN{α:Type}{o o':Option α}{K:α→Prop}(h:o=o'):fY o K=fY o' K:=by rw [h]
@[simp] theorem apx{α:Type}{x:α}{K:α→Prop}:fY (some x) K=go (K x):=by show _=K x;simp [fY]
def y9(ti:TI)(l:List PV)(j:Nat)(K:PV→Prop):Prop:=if ti.agg=true then aH (j+ti.size≤l.length) (K (.ag ((l.drop j).take ti.size)))else fY (mK l j) K
@[congr] theorem apy{t t':TI}{l l':List PV}{j:Nat}{K:PV→Prop}(h1:t=t')(h2:l=l'):y9 t l j K=y9 t' l' j K:=by rw [h1,h2]
@[simp] theorem awb{k:IntKind}{l:List PV}{j:Nat}{K:PV→Prop}:y9 (.int k) l j K=fY (mK l j) K:=by simp [y9,TI.agg]
@[simp] theorem arV{l:List PV}{j:Nat}{K:PV→Prop}:y9 .bool l j K=fY (mK l j) K:=by simp [y9,TI.agg]
@[simp] theorem awc{l:List PV}{j:Nat}{K:PV→Prop}:y9 .str l j K=fY (mK l j) K:=by simp [y9,TI.agg]
@[simp] theorem apz{e n b:Nat}{z:List PV}{l:List PV}{j:Nat}{K:PV→Prop}:y9 (.slice e n b z) l j K=fY (mK l j) K:=by simp [y9,TI.agg]
@[simp] theorem awd{e m n:Nat}{z:List PV}{l:List PV}{j:Nat}{K:PV→Prop}:y9 (.arr e m n z) l j K=aH (j+z.length≤l.length) (K (.ag ((l.drop j).take z.length))):=by simp [y9,TI.agg,TI.size,TI.zero]
@[simp] theorem arW{l:List PV}{j:Nat}{K:PV→Prop}:y9 .BI l j K=fY (mK l j) K:=by simp [y9,TI.agg]
@[simp] theorem awe{l:List PV}{j:Nat}{K:PV→Prop}:y9 .fnT l j K=fY (mK l j) K:=by simp [y9,TI.agg]
@[simp] theorem alO{fs:List (Nat × Nat × Bool)}{z:List PV}{l:List PV}{j:Nat}{K:PV→Prop}:y9 (.struct fs z) l j K=aH (j+z.length≤l.length) (K (.ag ((l.drop j).take z.length))):=by simp [y9,TI.agg,TI.size,TI.zero]
def lN(E:Env)(t:TypeId)(rows:Rows)(p:PV)(K:PV→Prop):Prop:=
 aH ((E.ty t).known=true) (match p with
 | .rd l=>y9 (E.ty t) l 0 K
 | .ptr id ver i j=>bS (rows id) ver fun r=>F2 r.els i fun el=>y9 (E.ty t) el j K
 | _=>False)
@[congr] theorem agk{E:Env}{t:TypeId}{rows:Rows}{p p':PV}{K:PV→Prop}(h:p=p'):lN E t rows p K=lN E t rows p' K:=by rw [h]
@[simp] theorem apA{E:Env}{t:TypeId}{rows:Rows}{l:List PV}{K:PV→Prop}:lN E t rows (.rd l) K=aH ((E.ty t).known=true) (y9 (E.ty t) l 0 K):=rfl
@[simp] theorem alP{E:Env}{t:TypeId}{rows:Rows}{id ver i j:Nat}{K:PV→Prop}:lN E t rows (.ptr id ver i j) K=aH ((E.ty t).known=true) (bS (rows id) ver fun r=>F2 r.els i fun el=>y9 (E.ty t) el j K):=rfl
theorem MD{ti:TI}{l:List PV}{j:Nat}{K:PV→Prop}:aX (fun v=>if ti.agg=true then j+ti.size≤l.length∧v = .ag ((l.drop j).take ti.size)else l[j]? = some v) K=y9 ti l j K:=by
 simp only [y9,fY]
 split
 ·rw [j0,kJ]
 ·rfl
theorem uQ{E:Env}{t:TypeId}{rows:Rows}{p:PV}{K:PV→Prop}:aX (fun v=>tS E t rows p v) K=lN E t rows p K:=by
 simp only [tS,lN]
 rw [j0]
 congr 1
 cases p with
 | rd l=>dsimp only;rw [←MD];simp [go]
 | ptr id ver i j =>
  simp only [bS,F2,←MD]
  apply propext;simp only [aX]
  constructor
  ·rintro⟨v,⟨r,h1,h2,el,h3,h4⟩,h5⟩;exact⟨r,h1,h2,el,h3,v,h4,h5⟩
  ·rintro⟨r,h1,h2,el,h3,v,h4,h5⟩;exact⟨v,⟨r,h1,h2,el,h3,h4⟩,h5⟩
 | _=>simp [aX]
def kK(ti:TI)(i:Nat)(x:PV)(K:PV→Prop):Prop:=
 match ti with
 | .struct fs _=>fY (mK fs i) fun p=>match x with
  | .ag l=>if p.2.2=true then K (.ag ((l.drop p.1).take p.2.1))else fY (mK l p.1) K
  | _=>False
 | _=>False
@[congr] theorem afA{t t':TI}{i:Nat}{x x':PV}{K:PV→Prop}(h:t=t')(h2:x=x'):kK t i x K=kK t' i x' K:=by rw [h,h2]
def IJ(p:Nat × Nat × Bool)(l:List PV)(K:PV→Prop):Prop:=if p.2.2=true then K (.ag ((l.drop p.1).take p.2.1))else fY (mK l p.1) K
@[simp] theorem apB{o n:Nat}{l:List PV}{K:PV→Prop}:IJ (o,n,true) l K=go (K (.ag ((l.drop o).take n))):=by show _=K _;simp [IJ]
@[simp] theorem alQ{o n:Nat}{l:List PV}{K:PV→Prop}:IJ (o,n,false) l K=fY (mK l o) K:=by simp [IJ]
@[congr] theorem alR{p p':Nat × Nat × Bool}{l l':List PV}{K:PV→Prop}(h:p=p')(h2:l=l'):IJ p l K=IJ p' l' K:=by rw [h,h2]
@[simp] theorem alS{fs:List (Nat × Nat × Bool)}{z:List PV}{i:Nat}{l:List PV}{K:PV→Prop}:kK (.struct fs z) i (.ag l) K=fY (mK fs i) fun p=>IJ p l K:=rfl
theorem zA{E:Env}{t:TypeId}{i:Nat}{x:PV}{K:PV→Prop}:aX (fun v=>uJ E t i x v) K=kK (E.ty t) i x K:=by
 simp only [uJ,kK]
 cases E.ty t with
 | struct fs z =>
  simp only [fY]
  apply propext;simp only [aX]
  cases x with
  | ag l =>
   simp only
   constructor
   ·rintro⟨v,⟨o,n,b,h1,h2⟩,h3⟩
    refine⟨_,h1,?_⟩
    simp only
    split at h2
    ·rename_i hb;rw [if_pos hb,←h2];exact h3
    ·rename_i hb;rw [if_neg hb];exact⟨v,h2,h3⟩
   ·rintro⟨⟨o,n,b⟩,h1,h2⟩
    simp only at h2
    split at h2
    ·rename_i hb;exact⟨_,⟨o,n,b,h1,by rw [if_pos hb]⟩,h2⟩
    ·rename_i hb;obtain⟨v,h3,h4⟩:=h2;exact⟨v,⟨o,n,b,h1,by rw [if_neg hb];exact h3⟩,h4⟩
  | _=>simp
 | _=>simp [aX]
def dX(ti:TI)(rows:Rows)(i:Nat)(x:PV)(K:PV→Prop):Prop:=
 match ti with
 | .struct fs _=>fY (mK fs i) fun p=>match x with
  | .rd l=>aH (p.1≤l.length) (K (.rd (l.drop p.1)))
  | .ptr id ver a j=>bS (rows id) ver fun _=>K (.ptr id ver a (j+p.1))
  | _=>False
 | _=>False
@[congr] theorem U0{t t':TI}{rows:Rows}{i:Nat}{x x':PV}{K:PV→Prop}(h:t=t')(h2:x=x'):dX t rows i x K=dX t' rows i x' K:=by rw [h,h2]
@[simp] theorem aca{fs:List (Nat × Nat × Bool)}{z:List PV}{rows:Rows}{i:Nat}{l:List PV}{K:PV→Prop}:dX (.struct fs z) rows i (.rd l) K=fY (mK fs i) fun p=>aH (p.1≤l.length) (K (.rd (l.drop p.1))):=rfl
@[simp] theorem aaX{fs:List (Nat × Nat × Bool)}{z:List PV}{rows:Rows}{i id ver a j:Nat}{K:PV→Prop}:dX (.struct fs z) rows i (.ptr id ver a j) K=fY (mK fs i) fun p=>bS (rows id) ver fun _=>K (.ptr id ver a (j+p.1)):=rfl
theorem qU{E:Env}{t:TypeId}{rows:Rows}{i:Nat}{x:PV}{K:PV→Prop}:aX (fun v=>fV E t rows i x v) K=dX (E.ty t) rows i x K:=by
 simp only [fV,dX]
 cases E.ty t with
 | struct fs z =>
  simp only [fY]
  apply propext;simp only [aX]
  cases x with
  | rd l =>
   simp only [aH]
   constructor
   ·rintro⟨v,⟨o,n,b,h1,h2,rfl⟩,h3⟩;exact⟨_,h1,h2,h3⟩
   ·rintro⟨⟨o,n,b⟩,h1,h2,h3⟩;exact⟨_,⟨o,n,b,h1,h2,rfl⟩,h3⟩
  | ptr id ver a j =>
   simp only [bS]
   constructor
   ·rintro⟨v,⟨o,n,b,h1,⟨r,h2,h3⟩,rfl⟩,h4⟩;exact⟨_,h1,r,h2,h3,h4⟩
   ·rintro⟨⟨o,n,b⟩,h1,r,h2,h3,h4⟩;exact⟨_,⟨o,n,b,h1,⟨r,h2,h3⟩,rfl⟩,h4⟩
  | _=>simp
 | _=>simp [aX]
def bG(n:Nat)(l:List (List PV)):Prop:=∀e∈l,e.length=n
@[simp] theorem cB{α:Type}{g:α→List PV}{n:Nat}{l:List α}:(Enc g n)→bG n (emap g l)=True:=by
 intro h
 simp only [bG,emap,List.mem_map,eq_iff_iff,iff_true]
 rintro e ⟨x,_,rfl⟩
 exact h x
@[simp] theorem alT{n:Nat}:bG n []=True:=by simp [bG]
@[simp] theorem ajd{n:Nat}{e:List PV}{l:List (List PV)}:bG n (e::l)=(e.length=n∧bG n l):=by simp [bG]
def cM(ti:TI)(rows:Rows)(x ix:PV)(K:PV→Prop):Prop:=
 match ti,ix with
 | .slice _ n _ _, .int _ k=>aH (0≤k) (match x with
  | .sl l=>aH (bG n l) (F2 l k.toNat fun el=>K (.rd el))
  | .iR l=>aH (bG n l) (F2 l k.toNat fun el=>K (.rd el))
  | .own id ver off len=>bS (rows id) ver fun r=>aH (r.size=n∧k.toNat<len) (K (.ptr id ver (off+k.toNat) 0))
  | _=>False)
 | .arr _ m n _, .int _ k=>aH (0≤k∧k.toNat<m) (match x with
  | .rd l=>aH (k.toNat*n≤l.length) (K (.rd (l.drop (k.toNat*n))))
  | .ptr id ver a j=>bS (rows id) ver fun _=>K (.ptr id ver a (j+k.toNat*n))
  | _=>False)
 | _,_=>False
@[congr] theorem U1{t t':TI}{rows:Rows}{x x' y y':PV}{K:PV→Prop}(h:t=t')(h2:x=x')(h3:y=y'):cM t rows x y K=cM t' rows x' y' K:=by rw [h,h2,h3]
section
variable {α:Type} [Inhabited α] {g:α→List PV} {l:List α} {e n b:Nat} {z:List PV} {rows:Rows} {kk:IntKind} {k:Int} {K:PV→Prop} {els:List (List PV)} {id ver off len:Nat}
@[simp] theorem aaY:cM (.slice e n b z) rows (aJ g l) (.int kk k) K=aH (0≤k∧k.toNat<l.length) (aH (bG n (emap g l)) (K (.rd (g (nth l k.toNat))))):=by
 simp only [cM,aJ,MC,aH,and_assoc]
 apply propext
 constructor
 ·rintro⟨h1,h2,h3,h4⟩;exact⟨h1,h3,h2,h4⟩
 ·rintro⟨h1,h2,h3,h4⟩;exact⟨h1,h3,h2,h4⟩
@[simp] theorem acb:cM (.slice e n b z) rows (.sl els) (.int kk k) K=aH (0≤k) (aH (bG n els) (F2 els k.toNat fun el=>K (.rd el))):=rfl
@[simp] theorem aaZ:cM (.slice e n b z) rows (.iR els) (.int kk k) K=aH (0≤k) (aH (bG n els) (F2 els k.toNat fun el=>K (.rd el))):=rfl
@[simp] theorem aa0{m:Nat}{l:List PV}:cM (.arr e m n z) rows (.rd l) (.int kk k) K=aH (0≤k∧k.toNat<m) (aH (k.toNat*n≤l.length) (K (.rd (l.drop (k.toNat*n))))):=rfl
@[simp] theorem YO{m a j:Nat}:cM (.arr e m n z) rows (.ptr id ver a j) (.int kk k) K=aH (0≤k∧k.toNat<m) (bS (rows id) ver fun _=>K (.ptr id ver a (j+k.toNat*n))):=rfl
@[simp] theorem aa1:cM (.slice e n b z) rows (.own id ver off len) (.int kk k) K=aH (0≤k) (bS (rows id) ver fun r=>aH (r.size=n∧k.toNat<len) (K (.ptr id ver (off+k.toNat) 0))):=rfl
end
theorem qV{E:Env}{t:TypeId}{rows:Rows}{x ix:PV}{K:PV→Prop}:aX (fun v=>fW E t rows x ix v) K=cM (E.ty t) rows x ix K:=by
 simp only [fW,cM]
 cases E.ty t with
 | slice e n b z =>
  cases ix with
  | int kk k =>
   simp only
   rw [j0]
   congr 1
   cases x with
   | sl l =>
    simp only [aH,F2,bG]
    apply propext;simp only [aX]
    constructor
    ·rintro⟨v,⟨el,h1,h2,rfl⟩,h4⟩;exact⟨h2,el,h1,h4⟩
    ·rintro⟨h2,el,h1,h4⟩;exact⟨_,⟨el,h1,h2,rfl⟩,h4⟩
   | iR l =>
    simp only [aH,F2,bG]
    apply propext;simp only [aX]
    constructor
    ·rintro⟨v,⟨el,h1,h2,rfl⟩,h4⟩;exact⟨h2,el,h1,h4⟩
    ·rintro⟨h2,el,h1,h4⟩;exact⟨_,⟨el,h1,h2,rfl⟩,h4⟩
   | own id ver off len =>
    simp only [aH,bS]
    apply propext;simp only [aX]
    constructor
    ·rintro⟨v,⟨r,h1,h2,h3,h4,rfl⟩,h5⟩;exact⟨r,h1,h2,⟨h3,h4⟩,h5⟩
    ·rintro⟨r,h1,h2,⟨h3,h4⟩,h5⟩;exact⟨_,⟨r,h1,h2,h3,h4,rfl⟩,h5⟩
   | _=>simp [aX]
  | _=>simp [aX]
 | arr e m n z =>
  cases ix with
  | int kk k =>
   simp only
   rw [j0]
   congr 1
   cases x with
   | rd l =>
    simp only
    rw [j0,kJ]
   | ptr id ver a j =>
    simp only [bS]
    apply propext;simp only [aX]
    constructor
    ·rintro⟨v,⟨⟨r,h1,h2⟩,rfl⟩,h3⟩;exact⟨r,h1,h2,h3⟩
    ·rintro⟨r,h1,h2,h3⟩;exact⟨_,⟨⟨r,h1,h2⟩,rfl⟩,h3⟩
   | _=>simp [aX]
  | _=>simp [aX]
 | _=>simp [aX]
def zB(d:Nat)(o:Option PV)(K:Nat→Prop):Prop:=
 match o with
 | none=>K d
 | some (.int _ k)=>aH (0≤k) (K k.toNat)
 | some _=>False
@[congr] theorem apC{d d':Nat}{o o':Option PV}{K:Nat→Prop}(h:d=d')(h2:o=o'):zB d o K=zB d' o' K:=by rw [h,h2]
@[simp] theorem arX{d:Nat}{K:Nat→Prop}:zB d none K=go (K d):=rfl
@[simp] theorem arY{d:Nat}{kk:IntKind}{k:Int}{K:Nat→Prop}:zB d (some (.int kk k)) K=aH (0≤k) (K k.toNat):=rfl
theorem RS{d:Nat}{o:Option PV}{K:Nat→Prop}:zB d o K ↔ ∃n,vF d o n∧K n:=by
 cases o with
 | none=>simp [zB,vF]
 | some p =>
  cases p with
  | int kk k =>
   simp only [zB,vF,aH]
   constructor
   ·rintro⟨h1,h2⟩;exact⟨_,⟨h1,rfl⟩,h2⟩
   ·rintro⟨n,⟨h1,rfl⟩,h2⟩;exact⟨h1,h2⟩
  | _=>simp [zB,vF]
def YP{α:Type}(mk mkx:List α→PV)(n:Nat)(l:List α)(ok:Prop)(lo hi mx:Option PV)(K:PV→Prop):Prop:=
 zB 0 lo fun a=>zB l.length hi fun b=>aH (a≤b∧b≤l.length) (aH ok (match mx with
  | none=>K (mk ((l.take b).drop a))
  | some m=>zB 0 (some m) fun c=>aH (b=c∧hi.isSome=true) (K (mkx ((l.take b).drop a)))))
def gE(ti:TI)(rows:Rows)(x:PV)(lo hi mx:Option PV)(K:PV→Prop):Prop:=
 match ti with
 | .slice _ n _ _ =>
  match x with
  | .nil=>zB 0 lo fun a=>zB 0 hi fun b=>aH (a=0∧b=0∧mx.isNone=true) (K .nil)
  | .sl l=>YP .sl .iR n l (bG n l) lo hi mx K
  | .iR l=>YP .sl .iR n l (bG n l) lo hi mx K
  | .own id ver off len=>bS (rows id) ver fun r=>aH (r.size=n) (zB 0 lo fun a=>zB len hi fun b=>aH (a≤b∧b≤len∧mx.isNone=true) (K (.own id ver (off+a) (b-a))))
  | _=>False
 | _=>False
@[congr] theorem afB{t t':TI}{rows:Rows}{x x':PV}{lo lo' hi iQ mx mx':Option PV}{K:PV→Prop}(h:t=t')(h2:x=x')(h3:lo=lo')(h4:hi=iQ)(h5:mx=mx'):gE t rows x lo hi mx K=gE t' rows x' lo' iQ mx' K:=by rw [h,h2,h3,h4,h5]
section
variable {α:Type} {g:α→List PV} {l:List α} {e n b:Nat} {z:List PV} {rows:Rows} {lo hi mx:Option PV} {K:PV→Prop} {els:List (List PV)} {id ver off len:Nat}
theorem ME{a b:Nat}:((emap g l).take b).drop a=emap g ((l.take b).drop a):=by simp [emap]
@[simp] theorem aje:gE (.slice e n b z) rows (aJ g l) lo hi none K=zB 0 lo fun a=>zB l.length hi fun b=>aH (a≤b∧b≤l.length) (aH (bG n (emap g l)) (K (aJ g ((l.take b).drop a)))):=by
 simp only [gE,aJ,YP,ME]
 simp [emap]
theorem IK{m:PV}:gE (.slice e n b z) rows (aJ g l) lo hi (some m) K=zB 0 lo fun a=>zB l.length hi fun b=>aH (a≤b∧b≤l.length) (aH (bG n (emap g l)) (zB 0 (some m) fun c=>aH (b=c∧hi.isSome=true) (K (.iR (emap g ((l.take b).drop a)))))):=by
 simp only [gE,aJ,YP,ME]
 simp [emap]
@[simp] theorem ajf:gE (.slice e n b z) rows .nil lo hi mx K=zB 0 lo fun a=>zB 0 hi fun b=>aH (a=0∧b=0∧mx.isNone=true) (K .nil):=rfl
@[simp] theorem ajg:gE (.slice e n b z) rows (.own id ver off len) lo hi mx K=bS (rows id) ver fun r=>aH (r.size=n) (zB 0 lo fun a=>zB len hi fun b=>aH (a≤b∧b≤len∧mx.isNone=true) (K (.own id ver (off+a) (b-a)))):=rfl
end
theorem U2{l:List (List PV)}{n:Nat}{lo hi mx:Option PV}{K:PV→Prop}:(∃v,(∃a b,vF 0 lo a∧vF l.length hi b∧a≤b∧b≤l.length∧(∀e∈l,e.length=n)∧P8 l a b hi mx v)∧K v)↔YP .sl .iR n l (bG n l) lo hi mx K:=by
 simp only [YP,RS,aH,bG,P8]
 constructor
 ·rintro⟨v,⟨a,b,h1,h2,h3,h4,h5,h6⟩,h7⟩
  refine⟨a,h1,b,h2,⟨h3,h4⟩,h5,?_⟩
  cases mx with
  | none=>simp only at h6 ⊢;rw [←h6];exact h7
  | some m=>obtain⟨c,q1,q2,q3,rfl⟩:=h6;exact⟨c,q1,⟨q2,q3⟩,h7⟩
 ·rintro⟨a,h1,b,h2,⟨h3,h4⟩,h5,h6⟩
  cases mx with
  | none=>exact⟨_,⟨a,b,h1,h2,h3,h4,h5,rfl⟩,h6⟩
  | some m=>obtain⟨c,q1,⟨q2,q3⟩,h7⟩:=h6;exact⟨_,⟨a,b,h1,h2,h3,h4,h5,c,q1,q2,q3,rfl⟩,h7⟩
theorem zD{E:Env}{t:TypeId}{rows:Rows}{x:PV}{lo hi mx:Option PV}{K:PV→Prop}:aX (fun v=>oP E t rows x lo hi mx v) K=gE (E.ty t) rows x lo hi mx K:=by
 simp only [oP,gE]
 cases E.ty t with
 | slice e n b z =>
  cases x with
  | sl l=>exact propext U2
  | iR l=>exact propext U2
  | nil =>
   simp only [RS,aH]
   apply propext;simp only [aX]
   constructor
   ·rintro⟨v,⟨a,b,h1,h2,h3,h4,h5,rfl⟩,h6⟩;exact⟨a,h1,b,h2,⟨h3,h4,h5⟩,h6⟩
   ·rintro⟨a,h1,b,h2,⟨h3,h4,h5⟩,h6⟩;exact⟨_,⟨a,b,h1,h2,h3,h4,h5,rfl⟩,h6⟩
  | own id ver off len =>
   simp only [RS,aH,bS]
   apply propext;simp only [aX]
   constructor
   ·rintro⟨v,⟨r,q1,q2,q3,a,b,h1,h2,h3,h4,h5,rfl⟩,h6⟩;exact⟨r,q1,q2,q3,a,h1,b,h2,⟨h3,h4,h5⟩,h6⟩
   ·rintro⟨r,q1,q2,q3,a,h1,b,h2,⟨h3,h4,h5⟩,h6⟩;exact⟨_,⟨r,q1,q2,q3,a,b,h1,h2,h3,h4,h5,rfl⟩,h6⟩
  | _=>simp [aX]
 | _=>simp [aX]
def uD(rows:Rows)(x:PV)(K:PV→Prop):Prop:=
 match x with
 | .rd l=>K (.rd l)
 | .ptr id ver i j=>bS (rows id) ver fun _=>K (.ptr id ver i j)
 | _=>False
@[congr] theorem ajh{rows:Rows}{x x':PV}{K:PV→Prop}(h:x=x'):uD rows x K=uD rows x' K:=by rw [h]
@[simp] theorem arZ{rows:Rows}{l:List PV}{K:PV→Prop}:uD rows (.rd l) K=go (K (.rd l)):=rfl
@[simp] theorem apD{rows:Rows}{id ver i j:Nat}{K:PV→Prop}:uD rows (.ptr id ver i j) K=bS (rows id) ver fun _=>K (.ptr id ver i j):=rfl
theorem F3{rows:Rows}{x:PV}{K:PV→Prop}:aX (fun v=>ET rows x v) K=uD rows x K:=by
 simp only [ET,uD]
 cases x with
 | rd l=>dsimp only;rw [kJ]
 | ptr id ver i j =>
  simp only [bS]
  apply propext;simp only [aX]
  constructor
  ·rintro⟨v,⟨⟨r,h1,h2⟩,rfl⟩,h3⟩;exact⟨r,h1,h2,h3⟩
  ·rintro⟨r,h1,h2,h3⟩;exact⟨_,⟨⟨r,h1,h2⟩,rfl⟩,h3⟩
 | _=>simp [aX]
def mO(ti:TI)(rows:Rows)(x:PV)(K:PV→Prop):Prop:=
 match ti with
 | .slice _ _ _ _=>match x with
  | .nil=>K (.int .i64 0)
  | .sl l=>K (.int .i64 l.length)
  | .iR l=>K (.int .i64 l.length)
  | .own id ver _ len=>bS (rows id) ver fun _=>K (.int .i64 len)
  | _=>False
 | _=>False
@[congr] theorem aji{t t':TI}{rows:Rows}{x x':PV}{K:PV→Prop}(h:t=t')(h2:x=x'):mO t rows x K=mO t' rows x' K:=by rw [h,h2]
section
variable {α:Type} {g:α→List PV} {l:List α} {e n b:Nat} {z:List PV} {rows:Rows} {K:PV→Prop} {els:List (List PV)} {id ver off len:Nat}
@[simp] theorem apE:mO (.slice e n b z) rows (aJ g l) K=go (K (.int .i64 l.length)):=by show _=K _;simp [mO,aJ,emap]
@[simp] theorem apF:mO (.slice e n b z) rows .nil K=go (K (.int .i64 0)):=rfl
@[simp] theorem ar0:mO (.slice e n b z) rows (.sl els) K=go (K (.int .i64 els.length)):=rfl
@[simp] theorem apG:mO (.slice e n b z) rows (.iR els) K=go (K (.int .i64 els.length)):=rfl
@[simp] theorem apH:mO (.slice e n b z) rows (.own id ver off len) K=bS (rows id) ver fun _=>K (.int .i64 len):=rfl
end
theorem F4{ti:TI}{rows:Rows}{x:PV}{K:PV→Prop}:aX (fun v=>yS ti rows x v) K=mO ti rows x K:=by
 simp only [yS,mO]
 cases ti with
 | slice e n b z =>
  apply propext;simp only [aX,XR]
  cases x with
  | own id ver off len =>
   simp only [bS]
   constructor
   ·rintro⟨v,⟨n,⟨⟨r,h1,h2⟩,rfl⟩,rfl⟩,h4⟩;exact⟨r,h1,h2,h4⟩
   ·rintro⟨r,h1,h2,h4⟩;exact⟨_,⟨_,⟨⟨r,h1,h2⟩,rfl⟩,rfl⟩,h4⟩
  | _=>simp
 | _=>simp [aX]
def iA(els:List (List PV))(i j:Nat)(l:List PV):List (List PV):=els.set i (((els[i]?).getD []).take j++l++((els[i]?).getD []).drop (j+l.length))
def uE(els:List (List PV))(i n:Nat):Prop:=∃el,els[i]? = some el∧n≤el.length
def iH(rows:Rows)(l:List PV):Prop:=∀q∈l,iT rows q
@[simp] theorem alV{rows:Rows}:iH rows []=True:=by simp [iH]
@[simp] theorem ajj{rows:Rows}{p:PV}{l:List PV}:iH rows (p::l)=(iT rows p∧iH rows l):=by simp [iH]
@[simp] theorem alW{α:Type}[Inhabited α]{g:α→List PV}{l:List α}{i n:Nat}:uE (emap g l) i n=(i<l.length∧n≤(g (nth l i)).length):=by
 exact MC (g:=g) (l:=l) (i:=i) (K:=fun el=>n≤el.length)
def kN(E:Env)(t:TypeId)(rows:Rows)(p x:PV)(K:Nat→Row→Prop):Prop:=
 aH ((E.ty t).known=true) (match p with
 | .ptr id ver i j=>bS (rows id) ver fun r=>fY (cE x) fun l=>aH (uE r.els i (j+l.length)∧iH rows l∧l.length=(E.ty t).size) (K id ⟨ver,r.e,r.size,iA r.els i j l⟩)
 | _=>False)
@[congr] theorem afC{E:Env}{t:TypeId}{rows:Rows}{p p' x x':PV}{K:Nat→Row→Prop}(h1:p=p')(h2:x=x'):kN E t rows p x K=kN E t rows p' x' K:=by rw [h1,h2]
@[simp] theorem ajk{E:Env}{t:TypeId}{rows:Rows}{id ver i j:Nat}{x:PV}{K:Nat→Row→Prop}:kN E t rows (.ptr id ver i j) x K=aH ((E.ty t).known=true) (bS (rows id) ver fun r=>fY (cE x) fun l=>aH (uE r.els i (j+l.length)∧iH rows l∧l.length=(E.ty t).size) (K id ⟨ver,r.e,r.size,iA r.els i j l⟩)):=rfl
theorem F5{E:Env}{t:TypeId}{rows:Rows}{p x:PV}{K:Nat→Row→Prop}:(∃id r,rN E t rows p x .undef (some (id,r))∧K id r)=kN E t rows p x K:=by
 simp only [rN,kN,aH,bS,fY,uE,iH]
 apply propext
 constructor
 ·rintro⟨id,r,⟨h1,_,h2⟩,h3⟩
  refine⟨h1,?_⟩
  split at h2
  ·obtain⟨r0,q1,q2,el,q3,l,q4,q5,q6,q7,q8⟩:=h2
   simp only [Option.some.injEq,Prod.mk.injEq]at q8
   obtain⟨rfl,rfl⟩:=q8
   refine⟨r0,q1,q2,l,q4,⟨⟨el,q3,q7⟩,q5,q6⟩,?_⟩
   simp only [iA,q3,Option.getD_some]
   rw [q2]at h3
   exact h3
  ·exact h2.elim
 ·rintro⟨h1,h2⟩
  split at h2
  ·obtain⟨r0,q1,q2,l,q4,⟨⟨el,q3,q7⟩,q5,q6⟩,h3⟩:=h2
   simp only [iA,q3,Option.getD_some]at h3
   refine⟨_,_,⟨h1,trivial,r0,q1,q2,el,q3,l,q4,q5,q6,q7,rfl⟩,?_⟩
   rw [←q2]at h3
   exact h3
  ·exact h2.elim
def kO(rows:Rows)(y:PV)(K:List (List PV)→Prop):Prop:=
 match y with
 | .nil=>K []
 | .sl k=>K k
 | .iR k=>K k
 | .own id ver off len=>bS (rows id) ver fun r=>K ((r.els.drop off).take len)
 | _=>False
@[congr] theorem ajl{rows:Rows}{y y':PV}{K:List (List PV)→Prop}(h:y=y'):kO rows y K=kO rows y' K:=by rw [h]
@[simp] theorem apI{rows:Rows}{K:List (List PV)→Prop}:kO rows .nil K=go (K []):=rfl
@[simp] theorem ar1{rows:Rows}{l:List (List PV)}{K:List (List PV)→Prop}:kO rows (.sl l) K=go (K l):=rfl
@[simp] theorem apJ{α:Type}{g:α→List PV}{rows:Rows}{l:List α}{K:List (List PV)→Prop}:kO rows (aJ g l) K=go (K (emap g l)):=rfl
@[simp] theorem apK{rows:Rows}{l:List (List PV)}{K:List (List PV)→Prop}:kO rows (.iR l) K=go (K l):=rfl
@[simp] theorem apL{rows:Rows}{id ver off len:Nat}{K:List (List PV)→Prop}:kO rows (.own id ver off len) K=bS (rows id) ver fun r=>K ((r.els.drop off).take len):=rfl
theorem U3{rows:Rows}{y:PV}{K:List (List PV)→Prop}:(∃l,rO rows y l∧K l)=kO rows y K:=by
 simp only [rO,kO]
 apply propext
 cases y with
 | own id ver off len =>
  simp only [bS]
  constructor
  ·rintro⟨l,⟨r,h1,h2,rfl⟩,h3⟩;exact⟨r,h1,h2,h3⟩
  ·rintro⟨r,h1,h2,h3⟩;exact⟨_,⟨r,h1,h2,rfl⟩,h3⟩
 | _=>simp
def jK(c:Prop)(len:Nat)(els:List (List PV))(K:List (List PV)→Prop):Prop:=(c∧K els)∨(¬c∧len≤els.length∧K (els.take len))
@[congr] theorem afD{c c':Prop}{len ar2:Nat}{els z9:List (List PV)}{K:List (List PV)→Prop}(h:c=c')(h1:len=ar2)(h2:els=z9):jK c len els K=jK c' ar2 z9 K:=by rw [h,h1,h2]
theorem IL{len:Nat}{els:List (List PV)}{K:List (List PV)→Prop}:jK True len els K=K els:=by simp [jK]
theorem U4{len:Nat}{els:List (List PV)}{K:List (List PV)→Prop}:jK (len=els.length) len els K=(len≤els.length∧K (els.take len)):=by
 apply propext
 constructor
 ·rintro(⟨h,hK⟩ | ⟨_,h,hK⟩)
  ·exact⟨by omega,by rw [List.take_of_length_le (by omega)];exact hK⟩
  ·exact⟨h,hK⟩
 ·rintro⟨h,hK⟩
  by_cases hc:len=els.length
  ·exact .inl ⟨hc,by rw [List.take_of_length_le (by omega)]at hK;exact hK⟩
  ·exact .inr ⟨hc,h,hK⟩
def rV(t:TI)(rows:Rows)(x y:PV)(clk d:Nat)(K:PV→Rows→Nat→Prop):Prop:=
 match t with
 | .slice e n b _=>kO rows y fun l=>aH (bG n l) (match x with
  | .nil=>aH (l.length≤room∧l.length*b≤room) (K (.own d clk 0 l.length) (dW rows d (some ⟨clk,e,n,l⟩)) (clk+1))
  | .own id ver off len=>bS (rows id) ver fun r=>aH (off=0∧r.e=e∧r.size=n) (jK (len=r.els.length) len r.els fun els=>aH (len+l.length≤room∧(len+l.length)*b≤room) (K (.own id clk 0 (len+l.length)) (dW rows id (some ⟨clk,e,n,els++l⟩)) (clk+1)))
  | .iR l0=>aH (bG n l0 ∧ ∀e∈l,∀p∈e,bI p=true) (aH (l0.length+l.length≤room∧(l0.length+l.length)*b≤room) (K (.sl (l0++l)) rows clk))
  | _=>False)
 | _=>False
@[congr] theorem ajm{t t':TI}{rows:Rows}{x x' y y':PV}{clk d:Nat}{K:PV→Rows→Nat→Prop}(h1:t=t')(h3:x=x')(h4:y=y') :
  rV t rows x y clk d K=rV t' rows x' y' clk d K:=by rw [h1,h3,h4]
section
variable {e n b clk d id ver off len:Nat} {z:List PV} {rows:Rows} {y:PV} {K:PV→Rows→Nat→Prop} {l0:List (List PV)}
@[simp] theorem apM:rV (.slice e n b z) rows .nil y clk d K=kO rows y fun l=>aH (bG n l) (aH (l.length≤room∧l.length*b≤room) (K (.own d clk 0 l.length) (dW rows d (some ⟨clk,e,n,l⟩)) (clk+1))):=rfl
@[simp] theorem apN:rV (.slice e n b z) rows (.own id ver off len) y clk d K=kO rows y fun l=>aH (bG n l) (bS (rows id) ver fun r=>aH (off=0∧r.e=e∧r.size=n) (jK (len=r.els.length) len r.els fun els=>aH (len+l.length≤room∧(len+l.length)*b≤room) (K (.own id clk 0 (len+l.length)) (dW rows id (some ⟨clk,e,n,els++l⟩)) (clk+1)))):=rfl
@[simp] theorem apO:rV (.slice e n b z) rows (.iR l0) y clk d K=kO rows y fun l=>aH (bG n l) (aH (bG n l0 ∧ ∀e∈l,∀p∈e,bI p=true) (aH (l0.length+l.length≤room∧(l0.length+l.length)*b≤room) (K (.sl (l0++l)) rows clk))):=rfl
end
theorem agl{t:TI}{rows:Rows}{x y:PV}{clk d:Nat}{K:PV→Rows→Nat→Prop}:YH t rows x y clk d K=rV t rows x y clk d K:=by
 unfold YH rV
 cases t with
 | slice e n b z =>
  dsimp only
  rw [←U3]
  congr 1;funext l;congr 1
  simp only [aH,bG]
  congr 1
  cases x with
  | own id ver off len =>
   simp only [bS,U4]
   apply propext
   constructor
   ·rintro⟨r,h1,h2,h3,h4,h5,h6,h7⟩;exact⟨r,h1,h2,⟨h3,h5,h6⟩,h4,h7⟩
   ·rintro⟨r,h1,h2,⟨h3,h5,h6⟩,h4,h7⟩;exact⟨r,h1,h2,h3,h4,h5,h6,h7⟩
  | iR l0=>simp only [bG,and_assoc]
  | _=>rfl
 | _=>rfl
def fzR(o:Option Row)(ver off len:Nat):PV:=
 match o with
 | some r=>if r.ver=ver then .sl ((r.els.drop off).take len)else .undef
 | none => .undef
@[simp] theorem ayh{rows:Rows}{id ver off len:Nat}:fz rows (.own id ver off len)=fzR (rows id) ver off len:=rfl
@[simp] theorem ar3{α:Type}{g:α→List PV}{l:List α}{ver e n off len:Nat}:fzR (some ⟨ver,e,n,emap g l⟩) ver off len=aJ g ((l.drop off).take len):=by simp [fzR,aJ,emap]
@[simp] theorem ayi{rows:Rows}:fz rows .nil = .sl []:=rfl
@[simp] theorem ayj{rows:Rows}{l:List (List PV)}:fz rows (.iR l) = .sl l:=rfl
@[simp] theorem aBl{rows:Rows}{l:List (List PV)}:fz rows (.sl l) = .sl l:=rfl
@[simp] theorem ayk{α:Type}{g:α→List PV}{rows:Rows}{l:List α}:fz rows (aJ g l)=aJ g l:=rfl
@[simp] theorem ayl{rows:Rows}{k:IntKind}{n:Int}:fz rows (.int k n) = .int k n:=rfl
@[simp] theorem awf{rows:Rows}{b:Bool}:fz rows (.bool b) = .bool b:=rfl
@[simp] theorem aBm{rows:Rows}{f:FuncId}{l:List PV}:fz rows (.fn f l) = .fn f l:=rfl
@[simp] theorem aym{rows:Rows}{id ver off len:Nat}:pz rows (.own id ver off len)=fzR (rows id) ver off len:=rfl
@[simp] theorem ayn{rows:Rows}:pz rows .nil = .sl []:=rfl
@[simp] theorem ayo{rows:Rows}{l:List (List PV)}:pz rows (.iR l) = .sl l:=rfl
@[simp] theorem aBn{rows:Rows}{l:List (List PV)}:pz rows (.sl l) = .sl l:=rfl
@[simp] theorem ayp{α:Type}{g:α→List PV}{rows:Rows}{l:List α}:pz rows (aJ g l)=aJ g l:=rfl
@[simp] theorem ayq{rows:Rows}{k:IntKind}{n:Int}:pz rows (.int k n) = .int k n:=rfl
@[simp] theorem awg{rows:Rows}{b:Bool}:pz rows (.bool b) = .bool b:=rfl
@[simp] theorem aBo{rows:Rows}{f:FuncId}{l:List PV}:pz rows (.fn f l) = .fn f l:=rfl
@[simp] theorem aBp{rows:Rows}{l:List PV}:pz rows (.ag l) = .ag (l.map (fz rows)):=rfl
@[simp] theorem ar4{α:Type}{g:α→List PV}{l:List α}:dA (aJ g l)=true:=rfl
@[simp] theorem apQ{α:Type}{g:α→List PV}{l:List α}:bI (aJ g l)=true:=rfl
@[simp] theorem awh{α:Type}{g:α→List PV}{l:List α}:aU (aJ g l) = []:=rfl
@[simp] theorem ar5{α:Type}{g:α→List PV}{l:List α}:dV (aJ g l) = []:=rfl
@[simp] theorem awi{l:List (List PV)}:dV (.sl l) = []:=rfl
@[simp] theorem ar6{l:List (List PV)}:dV (.iR l) = []:=rfl
@[simp] theorem ar7{k:IntKind}{n:Int}:dV (.int k n) = []:=rfl
@[simp] theorem apR{b:Bool}:dV (.bool b) = []:=rfl
@[simp] theorem awj{f:FuncId}{l:List PV}:dV (.fn f l) = []:=rfl
@[simp] theorem ar8:dV .nil = []:=rfl
@[simp] theorem ar9{id ver off len:Nat}:dV (.own id ver off len) = [id]:=rfl
@[simp] theorem awk{l:List PV}:dV (.ag l)=l.flatMap aU:=rfl
@[simp] theorem asa{α:Type}{g:α→List PV}{rows:Rows}{l:List α}:iT rows (aJ g l)=True:=rfl
@[simp] theorem alX{α:Type}{g:α→List PV}{l:List α}:cE (aJ g l)=some [aJ g l]:=rfl
@[simp] theorem alY{α:Type}{g:α→List PV}{l:List α}:fC (aJ g l)=some [aJ g l]:=rfl
def cQ(o:Option Row):Prop:=∀r,o=some r → ∀e∈r.els,∀p∈e,bI p=true
@[simp] theorem agm{rows:Rows}:eU rows []=True:=by simp [eU]
@[simp] theorem afE{rows:Rows}{id:Nat}{ids:List Nat}:eU rows (id::ids)=(cQ (rows id)∧eU rows ids):=by simp [eU,cQ]
@[simp] theorem agn:cQ none=True:=by simp [cQ]
@[simp] theorem bT{α:Type}{g:α→List PV}{l:List α}{ver e n:Nat}(h:arS g):cQ (some ⟨ver,e,n,emap g l⟩)=True:=by
 simp only [cQ,emap,Option.some.injEq,eq_iff_iff,iff_true]
 rintro r rfl e he p hp
 simp at he
 obtain⟨x,_,rfl⟩:=he
 exact List.all_eq_true.1 (h x) p hp
@[simp] theorem awl{rows:Rows}:FT rows []=rows:=by funext j;simp [FT]
@[simp] theorem ayr{rows:Rows}{ids:List Nat}{j:Nat}:FT rows ids j=if j∈ids then none else rows j:=rfl
def nH(fs:List (Nat × Nat × Bool)):List (Nat × PV)→List PV→(List PV→Prop)→Prop
 | [],z,K=>K z
 | (i,p)::ps,z,K=>fY (mK fs i) fun q=>fY (fC p) fun l=>aH (l.length=q.2.1∧q.1+q.2.1≤z.length) (nH fs ps (z.take q.1++l++z.drop (q.1+q.2.1)) K)
@[congr] theorem ajn{fs:List (Nat × Nat × Bool)}{ps U5:List (Nat × PV)}{z z':List PV}{K:List PV→Prop}(h:ps=U5)(h2:z=z'):nH fs ps z K=nH fs U5 z' K:=by rw [h,h2]
@[simp] theorem apS{fs:List (Nat × Nat × Bool)}{z:List PV}{K:List PV→Prop}:nH fs [] z K=go (K z):=rfl
@[simp] theorem alZ{fs:List (Nat × Nat × Bool)}{i:Nat}{p:PV}{ps:List (Nat × PV)}{z:List PV}{K:List PV→Prop}:nH fs ((i,p)::ps) z K=fY (mK fs i) fun q=>fY (fC p) fun l=>aH (l.length=q.2.1∧q.1+q.2.1≤z.length) (nH fs ps (z.take q.1++l++z.drop (q.1+q.2.1)) K):=rfl
theorem CL{fs:List (Nat × Nat × Bool)}:∀ {ps:List (Nat × PV)} {z:List PV} {K:List PV→Prop},(∃l,tT fs ps z=some l∧K l)↔nH fs ps z K
 | [],z,K=>by simp [tT,nH]
 | (i,p)::ps,z,K=>by
  simp only [tT,nH,fY,aH,mK]
  cases h1:fs[i]? with
  | none=>simp
  | some q =>
   obtain⟨o,n,b⟩:=q
   cases h2:fC p with
   | none=>simp
   | some l =>
    simp only [Option.some.injEq,exists_eq_left']
    rw [←CL]
    split
    ·rename_i h;simp [h]
    ·rename_i h;simp [h]
def lZ(ti:TI)(ps:List (Nat × PV))(K:PV→Prop):Prop:=
 match ti with
 | .struct fs z=>nH fs ps z fun l=>K (.ag l)
 | .arr _ k n z=>nH (QB k n) ps z fun l=>K (.ag l)
 | _=>False
@[congr] theorem afF{t t':TI}{ps U5:List (Nat × PV)}{K:PV→Prop}(h:t=t')(h2:ps=U5):lZ t ps K=lZ t' U5 K:=by rw [h,h2]
@[simp] theorem acd{fs:List (Nat × Nat × Bool)}{z:List PV}{ps:List (Nat × PV)}{K:PV→Prop}:lZ (.struct fs z) ps K=nH fs ps z fun l=>K (.ag l):=rfl
@[simp] theorem ajo{e k n:Nat}{z:List PV}{ps:List (Nat × PV)}{K:PV→Prop}:lZ (.arr e k n z) ps K=nH (QB k n) ps z fun l=>K (.ag l):=rfl
@[simp] theorem apT{k n i:Nat}:mK (QB k n) i=if i<k then some (i*n,n,false)else none:=by
 unfold mK QB
 rw [List.getElem?_map]
 split
 ·rename_i h;rw [List.getElem?_range h];rfl
 ·rename_i h;rw [List.getElem?_eq_none (by simpa using h)];rfl
theorem zE{ti:TI}{ps:List (Nat × PV)}{K:PV→Prop}:aX (fun v=>rJ ti ps v) K=lZ ti ps K:=by
 simp only [rJ,lZ]
 cases ti with
 | struct fs z =>
  apply propext;simp only [aX]
  rw [←CL]
  constructor
  ·rintro⟨v,⟨l,h1,rfl⟩,h2⟩;exact⟨l,h1,h2⟩
  ·rintro⟨l,h1,h2⟩;exact⟨_,⟨l,h1,rfl⟩,h2⟩
 | arr e k n z =>
  apply propext;simp only [aX]
  rw [←CL]
  constructor
  ·rintro⟨v,⟨l,h1,rfl⟩,h2⟩;exact⟨l,h1,h2⟩
  ·rintro⟨l,h1,h2⟩;exact⟨_,⟨l,h1,rfl⟩,h2⟩
 | _=>simp [aX]
def jT(n:Nat):Nat→List (Nat × PV)→(List (List PV)→Prop)→Prop
 | _,[],K=>K []
 | k,(i,p)::ps,K=>fY (cE p) fun l=>aH (i=k∧l.length=n) (jT n (k+1) ps fun els=>K (l::els))
@[congr] theorem ago{n k:Nat}{ps U5:List (Nat × PV)}{K:List (List PV)→Prop}(h:ps=U5):jT n k ps K=jT n k U5 K:=by rw [h]
@[simp] theorem al0{n k:Nat}{K:List (List PV)→Prop}:jT n k [] K=go (K []):=rfl
@[simp] theorem ajp{n k i:Nat}{p:PV}{ps:List (Nat × PV)}{K:List (List PV)→Prop}:jT n k ((i,p)::ps) K=fY (cE p) fun l=>aH (i=k∧l.length=n) (jT n (k+1) ps fun els=>K (l::els)):=rfl
theorem xV{n:Nat}:∀ {ps:List (Nat × PV)} {k:Nat} {K:List (List PV)→Prop},(∃l,iD n k ps=some l∧K l)↔jT n k ps K
 | [],k,K=>by simp [iD,jT]
 | (i,p)::ps,k,K=>by
  simp only [iD,jT,fY,aH]
  cases h2:cE p with
  | none=>simp
  | some l =>
   simp only [Option.some.injEq,exists_eq_left']
   rw [←xV]
   by_cases h:i=k∧l.length=n
   ·rw [if_pos h]
    constructor
    ·rintro⟨e,h1,h3⟩
     obtain⟨e',h4,rfl⟩:=Option.map_eq_some_iff.1 h1
     exact⟨h,e',h4,h3⟩
    ·rintro⟨_,e',h4,h3⟩
     exact⟨_,by rw [h4];rfl,h3⟩
   ·rw [if_neg h];simp [h]
def CM(rows:Rows)(els:List (List PV)):Prop:=(∀e∈els,∀p∈e,bI (fz rows p)=true∧iT rows p)∧(∀e∈els,∀p∈e,aU p = [])
@[simp] theorem apU{rows:Rows}:CM rows []=True:=by simp [CM]
@[simp] theorem al1{rows:Rows}{e:List PV}{els:List (List PV)}:CM rows (e::els)=((∀p∈e,bI (fz rows p)=true∧iT rows p∧aU p = [])∧CM rows els):=by
 simp only [CM,List.mem_cons,forall_eq_or_imp,eq_iff_iff]
 constructor
 ·rintro⟨⟨h1,h2⟩,h3,h4⟩;exact⟨fun p hp=>⟨(h1 p hp).1,(h1 p hp).2,h3 p hp⟩,h2,h4⟩
 ·rintro⟨h1,h2,h4⟩;exact⟨⟨fun p hp=>⟨(h1 p hp).1,(h1 p hp).2.1⟩,h2⟩,fun p hp=>(h1 p hp).2.2,h4⟩
def vW(ti:TI)(rows:Rows)(len:Nat)(ps:List (Nat × PV))(K:PV→Prop):Prop:=
 match ti with
 | .slice _ n _ _=>jT n 0 ps fun els=>aH (len=els.length∧len≤4096∧n≤4096∧CM rows els) (K (.iR (els.map fun e=>e.map (fz rows))))
 | _=>False
@[congr] theorem ajq{t t':TI}{rows:Rows}{len:Nat}{ps U5:List (Nat × PV)}{K:PV→Prop}(h:t=t')(h2:ps=U5):vW t rows len ps K=vW t' rows len U5 K:=by rw [h,h2]
@[simp] theorem ajr{e n b:Nat}{z:List PV}{rows:Rows}{len:Nat}{ps:List (Nat × PV)}{K:PV→Prop}:vW (.slice e n b z) rows len ps K=jT n 0 ps fun els=>aH (len=els.length∧len≤4096∧n≤4096∧CM rows els) (K (.iR (els.map fun e=>e.map (fz rows)))):=rfl
theorem F6{ti:TI}{rows:Rows}{len:Nat}{ps:List (Nat × PV)}{K:PV→Prop}:aX (fun v=>QQ ti rows len ps v) K=vW ti rows len ps K:=by
 simp only [QQ,vW]
 cases ti with
 | slice e n b z =>
  apply propext;simp only [aX]
  rw [←xV]
  constructor
  ·rintro⟨v,⟨l,h1,h2,h3,h4,h5,h6,rfl⟩,h7⟩;exact⟨l,h1,⟨h2,h3,h4,h5,h6⟩,h7⟩
  ·rintro⟨l,h1,⟨h2,h3,h4,h5,h6⟩,h7⟩;exact⟨_,⟨l,h1,h2,h3,h4,h5,h6,rfl⟩,h7⟩
 | _=>simp [aX]
def vX(i:Nat)(x:PV)(K:PV→Prop):Prop:=
 match x with
 | .dU l=>fY (mK l i) K
 | _=>False
@[congr] theorem ajs{i:Nat}{x x':PV}{K:PV→Prop}(h:x=x'):vX i x K=vX i x' K:=by rw [h]
@[simp] theorem apV{i:Nat}{l:List PV}{K:PV→Prop}:vX i (.dU l) K=fY (mK l i) K:=rfl
theorem F7{i:Nat}{x:PV}{K:PV→Prop}:aX (fun v=>P9 i x v) K=vX i x K:=by
 simp only [P9,vX]
 cases x<;>first | rfl | simp [aX]
def E8:List Oper→Nat→Option Tmp
 | [],_=>none
 | o::_,0=>o.dst
 | _::os,n+1=>E8 os n
theorem IM:∀(ops:List Oper) (j:Nat),E8 ops j=(ops[j]?).bind (·.dst)
 | [],j=>by simp [E8]
 | o::os,0=>by simp [E8]
 | o::os,n+1=>by simp [E8,IM os n]
@[simp] theorem apW{d:Option Tmp}{op:Op}{ty:TypeId}{pos:String}{af:Array Edge}{g:Option (Nat × Bool)}{os:List Oper}:E8 (⟨d,op,ty,pos,af,g⟩::os) 0=d:=rfl
@[simp] theorem apX{o:Oper}{os:List Oper}{n:Nat}:E8 (o::os) (n+1)=E8 os n:=rfl
def qC(o:Option Tmp)(f:Nat→PV)(w:Bool)(A B:Prop):Prop:=
 match o with
 | none=>False
 | some e=>stepG (f e) w A B
@[congr] theorem agp{o o':Option Tmp}{f:Nat→PV}{w:Bool}{A B:Prop}(h:o=o'):qC o f w A B=qC o' f w A B:=by rw [h]
@[simp] theorem ajt{e:Tmp}{f:Nat→PV}{w:Bool}{A B:Prop}:qC (some e) f w A B=stepG (f e) w A B:=rfl
@[simp] theorem apY{o:Option Tmp}{f:Nat→PV}{w:Bool}{A B:Prop}:go (qC o f w A B)=qC o f w A B:=rfl
section
variable {E:Env} {ops os:List Oper} {K:PS→Prop} {f:Nat→PV} {rows:Rows} {clk:Nat} {d:Option Tmp} {ty:TypeId} {pos:String} {af:Array Edge} {k:Nat} {bQ:Nat→Nat→Prop} {aL:Nat→Nat→Prop}
theorem MF{op:Op}{j:Nat}{want:Bool}:aM E ops (⟨d,op,ty,pos,af,some (j,want)⟩::os) K ⟨f,rows,clk⟩=qC ((ops[j]?).bind (·.dst)) f want (aM E ops (⟨d,op,ty,pos,af,none⟩::os) K ⟨f,rows,clk⟩) (aM E ops os K ⟨put f d (.dU []),rows,clk⟩):=RA
theorem MG{op:Op}{j:Nat}{want:Bool}:aN E ops clk k (⟨d,op,ty,pos,af,some (j,want)⟩::os) K ⟨f,rows,bQ,aL⟩=qC ((ops[j]?).bind (·.dst)) f want (aN E ops clk k (⟨d,op,ty,pos,af,none⟩::os) K ⟨f,rows,bQ,aL⟩) (aN E ops clk (k+1) os K ⟨put f d (.dU []),rows,bQ,aL⟩):=RJ
end
section
variable {E:Env} {ops os:List Oper} {K:PS→Prop} {f:Nat→PV} {rows:Rows} {clk:Nat} {d:Option Tmp} {ty:TypeId} {pos:String} {af:Array Edge} {k:Nat} {bQ:Nat→Nat→Prop} {aL:Nat→Nat→Prop}
theorem RU{t:TypeId}{x:Operand}:aM E ops (⟨d, .load t x,ty,pos,af,none⟩::os) K ⟨f,rows,clk⟩=lN E t rows (aP f x) fun v=>aM E ops os K ⟨put f d v,rows,clk⟩:=by rw [YF,uQ]
theorem MH{t:TypeId}{i:Nat}{x:Operand}:aM E ops (⟨d, .field t x i,ty,pos,af,none⟩::os) K ⟨f,rows,clk⟩=kK (E.ty t) i (aP f x) fun v=>aM E ops os K ⟨put f d v,rows,clk⟩:=by rw [RB,zA]
theorem AE{t:TypeId}{i:Nat}{x:Operand}:aM E ops (⟨d, .fieldAddr t x i,ty,pos,af,none⟩::os) K ⟨f,rows,clk⟩=dX (E.ty t) rows i (aP f x) fun v=>aM E ops os K ⟨put f d v,rows,clk⟩:=by rw [CD,qU]
theorem AF{t:TypeId}{x y:Operand}:aM E ops (⟨d, .indexAddr t x y,ty,pos,af,none⟩::os) K ⟨f,rows,clk⟩=cM (E.ty t) rows (aP f x) (aP f y) fun v=>aM E ops os K ⟨put f d v,rows,clk⟩:=by rw [CF,qV]
theorem MI{t:TypeId}{x:Operand}{lo hi mx:Option Operand}:aM E ops (⟨d, .slice t x lo hi mx,ty,pos,af,none⟩::os) K ⟨f,rows,clk⟩=gE (E.ty t) rows (aP f x) (lo.map (aP f)) (hi.map (aP f)) (mx.map (aP f)) fun v=>aM E ops os K ⟨put f d v,rows,clk⟩:=by rw [RC,zD]
theorem YQ{t:TypeId}{x:Operand}:aM E ops (⟨d, .call { callee:=.builtin .len,args:=⟨[x]⟩,argTypes:=⟨[t]⟩ },ty,pos,af,none⟩::os) K ⟨f,rows,clk⟩=mO (E.ty t) rows (aP f x) fun v=>aM E ops os K ⟨put f d v,rows,clk⟩:=by rw [abY,F4]
theorem MJ{t:TypeId}{p x:Operand}:aM E ops (⟨none, .store t p x,ty,pos,af,none⟩::os) K ⟨f,rows,clk⟩=kN E t rows (aP f p) (aP f x) fun id r=>aM E ops os K ⟨f,dW rows id (some r),clk⟩:=by rw [RG,F5]
theorem IP{t t2:TypeId}{x y:Operand}:aM E ops (⟨d, .call { callee:=.builtin .append,args:=⟨[x,y]⟩,argTypes:=⟨[t,t2]⟩ },ty,pos,af,none⟩::os) K ⟨f,rows,clk⟩ =
  aH (t2=t∨slT (E.ty t2)=true) (rV (E.ty t) rows (aP f x) (aP f y) clk (d.getD 0) fun v rows clk=>aM E ops os K ⟨put f d v,rows,clk⟩):=by rw [L8,agl]
theorem RV{t:TypeId}{x:Operand}:aN E ops clk k (⟨d, .load t x,ty,pos,af,none⟩::os) K ⟨f,rows,bQ,aL⟩=lN E t (eD .any ops k aL rows) (aP f x) fun v=>aN E ops clk (k+1) os K ⟨put f d v,rows,i6 k (aU (aP f x)) bQ,aL⟩:=by rw [YM,uQ]
theorem ML{t:TypeId}{i:Nat}{x:Operand}:aN E ops clk k (⟨d, .field t x i,ty,pos,af,none⟩::os) K ⟨f,rows,bQ,aL⟩=kK (E.ty t) i (aP f x) fun v=>aN E ops clk (k+1) os K ⟨put f d v,rows,bQ,aL⟩:=by rw [RK,zA]
theorem AG{t:TypeId}{i:Nat}{x:Operand}:aN E ops clk k (⟨d, .fieldAddr t x i,ty,pos,af,none⟩::os) K ⟨f,rows,bQ,aL⟩=dX (E.ty t) (eD .any ops k aL rows) i (aP f x) fun v=>aN E ops clk (k+1) os K ⟨put f d v,rows,i6 k (aU (aP f x)) bQ,aL⟩:=by rw [CI,qU]
theorem AH{t:TypeId}{x y:Operand}:aN E ops clk k (⟨d, .indexAddr t x y,ty,pos,af,none⟩::os) K ⟨f,rows,bQ,aL⟩=cM (E.ty t) (eD .any ops k aL rows) (aP f x) (aP f y) fun v=>aN E ops clk (k+1) os K ⟨put f d v,rows,i6 k (aU (aP f x)) bQ,aL⟩:=by rw [CJ,qV]
theorem MM{t:TypeId}{x:Operand}{lo hi mx:Option Operand}:aN E ops clk k (⟨d, .slice t x lo hi mx,ty,pos,af,none⟩::os) K ⟨f,rows,bQ,aL⟩=gE (E.ty t) (eD .any ops k aL rows) (aP f x) (lo.map (aP f)) (hi.map (aP f)) (mx.map (aP f)) fun v=>aN E ops clk (k+1) os K ⟨put f d v,rows,i6 k (aU (aP f x)) bQ,aL⟩:=by rw [RL,zD]
theorem YR{t:TypeId}{x:Operand}:aN E ops clk k (⟨d, .call { callee:=.builtin .len,args:=⟨[x]⟩,argTypes:=⟨[t]⟩ },ty,pos,af,none⟩::os) K ⟨f,rows,bQ,aL⟩=mO (E.ty t) (eD .any ops k aL rows) (aP f x) fun v=>aN E ops clk (k+1) os K ⟨put f d v,rows,i6 k (aU (aP f x)) bQ,aL⟩:=by rw [ab5,F4]
theorem MN{t:TypeId}{p x:Operand}:aN E ops clk k (⟨none, .store t p x,ty,pos,af,none⟩::os) K ⟨f,rows,bQ,aL⟩ =
  kN E t (eD .any ops k aL rows) (aP f p) (aP f x) fun id r=>aH (y7 .any ops k id bQ) (aN E ops clk (k+1) os K ⟨f,dW rows id (some r),i6 k (aU (aP f p)++((cE (aP f x)).getD []).flatMap aU) bQ,nV k id aL⟩):=by rw [RN,←F5];rfl
theorem U6{x:Operand}:go (aM E ops (⟨d, .move x,ty,pos,af,none⟩::os) K ⟨f,rows,clk⟩)=go (aM E ops os K ⟨put f d (aP f x),rows,clk⟩):=YC
theorem F8{x:Operand}:go (aM E ops (⟨d, .assign x,ty,pos,af,none⟩::os) K ⟨f,rows,clk⟩)=go (aM E ops os K ⟨put f d (aP f x),rows,clk⟩):=L7
theorem agq{c a b:Operand}:go (aM E ops (⟨d, .pick c a b,ty,pos,af,none⟩::os) K ⟨f,rows,clk⟩)=iY (aP f c) true (aM E ops os K ⟨put f d (aP f a),rows,clk⟩) (aM E ops os K ⟨put f d (aP f b),rows,clk⟩):=YD
theorem ace{op:BinOp}{t t2:TypeId}{x y:Operand}:go (aM E ops (⟨d, .binOp op t x y t2,ty,pos,af,none⟩::os) K ⟨f,rows,clk⟩)=aX (fun v=>HX E op t (aP f x) (aP f y) v) fun v=>aM E ops os K ⟨put f d v,rows,clk⟩:=abX
theorem asb{op:UnOp}{t:TypeId}{x:Operand}:go (aM E ops (⟨d, .unOp op t x,ty,pos,af,none⟩::os) K ⟨f,rows,clk⟩)=aX (fun v=>yun op (aP f x) v) fun v=>aM E ops os K ⟨put f d v,rows,clk⟩:=agd
theorem IQ{s t:TypeId}{x:Operand}:go (aM E ops (⟨d, .convert s t x,ty,pos,af,none⟩::os) K ⟨f,rows,clk⟩)=aX (fun v=>tU (E.ty s) (E.ty t) (aP f x) v) fun v=>aM E ops os K ⟨put f d v,rows,clk⟩:=YE
theorem RW{i:Nat}{x:Operand}:go (aM E ops (⟨d, .extract x i,ty,pos,af,none⟩::os) K ⟨f,rows,clk⟩)=vX i (aP f x) fun v=>aM E ops os K ⟨put f d v,rows,clk⟩:=by
 show aM E ops (⟨d, .extract x i,ty,pos,af,none⟩::os) K ⟨f,rows,clk⟩=_
 rw [IH,F7]
theorem agr{t:TypeId}{x:Operand}:go (aM E ops (⟨d, .load t x,ty,pos,af,none⟩::os) K ⟨f,rows,clk⟩)=lN E t rows (aP f x) fun v=>aM E ops os K ⟨put f d v,rows,clk⟩:=RU
theorem acf{t:TypeId}{i:Nat}{x:Operand}:go (aM E ops (⟨d, .field t x i,ty,pos,af,none⟩::os) K ⟨f,rows,clk⟩)=kK (E.ty t) i (aP f x) fun v=>aM E ops os K ⟨put f d v,rows,clk⟩:=MH
theorem IU{t:TypeId}{i:Nat}{x:Operand}:go (aM E ops (⟨d, .fieldAddr t x i,ty,pos,af,none⟩::os) K ⟨f,rows,clk⟩)=dX (E.ty t) rows i (aP f x) fun v=>aM E ops os K ⟨put f d v,rows,clk⟩:=AE
theorem IW{t:TypeId}{x y:Operand}:go (aM E ops (⟨d, .indexAddr t x y,ty,pos,af,none⟩::os) K ⟨f,rows,clk⟩)=cM (E.ty t) rows (aP f x) (aP f y) fun v=>aM E ops os K ⟨put f d v,rows,clk⟩:=AF
theorem acg{t:TypeId}{x:Operand}{lo hi mx:Option Operand}:go (aM E ops (⟨d, .slice t x lo hi mx,ty,pos,af,none⟩::os) K ⟨f,rows,clk⟩)=gE (E.ty t) rows (aP f x) (lo.map (aP f)) (hi.map (aP f)) (mx.map (aP f)) fun v=>aM E ops os K ⟨put f d v,rows,clk⟩:=MI
theorem ach{t:TypeId}{parts:Array (Nat × Operand)}:go (aM E ops (⟨d, .build t parts,ty,pos,af,none⟩::os) K ⟨f,rows,clk⟩)=lZ (E.ty t) (parts.toList.map fun x=>(x.1,aP f x.2)) fun v=>aM E ops os K ⟨put f d v,rows,clk⟩:=by
 show aM E ops (⟨d, .build t parts,ty,pos,af,none⟩::os) K ⟨f,rows,clk⟩=_
 rw [RD,zE]
theorem MO{t:TypeId}{x y:Operand}:go (aM E ops (⟨d, .index t x y,ty,pos,af,none⟩::os) K ⟨f,rows,clk⟩)=aX (fun v=>uK E (E.ty t) (aP f x) (aP f y) v) fun v=>aM E ops os K ⟨put f d v,rows,clk⟩:=RF
theorem MP{x:Operand}:go (aM E ops (⟨d, .nilCheck x,ty,pos,af,none⟩::os) K ⟨f,rows,clk⟩)=uD rows (aP f x) fun v=>aM E ops os K ⟨put f d v,rows,clk⟩:=by show aM E ops _ K _=_;rw [E4,F3]
theorem al2{t:TypeId}{x:Operand}:go (aM E ops (⟨d, .call { callee:=.builtin .len,args:=⟨[x]⟩,argTypes:=⟨[t]⟩ },ty,pos,af,none⟩::os) K ⟨f,rows,clk⟩)=mO (E.ty t) rows (aP f x) fun v=>aM E ops os K ⟨put f d v,rows,clk⟩:=YQ
theorem al3{ts:Array TypeId}{x y:Operand}:go (aM E ops (⟨d, .call { callee:=.builtin .max,args:=⟨[x,y]⟩,argTypes:=ts },ty,pos,af,none⟩::os) K ⟨f,rows,clk⟩)=aX (fun v=>QC (aP f x) (aP f y) v) fun v=>aM E ops os K ⟨put f d v,rows,clk⟩:=abZ
theorem al4{ts:Array TypeId}{x y:Operand}:go (aM E ops (⟨d, .call { callee:=.builtin .min,args:=⟨[x,y]⟩,argTypes:=ts },ty,pos,af,none⟩::os) K ⟨f,rows,clk⟩)=aX (fun v=>QD (aP f x) (aP f y) v) fun v=>aM E ops os K ⟨put f d v,rows,clk⟩:=ab0
theorem E9{t:TypeId}{len:Nat}{parts:Array (Nat × Operand)}:go (aM E ops (⟨d, .buildSlice t len parts,ty,pos,af,none⟩::os) K ⟨f,rows,clk⟩)=vW (E.ty t) rows len (parts.toList.map fun x=>(x.1,aP f x.2)) fun v=>aM E ops os K ⟨put f d v,rows,clk⟩:=by
 show aM E ops (⟨d, .buildSlice t len parts,ty,pos,af,none⟩::os) K ⟨f,rows,clk⟩=_
 rw [AB,F6]
theorem aci{t:TypeId}{p x:Operand}:go (aM E ops (⟨none, .store t p x,ty,pos,af,none⟩::os) K ⟨f,rows,clk⟩)=kN E t rows (aP f p) (aP f x) fun id r=>aM E ops os K ⟨f,dW rows id (some r),clk⟩:=MJ
theorem acj{t:TypeId}:go (aM E ops (⟨d, .alloc t,ty,pos,af,none⟩::os) K ⟨f,rows,clk⟩)=aH ((E.ty t).known=true) (aM E ops os K ⟨put f d (.ptr (d.getD 0) clk 0 0),dW rows (d.getD 0) (some ⟨clk,t,(E.ty t).size,[(E.ty t).zero]⟩),clk+1⟩):=RH
theorem al5{t:TypeId}{x:Operand}:go (aM E ops (⟨d, .box t x,ty,pos,af,none⟩::os) K ⟨f,rows,clk⟩)=aH ((E.ty t).known=true) (fY (cE (aP f x)) fun l=>aH (iH rows l∧l.length=(E.ty t).size) (aM E ops os K ⟨put f d (.ptr (d.getD 0) clk 0 0),dW rows (d.getD 0) (some ⟨clk,t,(E.ty t).size,[l]⟩),clk+1⟩)):=by
 show aM E ops (⟨d, .box t x,ty,pos,af,none⟩::os) K ⟨f,rows,clk⟩=_
 rw [ab3]
 simp only [aH,fY,iH,and_assoc]
theorem IX{t:TypeId}{l c:Operand}:go (aM E ops (⟨d, .makeSlice t l c,ty,pos,af,none⟩::os) K ⟨f,rows,clk⟩)=rS (E.ty t) (aP f l) (aP f c) fun e n z x=>aM E ops os K ⟨put f d (.own (d.getD 0) clk 0 x.toNat),dW rows (d.getD 0) (some ⟨clk,e,n,List.replicate x.toNat z⟩),clk+1⟩:=CG
theorem YS{t t2:TypeId}{x y:Operand}:go (aM E ops (⟨d, .call { callee:=.builtin .append,args:=⟨[x,y]⟩,argTypes:=⟨[t,t2]⟩ },ty,pos,af,none⟩::os) K ⟨f,rows,clk⟩)=aH (t2=t∨slT (E.ty t2)=true) (rV (E.ty t) rows (aP f x) (aP f y) clk (d.getD 0) fun v rows clk=>aM E ops os K ⟨put f d v,rows,clk⟩):=IP
theorem ags{fo:Operand}{args:Array Operand}{ts:Array TypeId}:go (aM E ops (⟨d, .call { callee:=.value fo,args:=args,argTypes:=ts },ty,pos,af,none⟩::os) K ⟨f,rows,clk⟩)=rT E (aP f fo) (args.toList.map (aP f)) rows clk fun v rows clk=>aM E ops os K ⟨put f d v,rows,clk⟩:=YI
theorem MQ{g:FuncId}{caps:Array Operand}:go (aM E ops (⟨d, .makeFunc (.func g) ⟨[]⟩ caps,ty,pos,af,none⟩::os) K ⟨f,rows,clk⟩)=aH (((caps.toList.map (aP f)).map (pz rows)).all dA=true∧eU rows ((caps.toList.map (aP f)).flatMap dV))
      (aM E ops os K ⟨put f d (.fn g ((caps.toList.map (aP f)).map (pz rows))),FT rows ((caps.toList.map (aP f)).flatMap dV),clk⟩):=E5
theorem ack{op:Op}{j:Nat}{want:Bool}:go (aM E ops (⟨d,op,ty,pos,af,some (j,want)⟩::os) K ⟨f,rows,clk⟩)=qC (E8 ops j) f want (aM E ops (⟨d,op,ty,pos,af,none⟩::os) K ⟨f,rows,clk⟩) (aM E ops os K ⟨put f d (.dU []),rows,clk⟩):=by
 rw [IM,←MF];rfl
theorem agt{x:Operand}:go (aN E ops clk k (⟨d, .move x,ty,pos,af,none⟩::os) K ⟨f,rows,bQ,aL⟩)=go (aN E ops clk (k+1) os K ⟨put f d (aP f x),rows,bQ,aL⟩):=YJ
theorem YT{x:Operand}:go (aN E ops clk k (⟨d, .assign x,ty,pos,af,none⟩::os) K ⟨f,rows,bQ,aL⟩)=go (aN E ops clk (k+1) os K ⟨put f d (aP f x),rows,bQ,aL⟩):=MA
theorem agu{c a b:Operand}:go (aN E ops clk k (⟨d, .pick c a b,ty,pos,af,none⟩::os) K ⟨f,rows,bQ,aL⟩)=iY (aP f c) true (aN E ops clk (k+1) os K ⟨put f d (aP f a),rows,bQ,aL⟩) (aN E ops clk (k+1) os K ⟨put f d (aP f b),rows,bQ,aL⟩):=YK
theorem al6{op:BinOp}{t t2:TypeId}{x y:Operand}:go (aN E ops clk k (⟨d, .binOp op t x y t2,ty,pos,af,none⟩::os) K ⟨f,rows,bQ,aL⟩)=aX (fun v=>HX E op t (aP f x) (aP f y) v) fun v=>aN E ops clk (k+1) os K ⟨put f d v,rows,bQ,aL⟩:=ab4
theorem asc{op:UnOp}{t:TypeId}{x:Operand}:go (aN E ops clk k (⟨d, .unOp op t x,ty,pos,af,none⟩::os) K ⟨f,rows,bQ,aL⟩)=aX (fun v=>yun op (aP f x) v) fun v=>aN E ops clk (k+1) os K ⟨put f d v,rows,bQ,aL⟩:=agf
theorem agv{s t:TypeId}{x:Operand}:go (aN E ops clk k (⟨d, .convert s t x,ty,pos,af,none⟩::os) K ⟨f,rows,bQ,aL⟩)=aX (fun v=>tU (E.ty s) (E.ty t) (aP f x) v) fun v=>aN E ops clk (k+1) os K ⟨put f d v,rows,bQ,aL⟩:=YL
theorem RX{i:Nat}{x:Operand}:go (aN E ops clk k (⟨d, .extract x i,ty,pos,af,none⟩::os) K ⟨f,rows,bQ,aL⟩)=vX i (aP f x) fun v=>aN E ops clk (k+1) os K ⟨put f d v,rows,bQ,aL⟩:=by
 show aN E ops clk k (⟨d, .extract x i,ty,pos,af,none⟩::os) K ⟨f,rows,bQ,aL⟩=_
 rw [II,F7]
theorem agw{t:TypeId}{x:Operand}:go (aN E ops clk k (⟨d, .load t x,ty,pos,af,none⟩::os) K ⟨f,rows,bQ,aL⟩)=lN E t (eD .any ops k aL rows) (aP f x) fun v=>aN E ops clk (k+1) os K ⟨put f d v,rows,i6 k (aU (aP f x)) bQ,aL⟩:=RV
theorem acm{t:TypeId}{i:Nat}{x:Operand}:go (aN E ops clk k (⟨d, .field t x i,ty,pos,af,none⟩::os) K ⟨f,rows,bQ,aL⟩)=kK (E.ty t) i (aP f x) fun v=>aN E ops clk (k+1) os K ⟨put f d v,rows,bQ,aL⟩:=ML
theorem IY{t:TypeId}{i:Nat}{x:Operand}:go (aN E ops clk k (⟨d, .fieldAddr t x i,ty,pos,af,none⟩::os) K ⟨f,rows,bQ,aL⟩)=dX (E.ty t) (eD .any ops k aL rows) i (aP f x) fun v=>aN E ops clk (k+1) os K ⟨put f d v,rows,i6 k (aU (aP f x)) bQ,aL⟩:=AG
theorem IZ{t:TypeId}{x y:Operand}:go (aN E ops clk k (⟨d, .indexAddr t x y,ty,pos,af,none⟩::os) K ⟨f,rows,bQ,aL⟩)=cM (E.ty t) (eD .any ops k aL rows) (aP f x) (aP f y) fun v=>aN E ops clk (k+1) os K ⟨put f d v,rows,i6 k (aU (aP f x)) bQ,aL⟩:=AH
theorem acn{t:TypeId}{x:Operand}{lo hi mx:Option Operand}:go (aN E ops clk k (⟨d, .slice t x lo hi mx,ty,pos,af,none⟩::os) K ⟨f,rows,bQ,aL⟩)=gE (E.ty t) (eD .any ops k aL rows) (aP f x) (lo.map (aP f)) (hi.map (aP f)) (mx.map (aP f)) fun v=>aN E ops clk (k+1) os K ⟨put f d v,rows,i6 k (aU (aP f x)) bQ,aL⟩:=MM
theorem aco{t:TypeId}{parts:Array (Nat × Operand)}:go (aN E ops clk k (⟨d, .build t parts,ty,pos,af,none⟩::os) K ⟨f,rows,bQ,aL⟩)=lZ (E.ty t) (parts.toList.map fun x=>(x.1,aP f x.2)) fun v=>aN E ops clk (k+1) os K ⟨put f d v,rows,bQ,aL⟩:=by
 show aN E ops clk k (⟨d, .build t parts,ty,pos,af,none⟩::os) K ⟨f,rows,bQ,aL⟩=_
 rw [RM,zE]
theorem MR{x:Operand}:go (aN E ops clk k (⟨d, .nilCheck x,ty,pos,af,none⟩::os) K ⟨f,rows,bQ,aL⟩)=uD (eD .any ops k aL rows) (aP f x) fun v=>aN E ops clk (k+1) os K ⟨put f d v,rows,i6 k (aU (aP f x)) bQ,aL⟩:=by show aN E ops clk k _ K _=_;rw [E6,F3]
theorem al7{t:TypeId}{x:Operand}:go (aN E ops clk k (⟨d, .call { callee:=.builtin .len,args:=⟨[x]⟩,argTypes:=⟨[t]⟩ },ty,pos,af,none⟩::os) K ⟨f,rows,bQ,aL⟩)=mO (E.ty t) (eD .any ops k aL rows) (aP f x) fun v=>aN E ops clk (k+1) os K ⟨put f d v,rows,i6 k (aU (aP f x)) bQ,aL⟩:=YR
theorem al8{ts:Array TypeId}{x y:Operand}:go (aN E ops clk k (⟨d, .call { callee:=.builtin .max,args:=⟨[x,y]⟩,argTypes:=ts },ty,pos,af,none⟩::os) K ⟨f,rows,bQ,aL⟩)=aX (fun v=>QC (aP f x) (aP f y) v) fun v=>aN E ops clk (k+1) os K ⟨put f d v,rows,bQ,aL⟩:=ab6
theorem al9{ts:Array TypeId}{x y:Operand}:go (aN E ops clk k (⟨d, .call { callee:=.builtin .min,args:=⟨[x,y]⟩,argTypes:=ts },ty,pos,af,none⟩::os) K ⟨f,rows,bQ,aL⟩)=aX (fun v=>QD (aP f x) (aP f y) v) fun v=>aN E ops clk (k+1) os K ⟨put f d v,rows,bQ,aL⟩:=ab7
theorem FA{t:TypeId}{len:Nat}{parts:Array (Nat × Operand)}:go (aN E ops clk k (⟨d, .buildSlice t len parts,ty,pos,af,none⟩::os) K ⟨f,rows,bQ,aL⟩)=vW (E.ty t) (eD .any ops k aL rows) len (parts.toList.map fun x=>(x.1,aP f x.2)) fun v=>aN E ops clk (k+1) os K ⟨put f d v,rows,bQ,aL⟩:=by
 show aN E ops clk k (⟨d, .buildSlice t len parts,ty,pos,af,none⟩::os) K ⟨f,rows,bQ,aL⟩=_
 rw [AD,F6]
theorem acp{t:TypeId}{p x:Operand}:go (aN E ops clk k (⟨none, .store t p x,ty,pos,af,none⟩::os) K ⟨f,rows,bQ,aL⟩)=kN E t (eD .any ops k aL rows) (aP f p) (aP f x) fun id r=>aH (y7 .any ops k id bQ) (aN E ops clk (k+1) os K ⟨f,dW rows id (some r),i6 k (aU (aP f p)++((cE (aP f x)).getD []).flatMap aU) bQ,nV k id aL⟩):=MN
theorem acq{t:TypeId}:go (aN E ops clk k (⟨d, .alloc t,ty,pos,af,none⟩::os) K ⟨f,rows,bQ,aL⟩)=aH ((E.ty t).known=true∧y7 .any ops k (d.getD 0) bQ) (aN E ops (clk+1) (k+1) os K ⟨put f d (.ptr (d.getD 0) clk 0 0),dW rows (d.getD 0) (some ⟨clk,t,(E.ty t).size,[(E.ty t).zero]⟩),bQ,nV k (d.getD 0) aL⟩):=RO
theorem ama{t:TypeId}{x:Operand}:go (aN E ops clk k (⟨d, .box t x,ty,pos,af,none⟩::os) K ⟨f,rows,bQ,aL⟩)=aH ((E.ty t).known=true) (fY (cE (aP f x)) fun l=>aH (iH (fun _=>none) l∧l.length=(E.ty t).size∧y7 .any ops k (d.getD 0) bQ) (aN E ops (clk+1) (k+1) os K ⟨put f d (.ptr (d.getD 0) clk 0 0),dW rows (d.getD 0) (some ⟨clk,t,(E.ty t).size,[l]⟩),bQ,nV k (d.getD 0) aL⟩)):=by
 show aN E ops clk k (⟨d, .box t x,ty,pos,af,none⟩::os) K ⟨f,rows,bQ,aL⟩=_
 rw [ab9]
 simp only [aH,fY,iH]
theorem I0{t:TypeId}{l c:Operand}:go (aN E ops clk k (⟨d, .makeSlice t l c,ty,pos,af,none⟩::os) K ⟨f,rows,bQ,aL⟩)=rS (E.ty t) (aP f l) (aP f c) fun e n z x=>aH (y7 .any ops k (d.getD 0) bQ) (aN E ops (clk+1) (k+1) os K ⟨put f d (.own (d.getD 0) clk 0 x.toNat),dW rows (d.getD 0) (some ⟨clk,e,n,List.replicate x.toNat z⟩),bQ,nV k (d.getD 0) aL⟩):=CK
def rW(t:TI)(rows:Rows)(x y:PV)(clk d:Nat)(K:PV→Nat→Row→Prop)(K0:PV→Prop):Prop:=
 match t with
 | .slice e n b _=>kO rows y fun l=>aH (bG n l) (match x with
  | .nil=>aH (l.length≤room∧l.length*b≤room) (K (.own d clk 0 l.length) d ⟨clk,e,n,l⟩)
  | .own id ver off len=>bS (rows id) ver fun r=>aH (off=0∧r.e=e∧r.size=n) (jK (len=r.els.length) len r.els fun els=>aH (len+l.length≤room∧(len+l.length)*b≤room) (K (.own id clk 0 (len+l.length)) id ⟨clk,e,n,els++l⟩))
  | .iR l0=>aH (bG n l0 ∧ ∀e∈l,∀p∈e,bI p=true) (aH (l0.length+l.length≤room∧(l0.length+l.length)*b≤room) (K0 (.sl (l0++l))))
  | _=>False)
 | _=>False
@[congr] theorem aju{t t':TI}{rows rows':Rows}{x x' y y':PV}{clk d:Nat}{K:PV→Nat→Row→Prop}{K0:PV→Prop}(h1:t=t')(h2:rows=rows')(h3:x=x')(h4:y=y') :
  rW t rows x y clk d K K0=rW t' rows' x' y' clk d K K0:=by rw [h1,h2,h3,h4]
section
variable {e:TypeId} {n b:Nat} {z:List PV} {rows:Rows} {y:PV} {clk d id ver off len:Nat} {K:PV→Nat→Row→Prop} {K0:PV→Prop}
@[simp] theorem apZ:rW (.slice e n b z) rows .nil y clk d K K0=kO rows y fun l=>aH (bG n l) (aH (l.length≤room∧l.length*b≤room) (K (.own d clk 0 l.length) d ⟨clk,e,n,l⟩)):=rfl
@[simp] theorem ap0:rW (.slice e n b z) rows (.own id ver off len) y clk d K K0=kO rows y fun l=>aH (bG n l) (bS (rows id) ver fun r=>aH (off=0∧r.e=e∧r.size=n) (jK (len=r.els.length) len r.els fun els=>aH (len+l.length≤room∧(len+l.length)*b≤room) (K (.own id clk 0 (len+l.length)) id ⟨clk,e,n,els++l⟩))):=rfl
@[simp] theorem ap1{l0:List (List PV)}:rW (.slice e n b z) rows (.iR l0) y clk d K K0=kO rows y fun l=>aH (bG n l) (aH (bG n l0 ∧ ∀e∈l,∀p∈e,bI p=true) (aH (l0.length+l.length≤room∧(l0.length+l.length)*b≤room) (K0 (.sl (l0++l))))):=rfl
end
@[simp] theorem asd(t:TI)(r:Rows)(x y:PV)(c d:Nat)(K:PV→Nat→Row→Prop)(K0:PV→Prop):go (rW t r x y c d K K0)=rW t r x y c d K K0:=rfl
theorem acr{t:TI}{rows:Rows}{x y:PV}{clk d:Nat}{K:PV→Option (Nat × Row)→Prop}:(∃v u,uA t rows x y clk d v u∧K v u)=rW t rows x y clk d (fun v id r=>K v (some (id,r))) (fun v=>K v none):=by
 cases t with
 | slice e n b z =>
  simp only [rW,uA]
  rw [←U3]
  apply propext
  cases x with
  | nil =>
   simp only [aH,bG]
   constructor
   ·rintro⟨v,u,⟨l,h1,h2,h3,h4,rfl,rfl⟩,h6⟩
    exact⟨l,h1,h2,⟨h3,h4⟩,h6⟩
   ·rintro⟨l,h1,h2,⟨h3,h4⟩,h6⟩
    exact⟨_,_,⟨l,h1,h2,h3,h4,rfl,rfl⟩,h6⟩
  | iR l0 =>
   simp only [aH,bG]
   constructor
   ·rintro⟨v,u,⟨l,h1,h2,h3,h4,h5,h6,rfl,rfl⟩,h7⟩
    exact⟨l,h1,h2,⟨h3,h4⟩,⟨h5,h6⟩,h7⟩
   ·rintro⟨l,h1,h2,⟨h3,h4⟩,⟨h5,h6⟩,h7⟩
    exact⟨_,_,⟨l,h1,h2,h3,h4,h5,h6,rfl,rfl⟩,h7⟩
  | own id ver off len =>
   simp only [aH,bG,bS,U4]
   constructor
   ·rintro⟨v,u,⟨l,h1,h2,r,h3,h4,h5,h6,h7,h8,h9,h10,rfl,rfl⟩,h12⟩
    exact⟨l,h1,h2,r,h3,h4,⟨h5,h7,h8⟩,h6,⟨h9,h10⟩,h12⟩
   ·rintro⟨l,h1,h2,r,h3,h4,⟨h5,h7,h8⟩,h6,⟨h9,h10⟩,h12⟩
    exact⟨_,_,⟨l,h1,h2,r,h3,h4,h5,h6,h7,h8,h9,h10,rfl,rfl⟩,h12⟩
  | _=>simp [aH]
 | _=>simp [rW,uA]
theorem YU{t t2:TypeId}{x y:Operand}:go (aN E ops clk k (⟨d, .call { callee:=.builtin .append,args:=⟨[x,y]⟩,argTypes:=⟨[t,t2]⟩ },ty,pos,af,none⟩::os) K ⟨f,rows,bQ,aL⟩) =
  aH (t2=t∨slT (E.ty t2)=true) (rW (E.ty t) (eD .any ops k aL rows) (aP f x) (aP f y) clk (d.getD 0) (fun v id r=>aH (y7 .any ops k id bQ) (aN E ops (clk+1) (k+1) os K ⟨put f d v,dW rows id (some r),i6 k (aU (aP f x)++aU (aP f y)) bQ,nV k id aL⟩))
   (fun v=>aN E ops (clk+1) (k+1) os K ⟨put f d v,rows,i6 k (aU (aP f x)++aU (aP f y)) bQ,aL⟩)):=by
 show aN E ops clk k (⟨d, .call { callee:=.builtin .append,args:=⟨[x,y]⟩,argTypes:=⟨[t,t2]⟩ },ty,pos,af,none⟩::os) K ⟨f,rows,bQ,aL⟩=_
 rw [MB]
 congr 1
 rw [acr]
 simp only [LX,wlU,eF,true_and]
 rfl
def rX(t:TI)(rows:Rows)(x y:PV)(K:PV→Nat→Row→Prop):Prop:=
 match t,x with
 | .slice _ n _ _, .own id ver off len=>∃r,rows id=some r∧r.ver=ver∧r.size=n∧off+len≤r.els.length ∧ ∃l,rO rows y l∧(∀e∈l,e.length=n) ∧
   K (.int .i64 (min l.length len)) id { r with els:=r.els.take off++l.take len++r.els.drop (off+min l.length len) }
 | _,_=>False
@[congr] theorem agx{t t':TI}{rows rows':Rows}{x x' y y':PV}{K:PV→Nat→Row→Prop}(h1:t=t')(h2:rows=rows')(h3:x=x')(h4:y=y'):rX t rows x y K=rX t' rows' x' y' K:=by rw [h1,h2,h3,h4]
@[simp] theorem ap2(t:TI)(r:Rows)(x y:PV)(K:PV→Nat→Row→Prop):go (rX t r x y K)=rX t r x y K:=rfl
theorem YV{t:TI}{rows:Rows}{x y:PV}{K:PV→Option (Nat × Row)→Prop}:(∃v u,tX t rows x y v u∧K v u)=rX t rows x y fun v id r=>K v (some (id,r)):=by
 apply propext
 unfold tX rX
 constructor
 ·rintro⟨v,u,h,hK⟩
  split at h
  ·obtain⟨r,h1,h2,h3,h4,l,h5,h6,rfl,rfl⟩:=h
   exact⟨r,h1,h2,h3,h4,l,h5,h6,hK⟩
  ·exact h.elim
 ·intro h
  split at h
  ·obtain⟨r,h1,h2,h3,h4,l,h5,h6,hK⟩:=h
   exact⟨_,_,⟨r,h1,h2,h3,h4,l,h5,h6,rfl,rfl⟩,hK⟩
  ·exact h.elim
theorem agy{t t2:TypeId}{x y:Operand}:go (aN E ops clk k (⟨d, .call { callee:=.builtin .copy,args:=⟨[x,y]⟩,argTypes:=⟨[t,t2]⟩ },ty,pos,af,none⟩::os) K ⟨f,rows,bQ,aL⟩) =
  rX (E.ty t) (eD .any ops k aL rows) (aP f x) (aP f y) fun v id r=>aH (y7 .any ops k id bQ) (aN E ops clk (k+1) os K ⟨put f d v,dW rows id (some r),i6 k (aU (aP f x)++aU (aP f y)) bQ,nV k id aL⟩):=by
 show aN E ops clk k (⟨d, .call { callee:=.builtin .copy,args:=⟨[x,y]⟩,argTypes:=⟨[t,t2]⟩ },ty,pos,af,none⟩::os) K ⟨f,rows,bQ,aL⟩=_
 rw [YN,YV]
 simp only [LX,wlU,eF]
 rfl
theorem asf{e e':TypeId}{n b:Nat}{z:List PV}{rows:Rows}{id ver off len:Nat}{y:PV}{K:PV→Nat→Row→Prop}{els l:List (List PV)}(hr:rows id=some ⟨ver,e',n,els⟩)(hl:off+len≤els.length)(hy:rO rows y l)(h1:∀e∈l,e.length=n)
  (hK:go (K (.int .i64 (min l.length len)) id ⟨ver,e',n,els.take off++l.take len++els.drop (off+min l.length len)⟩)):rX (.slice e n b z) rows (.own id ver off len) y K:=
 ⟨_,hr,rfl,rfl,hl,l,hy,h1,hK⟩
@[simp] theorem ap3{E:Env}{p:PV}{eX:List PV}{rows:Rows}{K:PV→Nat→Row→Prop}:go (qB E p eX rows K)=qB E p eX rows K:=rfl
@[simp] theorem ap4{E:Env}{g:FuncId}:vN E (.fn g [])=E.HW g:=rfl
@[simp] theorem amc{E:Env}{g:FuncId}{x:PV}{l:List PV}:vN E (.fn g (x::l))=false:=rfl
theorem I1{E:Env}{g:FuncId}{rest:List PV}{e:TypeId}{n:Nat}{core eA:List PV}{v:PV}{id ver:Nat}{rows:Rows}{K:PV→Nat→Row→Prop}(h:g9 E.P g rest e n core eA v)(hp:rest.all dA=true)(hv:dA v=true)(hc:∀p∈core,bI p=true)(EV:∀p∈eA,bI p=true)
  (kB:rows id=some ⟨ver,e,n,[core]⟩) (hK:go (K v id ⟨ver,e,n,[eA]⟩)):qB E (.fn g []) (.ptr id ver 0 0::rest) rows K:=⟨v,id,_,⟨⟨rfl,rfl,hp,hv⟩,e,n,core,eA,kB,h,hc,EV,rfl⟩,hK⟩
theorem nI{P:Program}{g:FuncId}{rest:List PV}{e:TypeId}{n:Nat}{core eA:List PV}{v:PV}{id ver:Nat}{rows:Rows}{clk:Nat}{K:PV→Rows→Nat→Prop}(h:g9 P g rest e n core eA v)(hp:rest.all dA=true)(hv:dA v=true)(hc:∀p∈core,bI p=true)(EV:∀p∈eA,bI p=true)
  (kB:rows id=some ⟨ver,e,n,[core]⟩) (hK:go (K v (dW rows id (some ⟨ver,e,n,[eA]⟩)) clk)):vO P g (.ptr id ver 0 0::rest) rows clk K:=
 ⟨_,h.axQ hp hv hc EV kB,by rintro r rows' gZ ⟨rfl,rfl,rfl⟩;exact hK⟩
theorem acs{s:Tmp}{args:Array Operand}{ts:Array TypeId}:go (aN E ops clk k (⟨d, .call { callee:=.value (.tmp s),args:=args,argTypes:=ts },ty,pos,af,none⟩::os) K ⟨f,rows,bQ,aL⟩) =
  if vN E (f s)=true then qB E (f s) (args.toList.map (aP f)) (eD .any ops k aL rows) (fun v id r=>aH (y7 .any ops k id bQ) (aN E ops clk (k+1) os K ⟨put f d v,dW rows id (some r),i6 k ((args.toList.map (aP f)).flatMap aU) bQ,nV k id aL⟩))
  else qA E (f s) (args.toList.map (aP f)) (eD .any ops k aL rows) fun v=>aN E ops clk (k+1) os K ⟨put f d v,rows,bQ,aL⟩:=F0 rfl
def sZ(P:Program)(g:FuncId)(args:List PV)(c:Prop)(K:TypeId→Nat→List (List PV)→Prop):Prop:=∃e n els,(args.all dA=true∧mD P g args e n els∧c)∧K e n els
@[congr] theorem afG{P:Program}{g:FuncId}{args L9:List PV}{c c':Prop}{K:TypeId→Nat→List (List PV)→Prop}(h:args=L9)(hc:c=c'):sZ P g args c K=sZ P g L9 c' K:=by rw [h,hc]
@[simp] theorem amd{P:Program}{g:FuncId}{args:List PV}{c:Prop}{K:TypeId→Nat→List (List PV)→Prop}:go (sZ P g args c K)=sZ P g args c K:=rfl
theorem acu{P:Program}{g:FuncId}{args:List PV}{c:Prop}{K:TypeId→Nat→List (List PV)→Prop}{e:TypeId}{n:Nat}{els:List (List PV)}(h:mD P g args e n els)(hp:args.all dA=true)(hc:c)(hK:go (K e n els)):sZ P g args c K:=⟨e,n,els,⟨hp,h,hc⟩,hK⟩
theorem acv{g:FuncId}{args:Array Operand}{ts:Array TypeId}:go (aN E ops clk k (⟨d, .call { callee:=.value (.func g),args:=args,argTypes:=ts },ty,pos,af,none⟩::os) K ⟨f,rows,bQ,aL⟩) =
  if E.writes g=true then sZ E.P g (args.toList.map (aP f)) (y7 .any ops k (d.getD 0) bQ) (fun e n els=>aN E ops (clk+1) (k+1) os K ⟨put f d (.own (d.getD 0) clk 0 els.length),dW rows (d.getD 0) (some ⟨clk,e,n,els⟩),bQ,nV k (d.getD 0) aL⟩)
  else if E.HW g=true then qB E (.fn g []) (args.toList.map (aP f)) (eD .any ops k aL rows) (fun v id r=>aH (y7 .any ops k id bQ) (aN E ops clk (k+1) os K ⟨put f d v,dW rows id (some r),i6 k ((args.toList.map (aP f)).flatMap aU) bQ,nV k id aL⟩))
  else qA E (.fn g []) (args.toList.map (aP f)) (eD .any ops k aL rows) fun v=>aN E ops clk (k+1) os K ⟨put f d v,rows,bQ,aL⟩:=by
 split
 ·rename_i hw;exact RQ hw
 ·rename_i hw;exact F0 (by simpa [dS]using hw)
theorem MS{g:FuncId}{caps:Array Operand}:go (aN E ops clk k (⟨d, .makeFunc (.func g) ⟨[]⟩ caps,ty,pos,af,none⟩::os) K ⟨f,rows,bQ,aL⟩)=aH ((caps.toList.map fun x=>aP f x).all dA=true) (aN E ops clk (k+1) os K ⟨put f d (.fn g (caps.toList.map fun x=>aP f x)),rows,bQ,aL⟩):=E7
theorem acw{op:Op}{j:Nat}{want:Bool}:go (aN E ops clk k (⟨d,op,ty,pos,af,some (j,want)⟩::os) K ⟨f,rows,bQ,aL⟩)=qC (E8 ops j) f want (aN E ops clk k (⟨d,op,ty,pos,af,none⟩::os) K ⟨f,rows,bQ,aL⟩) (aN E ops clk (k+1) os K ⟨put f d (.dU []),rows,bQ,aL⟩):=by
 rw [IM,←MG];rfl
theorem acx{σ:PS}:go (aM E ops [] K σ)=K σ:=rfl
theorem ame{st:ST}:go (aN E ops clk k [] K st)=go (K ⟨st.f,st.rows,clk⟩):=rfl
@[simp] theorem U7{s:Nat}:aP f (.tmp s)=f s:=rfl
@[simp] theorem asg{g:FuncId}:aP f (.func g) = .fn g []:=rfl
@[simp] theorem YW{v:Value}:aP f (.const v)=oO v:=rfl
end
@[simp] theorem amf{k:IntKind}{n:Int}:oO (.int k n) = .int k n:=rfl
@[simp] theorem ajv{b:Bool}:oO (.bool b) = .bool b:=rfl
@[simp] theorem RY{s:ByteArray}:oO (.string s) = .str s:=rfl
@[simp] theorem ajw:oO (.pointer none) = .lE:=rfl
@[simp] theorem ajx:jO (.pointer none) = .lE:=rfl
@[simp] theorem amg:oO (.slice none 0 0) = .nil:=rfl
@[simp] theorem amh{cs:List Value}:oO (.agg ⟨cs⟩) = .ag (cs.map jO):=rfl
@[simp] theorem ami{k:IntKind}{n:Int}:jO (.int k n) = .int k n:=rfl
@[simp] theorem ajy{b:Bool}:jO (.bool b) = .bool b:=rfl
@[simp] theorem amj{s:ByteArray}:jO (.string s) = .str s:=rfl
@[simp] theorem amk:jO (.slice none 0 0) = .nil:=rfl
@[simp] theorem ash(R K:PV→Prop):go (aX R K)=aX R K:=rfl
@[simp] theorem asi(p:PV)(w:Bool)(A B:Prop):go (stepG p w A B)=stepG p w A B:=rfl
@[simp] theorem asj(p:PV)(w:Bool)(A B:Prop):go (iY p w A B)=iY p w A B:=rfl
@[simp] theorem asl(A B:Prop):go (aH A B)=aH A B:=rfl
@[simp] theorem aml(c:Prop)(len:Nat)(els:List (List PV))(K:List (List PV)→Prop):go (jK c len els K)=jK c len els K:=rfl
@[simp] theorem asm(P:Program)(g:FuncId)(l:List PV)(K:PV→Prop):go (vU P g l K)=vU P g l K:=rfl
@[simp] theorem amm(o:Option Row)(v:Nat)(K:Row→Prop):go (bS o v K)=bS o v K:=rfl
@[simp] theorem ays(l:List (List PV))(i:Nat)(K:List PV→Prop):go (F2 l i K)=F2 l i K:=rfl
@[simp] theorem ayt(t:TI)(l:List PV)(j:Nat)(K:PV→Prop):go (y9 t l j K)=y9 t l j K:=rfl
@[simp] theorem ap5(E:Env)(t:TypeId)(r:Rows)(p:PV)(K:PV→Prop):go (lN E t r p K)=lN E t r p K:=rfl
@[simp] theorem amn(t:TI)(i:Nat)(x:PV)(K:PV→Prop):go (kK t i x K)=kK t i x K:=rfl
@[simp] theorem awm(p:Nat × Nat × Bool)(l:List PV)(K:PV→Prop):go (IJ p l K)=IJ p l K:=rfl
@[simp] theorem asn(r:Rows)(x:PV)(K:PV→Prop):go (uD r x K)=uD r x K:=rfl
@[simp] theorem acy(t:TI)(r:Rows)(i:Nat)(x:PV)(K:PV→Prop):go (dX t r i x K)=dX t r i x K:=rfl
@[simp] theorem acz(t:TI)(r:Rows)(x y:PV)(K:PV→Prop):go (cM t r x y K)=cM t r x y K:=rfl
@[simp] theorem ayu(d:Nat)(o:Option PV)(K:Nat→Prop):go (zB d o K)=zB d o K:=rfl
@[simp] theorem amo(t:TI)(r:Rows)(x:PV)(a b c:Option PV)(K:PV→Prop):go (gE t r x a b c K)=gE t r x a b c K:=rfl
@[simp] theorem aso(t:TI)(r:Rows)(x:PV)(K:PV→Prop):go (mO t r x K)=mO t r x K:=rfl
@[simp] theorem amp(E:Env)(t:TypeId)(r:Rows)(p x:PV)(K:Nat→Row→Prop):go (kN E t r p x K)=kN E t r p x K:=rfl
@[simp] theorem asp(r:Rows)(y:PV)(K:List (List PV)→Prop):go (kO r y K)=kO r y K:=rfl
@[simp] theorem asq(t:TI)(r:Rows)(x y:PV)(c d:Nat)(K:PV→Rows→Nat→Prop):go (rV t r x y c d K)=rV t r x y c d K:=rfl
@[simp] theorem asr(t:TI)(x y:PV)(K:TypeId→Nat→List PV→Int→Prop):go (rS t x y K)=rS t x y K:=rfl
@[simp] theorem ap6(E:Env)(p:PV)(l:List PV)(r:Rows)(clk:Nat)(K:PV→Rows→Nat→Prop):go (rT E p l r clk K)=rT E p l r clk K:=rfl
@[simp] theorem ass(P:Program)(g:FuncId)(l:List PV)(r:Rows)(clk:Nat)(K:PV→Rows→Nat→Prop):go (vO P g l r clk K)=vO P g l r clk K:=rfl
@[simp] theorem ap7(E:Env)(p:PV)(l:List PV)(r:Rows)(K:PV→Prop):go (qA E p l r K)=qA E p l r K:=rfl
@[simp] theorem ast{fs:List (Nat × Nat × Bool)}{ps:List (Nat × PV)}{z:List PV}{K:List PV→Prop}:go (nH fs ps z K)=nH fs ps z K:=rfl
@[simp] theorem amq{t:TI}{ps:List (Nat × PV)}{K:PV→Prop}:go (lZ t ps K)=lZ t ps K:=rfl
@[simp] theorem ap8{n k:Nat}{ps:List (Nat × PV)}{K:List (List PV)→Prop}:go (jT n k ps K)=jT n k ps K:=rfl
@[simp] theorem asu{t:TI}{rows:Rows}{len:Nat}{ps:List (Nat × PV)}{K:PV→Prop}:go (vW t rows len ps K)=vW t rows len ps K:=rfl
@[simp] theorem asv{i:Nat}{x:PV}{K:PV→Prop}:go (vX i x K)=vX i x K:=rfl
@[simp] theorem awn{α:Type}(o:Option α)(K:α→Prop):go (fY o K)=fY o K:=rfl
@[simp] theorem aBq{α:Type}(p:α→Prop):go (∃x,p x) = ∃x,go (p x):=rfl
@[simp] theorem asw:go False=False:=rfl
@[simp] theorem aBr{p:Prop}:go (go p)=go p:=rfl
@[simp] theorem ajz{t:PV}{K:PV→Prop}:aX (fun v=>v=t) K=go (K t):=kJ
@[simp] theorem ayv{t:PV}{K:PV→Prop}:aX (fun v=>t=v) K=go (K t):=YB
@[simp] theorem agz{B:Prop}:aH True B=go B:=Q8
@[simp] theorem awo{len:Nat}{els:List (List PV)}{K:List (List PV)→Prop}:jK True len els K=go (K els):=IL
@[simp] theorem aBs{A B:Prop}:stepG (.bool true) true A B=go A:=abQ
@[simp] theorem aBt{A B:Prop}:stepG (.bool true) false A B=go B:=abR
@[simp] theorem aBu{A B:Prop}:stepG (.bool false) true A B=go B:=abS
@[simp] theorem aBv{A B:Prop}:stepG (.bool false) false A B=go A:=abT
@[simp] theorem aBw{w:Bool}{A B:Prop}:stepG (.dU []) w A B=go B:=abU
@[simp] theorem aBx{A B:Prop}:iY (.bool true) true A B=go A:=abN
@[simp] theorem aBy{A B:Prop}:iY (.bool true) false A B=go B:=abO
@[simp] theorem aBz{A B:Prop}:iY (.bool false) true A B=go B:=abP
@[simp] theorem aBA{A B:Prop}:iY (.bool false) false A B=go A:=abV
theorem gA{c B:Prop}(h:c):aH c B=go B:=by simp [aH,go,h]
attribute [simp] j0 abM CC abW alL Q9 IF U6 F8 agq ace asb IQ RW agr acf IU IW acg ach MO MP MR al2 al3 al4 E9 aci acj al5 IX YS ags MQ ack agt YT agy agu al6 asc agv RX agw acm IY IZ acn aco al7 al8 al9 FA acp acq ama I0 YU acs acv MS acw acx ame
attribute [simp] slT HX yun tU uK QC QD rS rT qA tT TI.known TI.size TI.zero TI.agg abG abH vT room
theorem FB{E:Env}{ops:List Oper}{K:PS→Prop}{f:Nat→PV}{rows:Rows}{clk:Nat}:gR E 0 ops K ⟨f,rows,clk⟩=aN E ops clk 0 ops K ⟨f,rows,fun _ _=>False,fun _ _=>False⟩:=by simp [gR]
@[simp] theorem ap9{b:Bool}:dA (.bool b)=true:=rfl
@[simp] theorem amr{b:Bool}:bI (.bool b)=true:=rfl
@[simp] theorem aqa{b:Bool}:aU (.bool b) = []:=rfl
@[simp] theorem aqb{rows:Rows}{b:Bool}:iT rows (.bool b)=True:=rfl
@[simp] theorem ajA{b:Bool}:cE (.bool b)=some [.bool b]:=rfl
@[simp] theorem ajB{b:Bool}:fC (.bool b)=some [.bool b]:=rfl
@[simp] theorem asx{k:IntKind}{n:Int}:dA (.int k n)=true:=rfl
@[simp] theorem aqc{k:IntKind}{n:Int}:bI (.int k n)=true:=rfl
@[simp] theorem asy{k:IntKind}{n:Int}:aU (.int k n) = []:=rfl
@[simp] theorem asz{rows:Rows}{k:IntKind}{n:Int}:iT rows (.int k n)=True:=rfl
@[simp] theorem ams{k:IntKind}{n:Int}:cE (.int k n)=some [.int k n]:=rfl
@[simp] theorem amt{k:IntKind}{n:Int}:fC (.int k n)=some [.int k n]:=rfl
@[simp] theorem asA{s:ByteArray}:dA (.str s)=true:=rfl
@[simp] theorem aqd{s:ByteArray}:bI (.str s)=true:=rfl
@[simp] theorem asB{s:ByteArray}:aU (.str s) = []:=rfl
@[simp] theorem asC{rows:Rows}{s:ByteArray}:iT rows (.str s)=True:=rfl
@[simp] theorem amu{s:ByteArray}:cE (.str s)=some [.str s]:=rfl
@[simp] theorem amv{s:ByteArray}:fC (.str s)=some [.str s]:=rfl
@[simp] theorem aqe  : dA .lE=true:=rfl
@[simp] theorem amw  : bI .lE=true:=rfl
@[simp] theorem aqf  : aU .lE = []:=rfl
@[simp] theorem aqg  : dV .lE = []:=rfl
@[simp] theorem awp{rows:Rows}:fz rows .lE = .lE:=rfl
@[simp] theorem awq{rows:Rows}:pz rows .lE = .lE:=rfl
@[simp] theorem aqh{rows:Rows}  : iT rows .lE=True:=rfl
@[simp] theorem ajC  : cE .lE=some [.lE]:=rfl
@[simp] theorem ajD  : fC .lE=some [.lE]:=rfl
@[simp] theorem asD  : dA .nil=true:=rfl
@[simp] theorem aqi  : bI .nil=true:=rfl
@[simp] theorem asE  : aU .nil = []:=rfl
@[simp] theorem asF{rows:Rows}  : iT rows .nil=True:=rfl
@[simp] theorem amx  : cE .nil=some [.nil]:=rfl
@[simp] theorem amy  : fC .nil=some [.nil]:=rfl
@[simp] theorem awr{l:List (List PV)}:dA (.sl l)=true:=rfl
@[simp] theorem asG{l:List (List PV)}:bI (.sl l)=true:=rfl
@[simp] theorem aws{l:List (List PV)}:aU (.sl l) = []:=rfl
@[simp] theorem awt{rows:Rows}{l:List (List PV)}:iT rows (.sl l)=True:=rfl
@[simp] theorem aqj{l:List (List PV)}:cE (.sl l)=some [.sl l]:=rfl
@[simp] theorem aqk{l:List (List PV)}:fC (.sl l)=some [.sl l]:=rfl
@[simp] theorem asH{l:List (List PV)}:dA (.iR l)=true:=rfl
@[simp] theorem aql{l:List (List PV)}:bI (.iR l)=true:=rfl
@[simp] theorem asI{l:List (List PV)}:aU (.iR l) = []:=rfl
@[simp] theorem asJ{rows:Rows}{l:List (List PV)}:iT rows (.iR l)=True:=rfl
@[simp] theorem amz{l:List (List PV)}:cE (.iR l)=some [.iR l]:=rfl
@[simp] theorem amA{l:List (List PV)}:fC (.iR l)=some [.iR l]:=rfl
@[simp] theorem agA{l:List PV}:dA (.rd l)=true:=rfl
@[simp] theorem acA{l:List PV}:bI (.rd l)=true:=rfl
@[simp] theorem agB{l:List PV}:aU (.rd l) = []:=rfl
@[simp] theorem awu{rows:Rows}{l:List PV}:iT rows (.rd l)=True:=rfl
@[simp] theorem aqm{l:List PV}:cE (.rd l)=some [.rd l]:=rfl
@[simp] theorem aqn{l:List PV}:fC (.rd l)=some [.rd l]:=rfl
@[simp] theorem awv{f:FuncId}{l:List PV}:dA (.fn f l)=true:=rfl
@[simp] theorem asK{f:FuncId}{l:List PV}:bI (.fn f l)=true:=rfl
@[simp] theorem aww{f:FuncId}{l:List PV}:aU (.fn f l) = []:=rfl
@[simp] theorem awx{rows:Rows}{f:FuncId}{l:List PV}:iT rows (.fn f l)=True:=rfl
@[simp] theorem aqo{f:FuncId}{l:List PV}:cE (.fn f l)=some [.fn f l]:=rfl
@[simp] theorem aqp{f:FuncId}{l:List PV}:fC (.fn f l)=some [.fn f l]:=rfl
@[simp] theorem awy{l:List PV}:dA (.ag l)=l.all bI:=rfl
@[simp] theorem asL{l:List PV}:dA (.dU l)=true:=rfl
@[simp] theorem aqq{l:List PV}:cE (.ag l)=some l:=rfl
@[simp] theorem aqr{l:List PV}:fC (.ag l)=some l:=rfl
@[simp] theorem asM{id v o l:Nat}:aU (.own id v o l) = [id]:=rfl
@[simp] theorem asN{id v o l:Nat}:aU (.ptr id v o l) = [id]:=rfl
@[simp] theorem amB{id v o l:Nat}:cE (.own id v o l)=some [.own id v o l]:=rfl
@[simp] theorem amC{id v o l:Nat}:cE (.ptr id v o l)=some [.ptr id v o l]:=rfl
def rowAt(o:Option Row)(ver:Nat):Prop:=∃r,o=some r∧r.ver=ver
@[simp] theorem amD{r:Row}{ver:Nat}:rowAt (some r) ver=(r.ver=ver):=by simp [rowAt]
@[simp] theorem asO{rows:Rows}{id v o l:Nat}:iT rows (.own id v o l)=rowAt (rows id) v:=rfl
@[simp] theorem asP{rows:Rows}{id v o l:Nat}:iT rows (.ptr id v o l)=rowAt (rows id) v:=rfl
@[simp] theorem aqs{e l:List PV}{j:Nat}:iA [e] 0 j l = [e.take j++l++e.drop (j+l.length)]:=by simp [iA]
@[simp] theorem aqt{e:List PV}{n:Nat}:uE [e] 0 n=(n≤e.length):=by simp [uE]
@[simp] theorem aqu{E:Env}{σ:PS}{t:Tmp}{rs:List ResultVar}{K:List PV→Prop}:nG E σ (.tmp t::rs) K=nG E σ rs fun vs=>K (σ.f t::vs):=rfl
@[simp] theorem aqv{E:Env}{σ:PS}{K:List PV→Prop}:nG E σ [] K=K []:=rfl
@[simp] theorem amE{E:Env}{σ:PS}{a:Tmp}{t:TypeId}{rs:List ResultVar}{K:List PV→Prop}:nG E σ (.cell a t::rs) K=lN E t σ.rows (σ.f a) fun v=>nG E σ rs fun vs=>K (v::vs):=by
 show(∃v,tS E t σ.rows (σ.f a) v∧nG E σ rs fun vs=>K (v::vs))=_
 rw [←uQ];rfl
@[simp] theorem agC{E:Env}{ops:List Oper}{K:PS→Prop}{f:Nat→PV}{rows:Rows}{clk:Nat}:go (gR E 0 ops K ⟨f,rows,clk⟩)=go (aN E ops clk 0 ops K ⟨f,rows,fun _ _=>False,fun _ _=>False⟩):=FB
theorem wrap_i64{n:Int}(h1 : -9223372036854775808≤n)(h2:n<9223372036854775808):IntKind.i64.wrap n=n:=by
 have e:IntKind.i64.wrap n=if n%18446744073709551616≥9223372036854775808 then n%18446744073709551616-18446744073709551616 else n%18446744073709551616:=by
  simp [IntKind.wrap,IntKind.bits,IntKind.signed]
 rw [e]
 split<;>omega
theorem wrap_u64{n:Int}(h1:0≤n)(h2:n<18446744073709551616):IntKind.u64.wrap n=n:=by
 simp only [IntKind.wrap,IntKind.bits,IntKind.signed,Bool.false_and,Bool.false_eq_true,if_false]
 omega
theorem wrap_u32{n:Int}(h1:0≤n)(h2:n<4294967296):IntKind.u32.wrap n=n:=by
 simp only [IntKind.wrap,IntKind.bits,IntKind.signed,Bool.false_and,Bool.false_eq_true,if_false]
 omega
theorem wA:(∀n:Int, -9223372036854775808≤n→n<9223372036854775808→IntKind.i64.wrap n=n)∧(∀n:Int,0≤n→n<18446744073709551616→IntKind.u64.wrap n=n)∧(∀n:Int,0≤n→n<4294967296→IntKind.u32.wrap n=n) ∧
  (∀a b:Int,0≤a→a.tdiv b=a/b)∧(∀a b:Int,0≤a→a.tmod b=a%b):=⟨fun _=>wrap_i64,fun _=>wrap_u64,fun _=>wrap_u32,fun _ _ h=>Int.tdiv_eq_ediv_of_nonneg h,fun _ _ h=>Int.tmod_eq_emod_of_nonneg h⟩
theorem gw:(∀ {c B:Prop},c→aH c B=go B)∧(∀n:Int, -9223372036854775808≤n→n<9223372036854775808→IntKind.i64.wrap n=n)∧(∀n:Int,0≤n→n<18446744073709551616→IntKind.u64.wrap n=n)∧(∀n:Int,0≤n→n<4294967296→IntKind.u32.wrap n=n) ∧
  (∀a b:Int,0≤a→a.tdiv b=a/b)∧(∀a b:Int,0≤a→a.tmod b=a%b):=⟨gA,wA⟩
theorem wrap_u8{n:Int}(h1:0≤n)(h2:n<256):IntKind.u8.wrap n=n:=by
 simp only [IntKind.wrap,IntKind.bits,IntKind.signed,Bool.false_and,Bool.false_eq_true,if_false]
 omega
theorem j1{n:Int}:IntKind.u64.wrap n=n%18446744073709551616:=by
 simp only [IntKind.wrap,IntKind.bits,IntKind.signed,Bool.false_and,Bool.false_eq_true,if_false]
 rfl
theorem wrap_u32'{n:Int}:IntKind.u32.wrap n=n%4294967296:=by
 simp only [IntKind.wrap,IntKind.bits,IntKind.signed,Bool.false_and,Bool.false_eq_true,if_false]
 rfl
section
variable {E:Env} {n:Nat} {tl:Nat→Nat} {Q:PX→PS→Prop} {σ:PS}
theorem W.b7{id:Nat}{ops:List Oper}(h:∀K:PS→Prop,(∀σ,Q .normal σ→K σ)→go (aM E ops ops K σ)):W E n tl (.region id ops.toArray false) Q σ:=W.L6 h
theorem W.I2{id:Nat}{ops:List Oper}(h:∀K:PS→Prop,(∀σ,Q .normal σ→K σ)→go (gR E (tl id) ops K σ)):W E n tl (.region id ops.toArray true) Q σ:=W.abJ h
theorem W.dN{id:Nat}{ops:List Oper}{y:Code}(h:∀K:PS→Prop,(∀σ,W E n tl y Q σ→K σ)→go (aM E ops ops K σ)):W E n tl (.seq (.region id ops.toArray false) y) Q σ:=W.Q7 h
theorem W.YX{id:Nat}{ops:List Oper}{y:Code}(h:∀K:PS→Prop,(∀σ,W E n tl y Q σ→K σ)→go (gR E (tl id) ops K σ)):W E n tl (.seq (.region id ops.toArray true) y) Q σ:=W.abK h
end
section
variable {E:Env} {n:Nat} {tl:Nat→Nat} {Q:PX→PS→Prop} {σ:PS}
theorem W.bE{c:Code}(I:Nat→PS→Prop)(k:Nat)(h0:∃σ0,Gh n σ σ0∧I k σ0)(h1:∀k σ,I k σ→W E n tl c (E2 (fun σ'=>∃m σ'',Gh n σ' σ''∧m<k∧I m σ'') Q) σ):W E n tl (.loop c) Q σ:=by
 obtain⟨σ0,hg,h0⟩:=h0
 refine W.ghost hg ?_
 refine W.loop (fun k σ=>∃σ',Gh n σ σ'∧I k σ') k ⟨σ0,fun _ _ _ _ _ h=>h,h0⟩ ?_
 rintro k σ ⟨σ',hg,hI⟩
 refine W.ghost hg (W.mono (h1 k σ' hI) fun x τ hx=>?_)
 cases x with
 | normal=>obtain⟨m,σ'',h2,h3,h4⟩:=hx;exact⟨m,h3,σ'',h2,h4⟩
 | exit id=>exact hx
 | ret=>exact hx
theorem Gh.refl:Gh n σ σ:=fun _ _ _ _ _ h=>h
theorem W.acB{c:Operand}{t e:Code}(b:Prop)[Decidable b](hc:aP σ.f c = .bool (decide b))(h1:b→W E n tl t Q σ)(h2:¬b→W E n tl e Q σ):W E n tl (.cond c t e) Q σ:=W.cond ⟨_,hc,fun h=>h1 (of_decide_eq_true h),fun h=>h2 (of_decide_eq_false h)⟩
theorem W.ghf{f:Nat→PV}{rows:Rows}{clk:Nat}{c:Code}(l:List (Nat × PV))(hl:∀p∈l,f p.1=p.2)(h:W E n tl c Q ⟨fa l,rows,clk⟩):W E n tl c Q ⟨f,rows,clk⟩:=by
 have:=aB (f:=f) (rows:=rows) (clk:=clk) n (l.map (·.1))
 have e:((l.map (·.1)).map fun i=>(i,f i))=l:=by
  rw [List.map_map]
  conv=>rhs;rw [←List.map_id l]
  exact List.map_congr_left fun p hp=>by simp [hl p hp]
 rw [e]at this
 exact W.ghost this h
theorem Gh.fr{f:Nat→PV}{rows:Rows}{clk:Nat}(l:List (Nat × PV))(hl:∀p∈l,f p.1=p.2):Gh n ⟨f,rows,clk⟩ ⟨fa l,rows,clk⟩:=by
 have:=aB (f:=f) (rows:=rows) (clk:=clk) n (l.map (·.1))
 have e:((l.map (·.1)).map fun i=>(i,f i))=l:=by
  rw [List.map_map]
  conv=>rhs;rw [←List.map_id l]
  exact List.map_congr_left fun p hp=>by simp [hl p hp]
 rw [e]at this
 exact this
end
theorem cX{E:Env}{y8:FuncId}{fn:Func}{code:Code}(tl:Nat→Nat){args:List PV}{r:PV}(l:List (Nat × PV))(h1:E.P.funcs[y8]? = some fn)(h2:fn.body=some code) (h3:(fn.name == "runtime.NumGoroutine") = false)
  (gO:eY E fn.ntmps tl code=true) (eT:args.length≤fn.ntmps) (hl:∀p∈l,args.getD p.1 .undef=p.2) (h:W E fn.ntmps tl code (abH E fn.results.toList r) ⟨fa l,fun _=>none,0⟩):aE E.P y8 args r:=
 abL tl h1 h2 h3 gO eT (W.ghf l (by simpa using hl) h)
end Pm
namespace Pm
@[simp] theorem awA{a:Int}:Int.fdiv a 4294967296=a/4294967296:=Int.fdiv_eq_ediv_of_nonneg a (by decide)
@[simp] theorem awB{a:Int}:Int.fdiv a 9223372036854775808=a/9223372036854775808:=Int.fdiv_eq_ediv_of_nonneg a (by decide)
attribute [simp] Go.IntKind.bits
end Pm
namespace Pm
open Go Go.RowKit
section
variable {E:Env} {n:Nat} {tl:Nat→Nat} {Q:PX→PS→Prop} {σ:PS}
theorem W.iB{x y:Code}(J:PS→Prop)(h:W E n tl x (E2 (fun σ=>∃σ',Gh n σ σ'∧J σ') Q) σ)(hy:∀σ,J σ→W E n tl y Q σ):W E n tl (.seq x y) Q σ:=
 W.seq (W.mono h fun x σ hx=>by
  cases x with
  | normal=>obtain⟨σ',hg,hJ⟩:=hx;exact W.ghost hg (hy σ' hJ)
  | exit id=>exact hx
  | ret=>exact hx)
def RZ(J:PS→Prop)(Q:PX→PS→Prop):PX→PS→Prop
 | .normal,σ=>J σ
 | .exit id,σ=>Q (.exit id) σ
 | .ret,σ=>Q .ret σ
theorem W.dO{id:Nat}{x y:Code}(J:PS→Prop)(h:W E n tl x (E3 id (RZ (fun σ=>∃σ',Gh n σ σ'∧J σ') Q)) σ)(hy:∀σ,J σ→W E n tl y Q σ):W E n tl (.seq (.block id x) y) Q σ:=
 W.seq (W.block (W.mono h fun x σ hx=>by
  cases x with
  | normal=>obtain⟨σ',hg,hJ⟩:=hx;exact W.ghost hg (hy σ' hJ)
  | exit j =>
   simp only [E3]at hx ⊢
   split
   ·rename_i hj;rw [if_pos hj]at hx;obtain⟨σ',hg,hJ⟩:=hx;exact W.ghost hg (hy σ' hJ)
   ·rename_i hj;rw [if_neg hj]at hx;exact hx
  | ret=>exact hx))
theorem W.eJ{id:Nat}{ops:List Oper}{y:Code}(J:PS→Prop)(h:∀K:PS→Prop,(∀σ σ',Gh n σ σ'→J σ'→K σ)→go (aM E ops ops K σ))(hy:∀σ,J σ→W E n tl y Q σ):W E n tl (.seq (.region id ops.toArray false) y) Q σ:=
 W.dN fun K hK=>h K fun σ _ hg hJ=>hK σ (W.ghost hg (hy _ hJ))
theorem W.acC{id:Nat}{ops:List Oper}{y:Code}(J:PS→Prop)(h:∀K:PS→Prop,(∀σ σ',Gh n σ σ'→J σ'→K σ)→go (gR E (tl id) ops K σ))(hy:∀σ,J σ→W E n tl y Q σ):W E n tl (.seq (.region id ops.toArray true) y) Q σ:=
 W.YX fun K hK=>h K fun σ _ hg hJ=>hK σ (W.ghost hg (hy _ hJ))
@[simp] theorem ajE{J:PS→Prop}:RZ J Q .normal σ=J σ:=rfl
@[simp] theorem asQ{J:PS→Prop}:RZ J Q .ret σ=Q .ret σ:=rfl
@[simp] theorem aqw{J:PS→Prop}{id:Nat}:RZ J Q (.exit id) σ=Q (.exit id) σ:=rfl
@[simp] theorem ajF{J:PS→Prop}:E2 J Q .normal σ=J σ:=rfl
@[simp] theorem asR{J:PS→Prop}:E2 J Q .ret σ=Q .ret σ:=rfl
@[simp] theorem aqx{J:PS→Prop}{id:Nat}:E2 J Q (.exit id) σ=Q (.exit id) σ:=rfl
@[simp] theorem ajG{id:Nat}:E3 id Q .normal σ=Q .normal σ:=rfl
@[simp] theorem asS{id:Nat}:E3 id Q .ret σ=Q .ret σ:=rfl
@[simp] theorem aqy{id j:Nat}:E3 id Q (.exit j) σ=if j=id then Q .normal σ else Q (.exit j) σ:=rfl
theorem pX:(∀(Q:PX→PS→Prop) (σ:PS) (id j:Nat),E3 id Q (.exit j) σ=if j=id then Q .normal σ else Q (.exit j) σ)∧(∀(Q:PX→PS→Prop) (σ:PS) (id:Nat),E3 id Q .normal σ=Q .normal σ)∧(∀(Q:PX→PS→Prop) (σ:PS) (id:Nat),E3 id Q .ret σ=Q .ret σ) ∧
  (∀(J:PS→Prop) (Q:PX→PS→Prop) (σ:PS) (id:Nat),E2 J Q (.exit id) σ=Q (.exit id) σ)∧(∀(J:PS→Prop) (Q:PX→PS→Prop) (σ:PS),E2 J Q .normal σ=J σ)∧(∀(J:PS→Prop) (Q:PX→PS→Prop) (σ:PS),E2 J Q .ret σ=Q .ret σ) ∧
  (∀(J:PS→Prop) (Q:PX→PS→Prop) (σ:PS) (id:Nat),RZ J Q (.exit id) σ=Q (.exit id) σ)∧(∀(J:PS→Prop) (Q:PX→PS→Prop) (σ:PS),RZ J Q .normal σ=J σ)∧(∀(J:PS→Prop) (Q:PX→PS→Prop) (σ:PS),RZ J Q .ret σ=Q .ret σ):=
 ⟨fun _ _ _ _=>rfl,fun _ _ _=>rfl,fun _ _ _=>rfl,fun _ _ _ _=>rfl,fun _ _ _=>rfl,fun _ _ _=>rfl,fun _ _ _ _=>rfl,fun _ _ _=>rfl,fun _ _ _=>rfl⟩
end
end Pm
namespace Pm
open Go
theorem asT{P:Program}{g:FuncId}{eX:List PV}{rows:Rows}{clk:Nat}{K:PV→Rows→Nat→Prop}{R:PV→Rows→Nat→Prop}(h:LM P g eX rows clk R)(hK:∀r rows' gZ,R r rows' gZ→go (K r rows' gZ)):vO P g eX rows clk K:=⟨R,h,hK⟩
theorem aC{P:Program}{g:FuncId}{args:List PV}{K:PV→Prop}{v:PV}(h:aE P g args v)(hK:go (K v)):vU P g args K:=⟨v,h,hK⟩
theorem W.acD{E:Env}{n:Nat}{tl:Nat→Nat}{c:Code}{Q:PX→PS→Prop}{f:Nat→PV}{rows:Rows}{clk:Nat}(l:List Nat)(h:∀K:PS→Prop,(∀σ,W E n tl c Q σ→K σ)→K ⟨fa (l.map fun i=>(i,f i)),rows,clk⟩):W E n tl c Q ⟨f,rows,clk⟩:=W.live l (h _ fun _ h=>h)
theorem W.lv{E:Env}{n:Nat}{tl:Nat→Nat}{c:Code}{Q:PX→PS→Prop}{f:Nat→PV}{rows:Rows}{clk:Nat}{K0:PS→Prop}(l:List Nat)(hK:∀σ,W E n tl c Q σ→K0 σ)(h:∀K:PS→Prop,(∀σ,W E n tl c Q σ→K σ)→K ⟨fa (l.map fun i=>(i,f i)),rows,clk⟩):K0 ⟨f,rows,clk⟩:=hK _ (W.acD l h)
inductive Bx(P:PS→Prop):Type
  | mk
def aW{P:PS→Prop}(_:Bx P)(σ:PS):Prop:=P σ
theorem W.lw{E:Env}{n:Nat}{tl:Nat→Nat}{c:Code}{Q:PX→PS→Prop}{f:Nat→PV}{rows:Rows}{clk:Nat}{K0:PS→Prop}(l:List Nat)(hK:∀σ,W E n tl c Q σ→K0 σ)(h:aW (Bx.mk (P:=W E n tl c Q)) ⟨fa (l.map fun i=>(i,f i)),rows,clk⟩):K0 ⟨f,rows,clk⟩:=hK _ (W.acD l fun _ q=>q _ h)
theorem W.lx{E:Env}{n:Nat}{tl:Nat→Nat}{c:Code}{Q:PX→PS→Prop}{f:Nat→PV}{rows:Rows}{clk:Nat}(l:List Nat)(h:aW (Bx.mk (P:=W E n tl c Q)) ⟨fa (l.map fun i=>(i,f i)),rows,clk⟩):aW (Bx.mk (P:=W E n tl c Q)) ⟨f,rows,clk⟩:=W.acD l fun _ q=>q _ h
theorem W.sr{E:Env}{n:Nat}{tl:Nat→Nat}{Q:PX→PS→Prop}{σ:PS}{id:Nat}{ops:List Oper}{y:Code}(h:go (aM E ops ops (aW (Bx.mk (P:=W E n tl y Q))) σ)):W E n tl (.seq (.region id ops.toArray false) y) Q σ:=by
  refine W.seq ?_
  intro gO w0 S0 G a w Q' hR hQ
  simp only [eY,rR,Bool.and_eq_true]at gO
  refine wp_region_list (iG (fun σ' a' w' hk lH=>hQ .normal σ' a' w' hk lH) _ σ a w (fun o ho t ht=>?_) h hR)
  have:=Array.all_eq_true_iff_forall_mem.1 gO.1 o (by simpa using ho)
  simpa [ht]using this
theorem W.sd{E:Env}{n:Nat}{tl:Nat→Nat}{Q:PX→PS→Prop}{σ:PS}{id:Nat}{ops:List Oper}{y:Code}(h:go (gR E (tl id) ops (aW (Bx.mk (P:=W E n tl y Q))) σ)):W E n tl (.seq (.region id ops.toArray true) y) Q σ:=by
  refine W.seq ?_
  intro gO w0 S0 G a w Q' hR hQ
  exact uB (by simpa [eY]using gO) h hR fun σ' a' w' hk lH=>hQ .normal σ' a' w' hk lH
end Pm
namespace Pm
open Go Go.RowKit
def Wk(p q:PV):Prop:=q=p∨(p = .nil∧q = .sl [])
theorem Wk.rep{c:Cx}{p q:PV}{v:Value}(h:Wk p q)(hr:aK c p v):aK c q v:=by
 rcases h with rfl | ⟨rfl,rfl⟩
 ·exact hr
 ·simp only [aK,dE]at hr ⊢
  exact⟨none,0,by simpa using hr,by simp,by simp, .inl trivial⟩
theorem bC.flat{α β:Type}{R:α→β→Prop}:∀ {l:List (List α)} {m:List (List β)},bC (bC R) l m→bC R l.flatten m.flatten
 | [],[],_=>trivial
 | a::l,b::m,h=>by
  obtain⟨h1,h2⟩:=h
  have ih:=bC.flat h2
  clear h2
  induction a generalizing b with
  | nil=>cases b with
   | nil=>exact ih
   | cons=>exact h1.elim
  | cons x a iha=>cases b with
   | nil=>exact h1.elim
   | cons y b=>exact⟨h1.1,iha b h1.2⟩
theorem amF{n id ver e m clk:Nat}{f:Nat→PV}{rows:Rows}{els z9:List (List PV)}(hr:rows id=some ⟨ver,e,m,els⟩)(hw:bC (bC fun q p=>Wk p q) z9 els):Gh n ⟨f,rows,clk⟩ ⟨f,dW rows id (some ⟨ver,e,m,z9⟩),clk⟩:=by
 rintro w0 S0 G a w ⟨⟨c,rfl,kB,gB,hI,hf,hG⟩,h7,h8⟩
 have kF:c.rows id=some ⟨ver,e,m,els⟩:=by rw [kB];exact hr
 obtain⟨⟨xs,g1,g2,g3⟩,g4,g5,g6⟩:=hI.row id _ kF
 have hlen:z9.length=els.length:=hw.length
 obtain⟨p8,hA⟩:=hI.dW (w':=c.w) (r':=⟨ver,e,m,z9⟩) (xs:=xs) kF (World.grownBy.refl _ _) (by simp only [hlen];exact g1)
  (by
   have h1:=bC.flat hw
   have:∀ {l:List PV} {k:List PV} {vs:List Value},bC (fun q p=>Wk p q) l k→bC (aK c) k vs→bC (aK c) l vs:=by
    intro l
    induction l with
    | nil=>intro k vs h h';cases k with
     | nil=>exact h'
     | cons=>exact h.elim
    | cons x l ih=>intro k vs h h';cases k with
     | nil=>exact h.elim
     | cons y k=>cases vs with
      | nil=>exact h'.elim
      | cons v vs=>exact⟨h.1.rep h'.1,ih h.2 h'.2⟩
   exact this h1 g2) g3 (fun el mY=>by
   obtain⟨k,hk⟩:=List.getElem?_of_mem mY
   obtain⟨b,hb,h1⟩:=hw.get hk
   rw [h1.length]
   exact g4 b (List.mem_of_getElem? hb)) rfl rfl hlen
 refine⟨⟨{ c with rows:=dW c.rows id (some ⟨ver,e,m,z9⟩) },rfl,by simp [kB],gB,p8,fun s=>aG.tR hA _ _ (hf s),fun p hp=>aG.tR hA _ _ (hG p hp)⟩,h7,h8⟩
theorem amG{n s id e m clk:Nat}{f:Nat→PV}{rows:Rows}(hs:f s = .nil)(hm:0<m):Gh n ⟨f,rows,clk⟩ ⟨put f (some s) (.own id clk 0 0),dW rows id (some ⟨clk,e,m,[]⟩),clk+1⟩:=by
 rintro w0 S0 G a w ⟨⟨c,rfl,kB,gB,hI,hf,hG⟩,h7,h8⟩
 obtain⟨p8,hA⟩:=hI.set (w':=c.w) (ob:=none) (id:=id) (r':=⟨clk,e,m,[]⟩) (v':=.slice none 0 0) (xs:=[]) (World.grownBy.refl _ _) (by simp) ⟨by simp, .inl ⟨rfl,rfl⟩⟩ (by simp [bC]) (by simp) (by simp) hm (by simp [Value.ownBlock]) (fun hu=>Nat.lt_irrefl _ (gB _ hu))
 refine⟨⟨{ c with β:=dW c.β id (.slice none 0 0),rows:=dW c.rows id (some ⟨clk,e,m,[]⟩),used:=fun v=>v=clk∨c.used v },rfl,by simp [kB],fun v hv=>by
  show v<clk+1
  rcases hv with rfl | hv
  ·omega
  ·have:v<clk:=gB v hv
   omega,p8,fun t=>?_,fun p hp=>aG.tR hA _ _ (hG p hp)⟩,h7,h8⟩
 simp only [put]
 split
 ·rename_i ht
  subst ht
  have h1:=hf t
  simp only at h1
  rw [hs]at h1
  simp only [aG,aK,dE]at h1
  simp only [aG,aK]
  refine⟨.inl (by first | rfl | trivial),fun r hr hv=>?_⟩
  simp only [fP,Option.some.injEq]at hr
  subst hr
  exact⟨by simp, .inl ⟨trivial,none,0,0,by simp [dW],h1⟩⟩
 ·exact aG.tR hA _ _ (hf t)
theorem MT{α β:Type}{R:α→β→Prop}{x:α}{y:β}(h:R x y):∀k:Nat,bC R (List.replicate k x) (List.replicate k y)
 | 0=>trivial
 | k+1=>⟨h,MT h k⟩
section
variable {E:Env} {n:Nat} {tl:Nat→Nat} {Q:PX→PS→Prop} {c:Code} {f:Nat→PV} {rows:Rows} {clk:Nat}
theorem W.row{id ver e m:Nat}{els:List (List PV)}(z9:List (List PV))(hr:rows id=some ⟨ver,e,m,els⟩)(hw:bC (bC fun q p=>Wk p q) z9 els)(h:W E n tl c Q ⟨f,dW rows id (some ⟨ver,e,m,z9⟩),clk⟩):W E n tl c Q ⟨f,rows,clk⟩:=W.ghost (amF hr hw) h
theorem W.nil(s id e m:Nat)(hs:f s = .nil)(hm:0<m)(h:∀K:PS→Prop,(∀σ,W E n tl c Q σ→K σ)→K ⟨put f (some s) (.own id clk 0 0),dW rows id (some ⟨clk,e,m,[]⟩),clk+1⟩):W E n tl c Q ⟨f,rows,clk⟩:=W.ghost (amG hs hm) (h _ fun _ h=>h)
end
def fzP(o:Option Row)(ver i j:Nat):PV:=
 match o with
 | some r=>if r.ver=ver then .rd ((r.els.getD i []).drop j)else .undef
 | none => .undef
@[simp] theorem ayw{rows:Rows}{id ver i j:Nat}:fz rows (.ptr id ver i j)=fzP (rows id) ver i j:=rfl
@[simp] theorem ayx{rows:Rows}{id ver i j:Nat}:pz rows (.ptr id ver i j)=fzP (rows id) ver i j:=rfl
@[simp] theorem awC{ver e n:Nat}{el:List PV}:fzP (some ⟨ver,e,n,[el]⟩) ver 0 0 = .rd el:=by simp [fzP]
@[simp] theorem asU{id ver i j:Nat}:dV (.ptr id ver i j) = [id]:=rfl
@[simp] theorem ajH{ver e n:Nat}{el:List PV}:cQ (some ⟨ver,e,n,[el]⟩) = ∀p∈el,bI p=true:=by simp [cQ]
end Pm
namespace Pm
open Go
theorem fR{E:Env}{m:Nat}{ops:List Oper}{K:PS→Prop}{f:Nat→PV}{rows:Rows}{clk:Nat}:go (gR E (m+1) ops K ⟨f,rows,clk⟩)=go (aN E ops clk 0 (ops.take (ops.length-(m+1))) (aM E ops (ops.drop (ops.length-(m+1))) K) ⟨f,rows,fun _ _=>False,fun _ _=>False⟩):=by
 simp [gR]
end Pm
namespace Pm
open Go Go.RowKit
def K7(rows:Rows)(id:Nat):PV→PV
 | .own i ver off len=>if i=id then fz rows (.own i ver off len)else .own i ver off len
 | .ptr i ver a j=>if i=id then fz rows (.ptr i ver a j)else .ptr i ver a j
 | p=>p
def I3(rows:Rows)(id:Nat):PV→PV
 | .ag l => .ag (l.map (K7 rows id))
 | p=>K7 rows id p
theorem I4{w0:World}{S0:dZ}{c:Cx}(hI:Inv w0 S0 c){id:Nat}(hp:∀r,c.rows id=some r → ∀e∈r.els,∀p∈e,bI p=true){p:PV}{v:Value}(h:aK c p v):aK (EL c [id]) (K7 c.rows id p) v:=by
 have xM:∀i ∈ [id],∀r,c.rows i=some r → ∀e∈r.els,∀p∈e,bI p=true:=by intro i hi;simp at hi;subst hi;exact hp
 have key:∀q:PV,aK c q v→(∀i∈aU q,i ∈ [id])→(fz c.rows q = .undef∨bI (fz c.rows q)=true)→aK (EL c [id]) (fz c.rows q) v:=by
  intro q hq hi ho
  rcases ho with ho | ho
  ·rw [ho];simp [aK]
  ·exact aK.jN (H4 hI xM hq hi ho)
 cases p with
 | own i ver off len =>
  simp only [K7]
  split
  ·rename_i hi
   subst hi
   refine key _ h (by simp [aU]) ?_
   simp only [fz]
   cases c.rows i with
   | none=>exact .inl rfl
   | some r =>
    simp only
    split
    ·exact .inr rfl
    ·exact .inl rfl
  ·exact aK.tR (mR c [id]) _ _ h
 | ptr i ver a j =>
  simp only [K7]
  split
  ·rename_i hi
   subst hi
   refine key _ h (by simp [aU]) ?_
   simp only [fz]
   cases c.rows i with
   | none=>exact .inl rfl
   | some r =>
    simp only
    split
    ·exact .inr rfl
    ·exact .inl rfl
  ·exact aK.tR (mR c [id]) _ _ h
 | _=>exact aK.tR (mR c [id]) _ _ h
theorem U8{w0:World}{S0:dZ}{c:Cx}(hI:Inv w0 S0 c){id:Nat}(hp:∀r,c.rows id=some r → ∀e∈r.els,∀p∈e,bI p=true){p:PV}{v:Value}(h:aG c p v):aG (EL c [id]) (I3 c.rows id p) v:=by
 cases p with
 | ag l =>
  obtain⟨vs,h1,h2⟩:=h
  refine⟨vs,h1,bC.cT (by simp [h2.length]) fun k a b ha hb=>?_⟩
  simp at ha
  obtain⟨q,hq,rfl⟩:=ha
  obtain⟨b',jX,hr⟩:=h2.get hq
  rw [hb]at jX;cases jX
  exact I4 hI hp hr
 | _ =>
  simp only [aG]at h
  have:=I4 hI hp h
  simp only [I3]
  exact(by
   first
    | (simp only [K7,aG]at this ⊢;exact this)
    | (simp only [K7]at this ⊢
       split
       · rename_i hi;rw [if_pos hi]at this;simp only [fz]at this ⊢;revert this;split<;>(try split)<;>exact fun h=>h
       · rename_i hi;rw [if_neg hi]at this;exact this))
theorem F9{rows:Rows}{id:Nat}:I3 rows id .undef = .undef:=rfl
theorem acE{l:List (Nat × PV)}{g:PV→PV}(hg:g .undef = .undef):(fun s=>g (fa l s))=fa (l.map fun p=>(p.1,g p.2)):=by
 funext s
 induction l with
 | nil=>exact hg
 | cons p l ih =>
  obtain⟨i,v⟩:=p
  simp only [fa,List.map_cons]
  split
  ·rfl
  ·exact ih
theorem YZ{n clk:Nat}{l:List (Nat × PV)}{rows:Rows}(id:Nat)(hp:cQ (rows id)):Gh n ⟨fa l,rows,clk⟩ ⟨fa (l.map fun p=>(p.1,I3 rows id p.2)),FT rows [id],clk⟩:=by
 rintro w0 S0 G a w ⟨⟨c,rfl,kB,gB,hI,hf,hG⟩,h7,h8⟩
 have acF:c.rows=rows:=kB
 subst acF
 refine⟨⟨EL c [id],rfl,rfl,gB,hI.freeze [id],fun s=>?_,fun p hp=>aG.tR (mR c [id]) _ _ (hG p hp)⟩,h7,h8⟩
 rw [←acE (g:=I3 c.rows id) F9]
 exact U8 hI hp (hf s)
theorem W.freeze{E:Env}{n:Nat}{tl:Nat→Nat}{Q:PX→PS→Prop}{c:Code}{l:List (Nat × PV)}{rows:Rows}{clk:Nat}(id:Nat)(hp:cQ (rows id))(h:∀K:PS→Prop,(∀σ,W E n tl c Q σ→K σ)→K ⟨fa (l.map fun p=>(p.1,I3 rows id p.2)),FT rows [id],clk⟩):W E n tl c Q ⟨fa l,rows,clk⟩:=W.ghost (YZ id hp) (h _ fun _ h=>h)
@[simp] theorem awD{rows:Rows}{id i ver off len:Nat}:I3 rows id (.own i ver off len)=if i=id then fzR (rows i) ver off len else .own i ver off len:=rfl
@[simp] theorem awE{rows:Rows}{id i ver a j:Nat}:I3 rows id (.ptr i ver a j)=if i=id then fzP (rows i) ver a j else .ptr i ver a j:=rfl
@[simp] theorem awF{α:Type}{g:α→List PV}{rows:Rows}{id:Nat}{l:List α}:I3 rows id (aJ g l)=aJ g l:=rfl
@[simp] theorem awG{rows:Rows}{id:Nat}{k:IntKind}{n:Int}:I3 rows id (.int k n) = .int k n:=rfl
@[simp] theorem asV{rows:Rows}{id:Nat}{b:Bool}:I3 rows id (.bool b) = .bool b:=rfl
@[simp] theorem awH{rows:Rows}{id:Nat}:I3 rows id .nil = .nil:=rfl
@[simp] theorem ayy{rows:Rows}{id:Nat}{l:List (List PV)}:I3 rows id (.sl l) = .sl l:=rfl
@[simp] theorem awI{rows:Rows}{id:Nat}{l:List (List PV)}:I3 rows id (.iR l) = .iR l:=rfl
@[simp] theorem ayz{rows:Rows}{id:Nat}{l:List PV}:I3 rows id (.ag l) = .ag (l.map (K7 rows id)):=rfl
@[simp] theorem awJ{rows:Rows}{id:Nat}{k:IntKind}{n:Int}:K7 rows id (.int k n) = .int k n:=rfl
@[simp] theorem asW{rows:Rows}{id:Nat}{b:Bool}:K7 rows id (.bool b) = .bool b:=rfl
@[simp] theorem awK{rows:Rows}{id:Nat}:K7 rows id .nil = .nil:=rfl
@[simp] theorem awL{α:Type}{g:α→List PV}{rows:Rows}{id:Nat}{l:List α}:K7 rows id (aJ g l)=aJ g l:=rfl
theorem agE{n s clk:Nat}{f:Nat→PV}{rows:Rows}(q:PV)(hs:f s = .nil)(hq:q = .sl []):Gh n ⟨f,rows,clk⟩ ⟨put f (some s) q,rows,clk⟩:=by
 rintro w0 S0 G a w ⟨⟨c,rfl,kB,gB,hI,hf,hG⟩,h7,h8⟩
 refine⟨⟨c,rfl,kB,gB,hI,fun t=>?_,hG⟩,h7,h8⟩
 simp only [put]
 split
 ·rename_i ht
  subst ht
  have h1:=hf t
  simp only at h1
  rw [hs]at h1
  subst hq
  simp only [aG]at h1 ⊢
  exact Wk.rep (.inr ⟨rfl,rfl⟩) h1
 ·exact hf t
theorem W.R3{E:Env}{n:Nat}{tl:Nat→Nat}{Q:PX→PS→Prop}{c:Code}{f:Nat→PV}{rows:Rows}{clk:Nat}(s:Nat)(q:PV)(hs:f s = .nil)(hq:q = .sl [])(h:∀K:PS→Prop,(∀σ,W E n tl c Q σ→K σ)→K ⟨put f (some s) q,rows,clk⟩):W E n tl c Q ⟨f,rows,clk⟩:=W.ghost (agE q hs hq) (h _ fun _ h=>h)
theorem U9{c:Cx}{l:List (List PV)}{v:Value}(hr:aK c (.iR l) v):aK c (.sl l) v:=by
 simp only [aK,dE]at hr ⊢
 obtain⟨a,h1,h2,h3⟩:=hr
 exact⟨a,l.length,h1,Nat.le_refl _,h2,h3⟩
theorem agF{n s clk:Nat}{f:Nat→PV}{rows:Rows}(l:List (List PV))(q:PV)(hs:f s = .iR l)(hq:q = .sl l):Gh n ⟨f,rows,clk⟩ ⟨put f (some s) q,rows,clk⟩:=by
 rintro w0 S0 G a w ⟨⟨c,rfl,kB,gB,hI,hf,hG⟩,h7,h8⟩
 refine⟨⟨c,rfl,kB,gB,hI,fun t=>?_,hG⟩,h7,h8⟩
 simp only [put]
 split
 ·rename_i ht
  subst ht
  have h1:=hf t
  simp only at h1
  rw [hs]at h1
  subst hq
  simp only [aG]at h1 ⊢
  exact U9 h1
 ·exact hf t
theorem W.ayA{E:Env}{n:Nat}{tl:Nat→Nat}{Q:PX→PS→Prop}{c:Code}{f:Nat→PV}{rows:Rows}{clk:Nat}(s:Nat)(l:List (List PV))(q:PV)(hs:f s = .iR l)(hq:q = .sl l)(h:∀K:PS→Prop,(∀σ,W E n tl c Q σ→K σ)→K ⟨put f (some s) q,rows,clk⟩):W E n tl c Q ⟨f,rows,clk⟩:=W.ghost (agF l q hs hq) (h _ fun _ h=>h)
def CN(rows:Rows)(id:Nat):Option Row→Option Row
 | some r=>some { r with els:=r.els.map fun e=>e.map (K7 rows id) }
 | none=>none
def FC(rows:Rows)(id:Nat):Rows:=fun j=>if j=id then none else CN rows id (rows j)
@[simp] theorem awM{rows:Rows}{id j:Nat}:FC rows id j=if j=id then none else CN rows id (rows j):=rfl
@[simp] theorem ajI{rows:Rows}{id v e n:Nat}{els:List (List PV)}:CN rows id (some ⟨v,e,n,els⟩)=some ⟨v,e,n,els.map fun e=>e.map (K7 rows id)⟩:=rfl
@[simp] theorem ajJ{rows:Rows}{id:Nat}:CN rows id none=none:=rfl
@[simp] theorem awN{rows:Rows}{id i ver off len:Nat}:K7 rows id (.own i ver off len)=if i=id then fzR (rows i) ver off len else .own i ver off len:=rfl
@[simp] theorem awO{rows:Rows}{id i ver a j:Nat}:K7 rows id (.ptr i ver a j)=if i=id then fzP (rows i) ver a j else .ptr i ver a j:=rfl
theorem R4{n clk:Nat}{l:List (Nat × PV)}{rows:Rows}(id:Nat)(hp:cQ (rows id)):Gh n ⟨fa l,rows,clk⟩ ⟨fa (l.map fun p=>(p.1,I3 rows id p.2)),FC rows id,clk⟩:=by
 rintro w0 S0 G a w ⟨⟨c,rfl,kB,gB,hI,hf,hG⟩,h7,h8⟩
 have acF:c.rows=rows:=kB
 subst acF
 have K6:=hI.freeze [id]
 have live:∀ {j:Nat} {r':Row},FC c.rows id j=some r'→j≠id ∧ ∃r,c.rows j=some r∧r' = { r with els:=r.els.map fun e=>e.map (K7 c.rows id) }:=by
  intro j r' h
  simp only [FC]at h
  split at h
  ·cases h
  ·rename_i hj
   cases hr:c.rows j with
   | none=>rw [hr]at h;cases h
   | some r=>rw [hr]at h;simp only [CN,Option.some.injEq]at h;exact⟨hj,r,rfl,h.symm⟩
 have hA:tK (EL c [id]) { EL c [id]with rows:=FC c.rows id }:=by
  refine⟨fun _ _ h=>h,fun _ _ _=>rfl,fun _ h=>h,fun j r' h=>?_⟩
  obtain⟨hj,r,hr,rfl⟩:=live h
  exact .inr ⟨r,by simp [EL,FT,hj,hr],rfl,rfl,by simp,rfl⟩
 have hI2:Inv w0 S0 { EL c [id]with rows:=FC c.rows id }:=by
  refine⟨K6.below,K6.ext,K6.new,K6.lt0,fun j r' h=>?_,fun j r' h=>?_,fun i j r s g hr hs=>?_,K6.fin⟩
  ·obtain⟨hj,r,hr,rfl⟩:=live h
   exact hI.clock j r hr
  ·obtain⟨hj,r,hr,rfl⟩:=live h
   obtain⟨⟨xs,g1,g2,g3⟩,g4,g5,g6⟩:=hI.row j r hr
   obtain⟨_,_,f5,_⟩:=K6.row j r (by simp [EL,FT,hj,hr])
   refine⟨⟨xs,by rw [List.length_map];exact g1,?_,g3⟩,fun e he=>?_,f5,g6⟩
   ·show bC _ (List.flatten (r.els.map fun e=>e.map (K7 c.rows id))) xs
    rw [←List.map_flatten]
    refine bC.cT (by rw [List.length_map];exact g2.length) fun k p u xM hu=>?_
    rw [List.getElem?_map]at xM
    obtain⟨q,hq,rfl⟩:=Option.map_eq_some_iff.1 xM
    obtain⟨u',XS,kF⟩:=g2.get hq
    rw [hu]at XS;cases XS
    exact aK.tR hA _ _ (I4 hI hp kF)
   ·simp only [List.mem_map]at he
    obtain⟨e',rE,rfl⟩:=he
    simpa using g4 e' rE
  ·obtain⟨hi,r1,CO,rfl⟩:=live hr
   obtain⟨hj,r2,bX,rfl⟩:=live hs
   exact hI.apart i j r1 r2 g CO bX
 refine⟨⟨{ EL c [id]with rows:=FC c.rows id },rfl,rfl,gB,hI2,fun s=>?_,fun p hp=>aG.tR hA _ _ (aG.tR (mR c [id]) _ _ (hG p hp))⟩,h7,h8⟩
 show aG _ (fa (l.map fun p=>(p.1,I3 c.rows id p.2)) s) _
 rw [←acE (g:=I3 c.rows id) F9]
 exact aG.tR hA _ _ (U8 hI hp (hf s))
theorem W.VA{E:Env}{n:Nat}{tl:Nat→Nat}{Q:PX→PS→Prop}{c:Code}{l:List (Nat × PV)}{rows:Rows}{clk:Nat}(id:Nat)(hp:cQ (rows id))(h:∀K:PS→Prop,(∀σ,W E n tl c Q σ→K σ)→K ⟨fa (l.map fun p=>(p.1,I3 rows id p.2)),FC rows id,clk⟩):W E n tl c Q ⟨fa l,rows,clk⟩:=W.ghost (R4 id hp) (h _ fun _ h=>h)
end Pm

namespace Pm
open Go
theorem bH(l:List Nat){E:Env}{n:Nat}{tl:Nat→Nat}{c:Code}{Q:PX→PS→Prop}{f:Nat→PV}{rows:Rows}{clk:Nat}{X:Prop}(hX:X)(h:X→aW (Bx.mk (P:=W E n tl c Q)) ⟨fa (l.map fun i=>(i,f i)),rows,clk⟩:=by intro hX;simp;exact hX):aW (Bx.mk (P:=W E n tl c Q)) ⟨f,rows,clk⟩:=W.lx l (h hX)
theorem jC{X G:Prop}(hX:X)(h:X→G:=by intro hX;refine W.sr ?_;simp (disch:=omega) [gw];exact hX):G:=h hX
theorem nU{X G:Prop}(hX:X)(h:X→G:=by intro hX;refine W.sd ?_;simp (disch:=omega) [gw];exact hX):G:=h hX
theorem cS{P X G:Prop}(hP:P)(hX:X)(h:P→X→G:=by intro hP hX;refine aC hP ?_;simp (disch:=omega) [gw];exact hX):G:=h hP hX
section
variable (l:List Nat) {E:Env} {n:Nat} {tl:Nat→Nat} {c:Code} {Q:PX→PS→Prop} {f:Nat→PV} {rows:Rows} {clk:Nat} {P X G:Prop}
theorem aA(hX:X)(h1:aW (Bx.mk (P:=W E n tl c Q)) ⟨f,rows,clk⟩→G:=by intro hY;refine W.sr ?_;simp (disch:=omega) [gw];exact hY)(h2:X→aW (Bx.mk (P:=W E n tl c Q)) ⟨fa (l.map fun i=>(i,f i)),rows,clk⟩:=by intro hX;simp;exact hX):G:=h1 (W.lx l (h2 hX))
theorem aQ(hX:X)(h1:aW (Bx.mk (P:=W E n tl c Q)) ⟨f,rows,clk⟩→G:=by intro hY;refine W.seq ?_;refine W.sr ?_;simp (disch:=omega) [gw];exact hY)(h2:X→aW (Bx.mk (P:=W E n tl c Q)) ⟨fa (l.map fun i=>(i,f i)),rows,clk⟩:=by intro hX;simp;exact hX):G:=h1 (W.lx l (h2 hX))
theorem bU(hX:X)(h1:aW (Bx.mk (P:=W E n tl c Q)) ⟨f,rows,clk⟩→G:=by intro hY;refine W.sr ?_;simp (disch:=omega) [gw];exact hY)(h2:X→aW (Bx.mk (P:=W E n tl c Q)) ⟨fa (l.map fun i=>(i,f i)),rows,clk⟩:=by intro hX;simp;refine W.seq ?_;exact hX):G:=h1 (W.lx l (h2 hX))
theorem aR(hP:P)(hX:X)(h1:P→aW (Bx.mk (P:=W E n tl c Q)) ⟨f,rows,clk⟩→G:=by intro hP hY;refine W.sr ?_;simp (disch:=omega) [gw];refine aC hP ?_;simp (disch:=omega) [gw];exact hY)(h2:X→aW (Bx.mk (P:=W E n tl c Q)) ⟨fa (l.map fun i=>(i,f i)),rows,clk⟩:=by intro hX;simp;exact hX):G:=h1 hP (W.lx l (h2 hX))
theorem cN(hP:P)(hX:X)(h1:P→aW (Bx.mk (P:=W E n tl c Q)) ⟨f,rows,clk⟩→G:=by intro hP hY;refine aC hP ?_;simp (disch:=omega) [gw];exact hY)(h2:X→aW (Bx.mk (P:=W E n tl c Q)) ⟨fa (l.map fun i=>(i,f i)),rows,clk⟩:=by intro hX;simp;exact hX):G:=h1 hP (W.lx l (h2 hX))
end
theorem bJ{X Y G:Prop}(hX:X)(hY:Y)(h:X→Y→G:=by intro hX hY;refine W.cond ⟨_,rfl,?_,?_⟩;exact hX;exact hY):G:=h hX hY
theorem fA{X G:Prop}(hX:X)(h:X→G:=by intro hX;refine W.exit ?_;simp only [pX,if_true,if_false,reduceIte,Nat.reduceEqDiff];exact hX):G:=h hX
theorem cC{G:Prop}(h:G:=by refine W.ret ?_;simp [go]):G:=h
theorem lF{X G:Prop}(hX:X)(h:X→G:=by intro hX;refine W.skip ?_;refine W.seq ?_;refine W.block ?_;exact hX):G:=h hX
end Pm
