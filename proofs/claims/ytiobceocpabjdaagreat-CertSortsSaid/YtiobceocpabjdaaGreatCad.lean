import Derived.Test.YtiobceocpabjdaaGreatCac
set_option linter.unusedSimpArgs false
set_option linter.unusedVariables false
namespace Pm
open Go Go.RowKit
def emap{α:Type}(g:α→List PV)(l:List α):List (List PV):=l.map g
def aX{α:Type}(g:α→List PV)(l:List α):PV:=.sl (emap g l)
def nth{α:Type}[Inhabited α](l:List α)(i:Nat):α:=l[i]?.getD default
def Enc{α:Type}(g:α→List PV)(n:Nat):Prop:=∀x,(g x).length=n
def ahL{α:Type}(g:α→List PV):Prop:=∀x,(g x).all bL=true
def bE(o:Option Row)(ver:Nat)(K:Row→Prop):Prop:=∃r,o=some r∧r.ver=ver∧K r
@[congr] theorem U5{o o':Option Row}{ver:Nat}{K:Row→Prop}(h:o=o'):bE o ver K=bE o' ver K:=by rw [h]
@[simp] theorem V9{r:Row}{ver:Nat}{K:Row→Prop}:bE (some r) ver K=aE (r.ver=ver) (K r):=by simp [bE,aE]
def xW(els:List (List PV))(i:Nat)(K:List PV→Prop):Prop:=∃el,els[i]? = some el∧K el
@[congr] theorem afw{l l':List (List PV)}{i i':Nat}{K:List PV→Prop}(h:l=l')(hi:i=i'):xW l i K=xW l' i' K:=by rw [h,hi]
@[simp] theorem B9{α:Type}[Inhabited α]{g:α→List PV}{l:List α}{i:Nat}{K:List PV→Prop}:xW (emap g l) i K=aE (i<l.length) (K (g (nth l i))):=by
 simp only [xW,emap,aE,nth]
 apply propext
 constructor
 ·rintro⟨el,h1,h2⟩
  simp at h1
  obtain⟨x,h1,rfl⟩:=h1
  have:=(List.getElem?_eq_some_iff.1 h1).1
  rw [h1]
  exact⟨this,h2⟩
 ·rintro⟨h1,h2⟩
  rw [List.getElem?_eq_getElem h1]at h2
  exact⟨g l[i],by simp [h1],h2⟩
@[simp] theorem ahM{e:List PV}{es:List (List PV)}{K:List PV→Prop}:xW (e::es) 0 K=go (K e):=by show _=K e;simp [xW]
@[simp] theorem ahN{e:List PV}{es:List (List PV)}{i:Nat}{K:List PV→Prop}:xW (e::es) (i+1) K=xW es i K:=by simp [xW]
def jI{α:Type}(l:List α)(i:Nat):Option α:=l[i]?
@[simp] theorem afx{α:Type}{x:α}{l:List α}:jI (x::l) 0=some x:=rfl
@[simp] theorem afy{α:Type}{x:α}{l:List α}{n:Nat}:jI (x::l) (n+1)=jI l n:=rfl
def eB{α:Type}(o:Option α)(K:α→Prop):Prop:=∃v,o=some v∧K v
@[congr] theorem acn{α:Type}{o o':Option α}{K:α→Prop}(h:o=o'):eB o K=eB o' K:=by rw [h]
@[simp] theorem afz{α:Type}{x:α}{K:α→Prop}:eB (some x) K=go (K x):=by show _=K x;simp [eB]
def r9(ti:TI)(l:List PV)(j:Nat)(K:PV→Prop):Prop:=if ti.agg=true then aE (j+ti.size≤l.length) (K (.ag ((l.drop j).take ti.size)))else eB (jI l j) K
@[congr] theorem afA{t t':TI}{l l':List PV}{j:Nat}{K:PV→Prop}(h1:t=t')(h2:l=l'):r9 t l j K=r9 t' l' j K:=by rw [h1,h2]
@[simp] theorem alx{k:IntKind}{l:List PV}{j:Nat}{K:PV→Prop}:r9 (.int k) l j K=eB (jI l j) K:=by simp [r9,TI.agg]
@[simp] theorem ahO{l:List PV}{j:Nat}{K:PV→Prop}:r9 .bool l j K=eB (jI l j) K:=by simp [r9,TI.agg]
@[simp] theorem aly{l:List PV}{j:Nat}{K:PV→Prop}:r9 .str l j K=eB (jI l j) K:=by simp [r9,TI.agg]
@[simp] theorem afB{e n b:Nat}{z:List PV}{l:List PV}{j:Nat}{K:PV→Prop}:r9 (.slice e n b z) l j K=eB (jI l j) K:=by simp [r9,TI.agg]
@[simp] theorem alz{e m n:Nat}{z:List PV}{l:List PV}{j:Nat}{K:PV→Prop}:r9 (.arr e m n z) l j K=aE (j+z.length≤l.length) (K (.ag ((l.drop j).take z.length))):=by simp [r9,TI.agg,TI.size,TI.zero]
@[simp] theorem ahP{l:List PV}{j:Nat}{K:PV→Prop}:r9 .tV l j K=eB (jI l j) K:=by simp [r9,TI.agg]
@[simp] theorem alA{l:List PV}{j:Nat}{K:PV→Prop}:r9 .fnT l j K=eB (jI l j) K:=by simp [r9,TI.agg]
@[simp] theorem aco{fs:List (Nat × Nat × Bool)}{z:List PV}{l:List PV}{j:Nat}{K:PV→Prop}:r9 (.struct fs z) l j K=aE (j+z.length≤l.length) (K (.ag ((l.drop j).take z.length))):=by simp [r9,TI.agg,TI.size,TI.zero]
def iY(E:Env)(t:TypeId)(rows:Rows)(p:PV)(K:PV→Prop):Prop:=
 aE ((E.ty t).known=true) (match p with
 | .rd l=>r9 (E.ty t) l 0 K
 | .ptr id ver i j=>bE (rows id) ver fun r=>xW r.els i fun el=>r9 (E.ty t) el j K
 | _=>False)
@[congr] theorem WA{E:Env}{t:TypeId}{rows:Rows}{p p':PV}{K:PV→Prop}(h:p=p'):iY E t rows p K=iY E t rows p' K:=by rw [h]
@[simp] theorem afC{E:Env}{t:TypeId}{rows:Rows}{l:List PV}{K:PV→Prop}:iY E t rows (.rd l) K=aE ((E.ty t).known=true) (r9 (E.ty t) l 0 K):=rfl
@[simp] theorem acp{E:Env}{t:TypeId}{rows:Rows}{id ver i j:Nat}{K:PV→Prop}:iY E t rows (.ptr id ver i j) K=aE ((E.ty t).known=true) (bE (rows id) ver fun r=>xW r.els i fun el=>r9 (E.ty t) el j K):=rfl
theorem CA{ti:TI}{l:List PV}{j:Nat}{K:PV→Prop}:aT (fun v=>if ti.agg=true then j+ti.size≤l.length∧v = .ag ((l.drop j).take ti.size)else l[j]? = some v) K=r9 ti l j K:=by
 simp only [r9,eB]
 split
 ·rw [gR,iA]
 ·rfl
theorem pE{E:Env}{t:TypeId}{rows:Rows}{p:PV}{K:PV→Prop}:aT (fun v=>oK E t rows p v) K=iY E t rows p K:=by
 simp only [oK,iY]
 rw [gR]
 congr 1
 cases p with
 | rd l=>dsimp only;rw [←CA];simp [go]
 | ptr id ver i j =>
  simp only [bE,xW,←CA]
  apply propext;simp only [aT]
  constructor
  ·rintro⟨v,⟨r,h1,h2,el,h3,h4⟩,h5⟩;exact⟨r,h1,h2,el,h3,v,h4,h5⟩
  ·rintro⟨r,h1,h2,el,h3,v,h4,h5⟩;exact⟨v,⟨r,h1,h2,el,h3,h4⟩,h5⟩
 | _=>simp [aT]
def iC(ti:TI)(i:Nat)(x:PV)(K:PV→Prop):Prop:=
 match ti with
 | .struct fs _=>eB (jI fs i) fun p=>match x with
  | .ag l=>if p.2.2=true then K (.ag ((l.drop p.1).take p.2.1))else eB (jI l p.1) K
  | _=>False
 | _=>False
@[congr] theorem U6{t t':TI}{i:Nat}{x x':PV}{K:PV→Prop}(h:t=t')(h2:x=x'):iC t i x K=iC t' i x' K:=by rw [h,h2]
def zL(p:Nat × Nat × Bool)(l:List PV)(K:PV→Prop):Prop:=if p.2.2=true then K (.ag ((l.drop p.1).take p.2.1))else eB (jI l p.1) K
@[simp] theorem afD{o n:Nat}{l:List PV}{K:PV→Prop}:zL (o,n,true) l K=go (K (.ag ((l.drop o).take n))):=by show _=K _;simp [zL]
@[simp] theorem acq{o n:Nat}{l:List PV}{K:PV→Prop}:zL (o,n,false) l K=eB (jI l o) K:=by simp [zL]
@[congr] theorem acr{p p':Nat × Nat × Bool}{l l':List PV}{K:PV→Prop}(h:p=p')(h2:l=l'):zL p l K=zL p' l' K:=by rw [h,h2]
@[simp] theorem acs{fs:List (Nat × Nat × Bool)}{z:List PV}{i:Nat}{l:List PV}{K:PV→Prop}:iC (.struct fs z) i (.ag l) K=eB (jI fs i) fun p=>zL p l K:=rfl
theorem sA{E:Env}{t:TypeId}{i:Nat}{x:PV}{K:PV→Prop}:aT (fun v=>o7 E t i x v) K=iC (E.ty t) i x K:=by
 simp only [o7,iC]
 cases E.ty t with
 | struct fs z =>
  simp only [eB]
  apply propext;simp only [aT]
  cases x with
  | ag l =>
   simp only
   constructor
   ·rintro⟨v,⟨o,n,b,h1,h2⟩,h3⟩
    refine⟨_,h1,?_⟩
    simp only
    split at h2
    ·rename_i hb;rw [if_pos hb,←h2];exact h3
    ·rename_i hb;rw [if_neg hb];exact⟨v,h2,h3⟩
   ·rintro⟨⟨o,n,b⟩,h1,h2⟩
    simp only at h2
    split at h2
    ·rename_i hb;exact⟨_,⟨o,n,b,h1,by rw [if_pos hb]⟩,h2⟩
    ·rename_i hb;obtain⟨v,h3,h4⟩:=h2;exact⟨v,⟨o,n,b,h1,by rw [if_neg hb];exact h3⟩,h4⟩
  | _=>simp
 | _=>simp [aT]
def cU(ti:TI)(rows:Rows)(i:Nat)(x:PV)(K:PV→Prop):Prop:=
 match ti with
 | .struct fs _=>eB (jI fs i) fun p=>match x with
  | .rd l=>aE (p.1≤l.length) (K (.rd (l.drop p.1)))
  | .ptr id ver a j=>bE (rows id) ver fun _=>K (.ptr id ver a (j+p.1))
  | _=>False
 | _=>False
@[congr] theorem IZ{t t':TI}{rows:Rows}{i:Nat}{x x':PV}{K:PV→Prop}(h:t=t')(h2:x=x'):cU t rows i x K=cU t' rows i x' K:=by rw [h,h2]
@[simp] theorem QF{fs:List (Nat × Nat × Bool)}{z:List PV}{rows:Rows}{i:Nat}{l:List PV}{K:PV→Prop}:cU (.struct fs z) rows i (.rd l) K=eB (jI fs i) fun p=>aE (p.1≤l.length) (K (.rd (l.drop p.1))):=rfl
@[simp] theorem N4{fs:List (Nat × Nat × Bool)}{z:List PV}{rows:Rows}{i id ver a j:Nat}{K:PV→Prop}:cU (.struct fs z) rows i (.ptr id ver a j) K=eB (jI fs i) fun p=>bE (rows id) ver fun _=>K (.ptr id ver a (j+p.1)):=rfl
theorem l5{E:Env}{t:TypeId}{rows:Rows}{i:Nat}{x:PV}{K:PV→Prop}:aT (fun v=>dY E t rows i x v) K=cU (E.ty t) rows i x K:=by
 simp only [dY,cU]
 cases E.ty t with
 | struct fs z =>
  simp only [eB]
  apply propext;simp only [aT]
  cases x with
  | rd l =>
   simp only [aE]
   constructor
   ·rintro⟨v,⟨o,n,b,h1,h2,rfl⟩,h3⟩;exact⟨_,h1,h2,h3⟩
   ·rintro⟨⟨o,n,b⟩,h1,h2,h3⟩;exact⟨_,⟨o,n,b,h1,h2,rfl⟩,h3⟩
  | ptr id ver a j =>
   simp only [bE]
   constructor
   ·rintro⟨v,⟨o,n,b,h1,⟨r,h2,h3⟩,rfl⟩,h4⟩;exact⟨_,h1,r,h2,h3,h4⟩
   ·rintro⟨⟨o,n,b⟩,h1,r,h2,h3,h4⟩;exact⟨_,⟨o,n,b,h1,⟨r,h2,h3⟩,rfl⟩,h4⟩
  | _=>simp
 | _=>simp [aT]
def a8(n:Nat)(l:List (List PV)):Prop:=∀e∈l,e.length=n
@[simp] theorem bQ{α:Type}{g:α→List PV}{n:Nat}{l:List α}:(Enc g n)→a8 n (emap g l)=True:=by
 intro h
 simp only [a8,emap,List.mem_map,eq_iff_iff,iff_true]
 rintro e ⟨x,_,rfl⟩
 exact h x
@[simp] theorem acu{n:Nat}:a8 n []=True:=by simp [a8]
@[simp] theorem aak{n:Nat}{e:List PV}{l:List (List PV)}:a8 n (e::l)=(e.length=n∧a8 n l):=by simp [a8]
def bV(ti:TI)(rows:Rows)(x ix:PV)(K:PV→Prop):Prop:=
 match ti,ix with
 | .slice _ n _ _, .int _ k=>aE (0≤k) (match x with
  | .sl l=>aE (a8 n l) (xW l k.toNat fun el=>K (.rd el))
  | .fX l=>aE (a8 n l) (xW l k.toNat fun el=>K (.rd el))
  | .own id ver off len=>bE (rows id) ver fun r=>aE (r.size=n∧k.toNat<len) (K (.ptr id ver (off+k.toNat) 0))
  | _=>False)
 | .arr _ m n _, .int _ k=>aE (0≤k∧k.toNat<m) (match x with
  | .rd l=>aE (k.toNat*n≤l.length) (K (.rd (l.drop (k.toNat*n))))
  | .ptr id ver a j=>bE (rows id) ver fun _=>K (.ptr id ver a (j+k.toNat*n))
  | _=>False)
 | _,_=>False
@[congr] theorem I0{t t':TI}{rows:Rows}{x x' y y':PV}{K:PV→Prop}(h:t=t')(h2:x=x')(h3:y=y'):bV t rows x y K=bV t' rows x' y' K:=by rw [h,h2,h3]
section
variable {α:Type} [Inhabited α] {g:α→List PV} {l:List α} {e n b:Nat} {z:List PV} {rows:Rows} {kk:IntKind} {k:Int} {K:PV→Prop} {els:List (List PV)} {id ver off len:Nat}
@[simp] theorem N5:bV (.slice e n b z) rows (aX g l) (.int kk k) K=aE (0≤k∧k.toNat<l.length) (aE (a8 n (emap g l)) (K (.rd (g (nth l k.toNat))))):=by
 simp only [bV,aX,B9,aE,and_assoc]
 apply propext
 constructor
 ·rintro⟨h1,h2,h3,h4⟩;exact⟨h1,h3,h2,h4⟩
 ·rintro⟨h1,h2,h3,h4⟩;exact⟨h1,h3,h2,h4⟩
@[simp] theorem QG:bV (.slice e n b z) rows (.sl els) (.int kk k) K=aE (0≤k) (aE (a8 n els) (xW els k.toNat fun el=>K (.rd el))):=rfl
@[simp] theorem N6:bV (.slice e n b z) rows (.fX els) (.int kk k) K=aE (0≤k) (aE (a8 n els) (xW els k.toNat fun el=>K (.rd el))):=rfl
@[simp] theorem N7{m:Nat}{l:List PV}:bV (.arr e m n z) rows (.rd l) (.int kk k) K=aE (0≤k∧k.toNat<m) (aE (k.toNat*n≤l.length) (K (.rd (l.drop (k.toNat*n))))):=rfl
@[simp] theorem LK{m a j:Nat}:bV (.arr e m n z) rows (.ptr id ver a j) (.int kk k) K=aE (0≤k∧k.toNat<m) (bE (rows id) ver fun _=>K (.ptr id ver a (j+k.toNat*n))):=rfl
@[simp] theorem N8:bV (.slice e n b z) rows (.own id ver off len) (.int kk k) K=aE (0≤k) (bE (rows id) ver fun r=>aE (r.size=n∧k.toNat<len) (K (.ptr id ver (off+k.toNat) 0))):=rfl
end
theorem l6{E:Env}{t:TypeId}{rows:Rows}{x ix:PV}{K:PV→Prop}:aT (fun v=>dZ E t rows x ix v) K=bV (E.ty t) rows x ix K:=by
 simp only [dZ,bV]
 cases E.ty t with
 | slice e n b z =>
  cases ix with
  | int kk k =>
   simp only
   rw [gR]
   congr 1
   cases x with
   | sl l =>
    simp only [aE,xW,a8]
    apply propext;simp only [aT]
    constructor
    ·rintro⟨v,⟨el,h1,h2,rfl⟩,h4⟩;exact⟨h2,el,h1,h4⟩
    ·rintro⟨h2,el,h1,h4⟩;exact⟨_,⟨el,h1,h2,rfl⟩,h4⟩
   | fX l =>
    simp only [aE,xW,a8]
    apply propext;simp only [aT]
    constructor
    ·rintro⟨v,⟨el,h1,h2,rfl⟩,h4⟩;exact⟨h2,el,h1,h4⟩
    ·rintro⟨h2,el,h1,h4⟩;exact⟨_,⟨el,h1,h2,rfl⟩,h4⟩
   | own id ver off len =>
    simp only [aE,bE]
    apply propext;simp only [aT]
    constructor
    ·rintro⟨v,⟨r,h1,h2,h3,h4,rfl⟩,h5⟩;exact⟨r,h1,h2,⟨h3,h4⟩,h5⟩
    ·rintro⟨r,h1,h2,⟨h3,h4⟩,h5⟩;exact⟨_,⟨r,h1,h2,h3,h4,rfl⟩,h5⟩
   | _=>simp [aT]
  | _=>simp [aT]
 | arr e m n z =>
  cases ix with
  | int kk k =>
   simp only
   rw [gR]
   congr 1
   cases x with
   | rd l =>
    simp only
    rw [gR,iA]
   | ptr id ver a j =>
    simp only [bE]
    apply propext;simp only [aT]
    constructor
    ·rintro⟨v,⟨⟨r,h1,h2⟩,rfl⟩,h3⟩;exact⟨r,h1,h2,h3⟩
    ·rintro⟨r,h1,h2,h3⟩;exact⟨_,⟨⟨r,h1,h2⟩,rfl⟩,h3⟩
   | _=>simp [aT]
  | _=>simp [aT]
 | _=>simp [aT]
def sB(d:Nat)(o:Option PV)(K:Nat→Prop):Prop:=
 match o with
 | none=>K d
 | some (.int _ k)=>aE (0≤k) (K k.toNat)
 | some _=>False
@[congr] theorem afE{d d':Nat}{o o':Option PV}{K:Nat→Prop}(h:d=d')(h2:o=o'):sB d o K=sB d' o' K:=by rw [h,h2]
@[simp] theorem ahQ{d:Nat}{K:Nat→Prop}:sB d none K=go (K d):=rfl
@[simp] theorem ahR{d:Nat}{kk:IntKind}{k:Int}{K:Nat→Prop}:sB d (some (.int kk k)) K=aE (0≤k) (K k.toNat):=rfl
theorem GR{d:Nat}{o:Option PV}{K:Nat→Prop}:sB d o K ↔ ∃n,pS d o n∧K n:=by
 cases o with
 | none=>simp [sB,pS]
 | some p =>
  cases p with
  | int kk k =>
   simp only [sB,pS,aE]
   constructor
   ·rintro⟨h1,h2⟩;exact⟨_,⟨h1,rfl⟩,h2⟩
   ·rintro⟨n,⟨h1,rfl⟩,h2⟩;exact⟨h1,h2⟩
  | _=>simp [sB,pS]
def LM{α:Type}(mk mkx:List α→PV)(n:Nat)(l:List α)(ok:Prop)(lo hi mx:Option PV)(K:PV→Prop):Prop:=
 sB 0 lo fun a=>sB l.length hi fun b=>aE (a≤b∧b≤l.length) (aE ok (match mx with
  | none=>K (mk ((l.take b).drop a))
  | some m=>sB 0 (some m) fun c=>aE (b=c∧hi.isSome=true) (K (mkx ((l.take b).drop a)))))
def eD(ti:TI)(rows:Rows)(x:PV)(lo hi mx:Option PV)(K:PV→Prop):Prop:=
 match ti with
 | .slice _ n _ _ =>
  match x with
  | .nil=>sB 0 lo fun a=>sB 0 hi fun b=>aE (a=0∧b=0∧mx.isNone=true) (K .nil)
  | .sl l=>LM .sl .fX n l (a8 n l) lo hi mx K
  | .fX l=>LM .sl .fX n l (a8 n l) lo hi mx K
  | .own id ver off len=>bE (rows id) ver fun r=>aE (r.size=n) (sB 0 lo fun a=>sB len hi fun b=>aE (a≤b∧b≤len∧mx.isNone=true) (K (.own id ver (off+a) (b-a))))
  | _=>False
 | _=>False
@[congr] theorem U7{t t':TI}{rows:Rows}{x x':PV}{lo lo' hi oP mx mx':Option PV}{K:PV→Prop}(h:t=t')(h2:x=x')(h3:lo=lo')(h4:hi=oP)(h5:mx=mx'):eD t rows x lo hi mx K=eD t' rows x' lo' oP mx' K:=by rw [h,h2,h3,h4,h5]
section
variable {α:Type} {g:α→List PV} {l:List α} {e n b:Nat} {z:List PV} {rows:Rows} {lo hi mx:Option PV} {K:PV→Prop} {els:List (List PV)} {id ver off len:Nat}
theorem CB{a b:Nat}:((emap g l).take b).drop a=emap g ((l.take b).drop a):=by simp [emap]
@[simp] theorem aal:eD (.slice e n b z) rows (aX g l) lo hi none K=sB 0 lo fun a=>sB l.length hi fun b=>aE (a≤b∧b≤l.length) (aE (a8 n (emap g l)) (K (aX g ((l.take b).drop a)))):=by
 simp only [eD,aX,LM,CB]
 simp [emap]
theorem zM{m:PV}:eD (.slice e n b z) rows (aX g l) lo hi (some m) K=sB 0 lo fun a=>sB l.length hi fun b=>aE (a≤b∧b≤l.length) (aE (a8 n (emap g l)) (sB 0 (some m) fun c=>aE (b=c∧hi.isSome=true) (K (.fX (emap g ((l.take b).drop a)))))):=by
 simp only [eD,aX,LM,CB]
 simp [emap]
@[simp] theorem aam:eD (.slice e n b z) rows .nil lo hi mx K=sB 0 lo fun a=>sB 0 hi fun b=>aE (a=0∧b=0∧mx.isNone=true) (K .nil):=rfl
@[simp] theorem aan:eD (.slice e n b z) rows (.own id ver off len) lo hi mx K=bE (rows id) ver fun r=>aE (r.size=n) (sB 0 lo fun a=>sB len hi fun b=>aE (a≤b∧b≤len∧mx.isNone=true) (K (.own id ver (off+a) (b-a)))):=rfl
end
theorem I1{l:List (List PV)}{n:Nat}{lo hi mx:Option PV}{K:PV→Prop}:(∃v,(∃a b,pS 0 lo a∧pS l.length hi b∧a≤b∧b≤l.length∧(∀e∈l,e.length=n)∧FA l a b hi mx v)∧K v)↔LM .sl .fX n l (a8 n l) lo hi mx K:=by
 simp only [LM,GR,aE,a8,FA]
 constructor
 ·rintro⟨v,⟨a,b,h1,h2,h3,h4,h5,h6⟩,h7⟩
  refine⟨a,h1,b,h2,⟨h3,h4⟩,h5,?_⟩
  cases mx with
  | none=>simp only at h6 ⊢;rw [←h6];exact h7
  | some m=>obtain⟨c,q1,q2,q3,rfl⟩:=h6;exact⟨c,q1,⟨q2,q3⟩,h7⟩
 ·rintro⟨a,h1,b,h2,⟨h3,h4⟩,h5,h6⟩
  cases mx with
  | none=>exact⟨_,⟨a,b,h1,h2,h3,h4,h5,rfl⟩,h6⟩
  | some m=>obtain⟨c,q1,⟨q2,q3⟩,h7⟩:=h6;exact⟨_,⟨a,b,h1,h2,h3,h4,h5,c,q1,q2,q3,rfl⟩,h7⟩
theorem sC{E:Env}{t:TypeId}{rows:Rows}{x:PV}{lo hi mx:Option PV}{K:PV→Prop}:aT (fun v=>kM E t rows x lo hi mx v) K=eD (E.ty t) rows x lo hi mx K:=by
 simp only [kM,eD]
 cases E.ty t with
 | slice e n b z =>
  cases x with
  | sl l=>exact propext I1
  | fX l=>exact propext I1
  | nil =>
   simp only [GR,aE]
   apply propext;simp only [aT]
   constructor
   ·rintro⟨v,⟨a,b,h1,h2,h3,h4,h5,rfl⟩,h6⟩;exact⟨a,h1,b,h2,⟨h3,h4,h5⟩,h6⟩
   ·rintro⟨a,h1,b,h2,⟨h3,h4,h5⟩,h6⟩;exact⟨_,⟨a,b,h1,h2,h3,h4,h5,rfl⟩,h6⟩
  | own id ver off len =>
   simp only [GR,aE,bE]
   apply propext;simp only [aT]
   constructor
   ·rintro⟨v,⟨r,q1,q2,q3,a,b,h1,h2,h3,h4,h5,rfl⟩,h6⟩;exact⟨r,q1,q2,q3,a,h1,b,h2,⟨h3,h4,h5⟩,h6⟩
   ·rintro⟨r,q1,q2,q3,a,h1,b,h2,⟨h3,h4,h5⟩,h6⟩;exact⟨_,⟨r,q1,q2,q3,a,b,h1,h2,h3,h4,h5,rfl⟩,h6⟩
  | _=>simp [aT]
 | _=>simp [aT]
def oV(rows:Rows)(x:PV)(K:PV→Prop):Prop:=
 match x with
 | .rd l=>K (.rd l)
 | .ptr id ver i j=>bE (rows id) ver fun _=>K (.ptr id ver i j)
 | _=>False
@[congr] theorem aao{rows:Rows}{x x':PV}{K:PV→Prop}(h:x=x'):oV rows x K=oV rows x' K:=by rw [h]
@[simp] theorem ahS{rows:Rows}{l:List PV}{K:PV→Prop}:oV rows (.rd l) K=go (K (.rd l)):=rfl
@[simp] theorem afF{rows:Rows}{id ver i j:Nat}{K:PV→Prop}:oV rows (.ptr id ver i j) K=bE (rows id) ver fun _=>K (.ptr id ver i j):=rfl
theorem xX{rows:Rows}{x:PV}{K:PV→Prop}:aT (fun v=>wU rows x v) K=oV rows x K:=by
 simp only [wU,oV]
 cases x with
 | rd l=>dsimp only;rw [iA]
 | ptr id ver i j =>
  simp only [bE]
  apply propext;simp only [aT]
  constructor
  ·rintro⟨v,⟨⟨r,h1,h2⟩,rfl⟩,h3⟩;exact⟨r,h1,h2,h3⟩
  ·rintro⟨r,h1,h2,h3⟩;exact⟨_,⟨⟨r,h1,h2⟩,rfl⟩,h3⟩
 | _=>simp [aT]
def jM(ti:TI)(rows:Rows)(x:PV)(K:PV→Prop):Prop:=
 match ti with
 | .slice _ _ _ _=>match x with
  | .nil=>K (.int .i64 0)
  | .sl l=>K (.int .i64 l.length)
  | .fX l=>K (.int .i64 l.length)
  | .own id ver _ len=>bE (rows id) ver fun _=>K (.int .i64 len)
  | _=>False
 | _=>False
@[congr] theorem aap{t t':TI}{rows:Rows}{x x':PV}{K:PV→Prop}(h:t=t')(h2:x=x'):jM t rows x K=jM t' rows x' K:=by rw [h,h2]
section
variable {α:Type} {g:α→List PV} {l:List α} {e n b:Nat} {z:List PV} {rows:Rows} {K:PV→Prop} {els:List (List PV)} {id ver off len:Nat}
@[simp] theorem afG:jM (.slice e n b z) rows (aX g l) K=go (K (.int .i64 l.length)):=by show _=K _;simp [jM,aX,emap]
@[simp] theorem afH:jM (.slice e n b z) rows .nil K=go (K (.int .i64 0)):=rfl
@[simp] theorem ahT:jM (.slice e n b z) rows (.sl els) K=go (K (.int .i64 els.length)):=rfl
@[simp] theorem afI:jM (.slice e n b z) rows (.fX els) K=go (K (.int .i64 els.length)):=rfl
@[simp] theorem afJ:jM (.slice e n b z) rows (.own id ver off len) K=bE (rows id) ver fun _=>K (.int .i64 len):=rfl
end
theorem xY{ti:TI}{rows:Rows}{x:PV}{K:PV→Prop}:aT (fun v=>rT ti rows x v) K=jM ti rows x K:=by
 simp only [rT,jM]
 cases ti with
 | slice e n b z =>
  apply propext;simp only [aT,KQ]
  cases x with
  | own id ver off len =>
   simp only [bE]
   constructor
   ·rintro⟨v,⟨n,⟨⟨r,h1,h2⟩,rfl⟩,rfl⟩,h4⟩;exact⟨r,h1,h2,h4⟩
   ·rintro⟨r,h1,h2,h4⟩;exact⟨_,⟨_,⟨⟨r,h1,h2⟩,rfl⟩,rfl⟩,h4⟩
  | _=>simp
 | _=>simp [aT]
def fO(els:List (List PV))(i j:Nat)(l:List PV):List (List PV):=els.set i (((els[i]?).getD []).take j++l++((els[i]?).getD []).drop (j+l.length))
def p6(els:List (List PV))(i n:Nat):Prop:=∃el,els[i]? = some el∧n≤el.length
def fG(rows:Rows)(l:List PV):Prop:=∀q∈l,eZ rows q
@[simp] theorem acv{rows:Rows}:fG rows []=True:=by simp [fG]
@[simp] theorem aaq{rows:Rows}{p:PV}{l:List PV}:fG rows (p::l)=(eZ rows p∧fG rows l):=by simp [fG]
@[simp] theorem acw{α:Type}[Inhabited α]{g:α→List PV}{l:List α}{i n:Nat}:p6 (emap g l) i n=(i<l.length∧n≤(g (nth l i)).length):=by
 exact B9 (g:=g) (l:=l) (i:=i) (K:=fun el=>n≤el.length)
def iD(E:Env)(t:TypeId)(rows:Rows)(p x:PV)(K:Nat→Row→Prop):Prop:=
 aE ((E.ty t).known=true) (match p with
 | .ptr id ver i j=>bE (rows id) ver fun r=>eB (bP x) fun l=>aE (p6 r.els i (j+l.length)∧fG rows l∧l.length=(E.ty t).size) (K id ⟨ver,r.e,r.size,fO r.els i j l⟩)
 | _=>False)
@[congr] theorem U8{E:Env}{t:TypeId}{rows:Rows}{p p' x x':PV}{K:Nat→Row→Prop}(h1:p=p')(h2:x=x'):iD E t rows p x K=iD E t rows p' x' K:=by rw [h1,h2]
@[simp] theorem aar{E:Env}{t:TypeId}{rows:Rows}{id ver i j:Nat}{x:PV}{K:Nat→Row→Prop}:iD E t rows (.ptr id ver i j) x K=aE ((E.ty t).known=true) (bE (rows id) ver fun r=>eB (bP x) fun l=>aE (p6 r.els i (j+l.length)∧fG rows l∧l.length=(E.ty t).size) (K id ⟨ver,r.e,r.size,fO r.els i j l⟩)):=rfl
theorem xZ{E:Env}{t:TypeId}{rows:Rows}{p x:PV}{K:Nat→Row→Prop}:(∃id r,mS E t rows p x .undef (some (id,r))∧K id r)=iD E t rows p x K:=by
 simp only [mS,iD,aE,bE,eB,p6,fG]
 apply propext
 constructor
 ·rintro⟨id,r,⟨h1,_,h2⟩,h3⟩
  refine⟨h1,?_⟩
  split at h2
  ·obtain⟨r0,q1,q2,el,q3,l,q4,q5,q6,q7,q8⟩:=h2
   simp only [Option.some.injEq,Prod.mk.injEq]at q8
   obtain⟨rfl,rfl⟩:=q8
   refine⟨r0,q1,q2,l,q4,⟨⟨el,q3,q7⟩,q5,q6⟩,?_⟩
   simp only [fO,q3,Option.getD_some]
   rw [q2]at h3
   exact h3
  ·exact h2.elim
 ·rintro⟨h1,h2⟩
  split at h2
  ·obtain⟨r0,q1,q2,l,q4,⟨⟨el,q3,q7⟩,q5,q6⟩,h3⟩:=h2
   simp only [fO,q3,Option.getD_some]at h3
   refine⟨_,_,⟨h1,trivial,r0,q1,q2,el,q3,l,q4,q5,q6,q7,rfl⟩,?_⟩
   rw [←q2]at h3
   exact h3
  ·exact h2.elim
def iE(rows:Rows)(y:PV)(K:List (List PV)→Prop):Prop:=
 match y with
 | .nil=>K []
 | .sl k=>K k
 | .fX k=>K k
 | .own id ver off len=>bE (rows id) ver fun r=>K ((r.els.drop off).take len)
 | _=>False
@[congr] theorem aas{rows:Rows}{y y':PV}{K:List (List PV)→Prop}(h:y=y'):iE rows y K=iE rows y' K:=by rw [h]
@[simp] theorem afK{rows:Rows}{K:List (List PV)→Prop}:iE rows .nil K=go (K []):=rfl
@[simp] theorem ahU{rows:Rows}{l:List (List PV)}{K:List (List PV)→Prop}:iE rows (.sl l) K=go (K l):=rfl
@[simp] theorem afL{α:Type}{g:α→List PV}{rows:Rows}{l:List α}{K:List (List PV)→Prop}:iE rows (aX g l) K=go (K (emap g l)):=rfl
@[simp] theorem afM{rows:Rows}{l:List (List PV)}{K:List (List PV)→Prop}:iE rows (.fX l) K=go (K l):=rfl
@[simp] theorem afN{rows:Rows}{id ver off len:Nat}{K:List (List PV)→Prop}:iE rows (.own id ver off len) K=bE (rows id) ver fun r=>K ((r.els.drop off).take len):=rfl
theorem I2{rows:Rows}{y:PV}{K:List (List PV)→Prop}:(∃l,mT rows y l∧K l)=iE rows y K:=by
 simp only [mT,iE]
 apply propext
 cases y with
 | own id ver off len =>
  simp only [bE]
  constructor
  ·rintro⟨l,⟨r,h1,h2,rfl⟩,h3⟩;exact⟨r,h1,h2,h3⟩
  ·rintro⟨r,h1,h2,h3⟩;exact⟨_,⟨r,h1,h2,rfl⟩,h3⟩
 | _=>simp
def eK(c:Prop)(len:Nat)(els:List (List PV))(K:List (List PV)→Prop):Prop:=(c∧K els)∨(¬c∧len≤els.length∧K (els.take len))
@[congr] theorem U9{c c':Prop}{len ahV:Nat}{els s5:List (List PV)}{K:List (List PV)→Prop}(h:c=c')(h1:len=ahV)(h2:els=s5):eK c len els K=eK c' ahV s5 K:=by rw [h,h1,h2]
theorem zN{len:Nat}{els:List (List PV)}{K:List (List PV)→Prop}:eK True len els K=K els:=by simp [eK]
theorem I3{len:Nat}{els:List (List PV)}{K:List (List PV)→Prop}:eK (len=els.length) len els K=(len≤els.length∧K (els.take len)):=by
 apply propext
 constructor
 ·rintro(⟨h,hK⟩ | ⟨_,h,hK⟩)
  ·exact⟨by omega,by rw [List.take_of_length_le (by omega)];exact hK⟩
  ·exact⟨h,hK⟩
 ·rintro⟨h,hK⟩
  by_cases hc:len=els.length
  ·exact .inl ⟨hc,by rw [List.take_of_length_le (by omega)]at hK;exact hK⟩
  ·exact .inr ⟨hc,h,hK⟩
theorem anz{c:Prop}{len:Nat}{els:List (List PV)}{K:List (List PV)→Prop}(hc:c→len=els.length)(hl:len≤els.length)(hK:go (K (els.take len))):eK c len els K:=by
 by_cases h:c
 ·exact .inl ⟨h,by rw [List.take_of_length_le (by rw [hc h];omega)]at hK;exact hK⟩
 ·exact .inr ⟨h,hl,hK⟩
def mZ(t:TI)(rows:Rows)(x y:PV)(clk d:Nat)(K:PV→Rows→Nat→Prop):Prop:=
 match t with
 | .slice e n b _=>iE rows y fun l=>aE (a8 n l) (match x with
  | .nil=>aE (l.length≤room∧l.length*b≤room) (K (.own d clk 0 l.length) (c4 rows d (some ⟨clk,e,n,l⟩)) (clk+1))
  | .own id ver off len=>bE (rows id) ver fun r=>aE (off=0∧r.e=e∧r.size=n) (eK (len=r.els.length) len r.els fun els=>aE (len+l.length≤room∧(len+l.length)*b≤room) (K (.own id clk 0 (len+l.length)) (c4 rows id (some ⟨clk,e,n,els++l⟩)) (clk+1)))
  | .fX l0=>aE (a8 n l0 ∧ ∀e∈l,∀p∈e,bL p=true) (aE (l0.length+l.length≤room∧(l0.length+l.length)*b≤room) (K (.sl (l0++l)) rows clk))
  | _=>False)
 | _=>False
@[congr] theorem aat{t t':TI}{rows:Rows}{x x' y y':PV}{clk d:Nat}{K:PV→Rows→Nat→Prop}(h1:t=t')(h3:x=x')(h4:y=y') :
  mZ t rows x y clk d K=mZ t' rows x' y' clk d K:=by rw [h1,h3,h4]
section
variable {e n b clk d id ver off len:Nat} {z:List PV} {rows:Rows} {y:PV} {K:PV→Rows→Nat→Prop} {l0:List (List PV)}
@[simp] theorem afO:mZ (.slice e n b z) rows .nil y clk d K=iE rows y fun l=>aE (a8 n l) (aE (l.length≤room∧l.length*b≤room) (K (.own d clk 0 l.length) (c4 rows d (some ⟨clk,e,n,l⟩)) (clk+1))):=rfl
@[simp] theorem afP:mZ (.slice e n b z) rows (.own id ver off len) y clk d K=iE rows y fun l=>aE (a8 n l) (bE (rows id) ver fun r=>aE (off=0∧r.e=e∧r.size=n) (eK (len=r.els.length) len r.els fun els=>aE (len+l.length≤room∧(len+l.length)*b≤room) (K (.own id clk 0 (len+l.length)) (c4 rows id (some ⟨clk,e,n,els++l⟩)) (clk+1)))):=rfl
@[simp] theorem afQ:mZ (.slice e n b z) rows (.fX l0) y clk d K=iE rows y fun l=>aE (a8 n l) (aE (a8 n l0 ∧ ∀e∈l,∀p∈e,bL p=true) (aE (l0.length+l.length≤room∧(l0.length+l.length)*b≤room) (K (.sl (l0++l)) rows clk))):=rfl
end
theorem WB{t:TI}{rows:Rows}{x y:PV}{clk d:Nat}{K:PV→Rows→Nat→Prop}:LC t rows x y clk d K=mZ t rows x y clk d K:=by
 unfold LC mZ
 cases t with
 | slice e n b z =>
  dsimp only
  rw [←I2]
  congr 1;funext l;congr 1
  simp only [aE,a8]
  congr 1
  cases x with
  | own id ver off len =>
   simp only [bE,I3]
   apply propext
   constructor
   ·rintro⟨r,h1,h2,h3,h4,h5,h6,h7⟩;exact⟨r,h1,h2,⟨h3,h5,h6⟩,h4,h7⟩
   ·rintro⟨r,h1,h2,⟨h3,h5,h6⟩,h4,h7⟩;exact⟨r,h1,h2,h3,h4,h5,h6,h7⟩
  | fX l0=>simp only [a8,and_assoc]
  | _=>rfl
 | _=>rfl
def fzR(o:Option Row)(ver off len:Nat):PV:=
 match o with
 | some r=>if r.ver=ver then .sl ((r.els.drop off).take len)else .undef
 | none => .undef
@[simp] theorem anA{rows:Rows}{id ver off len:Nat}:fz rows (.own id ver off len)=fzR (rows id) ver off len:=rfl
@[simp] theorem ahW{α:Type}{g:α→List PV}{l:List α}{ver e n off len:Nat}:fzR (some ⟨ver,e,n,emap g l⟩) ver off len=aX g ((l.drop off).take len):=by simp [fzR,aX,emap]
@[simp] theorem anB{rows:Rows}:fz rows .nil = .sl []:=rfl
@[simp] theorem anC{rows:Rows}{l:List (List PV)}:fz rows (.fX l) = .sl l:=rfl
@[simp] theorem aqj{rows:Rows}{l:List (List PV)}:fz rows (.sl l) = .sl l:=rfl
@[simp] theorem anD{α:Type}{g:α→List PV}{rows:Rows}{l:List α}:fz rows (aX g l)=aX g l:=rfl
@[simp] theorem anE{rows:Rows}{k:IntKind}{n:Int}:fz rows (.int k n) = .int k n:=rfl
@[simp] theorem alB{rows:Rows}{b:Bool}:fz rows (.bool b) = .bool b:=rfl
@[simp] theorem aqk{rows:Rows}{f:FuncId}{l:List PV}:fz rows (.fn f l) = .fn f l:=rfl
@[simp] theorem anF{rows:Rows}{id ver off len:Nat}:pz rows (.own id ver off len)=fzR (rows id) ver off len:=rfl
@[simp] theorem anG{rows:Rows}:pz rows .nil = .sl []:=rfl
@[simp] theorem anH{rows:Rows}{l:List (List PV)}:pz rows (.fX l) = .sl l:=rfl
@[simp] theorem aql{rows:Rows}{l:List (List PV)}:pz rows (.sl l) = .sl l:=rfl
@[simp] theorem anI{α:Type}{g:α→List PV}{rows:Rows}{l:List α}:pz rows (aX g l)=aX g l:=rfl
@[simp] theorem anJ{rows:Rows}{k:IntKind}{n:Int}:pz rows (.int k n) = .int k n:=rfl
@[simp] theorem alC{rows:Rows}{b:Bool}:pz rows (.bool b) = .bool b:=rfl
@[simp] theorem aqm{rows:Rows}{f:FuncId}{l:List PV}:pz rows (.fn f l) = .fn f l:=rfl
@[simp] theorem aqn{rows:Rows}{l:List PV}:pz rows (.ag l) = .ag (l.map (fz rows)):=rfl
@[simp] theorem ahX{α:Type}{g:α→List PV}{l:List α}:eR (aX g l)=true:=rfl
@[simp] theorem afS{α:Type}{g:α→List PV}{l:List α}:bL (aX g l)=true:=rfl
@[simp] theorem alD{α:Type}{g:α→List PV}{l:List α}:aS (aX g l) = []:=rfl
@[simp] theorem ahY{α:Type}{g:α→List PV}{l:List α}:cW (aX g l) = []:=rfl
@[simp] theorem alE{l:List (List PV)}:cW (.sl l) = []:=rfl
@[simp] theorem ahZ{l:List (List PV)}:cW (.fX l) = []:=rfl
@[simp] theorem ah0{k:IntKind}{n:Int}:cW (.int k n) = []:=rfl
@[simp] theorem afT{b:Bool}:cW (.bool b) = []:=rfl
@[simp] theorem alF{f:FuncId}{l:List PV}:cW (.fn f l) = []:=rfl
@[simp] theorem ah1:cW .nil = []:=rfl
@[simp] theorem ah2{id ver off len:Nat}:cW (.own id ver off len) = [id]:=rfl
@[simp] theorem alG{l:List PV}:cW (.ag l)=l.flatMap aS:=rfl
@[simp] theorem ah3{α:Type}{g:α→List PV}{rows:Rows}{l:List α}:eZ rows (aX g l)=True:=rfl
@[simp] theorem acx{α:Type}{g:α→List PV}{l:List α}:bP (aX g l)=some [aX g l]:=rfl
@[simp] theorem acy{α:Type}{g:α→List PV}{l:List α}:dM (aX g l)=some [aX g l]:=rfl
def cB(o:Option Row):Prop:=∀r,o=some r → ∀e∈r.els,∀p∈e,bL p=true
@[simp] theorem WC{rows:Rows}:dG rows []=True:=by simp [dG]
@[simp] theorem VA{rows:Rows}{id:Nat}{ids:List Nat}:dG rows (id::ids)=(cB (rows id)∧dG rows ids):=by simp [dG,cB]
@[simp] theorem WD:cB none=True:=by simp [cB]
@[simp] theorem bR{α:Type}{g:α→List PV}{l:List α}{ver e n:Nat}(h:ahL g):cB (some ⟨ver,e,n,emap g l⟩)=True:=by
 simp only [cB,emap,Option.some.injEq,eq_iff_iff,iff_true]
 rintro r rfl e he p hp
 simp at he
 obtain⟨x,_,rfl⟩:=he
 exact List.all_eq_true.1 (h x) p hp
@[simp] theorem alH{rows:Rows}:xP rows []=rows:=by funext j;simp [xP]
@[simp] theorem anK{rows:Rows}{ids:List Nat}{j:Nat}:xP rows ids j=if j∈ids then none else rows j:=rfl
def j0(fs:List (Nat × Nat × Bool)):List (Nat × PV)→List PV→(List PV→Prop)→Prop
 | [],z,K=>K z
 | (i,p)::ps,z,K=>eB (jI fs i) fun q=>eB (dM p) fun l=>aE (l.length=q.2.1∧q.1+q.2.1≤z.length) (j0 fs ps (z.take q.1++l++z.drop (q.1+q.2.1)) K)
@[congr] theorem aau{fs:List (Nat × Nat × Bool)}{ps I4:List (Nat × PV)}{z z':List PV}{K:List PV→Prop}(h:ps=I4)(h2:z=z'):j0 fs ps z K=j0 fs I4 z' K:=by rw [h,h2]
@[simp] theorem afU{fs:List (Nat × Nat × Bool)}{z:List PV}{K:List PV→Prop}:j0 fs [] z K=go (K z):=rfl
@[simp] theorem acz{fs:List (Nat × Nat × Bool)}{i:Nat}{p:PV}{ps:List (Nat × PV)}{z:List PV}{K:List PV→Prop}:j0 fs ((i,p)::ps) z K=eB (jI fs i) fun q=>eB (dM p) fun l=>aE (l.length=q.2.1∧q.1+q.2.1≤z.length) (j0 fs ps (z.take q.1++l++z.drop (q.1+q.2.1)) K):=rfl
theorem u0{fs:List (Nat × Nat × Bool)}:∀ {ps:List (Nat × PV)} {z:List PV} {K:List PV→Prop},(∃l,oL fs ps z=some l∧K l)↔j0 fs ps z K
 | [],z,K=>by simp [oL,j0]
 | (i,p)::ps,z,K=>by
  simp only [oL,j0,eB,aE,jI]
  cases h1:fs[i]? with
  | none=>simp
  | some q =>
   obtain⟨o,n,b⟩:=q
   cases h2:dM p with
   | none=>simp
   | some l =>
    simp only [Option.some.injEq,exists_eq_left']
    rw [←u0]
    split
    ·rename_i h;simp [h]
    ·rename_i h;simp [h]
def i4(ti:TI)(ps:List (Nat × PV))(K:PV→Prop):Prop:=
 match ti with
 | .struct fs z=>j0 fs ps z fun l=>K (.ag l)
 | .arr _ k n z=>j0 (FC k n) ps z fun l=>K (.ag l)
 | _=>False
@[congr] theorem VB{t t':TI}{ps I4:List (Nat × PV)}{K:PV→Prop}(h:t=t')(h2:ps=I4):i4 t ps K=i4 t' I4 K:=by rw [h,h2]
@[simp] theorem QH{fs:List (Nat × Nat × Bool)}{z:List PV}{ps:List (Nat × PV)}{K:PV→Prop}:i4 (.struct fs z) ps K=j0 fs ps z fun l=>K (.ag l):=rfl
@[simp] theorem aav{e k n:Nat}{z:List PV}{ps:List (Nat × PV)}{K:PV→Prop}:i4 (.arr e k n z) ps K=j0 (FC k n) ps z fun l=>K (.ag l):=rfl
@[simp] theorem afV{k n i:Nat}:jI (FC k n) i=if i<k then some (i*n,n,false)else none:=by
 unfold jI FC
 rw [List.getElem?_map]
 split
 ·rename_i h;rw [List.getElem?_range h];rfl
 ·rename_i h;rw [List.getElem?_eq_none (by simpa using h)];rfl
theorem sE{ti:TI}{ps:List (Nat × PV)}{K:PV→Prop}:aT (fun v=>mL ti ps v) K=i4 ti ps K:=by
 simp only [mL,i4]
 cases ti with
 | struct fs z =>
  apply propext;simp only [aT]
  rw [←u0]
  constructor
  ·rintro⟨v,⟨l,h1,rfl⟩,h2⟩;exact⟨l,h1,h2⟩
  ·rintro⟨l,h1,h2⟩;exact⟨_,⟨l,h1,rfl⟩,h2⟩
 | arr e k n z =>
  apply propext;simp only [aT]
  rw [←u0]
  constructor
  ·rintro⟨v,⟨l,h1,rfl⟩,h2⟩;exact⟨l,h1,h2⟩
  ·rintro⟨l,h1,h2⟩;exact⟨_,⟨l,h1,rfl⟩,h2⟩
 | _=>simp [aT]
def gJ(n:Nat):Nat→List (Nat × PV)→(List (List PV)→Prop)→Prop
 | _,[],K=>K []
 | k,(i,p)::ps,K=>eB (bP p) fun l=>aE (i=k∧l.length=n) (gJ n (k+1) ps fun els=>K (l::els))
@[congr] theorem WE{n k:Nat}{ps I4:List (Nat × PV)}{K:List (List PV)→Prop}(h:ps=I4):gJ n k ps K=gJ n k I4 K:=by rw [h]
@[simp] theorem acA{n k:Nat}{K:List (List PV)→Prop}:gJ n k [] K=go (K []):=rfl
@[simp] theorem aaw{n k i:Nat}{p:PV}{ps:List (Nat × PV)}{K:List (List PV)→Prop}:gJ n k ((i,p)::ps) K=eB (bP p) fun l=>aE (i=k∧l.length=n) (gJ n (k+1) ps fun els=>K (l::els)):=rfl
theorem rI{n:Nat}:∀ {ps:List (Nat × PV)} {k:Nat} {K:List (List PV)→Prop},(∃l,fF n k ps=some l∧K l)↔gJ n k ps K
 | [],k,K=>by simp [fF,gJ]
 | (i,p)::ps,k,K=>by
  simp only [fF,gJ,eB,aE]
  cases h2:bP p with
  | none=>simp
  | some l =>
   simp only [Option.some.injEq,exists_eq_left']
   rw [←rI]
   by_cases h:i=k∧l.length=n
   ·rw [if_pos h]
    constructor
    ·rintro⟨e,h1,h3⟩
     obtain⟨e',h4,rfl⟩:=Option.map_eq_some_iff.1 h1
     exact⟨h,e',h4,h3⟩
    ·rintro⟨_,e',h4,h3⟩
     exact⟨_,by rw [h4];rfl,h3⟩
   ·rw [if_neg h];simp [h]
def u1(rows:Rows)(els:List (List PV)):Prop:=(∀e∈els,∀p∈e,bL (fz rows p)=true∧eZ rows p)∧(∀e∈els,∀p∈e,aS p = [])
@[simp] theorem afW{rows:Rows}:u1 rows []=True:=by simp [u1]
@[simp] theorem acB{rows:Rows}{e:List PV}{els:List (List PV)}:u1 rows (e::els)=((∀p∈e,bL (fz rows p)=true∧eZ rows p∧aS p = [])∧u1 rows els):=by
 simp only [u1,List.mem_cons,forall_eq_or_imp,eq_iff_iff]
 constructor
 ·rintro⟨⟨h1,h2⟩,h3,h4⟩;exact⟨fun p hp=>⟨(h1 p hp).1,(h1 p hp).2,h3 p hp⟩,h2,h4⟩
 ·rintro⟨h1,h2,h4⟩;exact⟨⟨fun p hp=>⟨(h1 p hp).1,(h1 p hp).2.1⟩,h2⟩,fun p hp=>(h1 p hp).2.2,h4⟩
def p7(ti:TI)(rows:Rows)(len:Nat)(ps:List (Nat × PV))(K:PV→Prop):Prop:=
 match ti with
 | .slice _ n _ _=>gJ n 0 ps fun els=>aE (len=els.length∧len≤4096∧n≤4096∧u1 rows els) (K (.fX (els.map fun e=>e.map (fz rows))))
 | _=>False
@[congr] theorem aax{t t':TI}{rows:Rows}{len:Nat}{ps I4:List (Nat × PV)}{K:PV→Prop}(h:t=t')(h2:ps=I4):p7 t rows len ps K=p7 t' rows len I4 K:=by rw [h,h2]
@[simp] theorem aay{e n b:Nat}{z:List PV}{rows:Rows}{len:Nat}{ps:List (Nat × PV)}{K:PV→Prop}:p7 (.slice e n b z) rows len ps K=gJ n 0 ps fun els=>aE (len=els.length∧len≤4096∧n≤4096∧u1 rows els) (K (.fX (els.map fun e=>e.map (fz rows)))):=rfl
theorem x6{ti:TI}{rows:Rows}{len:Nat}{ps:List (Nat × PV)}{K:PV→Prop}:aT (fun v=>FU ti rows len ps v) K=p7 ti rows len ps K:=by
 simp only [FU,p7]
 cases ti with
 | slice e n b z =>
  apply propext;simp only [aT]
  rw [←rI]
  constructor
  ·rintro⟨v,⟨l,h1,h2,h3,h4,h5,h6,rfl⟩,h7⟩;exact⟨l,h1,⟨h2,h3,h4,h5,h6⟩,h7⟩
  ·rintro⟨l,h1,⟨h2,h3,h4,h5,h6⟩,h7⟩;exact⟨_,⟨l,h1,h2,h3,h4,h5,h6,rfl⟩,h7⟩
 | _=>simp [aT]
def p8(i:Nat)(x:PV)(K:PV→Prop):Prop:=
 match x with
 | .eQ l=>eB (jI l i) K
 | _=>False
@[congr] theorem aaz{i:Nat}{x x':PV}{K:PV→Prop}(h:x=x'):p8 i x K=p8 i x' K:=by rw [h]
@[simp] theorem afX{i:Nat}{l:List PV}{K:PV→Prop}:p8 i (.eQ l) K=eB (jI l i) K:=rfl
theorem x7{i:Nat}{x:PV}{K:PV→Prop}:aT (fun v=>FB i x v) K=p8 i x K:=by
 simp only [FB,p8]
 cases x<;>first | rfl | simp [aT]
def xA:List Oper→Nat→Option Tmp
 | [],_=>none
 | o::_,0=>o.dst
 | _::os,n+1=>xA os n
theorem zO:∀(ops:List Oper) (j:Nat),xA ops j=(ops[j]?).bind (·.dst)
 | [],j=>by simp [xA]
 | o::os,0=>by simp [xA]
 | o::os,n+1=>by simp [xA,zO os n]
@[simp] theorem afY{d:Option Tmp}{op:Op}{ty:TypeId}{pos:String}{af:Array Edge}{g:Option (Nat × Bool)}{os:List Oper}:xA (⟨d,op,ty,pos,af,g⟩::os) 0=d:=rfl
@[simp] theorem afZ{o:Oper}{os:List Oper}{n:Nat}:xA (o::os) (n+1)=xA os n:=rfl
def lL(o:Option Tmp)(f:Nat→PV)(w:Bool)(A B:Prop):Prop:=
 match o with
 | none=>False
 | some e=>stepG (f e) w A B
@[congr] theorem WG{o o':Option Tmp}{f:Nat→PV}{w:Bool}{A B:Prop}(h:o=o'):lL o f w A B=lL o' f w A B:=by rw [h]
@[simp] theorem aaA{e:Tmp}{f:Nat→PV}{w:Bool}{A B:Prop}:lL (some e) f w A B=stepG (f e) w A B:=rfl
@[simp] theorem af0{o:Option Tmp}{f:Nat→PV}{w:Bool}{A B:Prop}:go (lL o f w A B)=lL o f w A B:=rfl
section
variable {E:Env} {ops os:List Oper} {K:PS→Prop} {f:Nat→PV} {rows:Rows} {clk:Nat} {d:Option Tmp} {ty:TypeId} {pos:String} {af:Array Edge} {k:Nat} {bI:Nat→Nat→Prop} {aI:Nat→Nat→Prop}
theorem CD{op:Op}{j:Nat}{want:Bool}:aH E ops (⟨d,op,ty,pos,af,some (j,want)⟩::os) K ⟨f,rows,clk⟩=lL ((ops[j]?).bind (·.dst)) f want (aH E ops (⟨d,op,ty,pos,af,none⟩::os) K ⟨f,rows,clk⟩) (aH E ops os K ⟨put f d (.eQ []),rows,clk⟩):=GC
theorem CF{op:Op}{j:Nat}{want:Bool}:aJ E ops clk k (⟨d,op,ty,pos,af,some (j,want)⟩::os) K ⟨f,rows,bI,aI⟩=lL ((ops[j]?).bind (·.dst)) f want (aJ E ops clk k (⟨d,op,ty,pos,af,none⟩::os) K ⟨f,rows,bI,aI⟩) (aJ E ops clk (k+1) os K ⟨put f d (.eQ []),rows,bI,aI⟩):=GK
end
section
variable {E:Env} {ops os:List Oper} {K:PS→Prop} {f:Nat→PV} {rows:Rows} {clk:Nat} {d:Option Tmp} {ty:TypeId} {pos:String} {af:Array Edge} {k:Nat} {bI:Nat→Nat→Prop} {aI:Nat→Nat→Prop}
theorem GS{t:TypeId}{x:Operand}:aH E ops (⟨d, .load t x,ty,pos,af,none⟩::os) K ⟨f,rows,clk⟩=iY E t rows (aN f x) fun v=>aH E ops os K ⟨put f d v,rows,clk⟩:=by rw [LB,pE]
theorem CG{t:TypeId}{i:Nat}{x:Operand}:aH E ops (⟨d, .field t x i,ty,pos,af,none⟩::os) K ⟨f,rows,clk⟩=iC (E.ty t) i (aN f x) fun v=>aH E ops os K ⟨put f d v,rows,clk⟩:=by rw [GD,sA]
theorem s9{t:TypeId}{i:Nat}{x:Operand}:aH E ops (⟨d, .fieldAddr t x i,ty,pos,af,none⟩::os) K ⟨f,rows,clk⟩=cU (E.ty t) rows i (aN f x) fun v=>aH E ops os K ⟨put f d v,rows,clk⟩:=by rw [uU,l5]
theorem tA{t:TypeId}{x y:Operand}:aH E ops (⟨d, .indexAddr t x y,ty,pos,af,none⟩::os) K ⟨f,rows,clk⟩=bV (E.ty t) rows (aN f x) (aN f y) fun v=>aH E ops os K ⟨put f d v,rows,clk⟩:=by rw [uV,l6]
theorem CI{t:TypeId}{x:Operand}{lo hi mx:Option Operand}:aH E ops (⟨d, .slice t x lo hi mx,ty,pos,af,none⟩::os) K ⟨f,rows,clk⟩=eD (E.ty t) rows (aN f x) (lo.map (aN f)) (hi.map (aN f)) (mx.map (aN f)) fun v=>aH E ops os K ⟨put f d v,rows,clk⟩:=by rw [GF,sC]
theorem LN{t:TypeId}{x:Operand}:aH E ops (⟨d, .call { callee:=.builtin .len,args:=⟨[x]⟩,argTypes:=⟨[t]⟩ },ty,pos,af,none⟩::os) K ⟨f,rows,clk⟩=jM (E.ty t) rows (aN f x) fun v=>aH E ops os K ⟨put f d v,rows,clk⟩:=by rw [P5,xY]
theorem CJ{t:TypeId}{p x:Operand}:aH E ops (⟨none, .store t p x,ty,pos,af,none⟩::os) K ⟨f,rows,clk⟩=iD E t rows (aN f p) (aN f x) fun id r=>aH E ops os K ⟨f,c4 rows id (some r),clk⟩:=by rw [GI,xZ]
theorem zP{t t2:TypeId}{x y:Operand}:aH E ops (⟨d, .call { callee:=.builtin .append,args:=⟨[x,y]⟩,argTypes:=⟨[t,t2]⟩ },ty,pos,af,none⟩::os) K ⟨f,rows,clk⟩ =
  aE (t2=t∨OV (E.ty t2)=true) (mZ (E.ty t) rows (aN f x) (aN f y) clk (d.getD 0) fun v rows clk=>aH E ops os K ⟨put f d v,rows,clk⟩):=by rw [B5,WB]
theorem GU{t:TypeId}{x:Operand}:aJ E ops clk k (⟨d, .load t x,ty,pos,af,none⟩::os) K ⟨f,rows,bI,aI⟩=iY E t (dC .any ops k aI rows) (aN f x) fun v=>aJ E ops clk (k+1) os K ⟨put f d v,rows,iB k (aS (aN f x)) bI,aI⟩:=by rw [LI,pE]
theorem CK{t:TypeId}{i:Nat}{x:Operand}:aJ E ops clk k (⟨d, .field t x i,ty,pos,af,none⟩::os) K ⟨f,rows,bI,aI⟩=iC (E.ty t) i (aN f x) fun v=>aJ E ops clk (k+1) os K ⟨put f d v,rows,bI,aI⟩:=by rw [GL,sA]
theorem tB{t:TypeId}{i:Nat}{x:Operand}:aJ E ops clk k (⟨d, .fieldAddr t x i,ty,pos,af,none⟩::os) K ⟨f,rows,bI,aI⟩=cU (E.ty t) (dC .any ops k aI rows) i (aN f x) fun v=>aJ E ops clk (k+1) os K ⟨put f d v,rows,iB k (aS (aN f x)) bI,aI⟩:=by rw [uX,l5]
theorem tC{t:TypeId}{x y:Operand}:aJ E ops clk k (⟨d, .indexAddr t x y,ty,pos,af,none⟩::os) K ⟨f,rows,bI,aI⟩=bV (E.ty t) (dC .any ops k aI rows) (aN f x) (aN f y) fun v=>aJ E ops clk (k+1) os K ⟨put f d v,rows,iB k (aS (aN f x)) bI,aI⟩:=by rw [uY,l6]
theorem CL{t:TypeId}{x:Operand}{lo hi mx:Option Operand}:aJ E ops clk k (⟨d, .slice t x lo hi mx,ty,pos,af,none⟩::os) K ⟨f,rows,bI,aI⟩=eD (E.ty t) (dC .any ops k aI rows) (aN f x) (lo.map (aN f)) (hi.map (aN f)) (mx.map (aN f)) fun v=>aJ E ops clk (k+1) os K ⟨put f d v,rows,iB k (aS (aN f x)) bI,aI⟩:=by rw [GM,sC]
theorem LO{t:TypeId}{x:Operand}:aJ E ops clk k (⟨d, .call { callee:=.builtin .len,args:=⟨[x]⟩,argTypes:=⟨[t]⟩ },ty,pos,af,none⟩::os) K ⟨f,rows,bI,aI⟩=jM (E.ty t) (dC .any ops k aI rows) (aN f x) fun v=>aJ E ops clk (k+1) os K ⟨put f d v,rows,iB k (aS (aN f x)) bI,aI⟩:=by rw [QA,xY]
theorem CM{t:TypeId}{p x:Operand}:aJ E ops clk k (⟨none, .store t p x,ty,pos,af,none⟩::os) K ⟨f,rows,bI,aI⟩ =
  iD E t (dC .any ops k aI rows) (aN f p) (aN f x) fun id r=>aE (uL .any ops k id bI) (aJ E ops clk (k+1) os K ⟨f,c4 rows id (some r),iB k (aS (aN f p)++((bP (aN f x)).getD []).flatMap aS) bI,mE k id aI⟩):=by rw [GO,←xZ];rfl
theorem I5{x:Operand}:go (aH E ops (⟨d, .move x,ty,pos,af,none⟩::os) K ⟨f,rows,clk⟩)=go (aH E ops os K ⟨put f d (aN f x),rows,clk⟩):=K8
theorem x8{x:Operand}:go (aH E ops (⟨d, .assign x,ty,pos,af,none⟩::os) K ⟨f,rows,clk⟩)=go (aH E ops os K ⟨put f d (aN f x),rows,clk⟩):=B4
theorem WH{c a b:Operand}:go (aH E ops (⟨d, .pick c a b,ty,pos,af,none⟩::os) K ⟨f,rows,clk⟩)=fN (aN f c) true (aH E ops os K ⟨put f d (aN f a),rows,clk⟩) (aH E ops os K ⟨put f d (aN f b),rows,clk⟩):=K9
theorem QI{op:BinOp}{t t2:TypeId}{x y:Operand}:go (aH E ops (⟨d, .binOp op t x y t2,ty,pos,af,none⟩::os) K ⟨f,rows,clk⟩)=aT (fun v=>yZ E op t (aN f x) (aN f y) v) fun v=>aH E ops os K ⟨put f d v,rows,clk⟩:=P4
theorem ah4{op:UnOp}{t:TypeId}{x:Operand}:go (aH E ops (⟨d, .unOp op t x,ty,pos,af,none⟩::os) K ⟨f,rows,clk⟩)=aT (fun v=>ZT op (aN f x) v) fun v=>aH E ops os K ⟨put f d v,rows,clk⟩:=V5
theorem zS{s t:TypeId}{x:Operand}:go (aH E ops (⟨d, .convert s t x,ty,pos,af,none⟩::os) K ⟨f,rows,clk⟩)=aT (fun v=>oM (E.ty s) (E.ty t) (aN f x) v) fun v=>aH E ops os K ⟨put f d v,rows,clk⟩:=LA
theorem GV{i:Nat}{x:Operand}:go (aH E ops (⟨d, .extract x i,ty,pos,af,none⟩::os) K ⟨f,rows,clk⟩)=p8 i (aN f x) fun v=>aH E ops os K ⟨put f d v,rows,clk⟩:=by
 show aH E ops (⟨d, .extract x i,ty,pos,af,none⟩::os) K ⟨f,rows,clk⟩=_
 rw [zJ,x7]
theorem WI{t:TypeId}{x:Operand}:go (aH E ops (⟨d, .load t x,ty,pos,af,none⟩::os) K ⟨f,rows,clk⟩)=iY E t rows (aN f x) fun v=>aH E ops os K ⟨put f d v,rows,clk⟩:=GS
theorem QJ{t:TypeId}{i:Nat}{x:Operand}:go (aH E ops (⟨d, .field t x i,ty,pos,af,none⟩::os) K ⟨f,rows,clk⟩)=iC (E.ty t) i (aN f x) fun v=>aH E ops os K ⟨put f d v,rows,clk⟩:=CG
theorem zT{t:TypeId}{i:Nat}{x:Operand}:go (aH E ops (⟨d, .fieldAddr t x i,ty,pos,af,none⟩::os) K ⟨f,rows,clk⟩)=cU (E.ty t) rows i (aN f x) fun v=>aH E ops os K ⟨put f d v,rows,clk⟩:=s9
theorem zU{t:TypeId}{x y:Operand}:go (aH E ops (⟨d, .indexAddr t x y,ty,pos,af,none⟩::os) K ⟨f,rows,clk⟩)=bV (E.ty t) rows (aN f x) (aN f y) fun v=>aH E ops os K ⟨put f d v,rows,clk⟩:=tA
theorem QK{t:TypeId}{x:Operand}{lo hi mx:Option Operand}:go (aH E ops (⟨d, .slice t x lo hi mx,ty,pos,af,none⟩::os) K ⟨f,rows,clk⟩)=eD (E.ty t) rows (aN f x) (lo.map (aN f)) (hi.map (aN f)) (mx.map (aN f)) fun v=>aH E ops os K ⟨put f d v,rows,clk⟩:=CI
theorem QL{t:TypeId}{parts:Array (Nat × Operand)}:go (aH E ops (⟨d, .build t parts,ty,pos,af,none⟩::os) K ⟨f,rows,clk⟩)=i4 (E.ty t) (parts.toList.map fun x=>(x.1,aN f x.2)) fun v=>aH E ops os K ⟨put f d v,rows,clk⟩:=by
 show aH E ops (⟨d, .build t parts,ty,pos,af,none⟩::os) K ⟨f,rows,clk⟩=_
 rw [GG,sE]
theorem CN{t:TypeId}{x y:Operand}:go (aH E ops (⟨d, .index t x y,ty,pos,af,none⟩::os) K ⟨f,rows,clk⟩)=aT (fun v=>o8 E (E.ty t) (aN f x) (aN f y) v) fun v=>aH E ops os K ⟨put f d v,rows,clk⟩:=GH
theorem CO{x:Operand}:go (aH E ops (⟨d, .nilCheck x,ty,pos,af,none⟩::os) K ⟨f,rows,clk⟩)=oV rows (aN f x) fun v=>aH E ops os K ⟨put f d v,rows,clk⟩:=by show aH E ops _ K _=_;rw [w6,xX]
theorem acC{t:TypeId}{x:Operand}:go (aH E ops (⟨d, .call { callee:=.builtin .len,args:=⟨[x]⟩,argTypes:=⟨[t]⟩ },ty,pos,af,none⟩::os) K ⟨f,rows,clk⟩)=jM (E.ty t) rows (aN f x) fun v=>aH E ops os K ⟨put f d v,rows,clk⟩:=LN
theorem acD{ts:Array TypeId}{x y:Operand}:go (aH E ops (⟨d, .call { callee:=.builtin .max,args:=⟨[x,y]⟩,argTypes:=ts },ty,pos,af,none⟩::os) K ⟨f,rows,clk⟩)=aT (fun v=>FD (aN f x) (aN f y) v) fun v=>aH E ops os K ⟨put f d v,rows,clk⟩:=P6
theorem acE{ts:Array TypeId}{x y:Operand}:go (aH E ops (⟨d, .call { callee:=.builtin .min,args:=⟨[x,y]⟩,argTypes:=ts },ty,pos,af,none⟩::os) K ⟨f,rows,clk⟩)=aT (fun v=>FE (aN f x) (aN f y) v) fun v=>aH E ops os K ⟨put f d v,rows,clk⟩:=P7
theorem xB{t:TypeId}{len:Nat}{parts:Array (Nat × Operand)}:go (aH E ops (⟨d, .buildSlice t len parts,ty,pos,af,none⟩::os) K ⟨f,rows,clk⟩)=p7 (E.ty t) rows len (parts.toList.map fun x=>(x.1,aN f x.2)) fun v=>aH E ops os K ⟨put f d v,rows,clk⟩:=by
 show aH E ops (⟨d, .buildSlice t len parts,ty,pos,af,none⟩::os) K ⟨f,rows,clk⟩=_
 rw [s7,x6]
theorem QM{t:TypeId}{p x:Operand}:go (aH E ops (⟨none, .store t p x,ty,pos,af,none⟩::os) K ⟨f,rows,clk⟩)=iD E t rows (aN f p) (aN f x) fun id r=>aH E ops os K ⟨f,c4 rows id (some r),clk⟩:=CJ
theorem QN{t:TypeId}:go (aH E ops (⟨d, .alloc t,ty,pos,af,none⟩::os) K ⟨f,rows,clk⟩)=aE ((E.ty t).known=true) (aH E ops os K ⟨put f d (.ptr (d.getD 0) clk 0 0),c4 rows (d.getD 0) (some ⟨clk,t,(E.ty t).size,[(E.ty t).zero]⟩),clk+1⟩):=GJ
theorem acF{t:TypeId}{x:Operand}:go (aH E ops (⟨d, .box t x,ty,pos,af,none⟩::os) K ⟨f,rows,clk⟩)=aE ((E.ty t).known=true) (eB (bP (aN f x)) fun l=>aE (fG rows l∧l.length=(E.ty t).size) (aH E ops os K ⟨put f d (.ptr (d.getD 0) clk 0 0),c4 rows (d.getD 0) (some ⟨clk,t,(E.ty t).size,[l]⟩),clk+1⟩)):=by
 show aH E ops (⟨d, .box t x,ty,pos,af,none⟩::os) K ⟨f,rows,clk⟩=_
 rw [P8]
 simp only [aE,eB,fG,and_assoc]
theorem zV{t:TypeId}{l c:Operand}:go (aH E ops (⟨d, .makeSlice t l c,ty,pos,af,none⟩::os) K ⟨f,rows,clk⟩)=mX (E.ty t) (aN f l) (aN f c) fun e n z x=>aH E ops os K ⟨put f d (.own (d.getD 0) clk 0 x.toNat),c4 rows (d.getD 0) (some ⟨clk,e,n,List.replicate x.toNat z⟩),clk+1⟩:=uW
theorem LP{t t2:TypeId}{x y:Operand}:go (aH E ops (⟨d, .call { callee:=.builtin .append,args:=⟨[x,y]⟩,argTypes:=⟨[t,t2]⟩ },ty,pos,af,none⟩::os) K ⟨f,rows,clk⟩)=aE (t2=t∨OV (E.ty t2)=true) (mZ (E.ty t) rows (aN f x) (aN f y) clk (d.getD 0) fun v rows clk=>aH E ops os K ⟨put f d v,rows,clk⟩):=zP
theorem WJ{fo:Operand}{args:Array Operand}{ts:Array TypeId}:go (aH E ops (⟨d, .call { callee:=.value fo,args:=args,argTypes:=ts },ty,pos,af,none⟩::os) K ⟨f,rows,clk⟩)=mY E (aN f fo) (args.toList.map (aN f)) rows clk fun v rows clk=>aH E ops os K ⟨put f d v,rows,clk⟩:=LD
theorem CP{g:FuncId}{b8:Array Operand}:go (aH E ops (⟨d, .makeFunc (.func g) ⟨[]⟩ b8,ty,pos,af,none⟩::os) K ⟨f,rows,clk⟩)=aE (((b8.toList.map (aN f)).map (pz rows)).all eR=true∧dG rows ((b8.toList.map (aN f)).flatMap cW))
      (aH E ops os K ⟨put f d (.fn g ((b8.toList.map (aN f)).map (pz rows))),xP rows ((b8.toList.map (aN f)).flatMap cW),clk⟩):=w7
theorem QO{op:Op}{j:Nat}{want:Bool}:go (aH E ops (⟨d,op,ty,pos,af,some (j,want)⟩::os) K ⟨f,rows,clk⟩)=lL (xA ops j) f want (aH E ops (⟨d,op,ty,pos,af,none⟩::os) K ⟨f,rows,clk⟩) (aH E ops os K ⟨put f d (.eQ []),rows,clk⟩):=by
 rw [zO,←CD];rfl
theorem WK{x:Operand}:go (aJ E ops clk k (⟨d, .move x,ty,pos,af,none⟩::os) K ⟨f,rows,bI,aI⟩)=go (aJ E ops clk (k+1) os K ⟨put f d (aN f x),rows,bI,aI⟩):=LF
theorem LQ{x:Operand}:go (aJ E ops clk k (⟨d, .assign x,ty,pos,af,none⟩::os) K ⟨f,rows,bI,aI⟩)=go (aJ E ops clk (k+1) os K ⟨put f d (aN f x),rows,bI,aI⟩):=B7
theorem WL{c a b:Operand}:go (aJ E ops clk k (⟨d, .pick c a b,ty,pos,af,none⟩::os) K ⟨f,rows,bI,aI⟩)=fN (aN f c) true (aJ E ops clk (k+1) os K ⟨put f d (aN f a),rows,bI,aI⟩) (aJ E ops clk (k+1) os K ⟨put f d (aN f b),rows,bI,aI⟩):=LG
theorem acG{op:BinOp}{t t2:TypeId}{x y:Operand}:go (aJ E ops clk k (⟨d, .binOp op t x y t2,ty,pos,af,none⟩::os) K ⟨f,rows,bI,aI⟩)=aT (fun v=>yZ E op t (aN f x) (aN f y) v) fun v=>aJ E ops clk (k+1) os K ⟨put f d v,rows,bI,aI⟩:=P9
theorem ah5{op:UnOp}{t:TypeId}{x:Operand}:go (aJ E ops clk k (⟨d, .unOp op t x,ty,pos,af,none⟩::os) K ⟨f,rows,bI,aI⟩)=aT (fun v=>ZT op (aN f x) v) fun v=>aJ E ops clk (k+1) os K ⟨put f d v,rows,bI,aI⟩:=V7
theorem WM{s t:TypeId}{x:Operand}:go (aJ E ops clk k (⟨d, .convert s t x,ty,pos,af,none⟩::os) K ⟨f,rows,bI,aI⟩)=aT (fun v=>oM (E.ty s) (E.ty t) (aN f x) v) fun v=>aJ E ops clk (k+1) os K ⟨put f d v,rows,bI,aI⟩:=LH
theorem GW{i:Nat}{x:Operand}:go (aJ E ops clk k (⟨d, .extract x i,ty,pos,af,none⟩::os) K ⟨f,rows,bI,aI⟩)=p8 i (aN f x) fun v=>aJ E ops clk (k+1) os K ⟨put f d v,rows,bI,aI⟩:=by
 show aJ E ops clk k (⟨d, .extract x i,ty,pos,af,none⟩::os) K ⟨f,rows,bI,aI⟩=_
 rw [zK,x7]
theorem WN{t:TypeId}{x:Operand}:go (aJ E ops clk k (⟨d, .load t x,ty,pos,af,none⟩::os) K ⟨f,rows,bI,aI⟩)=iY E t (dC .any ops k aI rows) (aN f x) fun v=>aJ E ops clk (k+1) os K ⟨put f d v,rows,iB k (aS (aN f x)) bI,aI⟩:=GU
theorem QP{t:TypeId}{i:Nat}{x:Operand}:go (aJ E ops clk k (⟨d, .field t x i,ty,pos,af,none⟩::os) K ⟨f,rows,bI,aI⟩)=iC (E.ty t) i (aN f x) fun v=>aJ E ops clk (k+1) os K ⟨put f d v,rows,bI,aI⟩:=CK
theorem zW{t:TypeId}{i:Nat}{x:Operand}:go (aJ E ops clk k (⟨d, .fieldAddr t x i,ty,pos,af,none⟩::os) K ⟨f,rows,bI,aI⟩)=cU (E.ty t) (dC .any ops k aI rows) i (aN f x) fun v=>aJ E ops clk (k+1) os K ⟨put f d v,rows,iB k (aS (aN f x)) bI,aI⟩:=tB
theorem zY{t:TypeId}{x y:Operand}:go (aJ E ops clk k (⟨d, .indexAddr t x y,ty,pos,af,none⟩::os) K ⟨f,rows,bI,aI⟩)=bV (E.ty t) (dC .any ops k aI rows) (aN f x) (aN f y) fun v=>aJ E ops clk (k+1) os K ⟨put f d v,rows,iB k (aS (aN f x)) bI,aI⟩:=tC
theorem QQ{t:TypeId}{x:Operand}{lo hi mx:Option Operand}:go (aJ E ops clk k (⟨d, .slice t x lo hi mx,ty,pos,af,none⟩::os) K ⟨f,rows,bI,aI⟩)=eD (E.ty t) (dC .any ops k aI rows) (aN f x) (lo.map (aN f)) (hi.map (aN f)) (mx.map (aN f)) fun v=>aJ E ops clk (k+1) os K ⟨put f d v,rows,iB k (aS (aN f x)) bI,aI⟩:=CL
theorem QR{t:TypeId}{parts:Array (Nat × Operand)}:go (aJ E ops clk k (⟨d, .build t parts,ty,pos,af,none⟩::os) K ⟨f,rows,bI,aI⟩)=i4 (E.ty t) (parts.toList.map fun x=>(x.1,aN f x.2)) fun v=>aJ E ops clk (k+1) os K ⟨put f d v,rows,bI,aI⟩:=by
 show aJ E ops clk k (⟨d, .build t parts,ty,pos,af,none⟩::os) K ⟨f,rows,bI,aI⟩=_
 rw [GN,sE]
theorem CQ{x:Operand}:go (aJ E ops clk k (⟨d, .nilCheck x,ty,pos,af,none⟩::os) K ⟨f,rows,bI,aI⟩)=oV (dC .any ops k aI rows) (aN f x) fun v=>aJ E ops clk (k+1) os K ⟨put f d v,rows,iB k (aS (aN f x)) bI,aI⟩:=by show aJ E ops clk k _ K _=_;rw [w8,xX]
theorem acH{t:TypeId}{x:Operand}:go (aJ E ops clk k (⟨d, .call { callee:=.builtin .len,args:=⟨[x]⟩,argTypes:=⟨[t]⟩ },ty,pos,af,none⟩::os) K ⟨f,rows,bI,aI⟩)=jM (E.ty t) (dC .any ops k aI rows) (aN f x) fun v=>aJ E ops clk (k+1) os K ⟨put f d v,rows,iB k (aS (aN f x)) bI,aI⟩:=LO
theorem acI{ts:Array TypeId}{x y:Operand}:go (aJ E ops clk k (⟨d, .call { callee:=.builtin .max,args:=⟨[x,y]⟩,argTypes:=ts },ty,pos,af,none⟩::os) K ⟨f,rows,bI,aI⟩)=aT (fun v=>FD (aN f x) (aN f y) v) fun v=>aJ E ops clk (k+1) os K ⟨put f d v,rows,bI,aI⟩:=QB
theorem acJ{ts:Array TypeId}{x y:Operand}:go (aJ E ops clk k (⟨d, .call { callee:=.builtin .min,args:=⟨[x,y]⟩,argTypes:=ts },ty,pos,af,none⟩::os) K ⟨f,rows,bI,aI⟩)=aT (fun v=>FE (aN f x) (aN f y) v) fun v=>aJ E ops clk (k+1) os K ⟨put f d v,rows,bI,aI⟩:=QC
theorem xC{t:TypeId}{len:Nat}{parts:Array (Nat × Operand)}:go (aJ E ops clk k (⟨d, .buildSlice t len parts,ty,pos,af,none⟩::os) K ⟨f,rows,bI,aI⟩)=p7 (E.ty t) (dC .any ops k aI rows) len (parts.toList.map fun x=>(x.1,aN f x.2)) fun v=>aJ E ops clk (k+1) os K ⟨put f d v,rows,bI,aI⟩:=by
 show aJ E ops clk k (⟨d, .buildSlice t len parts,ty,pos,af,none⟩::os) K ⟨f,rows,bI,aI⟩=_
 rw [s8,x6]
theorem QS{t:TypeId}{p x:Operand}:go (aJ E ops clk k (⟨none, .store t p x,ty,pos,af,none⟩::os) K ⟨f,rows,bI,aI⟩)=iD E t (dC .any ops k aI rows) (aN f p) (aN f x) fun id r=>aE (uL .any ops k id bI) (aJ E ops clk (k+1) os K ⟨f,c4 rows id (some r),iB k (aS (aN f p)++((bP (aN f x)).getD []).flatMap aS) bI,mE k id aI⟩):=CM
theorem QT{t:TypeId}:go (aJ E ops clk k (⟨d, .alloc t,ty,pos,af,none⟩::os) K ⟨f,rows,bI,aI⟩)=aE ((E.ty t).known=true∧uL .any ops k (d.getD 0) bI) (aJ E ops (clk+1) (k+1) os K ⟨put f d (.ptr (d.getD 0) clk 0 0),c4 rows (d.getD 0) (some ⟨clk,t,(E.ty t).size,[(E.ty t).zero]⟩),bI,mE k (d.getD 0) aI⟩):=GP
theorem acK{t:TypeId}{x:Operand}:go (aJ E ops clk k (⟨d, .box t x,ty,pos,af,none⟩::os) K ⟨f,rows,bI,aI⟩)=aE ((E.ty t).known=true) (eB (bP (aN f x)) fun l=>aE (fG (fun _=>none) l∧l.length=(E.ty t).size∧uL .any ops k (d.getD 0) bI) (aJ E ops (clk+1) (k+1) os K ⟨put f d (.ptr (d.getD 0) clk 0 0),c4 rows (d.getD 0) (some ⟨clk,t,(E.ty t).size,[l]⟩),bI,mE k (d.getD 0) aI⟩)):=by
 show aJ E ops clk k (⟨d, .box t x,ty,pos,af,none⟩::os) K ⟨f,rows,bI,aI⟩=_
 rw [QE]
 simp only [aE,eB,fG]
theorem zZ{t:TypeId}{l c:Operand}:go (aJ E ops clk k (⟨d, .makeSlice t l c,ty,pos,af,none⟩::os) K ⟨f,rows,bI,aI⟩)=mX (E.ty t) (aN f l) (aN f c) fun e n z x=>aE (uL .any ops k (d.getD 0) bI) (aJ E ops (clk+1) (k+1) os K ⟨put f d (.own (d.getD 0) clk 0 x.toNat),c4 rows (d.getD 0) (some ⟨clk,e,n,List.replicate x.toNat z⟩),bI,mE k (d.getD 0) aI⟩):=uZ
def m6(t:TI)(rows:Rows)(x y:PV)(clk d:Nat)(K:PV→Nat→Row→Prop)(K0:PV→Prop):Prop:=
 match t with
 | .slice e n b _=>iE rows y fun l=>aE (a8 n l) (match x with
  | .nil=>aE (l.length≤room∧l.length*b≤room) (K (.own d clk 0 l.length) d ⟨clk,e,n,l⟩)
  | .own id ver off len=>bE (rows id) ver fun r=>aE (off=0∧r.e=e∧r.size=n) (eK (len=r.els.length) len r.els fun els=>aE (len+l.length≤room∧(len+l.length)*b≤room) (K (.own id clk 0 (len+l.length)) id ⟨clk,e,n,els++l⟩))
  | .fX l0=>aE (a8 n l0 ∧ ∀e∈l,∀p∈e,bL p=true) (aE (l0.length+l.length≤room∧(l0.length+l.length)*b≤room) (K0 (.sl (l0++l))))
  | _=>False)
 | _=>False
@[congr] theorem aaB{t t':TI}{rows rows':Rows}{x x' y y':PV}{clk d:Nat}{K:PV→Nat→Row→Prop}{K0:PV→Prop}(h1:t=t')(h2:rows=rows')(h3:x=x')(h4:y=y') :
  m6 t rows x y clk d K K0=m6 t' rows' x' y' clk d K K0:=by rw [h1,h2,h3,h4]
section
variable {e:TypeId} {n b:Nat} {z:List PV} {rows:Rows} {y:PV} {clk d id ver off len:Nat} {K:PV→Nat→Row→Prop} {K0:PV→Prop}
@[simp] theorem af1:m6 (.slice e n b z) rows .nil y clk d K K0=iE rows y fun l=>aE (a8 n l) (aE (l.length≤room∧l.length*b≤room) (K (.own d clk 0 l.length) d ⟨clk,e,n,l⟩)):=rfl
@[simp] theorem af2:m6 (.slice e n b z) rows (.own id ver off len) y clk d K K0=iE rows y fun l=>aE (a8 n l) (bE (rows id) ver fun r=>aE (off=0∧r.e=e∧r.size=n) (eK (len=r.els.length) len r.els fun els=>aE (len+l.length≤room∧(len+l.length)*b≤room) (K (.own id clk 0 (len+l.length)) id ⟨clk,e,n,els++l⟩))):=rfl
@[simp] theorem af3{l0:List (List PV)}:m6 (.slice e n b z) rows (.fX l0) y clk d K K0=iE rows y fun l=>aE (a8 n l) (aE (a8 n l0 ∧ ∀e∈l,∀p∈e,bL p=true) (aE (l0.length+l.length≤room∧(l0.length+l.length)*b≤room) (K0 (.sl (l0++l))))):=rfl
end
@[simp] theorem ah6(t:TI)(r:Rows)(x y:PV)(c d:Nat)(K:PV→Nat→Row→Prop)(K0:PV→Prop):go (m6 t r x y c d K K0)=m6 t r x y c d K K0:=rfl
theorem QU{t:TI}{rows:Rows}{x y:PV}{clk d:Nat}{K:PV→Option (Nat × Row)→Prop}:(∃v u,oT t rows x y clk d v u∧K v u)=m6 t rows x y clk d (fun v id r=>K v (some (id,r))) (fun v=>K v none):=by
 cases t with
 | slice e n b z =>
  simp only [m6,oT]
  rw [←I2]
  apply propext
  cases x with
  | nil =>
   simp only [aE,a8]
   constructor
   ·rintro⟨v,u,⟨l,h1,h2,h3,h4,rfl,rfl⟩,h6⟩
    exact⟨l,h1,h2,⟨h3,h4⟩,h6⟩
   ·rintro⟨l,h1,h2,⟨h3,h4⟩,h6⟩
    exact⟨_,_,⟨l,h1,h2,h3,h4,rfl,rfl⟩,h6⟩
  | fX l0 =>
   simp only [aE,a8]
   constructor
   ·rintro⟨v,u,⟨l,h1,h2,h3,h4,h5,h6,rfl,rfl⟩,h7⟩
    exact⟨l,h1,h2,⟨h3,h4⟩,⟨h5,h6⟩,h7⟩
   ·rintro⟨l,h1,h2,⟨h3,h4⟩,⟨h5,h6⟩,h7⟩
    exact⟨_,_,⟨l,h1,h2,h3,h4,h5,h6,rfl,rfl⟩,h7⟩
  | own id ver off len =>
   simp only [aE,a8,bE,I3]
   constructor
   ·rintro⟨v,u,⟨l,h1,h2,r,h3,h4,h5,h6,h7,h8,h9,h10,rfl,rfl⟩,h12⟩
    exact⟨l,h1,h2,r,h3,h4,⟨h5,h7,h8⟩,h6,⟨h9,h10⟩,h12⟩
   ·rintro⟨l,h1,h2,r,h3,h4,⟨h5,h7,h8⟩,h6,⟨h9,h10⟩,h12⟩
    exact⟨_,_,⟨l,h1,h2,r,h3,h4,h5,h6,h7,h8,h9,h10,rfl,rfl⟩,h12⟩
  | _=>simp [aE]
 | _=>simp [m6,oT]
theorem LR{t t2:TypeId}{x y:Operand}:go (aJ E ops clk k (⟨d, .call { callee:=.builtin .append,args:=⟨[x,y]⟩,argTypes:=⟨[t,t2]⟩ },ty,pos,af,none⟩::os) K ⟨f,rows,bI,aI⟩) =
  aE (t2=t∨OV (E.ty t2)=true) (m6 (E.ty t) (dC .any ops k aI rows) (aN f x) (aN f y) clk (d.getD 0) (fun v id r=>aE (uL .any ops k id bI) (aJ E ops (clk+1) (k+1) os K ⟨put f d v,c4 rows id (some r),iB k (aS (aN f x)++aS (aN f y)) bI,mE k id aI⟩))
   (fun v=>aJ E ops (clk+1) (k+1) os K ⟨put f d v,rows,iB k (aS (aN f x)++aS (aN f y)) bI,aI⟩)):=by
 show aJ E ops clk k (⟨d, .call { callee:=.builtin .append,args:=⟨[x,y]⟩,argTypes:=⟨[t,t2]⟩ },ty,pos,af,none⟩::os) K ⟨f,rows,bI,aI⟩=_
 rw [B8]
 congr 1
 rw [QU]
 simp only [BU,N3,dE,true_and]
 rfl
def m7(t:TI)(rows:Rows)(x y:PV)(K:PV→Nat→Row→Prop):Prop:=
 match t,x with
 | .slice _ n _ _, .own id ver off len=>∃r,rows id=some r∧r.ver=ver∧r.size=n∧off+len≤r.els.length ∧ ∃l,mT rows y l∧(∀e∈l,e.length=n) ∧
   K (.int .i64 (min l.length len)) id { r with els:=r.els.take off++l.take len++r.els.drop (off+min l.length len) }
 | _,_=>False
@[congr] theorem WO{t t':TI}{rows rows':Rows}{x x' y y':PV}{K:PV→Nat→Row→Prop}(h1:t=t')(h2:rows=rows')(h3:x=x')(h4:y=y'):m7 t rows x y K=m7 t' rows' x' y' K:=by rw [h1,h2,h3,h4]
@[simp] theorem af5(t:TI)(r:Rows)(x y:PV)(K:PV→Nat→Row→Prop):go (m7 t r x y K)=m7 t r x y K:=rfl
theorem LS{t:TI}{rows:Rows}{x y:PV}{K:PV→Option (Nat × Row)→Prop}:(∃v u,oQ t rows x y v u∧K v u)=m7 t rows x y fun v id r=>K v (some (id,r)):=by
 apply propext
 unfold oQ m7
 constructor
 ·rintro⟨v,u,h,hK⟩
  split at h
  ·obtain⟨r,h1,h2,h3,h4,l,h5,h6,rfl,rfl⟩:=h
   exact⟨r,h1,h2,h3,h4,l,h5,h6,hK⟩
  ·exact h.elim
 ·intro h
  split at h
  ·obtain⟨r,h1,h2,h3,h4,l,h5,h6,hK⟩:=h
   exact⟨_,_,⟨r,h1,h2,h3,h4,l,h5,h6,rfl,rfl⟩,hK⟩
  ·exact h.elim
theorem WQ{t t2:TypeId}{x y:Operand}:go (aJ E ops clk k (⟨d, .call { callee:=.builtin .copy,args:=⟨[x,y]⟩,argTypes:=⟨[t,t2]⟩ },ty,pos,af,none⟩::os) K ⟨f,rows,bI,aI⟩) =
  m7 (E.ty t) (dC .any ops k aI rows) (aN f x) (aN f y) fun v id r=>aE (uL .any ops k id bI) (aJ E ops clk (k+1) os K ⟨put f d v,c4 rows id (some r),iB k (aS (aN f x)++aS (aN f y)) bI,mE k id aI⟩):=by
 show aJ E ops clk k (⟨d, .call { callee:=.builtin .copy,args:=⟨[x,y]⟩,argTypes:=⟨[t,t2]⟩ },ty,pos,af,none⟩::os) K ⟨f,rows,bI,aI⟩=_
 rw [LJ,LS]
 simp only [BU,N3,dE]
 rfl
theorem ah7{e e':TypeId}{n b:Nat}{z:List PV}{rows:Rows}{id ver off len:Nat}{y:PV}{K:PV→Nat→Row→Prop}{els l:List (List PV)}(hr:rows id=some ⟨ver,e',n,els⟩)(hl:off+len≤els.length)(hy:mT rows y l)(h1:∀e∈l,e.length=n)
  (hK:go (K (.int .i64 (min l.length len)) id ⟨ver,e',n,els.take off++l.take len++els.drop (off+min l.length len)⟩)):m7 (.slice e n b z) rows (.own id ver off len) y K:=
 ⟨_,hr,rfl,rfl,hl,l,hy,h1,hK⟩
theorem QV{s:Tmp}{args:Array Operand}{ts:Array TypeId}:go (aJ E ops clk k (⟨d, .call { callee:=.value (.tmp s),args:=args,argTypes:=ts },ty,pos,af,none⟩::os) K ⟨f,rows,bI,aI⟩)=lK E (f s) (args.toList.map (aN f)) (dC .any ops k aI rows) fun v=>aJ E ops clk (k+1) os K ⟨put f d v,rows,bI,aI⟩:=xV rfl
def p9(P:Program)(g:FuncId)(args:List PV)(c:Prop)(K:TypeId→Nat→List (List PV)→Prop):Prop:=∃e n els,(args.all eR=true∧uJ P g args e n els∧c)∧K e n els
@[congr] theorem VC{P:Program}{g:FuncId}{args B6:List PV}{c c':Prop}{K:TypeId→Nat→List (List PV)→Prop}(h:args=B6)(hc:c=c'):p9 P g args c K=p9 P g B6 c' K:=by rw [h,hc]
@[simp] theorem acL{P:Program}{g:FuncId}{args:List PV}{c:Prop}{K:TypeId→Nat→List (List PV)→Prop}:go (p9 P g args c K)=p9 P g args c K:=rfl
theorem QW{g:FuncId}{args:Array Operand}{ts:Array TypeId}:go (aJ E ops clk k (⟨d, .call { callee:=.value (.func g),args:=args,argTypes:=ts },ty,pos,af,none⟩::os) K ⟨f,rows,bI,aI⟩) =
  if E.writes g=true then p9 E.P g (args.toList.map (aN f)) (uL .any ops k (d.getD 0) bI) (fun e n els=>aJ E ops (clk+1) (k+1) os K ⟨put f d (.own (d.getD 0) clk 0 els.length),c4 rows (d.getD 0) (some ⟨clk,e,n,els⟩),bI,mE k (d.getD 0) aI⟩)
  else lK E (.fn g []) (args.toList.map (aN f)) (dC .any ops k aI rows) fun v=>aJ E ops clk (k+1) os K ⟨put f d v,rows,bI,aI⟩:=by
 split
 ·rename_i hw;exact GQ hw
 ·rename_i hw;exact xV (by simpa [cT]using hw)
theorem CR{g:FuncId}{b8:Array Operand}:go (aJ E ops clk k (⟨d, .makeFunc (.func g) ⟨[]⟩ b8,ty,pos,af,none⟩::os) K ⟨f,rows,bI,aI⟩)=aE ((b8.toList.map fun x=>aN f x).all eR=true) (aJ E ops clk (k+1) os K ⟨put f d (.fn g (b8.toList.map fun x=>aN f x)),rows,bI,aI⟩):=w9
theorem QX{op:Op}{j:Nat}{want:Bool}:go (aJ E ops clk k (⟨d,op,ty,pos,af,some (j,want)⟩::os) K ⟨f,rows,bI,aI⟩)=lL (xA ops j) f want (aJ E ops clk k (⟨d,op,ty,pos,af,none⟩::os) K ⟨f,rows,bI,aI⟩) (aJ E ops clk (k+1) os K ⟨put f d (.eQ []),rows,bI,aI⟩):=by
 rw [zO,←CF];rfl
theorem QY{σ:PS}:go (aH E ops [] K σ)=K σ:=rfl
theorem acM{st:ST}:go (aJ E ops clk k [] K st)=go (K ⟨st.f,st.rows,clk⟩):=rfl
@[simp] theorem I6{s:Nat}:aN f (.tmp s)=f s:=rfl
@[simp] theorem ah8{g:FuncId}:aN f (.func g) = .fn g []:=rfl
@[simp] theorem LU{v:Value}:aN f (.const v)=kL v:=rfl
end
@[simp] theorem acN{k:IntKind}{n:Int}:kL (.int k n) = .int k n:=rfl
@[simp] theorem aaC{b:Bool}:kL (.bool b) = .bool b:=rfl
@[simp] theorem GX{s:ByteArray}:kL (.string s) = .str s:=rfl
@[simp] theorem aaD:kL (.pointer none) = .iN:=rfl
@[simp] theorem aaE:gC (.pointer none) = .iN:=rfl
@[simp] theorem acO:kL (.slice none 0 0) = .nil:=rfl
@[simp] theorem acP{cs:List Value}:kL (.agg ⟨cs⟩) = .ag (cs.map gC):=rfl
@[simp] theorem acQ{k:IntKind}{n:Int}:gC (.int k n) = .int k n:=rfl
@[simp] theorem aaF{b:Bool}:gC (.bool b) = .bool b:=rfl
@[simp] theorem acR{s:ByteArray}:gC (.string s) = .str s:=rfl
@[simp] theorem acS:gC (.slice none 0 0) = .nil:=rfl
@[simp] theorem ah9(R K:PV→Prop):go (aT R K)=aT R K:=rfl
@[simp] theorem aia(p:PV)(w:Bool)(A B:Prop):go (stepG p w A B)=stepG p w A B:=rfl
@[simp] theorem aib(p:PV)(w:Bool)(A B:Prop):go (fN p w A B)=fN p w A B:=rfl
@[simp] theorem aic(A B:Prop):go (aE A B)=aE A B:=rfl
@[simp] theorem acT(c:Prop)(len:Nat)(els:List (List PV))(K:List (List PV)→Prop):go (eK c len els K)=eK c len els K:=rfl
@[simp] theorem aid(P:Program)(g:FuncId)(l:List PV)(K:PV→Prop):go (p0 P g l K)=p0 P g l K:=rfl
@[simp] theorem acU(o:Option Row)(v:Nat)(K:Row→Prop):go (bE o v K)=bE o v K:=rfl
@[simp] theorem anM(l:List (List PV))(i:Nat)(K:List PV→Prop):go (xW l i K)=xW l i K:=rfl
@[simp] theorem anN(t:TI)(l:List PV)(j:Nat)(K:PV→Prop):go (r9 t l j K)=r9 t l j K:=rfl
@[simp] theorem af6(E:Env)(t:TypeId)(r:Rows)(p:PV)(K:PV→Prop):go (iY E t r p K)=iY E t r p K:=rfl
@[simp] theorem acV(t:TI)(i:Nat)(x:PV)(K:PV→Prop):go (iC t i x K)=iC t i x K:=rfl
@[simp] theorem alI(p:Nat × Nat × Bool)(l:List PV)(K:PV→Prop):go (zL p l K)=zL p l K:=rfl
@[simp] theorem aie(r:Rows)(x:PV)(K:PV→Prop):go (oV r x K)=oV r x K:=rfl
@[simp] theorem QZ(t:TI)(r:Rows)(i:Nat)(x:PV)(K:PV→Prop):go (cU t r i x K)=cU t r i x K:=rfl
@[simp] theorem Q0(t:TI)(r:Rows)(x y:PV)(K:PV→Prop):go (bV t r x y K)=bV t r x y K:=rfl
@[simp] theorem anO(d:Nat)(o:Option PV)(K:Nat→Prop):go (sB d o K)=sB d o K:=rfl
@[simp] theorem acW(t:TI)(r:Rows)(x:PV)(a b c:Option PV)(K:PV→Prop):go (eD t r x a b c K)=eD t r x a b c K:=rfl
@[simp] theorem aif(t:TI)(r:Rows)(x:PV)(K:PV→Prop):go (jM t r x K)=jM t r x K:=rfl
@[simp] theorem acX(E:Env)(t:TypeId)(r:Rows)(p x:PV)(K:Nat→Row→Prop):go (iD E t r p x K)=iD E t r p x K:=rfl
@[simp] theorem aih(r:Rows)(y:PV)(K:List (List PV)→Prop):go (iE r y K)=iE r y K:=rfl
@[simp] theorem aii(t:TI)(r:Rows)(x y:PV)(c d:Nat)(K:PV→Rows→Nat→Prop):go (mZ t r x y c d K)=mZ t r x y c d K:=rfl
@[simp] theorem aij(t:TI)(x y:PV)(K:TypeId→Nat→List PV→Int→Prop):go (mX t x y K)=mX t x y K:=rfl
@[simp] theorem af7(E:Env)(p:PV)(l:List PV)(r:Rows)(clk:Nat)(K:PV→Rows→Nat→Prop):go (mY E p l r clk K)=mY E p l r clk K:=rfl
@[simp] theorem aik(P:Program)(g:FuncId)(l:List PV)(r:Rows)(clk:Nat)(K:PV→Rows→Nat→Prop):go (rZ P g l r clk K)=rZ P g l r clk K:=rfl
@[simp] theorem af8(E:Env)(p:PV)(l:List PV)(r:Rows)(K:PV→Prop):go (lK E p l r K)=lK E p l r K:=rfl
@[simp] theorem ail{fs:List (Nat × Nat × Bool)}{ps:List (Nat × PV)}{z:List PV}{K:List PV→Prop}:go (j0 fs ps z K)=j0 fs ps z K:=rfl
@[simp] theorem acY{t:TI}{ps:List (Nat × PV)}{K:PV→Prop}:go (i4 t ps K)=i4 t ps K:=rfl
@[simp] theorem af9{n k:Nat}{ps:List (Nat × PV)}{K:List (List PV)→Prop}:go (gJ n k ps K)=gJ n k ps K:=rfl
@[simp] theorem aim{t:TI}{rows:Rows}{len:Nat}{ps:List (Nat × PV)}{K:PV→Prop}:go (p7 t rows len ps K)=p7 t rows len ps K:=rfl
@[simp] theorem ain{i:Nat}{x:PV}{K:PV→Prop}:go (p8 i x K)=p8 i x K:=rfl
@[simp] theorem alJ{α:Type}(o:Option α)(K:α→Prop):go (eB o K)=eB o K:=rfl
@[simp] theorem aqo{α:Type}(p:α→Prop):go (∃x,p x) = ∃x,go (p x):=rfl
@[simp] theorem aio:go False=False:=rfl
@[simp] theorem aqp{p:Prop}:go (go p)=go p:=rfl
@[simp] theorem aaG{t:PV}{K:PV→Prop}:aT (fun v=>v=t) K=go (K t):=iA
@[simp] theorem anP{t:PV}{K:PV→Prop}:aT (fun v=>t=v) K=go (K t):=K7
@[simp] theorem WR{B:Prop}:aE True B=go B:=GA
@[simp] theorem alK{len:Nat}{els:List (List PV)}{K:List (List PV)→Prop}:eK True len els K=go (K els):=zN
@[simp] theorem aqq{A B:Prop}:stepG (.bool true) true A B=go A:=PU
@[simp] theorem aqr{A B:Prop}:stepG (.bool true) false A B=go B:=PW
@[simp] theorem aqs{A B:Prop}:stepG (.bool false) true A B=go B:=PY
@[simp] theorem aqt{A B:Prop}:stepG (.bool false) false A B=go A:=PZ
@[simp] theorem aqu{w:Bool}{A B:Prop}:stepG (.eQ []) w A B=go B:=P0
@[simp] theorem aqv{A B:Prop}:fN (.bool true) true A B=go A:=PO
@[simp] theorem aqw{A B:Prop}:fN (.bool true) false A B=go B:=PQ
@[simp] theorem aqx{A B:Prop}:fN (.bool false) true A B=go B:=PR
@[simp] theorem aqy{A B:Prop}:fN (.bool false) false A B=go A:=P1
theorem gA{c B:Prop}(h:c):aE c B=go B:=by simp [aE,go,h]
theorem gP{c:Prop}{len:Nat}{els:List (List PV)}{K:List (List PV)→Prop}(h:c):eK c len els K=go (K els):=by simp [eK,go,h]
attribute [simp] gR PN uT P3 ack GB zI I5 x8 WH QI ah4 zS GV WI QJ zT zU QK QL CN CO CQ acC acD acE xB QM QN acF zV LP WJ CP QO WK LQ WQ WL acG ah5 WM GW WN QP zW zY QQ QR acH acI acJ xC QS QT acK zZ LR QV QW CR QX QY acM
attribute [simp] OV yZ ZT oM o8 FD FE mX mY lK oL TI.known TI.size TI.zero TI.agg PF PG B2 room
theorem xD{E:Env}{ops:List Oper}{K:PS→Prop}{f:Nat→PV}{rows:Rows}{clk:Nat}:eJ E 0 ops K ⟨f,rows,clk⟩=aJ E ops clk 0 ops K ⟨f,rows,fun _ _=>False,fun _ _=>False⟩:=by simp [eJ]
@[simp] theorem aga{b:Bool}:eR (.bool b)=true:=rfl
@[simp] theorem acZ{b:Bool}:bL (.bool b)=true:=rfl
@[simp] theorem agb{b:Bool}:aS (.bool b) = []:=rfl
@[simp] theorem agc{rows:Rows}{b:Bool}:eZ rows (.bool b)=True:=rfl
@[simp] theorem aaH{b:Bool}:bP (.bool b)=some [.bool b]:=rfl
@[simp] theorem aaI{b:Bool}:dM (.bool b)=some [.bool b]:=rfl
@[simp] theorem aip{k:IntKind}{n:Int}:eR (.int k n)=true:=rfl
@[simp] theorem agd{k:IntKind}{n:Int}:bL (.int k n)=true:=rfl
@[simp] theorem aiq{k:IntKind}{n:Int}:aS (.int k n) = []:=rfl
@[simp] theorem air{rows:Rows}{k:IntKind}{n:Int}:eZ rows (.int k n)=True:=rfl
@[simp] theorem ac0{k:IntKind}{n:Int}:bP (.int k n)=some [.int k n]:=rfl
@[simp] theorem ac1{k:IntKind}{n:Int}:dM (.int k n)=some [.int k n]:=rfl
@[simp] theorem ais{s:ByteArray}:eR (.str s)=true:=rfl
@[simp] theorem age{s:ByteArray}:bL (.str s)=true:=rfl
@[simp] theorem ait{s:ByteArray}:aS (.str s) = []:=rfl
@[simp] theorem aiu{rows:Rows}{s:ByteArray}:eZ rows (.str s)=True:=rfl
@[simp] theorem ac2{s:ByteArray}:bP (.str s)=some [.str s]:=rfl
@[simp] theorem ac3{s:ByteArray}:dM (.str s)=some [.str s]:=rfl
@[simp] theorem agf  : eR .iN=true:=rfl
@[simp] theorem ac4  : bL .iN=true:=rfl
@[simp] theorem agh  : aS .iN = []:=rfl
@[simp] theorem agi  : cW .iN = []:=rfl
@[simp] theorem alL{rows:Rows}:fz rows .iN = .iN:=rfl
@[simp] theorem alM{rows:Rows}:pz rows .iN = .iN:=rfl
@[simp] theorem agj{rows:Rows}  : eZ rows .iN=True:=rfl
@[simp] theorem aaJ  : bP .iN=some [.iN]:=rfl
@[simp] theorem aaK  : dM .iN=some [.iN]:=rfl
@[simp] theorem aiv  : eR .nil=true:=rfl
@[simp] theorem agk  : bL .nil=true:=rfl
@[simp] theorem aiw  : aS .nil = []:=rfl
@[simp] theorem aix{rows:Rows}  : eZ rows .nil=True:=rfl
@[simp] theorem ac5  : bP .nil=some [.nil]:=rfl
@[simp] theorem ac6  : dM .nil=some [.nil]:=rfl
@[simp] theorem alN{l:List (List PV)}:eR (.sl l)=true:=rfl
@[simp] theorem aiy{l:List (List PV)}:bL (.sl l)=true:=rfl
@[simp] theorem alO{l:List (List PV)}:aS (.sl l) = []:=rfl
@[simp] theorem alP{rows:Rows}{l:List (List PV)}:eZ rows (.sl l)=True:=rfl
@[simp] theorem agl{l:List (List PV)}:bP (.sl l)=some [.sl l]:=rfl
@[simp] theorem agm{l:List (List PV)}:dM (.sl l)=some [.sl l]:=rfl
@[simp] theorem aiz{l:List (List PV)}:eR (.fX l)=true:=rfl
@[simp] theorem agn{l:List (List PV)}:bL (.fX l)=true:=rfl
@[simp] theorem aiA{l:List (List PV)}:aS (.fX l) = []:=rfl
@[simp] theorem aiB{rows:Rows}{l:List (List PV)}:eZ rows (.fX l)=True:=rfl
@[simp] theorem ac7{l:List (List PV)}:bP (.fX l)=some [.fX l]:=rfl
@[simp] theorem ac8{l:List (List PV)}:dM (.fX l)=some [.fX l]:=rfl
@[simp] theorem WS{l:List PV}:eR (.rd l)=true:=rfl
@[simp] theorem Q1{l:List PV}:bL (.rd l)=true:=rfl
@[simp] theorem WT{l:List PV}:aS (.rd l) = []:=rfl
@[simp] theorem alQ{rows:Rows}{l:List PV}:eZ rows (.rd l)=True:=rfl
@[simp] theorem ago{l:List PV}:bP (.rd l)=some [.rd l]:=rfl
@[simp] theorem agp{l:List PV}:dM (.rd l)=some [.rd l]:=rfl
@[simp] theorem alR{f:FuncId}{l:List PV}:eR (.fn f l)=true:=rfl
@[simp] theorem aiC{f:FuncId}{l:List PV}:bL (.fn f l)=true:=rfl
@[simp] theorem alS{f:FuncId}{l:List PV}:aS (.fn f l) = []:=rfl
@[simp] theorem alT{rows:Rows}{f:FuncId}{l:List PV}:eZ rows (.fn f l)=True:=rfl
@[simp] theorem agq{f:FuncId}{l:List PV}:bP (.fn f l)=some [.fn f l]:=rfl
@[simp] theorem agr{f:FuncId}{l:List PV}:dM (.fn f l)=some [.fn f l]:=rfl
@[simp] theorem alU{l:List PV}:eR (.ag l)=l.all bL:=rfl
@[simp] theorem aiD{l:List PV}:eR (.eQ l)=true:=rfl
@[simp] theorem ags{l:List PV}:bP (.ag l)=some l:=rfl
@[simp] theorem agt{l:List PV}:dM (.ag l)=some l:=rfl
@[simp] theorem aiE{id v o l:Nat}:aS (.own id v o l) = [id]:=rfl
@[simp] theorem aiF{id v o l:Nat}:aS (.ptr id v o l) = [id]:=rfl
@[simp] theorem ac9{id v o l:Nat}:bP (.own id v o l)=some [.own id v o l]:=rfl
@[simp] theorem ada{id v o l:Nat}:bP (.ptr id v o l)=some [.ptr id v o l]:=rfl
def rowAt(o:Option Row)(ver:Nat):Prop:=∃r,o=some r∧r.ver=ver
@[simp] theorem adb{r:Row}{ver:Nat}:rowAt (some r) ver=(r.ver=ver):=by simp [rowAt]
@[simp] theorem aiG{rows:Rows}{id v o l:Nat}:eZ rows (.own id v o l)=rowAt (rows id) v:=rfl
@[simp] theorem aiH{rows:Rows}{id v o l:Nat}:eZ rows (.ptr id v o l)=rowAt (rows id) v:=rfl
@[simp] theorem agu{e l:List PV}{j:Nat}:fO [e] 0 j l = [e.take j++l++e.drop (j+l.length)]:=by simp [fO]
@[simp] theorem agv{e:List PV}{n:Nat}:p6 [e] 0 n=(n≤e.length):=by simp [p6]
@[simp] theorem agw{E:Env}{σ:PS}{t:Tmp}{rs:List ResultVar}{K:List PV→Prop}:l4 E σ (.tmp t::rs) K=l4 E σ rs fun vs=>K (σ.f t::vs):=rfl
@[simp] theorem agx{E:Env}{σ:PS}{K:List PV→Prop}:l4 E σ [] K=K []:=rfl
@[simp] theorem ade{E:Env}{σ:PS}{a:Tmp}{t:TypeId}{rs:List ResultVar}{K:List PV→Prop}:l4 E σ (.cell a t::rs) K=iY E t σ.rows (σ.f a) fun v=>l4 E σ rs fun vs=>K (v::vs):=by
 show(∃v,oK E t σ.rows (σ.f a) v∧l4 E σ rs fun vs=>K (v::vs))=_
 rw [←pE];rfl
@[simp] theorem WU{E:Env}{ops:List Oper}{K:PS→Prop}{f:Nat→PV}{rows:Rows}{clk:Nat}:go (eJ E 0 ops K ⟨f,rows,clk⟩)=go (aJ E ops clk 0 ops K ⟨f,rows,fun _ _=>False,fun _ _=>False⟩):=xD
theorem wrap_i64{n:Int}(h1 : -9223372036854775808≤n)(h2:n<9223372036854775808):IntKind.i64.wrap n=n:=by
 have e:IntKind.i64.wrap n=if n%18446744073709551616≥9223372036854775808 then n%18446744073709551616-18446744073709551616 else n%18446744073709551616:=by
  simp [IntKind.wrap,IntKind.bits,IntKind.signed]
 rw [e]
 split<;>omega
theorem wrap_u64{n:Int}(h1:0≤n)(h2:n<18446744073709551616):IntKind.u64.wrap n=n:=by
 simp only [IntKind.wrap,IntKind.bits,IntKind.signed,Bool.false_and,Bool.false_eq_true,if_false]
 omega
theorem wrap_u32{n:Int}(h1:0≤n)(h2:n<4294967296):IntKind.u32.wrap n=n:=by
 simp only [IntKind.wrap,IntKind.bits,IntKind.signed,Bool.false_and,Bool.false_eq_true,if_false]
 omega
theorem wA:(∀n:Int, -9223372036854775808≤n→n<9223372036854775808→IntKind.i64.wrap n=n)∧(∀n:Int,0≤n→n<18446744073709551616→IntKind.u64.wrap n=n)∧(∀n:Int,0≤n→n<4294967296→IntKind.u32.wrap n=n) ∧
  (∀a b:Int,0≤a→a.tdiv b=a/b)∧(∀a b:Int,0≤a→a.tmod b=a%b):=⟨fun _=>wrap_i64,fun _=>wrap_u64,fun _=>wrap_u32,fun _ _ h=>Int.tdiv_eq_ediv_of_nonneg h,fun _ _ h=>Int.tmod_eq_emod_of_nonneg h⟩
theorem gw:(∀ {c B:Prop},c→aE c B=go B)∧(∀n:Int, -9223372036854775808≤n→n<9223372036854775808→IntKind.i64.wrap n=n)∧(∀n:Int,0≤n→n<18446744073709551616→IntKind.u64.wrap n=n)∧(∀n:Int,0≤n→n<4294967296→IntKind.u32.wrap n=n) ∧
  (∀a b:Int,0≤a→a.tdiv b=a/b)∧(∀a b:Int,0≤a→a.tmod b=a%b):=⟨gA,wA⟩
theorem wrap_u8{n:Int}(h1:0≤n)(h2:n<256):IntKind.u8.wrap n=n:=by
 simp only [IntKind.wrap,IntKind.bits,IntKind.signed,Bool.false_and,Bool.false_eq_true,if_false]
 omega
theorem gS{n:Int}:IntKind.u64.wrap n=n%18446744073709551616:=by
 simp only [IntKind.wrap,IntKind.bits,IntKind.signed,Bool.false_and,Bool.false_eq_true,if_false]
 rfl
theorem wrap_u32'{n:Int}:IntKind.u32.wrap n=n%4294967296:=by
 simp only [IntKind.wrap,IntKind.bits,IntKind.signed,Bool.false_and,Bool.false_eq_true,if_false]
 rfl
section
variable {E:Env} {n:Nat} {tl:Nat→Nat} {Q:PX→PS→Prop} {σ:PS}
theorem W.cA{id:Nat}{ops:List Oper}(h:∀K:PS→Prop,(∀σ,Q .normal σ→K σ)→go (aH E ops ops K σ)):W E n tl (.region id ops.toArray false) Q σ:=W.B3 h
theorem W.CS{id:Nat}{ops:List Oper}(h:∀K:PS→Prop,(∀σ,Q .normal σ→K σ)→go (eJ E (tl id) ops K σ)):W E n tl (.region id ops.toArray true) Q σ:=W.PK h
theorem W.c6{id:Nat}{ops:List Oper}{y:Code}(h:∀K:PS→Prop,(∀σ,W E n tl y Q σ→K σ)→go (aH E ops ops K σ)):W E n tl (.seq (.region id ops.toArray false) y) Q σ:=W.F9 h
theorem W.Q3{id:Nat}{ops:List Oper}{y:Code}(h:∀K:PS→Prop,(∀σ,W E n tl y Q σ→K σ)→go (eJ E (tl id) ops K σ)):W E n tl (.seq (.region id ops.toArray true) y) Q σ:=W.PL h
end
section
variable {E:Env} {n:Nat} {tl:Nat→Nat} {Q:PX→PS→Prop} {σ:PS}
theorem W.a9{c:Code}(I:Nat→PS→Prop)(k:Nat)(h0:∃σ0,Gh n σ σ0∧I k σ0)(h1:∀k σ,I k σ→W E n tl c (wZ (fun σ'=>∃m WV,Gh n σ' WV∧m<k∧I m WV) Q) σ):W E n tl (.loop c) Q σ:=by
 obtain⟨σ0,hg,h0⟩:=h0
 refine W.ghost hg ?_
 refine W.loop (fun k σ=>∃σ',Gh n σ σ'∧I k σ') k ⟨σ0,fun _ _ _ _ _ h=>h,h0⟩ ?_
 rintro k σ ⟨σ',hg,hI⟩
 refine W.ghost hg (W.mono (h1 k σ' hI) fun x τ hx=>?_)
 cases x with
 | normal=>obtain⟨m,WV,h2,h3,h4⟩:=hx;exact⟨m,h3,WV,h2,h4⟩
 | exit id=>exact hx
 | ret=>exact hx
theorem Gh.refl:Gh n σ σ:=fun _ _ _ _ _ h=>h
theorem W.Q4{c:Operand}{t e:Code}(b:Prop)[Decidable b](hc:aN σ.f c = .bool (decide b))(h1:b→W E n tl t Q σ)(h2:¬b→W E n tl e Q σ):W E n tl (.cond c t e) Q σ:=W.cond ⟨_,hc,fun h=>h1 (of_decide_eq_true h),fun h=>h2 (of_decide_eq_false h)⟩
theorem W.ghf{f:Nat→PV}{rows:Rows}{clk:Nat}{c:Code}(l:List (Nat × PV))(hl:∀p∈l,f p.1=p.2)(h:W E n tl c Q ⟨fa l,rows,clk⟩):W E n tl c Q ⟨f,rows,clk⟩:=by
 have:=aC (f:=f) (rows:=rows) (clk:=clk) n (l.map (·.1))
 have e:((l.map (·.1)).map fun i=>(i,f i))=l:=by
  rw [List.map_map]
  conv=>rhs;rw [←List.map_id l]
  exact List.map_congr_left fun p hp=>by simp [hl p hp]
 rw [e]at this
 exact W.ghost this h
theorem Gh.fr{f:Nat→PV}{rows:Rows}{clk:Nat}(l:List (Nat × PV))(hl:∀p∈l,f p.1=p.2):Gh n ⟨f,rows,clk⟩ ⟨fa l,rows,clk⟩:=by
 have:=aC (f:=f) (rows:=rows) (clk:=clk) n (l.map (·.1))
 have e:((l.map (·.1)).map fun i=>(i,f i))=l:=by
  rw [List.map_map]
  conv=>rhs;rw [←List.map_id l]
  exact List.map_congr_left fun p hp=>by simp [hl p hp]
 rw [e]at this
 exact this
end
theorem b9{E:Env}{uR:FuncId}{fn:Func}{code:Code}(tl:Nat→Nat){args:List PV}{r:PV}(l:List (Nat × PV))(h1:E.P.funcs[uR]? = some fn)(h2:fn.body=some code) (h3:(fn.name == "runtime.NumGoroutine") = false)
  (fD:dU E fn.ntmps tl code=true) (eI:args.length≤fn.ntmps) (hl:∀p∈l,args.getD p.1 .undef=p.2) (h:W E fn.ntmps tl code (PG E fn.results.toList r) ⟨fa l,fun _=>none,0⟩):aZ E.P uR args r:=
 PM tl h1 h2 h3 fD eI (W.ghf l (by simpa using hl) h)
end Pm
namespace Pm
@[simp] theorem alV{a:Int}:Int.fdiv a 4294967296=a/4294967296:=Int.fdiv_eq_ediv_of_nonneg a (by decide)
@[simp] theorem alW{a:Int}:Int.fdiv a 9223372036854775808=a/9223372036854775808:=Int.fdiv_eq_ediv_of_nonneg a (by decide)
attribute [simp] Go.IntKind.bits
end Pm
namespace Pm
open Go Go.RowKit
section
variable {E:Env} {n:Nat} {tl:Nat→Nat} {Q:PX→PS→Prop} {σ:PS}
theorem W.gK{x y:Code}(J:PS→Prop)(h:W E n tl x (wZ (fun σ=>∃σ',Gh n σ σ'∧J σ') Q) σ)(hy:∀σ,J σ→W E n tl y Q σ):W E n tl (.seq x y) Q σ:=
 W.seq (W.mono h fun x σ hx=>by
  cases x with
  | normal=>obtain⟨σ',hg,hJ⟩:=hx;exact W.ghost hg (hy σ' hJ)
  | exit id=>exact hx
  | ret=>exact hx)
def GY(J:PS→Prop)(Q:PX→PS→Prop):PX→PS→Prop
 | .normal,σ=>J σ
 | .exit id,σ=>Q (.exit id) σ
 | .ret,σ=>Q .ret σ
theorem W.pF{id:Nat}{x y:Code}(J:PS→Prop)(h:W E n tl x (w5 id (GY (fun σ=>∃σ',Gh n σ σ'∧J σ') Q)) σ)(hy:∀σ,J σ→W E n tl y Q σ):W E n tl (.seq (.block id x) y) Q σ:=
 W.seq (W.block (W.mono h fun x σ hx=>by
  cases x with
  | normal=>obtain⟨σ',hg,hJ⟩:=hx;exact W.ghost hg (hy σ' hJ)
  | exit j =>
   simp only [w5]at hx ⊢
   split
   ·rename_i hj;rw [if_pos hj]at hx;obtain⟨σ',hg,hJ⟩:=hx;exact W.ghost hg (hy σ' hJ)
   ·rename_i hj;rw [if_neg hj]at hx;exact hx
  | ret=>exact hx))
theorem W.fW{id:Nat}{ops:List Oper}{y:Code}(J:PS→Prop)(h:∀K:PS→Prop,(∀σ σ',Gh n σ σ'→J σ'→K σ)→go (aH E ops ops K σ))(hy:∀σ,J σ→W E n tl y Q σ):W E n tl (.seq (.region id ops.toArray false) y) Q σ:=
 W.c6 fun K hK=>h K fun σ _ hg hJ=>hK σ (W.ghost hg (hy _ hJ))
theorem W.x9{id:Nat}{ops:List Oper}{y:Code}(J:PS→Prop)(h:∀K:PS→Prop,(∀σ σ',Gh n σ σ'→J σ'→K σ)→go (eJ E (tl id) ops K σ))(hy:∀σ,J σ→W E n tl y Q σ):W E n tl (.seq (.region id ops.toArray true) y) Q σ:=
 W.Q3 fun K hK=>h K fun σ _ hg hJ=>hK σ (W.ghost hg (hy _ hJ))
@[simp] theorem aaL{J:PS→Prop}:GY J Q .normal σ=J σ:=rfl
@[simp] theorem aiI{J:PS→Prop}:GY J Q .ret σ=Q .ret σ:=rfl
@[simp] theorem agy{J:PS→Prop}{id:Nat}:GY J Q (.exit id) σ=Q (.exit id) σ:=rfl
@[simp] theorem aaM{J:PS→Prop}:wZ J Q .normal σ=J σ:=rfl
@[simp] theorem aiJ{J:PS→Prop}:wZ J Q .ret σ=Q .ret σ:=rfl
@[simp] theorem agz{J:PS→Prop}{id:Nat}:wZ J Q (.exit id) σ=Q (.exit id) σ:=rfl
@[simp] theorem aaN{id:Nat}:w5 id Q .normal σ=Q .normal σ:=rfl
@[simp] theorem aiK{id:Nat}:w5 id Q .ret σ=Q .ret σ:=rfl
@[simp] theorem agA{id j:Nat}:w5 id Q (.exit j) σ=if j=id then Q .normal σ else Q (.exit j) σ:=rfl
theorem pX:(∀(Q:PX→PS→Prop) (σ:PS) (id j:Nat),w5 id Q (.exit j) σ=if j=id then Q .normal σ else Q (.exit j) σ)∧(∀(Q:PX→PS→Prop) (σ:PS) (id:Nat),w5 id Q .normal σ=Q .normal σ)∧(∀(Q:PX→PS→Prop) (σ:PS) (id:Nat),w5 id Q .ret σ=Q .ret σ) ∧
  (∀(J:PS→Prop) (Q:PX→PS→Prop) (σ:PS) (id:Nat),wZ J Q (.exit id) σ=Q (.exit id) σ)∧(∀(J:PS→Prop) (Q:PX→PS→Prop) (σ:PS),wZ J Q .normal σ=J σ)∧(∀(J:PS→Prop) (Q:PX→PS→Prop) (σ:PS),wZ J Q .ret σ=Q .ret σ) ∧
  (∀(J:PS→Prop) (Q:PX→PS→Prop) (σ:PS) (id:Nat),GY J Q (.exit id) σ=Q (.exit id) σ)∧(∀(J:PS→Prop) (Q:PX→PS→Prop) (σ:PS),GY J Q .normal σ=J σ)∧(∀(J:PS→Prop) (Q:PX→PS→Prop) (σ:PS),GY J Q .ret σ=Q .ret σ):=
 ⟨fun _ _ _ _=>rfl,fun _ _ _=>rfl,fun _ _ _=>rfl,fun _ _ _ _=>rfl,fun _ _ _=>rfl,fun _ _ _=>rfl,fun _ _ _ _=>rfl,fun _ _ _=>rfl,fun _ _ _=>rfl⟩
end
end Pm
namespace Pm
open Go
theorem aiL{P:Program}{g:FuncId}{eU:List PV}{rows:Rows}{clk:Nat}{K:PV→Rows→Nat→Prop}{R:PV→Rows→Nat→Prop}(h:KS P g eU rows clk R)(hK:∀r rows' gF,R r rows' gF→go (K r rows' gF)):rZ P g eU rows clk K:=⟨R,h,hK⟩
theorem aD{P:Program}{g:FuncId}{args:List PV}{K:PV→Prop}{v:PV}(h:aZ P g args v)(hK:go (K v)):p0 P g args K:=⟨v,h,hK⟩
theorem W.Q5{E:Env}{n:Nat}{tl:Nat→Nat}{c:Code}{Q:PX→PS→Prop}{f:Nat→PV}{rows:Rows}{clk:Nat}(l:List Nat)(h:∀K:PS→Prop,(∀σ,W E n tl c Q σ→K σ)→K ⟨fa (l.map fun i=>(i,f i)),rows,clk⟩):W E n tl c Q ⟨f,rows,clk⟩:=W.live l (h _ fun _ h=>h)
theorem W.lv{E:Env}{n:Nat}{tl:Nat→Nat}{c:Code}{Q:PX→PS→Prop}{f:Nat→PV}{rows:Rows}{clk:Nat}{K0:PS→Prop}(l:List Nat)(hK:∀σ,W E n tl c Q σ→K0 σ)(h:∀K:PS→Prop,(∀σ,W E n tl c Q σ→K σ)→K ⟨fa (l.map fun i=>(i,f i)),rows,clk⟩):K0 ⟨f,rows,clk⟩:=hK _ (W.Q5 l h)
inductive Bx(P:PS→Prop):Type
  | mk
def aW{P:PS→Prop}(_:Bx P)(σ:PS):Prop:=P σ
theorem W.lw{E:Env}{n:Nat}{tl:Nat→Nat}{c:Code}{Q:PX→PS→Prop}{f:Nat→PV}{rows:Rows}{clk:Nat}{K0:PS→Prop}(l:List Nat)(hK:∀σ,W E n tl c Q σ→K0 σ)(h:aW (Bx.mk (P:=W E n tl c Q)) ⟨fa (l.map fun i=>(i,f i)),rows,clk⟩):K0 ⟨f,rows,clk⟩:=hK _ (W.Q5 l fun _ q=>q _ h)
theorem W.lx{E:Env}{n:Nat}{tl:Nat→Nat}{c:Code}{Q:PX→PS→Prop}{f:Nat→PV}{rows:Rows}{clk:Nat}(l:List Nat)(h:aW (Bx.mk (P:=W E n tl c Q)) ⟨fa (l.map fun i=>(i,f i)),rows,clk⟩):aW (Bx.mk (P:=W E n tl c Q)) ⟨f,rows,clk⟩:=W.Q5 l fun _ q=>q _ h
theorem W.sr{E:Env}{n:Nat}{tl:Nat→Nat}{Q:PX→PS→Prop}{σ:PS}{id:Nat}{ops:List Oper}{y:Code}(h:go (aH E ops ops (aW (Bx.mk (P:=W E n tl y Q))) σ)):W E n tl (.seq (.region id ops.toArray false) y) Q σ:=by
  refine W.seq ?_
  intro fD w0 S0 G a w Q' hR hQ
  simp only [dU,uQ,Bool.and_eq_true]at fD
  refine wp_region_list (gI (fun σ' a' w' hk jP=>hQ .normal σ' a' w' hk jP) _ σ a w (fun o ho t ht=>?_) h hR)
  have:=Array.all_eq_true_iff_forall_mem.1 fD.1 o (by simpa using ho)
  simpa [ht]using this
theorem W.sd{E:Env}{n:Nat}{tl:Nat→Nat}{Q:PX→PS→Prop}{σ:PS}{id:Nat}{ops:List Oper}{y:Code}(h:go (eJ E (tl id) ops (aW (Bx.mk (P:=W E n tl y Q))) σ)):W E n tl (.seq (.region id ops.toArray true) y) Q σ:=by
  refine W.seq ?_
  intro fD w0 S0 G a w Q' hR hQ
  exact oU (by simpa [dU]using fD) h hR fun σ' a' w' hk jP=>hQ .normal σ' a' w' hk jP
end Pm
namespace Pm
open Go Go.RowKit
def Wk(p q:PV):Prop:=q=p∨(p = .nil∧q = .sl [])
theorem Wk.rep{c:Cx}{p q:PV}{v:Value}(h:Wk p q)(hr:aM c p v):aM c q v:=by
 rcases h with rfl | ⟨rfl,rfl⟩
 ·exact hr
 ·simp only [aM,cG]at hr ⊢
  exact⟨none,0,by simpa using hr,by simp,by simp, .inl trivial⟩
theorem a6.flat{α β:Type}{R:α→β→Prop}:∀ {l:List (List α)} {m:List (List β)},a6 (a6 R) l m→a6 R l.flatten m.flatten
 | [],[],_=>trivial
 | a::l,b::m,h=>by
  obtain⟨h1,h2⟩:=h
  have ih:=a6.flat h2
  clear h2
  induction a generalizing b with
  | nil=>cases b with
   | nil=>exact ih
   | cons=>exact h1.elim
  | cons x a iha=>cases b with
   | nil=>exact h1.elim
   | cons y b=>exact⟨h1.1,iha b h1.2⟩
theorem adf{n id ver e m clk:Nat}{f:Nat→PV}{rows:Rows}{els s5:List (List PV)}(hr:rows id=some ⟨ver,e,m,els⟩)(hw:a6 (a6 fun q p=>Wk p q) s5 els):Gh n ⟨f,rows,clk⟩ ⟨f,c4 rows id (some ⟨ver,e,m,s5⟩),clk⟩:=by
 rintro w0 S0 G a w ⟨⟨c,rfl,oG,eX,hI,hf,hG⟩,h7,h8⟩
 have i7:c.rows id=some ⟨ver,e,m,els⟩:=by rw [oG];exact hr
 obtain⟨⟨xs,g1,g2,g3⟩,g4,g5,g6⟩:=hI.row id _ i7
 have hlen:s5.length=els.length:=hw.length
 obtain⟨rB,hA⟩:=hI.c4 (w':=c.w) (r':=⟨ver,e,m,s5⟩) (xs:=xs) i7 (World.grownBy.refl _ _) (by simp only [hlen];exact g1)
  (by
   have h1:=a6.flat hw
   have:∀ {l:List PV} {k:List PV} {vs:List Value},a6 (fun q p=>Wk p q) l k→a6 (aM c) k vs→a6 (aM c) l vs:=by
    intro l
    induction l with
    | nil=>intro k vs h h';cases k with
     | nil=>exact h'
     | cons=>exact h.elim
    | cons x l ih=>intro k vs h h';cases k with
     | nil=>exact h.elim
     | cons y k=>cases vs with
      | nil=>exact h'.elim
      | cons v vs=>exact⟨h.1.rep h'.1,ih h.2 h'.2⟩
   exact this h1 g2) g3 (fun el mN=>by
   obtain⟨k,hk⟩:=List.getElem?_of_mem mN
   obtain⟨b,hb,h1⟩:=hw.get hk
   rw [h1.length]
   exact g4 b (List.mem_of_getElem? hb)) rfl rfl hlen
 refine⟨⟨{ c with rows:=c4 c.rows id (some ⟨ver,e,m,s5⟩) },rfl,by simp [oG],eX,rB,fun s=>aF.o6 hA _ _ (hf s),fun p hp=>aF.o6 hA _ _ (hG p hp)⟩,h7,h8⟩
theorem adg{n s id e m clk:Nat}{f:Nat→PV}{rows:Rows}(hs:f s = .nil)(hm:0<m):Gh n ⟨f,rows,clk⟩ ⟨put f (some s) (.own id clk 0 0),c4 rows id (some ⟨clk,e,m,[]⟩),clk+1⟩:=by
 rintro w0 S0 G a w ⟨⟨c,rfl,oG,eX,hI,hf,hG⟩,h7,h8⟩
 obtain⟨rB,hA⟩:=hI.set (w':=c.w) (ob:=none) (id:=id) (r':=⟨clk,e,m,[]⟩) (v':=.slice none 0 0) (xs:=[]) (World.grownBy.refl _ _) (by simp) ⟨by simp, .inl ⟨rfl,rfl⟩⟩ (by simp [a6]) (by simp) (by simp) hm (by simp [Value.ownBlock]) (fun hu=>Nat.lt_irrefl _ (eX _ hu))
 refine⟨⟨{ c with β:=c4 c.β id (.slice none 0 0),rows:=c4 c.rows id (some ⟨clk,e,m,[]⟩),used:=fun v=>v=clk∨c.used v },rfl,by simp [oG],fun v hv=>by
  show v<clk+1
  rcases hv with rfl | hv
  ·omega
  ·have:v<clk:=eX v hv
   omega,rB,fun t=>?_,fun p hp=>aF.o6 hA _ _ (hG p hp)⟩,h7,h8⟩
 simp only [put]
 split
 ·rename_i ht
  subst ht
  have h1:=hf t
  simp only at h1
  rw [hs]at h1
  simp only [aF,aM,cG]at h1
  simp only [aF,aM]
  refine⟨.inl (by first | rfl | trivial),fun r hr hv=>?_⟩
  simp only [fE,Option.some.injEq]at hr
  subst hr
  exact⟨by simp, .inl ⟨trivial,none,0,0,by simp [c4],h1⟩⟩
 ·exact aF.o6 hA _ _ (hf t)
theorem CT{α β:Type}{R:α→β→Prop}{x:α}{y:β}(h:R x y):∀k:Nat,a6 R (List.replicate k x) (List.replicate k y)
 | 0=>trivial
 | k+1=>⟨h,CT h k⟩
section
variable {E:Env} {n:Nat} {tl:Nat→Nat} {Q:PX→PS→Prop} {c:Code} {f:Nat→PV} {rows:Rows} {clk:Nat}
theorem W.row{id ver e m:Nat}{els:List (List PV)}(s5:List (List PV))(hr:rows id=some ⟨ver,e,m,els⟩)(hw:a6 (a6 fun q p=>Wk p q) s5 els)(h:W E n tl c Q ⟨f,c4 rows id (some ⟨ver,e,m,s5⟩),clk⟩):W E n tl c Q ⟨f,rows,clk⟩:=W.ghost (adf hr hw) h
theorem W.nil(s id e m:Nat)(hs:f s = .nil)(hm:0<m)(h:∀K:PS→Prop,(∀σ,W E n tl c Q σ→K σ)→K ⟨put f (some s) (.own id clk 0 0),c4 rows id (some ⟨clk,e,m,[]⟩),clk+1⟩):W E n tl c Q ⟨f,rows,clk⟩:=W.ghost (adg hs hm) (h _ fun _ h=>h)
end
def fzP(o:Option Row)(ver i j:Nat):PV:=
 match o with
 | some r=>if r.ver=ver then .rd ((r.els.getD i []).drop j)else .undef
 | none => .undef
@[simp] theorem anR{rows:Rows}{id ver i j:Nat}:fz rows (.ptr id ver i j)=fzP (rows id) ver i j:=rfl
@[simp] theorem anS{rows:Rows}{id ver i j:Nat}:pz rows (.ptr id ver i j)=fzP (rows id) ver i j:=rfl
@[simp] theorem alX{ver e n:Nat}{el:List PV}:fzP (some ⟨ver,e,n,[el]⟩) ver 0 0 = .rd el:=by simp [fzP]
@[simp] theorem aiM{id ver i j:Nat}:cW (.ptr id ver i j) = [id]:=rfl
@[simp] theorem aaO{ver e n:Nat}{el:List PV}:cB (some ⟨ver,e,n,[el]⟩) = ∀p∈el,bL p=true:=by simp [cB]
end Pm
namespace Pm
open Go
theorem eL{E:Env}{m:Nat}{ops:List Oper}{K:PS→Prop}{f:Nat→PV}{rows:Rows}{clk:Nat}:go (eJ E (m+1) ops K ⟨f,rows,clk⟩)=go (aJ E ops clk 0 (ops.take (ops.length-(m+1))) (aH E ops (ops.drop (ops.length-(m+1))) K) ⟨f,rows,fun _ _=>False,fun _ _=>False⟩):=by
 simp [eJ]
end Pm
namespace Pm
open Go Go.RowKit
def BJ(rows:Rows)(id:Nat):PV→PV
 | .own i ver off len=>if i=id then fz rows (.own i ver off len)else .own i ver off len
 | .ptr i ver a j=>if i=id then fz rows (.ptr i ver a j)else .ptr i ver a j
 | p=>p
def z5(rows:Rows)(id:Nat):PV→PV
 | .ag l => .ag (l.map (BJ rows id))
 | p=>BJ rows id p
theorem z6{w0:World}{S0:cY}{c:Cx}(hI:Inv w0 S0 c){id:Nat}(hp:∀r,c.rows id=some r → ∀e∈r.els,∀p∈e,bL p=true){p:PV}{v:Value}(h:aM c p v):aM (wO c [id]) (BJ c.rows id p) v:=by
 have sZ:∀i ∈ [id],∀r,c.rows i=some r → ∀e∈r.els,∀p∈e,bL p=true:=by intro i hi;simp at hi;subst hi;exact hp
 have key:∀q:PV,aM c q v→(∀i∈aS q,i ∈ [id])→(fz c.rows q = .undef∨bL (fz c.rows q)=true)→aM (wO c [id]) (fz c.rows q) v:=by
  intro q hq hi ho
  rcases ho with ho | ho
  ·rw [ho];simp [aM]
  ·exact aM.gB (y7 hI sZ hq hi ho)
 cases p with
 | own i ver off len =>
  simp only [BJ]
  split
  ·rename_i hi
   subst hi
   refine key _ h (by simp [aS]) ?_
   simp only [fz]
   cases c.rows i with
   | none=>exact .inl rfl
   | some r =>
    simp only
    split
    ·exact .inr rfl
    ·exact .inl rfl
  ·exact aM.o6 (jO c [id]) _ _ h
 | ptr i ver a j =>
  simp only [BJ]
  split
  ·rename_i hi
   subst hi
   refine key _ h (by simp [aS]) ?_
   simp only [fz]
   cases c.rows i with
   | none=>exact .inl rfl
   | some r =>
    simp only
    split
    ·exact .inr rfl
    ·exact .inl rfl
  ·exact aM.o6 (jO c [id]) _ _ h
 | _=>exact aM.o6 (jO c [id]) _ _ h
theorem I7{w0:World}{S0:cY}{c:Cx}(hI:Inv w0 S0 c){id:Nat}(hp:∀r,c.rows id=some r → ∀e∈r.els,∀p∈e,bL p=true){p:PV}{v:Value}(h:aF c p v):aF (wO c [id]) (z5 c.rows id p) v:=by
 cases p with
 | ag l =>
  obtain⟨vs,h1,h2⟩:=h
  refine⟨vs,h1,a6.cO (by simp [h2.length]) fun k a b ha hb=>?_⟩
  simp at ha
  obtain⟨q,hq,rfl⟩:=ha
  obtain⟨b',wS,hr⟩:=h2.get hq
  rw [hb]at wS;cases wS
  exact z6 hI hp hr
 | _ =>
  simp only [aF]at h
  have:=z6 hI hp h
  simp only [z5]
  exact(by
   first
    | (simp only [BJ,aF]at this ⊢;exact this)
    | (simp only [BJ]at this ⊢
       split
       · rename_i hi;rw [if_pos hi]at this;simp only [fz]at this ⊢;revert this;split<;>(try split)<;>exact fun h=>h
       · rename_i hi;rw [if_neg hi]at this;exact this))
theorem yA{rows:Rows}{id:Nat}:z5 rows id .undef = .undef:=rfl
theorem Q6{l:List (Nat × PV)}{g:PV→PV}(hg:g .undef = .undef):(fun s=>g (fa l s))=fa (l.map fun p=>(p.1,g p.2)):=by
 funext s
 induction l with
 | nil=>exact hg
 | cons p l ih =>
  obtain⟨i,v⟩:=p
  simp only [fa,List.map_cons]
  split
  ·rfl
  ·exact ih
theorem LV{n clk:Nat}{l:List (Nat × PV)}{rows:Rows}(id:Nat)(hp:cB (rows id)):Gh n ⟨fa l,rows,clk⟩ ⟨fa (l.map fun p=>(p.1,z5 rows id p.2)),xP rows [id],clk⟩:=by
 rintro w0 S0 G a w ⟨⟨c,rfl,oG,eX,hI,hf,hG⟩,h7,h8⟩
 have Q7:c.rows=rows:=oG
 subst Q7
 refine⟨⟨wO c [id],rfl,rfl,eX,hI.freeze [id],fun s=>?_,fun p hp=>aF.o6 (jO c [id]) _ _ (hG p hp)⟩,h7,h8⟩
 rw [←Q6 (g:=z5 c.rows id) yA]
 exact I7 hI hp (hf s)
theorem W.freeze{E:Env}{n:Nat}{tl:Nat→Nat}{Q:PX→PS→Prop}{c:Code}{l:List (Nat × PV)}{rows:Rows}{clk:Nat}(id:Nat)(hp:cB (rows id))(h:∀K:PS→Prop,(∀σ,W E n tl c Q σ→K σ)→K ⟨fa (l.map fun p=>(p.1,z5 rows id p.2)),xP rows [id],clk⟩):W E n tl c Q ⟨fa l,rows,clk⟩:=W.ghost (LV id hp) (h _ fun _ h=>h)
@[simp] theorem alY{rows:Rows}{id i ver off len:Nat}:z5 rows id (.own i ver off len)=if i=id then fzR (rows i) ver off len else .own i ver off len:=rfl
@[simp] theorem alZ{rows:Rows}{id i ver a j:Nat}:z5 rows id (.ptr i ver a j)=if i=id then fzP (rows i) ver a j else .ptr i ver a j:=rfl
@[simp] theorem al0{α:Type}{g:α→List PV}{rows:Rows}{id:Nat}{l:List α}:z5 rows id (aX g l)=aX g l:=rfl
@[simp] theorem al1{rows:Rows}{id:Nat}{k:IntKind}{n:Int}:z5 rows id (.int k n) = .int k n:=rfl
@[simp] theorem aiN{rows:Rows}{id:Nat}{b:Bool}:z5 rows id (.bool b) = .bool b:=rfl
@[simp] theorem al2{rows:Rows}{id:Nat}:z5 rows id .nil = .nil:=rfl
@[simp] theorem anT{rows:Rows}{id:Nat}{l:List (List PV)}:z5 rows id (.sl l) = .sl l:=rfl
@[simp] theorem al3{rows:Rows}{id:Nat}{l:List (List PV)}:z5 rows id (.fX l) = .fX l:=rfl
@[simp] theorem anU{rows:Rows}{id:Nat}{l:List PV}:z5 rows id (.ag l) = .ag (l.map (BJ rows id)):=rfl
@[simp] theorem al4{rows:Rows}{id:Nat}{k:IntKind}{n:Int}:BJ rows id (.int k n) = .int k n:=rfl
@[simp] theorem aiO{rows:Rows}{id:Nat}{b:Bool}:BJ rows id (.bool b) = .bool b:=rfl
@[simp] theorem al5{rows:Rows}{id:Nat}:BJ rows id .nil = .nil:=rfl
@[simp] theorem al6{α:Type}{g:α→List PV}{rows:Rows}{id:Nat}{l:List α}:BJ rows id (aX g l)=aX g l:=rfl
theorem WW{n s clk:Nat}{f:Nat→PV}{rows:Rows}(q:PV)(hs:f s = .nil)(hq:q = .sl []):Gh n ⟨f,rows,clk⟩ ⟨put f (some s) q,rows,clk⟩:=by
 rintro w0 S0 G a w ⟨⟨c,rfl,oG,eX,hI,hf,hG⟩,h7,h8⟩
 refine⟨⟨c,rfl,oG,eX,hI,fun t=>?_,hG⟩,h7,h8⟩
 simp only [put]
 split
 ·rename_i ht
  subst ht
  have h1:=hf t
  simp only at h1
  rw [hs]at h1
  subst hq
  simp only [aF]at h1 ⊢
  exact Wk.rep (.inr ⟨rfl,rfl⟩) h1
 ·exact hf t
theorem W.Q8{E:Env}{n:Nat}{tl:Nat→Nat}{Q:PX→PS→Prop}{c:Code}{f:Nat→PV}{rows:Rows}{clk:Nat}(s:Nat)(q:PV)(hs:f s = .nil)(hq:q = .sl [])(h:∀K:PS→Prop,(∀σ,W E n tl c Q σ→K σ)→K ⟨put f (some s) q,rows,clk⟩):W E n tl c Q ⟨f,rows,clk⟩:=W.ghost (WW q hs hq) (h _ fun _ h=>h)
theorem WX{c:Cx}{l:List (List PV)}{v:Value}(hr:aM c (.fX l) v):aM c (.sl l) v:=by
 simp only [aM,cG]at hr ⊢
 obtain⟨a,h1,h2,h3⟩:=hr
 exact⟨a,l.length,h1,Nat.le_refl _,h2,h3⟩
theorem WY{n s clk:Nat}{f:Nat→PV}{rows:Rows}(l:List (List PV))(q:PV)(hs:f s = .fX l)(hq:q = .sl l):Gh n ⟨f,rows,clk⟩ ⟨put f (some s) q,rows,clk⟩:=by
 rintro w0 S0 G a w ⟨⟨c,rfl,oG,eX,hI,hf,hG⟩,h7,h8⟩
 refine⟨⟨c,rfl,oG,eX,hI,fun t=>?_,hG⟩,h7,h8⟩
 simp only [put]
 split
 ·rename_i ht
  subst ht
  have h1:=hf t
  simp only at h1
  rw [hs]at h1
  subst hq
  simp only [aF]at h1 ⊢
  exact WX h1
 ·exact hf t
theorem W.anV{E:Env}{n:Nat}{tl:Nat→Nat}{Q:PX→PS→Prop}{c:Code}{f:Nat→PV}{rows:Rows}{clk:Nat}(s:Nat)(l:List (List PV))(q:PV)(hs:f s = .fX l)(hq:q = .sl l)(h:∀K:PS→Prop,(∀σ,W E n tl c Q σ→K σ)→K ⟨put f (some s) q,rows,clk⟩):W E n tl c Q ⟨f,rows,clk⟩:=W.ghost (WY l q hs hq) (h _ fun _ h=>h)
def u2(rows:Rows)(id:Nat):Option Row→Option Row
 | some r=>some { r with els:=r.els.map fun e=>e.map (BJ rows id) }
 | none=>none
def xE(rows:Rows)(id:Nat):Rows:=fun j=>if j=id then none else u2 rows id (rows j)
@[simp] theorem al7{rows:Rows}{id j:Nat}:xE rows id j=if j=id then none else u2 rows id (rows j):=rfl
@[simp] theorem aaP{rows:Rows}{id v e n:Nat}{els:List (List PV)}:u2 rows id (some ⟨v,e,n,els⟩)=some ⟨v,e,n,els.map fun e=>e.map (BJ rows id)⟩:=rfl
@[simp] theorem aaQ{rows:Rows}{id:Nat}:u2 rows id none=none:=rfl
@[simp] theorem al8{rows:Rows}{id i ver off len:Nat}:BJ rows id (.own i ver off len)=if i=id then fzR (rows i) ver off len else .own i ver off len:=rfl
@[simp] theorem al9{rows:Rows}{id i ver a j:Nat}:BJ rows id (.ptr i ver a j)=if i=id then fzP (rows i) ver a j else .ptr i ver a j:=rfl
theorem GZ{n clk:Nat}{l:List (Nat × PV)}{rows:Rows}(id:Nat)(hp:cB (rows id)):Gh n ⟨fa l,rows,clk⟩ ⟨fa (l.map fun p=>(p.1,z5 rows id p.2)),xE rows id,clk⟩:=by
 rintro w0 S0 G a w ⟨⟨c,rfl,oG,eX,hI,hf,hG⟩,h7,h8⟩
 have Q7:c.rows=rows:=oG
 subst Q7
 have BS:=hI.freeze [id]
 have live:∀ {j:Nat} {r':Row},xE c.rows id j=some r'→j≠id ∧ ∃r,c.rows j=some r∧r' = { r with els:=r.els.map fun e=>e.map (BJ c.rows id) }:=by
  intro j r' h
  simp only [xE]at h
  split at h
  ·cases h
  ·rename_i hj
   cases hr:c.rows j with
   | none=>rw [hr]at h;cases h
   | some r=>rw [hr]at h;simp only [u2,Option.some.injEq]at h;exact⟨hj,r,rfl,h.symm⟩
 have hA:oF (wO c [id]) { wO c [id]with rows:=xE c.rows id }:=by
  refine⟨fun _ _ h=>h,fun _ _ _=>rfl,fun _ h=>h,fun j r' h=>?_⟩
  obtain⟨hj,r,hr,rfl⟩:=live h
  exact .inr ⟨r,by simp [wO,xP,hj,hr],rfl,rfl,by simp,rfl⟩
 have UZ:Inv w0 S0 { wO c [id]with rows:=xE c.rows id }:=by
  refine⟨BS.below,BS.ext,BS.new,BS.lt0,fun j r' h=>?_,fun j r' h=>?_,fun i j r s g hr hs=>?_⟩
  ·obtain⟨hj,r,hr,rfl⟩:=live h
   exact hI.clock j r hr
  ·obtain⟨hj,r,hr,rfl⟩:=live h
   obtain⟨⟨xs,g1,g2,g3⟩,g4,g5,g6⟩:=hI.row j r hr
   obtain⟨_,_,f5,_⟩:=BS.row j r (by simp [wO,xP,hj,hr])
   refine⟨⟨xs,by rw [List.length_map];exact g1,?_,g3⟩,fun e he=>?_,f5,g6⟩
   ·show a6 _ (List.flatten (r.els.map fun e=>e.map (BJ c.rows id))) xs
    rw [←List.map_flatten]
    refine a6.cO (by rw [List.length_map];exact g2.length) fun k p u sZ hu=>?_
    rw [List.getElem?_map]at sZ
    obtain⟨q,hq,rfl⟩:=Option.map_eq_some_iff.1 sZ
    obtain⟨u',ON,i7⟩:=g2.get hq
    rw [hu]at ON;cases ON
    exact aM.o6 hA _ _ (z6 hI hp i7)
   ·simp only [List.mem_map]at he
    obtain⟨e',nW,rfl⟩:=he
    simpa using g4 e' nW
  ·obtain⟨hi,r1,I8,rfl⟩:=live hr
   obtain⟨hj,r2,dB,rfl⟩:=live hs
   exact hI.apart i j r1 r2 g I8 dB
 refine⟨⟨{ wO c [id]with rows:=xE c.rows id },rfl,rfl,eX,UZ,fun s=>?_,fun p hp=>aF.o6 hA _ _ (aF.o6 (jO c [id]) _ _ (hG p hp))⟩,h7,h8⟩
 show aF _ (fa (l.map fun p=>(p.1,z5 c.rows id p.2)) s) _
 rw [←Q6 (g:=z5 c.rows id) yA]
 exact aF.o6 hA _ _ (I7 hI hp (hf s))
theorem W.WZ{E:Env}{n:Nat}{tl:Nat→Nat}{Q:PX→PS→Prop}{c:Code}{l:List (Nat × PV)}{rows:Rows}{clk:Nat}(id:Nat)(hp:cB (rows id))(h:∀K:PS→Prop,(∀σ,W E n tl c Q σ→K σ)→K ⟨fa (l.map fun p=>(p.1,z5 rows id p.2)),xE rows id,clk⟩):W E n tl c Q ⟨fa l,rows,clk⟩:=W.ghost (GZ id hp) (h _ fun _ h=>h)
end Pm

namespace Pm
open Go
theorem bF(l:List Nat){E:Env}{n:Nat}{tl:Nat→Nat}{c:Code}{Q:PX→PS→Prop}{f:Nat→PV}{rows:Rows}{clk:Nat}{X:Prop}(hX:X)(h:X→aW (Bx.mk (P:=W E n tl c Q)) ⟨fa (l.map fun i=>(i,f i)),rows,clk⟩:=by intro hX;simp;exact hX):aW (Bx.mk (P:=W E n tl c Q)) ⟨f,rows,clk⟩:=W.lx l (h hX)
theorem j1{X G:Prop}(hX:X)(h:X→G:=by intro hX;refine W.sr ?_;simp (disch:=omega) [gw];exact hX):G:=h hX
theorem oW{X G:Prop}(hX:X)(h:X→G:=by intro hX;refine W.sd ?_;simp (disch:=omega) [gw];exact hX):G:=h hX
theorem cM{P X G:Prop}(hP:P)(hX:X)(h:P→X→G:=by intro hP hX;refine aD hP ?_;simp (disch:=omega) [gw];exact hX):G:=h hP hX
section
variable (l:List Nat) {E:Env} {n:Nat} {tl:Nat→Nat} {c:Code} {Q:PX→PS→Prop} {f:Nat→PV} {rows:Rows} {clk:Nat} {P X G:Prop}
theorem aB(hX:X)(h1:aW (Bx.mk (P:=W E n tl c Q)) ⟨f,rows,clk⟩→G:=by intro hY;refine W.sr ?_;simp (disch:=omega) [gw];exact hY)(h2:X→aW (Bx.mk (P:=W E n tl c Q)) ⟨fa (l.map fun i=>(i,f i)),rows,clk⟩:=by intro hX;simp;exact hX):G:=h1 (W.lx l (h2 hX))
theorem aQ(hX:X)(h1:aW (Bx.mk (P:=W E n tl c Q)) ⟨f,rows,clk⟩→G:=by intro hY;refine W.seq ?_;refine W.sr ?_;simp (disch:=omega) [gw];exact hY)(h2:X→aW (Bx.mk (P:=W E n tl c Q)) ⟨fa (l.map fun i=>(i,f i)),rows,clk⟩:=by intro hX;simp;exact hX):G:=h1 (W.lx l (h2 hX))
theorem cH(hX:X)(h1:aW (Bx.mk (P:=W E n tl c Q)) ⟨f,rows,clk⟩→G:=by intro hY;refine W.sr ?_;simp (disch:=omega) [gw];exact hY)(h2:X→aW (Bx.mk (P:=W E n tl c Q)) ⟨fa (l.map fun i=>(i,f i)),rows,clk⟩:=by intro hX;simp;refine W.seq ?_;exact hX):G:=h1 (W.lx l (h2 hX))
theorem bT(hP:P)(hX:X)(h1:P→aW (Bx.mk (P:=W E n tl c Q)) ⟨f,rows,clk⟩→G:=by intro hP hY;refine W.sr ?_;simp (disch:=omega) [gw];refine aD hP ?_;simp (disch:=omega) [gw];exact hY)(h2:X→aW (Bx.mk (P:=W E n tl c Q)) ⟨fa (l.map fun i=>(i,f i)),rows,clk⟩:=by intro hX;simp;exact hX):G:=h1 hP (W.lx l (h2 hX))
theorem c7(hP:P)(hX:X)(h1:P→aW (Bx.mk (P:=W E n tl c Q)) ⟨f,rows,clk⟩→G:=by intro hP hY;refine aD hP ?_;simp (disch:=omega) [gw];exact hY)(h2:X→aW (Bx.mk (P:=W E n tl c Q)) ⟨fa (l.map fun i=>(i,f i)),rows,clk⟩:=by intro hX;simp;exact hX):G:=h1 hP (W.lx l (h2 hX))
end
theorem bO{X Y G:Prop}(hX:X)(hY:Y)(h:X→Y→G:=by intro hX hY;refine W.cond ⟨_,rfl,?_,?_⟩;exact hX;exact hY):G:=h hX hY
theorem eH{X G:Prop}(hX:X)(h:X→G:=by intro hX;refine W.exit ?_;simp only [pX,if_true,if_false,reduceIte,Nat.reduceEqDiff];exact hX):G:=h hX
theorem cV{G:Prop}(h:G:=by refine W.ret ?_;simp [go]):G:=h
theorem iS{X G:Prop}(hX:X)(h:X→G:=by intro hX;refine W.skip ?_;refine W.seq ?_;refine W.block ?_;exact hX):G:=h hX
end Pm
