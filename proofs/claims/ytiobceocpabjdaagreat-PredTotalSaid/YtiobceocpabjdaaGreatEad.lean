import Derived.Test.YtiobceocpabjdaaGreatEac
set_option linter.unusedSimpArgs false
set_option linter.unusedVariables false
namespace Pm
open Go Go.RowKit
def emap{α:Type}(g:α→List PV)(l:List α):List (List PV):=l.map g
def aJ{α:Type}(g:α→List PV)(l:List α):PV:=.sl (emap g l)
def nth{α:Type}[Inhabited α](l:List α)(i:Nat):α:=l[i]?.getD default
def Enc{α:Type}(g:α→List PV)(n:Nat):Prop:=∀x,(g x).length=n
def apm{α:Type}(g:α→List PV):Prop:=∀x,(g x).all cW=true
def bR(o:Option Row)(ver:Nat)(K:Row→Prop):Prop:=∃r,o=some r∧r.ver=ver∧K r
@[congr] theorem adN{o o':Option Row}{ver:Nat}{K:Row→Prop}(h:o=o'):bR o ver K=bR o' ver K:=by rw [h]
@[simp] theorem aeA{r:Row}{ver:Nat}{K:Row→Prop}:bR (some r) ver K=aG (r.ver=ver) (K r):=by simp [bR,aG]
def ER(els:List (List PV))(i:Nat)(K:List PV→Prop):Prop:=∃el,els[i]? = some el∧K el
@[congr] theorem anb{l l':List (List PV)}{i i':Nat}{K:List PV→Prop}(h:l=l')(hi:i=i'):ER l i K=ER l' i' K:=by rw [h,hi]
@[simp] theorem JU{α:Type}[Inhabited α]{g:α→List PV}{l:List α}{i:Nat}{K:List PV→Prop}:ER (emap g l) i K=aG (i<l.length) (K (g (nth l i))):=by
 simp only [ER,emap,aG,nth]
 apply propext
 constructor
 ·rintro⟨el,h1,h2⟩
  simp at h1
  obtain⟨x,h1,rfl⟩:=h1
  have:=(List.getElem?_eq_some_iff.1 h1).1
  rw [h1]
  exact⟨this,h2⟩
 ·rintro⟨h1,h2⟩
  rw [List.getElem?_eq_getElem h1]at h2
  exact⟨g l[i],by simp [h1],h2⟩
@[simp] theorem apn{e:List PV}{es:List (List PV)}{K:List PV→Prop}:ER (e::es) 0 K=go (K e):=by show _=K e;simp [ER]
@[simp] theorem apo{e:List PV}{es:List (List PV)}{i:Nat}{K:List PV→Prop}:ER (e::es) (i+1) K=ER es i K:=by simp [ER]
def lC{α:Type}(l:List α)(i:Nat):Option α:=l[i]?
@[simp] theorem anc{α:Type}{x:α}{l:List α}:lC (x::l) 0=some x:=rfl
@[simp] theorem ane{α:Type}{x:α}{l:List α}{n:Nat}:lC (x::l) (n+1)=lC l n:=rfl
def fL{α:Type}(o:Option α)(K:α→Prop):Prop:=∃v,o=some v∧K v
@[congr] theorem ajD{α:Type}{o o':Option α}{K:α→Prop}(h:o=o'):fL o K=fL o' K:=by rw [h]
@[simp] theorem anf{α:Type}{x:α}{K:α→Prop}:fL (some x) K=go (K x):=by show _=K x;simp [fL]
def yI(ti:TI)(l:List PV)(j:Nat)(K:PV→Prop):Prop:=if ti.agg=true then aG (j+ti.size≤l.length) (K (.ag ((l.drop j).take ti.size)))else fL (lC l j) K
@[congr] theorem ang{t t':TI}{l l':List PV}{j:Nat}{K:PV→Prop}(h1:t=t')(h2:l=l'):yI t l j K=yI t' l' j K:=by rw [h1,h2]
@[simp] theorem atm{k:IntKind}{l:List PV}{j:Nat}{K:PV→Prop}:yI (.int k) l j K=fL (lC l j) K:=by simp [yI,TI.agg]
@[simp] theorem apq{l:List PV}{j:Nat}{K:PV→Prop}:yI .bool l j K=fL (lC l j) K:=by simp [yI,TI.agg]
@[simp] theorem atn{l:List PV}{j:Nat}{K:PV→Prop}:yI .str l j K=fL (lC l j) K:=by simp [yI,TI.agg]
@[simp] theorem anh{e n b:Nat}{z:List PV}{l:List PV}{j:Nat}{K:PV→Prop}:yI (.slice e n b z) l j K=fL (lC l j) K:=by simp [yI,TI.agg]
@[simp] theorem ato{e m n:Nat}{z:List PV}{l:List PV}{j:Nat}{K:PV→Prop}:yI (.arr e m n z) l j K=aG (j+z.length≤l.length) (K (.ag ((l.drop j).take z.length))):=by simp [yI,TI.agg,TI.size,TI.zero]
@[simp] theorem apr{l:List PV}{j:Nat}{K:PV→Prop}:yI .AG l j K=fL (lC l j) K:=by simp [yI,TI.agg]
@[simp] theorem atp{l:List PV}{j:Nat}{K:PV→Prop}:yI .fnT l j K=fL (lC l j) K:=by simp [yI,TI.agg]
@[simp] theorem ajE{fs:List (Nat × Nat × Bool)}{z:List PV}{l:List PV}{j:Nat}{K:PV→Prop}:yI (.struct fs z) l j K=aG (j+z.length≤l.length) (K (.ag ((l.drop j).take z.length))):=by simp [yI,TI.agg,TI.size,TI.zero]
def kI(E:Env)(t:TypeId)(rows:Rows)(p:PV)(K:PV→Prop):Prop:=
 aG ((E.ty t).known=true) (match p with
 | .rd l=>yI (E.ty t) l 0 K
 | .ptr id ver i j=>bR (rows id) ver fun r=>ER r.els i fun el=>yI (E.ty t) el j K
 | _=>False)
@[congr] theorem aeB{E:Env}{t:TypeId}{rows:Rows}{p p':PV}{K:PV→Prop}(h:p=p'):kI E t rows p K=kI E t rows p' K:=by rw [h]
@[simp] theorem ani{E:Env}{t:TypeId}{rows:Rows}{l:List PV}{K:PV→Prop}:kI E t rows (.rd l) K=aG ((E.ty t).known=true) (yI (E.ty t) l 0 K):=rfl
@[simp] theorem ajF{E:Env}{t:TypeId}{rows:Rows}{id ver i j:Nat}{K:PV→Prop}:kI E t rows (.ptr id ver i j) K=aG ((E.ty t).known=true) (bR (rows id) ver fun r=>ER r.els i fun el=>yI (E.ty t) el j K):=rfl
theorem JV{ti:TI}{l:List PV}{j:Nat}{K:PV→Prop}:aX (fun v=>if ti.agg=true then j+ti.size≤l.length∧v = .ag ((l.drop j).take ti.size)else l[j]? = some v) K=yI ti l j K:=by
 simp only [yI,fL]
 split
 ·rw [jE,jU]
 ·rfl
theorem tK{E:Env}{t:TypeId}{rows:Rows}{p:PV}{K:PV→Prop}:aX (fun v=>sS E t rows p v) K=kI E t rows p K:=by
 simp only [sS,kI]
 rw [jE]
 congr 1
 cases p with
 | rd l=>dsimp only;rw [←JV];simp [go]
 | ptr id ver i j =>
  simp only [bR,ER,←JV]
  apply propext;simp only [aX]
  constructor
  ·rintro⟨v,⟨r,h1,h2,el,h3,h4⟩,h5⟩;exact⟨r,h1,h2,el,h3,v,h4,h5⟩
  ·rintro⟨r,h1,h2,el,h3,v,h4,h5⟩;exact⟨v,⟨r,h1,h2,el,h3,h4⟩,h5⟩
 | _=>simp [aX]
def jV(ti:TI)(i:Nat)(x:PV)(K:PV→Prop):Prop:=
 match ti with
 | .struct fs _=>fL (lC fs i) fun p=>match x with
  | .ag l=>if p.2.2=true then K (.ag ((l.drop p.1).take p.2.1))else fL (lC l p.1) K
  | _=>False
 | _=>False
@[congr] theorem adO{t t':TI}{i:Nat}{x x':PV}{K:PV→Prop}(h:t=t')(h2:x=x'):jV t i x K=jV t' i x' K:=by rw [h,h2]
def GO(p:Nat × Nat × Bool)(l:List PV)(K:PV→Prop):Prop:=if p.2.2=true then K (.ag ((l.drop p.1).take p.2.1))else fL (lC l p.1) K
@[simp] theorem anj{o n:Nat}{l:List PV}{K:PV→Prop}:GO (o,n,true) l K=go (K (.ag ((l.drop o).take n))):=by show _=K _;simp [GO]
@[simp] theorem ajG{o n:Nat}{l:List PV}{K:PV→Prop}:GO (o,n,false) l K=fL (lC l o) K:=by simp [GO]
@[congr] theorem ajH{p p':Nat × Nat × Bool}{l l':List PV}{K:PV→Prop}(h:p=p')(h2:l=l'):GO p l K=GO p' l' K:=by rw [h,h2]
@[simp] theorem ajI{fs:List (Nat × Nat × Bool)}{z:List PV}{i:Nat}{l:List PV}{K:PV→Prop}:jV (.struct fs z) i (.ag l) K=fL (lC fs i) fun p=>GO p l K:=rfl
theorem yJ{E:Env}{t:TypeId}{i:Nat}{x:PV}{K:PV→Prop}:aX (fun v=>tC E t i x v) K=jV (E.ty t) i x K:=by
 simp only [tC,jV]
 cases E.ty t with
 | struct fs z =>
  simp only [fL]
  apply propext;simp only [aX]
  cases x with
  | ag l =>
   simp only
   constructor
   ·rintro⟨v,⟨o,n,b,h1,h2⟩,h3⟩
    refine⟨_,h1,?_⟩
    simp only
    split at h2
    ·rename_i hb;rw [if_pos hb,←h2];exact h3
    ·rename_i hb;rw [if_neg hb];exact⟨v,h2,h3⟩
   ·rintro⟨⟨o,n,b⟩,h1,h2⟩
    simp only at h2
    split at h2
    ·rename_i hb;exact⟨_,⟨o,n,b,h1,by rw [if_pos hb]⟩,h2⟩
    ·rename_i hb;obtain⟨v,h3,h4⟩:=h2;exact⟨v,⟨o,n,b,h1,by rw [if_neg hb];exact h3⟩,h4⟩
  | _=>simp
 | _=>simp [aX]
def dS(ti:TI)(rows:Rows)(i:Nat)(x:PV)(K:PV→Prop):Prop:=
 match ti with
 | .struct fs _=>fL (lC fs i) fun p=>match x with
  | .rd l=>aG (p.1≤l.length) (K (.rd (l.drop p.1)))
  | .ptr id ver a j=>bR (rows id) ver fun _=>K (.ptr id ver a (j+p.1))
  | _=>False
 | _=>False
@[congr] theorem SL{t t':TI}{rows:Rows}{i:Nat}{x x':PV}{K:PV→Prop}(h:t=t')(h2:x=x'):dS t rows i x K=dS t' rows i x' K:=by rw [h,h2]
@[simp] theorem aaE{fs:List (Nat × Nat × Bool)}{z:List PV}{rows:Rows}{i:Nat}{l:List PV}{K:PV→Prop}:dS (.struct fs z) rows i (.rd l) K=fL (lC fs i) fun p=>aG (p.1≤l.length) (K (.rd (l.drop p.1))):=rfl
@[simp] theorem YZ{fs:List (Nat × Nat × Bool)}{z:List PV}{rows:Rows}{i id ver a j:Nat}{K:PV→Prop}:dS (.struct fs z) rows i (.ptr id ver a j) K=fL (lC fs i) fun p=>bR (rows id) ver fun _=>K (.ptr id ver a (j+p.1)):=rfl
theorem pV{E:Env}{t:TypeId}{rows:Rows}{i:Nat}{x:PV}{K:PV→Prop}:aX (fun v=>fI E t rows i x v) K=dS (E.ty t) rows i x K:=by
 simp only [fI,dS]
 cases E.ty t with
 | struct fs z =>
  simp only [fL]
  apply propext;simp only [aX]
  cases x with
  | rd l =>
   simp only [aG]
   constructor
   ·rintro⟨v,⟨o,n,b,h1,h2,rfl⟩,h3⟩;exact⟨_,h1,h2,h3⟩
   ·rintro⟨⟨o,n,b⟩,h1,h2,h3⟩;exact⟨_,⟨o,n,b,h1,h2,rfl⟩,h3⟩
  | ptr id ver a j =>
   simp only [bR]
   constructor
   ·rintro⟨v,⟨o,n,b,h1,⟨r,h2,h3⟩,rfl⟩,h4⟩;exact⟨_,h1,r,h2,h3,h4⟩
   ·rintro⟨⟨o,n,b⟩,h1,r,h2,h3,h4⟩;exact⟨_,⟨o,n,b,h1,⟨r,h2,h3⟩,rfl⟩,h4⟩
  | _=>simp
 | _=>simp [aX]
def bM(n:Nat)(l:List (List PV)):Prop:=∀e∈l,e.length=n
@[simp] theorem cN{α:Type}{g:α→List PV}{n:Nat}{l:List α}:(Enc g n)→bM n (emap g l)=True:=by
 intro h
 simp only [bM,emap,List.mem_map,eq_iff_iff,iff_true]
 rintro e ⟨x,_,rfl⟩
 exact h x
@[simp] theorem ajJ{n:Nat}:bM n []=True:=by simp [bM]
@[simp] theorem ahj{n:Nat}{e:List PV}{l:List (List PV)}:bM n (e::l)=(e.length=n∧bM n l):=by simp [bM]
def cO(ti:TI)(rows:Rows)(x ix:PV)(K:PV→Prop):Prop:=
 match ti,ix with
 | .slice _ n _ _, .int _ k=>aG (0≤k) (match x with
  | .sl l=>aG (bM n l) (ER l k.toNat fun el=>K (.rd el))
  | .jB l=>aG (bM n l) (ER l k.toNat fun el=>K (.rd el))
  | .own id ver off len=>bR (rows id) ver fun r=>aG (r.size=n∧k.toNat<len) (K (.ptr id ver (off+k.toNat) 0))
  | _=>False)
 | .arr _ m n _, .int _ k=>aG (0≤k∧k.toNat<m) (match x with
  | .rd l=>aG (k.toNat*n≤l.length) (K (.rd (l.drop (k.toNat*n))))
  | .ptr id ver a j=>bR (rows id) ver fun _=>K (.ptr id ver a (j+k.toNat*n))
  | _=>False)
 | _,_=>False
@[congr] theorem SM{t t':TI}{rows:Rows}{x x' y y':PV}{K:PV→Prop}(h:t=t')(h2:x=x')(h3:y=y'):cO t rows x y K=cO t' rows x' y' K:=by rw [h,h2,h3]
section
variable {α:Type} [Inhabited α] {g:α→List PV} {l:List α} {e n b:Nat} {z:List PV} {rows:Rows} {kk:IntKind} {k:Int} {K:PV→Prop} {els:List (List PV)} {id ver off len:Nat}
@[simp] theorem Y1:cO (.slice e n b z) rows (aJ g l) (.int kk k) K=aG (0≤k∧k.toNat<l.length) (aG (bM n (emap g l)) (K (.rd (g (nth l k.toNat))))):=by
 simp only [cO,aJ,JU,aG,and_assoc]
 apply propext
 constructor
 ·rintro⟨h1,h2,h3,h4⟩;exact⟨h1,h3,h2,h4⟩
 ·rintro⟨h1,h2,h3,h4⟩;exact⟨h1,h3,h2,h4⟩
@[simp] theorem aaF:cO (.slice e n b z) rows (.sl els) (.int kk k) K=aG (0≤k) (aG (bM n els) (ER els k.toNat fun el=>K (.rd el))):=rfl
@[simp] theorem Y2:cO (.slice e n b z) rows (.jB els) (.int kk k) K=aG (0≤k) (aG (bM n els) (ER els k.toNat fun el=>K (.rd el))):=rfl
@[simp] theorem Y3{m:Nat}{l:List PV}:cO (.arr e m n z) rows (.rd l) (.int kk k) K=aG (0≤k∧k.toNat<m) (aG (k.toNat*n≤l.length) (K (.rd (l.drop (k.toNat*n))))):=rfl
@[simp] theorem V6{m a j:Nat}:cO (.arr e m n z) rows (.ptr id ver a j) (.int kk k) K=aG (0≤k∧k.toNat<m) (bR (rows id) ver fun _=>K (.ptr id ver a (j+k.toNat*n))):=rfl
@[simp] theorem Y4:cO (.slice e n b z) rows (.own id ver off len) (.int kk k) K=aG (0≤k) (bR (rows id) ver fun r=>aG (r.size=n∧k.toNat<len) (K (.ptr id ver (off+k.toNat) 0))):=rfl
end
theorem pW{E:Env}{t:TypeId}{rows:Rows}{x ix:PV}{K:PV→Prop}:aX (fun v=>fJ E t rows x ix v) K=cO (E.ty t) rows x ix K:=by
 simp only [fJ,cO]
 cases E.ty t with
 | slice e n b z =>
  cases ix with
  | int kk k =>
   simp only
   rw [jE]
   congr 1
   cases x with
   | sl l =>
    simp only [aG,ER,bM]
    apply propext;simp only [aX]
    constructor
    ·rintro⟨v,⟨el,h1,h2,rfl⟩,h4⟩;exact⟨h2,el,h1,h4⟩
    ·rintro⟨h2,el,h1,h4⟩;exact⟨_,⟨el,h1,h2,rfl⟩,h4⟩
   | jB l =>
    simp only [aG,ER,bM]
    apply propext;simp only [aX]
    constructor
    ·rintro⟨v,⟨el,h1,h2,rfl⟩,h4⟩;exact⟨h2,el,h1,h4⟩
    ·rintro⟨h2,el,h1,h4⟩;exact⟨_,⟨el,h1,h2,rfl⟩,h4⟩
   | own id ver off len =>
    simp only [aG,bR]
    apply propext;simp only [aX]
    constructor
    ·rintro⟨v,⟨r,h1,h2,h3,h4,rfl⟩,h5⟩;exact⟨r,h1,h2,⟨h3,h4⟩,h5⟩
    ·rintro⟨r,h1,h2,⟨h3,h4⟩,h5⟩;exact⟨_,⟨r,h1,h2,h3,h4,rfl⟩,h5⟩
   | _=>simp [aX]
  | _=>simp [aX]
 | arr e m n z =>
  cases ix with
  | int kk k =>
   simp only
   rw [jE]
   congr 1
   cases x with
   | rd l =>
    simp only
    rw [jE,jU]
   | ptr id ver a j =>
    simp only [bR]
    apply propext;simp only [aX]
    constructor
    ·rintro⟨v,⟨⟨r,h1,h2⟩,rfl⟩,h3⟩;exact⟨r,h1,h2,h3⟩
    ·rintro⟨r,h1,h2,h3⟩;exact⟨_,⟨⟨r,h1,h2⟩,rfl⟩,h3⟩
   | _=>simp [aX]
  | _=>simp [aX]
 | _=>simp [aX]
def yK(d:Nat)(o:Option PV)(K:Nat→Prop):Prop:=
 match o with
 | none=>K d
 | some (.int _ k)=>aG (0≤k) (K k.toNat)
 | some _=>False
@[congr] theorem ank{d d':Nat}{o o':Option PV}{K:Nat→Prop}(h:d=d')(h2:o=o'):yK d o K=yK d' o' K:=by rw [h,h2]
@[simp] theorem aps{d:Nat}{K:Nat→Prop}:yK d none K=go (K d):=rfl
@[simp] theorem apt{d:Nat}{kk:IntKind}{k:Int}{K:Nat→Prop}:yK d (some (.int kk k)) K=aG (0≤k) (K k.toNat):=rfl
theorem O4{d:Nat}{o:Option PV}{K:Nat→Prop}:yK d o K ↔ ∃n,uI d o n∧K n:=by
 cases o with
 | none=>simp [yK,uI]
 | some p =>
  cases p with
  | int kk k =>
   simp only [yK,uI,aG]
   constructor
   ·rintro⟨h1,h2⟩;exact⟨_,⟨h1,rfl⟩,h2⟩
   ·rintro⟨n,⟨h1,rfl⟩,h2⟩;exact⟨h1,h2⟩
  | _=>simp [yK,uI]
def V7{α:Type}(mk mkx:List α→PV)(n:Nat)(l:List α)(ok:Prop)(lo hi mx:Option PV)(K:PV→Prop):Prop:=
 yK 0 lo fun a=>yK l.length hi fun b=>aG (a≤b∧b≤l.length) (aG ok (match mx with
  | none=>K (mk ((l.take b).drop a))
  | some m=>yK 0 (some m) fun c=>aG (b=c∧hi.isSome=true) (K (mkx ((l.take b).drop a)))))
def fO(ti:TI)(rows:Rows)(x:PV)(lo hi mx:Option PV)(K:PV→Prop):Prop:=
 match ti with
 | .slice _ n _ _ =>
  match x with
  | .nil=>yK 0 lo fun a=>yK 0 hi fun b=>aG (a=0∧b=0∧mx.isNone=true) (K .nil)
  | .sl l=>V7 .sl .jB n l (bM n l) lo hi mx K
  | .jB l=>V7 .sl .jB n l (bM n l) lo hi mx K
  | .own id ver off len=>bR (rows id) ver fun r=>aG (r.size=n) (yK 0 lo fun a=>yK len hi fun b=>aG (a≤b∧b≤len∧mx.isNone=true) (K (.own id ver (off+a) (b-a))))
  | _=>False
 | _=>False
@[congr] theorem adP{t t':TI}{rows:Rows}{x x':PV}{lo lo' hi mQ mx mx':Option PV}{K:PV→Prop}(h:t=t')(h2:x=x')(h3:lo=lo')(h4:hi=mQ)(h5:mx=mx'):fO t rows x lo hi mx K=fO t' rows x' lo' mQ mx' K:=by rw [h,h2,h3,h4,h5]
section
variable {α:Type} {g:α→List PV} {l:List α} {e n b:Nat} {z:List PV} {rows:Rows} {lo hi mx:Option PV} {K:PV→Prop} {els:List (List PV)} {id ver off len:Nat}
theorem JW{a b:Nat}:((emap g l).take b).drop a=emap g ((l.take b).drop a):=by simp [emap]
@[simp] theorem ahk:fO (.slice e n b z) rows (aJ g l) lo hi none K=yK 0 lo fun a=>yK l.length hi fun b=>aG (a≤b∧b≤l.length) (aG (bM n (emap g l)) (K (aJ g ((l.take b).drop a)))):=by
 simp only [fO,aJ,V7,JW]
 simp [emap]
theorem GP{m:PV}:fO (.slice e n b z) rows (aJ g l) lo hi (some m) K=yK 0 lo fun a=>yK l.length hi fun b=>aG (a≤b∧b≤l.length) (aG (bM n (emap g l)) (yK 0 (some m) fun c=>aG (b=c∧hi.isSome=true) (K (.jB (emap g ((l.take b).drop a)))))):=by
 simp only [fO,aJ,V7,JW]
 simp [emap]
@[simp] theorem ahl:fO (.slice e n b z) rows .nil lo hi mx K=yK 0 lo fun a=>yK 0 hi fun b=>aG (a=0∧b=0∧mx.isNone=true) (K .nil):=rfl
@[simp] theorem ahm:fO (.slice e n b z) rows (.own id ver off len) lo hi mx K=bR (rows id) ver fun r=>aG (r.size=n) (yK 0 lo fun a=>yK len hi fun b=>aG (a≤b∧b≤len∧mx.isNone=true) (K (.own id ver (off+a) (b-a)))):=rfl
end
theorem SN{l:List (List PV)}{n:Nat}{lo hi mx:Option PV}{K:PV→Prop}:(∃v,(∃a b,uI 0 lo a∧uI l.length hi b∧a≤b∧b≤l.length∧(∀e∈l,e.length=n)∧NN l a b hi mx v)∧K v)↔V7 .sl .jB n l (bM n l) lo hi mx K:=by
 simp only [V7,O4,aG,bM,NN]
 constructor
 ·rintro⟨v,⟨a,b,h1,h2,h3,h4,h5,h6⟩,h7⟩
  refine⟨a,h1,b,h2,⟨h3,h4⟩,h5,?_⟩
  cases mx with
  | none=>simp only at h6 ⊢;rw [←h6];exact h7
  | some m=>obtain⟨c,q1,q2,q3,rfl⟩:=h6;exact⟨c,q1,⟨q2,q3⟩,h7⟩
 ·rintro⟨a,h1,b,h2,⟨h3,h4⟩,h5,h6⟩
  cases mx with
  | none=>exact⟨_,⟨a,b,h1,h2,h3,h4,h5,rfl⟩,h6⟩
  | some m=>obtain⟨c,q1,⟨q2,q3⟩,h7⟩:=h6;exact⟨_,⟨a,b,h1,h2,h3,h4,h5,c,q1,q2,q3,rfl⟩,h7⟩
theorem yL{E:Env}{t:TypeId}{rows:Rows}{x:PV}{lo hi mx:Option PV}{K:PV→Prop}:aX (fun v=>nI E t rows x lo hi mx v) K=fO (E.ty t) rows x lo hi mx K:=by
 simp only [nI,fO]
 cases E.ty t with
 | slice e n b z =>
  cases x with
  | sl l=>exact propext SN
  | jB l=>exact propext SN
  | nil =>
   simp only [O4,aG]
   apply propext;simp only [aX]
   constructor
   ·rintro⟨v,⟨a,b,h1,h2,h3,h4,h5,rfl⟩,h6⟩;exact⟨a,h1,b,h2,⟨h3,h4,h5⟩,h6⟩
   ·rintro⟨a,h1,b,h2,⟨h3,h4,h5⟩,h6⟩;exact⟨_,⟨a,b,h1,h2,h3,h4,h5,rfl⟩,h6⟩
  | own id ver off len =>
   simp only [O4,aG,bR]
   apply propext;simp only [aX]
   constructor
   ·rintro⟨v,⟨r,q1,q2,q3,a,b,h1,h2,h3,h4,h5,rfl⟩,h6⟩;exact⟨r,q1,q2,q3,a,h1,b,h2,⟨h3,h4,h5⟩,h6⟩
   ·rintro⟨r,q1,q2,q3,a,h1,b,h2,⟨h3,h4,h5⟩,h6⟩;exact⟨_,⟨r,q1,q2,q3,a,b,h1,h2,h3,h4,h5,rfl⟩,h6⟩
  | _=>simp [aX]
 | _=>simp [aX]
def s6(rows:Rows)(x:PV)(K:PV→Prop):Prop:=
 match x with
 | .rd l=>K (.rd l)
 | .ptr id ver i j=>bR (rows id) ver fun _=>K (.ptr id ver i j)
 | _=>False
@[congr] theorem ahn{rows:Rows}{x x':PV}{K:PV→Prop}(h:x=x'):s6 rows x K=s6 rows x' K:=by rw [h]
@[simp] theorem apu{rows:Rows}{l:List PV}{K:PV→Prop}:s6 rows (.rd l) K=go (K (.rd l)):=rfl
@[simp] theorem anl{rows:Rows}{id ver i j:Nat}{K:PV→Prop}:s6 rows (.ptr id ver i j) K=bR (rows id) ver fun _=>K (.ptr id ver i j):=rfl
theorem ES{rows:Rows}{x:PV}{K:PV→Prop}:aX (fun v=>DP rows x v) K=s6 rows x K:=by
 simp only [DP,s6]
 cases x with
 | rd l=>dsimp only;rw [jU]
 | ptr id ver i j =>
  simp only [bR]
  apply propext;simp only [aX]
  constructor
  ·rintro⟨v,⟨⟨r,h1,h2⟩,rfl⟩,h3⟩;exact⟨r,h1,h2,h3⟩
  ·rintro⟨r,h1,h2,h3⟩;exact⟨_,⟨⟨r,h1,h2⟩,rfl⟩,h3⟩
 | _=>simp [aX]
def lF(ti:TI)(rows:Rows)(x:PV)(K:PV→Prop):Prop:=
 match ti with
 | .slice _ _ _ _=>match x with
  | .nil=>K (.int .i64 0)
  | .sl l=>K (.int .i64 l.length)
  | .jB l=>K (.int .i64 l.length)
  | .own id ver _ len=>bR (rows id) ver fun _=>K (.int .i64 len)
  | _=>False
 | _=>False
@[congr] theorem aho{t t':TI}{rows:Rows}{x x':PV}{K:PV→Prop}(h:t=t')(h2:x=x'):lF t rows x K=lF t' rows x' K:=by rw [h,h2]
section
variable {α:Type} {g:α→List PV} {l:List α} {e n b:Nat} {z:List PV} {rows:Rows} {K:PV→Prop} {els:List (List PV)} {id ver off len:Nat}
@[simp] theorem anm:lF (.slice e n b z) rows (aJ g l) K=go (K (.int .i64 l.length)):=by show _=K _;simp [lF,aJ,emap]
@[simp] theorem ann:lF (.slice e n b z) rows .nil K=go (K (.int .i64 0)):=rfl
@[simp] theorem apv:lF (.slice e n b z) rows (.sl els) K=go (K (.int .i64 els.length)):=rfl
@[simp] theorem ano:lF (.slice e n b z) rows (.jB els) K=go (K (.int .i64 els.length)):=rfl
@[simp] theorem anp:lF (.slice e n b z) rows (.own id ver off len) K=bR (rows id) ver fun _=>K (.int .i64 len):=rfl
end
theorem ET{ti:TI}{rows:Rows}{x:PV}{K:PV→Prop}:aX (fun v=>x7 ti rows x v) K=lF ti rows x K:=by
 simp only [x7,lF]
 cases ti with
 | slice e n b z =>
  apply propext;simp only [aX,VE]
  cases x with
  | own id ver off len =>
   simp only [bR]
   constructor
   ·rintro⟨v,⟨n,⟨⟨r,h1,h2⟩,rfl⟩,rfl⟩,h4⟩;exact⟨r,h1,h2,h4⟩
   ·rintro⟨r,h1,h2,h4⟩;exact⟨_,⟨_,⟨⟨r,h1,h2⟩,rfl⟩,rfl⟩,h4⟩
  | _=>simp
 | _=>simp [aX]
def jF(els:List (List PV))(i j:Nat)(l:List PV):List (List PV):=els.set i (((els[i]?).getD []).take j++l++((els[i]?).getD []).drop (j+l.length))
def uW(els:List (List PV))(i n:Nat):Prop:=∃el,els[i]? = some el∧n≤el.length
def gW(rows:Rows)(l:List PV):Prop:=∀q∈l,iP rows q
@[simp] theorem ajK{rows:Rows}:gW rows []=True:=by simp [gW]
@[simp] theorem ahp{rows:Rows}{p:PV}{l:List PV}:gW rows (p::l)=(iP rows p∧gW rows l):=by simp [gW]
@[simp] theorem ajL{α:Type}[Inhabited α]{g:α→List PV}{l:List α}{i n:Nat}:uW (emap g l) i n=(i<l.length∧n≤(g (nth l i)).length):=by
 exact JU (g:=g) (l:=l) (i:=i) (K:=fun el=>n≤el.length)
def jW(E:Env)(t:TypeId)(rows:Rows)(p x:PV)(K:Nat→Row→Prop):Prop:=
 aG ((E.ty t).known=true) (match p with
 | .ptr id ver i j=>bR (rows id) ver fun r=>fL (cD x) fun l=>aG (uW r.els i (j+l.length)∧gW rows l∧l.length=(E.ty t).size) (K id ⟨ver,r.e,r.size,jF r.els i j l⟩)
 | _=>False)
@[congr] theorem adQ{E:Env}{t:TypeId}{rows:Rows}{p p' x x':PV}{K:Nat→Row→Prop}(h1:p=p')(h2:x=x'):jW E t rows p x K=jW E t rows p' x' K:=by rw [h1,h2]
@[simp] theorem ahq{E:Env}{t:TypeId}{rows:Rows}{id ver i j:Nat}{x:PV}{K:Nat→Row→Prop}:jW E t rows (.ptr id ver i j) x K=aG ((E.ty t).known=true) (bR (rows id) ver fun r=>fL (cD x) fun l=>aG (uW r.els i (j+l.length)∧gW rows l∧l.length=(E.ty t).size) (K id ⟨ver,r.e,r.size,jF r.els i j l⟩)):=rfl
theorem EU{E:Env}{t:TypeId}{rows:Rows}{p x:PV}{K:Nat→Row→Prop}:(∃id r,qJ E t rows p x .undef (some (id,r))∧K id r)=jW E t rows p x K:=by
 simp only [qJ,jW,aG,bR,fL,uW,gW]
 apply propext
 constructor
 ·rintro⟨id,r,⟨h1,_,h2⟩,h3⟩
  refine⟨h1,?_⟩
  split at h2
  ·obtain⟨r0,q1,q2,el,q3,l,q4,q5,q6,q7,q8⟩:=h2
   simp only [Option.some.injEq,Prod.mk.injEq]at q8
   obtain⟨rfl,rfl⟩:=q8
   refine⟨r0,q1,q2,l,q4,⟨⟨el,q3,q7⟩,q5,q6⟩,?_⟩
   simp only [jF,q3,Option.getD_some]
   rw [q2]at h3
   exact h3
  ·exact h2.elim
 ·rintro⟨h1,h2⟩
  split at h2
  ·obtain⟨r0,q1,q2,l,q4,⟨⟨el,q3,q7⟩,q5,q6⟩,h3⟩:=h2
   simp only [jF,q3,Option.getD_some]at h3
   refine⟨_,_,⟨h1,trivial,r0,q1,q2,el,q3,l,q4,q5,q6,q7,rfl⟩,?_⟩
   rw [←q2]at h3
   exact h3
  ·exact h2.elim
def kA(rows:Rows)(y:PV)(K:List (List PV)→Prop):Prop:=
 match y with
 | .nil=>K []
 | .sl k=>K k
 | .jB k=>K k
 | .own id ver off len=>bR (rows id) ver fun r=>K ((r.els.drop off).take len)
 | _=>False
@[congr] theorem ahr{rows:Rows}{y y':PV}{K:List (List PV)→Prop}(h:y=y'):kA rows y K=kA rows y' K:=by rw [h]
@[simp] theorem anq{rows:Rows}{K:List (List PV)→Prop}:kA rows .nil K=go (K []):=rfl
@[simp] theorem apw{rows:Rows}{l:List (List PV)}{K:List (List PV)→Prop}:kA rows (.sl l) K=go (K l):=rfl
@[simp] theorem anr{α:Type}{g:α→List PV}{rows:Rows}{l:List α}{K:List (List PV)→Prop}:kA rows (aJ g l) K=go (K (emap g l)):=rfl
@[simp] theorem ans{rows:Rows}{l:List (List PV)}{K:List (List PV)→Prop}:kA rows (.jB l) K=go (K l):=rfl
@[simp] theorem ant{rows:Rows}{id ver off len:Nat}{K:List (List PV)→Prop}:kA rows (.own id ver off len) K=bR (rows id) ver fun r=>K ((r.els.drop off).take len):=rfl
theorem SO{rows:Rows}{y:PV}{K:List (List PV)→Prop}:(∃l,tG rows y l∧K l)=kA rows y K:=by
 simp only [tG,kA]
 apply propext
 cases y with
 | own id ver off len =>
  simp only [bR]
  constructor
  ·rintro⟨l,⟨r,h1,h2,rfl⟩,h3⟩;exact⟨r,h1,h2,h3⟩
  ·rintro⟨r,h1,h2,h3⟩;exact⟨_,⟨r,h1,h2,rfl⟩,h3⟩
 | _=>simp
def gQ(c:Prop)(len:Nat)(els:List (List PV))(K:List (List PV)→Prop):Prop:=(c∧K els)∨(¬c∧len≤els.length∧K (els.take len))
@[congr] theorem adR{c c':Prop}{len apx:Nat}{els zC:List (List PV)}{K:List (List PV)→Prop}(h:c=c')(h1:len=apx)(h2:els=zC):gQ c len els K=gQ c' apx zC K:=by rw [h,h1,h2]
theorem GQ{len:Nat}{els:List (List PV)}{K:List (List PV)→Prop}:gQ True len els K=K els:=by simp [gQ]
theorem SP{len:Nat}{els:List (List PV)}{K:List (List PV)→Prop}:gQ (len=els.length) len els K=(len≤els.length∧K (els.take len)):=by
 apply propext
 constructor
 ·rintro(⟨h,hK⟩ | ⟨_,h,hK⟩)
  ·exact⟨by omega,by rw [List.take_of_length_le (by omega)];exact hK⟩
  ·exact⟨h,hK⟩
 ·rintro⟨h,hK⟩
  by_cases hc:len=els.length
  ·exact .inl ⟨hc,by rw [List.take_of_length_le (by omega)]at hK;exact hK⟩
  ·exact .inr ⟨hc,h,hK⟩
def qQ(t:TI)(rows:Rows)(x y:PV)(clk d:Nat)(K:PV→Rows→Nat→Prop):Prop:=
 match t with
 | .slice e n b _=>kA rows y fun l=>aG (bM n l) (match x with
  | .nil=>aG (l.length≤room∧l.length*b≤room) (K (.own d clk 0 l.length) (dX rows d (some ⟨clk,e,n,l⟩)) (clk+1))
  | .own id ver off len=>bR (rows id) ver fun r=>aG (off=0∧r.e=e∧r.size=n) (gQ (len=r.els.length) len r.els fun els=>aG (len+l.length≤room∧(len+l.length)*b≤room) (K (.own id clk 0 (len+l.length)) (dX rows id (some ⟨clk,e,n,els++l⟩)) (clk+1)))
  | .jB l0=>aG (bM n l0 ∧ ∀e∈l,∀p∈e,cW p=true) (aG (l0.length+l.length≤room∧(l0.length+l.length)*b≤room) (K (.sl (l0++l)) rows clk))
  | _=>False)
 | _=>False
@[congr] theorem aht{t t':TI}{rows:Rows}{x x' y y':PV}{clk d:Nat}{K:PV→Rows→Nat→Prop}(h1:t=t')(h3:x=x')(h4:y=y') :
  qQ t rows x y clk d K=qQ t' rows x' y' clk d K:=by rw [h1,h3,h4]
section
variable {e n b clk d id ver off len:Nat} {z:List PV} {rows:Rows} {y:PV} {K:PV→Rows→Nat→Prop} {l0:List (List PV)}
@[simp] theorem anu:qQ (.slice e n b z) rows .nil y clk d K=kA rows y fun l=>aG (bM n l) (aG (l.length≤room∧l.length*b≤room) (K (.own d clk 0 l.length) (dX rows d (some ⟨clk,e,n,l⟩)) (clk+1))):=rfl
@[simp] theorem anv:qQ (.slice e n b z) rows (.own id ver off len) y clk d K=kA rows y fun l=>aG (bM n l) (bR (rows id) ver fun r=>aG (off=0∧r.e=e∧r.size=n) (gQ (len=r.els.length) len r.els fun els=>aG (len+l.length≤room∧(len+l.length)*b≤room) (K (.own id clk 0 (len+l.length)) (dX rows id (some ⟨clk,e,n,els++l⟩)) (clk+1)))):=rfl
@[simp] theorem anw:qQ (.slice e n b z) rows (.jB l0) y clk d K=kA rows y fun l=>aG (bM n l) (aG (bM n l0 ∧ ∀e∈l,∀p∈e,cW p=true) (aG (l0.length+l.length≤room∧(l0.length+l.length)*b≤room) (K (.sl (l0++l)) rows clk))):=rfl
end
theorem aeC{t:TI}{rows:Rows}{x y:PV}{clk d:Nat}{K:PV→Rows→Nat→Prop}:V0 t rows x y clk d K=qQ t rows x y clk d K:=by
 unfold V0 qQ
 cases t with
 | slice e n b z =>
  dsimp only
  rw [←SO]
  congr 1;funext l;congr 1
  simp only [aG,bM]
  congr 1
  cases x with
  | own id ver off len =>
   simp only [bR,SP]
   apply propext
   constructor
   ·rintro⟨r,h1,h2,h3,h4,h5,h6,h7⟩;exact⟨r,h1,h2,⟨h3,h5,h6⟩,h4,h7⟩
   ·rintro⟨r,h1,h2,⟨h3,h5,h6⟩,h4,h7⟩;exact⟨r,h1,h2,h3,h4,h5,h6,h7⟩
  | jB l0=>simp only [bM,and_assoc]
  | _=>rfl
 | _=>rfl
def fzR(o:Option Row)(ver off len:Nat):PV:=
 match o with
 | some r=>if r.ver=ver then .sl ((r.els.drop off).take len)else .undef
 | none => .undef
@[simp] theorem avp{rows:Rows}{id ver off len:Nat}:fz rows (.own id ver off len)=fzR (rows id) ver off len:=rfl
@[simp] theorem apy{α:Type}{g:α→List PV}{l:List α}{ver e n off len:Nat}:fzR (some ⟨ver,e,n,emap g l⟩) ver off len=aJ g ((l.drop off).take len):=by simp [fzR,aJ,emap]
@[simp] theorem avq{rows:Rows}:fz rows .nil = .sl []:=rfl
@[simp] theorem avr{rows:Rows}{l:List (List PV)}:fz rows (.jB l) = .sl l:=rfl
@[simp] theorem ayu{rows:Rows}{l:List (List PV)}:fz rows (.sl l) = .sl l:=rfl
@[simp] theorem avs{α:Type}{g:α→List PV}{rows:Rows}{l:List α}:fz rows (aJ g l)=aJ g l:=rfl
@[simp] theorem avt{rows:Rows}{k:IntKind}{n:Int}:fz rows (.int k n) = .int k n:=rfl
@[simp] theorem atq{rows:Rows}{b:Bool}:fz rows (.bool b) = .bool b:=rfl
@[simp] theorem ayv{rows:Rows}{f:FuncId}{l:List PV}:fz rows (.fn f l) = .fn f l:=rfl
@[simp] theorem avu{rows:Rows}{id ver off len:Nat}:pz rows (.own id ver off len)=fzR (rows id) ver off len:=rfl
@[simp] theorem avv{rows:Rows}:pz rows .nil = .sl []:=rfl
@[simp] theorem avw{rows:Rows}{l:List (List PV)}:pz rows (.jB l) = .sl l:=rfl
@[simp] theorem ayw{rows:Rows}{l:List (List PV)}:pz rows (.sl l) = .sl l:=rfl
@[simp] theorem avx{α:Type}{g:α→List PV}{rows:Rows}{l:List α}:pz rows (aJ g l)=aJ g l:=rfl
@[simp] theorem avy{rows:Rows}{k:IntKind}{n:Int}:pz rows (.int k n) = .int k n:=rfl
@[simp] theorem atr{rows:Rows}{b:Bool}:pz rows (.bool b) = .bool b:=rfl
@[simp] theorem ayx{rows:Rows}{f:FuncId}{l:List PV}:pz rows (.fn f l) = .fn f l:=rfl
@[simp] theorem ayy{rows:Rows}{l:List PV}:pz rows (.ag l) = .ag (l.map (fz rows)):=rfl
@[simp] theorem apz{α:Type}{g:α→List PV}{l:List α}:fV (aJ g l)=true:=rfl
@[simp] theorem anz{α:Type}{g:α→List PV}{l:List α}:cW (aJ g l)=true:=rfl
@[simp] theorem att{α:Type}{g:α→List PV}{l:List α}:a9 (aJ g l) = []:=rfl
@[simp] theorem apA{α:Type}{g:α→List PV}{l:List α}:dW (aJ g l) = []:=rfl
@[simp] theorem atu{l:List (List PV)}:dW (.sl l) = []:=rfl
@[simp] theorem apB{l:List (List PV)}:dW (.jB l) = []:=rfl
@[simp] theorem apC{k:IntKind}{n:Int}:dW (.int k n) = []:=rfl
@[simp] theorem anA{b:Bool}:dW (.bool b) = []:=rfl
@[simp] theorem atv{f:FuncId}{l:List PV}:dW (.fn f l) = []:=rfl
@[simp] theorem apD:dW .nil = []:=rfl
@[simp] theorem apE{id ver off len:Nat}:dW (.own id ver off len) = [id]:=rfl
@[simp] theorem atw{l:List PV}:dW (.ag l)=l.flatMap a9:=rfl
@[simp] theorem apF{α:Type}{g:α→List PV}{rows:Rows}{l:List α}:iP rows (aJ g l)=True:=rfl
@[simp] theorem ajM{α:Type}{g:α→List PV}{l:List α}:cD (aJ g l)=some [aJ g l]:=rfl
@[simp] theorem ajN{α:Type}{g:α→List PV}{l:List α}:fA (aJ g l)=some [aJ g l]:=rfl
def cX(o:Option Row):Prop:=∀r,o=some r → ∀e∈r.els,∀p∈e,cW p=true
@[simp] theorem aeD{rows:Rows}:eK rows []=True:=by simp [eK]
@[simp] theorem adS{rows:Rows}{id:Nat}{ids:List Nat}:eK rows (id::ids)=(cX (rows id)∧eK rows ids):=by simp [eK,cX]
@[simp] theorem aeE:cX none=True:=by simp [cX]
@[simp] theorem b7{α:Type}{g:α→List PV}{l:List α}{ver e n:Nat}(h:apm g):cX (some ⟨ver,e,n,emap g l⟩)=True:=by
 simp only [cX,emap,Option.some.injEq,eq_iff_iff,iff_true]
 rintro r rfl e he p hp
 simp at he
 obtain⟨x,_,rfl⟩:=he
 exact List.all_eq_true.1 (h x) p hp
@[simp] theorem atx{rows:Rows}:EI rows []=rows:=by funext j;simp [EI]
@[simp] theorem avz{rows:Rows}{ids:List Nat}{j:Nat}:EI rows ids j=if j∈ids then none else rows j:=rfl
def l5(fs:List (Nat × Nat × Bool)):List (Nat × PV)→List PV→(List PV→Prop)→Prop
 | [],z,K=>K z
 | (i,p)::ps,z,K=>fL (lC fs i) fun q=>fL (fA p) fun l=>aG (l.length=q.2.1∧q.1+q.2.1≤z.length) (l5 fs ps (z.take q.1++l++z.drop (q.1+q.2.1)) K)
@[congr] theorem ahu{fs:List (Nat × Nat × Bool)}{ps SR:List (Nat × PV)}{z z':List PV}{K:List PV→Prop}(h:ps=SR)(h2:z=z'):l5 fs ps z K=l5 fs SR z' K:=by rw [h,h2]
@[simp] theorem anB{fs:List (Nat × Nat × Bool)}{z:List PV}{K:List PV→Prop}:l5 fs [] z K=go (K z):=rfl
@[simp] theorem ajO{fs:List (Nat × Nat × Bool)}{i:Nat}{p:PV}{ps:List (Nat × PV)}{z:List PV}{K:List PV→Prop}:l5 fs ((i,p)::ps) z K=fL (lC fs i) fun q=>fL (fA p) fun l=>aG (l.length=q.2.1∧q.1+q.2.1≤z.length) (l5 fs ps (z.take q.1++l++z.drop (q.1+q.2.1)) K):=rfl
theorem BG{fs:List (Nat × Nat × Bool)}:∀ {ps:List (Nat × PV)} {z:List PV} {K:List PV→Prop},(∃l,sU fs ps z=some l∧K l)↔l5 fs ps z K
 | [],z,K=>by simp [sU,l5]
 | (i,p)::ps,z,K=>by
  simp only [sU,l5,fL,aG,lC]
  cases h1:fs[i]? with
  | none=>simp
  | some q =>
   obtain⟨o,n,b⟩:=q
   cases h2:fA p with
   | none=>simp
   | some l =>
    simp only [Option.some.injEq,exists_eq_left']
    rw [←BG]
    split
    ·rename_i h;simp [h]
    ·rename_i h;simp [h]
def kQ(ti:TI)(ps:List (Nat × PV))(K:PV→Prop):Prop:=
 match ti with
 | .struct fs z=>l5 fs ps z fun l=>K (.ag l)
 | .arr _ k n z=>l5 (NP k n) ps z fun l=>K (.ag l)
 | _=>False
@[congr] theorem adT{t t':TI}{ps SR:List (Nat × PV)}{K:PV→Prop}(h:t=t')(h2:ps=SR):kQ t ps K=kQ t' SR K:=by rw [h,h2]
@[simp] theorem aaG{fs:List (Nat × Nat × Bool)}{z:List PV}{ps:List (Nat × PV)}{K:PV→Prop}:kQ (.struct fs z) ps K=l5 fs ps z fun l=>K (.ag l):=rfl
@[simp] theorem ahw{e k n:Nat}{z:List PV}{ps:List (Nat × PV)}{K:PV→Prop}:kQ (.arr e k n z) ps K=l5 (NP k n) ps z fun l=>K (.ag l):=rfl
@[simp] theorem anC{k n i:Nat}:lC (NP k n) i=if i<k then some (i*n,n,false)else none:=by
 unfold lC NP
 rw [List.getElem?_map]
 split
 ·rename_i h;rw [List.getElem?_range h];rfl
 ·rename_i h;rw [List.getElem?_eq_none (by simpa using h)];rfl
theorem yM{ti:TI}{ps:List (Nat × PV)}{K:PV→Prop}:aX (fun v=>qE ti ps v) K=kQ ti ps K:=by
 simp only [qE,kQ]
 cases ti with
 | struct fs z =>
  apply propext;simp only [aX]
  rw [←BG]
  constructor
  ·rintro⟨v,⟨l,h1,rfl⟩,h2⟩;exact⟨l,h1,h2⟩
  ·rintro⟨l,h1,h2⟩;exact⟨_,⟨l,h1,rfl⟩,h2⟩
 | arr e k n z =>
  apply propext;simp only [aX]
  rw [←BG]
  constructor
  ·rintro⟨v,⟨l,h1,rfl⟩,h2⟩;exact⟨l,h1,h2⟩
  ·rintro⟨l,h1,h2⟩;exact⟨_,⟨l,h1,rfl⟩,h2⟩
 | _=>simp [aX]
def i3(n:Nat):Nat→List (Nat × PV)→(List (List PV)→Prop)→Prop
 | _,[],K=>K []
 | k,(i,p)::ps,K=>fL (cD p) fun l=>aG (i=k∧l.length=n) (i3 n (k+1) ps fun els=>K (l::els))
@[congr] theorem aeF{n k:Nat}{ps SR:List (Nat × PV)}{K:List (List PV)→Prop}(h:ps=SR):i3 n k ps K=i3 n k SR K:=by rw [h]
@[simp] theorem ajP{n k:Nat}{K:List (List PV)→Prop}:i3 n k [] K=go (K []):=rfl
@[simp] theorem ahx{n k i:Nat}{p:PV}{ps:List (Nat × PV)}{K:List (List PV)→Prop}:i3 n k ((i,p)::ps) K=fL (cD p) fun l=>aG (i=k∧l.length=n) (i3 n (k+1) ps fun els=>K (l::els)):=rfl
theorem wZ{n:Nat}:∀ {ps:List (Nat × PV)} {k:Nat} {K:List (List PV)→Prop},(∃l,gV n k ps=some l∧K l)↔i3 n k ps K
 | [],k,K=>by simp [gV,i3]
 | (i,p)::ps,k,K=>by
  simp only [gV,i3,fL,aG]
  cases h2:cD p with
  | none=>simp
  | some l =>
   simp only [Option.some.injEq,exists_eq_left']
   rw [←wZ]
   by_cases h:i=k∧l.length=n
   ·rw [if_pos h]
    constructor
    ·rintro⟨e,h1,h3⟩
     obtain⟨e',h4,rfl⟩:=Option.map_eq_some_iff.1 h1
     exact⟨h,e',h4,h3⟩
    ·rintro⟨_,e',h4,h3⟩
     exact⟨_,by rw [h4];rfl,h3⟩
   ·rw [if_neg h];simp [h]
def BH(rows:Rows)(els:List (List PV)):Prop:=(∀e∈els,∀p∈e,cW (fz rows p)=true∧iP rows p)∧(∀e∈els,∀p∈e,a9 p = [])
@[simp] theorem anD{rows:Rows}:BH rows []=True:=by simp [BH]
@[simp] theorem ajQ{rows:Rows}{e:List PV}{els:List (List PV)}:BH rows (e::els)=((∀p∈e,cW (fz rows p)=true∧iP rows p∧a9 p = [])∧BH rows els):=by
 simp only [BH,List.mem_cons,forall_eq_or_imp,eq_iff_iff]
 constructor
 ·rintro⟨⟨h1,h2⟩,h3,h4⟩;exact⟨fun p hp=>⟨(h1 p hp).1,(h1 p hp).2,h3 p hp⟩,h2,h4⟩
 ·rintro⟨h1,h2,h4⟩;exact⟨⟨fun p hp=>⟨(h1 p hp).1,(h1 p hp).2.1⟩,h2⟩,fun p hp=>(h1 p hp).2.2,h4⟩
def uX(ti:TI)(rows:Rows)(len:Nat)(ps:List (Nat × PV))(K:PV→Prop):Prop:=
 match ti with
 | .slice _ n _ _=>i3 n 0 ps fun els=>aG (len=els.length∧len≤4096∧n≤4096∧BH rows els) (K (.jB (els.map fun e=>e.map (fz rows))))
 | _=>False
@[congr] theorem ahy{t t':TI}{rows:Rows}{len:Nat}{ps SR:List (Nat × PV)}{K:PV→Prop}(h:t=t')(h2:ps=SR):uX t rows len ps K=uX t' rows len SR K:=by rw [h,h2]
@[simp] theorem ahz{e n b:Nat}{z:List PV}{rows:Rows}{len:Nat}{ps:List (Nat × PV)}{K:PV→Prop}:uX (.slice e n b z) rows len ps K=i3 n 0 ps fun els=>aG (len=els.length∧len≤4096∧n≤4096∧BH rows els) (K (.jB (els.map fun e=>e.map (fz rows)))):=rfl
theorem EV{ti:TI}{rows:Rows}{len:Nat}{ps:List (Nat × PV)}{K:PV→Prop}:aX (fun v=>N9 ti rows len ps v) K=uX ti rows len ps K:=by
 simp only [N9,uX]
 cases ti with
 | slice e n b z =>
  apply propext;simp only [aX]
  rw [←wZ]
  constructor
  ·rintro⟨v,⟨l,h1,h2,h3,h4,h5,h6,rfl⟩,h7⟩;exact⟨l,h1,⟨h2,h3,h4,h5,h6⟩,h7⟩
  ·rintro⟨l,h1,⟨h2,h3,h4,h5,h6⟩,h7⟩;exact⟨_,⟨l,h1,h2,h3,h4,h5,h6,rfl⟩,h7⟩
 | _=>simp [aX]
def uY(i:Nat)(x:PV)(K:PV→Prop):Prop:=
 match x with
 | .fG l=>fL (lC l i) K
 | _=>False
@[congr] theorem ahA{i:Nat}{x x':PV}{K:PV→Prop}(h:x=x'):uY i x K=uY i x' K:=by rw [h]
@[simp] theorem anE{i:Nat}{l:List PV}{K:PV→Prop}:uY i (.fG l) K=fL (lC l i) K:=rfl
theorem EW{i:Nat}{x:PV}{K:PV→Prop}:aX (fun v=>NO i x v) K=uY i x K:=by
 simp only [NO,uY]
 cases x<;>first | rfl | simp [aX]
def D1:List Oper→Nat→Option Tmp
 | [],_=>none
 | o::_,0=>o.dst
 | _::os,n+1=>D1 os n
theorem GR:∀(ops:List Oper) (j:Nat),D1 ops j=(ops[j]?).bind (·.dst)
 | [],j=>by simp [D1]
 | o::os,0=>by simp [D1]
 | o::os,n+1=>by simp [D1,GR os n]
@[simp] theorem anF{d:Option Tmp}{op:Op}{ty:TypeId}{pos:String}{af:Array Edge}{g:Option (Nat × Bool)}{os:List Oper}:D1 (⟨d,op,ty,pos,af,g⟩::os) 0=d:=rfl
@[simp] theorem anG{o:Oper}{os:List Oper}{n:Nat}:D1 (o::os) (n+1)=D1 os n:=rfl
def oX(o:Option Tmp)(f:Nat→PV)(w:Bool)(A B:Prop):Prop:=
 match o with
 | none=>False
 | some e=>stepG (f e) w A B
@[congr] theorem aeG{o o':Option Tmp}{f:Nat→PV}{w:Bool}{A B:Prop}(h:o=o'):oX o f w A B=oX o' f w A B:=by rw [h]
@[simp] theorem ahB{e:Tmp}{f:Nat→PV}{w:Bool}{A B:Prop}:oX (some e) f w A B=stepG (f e) w A B:=rfl
@[simp] theorem anH{o:Option Tmp}{f:Nat→PV}{w:Bool}{A B:Prop}:go (oX o f w A B)=oX o f w A B:=rfl
section
variable {E:Env} {ops os:List Oper} {K:PS→Prop} {f:Nat→PV} {rows:Rows} {clk:Nat} {d:Option Tmp} {ty:TypeId} {pos:String} {af:Array Edge} {k:Nat} {bV:Nat→Nat→Prop} {aO:Nat→Nat→Prop}
theorem JX{op:Op}{j:Nat}{want:Bool}:aN E ops (⟨d,op,ty,pos,af,some (j,want)⟩::os) K ⟨f,rows,clk⟩=oX ((ops[j]?).bind (·.dst)) f want (aN E ops (⟨d,op,ty,pos,af,none⟩::os) K ⟨f,rows,clk⟩) (aN E ops os K ⟨put f d (.fG []),rows,clk⟩):=OQ
theorem JY{op:Op}{j:Nat}{want:Bool}:aP E ops clk k (⟨d,op,ty,pos,af,some (j,want)⟩::os) K ⟨f,rows,bV,aO⟩=oX ((ops[j]?).bind (·.dst)) f want (aP E ops clk k (⟨d,op,ty,pos,af,none⟩::os) K ⟨f,rows,bV,aO⟩) (aP E ops clk (k+1) os K ⟨put f d (.fG []),rows,bV,aO⟩):=OX
end
section
variable {E:Env} {ops os:List Oper} {K:PS→Prop} {f:Nat→PV} {rows:Rows} {clk:Nat} {d:Option Tmp} {ty:TypeId} {pos:String} {af:Array Edge} {k:Nat} {bV:Nat→Nat→Prop} {aO:Nat→Nat→Prop}
theorem O5{t:TypeId}{x:Operand}:aN E ops (⟨d, .load t x,ty,pos,af,none⟩::os) K ⟨f,rows,clk⟩=kI E t rows (aS f x) fun v=>aN E ops os K ⟨put f d v,rows,clk⟩:=by rw [VZ,tK]
theorem JZ{t:TypeId}{i:Nat}{x:Operand}:aN E ops (⟨d, .field t x i,ty,pos,af,none⟩::os) K ⟨f,rows,clk⟩=jV (E.ty t) i (aS f x) fun v=>aN E ops os K ⟨put f d v,rows,clk⟩:=by rw [OR,yJ]
theorem zH{t:TypeId}{i:Nat}{x:Operand}:aN E ops (⟨d, .fieldAddr t x i,ty,pos,af,none⟩::os) K ⟨f,rows,clk⟩=dS (E.ty t) rows i (aS f x) fun v=>aN E ops os K ⟨put f d v,rows,clk⟩:=by rw [BA,pV]
theorem zI{t:TypeId}{x y:Operand}:aN E ops (⟨d, .indexAddr t x y,ty,pos,af,none⟩::os) K ⟨f,rows,clk⟩=cO (E.ty t) rows (aS f x) (aS f y) fun v=>aN E ops os K ⟨put f d v,rows,clk⟩:=by rw [BB,pW]
theorem J0{t:TypeId}{x:Operand}{lo hi mx:Option Operand}:aN E ops (⟨d, .slice t x lo hi mx,ty,pos,af,none⟩::os) K ⟨f,rows,clk⟩=fO (E.ty t) rows (aS f x) (lo.map (aS f)) (hi.map (aS f)) (mx.map (aS f)) fun v=>aN E ops os K ⟨put f d v,rows,clk⟩:=by rw [OS,yL]
theorem V8{t:TypeId}{x:Operand}:aN E ops (⟨d, .call { callee:=.builtin .len,args:=⟨[x]⟩,argTypes:=⟨[t]⟩ },ty,pos,af,none⟩::os) K ⟨f,rows,clk⟩=lF (E.ty t) rows (aS f x) fun v=>aN E ops os K ⟨put f d v,rows,clk⟩:=by rw [aau,ET]
theorem J1{t:TypeId}{p x:Operand}:aN E ops (⟨none, .store t p x,ty,pos,af,none⟩::os) K ⟨f,rows,clk⟩=jW E t rows (aS f p) (aS f x) fun id r=>aN E ops os K ⟨f,dX rows id (some r),clk⟩:=by rw [OV,EU]
theorem GS{t t2:TypeId}{x y:Operand}:aN E ops (⟨d, .call { callee:=.builtin .append,args:=⟨[x,y]⟩,argTypes:=⟨[t,t2]⟩ },ty,pos,af,none⟩::os) K ⟨f,rows,clk⟩ =
  aG (t2=t∨ZP (E.ty t2)=true) (qQ (E.ty t) rows (aS f x) (aS f y) clk (d.getD 0) fun v rows clk=>aN E ops os K ⟨put f d v,rows,clk⟩):=by rw [JQ,aeC]
theorem O6{t:TypeId}{x:Operand}:aP E ops clk k (⟨d, .load t x,ty,pos,af,none⟩::os) K ⟨f,rows,bV,aO⟩=kI E t (eM .any ops k aO rows) (aS f x) fun v=>aP E ops clk (k+1) os K ⟨put f d v,rows,kV k (a9 (aS f x)) bV,aO⟩:=by rw [V5,tK]
theorem J2{t:TypeId}{i:Nat}{x:Operand}:aP E ops clk k (⟨d, .field t x i,ty,pos,af,none⟩::os) K ⟨f,rows,bV,aO⟩=jV (E.ty t) i (aS f x) fun v=>aP E ops clk (k+1) os K ⟨put f d v,rows,bV,aO⟩:=by rw [OY,yJ]
theorem zJ{t:TypeId}{i:Nat}{x:Operand}:aP E ops clk k (⟨d, .fieldAddr t x i,ty,pos,af,none⟩::os) K ⟨f,rows,bV,aO⟩=dS (E.ty t) (eM .any ops k aO rows) i (aS f x) fun v=>aP E ops clk (k+1) os K ⟨put f d v,rows,kV k (a9 (aS f x)) bV,aO⟩:=by rw [BD,pV]
theorem zK{t:TypeId}{x y:Operand}:aP E ops clk k (⟨d, .indexAddr t x y,ty,pos,af,none⟩::os) K ⟨f,rows,bV,aO⟩=cO (E.ty t) (eM .any ops k aO rows) (aS f x) (aS f y) fun v=>aP E ops clk (k+1) os K ⟨put f d v,rows,kV k (a9 (aS f x)) bV,aO⟩:=by rw [BE,pW]
theorem J3{t:TypeId}{x:Operand}{lo hi mx:Option Operand}:aP E ops clk k (⟨d, .slice t x lo hi mx,ty,pos,af,none⟩::os) K ⟨f,rows,bV,aO⟩=fO (E.ty t) (eM .any ops k aO rows) (aS f x) (lo.map (aS f)) (hi.map (aS f)) (mx.map (aS f)) fun v=>aP E ops clk (k+1) os K ⟨put f d v,rows,kV k (a9 (aS f x)) bV,aO⟩:=by rw [OZ,yL]
theorem V9{t:TypeId}{x:Operand}:aP E ops clk k (⟨d, .call { callee:=.builtin .len,args:=⟨[x]⟩,argTypes:=⟨[t]⟩ },ty,pos,af,none⟩::os) K ⟨f,rows,bV,aO⟩=lF (E.ty t) (eM .any ops k aO rows) (aS f x) fun v=>aP E ops clk (k+1) os K ⟨put f d v,rows,kV k (a9 (aS f x)) bV,aO⟩:=by rw [aaz,ET]
theorem J4{t:TypeId}{p x:Operand}:aP E ops clk k (⟨none, .store t p x,ty,pos,af,none⟩::os) K ⟨f,rows,bV,aO⟩ =
  jW E t (eM .any ops k aO rows) (aS f p) (aS f x) fun id r=>aG (AY .any ops k id bV) (aP E ops clk (k+1) os K ⟨f,dX rows id (some r),kV k (a9 (aS f p)++((cD (aS f x)).getD []).flatMap a9) bV,oV k id aO⟩):=by rw [O1,←EU];rfl
theorem SS{x:Operand}:go (aN E ops (⟨d, .move x,ty,pos,af,none⟩::os) K ⟨f,rows,clk⟩)=go (aN E ops os K ⟨put f d (aS f x),rows,clk⟩):=VW
theorem EX{x:Operand}:go (aN E ops (⟨d, .assign x,ty,pos,af,none⟩::os) K ⟨f,rows,clk⟩)=go (aN E ops os K ⟨put f d (aS f x),rows,clk⟩):=JP
theorem aeH{c a b:Operand}:go (aN E ops (⟨d, .pick c a b,ty,pos,af,none⟩::os) K ⟨f,rows,clk⟩)=iH (aS f c) true (aN E ops os K ⟨put f d (aS f a),rows,clk⟩) (aN E ops os K ⟨put f d (aS f b),rows,clk⟩):=VX
theorem aaH{op:BinOp}{t t2:TypeId}{x y:Operand}:go (aN E ops (⟨d, .binOp op t x y t2,ty,pos,af,none⟩::os) K ⟨f,rows,clk⟩)=aX (fun v=>F2 E op t (aS f x) (aS f y) v) fun v=>aN E ops os K ⟨put f d v,rows,clk⟩:=aat
theorem apG{op:UnOp}{t:TypeId}{x:Operand}:go (aN E ops (⟨d, .unOp op t x,ty,pos,af,none⟩::os) K ⟨f,rows,clk⟩)=aX (fun v=>yun op (aS f x) v) fun v=>aN E ops os K ⟨put f d v,rows,clk⟩:=aew
theorem GU{s t:TypeId}{x:Operand}:go (aN E ops (⟨d, .convert s t x,ty,pos,af,none⟩::os) K ⟨f,rows,clk⟩)=aX (fun v=>sV (E.ty s) (E.ty t) (aS f x) v) fun v=>aN E ops os K ⟨put f d v,rows,clk⟩:=VY
theorem O7{i:Nat}{x:Operand}:go (aN E ops (⟨d, .extract x i,ty,pos,af,none⟩::os) K ⟨f,rows,clk⟩)=uY i (aS f x) fun v=>aN E ops os K ⟨put f d v,rows,clk⟩:=by
 show aN E ops (⟨d, .extract x i,ty,pos,af,none⟩::os) K ⟨f,rows,clk⟩=_
 rw [GM,EW]
theorem aeI{t:TypeId}{x:Operand}:go (aN E ops (⟨d, .load t x,ty,pos,af,none⟩::os) K ⟨f,rows,clk⟩)=kI E t rows (aS f x) fun v=>aN E ops os K ⟨put f d v,rows,clk⟩:=O5
theorem aaI{t:TypeId}{i:Nat}{x:Operand}:go (aN E ops (⟨d, .field t x i,ty,pos,af,none⟩::os) K ⟨f,rows,clk⟩)=jV (E.ty t) i (aS f x) fun v=>aN E ops os K ⟨put f d v,rows,clk⟩:=JZ
theorem GV{t:TypeId}{i:Nat}{x:Operand}:go (aN E ops (⟨d, .fieldAddr t x i,ty,pos,af,none⟩::os) K ⟨f,rows,clk⟩)=dS (E.ty t) rows i (aS f x) fun v=>aN E ops os K ⟨put f d v,rows,clk⟩:=zH
theorem GW{t:TypeId}{x y:Operand}:go (aN E ops (⟨d, .indexAddr t x y,ty,pos,af,none⟩::os) K ⟨f,rows,clk⟩)=cO (E.ty t) rows (aS f x) (aS f y) fun v=>aN E ops os K ⟨put f d v,rows,clk⟩:=zI
theorem aaJ{t:TypeId}{x:Operand}{lo hi mx:Option Operand}:go (aN E ops (⟨d, .slice t x lo hi mx,ty,pos,af,none⟩::os) K ⟨f,rows,clk⟩)=fO (E.ty t) rows (aS f x) (lo.map (aS f)) (hi.map (aS f)) (mx.map (aS f)) fun v=>aN E ops os K ⟨put f d v,rows,clk⟩:=J0
theorem aaK{t:TypeId}{parts:Array (Nat × Operand)}:go (aN E ops (⟨d, .build t parts,ty,pos,af,none⟩::os) K ⟨f,rows,clk⟩)=kQ (E.ty t) (parts.toList.map fun x=>(x.1,aS f x.2)) fun v=>aN E ops os K ⟨put f d v,rows,clk⟩:=by
 show aN E ops (⟨d, .build t parts,ty,pos,af,none⟩::os) K ⟨f,rows,clk⟩=_
 rw [OT,yM]
theorem J5{t:TypeId}{x y:Operand}:go (aN E ops (⟨d, .index t x y,ty,pos,af,none⟩::os) K ⟨f,rows,clk⟩)=aX (fun v=>tD (E.ty t) (aS f x) (aS f y) v) fun v=>aN E ops os K ⟨put f d v,rows,clk⟩:=OU
theorem J6{x:Operand}:go (aN E ops (⟨d, .nilCheck x,ty,pos,af,none⟩::os) K ⟨f,rows,clk⟩)=s6 rows (aS f x) fun v=>aN E ops os K ⟨put f d v,rows,clk⟩:=by show aN E ops _ K _=_;rw [DX,ES]
theorem ajR{t:TypeId}{x:Operand}:go (aN E ops (⟨d, .call { callee:=.builtin .len,args:=⟨[x]⟩,argTypes:=⟨[t]⟩ },ty,pos,af,none⟩::os) K ⟨f,rows,clk⟩)=lF (E.ty t) rows (aS f x) fun v=>aN E ops os K ⟨put f d v,rows,clk⟩:=V8
theorem ajS{ts:Array TypeId}{x y:Operand}:go (aN E ops (⟨d, .call { callee:=.builtin .max,args:=⟨[x,y]⟩,argTypes:=ts },ty,pos,af,none⟩::os) K ⟨f,rows,clk⟩)=aX (fun v=>NQ (aS f x) (aS f y) v) fun v=>aN E ops os K ⟨put f d v,rows,clk⟩:=aav
theorem ajT{ts:Array TypeId}{x y:Operand}:go (aN E ops (⟨d, .call { callee:=.builtin .min,args:=⟨[x,y]⟩,argTypes:=ts },ty,pos,af,none⟩::os) K ⟨f,rows,clk⟩)=aX (fun v=>NR (aS f x) (aS f y) v) fun v=>aN E ops os K ⟨put f d v,rows,clk⟩:=aaw
theorem D2{t:TypeId}{len:Nat}{parts:Array (Nat × Operand)}:go (aN E ops (⟨d, .buildSlice t len parts,ty,pos,af,none⟩::os) K ⟨f,rows,clk⟩)=uX (E.ty t) rows len (parts.toList.map fun x=>(x.1,aS f x.2)) fun v=>aN E ops os K ⟨put f d v,rows,clk⟩:=by
 show aN E ops (⟨d, .buildSlice t len parts,ty,pos,af,none⟩::os) K ⟨f,rows,clk⟩=_
 rw [zF,EV]
theorem aaL{t:TypeId}{p x:Operand}:go (aN E ops (⟨none, .store t p x,ty,pos,af,none⟩::os) K ⟨f,rows,clk⟩)=jW E t rows (aS f p) (aS f x) fun id r=>aN E ops os K ⟨f,dX rows id (some r),clk⟩:=J1
theorem aaM{t:TypeId}:go (aN E ops (⟨d, .alloc t,ty,pos,af,none⟩::os) K ⟨f,rows,clk⟩)=aG ((E.ty t).known=true) (aN E ops os K ⟨put f d (.ptr (d.getD 0) clk 0 0),dX rows (d.getD 0) (some ⟨clk,t,(E.ty t).size,[(E.ty t).zero]⟩),clk+1⟩):=OW
theorem ajU{t:TypeId}{x:Operand}:go (aN E ops (⟨d, .box t x,ty,pos,af,none⟩::os) K ⟨f,rows,clk⟩)=aG ((E.ty t).known=true) (fL (cD (aS f x)) fun l=>aG (gW rows l∧l.length=(E.ty t).size) (aN E ops os K ⟨put f d (.ptr (d.getD 0) clk 0 0),dX rows (d.getD 0) (some ⟨clk,t,(E.ty t).size,[l]⟩),clk+1⟩)):=by
 show aN E ops (⟨d, .box t x,ty,pos,af,none⟩::os) K ⟨f,rows,clk⟩=_
 rw [aax]
 simp only [aG,fL,gW,and_assoc]
theorem GX{t:TypeId}{l c:Operand}:go (aN E ops (⟨d, .makeSlice t l c,ty,pos,af,none⟩::os) K ⟨f,rows,clk⟩)=qO (E.ty t) (aS f l) (aS f c) fun e n z x=>aN E ops os K ⟨put f d (.own (d.getD 0) clk 0 x.toNat),dX rows (d.getD 0) (some ⟨clk,e,n,List.replicate x.toNat z⟩),clk+1⟩:=BC
theorem WA{t t2:TypeId}{x y:Operand}:go (aN E ops (⟨d, .call { callee:=.builtin .append,args:=⟨[x,y]⟩,argTypes:=⟨[t,t2]⟩ },ty,pos,af,none⟩::os) K ⟨f,rows,clk⟩)=aG (t2=t∨ZP (E.ty t2)=true) (qQ (E.ty t) rows (aS f x) (aS f y) clk (d.getD 0) fun v rows clk=>aN E ops os K ⟨put f d v,rows,clk⟩):=GS
theorem aeJ{fo:Operand}{args:Array Operand}{ts:Array TypeId}:go (aN E ops (⟨d, .call { callee:=.value fo,args:=args,argTypes:=ts },ty,pos,af,none⟩::os) K ⟨f,rows,clk⟩)=qP E (aS f fo) (args.toList.map (aS f)) rows clk fun v rows clk=>aN E ops os K ⟨put f d v,rows,clk⟩:=V1
theorem J7{g:FuncId}{cL:Array Operand}:go (aN E ops (⟨d, .makeFunc (.func g) ⟨[]⟩ cL,ty,pos,af,none⟩::os) K ⟨f,rows,clk⟩)=aG (((cL.toList.map (aS f)).map (pz rows)).all fV=true∧eK rows ((cL.toList.map (aS f)).flatMap dW))
      (aN E ops os K ⟨put f d (.fn g ((cL.toList.map (aS f)).map (pz rows))),EI rows ((cL.toList.map (aS f)).flatMap dW),clk⟩):=DY
theorem aaN{op:Op}{j:Nat}{want:Bool}:go (aN E ops (⟨d,op,ty,pos,af,some (j,want)⟩::os) K ⟨f,rows,clk⟩)=oX (D1 ops j) f want (aN E ops (⟨d,op,ty,pos,af,none⟩::os) K ⟨f,rows,clk⟩) (aN E ops os K ⟨put f d (.fG []),rows,clk⟩):=by
 rw [GR,←JX];rfl
theorem aeK{x:Operand}:go (aP E ops clk k (⟨d, .move x,ty,pos,af,none⟩::os) K ⟨f,rows,bV,aO⟩)=go (aP E ops clk (k+1) os K ⟨put f d (aS f x),rows,bV,aO⟩):=V2
theorem WB{x:Operand}:go (aP E ops clk k (⟨d, .assign x,ty,pos,af,none⟩::os) K ⟨f,rows,bV,aO⟩)=go (aP E ops clk (k+1) os K ⟨put f d (aS f x),rows,bV,aO⟩):=JS
theorem aeL{c a b:Operand}:go (aP E ops clk k (⟨d, .pick c a b,ty,pos,af,none⟩::os) K ⟨f,rows,bV,aO⟩)=iH (aS f c) true (aP E ops clk (k+1) os K ⟨put f d (aS f a),rows,bV,aO⟩) (aP E ops clk (k+1) os K ⟨put f d (aS f b),rows,bV,aO⟩):=V3
theorem ajV{op:BinOp}{t t2:TypeId}{x y:Operand}:go (aP E ops clk k (⟨d, .binOp op t x y t2,ty,pos,af,none⟩::os) K ⟨f,rows,bV,aO⟩)=aX (fun v=>F2 E op t (aS f x) (aS f y) v) fun v=>aP E ops clk (k+1) os K ⟨put f d v,rows,bV,aO⟩:=aay
theorem apH{op:UnOp}{t:TypeId}{x:Operand}:go (aP E ops clk k (⟨d, .unOp op t x,ty,pos,af,none⟩::os) K ⟨f,rows,bV,aO⟩)=aX (fun v=>yun op (aS f x) v) fun v=>aP E ops clk (k+1) os K ⟨put f d v,rows,bV,aO⟩:=aey
theorem aeM{s t:TypeId}{x:Operand}:go (aP E ops clk k (⟨d, .convert s t x,ty,pos,af,none⟩::os) K ⟨f,rows,bV,aO⟩)=aX (fun v=>sV (E.ty s) (E.ty t) (aS f x) v) fun v=>aP E ops clk (k+1) os K ⟨put f d v,rows,bV,aO⟩:=V4
theorem O8{i:Nat}{x:Operand}:go (aP E ops clk k (⟨d, .extract x i,ty,pos,af,none⟩::os) K ⟨f,rows,bV,aO⟩)=uY i (aS f x) fun v=>aP E ops clk (k+1) os K ⟨put f d v,rows,bV,aO⟩:=by
 show aP E ops clk k (⟨d, .extract x i,ty,pos,af,none⟩::os) K ⟨f,rows,bV,aO⟩=_
 rw [GN,EW]
theorem aeN{t:TypeId}{x:Operand}:go (aP E ops clk k (⟨d, .load t x,ty,pos,af,none⟩::os) K ⟨f,rows,bV,aO⟩)=kI E t (eM .any ops k aO rows) (aS f x) fun v=>aP E ops clk (k+1) os K ⟨put f d v,rows,kV k (a9 (aS f x)) bV,aO⟩:=O6
theorem aaO{t:TypeId}{i:Nat}{x:Operand}:go (aP E ops clk k (⟨d, .field t x i,ty,pos,af,none⟩::os) K ⟨f,rows,bV,aO⟩)=jV (E.ty t) i (aS f x) fun v=>aP E ops clk (k+1) os K ⟨put f d v,rows,bV,aO⟩:=J2
theorem GY{t:TypeId}{i:Nat}{x:Operand}:go (aP E ops clk k (⟨d, .fieldAddr t x i,ty,pos,af,none⟩::os) K ⟨f,rows,bV,aO⟩)=dS (E.ty t) (eM .any ops k aO rows) i (aS f x) fun v=>aP E ops clk (k+1) os K ⟨put f d v,rows,kV k (a9 (aS f x)) bV,aO⟩:=zJ
theorem GZ{t:TypeId}{x y:Operand}:go (aP E ops clk k (⟨d, .indexAddr t x y,ty,pos,af,none⟩::os) K ⟨f,rows,bV,aO⟩)=cO (E.ty t) (eM .any ops k aO rows) (aS f x) (aS f y) fun v=>aP E ops clk (k+1) os K ⟨put f d v,rows,kV k (a9 (aS f x)) bV,aO⟩:=zK
theorem aaP{t:TypeId}{x:Operand}{lo hi mx:Option Operand}:go (aP E ops clk k (⟨d, .slice t x lo hi mx,ty,pos,af,none⟩::os) K ⟨f,rows,bV,aO⟩)=fO (E.ty t) (eM .any ops k aO rows) (aS f x) (lo.map (aS f)) (hi.map (aS f)) (mx.map (aS f)) fun v=>aP E ops clk (k+1) os K ⟨put f d v,rows,kV k (a9 (aS f x)) bV,aO⟩:=J3
theorem aaQ{t:TypeId}{parts:Array (Nat × Operand)}:go (aP E ops clk k (⟨d, .build t parts,ty,pos,af,none⟩::os) K ⟨f,rows,bV,aO⟩)=kQ (E.ty t) (parts.toList.map fun x=>(x.1,aS f x.2)) fun v=>aP E ops clk (k+1) os K ⟨put f d v,rows,bV,aO⟩:=by
 show aP E ops clk k (⟨d, .build t parts,ty,pos,af,none⟩::os) K ⟨f,rows,bV,aO⟩=_
 rw [O0,yM]
theorem J8{x:Operand}:go (aP E ops clk k (⟨d, .nilCheck x,ty,pos,af,none⟩::os) K ⟨f,rows,bV,aO⟩)=s6 (eM .any ops k aO rows) (aS f x) fun v=>aP E ops clk (k+1) os K ⟨put f d v,rows,kV k (a9 (aS f x)) bV,aO⟩:=by show aP E ops clk k _ K _=_;rw [DZ,ES]
theorem ajW{t:TypeId}{x:Operand}:go (aP E ops clk k (⟨d, .call { callee:=.builtin .len,args:=⟨[x]⟩,argTypes:=⟨[t]⟩ },ty,pos,af,none⟩::os) K ⟨f,rows,bV,aO⟩)=lF (E.ty t) (eM .any ops k aO rows) (aS f x) fun v=>aP E ops clk (k+1) os K ⟨put f d v,rows,kV k (a9 (aS f x)) bV,aO⟩:=V9
theorem ajX{ts:Array TypeId}{x y:Operand}:go (aP E ops clk k (⟨d, .call { callee:=.builtin .max,args:=⟨[x,y]⟩,argTypes:=ts },ty,pos,af,none⟩::os) K ⟨f,rows,bV,aO⟩)=aX (fun v=>NQ (aS f x) (aS f y) v) fun v=>aP E ops clk (k+1) os K ⟨put f d v,rows,bV,aO⟩:=aaA
theorem ajY{ts:Array TypeId}{x y:Operand}:go (aP E ops clk k (⟨d, .call { callee:=.builtin .min,args:=⟨[x,y]⟩,argTypes:=ts },ty,pos,af,none⟩::os) K ⟨f,rows,bV,aO⟩)=aX (fun v=>NR (aS f x) (aS f y) v) fun v=>aP E ops clk (k+1) os K ⟨put f d v,rows,bV,aO⟩:=aaB
theorem D3{t:TypeId}{len:Nat}{parts:Array (Nat × Operand)}:go (aP E ops clk k (⟨d, .buildSlice t len parts,ty,pos,af,none⟩::os) K ⟨f,rows,bV,aO⟩)=uX (E.ty t) (eM .any ops k aO rows) len (parts.toList.map fun x=>(x.1,aS f x.2)) fun v=>aP E ops clk (k+1) os K ⟨put f d v,rows,bV,aO⟩:=by
 show aP E ops clk k (⟨d, .buildSlice t len parts,ty,pos,af,none⟩::os) K ⟨f,rows,bV,aO⟩=_
 rw [zG,EV]
theorem aaR{t:TypeId}{p x:Operand}:go (aP E ops clk k (⟨none, .store t p x,ty,pos,af,none⟩::os) K ⟨f,rows,bV,aO⟩)=jW E t (eM .any ops k aO rows) (aS f p) (aS f x) fun id r=>aG (AY .any ops k id bV) (aP E ops clk (k+1) os K ⟨f,dX rows id (some r),kV k (a9 (aS f p)++((cD (aS f x)).getD []).flatMap a9) bV,oV k id aO⟩):=J4
theorem aaS{t:TypeId}:go (aP E ops clk k (⟨d, .alloc t,ty,pos,af,none⟩::os) K ⟨f,rows,bV,aO⟩)=aG ((E.ty t).known=true∧AY .any ops k (d.getD 0) bV) (aP E ops (clk+1) (k+1) os K ⟨put f d (.ptr (d.getD 0) clk 0 0),dX rows (d.getD 0) (some ⟨clk,t,(E.ty t).size,[(E.ty t).zero]⟩),bV,oV k (d.getD 0) aO⟩):=O2
theorem ajZ{t:TypeId}{x:Operand}:go (aP E ops clk k (⟨d, .box t x,ty,pos,af,none⟩::os) K ⟨f,rows,bV,aO⟩)=aG ((E.ty t).known=true) (fL (cD (aS f x)) fun l=>aG (gW (fun _=>none) l∧l.length=(E.ty t).size∧AY .any ops k (d.getD 0) bV) (aP E ops (clk+1) (k+1) os K ⟨put f d (.ptr (d.getD 0) clk 0 0),dX rows (d.getD 0) (some ⟨clk,t,(E.ty t).size,[l]⟩),bV,oV k (d.getD 0) aO⟩)):=by
 show aP E ops clk k (⟨d, .box t x,ty,pos,af,none⟩::os) K ⟨f,rows,bV,aO⟩=_
 rw [aaD]
 simp only [aG,fL,gW]
theorem G0{t:TypeId}{l c:Operand}:go (aP E ops clk k (⟨d, .makeSlice t l c,ty,pos,af,none⟩::os) K ⟨f,rows,bV,aO⟩)=qO (E.ty t) (aS f l) (aS f c) fun e n z x=>aG (AY .any ops k (d.getD 0) bV) (aP E ops (clk+1) (k+1) os K ⟨put f d (.own (d.getD 0) clk 0 x.toNat),dX rows (d.getD 0) (some ⟨clk,e,n,List.replicate x.toNat z⟩),bV,oV k (d.getD 0) aO⟩):=BF
def s7(t:TI)(rows:Rows)(x y:PV)(clk d:Nat)(K:PV→Nat→Row→Prop):Prop:=
 match t with
 | .slice e n b _=>kA rows y fun l=>aG (bM n l) (match x with
  | .nil=>aG (l.length≤room∧l.length*b≤room) (K (.own d clk 0 l.length) d ⟨clk,e,n,l⟩)
  | .own id ver off len=>bR (rows id) ver fun r=>aG (off=0∧r.e=e∧r.size=n) (gQ (len=r.els.length) len r.els fun els=>aG (len+l.length≤room∧(len+l.length)*b≤room) (K (.own id clk 0 (len+l.length)) id ⟨clk,e,n,els++l⟩))
  | _=>False)
 | _=>False
@[congr] theorem ahC{t t':TI}{rows rows':Rows}{x x' y y':PV}{clk d:Nat}{K:PV→Nat→Row→Prop}(h1:t=t')(h2:rows=rows')(h3:x=x')(h4:y=y') :
  s7 t rows x y clk d K=s7 t' rows' x' y' clk d K:=by rw [h1,h2,h3,h4]
@[simp] theorem anI{e:TypeId}{n b:Nat}{z:List PV}{rows:Rows}{y:PV}{clk d:Nat}{K:PV→Nat→Row→Prop}:s7 (.slice e n b z) rows .nil y clk d K=kA rows y fun l=>aG (bM n l) (aG (l.length≤room∧l.length*b≤room) (K (.own d clk 0 l.length) d ⟨clk,e,n,l⟩)):=rfl
@[simp] theorem anJ{e:TypeId}{n b:Nat}{z:List PV}{rows:Rows}{y:PV}{clk d id ver off len:Nat}{K:PV→Nat→Row→Prop}:s7 (.slice e n b z) rows (.own id ver off len) y clk d K=kA rows y fun l=>aG (bM n l) (bR (rows id) ver fun r=>aG (off=0∧r.e=e∧r.size=n) (gQ (len=r.els.length) len r.els fun els=>aG (len+l.length≤room∧(len+l.length)*b≤room) (K (.own id clk 0 (len+l.length)) id ⟨clk,e,n,els++l⟩))):=rfl
@[simp] theorem apI(t:TI)(r:Rows)(x y:PV)(c d:Nat)(K:PV→Nat→Row→Prop):go (s7 t r x y c d K)=s7 t r x y c d K:=rfl
theorem aaT{t:TI}{rows:Rows}{x y:PV}{clk d:Nat}{K:PV→Nat→Row→Prop}:(∃v id r,qM t rows x y clk d v (some (id,r))∧K v id r)=s7 t rows x y clk d K:=by
 cases t with
 | slice e n b z =>
  simp only [s7,qM]
  rw [←SO]
  apply propext
  cases x with
  | nil =>
   simp only [aG,bM]
   constructor
   ·rintro⟨v,id,r,⟨l,h1,h2,h3,h4,rfl,h5⟩,h6⟩
    cases h5
    exact⟨l,h1,h2,⟨h3,h4⟩,h6⟩
   ·rintro⟨l,h1,h2,⟨h3,h4⟩,h6⟩
    exact⟨_,_,_,⟨l,h1,h2,h3,h4,rfl,rfl⟩,h6⟩
  | own id ver off len =>
   simp only [aG,bM,bR,SP]
   constructor
   ·rintro⟨v,jO,r',⟨l,h1,h2,r,h3,h4,h5,h6,h7,h8,h9,h10,rfl,h11⟩,h12⟩
    cases h11
    exact⟨l,h1,h2,r,h3,h4,⟨h5,h7,h8⟩,h6,⟨h9,h10⟩,h12⟩
   ·rintro⟨l,h1,h2,r,h3,h4,⟨h5,h7,h8⟩,h6,⟨h9,h10⟩,h12⟩
    exact⟨_,_,_,⟨l,h1,h2,r,h3,h4,h5,h6,h7,h8,h9,h10,rfl,rfl⟩,h12⟩
  | _=>simp [aG]
 | _=>simp [s7,qM]
theorem WC{t t2:TypeId}{x y:Operand}:go (aP E ops clk k (⟨d, .call { callee:=.builtin .append,args:=⟨[x,y]⟩,argTypes:=⟨[t,t2]⟩ },ty,pos,af,none⟩::os) K ⟨f,rows,bV,aO⟩) =
  aG (t2=t∨ZP (E.ty t2)=true) (s7 (E.ty t) (eM .any ops k aO rows) (aS f x) (aS f y) clk (d.getD 0) fun v id r=>aG (AY .any ops k id bV) (aP E ops (clk+1) (k+1) os K ⟨put f d v,dX rows id (some r),kV k (a9 (aS f x)++a9 (aS f y)) bV,oV k id aO⟩)):=by
 show aP E ops clk k (⟨d, .call { callee:=.builtin .append,args:=⟨[x,y]⟩,argTypes:=⟨[t,t2]⟩ },ty,pos,af,none⟩::os) K ⟨f,rows,bV,aO⟩=_
 rw [JT]
 congr 1
 exact aaT
theorem aaU{s:Tmp}{args:Array Operand}{ts:Array TypeId}:go (aP E ops clk k (⟨d, .call { callee:=.value (.tmp s),args:=args,argTypes:=ts },ty,pos,af,none⟩::os) K ⟨f,rows,bV,aO⟩)=oW E (f s) (args.toList.map (aS f)) (eM .any ops k aO rows) fun v=>aP E ops clk (k+1) os K ⟨put f d v,rows,bV,aO⟩:=EP rfl
def rV(P:Program)(g:FuncId)(args:List PV)(c:Prop)(K:TypeId→Nat→List (List PV)→Prop):Prop:=∃e n els,(args.all fV=true∧oB P g args e n els∧c)∧K e n els
@[congr] theorem adU{P:Program}{g:FuncId}{args JR:List PV}{c c':Prop}{K:TypeId→Nat→List (List PV)→Prop}(h:args=JR)(hc:c=c'):rV P g args c K=rV P g JR c' K:=by rw [h,hc]
@[simp] theorem aj0{P:Program}{g:FuncId}{args:List PV}{c:Prop}{K:TypeId→Nat→List (List PV)→Prop}:go (rV P g args c K)=rV P g args c K:=rfl
theorem aaV{P:Program}{g:FuncId}{args:List PV}{c:Prop}{K:TypeId→Nat→List (List PV)→Prop}{e:TypeId}{n:Nat}{els:List (List PV)}(h:oB P g args e n els)(hp:args.all fV=true)(hc:c)(hK:go (K e n els)):rV P g args c K:=⟨e,n,els,⟨hp,h,hc⟩,hK⟩
theorem aaW{g:FuncId}{args:Array Operand}{ts:Array TypeId}:go (aP E ops clk k (⟨d, .call { callee:=.value (.func g),args:=args,argTypes:=ts },ty,pos,af,none⟩::os) K ⟨f,rows,bV,aO⟩) =
  if E.writes g=true then rV E.P g (args.toList.map (aS f)) (AY .any ops k (d.getD 0) bV) (fun e n els=>aP E ops (clk+1) (k+1) os K ⟨put f d (.own (d.getD 0) clk 0 els.length),dX rows (d.getD 0) (some ⟨clk,e,n,els⟩),bV,oV k (d.getD 0) aO⟩)
  else oW E (.fn g []) (args.toList.map (aS f)) (eM .any ops k aO rows) fun v=>aP E ops clk (k+1) os K ⟨put f d v,rows,bV,aO⟩:=by
 split
 ·rename_i hw;exact O3 hw
 ·rename_i hw;exact EP (by simpa [dR]using hw)
theorem J9{g:FuncId}{cL:Array Operand}:go (aP E ops clk k (⟨d, .makeFunc (.func g) ⟨[]⟩ cL,ty,pos,af,none⟩::os) K ⟨f,rows,bV,aO⟩)=aG ((cL.toList.map fun x=>aS f x).all fV=true) (aP E ops clk (k+1) os K ⟨put f d (.fn g (cL.toList.map fun x=>aS f x)),rows,bV,aO⟩):=D0
theorem aaX{op:Op}{j:Nat}{want:Bool}:go (aP E ops clk k (⟨d,op,ty,pos,af,some (j,want)⟩::os) K ⟨f,rows,bV,aO⟩)=oX (D1 ops j) f want (aP E ops clk k (⟨d,op,ty,pos,af,none⟩::os) K ⟨f,rows,bV,aO⟩) (aP E ops clk (k+1) os K ⟨put f d (.fG []),rows,bV,aO⟩):=by
 rw [GR,←JY];rfl
theorem aaY{σ:PS}:go (aN E ops [] K σ)=K σ:=rfl
theorem aj1{st:ST}:go (aP E ops clk k [] K st)=go (K ⟨st.f,st.rows,clk⟩):=rfl
@[simp] theorem SU{s:Nat}:aS f (.tmp s)=f s:=rfl
@[simp] theorem apK{g:FuncId}:aS f (.func g) = .fn g []:=rfl
@[simp] theorem WD{v:Value}:aS f (.const v)=nH v:=rfl
end
@[simp] theorem aj2{k:IntKind}{n:Int}:nH (.int k n) = .int k n:=rfl
@[simp] theorem ahD{b:Bool}:nH (.bool b) = .bool b:=rfl
@[simp] theorem O9{s:ByteArray}:nH (.string s) = .str s:=rfl
@[simp] theorem ahE:nH (.pointer none) = .j5:=rfl
@[simp] theorem ahF:iW (.pointer none) = .j5:=rfl
@[simp] theorem aj3:nH (.slice none 0 0) = .nil:=rfl
@[simp] theorem aj4{cs:List Value}:nH (.agg ⟨cs⟩) = .ag (cs.map iW):=rfl
@[simp] theorem aj5{k:IntKind}{n:Int}:iW (.int k n) = .int k n:=rfl
@[simp] theorem ahG{b:Bool}:iW (.bool b) = .bool b:=rfl
@[simp] theorem aj6{s:ByteArray}:iW (.string s) = .str s:=rfl
@[simp] theorem aj7:iW (.slice none 0 0) = .nil:=rfl
@[simp] theorem apL(R K:PV→Prop):go (aX R K)=aX R K:=rfl
@[simp] theorem apM(p:PV)(w:Bool)(A B:Prop):go (stepG p w A B)=stepG p w A B:=rfl
@[simp] theorem apN(p:PV)(w:Bool)(A B:Prop):go (iH p w A B)=iH p w A B:=rfl
@[simp] theorem apO(A B:Prop):go (aG A B)=aG A B:=rfl
@[simp] theorem aj8(c:Prop)(len:Nat)(els:List (List PV))(K:List (List PV)→Prop):go (gQ c len els K)=gQ c len els K:=rfl
@[simp] theorem apP(P:Program)(g:FuncId)(l:List PV)(K:PV→Prop):go (uU P g l K)=uU P g l K:=rfl
@[simp] theorem aj9(o:Option Row)(v:Nat)(K:Row→Prop):go (bR o v K)=bR o v K:=rfl
@[simp] theorem avB(l:List (List PV))(i:Nat)(K:List PV→Prop):go (ER l i K)=ER l i K:=rfl
@[simp] theorem avC(t:TI)(l:List PV)(j:Nat)(K:PV→Prop):go (yI t l j K)=yI t l j K:=rfl
@[simp] theorem anL(E:Env)(t:TypeId)(r:Rows)(p:PV)(K:PV→Prop):go (kI E t r p K)=kI E t r p K:=rfl
@[simp] theorem aka(t:TI)(i:Nat)(x:PV)(K:PV→Prop):go (jV t i x K)=jV t i x K:=rfl
@[simp] theorem aty(p:Nat × Nat × Bool)(l:List PV)(K:PV→Prop):go (GO p l K)=GO p l K:=rfl
@[simp] theorem apQ(r:Rows)(x:PV)(K:PV→Prop):go (s6 r x K)=s6 r x K:=rfl
@[simp] theorem aaZ(t:TI)(r:Rows)(i:Nat)(x:PV)(K:PV→Prop):go (dS t r i x K)=dS t r i x K:=rfl
@[simp] theorem aa0(t:TI)(r:Rows)(x y:PV)(K:PV→Prop):go (cO t r x y K)=cO t r x y K:=rfl
@[simp] theorem avD(d:Nat)(o:Option PV)(K:Nat→Prop):go (yK d o K)=yK d o K:=rfl
@[simp] theorem akb(t:TI)(r:Rows)(x:PV)(a b c:Option PV)(K:PV→Prop):go (fO t r x a b c K)=fO t r x a b c K:=rfl
@[simp] theorem apR(t:TI)(r:Rows)(x:PV)(K:PV→Prop):go (lF t r x K)=lF t r x K:=rfl
@[simp] theorem akc(E:Env)(t:TypeId)(r:Rows)(p x:PV)(K:Nat→Row→Prop):go (jW E t r p x K)=jW E t r p x K:=rfl
@[simp] theorem apS(r:Rows)(y:PV)(K:List (List PV)→Prop):go (kA r y K)=kA r y K:=rfl
@[simp] theorem apT(t:TI)(r:Rows)(x y:PV)(c d:Nat)(K:PV→Rows→Nat→Prop):go (qQ t r x y c d K)=qQ t r x y c d K:=rfl
@[simp] theorem apU(t:TI)(x y:PV)(K:TypeId→Nat→List PV→Int→Prop):go (qO t x y K)=qO t x y K:=rfl
@[simp] theorem anM(E:Env)(p:PV)(l:List PV)(r:Rows)(clk:Nat)(K:PV→Rows→Nat→Prop):go (qP E p l r clk K)=qP E p l r clk K:=rfl
@[simp] theorem apV(P:Program)(g:FuncId)(l:List PV)(r:Rows)(clk:Nat)(K:PV→Rows→Nat→Prop):go (yC P g l r clk K)=yC P g l r clk K:=rfl
@[simp] theorem anN(E:Env)(p:PV)(l:List PV)(r:Rows)(K:PV→Prop):go (oW E p l r K)=oW E p l r K:=rfl
@[simp] theorem apW{fs:List (Nat × Nat × Bool)}{ps:List (Nat × PV)}{z:List PV}{K:List PV→Prop}:go (l5 fs ps z K)=l5 fs ps z K:=rfl
@[simp] theorem akd{t:TI}{ps:List (Nat × PV)}{K:PV→Prop}:go (kQ t ps K)=kQ t ps K:=rfl
@[simp] theorem anO{n k:Nat}{ps:List (Nat × PV)}{K:List (List PV)→Prop}:go (i3 n k ps K)=i3 n k ps K:=rfl
@[simp] theorem apX{t:TI}{rows:Rows}{len:Nat}{ps:List (Nat × PV)}{K:PV→Prop}:go (uX t rows len ps K)=uX t rows len ps K:=rfl
@[simp] theorem apY{i:Nat}{x:PV}{K:PV→Prop}:go (uY i x K)=uY i x K:=rfl
@[simp] theorem atz{α:Type}(o:Option α)(K:α→Prop):go (fL o K)=fL o K:=rfl
@[simp] theorem ayz{α:Type}(p:α→Prop):go (∃x,p x) = ∃x,go (p x):=rfl
@[simp] theorem apZ:go False=False:=rfl
@[simp] theorem ayA{p:Prop}:go (go p)=go p:=rfl
@[simp] theorem ahH{t:PV}{K:PV→Prop}:aX (fun v=>v=t) K=go (K t):=jU
@[simp] theorem avE{t:PV}{K:PV→Prop}:aX (fun v=>t=v) K=go (K t):=VV
@[simp] theorem aeO{B:Prop}:aG True B=go B:=OO
@[simp] theorem atA{len:Nat}{els:List (List PV)}{K:List (List PV)→Prop}:gQ True len els K=go (K els):=GQ
@[simp] theorem ayB{A B:Prop}:stepG (.bool true) true A B=go A:=aam
@[simp] theorem ayC{A B:Prop}:stepG (.bool true) false A B=go B:=aan
@[simp] theorem ayD{A B:Prop}:stepG (.bool false) true A B=go B:=aao
@[simp] theorem ayE{A B:Prop}:stepG (.bool false) false A B=go A:=aap
@[simp] theorem ayF{w:Bool}{A B:Prop}:stepG (.fG []) w A B=go B:=aaq
@[simp] theorem ayG{A B:Prop}:iH (.bool true) true A B=go A:=aaj
@[simp] theorem ayH{A B:Prop}:iH (.bool true) false A B=go B:=aak
@[simp] theorem ayI{A B:Prop}:iH (.bool false) true A B=go B:=aal
@[simp] theorem ayJ{A B:Prop}:iH (.bool false) false A B=go A:=aar
theorem gA{c B:Prop}(h:c):aG c B=go B:=by simp [aG,go,h]
theorem gP{c:Prop}{len:Nat}{els:List (List PV)}{K:List (List PV)→Prop}(h:c):gQ c len els K=go (K els):=by simp [gQ,go,h]
attribute [simp] jE aai A9 aas ajB OP GL SS EX aeH aaH apG GU O7 aeI aaI GV GW aaJ aaK J5 J6 J8 ajR ajS ajT D2 aaL aaM ajU GX WA aeJ J7 aaN aeK WB aeL ajV apH aeM O8 aeN aaO GY GZ aaP aaQ ajW ajX ajY D3 aaR aaS ajZ G0 WC aaU aaW J9 aaX aaY aj1
attribute [simp] ZP F2 yun sV tD NQ NR qO qP oW sU TI.known TI.size TI.zero TI.agg aab aac JN room
theorem D4{E:Env}{ops:List Oper}{K:PS→Prop}{f:Nat→PV}{rows:Rows}{clk:Nat}:gC E 0 ops K ⟨f,rows,clk⟩=aP E ops clk 0 ops K ⟨f,rows,fun _ _=>False,fun _ _=>False⟩:=by simp [gC]
@[simp] theorem anP{b:Bool}:fV (.bool b)=true:=rfl
@[simp] theorem ake{b:Bool}:cW (.bool b)=true:=rfl
@[simp] theorem anQ{b:Bool}:a9 (.bool b) = []:=rfl
@[simp] theorem anR{rows:Rows}{b:Bool}:iP rows (.bool b)=True:=rfl
@[simp] theorem ahI{b:Bool}:cD (.bool b)=some [.bool b]:=rfl
@[simp] theorem ahJ{b:Bool}:fA (.bool b)=some [.bool b]:=rfl
@[simp] theorem ap0{k:IntKind}{n:Int}:fV (.int k n)=true:=rfl
@[simp] theorem anS{k:IntKind}{n:Int}:cW (.int k n)=true:=rfl
@[simp] theorem ap1{k:IntKind}{n:Int}:a9 (.int k n) = []:=rfl
@[simp] theorem ap2{rows:Rows}{k:IntKind}{n:Int}:iP rows (.int k n)=True:=rfl
@[simp] theorem akf{k:IntKind}{n:Int}:cD (.int k n)=some [.int k n]:=rfl
@[simp] theorem akg{k:IntKind}{n:Int}:fA (.int k n)=some [.int k n]:=rfl
@[simp] theorem ap3{s:ByteArray}:fV (.str s)=true:=rfl
@[simp] theorem anT{s:ByteArray}:cW (.str s)=true:=rfl
@[simp] theorem ap4{s:ByteArray}:a9 (.str s) = []:=rfl
@[simp] theorem ap5{rows:Rows}{s:ByteArray}:iP rows (.str s)=True:=rfl
@[simp] theorem akh{s:ByteArray}:cD (.str s)=some [.str s]:=rfl
@[simp] theorem aki{s:ByteArray}:fA (.str s)=some [.str s]:=rfl
@[simp] theorem anU  : fV .j5=true:=rfl
@[simp] theorem akj  : cW .j5=true:=rfl
@[simp] theorem anV  : a9 .j5 = []:=rfl
@[simp] theorem anW  : dW .j5 = []:=rfl
@[simp] theorem atB{rows:Rows}:fz rows .j5 = .j5:=rfl
@[simp] theorem atC{rows:Rows}:pz rows .j5 = .j5:=rfl
@[simp] theorem anX{rows:Rows}  : iP rows .j5=True:=rfl
@[simp] theorem ahK  : cD .j5=some [.j5]:=rfl
@[simp] theorem ahL  : fA .j5=some [.j5]:=rfl
@[simp] theorem ap6  : fV .nil=true:=rfl
@[simp] theorem anY  : cW .nil=true:=rfl
@[simp] theorem ap7  : a9 .nil = []:=rfl
@[simp] theorem ap8{rows:Rows}  : iP rows .nil=True:=rfl
@[simp] theorem akk  : cD .nil=some [.nil]:=rfl
@[simp] theorem akl  : fA .nil=some [.nil]:=rfl
@[simp] theorem atD{l:List (List PV)}:fV (.sl l)=true:=rfl
@[simp] theorem ap9{l:List (List PV)}:cW (.sl l)=true:=rfl
@[simp] theorem atE{l:List (List PV)}:a9 (.sl l) = []:=rfl
@[simp] theorem atF{rows:Rows}{l:List (List PV)}:iP rows (.sl l)=True:=rfl
@[simp] theorem anZ{l:List (List PV)}:cD (.sl l)=some [.sl l]:=rfl
@[simp] theorem an0{l:List (List PV)}:fA (.sl l)=some [.sl l]:=rfl
@[simp] theorem aqa{l:List (List PV)}:fV (.jB l)=true:=rfl
@[simp] theorem an1{l:List (List PV)}:cW (.jB l)=true:=rfl
@[simp] theorem aqb{l:List (List PV)}:a9 (.jB l) = []:=rfl
@[simp] theorem aqc{rows:Rows}{l:List (List PV)}:iP rows (.jB l)=True:=rfl
@[simp] theorem akm{l:List (List PV)}:cD (.jB l)=some [.jB l]:=rfl
@[simp] theorem akn{l:List (List PV)}:fA (.jB l)=some [.jB l]:=rfl
@[simp] theorem aeP{l:List PV}:fV (.rd l)=true:=rfl
@[simp] theorem aa1{l:List PV}:cW (.rd l)=true:=rfl
@[simp] theorem aeQ{l:List PV}:a9 (.rd l) = []:=rfl
@[simp] theorem atG{rows:Rows}{l:List PV}:iP rows (.rd l)=True:=rfl
@[simp] theorem an2{l:List PV}:cD (.rd l)=some [.rd l]:=rfl
@[simp] theorem an3{l:List PV}:fA (.rd l)=some [.rd l]:=rfl
@[simp] theorem atH{f:FuncId}{l:List PV}:fV (.fn f l)=true:=rfl
@[simp] theorem aqd{f:FuncId}{l:List PV}:cW (.fn f l)=true:=rfl
@[simp] theorem atI{f:FuncId}{l:List PV}:a9 (.fn f l) = []:=rfl
@[simp] theorem atJ{rows:Rows}{f:FuncId}{l:List PV}:iP rows (.fn f l)=True:=rfl
@[simp] theorem an4{f:FuncId}{l:List PV}:cD (.fn f l)=some [.fn f l]:=rfl
@[simp] theorem an5{f:FuncId}{l:List PV}:fA (.fn f l)=some [.fn f l]:=rfl
@[simp] theorem atK{l:List PV}:fV (.ag l)=l.all cW:=rfl
@[simp] theorem aqe{l:List PV}:fV (.fG l)=true:=rfl
@[simp] theorem an6{l:List PV}:cD (.ag l)=some l:=rfl
@[simp] theorem an7{l:List PV}:fA (.ag l)=some l:=rfl
@[simp] theorem aqf{id v o l:Nat}:a9 (.own id v o l) = [id]:=rfl
@[simp] theorem aqg{id v o l:Nat}:a9 (.ptr id v o l) = [id]:=rfl
@[simp] theorem ako{id v o l:Nat}:cD (.own id v o l)=some [.own id v o l]:=rfl
@[simp] theorem akp{id v o l:Nat}:cD (.ptr id v o l)=some [.ptr id v o l]:=rfl
def rowAt(o:Option Row)(ver:Nat):Prop:=∃r,o=some r∧r.ver=ver
@[simp] theorem akq{r:Row}{ver:Nat}:rowAt (some r) ver=(r.ver=ver):=by simp [rowAt]
@[simp] theorem aqh{rows:Rows}{id v o l:Nat}:iP rows (.own id v o l)=rowAt (rows id) v:=rfl
@[simp] theorem aqi{rows:Rows}{id v o l:Nat}:iP rows (.ptr id v o l)=rowAt (rows id) v:=rfl
@[simp] theorem an8{e l:List PV}{j:Nat}:jF [e] 0 j l = [e.take j++l++e.drop (j+l.length)]:=by simp [jF]
@[simp] theorem an9{e:List PV}{n:Nat}:uW [e] 0 n=(n≤e.length):=by simp [uW]
@[simp] theorem aoa{E:Env}{σ:PS}{t:Tmp}{rs:List ResultVar}{K:List PV→Prop}:pU E σ (.tmp t::rs) K=pU E σ rs fun vs=>K (σ.f t::vs):=rfl
@[simp] theorem aob{E:Env}{σ:PS}{K:List PV→Prop}:pU E σ [] K=K []:=rfl
@[simp] theorem akr{E:Env}{σ:PS}{a:Tmp}{t:TypeId}{rs:List ResultVar}{K:List PV→Prop}:pU E σ (.cell a t::rs) K=kI E t σ.rows (σ.f a) fun v=>pU E σ rs fun vs=>K (v::vs):=by
 show(∃v,sS E t σ.rows (σ.f a) v∧pU E σ rs fun vs=>K (v::vs))=_
 rw [←tK];rfl
@[simp] theorem aeR{E:Env}{ops:List Oper}{K:PS→Prop}{f:Nat→PV}{rows:Rows}{clk:Nat}:go (gC E 0 ops K ⟨f,rows,clk⟩)=go (aP E ops clk 0 ops K ⟨f,rows,fun _ _=>False,fun _ _=>False⟩):=D4
theorem wrap_i64{n:Int}(h1 : -9223372036854775808≤n)(h2:n<9223372036854775808):IntKind.i64.wrap n=n:=by
 have e:IntKind.i64.wrap n=if n%18446744073709551616≥9223372036854775808 then n%18446744073709551616-18446744073709551616 else n%18446744073709551616:=by
  simp [IntKind.wrap,IntKind.bits,IntKind.signed]
 rw [e]
 split<;>omega
theorem wrap_u64{n:Int}(h1:0≤n)(h2:n<18446744073709551616):IntKind.u64.wrap n=n:=by
 simp only [IntKind.wrap,IntKind.bits,IntKind.signed,Bool.false_and,Bool.false_eq_true,if_false]
 omega
theorem wrap_u32{n:Int}(h1:0≤n)(h2:n<4294967296):IntKind.u32.wrap n=n:=by
 simp only [IntKind.wrap,IntKind.bits,IntKind.signed,Bool.false_and,Bool.false_eq_true,if_false]
 omega
theorem wA:(∀n:Int, -9223372036854775808≤n→n<9223372036854775808→IntKind.i64.wrap n=n)∧(∀n:Int,0≤n→n<18446744073709551616→IntKind.u64.wrap n=n)∧(∀n:Int,0≤n→n<4294967296→IntKind.u32.wrap n=n) ∧
  (∀a b:Int,0≤a→a.tdiv b=a/b)∧(∀a b:Int,0≤a→a.tmod b=a%b):=⟨fun _=>wrap_i64,fun _=>wrap_u64,fun _=>wrap_u32,fun _ _ h=>Int.tdiv_eq_ediv_of_nonneg h,fun _ _ h=>Int.tmod_eq_emod_of_nonneg h⟩
theorem gw:(∀ {c B:Prop},c→aG c B=go B)∧(∀n:Int, -9223372036854775808≤n→n<9223372036854775808→IntKind.i64.wrap n=n)∧(∀n:Int,0≤n→n<18446744073709551616→IntKind.u64.wrap n=n)∧(∀n:Int,0≤n→n<4294967296→IntKind.u32.wrap n=n) ∧
  (∀a b:Int,0≤a→a.tdiv b=a/b)∧(∀a b:Int,0≤a→a.tmod b=a%b):=⟨gA,wA⟩
theorem wrap_u8{n:Int}(h1:0≤n)(h2:n<256):IntKind.u8.wrap n=n:=by
 simp only [IntKind.wrap,IntKind.bits,IntKind.signed,Bool.false_and,Bool.false_eq_true,if_false]
 omega
theorem jG{n:Int}:IntKind.u64.wrap n=n%18446744073709551616:=by
 simp only [IntKind.wrap,IntKind.bits,IntKind.signed,Bool.false_and,Bool.false_eq_true,if_false]
 rfl
theorem wrap_u32'{n:Int}:IntKind.u32.wrap n=n%4294967296:=by
 simp only [IntKind.wrap,IntKind.bits,IntKind.signed,Bool.false_and,Bool.false_eq_true,if_false]
 rfl
section
variable {E:Env} {n:Nat} {tl:Nat→Nat} {Q:PX→PS→Prop} {σ:PS}
theorem W.b9{id:Nat}{ops:List Oper}(h:∀K:PS→Prop,(∀σ,Q .normal σ→K σ)→go (aN E ops ops K σ)):W E n tl (.region id ops.toArray false) Q σ:=W.JO h
theorem W.BI{id:Nat}{ops:List Oper}(h:∀K:PS→Prop,(∀σ,Q .normal σ→K σ)→go (gC E (tl id) ops K σ)):W E n tl (.region id ops.toArray true) Q σ:=W.aaf h
theorem W.eA{id:Nat}{ops:List Oper}{y:Code}(h:∀K:PS→Prop,(∀σ,W E n tl y Q σ→K σ)→go (aN E ops ops K σ)):W E n tl (.seq (.region id ops.toArray false) y) Q σ:=W.ON h
theorem W.aa2{id:Nat}{ops:List Oper}{y:Code}(h:∀K:PS→Prop,(∀σ,W E n tl y Q σ→K σ)→go (gC E (tl id) ops K σ)):W E n tl (.seq (.region id ops.toArray true) y) Q σ:=W.aag h
end
section
variable {E:Env} {n:Nat} {tl:Nat→Nat} {Q:PX→PS→Prop} {σ:PS}
theorem W.a8{c:Code}(I:Nat→PS→Prop)(k:Nat)(h0:∃σ0,Gh n σ σ0∧I k σ0)(h1:∀k σ,I k σ→W E n tl c (DU (fun σ'=>∃m σ'',Gh n σ' σ''∧m<k∧I m σ'') Q) σ):W E n tl (.loop c) Q σ:=by
 obtain⟨σ0,hg,h0⟩:=h0
 refine W.ghost hg ?_
 refine W.loop (fun k σ=>∃σ',Gh n σ σ'∧I k σ') k ⟨σ0,fun _ _ _ _ _ h=>h,h0⟩ ?_
 rintro k σ ⟨σ',hg,hI⟩
 refine W.ghost hg (W.mono (h1 k σ' hI) fun x τ hx=>?_)
 cases x with
 | normal=>obtain⟨m,σ'',h2,h3,h4⟩:=hx;exact⟨m,h3,σ'',h2,h4⟩
 | exit id=>exact hx
 | ret=>exact hx
theorem Gh.refl:Gh n σ σ:=fun _ _ _ _ _ h=>h
theorem W.aa3{c:Operand}{t e:Code}(b:Prop)[Decidable b](hc:aS σ.f c = .bool (decide b))(h1:b→W E n tl t Q σ)(h2:¬b→W E n tl e Q σ):W E n tl (.cond c t e) Q σ:=W.cond ⟨_,hc,fun h=>h1 (of_decide_eq_true h),fun h=>h2 (of_decide_eq_false h)⟩
theorem W.ghf{f:Nat→PV}{rows:Rows}{clk:Nat}{c:Code}(l:List (Nat × PV))(hl:∀p∈l,f p.1=p.2)(h:W E n tl c Q ⟨fa l,rows,clk⟩):W E n tl c Q ⟨f,rows,clk⟩:=by
 have:=aC (f:=f) (rows:=rows) (clk:=clk) n (l.map (·.1))
 have e:((l.map (·.1)).map fun i=>(i,f i))=l:=by
  rw [List.map_map]
  conv=>rhs;rw [←List.map_id l]
  exact List.map_congr_left fun p hp=>by simp [hl p hp]
 rw [e]at this
 exact W.ghost this h
theorem Gh.fr{f:Nat→PV}{rows:Rows}{clk:Nat}(l:List (Nat × PV))(hl:∀p∈l,f p.1=p.2):Gh n ⟨f,rows,clk⟩ ⟨fa l,rows,clk⟩:=by
 have:=aC (f:=f) (rows:=rows) (clk:=clk) n (l.map (·.1))
 have e:((l.map (·.1)).map fun i=>(i,f i))=l:=by
  rw [List.map_map]
  conv=>rhs;rw [←List.map_id l]
  exact List.map_congr_left fun p hp=>by simp [hl p hp]
 rw [e]at this
 exact this
end
theorem cY{E:Env}{A7:FuncId}{fn:Func}{code:Code}(tl:Nat→Nat){args:List PV}{r:PV}(l:List (Nat × PV))(h1:E.P.funcs[A7]? = some fn)(h2:fn.body=some code) (h3:(fn.name == "runtime.NumGoroutine") = false)
  (iC:fB E fn.ntmps tl code=true) (fX:args.length≤fn.ntmps) (hl:∀p∈l,args.getD p.1 .undef=p.2) (h:W E fn.ntmps tl code (aac E fn.results.toList r) ⟨fa l,fun _=>none,0⟩):aH E.P A7 args r:=
 aah tl h1 h2 h3 iC fX (W.ghf l (by simpa using hl) h)
end Pm
namespace Pm
@[simp] theorem atL{a:Int}:Int.fdiv a 4294967296=a/4294967296:=Int.fdiv_eq_ediv_of_nonneg a (by decide)
@[simp] theorem atM{a:Int}:Int.fdiv a 9223372036854775808=a/9223372036854775808:=Int.fdiv_eq_ediv_of_nonneg a (by decide)
attribute [simp] Go.IntKind.bits
end Pm
namespace Pm
open Go Go.RowKit
section
variable {E:Env} {n:Nat} {tl:Nat→Nat} {Q:PX→PS→Prop} {σ:PS}
theorem W.gD{x y:Code}(J:PS→Prop)(h:W E n tl x (DU (fun σ=>∃σ',Gh n σ σ'∧J σ') Q) σ)(hy:∀σ,J σ→W E n tl y Q σ):W E n tl (.seq x y) Q σ:=
 W.seq (W.mono h fun x σ hx=>by
  cases x with
  | normal=>obtain⟨σ',hg,hJ⟩:=hx;exact W.ghost hg (hy σ' hJ)
  | exit id=>exact hx
  | ret=>exact hx)
def PA(J:PS→Prop)(Q:PX→PS→Prop):PX→PS→Prop
 | .normal,σ=>J σ
 | .exit id,σ=>Q (.exit id) σ
 | .ret,σ=>Q .ret σ
theorem W.fM{id:Nat}{x y:Code}(J:PS→Prop)(h:W E n tl x (DV id (PA (fun σ=>∃σ',Gh n σ σ'∧J σ') Q)) σ)(hy:∀σ,J σ→W E n tl y Q σ):W E n tl (.seq (.block id x) y) Q σ:=
 W.seq (W.block (W.mono h fun x σ hx=>by
  cases x with
  | normal=>obtain⟨σ',hg,hJ⟩:=hx;exact W.ghost hg (hy σ' hJ)
  | exit j =>
   simp only [DV]at hx ⊢
   split
   ·rename_i hj;rw [if_pos hj]at hx;obtain⟨σ',hg,hJ⟩:=hx;exact W.ghost hg (hy σ' hJ)
   ·rename_i hj;rw [if_neg hj]at hx;exact hx
  | ret=>exact hx))
theorem W.gK{id:Nat}{ops:List Oper}{y:Code}(J:PS→Prop)(h:∀K:PS→Prop,(∀σ σ',Gh n σ σ'→J σ'→K σ)→go (aN E ops ops K σ))(hy:∀σ,J σ→W E n tl y Q σ):W E n tl (.seq (.region id ops.toArray false) y) Q σ:=
 W.eA fun K hK=>h K fun σ _ hg hJ=>hK σ (W.ghost hg (hy _ hJ))
theorem W.aa4{id:Nat}{ops:List Oper}{y:Code}(J:PS→Prop)(h:∀K:PS→Prop,(∀σ σ',Gh n σ σ'→J σ'→K σ)→go (gC E (tl id) ops K σ))(hy:∀σ,J σ→W E n tl y Q σ):W E n tl (.seq (.region id ops.toArray true) y) Q σ:=
 W.aa2 fun K hK=>h K fun σ _ hg hJ=>hK σ (W.ghost hg (hy _ hJ))
@[simp] theorem ahM{J:PS→Prop}:PA J Q .normal σ=J σ:=rfl
@[simp] theorem aqj{J:PS→Prop}:PA J Q .ret σ=Q .ret σ:=rfl
@[simp] theorem aoc{J:PS→Prop}{id:Nat}:PA J Q (.exit id) σ=Q (.exit id) σ:=rfl
@[simp] theorem ahN{J:PS→Prop}:DU J Q .normal σ=J σ:=rfl
@[simp] theorem aqk{J:PS→Prop}:DU J Q .ret σ=Q .ret σ:=rfl
@[simp] theorem aod{J:PS→Prop}{id:Nat}:DU J Q (.exit id) σ=Q (.exit id) σ:=rfl
@[simp] theorem ahO{id:Nat}:DV id Q .normal σ=Q .normal σ:=rfl
@[simp] theorem aql{id:Nat}:DV id Q .ret σ=Q .ret σ:=rfl
@[simp] theorem aoe{id j:Nat}:DV id Q (.exit j) σ=if j=id then Q .normal σ else Q (.exit j) σ:=rfl
theorem pX:(∀(Q:PX→PS→Prop) (σ:PS) (id j:Nat),DV id Q (.exit j) σ=if j=id then Q .normal σ else Q (.exit j) σ)∧(∀(Q:PX→PS→Prop) (σ:PS) (id:Nat),DV id Q .normal σ=Q .normal σ)∧(∀(Q:PX→PS→Prop) (σ:PS) (id:Nat),DV id Q .ret σ=Q .ret σ) ∧
  (∀(J:PS→Prop) (Q:PX→PS→Prop) (σ:PS) (id:Nat),DU J Q (.exit id) σ=Q (.exit id) σ)∧(∀(J:PS→Prop) (Q:PX→PS→Prop) (σ:PS),DU J Q .normal σ=J σ)∧(∀(J:PS→Prop) (Q:PX→PS→Prop) (σ:PS),DU J Q .ret σ=Q .ret σ) ∧
  (∀(J:PS→Prop) (Q:PX→PS→Prop) (σ:PS) (id:Nat),PA J Q (.exit id) σ=Q (.exit id) σ)∧(∀(J:PS→Prop) (Q:PX→PS→Prop) (σ:PS),PA J Q .normal σ=J σ)∧(∀(J:PS→Prop) (Q:PX→PS→Prop) (σ:PS),PA J Q .ret σ=Q .ret σ):=
 ⟨fun _ _ _ _=>rfl,fun _ _ _=>rfl,fun _ _ _=>rfl,fun _ _ _ _=>rfl,fun _ _ _=>rfl,fun _ _ _=>rfl,fun _ _ _ _=>rfl,fun _ _ _=>rfl,fun _ _ _=>rfl⟩
end
end Pm
namespace Pm
open Go
theorem aqm{P:Program}{g:FuncId}{gJ:List PV}{rows:Rows}{clk:Nat}{K:PV→Rows→Nat→Prop}{R:PV→Rows→Nat→Prop}(h:VL P g gJ rows clk R)(hK:∀r rows' kG,R r rows' kG→go (K r rows' kG)):yC P g gJ rows clk K:=⟨R,h,hK⟩
theorem aD{P:Program}{g:FuncId}{args:List PV}{K:PV→Prop}{v:PV}(h:aH P g args v)(hK:go (K v)):uU P g args K:=⟨v,h,hK⟩
theorem W.aa5{E:Env}{n:Nat}{tl:Nat→Nat}{c:Code}{Q:PX→PS→Prop}{f:Nat→PV}{rows:Rows}{clk:Nat}(l:List Nat)(h:∀K:PS→Prop,(∀σ,W E n tl c Q σ→K σ)→K ⟨fa (l.map fun i=>(i,f i)),rows,clk⟩):W E n tl c Q ⟨f,rows,clk⟩:=W.live l (h _ fun _ h=>h)
theorem W.lv{E:Env}{n:Nat}{tl:Nat→Nat}{c:Code}{Q:PX→PS→Prop}{f:Nat→PV}{rows:Rows}{clk:Nat}{K0:PS→Prop}(l:List Nat)(hK:∀σ,W E n tl c Q σ→K0 σ)(h:∀K:PS→Prop,(∀σ,W E n tl c Q σ→K σ)→K ⟨fa (l.map fun i=>(i,f i)),rows,clk⟩):K0 ⟨f,rows,clk⟩:=hK _ (W.aa5 l h)
inductive Bx(P:PS→Prop):Type
  | mk
def aW{P:PS→Prop}(_:Bx P)(σ:PS):Prop:=P σ
theorem W.lw{E:Env}{n:Nat}{tl:Nat→Nat}{c:Code}{Q:PX→PS→Prop}{f:Nat→PV}{rows:Rows}{clk:Nat}{K0:PS→Prop}(l:List Nat)(hK:∀σ,W E n tl c Q σ→K0 σ)(h:aW (Bx.mk (P:=W E n tl c Q)) ⟨fa (l.map fun i=>(i,f i)),rows,clk⟩):K0 ⟨f,rows,clk⟩:=hK _ (W.aa5 l fun _ q=>q _ h)
theorem W.lx{E:Env}{n:Nat}{tl:Nat→Nat}{c:Code}{Q:PX→PS→Prop}{f:Nat→PV}{rows:Rows}{clk:Nat}(l:List Nat)(h:aW (Bx.mk (P:=W E n tl c Q)) ⟨fa (l.map fun i=>(i,f i)),rows,clk⟩):aW (Bx.mk (P:=W E n tl c Q)) ⟨f,rows,clk⟩:=W.aa5 l fun _ q=>q _ h
theorem W.sr{E:Env}{n:Nat}{tl:Nat→Nat}{Q:PX→PS→Prop}{σ:PS}{id:Nat}{ops:List Oper}{y:Code}(h:go (aN E ops ops (aW (Bx.mk (P:=W E n tl y Q))) σ)):W E n tl (.seq (.region id ops.toArray false) y) Q σ:=by
  refine W.seq ?_
  intro iC w0 S0 G a w Q' hR hQ
  simp only [fB,A6,Bool.and_eq_true]at iC
  refine wp_region_list (i0 (fun σ' a' w' hk lM=>hQ .normal σ' a' w' hk lM) _ σ a w (fun o ho t ht=>?_) h hR)
  have:=Array.all_eq_true_iff_forall_mem.1 iC.1 o (by simpa using ho)
  simpa [ht]using this
theorem W.sd{E:Env}{n:Nat}{tl:Nat→Nat}{Q:PX→PS→Prop}{σ:PS}{id:Nat}{ops:List Oper}{y:Code}(h:go (gC E (tl id) ops (aW (Bx.mk (P:=W E n tl y Q))) σ)):W E n tl (.seq (.region id ops.toArray true) y) Q σ:=by
  refine W.seq ?_
  intro iC w0 S0 G a w Q' hR hQ
  exact s5 (by simpa [fB]using iC) h hR fun σ' a' w' hk lM=>hQ .normal σ' a' w' hk lM
end Pm
namespace Pm
open Go Go.RowKit
def Wk(p q:PV):Prop:=q=p∨(p = .nil∧q = .sl [])
theorem Wk.rep{c:Cx}{p q:PV}{v:Value}(h:Wk p q)(hr:aQ c p v):aQ c q v:=by
 rcases h with rfl | ⟨rfl,rfl⟩
 ·exact hr
 ·simp only [aQ,dC]at hr ⊢
  exact⟨none,0,by simpa using hr,by simp,by simp, .inl trivial⟩
theorem bE.flat{α β:Type}{R:α→β→Prop}:∀ {l:List (List α)} {m:List (List β)},bE (bE R) l m→bE R l.flatten m.flatten
 | [],[],_=>trivial
 | a::l,b::m,h=>by
  obtain⟨h1,h2⟩:=h
  have ih:=bE.flat h2
  clear h2
  induction a generalizing b with
  | nil=>cases b with
   | nil=>exact ih
   | cons=>exact h1.elim
  | cons x a iha=>cases b with
   | nil=>exact h1.elim
   | cons y b=>exact⟨h1.1,iha b h1.2⟩
theorem aks{n id ver e m clk:Nat}{f:Nat→PV}{rows:Rows}{els zC:List (List PV)}(hr:rows id=some ⟨ver,e,m,els⟩)(hw:bE (bE fun q p=>Wk p q) zC els):Gh n ⟨f,rows,clk⟩ ⟨f,dX rows id (some ⟨ver,e,m,zC⟩),clk⟩:=by
 rintro w0 S0 G a w ⟨⟨c,rfl,oA,fF,hI,hf,hG⟩,h7,h8⟩
 have jP:c.rows id=some ⟨ver,e,m,els⟩:=by rw [oA];exact hr
 obtain⟨⟨xs,g1,g2,g3⟩,g4,g5,g6⟩:=hI.row id _ jP
 have hlen:zC.length=els.length:=hw.length
 obtain⟨wN,hA⟩:=hI.dX (w':=c.w) (r':=⟨ver,e,m,zC⟩) (xs:=xs) jP (World.grownBy.refl _ _) (by simp only [hlen];exact g1)
  (by
   have h1:=bE.flat hw
   have:∀ {l:List PV} {k:List PV} {vs:List Value},bE (fun q p=>Wk p q) l k→bE (aQ c) k vs→bE (aQ c) l vs:=by
    intro l
    induction l with
    | nil=>intro k vs h h';cases k with
     | nil=>exact h'
     | cons=>exact h.elim
    | cons x l ih=>intro k vs h h';cases k with
     | nil=>exact h.elim
     | cons y k=>cases vs with
      | nil=>exact h'.elim
      | cons v vs=>exact⟨h.1.rep h'.1,ih h.2 h'.2⟩
   exact this h1 g2) g3 (fun el oQ=>by
   obtain⟨k,hk⟩:=List.getElem?_of_mem oQ
   obtain⟨b,hb,h1⟩:=hw.get hk
   rw [h1.length]
   exact g4 b (List.mem_of_getElem? hb)) rfl rfl hlen
 refine⟨⟨{ c with rows:=dX c.rows id (some ⟨ver,e,m,zC⟩) },rfl,by simp [oA],fF,wN,fun s=>aK.tB hA _ _ (hf s),fun p hp=>aK.tB hA _ _ (hG p hp)⟩,h7,h8⟩
theorem akt{n s id e m clk:Nat}{f:Nat→PV}{rows:Rows}(hs:f s = .nil)(hm:0<m):Gh n ⟨f,rows,clk⟩ ⟨put f (some s) (.own id clk 0 0),dX rows id (some ⟨clk,e,m,[]⟩),clk+1⟩:=by
 rintro w0 S0 G a w ⟨⟨c,rfl,oA,fF,hI,hf,hG⟩,h7,h8⟩
 obtain⟨wN,hA⟩:=hI.set (w':=c.w) (ob:=none) (id:=id) (r':=⟨clk,e,m,[]⟩) (v':=.slice none 0 0) (xs:=[]) (World.grownBy.refl _ _) (by simp) ⟨by simp, .inl ⟨rfl,rfl⟩⟩ (by simp [bE]) (by simp) (by simp) hm (by simp [Value.ownBlock]) (fun hu=>Nat.lt_irrefl _ (fF _ hu))
 refine⟨⟨{ c with β:=dX c.β id (.slice none 0 0),rows:=dX c.rows id (some ⟨clk,e,m,[]⟩),used:=fun v=>v=clk∨c.used v },rfl,by simp [oA],fun v hv=>by
  show v<clk+1
  rcases hv with rfl | hv
  ·omega
  ·have:v<clk:=fF v hv
   omega,wN,fun t=>?_,fun p hp=>aK.tB hA _ _ (hG p hp)⟩,h7,h8⟩
 simp only [put]
 split
 ·rename_i ht
  subst ht
  have h1:=hf t
  simp only at h1
  rw [hs]at h1
  simp only [aK,aQ,dC]at h1
  simp only [aK,aQ]
  refine⟨.inl (by first | rfl | trivial),fun r hr hv=>?_⟩
  simp only [gU,Option.some.injEq]at hr
  subst hr
  exact⟨by simp, .inl ⟨trivial,none,0,0,by simp [dX],h1⟩⟩
 ·exact aK.tB hA _ _ (hf t)
theorem KA{α β:Type}{R:α→β→Prop}{x:α}{y:β}(h:R x y):∀k:Nat,bE R (List.replicate k x) (List.replicate k y)
 | 0=>trivial
 | k+1=>⟨h,KA h k⟩
section
variable {E:Env} {n:Nat} {tl:Nat→Nat} {Q:PX→PS→Prop} {c:Code} {f:Nat→PV} {rows:Rows} {clk:Nat}
theorem W.row{id ver e m:Nat}{els:List (List PV)}(zC:List (List PV))(hr:rows id=some ⟨ver,e,m,els⟩)(hw:bE (bE fun q p=>Wk p q) zC els)(h:W E n tl c Q ⟨f,dX rows id (some ⟨ver,e,m,zC⟩),clk⟩):W E n tl c Q ⟨f,rows,clk⟩:=W.ghost (aks hr hw) h
theorem W.nil(s id e m:Nat)(hs:f s = .nil)(hm:0<m)(h:∀K:PS→Prop,(∀σ,W E n tl c Q σ→K σ)→K ⟨put f (some s) (.own id clk 0 0),dX rows id (some ⟨clk,e,m,[]⟩),clk+1⟩):W E n tl c Q ⟨f,rows,clk⟩:=W.ghost (akt hs hm) (h _ fun _ h=>h)
end
def fzP(o:Option Row)(ver i j:Nat):PV:=
 match o with
 | some r=>if r.ver=ver then .rd ((r.els.getD i []).drop j)else .undef
 | none => .undef
@[simp] theorem avG{rows:Rows}{id ver i j:Nat}:fz rows (.ptr id ver i j)=fzP (rows id) ver i j:=rfl
@[simp] theorem avH{rows:Rows}{id ver i j:Nat}:pz rows (.ptr id ver i j)=fzP (rows id) ver i j:=rfl
@[simp] theorem atN{ver e n:Nat}{el:List PV}:fzP (some ⟨ver,e,n,[el]⟩) ver 0 0 = .rd el:=by simp [fzP]
@[simp] theorem aqn{id ver i j:Nat}:dW (.ptr id ver i j) = [id]:=rfl
@[simp] theorem ahP{ver e n:Nat}{el:List PV}:cX (some ⟨ver,e,n,[el]⟩) = ∀p∈el,cW p=true:=by simp [cX]
end Pm
namespace Pm
open Go
theorem fE{E:Env}{m:Nat}{ops:List Oper}{K:PS→Prop}{f:Nat→PV}{rows:Rows}{clk:Nat}:go (gC E (m+1) ops K ⟨f,rows,clk⟩)=go (aP E ops clk 0 (ops.take (ops.length-(m+1))) (aN E ops (ops.drop (ops.length-(m+1))) K) ⟨f,rows,fun _ _=>False,fun _ _=>False⟩):=by
 simp [gC]
end Pm
namespace Pm
open Go Go.RowKit
def I4(rows:Rows)(id:Nat):PV→PV
 | .own i ver off len=>if i=id then fz rows (.own i ver off len)else .own i ver off len
 | .ptr i ver a j=>if i=id then fz rows (.ptr i ver a j)else .ptr i ver a j
 | p=>p
def G1(rows:Rows)(id:Nat):PV→PV
 | .ag l => .ag (l.map (I4 rows id))
 | p=>I4 rows id p
theorem G2{w0:World}{S0:dV}{c:Cx}(hI:Inv w0 S0 c){id:Nat}(hp:∀r,c.rows id=some r → ∀e∈r.els,∀p∈e,cW p=true){p:PV}{v:Value}(h:aQ c p v):aQ (DJ c [id]) (I4 c.rows id p) v:=by
 have uJ:∀i ∈ [id],∀r,c.rows i=some r → ∀e∈r.els,∀p∈e,cW p=true:=by intro i hi;simp at hi;subst hi;exact hp
 have key:∀q:PV,aQ c q v→(∀i∈a9 q,i ∈ [id])→(fz c.rows q = .undef∨cW (fz c.rows q)=true)→aQ (DJ c [id]) (fz c.rows q) v:=by
  intro q hq hi ho
  rcases ho with ho | ho
  ·rw [ho];simp [aQ]
  ·exact aQ.jR (F8 hI uJ hq hi ho)
 cases p with
 | own i ver off len =>
  simp only [I4]
  split
  ·rename_i hi
   subst hi
   refine key _ h (by simp [a9]) ?_
   simp only [fz]
   cases c.rows i with
   | none=>exact .inl rfl
   | some r =>
    simp only
    split
    ·exact .inr rfl
    ·exact .inl rfl
  ·exact aQ.tB (lK c [id]) _ _ h
 | ptr i ver a j =>
  simp only [I4]
  split
  ·rename_i hi
   subst hi
   refine key _ h (by simp [a9]) ?_
   simp only [fz]
   cases c.rows i with
   | none=>exact .inl rfl
   | some r =>
    simp only
    split
    ·exact .inr rfl
    ·exact .inl rfl
  ·exact aQ.tB (lK c [id]) _ _ h
 | _=>exact aQ.tB (lK c [id]) _ _ h
theorem SV{w0:World}{S0:dV}{c:Cx}(hI:Inv w0 S0 c){id:Nat}(hp:∀r,c.rows id=some r → ∀e∈r.els,∀p∈e,cW p=true){p:PV}{v:Value}(h:aK c p v):aK (DJ c [id]) (G1 c.rows id p) v:=by
 cases p with
 | ag l =>
  obtain⟨vs,h1,h2⟩:=h
  refine⟨vs,h1,bE.dO (by simp [h2.length]) fun k a b ha hb=>?_⟩
  simp at ha
  obtain⟨q,hq,rfl⟩:=ha
  obtain⟨b',AF,hr⟩:=h2.get hq
  rw [hb]at AF;cases AF
  exact G2 hI hp hr
 | _ =>
  simp only [aK]at h
  have:=G2 hI hp h
  simp only [G1]
  exact(by
   first
    | (simp only [I4,aK]at this ⊢;exact this)
    | (simp only [I4]at this ⊢
       split
       · rename_i hi;rw [if_pos hi]at this;simp only [fz]at this ⊢;revert this;split<;>(try split)<;>exact fun h=>h
       · rename_i hi;rw [if_neg hi]at this;exact this))
theorem EY{rows:Rows}{id:Nat}:G1 rows id .undef = .undef:=rfl
theorem aa6{l:List (Nat × PV)}{g:PV→PV}(hg:g .undef = .undef):(fun s=>g (fa l s))=fa (l.map fun p=>(p.1,g p.2)):=by
 funext s
 induction l with
 | nil=>exact hg
 | cons p l ih =>
  obtain⟨i,v⟩:=p
  simp only [fa,List.map_cons]
  split
  ·rfl
  ·exact ih
theorem WE{n clk:Nat}{l:List (Nat × PV)}{rows:Rows}(id:Nat)(hp:cX (rows id)):Gh n ⟨fa l,rows,clk⟩ ⟨fa (l.map fun p=>(p.1,G1 rows id p.2)),EI rows [id],clk⟩:=by
 rintro w0 S0 G a w ⟨⟨c,rfl,oA,fF,hI,hf,hG⟩,h7,h8⟩
 have aa7:c.rows=rows:=oA
 subst aa7
 refine⟨⟨DJ c [id],rfl,rfl,fF,hI.freeze [id],fun s=>?_,fun p hp=>aK.tB (lK c [id]) _ _ (hG p hp)⟩,h7,h8⟩
 rw [←aa6 (g:=G1 c.rows id) EY]
 exact SV hI hp (hf s)
theorem W.freeze{E:Env}{n:Nat}{tl:Nat→Nat}{Q:PX→PS→Prop}{c:Code}{l:List (Nat × PV)}{rows:Rows}{clk:Nat}(id:Nat)(hp:cX (rows id))(h:∀K:PS→Prop,(∀σ,W E n tl c Q σ→K σ)→K ⟨fa (l.map fun p=>(p.1,G1 rows id p.2)),EI rows [id],clk⟩):W E n tl c Q ⟨fa l,rows,clk⟩:=W.ghost (WE id hp) (h _ fun _ h=>h)
@[simp] theorem atO{rows:Rows}{id i ver off len:Nat}:G1 rows id (.own i ver off len)=if i=id then fzR (rows i) ver off len else .own i ver off len:=rfl
@[simp] theorem atP{rows:Rows}{id i ver a j:Nat}:G1 rows id (.ptr i ver a j)=if i=id then fzP (rows i) ver a j else .ptr i ver a j:=rfl
@[simp] theorem atQ{α:Type}{g:α→List PV}{rows:Rows}{id:Nat}{l:List α}:G1 rows id (aJ g l)=aJ g l:=rfl
@[simp] theorem atS{rows:Rows}{id:Nat}{k:IntKind}{n:Int}:G1 rows id (.int k n) = .int k n:=rfl
@[simp] theorem aqo{rows:Rows}{id:Nat}{b:Bool}:G1 rows id (.bool b) = .bool b:=rfl
@[simp] theorem atT{rows:Rows}{id:Nat}:G1 rows id .nil = .nil:=rfl
@[simp] theorem avI{rows:Rows}{id:Nat}{l:List (List PV)}:G1 rows id (.sl l) = .sl l:=rfl
@[simp] theorem atU{rows:Rows}{id:Nat}{l:List (List PV)}:G1 rows id (.jB l) = .jB l:=rfl
@[simp] theorem avJ{rows:Rows}{id:Nat}{l:List PV}:G1 rows id (.ag l) = .ag (l.map (I4 rows id)):=rfl
@[simp] theorem atV{rows:Rows}{id:Nat}{k:IntKind}{n:Int}:I4 rows id (.int k n) = .int k n:=rfl
@[simp] theorem aqp{rows:Rows}{id:Nat}{b:Bool}:I4 rows id (.bool b) = .bool b:=rfl
@[simp] theorem atW{rows:Rows}{id:Nat}:I4 rows id .nil = .nil:=rfl
@[simp] theorem atX{α:Type}{g:α→List PV}{rows:Rows}{id:Nat}{l:List α}:I4 rows id (aJ g l)=aJ g l:=rfl
theorem aeT{n s clk:Nat}{f:Nat→PV}{rows:Rows}(q:PV)(hs:f s = .nil)(hq:q = .sl []):Gh n ⟨f,rows,clk⟩ ⟨put f (some s) q,rows,clk⟩:=by
 rintro w0 S0 G a w ⟨⟨c,rfl,oA,fF,hI,hf,hG⟩,h7,h8⟩
 refine⟨⟨c,rfl,oA,fF,hI,fun t=>?_,hG⟩,h7,h8⟩
 simp only [put]
 split
 ·rename_i ht
  subst ht
  have h1:=hf t
  simp only at h1
  rw [hs]at h1
  subst hq
  simp only [aK]at h1 ⊢
  exact Wk.rep (.inr ⟨rfl,rfl⟩) h1
 ·exact hf t
theorem W.KB{E:Env}{n:Nat}{tl:Nat→Nat}{Q:PX→PS→Prop}{c:Code}{f:Nat→PV}{rows:Rows}{clk:Nat}(s:Nat)(q:PV)(hs:f s = .nil)(hq:q = .sl [])(h:∀K:PS→Prop,(∀σ,W E n tl c Q σ→K σ)→K ⟨put f (some s) q,rows,clk⟩):W E n tl c Q ⟨f,rows,clk⟩:=W.ghost (aeT q hs hq) (h _ fun _ h=>h)
theorem aeU{c:Cx}{l:List (List PV)}{v:Value}(hr:aQ c (.jB l) v):aQ c (.sl l) v:=by
 simp only [aQ,dC]at hr ⊢
 obtain⟨a,h1,h2,h3⟩:=hr
 exact⟨a,l.length,h1,Nat.le_refl _,h2,h3⟩
theorem aeV{n s clk:Nat}{f:Nat→PV}{rows:Rows}(l:List (List PV))(q:PV)(hs:f s = .jB l)(hq:q = .sl l):Gh n ⟨f,rows,clk⟩ ⟨put f (some s) q,rows,clk⟩:=by
 rintro w0 S0 G a w ⟨⟨c,rfl,oA,fF,hI,hf,hG⟩,h7,h8⟩
 refine⟨⟨c,rfl,oA,fF,hI,fun t=>?_,hG⟩,h7,h8⟩
 simp only [put]
 split
 ·rename_i ht
  subst ht
  have h1:=hf t
  simp only at h1
  rw [hs]at h1
  subst hq
  simp only [aK]at h1 ⊢
  exact aeU h1
 ·exact hf t
theorem W.avK{E:Env}{n:Nat}{tl:Nat→Nat}{Q:PX→PS→Prop}{c:Code}{f:Nat→PV}{rows:Rows}{clk:Nat}(s:Nat)(l:List (List PV))(q:PV)(hs:f s = .jB l)(hq:q = .sl l)(h:∀K:PS→Prop,(∀σ,W E n tl c Q σ→K σ)→K ⟨put f (some s) q,rows,clk⟩):W E n tl c Q ⟨f,rows,clk⟩:=W.ghost (aeV l q hs hq) (h _ fun _ h=>h)
def BJ(rows:Rows)(id:Nat):Option Row→Option Row
 | some r=>some { r with els:=r.els.map fun e=>e.map (I4 rows id) }
 | none=>none
def sP(rows:Rows)(id:Nat):Rows:=fun j=>if j=id then none else BJ rows id (rows j)
@[simp] theorem atY{rows:Rows}{id j:Nat}:sP rows id j=if j=id then none else BJ rows id (rows j):=rfl
@[simp] theorem ahQ{rows:Rows}{id v e n:Nat}{els:List (List PV)}:BJ rows id (some ⟨v,e,n,els⟩)=some ⟨v,e,n,els.map fun e=>e.map (I4 rows id)⟩:=rfl
@[simp] theorem ahR{rows:Rows}{id:Nat}:BJ rows id none=none:=rfl
@[simp] theorem atZ{rows:Rows}{id i ver off len:Nat}:I4 rows id (.own i ver off len)=if i=id then fzR (rows i) ver off len else .own i ver off len:=rfl
@[simp] theorem at0{rows:Rows}{id i ver a j:Nat}:I4 rows id (.ptr i ver a j)=if i=id then fzP (rows i) ver a j else .ptr i ver a j:=rfl
theorem PC{n clk:Nat}{l:List (Nat × PV)}{rows:Rows}(id:Nat)(hp:cX (rows id)):Gh n ⟨fa l,rows,clk⟩ ⟨fa (l.map fun p=>(p.1,G1 rows id p.2)),sP rows id,clk⟩:=by
 rintro w0 S0 G a w ⟨⟨c,rfl,oA,fF,hI,hf,hG⟩,h7,h8⟩
 have aa7:c.rows=rows:=oA
 subst aa7
 have JD:=hI.freeze [id]
 have live:∀ {j:Nat} {r':Row},sP c.rows id j=some r'→j≠id ∧ ∃r,c.rows j=some r∧r' = { r with els:=r.els.map fun e=>e.map (I4 c.rows id) }:=by
  intro j r' h
  simp only [sP]at h
  split at h
  ·cases h
  ·rename_i hj
   cases hr:c.rows j with
   | none=>rw [hr]at h;cases h
   | some r=>rw [hr]at h;simp only [BJ,Option.some.injEq]at h;exact⟨hj,r,rfl,h.symm⟩
 have hA:sR (DJ c [id]) { DJ c [id]with rows:=sP c.rows id }:=by
  refine⟨fun _ _ h=>h,fun _ _ _=>rfl,fun _ h=>h,fun j r' h=>?_⟩
  obtain⟨hj,r,hr,rfl⟩:=live h
  exact .inr ⟨r,by simp [DJ,EI,hj,hr],rfl,rfl,by simp,rfl⟩
 have hI2:Inv w0 S0 { DJ c [id]with rows:=sP c.rows id }:=by
  refine⟨JD.below,JD.ext,JD.new,JD.lt0,fun j r' h=>?_,fun j r' h=>?_,fun i j r s g hr hs=>?_⟩
  ·obtain⟨hj,r,hr,rfl⟩:=live h
   exact hI.clock j r hr
  ·obtain⟨hj,r,hr,rfl⟩:=live h
   obtain⟨⟨xs,g1,g2,g3⟩,g4,g5,g6⟩:=hI.row j r hr
   obtain⟨_,_,f5,_⟩:=JD.row j r (by simp [DJ,EI,hj,hr])
   refine⟨⟨xs,by rw [List.length_map];exact g1,?_,g3⟩,fun e he=>?_,f5,g6⟩
   ·show bE _ (List.flatten (r.els.map fun e=>e.map (I4 c.rows id))) xs
    rw [←List.map_flatten]
    refine bE.dO (by rw [List.length_map];exact g2.length) fun k p u uJ hu=>?_
    rw [List.getElem?_map]at uJ
    obtain⟨q,hq,rfl⟩:=Option.map_eq_some_iff.1 uJ
    obtain⟨u',VF,jP⟩:=g2.get hq
    rw [hu]at VF;cases VF
    exact aQ.tB hA _ _ (G2 hI hp jP)
   ·simp only [List.mem_map]at he
    obtain⟨e',rR,rfl⟩:=he
    simpa using g4 e' rR
  ·obtain⟨hi,r1,yN,rfl⟩:=live hr
   obtain⟨hj,r2,cR,rfl⟩:=live hs
   exact hI.apart i j r1 r2 g yN cR
 refine⟨⟨{ DJ c [id]with rows:=sP c.rows id },rfl,rfl,fF,hI2,fun s=>?_,fun p hp=>aK.tB hA _ _ (aK.tB (lK c [id]) _ _ (hG p hp))⟩,h7,h8⟩
 show aK _ (fa (l.map fun p=>(p.1,G1 c.rows id p.2)) s) _
 rw [←aa6 (g:=G1 c.rows id) EY]
 exact aK.tB hA _ _ (SV hI hp (hf s))
theorem W.zV{E:Env}{n:Nat}{tl:Nat→Nat}{Q:PX→PS→Prop}{c:Code}{l:List (Nat × PV)}{rows:Rows}{clk:Nat}(id:Nat)(hp:cX (rows id))(h:∀K:PS→Prop,(∀σ,W E n tl c Q σ→K σ)→K ⟨fa (l.map fun p=>(p.1,G1 rows id p.2)),sP rows id,clk⟩):W E n tl c Q ⟨fa l,rows,clk⟩:=W.ghost (PC id hp) (h _ fun _ h=>h)
end Pm

namespace Pm
open Go
theorem bO(l:List Nat){E:Env}{n:Nat}{tl:Nat→Nat}{c:Code}{Q:PX→PS→Prop}{f:Nat→PV}{rows:Rows}{clk:Nat}{X:Prop}(hX:X)(h:X→aW (Bx.mk (P:=W E n tl c Q)) ⟨fa (l.map fun i=>(i,f i)),rows,clk⟩:=by intro hX;simp;exact hX):aW (Bx.mk (P:=W E n tl c Q)) ⟨f,rows,clk⟩:=W.lx l (h hX)
theorem j4{X G:Prop}(hX:X)(h:X→G:=by intro hX;refine W.sr ?_;simp (disch:=omega) [gw];exact hX):G:=h hX
theorem kB{X G:Prop}(hX:X)(h:X→G:=by intro hX;refine W.sd ?_;simp (disch:=omega) [gw];exact hX):G:=h hX
theorem b8{P X G:Prop}(hP:P)(hX:X)(h:P→X→G:=by intro hP hX;refine aD hP ?_;simp (disch:=omega) [gw];exact hX):G:=h hP hX
section
variable (l:List Nat) {E:Env} {n:Nat} {tl:Nat→Nat} {c:Code} {Q:PX→PS→Prop} {f:Nat→PV} {rows:Rows} {clk:Nat} {P X G:Prop}
theorem aA(hX:X)(h1:aW (Bx.mk (P:=W E n tl c Q)) ⟨f,rows,clk⟩→G:=by intro hY;refine W.sr ?_;simp (disch:=omega) [gw];exact hY)(h2:X→aW (Bx.mk (P:=W E n tl c Q)) ⟨fa (l.map fun i=>(i,f i)),rows,clk⟩:=by intro hX;simp;exact hX):G:=h1 (W.lx l (h2 hX))
theorem aM(hX:X)(h1:aW (Bx.mk (P:=W E n tl c Q)) ⟨f,rows,clk⟩→G:=by intro hY;refine W.seq ?_;refine W.sr ?_;simp (disch:=omega) [gw];exact hY)(h2:X→aW (Bx.mk (P:=W E n tl c Q)) ⟨fa (l.map fun i=>(i,f i)),rows,clk⟩:=by intro hX;simp;exact hX):G:=h1 (W.lx l (h2 hX))
theorem cC(hX:X)(h1:aW (Bx.mk (P:=W E n tl c Q)) ⟨f,rows,clk⟩→G:=by intro hY;refine W.sr ?_;simp (disch:=omega) [gw];exact hY)(h2:X→aW (Bx.mk (P:=W E n tl c Q)) ⟨fa (l.map fun i=>(i,f i)),rows,clk⟩:=by intro hX;simp;refine W.seq ?_;exact hX):G:=h1 (W.lx l (h2 hX))
theorem aY(hP:P)(hX:X)(h1:P→aW (Bx.mk (P:=W E n tl c Q)) ⟨f,rows,clk⟩→G:=by intro hP hY;refine W.sr ?_;simp (disch:=omega) [gw];refine aD hP ?_;simp (disch:=omega) [gw];exact hY)(h2:X→aW (Bx.mk (P:=W E n tl c Q)) ⟨fa (l.map fun i=>(i,f i)),rows,clk⟩:=by intro hX;simp;exact hX):G:=h1 hP (W.lx l (h2 hX))
theorem cI(hP:P)(hX:X)(h1:P→aW (Bx.mk (P:=W E n tl c Q)) ⟨f,rows,clk⟩→G:=by intro hP hY;refine aD hP ?_;simp (disch:=omega) [gw];exact hY)(h2:X→aW (Bx.mk (P:=W E n tl c Q)) ⟨fa (l.map fun i=>(i,f i)),rows,clk⟩:=by intro hX;simp;exact hX):G:=h1 hP (W.lx l (h2 hX))
end
theorem bP{X Y G:Prop}(hX:X)(hY:Y)(h:X→Y→G:=by intro hX hY;refine W.cond ⟨_,rfl,?_,?_⟩;exact hX;exact hY):G:=h hX hY
theorem eJ{X G:Prop}(hX:X)(h:X→G:=by intro hX;refine W.exit ?_;simp only [pX,if_true,if_false,reduceIte,Nat.reduceEqDiff];exact hX):G:=h hX
theorem cP{G:Prop}(h:G:=by refine W.ret ?_;simp [go]):G:=h
theorem iT{X G:Prop}(hX:X)(h:X→G:=by intro hX;refine W.skip ?_;refine W.seq ?_;refine W.block ?_;exact hX):G:=h hX
end Pm
