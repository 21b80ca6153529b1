import Derived.Test.YtiobceocpabjdaaGreatZac
set_option linter.unusedSimpArgs false
set_option linter.unusedVariables false
namespace Pm
open Go Go.RowKit
def emap{α:Type}(g:α→List PV)(l:List α):List (List PV):=l.map g
def aN{α:Type}(g:α→List PV)(l:List α):PV:=.sl (emap g l)
def nth{α:Type}[Inhabited α](l:List α)(i:Nat):α:=l[i]?.getD default
def Enc{α:Type}(g:α→List PV)(n:Nat):Prop:=∀x,(g x).length=n
def aqY{α:Type}(g:α→List PV):Prop:=∀x,(g x).all bI=true
def bR(o:Option Row)(ver:Nat)(K:Row→Prop):Prop:=∃r,o=some r∧r.ver=ver∧K r
@[congr] theorem aeS{o o':Option Row}{ver:Nat}{K:Row→Prop}(h:o=o'):bR o ver K=bR o' ver K:=by rw [h]
@[simp] theorem afD{r:Row}{ver:Nat}{K:Row→Prop}:bR (some r) ver K=aH (r.ver=ver) (K r):=by simp [bR,aH]
def FK(els:List (List PV))(i:Nat)(K:List PV→Prop):Prop:=∃el,els[i]? = some el∧K el
@[congr] theorem aoG{l l':List (List PV)}{i i':Nat}{K:List PV→Prop}(h:l=l')(hi:i=i'):FK l i K=FK l' i' K:=by rw [h,hi]
@[simp] theorem LG{α:Type}[Inhabited α]{g:α→List PV}{l:List α}{i:Nat}{K:List PV→Prop}:FK (emap g l) i K=aH (i<l.length) (K (g (nth l i))):=by
 simp only [FK,emap,aH,nth]
 apply propext
 constructor
 ·rintro⟨el,h1,h2⟩
  simp at h1
  obtain⟨x,h1,rfl⟩:=h1
  have:=(List.getElem?_eq_some_iff.1 h1).1
  rw [h1]
  exact⟨this,h2⟩
 ·rintro⟨h1,h2⟩
  rw [List.getElem?_eq_getElem h1]at h2
  exact⟨g l[i],by simp [h1],h2⟩
@[simp] theorem aqZ{e:List PV}{es:List (List PV)}{K:List PV→Prop}:FK (e::es) 0 K=go (K e):=by show _=K e;simp [FK]
@[simp] theorem aq0{e:List PV}{es:List (List PV)}{i:Nat}{K:List PV→Prop}:FK (e::es) (i+1) K=FK es i K:=by simp [FK]
def mA{α:Type}(l:List α)(i:Nat):Option α:=l[i]?
@[simp] theorem aoH{α:Type}{x:α}{l:List α}:mA (x::l) 0=some x:=rfl
@[simp] theorem aoI{α:Type}{x:α}{l:List α}{n:Nat}:mA (x::l) (n+1)=mA l n:=rfl
def fY{α:Type}(o:Option α)(K:α→Prop):Prop:=∃v,o=some v∧K v
@[congr] theorem ak8{α:Type}{o o':Option α}{K:α→Prop}(h:o=o'):fY o K=fY o' K:=by rw [h]
@[simp] theorem aoJ{α:Type}{x:α}{K:α→Prop}:fY (some x) K=go (K x):=by show _=K x;simp [fY]
def yN(ti:TI)(l:List PV)(j:Nat)(K:PV→Prop):Prop:=if ti.agg=true then aH (j+ti.size≤l.length) (K (.ag ((l.drop j).take ti.size)))else fY (mA l j) K
@[congr] theorem aoK{t t':TI}{l l':List PV}{j:Nat}{K:PV→Prop}(h1:t=t')(h2:l=l'):yN t l j K=yN t' l' j K:=by rw [h1,h2]
@[simp] theorem avc{k:IntKind}{l:List PV}{j:Nat}{K:PV→Prop}:yN (.int k) l j K=fY (mA l j) K:=by simp [yN,TI.agg]
@[simp] theorem aq1{l:List PV}{j:Nat}{K:PV→Prop}:yN .bool l j K=fY (mA l j) K:=by simp [yN,TI.agg]
@[simp] theorem avd{l:List PV}{j:Nat}{K:PV→Prop}:yN .str l j K=fY (mA l j) K:=by simp [yN,TI.agg]
@[simp] theorem aoL{e n b:Nat}{z:List PV}{l:List PV}{j:Nat}{K:PV→Prop}:yN (.slice e n b z) l j K=fY (mA l j) K:=by simp [yN,TI.agg]
@[simp] theorem ave{e m n:Nat}{z:List PV}{l:List PV}{j:Nat}{K:PV→Prop}:yN (.arr e m n z) l j K=aH (j+z.length≤l.length) (K (.ag ((l.drop j).take z.length))):=by simp [yN,TI.agg,TI.size,TI.zero]
@[simp] theorem aq2{l:List PV}{j:Nat}{K:PV→Prop}:yN .AX l j K=fY (mA l j) K:=by simp [yN,TI.agg]
@[simp] theorem avf{l:List PV}{j:Nat}{K:PV→Prop}:yN .fnT l j K=fY (mA l j) K:=by simp [yN,TI.agg]
@[simp] theorem ak9{fs:List (Nat × Nat × Bool)}{z:List PV}{l:List PV}{j:Nat}{K:PV→Prop}:yN (.struct fs z) l j K=aH (j+z.length≤l.length) (K (.ag ((l.drop j).take z.length))):=by simp [yN,TI.agg,TI.size,TI.zero]
def lF(E:Env)(t:TypeId)(rows:Rows)(p:PV)(K:PV→Prop):Prop:=
 aH ((E.ty t).known=true) (match p with
 | .rd l=>yN (E.ty t) l 0 K
 | .ptr id ver i j=>bR (rows id) ver fun r=>FK r.els i fun el=>yN (E.ty t) el j K
 | _=>False)
@[congr] theorem afE{E:Env}{t:TypeId}{rows:Rows}{p p':PV}{K:PV→Prop}(h:p=p'):lF E t rows p K=lF E t rows p' K:=by rw [h]
@[simp] theorem aoM{E:Env}{t:TypeId}{rows:Rows}{l:List PV}{K:PV→Prop}:lF E t rows (.rd l) K=aH ((E.ty t).known=true) (yN (E.ty t) l 0 K):=rfl
@[simp] theorem ala{E:Env}{t:TypeId}{rows:Rows}{id ver i j:Nat}{K:PV→Prop}:lF E t rows (.ptr id ver i j) K=aH ((E.ty t).known=true) (bR (rows id) ver fun r=>FK r.els i fun el=>yN (E.ty t) el j K):=rfl
theorem LH{ti:TI}{l:List PV}{j:Nat}{K:PV→Prop}:aX (fun v=>if ti.agg=true then j+ti.size≤l.length∧v = .ag ((l.drop j).take ti.size)else l[j]? = some v) K=yN ti l j K:=by
 simp only [yN,fY]
 split
 ·rw [jU,kC]
 ·rfl
theorem tX{E:Env}{t:TypeId}{rows:Rows}{p:PV}{K:PV→Prop}:aX (fun v=>tA E t rows p v) K=lF E t rows p K:=by
 simp only [tA,lF]
 rw [jU]
 congr 1
 cases p with
 | rd l=>dsimp only;rw [←LH];simp [go]
 | ptr id ver i j =>
  simp only [bR,FK,←LH]
  apply propext;simp only [aX]
  constructor
  ·rintro⟨v,⟨r,h1,h2,el,h3,h4⟩,h5⟩;exact⟨r,h1,h2,el,h3,v,h4,h5⟩
  ·rintro⟨r,h1,h2,el,h3,v,h4,h5⟩;exact⟨v,⟨r,h1,h2,el,h3,h4⟩,h5⟩
 | _=>simp [aX]
def kE(ti:TI)(i:Nat)(x:PV)(K:PV→Prop):Prop:=
 match ti with
 | .struct fs _=>fY (mA fs i) fun p=>match x with
  | .ag l=>if p.2.2=true then K (.ag ((l.drop p.1).take p.2.1))else fY (mA l p.1) K
  | _=>False
 | _=>False
@[congr] theorem aeT{t t':TI}{i:Nat}{x x':PV}{K:PV→Prop}(h:t=t')(h2:x=x'):kE t i x K=kE t' i x' K:=by rw [h,h2]
def HX(p:Nat × Nat × Bool)(l:List PV)(K:PV→Prop):Prop:=if p.2.2=true then K (.ag ((l.drop p.1).take p.2.1))else fY (mA l p.1) K
@[simp] theorem aoN{o n:Nat}{l:List PV}{K:PV→Prop}:HX (o,n,true) l K=go (K (.ag ((l.drop o).take n))):=by show _=K _;simp [HX]
@[simp] theorem alb{o n:Nat}{l:List PV}{K:PV→Prop}:HX (o,n,false) l K=fY (mA l o) K:=by simp [HX]
@[congr] theorem alc{p p':Nat × Nat × Bool}{l l':List PV}{K:PV→Prop}(h:p=p')(h2:l=l'):HX p l K=HX p' l' K:=by rw [h,h2]
@[simp] theorem ald{fs:List (Nat × Nat × Bool)}{z:List PV}{i:Nat}{l:List PV}{K:PV→Prop}:kE (.struct fs z) i (.ag l) K=fY (mA fs i) fun p=>HX p l K:=rfl
theorem yO{E:Env}{t:TypeId}{i:Nat}{x:PV}{K:PV→Prop}:aX (fun v=>tQ E t i x v) K=kE (E.ty t) i x K:=by
 simp only [tQ,kE]
 cases E.ty t with
 | struct fs z =>
  simp only [fY]
  apply propext;simp only [aX]
  cases x with
  | ag l =>
   simp only
   constructor
   ·rintro⟨v,⟨o,n,b,h1,h2⟩,h3⟩
    refine⟨_,h1,?_⟩
    simp only
    split at h2
    ·rename_i hb;rw [if_pos hb,←h2];exact h3
    ·rename_i hb;rw [if_neg hb];exact⟨v,h2,h3⟩
   ·rintro⟨⟨o,n,b⟩,h1,h2⟩
    simp only at h2
    split at h2
    ·rename_i hb;exact⟨_,⟨o,n,b,h1,by rw [if_pos hb]⟩,h2⟩
    ·rename_i hb;obtain⟨v,h3,h4⟩:=h2;exact⟨v,⟨o,n,b,h1,by rw [if_neg hb];exact h3⟩,h4⟩
  | _=>simp
 | _=>simp [aX]
def dV(ti:TI)(rows:Rows)(i:Nat)(x:PV)(K:PV→Prop):Prop:=
 match ti with
 | .struct fs _=>fY (mA fs i) fun p=>match x with
  | .rd l=>aH (p.1≤l.length) (K (.rd (l.drop p.1)))
  | .ptr id ver a j=>bR (rows id) ver fun _=>K (.ptr id ver a (j+p.1))
  | _=>False
 | _=>False
@[congr] theorem T6{t t':TI}{rows:Rows}{i:Nat}{x x':PV}{K:PV→Prop}(h:t=t')(h2:x=x'):dV t rows i x K=dV t' rows i x' K:=by rw [h,h2]
@[simp] theorem abB{fs:List (Nat × Nat × Bool)}{z:List PV}{rows:Rows}{i:Nat}{l:List PV}{K:PV→Prop}:dV (.struct fs z) rows i (.rd l) K=fY (mA fs i) fun p=>aH (p.1≤l.length) (K (.rd (l.drop p.1))):=rfl
@[simp] theorem aas{fs:List (Nat × Nat × Bool)}{z:List PV}{rows:Rows}{i id ver a j:Nat}{K:PV→Prop}:dV (.struct fs z) rows i (.ptr id ver a j) K=fY (mA fs i) fun p=>bR (rows id) ver fun _=>K (.ptr id ver a (j+p.1)):=rfl
theorem p9{E:Env}{t:TypeId}{rows:Rows}{i:Nat}{x:PV}{K:PV→Prop}:aX (fun v=>fV E t rows i x v) K=dV (E.ty t) rows i x K:=by
 simp only [fV,dV]
 cases E.ty t with
 | struct fs z =>
  simp only [fY]
  apply propext;simp only [aX]
  cases x with
  | rd l =>
   simp only [aH]
   constructor
   ·rintro⟨v,⟨o,n,b,h1,h2,rfl⟩,h3⟩;exact⟨_,h1,h2,h3⟩
   ·rintro⟨⟨o,n,b⟩,h1,h2,h3⟩;exact⟨_,⟨o,n,b,h1,h2,rfl⟩,h3⟩
  | ptr id ver a j =>
   simp only [bR]
   constructor
   ·rintro⟨v,⟨o,n,b,h1,⟨r,h2,h3⟩,rfl⟩,h4⟩;exact⟨_,h1,r,h2,h3,h4⟩
   ·rintro⟨⟨o,n,b⟩,h1,r,h2,h3,h4⟩;exact⟨_,⟨o,n,b,h1,⟨r,h2,h3⟩,rfl⟩,h4⟩
  | _=>simp
 | _=>simp [aX]
def bH(n:Nat)(l:List (List PV)):Prop:=∀e∈l,e.length=n
@[simp] theorem cH{α:Type}{g:α→List PV}{n:Nat}{l:List α}:(Enc g n)→bH n (emap g l)=True:=by
 intro h
 simp only [bH,emap,List.mem_map,eq_iff_iff,iff_true]
 rintro e ⟨x,_,rfl⟩
 exact h x
@[simp] theorem ale{n:Nat}:bH n []=True:=by simp [bH]
@[simp] theorem aiB{n:Nat}{e:List PV}{l:List (List PV)}:bH n (e::l)=(e.length=n∧bH n l):=by simp [bH]
def cN(ti:TI)(rows:Rows)(x ix:PV)(K:PV→Prop):Prop:=
 match ti,ix with
 | .slice _ n _ _, .int _ k=>aH (0≤k) (match x with
  | .sl l=>aH (bH n l) (FK l k.toNat fun el=>K (.rd el))
  | .iK l=>aH (bH n l) (FK l k.toNat fun el=>K (.rd el))
  | .own id ver off len=>bR (rows id) ver fun r=>aH (r.size=n∧k.toNat<len) (K (.ptr id ver (off+k.toNat) 0))
  | _=>False)
 | .arr _ m n _, .int _ k=>aH (0≤k∧k.toNat<m) (match x with
  | .rd l=>aH (k.toNat*n≤l.length) (K (.rd (l.drop (k.toNat*n))))
  | .ptr id ver a j=>bR (rows id) ver fun _=>K (.ptr id ver a (j+k.toNat*n))
  | _=>False)
 | _,_=>False
@[congr] theorem T7{t t':TI}{rows:Rows}{x x' y y':PV}{K:PV→Prop}(h:t=t')(h2:x=x')(h3:y=y'):cN t rows x y K=cN t' rows x' y' K:=by rw [h,h2,h3]
section
variable {α:Type} [Inhabited α] {g:α→List PV} {l:List α} {e n b:Nat} {z:List PV} {rows:Rows} {kk:IntKind} {k:Int} {K:PV→Prop} {els:List (List PV)} {id ver off len:Nat}
@[simp] theorem aat:cN (.slice e n b z) rows (aN g l) (.int kk k) K=aH (0≤k∧k.toNat<l.length) (aH (bH n (emap g l)) (K (.rd (g (nth l k.toNat))))):=by
 simp only [cN,aN,LG,aH,and_assoc]
 apply propext
 constructor
 ·rintro⟨h1,h2,h3,h4⟩;exact⟨h1,h3,h2,h4⟩
 ·rintro⟨h1,h2,h3,h4⟩;exact⟨h1,h3,h2,h4⟩
@[simp] theorem abC:cN (.slice e n b z) rows (.sl els) (.int kk k) K=aH (0≤k) (aH (bH n els) (FK els k.toNat fun el=>K (.rd el))):=rfl
@[simp] theorem aau:cN (.slice e n b z) rows (.iK els) (.int kk k) K=aH (0≤k) (aH (bH n els) (FK els k.toNat fun el=>K (.rd el))):=rfl
@[simp] theorem aav{m:Nat}{l:List PV}:cN (.arr e m n z) rows (.rd l) (.int kk k) K=aH (0≤k∧k.toNat<m) (aH (k.toNat*n≤l.length) (K (.rd (l.drop (k.toNat*n))))):=rfl
@[simp] theorem XM{m a j:Nat}:cN (.arr e m n z) rows (.ptr id ver a j) (.int kk k) K=aH (0≤k∧k.toNat<m) (bR (rows id) ver fun _=>K (.ptr id ver a (j+k.toNat*n))):=rfl
@[simp] theorem aaw:cN (.slice e n b z) rows (.own id ver off len) (.int kk k) K=aH (0≤k) (bR (rows id) ver fun r=>aH (r.size=n∧k.toNat<len) (K (.ptr id ver (off+k.toNat) 0))):=rfl
end
theorem qA{E:Env}{t:TypeId}{rows:Rows}{x ix:PV}{K:PV→Prop}:aX (fun v=>fW E t rows x ix v) K=cN (E.ty t) rows x ix K:=by
 simp only [fW,cN]
 cases E.ty t with
 | slice e n b z =>
  cases ix with
  | int kk k =>
   simp only
   rw [jU]
   congr 1
   cases x with
   | sl l =>
    simp only [aH,FK,bH]
    apply propext;simp only [aX]
    constructor
    ·rintro⟨v,⟨el,h1,h2,rfl⟩,h4⟩;exact⟨h2,el,h1,h4⟩
    ·rintro⟨h2,el,h1,h4⟩;exact⟨_,⟨el,h1,h2,rfl⟩,h4⟩
   | iK l =>
    simp only [aH,FK,bH]
    apply propext;simp only [aX]
    constructor
    ·rintro⟨v,⟨el,h1,h2,rfl⟩,h4⟩;exact⟨h2,el,h1,h4⟩
    ·rintro⟨h2,el,h1,h4⟩;exact⟨_,⟨el,h1,h2,rfl⟩,h4⟩
   | own id ver off len =>
    simp only [aH,bR]
    apply propext;simp only [aX]
    constructor
    ·rintro⟨v,⟨r,h1,h2,h3,h4,rfl⟩,h5⟩;exact⟨r,h1,h2,⟨h3,h4⟩,h5⟩
    ·rintro⟨r,h1,h2,⟨h3,h4⟩,h5⟩;exact⟨_,⟨r,h1,h2,h3,h4,rfl⟩,h5⟩
   | _=>simp [aX]
  | _=>simp [aX]
 | arr e m n z =>
  cases ix with
  | int kk k =>
   simp only
   rw [jU]
   congr 1
   cases x with
   | rd l =>
    simp only
    rw [jU,kC]
   | ptr id ver a j =>
    simp only [bR]
    apply propext;simp only [aX]
    constructor
    ·rintro⟨v,⟨⟨r,h1,h2⟩,rfl⟩,h3⟩;exact⟨r,h1,h2,h3⟩
    ·rintro⟨r,h1,h2,h3⟩;exact⟨_,⟨⟨r,h1,h2⟩,rfl⟩,h3⟩
   | _=>simp [aX]
  | _=>simp [aX]
 | _=>simp [aX]
def yP(d:Nat)(o:Option PV)(K:Nat→Prop):Prop:=
 match o with
 | none=>K d
 | some (.int _ k)=>aH (0≤k) (K k.toNat)
 | some _=>False
@[congr] theorem aoO{d d':Nat}{o o':Option PV}{K:Nat→Prop}(h:d=d')(h2:o=o'):yP d o K=yP d' o' K:=by rw [h,h2]
@[simp] theorem aq3{d:Nat}{K:Nat→Prop}:yP d none K=go (K d):=rfl
@[simp] theorem aq4{d:Nat}{kk:IntKind}{k:Int}{K:Nat→Prop}:yP d (some (.int kk k)) K=aH (0≤k) (K k.toNat):=rfl
theorem QV{d:Nat}{o:Option PV}{K:Nat→Prop}:yP d o K ↔ ∃n,uV d o n∧K n:=by
 cases o with
 | none=>simp [yP,uV]
 | some p =>
  cases p with
  | int kk k =>
   simp only [yP,uV,aH]
   constructor
   ·rintro⟨h1,h2⟩;exact⟨_,⟨h1,rfl⟩,h2⟩
   ·rintro⟨n,⟨h1,rfl⟩,h2⟩;exact⟨h1,h2⟩
  | _=>simp [yP,uV]
def XN{α:Type}(mk mkx:List α→PV)(n:Nat)(l:List α)(ok:Prop)(lo hi mx:Option PV)(K:PV→Prop):Prop:=
 yP 0 lo fun a=>yP l.length hi fun b=>aH (a≤b∧b≤l.length) (aH ok (match mx with
  | none=>K (mk ((l.take b).drop a))
  | some m=>yP 0 (some m) fun c=>aH (b=c∧hi.isSome=true) (K (mkx ((l.take b).drop a)))))
def gE(ti:TI)(rows:Rows)(x:PV)(lo hi mx:Option PV)(K:PV→Prop):Prop:=
 match ti with
 | .slice _ n _ _ =>
  match x with
  | .nil=>yP 0 lo fun a=>yP 0 hi fun b=>aH (a=0∧b=0∧mx.isNone=true) (K .nil)
  | .sl l=>XN .sl .iK n l (bH n l) lo hi mx K
  | .iK l=>XN .sl .iK n l (bH n l) lo hi mx K
  | .own id ver off len=>bR (rows id) ver fun r=>aH (r.size=n) (yP 0 lo fun a=>yP len hi fun b=>aH (a≤b∧b≤len∧mx.isNone=true) (K (.own id ver (off+a) (b-a))))
  | _=>False
 | _=>False
@[congr] theorem aeU{t t':TI}{rows:Rows}{x x':PV}{lo lo' hi lV mx mx':Option PV}{K:PV→Prop}(h:t=t')(h2:x=x')(h3:lo=lo')(h4:hi=lV)(h5:mx=mx'):gE t rows x lo hi mx K=gE t' rows x' lo' lV mx' K:=by rw [h,h2,h3,h4,h5]
section
variable {α:Type} {g:α→List PV} {l:List α} {e n b:Nat} {z:List PV} {rows:Rows} {lo hi mx:Option PV} {K:PV→Prop} {els:List (List PV)} {id ver off len:Nat}
theorem LI{a b:Nat}:((emap g l).take b).drop a=emap g ((l.take b).drop a):=by simp [emap]
@[simp] theorem aiC:gE (.slice e n b z) rows (aN g l) lo hi none K=yP 0 lo fun a=>yP l.length hi fun b=>aH (a≤b∧b≤l.length) (aH (bH n (emap g l)) (K (aN g ((l.take b).drop a)))):=by
 simp only [gE,aN,XN,LI]
 simp [emap]
theorem HY{m:PV}:gE (.slice e n b z) rows (aN g l) lo hi (some m) K=yP 0 lo fun a=>yP l.length hi fun b=>aH (a≤b∧b≤l.length) (aH (bH n (emap g l)) (yP 0 (some m) fun c=>aH (b=c∧hi.isSome=true) (K (.iK (emap g ((l.take b).drop a)))))):=by
 simp only [gE,aN,XN,LI]
 simp [emap]
@[simp] theorem aiD:gE (.slice e n b z) rows .nil lo hi mx K=yP 0 lo fun a=>yP 0 hi fun b=>aH (a=0∧b=0∧mx.isNone=true) (K .nil):=rfl
@[simp] theorem aiE:gE (.slice e n b z) rows (.own id ver off len) lo hi mx K=bR (rows id) ver fun r=>aH (r.size=n) (yP 0 lo fun a=>yP len hi fun b=>aH (a≤b∧b≤len∧mx.isNone=true) (K (.own id ver (off+a) (b-a)))):=rfl
end
theorem T8{l:List (List PV)}{n:Nat}{lo hi mx:Option PV}{K:PV→Prop}:(∃v,(∃a b,uV 0 lo a∧uV l.length hi b∧a≤b∧b≤l.length∧(∀e∈l,e.length=n)∧O7 l a b hi mx v)∧K v)↔XN .sl .iK n l (bH n l) lo hi mx K:=by
 simp only [XN,QV,aH,bH,O7]
 constructor
 ·rintro⟨v,⟨a,b,h1,h2,h3,h4,h5,h6⟩,h7⟩
  refine⟨a,h1,b,h2,⟨h3,h4⟩,h5,?_⟩
  cases mx with
  | none=>simp only at h6 ⊢;rw [←h6];exact h7
  | some m=>obtain⟨c,q1,q2,q3,rfl⟩:=h6;exact⟨c,q1,⟨q2,q3⟩,h7⟩
 ·rintro⟨a,h1,b,h2,⟨h3,h4⟩,h5,h6⟩
  cases mx with
  | none=>exact⟨_,⟨a,b,h1,h2,h3,h4,h5,rfl⟩,h6⟩
  | some m=>obtain⟨c,q1,⟨q2,q3⟩,h7⟩:=h6;exact⟨_,⟨a,b,h1,h2,h3,h4,h5,c,q1,q2,q3,rfl⟩,h7⟩
theorem yQ{E:Env}{t:TypeId}{rows:Rows}{x:PV}{lo hi mx:Option PV}{K:PV→Prop}:aX (fun v=>oF E t rows x lo hi mx v) K=gE (E.ty t) rows x lo hi mx K:=by
 simp only [oF,gE]
 cases E.ty t with
 | slice e n b z =>
  cases x with
  | sl l=>exact propext T8
  | iK l=>exact propext T8
  | nil =>
   simp only [QV,aH]
   apply propext;simp only [aX]
   constructor
   ·rintro⟨v,⟨a,b,h1,h2,h3,h4,h5,rfl⟩,h6⟩;exact⟨a,h1,b,h2,⟨h3,h4,h5⟩,h6⟩
   ·rintro⟨a,h1,b,h2,⟨h3,h4,h5⟩,h6⟩;exact⟨_,⟨a,b,h1,h2,h3,h4,h5,rfl⟩,h6⟩
  | own id ver off len =>
   simp only [QV,aH,bR]
   apply propext;simp only [aX]
   constructor
   ·rintro⟨v,⟨r,q1,q2,q3,a,b,h1,h2,h3,h4,h5,rfl⟩,h6⟩;exact⟨r,q1,q2,q3,a,h1,b,h2,⟨h3,h4,h5⟩,h6⟩
   ·rintro⟨r,q1,q2,q3,a,h1,b,h2,⟨h3,h4,h5⟩,h6⟩;exact⟨_,⟨r,q1,q2,q3,a,b,h1,h2,h3,h4,h5,rfl⟩,h6⟩
  | _=>simp [aX]
 | _=>simp [aX]
def tL(rows:Rows)(x:PV)(K:PV→Prop):Prop:=
 match x with
 | .rd l=>K (.rd l)
 | .ptr id ver i j=>bR (rows id) ver fun _=>K (.ptr id ver i j)
 | _=>False
@[congr] theorem aiF{rows:Rows}{x x':PV}{K:PV→Prop}(h:x=x'):tL rows x K=tL rows x' K:=by rw [h]
@[simp] theorem aq5{rows:Rows}{l:List PV}{K:PV→Prop}:tL rows (.rd l) K=go (K (.rd l)):=rfl
@[simp] theorem aoP{rows:Rows}{id ver i j:Nat}{K:PV→Prop}:tL rows (.ptr id ver i j) K=bR (rows id) ver fun _=>K (.ptr id ver i j):=rfl
theorem FL{rows:Rows}{x:PV}{K:PV→Prop}:aX (fun v=>EA rows x v) K=tL rows x K:=by
 simp only [EA,tL]
 cases x with
 | rd l=>dsimp only;rw [kC]
 | ptr id ver i j =>
  simp only [bR]
  apply propext;simp only [aX]
  constructor
  ·rintro⟨v,⟨⟨r,h1,h2⟩,rfl⟩,h3⟩;exact⟨r,h1,h2,h3⟩
  ·rintro⟨r,h1,h2,h3⟩;exact⟨_,⟨⟨r,h1,h2⟩,rfl⟩,h3⟩
 | _=>simp [aX]
def mF(ti:TI)(rows:Rows)(x:PV)(K:PV→Prop):Prop:=
 match ti with
 | .slice _ _ _ _=>match x with
  | .nil=>K (.int .i64 0)
  | .sl l=>K (.int .i64 l.length)
  | .iK l=>K (.int .i64 l.length)
  | .own id ver _ len=>bR (rows id) ver fun _=>K (.int .i64 len)
  | _=>False
 | _=>False
@[congr] theorem aiG{t t':TI}{rows:Rows}{x x':PV}{K:PV→Prop}(h:t=t')(h2:x=x'):mF t rows x K=mF t' rows x' K:=by rw [h,h2]
section
variable {α:Type} {g:α→List PV} {l:List α} {e n b:Nat} {z:List PV} {rows:Rows} {K:PV→Prop} {els:List (List PV)} {id ver off len:Nat}
@[simp] theorem aoQ:mF (.slice e n b z) rows (aN g l) K=go (K (.int .i64 l.length)):=by show _=K _;simp [mF,aN,emap]
@[simp] theorem aoR:mF (.slice e n b z) rows .nil K=go (K (.int .i64 0)):=rfl
@[simp] theorem aq6:mF (.slice e n b z) rows (.sl els) K=go (K (.int .i64 els.length)):=rfl
@[simp] theorem aoS:mF (.slice e n b z) rows (.iK els) K=go (K (.int .i64 els.length)):=rfl
@[simp] theorem aoT:mF (.slice e n b z) rows (.own id ver off len) K=bR (rows id) ver fun _=>K (.int .i64 len):=rfl
end
theorem FM{ti:TI}{rows:Rows}{x:PV}{K:PV→Prop}:aX (fun v=>yC ti rows x v) K=mF ti rows x K:=by
 simp only [yC,mF]
 cases ti with
 | slice e n b z =>
  apply propext;simp only [aX,WR]
  cases x with
  | own id ver off len =>
   simp only [bR]
   constructor
   ·rintro⟨v,⟨n,⟨⟨r,h1,h2⟩,rfl⟩,rfl⟩,h4⟩;exact⟨r,h1,h2,h4⟩
   ·rintro⟨r,h1,h2,h4⟩;exact⟨_,⟨_,⟨⟨r,h1,h2⟩,rfl⟩,rfl⟩,h4⟩
  | _=>simp
 | _=>simp [aX]
def gZ(els:List (List PV))(i j:Nat)(l:List PV):List (List PV):=els.set i (((els[i]?).getD []).take j++l++((els[i]?).getD []).drop (j+l.length))
def tM(els:List (List PV))(i n:Nat):Prop:=∃el,els[i]? = some el∧n≤el.length
def iD(rows:Rows)(l:List PV):Prop:=∀q∈l,iM rows q
@[simp] theorem alg{rows:Rows}:iD rows []=True:=by simp [iD]
@[simp] theorem aiH{rows:Rows}{p:PV}{l:List PV}:iD rows (p::l)=(iM rows p∧iD rows l):=by simp [iD]
@[simp] theorem alh{α:Type}[Inhabited α]{g:α→List PV}{l:List α}{i n:Nat}:tM (emap g l) i n=(i<l.length∧n≤(g (nth l i)).length):=by
 exact LG (g:=g) (l:=l) (i:=i) (K:=fun el=>n≤el.length)
def kF(E:Env)(t:TypeId)(rows:Rows)(p x:PV)(K:Nat→Row→Prop):Prop:=
 aH ((E.ty t).known=true) (match p with
 | .ptr id ver i j=>bR (rows id) ver fun r=>fY (cE x) fun l=>aH (tM r.els i (j+l.length)∧iD rows l∧l.length=(E.ty t).size) (K id ⟨ver,r.e,r.size,gZ r.els i j l⟩)
 | _=>False)
@[congr] theorem aeV{E:Env}{t:TypeId}{rows:Rows}{p p' x x':PV}{K:Nat→Row→Prop}(h1:p=p')(h2:x=x'):kF E t rows p x K=kF E t rows p' x' K:=by rw [h1,h2]
@[simp] theorem aiI{E:Env}{t:TypeId}{rows:Rows}{id ver i j:Nat}{x:PV}{K:Nat→Row→Prop}:kF E t rows (.ptr id ver i j) x K=aH ((E.ty t).known=true) (bR (rows id) ver fun r=>fY (cE x) fun l=>aH (tM r.els i (j+l.length)∧iD rows l∧l.length=(E.ty t).size) (K id ⟨ver,r.e,r.size,gZ r.els i j l⟩)):=rfl
theorem FN{E:Env}{t:TypeId}{rows:Rows}{p x:PV}{K:Nat→Row→Prop}:(∃id r,qR E t rows p x .undef (some (id,r))∧K id r)=kF E t rows p x K:=by
 simp only [qR,kF,aH,bR,fY,tM,iD]
 apply propext
 constructor
 ·rintro⟨id,r,⟨h1,_,h2⟩,h3⟩
  refine⟨h1,?_⟩
  split at h2
  ·obtain⟨r0,q1,q2,el,q3,l,q4,q5,q6,q7,q8⟩:=h2
   simp only [Option.some.injEq,Prod.mk.injEq]at q8
   obtain⟨rfl,rfl⟩:=q8
   refine⟨r0,q1,q2,l,q4,⟨⟨el,q3,q7⟩,q5,q6⟩,?_⟩
   simp only [gZ,q3,Option.getD_some]
   rw [q2]at h3
   exact h3
  ·exact h2.elim
 ·rintro⟨h1,h2⟩
  split at h2
  ·obtain⟨r0,q1,q2,l,q4,⟨⟨el,q3,q7⟩,q5,q6⟩,h3⟩:=h2
   simp only [gZ,q3,Option.getD_some]at h3
   refine⟨_,_,⟨h1,trivial,r0,q1,q2,el,q3,l,q4,q5,q6,q7,rfl⟩,?_⟩
   rw [←q2]at h3
   exact h3
  ·exact h2.elim
def kG(rows:Rows)(y:PV)(K:List (List PV)→Prop):Prop:=
 match y with
 | .nil=>K []
 | .sl k=>K k
 | .iK k=>K k
 | .own id ver off len=>bR (rows id) ver fun r=>K ((r.els.drop off).take len)
 | _=>False
@[congr] theorem aiJ{rows:Rows}{y y':PV}{K:List (List PV)→Prop}(h:y=y'):kG rows y K=kG rows y' K:=by rw [h]
@[simp] theorem aoU{rows:Rows}{K:List (List PV)→Prop}:kG rows .nil K=go (K []):=rfl
@[simp] theorem aq7{rows:Rows}{l:List (List PV)}{K:List (List PV)→Prop}:kG rows (.sl l) K=go (K l):=rfl
@[simp] theorem aoV{α:Type}{g:α→List PV}{rows:Rows}{l:List α}{K:List (List PV)→Prop}:kG rows (aN g l) K=go (K (emap g l)):=rfl
@[simp] theorem aoW{rows:Rows}{l:List (List PV)}{K:List (List PV)→Prop}:kG rows (.iK l) K=go (K l):=rfl
@[simp] theorem aoX{rows:Rows}{id ver off len:Nat}{K:List (List PV)→Prop}:kG rows (.own id ver off len) K=bR (rows id) ver fun r=>K ((r.els.drop off).take len):=rfl
theorem T9{rows:Rows}{y:PV}{K:List (List PV)→Prop}:(∃l,qS rows y l∧K l)=kG rows y K:=by
 simp only [qS,kG]
 apply propext
 cases y with
 | own id ver off len =>
  simp only [bR]
  constructor
  ·rintro⟨l,⟨r,h1,h2,rfl⟩,h3⟩;exact⟨r,h1,h2,h3⟩
  ·rintro⟨r,h1,h2,h3⟩;exact⟨_,⟨r,h1,h2,rfl⟩,h3⟩
 | _=>simp
def jF(c:Prop)(len:Nat)(els:List (List PV))(K:List (List PV)→Prop):Prop:=(c∧K els)∨(¬c∧len≤els.length∧K (els.take len))
@[congr] theorem aeW{c c':Prop}{len aq8:Nat}{els zK:List (List PV)}{K:List (List PV)→Prop}(h:c=c')(h1:len=aq8)(h2:els=zK):jF c len els K=jF c' aq8 zK K:=by rw [h,h1,h2]
theorem HZ{len:Nat}{els:List (List PV)}{K:List (List PV)→Prop}:jF True len els K=K els:=by simp [jF]
theorem UA{len:Nat}{els:List (List PV)}{K:List (List PV)→Prop}:jF (len=els.length) len els K=(len≤els.length∧K (els.take len)):=by
 apply propext
 constructor
 ·rintro(⟨h,hK⟩ | ⟨_,h,hK⟩)
  ·exact⟨by omega,by rw [List.take_of_length_le (by omega)];exact hK⟩
  ·exact⟨h,hK⟩
 ·rintro⟨h,hK⟩
  by_cases hc:len=els.length
  ·exact .inl ⟨hc,by rw [List.take_of_length_le (by omega)]at hK;exact hK⟩
  ·exact .inr ⟨hc,h,hK⟩
def q9(t:TI)(rows:Rows)(x y:PV)(clk d:Nat)(K:PV→Rows→Nat→Prop):Prop:=
 match t with
 | .slice e n b _=>kG rows y fun l=>aH (bH n l) (match x with
  | .nil=>aH (l.length≤room∧l.length*b≤room) (K (.own d clk 0 l.length) (dR rows d (some ⟨clk,e,n,l⟩)) (clk+1))
  | .own id ver off len=>bR (rows id) ver fun r=>aH (off=0∧r.e=e∧r.size=n) (jF (len=r.els.length) len r.els fun els=>aH (len+l.length≤room∧(len+l.length)*b≤room) (K (.own id clk 0 (len+l.length)) (dR rows id (some ⟨clk,e,n,els++l⟩)) (clk+1)))
  | .iK l0=>aH (bH n l0 ∧ ∀e∈l,∀p∈e,bI p=true) (aH (l0.length+l.length≤room∧(l0.length+l.length)*b≤room) (K (.sl (l0++l)) rows clk))
  | _=>False)
 | _=>False
@[congr] theorem aiK{t t':TI}{rows:Rows}{x x' y y':PV}{clk d:Nat}{K:PV→Rows→Nat→Prop}(h1:t=t')(h3:x=x')(h4:y=y') :
  q9 t rows x y clk d K=q9 t' rows x' y' clk d K:=by rw [h1,h3,h4]
section
variable {e n b clk d id ver off len:Nat} {z:List PV} {rows:Rows} {y:PV} {K:PV→Rows→Nat→Prop} {l0:List (List PV)}
@[simp] theorem aoY:q9 (.slice e n b z) rows .nil y clk d K=kG rows y fun l=>aH (bH n l) (aH (l.length≤room∧l.length*b≤room) (K (.own d clk 0 l.length) (dR rows d (some ⟨clk,e,n,l⟩)) (clk+1))):=rfl
@[simp] theorem aoZ:q9 (.slice e n b z) rows (.own id ver off len) y clk d K=kG rows y fun l=>aH (bH n l) (bR (rows id) ver fun r=>aH (off=0∧r.e=e∧r.size=n) (jF (len=r.els.length) len r.els fun els=>aH (len+l.length≤room∧(len+l.length)*b≤room) (K (.own id clk 0 (len+l.length)) (dR rows id (some ⟨clk,e,n,els++l⟩)) (clk+1)))):=rfl
@[simp] theorem ao0:q9 (.slice e n b z) rows (.iK l0) y clk d K=kG rows y fun l=>aH (bH n l) (aH (bH n l0 ∧ ∀e∈l,∀p∈e,bI p=true) (aH (l0.length+l.length≤room∧(l0.length+l.length)*b≤room) (K (.sl (l0++l)) rows clk))):=rfl
end
theorem afF{t:TI}{rows:Rows}{x y:PV}{clk d:Nat}{K:PV→Rows→Nat→Prop}:XF t rows x y clk d K=q9 t rows x y clk d K:=by
 unfold XF q9
 cases t with
 | slice e n b z =>
  dsimp only
  rw [←T9]
  congr 1;funext l;congr 1
  simp only [aH,bH]
  congr 1
  cases x with
  | own id ver off len =>
   simp only [bR,UA]
   apply propext
   constructor
   ·rintro⟨r,h1,h2,h3,h4,h5,h6,h7⟩;exact⟨r,h1,h2,⟨h3,h5,h6⟩,h4,h7⟩
   ·rintro⟨r,h1,h2,⟨h3,h5,h6⟩,h4,h7⟩;exact⟨r,h1,h2,h3,h4,h5,h6,h7⟩
  | iK l0=>simp only [bH,and_assoc]
  | _=>rfl
 | _=>rfl
def fzR(o:Option Row)(ver off len:Nat):PV:=
 match o with
 | some r=>if r.ver=ver then .sl ((r.els.drop off).take len)else .undef
 | none => .undef
@[simp] theorem axh{rows:Rows}{id ver off len:Nat}:fz rows (.own id ver off len)=fzR (rows id) ver off len:=rfl
@[simp] theorem aq9{α:Type}{g:α→List PV}{l:List α}{ver e n off len:Nat}:fzR (some ⟨ver,e,n,emap g l⟩) ver off len=aN g ((l.drop off).take len):=by simp [fzR,aN,emap]
@[simp] theorem axi{rows:Rows}:fz rows .nil = .sl []:=rfl
@[simp] theorem axj{rows:Rows}{l:List (List PV)}:fz rows (.iK l) = .sl l:=rfl
@[simp] theorem aAg{rows:Rows}{l:List (List PV)}:fz rows (.sl l) = .sl l:=rfl
@[simp] theorem axk{α:Type}{g:α→List PV}{rows:Rows}{l:List α}:fz rows (aN g l)=aN g l:=rfl
@[simp] theorem axl{rows:Rows}{k:IntKind}{n:Int}:fz rows (.int k n) = .int k n:=rfl
@[simp] theorem avg{rows:Rows}{b:Bool}:fz rows (.bool b) = .bool b:=rfl
@[simp] theorem aAh{rows:Rows}{f:FuncId}{l:List PV}:fz rows (.fn f l) = .fn f l:=rfl
@[simp] theorem axm{rows:Rows}{id ver off len:Nat}:pz rows (.own id ver off len)=fzR (rows id) ver off len:=rfl
@[simp] theorem axn{rows:Rows}:pz rows .nil = .sl []:=rfl
@[simp] theorem axo{rows:Rows}{l:List (List PV)}:pz rows (.iK l) = .sl l:=rfl
@[simp] theorem aAi{rows:Rows}{l:List (List PV)}:pz rows (.sl l) = .sl l:=rfl
@[simp] theorem axp{α:Type}{g:α→List PV}{rows:Rows}{l:List α}:pz rows (aN g l)=aN g l:=rfl
@[simp] theorem axq{rows:Rows}{k:IntKind}{n:Int}:pz rows (.int k n) = .int k n:=rfl
@[simp] theorem avh{rows:Rows}{b:Bool}:pz rows (.bool b) = .bool b:=rfl
@[simp] theorem aAj{rows:Rows}{f:FuncId}{l:List PV}:pz rows (.fn f l) = .fn f l:=rfl
@[simp] theorem aAk{rows:Rows}{l:List PV}:pz rows (.ag l) = .ag (l.map (fz rows)):=rfl
@[simp] theorem ara{α:Type}{g:α→List PV}{l:List α}:dB (aN g l)=true:=rfl
@[simp] theorem ao2{α:Type}{g:α→List PV}{l:List α}:bI (aN g l)=true:=rfl
@[simp] theorem avi{α:Type}{g:α→List PV}{l:List α}:aT (aN g l) = []:=rfl
@[simp] theorem arb{α:Type}{g:α→List PV}{l:List α}:dQ (aN g l) = []:=rfl
@[simp] theorem avj{l:List (List PV)}:dQ (.sl l) = []:=rfl
@[simp] theorem arc{l:List (List PV)}:dQ (.iK l) = []:=rfl
@[simp] theorem ard{k:IntKind}{n:Int}:dQ (.int k n) = []:=rfl
@[simp] theorem ao3{b:Bool}:dQ (.bool b) = []:=rfl
@[simp] theorem avk{f:FuncId}{l:List PV}:dQ (.fn f l) = []:=rfl
@[simp] theorem arf:dQ .nil = []:=rfl
@[simp] theorem arh{id ver off len:Nat}:dQ (.own id ver off len) = [id]:=rfl
@[simp] theorem avl{l:List PV}:dQ (.ag l)=l.flatMap aT:=rfl
@[simp] theorem ari{α:Type}{g:α→List PV}{rows:Rows}{l:List α}:iM rows (aN g l)=True:=rfl
@[simp] theorem ali{α:Type}{g:α→List PV}{l:List α}:cE (aN g l)=some [aN g l]:=rfl
@[simp] theorem alj{α:Type}{g:α→List PV}{l:List α}:eY (aN g l)=some [aN g l]:=rfl
def cW(o:Option Row):Prop:=∀r,o=some r → ∀e∈r.els,∀p∈e,bI p=true
@[simp] theorem afG{rows:Rows}:eS rows []=True:=by simp [eS]
@[simp] theorem aeX{rows:Rows}{id:Nat}{ids:List Nat}:eS rows (id::ids)=(cW (rows id)∧eS rows ids):=by simp [eS,cW]
@[simp] theorem afH:cW none=True:=by simp [cW]
@[simp] theorem bU{α:Type}{g:α→List PV}{l:List α}{ver e n:Nat}(h:aqY g):cW (some ⟨ver,e,n,emap g l⟩)=True:=by
 simp only [cW,emap,Option.some.injEq,eq_iff_iff,iff_true]
 rintro r rfl e he p hp
 simp at he
 obtain⟨x,_,rfl⟩:=he
 exact List.all_eq_true.1 (h x) p hp
@[simp] theorem avm{rows:Rows}:FC rows []=rows:=by funext j;simp [FC]
@[simp] theorem axr{rows:Rows}{ids:List Nat}{j:Nat}:FC rows ids j=if j∈ids then none else rows j:=rfl
def mY(fs:List (Nat × Nat × Bool)):List (Nat × PV)→List PV→(List PV→Prop)→Prop
 | [],z,K=>K z
 | (i,p)::ps,z,K=>fY (mA fs i) fun q=>fY (eY p) fun l=>aH (l.length=q.2.1∧q.1+q.2.1≤z.length) (mY fs ps (z.take q.1++l++z.drop (q.1+q.2.1)) K)
@[congr] theorem aiL{fs:List (Nat × Nat × Bool)}{ps UB:List (Nat × PV)}{z z':List PV}{K:List PV→Prop}(h:ps=UB)(h2:z=z'):mY fs ps z K=mY fs UB z' K:=by rw [h,h2]
@[simp] theorem ao4{fs:List (Nat × Nat × Bool)}{z:List PV}{K:List PV→Prop}:mY fs [] z K=go (K z):=rfl
@[simp] theorem alk{fs:List (Nat × Nat × Bool)}{i:Nat}{p:PV}{ps:List (Nat × PV)}{z:List PV}{K:List PV→Prop}:mY fs ((i,p)::ps) z K=fY (mA fs i) fun q=>fY (eY p) fun l=>aH (l.length=q.2.1∧q.1+q.2.1≤z.length) (mY fs ps (z.take q.1++l++z.drop (q.1+q.2.1)) K):=rfl
theorem B3{fs:List (Nat × Nat × Bool)}:∀ {ps:List (Nat × PV)} {z:List PV} {K:List PV→Prop},(∃l,tB fs ps z=some l∧K l)↔mY fs ps z K
 | [],z,K=>by simp [tB,mY]
 | (i,p)::ps,z,K=>by
  simp only [tB,mY,fY,aH,mA]
  cases h1:fs[i]? with
  | none=>simp
  | some q =>
   obtain⟨o,n,b⟩:=q
   cases h2:eY p with
   | none=>simp
   | some l =>
    simp only [Option.some.injEq,exists_eq_left']
    rw [←B3]
    split
    ·rename_i h;simp [h]
    ·rename_i h;simp [h]
def lR(ti:TI)(ps:List (Nat × PV))(K:PV→Prop):Prop:=
 match ti with
 | .struct fs z=>mY fs ps z fun l=>K (.ag l)
 | .arr _ k n z=>mY (O9 k n) ps z fun l=>K (.ag l)
 | _=>False
@[congr] theorem aeY{t t':TI}{ps UB:List (Nat × PV)}{K:PV→Prop}(h:t=t')(h2:ps=UB):lR t ps K=lR t' UB K:=by rw [h,h2]
@[simp] theorem abD{fs:List (Nat × Nat × Bool)}{z:List PV}{ps:List (Nat × PV)}{K:PV→Prop}:lR (.struct fs z) ps K=mY fs ps z fun l=>K (.ag l):=rfl
@[simp] theorem aiM{e k n:Nat}{z:List PV}{ps:List (Nat × PV)}{K:PV→Prop}:lR (.arr e k n z) ps K=mY (O9 k n) ps z fun l=>K (.ag l):=rfl
@[simp] theorem ao5{k n i:Nat}:mA (O9 k n) i=if i<k then some (i*n,n,false)else none:=by
 unfold mA O9
 rw [List.getElem?_map]
 split
 ·rename_i h;rw [List.getElem?_range h];rfl
 ·rename_i h;rw [List.getElem?_eq_none (by simpa using h)];rfl
theorem yR{ti:TI}{ps:List (Nat × PV)}{K:PV→Prop}:aX (fun v=>qN ti ps v) K=lR ti ps K:=by
 simp only [qN,lR]
 cases ti with
 | struct fs z =>
  apply propext;simp only [aX]
  rw [←B3]
  constructor
  ·rintro⟨v,⟨l,h1,rfl⟩,h2⟩;exact⟨l,h1,h2⟩
  ·rintro⟨l,h1,h2⟩;exact⟨_,⟨l,h1,rfl⟩,h2⟩
 | arr e k n z =>
  apply propext;simp only [aX]
  rw [←B3]
  constructor
  ·rintro⟨v,⟨l,h1,rfl⟩,h2⟩;exact⟨l,h1,h2⟩
  ·rintro⟨l,h1,h2⟩;exact⟨_,⟨l,h1,rfl⟩,h2⟩
 | _=>simp [aX]
def jO(n:Nat):Nat→List (Nat × PV)→(List (List PV)→Prop)→Prop
 | _,[],K=>K []
 | k,(i,p)::ps,K=>fY (cE p) fun l=>aH (i=k∧l.length=n) (jO n (k+1) ps fun els=>K (l::els))
@[congr] theorem afI{n k:Nat}{ps UB:List (Nat × PV)}{K:List (List PV)→Prop}(h:ps=UB):jO n k ps K=jO n k UB K:=by rw [h]
@[simp] theorem alm{n k:Nat}{K:List (List PV)→Prop}:jO n k [] K=go (K []):=rfl
@[simp] theorem aiN{n k i:Nat}{p:PV}{ps:List (Nat × PV)}{K:List (List PV)→Prop}:jO n k ((i,p)::ps) K=fY (cE p) fun l=>aH (i=k∧l.length=n) (jO n (k+1) ps fun els=>K (l::els)):=rfl
theorem xD{n:Nat}:∀ {ps:List (Nat × PV)} {k:Nat} {K:List (List PV)→Prop},(∃l,iA n k ps=some l∧K l)↔jO n k ps K
 | [],k,K=>by simp [iA,jO]
 | (i,p)::ps,k,K=>by
  simp only [iA,jO,fY,aH]
  cases h2:cE p with
  | none=>simp
  | some l =>
   simp only [Option.some.injEq,exists_eq_left']
   rw [←xD]
   by_cases h:i=k∧l.length=n
   ·rw [if_pos h]
    constructor
    ·rintro⟨e,h1,h3⟩
     obtain⟨e',h4,rfl⟩:=Option.map_eq_some_iff.1 h1
     exact⟨h,e',h4,h3⟩
    ·rintro⟨_,e',h4,h3⟩
     exact⟨_,by rw [h4];rfl,h3⟩
   ·rw [if_neg h];simp [h]
def B4(rows:Rows)(els:List (List PV)):Prop:=(∀e∈els,∀p∈e,bI (fz rows p)=true∧iM rows p)∧(∀e∈els,∀p∈e,aT p = [])
@[simp] theorem ao6{rows:Rows}:B4 rows []=True:=by simp [B4]
@[simp] theorem aln{rows:Rows}{e:List PV}{els:List (List PV)}:B4 rows (e::els)=((∀p∈e,bI (fz rows p)=true∧iM rows p∧aT p = [])∧B4 rows els):=by
 simp only [B4,List.mem_cons,forall_eq_or_imp,eq_iff_iff]
 constructor
 ·rintro⟨⟨h1,h2⟩,h3,h4⟩;exact⟨fun p hp=>⟨(h1 p hp).1,(h1 p hp).2,h3 p hp⟩,h2,h4⟩
 ·rintro⟨h1,h2,h4⟩;exact⟨⟨fun p hp=>⟨(h1 p hp).1,(h1 p hp).2.1⟩,h2⟩,fun p hp=>(h1 p hp).2.2,h4⟩
def vF(ti:TI)(rows:Rows)(len:Nat)(ps:List (Nat × PV))(K:PV→Prop):Prop:=
 match ti with
 | .slice _ n _ _=>jO n 0 ps fun els=>aH (len=els.length∧len≤4096∧n≤4096∧B4 rows els) (K (.iK (els.map fun e=>e.map (fz rows))))
 | _=>False
@[congr] theorem aiO{t t':TI}{rows:Rows}{len:Nat}{ps UB:List (Nat × PV)}{K:PV→Prop}(h:t=t')(h2:ps=UB):vF t rows len ps K=vF t' rows len UB K:=by rw [h,h2]
@[simp] theorem aiP{e n b:Nat}{z:List PV}{rows:Rows}{len:Nat}{ps:List (Nat × PV)}{K:PV→Prop}:vF (.slice e n b z) rows len ps K=jO n 0 ps fun els=>aH (len=els.length∧len≤4096∧n≤4096∧B4 rows els) (K (.iK (els.map fun e=>e.map (fz rows)))):=rfl
theorem FO{ti:TI}{rows:Rows}{len:Nat}{ps:List (Nat × PV)}{K:PV→Prop}:aX (fun v=>PU ti rows len ps v) K=vF ti rows len ps K:=by
 simp only [PU,vF]
 cases ti with
 | slice e n b z =>
  apply propext;simp only [aX]
  rw [←xD]
  constructor
  ·rintro⟨v,⟨l,h1,h2,h3,h4,h5,h6,rfl⟩,h7⟩;exact⟨l,h1,⟨h2,h3,h4,h5,h6⟩,h7⟩
  ·rintro⟨l,h1,⟨h2,h3,h4,h5,h6⟩,h7⟩;exact⟨_,⟨l,h1,h2,h3,h4,h5,h6,rfl⟩,h7⟩
 | _=>simp [aX]
def vG(i:Nat)(x:PV)(K:PV→Prop):Prop:=
 match x with
 | .dU l=>fY (mA l i) K
 | _=>False
@[congr] theorem aiQ{i:Nat}{x x':PV}{K:PV→Prop}(h:x=x'):vG i x K=vG i x' K:=by rw [h]
@[simp] theorem ao7{i:Nat}{l:List PV}{K:PV→Prop}:vG i (.dU l) K=fY (mA l i) K:=rfl
theorem FP{i:Nat}{x:PV}{K:PV→Prop}:aX (fun v=>O8 i x v) K=vG i x K:=by
 simp only [O8,vG]
 cases x<;>first | rfl | simp [aX]
def EP:List Oper→Nat→Option Tmp
 | [],_=>none
 | o::_,0=>o.dst
 | _::os,n+1=>EP os n
theorem H0:∀(ops:List Oper) (j:Nat),EP ops j=(ops[j]?).bind (·.dst)
 | [],j=>by simp [EP]
 | o::os,0=>by simp [EP]
 | o::os,n+1=>by simp [EP,H0 os n]
@[simp] theorem ao8{d:Option Tmp}{op:Op}{ty:TypeId}{pos:String}{af:Array Edge}{g:Option (Nat × Bool)}{os:List Oper}:EP (⟨d,op,ty,pos,af,g⟩::os) 0=d:=rfl
@[simp] theorem ao9{o:Oper}{os:List Oper}{n:Nat}:EP (o::os) (n+1)=EP os n:=rfl
def pP(o:Option Tmp)(f:Nat→PV)(w:Bool)(A B:Prop):Prop:=
 match o with
 | none=>False
 | some e=>stepG (f e) w A B
@[congr] theorem afJ{o o':Option Tmp}{f:Nat→PV}{w:Bool}{A B:Prop}(h:o=o'):pP o f w A B=pP o' f w A B:=by rw [h]
@[simp] theorem aiR{e:Tmp}{f:Nat→PV}{w:Bool}{A B:Prop}:pP (some e) f w A B=stepG (f e) w A B:=rfl
@[simp] theorem apa{o:Option Tmp}{f:Nat→PV}{w:Bool}{A B:Prop}:go (pP o f w A B)=pP o f w A B:=rfl
section
variable {E:Env} {ops os:List Oper} {K:PS→Prop} {f:Nat→PV} {rows:Rows} {clk:Nat} {d:Option Tmp} {ty:TypeId} {pos:String} {af:Array Edge} {k:Nat} {bP:Nat→Nat→Prop} {aK:Nat→Nat→Prop}
theorem LJ{op:Op}{j:Nat}{want:Bool}:aL E ops (⟨d,op,ty,pos,af,some (j,want)⟩::os) K ⟨f,rows,clk⟩=pP ((ops[j]?).bind (·.dst)) f want (aL E ops (⟨d,op,ty,pos,af,none⟩::os) K ⟨f,rows,clk⟩) (aL E ops os K ⟨put f d (.dU []),rows,clk⟩):=QH
theorem LK{op:Op}{j:Nat}{want:Bool}:aM E ops clk k (⟨d,op,ty,pos,af,some (j,want)⟩::os) K ⟨f,rows,bP,aK⟩=pP ((ops[j]?).bind (·.dst)) f want (aM E ops clk k (⟨d,op,ty,pos,af,none⟩::os) K ⟨f,rows,bP,aK⟩) (aM E ops clk (k+1) os K ⟨put f d (.dU []),rows,bP,aK⟩):=QO
end
section
variable {E:Env} {ops os:List Oper} {K:PS→Prop} {f:Nat→PV} {rows:Rows} {clk:Nat} {d:Option Tmp} {ty:TypeId} {pos:String} {af:Array Edge} {k:Nat} {bP:Nat→Nat→Prop} {aK:Nat→Nat→Prop}
theorem QW{t:TypeId}{x:Operand}:aL E ops (⟨d, .load t x,ty,pos,af,none⟩::os) K ⟨f,rows,clk⟩=lF E t rows (aO f x) fun v=>aL E ops os K ⟨put f d v,rows,clk⟩:=by rw [XE,tX]
theorem LM{t:TypeId}{i:Nat}{x:Operand}:aL E ops (⟨d, .field t x i,ty,pos,af,none⟩::os) K ⟨f,rows,clk⟩=kE (E.ty t) i (aO f x) fun v=>aL E ops os K ⟨put f d v,rows,clk⟩:=by rw [QI,yO]
theorem zN{t:TypeId}{i:Nat}{x:Operand}:aL E ops (⟨d, .fieldAddr t x i,ty,pos,af,none⟩::os) K ⟨f,rows,clk⟩=dV (E.ty t) rows i (aO f x) fun v=>aL E ops os K ⟨put f d v,rows,clk⟩:=by rw [BT,p9]
theorem zO{t:TypeId}{x y:Operand}:aL E ops (⟨d, .indexAddr t x y,ty,pos,af,none⟩::os) K ⟨f,rows,clk⟩=cN (E.ty t) rows (aO f x) (aO f y) fun v=>aL E ops os K ⟨put f d v,rows,clk⟩:=by rw [BU,qA]
theorem LN{t:TypeId}{x:Operand}{lo hi mx:Option Operand}:aL E ops (⟨d, .slice t x lo hi mx,ty,pos,af,none⟩::os) K ⟨f,rows,clk⟩=gE (E.ty t) rows (aO f x) (lo.map (aO f)) (hi.map (aO f)) (mx.map (aO f)) fun v=>aL E ops os K ⟨put f d v,rows,clk⟩:=by rw [QJ,yQ]
theorem XO{t:TypeId}{x:Operand}:aL E ops (⟨d, .call { callee:=.builtin .len,args:=⟨[x]⟩,argTypes:=⟨[t]⟩ },ty,pos,af,none⟩::os) K ⟨f,rows,clk⟩=mF (E.ty t) rows (aO f x) fun v=>aL E ops os K ⟨put f d v,rows,clk⟩:=by rw [abq,FM]
theorem LO{t:TypeId}{p x:Operand}:aL E ops (⟨none, .store t p x,ty,pos,af,none⟩::os) K ⟨f,rows,clk⟩=kF E t rows (aO f p) (aO f x) fun id r=>aL E ops os K ⟨f,dR rows id (some r),clk⟩:=by rw [QM,FN]
theorem H3{t t2:TypeId}{x y:Operand}:aL E ops (⟨d, .call { callee:=.builtin .append,args:=⟨[x,y]⟩,argTypes:=⟨[t,t2]⟩ },ty,pos,af,none⟩::os) K ⟨f,rows,clk⟩ =
  aH (t2=t∨slT (E.ty t2)=true) (q9 (E.ty t) rows (aO f x) (aO f y) clk (d.getD 0) fun v rows clk=>aL E ops os K ⟨put f d v,rows,clk⟩):=by rw [LB,afF]
theorem QX{t:TypeId}{x:Operand}:aM E ops clk k (⟨d, .load t x,ty,pos,af,none⟩::os) K ⟨f,rows,bP,aK⟩=lF E t (eC .any ops k aK rows) (aO f x) fun v=>aM E ops clk (k+1) os K ⟨put f d v,rows,iX k (aT (aO f x)) bP,aK⟩:=by rw [XK,tX]
theorem LP{t:TypeId}{i:Nat}{x:Operand}:aM E ops clk k (⟨d, .field t x i,ty,pos,af,none⟩::os) K ⟨f,rows,bP,aK⟩=kE (E.ty t) i (aO f x) fun v=>aM E ops clk (k+1) os K ⟨put f d v,rows,bP,aK⟩:=by rw [QP,yO]
theorem zP{t:TypeId}{i:Nat}{x:Operand}:aM E ops clk k (⟨d, .fieldAddr t x i,ty,pos,af,none⟩::os) K ⟨f,rows,bP,aK⟩=dV (E.ty t) (eC .any ops k aK rows) i (aO f x) fun v=>aM E ops clk (k+1) os K ⟨put f d v,rows,iX k (aT (aO f x)) bP,aK⟩:=by rw [BW,p9]
theorem zS{t:TypeId}{x y:Operand}:aM E ops clk k (⟨d, .indexAddr t x y,ty,pos,af,none⟩::os) K ⟨f,rows,bP,aK⟩=cN (E.ty t) (eC .any ops k aK rows) (aO f x) (aO f y) fun v=>aM E ops clk (k+1) os K ⟨put f d v,rows,iX k (aT (aO f x)) bP,aK⟩:=by rw [BX,qA]
theorem LQ{t:TypeId}{x:Operand}{lo hi mx:Option Operand}:aM E ops clk k (⟨d, .slice t x lo hi mx,ty,pos,af,none⟩::os) K ⟨f,rows,bP,aK⟩=gE (E.ty t) (eC .any ops k aK rows) (aO f x) (lo.map (aO f)) (hi.map (aO f)) (mx.map (aO f)) fun v=>aM E ops clk (k+1) os K ⟨put f d v,rows,iX k (aT (aO f x)) bP,aK⟩:=by rw [QQ,yQ]
theorem XP{t:TypeId}{x:Operand}:aM E ops clk k (⟨d, .call { callee:=.builtin .len,args:=⟨[x]⟩,argTypes:=⟨[t]⟩ },ty,pos,af,none⟩::os) K ⟨f,rows,bP,aK⟩=mF (E.ty t) (eC .any ops k aK rows) (aO f x) fun v=>aM E ops clk (k+1) os K ⟨put f d v,rows,iX k (aT (aO f x)) bP,aK⟩:=by rw [abw,FM]
theorem LR{t:TypeId}{p x:Operand}:aM E ops clk k (⟨none, .store t p x,ty,pos,af,none⟩::os) K ⟨f,rows,bP,aK⟩ =
  kF E t (eC .any ops k aK rows) (aO f p) (aO f x) fun id r=>aH (yL .any ops k id bP) (aM E ops clk (k+1) os K ⟨f,dR rows id (some r),iX k (aT (aO f p)++((cE (aO f x)).getD []).flatMap aT) bP,nM k id aK⟩):=by rw [QS,←FN];rfl
theorem UC{x:Operand}:go (aL E ops (⟨d, .move x,ty,pos,af,none⟩::os) K ⟨f,rows,clk⟩)=go (aL E ops os K ⟨put f d (aO f x),rows,clk⟩):=XB
theorem FQ{x:Operand}:go (aL E ops (⟨d, .assign x,ty,pos,af,none⟩::os) K ⟨f,rows,clk⟩)=go (aL E ops os K ⟨put f d (aO f x),rows,clk⟩):=LA
theorem afK{c a b:Operand}:go (aL E ops (⟨d, .pick c a b,ty,pos,af,none⟩::os) K ⟨f,rows,clk⟩)=iR (aO f c) true (aL E ops os K ⟨put f d (aO f a),rows,clk⟩) (aL E ops os K ⟨put f d (aO f b),rows,clk⟩):=XC
theorem abE{op:BinOp}{t t2:TypeId}{x y:Operand}:go (aL E ops (⟨d, .binOp op t x y t2,ty,pos,af,none⟩::os) K ⟨f,rows,clk⟩)=aX (fun v=>HE E op t (aO f x) (aO f y) v) fun v=>aL E ops os K ⟨put f d v,rows,clk⟩:=abp
theorem arj{op:UnOp}{t:TypeId}{x:Operand}:go (aL E ops (⟨d, .unOp op t x,ty,pos,af,none⟩::os) K ⟨f,rows,clk⟩)=aX (fun v=>yun op (aO f x) v) fun v=>aL E ops os K ⟨put f d v,rows,clk⟩:=afy
theorem H4{s t:TypeId}{x:Operand}:go (aL E ops (⟨d, .convert s t x,ty,pos,af,none⟩::os) K ⟨f,rows,clk⟩)=aX (fun v=>tC (E.ty s) (E.ty t) (aO f x) v) fun v=>aL E ops os K ⟨put f d v,rows,clk⟩:=XD
theorem QY{i:Nat}{x:Operand}:go (aL E ops (⟨d, .extract x i,ty,pos,af,none⟩::os) K ⟨f,rows,clk⟩)=vG i (aO f x) fun v=>aL E ops os K ⟨put f d v,rows,clk⟩:=by
 show aL E ops (⟨d, .extract x i,ty,pos,af,none⟩::os) K ⟨f,rows,clk⟩=_
 rw [HV,FP]
theorem afL{t:TypeId}{x:Operand}:go (aL E ops (⟨d, .load t x,ty,pos,af,none⟩::os) K ⟨f,rows,clk⟩)=lF E t rows (aO f x) fun v=>aL E ops os K ⟨put f d v,rows,clk⟩:=QW
theorem abF{t:TypeId}{i:Nat}{x:Operand}:go (aL E ops (⟨d, .field t x i,ty,pos,af,none⟩::os) K ⟨f,rows,clk⟩)=kE (E.ty t) i (aO f x) fun v=>aL E ops os K ⟨put f d v,rows,clk⟩:=LM
theorem H5{t:TypeId}{i:Nat}{x:Operand}:go (aL E ops (⟨d, .fieldAddr t x i,ty,pos,af,none⟩::os) K ⟨f,rows,clk⟩)=dV (E.ty t) rows i (aO f x) fun v=>aL E ops os K ⟨put f d v,rows,clk⟩:=zN
theorem H6{t:TypeId}{x y:Operand}:go (aL E ops (⟨d, .indexAddr t x y,ty,pos,af,none⟩::os) K ⟨f,rows,clk⟩)=cN (E.ty t) rows (aO f x) (aO f y) fun v=>aL E ops os K ⟨put f d v,rows,clk⟩:=zO
theorem abG{t:TypeId}{x:Operand}{lo hi mx:Option Operand}:go (aL E ops (⟨d, .slice t x lo hi mx,ty,pos,af,none⟩::os) K ⟨f,rows,clk⟩)=gE (E.ty t) rows (aO f x) (lo.map (aO f)) (hi.map (aO f)) (mx.map (aO f)) fun v=>aL E ops os K ⟨put f d v,rows,clk⟩:=LN
theorem abH{t:TypeId}{parts:Array (Nat × Operand)}:go (aL E ops (⟨d, .build t parts,ty,pos,af,none⟩::os) K ⟨f,rows,clk⟩)=lR (E.ty t) (parts.toList.map fun x=>(x.1,aO f x.2)) fun v=>aL E ops os K ⟨put f d v,rows,clk⟩:=by
 show aL E ops (⟨d, .build t parts,ty,pos,af,none⟩::os) K ⟨f,rows,clk⟩=_
 rw [QK,yR]
theorem LS{t:TypeId}{x y:Operand}:go (aL E ops (⟨d, .index t x y,ty,pos,af,none⟩::os) K ⟨f,rows,clk⟩)=aX (fun v=>tR E (E.ty t) (aO f x) (aO f y) v) fun v=>aL E ops os K ⟨put f d v,rows,clk⟩:=QL
theorem LU{x:Operand}:go (aL E ops (⟨d, .nilCheck x,ty,pos,af,none⟩::os) K ⟨f,rows,clk⟩)=tL rows (aO f x) fun v=>aL E ops os K ⟨put f d v,rows,clk⟩:=by show aL E ops _ K _=_;rw [EL,FL]
theorem alp{t:TypeId}{x:Operand}:go (aL E ops (⟨d, .call { callee:=.builtin .len,args:=⟨[x]⟩,argTypes:=⟨[t]⟩ },ty,pos,af,none⟩::os) K ⟨f,rows,clk⟩)=mF (E.ty t) rows (aO f x) fun v=>aL E ops os K ⟨put f d v,rows,clk⟩:=XO
theorem alq{ts:Array TypeId}{x y:Operand}:go (aL E ops (⟨d, .call { callee:=.builtin .max,args:=⟨[x,y]⟩,argTypes:=ts },ty,pos,af,none⟩::os) K ⟨f,rows,clk⟩)=aX (fun v=>PA (aO f x) (aO f y) v) fun v=>aL E ops os K ⟨put f d v,rows,clk⟩:=abr
theorem alr{ts:Array TypeId}{x y:Operand}:go (aL E ops (⟨d, .call { callee:=.builtin .min,args:=⟨[x,y]⟩,argTypes:=ts },ty,pos,af,none⟩::os) K ⟨f,rows,clk⟩)=aX (fun v=>PC (aO f x) (aO f y) v) fun v=>aL E ops os K ⟨put f d v,rows,clk⟩:=abt
theorem ER{t:TypeId}{len:Nat}{parts:Array (Nat × Operand)}:go (aL E ops (⟨d, .buildSlice t len parts,ty,pos,af,none⟩::os) K ⟨f,rows,clk⟩)=vF (E.ty t) rows len (parts.toList.map fun x=>(x.1,aO f x.2)) fun v=>aL E ops os K ⟨put f d v,rows,clk⟩:=by
 show aL E ops (⟨d, .buildSlice t len parts,ty,pos,af,none⟩::os) K ⟨f,rows,clk⟩=_
 rw [zL,FO]
theorem abI{t:TypeId}{p x:Operand}:go (aL E ops (⟨none, .store t p x,ty,pos,af,none⟩::os) K ⟨f,rows,clk⟩)=kF E t rows (aO f p) (aO f x) fun id r=>aL E ops os K ⟨f,dR rows id (some r),clk⟩:=LO
theorem abJ{t:TypeId}:go (aL E ops (⟨d, .alloc t,ty,pos,af,none⟩::os) K ⟨f,rows,clk⟩)=aH ((E.ty t).known=true) (aL E ops os K ⟨put f d (.ptr (d.getD 0) clk 0 0),dR rows (d.getD 0) (some ⟨clk,t,(E.ty t).size,[(E.ty t).zero]⟩),clk+1⟩):=QN
theorem als{t:TypeId}{x:Operand}:go (aL E ops (⟨d, .box t x,ty,pos,af,none⟩::os) K ⟨f,rows,clk⟩)=aH ((E.ty t).known=true) (fY (cE (aO f x)) fun l=>aH (iD rows l∧l.length=(E.ty t).size) (aL E ops os K ⟨put f d (.ptr (d.getD 0) clk 0 0),dR rows (d.getD 0) (some ⟨clk,t,(E.ty t).size,[l]⟩),clk+1⟩)):=by
 show aL E ops (⟨d, .box t x,ty,pos,af,none⟩::os) K ⟨f,rows,clk⟩=_
 rw [abu]
 simp only [aH,fY,iD,and_assoc]
theorem H7{t:TypeId}{l c:Operand}:go (aL E ops (⟨d, .makeSlice t l c,ty,pos,af,none⟩::os) K ⟨f,rows,clk⟩)=qX (E.ty t) (aO f l) (aO f c) fun e n z x=>aL E ops os K ⟨put f d (.own (d.getD 0) clk 0 x.toNat),dR rows (d.getD 0) (some ⟨clk,e,n,List.replicate x.toNat z⟩),clk+1⟩:=BV
theorem XQ{t t2:TypeId}{x y:Operand}:go (aL E ops (⟨d, .call { callee:=.builtin .append,args:=⟨[x,y]⟩,argTypes:=⟨[t,t2]⟩ },ty,pos,af,none⟩::os) K ⟨f,rows,clk⟩)=aH (t2=t∨slT (E.ty t2)=true) (q9 (E.ty t) rows (aO f x) (aO f y) clk (d.getD 0) fun v rows clk=>aL E ops os K ⟨put f d v,rows,clk⟩):=H3
theorem afM{fo:Operand}{args:Array Operand}{ts:Array TypeId}:go (aL E ops (⟨d, .call { callee:=.value fo,args:=args,argTypes:=ts },ty,pos,af,none⟩::os) K ⟨f,rows,clk⟩)=qY E (aO f fo) (args.toList.map (aO f)) rows clk fun v rows clk=>aL E ops os K ⟨put f d v,rows,clk⟩:=XG
theorem LV{g:FuncId}{bW:Array Operand}:go (aL E ops (⟨d, .makeFunc (.func g) ⟨[]⟩ bW,ty,pos,af,none⟩::os) K ⟨f,rows,clk⟩)=aH (((bW.toList.map (aO f)).map (pz rows)).all dB=true∧eS rows ((bW.toList.map (aO f)).flatMap dQ))
      (aL E ops os K ⟨put f d (.fn g ((bW.toList.map (aO f)).map (pz rows))),FC rows ((bW.toList.map (aO f)).flatMap dQ),clk⟩):=EM
theorem abK{op:Op}{j:Nat}{want:Bool}:go (aL E ops (⟨d,op,ty,pos,af,some (j,want)⟩::os) K ⟨f,rows,clk⟩)=pP (EP ops j) f want (aL E ops (⟨d,op,ty,pos,af,none⟩::os) K ⟨f,rows,clk⟩) (aL E ops os K ⟨put f d (.dU []),rows,clk⟩):=by
 rw [H0,←LJ];rfl
theorem afN{x:Operand}:go (aM E ops clk k (⟨d, .move x,ty,pos,af,none⟩::os) K ⟨f,rows,bP,aK⟩)=go (aM E ops clk (k+1) os K ⟨put f d (aO f x),rows,bP,aK⟩):=XH
theorem XR{x:Operand}:go (aM E ops clk k (⟨d, .assign x,ty,pos,af,none⟩::os) K ⟨f,rows,bP,aK⟩)=go (aM E ops clk (k+1) os K ⟨put f d (aO f x),rows,bP,aK⟩):=LD
theorem afO{c a b:Operand}:go (aM E ops clk k (⟨d, .pick c a b,ty,pos,af,none⟩::os) K ⟨f,rows,bP,aK⟩)=iR (aO f c) true (aM E ops clk (k+1) os K ⟨put f d (aO f a),rows,bP,aK⟩) (aM E ops clk (k+1) os K ⟨put f d (aO f b),rows,bP,aK⟩):=XI
theorem alu{op:BinOp}{t t2:TypeId}{x y:Operand}:go (aM E ops clk k (⟨d, .binOp op t x y t2,ty,pos,af,none⟩::os) K ⟨f,rows,bP,aK⟩)=aX (fun v=>HE E op t (aO f x) (aO f y) v) fun v=>aM E ops clk (k+1) os K ⟨put f d v,rows,bP,aK⟩:=abv
theorem ark{op:UnOp}{t:TypeId}{x:Operand}:go (aM E ops clk k (⟨d, .unOp op t x,ty,pos,af,none⟩::os) K ⟨f,rows,bP,aK⟩)=aX (fun v=>yun op (aO f x) v) fun v=>aM E ops clk (k+1) os K ⟨put f d v,rows,bP,aK⟩:=afA
theorem afP{s t:TypeId}{x:Operand}:go (aM E ops clk k (⟨d, .convert s t x,ty,pos,af,none⟩::os) K ⟨f,rows,bP,aK⟩)=aX (fun v=>tC (E.ty s) (E.ty t) (aO f x) v) fun v=>aM E ops clk (k+1) os K ⟨put f d v,rows,bP,aK⟩:=XJ
theorem QZ{i:Nat}{x:Operand}:go (aM E ops clk k (⟨d, .extract x i,ty,pos,af,none⟩::os) K ⟨f,rows,bP,aK⟩)=vG i (aO f x) fun v=>aM E ops clk (k+1) os K ⟨put f d v,rows,bP,aK⟩:=by
 show aM E ops clk k (⟨d, .extract x i,ty,pos,af,none⟩::os) K ⟨f,rows,bP,aK⟩=_
 rw [HW,FP]
theorem afQ{t:TypeId}{x:Operand}:go (aM E ops clk k (⟨d, .load t x,ty,pos,af,none⟩::os) K ⟨f,rows,bP,aK⟩)=lF E t (eC .any ops k aK rows) (aO f x) fun v=>aM E ops clk (k+1) os K ⟨put f d v,rows,iX k (aT (aO f x)) bP,aK⟩:=QX
theorem abL{t:TypeId}{i:Nat}{x:Operand}:go (aM E ops clk k (⟨d, .field t x i,ty,pos,af,none⟩::os) K ⟨f,rows,bP,aK⟩)=kE (E.ty t) i (aO f x) fun v=>aM E ops clk (k+1) os K ⟨put f d v,rows,bP,aK⟩:=LP
theorem H8{t:TypeId}{i:Nat}{x:Operand}:go (aM E ops clk k (⟨d, .fieldAddr t x i,ty,pos,af,none⟩::os) K ⟨f,rows,bP,aK⟩)=dV (E.ty t) (eC .any ops k aK rows) i (aO f x) fun v=>aM E ops clk (k+1) os K ⟨put f d v,rows,iX k (aT (aO f x)) bP,aK⟩:=zP
theorem H9{t:TypeId}{x y:Operand}:go (aM E ops clk k (⟨d, .indexAddr t x y,ty,pos,af,none⟩::os) K ⟨f,rows,bP,aK⟩)=cN (E.ty t) (eC .any ops k aK rows) (aO f x) (aO f y) fun v=>aM E ops clk (k+1) os K ⟨put f d v,rows,iX k (aT (aO f x)) bP,aK⟩:=zS
theorem abM{t:TypeId}{x:Operand}{lo hi mx:Option Operand}:go (aM E ops clk k (⟨d, .slice t x lo hi mx,ty,pos,af,none⟩::os) K ⟨f,rows,bP,aK⟩)=gE (E.ty t) (eC .any ops k aK rows) (aO f x) (lo.map (aO f)) (hi.map (aO f)) (mx.map (aO f)) fun v=>aM E ops clk (k+1) os K ⟨put f d v,rows,iX k (aT (aO f x)) bP,aK⟩:=LQ
theorem abN{t:TypeId}{parts:Array (Nat × Operand)}:go (aM E ops clk k (⟨d, .build t parts,ty,pos,af,none⟩::os) K ⟨f,rows,bP,aK⟩)=lR (E.ty t) (parts.toList.map fun x=>(x.1,aO f x.2)) fun v=>aM E ops clk (k+1) os K ⟨put f d v,rows,bP,aK⟩:=by
 show aM E ops clk k (⟨d, .build t parts,ty,pos,af,none⟩::os) K ⟨f,rows,bP,aK⟩=_
 rw [QR,yR]
theorem LW{x:Operand}:go (aM E ops clk k (⟨d, .nilCheck x,ty,pos,af,none⟩::os) K ⟨f,rows,bP,aK⟩)=tL (eC .any ops k aK rows) (aO f x) fun v=>aM E ops clk (k+1) os K ⟨put f d v,rows,iX k (aT (aO f x)) bP,aK⟩:=by show aM E ops clk k _ K _=_;rw [EN,FL]
theorem alv{t:TypeId}{x:Operand}:go (aM E ops clk k (⟨d, .call { callee:=.builtin .len,args:=⟨[x]⟩,argTypes:=⟨[t]⟩ },ty,pos,af,none⟩::os) K ⟨f,rows,bP,aK⟩)=mF (E.ty t) (eC .any ops k aK rows) (aO f x) fun v=>aM E ops clk (k+1) os K ⟨put f d v,rows,iX k (aT (aO f x)) bP,aK⟩:=XP
theorem alw{ts:Array TypeId}{x y:Operand}:go (aM E ops clk k (⟨d, .call { callee:=.builtin .max,args:=⟨[x,y]⟩,argTypes:=ts },ty,pos,af,none⟩::os) K ⟨f,rows,bP,aK⟩)=aX (fun v=>PA (aO f x) (aO f y) v) fun v=>aM E ops clk (k+1) os K ⟨put f d v,rows,bP,aK⟩:=abx
theorem alx{ts:Array TypeId}{x y:Operand}:go (aM E ops clk k (⟨d, .call { callee:=.builtin .min,args:=⟨[x,y]⟩,argTypes:=ts },ty,pos,af,none⟩::os) K ⟨f,rows,bP,aK⟩)=aX (fun v=>PC (aO f x) (aO f y) v) fun v=>aM E ops clk (k+1) os K ⟨put f d v,rows,bP,aK⟩:=aby
theorem ES{t:TypeId}{len:Nat}{parts:Array (Nat × Operand)}:go (aM E ops clk k (⟨d, .buildSlice t len parts,ty,pos,af,none⟩::os) K ⟨f,rows,bP,aK⟩)=vF (E.ty t) (eC .any ops k aK rows) len (parts.toList.map fun x=>(x.1,aO f x.2)) fun v=>aM E ops clk (k+1) os K ⟨put f d v,rows,bP,aK⟩:=by
 show aM E ops clk k (⟨d, .buildSlice t len parts,ty,pos,af,none⟩::os) K ⟨f,rows,bP,aK⟩=_
 rw [zM,FO]
theorem abO{t:TypeId}{p x:Operand}:go (aM E ops clk k (⟨none, .store t p x,ty,pos,af,none⟩::os) K ⟨f,rows,bP,aK⟩)=kF E t (eC .any ops k aK rows) (aO f p) (aO f x) fun id r=>aH (yL .any ops k id bP) (aM E ops clk (k+1) os K ⟨f,dR rows id (some r),iX k (aT (aO f p)++((cE (aO f x)).getD []).flatMap aT) bP,nM k id aK⟩):=LR
theorem abP{t:TypeId}:go (aM E ops clk k (⟨d, .alloc t,ty,pos,af,none⟩::os) K ⟨f,rows,bP,aK⟩)=aH ((E.ty t).known=true∧yL .any ops k (d.getD 0) bP) (aM E ops (clk+1) (k+1) os K ⟨put f d (.ptr (d.getD 0) clk 0 0),dR rows (d.getD 0) (some ⟨clk,t,(E.ty t).size,[(E.ty t).zero]⟩),bP,nM k (d.getD 0) aK⟩):=QT
theorem aly{t:TypeId}{x:Operand}:go (aM E ops clk k (⟨d, .box t x,ty,pos,af,none⟩::os) K ⟨f,rows,bP,aK⟩)=aH ((E.ty t).known=true) (fY (cE (aO f x)) fun l=>aH (iD (fun _=>none) l∧l.length=(E.ty t).size∧yL .any ops k (d.getD 0) bP) (aM E ops (clk+1) (k+1) os K ⟨put f d (.ptr (d.getD 0) clk 0 0),dR rows (d.getD 0) (some ⟨clk,t,(E.ty t).size,[l]⟩),bP,nM k (d.getD 0) aK⟩)):=by
 show aM E ops clk k (⟨d, .box t x,ty,pos,af,none⟩::os) K ⟨f,rows,bP,aK⟩=_
 rw [abA]
 simp only [aH,fY,iD]
theorem IA{t:TypeId}{l c:Operand}:go (aM E ops clk k (⟨d, .makeSlice t l c,ty,pos,af,none⟩::os) K ⟨f,rows,bP,aK⟩)=qX (E.ty t) (aO f l) (aO f c) fun e n z x=>aH (yL .any ops k (d.getD 0) bP) (aM E ops (clk+1) (k+1) os K ⟨put f d (.own (d.getD 0) clk 0 x.toNat),dR rows (d.getD 0) (some ⟨clk,e,n,List.replicate x.toNat z⟩),bP,nM k (d.getD 0) aK⟩):=B2
def rA(t:TI)(rows:Rows)(x y:PV)(clk d:Nat)(K:PV→Nat→Row→Prop)(K0:PV→Prop):Prop:=
 match t with
 | .slice e n b _=>kG rows y fun l=>aH (bH n l) (match x with
  | .nil=>aH (l.length≤room∧l.length*b≤room) (K (.own d clk 0 l.length) d ⟨clk,e,n,l⟩)
  | .own id ver off len=>bR (rows id) ver fun r=>aH (off=0∧r.e=e∧r.size=n) (jF (len=r.els.length) len r.els fun els=>aH (len+l.length≤room∧(len+l.length)*b≤room) (K (.own id clk 0 (len+l.length)) id ⟨clk,e,n,els++l⟩))
  | .iK l0=>aH (bH n l0 ∧ ∀e∈l,∀p∈e,bI p=true) (aH (l0.length+l.length≤room∧(l0.length+l.length)*b≤room) (K0 (.sl (l0++l))))
  | _=>False)
 | _=>False
@[congr] theorem aiS{t t':TI}{rows rows':Rows}{x x' y y':PV}{clk d:Nat}{K:PV→Nat→Row→Prop}{K0:PV→Prop}(h1:t=t')(h2:rows=rows')(h3:x=x')(h4:y=y') :
  rA t rows x y clk d K K0=rA t' rows' x' y' clk d K K0:=by rw [h1,h2,h3,h4]
section
variable {e:TypeId} {n b:Nat} {z:List PV} {rows:Rows} {y:PV} {clk d id ver off len:Nat} {K:PV→Nat→Row→Prop} {K0:PV→Prop}
@[simp] theorem apb:rA (.slice e n b z) rows .nil y clk d K K0=kG rows y fun l=>aH (bH n l) (aH (l.length≤room∧l.length*b≤room) (K (.own d clk 0 l.length) d ⟨clk,e,n,l⟩)):=rfl
@[simp] theorem apc:rA (.slice e n b z) rows (.own id ver off len) y clk d K K0=kG rows y fun l=>aH (bH n l) (bR (rows id) ver fun r=>aH (off=0∧r.e=e∧r.size=n) (jF (len=r.els.length) len r.els fun els=>aH (len+l.length≤room∧(len+l.length)*b≤room) (K (.own id clk 0 (len+l.length)) id ⟨clk,e,n,els++l⟩))):=rfl
@[simp] theorem apd{l0:List (List PV)}:rA (.slice e n b z) rows (.iK l0) y clk d K K0=kG rows y fun l=>aH (bH n l) (aH (bH n l0 ∧ ∀e∈l,∀p∈e,bI p=true) (aH (l0.length+l.length≤room∧(l0.length+l.length)*b≤room) (K0 (.sl (l0++l))))):=rfl
end
@[simp] theorem arl(t:TI)(r:Rows)(x y:PV)(c d:Nat)(K:PV→Nat→Row→Prop)(K0:PV→Prop):go (rA t r x y c d K K0)=rA t r x y c d K K0:=rfl
theorem abQ{t:TI}{rows:Rows}{x y:PV}{clk d:Nat}{K:PV→Option (Nat × Row)→Prop}:(∃v u,tI t rows x y clk d v u∧K v u)=rA t rows x y clk d (fun v id r=>K v (some (id,r))) (fun v=>K v none):=by
 cases t with
 | slice e n b z =>
  simp only [rA,tI]
  rw [←T9]
  apply propext
  cases x with
  | nil =>
   simp only [aH,bH]
   constructor
   ·rintro⟨v,u,⟨l,h1,h2,h3,h4,rfl,rfl⟩,h6⟩
    exact⟨l,h1,h2,⟨h3,h4⟩,h6⟩
   ·rintro⟨l,h1,h2,⟨h3,h4⟩,h6⟩
    exact⟨_,_,⟨l,h1,h2,h3,h4,rfl,rfl⟩,h6⟩
  | iK l0 =>
   simp only [aH,bH]
   constructor
   ·rintro⟨v,u,⟨l,h1,h2,h3,h4,h5,h6,rfl,rfl⟩,h7⟩
    exact⟨l,h1,h2,⟨h3,h4⟩,⟨h5,h6⟩,h7⟩
   ·rintro⟨l,h1,h2,⟨h3,h4⟩,⟨h5,h6⟩,h7⟩
    exact⟨_,_,⟨l,h1,h2,h3,h4,h5,h6,rfl,rfl⟩,h7⟩
  | own id ver off len =>
   simp only [aH,bH,bR,UA]
   constructor
   ·rintro⟨v,u,⟨l,h1,h2,r,h3,h4,h5,h6,h7,h8,h9,h10,rfl,rfl⟩,h12⟩
    exact⟨l,h1,h2,r,h3,h4,⟨h5,h7,h8⟩,h6,⟨h9,h10⟩,h12⟩
   ·rintro⟨l,h1,h2,r,h3,h4,⟨h5,h7,h8⟩,h6,⟨h9,h10⟩,h12⟩
    exact⟨_,_,⟨l,h1,h2,r,h3,h4,h5,h6,h7,h8,h9,h10,rfl,rfl⟩,h12⟩
  | _=>simp [aH]
 | _=>simp [rA,tI]
theorem XS{t t2:TypeId}{x y:Operand}:go (aM E ops clk k (⟨d, .call { callee:=.builtin .append,args:=⟨[x,y]⟩,argTypes:=⟨[t,t2]⟩ },ty,pos,af,none⟩::os) K ⟨f,rows,bP,aK⟩) =
  aH (t2=t∨slT (E.ty t2)=true) (rA (E.ty t) (eC .any ops k aK rows) (aO f x) (aO f y) clk (d.getD 0) (fun v id r=>aH (yL .any ops k id bP) (aM E ops (clk+1) (k+1) os K ⟨put f d v,dR rows id (some r),iX k (aT (aO f x)++aT (aO f y)) bP,nM k id aK⟩))
   (fun v=>aM E ops (clk+1) (k+1) os K ⟨put f d v,rows,iX k (aT (aO f x)++aT (aO f y)) bP,aK⟩)):=by
 show aM E ops clk k (⟨d, .call { callee:=.builtin .append,args:=⟨[x,y]⟩,argTypes:=⟨[t,t2]⟩ },ty,pos,af,none⟩::os) K ⟨f,rows,bP,aK⟩=_
 rw [LF]
 congr 1
 rw [abQ]
 simp only [K1,wlU,eF,true_and]
 rfl
def rB(t:TI)(rows:Rows)(x y:PV)(K:PV→Nat→Row→Prop):Prop:=
 match t,x with
 | .slice _ n _ _, .own id ver off len=>∃r,rows id=some r∧r.ver=ver∧r.size=n∧off+len≤r.els.length ∧ ∃l,qS rows y l∧(∀e∈l,e.length=n) ∧
   K (.int .i64 (min l.length len)) id { r with els:=r.els.take off++l.take len++r.els.drop (off+min l.length len) }
 | _,_=>False
@[congr] theorem afR{t t':TI}{rows rows':Rows}{x x' y y':PV}{K:PV→Nat→Row→Prop}(h1:t=t')(h2:rows=rows')(h3:x=x')(h4:y=y'):rB t rows x y K=rB t' rows' x' y' K:=by rw [h1,h2,h3,h4]
@[simp] theorem ape(t:TI)(r:Rows)(x y:PV)(K:PV→Nat→Row→Prop):go (rB t r x y K)=rB t r x y K:=rfl
theorem XT{t:TI}{rows:Rows}{x y:PV}{K:PV→Option (Nat × Row)→Prop}:(∃v u,tF t rows x y v u∧K v u)=rB t rows x y fun v id r=>K v (some (id,r)):=by
 apply propext
 unfold tF rB
 constructor
 ·rintro⟨v,u,h,hK⟩
  split at h
  ·obtain⟨r,h1,h2,h3,h4,l,h5,h6,rfl,rfl⟩:=h
   exact⟨r,h1,h2,h3,h4,l,h5,h6,hK⟩
  ·exact h.elim
 ·intro h
  split at h
  ·obtain⟨r,h1,h2,h3,h4,l,h5,h6,hK⟩:=h
   exact⟨_,_,⟨r,h1,h2,h3,h4,l,h5,h6,rfl,rfl⟩,hK⟩
  ·exact h.elim
theorem afS{t t2:TypeId}{x y:Operand}:go (aM E ops clk k (⟨d, .call { callee:=.builtin .copy,args:=⟨[x,y]⟩,argTypes:=⟨[t,t2]⟩ },ty,pos,af,none⟩::os) K ⟨f,rows,bP,aK⟩) =
  rB (E.ty t) (eC .any ops k aK rows) (aO f x) (aO f y) fun v id r=>aH (yL .any ops k id bP) (aM E ops clk (k+1) os K ⟨put f d v,dR rows id (some r),iX k (aT (aO f x)++aT (aO f y)) bP,nM k id aK⟩):=by
 show aM E ops clk k (⟨d, .call { callee:=.builtin .copy,args:=⟨[x,y]⟩,argTypes:=⟨[t,t2]⟩ },ty,pos,af,none⟩::os) K ⟨f,rows,bP,aK⟩=_
 rw [XL,XT]
 simp only [K1,wlU,eF]
 rfl
theorem aro{e e':TypeId}{n b:Nat}{z:List PV}{rows:Rows}{id ver off len:Nat}{y:PV}{K:PV→Nat→Row→Prop}{els l:List (List PV)}(hr:rows id=some ⟨ver,e',n,els⟩)(hl:off+len≤els.length)(hy:qS rows y l)(h1:∀e∈l,e.length=n)
  (hK:go (K (.int .i64 (min l.length len)) id ⟨ver,e',n,els.take off++l.take len++els.drop (off+min l.length len)⟩)):rB (.slice e n b z) rows (.own id ver off len) y K:=
 ⟨_,hr,rfl,rfl,hl,l,hy,h1,hK⟩
@[simp] theorem apf{E:Env}{p:PV}{eU:List PV}{rows:Rows}{K:PV→Nat→Row→Prop}:go (pO E p eU rows K)=pO E p eU rows K:=rfl
@[simp] theorem apg{E:Env}{g:FuncId}:u6 E (.fn g [])=E.HD g:=rfl
@[simp] theorem alA{E:Env}{g:FuncId}{x:PV}{l:List PV}:u6 E (.fn g (x::l))=false:=rfl
theorem xE{E:Env}{g:FuncId}{rest:List PV}{e:TypeId}{n:Nat}{core dY:List PV}{v:PV}{id ver:Nat}{rows:Rows}{K:PV→Nat→Row→Prop}(h:fO E.P g rest e n core dY v)(hp:rest.all dB=true)(hv:dB v=true)(hc:∀p∈core,bI p=true)(EC:∀p∈dY,bI p=true)
  (j5:rows id=some ⟨ver,e,n,[core]⟩) (hK:go (K v id ⟨ver,e,n,[dY]⟩)):pO E (.fn g []) (.ptr id ver 0 0::rest) rows K:=⟨v,id,_,⟨⟨rfl,rfl,hp,hv⟩,e,n,core,dY,j5,h,hc,EC,rfl⟩,hK⟩
theorem iY{P:Program}{g:FuncId}{rest:List PV}{e:TypeId}{n:Nat}{core dY:List PV}{v:PV}{id ver:Nat}{rows:Rows}{clk:Nat}{K:PV→Rows→Nat→Prop}(h:fO P g rest e n core dY v)(hp:rest.all dB=true)(hv:dB v=true)(hc:∀p∈core,bI p=true)(EC:∀p∈dY,bI p=true)
  (j5:rows id=some ⟨ver,e,n,[core]⟩) (hK:go (K v (dR rows id (some ⟨ver,e,n,[dY]⟩)) clk)):u7 P g (.ptr id ver 0 0::rest) rows clk K:=
 ⟨_,h.awR hp hv hc EC j5,by rintro r rows' gY ⟨rfl,rfl,rfl⟩;exact hK⟩
theorem abR{s:Tmp}{args:Array Operand}{ts:Array TypeId}:go (aM E ops clk k (⟨d, .call { callee:=.value (.tmp s),args:=args,argTypes:=ts },ty,pos,af,none⟩::os) K ⟨f,rows,bP,aK⟩) =
  if u6 E (f s)=true then pO E (f s) (args.toList.map (aO f)) (eC .any ops k aK rows) (fun v id r=>aH (yL .any ops k id bP) (aM E ops clk (k+1) os K ⟨put f d v,dR rows id (some r),iX k ((args.toList.map (aO f)).flatMap aT) bP,nM k id aK⟩))
  else pN E (f s) (args.toList.map (aO f)) (eC .any ops k aK rows) fun v=>aM E ops clk (k+1) os K ⟨put f d v,rows,bP,aK⟩:=FJ rfl
def sE(P:Program)(g:FuncId)(args:List PV)(c:Prop)(K:TypeId→Nat→List (List PV)→Prop):Prop:=∃e n els,(args.all dB=true∧lY P g args e n els∧c)∧K e n els
@[congr] theorem aeZ{P:Program}{g:FuncId}{args LC:List PV}{c c':Prop}{K:TypeId→Nat→List (List PV)→Prop}(h:args=LC)(hc:c=c'):sE P g args c K=sE P g LC c' K:=by rw [h,hc]
@[simp] theorem alB{P:Program}{g:FuncId}{args:List PV}{c:Prop}{K:TypeId→Nat→List (List PV)→Prop}:go (sE P g args c K)=sE P g args c K:=rfl
theorem abS{P:Program}{g:FuncId}{args:List PV}{c:Prop}{K:TypeId→Nat→List (List PV)→Prop}{e:TypeId}{n:Nat}{els:List (List PV)}(h:lY P g args e n els)(hp:args.all dB=true)(hc:c)(hK:go (K e n els)):sE P g args c K:=⟨e,n,els,⟨hp,h,hc⟩,hK⟩
theorem abT{g:FuncId}{args:Array Operand}{ts:Array TypeId}:go (aM E ops clk k (⟨d, .call { callee:=.value (.func g),args:=args,argTypes:=ts },ty,pos,af,none⟩::os) K ⟨f,rows,bP,aK⟩) =
  if E.writes g=true then sE E.P g (args.toList.map (aO f)) (yL .any ops k (d.getD 0) bP) (fun e n els=>aM E ops (clk+1) (k+1) os K ⟨put f d (.own (d.getD 0) clk 0 els.length),dR rows (d.getD 0) (some ⟨clk,e,n,els⟩),bP,nM k (d.getD 0) aK⟩)
  else if E.HD g=true then pO E (.fn g []) (args.toList.map (aO f)) (eC .any ops k aK rows) (fun v id r=>aH (yL .any ops k id bP) (aM E ops clk (k+1) os K ⟨put f d v,dR rows id (some r),iX k ((args.toList.map (aO f)).flatMap aT) bP,nM k id aK⟩))
  else pN E (.fn g []) (args.toList.map (aO f)) (eC .any ops k aK rows) fun v=>aM E ops clk (k+1) os K ⟨put f d v,rows,bP,aK⟩:=by
 split
 ·rename_i hw;exact QU hw
 ·rename_i hw;exact FJ (by simpa [dO]using hw)
theorem LX{g:FuncId}{bW:Array Operand}:go (aM E ops clk k (⟨d, .makeFunc (.func g) ⟨[]⟩ bW,ty,pos,af,none⟩::os) K ⟨f,rows,bP,aK⟩)=aH ((bW.toList.map fun x=>aO f x).all dB=true) (aM E ops clk (k+1) os K ⟨put f d (.fn g (bW.toList.map fun x=>aO f x)),rows,bP,aK⟩):=EO
theorem abU{op:Op}{j:Nat}{want:Bool}:go (aM E ops clk k (⟨d,op,ty,pos,af,some (j,want)⟩::os) K ⟨f,rows,bP,aK⟩)=pP (EP ops j) f want (aM E ops clk k (⟨d,op,ty,pos,af,none⟩::os) K ⟨f,rows,bP,aK⟩) (aM E ops clk (k+1) os K ⟨put f d (.dU []),rows,bP,aK⟩):=by
 rw [H0,←LK];rfl
theorem abV{σ:PS}:go (aL E ops [] K σ)=K σ:=rfl
theorem alC{st:ST}:go (aM E ops clk k [] K st)=go (K ⟨st.f,st.rows,clk⟩):=rfl
@[simp] theorem UD{s:Nat}:aO f (.tmp s)=f s:=rfl
@[simp] theorem arp{g:FuncId}:aO f (.func g) = .fn g []:=rfl
@[simp] theorem XU{v:Value}:aO f (.const v)=oE v:=rfl
end
@[simp] theorem alD{k:IntKind}{n:Int}:oE (.int k n) = .int k n:=rfl
@[simp] theorem aiT{b:Bool}:oE (.bool b) = .bool b:=rfl
@[simp] theorem Q0{s:ByteArray}:oE (.string s) = .str s:=rfl
@[simp] theorem aiU:oE (.pointer none) = .kW:=rfl
@[simp] theorem aiV:jJ (.pointer none) = .kW:=rfl
@[simp] theorem alE:oE (.slice none 0 0) = .nil:=rfl
@[simp] theorem alF{cs:List Value}:oE (.agg ⟨cs⟩) = .ag (cs.map jJ):=rfl
@[simp] theorem alG{k:IntKind}{n:Int}:jJ (.int k n) = .int k n:=rfl
@[simp] theorem aiW{b:Bool}:jJ (.bool b) = .bool b:=rfl
@[simp] theorem alH{s:ByteArray}:jJ (.string s) = .str s:=rfl
@[simp] theorem alI:jJ (.slice none 0 0) = .nil:=rfl
@[simp] theorem arq(R K:PV→Prop):go (aX R K)=aX R K:=rfl
@[simp] theorem ars(p:PV)(w:Bool)(A B:Prop):go (stepG p w A B)=stepG p w A B:=rfl
@[simp] theorem art(p:PV)(w:Bool)(A B:Prop):go (iR p w A B)=iR p w A B:=rfl
@[simp] theorem aru(A B:Prop):go (aH A B)=aH A B:=rfl
@[simp] theorem alJ(c:Prop)(len:Nat)(els:List (List PV))(K:List (List PV)→Prop):go (jF c len els K)=jF c len els K:=rfl
@[simp] theorem arv(P:Program)(g:FuncId)(l:List PV)(K:PV→Prop):go (vD P g l K)=vD P g l K:=rfl
@[simp] theorem alK(o:Option Row)(v:Nat)(K:Row→Prop):go (bR o v K)=bR o v K:=rfl
@[simp] theorem axs(l:List (List PV))(i:Nat)(K:List PV→Prop):go (FK l i K)=FK l i K:=rfl
@[simp] theorem axt(t:TI)(l:List PV)(j:Nat)(K:PV→Prop):go (yN t l j K)=yN t l j K:=rfl
@[simp] theorem aph(E:Env)(t:TypeId)(r:Rows)(p:PV)(K:PV→Prop):go (lF E t r p K)=lF E t r p K:=rfl
@[simp] theorem alL(t:TI)(i:Nat)(x:PV)(K:PV→Prop):go (kE t i x K)=kE t i x K:=rfl
@[simp] theorem avn(p:Nat × Nat × Bool)(l:List PV)(K:PV→Prop):go (HX p l K)=HX p l K:=rfl
@[simp] theorem arw(r:Rows)(x:PV)(K:PV→Prop):go (tL r x K)=tL r x K:=rfl
@[simp] theorem abW(t:TI)(r:Rows)(i:Nat)(x:PV)(K:PV→Prop):go (dV t r i x K)=dV t r i x K:=rfl
@[simp] theorem abX(t:TI)(r:Rows)(x y:PV)(K:PV→Prop):go (cN t r x y K)=cN t r x y K:=rfl
@[simp] theorem axu(d:Nat)(o:Option PV)(K:Nat→Prop):go (yP d o K)=yP d o K:=rfl
@[simp] theorem alM(t:TI)(r:Rows)(x:PV)(a b c:Option PV)(K:PV→Prop):go (gE t r x a b c K)=gE t r x a b c K:=rfl
@[simp] theorem arx(t:TI)(r:Rows)(x:PV)(K:PV→Prop):go (mF t r x K)=mF t r x K:=rfl
@[simp] theorem alN(E:Env)(t:TypeId)(r:Rows)(p x:PV)(K:Nat→Row→Prop):go (kF E t r p x K)=kF E t r p x K:=rfl
@[simp] theorem ary(r:Rows)(y:PV)(K:List (List PV)→Prop):go (kG r y K)=kG r y K:=rfl
@[simp] theorem arz(t:TI)(r:Rows)(x y:PV)(c d:Nat)(K:PV→Rows→Nat→Prop):go (q9 t r x y c d K)=q9 t r x y c d K:=rfl
@[simp] theorem arA(t:TI)(x y:PV)(K:TypeId→Nat→List PV→Int→Prop):go (qX t x y K)=qX t x y K:=rfl
@[simp] theorem api(E:Env)(p:PV)(l:List PV)(r:Rows)(clk:Nat)(K:PV→Rows→Nat→Prop):go (qY E p l r clk K)=qY E p l r clk K:=rfl
@[simp] theorem arB(P:Program)(g:FuncId)(l:List PV)(r:Rows)(clk:Nat)(K:PV→Rows→Nat→Prop):go (u7 P g l r clk K)=u7 P g l r clk K:=rfl
@[simp] theorem apj(E:Env)(p:PV)(l:List PV)(r:Rows)(K:PV→Prop):go (pN E p l r K)=pN E p l r K:=rfl
@[simp] theorem arC{fs:List (Nat × Nat × Bool)}{ps:List (Nat × PV)}{z:List PV}{K:List PV→Prop}:go (mY fs ps z K)=mY fs ps z K:=rfl
@[simp] theorem alO{t:TI}{ps:List (Nat × PV)}{K:PV→Prop}:go (lR t ps K)=lR t ps K:=rfl
@[simp] theorem apk{n k:Nat}{ps:List (Nat × PV)}{K:List (List PV)→Prop}:go (jO n k ps K)=jO n k ps K:=rfl
@[simp] theorem arD{t:TI}{rows:Rows}{len:Nat}{ps:List (Nat × PV)}{K:PV→Prop}:go (vF t rows len ps K)=vF t rows len ps K:=rfl
@[simp] theorem arE{i:Nat}{x:PV}{K:PV→Prop}:go (vG i x K)=vG i x K:=rfl
@[simp] theorem avo{α:Type}(o:Option α)(K:α→Prop):go (fY o K)=fY o K:=rfl
@[simp] theorem aAl{α:Type}(p:α→Prop):go (∃x,p x) = ∃x,go (p x):=rfl
@[simp] theorem arF:go False=False:=rfl
@[simp] theorem aAm{p:Prop}:go (go p)=go p:=rfl
@[simp] theorem aiX{t:PV}{K:PV→Prop}:aX (fun v=>v=t) K=go (K t):=kC
@[simp] theorem axv{t:PV}{K:PV→Prop}:aX (fun v=>t=v) K=go (K t):=XA
@[simp] theorem afT{B:Prop}:aH True B=go B:=QF
@[simp] theorem avp{len:Nat}{els:List (List PV)}{K:List (List PV)→Prop}:jF True len els K=go (K els):=HZ
@[simp] theorem aAn{A B:Prop}:stepG (.bool true) true A B=go A:=abi
@[simp] theorem aAo{A B:Prop}:stepG (.bool true) false A B=go B:=abj
@[simp] theorem aAp{A B:Prop}:stepG (.bool false) true A B=go B:=abk
@[simp] theorem aAq{A B:Prop}:stepG (.bool false) false A B=go A:=abl
@[simp] theorem aAr{w:Bool}{A B:Prop}:stepG (.dU []) w A B=go B:=abm
@[simp] theorem aAs{A B:Prop}:iR (.bool true) true A B=go A:=abf
@[simp] theorem aAt{A B:Prop}:iR (.bool true) false A B=go B:=abg
@[simp] theorem aAu{A B:Prop}:iR (.bool false) true A B=go B:=abh
@[simp] theorem aAv{A B:Prop}:iR (.bool false) false A B=go A:=abn
theorem gA{c B:Prop}(h:c):aH c B=go B:=by simp [aH,go,h]
attribute [simp] jU abe BS abo ak6 QG HU UC FQ afK abE arj H4 QY afL abF H5 H6 abG abH LS LU LW alp alq alr ER abI abJ als H7 XQ afM LV abK afN XR afS afO alu ark afP QZ afQ abL H8 H9 abM abN alv alw alx ES abO abP aly IA XS abR abT LX abU abV alC
attribute [simp] slT HE yun tC tR PA PC qX qY pN tB TI.known TI.size TI.zero TI.agg aa7 aa8 vC room
theorem ET{E:Env}{ops:List Oper}{K:PS→Prop}{f:Nat→PV}{rows:Rows}{clk:Nat}:gS E 0 ops K ⟨f,rows,clk⟩=aM E ops clk 0 ops K ⟨f,rows,fun _ _=>False,fun _ _=>False⟩:=by simp [gS]
@[simp] theorem apl{b:Bool}:dB (.bool b)=true:=rfl
@[simp] theorem alP{b:Bool}:bI (.bool b)=true:=rfl
@[simp] theorem apm{b:Bool}:aT (.bool b) = []:=rfl
@[simp] theorem apn{rows:Rows}{b:Bool}:iM rows (.bool b)=True:=rfl
@[simp] theorem aiY{b:Bool}:cE (.bool b)=some [.bool b]:=rfl
@[simp] theorem aiZ{b:Bool}:eY (.bool b)=some [.bool b]:=rfl
@[simp] theorem arG{k:IntKind}{n:Int}:dB (.int k n)=true:=rfl
@[simp] theorem apo{k:IntKind}{n:Int}:bI (.int k n)=true:=rfl
@[simp] theorem arH{k:IntKind}{n:Int}:aT (.int k n) = []:=rfl
@[simp] theorem arI{rows:Rows}{k:IntKind}{n:Int}:iM rows (.int k n)=True:=rfl
@[simp] theorem alQ{k:IntKind}{n:Int}:cE (.int k n)=some [.int k n]:=rfl
@[simp] theorem alR{k:IntKind}{n:Int}:eY (.int k n)=some [.int k n]:=rfl
@[simp] theorem arJ{s:ByteArray}:dB (.str s)=true:=rfl
@[simp] theorem apq{s:ByteArray}:bI (.str s)=true:=rfl
@[simp] theorem arK{s:ByteArray}:aT (.str s) = []:=rfl
@[simp] theorem arL{rows:Rows}{s:ByteArray}:iM rows (.str s)=True:=rfl
@[simp] theorem alS{s:ByteArray}:cE (.str s)=some [.str s]:=rfl
@[simp] theorem alT{s:ByteArray}:eY (.str s)=some [.str s]:=rfl
@[simp] theorem apr  : dB .kW=true:=rfl
@[simp] theorem alU  : bI .kW=true:=rfl
@[simp] theorem aps  : aT .kW = []:=rfl
@[simp] theorem apt  : dQ .kW = []:=rfl
@[simp] theorem avq{rows:Rows}:fz rows .kW = .kW:=rfl
@[simp] theorem avr{rows:Rows}:pz rows .kW = .kW:=rfl
@[simp] theorem apu{rows:Rows}  : iM rows .kW=True:=rfl
@[simp] theorem ai0  : cE .kW=some [.kW]:=rfl
@[simp] theorem ai1  : eY .kW=some [.kW]:=rfl
@[simp] theorem arM  : dB .nil=true:=rfl
@[simp] theorem apv  : bI .nil=true:=rfl
@[simp] theorem arN  : aT .nil = []:=rfl
@[simp] theorem arO{rows:Rows}  : iM rows .nil=True:=rfl
@[simp] theorem alV  : cE .nil=some [.nil]:=rfl
@[simp] theorem alW  : eY .nil=some [.nil]:=rfl
@[simp] theorem avs{l:List (List PV)}:dB (.sl l)=true:=rfl
@[simp] theorem arP{l:List (List PV)}:bI (.sl l)=true:=rfl
@[simp] theorem avt{l:List (List PV)}:aT (.sl l) = []:=rfl
@[simp] theorem avu{rows:Rows}{l:List (List PV)}:iM rows (.sl l)=True:=rfl
@[simp] theorem apw{l:List (List PV)}:cE (.sl l)=some [.sl l]:=rfl
@[simp] theorem apx{l:List (List PV)}:eY (.sl l)=some [.sl l]:=rfl
@[simp] theorem arQ{l:List (List PV)}:dB (.iK l)=true:=rfl
@[simp] theorem apy{l:List (List PV)}:bI (.iK l)=true:=rfl
@[simp] theorem arR{l:List (List PV)}:aT (.iK l) = []:=rfl
@[simp] theorem arS{rows:Rows}{l:List (List PV)}:iM rows (.iK l)=True:=rfl
@[simp] theorem alX{l:List (List PV)}:cE (.iK l)=some [.iK l]:=rfl
@[simp] theorem alY{l:List (List PV)}:eY (.iK l)=some [.iK l]:=rfl
@[simp] theorem afV{l:List PV}:dB (.rd l)=true:=rfl
@[simp] theorem abY{l:List PV}:bI (.rd l)=true:=rfl
@[simp] theorem afW{l:List PV}:aT (.rd l) = []:=rfl
@[simp] theorem avv{rows:Rows}{l:List PV}:iM rows (.rd l)=True:=rfl
@[simp] theorem apz{l:List PV}:cE (.rd l)=some [.rd l]:=rfl
@[simp] theorem apA{l:List PV}:eY (.rd l)=some [.rd l]:=rfl
@[simp] theorem avw{f:FuncId}{l:List PV}:dB (.fn f l)=true:=rfl
@[simp] theorem arT{f:FuncId}{l:List PV}:bI (.fn f l)=true:=rfl
@[simp] theorem avx{f:FuncId}{l:List PV}:aT (.fn f l) = []:=rfl
@[simp] theorem avy{rows:Rows}{f:FuncId}{l:List PV}:iM rows (.fn f l)=True:=rfl
@[simp] theorem apB{f:FuncId}{l:List PV}:cE (.fn f l)=some [.fn f l]:=rfl
@[simp] theorem apC{f:FuncId}{l:List PV}:eY (.fn f l)=some [.fn f l]:=rfl
@[simp] theorem avz{l:List PV}:dB (.ag l)=l.all bI:=rfl
@[simp] theorem arU{l:List PV}:dB (.dU l)=true:=rfl
@[simp] theorem apD{l:List PV}:cE (.ag l)=some l:=rfl
@[simp] theorem apE{l:List PV}:eY (.ag l)=some l:=rfl
@[simp] theorem arV{id v o l:Nat}:aT (.own id v o l) = [id]:=rfl
@[simp] theorem arW{id v o l:Nat}:aT (.ptr id v o l) = [id]:=rfl
@[simp] theorem alZ{id v o l:Nat}:cE (.own id v o l)=some [.own id v o l]:=rfl
@[simp] theorem al0{id v o l:Nat}:cE (.ptr id v o l)=some [.ptr id v o l]:=rfl
def rowAt(o:Option Row)(ver:Nat):Prop:=∃r,o=some r∧r.ver=ver
@[simp] theorem al1{r:Row}{ver:Nat}:rowAt (some r) ver=(r.ver=ver):=by simp [rowAt]
@[simp] theorem arX{rows:Rows}{id v o l:Nat}:iM rows (.own id v o l)=rowAt (rows id) v:=rfl
@[simp] theorem arY{rows:Rows}{id v o l:Nat}:iM rows (.ptr id v o l)=rowAt (rows id) v:=rfl
@[simp] theorem apF{e l:List PV}{j:Nat}:gZ [e] 0 j l = [e.take j++l++e.drop (j+l.length)]:=by simp [gZ]
@[simp] theorem apG{e:List PV}{n:Nat}:tM [e] 0 n=(n≤e.length):=by simp [tM]
@[simp] theorem apH{E:Env}{σ:PS}{t:Tmp}{rs:List ResultVar}{K:List PV→Prop}:mX E σ (.tmp t::rs) K=mX E σ rs fun vs=>K (σ.f t::vs):=rfl
@[simp] theorem apI{E:Env}{σ:PS}{K:List PV→Prop}:mX E σ [] K=K []:=rfl
@[simp] theorem al2{E:Env}{σ:PS}{a:Tmp}{t:TypeId}{rs:List ResultVar}{K:List PV→Prop}:mX E σ (.cell a t::rs) K=lF E t σ.rows (σ.f a) fun v=>mX E σ rs fun vs=>K (v::vs):=by
 show(∃v,tA E t σ.rows (σ.f a) v∧mX E σ rs fun vs=>K (v::vs))=_
 rw [←tX];rfl
@[simp] theorem afX{E:Env}{ops:List Oper}{K:PS→Prop}{f:Nat→PV}{rows:Rows}{clk:Nat}:go (gS E 0 ops K ⟨f,rows,clk⟩)=go (aM E ops clk 0 ops K ⟨f,rows,fun _ _=>False,fun _ _=>False⟩):=ET
theorem wrap_i64{n:Int}(h1 : -9223372036854775808≤n)(h2:n<9223372036854775808):IntKind.i64.wrap n=n:=by
 have e:IntKind.i64.wrap n=if n%18446744073709551616≥9223372036854775808 then n%18446744073709551616-18446744073709551616 else n%18446744073709551616:=by
  simp [IntKind.wrap,IntKind.bits,IntKind.signed]
 rw [e]
 split<;>omega
theorem wrap_u64{n:Int}(h1:0≤n)(h2:n<18446744073709551616):IntKind.u64.wrap n=n:=by
 simp only [IntKind.wrap,IntKind.bits,IntKind.signed,Bool.false_and,Bool.false_eq_true,if_false]
 omega
theorem wrap_u32{n:Int}(h1:0≤n)(h2:n<4294967296):IntKind.u32.wrap n=n:=by
 simp only [IntKind.wrap,IntKind.bits,IntKind.signed,Bool.false_and,Bool.false_eq_true,if_false]
 omega
theorem wA:(∀n:Int, -9223372036854775808≤n→n<9223372036854775808→IntKind.i64.wrap n=n)∧(∀n:Int,0≤n→n<18446744073709551616→IntKind.u64.wrap n=n)∧(∀n:Int,0≤n→n<4294967296→IntKind.u32.wrap n=n) ∧
  (∀a b:Int,0≤a→a.tdiv b=a/b)∧(∀a b:Int,0≤a→a.tmod b=a%b):=⟨fun _=>wrap_i64,fun _=>wrap_u64,fun _=>wrap_u32,fun _ _ h=>Int.tdiv_eq_ediv_of_nonneg h,fun _ _ h=>Int.tmod_eq_emod_of_nonneg h⟩
theorem gw:(∀ {c B:Prop},c→aH c B=go B)∧(∀n:Int, -9223372036854775808≤n→n<9223372036854775808→IntKind.i64.wrap n=n)∧(∀n:Int,0≤n→n<18446744073709551616→IntKind.u64.wrap n=n)∧(∀n:Int,0≤n→n<4294967296→IntKind.u32.wrap n=n) ∧
  (∀a b:Int,0≤a→a.tdiv b=a/b)∧(∀a b:Int,0≤a→a.tmod b=a%b):=⟨gA,wA⟩
theorem wrap_u8{n:Int}(h1:0≤n)(h2:n<256):IntKind.u8.wrap n=n:=by
 simp only [IntKind.wrap,IntKind.bits,IntKind.signed,Bool.false_and,Bool.false_eq_true,if_false]
 omega
theorem jV{n:Int}:IntKind.u64.wrap n=n%18446744073709551616:=by
 simp only [IntKind.wrap,IntKind.bits,IntKind.signed,Bool.false_and,Bool.false_eq_true,if_false]
 rfl
theorem wrap_u32'{n:Int}:IntKind.u32.wrap n=n%4294967296:=by
 simp only [IntKind.wrap,IntKind.bits,IntKind.signed,Bool.false_and,Bool.false_eq_true,if_false]
 rfl
section
variable {E:Env} {n:Nat} {tl:Nat→Nat} {Q:PX→PS→Prop} {σ:PS}
theorem W.cA{id:Nat}{ops:List Oper}(h:∀K:PS→Prop,(∀σ,Q .normal σ→K σ)→go (aL E ops ops K σ)):W E n tl (.region id ops.toArray false) Q σ:=W.K9 h
theorem W.LY{id:Nat}{ops:List Oper}(h:∀K:PS→Prop,(∀σ,Q .normal σ→K σ)→go (gS E (tl id) ops K σ)):W E n tl (.region id ops.toArray true) Q σ:=W.abb h
theorem W.eE{id:Nat}{ops:List Oper}{y:Code}(h:∀K:PS→Prop,(∀σ,W E n tl y Q σ→K σ)→go (aL E ops ops K σ)):W E n tl (.seq (.region id ops.toArray false) y) Q σ:=W.QE h
theorem W.abZ{id:Nat}{ops:List Oper}{y:Code}(h:∀K:PS→Prop,(∀σ,W E n tl y Q σ→K σ)→go (gS E (tl id) ops K σ)):W E n tl (.seq (.region id ops.toArray true) y) Q σ:=W.abc h
end
section
variable {E:Env} {n:Nat} {tl:Nat→Nat} {Q:PX→PS→Prop} {σ:PS}
theorem W.bE{c:Code}(I:Nat→PS→Prop)(k:Nat)(h0:∃σ0,Gh n σ σ0∧I k σ0)(h1:∀k σ,I k σ→W E n tl c (EJ (fun σ'=>∃m σ'',Gh n σ' σ''∧m<k∧I m σ'') Q) σ):W E n tl (.loop c) Q σ:=by
 obtain⟨σ0,hg,h0⟩:=h0
 refine W.ghost hg ?_
 refine W.loop (fun k σ=>∃σ',Gh n σ σ'∧I k σ') k ⟨σ0,fun _ _ _ _ _ h=>h,h0⟩ ?_
 rintro k σ ⟨σ',hg,hI⟩
 refine W.ghost hg (W.mono (h1 k σ' hI) fun x τ hx=>?_)
 cases x with
 | normal=>obtain⟨m,σ'',h2,h3,h4⟩:=hx;exact⟨m,h3,σ'',h2,h4⟩
 | exit id=>exact hx
 | ret=>exact hx
theorem Gh.refl:Gh n σ σ:=fun _ _ _ _ _ h=>h
theorem W.ab0{c:Operand}{t e:Code}(b:Prop)[Decidable b](hc:aO σ.f c = .bool (decide b))(h1:b→W E n tl t Q σ)(h2:¬b→W E n tl e Q σ):W E n tl (.cond c t e) Q σ:=W.cond ⟨_,hc,fun h=>h1 (of_decide_eq_true h),fun h=>h2 (of_decide_eq_false h)⟩
theorem W.ghf{f:Nat→PV}{rows:Rows}{clk:Nat}{c:Code}(l:List (Nat × PV))(hl:∀p∈l,f p.1=p.2)(h:W E n tl c Q ⟨fa l,rows,clk⟩):W E n tl c Q ⟨f,rows,clk⟩:=by
 have:=aB (f:=f) (rows:=rows) (clk:=clk) n (l.map (·.1))
 have e:((l.map (·.1)).map fun i=>(i,f i))=l:=by
  rw [List.map_map]
  conv=>rhs;rw [←List.map_id l]
  exact List.map_congr_left fun p hp=>by simp [hl p hp]
 rw [e]at this
 exact W.ghost this h
theorem Gh.fr{f:Nat→PV}{rows:Rows}{clk:Nat}(l:List (Nat × PV))(hl:∀p∈l,f p.1=p.2):Gh n ⟨f,rows,clk⟩ ⟨fa l,rows,clk⟩:=by
 have:=aB (f:=f) (rows:=rows) (clk:=clk) n (l.map (·.1))
 have e:((l.map (·.1)).map fun i=>(i,f i))=l:=by
  rw [List.map_map]
  conv=>rhs;rw [←List.map_id l]
  exact List.map_congr_left fun p hp=>by simp [hl p hp]
 rw [e]at this
 exact this
end
theorem cZ{E:Env}{yM:FuncId}{fn:Func}{code:Code}(tl:Nat→Nat){args:List PV}{r:PV}(l:List (Nat × PV))(h1:E.P.funcs[yM]? = some fn)(h2:fn.body=some code) (h3:(fn.name == "runtime.NumGoroutine") = false)
  (gO:eV E fn.ntmps tl code=true) (eQ:args.length≤fn.ntmps) (hl:∀p∈l,args.getD p.1 .undef=p.2) (h:W E fn.ntmps tl code (aa8 E fn.results.toList r) ⟨fa l,fun _=>none,0⟩):aF E.P yM args r:=
 abd tl h1 h2 h3 gO eQ (W.ghf l (by simpa using hl) h)
end Pm
namespace Pm
@[simp] theorem avB{a:Int}:Int.fdiv a 4294967296=a/4294967296:=Int.fdiv_eq_ediv_of_nonneg a (by decide)
@[simp] theorem avC{a:Int}:Int.fdiv a 9223372036854775808=a/9223372036854775808:=Int.fdiv_eq_ediv_of_nonneg a (by decide)
attribute [simp] Go.IntKind.bits
end Pm
namespace Pm
open Go Go.RowKit
section
variable {E:Env} {n:Nat} {tl:Nat→Nat} {Q:PX→PS→Prop} {σ:PS}
theorem W.iE{x y:Code}(J:PS→Prop)(h:W E n tl x (EJ (fun σ=>∃σ',Gh n σ σ'∧J σ') Q) σ)(hy:∀σ,J σ→W E n tl y Q σ):W E n tl (.seq x y) Q σ:=
 W.seq (W.mono h fun x σ hx=>by
  cases x with
  | normal=>obtain⟨σ',hg,hJ⟩:=hx;exact W.ghost hg (hy σ' hJ)
  | exit id=>exact hx
  | ret=>exact hx)
def Q3(J:PS→Prop)(Q:PX→PS→Prop):PX→PS→Prop
 | .normal,σ=>J σ
 | .exit id,σ=>Q (.exit id) σ
 | .ret,σ=>Q .ret σ
theorem W.eN{id:Nat}{x y:Code}(J:PS→Prop)(h:W E n tl x (EK id (Q3 (fun σ=>∃σ',Gh n σ σ'∧J σ') Q)) σ)(hy:∀σ,J σ→W E n tl y Q σ):W E n tl (.seq (.block id x) y) Q σ:=
 W.seq (W.block (W.mono h fun x σ hx=>by
  cases x with
  | normal=>obtain⟨σ',hg,hJ⟩:=hx;exact W.ghost hg (hy σ' hJ)
  | exit j =>
   simp only [EK]at hx ⊢
   split
   ·rename_i hj;rw [if_pos hj]at hx;obtain⟨σ',hg,hJ⟩:=hx;exact W.ghost hg (hy σ' hJ)
   ·rename_i hj;rw [if_neg hj]at hx;exact hx
  | ret=>exact hx))
theorem W.fA{id:Nat}{ops:List Oper}{y:Code}(J:PS→Prop)(h:∀K:PS→Prop,(∀σ σ',Gh n σ σ'→J σ'→K σ)→go (aL E ops ops K σ))(hy:∀σ,J σ→W E n tl y Q σ):W E n tl (.seq (.region id ops.toArray false) y) Q σ:=
 W.eE fun K hK=>h K fun σ _ hg hJ=>hK σ (W.ghost hg (hy _ hJ))
theorem W.ai2{id:Nat}{ops:List Oper}{y:Code}(J:PS→Prop)(h:∀K:PS→Prop,(∀σ σ',Gh n σ σ'→J σ'→K σ)→go (gS E (tl id) ops K σ))(hy:∀σ,J σ→W E n tl y Q σ):W E n tl (.seq (.region id ops.toArray true) y) Q σ:=
 W.abZ fun K hK=>h K fun σ _ hg hJ=>hK σ (W.ghost hg (hy _ hJ))
@[simp] theorem ai3{J:PS→Prop}:Q3 J Q .normal σ=J σ:=rfl
@[simp] theorem arZ{J:PS→Prop}:Q3 J Q .ret σ=Q .ret σ:=rfl
@[simp] theorem apJ{J:PS→Prop}{id:Nat}:Q3 J Q (.exit id) σ=Q (.exit id) σ:=rfl
@[simp] theorem ai4{J:PS→Prop}:EJ J Q .normal σ=J σ:=rfl
@[simp] theorem ar0{J:PS→Prop}:EJ J Q .ret σ=Q .ret σ:=rfl
@[simp] theorem apK{J:PS→Prop}{id:Nat}:EJ J Q (.exit id) σ=Q (.exit id) σ:=rfl
@[simp] theorem ai5{id:Nat}:EK id Q .normal σ=Q .normal σ:=rfl
@[simp] theorem ar1{id:Nat}:EK id Q .ret σ=Q .ret σ:=rfl
@[simp] theorem apL{id j:Nat}:EK id Q (.exit j) σ=if j=id then Q .normal σ else Q (.exit j) σ:=rfl
theorem pX:(∀(Q:PX→PS→Prop) (σ:PS) (id j:Nat),EK id Q (.exit j) σ=if j=id then Q .normal σ else Q (.exit j) σ)∧(∀(Q:PX→PS→Prop) (σ:PS) (id:Nat),EK id Q .normal σ=Q .normal σ)∧(∀(Q:PX→PS→Prop) (σ:PS) (id:Nat),EK id Q .ret σ=Q .ret σ) ∧
  (∀(J:PS→Prop) (Q:PX→PS→Prop) (σ:PS) (id:Nat),EJ J Q (.exit id) σ=Q (.exit id) σ)∧(∀(J:PS→Prop) (Q:PX→PS→Prop) (σ:PS),EJ J Q .normal σ=J σ)∧(∀(J:PS→Prop) (Q:PX→PS→Prop) (σ:PS),EJ J Q .ret σ=Q .ret σ) ∧
  (∀(J:PS→Prop) (Q:PX→PS→Prop) (σ:PS) (id:Nat),Q3 J Q (.exit id) σ=Q (.exit id) σ)∧(∀(J:PS→Prop) (Q:PX→PS→Prop) (σ:PS),Q3 J Q .normal σ=J σ)∧(∀(J:PS→Prop) (Q:PX→PS→Prop) (σ:PS),Q3 J Q .ret σ=Q .ret σ):=
 ⟨fun _ _ _ _=>rfl,fun _ _ _=>rfl,fun _ _ _=>rfl,fun _ _ _ _=>rfl,fun _ _ _=>rfl,fun _ _ _=>rfl,fun _ _ _ _=>rfl,fun _ _ _=>rfl,fun _ _ _=>rfl⟩
end
end Pm
namespace Pm
open Go
theorem ar2{P:Program}{g:FuncId}{eU:List PV}{rows:Rows}{clk:Nat}{K:PV→Rows→Nat→Prop}{R:PV→Rows→Nat→Prop}(h:KQ P g eU rows clk R)(hK:∀r rows' gY,R r rows' gY→go (K r rows' gY)):u7 P g eU rows clk K:=⟨R,h,hK⟩
theorem aC{P:Program}{g:FuncId}{args:List PV}{K:PV→Prop}{v:PV}(h:aF P g args v)(hK:go (K v)):vD P g args K:=⟨v,h,hK⟩
theorem W.ab3{E:Env}{n:Nat}{tl:Nat→Nat}{c:Code}{Q:PX→PS→Prop}{f:Nat→PV}{rows:Rows}{clk:Nat}(l:List Nat)(h:∀K:PS→Prop,(∀σ,W E n tl c Q σ→K σ)→K ⟨fa (l.map fun i=>(i,f i)),rows,clk⟩):W E n tl c Q ⟨f,rows,clk⟩:=W.live l (h _ fun _ h=>h)
theorem W.lv{E:Env}{n:Nat}{tl:Nat→Nat}{c:Code}{Q:PX→PS→Prop}{f:Nat→PV}{rows:Rows}{clk:Nat}{K0:PS→Prop}(l:List Nat)(hK:∀σ,W E n tl c Q σ→K0 σ)(h:∀K:PS→Prop,(∀σ,W E n tl c Q σ→K σ)→K ⟨fa (l.map fun i=>(i,f i)),rows,clk⟩):K0 ⟨f,rows,clk⟩:=hK _ (W.ab3 l h)
inductive Bx(P:PS→Prop):Type
  | mk
def aW{P:PS→Prop}(_:Bx P)(σ:PS):Prop:=P σ
theorem W.lw{E:Env}{n:Nat}{tl:Nat→Nat}{c:Code}{Q:PX→PS→Prop}{f:Nat→PV}{rows:Rows}{clk:Nat}{K0:PS→Prop}(l:List Nat)(hK:∀σ,W E n tl c Q σ→K0 σ)(h:aW (Bx.mk (P:=W E n tl c Q)) ⟨fa (l.map fun i=>(i,f i)),rows,clk⟩):K0 ⟨f,rows,clk⟩:=hK _ (W.ab3 l fun _ q=>q _ h)
theorem W.lx{E:Env}{n:Nat}{tl:Nat→Nat}{c:Code}{Q:PX→PS→Prop}{f:Nat→PV}{rows:Rows}{clk:Nat}(l:List Nat)(h:aW (Bx.mk (P:=W E n tl c Q)) ⟨fa (l.map fun i=>(i,f i)),rows,clk⟩):aW (Bx.mk (P:=W E n tl c Q)) ⟨f,rows,clk⟩:=W.ab3 l fun _ q=>q _ h
theorem W.sr{E:Env}{n:Nat}{tl:Nat→Nat}{Q:PX→PS→Prop}{σ:PS}{id:Nat}{ops:List Oper}{y:Code}(h:go (aL E ops ops (aW (Bx.mk (P:=W E n tl y Q))) σ)):W E n tl (.seq (.region id ops.toArray false) y) Q σ:=by
  refine W.seq ?_
  intro gO w0 S0 G a w Q' hR hQ
  simp only [eV,qW,Bool.and_eq_true]at gO
  refine wp_region_list (iC (fun σ' a' w' hk k8=>hQ .normal σ' a' w' hk k8) _ σ a w (fun o ho t ht=>?_) h hR)
  have:=Array.all_eq_true_iff_forall_mem.1 gO.1 o (by simpa using ho)
  simpa [ht]using this
theorem W.sd{E:Env}{n:Nat}{tl:Nat→Nat}{Q:PX→PS→Prop}{σ:PS}{id:Nat}{ops:List Oper}{y:Code}(h:go (gS E (tl id) ops (aW (Bx.mk (P:=W E n tl y Q))) σ)):W E n tl (.seq (.region id ops.toArray true) y) Q σ:=by
  refine W.seq ?_
  intro gO w0 S0 G a w Q' hR hQ
  exact tJ (by simpa [eV]using gO) h hR fun σ' a' w' hk k8=>hQ .normal σ' a' w' hk k8
end Pm
namespace Pm
open Go Go.RowKit
def Wk(p q:PV):Prop:=q=p∨(p = .nil∧q = .sl [])
theorem Wk.rep{c:Cx}{p q:PV}{v:Value}(h:Wk p q)(hr:aJ c p v):aJ c q v:=by
 rcases h with rfl | ⟨rfl,rfl⟩
 ·exact hr
 ·simp only [aJ,dC]at hr ⊢
  exact⟨none,0,by simpa using hr,by simp,by simp, .inl trivial⟩
theorem bB.flat{α β:Type}{R:α→β→Prop}:∀ {l:List (List α)} {m:List (List β)},bB (bB R) l m→bB R l.flatten m.flatten
 | [],[],_=>trivial
 | a::l,b::m,h=>by
  obtain⟨h1,h2⟩:=h
  have ih:=bB.flat h2
  clear h2
  induction a generalizing b with
  | nil=>cases b with
   | nil=>exact ih
   | cons=>exact h1.elim
  | cons x a iha=>cases b with
   | nil=>exact h1.elim
   | cons y b=>exact⟨h1.1,iha b h1.2⟩
theorem al3{n id ver e m clk:Nat}{f:Nat→PV}{rows:Rows}{els zK:List (List PV)}(hr:rows id=some ⟨ver,e,m,els⟩)(hw:bB (bB fun q p=>Wk p q) zK els):Gh n ⟨f,rows,clk⟩ ⟨f,dR rows id (some ⟨ver,e,m,zK⟩),clk⟩:=by
 rintro w0 S0 G a w ⟨⟨c,rfl,j5,gC,hI,hf,hG⟩,h7,h8⟩
 have j9:c.rows id=some ⟨ver,e,m,els⟩:=by rw [j5];exact hr
 obtain⟨⟨xs,g1,g2,g3⟩,g4,g5,g6⟩:=hI.row id _ j9
 have hlen:zK.length=els.length:=hw.length
 obtain⟨pL,hA⟩:=hI.dR (w':=c.w) (r':=⟨ver,e,m,zK⟩) (xs:=xs) j9 (World.grownBy.refl _ _) (by simp only [hlen];exact g1)
  (by
   have h1:=bB.flat hw
   have:∀ {l:List PV} {k:List PV} {vs:List Value},bB (fun q p=>Wk p q) l k→bB (aJ c) k vs→bB (aJ c) l vs:=by
    intro l
    induction l with
    | nil=>intro k vs h h';cases k with
     | nil=>exact h'
     | cons=>exact h.elim
    | cons x l ih=>intro k vs h h';cases k with
     | nil=>exact h.elim
     | cons y k=>cases vs with
      | nil=>exact h'.elim
      | cons v vs=>exact⟨h.1.rep h'.1,ih h.2 h'.2⟩
   exact this h1 g2) g3 (fun el mR=>by
   obtain⟨k,hk⟩:=List.getElem?_of_mem mR
   obtain⟨b,hb,h1⟩:=hw.get hk
   rw [h1.length]
   exact g4 b (List.mem_of_getElem? hb)) rfl rfl hlen
 refine⟨⟨{ c with rows:=dR c.rows id (some ⟨ver,e,m,zK⟩) },rfl,by simp [j5],gC,pL,fun s=>aG.s9 hA _ _ (hf s),fun p hp=>aG.s9 hA _ _ (hG p hp)⟩,h7,h8⟩
theorem al4{n s id e m clk:Nat}{f:Nat→PV}{rows:Rows}(hs:f s = .nil)(hm:0<m):Gh n ⟨f,rows,clk⟩ ⟨put f (some s) (.own id clk 0 0),dR rows id (some ⟨clk,e,m,[]⟩),clk+1⟩:=by
 rintro w0 S0 G a w ⟨⟨c,rfl,j5,gC,hI,hf,hG⟩,h7,h8⟩
 obtain⟨pL,hA⟩:=hI.set (w':=c.w) (ob:=none) (id:=id) (r':=⟨clk,e,m,[]⟩) (v':=.slice none 0 0) (xs:=[]) (World.grownBy.refl _ _) (by simp) ⟨by simp, .inl ⟨rfl,rfl⟩⟩ (by simp [bB]) (by simp) (by simp) hm (by simp [Value.ownBlock]) (fun hu=>Nat.lt_irrefl _ (gC _ hu))
 refine⟨⟨{ c with β:=dR c.β id (.slice none 0 0),rows:=dR c.rows id (some ⟨clk,e,m,[]⟩),used:=fun v=>v=clk∨c.used v },rfl,by simp [j5],fun v hv=>by
  show v<clk+1
  rcases hv with rfl | hv
  ·omega
  ·have:v<clk:=gC v hv
   omega,pL,fun t=>?_,fun p hp=>aG.s9 hA _ _ (hG p hp)⟩,h7,h8⟩
 simp only [put]
 split
 ·rename_i ht
  subst ht
  have h1:=hf t
  simp only at h1
  rw [hs]at h1
  simp only [aG,aJ,dC]at h1
  simp only [aG,aJ]
  refine⟨.inl (by first | rfl | trivial),fun r hr hv=>?_⟩
  simp only [fP,Option.some.injEq]at hr
  subst hr
  exact⟨by simp, .inl ⟨trivial,none,0,0,by simp [dR],h1⟩⟩
 ·exact aG.s9 hA _ _ (hf t)
theorem LZ{α β:Type}{R:α→β→Prop}{x:α}{y:β}(h:R x y):∀k:Nat,bB R (List.replicate k x) (List.replicate k y)
 | 0=>trivial
 | k+1=>⟨h,LZ h k⟩
section
variable {E:Env} {n:Nat} {tl:Nat→Nat} {Q:PX→PS→Prop} {c:Code} {f:Nat→PV} {rows:Rows} {clk:Nat}
theorem W.row{id ver e m:Nat}{els:List (List PV)}(zK:List (List PV))(hr:rows id=some ⟨ver,e,m,els⟩)(hw:bB (bB fun q p=>Wk p q) zK els)(h:W E n tl c Q ⟨f,dR rows id (some ⟨ver,e,m,zK⟩),clk⟩):W E n tl c Q ⟨f,rows,clk⟩:=W.ghost (al3 hr hw) h
theorem W.nil(s id e m:Nat)(hs:f s = .nil)(hm:0<m)(h:∀K:PS→Prop,(∀σ,W E n tl c Q σ→K σ)→K ⟨put f (some s) (.own id clk 0 0),dR rows id (some ⟨clk,e,m,[]⟩),clk+1⟩):W E n tl c Q ⟨f,rows,clk⟩:=W.ghost (al4 hs hm) (h _ fun _ h=>h)
end
def fzP(o:Option Row)(ver i j:Nat):PV:=
 match o with
 | some r=>if r.ver=ver then .rd ((r.els.getD i []).drop j)else .undef
 | none => .undef
@[simp] theorem axw{rows:Rows}{id ver i j:Nat}:fz rows (.ptr id ver i j)=fzP (rows id) ver i j:=rfl
@[simp] theorem axx{rows:Rows}{id ver i j:Nat}:pz rows (.ptr id ver i j)=fzP (rows id) ver i j:=rfl
@[simp] theorem avD{ver e n:Nat}{el:List PV}:fzP (some ⟨ver,e,n,[el]⟩) ver 0 0 = .rd el:=by simp [fzP]
@[simp] theorem ar3{id ver i j:Nat}:dQ (.ptr id ver i j) = [id]:=rfl
@[simp] theorem ai6{ver e n:Nat}{el:List PV}:cW (some ⟨ver,e,n,[el]⟩) = ∀p∈el,bI p=true:=by simp [cW]
end Pm
namespace Pm
open Go
theorem fR{E:Env}{m:Nat}{ops:List Oper}{K:PS→Prop}{f:Nat→PV}{rows:Rows}{clk:Nat}:go (gS E (m+1) ops K ⟨f,rows,clk⟩)=go (aM E ops clk 0 (ops.take (ops.length-(m+1))) (aL E ops (ops.drop (ops.length-(m+1))) K) ⟨f,rows,fun _ _=>False,fun _ _=>False⟩):=by
 simp [gS]
end Pm
namespace Pm
open Go Go.RowKit
def KF(rows:Rows)(id:Nat):PV→PV
 | .own i ver off len=>if i=id then fz rows (.own i ver off len)else .own i ver off len
 | .ptr i ver a j=>if i=id then fz rows (.ptr i ver a j)else .ptr i ver a j
 | p=>p
def IB(rows:Rows)(id:Nat):PV→PV
 | .ag l => .ag (l.map (KF rows id))
 | p=>KF rows id p
theorem IC{w0:World}{S0:dX}{c:Cx}(hI:Inv w0 S0 c){id:Nat}(hp:∀r,c.rows id=some r → ∀e∈r.els,∀p∈e,bI p=true){p:PV}{v:Value}(h:aJ c p v):aJ (D2 c [id]) (KF c.rows id p) v:=by
 have wY:∀i ∈ [id],∀r,c.rows i=some r → ∀e∈r.els,∀p∈e,bI p=true:=by intro i hi;simp at hi;subst hi;exact hp
 have key:∀q:PV,aJ c q v→(∀i∈aT q,i ∈ [id])→(fz c.rows q = .undef∨bI (fz c.rows q)=true)→aJ (D2 c [id]) (fz c.rows q) v:=by
  intro q hq hi ho
  rcases ho with ho | ho
  ·rw [ho];simp [aJ]
  ·exact aJ.jI (HJ hI wY hq hi ho)
 cases p with
 | own i ver off len =>
  simp only [KF]
  split
  ·rename_i hi
   subst hi
   refine key _ h (by simp [aT]) ?_
   simp only [fz]
   cases c.rows i with
   | none=>exact .inl rfl
   | some r =>
    simp only
    split
    ·exact .inr rfl
    ·exact .inl rfl
  ·exact aJ.s9 (mI c [id]) _ _ h
 | ptr i ver a j =>
  simp only [KF]
  split
  ·rename_i hi
   subst hi
   refine key _ h (by simp [aT]) ?_
   simp only [fz]
   cases c.rows i with
   | none=>exact .inl rfl
   | some r =>
    simp only
    split
    ·exact .inr rfl
    ·exact .inl rfl
  ·exact aJ.s9 (mI c [id]) _ _ h
 | _=>exact aJ.s9 (mI c [id]) _ _ h
theorem UE{w0:World}{S0:dX}{c:Cx}(hI:Inv w0 S0 c){id:Nat}(hp:∀r,c.rows id=some r → ∀e∈r.els,∀p∈e,bI p=true){p:PV}{v:Value}(h:aG c p v):aG (D2 c [id]) (IB c.rows id p) v:=by
 cases p with
 | ag l =>
  obtain⟨vs,h1,h2⟩:=h
  refine⟨vs,h1,bB.cS (by simp [h2.length]) fun k a b ha hb=>?_⟩
  simp at ha
  obtain⟨q,hq,rfl⟩:=ha
  obtain⟨b',j8,hr⟩:=h2.get hq
  rw [hb]at j8;cases j8
  exact IC hI hp hr
 | _ =>
  simp only [aG]at h
  have:=IC hI hp h
  simp only [IB]
  exact(by
   first
    | (simp only [KF,aG]at this ⊢;exact this)
    | (simp only [KF]at this ⊢
       split
       · rename_i hi;rw [if_pos hi]at this;simp only [fz]at this ⊢;revert this;split<;>(try split)<;>exact fun h=>h
       · rename_i hi;rw [if_neg hi]at this;exact this))
theorem FR{rows:Rows}{id:Nat}:IB rows id .undef = .undef:=rfl
theorem ab4{l:List (Nat × PV)}{g:PV→PV}(hg:g .undef = .undef):(fun s=>g (fa l s))=fa (l.map fun p=>(p.1,g p.2)):=by
 funext s
 induction l with
 | nil=>exact hg
 | cons p l ih =>
  obtain⟨i,v⟩:=p
  simp only [fa,List.map_cons]
  split
  ·rfl
  ·exact ih
theorem XV{n clk:Nat}{l:List (Nat × PV)}{rows:Rows}(id:Nat)(hp:cW (rows id)):Gh n ⟨fa l,rows,clk⟩ ⟨fa (l.map fun p=>(p.1,IB rows id p.2)),FC rows [id],clk⟩:=by
 rintro w0 S0 G a w ⟨⟨c,rfl,j5,gC,hI,hf,hG⟩,h7,h8⟩
 have ab5:c.rows=rows:=j5
 subst ab5
 refine⟨⟨D2 c [id],rfl,rfl,gC,hI.freeze [id],fun s=>?_,fun p hp=>aG.s9 (mI c [id]) _ _ (hG p hp)⟩,h7,h8⟩
 rw [←ab4 (g:=IB c.rows id) FR]
 exact UE hI hp (hf s)
theorem W.freeze{E:Env}{n:Nat}{tl:Nat→Nat}{Q:PX→PS→Prop}{c:Code}{l:List (Nat × PV)}{rows:Rows}{clk:Nat}(id:Nat)(hp:cW (rows id))(h:∀K:PS→Prop,(∀σ,W E n tl c Q σ→K σ)→K ⟨fa (l.map fun p=>(p.1,IB rows id p.2)),FC rows [id],clk⟩):W E n tl c Q ⟨fa l,rows,clk⟩:=W.ghost (XV id hp) (h _ fun _ h=>h)
@[simp] theorem avE{rows:Rows}{id i ver off len:Nat}:IB rows id (.own i ver off len)=if i=id then fzR (rows i) ver off len else .own i ver off len:=rfl
@[simp] theorem avF{rows:Rows}{id i ver a j:Nat}:IB rows id (.ptr i ver a j)=if i=id then fzP (rows i) ver a j else .ptr i ver a j:=rfl
@[simp] theorem avG{α:Type}{g:α→List PV}{rows:Rows}{id:Nat}{l:List α}:IB rows id (aN g l)=aN g l:=rfl
@[simp] theorem avH{rows:Rows}{id:Nat}{k:IntKind}{n:Int}:IB rows id (.int k n) = .int k n:=rfl
@[simp] theorem ar4{rows:Rows}{id:Nat}{b:Bool}:IB rows id (.bool b) = .bool b:=rfl
@[simp] theorem avI{rows:Rows}{id:Nat}:IB rows id .nil = .nil:=rfl
@[simp] theorem axy{rows:Rows}{id:Nat}{l:List (List PV)}:IB rows id (.sl l) = .sl l:=rfl
@[simp] theorem avJ{rows:Rows}{id:Nat}{l:List (List PV)}:IB rows id (.iK l) = .iK l:=rfl
@[simp] theorem axz{rows:Rows}{id:Nat}{l:List PV}:IB rows id (.ag l) = .ag (l.map (KF rows id)):=rfl
@[simp] theorem avK{rows:Rows}{id:Nat}{k:IntKind}{n:Int}:KF rows id (.int k n) = .int k n:=rfl
@[simp] theorem ar5{rows:Rows}{id:Nat}{b:Bool}:KF rows id (.bool b) = .bool b:=rfl
@[simp] theorem avL{rows:Rows}{id:Nat}:KF rows id .nil = .nil:=rfl
@[simp] theorem avM{α:Type}{g:α→List PV}{rows:Rows}{id:Nat}{l:List α}:KF rows id (aN g l)=aN g l:=rfl
theorem afZ{n s clk:Nat}{f:Nat→PV}{rows:Rows}(q:PV)(hs:f s = .nil)(hq:q = .sl []):Gh n ⟨f,rows,clk⟩ ⟨put f (some s) q,rows,clk⟩:=by
 rintro w0 S0 G a w ⟨⟨c,rfl,j5,gC,hI,hf,hG⟩,h7,h8⟩
 refine⟨⟨c,rfl,j5,gC,hI,fun t=>?_,hG⟩,h7,h8⟩
 simp only [put]
 split
 ·rename_i ht
  subst ht
  have h1:=hf t
  simp only at h1
  rw [hs]at h1
  subst hq
  simp only [aG]at h1 ⊢
  exact Wk.rep (.inr ⟨rfl,rfl⟩) h1
 ·exact hf t
theorem W.L0{E:Env}{n:Nat}{tl:Nat→Nat}{Q:PX→PS→Prop}{c:Code}{f:Nat→PV}{rows:Rows}{clk:Nat}(s:Nat)(q:PV)(hs:f s = .nil)(hq:q = .sl [])(h:∀K:PS→Prop,(∀σ,W E n tl c Q σ→K σ)→K ⟨put f (some s) q,rows,clk⟩):W E n tl c Q ⟨f,rows,clk⟩:=W.ghost (afZ q hs hq) (h _ fun _ h=>h)
theorem UF{c:Cx}{l:List (List PV)}{v:Value}(hr:aJ c (.iK l) v):aJ c (.sl l) v:=by
 simp only [aJ,dC]at hr ⊢
 obtain⟨a,h1,h2,h3⟩:=hr
 exact⟨a,l.length,h1,Nat.le_refl _,h2,h3⟩
theorem af0{n s clk:Nat}{f:Nat→PV}{rows:Rows}(l:List (List PV))(q:PV)(hs:f s = .iK l)(hq:q = .sl l):Gh n ⟨f,rows,clk⟩ ⟨put f (some s) q,rows,clk⟩:=by
 rintro w0 S0 G a w ⟨⟨c,rfl,j5,gC,hI,hf,hG⟩,h7,h8⟩
 refine⟨⟨c,rfl,j5,gC,hI,fun t=>?_,hG⟩,h7,h8⟩
 simp only [put]
 split
 ·rename_i ht
  subst ht
  have h1:=hf t
  simp only at h1
  rw [hs]at h1
  subst hq
  simp only [aG]at h1 ⊢
  exact UF h1
 ·exact hf t
theorem W.axA{E:Env}{n:Nat}{tl:Nat→Nat}{Q:PX→PS→Prop}{c:Code}{f:Nat→PV}{rows:Rows}{clk:Nat}(s:Nat)(l:List (List PV))(q:PV)(hs:f s = .iK l)(hq:q = .sl l)(h:∀K:PS→Prop,(∀σ,W E n tl c Q σ→K σ)→K ⟨put f (some s) q,rows,clk⟩):W E n tl c Q ⟨f,rows,clk⟩:=W.ghost (af0 l q hs hq) (h _ fun _ h=>h)
def B5(rows:Rows)(id:Nat):Option Row→Option Row
 | some r=>some { r with els:=r.els.map fun e=>e.map (KF rows id) }
 | none=>none
def EU(rows:Rows)(id:Nat):Rows:=fun j=>if j=id then none else B5 rows id (rows j)
@[simp] theorem avN{rows:Rows}{id j:Nat}:EU rows id j=if j=id then none else B5 rows id (rows j):=rfl
@[simp] theorem ai7{rows:Rows}{id v e n:Nat}{els:List (List PV)}:B5 rows id (some ⟨v,e,n,els⟩)=some ⟨v,e,n,els.map fun e=>e.map (KF rows id)⟩:=rfl
@[simp] theorem ai8{rows:Rows}{id:Nat}:B5 rows id none=none:=rfl
@[simp] theorem avO{rows:Rows}{id i ver off len:Nat}:KF rows id (.own i ver off len)=if i=id then fzR (rows i) ver off len else .own i ver off len:=rfl
@[simp] theorem avP{rows:Rows}{id i ver a j:Nat}:KF rows id (.ptr i ver a j)=if i=id then fzP (rows i) ver a j else .ptr i ver a j:=rfl
theorem Q4{n clk:Nat}{l:List (Nat × PV)}{rows:Rows}(id:Nat)(hp:cW (rows id)):Gh n ⟨fa l,rows,clk⟩ ⟨fa (l.map fun p=>(p.1,IB rows id p.2)),EU rows id,clk⟩:=by
 rintro w0 S0 G a w ⟨⟨c,rfl,j5,gC,hI,hf,hG⟩,h7,h8⟩
 have ab5:c.rows=rows:=j5
 subst ab5
 have KE:=hI.freeze [id]
 have live:∀ {j:Nat} {r':Row},EU c.rows id j=some r'→j≠id ∧ ∃r,c.rows j=some r∧r' = { r with els:=r.els.map fun e=>e.map (KF c.rows id) }:=by
  intro j r' h
  simp only [EU]at h
  split at h
  ·cases h
  ·rename_i hj
   cases hr:c.rows j with
   | none=>rw [hr]at h;cases h
   | some r=>rw [hr]at h;simp only [B5,Option.some.injEq]at h;exact⟨hj,r,rfl,h.symm⟩
 have hA:sX (D2 c [id]) { D2 c [id]with rows:=EU c.rows id }:=by
  refine⟨fun _ _ h=>h,fun _ _ _=>rfl,fun _ h=>h,fun j r' h=>?_⟩
  obtain⟨hj,r,hr,rfl⟩:=live h
  exact .inr ⟨r,by simp [D2,FC,hj,hr],rfl,rfl,by simp,rfl⟩
 have hI2:Inv w0 S0 { D2 c [id]with rows:=EU c.rows id }:=by
  refine⟨KE.below,KE.ext,KE.new,KE.lt0,fun j r' h=>?_,fun j r' h=>?_,fun i j r s g hr hs=>?_,KE.fin⟩
  ·obtain⟨hj,r,hr,rfl⟩:=live h
   exact hI.clock j r hr
  ·obtain⟨hj,r,hr,rfl⟩:=live h
   obtain⟨⟨xs,g1,g2,g3⟩,g4,g5,g6⟩:=hI.row j r hr
   obtain⟨_,_,f5,_⟩:=KE.row j r (by simp [D2,FC,hj,hr])
   refine⟨⟨xs,by rw [List.length_map];exact g1,?_,g3⟩,fun e he=>?_,f5,g6⟩
   ·show bB _ (List.flatten (r.els.map fun e=>e.map (KF c.rows id))) xs
    rw [←List.map_flatten]
    refine bB.cS (by rw [List.length_map];exact g2.length) fun k p u wY hu=>?_
    rw [List.getElem?_map]at wY
    obtain⟨q,hq,rfl⟩:=Option.map_eq_some_iff.1 wY
    obtain⟨u',WS,j9⟩:=g2.get hq
    rw [hu]at WS;cases WS
    exact aJ.s9 hA _ _ (IC hI hp j9)
   ·simp only [List.mem_map]at he
    obtain⟨e',qJ,rfl⟩:=he
    simpa using g4 e' qJ
  ·obtain⟨hi,r1,B6,rfl⟩:=live hr
   obtain⟨hj,r2,bS,rfl⟩:=live hs
   exact hI.apart i j r1 r2 g B6 bS
 refine⟨⟨{ D2 c [id]with rows:=EU c.rows id },rfl,rfl,gC,hI2,fun s=>?_,fun p hp=>aG.s9 hA _ _ (aG.s9 (mI c [id]) _ _ (hG p hp))⟩,h7,h8⟩
 show aG _ (fa (l.map fun p=>(p.1,IB c.rows id p.2)) s) _
 rw [←ab4 (g:=IB c.rows id) FR]
 exact aG.s9 hA _ _ (UE hI hp (hf s))
theorem W.UG{E:Env}{n:Nat}{tl:Nat→Nat}{Q:PX→PS→Prop}{c:Code}{l:List (Nat × PV)}{rows:Rows}{clk:Nat}(id:Nat)(hp:cW (rows id))(h:∀K:PS→Prop,(∀σ,W E n tl c Q σ→K σ)→K ⟨fa (l.map fun p=>(p.1,IB rows id p.2)),EU rows id,clk⟩):W E n tl c Q ⟨fa l,rows,clk⟩:=W.ghost (Q4 id hp) (h _ fun _ h=>h)
end Pm

namespace Pm
open Go
theorem bG(l:List Nat){E:Env}{n:Nat}{tl:Nat→Nat}{c:Code}{Q:PX→PS→Prop}{f:Nat→PV}{rows:Rows}{clk:Nat}{X:Prop}(hX:X)(h:X→aW (Bx.mk (P:=W E n tl c Q)) ⟨fa (l.map fun i=>(i,f i)),rows,clk⟩:=by intro hX;simp;exact hX):aW (Bx.mk (P:=W E n tl c Q)) ⟨f,rows,clk⟩:=W.lx l (h hX)
theorem jG{X G:Prop}(hX:X)(h:X→G:=by intro hX;refine W.sr ?_;simp (disch:=omega) [gw];exact hX):G:=h hX
theorem nK{X G:Prop}(hX:X)(h:X→G:=by intro hX;refine W.sd ?_;simp (disch:=omega) [gw];exact hX):G:=h hX
theorem cU{P X G:Prop}(hP:P)(hX:X)(h:P→X→G:=by intro hP hX;refine aC hP ?_;simp (disch:=omega) [gw];exact hX):G:=h hP hX
section
variable (l:List Nat) {E:Env} {n:Nat} {tl:Nat→Nat} {c:Code} {Q:PX→PS→Prop} {f:Nat→PV} {rows:Rows} {clk:Nat} {P X G:Prop}
theorem aA(hX:X)(h1:aW (Bx.mk (P:=W E n tl c Q)) ⟨f,rows,clk⟩→G:=by intro hY;refine W.sr ?_;simp (disch:=omega) [gw];exact hY)(h2:X→aW (Bx.mk (P:=W E n tl c Q)) ⟨fa (l.map fun i=>(i,f i)),rows,clk⟩:=by intro hX;simp;exact hX):G:=h1 (W.lx l (h2 hX))
theorem aP(hX:X)(h1:aW (Bx.mk (P:=W E n tl c Q)) ⟨f,rows,clk⟩→G:=by intro hY;refine W.seq ?_;refine W.sr ?_;simp (disch:=omega) [gw];exact hY)(h2:X→aW (Bx.mk (P:=W E n tl c Q)) ⟨fa (l.map fun i=>(i,f i)),rows,clk⟩:=by intro hX;simp;exact hX):G:=h1 (W.lx l (h2 hX))
theorem bV(hX:X)(h1:aW (Bx.mk (P:=W E n tl c Q)) ⟨f,rows,clk⟩→G:=by intro hY;refine W.sr ?_;simp (disch:=omega) [gw];exact hY)(h2:X→aW (Bx.mk (P:=W E n tl c Q)) ⟨fa (l.map fun i=>(i,f i)),rows,clk⟩:=by intro hX;simp;refine W.seq ?_;exact hX):G:=h1 (W.lx l (h2 hX))
theorem aR(hP:P)(hX:X)(h1:P→aW (Bx.mk (P:=W E n tl c Q)) ⟨f,rows,clk⟩→G:=by intro hP hY;refine W.sr ?_;simp (disch:=omega) [gw];refine aC hP ?_;simp (disch:=omega) [gw];exact hY)(h2:X→aW (Bx.mk (P:=W E n tl c Q)) ⟨fa (l.map fun i=>(i,f i)),rows,clk⟩:=by intro hX;simp;exact hX):G:=h1 hP (W.lx l (h2 hX))
theorem cQ(hP:P)(hX:X)(h1:P→aW (Bx.mk (P:=W E n tl c Q)) ⟨f,rows,clk⟩→G:=by intro hP hY;refine aC hP ?_;simp (disch:=omega) [gw];exact hY)(h2:X→aW (Bx.mk (P:=W E n tl c Q)) ⟨fa (l.map fun i=>(i,f i)),rows,clk⟩:=by intro hX;simp;exact hX):G:=h1 hP (W.lx l (h2 hX))
end
theorem bJ{X Y G:Prop}(hX:X)(hY:Y)(h:X→Y→G:=by intro hX hY;refine W.cond ⟨_,rfl,?_,?_⟩;exact hX;exact hY):G:=h hX hY
theorem fH{X G:Prop}(hX:X)(h:X→G:=by intro hX;refine W.exit ?_;simp only [pX,if_true,if_false,reduceIte,Nat.reduceEqDiff];exact hX):G:=h hX
theorem cC{G:Prop}(h:G:=by refine W.ret ?_;simp [go]):G:=h
theorem kY{X G:Prop}(hX:X)(h:X→G:=by intro hX;refine W.skip ?_;refine W.seq ?_;refine W.block ?_;exact hX):G:=h hX
end Pm
